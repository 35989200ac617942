/- Part 3: framework, functions, plain laws. -/
import Derived.Test.YtjkijdhdbhooiaaGreatQ2
import Derived.RangeFuncNested
import Derived.Scope
set_option linter.all false
noncomputable section
namespace Go.Pm
variable [aJ]
open Go.RowKit (Below)
def V4(h h':Fz):Prop:=∀b o,h b=some o->(∃C ty fr,o=.fz (.cells C ty fr))->h' b=some o
theorem jV.c{h h':Fz}(hl:jV h h'):V4 h h':=λb o hb _=>hl b o hb
section
variable{P:Program}{Γ:bU}{nt B:Nat}{w0:World}{h0:Fz}{g:Gh}{σ:St}{a:Act}{w:World}{r:Option Nat}{n i:Nat}{Q:Exit->Act->World->Prop}
abbrev Gh.re(g:Gh)(h:Fz):Gh:=⟨h,g.bk,g.sv,g.iv⟩
theorem zhS{h:Fz}(hl:V4 g.h h){c:Cl}{x:Value}(hc:jg g c x):jg (g.re h) c x:=by
 cases c with
 | p v=>exact Rep.mono' hl hc
 | clo f caps=>obtain⟨cv,e,hr⟩:=hc;exact⟨cv,e,qX (λ_ _ hp=>Rep.mono' hl hp) (λ_ _=>rfl) hr⟩
 | _=>exact hc
theorem ztE{h:Fz}(hl:V4 g.h h):∀{cs:List Cl}{vs:List Value},RL (jg g) cs vs->RL (jg (g.re h)) cs vs:=λhc=>hc.mono λ_ _=>zhS hl
theorem zhT{h:Fz}(hl:V4 g.h h){d:D1}{x:Value}(hd:AA g d x):AA (g.re h) d x:=by
 cases d with
 | c y=>exact zhS hl hd
 | agg cs=>obtain⟨vs,rfl,hr⟩:=hd;exact⟨vs,rfl,ztE hl hr⟩
theorem ZQ{h:Fz}(hl:V4 g.h h){d:DV}{x:Value}(hd:rH g d x):rH (g.re h) d x:=by
 cases d with
 | one y=>exact zhT hl hd
 | tup ds=>obtain⟨vs,rfl,hr⟩:=hd;exact⟨vs,rfl,hr.mono λ_ _=>zhT hl⟩
theorem ZR{h:Fz}(hl:V4 g.h h){L:Nat}{o:AO}(ho:NZ P g w B L o):NZ P (g.re h) w B L o:=by
 cases o with
 | box ty cs=>obtain⟨C,hC,hr⟩:=ho;exact⟨C,hC,ztE hl hr⟩
 | fbox cs=>obtain⟨C,ty,fr,hC,hr⟩:=ho;exact⟨C,ty,fr,hl _ _ hC ⟨_,_,_,rfl⟩,hr.mono λ_ _=>Rep.mono' hl⟩
 | vec e s b n get=>obtain⟨h1,h2,xs,hx,hr⟩:=ho;exact⟨h1,h2,xs,hx,λi hi=>(hr i hi).mono λ_ _=>Rep.mono' hl⟩
 | fvec s n get=>exact⟨Rep.mono' hl ho.1,ho.2⟩
 | vv te bb e s b n ln get =>
  obtain⟨h1,h2,h3,h4,h5,h6⟩:=ho;exact⟨h1,h2,h3,h4,λi hi=>by obtain⟨h7,h70,xs,hx,hr⟩:=h5 i hi;exact⟨h7,h70,xs,hx,λj hj=>(hr j hj).mono λ_ _=>Rep.mono' hl⟩,h6⟩
 | vt te bb e s b n ln get o =>
  obtain⟨h1,h2,h3,h4,h41,h42,h5,h6⟩:=ho;exact⟨h1,h2,h3,h4,h41,h42,λi hi ho=>by obtain⟨h7,h70,xs,hx,hr⟩:=h5 i hi ho;exact⟨h7,h70,xs,hx,λj hj=>(hr j hj).mono λ_ _=>Rep.mono' hl⟩,h6⟩
 | mo kt vt q n F=>exact ho
 | gone=>trivial
def Fz.add(h:Fz)(b:Nat)(o:Obj):Fz:=λk=>if k=b then some (.fz o)else h k
def Fz.del(h:Fz)(b:Nat):Fz:=λk=>if k=b then none else h k
theorem Fz.add_same{h:Fz}{b:Nat}{o:Obj}:h.add b o b=some (.fz o):=eX rfl
theorem Fz.add_other{h:Fz}{b k:Nat}{o:Obj}(hk:k≠b):h.add b o k=h k:=fB hk
theorem Fz.del_same{h:Fz}{b:Nat}:h.del b b=none:=eX rfl
theorem Fz.del_other{h:Fz}{b k:Nat}(hk:k≠b):h.del b k=h k:=fB hk
theorem Fz.le_add{h:Fz}{b:Nat}{o:Obj}(hb:h b=none):jV h (h.add b o):=λk x hk=>by
 rw[Fz.add_other (λe=>by subst e;rw[hb]at hk;cases hk)];exact hk
theorem cO.hide(S:cO P nt B w0 h0 g σ a w){b:Nat}{o:Obj}(hb:g.h b=none)(hw:w.heap[b]? = some o)(hB:B≤b)(ww:∀L o,lk σ.aB L=some o→¬gW g L o b) :
  cO P nt B w0 (h0.add b o) (g.re (g.h.add b o)) σ a w:=by
 have hle:=Fz.le_add (o:=o) hb;have Qm:h0 b=none:=by
  cases h:h0 b with
  | none=>rfl
  | some x=>rw[S.le0 b x h]at hb;cases hb
 refine⟨S.dfr.mono hle,S.size,λt d ht=>ZQ hle.c (S.env t d ht),λL x hL=>ZR hle.c (S.obj L x hL),λL x k hL hk=>?_,S.sep,?_,?_,?_,?_,S.bs,S.clE,S.clO⟩
 ·obtain⟨h1,h2⟩:=S.own L x k hL hk;refine⟨h1,?_⟩;show g.h.add b o k=none;rw[Fz.add_other (λe=>ww L x hL (by rw[<- e];exact hk))];exact h2
 ·intro k x hk;by_cases h:k=b
  ·subst h;have hk:g.h.add k o k=some x:=hk;rw[Fz.add_same]at hk;simp only[bW]at hk;subst hk;exact⟨o,hw,rfl⟩
  ·have hk:g.h.add b o k=some x:=hk;rw[Fz.add_other h]at hk;exact S.hw k x hk
 ·intro k x hk;show g.h.add b o k=some x;by_cases h:k=b
  ·subst h;rw[Fz.add_same]at hk ⊢;exact hk
  ·rw[Fz.add_other h]at hk ⊢;exact S.le0 k x hk
 ·intro k x hk;have hk:g.h.add b o k=some x:=hk;by_cases h:k=b
  ·exact .inr (h▸hB)
  ·rw[Fz.add_other h]at hk ⊢;exact S.hn k x hk
 ·exact⟨S.below.os,S.below.tape,S.below.output,S.below.size,S.below.drawn,λk hk=>S.below.block k hk⟩
theorem cO.unhide{b:Nat}{o:Obj}(S:cO P nt B w0 (h0.add b o) g σ a w)(hB:B≤b)(Qm:h0 b=none)(hc:o.isCells=false)(hm:∀ds,o ≠ .deferred ds) :
  g.h b=some (.fz o)/\(∀L x,lk σ.aB L=some x->¬gW g L x b)/\w.heap[b]? = some o/\cO P nt B w0 h0 (g.re (g.h.del b)) σ a w:=by
 have hb:g.h b=some (.fz o):=S.le0 b _ Fz.add_same;have hl:V4 g.h (g.h.del b):=λk x hk hx=>by
  rw[Fz.del_other];exact hk;intro e;subst e;rw[hb]at hk;simp only[bW]at hk;subst hk;obtain⟨C,ty,fr,hx⟩:=hx;cases hx;cases hc
 have hwb:w.heap[b]? = some o:=S.hw.fz hb;refine⟨hb,(λL x hL hk=>by(have:=(S.own L x b hL hk).2;rw[hb]at this;cases this)),hwb,?_⟩;refine⟨?_,S.size,λt d ht=>ZQ hl (S.env t d ht),λL x hL=>ZR hl (S.obj L x hL),λL x k hL hk=>?_,S.sep,?_,?_,?_,?_,S.bs,S.clE,S.clO⟩
 ·obtain⟨Ds,h1,h2,h3,h4⟩:=S.dfr;refine⟨Ds,h1,h2,λD hD=>⟨(h3 D hD).1,?_⟩,h4⟩;show g.h.del b D=_;rw[Fz.del_other];exact(h3 D hD).2;intro e;subst e;have:=(h3 D hD).2;rw[hb]at this;simp only[bW,U6.fz.injEq]at this;exact hm _ this
 ·obtain ⟨h1, h2⟩ := S.own L x k hL hk;refine⟨h1,?_⟩;show g.h.del b k=none;unfold Fz.del;split
  ·rfl
  ·exact h2
 ·intro k x hk;have hk:g.h.del b k=some x:=hk;unfold Fz.del at hk;split at hk
  ·cases hk
  ·exact S.hw k x hk
 ·intro k x hk;have hkb:k ≠ b:=λ e=>by subst e;rw[Qm] at hk;cases hk
  show g.h.del b k=some x;rw[Fz.del_other hkb];exact S.le0 k x (by rw[Fz.add_other hkb];exact hk)
 ·intro k x hk;have hk:g.h.del b k=some x:=hk;by_cases h:k=b
  ·exact .inr (h▸hB)
  ·rw [Fz.del_other h] at hk;rcases S.hn k x hk with h1 | h1
   ·rw[Fz.add_other h]at h1;exact .inl h1
   ·exact .inr h1
 ·exact⟨S.below.os,S.below.tape,S.below.output,S.below.size,S.below.drawn,λk hk=>S.below.block k hk⟩
theorem cO.putObj(S:cO P nt B w0 h0 g σ a w){b:Nat}(o:Obj)(hb:g.h b=none)(hB:B<=b)(ww:∀L x,lk σ.aB L=some x->¬gW g L x b):cO P nt B w0 h0 g σ a (w.putObj b o):=by
  have ja:∀k,k≠b->(w.putObj b o).heap[k]? = w.heap[k]?:=λk hk=>World.putObj_heap_other hk
  refine S.change (g' := g) (AB := σ.aB) (fun L _ _ => jb.refl g L) (fun _ _ h => h) (S.hw.same fun k x hk => ja k fun e => by subst e; rw [hb] at hk; cases hk) (fun _ _ h => .inl h)
    ⟨rfl,rfl,rfl,by simp,kC _,λk hk=>ja k omY⟩ ?_ S.own S.sep (λL o h=>⟨o,h⟩) S.clO
  intro L x hL;exact jS (S.obj L x hL) (jb.refl g L) (λM _=>jb.refl g M) (λ_ _ h=>h) λk hk=>ja k λe=>by subst e;exact ww L x hL hk
theorem cO.act(S:cO P nt B w0 h0 g σ a w){a':Act}(hd:Marks P B g.h a'.defers)(hs:nt<=a'.tmps.size)(he:∀t d,lk σ.env t=some d->rH g d (a'.tmps.getD t undef)):cO P nt B w0 h0 g σ a' w :=
 ⟨hd,hs,he,S.obj,S.own,S.sep,S.hw,S.le0,S.hn,S.below,S.bs,S.clE,S.clO⟩
theorem cO.envs(S:cO P nt B w0 h0 g σ a w){env:List (Nat×DV)}(he:∀t d,lk env t=some d→rH g d (a.tmps.getD t undef))(hl:∀t d,lk env t=some d→∀L∈df d,∃o,lk σ.aB L=some o)
    (l:List (Nat×Nat×Nat)):cO P nt B w0 h0 g ⟨env,σ.aB,l⟩ a w :=
  ⟨S.dfr,S.size,he,S.obj,S.own,S.sep,S.hw,S.le0,S.hn,S.below,S.bs,hl,S.clO⟩
theorem fold_size : ∀ (l : List (Nat × Value)) (t : Array Value), (l.foldl (fun t (p, v) => t.setIfInBounds p v) t).size = t.size
  | [],t=>rfl
  | (p,v)::l,t=>by rw[YC,fold_size l];simp
theorem Lu : ∀ (l : List (Nat × Value)) (t : Array Value) (k : Nat), (∀ x ∈ l, x.1 ≠ k) → (l.foldl (fun t (p, v) => t.setIfInBounds p v) t).getD k undef = t.getD k undef
  | [],t,k,_=>rfl
  | (p,v)::l,t,k,h=>by
    rw[YC,Lu l _ k λx hx=>h x (jU _ hx)];have hp:p≠k:=h (p,v) lq;simp[xX,qdQ hp]
theorem zb1(nt0:Nat):∀(ps:List Nat)(ys:List PA)(us:List Value)(e env:List (Nat×DV))(t:Array Value),qC ps ys e=some env->RL (nU g.h) ys us->(∀p∈ps,p<t.size) ->
  (∀k d,lk e k=some d->rH g d (t.getD k undef)) ->
  us.length=ps.length/\∀k d,lk env k=some d->rH g d (((ps.zip us).foldl (λt (p,v)=>t.setIfInBounds p v) t).getD k undef)
 | [],[],us,e,env,t,h,hr,_,he=>by
  simp only[qC,bW]at h;subst h;cases us with
  | nil=>exact⟨rfl,he⟩
  | cons=>exact hr.elim
 | p::ps,y::ys,[],e,env,t,h,hr,_,he=>hr.elim
 | p::ps,y::ys,u::us,e,env,t,h,hr,hp,he=>by
  simp only[qC]at h;have iC:=hp p lq;obtain⟨h1,h2⟩:=zb1 nt0 ps ys us _ env (t.setIfInBounds p u) h hr.2 (λq hq=>by have:=hp q (jU _ hq);simpa using this) (λk d hk=>by
   rw[aZ]at hk;split at hk
   ·rename_i e1;simp only[bW]at hk;subst hk;subst e1;rw[show(t.setIfInBounds p u).getD p undef=u by simp[xX,iC]];exact KL hr.1
   ·rename_i e1;have:=he k d hk;rw[show(t.setIfInBounds p u).getD k undef=t.getD k undef by simp[xX,qdQ e1]];exact this)
  exact⟨by simp[h1],h2⟩
 | [],_::_,_,_,_,_,h,_,_,_=>by simp[qC]at h
 | _::_,[],_,_,_,_,h,_,_,_=>by simp[qC]at h
theorem Qn:∀(ps:List Nat)(ys:List PA)(e env:List (Nat×DV)),qC ps ys e=some env→∀k d,lk env k=some d→lk e k=some d∨df d=[]
  | [],[],e,env,h,k,d,hk=>by simp only[qC,bW]at h;subst h;exact .inl hk
  | p::ps,y::ys,e,env,h,k,d,hk=>by
    simp only[qC]at h;rcases Qn ps ys _ env h k d hk with h1|h1
    · rw [aZ] at h1;split at h1
      · simp only[bW]at h1;subst h1;exact .inr (wK y)
      · exact .inl h1
    · exact .inr h1
  | [],_::_,_,_,h,_,_,_=>by simp[qC]at h
  | _::_,[],_,_,h,_,_,_=>by simp[qC]at h
theorem cO.up(S:cO P nt B w0 h0 g σ a w):cO P nt B w0 g.h g σ a w :=
 ⟨S.dfr,S.size,S.env,S.obj,S.own,S.sep,S.hw,λ_ _ h=>h,λ_ _ h=>.inl h,
  ⟨S.below.os,S.below.tape,S.below.output,S.below.size,S.below.drawn,λk hk=>S.below.block k hk⟩,S.bs,S.clE,S.clO⟩
theorem cO.down{h1:Fz}(S:cO P nt B w0 h1 g σ a w)(hl:jV h0 h1)(hn:∀b o,h1 b=some o->h0 b=some o\/B<=b):cO P nt B w0 h0 g σ a w :=
 ⟨S.dfr,S.size,S.env,S.obj,S.own,S.sep,S.hw,λb o h=>S.le0 b o (hl b o h),λb o h=>by
   rcases S.hn b o h with h|h
   ·exact hn b o h
   ·exact .inr h,
  ⟨S.below.os,S.below.tape,S.below.output,S.below.size,S.below.drawn,λk hk=>S.below.block k hk⟩,S.bs,S.clE,S.clO⟩
theorem ZT{k:Keep}{σ s:St}(h:yI P k σ=some s):∀t d,lk s.env t=some d->t∈k.tmps:=by
 unfold yI at h;split at h
 ·cases h
 split at h
 ·cases h
 split at h
 ·cases h
 simp only[]at h;split at h
 ·simp only [bW]at h;subst h;intro t d ht;obtain⟨_,_,_,h1⟩:=lF ht;exact h1
 ·cases h
theorem znL{k a b e:Nat}{σ:St}:∀t d,lk (nf1 P k a b e σ).env t=some d->∃d',lk σ.env t=some d':=by
 have key:∀x y,lk σ.env a=some y->∀t d,lk (Zg a x σ.env) t=some d->∃d',lk σ.env t=some d':=by
  intro x y hy t d ht;rw[Dk ⟨y,hy⟩,aZ]at ht;split at ht
  ·rename_i e;exact⟨y,e▸hy⟩
  ·exact⟨d,ht⟩
 unfold nf1
 repeat' split
 all_goals first
  | exact λt d ht=>⟨d,ht⟩
  | exact key _ _ (by assumption)
theorem H9:∀{l:List (Nat×Nat×Nat×Nat)}{σ:St},∀t d,lk (I8 P l σ).env t=some d→∃d',lk σ.env t=some d'
  | [],_,_,d,ht=>⟨d,ht⟩
  | (_,_,_,_)::l,_,t,d,ht=>by
    obtain⟨d',h2⟩:=H9 (l:=l) t d ht;exact znL t d' h2
theorem FV{k:Keep}{σ s:St}(h:canon P k σ=some s):∀t d,lk s.env t=some d->t∈k.tmps:=by
 unfold canon at h;split at h
 ·split at h
  ·rename_i s1 h1;intro t d ht;cases h;obtain⟨d',h2⟩:=H9 t d ht;exact ZT h1 t d' h2
  ·cases h
 ·cases h
def Rnd(r:Option Nat)(h0:Fz):Prop:=∀l,r=some l->∃rec:Loop,h0 l=some (.fz (.loop rec))
theorem Rnd.none(h0:Fz):Rnd none h0:=λl h=>by cases h
theorem OA(S:cO P nt B w0 h0 g σ a w)(hR:Rnd r h0)(fn:FuncId)(ps:Array Tmp)(x y:Code) :
  ∃(l:Nat)(mark:List Deferred)(w1:World)(d:Nat)(h1:Fz),(Instr.enterLoop fn a.tmps ps x y r).run P w=.ok (l,mark) w1/\w.heap.size<=l /\
   w1.heap[l]? = some (.loop {state:=.ready,pending:=none,fn,tmps:=a.tmps,params:=ps,assign:=x,body:=y,defers:=d})/\jV g.h h1/\h1 l=none /\
   cO P nt B w0 h0 (g.re h1) σ {a with defers:=mark++a.defers} w1/\∀d∈mark,∃b,d.target=.collected b:=by
 have zlE:∀k,w.heap.size<=k->g.h k=none:=λk hk=>by
  cases h:g.h k with
  | none=>rfl
  | some x=>exact absurd (vg S.hw h) omY
 cases r with
 | none =>
  have hb0:g.h w.heap.size=none:=zlE _ (kC _);have hw1:((w.alloc (.deferred (some []))).alloc (.loop {state:=.ready,pending:=none,fn,tmps:=a.tmps,params:=ps,assign:=x,body:=y,defers:=w.heap.size})).heap[w.heap.size]? = some (.deferred (some [])):=by
   exact(Below.heap_alloc _ _ _ (by simp)).trans (World.alloc_heap_new w _)
  have su:Below w.heap.size w ((w.alloc (.deferred (some []))).alloc (.loop {state:=.ready,pending:=none,fn,tmps:=a.tmps,params:=ps,assign:=x,body:=y,defers:=w.heap.size})) :=
   ((Below.refl _ w).alloc (kC _) _).alloc (by simp) _
  have S1:=S.world (h':=g.h.add w.heap.size (.deferred (some []))) (Fz.le_add hb0) (λk z hk=>by
    by_cases h:k=w.heap.size
    ·subst h;rw[Fz.add_same]at hk;simp only[bW]at hk;subst hk;exact⟨_,hw1,rfl⟩
    ·rw [Fz.add_other h]at hk;obtain⟨o,h1,h2⟩:=S.hw k z hk;exact⟨o,by rw[su.block k (S.hw.lt hk)];exact h1,h2⟩)
   (λk z hk=>by
    by_cases h:k=w.heap.size
    ·exact .inr omY
    ·rw[Fz.add_other h]at hk;exact .inl hk) (.of ⟨su,kC _⟩)
  refine⟨w.heap.size+1,[{target:=.collected w.heap.size,args:=#[]}],_,w.heap.size,g.h.add w.heap.size (.deferred (some [])),run_enterLoop_outer fn a.tmps ps x y,omY,?_,Fz.le_add hb0,?_,?_,λd hd=>⟨w.heap.size,by rw[mg.1 hd]⟩⟩
  ·have:=World.alloc_heap_new (w.alloc (.deferred (some []))) (.loop {state := .ready,pending:=none,fn,tmps:=a.tmps,params:=ps,assign:=x,body:=y,defers:=w.heap.size});rwa[World.size_alloc]at this
  ·rw[Fz.add_other omY];exact zlE _ omY
  ·refine S1.act ?_ S1.size S1.env;obtain⟨Ds,h1,h2,h3,h4⟩:=S.dfr;refine⟨.inl w.heap.size :: Ds,qdu.2 ⟨λ hm=>?_,h1⟩,by simp[h2,deD],λ D hD=>?_,λ d hd=>?_⟩
   ·have:=vg S.hw (h3 _ (J4 hm)).2;omega
   rotate_left
   ·rcases kR.1 hd with e | hd
    ·cases e
    ·exact h4 d hd
   ·rcases kR.1 hD with e | hD
    ·cases e;exact⟨S.bs,Fz.add_same⟩
    ·exact⟨(h3 D hD).1,Fz.le_add hb0 _ _ (h3 D hD).2⟩
 | some l0 =>
  obtain⟨rec,zXL⟩:=hR l0 rfl;have hl0:w.heap[l0]? = some (.loop rec):=S.hw.fz (S.le0 _ _ zXL);have su:Below w.heap.size w (w.alloc (.loop {state:=.ready,pending:=none,fn,tmps:=a.tmps,params:=ps,assign:=x,body:=y,defers:=rec.defers})):=(Below.refl _ w).alloc (kC _) _;have S1:=S.world (h':=g.h) (λ_ _ h=>h) (S.hw.same λk z hk=>su.block k (S.hw.lt hk)) (λ_ _ h=>.inl h) (.of ⟨su,kC _⟩);exact⟨w.heap.size,[],_,rec.defers,g.h,run_enterLoop_inner hl0 fn a.tmps ps x y,kC _,World.alloc_heap_new w _,λ_ _ h=>h,zlE _ (kC _),S1,λd hd=>by cases hd⟩
end
end Go.Pm
namespace Go.Pm
def zwC:List Item→Bool
  | .call .. :: _=>false
  | _=>true
def jH(I:Machine→Prop)(P:Program)(m:Machine)(b:Frame)(k:List Item)(cs:List Frame):Exit→Act→World→Prop
  | .panic ch,a,w=>∃todo,zwC todo=true/\StepsIn I P m (lone {b.atR a todo with mode:=.panicking ch} cs w)
  | .normal,a,w=>ArrivesIn I P m b k cs .normal a w
  | .exit id,a,w=>ArrivesIn I P m b k cs (.exit id) a w
  | .goto l,a,w=>ArrivesIn I P m b k cs (.goto l) a w
  | .ret,a,w=>ArrivesIn I P m b k cs .ret a w
  | .outgrown,a,w=>ArrivesIn I P m b k cs .outgrown a w
theorem jH.inn{I:Machine->Prop}{P:Program}{m:Machine}{b:Frame}{k:List Item}{cs:List Frame}{e:Exit}{a:Act}{w:World}(h:jH I P m b k cs e a w):ArrivesIn I P m b k cs e a w:=by
 cases e with
 | panic ch=>obtain⟨t,_,h⟩:=h;exact⟨t,h⟩
 | _=>exact h
theorem jH.of_steps{I:Machine->Prop}{P:Program}{m m1:Machine}{b:Frame}{k:List Item}{cs:List Frame}{e:Exit}{a:Act}{w:World}(h:StepsIn I P m m1)(h':jH I P m1 b k cs e a w):jH I P m b k cs e a w:=by
 cases e with
 | panic ch=>obtain⟨t,ht,hs⟩:=h';exact⟨t,ht,h.trans hs⟩
 | normal=>exact ArrivesIn.of_steps (e:=.normal) h h'
 | exit id=>exact ArrivesIn.of_steps (e:=.exit id) h h'
 | goto l=>exact ArrivesIn.of_steps (e:=.goto l) h h'
 | ret=>exact ArrivesIn.of_steps (I:=I) (b:=b) (k:=k) (cs:=cs) (e:=.ret) (a:=a) (w:=w) h h'
 | outgrown=>exact ArrivesIn.of_steps (b:=b) (k:=k) (cs:=cs) (e:=.outgrown) (a:=a) (w:=w) h h'
theorem jH.pass{I:Machine->Prop}{P:Program}{m:Machine}{b:Frame}{x:Item}{k:List Item}{cs:List Frame}{e:Exit}{a:Act}{w:World}(hx:x.plain=true)(he:e ≠ .normal)(h:jH I P m b (x::k) cs e a w):jH I P m b k cs e a w:=by
 cases e with
 | panic ch=>exact h
 | normal=>exact absurd rfl he
 | exit id=>exact ArrivesIn.pass (I:=I) (P:=P) (m:=m) (b:=b) (x:=x) (k:=k) (cs:=cs) (e:=.exit id) (a:=a) (w:=w) hx (λ_ _=>.inl (by simp)) h
 | goto l=>exact ArrivesIn.pass (I:=I) (P:=P) (m:=m) (b:=b) (x:=x) (k:=k) (cs:=cs) (e:=.goto l) (a:=a) (w:=w) hx (λ_ _=>.inl (by simp)) h
 | ret=>exact ArrivesIn.pass (I:=I) (P:=P) (m:=m) (b:=b) (x:=x) (k:=k) (cs:=cs) (e:=.ret) (a:=a) (w:=w) hx (λ_ _=>.inl (by simp)) h
 | outgrown=>exact h
def Dt(r:Option Nat)(n:Nat)(P:Program)(c:Code)(Q:Exit->Act->World->Prop)(a:Act)(w:World):Prop :=
 ∀(b:Frame)(k:List Item)(cs:List Frame),b.roundOf=(FR r).round->(FR r).fn b.fn->(FR r).room (cs.length+1+n) ->
  ∃e a' w',Q e a' w'/\jH (Machine.fenced P (FR r)) P (lone (b.atR a (.code c::k)) cs w) b k cs e a' w'
section
variable{r:Option Nat}{n:Nat}{P:Program}{Q:Exit->Act->World->Prop}{a:Act}{w:World}
theorem ry{c:Code}(h:Dt r n P c Q a w):c.wpIn (FR r) n P Q a w:=λb k cs wu hb hr=>let⟨e,a',w',q,x⟩:=h b k cs wu hb hr;⟨e,a',w',q,x.inn⟩
theorem zd4{c:Code}(h:c.wpIn (FR r) n P Q a w)(hq:∀ch a w,¬Q (.panic ch) a w):Dt r n P c Q a w:=λb k cs wu hb hr=>by
 obtain⟨e,a',w',q,x⟩:=h b k cs wu hb hr;refine⟨e,a',w',q,?_⟩;cases e with
 | panic ch=>exact absurd q (hq _ _ _)
 | _=>exact x
theorem o8{c:Code}{Q':Exit->Act->World->Prop}(h:Dt r n P c Q a w)(hq:∀e a w,Q e a w->Q' e a w):Dt r n P c Q' a w :=
 λb k cs wu hb hr=>let⟨e,a',w',q,x⟩:=h b k cs wu hb hr;⟨e,a',w',hq _ _ _ q,x⟩
theorem zhU(h:Q .normal a w):Dt r n P .skip Q a w:=λ_ _ _ _ hb hr=>⟨.normal,a,w,h,.one (fenced_calm hb hr rfl) stepR_skip⟩
theorem zd5{l:Nat}(h:Q .normal a w):Dt r n P (.label l) Q a w:=λ_ _ _ _ hb hr=>⟨.normal,a,w,h,.one (fenced_calm hb hr rfl) stepR_label⟩
theorem V5{id:Nat}(h:Q (.exit id) a w):Dt r n P (.exit id) Q a w :=
 λ_ k _ _ hb hr=>⟨.exit id,a,w,h,λ_ hk=>.one (fenced_calm hb hr rfl) (stepR_exit hk),λ_ hk=>⟨k,hk,.refl _⟩⟩
theorem zb2(h:Q .ret a w):Dt r n P .ret Q a w :=
 λ_ k _ _ hb hr=>⟨.ret,a,w,h,λhn=>⟨_,.one (fenced_calm hb hr rfl) (stepR_ret hn)⟩,λ_=>⟨k,.refl _⟩⟩
theorem znM{x y:Code}(h:Dt r n P x (Exit.then (Dt r n P y Q) Q) a w):Dt r n P (.seq x y) Q a w:=by
 intro b k cs wu hb hr;have h0:(lone (b.atR a (.code (.seq x y)::k)) cs w).fenced P (FR r):=fenced_calm hb hr rfl;obtain⟨e,a1,w1,hq,eF⟩:=h b (.code y::k) cs wu hb hr;have st:=StepsIn.one h0 (stepR_seq (P:=P) (b:=b) (a:=a) (k:=k) (cs:=cs) (w:=w) (x:=x) (y:=y));cases e with
 | normal =>
  obtain⟨e2,a2,w2,hq2,Du⟩:=hq b k cs wu hb hr;exact⟨e2,a2,w2,hq2,.of_steps (st.trans eF) Du⟩
 | exit id=>exact⟨_,a1,w1,hq,.of_steps st (.pass (x:=.code y) rfl (by simp) eF)⟩
 | goto l=>exact⟨_,a1,w1,hq,.of_steps st (.pass (x:=.code y) rfl (by simp) eF)⟩
 | ret=>exact⟨_,a1,w1,hq,.of_steps st (.pass (x:=.code y) rfl (by simp) eF)⟩
 | panic ch=>exact⟨_,a1,w1,hq,.of_steps st (.pass (x:=.code y) rfl (by simp) eF)⟩
 | outgrown=>exact⟨_,a1,w1,hq,.of_steps st (.pass (x:=.code y) rfl (by simp) eF)⟩
theorem zhV{c:Operand}{x y:Code}{t:Bool}(hc:a.eval c=.bool t)(h:Dt r n P (if t then x else y) Q a w):Dt r n P (.cond c x y) Q a w :=
 λb k cs wu hb hr=>let⟨e,a',w',q,x⟩:=h b k cs wu hb hr;⟨e,a',w',q,.of_steps (.one (fenced_calm hb hr rfl) (stepR_cond hc)) x⟩
theorem zd6{id:Nat}{c:Code}(h:Dt r n P c (Exit.inBlock id Q) a w):Dt r n P (.block id c) Q a w:=by
 intro b k cs wu hb hr;have h0:(lone (b.atR a (.code (.block id c)::k)) cs w).fenced P (FR r):=fenced_calm hb hr rfl;have st:=StepsIn.one h0 (stepR_block (P:=P) (b:=b) (a:=a) (k:=k) (cs:=cs) (w:=w) (id:=id) (c:=c));obtain⟨e,a1,w1,hq,eF⟩:=h b (.inBlock id::k) cs wu hb hr;cases e with
 | normal=>exact⟨.normal,a1,w1,hq,(st.trans eF).trans (.one (fenced_calm hb hr rfl) stepR_inBlock)⟩
 | exit id' =>
  by_cases hid:id'=id
  ·simp only [Exit.inBlock,hid,Pn]at hq;exact⟨.normal,a1,w1,hq,st.trans (eF.1 k (by simp[exitTo,hid]))⟩
  ·simp only [Exit.inBlock, hid, qjr] at hq;have this:(id == id')=false:=by simp;exact λ h=>hid h.symm
   have hx:exitTo id' (.inBlock id::k)=exitTo id' k:=by simp[exitTo,this]
   exact⟨.exit id',a1,w1,hq,λk' hk=>st.trans (eF.1 k' (by rw[hx];exact hk)),
    λuT hk=>let⟨k1,h1,h2⟩:=eF.2 uT (by rw[hx];exact hk);⟨k1,h1,st.trans h2⟩⟩
 | goto l =>
  have hx:gotoIn l (.inBlock id::k)=gotoIn l k:=by simp[gotoIn]
  exact⟨_,a1,w1,hq,λk' hk=>st.trans (eF.1 k' (by rw[hx];exact hk)),
   λuT hk=>let⟨k1,h1,h2⟩:=eF.2 uT (by rw[hx];exact hk);⟨k1,h1,st.trans h2⟩⟩
 | ret=>exact⟨_,a1,w1,hq,.of_steps st eF⟩
 | panic ch=>exact⟨_,a1,w1,hq,.of_steps st eF⟩
 | outgrown=>exact⟨_,a1,w1,hq,.of_steps (b:=b) (k:=k) (cs:=cs) (e:=.outgrown) st eF⟩
theorem Su{b:Frame}{a:Act}{k:List Item}{cs:List Frame}{w:World}{c:Code} :
  step P (lone (b.atR a (.code (.scope c)::k)) cs w)=.next (lone (b.atR a (.code c :: .inScope c::k)) cs w) :=
 step_lone_go (by simp[stepG,stepG.exec,Frame.atR])
theorem LC{b:Frame}{a:Act}{k:List Item}{cs:List Frame}{w:World}{c:Code} :
  step P (lone (b.atR a (.inScope c::k)) cs w)=.next (lone (b.atR a k) cs w) :=
 step_lone_go (by simp[stepG,stepG.exec,Frame.atR])
theorem zd7{c:Code}(h:Dt r n P c (Exit.noGoto Q) a w):Dt r n P (.scope c) Q a w:=by
 intro b k cs wu hb hr;obtain⟨e,a1,w1,hq,eF⟩:=h b (.inScope c::k) cs wu hb hr;have h0:(lone (b.atR a (.code (.scope c)::k)) cs w).fenced P (FR r):=fenced_calm hb hr rfl;have st:=StepsIn.one h0 (Su (P:=P) (b:=b) (a:=a) (k:=k) (cs:=cs) (w:=w) (c:=c));cases e with
 | normal=>exact⟨.normal,a1,w1,hq,(st.trans eF).trans (.one (fenced_calm hb hr rfl) LC)⟩
 | exit id =>
  refine⟨.exit id,a1,w1,hq,λk' hk=>st.trans (eF.1 k' (by simp[exitTo,hk])),λuT hk=>?_⟩;obtain⟨k1,h1,h2⟩:=eF.2 uT (by simp[exitTo,hk]);exact⟨k1,h1,st.trans h2⟩
 | goto l=>exact hq.elim
 | ret=>exact⟨.ret,a1,w1,hq,jH.of_steps (e:=.ret) st eF⟩
 | panic ch=>exact⟨.panic ch,a1,w1,hq,jH.of_steps (e:=.panic ch) st eF⟩
 | outgrown=>exact⟨_,a1,w1,hq,.of_steps (b:=b) (k:=k) (cs:=cs) (e:=.outgrown) st eF⟩
def V6(r:Option Nat)(n:Nat)(P:Program)(c:Code)(Q:Exit->Act->World->Prop)(a:Act)(w:World):Prop :=
 ∀(b:Frame)(k:List Item)(cs:List Frame),b.roundOf=(FR r).round->(FR r).fn b.fn->(FR r).room (cs.length+1+n) ->
  ∃e a' w',Q e a' w'/\jH (Machine.fenced P (FR r)) P (lone (b.atR a (.code c :: .inLoop c::k)) cs w) b k cs e a' w'
theorem Ia{c:Code}(h:V6 r n P c Q a w):Dt r n P (.loop c) Q a w:=by
 intro b k cs wu hb hr;obtain⟨e,a',w',hq,eF⟩:=h b k cs wu hb hr;exact⟨e,a',w',hq,.of_steps (.one (fenced_calm hb hr rfl) stepR_loop) eF⟩
theorem Ib{c:Code}(h:Dt r n P c (Exit.then (V6 r n P c Q) Q) a w):V6 r n P c Q a w:=by
 intro b k cs wu hb hr;obtain⟨e,a1,w1,hq,eF⟩:=h b (.inLoop c::k) cs wu hb hr;cases e with
 | normal =>
  obtain⟨e2,a2,w2,hq2,Du⟩:=hq b k cs wu hb hr;exact⟨e2,a2,w2,hq2,.of_steps (StepsIn.trans eF (.one (fenced_calm hb hr rfl) stepR_inLoop)) Du⟩
 | exit id=>exact⟨_,a1,w1,hq,.pass (x:=.inLoop c) rfl (by simp) eF⟩
 | goto l=>exact⟨_,a1,w1,hq,.pass (x:=.inLoop c) rfl (by simp) eF⟩
 | ret=>exact⟨_,a1,w1,hq,.pass (x:=.inLoop c) rfl (by simp) eF⟩
 | panic ch=>exact⟨_,a1,w1,hq,.pass (x:=.inLoop c) rfl (by simp) eF⟩
 | outgrown=>exact⟨_,a1,w1,hq,.pass (x:=.inLoop c) rfl (by simp) eF⟩
theorem znN{ops:Array Oper}(l:List Nat):∀(a:Act)(w:World),wpOpsIn (FR r) n P ops Q l a w->∀(b:Frame)(k:List Item)(cs:List Frame),b.roundOf=(FR r).round->(FR r).fn b.fn->(FR r).room (cs.length+1+n) ->
  ∃e a' w',Q e a' w'/\jH (Machine.fenced P (FR r)) P (lone (b.atR a (.inRegion ops l::k)) cs w) b k cs e a' w':=by
 induction l with
 | nil=>exact λa w h b k cs _ hb hr=>⟨.normal,a,w,h,.one (fenced_calm hb hr rfl) stepR_region_end⟩
 | cons i rest ih =>
  intro a w h b k cs wu hb hr;simp only[wpOpsIn]at h;cases ho:ops[i]? with
  | none =>
   simp only[ho]at h;obtain⟨e,a',w',hq,eF⟩:=ih a w h b k cs wu hb hr;have hs:=stepR_op_skip (P:=P) (b:=b) (a:=a) (k:=k) (cs:=cs) (w:=w) (ops:=ops) (i:=i) (rest:=rest) (by simp[ho]);simp only[ho,Option.bind_none,Act.put]at hs;exact⟨e,a',w',hq,.of_steps (.one (fenced_noOper hb hr ho) hs) eF⟩
  | some o =>
   simp only[ho]at h;by_cases hw:Region.wanted o (yielded ops a.tmps)=true
   ·simp only [hw,Pn,Oper.wpIn]at h;obtain⟨za6,h⟩:=h;have h0:(lone (b.atR a (.inRegion ops (i::rest)::k)) cs w).fenced P (FR r):=fenced_oper hb hr ho za6;simp only[Oper.uponIn]at h;have hg:=stepGR_op (P:=P) (b:=b) (k:=k) (cs:=cs) (w:=w) (rest:=rest) ho hw;rw[wu]at hg;have zlA:∀v,(b.atR a (.inRegion ops (i::rest)::k)).finish v=b.atR (a.put o.dst v) (.inRegion ops rest::k):=by
     intro v;rw[Frame.finish_atR,ho];rfl
    split at h
    ·rename_i v w' uT;obtain⟨e,a',zZ,hq,eF⟩:=ih _ _ h b k cs wu hb hr;refine⟨e,a',zZ,hq,.of_steps (.one h0 (step_lone_go ?_)) eF⟩;rw[hg,<- zlA];simp[stepG.apply,uT]
    ·rename_i w' uT;obtain⟨e,a',zZ,hq,eF⟩:=ih _ _ h b k cs wu hb hr;refine⟨e,a',zZ,hq,.of_steps (.one h0 (step_lone_go ?_)) eF⟩;rw[hg,<- zlA];simp[stepG.apply,uT]
    ·rename_i d w' uT;obtain⟨e,a',zZ,hq,eF⟩:=ih _ _ h b k cs wu hb hr;refine⟨e,a',zZ,hq,.of_steps (.one h0 (step_lone_go ?_)) eF⟩
     have:({b.atR a (.inRegion ops (i::rest)::k)with defers:=d::a.defers}:Frame).finish undef =
       b.atR ({a with defers:=d::a.defers}.put o.dst undef) (.inRegion ops rest::k):=by
      have:=Frame.finish_atR b {a with defers:=d::a.defers} ops i rest k undef;rw[ho]at this;exact this
     rw[hg];simp only[stepG.apply,Sem.runT_eq,uT,GStep.bare_after];exact jX (λfr=>GStep.go {frame:=fr,callers:=cs,status:=.running,dying:=none} w') this
    ·rename_i f args w' uT;obtain⟨hn,hF,h⟩:=h;have EL:(FR r).room ((b.atR a (.inRegion ops (i::rest)::k)::cs).length+1+(n-1)):=Fence.room_enter hr hn;obtain⟨e,zZ,fr,hR,qi,uh,xy⟩:=h (b.atR a (.inRegion ops (i::rest)::k)::cs) EL;have qm:step P (lone (b.atR a (.inRegion ops (i::rest)::k)) cs w)=.next (lone (Frame.enter P f args .normal) (b.atR a (.inRegion ops (i::rest)::k)::cs) w') :=
      step_lone_go (by rw[hg];simp[stepG.apply,uT,Frame.atR])
     cases e with
     | returned v =>
      have hl:(lone fr (b.atR a (.inRegion ops (i::rest)::k)::cs) zZ).fenced P (FR r):=fenced_leaving (uh▸hF) EL xy;obtain⟨e,a',w3,hq,eF⟩:=ih _ _ hR b k cs wu hb hr;refine⟨e,a',w3,hq,.of_steps (.head h0 qm (StepsIn.trans qi (.one hl ?_))) eF⟩;rw[<- zlA];exact step_leave_returned xy
     | panicked chain =>
      have hl:(lone fr (b.atR a (.inRegion ops (i::rest)::k)::cs) zZ).fenced P (FR r):=fenced_leaving (uh▸hF) EL xy;refine⟨.panic chain,a,zZ,hR,.inRegion ops (i::rest)::k,rfl,.head h0 qm (StepsIn.trans qi (.one hl ?_))⟩;rw[<- Frame.raise_atR];exact step_leave_panicked xy
     | outgrown =>
      obtain⟨a0,w0,hq⟩:=hR;exact⟨.outgrown,a0,w0,hq,.inr (Outgrown.of_steps (.one qm) qi)⟩
    ·rename_i row args w' uT;obtain⟨hn,h⟩:=h;obtain⟨v,zZ,hR,qi⟩:=h (b.atR a (.inRegion ops (i::rest)::k)) cs (Fence.room_enter hr hn);have qm:step P (lone (b.atR a (.inRegion ops (i::rest)::k)) cs w)=.next (lone (Frame.ofRow P row args .normal) (b.atR a (.inRegion ops (i::rest)::k)::cs) w') :=
      step_lone_go (by rw[hg];simp[stepG.apply,uT,Frame.atR])
     obtain⟨e,a',w3,hq,eF⟩:=ih _ _ hR b k cs wu hb hr;refine⟨e,a',w3,hq,.of_steps (.head h0 qm ?_) eF⟩;rw[<- zlA];exact qi
    ·rename_i l f tmps assign body w' uT;obtain⟨hn,_,h⟩:=h;obtain⟨e,zZ,hR,qi⟩:=h (b.atR a (.inRegion ops (i::rest)::k)) cs (Fence.room_enter hr hn);have qm:step P (lone (b.atR a (.inRegion ops (i::rest)::k)) cs w)=.next (lone (Frame.round l f tmps assign body .normal) (b.atR a (.inRegion ops (i::rest)::k)::cs) w') :=
      step_lone_go (by rw[hg];simp[stepG.apply,uT,Frame.atR])
     cases e with
     | returned v =>
      obtain⟨e,a',w3,hq,eF⟩:=ih _ _ hR b k cs wu hb hr;refine⟨e,a',w3,hq,.of_steps (.head h0 qm ?_) eF⟩;rw[<- zlA];exact qi
     | panicked chain =>
      refine⟨.panic chain,a,zZ,hR,.inRegion ops (i::rest)::k,rfl,.head h0 qm ?_⟩;rw[<- Frame.raise_atR];exact qi
     | outgrown =>
      obtain⟨a0,w0,hq⟩:=hR;exact⟨.outgrown,a0,w0,hq,.inr (Outgrown.of_steps (.one qm) qi)⟩
    ·rename_i v w' uT;refine⟨.panic [{v,recovered:=false}],a,w',h,.inRegion ops (i::rest)::k,rfl,.one h0 (step_lone_go ?_)⟩;rw[hg,<- Frame.raise_atR];simp[stepG.apply,uT]
    ·exact h.elim
   ·simp only [hw,qdE,qjr]at h;obtain⟨za6,h⟩:=h;have h0:(lone (b.atR a (.inRegion ops (i::rest)::k)) cs w).fenced P (FR r):=fenced_oper hb hr ho za6;obtain⟨e,a',w',hq,eF⟩:=ih _ _ h b k cs wu hb hr;have hs:=stepR_op_skip (P:=P) (b:=b) (a:=a) (k:=k) (cs:=cs) (w:=w) (ops:=ops) (i:=i) (rest:=rest) (by simpa [ho]using hw);rw[ho]at hs;exact⟨e,a',w',hq,.of_steps (.one h0 hs) eF⟩
theorem LD{id:Nat}{ops:Array Oper}(h:wpOpsIn (FR r) n P ops Q (List.range ops.size) a w):Dt r n P (.region id ops false) Q a w:=λb k cs wu hb hr=>by
 obtain⟨e,a',w',hq,eF⟩:=znN _ a w h b k cs wu hb hr;exact⟨e,a',w',hq,.of_steps (.one (fenced_calm hb hr rfl) stepR_region) eF⟩
theorem ZU{P:Program}{fr:Frame}(h:zwC fr.todo=true):fr.catches P=false:=by
 unfold Frame.catches;split
 ·rename_i e;rw[e]at h;cases h
 ·rfl
theorem Aj{P:Program}{fr c:Frame}{cs:List Frame}{w:World}{chain:List PanicEntry}(hm:fr.mode=.panicking chain)(hd:fr.defers=[])(ht:zwC fr.todo=true):step P (lone fr (c::cs) w)=.next (lone (c.raise chain) cs w) :=
 step_lone_go (by simp[stepG,unwind,hm,hd,ZU ht])
def ZV(P:Program)(l:Nat)(R:Ending→World→Prop):Exit→Act→World→Prop
  | .normal,_,w=>∃v w',(Instr.endRound l none).run P w=.ok v w'/\R (.returned v) w'
  | .ret,_,w=>∃v w',(Instr.endRound l (some .ret)).run P w=.ok v w'/\R (.returned v) w'
  | .exit id,_,w=>∃v w',(Instr.endRound l (some (.exit id))).run P w=.ok v w'/\R (.returned v) w'
  | .goto t,_,w=>∃v w',(Instr.endRound l (some (.goto t))).run P w=.ok v w'/\R (.returned v) w'
  | .panic ch,a,w=>a.defers=[]/\R (.panicked ch) w
  | .outgrown,_,_=>False
theorem LG{l n:Nat}{P:Program}{f:FuncId}{tmps:Array Value}{assign body:Code}{w:World}{R:Ending→World→Prop}
    (h:Dt (some l) n P assign (Exit.then (λa1 w1=>∃w2,(Instr.beginRound l).run P w1=.ok () w2/\Dt (some l) n P body (ZV P l R) a1 w2) (λ_ _ _=>False)) {tmps:=tmps,defers:=[]} w) :
    RoundIn Fence.wide n P l f tmps assign body w R:=by
  refine⟨trivial,λc cs hr=>?_⟩;let b:Frame:={(default:Frame)with fn:=f,kind:=.normal,roundOf:=some l};have hb0:Frame.round l f tmps assign body .normal=b.atR {tmps:=tmps,defers:=[]} [.code assign,.beginRound,.code body]:=by
    simp[Frame.round,Frame.atR,b]
  have uT:(FR (some l)).room ((c::cs).length+1+n):=hr;obtain⟨e,a1,w1,hq,eF⟩:=h b [.beginRound,.code body] (c::cs) rfl trivial uT;rw[<- hb0]at eF;have back:∀{m m':Machine},StepsIn (Machine.fenced P (FR (some l))) P m m'->StepsIn (Machine.fenced P Fence.wide) P m m':=λh=>stepsIn_wide.2 (StepsIn.steps h);cases e with
  | normal =>
    obtain⟨w2,hbr,sG⟩:=hq;have s1:StepsIn (Machine.fenced P (FR (some l))) P (lone (b.atR a1 [.beginRound,.code body]) (c::cs) w1) (lone (b.atR a1 [.code body]) (c::cs) w2) :=
      .one (fenced_calm (fr:=b.atR a1 [.beginRound,.code body]) trivial uT rfl) (stepR_beginRound rfl hbr)
    obtain⟨e2,a2,w3,hq2,Du⟩:=sG b [] (c::cs) rfl trivial uT;cases e2 with
    | normal =>
      obtain⟨v,w4,pG,hR⟩:=hq2;exact⟨.returned v,w4,hR,back ((StepsIn.trans eF s1).trans (StepsIn.trans Du (.one (fenced_calm (fr:=b.atR a2 []) trivial uT rfl) (stepR_round_end rfl rfl pG))))⟩
    | ret =>
      obtain⟨v,w4,pG,hR⟩:=hq2;obtain⟨k1,hs⟩:=Du.2 rfl;exact⟨.returned v,w4,hR,back ((StepsIn.trans eF s1).trans (StepsIn.trans hs (.one (fenced_calm (fr:=b.atR a2 (.code .ret::k1)) trivial uT rfl) (stepR_round_ret rfl rfl pG))))⟩
    | exit id =>
      obtain⟨v,w4,pG,hR⟩:=hq2;obtain⟨k1,hx,hs⟩:=Du.2 rfl rfl;exact⟨.returned v,w4,hR,back ((StepsIn.trans eF s1).trans (StepsIn.trans hs (.one (fenced_calm (fr:=b.atR a2 (.code (.exit id)::k1)) trivial uT rfl) (stepR_round_exit rfl rfl hx pG))))⟩
    | goto t =>
      obtain⟨v,w4,pG,hR⟩:=hq2;obtain⟨k1,hx,hs⟩:=Du.2 rfl rfl;exact⟨.returned v,w4,hR,back ((StepsIn.trans eF s1).trans (StepsIn.trans hs (.one (fenced_calm (fr:=b.atR a2 (.code (.goto t)::k1)) trivial uT rfl) (stepR_round_goto rfl rfl hx pG))))⟩
    | panic ch =>
      obtain⟨hd,hR⟩:=hq2;obtain⟨todo,ht,hs⟩:=Du;refine⟨.panicked ch,w3,hR,back ((StepsIn.trans eF s1).trans (StepsIn.trans hs (.one ?_ (Aj rfl hd ht))))⟩;refine fenced_calm (fr:={b.atR a2 todo with mode:=.panicking ch}) trivial uT ?_;simp[Frame.about,Frame.atR,hd]
    | outgrown=>exact hq2.elim
  | exit id=>exact hq.elim
  | goto l=>exact hq.elim
  | ret=>exact hq.elim
  | panic chain=>exact hq.elim
  | outgrown=>exact hq.elim
theorem OB{r:Option Nat}{n:Nat}{P:Program}{Q:Exit→Act→World→Prop}{a:Act}{w:World}{g:Operand}{ps:Array Tmp}{assign body:Code}
    (h:∀fn,∃(l:Nat)(mark:List Deferred)(w₁:World)(d:Deferred)(w₁':World)(f:FuncId)(args:Array Value)(w₂:World),
      (Instr.enterLoop fn a.tmps ps assign body (FR r).round).run P w=.ok (l,mark) w₁ /\
      (resolve a.eval (rangeCall g l) 0).run P w₁=.ok d w₁' /\
      (invoke d.target d.args).run P w₁'=.ok (.enter f args) w₂ /\
      CallsIn (FR r) (n-1) P f args w₂ (λe w₃=>match e with
        | .returned _=>∃jump w₄,(Instr.endLoop l).run P w₃=.ok jump w₄/\(match jump with
          | none=>Q .normal {a with defers:=mark++a.defers} w₄
          | some c=>Dt r n P c Q {a with defers:=mark++a.defers} w₄)
        | .panicked chain=>Q (.panic chain) {a with defers:=mark++a.defers} w₃
        | .outgrown=>False)) :
    Dt r n P (.rangeFunc g ps assign body) Q a w:=by
  intro b k cs wu hb hr;obtain⟨l,mark,w₁,d,w₁',f,args,w₂,he,oI,hinv,hF,fO⟩:=h b.fn;rw[<- wu]at he;have h0:(lone (b.atR a (.code (.rangeFunc g ps assign body)::k)) cs w).fenced P (FR r):=fenced_lone (.inl trivial) (λ_ _=>trivial) (Fence.room_le hr omY);have qm:=stepR_rangeFunc (P:=P) (b:=b) (a:=a) (k:=k) (cs:=cs) (w:=w) he oI hinv;have EL:(FR r).room ((b.atR {a with defers:=mark++a.defers} (.inRangeFunc l::k)::cs).length+1+(n-1)):=Fence.room_enter hr (λh=>by simp[FR]at h);obtain⟨e,w₃,fr,hR,qi,uh,xy⟩:=fO (b.atR {a with defers:=mark++a.defers} (.inRangeFunc l::k)::cs) EL;cases e with
  | outgrown=>exact hR.elim
  | returned v =>
    have hl:(lone fr (b.atR {a with defers:=mark++a.defers} (.inRangeFunc l::k)::cs) w₃).fenced P (FR r):=fenced_leaving (uh▸hF) EL xy;obtain⟨jump,w₄,pG,hj⟩:=hR;have zvr:StepsIn (Machine.fenced P (FR r)) P (lone (b.atR a (.code (.rangeFunc g ps assign body)::k)) cs w) (lone (b.atR {a with defers:=mark++a.defers} ((jump.map Item.code).toList++k)) cs w₄):=by
      refine .head h0 qm (StepsIn.trans qi (.head hl ?_ (.one (fenced_calm (fr:=b.atR {a with defers:=mark++a.defers} (.endRangeFunc l::k)) hb hr rfl) (stepR_endRangeFunc pG))));rw[<- finish_atR_inRangeFunc l v];exact step_leave_returned xy
    cases jump with
    | none=>exact⟨.normal,_,w₄,hj,zvr⟩
    | some c =>
      obtain⟨e',a'',w₅,hq,eF⟩:=hj b k cs wu hb hr;exact⟨e',a'',w₅,hq,.of_steps zvr eF⟩
  | panicked chain =>
    have hl:(lone fr (b.atR {a with defers:=mark++a.defers} (.inRangeFunc l::k)::cs) w₃).fenced P (FR r):=fenced_leaving (uh▸hF) EL xy;refine⟨.panic chain,_,w₃,hR,.inRangeFunc l::k,rfl,.head h0 qm (StepsIn.trans qi (.one hl ?_))⟩;rw[<- Frame.raise_atR];exact step_leave_panicked xy
end
end Go.Pm
namespace Go.Pm
variable [aJ]
open Go.RowKit (Below)
theorem yY{P:Program}:∀(l:List (Nat×Nat×Nat))(σ τ:St),Bq σ τ→(mP P l σ=none∧mP P l τ=none)∨∃σ' τ',mP P l σ=some σ'∧mP P l τ=some τ'∧Bq σ' τ'
  | [],σ,τ,h=>.inr ⟨σ,τ,rfl,rfl,h⟩
  | (t,L,e)::r,σ,τ,h=>by
    simp only[mP];rw[<- h.env,<- h.aB];split
    · split
      · split
        · refine yY r _ _ ⟨fun s => ?_, fun s => ?_, h.log⟩
          · simp only[aZ,h.env]
          · simp only[aZ,h.aB]
        · exact .inl ⟨rfl,rfl⟩
      · exact .inl ⟨rfl,rfl⟩
    · exact yY r _ _ h
    · exact .inl ⟨rfl,rfl⟩
theorem yZ{P:Program}:∀(l:List (Nat×Nat×Nat×Nat))(σ τ:St),Bq σ τ→(mQ P l σ=none∧mQ P l τ=none)∨∃σ' τ',mQ P l σ=some σ'∧mQ P l τ=some τ'∧Bq σ' τ'
  | [],σ,τ,h=>.inr ⟨σ,τ,rfl,rfl,h⟩
  | (B,k,L,e)::r,σ,τ,h=>by
    simp only[mQ];rw[<- h.aB,<- h.aB];split
    · split
      · split
        · split
          · refine yZ r _ _ ⟨h.env,fun s => ?_,h.log⟩;simp only[aZ,h.aB]
          · exact .inl ⟨rfl,rfl⟩
        · exact .inl ⟨rfl,rfl⟩
      · exact yZ r _ _ h
      · exact .inl ⟨rfl,rfl⟩
    · exact .inl ⟨rfl,rfl⟩
theorem zf{P:Program}:∀(l:List (Nat×Nat×Nat×Nat×Nat))(σ τ:St),Bq σ τ→(mV P l σ=none∧mV P l τ=none)∨∃σ' τ',mV P l σ=some σ'∧mV P l τ=some τ'∧Bq σ' τ'
  | [],σ,τ,h=>.inr ⟨σ,τ,rfl,rfl,h⟩
  | (B,k,L,te,e)::r,σ,τ,h=>by
    simp only[mV];rw[<- h.aB,<- h.aB];split
    · split
      · split
        · split
          · split
            · refine zf r _ _ ⟨h.env,fun s => ?_,h.log⟩;simp only[aZ,h.aB]
            · exact .inl ⟨rfl,rfl⟩
          · exact .inl ⟨rfl,rfl⟩
        · exact .inl ⟨rfl,rfl⟩
      · exact zf r _ _ h
      · exact .inl ⟨rfl,rfl⟩
    · exact .inl ⟨rfl,rfl⟩
theorem zg:∀(l:List Nat)(σ τ:St),Bq σ τ→(mW l σ=none∧mW l τ=none)∨∃σ' τ',mW l σ=some σ'∧mW l τ=some τ'∧Bq σ' τ'
  | [],σ,τ,h=>.inr ⟨σ,τ,rfl,rfl,h⟩
  | t::r,σ,τ,h=>by
    have ho:lk σ.aB=lk τ.aB:=funext h.aB;simp only[mW];rw[<- h.env,<- ho];split
    · split
      · refine zg r _ _ ⟨fun s => ?_,h.aB,h.log⟩;simp only[aZ,h.env]
      · split
        · refine zg r _ _ ⟨fun s => ?_, fun s => ?_, h.log⟩
          · simp only[aZ,h.env]
          · simp only[gX,h.aB]
        · exact .inl ⟨rfl,rfl⟩
    · exact .inl ⟨rfl,rfl⟩
theorem FW{α:Type}{f:α→α}{l l':List (Nat×α)}(h:∀t,lk l t=lk l' t):∀ks,xH f l ks=xH f l' ks
  | []=>rfl
  | t::r=>by simp only[xH,h,FW h r]
theorem zhW{ob ob':Nat->Option AO}(h:∀t,ob t=ob' t):∀ks,Fp ob ks=Fp ob' ks:=by
 intro ks;have:ob=ob':=funext h;rw[this]
theorem zhX{ob ob':Nat->Option AO}(h:∀t,ob t=ob' t):∀ks,Ot ob ks=Ot ob' ks:=by
 intro ks;have:ob=ob':=funext h;rw[this]
theorem ZW{P:Program}{k:Keep}{σ τ:St}(h:Bq σ τ):yI P k σ=yI P k τ:=by
 unfold yI;rcases yY (P:=P) k.coT σ τ h with⟨h1,h2⟩|⟨σ1,τ1,h1,h2,h3⟩
 ·rw[h1,h2]
 ·rw [h1, h2];simp only;rcases yZ (P:=P) k.coB σ1 τ1 h3 with ⟨h4,h5⟩ | ⟨σ2,τ2,h4,h5,h6⟩
  ·rw[h4,h5]
  ·rw [h4, h5];simp only;rcases zf (P:=P) k.coV σ2 τ2 h6 with ⟨h7,h8⟩ | ⟨σ3,τ3,h7,h8,h9⟩
   ·rw[h7,h8]
   ·rw [h7,h8];simp only;rw[FW h9.env,show lk σ3.aB=lk τ3.aB from funext h9.aB];rw[FW h9.aB]
theorem zhY{σ τ:St}{n:Nat}(h:Bq σ τ):Bq (zdu σ n) (zdu τ n):=by
 have ho:lk σ.aB=lk τ.aB:=funext h.aB;unfold zdu;rw[<- ho]
 repeat' split
 all_goals first
  | exact h
  | exact⟨h.env,λt=>by simp only[qzd,aZ,h.aB],h.log⟩
theorem zb3:∀(l:List Nat){σ τ:St},Bq σ τ→Bq (coP l σ) (coP l τ)
  | [],_,_,h=>h
  | _::r,_,_,h=>zb3 r (zhY h)
theorem zd8{P:Program}{k:Keep}{σ τ:St}(h:Bq σ τ):canon P k σ=canon P k τ:=by
 unfold canon;have h1:Bq (zdt k.coF σ) (zdt k.coF τ):=⟨h.env,λt=>by simp only[zdt,gX,h.aB,zhW h.aB,zhX h.aB],h.log⟩;rcases zg k.coZ _ _ (zb3 k.coF h1)with⟨h2,h3⟩|⟨σ1,τ1,h2,h3,h4⟩
 ·rw[h2,h3]
 ·rw[h2,h3];simp only;rw[ZW h4]
section
variable{P:Program}{Γ:bU}{nt B:Nat}{w0:World}{h0:Fz}{r:Option Nat}{n:Nat}
theorem l7{b:Frame}{a:Act}{k:List Item}{cs:List Frame}{w:World}{c:Code} :
  step P (lone (b.atR a (.code (.scope c)::k)) cs w)=.next (lone (b.atR a (.code c :: .inScope c::k)) cs w) :=
 step_lone_go (by simp[stepG,stepG.exec,Frame.atR])
theorem OC{b:Frame}{a:Act}{k:List Item}{cs:List Frame}{w:World}{c:Code} :
  step P (lone (b.atR a (.inScope c::k)) cs w)=.next (lone (b.atR a k) cs w) :=
 step_lone_go (by simp[stepG,stepG.exec,Frame.atR])
theorem ZX{c:Code}{Q:Exit->Act->World->Prop}{a:Act}{w:World}{F:Fence}(h:c.wpIn F n P (Exit.noGoto Q) a w):(Code.scope c).wpIn F n P Q a w:=by
 intro b k cs wu hb hr;obtain⟨e,a₁,w₁,hq,eF⟩:=h b (.inScope c::k) cs wu hb hr;have h0:(lone (b.atR a (.code (.scope c)::k)) cs w).fenced P F:=fenced_calm hb hr rfl;cases e with
 | normal=>exact⟨.normal,a₁,w₁,hq,.head h0 l7 (StepsIn.trans eF (.one (fenced_calm hb hr rfl) OC))⟩
 | exit id =>
  refine⟨.exit id,a₁,w₁,hq,λk' hk=>.head h0 l7 (eF.1 k' (by simp[exitTo,hk])),λuT hk=>?_⟩;obtain⟨k₁,h1,h2⟩:=eF.2 uT (by simp[exitTo,hk]);exact⟨k₁,h1,.head h0 l7 h2⟩
 | goto l=>exact hq.elim
 | ret=>exact⟨_,a₁,w₁,hq,.of_steps (.one h0 l7) eF⟩
 | panic ch=>exact⟨_,a₁,w₁,hq,.of_steps (.one h0 l7) eF⟩
 | outgrown=>exact⟨_,a₁,w₁,hq,.of_steps (b:=b) (k:=k) (cs:=cs) (e:=.outgrown) (.one h0 l7) eF⟩
def V7(F:Fence)(n:Nat)(P:Program)(c:Code)(Q:Exit->Act->World->Prop)(a:Act)(w:World):Prop :=
 ∀(b:Frame)(k:List Item)(cs:List Frame),b.roundOf=F.round->F.fn b.fn->F.room (cs.length+1+n) ->
  ∃e a' w',Q e a' w'/\ArrivesIn (Machine.fenced P F) P (lone (b.atR a (.code c :: .inLoop c::k)) cs w) b k cs e a' w'
theorem Ic{F:Fence}{c:Code}{Q:Exit->Act->World->Prop}{a:Act}{w:World}(h:V7 F n P c Q a w):(Code.loop c).wpIn F n P Q a w:=by
 intro b k cs wu hb hr;obtain⟨e,a',w',hq,eF⟩:=h b k cs wu hb hr;exact⟨e,a',w',hq,.of_steps (.one (fenced_calm hb hr rfl) stepR_loop) eF⟩
theorem Ie{F:Fence}{c:Code}{Q:Exit->Act->World->Prop}{a:Act}{w:World}(h:c.wpIn F n P (Exit.then (V7 F n P c Q) Q) a w):V7 F n P c Q a w:=by
 intro b k cs wu hb hr;obtain⟨e,a₁,w₁,hq,eF⟩:=h b (.inLoop c::k) cs wu hb hr;cases e with
 | normal =>
  obtain⟨e₂,a₂,w₂,hq₂,zKp⟩:=hq b k cs wu hb hr;exact⟨e₂,a₂,w₂,hq₂,.of_steps (StepsIn.trans eF (.one (fenced_calm hb hr rfl) stepR_inLoop)) zKp⟩
 | exit id=>exact⟨_,a₁,w₁,hq,.pass (x:=.inLoop c) rfl (λ_ _=>.inl (by simp)) eF⟩
 | goto l=>exact⟨_,a₁,w₁,hq,.pass (x:=.inLoop c) rfl (λ_ _=>.inl (by simp)) eF⟩
 | ret=>exact⟨_,a₁,w₁,hq,.pass (x:=.inLoop c) rfl (λ_ _=>.inl (by simp)) eF⟩
 | panic ch=>exact⟨_,a₁,w₁,hq,.pass (x:=.inLoop c) rfl (λ_ _=>.inl (by simp)) eF⟩
 | outgrown=>exact⟨_,a₁,w₁,hq,.pass (x:=.inLoop c) rfl (λ_ _=>.inl (by simp)) eF⟩
def PostR(P:Program)(nt B:Nat)(w0:World)(h0:Fz)(D:List Nat)(a0:Act)(K:Exit->St->Prop):Exit->Act->World->Prop :=
 λe a' w'=>∃g' σ',K e σ'/\cO P nt B w0 h0 g' σ' a' w'/\Kp D a0 a'
def Snd(P:Program)(Γ:bU)(aQ:dK)(B:Nat)(w0:World)(c:Code):Prop :=
 ∀(r:Option Nat)(n:Nat)(h0:Fz)(D:List Nat)(a0:Act)(K:Exit->St->Prop)(σ:St)(g:Gh)(a:Act)(w:World),(∀t∈eH c,t∈D)->Rnd r h0->vc P Γ aQ c K σ ->
  cO P aQ.nt B w0 h0 g σ a w->Kp D a0 a->Dt r n P c (PostR P aQ.nt B w0 h0 D a0 K) a w
theorem Dv:∀{l:List Oper}{j:Nat}{o:Oper}{t:Nat},l[j]? = some o→o.dst=some t→t∈IJ l
  | [],j,o,t,h,_=>by simp at h
  | x::l,j,o,t,h,hd=>by
    cases j with
    | zero =>
      simp only[qdM,bW]at h;subst h;simp only[IJ,hd];exact lq
    | succ j =>
      have:=Dv (l:=l) (j:=j) (by simpa using h) hd;simp only[IJ];split
      · exact jU _ this
      · exact this
theorem Qo(gp:jw P Γ)(aQ:dK){id:Nat}{ops:Array Oper}{draw:Bool}{K:St→Prop}{Q:Exit→Act→World→Prop}{D:List Nat}{a0:Act}{σ:St}{g:Gh}{a:Act}{w:World}
    (hD:∀t∈IJ ops.toList,t∈D) (h:Px P Γ aQ id ops draw K σ) (S:cO P aQ.nt B w0 h0 g σ a w) (kX:Kp D a0 a)
    (hQ:∀g' σ' a' w',K σ'->cO P aQ.nt B w0 h0 g' σ' a' w'->Kp D a0 a'->a'.defers=a.defers->Q .normal a' w'):Dt r n P (.region id ops draw) Q a w:=by
  have hD':∀(j:Nat)(o:Oper),ops[j]? = some o->∀t,o.dst=some t->t∈D:=λj o ho t ht=>hD t (Dv (by simpa using ho) ht);have zPS:∀σ',(match lk aQ.reg id with|some k=>(match canon P k σ' with|some s=>K s|none=>False)|none=>K σ')->∀g' a' w',cO P aQ.nt B w0 h0 g' σ' a' w'->Kp D a0 a'->a'.defers=a.defers->Q .normal a' w':=by
    intro σ' h g' a' w' S jJ EJ;split at h
    · split at h
      · rename_i s hs;obtain⟨g2,S2⟩:=eQ hs S;exact hQ g2 s a' w' h S2 jJ EJ
      · exact h.elim
    · exact hQ g' σ' a' w' h S jJ EJ
  simp only[Px]at h;cases draw with
  | false =>
    refine LD ?_;exact Hu gp hD' h (S.log _) kX zPS
  | true =>
    simp only at h;split at h
    · rename_i hc;simp only[gG] at hc;refine o8 (Q:=λ e a w=>e=.normal/\Q .normal a w) (zd4 ?_ λ ch a w h=>by cases h.1) λ e a w h=>by obtain⟨rfl,h⟩:=h;exact h
      refine ZP (K:=λσ'=>match lk aQ.reg id with
        | some k=>match canon P k σ' with
          | some s=>K s
          | none=>False
        | none=>False) gp hD' kX hc.1.1 hc.1.2 hc.2 (λσ τ he hσ=>?_) h (S.log []) ?_
      · split at hσ
        · rename_i k hk;rw[zd8 he]at hσ;exact hσ
        · exact hσ.elim
      · intro σ' h g' a' w' S jJ EJ;split at h
        · split at h
          · rename_i s hs;obtain⟨g2,S2⟩:=eQ hs S;exact⟨rfl,hQ g2 s a' w' h S2 jJ EJ⟩
          · exact h.elim
        · exact h.elim
    · exact h.elim
theorem FX{α:Type}:∀{l p:List α}{x:α},pU l=some (p,x)→l=p++[x]
  | [],p,x,h=>by cases h
  | o::r,p,x,h=>by
    simp only[pU]at h;split at h
    · rename_i q y hq;cases h;rw[qdZ,<- FX hq]
    · rename_i hq;cases h;cases r with
      | nil=>rfl
      | cons a r=>simp only[pU]at hq;split at hq<;>cases hq
theorem zhZ{P:Program}{nt:Nat}{m p:Oper}{ty:TypeId}{x y:Nat}(h:zdw P nt m p=some (ty,x,y)) :
  m.op=.makeInterface ty (.tmp x)/\m.dst=some y/\m.guard=none/\p.op=.panic (.tmp y)/\p.guard=none/\y<nt/\∃fs,P.underlying ty=some (.struct fs):=by
 unfold zdw at h;split at h
 ·rename_i YX x' y1 y2 e1 e2 e3 e4 e5;split at h
  ·rename_i hc;simp only[gG] at hc;split at h
   ·rename_i fs hfs;cases h;have:=kL hc.1;subst this;exact⟨e1,e2,e3,e4,e5,by simpa [qjy]using hc.2,fs,hfs⟩
   ·cases h
  ·cases h
 ·cases h
theorem zh0{Γ:bU}{o:Oper}{σ:St}{C:MK}{xs:List XA}{ds:List DV}{ls ms:List Nat}(h:zdx Γ o σ=some (C,xs,ds,ls,ms)) :
  ∃f args ts gf caps,o.op=.call {callee:=.value f,args,argTypes:=ts}/\fU σ.env f=.one (.c (.clo gf caps))/\Γ.mt gf=some C/\ds=args.toList.map (fU σ.env)++caps.map capD/\jZ (zdr gf args.size caps) (lk σ.aB) ds=some (xs,ls,ms):=by
 unfold zdx at h;split at h
 ·rename_i f args ts e1;split at h
  ·rename_i gf caps e2;split at h
   ·rename_i C' e3;split at h
    ·rename_i xs' ls' ms' e4;cases h;exact⟨f,args,ts,gf,caps,e1,e2,e3,rfl,e4⟩
    ·cases h
   ·cases h
  ·cases h
 ·cases h
theorem zd9{ds:List DV}{ob:Nat→Option AO}{ls ms:List Nat}{rs:List PA}{ys:List XA}{i:Nat}{dst:Option Nat}{σ σ2:St}(h:Ou i dst σ (qB ds ob ls ms rs ys)=some σ2) :
  ∃u,jR ob ds ys=some u/\(mO ls&&Nat.ble ms.length 1&&ms.all λM=>((u.filter λx=>!lC x.2).map (·.1)).contains M)=true/\∃fp,σ2=σ.upd i dst fp (resD rs) (u.filter λx=>!lC x.2) ms:=by
 unfold qB at h;split at h
 ·rename_i u hu;split at h
  ·rename_i hc;cases h;exact⟨u,hu,hc,_,rfl⟩
  ·cases h
 ·cases h
theorem Ig{o:Oper}{a:Act}{w w':World}{Q:Exit→Act→World→Prop}{next:Act→World→Prop}(zC:∀c,o.op ≠ .defer c){f:FuncId}{args:Array Value}(h:(execOp a.eval o).run P w = .ok (.enter f args) w')
    (hR:Calls P f args w' λe zZ=>(∃v,e=.returned v/\next (a.put o.dst v) zZ)\/∃ch,e=.panicked ch/\Q (.panic ch) a zZ):o.wpIn (FR r) n P a w next Q:=by
  refine⟨λ_ _=>trivial,?_⟩;rw[Oper.semAt_eq _ _ _ zC,h,Oper.uponIn_enter];refine⟨λh=>by simp[FR]at h,(J8 hR).mono ?_⟩;rintro e zZ (⟨v,rfl,hv⟩|⟨ch,rfl,hv⟩)
  · exact hv
  · exact hv
theorem ZY(gp:jw P Γ)(aQ:dK){id:Nat}{ops:Array Oper}{K:Exit→St→Prop}{D:List Nat}{a0:Act}{σ:St}{g:Gh}{a:Act}{w:World}
    (hD:∀t∈IJ ops.toList,t∈D) (h:JX P Γ aQ id ops K σ) (S:cO P aQ.nt B w0 h0 g σ a w) (kX:Kp D a0 a):Dt r n P (.region id ops false) (PostR P aQ.nt B w0 h0 D a0 K) a w:=by
  have hD':∀(j:Nat)(o:Oper),ops[j]? = some o->∀t,o.dst=some t->t∈D:=λj o ho t ht=>hD t (Dv (by simpa using ho) ht);refine LD ?_;unfold JX at h;split at h
  rotate_left
  · exact h.elim
  rename_i p1 l hs;have e0:=FX hs;have jO:ops.size=p1.length+1:=by rw[<- qju,e0];simp
  have at_:∀j:Nat,ops[j]? = (p1++[l])[j]?:=λj:Nat=>by rw[<- e0,qze]
  split at h
  rotate_left
  · exact h.elim
  rename_i pre m hs1;have e1:=FX hs1;split at h
  · -- the region panics
    rename_i ty x y zwD;obtain⟨q1,q2,q3,q4,q5,q6,fs,q7⟩:=zhZ zwD;have zKD:ops.size=pre.length+2:=by rw[jO,e1];simp
    have om:ops[pre.length]? = some m:=by rw[at_,e1];simp
    have ol:ops[pre.length+1]? = some l:=by rw[at_,e1];simp
    rw[dqQ,zKD,show List.range' 0 (pre.length+2)=List.range' 0 pre.length++[pre.length,pre.length+1]by rw[show pre.length+2=pre.length+1+1 by rfl,qjW,qjW];simp];refine rO _ a w ?_;refine yS (r:=r) (n:=n) (ad:=a.defers) gp hD' ?_ pre 0 _ g a w (λj hj=>by rw[NV,at_,e1,qjF,qj5 hj]) h (S.log []) kX rfl;intro σ' hK g' a' w' S' zd3 _;unfold zwa at hK;split at hK
    rotate_left
    · exact hK.elim
    rename_i k nn hx;have hv:a'.tmps.getD x undef=.agg #[.int k nn]:=by
      obtain⟨vs,e,hr⟩:=S'.env x _ hx
      match vs,hr with
      | [v],hr =>
        have:Rep g'.h (.int k nn) v:=hr.1;cases this;exact e
    show wpOpsIn (FR r) n P ops _ [pre.length,pre.length+1] a' w';have w1:∀tm,Region.wanted m (yielded ops tm)=true:=λtm=>by simp[Region.wanted,q3]
    have w2:∀tm,Region.wanted l (yielded ops tm)=true:=λtm=>by simp[Region.wanted,q5]
    simp only[wpOpsIn,om,ol,w1,w2,Pn];have r1:(execOp a'.eval m).run P w'=.ok (.value (.iface ty (.agg #[.int k nn]))) w':=by
      simp only[execOp,q1,Instr.makeInterface,Act.eval,hv,Sem.run_bind,run_underlying q7,Result.andThen_ok,Sem.run_pure]
    have m1:∀c,m.op ≠ .defer c:=λc e=>by rw[q1]at e;cases e
    have m2:∀c,l.op ≠ .defer c:=λc e=>by rw[q4]at e;cases e
    refine⟨λ_ _=>trivial,?_⟩;rw[Oper.semAt_eq _ _ _ m1,r1,Oper.uponIn_value,q2];refine⟨λ_ _=>trivial,?_⟩;have ets:y<a'.tmps.size:=qdF q6 S'.size;have r2:(execOp (a'.put (some y) (.iface ty (.agg #[.int k nn]))).eval l).run P w'=.halt (.panic (.iface ty (.agg #[.int k nn]))) w':=by
      have ey:(a'.put (some y) (.iface ty (.agg #[.int k nn]))).eval (.tmp y)=.iface ty (.agg #[.int k nn]):=by
        simp[Act.put,Act.eval,xX,ets]
      simp only[execOp,q4,ey];rfl
    rw[Oper.semAt_eq _ _ _ m2,r2,Oper.uponIn_panic];have S2:=S'.put (dst:=some y) (d:=.junk) (v:=.iface ty (.agg #[.int k nn])) (by simpa [dJ,qjy]using q6) trivial (λL hL=>by simp[df,dE,bD]at hL) [];exact⟨g',_,hK,S2,zd3.put (λt ht=>hD' pre.length m om t (q2.trans ht)) _ a'.defers rfl⟩
  · -- the last operation is a call
    have ol:ops[p1.length]? = some l:=by rw[at_];simp
    rw[dqQ,jO,show List.range' 0 (p1.length+1)=List.range' 0 p1.length++[p1.length]by rw[qjW];simp];refine rO _ a w ?_;refine yS (r:=r) (n:=n) (ad:=a.defers) gp hD' ?_ p1 0 _ g a w (λj hj=>by rw[NV,at_,qj5 hj]) h (S.log []) kX rfl;intro σ' hK g' a' w' S' zd3 _;show wpOpsIn (FR r) n P ops _ [p1.length] a' w';unfold Zh at hK;split at hK
    rotate_left
    · exact hK.elim
    rename_i q5 q6;split at hK
    rotate_left
    · exact hK.elim
    rename_i C xs ds ls ms hm;obtain⟨f,args,ts,gf,caps,c1,c2,c3,c4,c5⟩:=zh0 hm;split at hK
    rotate_left
    · exact hK.elim
    rename_i rs ys hC;obtain⟨cv,NM,kE⟩:=(iJ S' c2).1;have w1:∀tm,Region.wanted l (yielded ops tm)=true:=λtm=>by simp[Region.wanted,q5]
    simp only[wpOpsIn,ol,w1,Pn];have dA:dD P gf->(execOp a'.eval l).run P w'=.ok (.enter gf (args.toList.map a'.eval++cv).toArray) w':=by
      intro fO;simp only[execOp,c1,resolve,NM,Deferred.ofValue,Sem.run_bind,Sem.run_pure,Result.andThen_ok,invoke];rw[show(#[]++Array.map a'.eval args++cv.toArray)=(args.toList.map a'.eval++cv).toArray by cases args;simp];exact eG fO
    have OX:RL (rH g') ds (args.toList.map a'.eval++cv):=by rw[c4];exact(CY S' args.toList).append (RF kE)
    have main:∀(dst:Option Nat)(σ2:St),Ou p1.length dst σ' (qB ds (lk σ'.aB) ls ms rs ys)=some σ2 ->
        dD P gf/\Calls P gf (args.toList.map a'.eval++cv).toArray w' λe w2=>∃g2 u fp,σ2=σ'.upd p1.length dst fp (resD rs) u ms/\Rh g2.h rs e/\cO P aQ.nt B w0 h0 g2 ⟨kills (gI ms) σ'.env,u++kills (fD ms) σ'.aB,σ'.log⟩ a' w2:=by
      intro dst σ2 h2;obtain⟨u,hu,dC,fp,hσ⟩:=zd9 h2;obtain⟨fO,wL⟩:=VE gp S' c3 OX (zhu kE (by simp)) c5 hC hu dC none;exact⟨fO,wL.mono λe w2 ⟨g2,he,S2⟩=>⟨g2,_,fp,hσ,he,S2⟩⟩
    split at hK
    · rename_i hpm;split at hK
      rotate_left
      · exact hK.elim
      rename_i σ2 h2;obtain⟨fO,wL⟩:=main _ _ h2;refine Ig (λc e=>by rw[c1]at e;cases e) (dA fO) (wL.mono ?_);rintro e w2 ⟨g2,u,fp,hσ,pG,S2⟩;unfold Rh at pG;rw[hpm]at pG;obtain⟨v,rfl,oI⟩:=pG;refine .inl ⟨v,rfl,?_⟩;have S3:=S2.put (v:=v) (d:=resD rs) q6 (Ry (g:=g2) oI) (λL hL=>by rw[CX]at hL;simp at hL) σ'.log;have znO:=zd3.put (hD' p1.length l ol) v a'.defers rfl;rw[RD]at hσ;rw[hσ]at hK;unfold zdv at hK;split at hK
      · split at hK
        · rename_i s hs2;obtain⟨g3,S4⟩:=eQ hs2 S3;exact⟨g3,s,hK,S4,znO⟩
        · exact hK.elim
      · exact⟨g2,_,hK,S3,znO⟩
    · rename_i ch hpm;split at hK
      rotate_left
      · exact hK.elim
      rename_i σ2 h2;obtain⟨fO,wL⟩:=main _ _ h2;refine Ig (λc e=>by rw[c1]at e;cases e) (dA fO) (wL.mono ?_);rintro e w2 ⟨g2,u,fp,hσ,pG,S2⟩;unfold Rh at pG;rw[hpm]at pG;refine .inr ⟨ch,pG,?_⟩;rw[RD]at hσ;rw[hσ]at hK;exact⟨g2,_,hK,S2,zd3⟩
def V8(P:Program)(Γ:bU)(aQ:dK)(x y:Code)(ps:List Nat)(k:Keep)(K:Exit→St→Prop):List (List PA)→St→Prop
  | [],s=>K .normal s
  | yv::rest,s=>match qC ps yv s.env with
    | some env=>vc P Γ aQ x (zdy (vc P Γ aQ y (uw P k (og [G7] (eH x++eH y)) (V8 P Γ aQ x y ps k K rest) K)) λ_ _=>False) ⟨env,s.aB,[]⟩
    | none=>False
theorem V9{w:World}{l:Nat}{o:Obj}(h:w.heap[l]? = some o):w.putObj l o=w:=by
 obtain⟨hl,e⟩:=UV.1 h;unfold World.putObj;have:w.heap.setIfInBounds l o=w.heap:=by
  apply Array.ext_getElem?;intro i;rw[qji];split
  ·rename_i c;subst c
   first|(rw[eX hl];exact h.symm)|exact h.symm
  ·rfl
 rw[this]
theorem We(gp:jw P Γ){aQ:dK}{f:Operand}{ps:Array Tmp}{x y:Code}(ihx:Snd P Γ aQ B w0 x)(YT:Snd P Γ aQ B w0 y):Snd P Γ aQ B w0 (.rangeFunc f ps x y):=by
 intro r n h0 D a0 K σ g a w hD hR h S kX;simp only[vc]at h;split at h
 ·rename_i k hk;split at h
  ·rename_i s hs zsP;simp only[gG] at zsP;obtain⟨zsP,zPU⟩:=zsP;split at h
   ·rename_i gf caps hf;split at h
    ·rename_i ys hit;have zKG:V8 P Γ aQ x y ps.toList k K ys s:=h (V8 P Γ aQ x y ps.toList k K) (λ_ h=>h) (λ_ _ _ h=>h);obtain⟨g1,S1⟩:=eQ hs S;have EI:∀t∈k.tmps,t∉ps.toList/\t∉eH x++eH y:=by
      intro t ht;have h1:=Aa.1 zsP t ht;simp only[NR]at h1;have h2:t∉ps.toList++(eH x++eH y):=by simpa using h1
      exact⟨λh=>h2 (dU.2 (.inl h)),λh=>h2 (dU.2 (.inr h))⟩
     refine OB λfn=>?_;obtain⟨l,mark,w1,d,h1,dA,hlw,hl1,zXP,hn1,S2,zE2⟩:=OA S1 hR fn ps x y;have uh:=jF S1 hf;generalize NM:a.eval f=fvv at uh;cases uh with
     | fn _ _ _ fv cv l1 l2 hf1 EH =>
      have e1:fv=[]:=qdI l1.symm;subst e1;let a1:Act:={a with defers:=mark++a.defers};let rec_:LoopState->Option Code->Loop:=λst pe=>{state:=st,pending:=pe,fn,tmps:=a.tmps,params:=ps,assign:=x,body:=y,defers:=d}
      let J:List (List PA)->Fz->World->Prop:=λ rest h W=>∃ s bk sv iv,V8 P Γ aQ x y ps.toList k K rest s/\(∀ t d,lk s.env t=some d->t∈k.tmps)/\cO P aQ.nt B w0 h0 ⟨h,bk,sv,iv⟩ s a1 W/\h l=none/\B<=l /\
       (∀L o,lk s.aB L=some o->¬gW ⟨h,bk,sv,iv⟩ L o l)/\W.heap[l]? = some (.loop (rec_ .ready none))
      let Jx:List (List PA)->Fz->World->Prop:=λ _ h W=>∃ s bk sv iv c,((c=.ret/\K .ret s)\/∃ id,c=.exit id/\K (.exit id) s)/\cO P aQ.nt B w0 h0 ⟨h,bk,sv,iv⟩ s a1 W/\h l=none/\B<=l /\
       (∀L o,lk s.aB L=some o->¬gW ⟨h,bk,sv,iv⟩ L o l)/\W.heap[l]? = some (.loop (rec_ .done (some c)))
      have ztF:∀{h h':Fz}{W W':World},W.heap[l]? ≠ none->h l=none->(∀b o,h' b=some o->h b=some o\/W.heap.size<=b)->xJ h W.heap.size W W'->h' l=none/\W'.heap[l]? = W.heap[l]?:=by
       intro h h' W W' hW hl hn hb;have iC:l<W.heap.size:=by
        cases hx:W.heap[l]? with
        | none=>exact absurd hx hW
        | some o=>exact(UV.1 hx).1
       refine⟨?_,hb.block l iC⟩;cases hx:h' l with
       | none=>rfl
       | some o =>
        rcases hn l o hx with h3|h3
        ·rw[hl]at h3;cases h3
        ·omega
      have hJ:JSt J:=by
       rintro rest h W h' W' ⟨s,bk,sv,iv,hg,he,SJ,hl,hB,ww,hW⟩ hle IU hn hb;obtain⟨k1,k2⟩:=ztF (by rw[hW];simp) hl hn hb;exact⟨s,bk,sv,iv,hg,he,SJ.world hle IU hn hb,k1,hB,ww,by rw[k2];exact hW⟩
      have hJx:JSt Jx:=by
       rintro rest h W h' W' ⟨s,bk,sv,iv,c,hc,SJ,hl,hB,ww,hW⟩ hle IU hn hb;obtain⟨k1,k2⟩:=ztF (by rw[hW];simp) hl hn hb;exact⟨s,bk,sv,iv,c,hc,SJ.world hle IU hn hb,k1,hB,ww,by rw[k2];exact hW⟩
      have hBl:B<=l:=EW S1.bs hlw;have h0l:∀{h:Fz} {bk sv iv} {s:St} {W:World},cO P aQ.nt B w0 h0 ⟨h,bk,sv,iv⟩ s a1 W->h l=none->h0 l=none:=λSJ hl=>by
       cases hx:h0 l with
       | none=>rfl
       | some o=>have:=SJ.le0 l o hx;simp only[hl]at this;cases this
      have zPV:∀L o,lk s.aB L=some o->¬gW (g1.re h1) L o l:=λL o ho hk=>by
       have:gW g1 L o l:=hk;have:=iI (S1.obj L o ho) this;omega
      have zBt:=gp.it gf (caps.map .one) ys hit l J Jx (λe W=>∃ch s bk sv iv h,e=.panicked ch/\K (.panic ch) s/\cO P aQ.nt B w0 h0 ⟨h,bk,sv,iv⟩ s a1 W) w1 h1 cv hJ hJx ?_ ⟨s,g1.bk,g1.sv,g1.iv,zKG,FV hs,S2,hn1,hBl,zPV,hl1⟩ (Zx ((KN l2 EH).mono λ_ _ h=>h.mono zXP)) S2.hw
      ·obtain ⟨fO, zXs⟩ := zBt;refine⟨l,mark,w1,{ target:=.fn (.func gf) cv.toArray,args:=#[.func (.yield l) #[] #[]] },w1,gf,(.func (.yield l) #[] #[] :: cv).toArray,w1,?_,?_,?_,(J8 zXs).mono ?_⟩
       ·exact dA
       ·simp only [resolve,NM];simp[go_sem]
       ·simp only [invoke];rw[show(#[.func (.yield l) #[] #[]]++cv.toArray)=(.func (.yield l) #[] #[]::cv).toArray by simp];exact eG fO
       ·have col:∀d∈a1.defers,d∈a0.defers\/∃b,d.target=.collected b:=λd hd=>by
         rcases dU.1 hd with hd|hd
         ·exact .inr (zE2 d hd)
         ·exact kX.2.2.2 d hd
        rintro e W3 (⟨v,h3,rfl,zKA,hw3,(⟨s3,bk,sv,iv,hg3,he3,S3,hl3,hB3,zwE,hW3⟩|⟨_,s3,bk,sv,iv,c,hc,S3,hl3,hB3,zwE,hW3⟩)⟩|⟨⟨ch,rfl⟩,ch',s3,bk,sv,iv,h3,e3,hK3,S3⟩)
        ·have S4:=S3.putObj (.loop {rec_ .ready none with state := .exhausted}) hl3 hB3 zwE;refine⟨none,_,run_endLoop hW3 (by simp[rec_]),_,s3,hg3,S4,kX.1,kX.2.1,λhr=>absurd (hD G7 lq) hr,col⟩
        ·have S4 := S3.putObj (.loop { rec_ .done (some c) with state := .exhausted }) hl3 hB3 zwE;refine⟨some c,_,run_endLoop hW3 (by simp[rec_]),?_⟩;rcases hc with ⟨rfl,hc⟩ | ⟨id,rfl,hc⟩
         ·exact zb2 ⟨_,s3,hc,S4,kX.1,kX.2.1,λhr=>absurd (hD G7 lq) hr,col⟩
         ·exact V5 ⟨_,s3,hc,S4,kX.1,kX.2.1,λhr=>absurd (hD G7 lq) hr,col⟩
        ·cases e3;exact⟨_,s3,hK3,S3,kX.1,kX.2.1,λhr=>absurd (hD G7 lq) hr,col⟩
      ·-- one round
       rintro yv rest h W us ⟨s,bk,sv,iv,hg,hek,SJ,hl,_,ww,hW⟩ NL hHw n';simp only[V8]at hg;split at hg
       ·rename_i env za3;have iC:l<W.heap.size:=(UV.1 hW).1;have z4i:=h0l SJ hl;have SJ2:=SJ.up.hide hl hW hBl ww;have zsI:jV h (h.add l (.loop (rec_ .ready none))):=Fz.le_add hl;have zPW:∀p∈ps.toList,p<a.tmps.size:=λp hp=>by
         have:=Aa.1 zPU p hp;exact qdF (by simpa [qjy]using this) SJ.size
        obtain⟨hul,zE3⟩:=zb1 (g:=(⟨h.add l (.loop (rec_ .ready none)),bk,sv,iv⟩:Gh)) 0 ps.toList yv us s.env env a.tmps za3 (NL.mono λp q hpq=>by
         cases p with
         | one v=>exact Rep.mono zsI hpq
         | agg cs=>obtain⟨vs,h5,h6⟩:=hpq;exact⟨vs,h5,h6.mono λ_ _=>Rep.mono zsI⟩) zPW (λt d ht=>SJ2.env t d ht)
        have zPX:(ps.zip us.toArray).foldl (λtmps (t,a)=>tmps.setIfInBounds t a) a.tmps=(ps.toList.zip us).foldl (λt (p,v)=>t.setIfInBounds p v) a.tmps:=by
         rw[<- Array.foldl_toList,Array.toList_zip]
        let ar:Act:={tmps:=(ps.toList.zip us).foldl (λt (p,v)=>t.setIfInBounds p v) a.tmps,defers:=[]};have Sr:cO P aQ.nt B w0 (h.add l (.loop (rec_ .ready none))) ⟨h.add l (.loop (rec_ .ready none)),bk,sv,iv⟩ ⟨env,s.aB,[]⟩ ar W:=by
         have Sa:=(SJ2.envs (env:=[]) (λt d ht=>by simp[lk]at ht) (λt d ht=>by simp[lk]at ht) []).act (a':=ar) (Marks.nil _ _) (by rw[show ar.tmps.size=a.tmps.size from fold_size _ _];exact SJ.size) (λt d ht=>by simp[lk]at ht);exact Sa.envs zE3 (λt d ht L hL=>by
          rcases Qn _ _ _ _ za3 t d ht with h5|h5
          ·exact SJ.clE t d h5 L hL
          ·rw[h5]at hL;simp at hL) []
        have hrd:∀st pe,Rnd (some l) (h.add l (.loop (rec_ st pe))):=λst pe l' e=>by cases e;exact⟨_,Fz.add_same⟩
        refine⟨_,_,_,_,by rw[run_yield (P:=P) (args:=us.toArray) hW (by simp[rec_,hul]),zPX],LG ?_⟩;show Dt (some l) n' P x _ ar W;refine o8 (ihx (some l) n' _ (eH x++eH y) ar _ _ _ ar W (λt ht=>dU.2 (.inl ht)) (hrd _ _) hg Sr (Kp.refl _ _)) ?_;rintro e a' w' ⟨g2,σ2,hK2,S2,znO⟩;cases e with
        | normal =>
         simp only[zdy]at hK2;obtain⟨_,zE4,Yw,S3⟩:=S2.unhide hBl hl rfl (λds=>by simp);refine⟨_,run_beginRound Yw rfl,?_⟩;have S4:=S3.putObj (.loop {rec_ .ready none with state:=.busy}) Fz.del_same hBl zE4;have hw4:(w'.putObj l (.loop {rec_ .ready none with state:=.busy})).heap[l]? = some (.loop (rec_ .busy none)):=World.putObj_heap_same (UV.1 Yw).1;have S5:=S4.hide (o:=.loop (rec_ .busy none)) Fz.del_same hw4 hBl zE4;show Dt (some l) n' P y _ a' _;refine o8 (YT (some l) n' _ (eH x++eH y) ar _ σ2 _ a' _ (λt ht=>dU.2 (.inr ht)) (hrd _ _) hK2 S5 znO) ?_;rintro e a5 w5 ⟨g6,σ6,UH,S6,zE5⟩
         have back:∀s7,canon P k σ6=some s7->∃(w5l:w5.heap[l]? = some (.loop (rec_ .busy none)))(h':Fz)(bk sv:_)(iv:Nat->Nat->Value),jV h h'/\h' l=none /\
           ∀o',cO P aQ.nt B w0 h0 ⟨h',bk,sv,iv⟩ s7 a1 (w5.putObj l o')/\(∀L o,lk s7.aB L=some o->¬gW ⟨h',bk,sv,iv⟩ L o l):=by
          intro s7 hs7;obtain⟨g7,S7⟩:=eQ hs7 S6;obtain⟨_,zE6,hw8,S8⟩:=S7.unhide hBl hl rfl (λds=>by simp);have zE7:jV h (g7.h.del l):=S8.le0;refine⟨hw8,g7.h.del l,g7.bk,g7.sv,g7.iv,zE7,Fz.del_same,λo'=>⟨?_,zE6⟩⟩;have S9:=(S8.putObj o' Fz.del_same hBl zE6).down (h0:=h0) SJ.le0 SJ.hn;refine S9.act (SJ.dfr.mono zE7) SJ.size λt d ht=>?_;obtain⟨h10,h11⟩:=EI t (FV hs7 t d ht);have h12:=zE5.1 t h11;have h13:ar.tmps.getD t undef=a.tmps.getD t undef:=Lu _ _ _ λq hq e=>h10 (e▸(List.of_mem_zip hq).1);have:=S9.env t d ht;rw[h12,h13]at this;exact this
         cases e with
         | normal =>
          simp only[uw]at UH;split at UH
          ·rename_i s7 hs7;obtain⟨w5l,h',bk',sv',iv',iq,zY,hS⟩:=back s7 hs7;have zh3:=(UV.1 w5l).1;refine⟨_,_,run_endRound none w5l,.inl ⟨h',iq,(hS _).1.hw,.inl ⟨rfl,s7,bk',sv',iv',UH,FV hs7,(hS _).1,zY,hBl,(hS (.loop (rec_ .ready none))).2,?_⟩⟩⟩;exact World.putObj_heap_same zh3
          ·exact UH.elim
         | ret =>
          simp only[uw]at UH;split at UH
          ·rename_i s7 hs7;obtain⟨w5l,h',bk',sv',iv',iq,zY,hS⟩:=back s7 hs7;have zh3:=(UV.1 w5l).1;refine⟨_,_,run_endRound (some .ret) w5l,.inl ⟨h',iq,(hS _).1.hw,.inr ⟨rfl,s7,bk',sv',iv',.ret,.inl ⟨rfl,UH⟩,(hS _).1,zY,hBl,(hS (.loop (rec_ .ready none))).2,?_⟩⟩⟩;exact World.putObj_heap_same zh3
          ·exact UH.elim
         | exit id =>
          simp only[uw]at UH;split at UH
          ·rename_i s7 hs7;obtain⟨w5l,h',bk',sv',iv',iq,zY,hS⟩:=back s7 hs7;have zh3:=(UV.1 w5l).1;refine⟨_,_,run_endRound (some (.exit id)) w5l,.inl ⟨h',iq,(hS _).1.hw,.inr ⟨rfl,s7,bk',sv',iv',.exit id,.inr ⟨id,rfl,UH⟩,(hS _).1,zY,hBl,(hS (.loop (rec_ .ready none))).2,?_⟩⟩⟩;exact World.putObj_heap_same zh3
          ·exact UH.elim
         | goto q=>exact UH.elim
         | panic ch =>
          simp only[uw]at UH;split at UH
          ·rename_i hnp hs7;obtain⟨w5l,h',bk',sv',iv',iq,zY,hS⟩:=back _ hs7;have hr:G7∉eH x++eH y:=by
            have:=Aa.1 hnp G7 (by simp);simpa using this
           refine⟨zE5.2.2.1 hr,.inr ⟨⟨ch,rfl⟩,ch,_,bk',sv',iv',h',rfl,UH,?_⟩⟩;have:=(hS (.loop (rec_ .busy none))).1;rwa[V9 w5l]at this
          ·exact UH.elim
         | outgrown=>exact UH.elim
        | exit id=>exact hK2.elim
        | goto q=>exact hK2.elim
        | ret=>exact hK2.elim
        | panic ch=>exact hK2.elim
        | outgrown=>exact hK2.elim
       ·exact hg.elim
    ·exact h.elim
   ·exact h.elim
  ·exact h.elim
 ·exact h.elim
theorem LH(gp:jw P Γ)(aQ:dK):∀(c:Code),Snd P Γ aQ B w0 c:=by
 intro c
 induction c with
 | skip=>intro r n h0 D a0 K σ g a w _ _ h S kX;exact zhU ⟨g,σ,h,S,kX⟩
 | region id ops draw =>
  intro r n h0 D a0 K σ g a w hD _ h S kX;simp only[vc]at h;split at h
  ·exact Qo gp aQ hD h S kX λg' σ' a' w' hK S' jJ _=>⟨g',σ',hK,S',jJ⟩
  ·rename_i hp;have hdr:draw=false:=by cases draw <;> simp_all
   subst hdr;exact ZY gp aQ hD h S kX
 | seq x y ihx YT =>
  intro r n h0 D a0 K σ g a w hD hR h S kX;refine znM (o8 (ihx r n h0 D a0 _ σ g a w (λt ht=>hD t (dU.2 (.inl ht))) hR h S kX) ?_);have hDy:∀t∈eH y,t∈D:=λt ht=>hD t (dU.2 (.inr ht));rintro e a' w' ⟨g',σ',hK,S',jJ⟩;cases e with
  | normal =>
   simp only[zdy,znb]at hK;split at hK
   ·split at hK
    ·rename_i s hs;obtain⟨g2,S2⟩:=eQ hs S';exact YT r n h0 D a0 K s g2 a' w' hDy hR hK S2 jJ
    ·exact hK.elim
   ·exact YT r n h0 D a0 K σ' g' a' w' hDy hR hK S' jJ
  | exit id=>exact⟨g',σ',hK,S',jJ⟩
  | goto l=>exact⟨g',σ',hK,S',jJ⟩
  | ret=>exact⟨g',σ',hK,S',jJ⟩
  | panic ch=>exact⟨g',σ',hK,S',jJ⟩
  | outgrown=>exact⟨g',σ',hK,S',jJ⟩
 | cond c x y ihx YT =>
  intro r n h0 D a0 K σ g a w hD hR h S kX;simp only[vc]at h;split at h
  ·rename_i t ht;have hv:=vz S ht;have hS:∀b,t=b->cO P aQ.nt B w0 h0 g (xI σ c b) a w:=by
    intro b hb;cases c with
    | tmp q =>
     refine S.env' (t:=q) (d:=.bool b) ?_ (kH _);have:a.tmps.getD q undef=.bool t:=hv;rw[this,hb];exact .bool b
    | _=>exact S
   have h2:=qW.1 h;refine zhV hv ?_;cases t with
   | true=>exact ihx r n h0 D a0 K _ g a w (λt ht=>hD t (dU.2 (.inl ht))) hR (h2.1 rfl) (hS true rfl) kX
   | false=>exact YT r n h0 D a0 K _ g a w (λt ht=>hD t (dU.2 (.inr ht))) hR (h2.2 rfl) (hS false rfl) kX
  ·exact h.elim
 | block id b ih =>
  intro r n h0 D a0 K σ g a w hD hR h S kX;refine zd6 (o8 (ih r n h0 D a0 _ σ g a w hD hR h S kX) ?_);rintro e a' w' ⟨g',σ',hK,S',jJ⟩;cases e with
  | exit j =>
   simp only[Zi]at hK;simp only[Exit.inBlock];split at hK
   ·rename_i hj;rw[eX (kL hj)];exact⟨g',σ',hK,S',jJ⟩
   ·rename_i hj;rw[fB (qde hj)];exact⟨g',σ',hK,S',jJ⟩
  | normal=>exact⟨g',σ',hK,S',jJ⟩
  | goto l=>exact⟨g',σ',hK,S',jJ⟩
  | ret=>exact⟨g',σ',hK,S',jJ⟩
  | panic ch=>exact⟨g',σ',hK,S',jJ⟩
  | outgrown=>exact⟨g',σ',hK,S',jJ⟩
 | loop b ih =>
  intro r n h0 D a0 K σ g a w hD hR h S kX;simp only[vc]at h;split at h
  ·rename_i k hk;split at h
   ·rename_i s hs;obtain⟨g1,S1⟩:=eQ hs S;refine Ia ?_;have key:=h (λ s=>∀ g a w,cO P aQ.nt B w0 h0 g s a w->Kp D a0 a->V6 r n P b (PostR P aQ.nt B w0 h0 D a0 K) a w) ?_
    ·exact key g1 a w S1 kX
    ·intro s hs g a w S kX;refine Ib (o8 (ih r n h0 D a0 _ s g a w hD hR hs S kX) ?_);rintro e a' w' ⟨g',σ',hK,S',jJ⟩;cases e with
     | normal =>
      simp only[zg2,hk]at hK;split at hK
      ·rename_i s2 hs2;obtain⟨g2,S2⟩:=eQ hs2 S';exact hK g2 a' w' S2 jJ
      ·exact hK.elim
     | exit id=>exact⟨g',σ',hK,S',jJ⟩
     | goto l=>exact⟨g',σ',hK,S',jJ⟩
     | ret=>exact⟨g',σ',hK,S',jJ⟩
     | panic ch=>exact⟨g',σ',hK,S',jJ⟩
     | outgrown=>exact⟨g',σ',hK,S',jJ⟩
   ·exact h.elim
  ·split at h
   ·rename_i m k hk;have key:∀(m:Nat)(σ:St)(g:Gh)(a:Act)(w:World),zdz P k (vc P Γ aQ b) m K σ->cO P aQ.nt B w0 h0 g σ a w->Kp D a0 a->V6 r n P b (PostR P aQ.nt B w0 h0 D a0 K) a w:=by
     intro m
     induction m with
     | zero=>intro σ g a w h;exact h.elim
     | succ m ihm =>
      intro σ g a w h S kX;simp only[zdz]at h;split at h
      ·rename_i s hs;obtain⟨g1,S1⟩:=eQ hs S;refine Ib (o8 (ih r n h0 D a0 _ s g1 a w hD hR h S1 kX) ?_);rintro e a' w' ⟨g',σ',hK,S',jJ⟩;cases e with
       | normal=>exact ihm σ' g' a' w' hK S' jJ
       | exit id=>exact⟨g',σ',hK,S',jJ⟩
       | goto l=>exact⟨g',σ',hK,S',jJ⟩
       | ret=>exact⟨g',σ',hK,S',jJ⟩
       | panic ch=>exact⟨g',σ',hK,S',jJ⟩
       | outgrown=>exact⟨g',σ',hK,S',jJ⟩
      ·exact h.elim
    exact Ia (key m σ g a w h S kX)
   ·exact h.elim
 | exit id=>intro r n h0 D a0 K σ g a w _ _ h S kX;exact V5 ⟨g,σ,h,S,kX⟩
 | scope b ih =>
  intro r n h0 D a0 K σ g a w hD hR h S kX;refine zd7 (o8 (ih r n h0 D a0 _ σ g a w hD hR h S kX) ?_);rintro e a' w' ⟨g',σ',hK,S',jJ⟩;cases e with
  | goto l=>exact hK
  | normal=>exact⟨g',σ',hK,S',jJ⟩
  | exit l=>exact⟨g',σ',hK,S',jJ⟩
  | ret=>exact⟨g',σ',hK,S',jJ⟩
  | panic ch=>exact⟨g',σ',hK,S',jJ⟩
  | outgrown=>exact⟨g',σ',hK,S',jJ⟩
 | label l=>intro r n h0 D a0 K σ g a w _ _ h S kX;exact zd5 ⟨g,σ,h,S,kX⟩
 | ret=>intro r n h0 D a0 K σ g a w _ _ h S kX;exact zb2 ⟨g,σ,h,S,kX⟩
 | rangeFunc f ps x y ihx YT=>exact We gp ihx YT
 | goto l=>intro r n h0 D a0 K σ g a w _ _ h S;exact h.elim
 | refuse s=>intro r n h0 D a0 K σ g a w _ _ h S;exact h.elim
end
end Go.Pm
namespace Go.Pm
variable [aJ]
open Go.RowKit (Below)
section
variable{P:Program}{Γ:bU}
theorem rC:∀(args:List PA)(i t:Nat)(d:DV),lk (jk i args) t=some d→∃x,args[t-i]? = some x∧i≤t∧d = .one (I5 x)
  | [],i,t,d,h=>by simp[jk,lk]at h
  | x::r,i,t,d,h=>by
    simp only[jk]at h;rw[aZ]at h;split at h
    · rename_i e;simp only[bW]at h;subst e;exact⟨x,by simp,kC _,h.symm⟩
    · rename_i e;obtain⟨y,h1,h2,h3⟩:=rC r (i+1) t d h;refine⟨y,?_,omY,h3⟩;rw[show t-i=(t-(i+1))+1 by omega,Y9];exact h1
def resV(tmps:Array Value):ResultVar→Sem Value
  | .tmp t=>pure (tmps.getD t undef)
  | .cell b t=>do loadVar t (<- asAddr (tmps.getD b undef))
theorem LJ{w:World}(x:Addr):(asAddr (.pointer (some x))).run P w=.ok x w:=rfl
theorem FY{nt B:Nat}{w0:World}{h0:Fz}{g:Gh}{σ:St}{a:Act}{w:World}(S:cO P nt B w0 h0 g σ a w):∀(rs:List ResultVar)(l:List PA),kT P σ rs=some l ->
  ∃(u:mF)(vs:List Value),fE (lk σ.aB) u /\
   (rs.mapM (resV a.tmps)).run P w=.ok vs w /\
   ∀(u':mF)(h':Fz),(∀y∈u,y∈u')->fK g (lk σ.aB) u' h'->RL (nU h') l vs
 | [],l,h=>by
  simp[kT]at h;subst h;exact⟨[],[],fE.nil _,rfl,λ_ _ _ _=>trivial⟩
 | .tmp t::r,l,h=>by
  simp only[kT]at h;split at h
  ·rename_i d hd;split at h
   ·rename_i x u1 l2 h1 h2;simp only[bW]at h;subst h;obtain⟨u2,vs,hu2,dA,hr⟩:=FY S r l2 h2;refine⟨u1++u2,a.tmps.getD t undef::vs,(CQ h1).append hu2,?_,λu' h' hu F=>⟨F.repD h1 (λy hy=>hu y (dU.2 (.inl hy))) (S.env t d hd),hr u' h' (λy hy=>hu y (dU.2 (.inr hy))) F⟩⟩;rw[qj3];simp only[resV,Sem.run_bind,Sem.run_pure,Result.andThen_ok];rw[dA];rfl
   ·cases h
  ·cases h
 | .cell t ty::r,l,h=>by
  simp only[kT]at h;split at h
  ·rename_i L off ag m ht hg hs;split at h
   ·rename_i YX cells hL;split at h
    ·rename_i d hd;split at h
     ·rename_i x u1 l2 h1 h2;simp only[bW]at h;subst h;obtain⟨u2,vs,hu2,dA,hr⟩:=FY S r l2 h2;obtain⟨C,hC,Um⟩:=S.obj L _ hL;obtain⟨v,Yx,hv⟩:=J9 (P:=P) hg hs hC 0 (λj y hj=>by obtain⟨v,hv,QI⟩:=Um.get j y hj;exact⟨v,by simpa using hv,QI⟩) hd;have hp:a.tmps.getD t undef=.pointer (some ⟨g.bk L,off,none⟩):=S.env t _ ht;rw[NV]at Yx;refine⟨u1++u2,v::vs,(CQ h1).append hu2,?_,λu' h' hu F=>⟨F.repD h1 (λy hy=>hu y (dU.2 (.inl hy))) hv,hr u' h' (λy hy=>hu y (dU.2 (.inr hy))) F⟩⟩;have h1:(resV a.tmps (.cell t ty)).run P w=.ok v w:=by
       simp only[resV,Sem.run_bind,hp,LJ,Result.andThen_ok,Yx]
      rw[qj3];simp only[Sem.run_bind,h1,Result.andThen_ok];rw[dA];rfl
     ·cases h
    ·cases h
   ·cases h
  ·cases h
theorem Ih{nt B:Nat}{w0:World}{h0:Fz}{g:Gh}{σ:St}{a:Act}{w:World}(S:cO P nt B w0 h0 g σ a w){fn:Func}{l:List PA}(h:kT P σ fn.results.toList=some l) :
  ∃(u:mF)(v:Value),fE (lk σ.aB) u/\(results fn a.tmps).run P w=.ok v w/\∀(h':Fz),fK g (lk σ.aB) u h'->qK h' l v:=by
 obtain⟨u,vs,hu,dA,hr⟩:=FY S fn.results.toList l h;refine⟨u,if h:vs.toArray.size=1 then vs.toArray[0]else .tuple vs.toArray,hu,?_,λh' F=>?_⟩
 ·have e:results fn a.tmps=(do let vs ← fn.results.mapM (resV a.tmps);pure (if h:vs.size=1 then vs[0]else .tuple vs)):=rfl;rw[e,qj4];simp only[Sem.run_bind,Sem.run_map];rw[dA];simp only[Result.andThen_ok,Sem.run_pure]
 ·have nT := hr u h' (fun y hy => hy) F
  match l,vs,nT with
  | [],[],_=>exact⟨[],rfl,trivial⟩
  | [x],[v],nT=>exact nT.1
  | x::y::l,v::v2::vs,nT =>
   refine⟨v::v2::vs,?_,nT⟩;rw[dif_neg (by simp)]
  | [],_::_,nT=>exact nT.elim
  | [_],[],nT=>exact nT.elim
  | [_],_::_::_,nT=>exact nT.2.elim
  | _::_::_,[],nT=>exact nT.elim
  | _::_::_,[_],nT=>exact nT.2.elim
theorem cO.unmark{nt B:Nat}{w0:World}{h0:Fz}{g:Gh}{σ:St}{a:Act}{w:World}(S:cO P nt B w0 h0 g σ a w){D:Nat}{Ds:List (Nat ⊕ Deferred)}
    (zC:(lefts (.inl D::Ds)).Nodup) (hm:∀E,Sum.inl E∈.inl D::Ds->B<=E/\g.h E=some (.fz (.deferred (some [])))) (hi:∀d,Sum.inr d∈Ds->G8 P d) (Qm:∀b,h0 b=some (.fz (.deferred (some [])))->b<B) {ds:List Deferred} (OX:ds=Ds.map deD) :
    w.heap[D]? = some (.deferred (some []))/\cO P nt B w0 h0 (g.re (g.h.del D)) σ {a with defers:=ds} (w.putObj D (.deferred none)):=by
  obtain⟨hB,hb⟩:=hm D lq;have zlH:=(qdu.1 zC).1;have hl:V4 g.h (g.h.del D):=λk x hk hx=>by
    rw[Fz.del_other];exact hk;intro e;subst e;rw[hb]at hk;simp only[bW]at hk;subst hk;obtain⟨C,ty,fr,hx⟩:=hx;cases hx
  have ww:∀L x,lk σ.aB L=some x->¬gW g L x D:=λL x hL hk=>by have:=(S.own L x D hL hk).2;rw[hb]at this;cases this
  refine⟨S.hw.fz hb,?_⟩;have S1:cO P nt B w0 h0 (g.re (g.h.del D)) σ {a with defers:=ds} w:=by
    refine⟨⟨Ds,(qdu.1 zC).2,OX,λE hE=>⟨(hm E (jU _ hE)).1,?_⟩,hi⟩,S.size,λt d ht=>ZQ hl (S.env t d ht),λL x hL=>ZR hl (S.obj L x hL),λL x k hL hk=>?_,S.sep,?_,?_,?_,S.below,S.bs,S.clE,S.clO⟩
    · show g.h.del D E=_;rw[Fz.del_other (λe=>zlH (by rw[<- e];exact uY hE))];exact(hm E (jU _ hE)).2
    · obtain ⟨h1, h2⟩ := S.own L x k hL hk;refine⟨h1,?_⟩;show g.h.del D k=none;unfold Fz.del;split
      · rfl
      · exact h2
    · intro k x hk;have hk:g.h.del D k=some x:=hk;unfold Fz.del at hk;split at hk
      · cases hk
      · exact S.hw k x hk
    · intro k x hk;show g.h.del D k=some x;rw[Fz.del_other (λe=>by
        subst e;have h1:=S.le0 _ _ hk;rw[hb]at h1;simp only[bW]at h1;rw[<- h1]at hk;have:=Qm _ hk;omega)];exact S.le0 k x hk
    · intro k x hk;have hk:g.h.del D k=some x:=hk;unfold Fz.del at hk;split at hk
      · cases hk
      · exact S.hn k x hk
  exact S1.putObj _ Fz.del_same hB ww
theorem zM{nt B:Nat}{w0:World}{h0:Fz}{σ:St}{fn:Func}{R:Ending→World→Prop}{n:Nat}(Qm:∀b,h0 b=some (.fz (.deferred (some [])))→b<B) :
  ∀(Ds:List (Nat ⊕ Deferred))(g:Gh)(a:Act)(w:World),(lefts Ds).Nodup->a.defers=Ds.map deD->(∀D,Sum.inl D∈Ds->B<=D/\g.h D=some (.fz (.deferred (some []))))->(∀d,Sum.inr d∈Ds->G8 P d)->cO P nt B w0 h0 g σ a w ->
   (∀g' a' w',a'.tmps=a.tmps->cO P nt B w0 h0 g' σ a' w'->∃v,(results fn a'.tmps).run P w'=.ok v w'/\R (.returned v) w')->LeavesInM (FR none) n P fn a.tmps R a.defers .returning w
 | [],g,a,w,_,ha,_,_,S,hR=>by
  rw[ha];exact hR g a w rfl S
 | .inl D::Ds,g,a,w,zC,ha,hm,hi,S,hR=>by
  obtain⟨h1,S1⟩:=S.unmark zC hm (λd hd=>hi d (jU _ hd)) Qm rfl;rw[ha,oU];refine⟨by simp,.inl ⟨D,_,rfl,run_takeDeferred h1,?_⟩⟩;have zlH:=(qdu.1 zC).1;exact zM Qm Ds _ {a with defers:=Ds.map deD} _ (qdu.1 zC).2 rfl (λE hE=>⟨(hm E (jU _ hE)).1,by
   show g.h.del D E=_;rw[Fz.del_other (λe=>zlH (by rw[<- e];exact uY hE))];exact(hm E (jU _ hE)).2⟩) (λd hd=>hi d (jU _ hd)) S1 (λg' a' w' ht=>hR g' a' w' ht)
 | .inr d::Ds,g,a,w,zC,ha,hm,hi,S,hR=>by
  obtain⟨fv,cap,f,args,h1,h2,h3⟩:=hi d lq;rw[ha,oU];refine⟨by simp,.inr ⟨(λh=>by cases h),fv,cap,f,args,h1,h2 w,(λ_ _=>trivial),?_⟩⟩;obtain⟨c1,c2⟩:=h3 (n-1) w;refine⟨c1,λc cs hc hr=>?_⟩;obtain⟨e,u',w',fr,hR',rest⟩:=c2 c cs hc hr;refine⟨e,u',w',fr,?_,rest⟩;obtain⟨⟨v,rfl⟩,rfl,rfl⟩:=hR';have IZ:∀D,Sum.inl D∈Ds->B<=D/\g.h D=some (.fz (.deferred (some []))):=λD hD=>hm D (jU _ hD);have kN:∀d,Sum.inr d∈Ds->G8 P d:=λd hd=>hi d (jU _ hd);exact zM Qm Ds g {a with defers:=Ds.map deD} _ zC rfl IZ kN (S.act ⟨Ds,zC,rfl,IZ,kN⟩ S.size S.env) (λg' a' w' ht=>hR g' a' w' ht)
theorem zb4{nt B:Nat}{w0:World}{h0:Fz}{σ:St}{fn:Func}{R:Ending→World→Prop}{n:Nat}{ch:List PanicEntry}(Qm:∀b,h0 b=some (.fz (.deferred (some [])))→b<B) :
  ∀(Ds:List (Nat ⊕ Deferred))(g:Gh)(a:Act)(w:World),(lefts Ds).Nodup->a.defers=Ds.map deD->(∀D,Sum.inl D∈Ds->B<=D/\g.h D=some (.fz (.deferred (some []))))->(∀d,Sum.inr d∈Ds->False)->cO P nt B w0 h0 g σ a w ->
   (∀g' a' w',a'.tmps=a.tmps->cO P nt B w0 h0 g' σ a' w'->R (.panicked ch) w')->LeavesInM (FR none) n P fn a.tmps R a.defers (.panicking ch) w
 | [],g,a,w,_,ha,_,_,S,hR=>by
  rw[ha];exact hR g a w rfl S
 | .inl D::Ds,g,a,w,zC,ha,hm,hi,S,hR=>by
  have kN:∀d,Sum.inr d∈Ds->False:=λd hd=>hi d (jU _ hd);obtain⟨h1,S1⟩:=S.unmark zC hm (λd hd=>(kN d hd).elim) Qm rfl;rw[ha,oU];refine⟨by simp,.inl ⟨D,_,rfl,run_takeDeferred h1,?_⟩⟩;have zlH:=(qdu.1 zC).1;exact zb4 Qm Ds _ {a with defers:=Ds.map deD} _ (qdu.1 zC).2 rfl (λE hE=>⟨(hm E (jU _ hE)).1,by
   show g.h.del D E=_;rw[Fz.del_other (λe=>zlH (by rw[<- e];exact uY hE))];exact(hm E (jU _ hE)).2⟩) kN S1 (λg' a' w' ht=>hR g' a' w' ht)
 | .inr d::Ds,g,a,w,zC,ha,hm,hi,S,hR=>(hi d lq).elim
theorem Qp{nt:Nat}{args:List PA}{w:World}{h0:Fz}{vs:List Value}{m:Nat}(EG:nt=m)(hlen:args.length≤nt)(jK:RL (nU h0) args vs)(Oa:Hw h0 w) :
  cO P nt w.heap.size w h0 ⟨h0,λ_=>0,λ_=>undef,λ_ _=>undef⟩ ⟨jk 0 args,[],[]⟩ {tmps:=vs.toArray++Array.replicate (m-vs.toArray.size) undef,defers:=[]} w:=by
 have hl:=jK.length;refine⟨Marks.nil _ _,by simp;omega,?_,λL o ho=>by simp[lk]at ho,λL o b ho=>by simp[lk]at ho,λL o b L' o' ho=>by simp[lk]at ho,Oa,λ_ _ h=>h,λb o h=>.inl h,xJ.refl _ _ _,kC _,?_,λL o ho=>by simp[lk]at ho⟩
 ·intro t d ht;obtain⟨x,hx,_,rfl⟩:=rC args 0 t d ht;obtain⟨v,hv,xQ⟩:=jK.get t x (by simpa using hx);have iC:=(AY.1 hv).1;have:(vs.toArray++Array.replicate (m-vs.toArray.size) undef).getD t undef=v:=by
   rw[xX,qdh (by simpa using iC)];simp[hv]
  rw[this];exact KL (g:=⟨h0,λ_=>0,λ_=>undef,λ_ _=>undef⟩) xQ
 ·intro t d ht L hL;obtain⟨x,hx,_,rfl⟩:=rC args 0 t d ht;rw[show df (.one (I5 x))=dE (I5 x)from rfl,wK]at hL;simp at hL
theorem Qq{G:bU}(gp:jw P G){f:FuncId}{aQ:dK}{args:List PA}{Kx:Func→Exit→St→Prop}{w:World}{h0:Fz}{vs:List Value}{R:Ending→World→Prop}{fn:Func}{c:Code}
    (uh:P.funcs[f]? = some fn) (sG:fn.body=some c) (EG:aQ.nt=fn.ntmps) (hlen:args.length<=aQ.nt) (hv:vc P G aQ c (Kx fn) ⟨jk 0 args,[],[]⟩) (jK:RL (nU h0) args vs) (Oa:Hw h0 w)
    (pG:∀e σ g a w',Kx fn e σ->cO P aQ.nt w.heap.size w h0 g σ a w'->(e=.normal\/e=.ret)/\∃v,(results fn a.tmps).run P w'=.ok v w'/\R (.returned v) w'):Calls P f vs.toArray w R:=by
  have S:=Qp (P:=P) EG hlen jK Oa;have hwp:=LH (B:=w.heap.size) (w0:=w) gp aQ c none 0 h0 (eH c) _ (Kx fn) _ _ _ _ (λ_ h=>h) (Rnd.none h0) hv S (Kp.refl _ _);refine(callsIn_wide (n:=0)).1 ?_;refine callsIn_of_wp_marks (F:=FR none) uh sG trivial (wpIn_mono (ry hwp) ?_);have Qm:∀b,h0 b=some (.fz (.deferred (some [])))->b<w.heap.size:=λb h=>Oa.lt h;rintro e a' w' ⟨g',σ',xA,S',_⟩;have fin:LeavesInM (FR none) 0 P fn a'.tmps R a'.defers .returning w':=by
    obtain⟨Ds,h1,h2,h3,h4⟩:=S'.dfr;exact zM Qm Ds g' a' w' h1 h2 h3 h4 S' λg2 a2 w2 _ S2=>(pG e σ' g2 a2 w2 xA S2).2
  rcases(pG e σ' g' a' w' xA S').1 with rfl|rfl
  · exact fin
  · exact fin
theorem znP{G:bU}(gp:jw P G){f:FuncId}{args:List PA}{K:List PA→Prop}{aQ:dK}(hv:vcFun P G aQ f args K){w:World}{h0:Fz}{vs:List Value}(jK:RL (nU h0) args vs)(Oa:Hw h0 w) :
  Calls P f vs.toArray w λ e w'=>∃ (h':Fz) (rs:List PA) (v:Value),K rs/\e=.returned v/\qK h' rs v/\xJ h0 w.heap.size w w' /\
   jV h0 h'/\Hw h' w'/\∀b o,h' b=some o->h0 b=some o\/w.heap.size<=b:=by
 unfold vcFun at hv;split at hv
 ·rename_i fn uh;split at hv
  ·rename_i c sG;split at hv
   ·rename_i EG;simp only[gG,Uz] at EG;refine Qq (G:=G) gp (Kx:=λ fn=>zg3 P fn K) uh sG (kL EG.1) EG.2 hv jK Oa ?_;intro e σ' g' a' w' xA S'
    have fin:Bd P fn K σ'->∃v,(results fn a'.tmps).run P w'=.ok v w' /\
      (∃(h':Fz)(rs:List PA)(v_1:Value),K rs/\Ending.returned v=.returned v_1/\qK h' rs v_1/\xJ h0 w.heap.size w w'/\jV h0 h'/\Hw h' w'/\∀b o,h' b=some o->h0 b=some o\/w.heap.size<=b):=by
     intro hf;unfold Bd at hf;split at hf
     ·rename_i l hl;obtain⟨u,v,hu,dA,oI⟩:=Ih S' hl;obtain⟨h',S2,F⟩:=S'.freeze hu;exact⟨v,dA,h',l,v,hf,rfl,oI h' F,S2.below,S2.le0,S2.hw,S2.hn⟩
     ·exact hf.elim
    cases e with
    | normal=>exact⟨.inl rfl,fin xA⟩
    | ret=>exact⟨.inr rfl,fin xA⟩
    | exit id=>exact xA.elim
    | goto l=>exact xA.elim
    | panic ch=>exact xA.elim
    | outgrown=>exact xA.elim
   ·exact hv.elim
  ·exact hv.elim
 ·exact hv.elim
theorem zh4{G:bU}(gp:jw P G){f:FuncId}{C:List PA→ae (List PA)}(hc:dD P f)
    (h:∀args rs,(C args).o=some rs->∃vv aQ,vcFun P {G with vv:=vv} aQ f args λQH=>QH=rs):Ok P f C:=by
  intro args rs hK w h0 vs jK Oa;obtain⟨vv,aQ,hv⟩:=h args rs hK;refine⟨hc,(znP (G:={G with vv:=vv}) ⟨gp.mt,gp.fn,gp.own,gp.it,gp.cmp⟩ hv jK Oa).mono ?_⟩;rintro e w' ⟨h',QH,v,rfl,he⟩;exact⟨h',v,he⟩
end
end Go.Pm
namespace Go.Pm
variable [aJ]
open Go.RowKit (Below)
section
variable{P:Program}{Γ:bU}{nt:Nat}{n:Nat}
theorem zh5{o:Oper}{a:Act}{w w':World}{R:Act→World→Prop}{Q:Exit→Act→World→Prop}(zC:∀c,o.op ≠ .defer c){l f:Nat}{tmps:Array Value}{x y:Code}(h:(execOp a.eval o).run P w = .ok (.round l f tmps x y) w')
    (hR:RoundIn Fence.wide (n-1) P l f tmps x y w' λe zZ=>(∃v,e=.returned v/\R (a.put o.dst v) zZ)\/∃ch,e=.panicked ch/\Q (.panic ch) a zZ):o.wpIn (FR none) n P a w R Q:=by
  refine⟨λ_ _=>trivial,?_⟩;rw[Oper.semAt_eq _ _ _ zC,h,Oper.uponIn_round];refine⟨λh=>by simp[FR]at h,?_⟩;have hR':RoundIn (FR none) (n-1) P l f tmps x y w' λe zZ=>(∃v,e=.returned v/\R (a.put o.dst v) zZ)\/∃ch,e=.panicked ch/\Q (.panic ch) a zZ:=hR;refine hR'.mono ?_;rintro e zZ (⟨v,rfl,hv⟩|⟨ch,rfl,hv⟩)
  · exact hv
  · exact hv
theorem Sv{h:Fz}{g:Gh}(hg:g.h=h):∀{ds:List DV}{l:List PA}{vs:List Value},rF ds=some l→RL (rH g) ds vs→RL (nU h) l vs
  | [],l,vs,h,hr=>by
    simp only[rF,bW]at h;subst h;cases vs with
    | nil=>trivial
    | cons=>exact hr.elim
  | d::ds,l,[],h,hr=>hr.elim
  | .one (.c (.p p))::ds,l,v::vs,h,hr=>by
    simp only[rF]at h;split at h
    · rename_i l' zY;simp only[bW]at h;subst h;refine⟨?_,Sv hg zY hr.2⟩;have:=hr.1;rw[<- hg];exact this
    · cases h
  | .one (.agg cs)::ds,l,v::vs,h,hr=>by
    simp only[rF]at h;split at h
    · rename_i l' m' hc IZ;simp only[bW]at h;subst h;refine⟨?_,Sv hg IZ hr.2⟩;obtain⟨us,rfl,NL⟩:=hr.1;rw[oz hc]at NL;have:=RL.map_left.1 NL;exact⟨us,rfl,by rw[<- hg];exact this⟩
    · cases h
  | .one (.c (.ptr _ _))::ds,l,v::vs,h,hr=>by simp[rF]at h
  | .one (.c (.vptr _ _ _ _))::ds,l,v::vs,h,hr=>by simp[rF]at h
  | .one (.c (.vec _))::ds,l,v::vs,h,hr=>by simp[rF]at h
  | .one (.c .undef)::ds,l,v::vs,h,hr=>by simp[rF]at h
  | .one (.c .junk)::ds,l,v::vs,h,hr=>by simp[rF]at h
  | .one (.c (.dead _))::ds,l,v::vs,h,hr=>by simp[rF]at h
  | .tup _::ds,l,v::vs,h,hr=>by simp[rF]at h
variable(J Jx:List (List PA)->Fz->World->Prop)
def JQ(q:Bool)(ys:List (List PA))(h:Fz)(w:World):Prop :=
 match q with
 | false=>J ys h w
 | true=>∃rest,Jx rest h w
structure YI (l : Nat) (a : Act) : Prop where
  d:a.defers=[]
  y:a.tmps.getD 0 undef=.func (.yield l) #[] #[]
theorem YI.put{l:Nat}{a:Act}(h:YI l a){dst:Option Nat}(hd:dst≠some 0){v:Value}{ds:List Deferred}(OX:(({a with defers:=ds}:Act).put dst v).defers=[]):YI l (({a with defers:=ds}:Act).put dst v):=by
 refine⟨OX,?_⟩;cases dst with
 | none=>exact h.y
 | some t =>
  have ht:t≠0:=λe=>hd (by rw[e]);have:=h.y;simpa [Act.put,xX,qdQ ht]using this
def zb5(P:Program)(nt l:Nat)(hs:Fz)(Rp:Ending->World->Prop)(K:YK):Exit->Act->World->Prop :=
 λe a' w'=>(∃ys q σ w0 h0 g,K e ys q σ/\cO P nt w0.heap.size w0 h0 g σ a' w'/\jV hs h0/\JQ J Jx q ys h0 w0/\YI l a')\/∃ch,e=.panic ch/\YI l a'/\Rp (.panicked ch) w'
variable {J Jx}
theorem JQ.later{q:Bool}{ys:List (List PA)}{h0:Fz}{w0:World}{g:Gh}{σ:St}{a:Act}{w:World}(hJ:JSt J)(hJx:JSt Jx)(h:JQ J Jx q ys h0 w0)(S:cO P nt w0.heap.size w0 h0 g σ a w):JQ J Jx q ys g.h w:=by
 cases q with
 | false=>exact hJ _ _ _ _ _ h S.le0 S.hw S.hn S.below
 | true=>obtain⟨rest,h⟩:=h;exact⟨rest,hJx _ _ _ _ _ h S.le0 S.hw S.hn S.below⟩
def YH(P:Program)(J Jx:List (List PA)->Fz->World->Prop)(Rp:Ending->World->Prop)(l:Nat):Prop :=
 ∀y rest h W us,J (y::rest) h W->RL (nU h) y us->Hw h W->∀n,∃fn tmps assign body,(Instr.yield l us.toArray).run P W=.ok (.round l fn tmps assign body) W /\
   RoundIn Fence.wide n P l fn tmps assign body W λe W'=>(∃h',jV h h'/\Hw h' W'/\((e=.returned (.bool true)/\J rest h' W')\/(e=.returned (.bool false)/\Jx rest h' W')))\/((∃ch,e=.panicked ch)/\Rp e W')
theorem rU{kl:List Nat}{l:List (Nat×DV)}:∀{ks:List Nat}{t:Nat}{d:DV},lk (wF kl l ks) t=some d→lk l t=some d∧∀L∈df d,L∈kl
  | [],t,d,h=>by simp[wF,lk]at h
  | k::ks,t,d,h=>by
    simp only[wF]at h;split at h
    · rename_i d' gu;split at h
      · rename_i hl;rw[aZ] at h;split at h
        · rename_i e;simp only[bW]at h;subst h;subst e;refine⟨gu,λL hL=>?_⟩;have:=Aa.1 hl L hL;simpa using this
        · exact rU h
      · exact rU h
    · exact rU h
theorem LK{ob:Nat→Option AO}:∀{ks:List Nat}{x:Nat×AO},x∈Pz ob ks→∃l,ob x.1=some (.fbox l)∧x.2 = .fbox l
  | [],x,h=>by simp[Pz]at h
  | k::ks,x,h=>by
    simp only[Pz]at h;split at h
    · rename_i l hk;rcases kR.1 h with rfl | h
      · exact⟨l,hk,rfl⟩
      · exact LK h
    · exact LK h
theorem Dw{σ:St}{L:Nat}{o:AO}(h:lk (JY σ) L=some o):∃l,o=.fbox l/\lk (Fp (lk σ.aB) (σ.aB.map (·.1))++σ.aB) L=some (.fbox l):=by
 unfold JY at h;rw[gX]at h ⊢;cases hb:lk (Fp (lk σ.aB) (σ.aB.map (·.1))) L with
 | some x =>
  rw[hb]at h;simp only[bW]at h;subst h;obtain⟨ty,cells,l,_,h2,_⟩:=Dj (fM hb);have h2:x=.fbox l:=h2;subst h2;exact⟨l,rfl,rfl⟩
 | none =>
  rw[hb]at h;simp only at h;obtain⟨l,h1,h2⟩:=LK (fM h);exact⟨l,h2,h1⟩
theorem zh {α : Type} : ∀ {l : List (Nat × α)} {L : Nat}, L ∈ l.map (·.1) → ∃ o, lk l L = some o
  | [],L,h=>by simp at h
  | (k,a)::r,L,h=>by
    rw[aZ];split
    · exact⟨a,rfl⟩
    · rename_i ja;simp only[oU,kR] at h;rcases h with rfl | h
      · exact absurd rfl ja
      · exact zh h
theorem zh6{σ:St}{o:Oper}{args:Array Operand}{t:Nat}(h:znc σ o=some (args,t)) :
  ∃f ts,o.op=.call {callee:=.value f,args,argTypes:=ts}/\o.dst=some t/\fU σ.env f=.cl (.vec U5)/\lk σ.env 0=some (.cl (.vec U5)):=by
 unfold znc at h;split at h
 ·rename_i f az ts t' bu hd;split at h
  ·rename_i hl;split at h
   ·rename_i h0;simp only[bW,gy]at h;obtain⟨rfl,rfl⟩:=h;exact⟨f,ts,bu,hd,hl,h0⟩
   ·cases h
  ·cases h
 ·cases h
theorem zb6{σ:St}{L:Nat}{o:AO}(h:lk ((U5,AO.gone)::JY σ) L=some o):(L=U5/\o=.gone)\/lk (JY σ) L=some o:=by
 rw[aZ]at h;split at h
 ·rename_i e;simp only[bW]at h;exact .inl ⟨e.symm,h.symm⟩
 ·exact .inr h
theorem Sz(gp:jw P Γ){Rp:Ending→World→Prop}{l:Nat}(hJ:JSt J)(hJx:JSt Jx)(hY:YH P J Jx Rp l){hs:Fz}{ops:Array Oper}{K:List (List PA)→Bool→St→Prop}{Q:Exit→Act→World→Prop}(hP:∀ch a w,YI l a→Rp (.panicked ch) w→Q (.panic ch) a w)
    (hQ:∀ys q σ w0 h0 g a w,K ys q σ->cO P nt w0.heap.size w0 h0 g σ a w->jV hs h0->JQ J Jx q ys h0 w0->YI l a->Q .normal a w) :
    ∀(lo:List Oper)(i:Nat)(ys:List (List PA))(q:Bool)(σ:St)(w0:World)(h0:Fz)(g:Gh)(a:Act)(w:World),(∀j,lo[j]? = ops[i+j]?)->(∀o∈lo,o.dst≠some 0)->lN P Γ nt ops lo K ys q σ ->
      cO P nt w0.heap.size w0 h0 g σ a w->jV hs h0->JQ J Jx q ys h0 w0->YI l a->wpOpsIn (FR none) n P ops Q (List.range' i lo.length) a w:=by
  intro lo
  induction lo with
  | nil=>intro i ys q σ w0 h0 g a w _ _ h S hle hj hd;exact hQ ys q σ w0 h0 g a w h S hle hj hd
  | cons o lo ih =>
    intro i ys q σ w0 h0 g a w hl hz h S hle hj EJ;have hz0:=hz o lq;have hz':∀o∈lo,o.dst≠some 0:=λo ho=>hz o (jU _ ho);have ho:ops[i]? = some o:=by have:=hl 0;simpa using this.symm
    have zY:∀j,lo[j]? = ops[i+1+j]?:=λj=>by have:=hl (j+1);rw[Y9]at this;rw[this];congr 1;omega
    simp only[Cc,YA,wpOpsIn,ho];have run:∀(σ:St),cO P nt w0.heap.size w0 h0 g σ a w->wG P Γ nt o (lN P Γ nt ops lo K) ys q σ->o.wpIn (FR none) n P a w (wpOpsIn (FR none) n P ops Q (List.range' (i+1) lo.length)) Q:=by
      clear h S;intro σ S h;unfold wG at h;split at h
      · rename_i args t hyl;obtain⟨f,ts,bu,GL,hf,hf0⟩:=zh6 hyl;split at h
        · rename_i y hy ht;obtain⟨rest,rfl,htr,hfa⟩:=h;have NM:a.eval f=.func (.yield l) #[] #[]:=by
            have h1:rH g _ (a.eval f):=S.ev f;rw[hf]at h1;have h2:=S.env 0 _ hf0;rw[EJ.y]at h2;have h1:a.eval f=g.sv U5/\_:=h1;have h2:Value.func (.yield l) #[] #[]=g.sv U5/\_:=h2;exact h1.1.trans h2.1.symm
          · obtain ⟨h1, S1, _⟩ := S.freeze (VQ (ob := lk σ.aB) (ks := σ.aB.map (·.1)));have hJn:J (y :: rest) h1 w:=hj.later hJ hJx S1;have NL:RL (nU h1) y (args.toList.map a.eval):=Sv (g:=⟨h1,g.bk,g.sv,g.iv⟩) rfl hy (CY S1 args.toList);obtain⟨fn,tmps,x,c,dA,zwG⟩:=hY y rest h1 w _ hJn NL S1.hw (n - 1);refine zh5 (by simp[bu]) (l:=l) (f:=fn) (tmps:=tmps) (x:=x) (y:=c) (w':=w) ?_ (zwG.mono ?_)
            · simp only [execOp,bu,resolve,NM,Deferred.ofValue,Sem.run_bind,Sem.run_pure,Result.andThen_ok,invoke];rw[show(#[]++Array.map a.eval args)=(args.toList.map a.eval).toArray by cases args;simp];exact dA
            · have hto : dJ nt (some t) = true := ht
              have next:∀(b:Bool)(h':Fz)(W':World),jV h1 h'->Hw h' W'->JQ J Jx (!b) rest h' W'->lN P Γ nt ops lo K rest (!b) ((zG σ).setT t (.bool b)) ->
                  wpOpsIn (FR none) n P ops Q (List.range' (i+1) lo.length) (a.put o.dst (.bool b)) W':=by
                intro b h' W' iq IU qI AX;have S0:cO P nt W'.heap.size W' h' ⟨h',g.bk,g.sv,g.iv⟩ (zG σ) a W':=by
                  refine⟨by rw[EJ.d];exact Marks.nil _ _,S.size,?_,λL o ho=>?_,λL o b ho dh=>?_,λL o b L' o' ho kQ dh iy=>?_,IU,λ_ _ h=>h,λb o h=>.inl h,xJ.refl _ _ _,kC _,?_,λL o ho M hM=>?_⟩
                  · intro u d hu;obtain⟨h2,_⟩:=rU hu;exact Ve (g:=⟨h1,g.bk,g.sv,g.iv⟩) (g':=⟨h',g.bk,g.sv,g.iv⟩) (λL hL=>⟨rfl,rfl,rfl⟩) iq (S1.env u d h2)
                  · rcases zb6 ho with ⟨_, rfl⟩ | ho
                    · trivial
                    obtain⟨l,rfl,h2⟩:=Dw ho;obtain⟨C,ty,fr,hC,hr⟩:=S1.obj L _ h2;exact⟨C,ty,fr,iq _ _ hC,hr.mono λ_ _=>Rep.mono iq⟩
                  · rcases zb6 ho with ⟨_, rfl⟩ | ho
                    · exact dh.elim
                    obtain⟨l,rfl,_⟩:=Dw ho;exact dh.elim
                  · rcases zb6 ho with ⟨_, rfl⟩ | ho
                    · exact dh.elim
                    obtain⟨l,rfl,_⟩:=Dw ho;exact dh.elim
                  · intro u d hu L hL;exact zh (l:=(U5,AO.gone)::JY σ) ((rU hu).2 L hL)
                  · rcases zb6 ho with ⟨_, rfl⟩ | ho
                    · simp[dR]at hM
                    obtain⟨l,rfl,_⟩:=Dw ho;simp[dR]at hM
                have S2:=S0.put (dst:=some t) (d:=.bool b) (v:=.bool b) hto (.bool b) (kH _) [];rw[GL];exact ih (i+1) rest (!b) _ W' h' _ _ W' zY hz' AX S2 (λb o hb=>iq b o (S1.le0 b o (hle b o hb))) qI (EJ.put (ds:=a.defers) (GL▸hz0) ((put_defers _ _ _).trans EJ.d))
              rintro e W' (⟨h',iq,IU,(⟨rfl,qI⟩|⟨rfl,qI⟩)⟩|⟨⟨ch,rfl⟩,hr⟩)
              · exact .inl ⟨_,rfl,next true h' W' iq IU qI htr⟩
              · exact .inl ⟨_,rfl,next false h' W' iq IU ⟨rest,qI⟩ hfa⟩
              · exact .inr ⟨ch,rfl,hP ch _ _ EJ hr⟩
        · exact h.elim
      · split at h
        · rename_i hd;obtain⟨qJ,hk⟩:=FB.1 h;refine Ji (ZF (FN (i:=0) (Q:=Q) (r:=none) (n:=n) gp S hd rfl qJ)) ?_;rintro a' w' ⟨⟨zPZ,g',σ',Fb,S'⟩,v,ds,rfl⟩;exact ih (i+1) ys q _ w0 h0 g' _ w' zY hz' (hk σ' Fb) (S'.log _) hle hj (EJ.put hz0 (zPZ.trans EJ.d))
        · exact h.elim
    have skp:∀(σ:St),dJ nt o.dst=true->cO P nt w0.heap.size w0 h0 g σ a w->lN P Γ nt ops lo K ys q (σ.skip o.dst)->wpOpsIn (FR none) n P ops Q (List.range' (i+1) lo.length) (a.put o.dst undef) w:=by
      intro σ hd S h;exact ih (i+1) ys q _ w0 h0 g _ w zY hz' h (S.skip hd) hle hj (EJ.put (ds:=a.defers) hz0 ((put_defers _ _ _).trans EJ.d))
    simp only[lN]at h;split at h
    · rename_i hg;rw[eX (by simp[Region.wanted,hg])];exact run σ S h
    · rename_i j want hg;split at h
      · rename_i gt hd UU;split at h
        · rename_i b hb;have hv:a.tmps.getD gt undef=.bool b:=by
            have:=S.env gt _ hb;generalize a.tmps.getD gt undef=v at this;cases this;rfl
          have hy:=wM UU hv;have S1:∀c,b=c->cO P nt w0.heap.size w0 h0 g (σ.setT gt (.bool c)) a w:=by
            intro c hc;refine S.env' (t:=gt) (d:=.bool c) ?_ (kH _);rw[hv,hc];exact .bool c
          have h2:=qW.1 h;cases b with
          | true =>
            have h3:=h2.1 rfl;cases want with
            | true=>rw[eX (by simp[Region.wanted,hg,hy])];exact run _ (S1 true rfl) h3
            | false=>rw[fB (by simp[Region.wanted,hg,hy])];exact⟨λ_ _=>trivial,skp _ hd (S1 true rfl) h3⟩
          | false =>
            have h3:=h2.2 rfl;cases want with
            | true=>rw[fB (by simp[Region.wanted,hg,hy])];exact⟨λ_ _=>trivial,skp _ hd (S1 false rfl) h3⟩
            | false=>rw[eX (by simp[Region.wanted,hg,hy])];exact run _ (S1 false rfl) h3
        · rename_i hb;have hv:a.tmps.getD gt undef=undef:=S.env gt _ hb;have hy:=uD UU hv;rw[fB (by simp[Region.wanted,hg,hy])];exact⟨λ_ _=>trivial,skp _ hd S h⟩
        · exact h.elim
      · exact h.elim
theorem znQ:∀{l:List Oper}{o:Oper}{t:Nat},o∈l->o.dst=some t->t∈IJ l:=fun {l} _ _ h e=>by
 obtain⟨j,hj⟩:=Za h;exact Dv hj e
theorem zeb(gp:jw P Γ)(aQ:dK){Rp:Ending->World->Prop}{l:Nat}(hJ:JSt J)(hJx:JSt Jx)(hY:YH P J Jx Rp l){hs:Fz}:∀(c:Code)(K:YK)(ys:List (List PA))(q:Bool)(σ:St)(w0:World)(h0:Fz)(g:Gh)(a:Act)(w:World),
  Q8 P Γ aQ c K ys q σ->cO P aQ.nt w0.heap.size w0 h0 g σ a w->jV hs h0->JQ J Jx q ys h0 w0->YI l a->c.wpIn (FR none) n P (zb5 J Jx P aQ.nt l hs Rp K) a w:=by
 intro c
 induction c with
 | skip=>intro K ys q σ w0 h0 g a w h S hle hj hd;exact wpIn_skip (.inl ⟨ys,q,σ,w0,h0,g,h,S,hle,hj,hd⟩)
 | region id ops draw =>
  intro K ys q σ w0 h0 g a w h S hle hj hd;simp only[Q8]at h;split at h
  ·exact h.elim
  ·-- a region that yields
   rename_i hz _;refine wpIn_region ?_;have:=Sz (n:=n) gp hJ hJx hY (hs:=hs) (ops:=ops) (Q:=zb5 J Jx P aQ.nt l hs Rp K) (λch a w hd hr=>.inr ⟨ch,rfl,hd,hr⟩) (λys q σ w0 h0 g a w h S hle hj hd=>?_) ops.toList 0 ys q _ w0 h0 g a w (λj=>by simp) (λo ho e=>by have:=znQ ho e;simp at hz;exact hz this) h (S.log _) hle hj hd
   ·rw [dqQ];simpa using this
   ·split at h
    ·split at h
     ·rename_i s qJ;obtain⟨g2,S2⟩:=eQ qJ S;exact .inl ⟨ys,q,s,w0,h0,g2,h,S2,hle,hj,hd⟩
     ·exact h.elim
    ·exact .inl ⟨ys,q,_,w0,h0,g,h,S.log _,hle,hj,hd⟩
  ·exact h.elim
  ·rename_i hz _;exact ry (Qo (r:=none) (n:=n) gp aQ (D:=IJ ops.toList) (a0:=a) (λ_ h=>h) h S (Kp.refl _ _) λg' σ' a' w' hK S' hk EJ=>.inl ⟨ys,q,σ',w0,h0,g',hK,S',hle,hj,EJ.trans hd.d,(hk.1 0 (by simpa using hz)).trans hd.y⟩)
 | seq x y ihx YT =>
  intro K ys q σ w0 h0 g a w h S hle hj hd;refine wpIn_seq (wpIn_mono (ihx _ ys q σ w0 h0 g a w h S hle hj hd) ?_);rintro e a' w' (⟨qp,q',σ',w1,h1,g',hK,S',iq,qI,gu⟩|⟨ch,rfl,gu,uT⟩)
  rotate_left
  ·exact .inr ⟨ch,rfl,gu,uT⟩
  cases e with
  | normal =>
   simp only[zwc,zwe]at hK;split at hK
   ·split at hK
    ·rename_i s hs;obtain⟨g2,S2⟩:=eQ hs S';exact YT K qp q' s w1 h1 g2 a' w' hK S2 iq qI gu
    ·exact hK.elim
   ·exact YT K qp q' σ' w1 h1 g' a' w' hK S' iq qI gu
  | exit id=>exact .inl ⟨qp,q',σ',w1,h1,g',hK,S',iq,qI,gu⟩
  | goto l=>exact .inl ⟨qp,q',σ',w1,h1,g',hK,S',iq,qI,gu⟩
  | ret=>exact .inl ⟨qp,q',σ',w1,h1,g',hK,S',iq,qI,gu⟩
  | panic ch=>exact .inl ⟨qp,q',σ',w1,h1,g',hK,S',iq,qI,gu⟩
  | outgrown=>exact .inl ⟨qp,q',σ',w1,h1,g',hK,S',iq,qI,gu⟩
 | cond c x y ihx YT =>
  intro K ys q σ w0 h0 g a w h S hle hj hd;simp only[Q8]at h;split at h
  ·rename_i t ht;have hv:=vz S ht;have hS:∀b,t=b->cO P aQ.nt w0.heap.size w0 h0 g (xI σ c b) a w:=by
    intro b hb;cases c with
    | tmp q =>
     refine S.env' (t:=q) (d:=.bool b) ?_ (kH _);have:a.tmps.getD q undef=.bool t:=hv;rw[this,hb];exact .bool b
    | _=>exact S
   have h2:=qW.1 h;refine wpIn_cond hv ?_;cases t with
   | true=>exact ihx K ys q _ w0 h0 g a w (h2.1 rfl) (hS true rfl) hle hj hd
   | false=>exact YT K ys q _ w0 h0 g a w (h2.2 rfl) (hS false rfl) hle hj hd
  ·exact h.elim
 | block id b ih =>
  intro K ys q σ w0 h0 g a w h S hle hj hd;refine wpIn_block (wpIn_mono (ih _ ys q σ w0 h0 g a w h S hle hj hd) ?_);rintro e a' w' (⟨qp,q',σ',w1,h1,g',hK,S',iq,qI,gu⟩|⟨ch,rfl,gu,uT⟩)
  rotate_left
  ·exact .inr ⟨ch,rfl,gu,uT⟩
  cases e with
  | exit j =>
   simp only[Zk]at hK;simp only[Exit.inBlock];split at hK
   ·rename_i hj;rw[eX (kL hj)];exact .inl ⟨qp,q',σ',w1,h1,g',hK,S',iq,qI,gu⟩
   ·rename_i hj;rw[fB (qde hj)];exact .inl ⟨qp,q',σ',w1,h1,g',hK,S',iq,qI,gu⟩
  | normal=>exact .inl ⟨qp,q',σ',w1,h1,g',hK,S',iq,qI,gu⟩
  | goto l=>exact .inl ⟨qp,q',σ',w1,h1,g',hK,S',iq,qI,gu⟩
  | ret=>exact .inl ⟨qp,q',σ',w1,h1,g',hK,S',iq,qI,gu⟩
  | panic ch=>exact .inl ⟨qp,q',σ',w1,h1,g',hK,S',iq,qI,gu⟩
  | outgrown=>exact .inl ⟨qp,q',σ',w1,h1,g',hK,S',iq,qI,gu⟩
 | loop b ih =>
  intro K ys q σ w0 h0 g a w h S hle hj hd;simp only[Q8]at h;split at h
  ·rename_i k hk;split at h
   ·rename_i s qJ;obtain⟨g1,S1⟩:=eQ qJ S;refine Ic ?_;have key:=h (λ ys q s=>∀ w0 h0 g a w,cO P aQ.nt w0.heap.size w0 h0 g s a w->jV hs h0->JQ J Jx q ys h0 w0->YI l a->V7 (FR none) n P b (zb5 J Jx P aQ.nt l hs Rp K) a w) ?_
    ·exact key w0 h0 g1 a w S1 hle hj hd
    ·intro ys q s hs2 w0 h0 g a w S hle hj hd;refine Ie (wpIn_mono (ih _ ys q s w0 h0 g a w hs2 S hle hj hd) ?_);rintro e a' w' (⟨qp,q',σ',w1,h1,g',hK,S',iq,qI,gu⟩ | ⟨ch,rfl,gu,uT⟩)
     rotate_left
     ·exact .inr ⟨ch,rfl,gu,uT⟩
     cases e with
     | normal =>
      simp only[zg5,hk]at hK;split at hK
      ·rename_i s2 hs2;obtain⟨g2,S2⟩:=eQ hs2 S';exact hK w1 h1 g2 a' w' S2 iq qI gu
      ·exact hK.elim
     | exit id=>exact .inl ⟨qp,q',σ',w1,h1,g',hK,S',iq,qI,gu⟩
     | goto l=>exact .inl ⟨qp,q',σ',w1,h1,g',hK,S',iq,qI,gu⟩
     | ret=>exact .inl ⟨qp,q',σ',w1,h1,g',hK,S',iq,qI,gu⟩
     | panic ch=>exact .inl ⟨qp,q',σ',w1,h1,g',hK,S',iq,qI,gu⟩
     | outgrown=>exact .inl ⟨qp,q',σ',w1,h1,g',hK,S',iq,qI,gu⟩
   ·exact h.elim
  ·split at h
   ·rename_i m k hk
    have key:∀(m:Nat)(ys:List (List PA))(q:Bool)(σ:St)(w0:World)(h0:Fz)(g:Gh)(a:Act)(w:World),PD P k (Q8 P Γ aQ b) m K ys q σ->cO P aQ.nt w0.heap.size w0 h0 g σ a w->jV hs h0->JQ J Jx q ys h0 w0->YI l a ->
      V7 (FR none) n P b (zb5 J Jx P aQ.nt l hs Rp K) a w:=by
     intro m
     induction m with
     | zero=>intro ys q σ w0 h0 g a w h;exact h.elim
     | succ m ihm =>
      intro ys q σ w0 h0 g a w h S hle hj hd;simp only[PD]at h;split at h
      ·rename_i s qJ;obtain⟨g1,S1⟩:=eQ qJ S;refine Ie (wpIn_mono (ih _ ys q s w0 h0 g1 a w h S1 hle hj hd) ?_);rintro e a' w' (⟨qp,q',σ',w1,h1,g',hK,S',iq,qI,gu⟩ | ⟨ch,rfl,gu,uT⟩)
       rotate_left
       ·exact .inr ⟨ch,rfl,gu,uT⟩
       cases e with
       | normal=>exact ihm qp q' σ' w1 h1 g' a' w' hK S' iq qI gu
       | exit id=>exact .inl ⟨qp,q',σ',w1,h1,g',hK,S',iq,qI,gu⟩
       | goto l=>exact .inl ⟨qp,q',σ',w1,h1,g',hK,S',iq,qI,gu⟩
       | ret=>exact .inl ⟨qp,q',σ',w1,h1,g',hK,S',iq,qI,gu⟩
       | panic ch=>exact .inl ⟨qp,q',σ',w1,h1,g',hK,S',iq,qI,gu⟩
       | outgrown=>exact .inl ⟨qp,q',σ',w1,h1,g',hK,S',iq,qI,gu⟩
      ·exact h.elim
    exact Ic (key m ys q σ w0 h0 g a w h S hle hj hd)
   ·exact h.elim
 | exit id=>intro K ys q σ w0 h0 g a w h S hle hj hd;exact wpIn_exit (.inl ⟨ys,q,σ,w0,h0,g,h,S,hle,hj,hd⟩)
 | scope b ih =>
  intro K ys q σ w0 h0 g a w h S hle hj hd;refine ZX (wpIn_mono (ih _ ys q σ w0 h0 g a w h S hle hj hd) ?_);rintro e a' w' (⟨qp,q',σ',w1,h1,g',hK,S',iq,qI,gu⟩|⟨ch,rfl,gu,uT⟩)
  rotate_left
  ·exact .inr ⟨ch,rfl,gu,uT⟩
  cases e with
  | goto l=>exact hK
  | normal=>exact .inl ⟨qp,q',σ',w1,h1,g',hK,S',iq,qI,gu⟩
  | exit l=>exact .inl ⟨qp,q',σ',w1,h1,g',hK,S',iq,qI,gu⟩
  | ret=>exact .inl ⟨qp,q',σ',w1,h1,g',hK,S',iq,qI,gu⟩
  | panic ch=>exact .inl ⟨qp,q',σ',w1,h1,g',hK,S',iq,qI,gu⟩
  | outgrown=>exact .inl ⟨qp,q',σ',w1,h1,g',hK,S',iq,qI,gu⟩
 | label l=>intro K ys q σ w0 h0 g a w h S hle hj hd;exact wpIn_label (.inl ⟨ys,q,σ,w0,h0,g,h,S,hle,hj,hd⟩)
 | ret=>intro K ys q σ w0 h0 g a w h S hle hj hd;exact wpIn_ret (.inl ⟨ys,q,σ,w0,h0,g,h,S,hle,hj,hd⟩)
 | rangeFunc f ps x y _ _=>intro K ys q σ w0 h0 g a w h S;exact h.elim
 | goto l=>intro K ys q σ w0 h0 g a w h S;exact h.elim
 | refuse s=>intro K ys q σ w0 h0 g a w h S;exact h.elim
theorem zh7{v:Value}{vs:List Value}{m:Nat}:((v::vs).toArray++Array.replicate m undef).getD 0 undef=v:=by
 rw[xX,qdh (by simp)];simp
theorem zwH{nt l:Nat}{args:List PA}{w:World}{h0:Fz}{vs:List Value}{m:Nat}(EG:nt=m)(hlen:args.length+1≤nt)(jK:RL (nU h0) args vs)(Oa:Hw h0 w) :
  cO P nt w.heap.size w h0 ⟨h0,λ_=>0,λ_=>.func (.yield l) #[] #[],λ_ _=>undef⟩ ⟨(0,.cl (.vec U5))::jk 1 args,[(U5,.gone)],[]⟩ {tmps:=(.func (.yield l) #[] #[]::vs).toArray++Array.replicate (m-(.func (.yield l) #[] #[]::vs).toArray.size) undef,defers:=[]} w:=by
 have hl:=jK.length;have ho:∀{L:Nat}{o:AO},lk [(U5,AO.gone)] L=some o->o=.gone:=fun {L o} h=>by
  rw[aZ]at h;split at h
  ·simp only[bW]at h;exact h.symm
  ·simp[lk]at h
 refine⟨Marks.nil _ _,by simp;omega,?_,λL o h=>by rw[ho h];trivial,λL o b h hb=>by rw[ho h]at hb;exact hb.elim,λL o b L' o' h h' hb=>by rw[ho h]at hb;exact hb.elim,Oa,λ_ _ h=>h,λb o h=>.inl h,xJ.refl _ _ _,kC _,?_,λL o h M hM=>by rw[ho h]at hM;simp[dR]at hM⟩
 ·intro t d ht;rw[aZ] at ht;split at ht
  ·rename_i e;subst e;simp only[bW]at ht;subst ht;rw[zh7];exact⟨rfl,rfl⟩
  ·obtain⟨x,hx,hle,rfl⟩:=rC args 1 t d ht;obtain⟨v,hv,xQ⟩:=jK.get (t-1) x hx;have iC:=(AY.1 hv).1;have:((.func (.yield l) #[] #[]::vs).toArray++Array.replicate (m-(.func (.yield l) #[] #[]::vs).toArray.size) undef).getD t undef=v:=by
    rw[xX,qdh (by simp;omega)];obtain⟨k,rfl⟩:∃k,t=k+1:=⟨t-1,omY⟩;have hv:vs[k]? = some v:=hv;simp[hv]
   rw[this];exact KL (g:=⟨h0,λ_=>0,λ_=>.func (.yield l) #[] #[],λ_ _=>undef⟩) xQ
 ·intro t d ht L hL;rw[aZ] at ht;split at ht
  ·simp only [bW] at ht; subst ht;have e:L=U5:=by simpa [df,dE,bD] using hL
   subst e;exact⟨.gone,rfl⟩
  ·obtain⟨x,hx,_,rfl⟩:=rC args 1 t d ht;rw[show df (.one (I5 x))=dE (I5 x)from rfl,wK]at hL;simp at hL
theorem zh8{G:bU}(gp:jw P G){f:FuncId}{C:List PA→ae (List (List PA))}(hc:dD P f)
    (h:∀caps ys,(C caps).o=some ys->∃vv aQ,Rf P {G with vv:=vv} aQ f caps ys):Ac P f C:=by
  intro caps ys hC l J Jx Rp w h0 vs hJ hJx hY hj0 jK Oa;refine⟨hc,?_⟩;obtain⟨vv,aQ,hv⟩:=h caps ys hC;unfold Rf at hv;split at hv
  · rename_i fn uh;split at hv
    · rename_i c sG;split at hv
      · rename_i EG;simp only[gG,Uz] at EG;obtain⟨⟨EG,hlen⟩,oI⟩:=EG;have S:=zwH (P:=P) (l:=l) (args:=caps) (vs:=vs) (h0:=h0) (w:=w) (kL EG) (by simpa using hlen) jK Oa;have hwp:=zeb (n:=0) (Γ:={ G with vv:=vv }) (J:=J) (Jx:=Jx) (Rp:=Rp) (hs:=h0) ⟨gp.mt,gp.fn,gp.own,gp.it,gp.cmp⟩ aQ (l:=l) hJ hJx hY c _ ys false _ w h0 _ _ w hv S (λ _ _ h=>h) hj0 ⟨rfl,zh7⟩;refine (callsIn_wide (n:=0)).1 ?_;refine callsIn_of_wp (F:=FR none) uh sG trivial (wpIn_mono hwp ?_);rintro e a' w' (⟨qp,q',σ',w1,h1,g',hK,S',hle,hj,hd⟩ | ⟨ch,rfl,hd,hr⟩)
        rotate_left
        · exact⟨hd.d,.inr ⟨⟨ch,rfl⟩,hr⟩⟩
        have fin:zg6 qp q'->a'.defers=[]/\∃v,(results fn a'.tmps).run P w'=.ok v w'/\((∃v2 h',Ending.returned v=.returned v2/\jV h0 h'/\Hw h' w'/\(J [] h' w'\/∃rest,Jx rest h' w'))\/((∃ch,Ending.returned v=.panicked ch)/\Rp (.returned v) w')):=by
          intro hf;have hr:fn.results = #[]:=by simpa using oI
          refine⟨hd.d,.tuple #[],?_,.inl ⟨_,g'.h,rfl,λb o hb=>S'.le0 b o (hle b o hb),S'.hw,?_⟩⟩
          · simp[results,hr]
          · have:=hj.later hJ hJx S';cases q' with
            | false=>simp only[zg6]at hf;subst hf;exact .inl this
            | true=>exact .inr this
        cases e with
        | normal=>exact fin hK
        | ret=>exact fin hK
        | exit id=>exact hK.elim
        | goto l=>exact hK.elim
        | panic ch=>exact hK.elim
        | outgrown=>exact hK.elim
      · exact hv.elim
    · exact hv.elim
  · exact hv.elim
def ZZ(n s:Nat)(get:Nat->List PV)(rs:List PV)(r:List PA):Prop:=r=.one (.sl n s get)::rs.map .one
theorem zec{G:bU}(gp:jw P G){f:FuncId}{e s b:Nat}{F:List PA→ae (Nat×(Nat→List PV)×List PV)}(hc:dD P f)
    (h:∀az n get rs,(F az).o=some (n,get,rs)->∃vv aQ,zbr P {G with vv:=vv} aQ f az e s b (ZZ n s get rs)):gz P f (.mkv e s b F):=by
  intro w h0 az vs n get rs hF jK Oa;refine⟨hc,?_⟩;obtain⟨vv,aQ,AX⟩:=h az n get rs hF;unfold zbr at AX;split at AX
  · rename_i fn uh;split at AX
    · rename_i c sG;split at AX
      · rename_i EG;simp only[gG,Uz] at EG;refine Qq (G:={ G with vv:=vv }) ⟨gp.mt,gp.fn,gp.own,gp.it,gp.cmp⟩ (Kx:=λ fn=>zg4 fn e s b (ZZ n s get rs)) (vs:=vs) uh sG (kL EG.1) EG.2 AX jK Oa ?_;intro ex σ' g' a' w' xA S'
        have fin:Py fn e s b (ZZ n s get rs) σ'->∃v,(results fn a'.tmps).run P w'=.ok v w'/\∃(h':Fz)(v':Value)(xs:List Value),Ending.returned v=.returned (U7 v' xs rs)/\RL (Rep h') rs xs/\v'.oneCell'=true/\ut get /\
            Ai h' w' w.heap.size e s v' n get/\(∀k,v'.ownBlock=some k->h' k=none)/\xJ h0 w.heap.size w w'/\jV h0 h'/\Hw h' w'/\∀b o,h' b=some o->h0 b=some o\/w.heap.size<=b:=by
          intro hf;unfold Py at hf;split at hf
          · rename_i t oI;have hr:fn.results = #[.tmp t]:=by rw[<- qdp (xs:=fn.results),oI]
            have dA:(results fn a'.tmps).run P w'=.ok (a'.tmps.getD t undef) w':=by
              simp only[results,hr];simp
            split at hf
            · rename_i L ht;split at hf
              · rename_i e' s' b' m get' dh;split at hf
                · rename_i hb;simp only[gG]at hb;have e1:=kL hb.1;have e2:=kL hb.2.1;subst e1 e2;obtain⟨htv,lU⟩:=S'.env t _ ht;obtain⟨iF,nH,ys,Yz,hrr⟩:=S'.obj L _ dh;unfold ZZ at hf;cases rs with
                  | nil =>
                    simp only[qd3,GZ,PA.one.injEq,PV.sl.injEq,jqM]at hf;obtain⟨rfl,_,rfl⟩:=hf;exact⟨_,dA,g'.h,g'.sv L,[],by rw[htv];rfl,trivial,by rw[<- htv];exact lU,iF.1,⟨ys,Yz,hrr⟩,λk hk=>(S'.own L _ k dh hk).2,S'.below,S'.le0,S'.hw,S'.hn⟩
                  | cons x l=>simp at hf
                · exact hf.elim
              · exact hf.elim
            · exact hf.elim
          · rename_i t u oI;have hr:fn.results = #[.tmp t,.tmp u]:=by rw[<- qdp (xs:=fn.results),oI]
            have dA:(results fn a'.tmps).run P w'=.ok (.tuple #[a'.tmps.getD t undef,a'.tmps.getD u undef]) w':=by
              simp only[results,hr];simp
            split at hf
            · rename_i L ht;split at hf
              · rename_i x hu;split at hf
                · rename_i e' s' b' m get' dh;split at hf
                  · rename_i hb;simp only[gG] at hb;have e1:=kL hb.1;have e2:=kL hb.2.1;subst e1 e2;obtain⟨htv,lU⟩:=S'.env t _ ht;have huv:=S'.env u _ hu;obtain⟨iF,nH,ys,Yz,hrr⟩:=S'.obj L _ dh;unfold ZZ at hf
                    match rs,hf with
                    | [y],hf =>
                      simp only[oU,qd3,GZ,PA.one.injEq,PV.sl.injEq,jqM]at hf;obtain⟨⟨rfl,_,rfl⟩,rfl⟩:=hf;exact⟨_,dA,g'.h,g'.sv L,[a'.tmps.getD u undef],by rw[<- htv];rfl,⟨huv,trivial⟩,by rw[<- htv];exact lU,iF.1,⟨ys,Yz,hrr⟩,λk hk=>(S'.own L _ k dh hk).2,S'.below,S'.le0,S'.hw,S'.hn⟩
                    | [],hf=>simp at hf
                    | _::_::_,hf=>simp at hf
                  · exact hf.elim
                · exact hf.elim
              · exact hf.elim
            · exact hf.elim
          · exact hf.elim
        cases ex with
        | normal=>exact⟨.inl rfl,fin xA⟩
        | ret=>exact⟨.inr rfl,fin xA⟩
        | exit id=>exact xA.elim
        | goto l=>exact xA.elim
        | panic ch=>exact xA.elim
        | outgrown=>exact xA.elim
      · exact AX.elim
    · exact AX.elim
  · exact AX.elim
end
end Go.Pm
namespace Go.Pm
variable [aJ]
open Go.RowKit (Below)
def FZ(i j:Nat):Nat:=i+4096*(j+1)
def LM:Nat→List XA→List (Nat×DV)
  | _,[]=>[]
  | i,.d a::r=>(i,.one (I5 a))::LM (i+1) r
  | i,.box _ _::r=>(i,.cl (.ptr i 0))::LM (i+1) r
def zN:Nat→Nat→List uk
  | _,0=>[]
  | np,n+1=>.b np::zN (np+1) n
def pW(i:Nat):Nat→List XC→List Cl
  | _,[]=>[]
  | j,.p v::r=>.p v::pW i (j+1) r
  | j,.vec _ _ _ _ _::r=>.vec (FZ i j)::pW i (j+1) r
  | j,.mo _ _ _ _ _::r=>.mo (FZ i j)::pW i (j+1) r
  | j,.slf f np n::r=>.clo f (zN np n)::pW i (j+1) r
def mZ(i:Nat):Nat→List XC→List (Nat×AO)
  | _,[]=>[]
  | j,.p _::r=>mZ i (j+1) r
  | j,.vec e s b n get::r=>(FZ i j,.vec e s b n get)::mZ i (j+1) r
  | j,.mo kt vt q n F::r=>(FZ i j,.mo kt vt q n F)::mZ i (j+1) r
  | j,.slf _ _ _::r=>mZ i (j+1) r
def iV:Nat→List XA→List (Nat×AO)
  | _,[]=>[]
  | i,.d _::r=>iV (i+1) r
  | i,.box ty cs::r=>(i,.box ty (pW i 0 cs))::(mZ i 0 cs++iV (i+1) r)
def wQ:Nat→List XA→List Nat
  | _,[]=>[]
  | i,.d _::r=>wQ (i+1) r
  | i,.box _ _::r=>i::wQ (i+1) r
def zb7:List XC→Option (FuncId×Nat×Nat)
  | []=>none
  | .slf f np n::_=>some (f,np,n)
  | _::r=>zb7 r
def Wi:List XA→Option (FuncId×Nat×Nat)
  | []=>none
  | .d _::r=>Wi r
  | .box _ cs::r=>match zb7 cs with
    | some x=>some x
    | none=>Wi r
def LP(env:List (Nat×DV)):Nat→Nat→Option (List Nat)
  | _,0=>some []
  | np,n+1=>match lk env np,LP env (np+1) n with
    | some (.one (.c (.ptr L 0))),some l=>some (L::l)
    | _,_=>none
def Bz(env:List (Nat×DV))(xs:List XA):lu:=match Wi xs with
 | some (f,np,n)=>match LP env np n with
  | some l=>some (f,np,l)
  | none=>none
 | none=>none
def zi(bx:List Nat):Nat→Nat→Bool
  | _,0=>true
  | np,n+1=>bx.contains np&&zi bx (np+1) n
def LQ(bx:List Nat):List XC→Bool
  | []=>true
  | .slf _ np n::r=>zi bx np n&&LQ bx r
  | _::r=>LQ bx r
def zk(bx:List Nat):List XA→Bool
  | []=>true
  | .d _::r=>zk bx r
  | .box _ cs::r=>LQ bx cs&&zk bx r
section
variable(P:Program)
def Dx(σ:St):List ResultVar→Option (List PA×List (Nat×AO))
  | []=>some ([],[])
  | .tmp t::r=>match lk σ.env t with
    | some d=>match Af (lk σ.aB) d,Dx σ r with
      | some (x,u),some (l,us)=>some (x::l,u++us)
      | _,_=>none
    | none=>none
  | .cell t ty::r=>match lk σ.env t,jD P ty,qA P ty with
    | some (.one (.c (.ptr L off))),some g,some n=>match lk σ.aB L with
      | some (.box _ cells)=>match nX g n cells off with
        | some d=>match Af (lk σ.aB) (.one d),Dx σ r with
          | some (x,u),some (l,us)=>some (x::l,u++us)
          | _,_=>none
        | none=>none
      | _=>none
    | _,_,_=>none
def LU(sf:lu)(ob:Nat→Option AO)(env:List (Nat×DV)):Nat→List XA→Option (List XA×List Nat)
  | _,[]=>some ([],[])
  | i,.d a::r=>match LU sf ob env (i+1) r with
    | some (ys,ls)=>some (.d a::ys,ls)
    | none=>none
  | i,.box _ _::r=>match lk env i,LU sf ob env (i+1) r with
    | some (.one (.c (.ptr L 0))),some (ys,ls)=>match Ah sf ob (.one (.c (.ptr L 0)))with
      | some (y,l,_)=>some (y::ys,l++ls)
      | none=>none
    | _,_=>none
def Vs(fn:Func)(xs:List XA)(K:List PA->List XA->Prop)(σ:St):Prop :=
 match Dx P σ fn.results.toList with
 | some (l,u)=>match LU (Bz σ.env xs) (lk (u++σ.aB)) σ.env 0 xs with
  | some (ys,ls)=>match mO ls,Fh l with
   | true,none=>K l ys
   | _,_=>False
  | none=>False
 | none=>False
def zh9(xs:List XA)(K:List PA->List XA->Prop)(ch:List PanicEntry)(σ:St):Prop :=
 match chR ch with
 | some l=>match LU (Bz σ.env xs) (lk σ.aB) σ.env 0 xs with
  | some (ys,ls)=>match mO ls with
   | true=>K l ys
   | false=>False
  | none=>False
 | none=>False
def ztG(fn:Func)(xs:List XA)(K:List PA→List XA→Prop):Exit→St→Prop
  | .ret,σ=>Vs P fn xs K σ
  | .normal,σ=>Vs P fn xs K σ
  | .panic ch,σ=>zh9 xs K ch σ
  | _,_=>False
def Wj(Γ:bU)(aQ:dK)(f:FuncId)(xs:List XA)(K:List PA->List XA->Prop):Prop :=
 match P.funcs[f]? with
 | some fn=>match fn.body with
  | some c=>match Nat.beq aQ.nt fn.ntmps&&Nat.ble xs.length aQ.nt&&mO ((iV 0 xs).map (·.1))&&zk (wQ 0 xs) xs&&og (wQ 0 xs) (eH c)with
   | true=>vc P Γ aQ c (ztG P fn xs K) ⟨LM 0 xs,iV 0 xs,[]⟩
   | false=>False
  | none=>False
 | none=>False
end
section
variable{P:Program}{Γ:bU}
def Jl(w:World)(v:Value):List Value:=match v with
 | .pointer (some a)=>match w.heap[a.block]? with
  | some (.cells C _ _)=>C.toList
  | _=>[]
 | _=>[]
def xVV(i:Nat):Nat→List XC→List Value→List (Nat×Value)
  | j,.p _::r,_::vs=>xVV i (j+1) r vs
  | j,.vec _ _ _ _ _::r,v::vs=>(FZ i j,v)::xVV i (j+1) r vs
  | j,.mo _ _ _ _ _::r,v::vs=>(FZ i j,v)::xVV i (j+1) r vs
  | j,.slf _ _ _::r,_::vs=>xVV i (j+1) r vs
  | _,_,_=>[]
def zl(w:World):Nat→List XA→List Value→List (Nat×Value)
  | i,.d _::r,_::vs=>zl w (i+1) r vs
  | i,.box _ cs::r,v::vs=>(i,v)::(xVV i 0 cs (Jl w v)++zl w (i+1) r vs)
  | _,_,_=>[]
def zia:Value→Nat
  | .pointer (some a)=>a.block
  | _=>0
theorem Ii:∀(n np:Nat)(bx:List Nat),zi bx np n=true→∀M∈lL (zN np n),M∈bx
  | 0,_,_,_,M,hM=>by simp[zN,lL]at hM
  | n+1,np,bx,h,M,hM=>by
    simp only[zi,gG]at h;simp only[zN,lL,kR]at hM;rcases hM with rfl|hM
    · simpa using h.1
    · exact Ii n (np+1) bx h.2 M hM
theorem BA:∀(n np:Nat)(bx:List Nat),zi bx np n=true→∀k,k<n→np+k∈bx
  | 0,_,_,_,k,h=>absurd h omY
  | n+1,np,bx,h,k,hk=>by
    simp only[zi,gG]at h;cases k with
    | zero=>simpa using h.1
    | succ k=>rw[show np+(k+1)=np+1+k by omega];exact BA n (np+1) bx h.2 k omY
theorem Qr{g:Gh}:∀(bs:List Nat)(np:Nat),(∀k b,bs[k]? = some b→g.bk (np+k)=b)→RL (IK g) (zN np bs.length) (bs.map xY)
  | [],_,_=>trivial
  | b::bs,np,h=>⟨by show xY b=_;rw[<- h 0 b rfl];rfl,Qr bs (np+1) λk b' hk=>by rw[<- h (k+1) b' (by simpa using hk)];congr 1;omega⟩
section start
variable{h:Fz}{w:World}{B:Nat}{g:Gh}(hle:∀p x,Rep h p x->Rep g.h p x)
include hle
theorem Wl [dF]{i:Nat}{bx:List Nat}(SC:∀k b,(dF.bs)[k]? = some b->dF.np+k∈bx->g.bk (dF.np+k)=b):∀{cs:List XC}{j:Nat}{vs:List Value},RL (xcR P h w B) cs vs->LQ bx cs=true->(∀x∈xVV i j cs vs,g.sv x.1=x.2) ->
  RL (jg g) (pW i j cs) vs/\(∀ x∈mZ i j cs,VA x.2/\dR x.2=[]/\NZ P g w B x.1 x.2)/\uZ cs vs=(mZ i j cs).flatMap (λ x=>kO g x.1 x.2)/\(xVV i j cs vs).map (·.1)=(mZ i j cs).map (·.1) /\
   ∀M∈(pW i j cs).flatMap bD,M∈(mZ i j cs).map (·.1)\/M∈bx
 | [],j,[],_,_,_=>⟨trivial,λx hx=>by simp[mZ]at hx,rfl,rfl,λM hM=>by simp[pW]at hM⟩
 | [],_,_::_,hr,_,_=>hr.elim
 | _::_,_,[],hr,_,_=>hr.elim
 | .slf f np n::cs,j,v::vs,hr,hb,hs=>by
  simp only[LQ,gG]at hb;obtain⟨i1,i2,i3,i4,i5⟩:=Wl (j:=j+1) SC hr.2 hb.2 hs;obtain⟨rfl,rfl,rfl,rfl⟩:=hr.1;refine⟨⟨⟨_,rfl,Qr _ _ λk b hk=>SC k b hk (BA _ _ _ hb.1 k (AY.1 hk).1)⟩,i1⟩,i2,by simp only[uZ,xcK,Pg];exact i3,i4,λM hM=>?_⟩;simp only[pW,oK,dU]at hM;rcases hM with hM|hM
  ·exact .inr (Ii _ _ _ hb.1 M hM)
  ·exact i5 M hM
 | .p p::cs,j,v::vs,hr,hb,hs=>by
  obtain⟨i1,i2,i3,i4,i5⟩:=Wl (j:=j+1) SC hr.2 hb hs;exact⟨⟨hle _ _ hr.1,i1⟩,i2,by simp only[uZ,xcK,Pg];exact i3,i4,λM hM=>i5 M (by simpa [pW,bD]using hM)⟩
 | .vec e s b n get::cs,j,v::vs,hr,hb,hs=>by
  obtain⟨i1,i2,i3,i4,i5⟩:=Wl (j:=j+1) SC hr.2 hb (λx hx=>hs x (jU _ hx));have hv:g.sv (FZ i j)=v:=hs (FZ i j,v) lq;obtain⟨h1,h2,h3,xs,hx,OU⟩:=hr.1;refine⟨⟨⟨hv.symm,h1⟩,i1⟩,λx hx=>?_,?_,by simp[xVV,mZ,i4],λM hM=>?_⟩
  ·rcases kR.1 hx with e1 | hx
   ·subst e1;refine⟨trivial,rfl,h2,h3,xs,?_,λq hq=>(OU q hq).mono hle⟩;show w.ownsRow B e s (g.sv (FZ i j)) n xs;rw[hv];assumption
   ·exact i2 x hx
  ·simp only[uZ,xcK,mZ,oK,kO,hv,i3]
  ·simp only [pW, oK, dU, bD, mg] at hM;simp only[mZ,oU,kR];rcases hM with hM | hM
   ·exact .inl (.inl hM)
   ·exact(i5 M hM).imp_left .inr
 | .mo kt vt q n F::cs,j,v::vs,hr,EU,hs=>by
  obtain⟨i1,i2,i3,i4,i5⟩:=Wl (j:=j+1) SC hr.2 EU (λx hx=>hs x (jU _ hx));have hv:g.sv (FZ i j)=v:=hs (FZ i j,v) lq;obtain⟨b,es,clock,rfl,h2,h3⟩:=hr.1;have hb:oW (g.sv (FZ i j))=b:=by rw[hv];rfl
  refine⟨⟨by show Value.map (some b)=.map (some (oW (g.sv (FZ i j))));rw[hb],i1⟩,λx hx=>?_,?_,by simp[xVV,mZ,i4],λM hM=>?_⟩
  ·rcases kR.1 hx with e1 | hx
   ·subst e1;exact⟨trivial,rfl,es,clock,by rw[hb];exact h2,h3⟩
   ·exact i2 x hx
  ·simp only[uZ,xcK,mZ,oK,kO,hb,i3];rfl
  ·simp only [pW, oK, dU, bD, mg] at hM;simp only[mZ,oU,kR];rcases hM with hM | hM
   ·exact .inl (.inl hM)
   ·exact(i5 M hM).imp_left .inr
theorem SE [dF]{bx:List Nat}(SC:∀k b,(dF.bs)[k]? = some b->dF.np+k∈bx->g.bk (dF.np+k)=b):∀{xs:List XA}{i:Nat}{vs:List Value},RL (zH P h w B) xs vs->zk bx xs=true->(∀x∈zl w i xs vs,g.sv x.1=x.2/\g.bk x.1=zia x.2) ->
  (∀x∈iV i xs,VA x.2/\(∀M∈dR x.2,M∈(iV i xs).map (·.1)\/M∈bx)/\NZ P g w B x.1 x.2)/\nP w xs vs=(iV i xs).flatMap (λx=>kO g x.1 x.2)/\(zl w i xs vs).map (·.1)=(iV i xs).map (·.1)
 | [],i,[],_,_,_=>⟨λx hx=>by simp[iV]at hx,rfl,rfl⟩
 | [],_,_::_,hr,_,_=>hr.elim
 | _::_,_,[],hr,_,_=>hr.elim
 | .d a::xs,i,v::vs,hr,EU,hs=>by
  obtain⟨i1,i2,i3⟩:=SE (i:=i+1) SC hr.2 EU hs;exact⟨i1,by simp only[nP,U8,Pg];exact i2,i3⟩
 | .box ty cs::xs,i,v::vs,hr,EU,hs=>by
  simp only[zk,gG]at EU;obtain⟨i1,i2,i3⟩:=SE (i:=i+1) SC hr.2 EU.2 (λx hx=>hs x (jU _ (dU.2 (.inr hx))));obtain⟨k,C,rfl,hC,nT⟩:=hr.1;have hca:Jl w (.pointer (some ⟨k,0,none⟩))=C.toList:=by simp only[Jl,hC]
  obtain⟨j1,j2,j3,j4,j5⟩:=Wl (i:=i) (j:=0) hle SC nT EU.1 (λx hx=>(hs x (jU _ (dU.2 (.inl (by rw[hca];exact hx))))).1);have hb:g.bk i=k:=(hs (i,_) lq).2;refine⟨λx hx=>?_,?_,?_⟩
  ·simp only [iV] at hx;rcases kR.1 hx with e | hx
   ·subst e;refine⟨trivial,λM hM=>?_,C,by rw[hb];exact hC,j1⟩;simp only[iV,oU,QQ,kR,dU];exact(j5 M hM).imp_left λh=>.inr (.inl h)
   ·rcases dU.1 hx with hx | hx
    ·obtain⟨q1,q2,q3⟩:=j2 x hx;exact⟨q1,λM hM=>by rw[q2]at hM;simp at hM,q3⟩
    ·obtain⟨q1,q2,q3⟩:=i1 x hx;refine⟨q1,λM hM=>?_,q3⟩;simp only[iV,oU,QQ,kR,dU];exact(q2 M hM).imp_left λh=>.inr (.inr h)
  ·simp only[nP,U8,hC,iV,oK,qd5,kO,hb,j3,i2];simp
  ·simp only[zl,iV,oU,QQ,hca,j4,i3]
end start
theorem SG : ∀ (xs : List XA) (i t : Nat) (d : DV), lk (LM i xs) t = some d → ∃ x, xs[t - i]? = some x ∧ i ≤ t ∧ d = match x with | .d a => .one (I5 a) | .box _ _ => .cl (.ptr t 0)
  | [],i,t,d,h=>by simp[LM,lk]at h
  | x::r,i,t,d,h=>by
    have key:lk (LM (i+1) r) t=some d->i≠t->∃y,(x::r)[t-i]? = some y/\i<=t/\d=match y with | .d a=>.one (I5 a) | .box _ _=>.cl (.ptr t 0):=λh ja=>by
      obtain⟨y,h1,h2,h3⟩:=SG r (i+1) t d h;refine⟨y,?_,omY,h3⟩;rw[show t-i=(t-(i+1))+1 by omega,Y9];exact h1
    cases x with
    | d a =>
      simp only[LM]at h;rw[aZ]at h;split at h
      · rename_i e;subst e;simp only[bW]at h;exact⟨.d a,by simp,kC _,h.symm⟩
      · rename_i e;exact key h e
    | box ty cs =>
      simp only[LM]at h;rw[aZ]at h;split at h
      · rename_i e;subst e;simp only[bW]at h;exact⟨.box ty cs,by simp,kC _,h.symm⟩
      · rename_i e;exact key h e
theorem F7 : ∀ {xs : List XA} {i t : Nat} {ty : Nat} {cs : List XC}, xs[t - i]? = some (.box ty cs) → i ≤ t → t ∈ (iV i xs).map (·.1)
  | [],i,t,ty,cs,h,_=>by simp at h
  | x::xs,i,t,ty,cs,h,hi=>by
    by_cases e:t=i
    · subst e;simp at h;subst h;simp[iV]
    · rw [show t-i=(t-(i+1))+1 by omega,Y9]at h;have:=F7 (i:=i+1) h omY;cases x with
      | d a=>exact this
      | box YX Iz =>
        simp only[iV,oU,QQ,kR,dU];exact .inr (.inr this)
theorem F8{w:World}:∀{xs:List XA}{i t:Nat}{ty:Nat}{cs:List XC}{vs:List Value}{v:Value},xs[t-i]? = some (.box ty cs)→vs[t-i]? = some v→i≤t→(t,v)∈zl w i xs vs
  | [],i,t,ty,cs,vs,v,h,_,_=>by simp at h
  | _::_,i,t,ty,cs,[],v,_,h,_=>by simp at h
  | x::xs,i,t,ty,cs,u::vs,v,h,h2,hi=>by
    by_cases e:t=i
    · subst e;simp at h h2;subst h h2;simp[zl]
    · rw [show t-i=(t-(i+1))+1 by omega,Y9]at h h2;have:=F8 (w:=w) (i:=i+1) h h2 omY;cases x with
      | d a=>exact this
      | box YX Iz =>
        simp only[zl,kR,dU];exact .inr (.inr this)
def pinned(h:Fz)(K:List Nat)(w:World):Fz:=λb =>
 match h b with
 | some (.fz (.cells C ty fr))=>some (.fz (.cells C ty fr))
 | _=>match K.contains b with
  | true=>none
  | false=>(w.heap[b]?).map .pin
theorem Wn{h:Fz}{K:List Nat}{w:World}{b:Nat}{o:U6}(hb:h b=some o)(ho:(∃C ty fr,o=.fz (.cells C ty fr))):pinned h K w b=some o:=by
 obtain⟨C,ty,fr,rfl⟩:=ho;simp only[pinned,hb]
def zE9(h:Fz)(K:List Nat)(w:World)(b:Nat):Prop :=
 (∃o,h b=some o∧pinned h K w b=some o∧((∃C ty fr,o = .fz (.cells C ty fr)))) ∨
  (b∈K/\pinned h K w b=none)\/(b∉K/\pinned h K w b=(w.heap[b]?).map .pin)
theorem zn{h:Fz}{K:List Nat}{w:World}{b:Nat}(e:pinned h K w b=(match K.contains b with|true=>none|false=>(w.heap[b]?).map .pin)):zE9 h K w b:=by
 cases hk:K.contains b with
 | true=>rw[hk]at e;exact .inr (.inl ⟨by simpa using hk,e⟩)
 | false=>rw[hk]at e;exact .inr (.inr ⟨by simpa using hk,e⟩)
theorem dX{h:Fz}{K:List Nat}{w:World}(b:Nat):zE9 h K w b:=by
 cases hb:h b with
 | none=>exact zn (by simp only[pinned,hb])
 | some o =>
  cases o with
  | pin o=>exact zn (by simp only[pinned,hb])
  | fz o =>
   cases o with
   | cells C ty fr=>exact .inl ⟨_,hb,by simp only[pinned,hb],C,ty,fr,rfl⟩
   | _=>exact zn (by simp only[pinned,hb])
theorem wR{h:Fz}{K:List Nat}{w:World}{p:PV}{x:Value}(hr:Rep h p x):Rep (pinned h K w) p x:=hr.mono' λ_ _ hb ho=>Wn hb ho
theorem Qs{h:Fz}{K:List Nat}{w:World}(H:Hw h w):Hw (pinned h K w) w:=by
 intro b x hb;rcases dX (h:=h) (K:=K) (w:=w) b with⟨o,h1,h2,_⟩|⟨_,h2⟩|⟨_,h2⟩
 ·rw[h2]at hb;simp only[bW]at hb;subst hb;exact H b _ h1
 ·rw[h2]at hb;cases hb
 ·rw [h2]at hb;obtain⟨o,ho,rfl⟩:=YQ.1 hb;exact⟨o,ho,rfl⟩
theorem wS{h h':Fz}(hle:∀p x,Rep h p x->Rep h' p x){a:PA}{v:Value}(hr:nU h a v):nU h' a v:=by
 cases a with
 | one p=>exact hle _ _ hr
 | agg cs=>obtain⟨vs,rfl,hr⟩:=hr;exact⟨vs,rfl,hr.mono hle⟩
theorem zib{h h':Fz}(hle:∀p x,Rep h p x->Rep h' p x){rs:List PA}{v:Value}(hr:qK h rs v):qK h' rs v:=by
 match rs,hr with
 | [],⟨vs,e,r⟩=>exact⟨vs,e,r.mono λ_ _=>wS hle⟩
 | [x],hr=>exact wS hle hr
 | x::y::l,⟨vs,e,r⟩=>exact⟨vs,e,r.mono λ_ _=>wS hle⟩
theorem znR [dF]{h h':Fz}{w:World}{B:Nat}(hle:∀p x,Rep h p x->Rep h' p x){c:XC}{v:Value}(hr:xcR P h w B c v):xcR P h' w B c v:=by
 cases c with
 | p v=>exact hle _ _ hr
 | vec e s b n get=>obtain⟨h1,h2,h3,xs,h4,h5⟩:=hr;exact⟨h1,h2,h3,xs,h4,λq hq=>(h5 q hq).mono hle⟩
 | mo kt vt q n F=>exact hr
 | slf f np n=>exact hr
theorem zb8 [dF]{h h':Fz}{w:World}{B:Nat}(hle:∀p x,Rep h p x->Rep h' p x){c:XA}{v:Value}(hr:zH P h w B c v):zH P h' w B c v:=by
 cases c with
 | d a=>exact wS hle hr
 | box ty cs=>obtain⟨k,C,h1,h2,h3⟩:=hr;exact⟨k,C,h1,h2,h3.mono λ_ _=>znR hle⟩
theorem Dy:∀{xs:List XA}{i M:Nat},M∈wQ i xs→i≤M∧∃ty cs,xs[M-i]? = some (.box ty cs)
  | [],_,_,h=>by simp[wQ]at h
  | .d a::xs,i,M,h=>by
    obtain⟨h1,ty,cs,h2⟩:=Dy (i:=i+1) h;exact⟨omY,ty,cs,by rw[show M-i=(M-(i+1))+1 by omega,Y9];exact h2⟩
  | .box ty cs::xs,i,M,h=>by
    rcases kR.1 h with rfl|h
    · exact⟨kC _,ty,cs,by simp⟩
    obtain⟨h1,ty,cs,h2⟩:=Dy (i:=i+1) h;exact⟨omY,ty,cs,by rw[show M-i=(M-(i+1))+1 by omega,Y9];exact h2⟩
theorem znS [dF]{nt m:Nat}{xs:List XA}{w:World}{h:Fz}{B:Nat}{vs:List Value}(EG:nt=m)(hlen:xs.length≤nt)(jK:RL (zH P h w B) xs vs)(hn:(nP w xs vs).Nodup)
    (hK:∀b∈nP w xs vs,B<=b/\h b=none) (hw:Hw h w) (hB:B<=w.heap.size) (Am:((iV 0 xs).map (·.1)).Nodup) (EU:zk (wQ 0 xs) xs=true) (l9:∀k b,(dF.bs)[k]? = some b->vs[dF.np+k]? = some (xY b)) :
    ∃g,cO P nt B w (pinned h (nP w xs vs) w) g ⟨LM 0 xs,iV 0 xs,[]⟩ {tmps:=vs.toArray++Array.replicate (m-vs.toArray.size) undef,defers:=[]} w:=by
  let nv:=zl w 0 xs vs;let h0:=pinned h (nP w xs vs) w;let g:Gh:=⟨h0,λL=>zia ((lk nv L).getD undef),λL=>(lk nv L).getD undef,λ_ _=>undef⟩;have hle:∀p x,Rep h p x->Rep g.h p x:=λp x hr=>wR hr;have QK:nv.map (·.1)=(iV 0 xs).map (·.1):=by
    have:∀{xs:List XA}{i:Nat}{vs:List Value},RL (zH P h w B) xs vs->(zl w i xs vs).map (·.1)=(iV i xs).map (·.1):=by
      intro xs
      induction xs with
      | nil=>intro i vs hr;cases vs with
        | nil=>rfl
        | cons=>exact hr.elim
      | cons x xs ih =>
        intro i vs hr;cases vs with
        | nil=>exact hr.elim
        | cons v vs =>
          cases x with
          | d a=>exact ih hr.2
          | box ty cs =>
            obtain⟨k,C,rfl,hC,nT⟩:=hr.1;have hv:∀{cs:List XC}{j:Nat}{vs:List Value},RL (xcR P h w B) cs vs->(xVV i j cs vs).map (·.1)=(mZ i j cs).map (·.1):=by
              intro cs
              induction cs with
              | nil=>intro j vs hr;cases vs with
                | nil=>rfl
                | cons=>exact hr.elim
              | cons c cs ih2 =>
                intro j vs hr;cases vs with
                | nil=>exact hr.elim
                | cons v vs=>cases c with
                  | p q=>exact ih2 hr.2
                  | vec e s b n get=>simp only[xVV,mZ,oU];rw[ih2 hr.2]
                  | mo kt vt q n F=>simp only[xVV,mZ,oU];rw[ih2 hr.2]
                  | slf f np n=>exact ih2 hr.2
            simp only[zl,iV,oU,QQ,Jl,hC];rw[hv nT,ih hr.2]
    exact this jK
  have znT:∀x∈nv,lk nv x.1=some x.2:=λx hx=>FK (by rw[QK];exact Am) hx;obtain⟨o1,o2,o3⟩:=SE (g:=g) (i:=0) hle (bx:=wQ 0 xs) (λk b hk hm=>by
    obtain⟨_,ty,cs,hx⟩:=Dy hm;have:=znT _ (F8 (w:=w) (i:=0) hx (by rw[qzc];exact l9 k b hk) (Cf _));show zia ((lk nv (dF.np+k)).getD undef)=b;rw[show lk nv (dF.np+k)=some (xY b)from this];rfl) jK EU (λx hx=>⟨by show(lk nv x.1).getD undef=x.2;rw[znT x hx];rfl,by show zia ((lk nv x.1).getD undef)=_;rw[znT x hx];rfl⟩)
  have sD:∀L o,lk (iV 0 xs) L=some o->(L,o)∈iV 0 xs:=λL o h=>fM h;have hl:=jK.length;have hblk:∀L o b,lk (iV 0 xs) L=some o->gW g L o b->b∈(iV 0 xs).flatMap (λx=>kO g x.1 x.2):=λL o b hL hb=>lK.2 ⟨_,sD L o hL,FH (o1 _ (sD L o hL)).1 hb⟩;refine⟨g,Marks.nil _ _,by simp;omega,?_,λL o hL=>(o1 _ (sD L o hL)).2.2,?_,?_,Qs hw,λ_ _ h=>h,λb o h=>.inl h,xJ.refl _ _ _,hB,?_,?_⟩
  · intro t d ht;obtain⟨x,hx,_,rfl⟩:=SG xs 0 t d ht;obtain⟨v,hv,xQ⟩:=jK.get t x (by simpa using hx);have iC:=(AY.1 hv).1;have:(vs.toArray++Array.replicate (m-vs.toArray.size) undef).getD t undef=v:=by
      rw[xX,qdh (by simpa using iC)];simp[hv]
    rw[this];cases x with
    | d a=>exact KL (g:=g) (wS hle xQ)
    | box ty cs =>
      obtain⟨k,C,rfl,hC,_⟩:=xQ;have:=znT _ (F8 (w:=w) (i:=0) hx (by simpa using hv) (Cf _));show Value.pointer (some ⟨k,0,none⟩)=.pointer (some ⟨zia ((lk nv t).getD undef),0,none⟩);rw[show lk nv t=some (.pointer (some ⟨k,0,none⟩))from this];rfl
  · intro L o b hL hb;have hbK:b∈nP w xs vs:=by rw[o2];exact hblk L o b hL hb
    refine⟨(hK b hbK).1,?_⟩;show pinned h (nP w xs vs) w b=none;rcases dX (h:=h) (K:=nP w xs vs) (w:=w) b with⟨o,h1,_⟩|⟨_,h2⟩|⟨h2,_⟩
    · rw[(hK b hbK).2]at h1;cases h1
    · exact h2
    · exact(h2 hbK).elim
  · intro L o b L' o' hL QM hb mf;rw[o2]at hn;have:=FI hn (L,o) (L',o') b (sD L o hL) (sD L' o' QM) (FH (o1 _ (sD L o hL)).1 hb) (FH (o1 _ (sD L' o' QM)).1 mf);exact jX Prod.fst this
  · intro t d ht L hL;obtain⟨x,hx,_,rfl⟩:=SG xs 0 t d ht;cases x with
    | d a=>rw[show df (.one (I5 a))=dE (I5 a)from rfl,wK]at hL;simp at hL
    | box ty cs =>
      simp[df,dE,bD]at hL;subst hL;exact zI (F7 (i:=0) hx (Cf _))
  · intro L o hL M hM;rcases (o1 _ (sD L o hL)).2.1 M hM with h | h
    · exact zI h
    · obtain⟨_,ty,cs,hx⟩:=Dy h;exact zI (F7 (i:=0) hx (Cf _))
theorem Gf{nt B:Nat}{w0:World}{h0:Fz}{g:Gh}{σ:St}{a:Act}{w:World}(S:cO P nt B w0 h0 g σ a w):∀(rs:List ResultVar)(l:List PA)(u:mF),Dx P σ rs=some (l,u) ->
  ∃(vs:List Value),fE (lk σ.aB) u/\(rs.mapM (resV a.tmps)).run P w=.ok vs w/\∀(u':mF)(h':Fz),(∀y∈u,y∈u')->fK g (lk σ.aB) u' h'->RL (nU h') l vs
 | [],l,u,h=>by
  simp[Dx]at h;obtain⟨rfl,rfl⟩:=h;exact⟨[],fE.nil _,rfl,λ_ _ _ _=>trivial⟩
 | .tmp t::r,l,u,h=>by
  simp only[Dx]at h;split at h
  ·rename_i d hd;split at h
   ·rename_i x u1 l2 u2 h1 h2;simp only[bW,gy]at h;obtain⟨rfl,rfl⟩:=h;obtain⟨vs,hu2,dA,hr⟩:=Gf S r l2 u2 h2;refine⟨a.tmps.getD t undef::vs,(CQ h1).append hu2,?_,λu' h' hu F=>⟨F.repD h1 (λy hy=>hu y (dU.2 (.inl hy))) (S.env t d hd),hr u' h' (λy hy=>hu y (dU.2 (.inr hy))) F⟩⟩;rw[qj3];simp only[resV,Sem.run_bind,Sem.run_pure,Result.andThen_ok];rw[dA];rfl
   ·cases h
  ·cases h
 | .cell t ty::r,l,u,h=>by
  simp only[Dx]at h;split at h
  ·rename_i L off ag m ht hg hs;split at h
   ·rename_i YX cells hL;split at h
    ·rename_i d hd;split at h
     ·rename_i x u1 l2 u2 h1 h2;simp only[bW,gy]at h;obtain⟨rfl,rfl⟩:=h;obtain⟨vs,hu2,dA,hr⟩:=Gf S r l2 u2 h2;obtain⟨C,hC,Um⟩:=S.obj L _ hL;obtain⟨v,Yx,hv⟩:=J9 (P:=P) hg hs hC 0 (λj y hj=>by obtain⟨v,hv,QI⟩:=Um.get j y hj;exact⟨v,by simpa using hv,QI⟩) hd;have hp:a.tmps.getD t undef=.pointer (some ⟨g.bk L,off,none⟩):=S.env t _ ht;rw[NV]at Yx;refine⟨v::vs,(CQ h1).append hu2,?_,λu' h' hu F=>⟨F.repD h1 (λy hy=>hu y (dU.2 (.inl hy))) hv,hr u' h' (λy hy=>hu y (dU.2 (.inr hy))) F⟩⟩;have h1:(resV a.tmps (.cell t ty)).run P w=.ok v w:=by
       simp only[resV,Sem.run_bind,hp,LJ,Result.andThen_ok,Yx]
      rw[qj3];simp only[Sem.run_bind,h1,Result.andThen_ok];rw[dA];rfl
     ·cases h
    ·cases h
   ·cases h
  ·cases h
theorem SH{nt B:Nat}{w0:World}{h0:Fz}{g:Gh}{σ:St}{a:Act}{w:World}(S:cO P nt B w0 h0 g σ a w){fn:Func}{l:List PA}{u:mF}(h:Dx P σ fn.results.toList=some (l,u)) :
  ∃(v:Value),fE (lk σ.aB) u/\(results fn a.tmps).run P w=.ok v w/\∀(h':Fz),fK g (lk σ.aB) u h'->qK h' l v:=by
 obtain⟨vs,hu,dA,hr⟩:=Gf S fn.results.toList l u h;refine⟨if h:vs.toArray.size=1 then vs.toArray[0]else .tuple vs.toArray,hu,?_,λh' F=>?_⟩
 ·have e:results fn a.tmps=(do let vs ← fn.results.mapM (resV a.tmps);pure (if h:vs.size=1 then vs[0]else .tuple vs)):=rfl;rw[e,qj4];simp only[Sem.run_bind,Sem.run_map];rw[dA];simp only[Result.andThen_ok,Sem.run_pure]
 ·have nT := hr u h' (fun y hy => hy) F
  match l,vs,nT with
  | [],[],_=>exact⟨[],rfl,trivial⟩
  | [x],[v],nT=>exact nT.1
  | x::y::l,v::v2::vs,nT =>
   refine⟨v::v2::vs,?_,nT⟩;rw[dif_neg (by simp)]
  | [],_::_,nT=>exact nT.elim
  | [_],[],nT=>exact nT.elim
  | [_],_::_::_,nT=>exact nT.2.elim
  | _::_::_,[],nT=>exact nT.elim
  | _::_::_,[_],nT=>exact nT.2.elim
theorem zO [dF]{h:Fz}{B:Nat}{w:World}{bx:List Nat}:∀{cs:List XC}{vs:List Value}{f:FuncId}{np n:Nat},zb7 cs=some (f,np,n)→RL (xcR P h w B) cs vs→LQ bx cs=true→f=dF.f∧np=dF.np∧n=(dF.bs).length∧zi bx np n=true
  | [],_,_,_,_,h1,_,_=>by cases h1
  | _::_,[],_,_,_,_,hr,_=>hr.elim
  | c::cs,v::vs,f,np,n,h1,hr,hb=>by
    cases c with
    | slf f' np' n' =>
      simp only[zb7,bW,gy]at h1;obtain⟨rfl,rfl,rfl⟩:=h1;simp only[LQ,gG]at hb;obtain⟨q1,q2,q3,_⟩:=hr.1;exact⟨q1,q2,q3,hb.1⟩
    | p q=>exact zO (cs:=cs) h1 hr.2 hb
    | vec e s b n get=>exact zO (cs:=cs) h1 hr.2 hb
    | mo kt vt q n F=>exact zO (cs:=cs) h1 hr.2 hb
theorem Gg [dF]{h:Fz}{B:Nat}{w:World}{bx:List Nat}:∀{xs:List XA}{vs:List Value}{f:FuncId}{np n:Nat},Wi xs=some (f,np,n)→RL (zH P h w B) xs vs→zk bx xs=true→f=dF.f∧np=dF.np∧n=(dF.bs).length∧zi bx np n=true
  | [],_,_,_,_,h1,_,_=>by cases h1
  | _::_,[],_,_,_,_,hr,_=>hr.elim
  | .d a::xs,v::vs,f,np,n,h1,hr,hb=>Gg (xs:=xs) h1 hr.2 hb
  | .box ty cs::xs,v::vs,f,np,n,h1,hr,hb=>by
    simp only[zk,gG]at hb;simp only[Wi]at h1;split at h1
    · rename_i y hy;simp only[bW]at h1;subst h1;obtain⟨k,C,_,_,nT⟩:=hr.1;exact zO hy nT hb.1
    · exact Gg (xs:=xs) h1 hr.2 hb.2
theorem Wp{nt B:Nat}{w0:World}{h0:Fz}{g:Gh}{σ:St}{a:Act}{w:World}(S:cO P nt B w0 h0 g σ a w):∀(bs:List Nat)(np:Nat)(l:List Nat),LP σ.env np bs.length=some l→(∀k b,bs[k]? = some b→a.tmps.getD (np+k) undef=xY b)→bs=l.map g.bk
  | [],_,l,h1,_=>by simp only[UJ,LP,bW]at h1;subst h1;rfl
  | b::bs,np,l,h1,h2=>by
    simp only[Cc,LP]at h1;split at h1
    · rename_i L l' hL zY;simp only[bW] at h1;subst h1;have e1:a.tmps.getD np undef=.pointer (some ⟨g.bk L,0,none⟩):=S.env np _ hL;have e2:=h2 0 b rfl;rw[qjd,e1] at e2;have e3:g.bk L=b:=by simpa [xY] using e2
      rw[oU,e3,<- Wp S bs (np+1) l' zY λk b' hk=>by rw[show np+1+k=np+(k+1)by omega];exact h2 (k+1) b' (by simpa using hk)]
    · cases h1
theorem zic [dF]{nt B:Nat}{w0:World}{h0 h:Fz}{g:Gh}{σ:St}{a:Act}{w w1:World}(S:cO P nt B w0 h0 g σ a w){xs:List XA}{vs:List Value}(jK:RL (zH P h w1 B) xs vs)(EU:zk (wQ 0 xs) xs=true)
    (l9:∀k b,(dF.bs)[k]? = some b->vs[dF.np+k]? = some (xY b)) (zda:∀t u,vs[t]? = some u->t∈wQ 0 xs->a.tmps.getD t undef=u):Zy g (Bz σ.env xs):=by
  intro f np ls h1;unfold Bz at h1;split at h1
  · rename_i f' np' n hx;split at h1
    · rename_i l hl;simp only[bW,gy]at h1;obtain⟨rfl,rfl,rfl⟩:=h1;obtain⟨rfl,rfl,rfl,hbb⟩:=Gg hx jK EU;exact⟨rfl,rfl,Wp S _ _ _ hl λk b hk=>zda _ _ (l9 k b hk) (BA _ _ _ hbb k (AY.1 hk).1)⟩
    · cases h1
  · cases h1
theorem Z4 [dF]{sf:lu}{nt B:Nat}{w0:World}{h0:Fz}{g:Gh}{σ:St}{a:Act}{w w1:World}{h:Fz}(S:cO P nt B w0 h0 g σ a w)(Uo:Zy g sf)(hle:∀p x,Rep h p x→Rep g.h p x) :
  ∀{xs ys:List XA}{ls:List Nat}{i:Nat}{vs:List Value},LU sf (lk σ.aB) σ.env i xs=some (ys,ls)->RL (zH P h w1 B) xs vs->(∀t v,vs[t]? = some v->i+t∈wQ i xs->a.tmps.getD (i+t) undef=v) ->
  RL (zH P g.h w B) ys vs/\nP w ys vs=ls.flatMap (kB g (lk σ.aB))/\∀L∈ls,isB (lk σ.aB) L
 | [],ys,ls,i,[],h1,_,_=>by
  simp only[LU,bW,gy]at h1;obtain⟨rfl,rfl⟩:=h1;exact⟨trivial,rfl,λL hL=>by simp at hL⟩
 | [],_,_,_,_::_,_,hr,_=>hr.elim
 | _::_,_,_,_,[],_,hr,_=>hr.elim
 | .d p::xs,ys,ls,i,v::vs,h1,hr,ht=>by
  simp only[LU]at h1;split at h1
  ·rename_i qp ls' h2;simp only[bW,gy]at h1;obtain⟨rfl,rfl⟩:=h1;obtain⟨i1,i2,i3⟩:=Z4 S Uo hle h2 hr.2 (λt u hu hb=>by
    have:=ht (t+1) u (by simpa using hu) (by rw[show i+(t+1)=i+1+t by omega];exact hb);rw[show i+1+t=i+(t+1)by omega];exact this)
   exact⟨⟨wS hle hr.1,i1⟩,by simp only[nP,U8,Pg];exact i2,i3⟩
  ·cases h1
 | .box ty cs::xs,ys,ls,i,v::vs,h1,hr,ht=>by
  simp only[LU]at h1;split at h1
  ·rename_i L qp ls' hL h2;split at h1
   ·rename_i y l ms hy;simp only[bW,gy]at h1;obtain⟨rfl,rfl⟩:=h1;obtain⟨i1,i2,i3⟩:=Z4 S Uo hle h2 hr.2 (λt u hu hb=>by
     have:=ht (t+1) u (by simpa using hu) (by rw[show i+(t+1)=i+1+t by omega];exact jU _ hb);rw[show i+1+t=i+(t+1)by omega];exact this)
    have hv:a.tmps.getD i undef=v:=ht 0 v rfl (by simp[wQ]);obtain⟨j1,j2,j3⟩:=zhs S Uo hy (S.env i _ hL);rw[hv]at j1 j2;exact⟨⟨j1,i1⟩,by simp only[nP,i2,j2,qd5],λM hM=>(dU.1 hM).elim (j3 M) (i3 M)⟩
   ·cases h1
  ·cases h1
def zb9 [dF](P:Program)(h:Fz)(base:Nat)(w:World)(xs:List XA)(vs:List Value)(K:List PA->List XA->Prop)(e:Ending)(w':World):Prop :=
 ∃(h':Fz)(rs:List PA)(ys:List XA),K rs ys/\Rh h' rs e/\RL (zH P h' w' base) ys vs/\(nP w' ys vs).Nodup /\
   (∀b∈nP w' ys vs,(b∈nP w xs vs\/w.heap.size<=b)/\h' b=none)/\jV h h'/\Hw h' w'/\(∀b o,h' b=some o->h b=some o\/w.heap.size<=b\/b∈nP w xs vs)/\Zl h (nP w xs vs) w w'
theorem znU [dF]{G:bU}(gp:jw P G){f:FuncId}{aQ:dK}{xs:List XA}{K:List PA→List XA→Prop}{w:World}{h:Fz}{base:Nat}{vs:List Value}(hv:Wj P G aQ f xs K)(jK:RL (zH P h w base) xs vs)
    (hn:(nP w xs vs).Nodup) (hK:∀b∈nP w xs vs,base<=b/\h b=none) (hw:Hw h w) (hB:base<=w.heap.size) (l9:∀k b,(dF.bs)[k]? = some b->vs[dF.np+k]? = some (xY b)) :
    Calls P f vs.toArray w (zb9 P h base w xs vs K):=by
  unfold Wj at hv;split at hv
  · rename_i fn uh;split at hv
    · rename_i c sG;split at hv
      · rename_i hc;simp only[gG,Uz]at hc;obtain⟨⟨⟨⟨EG,hlen⟩,Am⟩,EU⟩,zJ9⟩:=hc;obtain⟨g0,S⟩:=znS (P:=P) (kL EG) hlen jK hn hK hw hB (mX Am) EU l9;have hwp:=LH (B:=base) (w0:=w) gp aQ c none 0 (pinned h (nP w xs vs) w) (eH c) _ (ztG P fn xs K) _ _ _ _ (λ_ h=>h) (Rnd.none _) hv S (Kp.refl _ _);refine(callsIn_wide (n:=0)).1 ?_;refine callsIn_of_wp_marks (F:=FR none) uh sG trivial (wpIn_mono (ry hwp) ?_);have Qm:∀b,pinned h (nP w xs vs) w b=some (.fz (.deferred (some [])))->b<base:=λb hb=>by
          rcases dX (h:=h) (K:=nP w xs vs) (w:=w) b with⟨o,h1,h2,h3⟩|⟨_,h2⟩|⟨_,h2⟩
          · rw [h2]at hb;simp only [bW]at hb;subst hb;obtain⟨C,ty,fr,e⟩:=h3;cases e
          · rw[h2]at hb;cases hb
          · rw [h2]at hb;obtain⟨o,_,e⟩:=YQ.1 hb;cases e
        rintro e a' w' ⟨g',σ',xA,S',kX⟩
        have core:∀(g2:Gh)(a2:Act)(w2:World)(u:mF)(ys:List XA)(ls:List Nat),a2.tmps=a'.tmps->cO P aQ.nt base w (pinned h (nP w xs vs) w) g2 σ' a2 w2->fE (lk σ'.aB) u->LU (Bz σ'.env xs) (lk (u++σ'.aB)) σ'.env 0 xs=some (ys,ls)->mO ls=true ->
            ∃h':Fz,(∀l v,(∀Ju:Fz,fK g2 (lk σ'.aB) u Ju->qK Ju l v)->qK h' l v)/\RL (zH P h' w2 base) ys vs/\(nP w2 ys vs).Nodup /\
              (∀b∈nP w2 ys vs,(b∈nP w xs vs\/w.heap.size<=b)/\h' b=none)/\jV h h'/\Hw h' w2/\(∀b o,h' b=some o->h b=some o\/w.heap.size<=b\/b∈nP w xs vs)/\Zl h (nP w xs vs) w w2:=by
          intro g2 a2 w2 u ys ls ht S2 hu ho hnl;obtain⟨Ju,S3,F⟩:=S2.freeze hu;have zKA:∀p x,Rep h p x->Rep Ju p x:=λp x hr=>(wR (K:=nP w xs vs) (w:=w) hr).mono S3.le0;have zda:∀t u,vs[t]? = some u->t∈wQ 0 xs->a2.tmps.getD t undef=u:=λt u hu hb=>by
            rw[ht,kX.1 t (λhd=>by
              have:=Aa.1 zJ9 t hb;simp at this;exact this hd)]
            have iC:=(AY.1 hu).1;rw[xX,qdh (by simpa using iC)];simp[hu]
          obtain⟨o1,o2,o3⟩:=Z4 S3 (zic S3 jK EU l9 zda) (w1:=w) zKA ho jK (λt u hu hb=>by
            rw[NV]at hb ⊢;exact zda t u hu hb)
          let h':Fz:=λb=>match Ju b with|some (.pin _)=>h b|x=>x
          have hnp:∀b o,Ju b=some o->(∀x,o ≠ .pin x)->h' b=some o:=λb o hb hx=>by
            show(match Ju b with|some (.pin _)=>h b|x=>x)=some o;rw[hb];cases o with
            | pin x=>exact(hx x rfl).elim
            | _=>rfl
          have hpn:∀b x,Ju b=some (.pin x)->h' b=h b:=λb x hb=>by
            show(match Ju b with|some (.pin _)=>h b|x=>x)=h b;rw[hb]
          have hnn:∀b,Ju b=none->h' b=none:=λb hb=>by
            show(match Ju b with|some (.pin _)=>h b|x=>x)=none;rw[hb]
          have zfR:∀p x,Rep Ju p x->Rep h' p x:=λp x hr=>hr.mono' λb o hb ho=>hnp b o hb λx e=>by
            subst e;obtain⟨C,ty,fr,e⟩:=ho;cases e
          have uF:∀b y,pinned h (nP w xs vs) w b=some y->Ju b=some y:=λb y hb=>S3.le0 b y hb;have iC:∀b,b<w.heap.size->∃o,w.heap[b]? = some o:=λb hb=>⟨_,qdT hb⟩;have zC:=mX hnl;refine⟨h',λl v oI=>zib zfR (oI Ju F),o1.mono λ_ _=>zb8 zfR,by rw[o2];exact Hl S3 zC,λb hb=>?_,λb x hb=>?_,λb x hb=>?_,λb x hb=>?_,⟨S3.below.os,S3.below.tape,S3.below.output,S3.below.size,S3.below.drawn,λk hk hkK=>?_⟩⟩
          · rw [o2] at hb;obtain⟨L,hL,hb⟩:=lK.1 hb;unfold kB at hb;split at hb
            · rename_i o' kQ;have dh:base<=b/\Ju b=none:=S3.own L o' b kQ (Rz hb);refine⟨?_,hnn b dh.2⟩;by_cases hbs:b < w.heap.size
              · refine .inl ?_;rcases dX (h:=h) (K:=nP w xs vs) (w:=w) b with ⟨o,_,h2,_⟩ | ⟨h2,_⟩ | ⟨_,h2⟩
                · have:=uF b _ h2;rw[dh.2]at this;cases this
                · exact h2
                · obtain⟨o,ho⟩:=iC b hbs;rw[ho]at h2;have:=uF b _ h2;rw[dh.2]at this;cases this
              · exact .inr omY
            · simp at hb
          · rcases dX (h := h) (K := nP w xs vs) (w := w) b with ⟨o, h1, h2, h3⟩ | ⟨h2, _⟩ | ⟨_, h2⟩
            · rw [h1]at hb;simp only [bW]at hb;subst hb;exact hnp b _ (uF b _ h2) λx e=>by subst e;obtain⟨C,ty,fr,e⟩:=h3;cases e
            · rw[(hK b h2).2]at hb;cases hb
            · obtain⟨o,ho⟩:=iC b (hw.lt hb);rw[ho]at h2;rw[hpn b _ (uF b _ h2)];exact hb
          · cases h3b:Ju b with
            | none=>rw[hnn b h3b]at hb;cases hb
            | some y =>
              by_cases hy:∃o,y=.pin o
              · obtain ⟨o, rfl⟩ := hy;rw[hpn b _ h3b] at hb;rcases dX (h:=h) (K:=nP w xs vs) (w:=w) b with ⟨o',h1,h2,h3⟩ | ⟨h2,_⟩ | ⟨_,h2⟩
                · have:=uF b _ h2;rw[h3b]at this;simp only[bW]at this;subst this;obtain⟨C,ty,fr,e⟩:=h3;cases e
                · rw[(hK b h2).2]at hb;cases hb
                · obtain⟨o1,ho1,hx1⟩:=hw b x hb;rw[ho1]at h2;have:=uF b _ h2;rw[h3b]at this;simp only[bW,U6.pin.injEq]at this;subst this;obtain⟨o2,nV,OU⟩:=S3.hw b _ h3b;simp only[U6.ok]at OU;subst OU;exact⟨_,nV,hx1⟩
              · rw [hnp b y h3b fun x e=>hy ⟨x,e⟩]at hb;simp only[bW]at hb;subst hb;exact S3.hw b _ h3b
          · cases h3b:Ju b with
            | none=>rw[hnn b h3b]at hb;cases hb
            | some y =>
              by_cases hy:∃o,y=.pin o
              · obtain⟨o,rfl⟩:=hy;rw[hpn b _ h3b]at hb;exact .inl hb
              · rw [hnp b y h3b fun x e => hy ⟨x, e⟩] at hb;simp only[bW] at hb;subst hb;by_cases hbs:b < w.heap.size
                · rcases dX (h := h) (K := nP w xs vs) (w := w) b with ⟨o', h1, h2, h3⟩ | ⟨h2, _⟩ | ⟨_, h2⟩
                  · have:=uF b _ h2;rw[h3b]at this;simp only[bW]at this;subst this;exact .inl h1
                  · exact .inr (.inr h2)
                  · obtain⟨o,ho⟩:=iC b hbs;rw[ho]at h2;have:=uF b _ h2;rw[h3b]at this;simp only[bW]at this;exact(hy ⟨_,this⟩).elim
                · exact .inr (.inl omY)
          · rcases dX (h := h) (K := nP w xs vs) (w := w) k with ⟨o', h1, h2, h3⟩ | ⟨h2, _⟩ | ⟨_, h2⟩
            · obtain⟨C,ty,fr,rfl⟩:=h3;rw[S3.hw.fz (uF k _ h2),hw.fz h1]
            · exact(hkK h2).elim
            · obtain⟨o,ho⟩:=iC k hk;rw[ho]at h2 ⊢;obtain⟨o2,nV,OU⟩:=S3.hw k _ (uF k _ h2);simp only[U6.ok]at OU;subst OU;exact nV
        have fin:Vs P fn xs K σ'->LeavesInM (FR none) 0 P fn a'.tmps (zb9 P h base w xs vs K) a'.defers .returning w':=by
          intro hf;obtain⟨Ds,h1,h2,h3,h4⟩:=S'.dfr;refine zM Qm Ds g' a' w' h1 h2 h3 h4 S' λg2 a2 w2 ht S2=>?_;unfold Vs at hf;split at hf
          · rename_i l u hl;split at hf
            · rename_i ys ls ho;split at hf
              · rename_i hnl hpm;obtain⟨v,hu,dA,oI⟩:=SH S2 hl;obtain⟨h',hr,hx⟩:=core g2 a2 w2 u ys ls ht S2 hu ho hnl;refine⟨v,dA,h',l,ys,hf,?_,hx⟩;unfold Rh;rw[hpm];exact⟨v,rfl,hr l v oI⟩
              · exact hf.elim
            · exact hf.elim
          · exact hf.elim
        cases e with
        | normal=>exact fin xA
        | ret=>exact fin xA
        | exit id=>exact xA.elim
        | goto l=>exact xA.elim
        | panic ch =>
          have xA:zh9 xs K ch σ':=xA;obtain⟨Ds,h1,h2,h3,h4⟩:=S'.dfr;refine zb4 Qm Ds g' a' w' h1 h2 h3 (λd hd=>?_) S' λg2 a2 w2 ht S2=>?_
          · obtain ⟨_, _, _, _, e1, _⟩ := h4 d hd;have hd:d∈a'.defers:=by rw[h2];exact xR.2 ⟨_,hd,rfl⟩
            rcases kX.2.2.2 d hd with hd|⟨b,e2⟩
            · cases hd
            · rw[e1]at e2;cases e2
          · unfold zh9 at xA;split at xA
            · rename_i l hl;split at xA
              · rename_i ys ls ho;split at xA
                · rename_i hnl;obtain⟨h',hr,hx⟩:=core g2 a2 w2 [] ys ls ht S2 (fE.nil _) ho hnl;refine⟨h',l,ys,xA,?_,hx⟩;unfold Rh;rw[zEw hl]
                · exact xA.elim
              · exact xA.elim
            · exact xA.elim
        | outgrown=>exact xA.elim
      · exact hv.elim
    · exact hv.elim
  · exact hv.elim
theorem zed{G:bU}(gp:jw P G){f:FuncId}{C:MK}(hc:dD P f)
    (h:∀xs rs ys,(C xs).o=some (rs,ys)->∃vv aQ,Wj P {G with vv:=vv} aQ f xs λl zs=>l=rs/\zs=ys):rJ P f C:=by
  intro _ xs ys rs hC w h0 base vs jK l9 hn hK hw hB;obtain⟨vv,aQ,hv⟩:=h xs rs ys hC;refine⟨hc,(znU (G:={G with vv:=vv}) ⟨gp.mt,gp.fn,gp.own,gp.it,gp.cmp⟩ hv jK hn hK hw hB l9).mono ?_⟩;rintro e w' ⟨h',QH,qp,⟨rfl,rfl⟩,r⟩;exact⟨h',r⟩
end
end Go.Pm
namespace Go.Pm
section
variable{ρ τ:Type}
theorem ae.ext{c d:ae ρ}(h:∀{A:Type}(k:ρ->Option A),c.T k=d.T k):c=d:=by
 obtain⟨T,n⟩:=c;obtain⟨T',n'⟩:=d;have : @T = @T':=by funext A k;exact h k
 subst this;rfl
def ae.bind(c:ae ρ)(f:ρ->ae τ):ae τ:=⟨λk=>c.T λr=>(f r).T k,λk=>by
 rw[c.nat,c.nat λr=>(f r).T some];cases c.T some with
 | none=>rfl
 | some r=>exact(f r).nat k⟩
def ae.mp(f:ρ->τ)(c:ae ρ):ae τ:=⟨λk=>c.T λr=>k (f r),λk=>by
 rw[c.nat,c.nat λr=>some (f r)];cases c.T some<;>rfl⟩
def ae.chk(b:Bool)(c:ae ρ):ae ρ:=⟨λk=>match b with|true=>c.T k|false=>none,λk=>by
 cases b with
 | true=>exact c.nat k
 | false=>rfl⟩
def ae.ite(b:Bool)(c d:ae ρ):ae ρ:=⟨λk=>cond b (c.T k) (d.T k),λk=>by
 cases b with
 | true=>exact c.nat k
 | false=>exact d.nat k⟩
def ae.opt:Option ρ→ae ρ
  | some r=>.ok r
  | none=>.no
theorem ae.bind_o{c:ae ρ}{f:ρ->ae τ}{y:τ}(h:(c.bind f).o=some y):∃r,c.o=some r/\(f r).o=some y:=by
 have h:c.T (λr=>(f r).T some)=some y:=h;rw[c.nat]at h;cases e:c.T some with
 | none=>rw[e]at h;cases h
 | some r=>rw[e]at h;exact⟨r,e,h⟩
theorem ae.mp_o{c:ae ρ}{f:ρ->τ}{y:τ}(h:(c.mp f).o=some y):∃r,c.o=some r/\f r=y:=by
 have h:c.T (λr=>some (f r))=some y:=h;rw[c.nat]at h;cases e:c.T some with
 | none=>rw[e]at h;cases h
 | some r=>rw[e]at h;exact⟨r,e,YR h⟩
theorem ae.chk_o{b:Bool}{c:ae ρ}{y:ρ}(h:(ae.chk b c).o=some y):b=true/\c.o=some y:=by
 cases b with
 | true=>exact⟨rfl,h⟩
 | false=>cases h
theorem ae.ok_o{x y:ρ}(h:(ae.ok x).o=some y):x=y:=YR h
theorem ae.no_o{y:ρ}(h:(ae.no:ae ρ).o=some y):False:=by cases h
theorem ae.opt_o{x:Option ρ}{y:ρ}(h:(ae.opt x).o=some y):x=some y:=by
 cases x with
 | none=>cases h
 | some x=>rw[ae.ok_o h]
end
structure Wq where
  ρ:Type
  c:ae ρ
  f:ρ->aC
section
variable(P:Program)(Γ:bU)
def znV(C:MK)(sf:lu)(args:List DV)(ob:Nat->Option AO):Option Wq :=
 match jZ sf ob args with
 | some (xs,ls,ms)=>some ⟨_,C xs,λ(rs,ys)=>match Fh rs with
   | none=>qB args ob ls ms rs ys
   | some _=>.no⟩
 | none=>none
def zwI(o:Oper)(e s b:Nat)(F:List PA->ae (Nat×(Nat->List PV)×List PV))(args:List DV)(ob:Nat->Option AO):Option Wq :=
  match iD ob args,o.dst with
  | some (az,u),some dst=>some ⟨_,F az,λ(n,get,rs)=>match ob dst,P.info? e,gV P e with
    | none,some ie,some _=>if ie.size=s/\ie.bytes=b/\0<s/\zg0 get u=true/\rs.all jP=true then
          .val ((dst,true)::rd (args.flatMap (bK ob)))
            (match rs with|[]=>.cl (.vec dst)|_=>.tup (.c (.vec dst)::rs.map λv=>.c (.p v))) [(dst,.vec e s b n get)] []
        else .no
    | _,_,_=>.no⟩
  | _,_=>none
def zid(o:Oper)(e s b:Nat)(F:List PA->Nat->(Nat->List PV)->ae (Nat×(Nat->List PV)))(args:List DV)(ob:Nat->Option AO):Option Wq :=
  match JM args with
    | some (ds,.one (.c (.vec L)))=>match iD ob ds,ob L with
      | some (az,[]),some (.vec e' s' b' n get)=>some ⟨_,F az n get,λ(m,get')=>if e'=e/\s'=s/\b'=b then
            .val ((L,true)::rd (ds.flatMap (bK ob))) (.cl (.vec L)) [(L,.vec e s b m get')] [L]
          else .no⟩
      | _,_=>none
    | some (ds,.one (.c (.p .nils)))=>match iD ob ds,o.dst with
      | some (az,[]),some dst=>match ob dst,P.info? e,gV P e with
        | none,some ie,some z=>match jY z with
          | some l=>some ⟨_,F az 0 λ_=>l,λ(m,get')=>if ie.size=s/\ie.bytes=b/\0<s then
                .val ((dst,true)::rd (ds.flatMap (bK ob))) (.cl (.vec dst)) [(dst,.vec e s b m get')] []
              else .no⟩
          | none=>none
        | _,_,_=>none
      | _,_=>none
    | _=>none
def Ws(o:Oper)(ev:Operand->DV)(ob:Nat->Option AO):Option Wq :=
  match o.op with
  | .call {callee:=.value f,args,argTypes:=_}=>match ev f with
    | .one (.c (.clo g caps))=>match Γ.mt g with
      | some C=>znV C (zdr g args.size caps) (args.toList.map ev++caps.map capD) ob
      | none=>none
    | .one (.c (.p (.fn g first caps)))=>match Γ.mt g with
     | some C=>znV C none (first.map (λv=>.p v)++args.toList.map ev++caps.map (λv=>.p v)) ob
     | none=>match Γ.own g with
       | .none=>match iD ob (args.toList.map ev)with
         | some (az,u)=>some ⟨_,Γ.fn g (first.map .one++az++caps.map .one),λr=>lH (args.toList.flatMap λx=>bK ob (ev x)) u r⟩
         | none=>none
       | .mkv e s b F=>match first,caps with
         | [],[]=>zwI P o e s b F (args.toList.map ev) ob
         | _,_=>none
       | .grow e s b F=>match first,caps with
         | [],[]=>zid P o e s b F (args.toList.map ev) ob
         | _,_=>none
       | _=>none
    | .one (.c (.p (.fna g cells)))=>match iD ob (args.toList.map ev)with
      | some (az,u)=>some ⟨_,Γ.fn g (.agg cells::az),λr=>lH (args.toList.flatMap λx=>bK ob (ev x)) u r⟩
      | none=>none
    | _=>none
  | _=>none
def zie(A:aC)(lg:List (Nat×Bool)->List Nat->List (Nat×Nat×Nat))(i:Nat)(dst:Option Nat)(σ:St):ae St :=
 match A with
 | .no=>.no
 | .val fp d u kl=>.ok ((σ.upd i dst fp d u kl).relog (lg fp kl))
 | .chk fp s d u kl=>.chk s.b (.ok ((σ.upd i dst fp d u kl).relog (lg fp kl)))
def LV(o:Oper)(lg:List (Nat×Bool)->List Nat->List (Nat×Nat×Nat))(i:Nat)(σ:St):ae St :=
 match Ws P Γ o (fU σ.env) (lk σ.aB)with
 | some p=>p.c.bind λr=>zie (p.f r) lg i o.dst σ
 | none=>zie (act P Γ o (fU σ.env) (lk σ.aB)) lg i o.dst σ
def pg(nt:Nat)(ops:Array Oper):Nat→List Oper→St→ae St
  | _,[],σ=>.ok σ
  | i,o::r,σ =>
    match dJ nt o.dst with
    | false=>.no
    | true =>
    match o.guard with
    | none=>(LV P Γ o (oV σ i o) i σ).bind (pg nt ops (i+1) r)
    | some (j,want) =>
      match(ops[j]?).bind (·.dst)with
      | none=>.no
      | some g =>
        match lk σ.env g with
        | some (.one (.c (.p (.bool b)))) =>
          .ite b
            (match want with
              | true=>(LV P Γ o (oV (σ.setT g (.bool true)) i o) i (σ.setT g (.bool true))).bind (pg nt ops (i+1) r)
              | false=>pg nt ops (i+1) r ((σ.setT g (.bool true)).skip o.dst))
            (match want with
              | true=>pg nt ops (i+1) r ((σ.setT g (.bool false)).skip o.dst)
              | false=>(LV P Γ o (oV (σ.setT g (.bool false)) i o) i (σ.setT g (.bool false))).bind (pg nt ops (i+1) r))
        | some (.one (.c .undef))=>pg nt ops (i+1) r (σ.skip o.dst)
        | _=>.no
def zif(aQ:dK)(id:Nat)(ops:Array Oper)(draw:Bool)(σ:St):ae St :=
 match draw with
 | false=>(pg P Γ aQ.nt ops 0 ops.toList {σ with log:=[]}).bind λσ'=>match lk aQ.reg id with
   | some k=>.opt (canon P k σ')
   | none=>.ok σ'
 | true=>match P.follows .mixedOrders&&JW ops&&A8 ops (masks ops.toList [])with
  | true=>(pg P Γ aQ.nt ops 0 ops.toList {σ with log:=[]}).bind λσ'=>match uV (masks ops.toList []) σ'.log with
   | true=>match lk aQ.reg id with
    | some k=>.opt (canon P k σ')
    | none=>.no
   | false=>.no
  | false=>.no
def Dz(aQ:dK)(id:Nat)(σ:St):ae St:=match lk aQ.reg id with
 | some k=>.opt (canon P k σ)
 | none=>.ok σ
def zih(aQ:dK)(id i:Nat)(o:Oper)(σ:St):ae (Exit×St) :=
 match o.guard,dJ aQ.nt o.dst with
 | none,true=>match zdx Γ o σ with
  | some (C,xs,ds,ls,ms)=>(C xs).bind λr=>match Fh r.1 with
   | none=>match Ou i o.dst σ (qB ds (lk σ.aB) ls ms r.1 r.2)with
    | some s=>(Dz P aQ id s).mp λs=>(.normal,s)
    | none=>.no
   | some ch=>match Ou i none σ (qB ds (lk σ.aB) ls ms r.1 r.2)with
    | some s=>.ok (.panic ch,s)
    | none=>.no
  | none=>.no
 | _,_=>.no
def zii(ty:TypeId)(x y:Nat)(σ:St):ae (Exit×St):=match lk σ.env x with
 | some (.one (.agg [.p (.int k n)]))=>.ok (.panic (zm4 ty k n),⟨(y,.junk)::σ.env,σ.aB,[]⟩)
 | _=>.no
def Wu(aQ:dK)(id:Nat)(ops:Array Oper)(σ:St):ae (Exit×St) :=
 match pU ops.toList with
 | some (p1,l)=>match pU p1 with
  | some (pre,m)=>match zdw P aQ.nt m l with
   | some (ty,x,y)=>(pg P Γ aQ.nt ops 0 pre {σ with log:=[]}).bind (zii ty x y)
   | none=>(pg P Γ aQ.nt ops 0 p1 {σ with log:=[]}).bind (zih P Γ aQ id p1.length l)
  | none=>.no
 | none=>.no
def Z5(aQ:dK)(r:Nat)(σ:St):ae St :=
 match lk aQ.cut r with
 | some k=>.opt (canon P k σ)
 | none=>.ok σ
def lpC(k:Keep)(step:St→ae (Exit×St)):Nat→St→ae (Exit×St)
  | 0,_=>.no
  | n+1,s=>(step s).bind λ(e,s1)=>match e with
    | .normal=>(ae.opt (canon P k s1)).bind (lpC k step n)
    | e=>.ok (e,s1)
def unC(k:Keep)(step:St→ae (Exit×St)):Nat→St→ae (Exit×St)
  | 0,_=>.no
  | n+1,σ=>(ae.opt (canon P k σ)).bind λs=>(step s).bind λ(e,s1)=>match e with
    | .normal=>unC k step n s1
    | e=>.ok (e,s1)
def rgC(k:Keep)(np:Bool)(ps:List Nat)(ah bd:St→ae (Exit×St)):List (List PA)→St→ae (Exit×St)
  | [],s=>.ok (.normal,s)
  | y::rest,s=>match qC ps y s.env with
    | some env=>(ah ⟨env,s.aB,[]⟩).bind λ(e,s1)=>match e with
      | .normal=>(bd s1).bind λ(e,s2)=>match e with
        | .normal=>(ae.opt (canon P k s2)).bind (rgC k np ps ah bd rest)
        | .ret=>(ae.opt (canon P k s2)).mp λs=>(.ret,s)
        | .exit id=>(ae.opt (canon P k s2)).mp λs=>(.exit id,s)
        | .panic ch=>match np with|true=>(ae.opt (canon P k s2)).mp λs=>(.panic ch,s)|false=>.no
        | _=>.no
      | _=>.no
    | none=>.no
def sqC(go:St→ae (Exit×St)):Exit×St→ae (Exit×St)
  | (.normal,s)=>go s
  | r=>.ok r
def bkC(id:Nat):Exit×St→Exit×St
  | (.exit i,s)=>match Nat.beq i id with|true=>(.normal,s)|false=>(.exit i,s)
  | r=>r
def scC:Exit×St→ae (Exit×St)
  | (.goto _,_)=>.no
  | r=>.ok r
variable(N:Nat)
def vcC(aQ:dK):Code→St→ae (Exit×St)
  | .skip,σ=>.ok (.normal,σ)
  | .region id ops draw,σ=>match aQ.pan.contains id && !draw with
    | false=>(zif P Γ aQ id ops draw σ).mp λs=>(.normal,s)
    | true=>Wu P Γ aQ id ops σ
  | .seq a b,σ=>(vcC aQ a σ).bind (sqC λs=>(Z5 P aQ (jM b) s).bind (vcC aQ b))
  | .cond c a b,σ=>match fU σ.env c with
    | .one (.c (.p (.bool t)))=>.ite t (vcC aQ a (xI σ c true)) (vcC aQ b (xI σ c false))
    | _=>.no
  | .block id b,σ=>(vcC aQ b σ).mp (bkC id)
  | .loop b,σ=>match lk aQ.head (jM b)with
    | some k=>(ae.opt (canon P k σ)).bind (lpC P k (vcC aQ b) N)
    | none=>match lk aQ.unr (jM b)with
      | some (n,k)=>unC P k (vcC aQ b) n σ
      | none=>.no
  | .rangeFunc f ps assign body,σ=>match lk aQ.head (Zj assign body)with
    | some k=>match canon P k σ,og k.tmps (ps.toList++(eH assign++eH body))&&ps.toList.all (λp=>Nat.blt p aQ.nt)with
      | some s,true=>match fU s.env f with
        | .one (.c (.p (.fn gf [] caps)))=>(Γ.it gf (caps.map .one)).bind λys=>rgC P k (og [G7] (eH assign++eH body)) ps.toList (vcC aQ assign) (vcC aQ body) ys s
        | _=>.no
      | _,_=>.no
    | none=>.no
  | .exit id,σ=>.ok (.exit id,σ)
  | .scope b,σ=>(vcC aQ b σ).bind scC
  | .label _,σ=>.ok (.normal,σ)
  | .ret,σ=>.ok (.ret,σ)
  | _,_=>.no
end
section
variable{P:Program}{Γ:bU}
theorem zca{C:MK}{sf:lu}{args:List DV}{ob:Nat->Option AO}{p:Wq}{r:p.ρ}(h:znV C sf args ob=some p)(hr:p.c.o=some r):uo C sf args ob=p.f r:=by
 unfold znV at h;unfold uo;split at h
 ·rename_i xs ls ms hx;cases h;obtain⟨rs,ys⟩:=r;simp only at hr ⊢;rw[hx];simp only[hr];cases Fh rs<;>rfl
 ·cases h
theorem znW{o:Oper}{e s b:Nat}{F:List PA→ae (Nat×(Nat→List PV)×List PV)}{args:List DV}{ob:Nat→Option AO}{p:Wq}{r:p.ρ}(h:zwI P o e s b F args ob=some p)(hr:p.c.o=some r) :
  kG P Γ o (.mkv e s b F) args ob=p.f r:=by
 unfold zwI at h;unfold kG;split at h
 ·rename_i az u dst hx hd;cases h;obtain⟨n,get,rs⟩:=r;simp only at hr ⊢;rw[hx,hd];simp only[hr];cases ob dst<;>cases P.info? e<;>cases gV P e<;>rfl
 ·cases h
theorem zij{o:Oper}{e s b:Nat}{F:List PA→Nat→(Nat→List PV)→ae (Nat×(Nat→List PV))}{args:List DV}{ob:Nat→Option AO}{p:Wq}{r:p.ρ}(h:zid P o e s b F args ob=some p)(hr:p.c.o=some r) :
  kG P Γ o (.grow e s b F) args ob=p.f r:=by
 unfold zid at h;unfold kG;split at h
 ·rename_i ds L hl;split at h
  ·rename_i az e' s' b' n get ha hL;cases h;obtain⟨m,get'⟩:=r;simp only at hr ⊢;rw[hl];simp only[ha,hL,hr]
  ·cases h
 ·rename_i ds hl;split at h
  ·rename_i az dst ha hd;split at h
   ·rename_i ie z h1 h2 h3;split at h
    ·rename_i l h4;cases h;obtain⟨m,get'⟩:=r;simp only at hr ⊢;rw[hl];simp only[ha,hd,h1,h2,h3,h4,hr]
    ·cases h
   ·cases h
  ·cases h
 ·cases h
theorem znX{o:Oper}{ev:Operand->DV}{ob:Nat->Option AO}{p:Wq}{r:p.ρ}(h:Ws P Γ o ev ob=some p)(hr:p.c.o=some r):act P Γ o ev ob=p.f r:=by
 unfold Ws at h;split at h
 ·rename_i f args ats bu;simp only[act,bu,aCl];split at h
  ·rename_i g caps hf;simp only[hf];split at h
   ·rename_i C hC;simp only[hC];exact zca h hr
   ·cases h
  ·rename_i g first caps hf
   simp only[hf];split at h
   ·rename_i C hC;simp only[hC];exact zca h hr
   ·rename_i hC;simp only[hC];split at h
    ·rename_i hk;simp only[hk,Fe.on];split at h
     ·rename_i az u hz;cases h;simp only at hr ⊢;rw[hz];simp only[hr]
     ·cases h
    ·rename_i e s b F hk;simp only[hk,Fe.on];split at h
     ·exact znW h hr
     ·cases h
    ·rename_i e s b F hk;simp only[hk,Fe.on];split at h
     ·exact zij h hr
     ·cases h
    ·cases h
  ·rename_i g cells hf;simp only[hf];split at h
   ·rename_i az u hz;cases h;simp only at hr ⊢;rw[hz];simp only[hr]
   ·cases h
  ·cases h
 ·cases h
theorem zcb{A:aC}{lg:List (Nat×Bool)->List Nat->List (Nat×Nat×Nat)}{i:Nat}{dst:Option Nat}{σ s:St}{K:St->Prop}(h:(zie A lg i dst σ).o=some s)(hK:K s):nN A lg i dst K σ:=by
 cases A with
 | no=>exact(ae.no_o h).elim
 | val fp d u kl=>have:=ae.ok_o h;subst this;exact hK
 | chk fp c d u kl =>
  obtain⟨h1,h2⟩:=ae.chk_o h;have:=ae.ok_o h2;subst this;exact⟨c.h h1,hK⟩
theorem zcc{o:Oper}{lg:List (Nat×Bool)->List Nat->List (Nat×Nat×Nat)}{i:Nat}{σ s:St}{K:St->Prop}(h:(LV P Γ o lg i σ).o=some s)(hK:K s):nN (act P Γ o (fU σ.env) (lk σ.aB)) lg i o.dst K σ:=by
 unfold LV at h;split at h
 ·rename_i p hp;obtain⟨r,h1,h2⟩:=ae.bind_o h;rw[znX hp h1];exact zcb h2 hK
 ·exact zcb h hK
theorem qN{nt:Nat}{ops:Array Oper}{K:St→Prop}:∀(l:List Oper)(i:Nat)(σ s:St),(pg P Γ nt ops i l σ).o=some s→K s→ku P Γ nt ops i l K σ
  | [],i,σ,s,h,hK=>by have:=ae.ok_o h;subst this;exact hK
  | o::r,i,σ,s,h,hK=>by
    have one:∀(lg:List (Nat×Bool)->List Nat->List (Nat×Nat×Nat))(τ:St),((LV P Γ o lg i τ).bind (pg P Γ nt ops (i+1) r)).o=some s->nN (act P Γ o (fU τ.env) (lk τ.aB)) lg i o.dst (ku P Γ nt ops (i+1) r K) τ:=by
      intro lg τ h;obtain⟨s1,h1,h2⟩:=ae.bind_o h;exact zcc h1 (qN r _ _ _ h2 hK)
    simp only[pg]at h;simp only[ku];split at h
    · exact(ae.no_o h).elim
    · rename_i hd;simp only[hd];split at h
      · rename_i hg;simp only[hg];exact one _ _ h
      · rename_i j want hg;simp only[hg];split at h
        · exact(ae.no_o h).elim
        · rename_i g hg2;simp only[hg2];split at h
          · rename_i b hb;simp only[hb];refine CG (λ e=>?_) λ e=>?_
            · subst e;cases want with
              | true=>exact one _ _ h
              | false=>exact qN r _ _ _ h hK
            · subst e;cases want with
              | true=>exact qN r _ _ _ h hK
              | false=>exact one _ _ h
          · rename_i hb;simp only[hb];exact qN r _ _ _ h hK
          · exact(ae.no_o h).elim
theorem zcd{aQ:dK}{id:Nat}{ops:Array Oper}{draw:Bool}{σ s:St}{K:St->Prop}(h:(zif P Γ aQ id ops draw σ).o=some s)(hK:K s):Px P Γ aQ id ops draw K σ:=by
 unfold zif at h;unfold Px;cases draw with
 | false =>
  obtain⟨s1,h1,h2⟩:=ae.bind_o h;refine qN _ _ _ _ h1 ?_;split at h2
  ·rename_i k hk;rw[hk];simp only[ae.opt_o h2];exact hK
  ·rename_i hk;rw[hk];have:=ae.ok_o h2;subst this;exact hK
 | true =>
  simp only at h ⊢;split at h
  ·rename_i hc;rw[hc];obtain⟨s1,h1,h2⟩:=ae.bind_o h;refine qN _ _ _ _ h1 ?_;split at h2
   ·rename_i hl;rw[hl];split at h2
    ·rename_i k hk;rw[hk];simp only[ae.opt_o h2];exact hK
    ·exact(ae.no_o h2).elim
   ·exact(ae.no_o h2).elim
  ·exact(ae.no_o h).elim
theorem Wv{aQ:dK}{id:Nat}{σ s:St}{K:St->Prop}(h:(Dz P aQ id σ).o=some s)(hK:K s):zdv P aQ id K σ:=by
 unfold Dz at h;unfold zdv;split at h
 ·rename_i k hk;rw[hk];simp only[ae.opt_o h];exact hK
 ·rename_i hk;rw[hk];cases ae.ok_o h;exact hK
theorem zik{aQ:dK}{id:Nat}{ops:Array Oper}{σ s:St}{e:Exit}{K:Exit->St->Prop}(h:(Wu P Γ aQ id ops σ).o=some (e,s))(hK:K e s):JX P Γ aQ id ops K σ:=by
 unfold Wu at h;unfold JX;split at h
 rotate_left
 ·exact(ae.no_o h).elim
 rename_i p1 l h1;rw[h1];simp only;split at h
 rotate_left
 ·exact(ae.no_o h).elim
 rename_i pre m h2;rw[h2];simp only;split at h
 ·rename_i ty x y h3;rw[h3];simp only;obtain⟨s1,a1,a2⟩:=ae.bind_o h;refine qN _ _ _ _ a1 ?_;unfold zii at a2;unfold zwa;split at a2
  ·rename_i k n hx;rw[hx];cases ae.ok_o a2;exact hK
  ·exact(ae.no_o a2).elim
 ·rename_i h3;rw[h3];simp only;obtain⟨s1,a1,a2⟩:=ae.bind_o h;refine qN _ _ _ _ a1 ?_;unfold zih at a2;unfold Zh;split at a2
  rotate_left
  ·exact(ae.no_o a2).elim
  rename_i g1 g2;rw[g1,g2];simp only;split at a2
  rotate_left
  ·exact(ae.no_o a2).elim
  rename_i C xs ds ls ms hm;rw[hm];simp only;obtain⟨⟨rs,ys⟩,b1,b2⟩:=ae.bind_o a2;rw[b1];simp only at b2 ⊢;split at b2
  ·rename_i hp;rw[hp];simp only;split at b2
   ·rename_i s2 hu;rw[hu];simp only;obtain⟨s3,c1,c2⟩:=ae.mp_o b2;cases c2;exact Wv c1 hK
   ·exact(ae.no_o b2).elim
  ·rename_i ch hp;rw[hp];simp only;split at b2
   ·rename_i s2 hu;rw[hu];simp only;cases ae.ok_o b2;exact hK
   ·exact(ae.no_o b2).elim
theorem znY{aQ:dK}{r:Nat}{σ s:St}{K:St->Prop}(h:(Z5 P aQ r σ).o=some s)(hK:K s):znb P aQ r K σ:=by
 unfold Z5 at h;unfold znb;split at h
 ·rename_i k hk;rw[hk];simp only[ae.opt_o h];exact hK
 ·rename_i hk;rw[hk];have:=ae.ok_o h;subst this;exact hK
theorem SI{N:Nat}{aQ:dK}:∀(c:Code)(σ s:St)(e:Exit)(K:Exit->St->Prop),(vcC P Γ N aQ c σ).o=some (e,s)->K e s->vc P Γ aQ c K σ:=by
 intro c
 induction c with
 | skip=>intro σ s e K h hK;cases ae.ok_o h;exact hK
 | region id ops draw =>
  intro σ s e K h hK;simp only[vcC]at h;simp only[vc];split at h
  ·rename_i hp;rw[hp];obtain⟨s1,h1,h2⟩:=ae.mp_o h;cases h2;exact zcd h1 hK
  ·rename_i hp;rw[hp];exact zik h hK
 | seq a b iha UG =>
  intro σ s e K h hK;obtain⟨⟨e1,s1⟩,h1,h2⟩:=ae.bind_o h;refine iha σ s1 e1 _ h1 ?_;cases e1 with
  | normal =>
   obtain⟨s2,h3,h4⟩:=ae.bind_o h2;exact znY h3 (UG _ _ _ _ h4 hK)
  | _=>cases ae.ok_o h2;exact hK
 | cond c a b iha UG =>
  intro σ s e K h hK;simp only[vcC]at h;simp only[vc];split at h
  ·rename_i t ht;simp only[ht];refine CG (λ e1=>?_) λ e1=>?_
   ·subst e1;exact iha _ _ _ _ h hK
   ·subst e1;exact UG _ _ _ _ h hK
  ·exact(ae.no_o h).elim
 | block id b ih =>
  intro σ s e K h hK;obtain⟨⟨e1,s1⟩,h1,h2⟩:=ae.mp_o h;refine ih σ s1 e1 _ h1 ?_;cases e1 with
  | exit j =>
   simp only[bkC]at h2;simp only[Zi];split at h2
   ·rename_i hj;rw[hj];cases h2;exact hK
   ·rename_i hj;rw[hj];cases h2;exact hK
  | _=>cases h2;exact hK
 | loop b ih =>
  intro σ s e K h hK;simp only[vcC]at h;simp only[vc];split at h
  ·rename_i k hk;obtain⟨s1,h1,h2⟩:=ae.bind_o h;simp only[hk,ae.opt_o h1];intro X hX;have key:∀(n:Nat)(s1:St),(lpC P k (vcC P Γ N aQ b) n s1).o=some (e,s)->X s1:=by
    intro n
    induction n with
    | zero=>intro s1 h;exact(ae.no_o h).elim
    | succ n ihn =>
     intro s1 h;obtain⟨⟨e1,s2⟩,h1,h2⟩:=ae.bind_o h;refine hX s1 (ih _ _ _ _ h1 ?_);cases e1 with
     | normal =>
      obtain⟨s3,h3,h4⟩:=ae.bind_o h2;simp only[zg2,hk,ae.opt_o h3];exact ihn s3 h4
     | _=>cases ae.ok_o h2;exact hK
   exact key N s1 h2
  ·rename_i hk;split at h
   ·rename_i n k hn;simp only[hk,hn];have key:∀(n:Nat)(σ:St),(unC P k (vcC P Γ N aQ b) n σ).o=some (e,s)->zdz P k (vc P Γ aQ b) n K σ:=by
     intro n
     induction n with
     | zero=>intro s1 h;exact(ae.no_o h).elim
     | succ n ihn =>
      intro s1 h;obtain⟨s0,h0,h⟩:=ae.bind_o h;obtain⟨⟨e1,s2⟩,h1,h2⟩:=ae.bind_o h;simp only[zdz,ae.opt_o h0];refine ih _ _ _ _ h1 ?_;cases e1 with
      | normal=>exact ihn _ h2
      | _=>cases ae.ok_o h2;exact hK
    exact key n σ h
   ·exact(ae.no_o h).elim
 | rangeFunc f ps ah bd iha UG =>
  intro σ s e K h hK;simp only[vcC]at h;simp only[vc];split at h
  ·rename_i k hk;split at h
   ·rename_i s1 hs hd;simp only[hk,hs,hd];split at h
    ·rename_i gf caps hf;obtain⟨ys,h1,h2⟩:=ae.bind_o h;simp only[hf,h1];intro X hX0 hX1;have key:∀(ys:List (List PA))(s1:St),(rgC P k (og [G7] (eH ah++eH bd)) ps.toList (vcC P Γ N aQ ah) (vcC P Γ N aQ bd) ys s1).o=some (e,s)->X ys s1:=by
      intro ys
      induction ys with
      | nil=>intro s1 h;cases ae.ok_o h;exact hX0 _ hK
      | cons y rest ihr =>
       intro s1 h;simp only[rgC]at h;refine hX1 y rest s1 ?_;split at h
       ·rename_i env za3;simp only[za3];obtain⟨⟨e1,s2⟩,h1,h2⟩:=ae.bind_o h;refine iha _ _ _ _ h1 ?_;cases e1 with
        | normal =>
         obtain⟨⟨e2,s3⟩,h3,h4⟩:=ae.bind_o h2;refine UG _ _ _ _ h3 ?_;cases e2 with
         | normal =>
          obtain⟨s4,h5,h6⟩:=ae.bind_o h4;simp only[uw,ae.opt_o h5];exact ihr _ h6
         | ret =>
          obtain⟨s4,h5,h6⟩:=ae.mp_o h4;cases h6;simp only[uw,ae.opt_o h5];exact hK
         | exit id =>
          obtain⟨s4,h5,h6⟩:=ae.mp_o h4;cases h6;simp only[uw,ae.opt_o h5];exact hK
         | panic ch =>
          simp only at h4;split at h4
          ·rename_i hnp;obtain⟨s4,h5,h6⟩:=ae.mp_o h4;cases h6;simp only[uw,ae.opt_o h5,hnp];exact hK
          ·exact(ae.no_o h4).elim
         | _=>exact(ae.no_o h4).elim
        | _=>exact(ae.no_o h2).elim
       ·exact(ae.no_o h).elim
     exact key ys s1 h2
    ·exact(ae.no_o h).elim
   ·exact(ae.no_o h).elim
  ·exact(ae.no_o h).elim
 | exit id=>intro σ s e K h hK;cases ae.ok_o h;exact hK
 | scope b ih =>
  intro σ s e K h hK;obtain⟨⟨e1,s1⟩,h1,h2⟩:=ae.bind_o h;refine ih σ s1 e1 _ h1 ?_;cases e1 with
  | goto l=>exact(ae.no_o h2).elim
  | _=>cases ae.ok_o h2;exact hK
 | label l=>intro σ s e K h hK;cases ae.ok_o h;exact hK
 | ret=>intro σ s e K h hK;cases ae.ok_o h;exact hK
 | goto l=>intro σ s e K h hK;exact(ae.no_o h).elim
 | refuse s=>intro σ s e K h hK;exact(ae.no_o h).elim
end
end Go.Pm
namespace Go.Pm
section
variable(P:Program)(Γ:bU){A:Type}
def aV(b:Bool)(x:Option A):Option A:=match b with|true=>x|false=>none
def zce(a:aC)(lg:List (Nat×Bool)->List Nat->List (Nat×Nat×Nat))(i:Nat)(dst:Option Nat)(K:St->Option A)(σ:St):Option A :=
 match a with
 | .no=>none
 | .val fp d u kl=>K ((σ.upd i dst fp d u kl).relog (lg fp kl))
 | .chk fp s d u kl=>aV s.b (K ((σ.upd i dst fp d u kl).relog (lg fp kl)))
def Z7(o:Oper)(lg:List (Nat×Bool)->List Nat->List (Nat×Nat×Nat))(i:Nat)(K:St->Option A)(σ:St):Option A :=
 match Ws P Γ o (fU σ.env) (lk σ.aB)with
 | some p=>p.c.T λr=>zce (p.f r) lg i o.dst K σ
 | none=>zce (act P Γ o (fU σ.env) (lk σ.aB)) lg i o.dst K σ
def opsT(nt:Nat)(ops:Array Oper)(K:St→Option A):Nat→List Oper→St→Option A
  | _,[],σ=>K σ
  | i,o::r,σ =>
    match dJ nt o.dst with
    | false=>none
    | true =>
    match o.guard with
    | none=>Z7 P Γ o (oV σ i o) i (opsT nt ops K (i+1) r) σ
    | some (j,want) =>
      match(ops[j]?).bind (·.dst)with
      | none=>none
      | some g =>
        match lk σ.env g with
        | some (.one (.c (.p (.bool b)))) =>
          cond b
            (match want with
              | true=>Z7 P Γ o (oV (σ.setT g (.bool true)) i o) i (opsT nt ops K (i+1) r) (σ.setT g (.bool true))
              | false=>opsT nt ops K (i+1) r ((σ.setT g (.bool true)).skip o.dst))
            (match want with
              | true=>opsT nt ops K (i+1) r ((σ.setT g (.bool false)).skip o.dst)
              | false=>Z7 P Γ o (oV (σ.setT g (.bool false)) i o) i (opsT nt ops K (i+1) r) (σ.setT g (.bool false)))
        | some (.one (.c .undef))=>opsT nt ops K (i+1) r (σ.skip o.dst)
        | _=>none
def DD(k:Keep)(K:St->Option A)(σ:St):Option A:=match canon P k σ with
 | some s=>K s
 | none=>none
def Wx(aQ:dK)(id:Nat)(ops:Array Oper)(draw:Bool)(K:St->Option A)(σ:St):Option A:=match draw with
 | false=>match lk aQ.reg id with
  | some k=>DD P k K σ
  | none=>K σ
 | true=>match uV (masks ops.toList []) σ.log with
  | true=>match lk aQ.reg id with
   | some k=>DD P k K σ
   | none=>none
  | false=>none
def znZ(aQ:dK)(id:Nat)(ops:Array Oper)(draw:Bool)(K:St->Option A)(σ:St):Option A :=
 match draw with
 | false=>opsT P Γ aQ.nt ops (Wx P aQ id ops false K) 0 ops.toList {σ with log:=[]}
 | true=>match P.follows .mixedOrders&&JW ops&&A8 ops (masks ops.toList [])with
  | true=>opsT P Γ aQ.nt ops (Wx P aQ id ops true K) 0 ops.toList {σ with log:=[]}
  | false=>none
def lastT(aQ:dK)(id i:Nat)(o:Oper)(K:Exit->St->Option A)(σ:St):Option A :=
 match o.guard,dJ aQ.nt o.dst with
 | none,true=>match zdx Γ o σ with
  | some (C,xs,ds,ls,ms)=>(C xs).T λr=>match Fh r.1 with
   | none=>match Ou i o.dst σ (qB ds (lk σ.aB) ls ms r.1 r.2)with
    | some s=>Wx P aQ id #[] false (K .normal) s
    | none=>none
   | some ch=>match Ou i none σ (qB ds (lk σ.aB) ls ms r.1 r.2)with
    | some s=>K (.panic ch) s
    | none=>none
  | none=>none
 | _,_=>none
def ztH(ty:TypeId)(x y:Nat)(K:Exit->St->Option A)(σ:St):Option A:=match lk σ.env x with
 | some (.one (.agg [.p (.int k n)]))=>K (.panic (zm4 ty k n)) ⟨(y,.junk)::σ.env,σ.aB,[]⟩
 | _=>none
def zim(aQ:dK)(id:Nat)(ops:Array Oper)(K:Exit->St->Option A)(σ:St):Option A :=
 match pU ops.toList with
 | some (p1,l)=>match pU p1 with
  | some (pre,m)=>match zdw P aQ.nt m l with
   | some (ty,x,y)=>opsT P Γ aQ.nt ops (ztH ty x y K) 0 pre {σ with log:=[]}
   | none=>opsT P Γ aQ.nt ops (lastT P Γ aQ id p1.length l K) 0 p1 {σ with log:=[]}
  | none=>none
 | none=>none
def zee(aQ:dK)(r:Nat)(K:St->Option A)(σ:St):Option A:=match lk aQ.cut r with
 | some k=>DD P k K σ
 | none=>K σ
abbrev EK(A:Type):=Exit->St->Option A
def bkT(id:Nat)(K:EK A):EK A:=λe s=>match e with
 | .exit i=>match Nat.beq i id with|true=>K .normal s|false=>K (.exit i) s
 | e=>K e s
def scT(K:EK A):EK A:=λe s=>match e with
 | .goto _=>none
 | e=>K e s
def lpK(k:Keep)(go:St->Option A)(K:EK A):EK A:=λe s=>match e with
 | .normal=>DD P k go s
 | e=>K e s
def lpT(k:Keep)(step:EK A→St→Option A)(K:EK A):Nat→St→Option A
  | 0,_=>none
  | n+1,s=>step (lpK P k (lpT k step K n) K) s
def unT(k:Keep)(step:EK A→St→Option A)(K:EK A):Nat→St→Option A
  | 0,_=>none
  | n+1,σ=>DD P k (step λe s=>match e with
    | .normal=>unT k step K n s
    | e=>K e s) σ
def rgK(k:Keep)(np:Bool)(go:St->Option A)(K:EK A):EK A:=λe s=>match e with
 | .normal=>DD P k go s
 | .ret=>DD P k (K .ret) s
 | .exit id=>DD P k (K (.exit id)) s
 | .panic ch=>match np with|true=>DD P k (K (.panic ch)) s|false=>none
 | _=>none
def asK(bd:EK A->St->Option A)(K:EK A):EK A:=λe s=>match e with
 | .normal=>bd K s
 | _=>none
def rgT(k:Keep)(np:Bool)(ps:List Nat)(ah bd:EK A→St→Option A)(K:EK A):List (List PA)→St→Option A
  | [],s=>K .normal s
  | y::rest,s=>match qC ps y s.env with
    | some env=>ah (asK bd (rgK P k np (rgT k np ps ah bd K rest) K)) ⟨env,s.aB,[]⟩
    | none=>none
def sqT(aQ:dK)(id:Nat)(go:EK A->St->Option A)(K:EK A):EK A:=λe s=>match e with
 | .normal=>zee P aQ id (go K) s
 | e=>K e s
variable(N:Nat)
def yc(aQ:dK):Code→EK A→St→Option A
  | .skip,K,σ=>K .normal σ
  | .region id ops draw,K,σ=>match aQ.pan.contains id && !draw with
    | false=>znZ P Γ aQ id ops draw (K .normal) σ
    | true=>zim P Γ aQ id ops K σ
  | .seq a b,K,σ=>yc aQ a (sqT P aQ (jM b) (yc aQ b) K) σ
  | .cond c a b,K,σ=>match fU σ.env c with
    | .one (.c (.p (.bool t)))=>cond t (yc aQ a K (xI σ c true)) (yc aQ b K (xI σ c false))
    | _=>none
  | .block id b,K,σ=>yc aQ b (bkT id K) σ
  | .loop b,K,σ=>match lk aQ.head (jM b)with
    | some k=>DD P k (lpT P k (yc aQ b) K N) σ
    | none=>match lk aQ.unr (jM b)with
      | some (n,k)=>unT P k (yc aQ b) K n σ
      | none=>none
  | .rangeFunc f ps assign body,K,σ=>match lk aQ.head (Zj assign body)with
    | some k=>match canon P k σ,og k.tmps (ps.toList++(eH assign++eH body))&&ps.toList.all (λp=>Nat.blt p aQ.nt)with
      | some s,true=>match fU s.env f with
        | .one (.c (.p (.fn gf [] caps)))=>(Γ.it gf (caps.map .one)).T λys=>rgT P k (og [G7] (eH assign++eH body)) ps.toList (yc aQ assign) (yc aQ body) K ys s
        | _=>none
      | _,_=>none
    | none=>none
  | .exit id,K,σ=>K (.exit id) σ
  | .scope b,K,σ=>yc aQ b (scT K) σ
  | .label _,K,σ=>K .normal σ
  | .ret,K,σ=>K .ret σ
  | _,_,_=>none
end
section
variable{P:Program}{Γ:bU}{A:Type}{N:Nat}
theorem zcf{o:Oper}{lg:List (Nat×Bool)->List Nat->List (Nat×Nat×Nat)}{i:Nat}{K:St->Option A}{σ:St}:Z7 P Γ o lg i K σ=(LV P Γ o lg i σ).T K:=by
 have key:∀a:aC,zce a lg i o.dst K σ=(zie a lg i o.dst σ).T K:=by
  intro a;cases a with
  | no=>rfl
  | val=>rfl
  | chk fp s d u kl=>unfold zce zie aV;cases hs:s.b<;>simp only[hs,ae.chk,ae.ok]
 unfold Z7 LV;cases Ws P Γ o (fU σ.env) (lk σ.aB)with
 | none=>exact key _
 | some p =>
  show p.c.T _=p.c.T _;congr 1;funext r;exact key _
theorem wU{nt:Nat}{ops:Array Oper}{K:St→Option A}:∀(l:List Oper)(i:Nat)(σ:St),opsT P Γ nt ops K i l σ=(pg P Γ nt ops i l σ).T K
  | [],_,_=>rfl
  | o::r,i,σ=>by
    have one:∀(lg:List (Nat×Bool)->List Nat->List (Nat×Nat×Nat))(τ:St),Z7 P Γ o lg i (opsT P Γ nt ops K (i+1) r) τ=((LV P Γ o lg i τ).bind (pg P Γ nt ops (i+1) r)).T K:=λlg τ=>by
      rw[zcf];show(LV P Γ o lg i τ).T _=(LV P Γ o lg i τ).T _;congr 1;funext s;exact wU r _ s
    have rest:∀σ:St,opsT P Γ nt ops K (i+1) r σ=(pg P Γ nt ops (i+1) r σ).T K:=λσ=>wU r _ σ;simp only[opsT,pg];cases dJ nt o.dst with
    | false=>rfl
    | true =>
      simp only;cases o.guard with
      | none=>exact one _ _
      | some x =>
        obtain⟨j,want⟩:=x;simp only;cases(ops[j]?).bind (·.dst)with
        | none=>rfl
        | some g =>
          simp only;cases lk σ.env g with
          | none=>rfl
          | some d=>cases d with
            | tup _=>rfl
            | one d=>cases d with
              | agg _=>rfl
              | c x=>cases x with
                | undef=>exact rest _
                | p v=>cases v with
                  | bool b=>cases b<;>cases want<;>first|exact one _ _|exact rest _
                  | _=>rfl
                | _=>rfl
theorem ni{k:Keep}{K:St->Option A}{σ:St}:DD P k K σ=(ae.opt (canon P k σ)).T K:=by
 unfold DD;cases canon P k σ<;>rfl
theorem zcg{aQ:dK}{id:Nat}{ops:Array Oper}{draw:Bool}{K:St->Option A}{σ:St}:znZ P Γ aQ id ops draw K σ=(zif P Γ aQ id ops draw σ).T K:=by
 cases draw with
 | false =>
  show opsT P Γ aQ.nt ops _ 0 ops.toList _=(pg P Γ aQ.nt ops 0 ops.toList _).T _;rw[wU];congr 1;funext s;simp only[Wx];cases lk aQ.reg id with
  | none=>rfl
  | some k=>exact ni
 | true =>
  simp only[znZ,zif];cases P.follows .mixedOrders&&JW ops&&A8 ops (masks ops.toList [])with
  | false=>rfl
  | true =>
   simp only;rw[wU];show _=(pg P Γ aQ.nt ops 0 ops.toList _).T _;congr 1;funext s;show _=((match uV (masks ops.toList []) s.log with|true=>(match lk aQ.reg id with|some k=>ae.opt (canon P k s)|none=>.no)|false=>.no):ae St).T K;simp only[Wx];cases uV (masks ops.toList []) s.log with
   | false=>rfl
   | true =>
    cases lk aQ.reg id with
    | none=>rfl
    | some k=>exact ni
theorem zin{aQ:dK}{id:Nat}{ops:Array Oper}{K:Exit->St->Option A}{σ:St}:zim P Γ aQ id ops K σ=(Wu P Γ aQ id ops σ).T λr=>K r.1 r.2:=by
 unfold zim Wu;cases pU ops.toList with
 | none=>rfl
 | some x =>
  obtain⟨p1,l⟩:=x;simp only;cases pU p1 with
  | none=>rfl
  | some x =>
   obtain⟨pre,m⟩:=x;simp only;cases zdw P aQ.nt m l with
   | some x =>
    obtain⟨ty,x,y⟩:=x;simp only;rw[wU];show(pg P Γ aQ.nt ops 0 pre _).T _=(pg P Γ aQ.nt ops 0 pre _).T _;congr 1;funext s;unfold ztH zii;cases lk s.env x with
    | none=>rfl
    | some d=>cases d with
     | tup _=>rfl
     | one d=>cases d with
      | c _=>rfl
      | agg l=>match l with
       | []=>rfl
       | [y]=>cases y with
        | p v=>cases v<;>rfl
        | _=>rfl
       | y::_::_=>cases y with
        | p v=>cases v<;>rfl
        | _=>rfl
   | none =>
    simp only;rw[wU];show(pg P Γ aQ.nt ops 0 p1 _).T _=(pg P Γ aQ.nt ops 0 p1 _).T _;congr 1;funext s;unfold lastT zih;cases l.guard with
    | some x=>rfl
    | none =>
    cases dJ aQ.nt l.dst with
    | false=>rfl
    | true =>
    simp only;cases zdx Γ l s with
    | none=>rfl
    | some x =>
     obtain⟨C,xs,ds,ls,ms⟩:=x;show(C xs).T _=(C xs).T _;congr 1;funext r;simp only;cases Fh r.1 with
     | none =>
      simp only;cases Ou p1.length l.dst s (qB ds (lk s.aB) ls ms r.1 r.2)with
      | none=>rfl
      | some s2 =>
       show Wx P aQ id #[] false (K .normal) s2=(Dz P aQ id s2).T λs=>K .normal s;simp only[Wx,Dz];cases lk aQ.reg id with
       | none=>rfl
       | some k=>exact ni
     | some ch =>
      simp only;cases Ou p1.length none s (qB ds (lk s.aB) ls ms r.1 r.2)<;>rfl
theorem zch{aQ:dK}{r:Nat}{K:St->Option A}{σ:St}:zee P aQ r K σ=(Z5 P aQ r σ).T K:=by
 unfold zee Z5;cases lk aQ.cut r with
 | none=>rfl
 | some k=>exact ni
theorem LW{aQ:dK}:∀(c:Code)(K:EK A)(σ:St),yc P Γ N aQ c K σ=(vcC P Γ N aQ c σ).T λr=>K r.1 r.2:=by
 intro c
 induction c with
 | skip=>intro K σ;rfl
 | region id ops draw =>
  intro K σ;simp only[yc,vcC];cases aQ.pan.contains id && !draw with
  | false=>exact zcg
  | true=>exact zin
 | seq a b iha UG =>
  intro K σ;rw[yc,iha];show(vcC P Γ N aQ a σ).T _=(vcC P Γ N aQ a σ).T _;congr 1;funext r;obtain⟨e,s⟩:=r;cases e with
  | normal =>
   show zee P aQ (jM b) (yc P Γ N aQ b K) s=(Z5 P aQ (jM b) s).T _;rw[zch];congr 1;funext s;exact UG _ _
  | _=>rfl
 | cond c a b iha UG =>
  intro K σ;simp only[yc,vcC];cases fU σ.env c with
  | tup _=>rfl
  | one d=>cases d with
   | agg _=>rfl
   | c x=>cases x with
    | p v=>cases v with
     | bool t=>cases t with
      | true=>exact iha _ _
      | false=>exact UG _ _
     | _=>rfl
    | _=>rfl
 | block id b ih =>
  intro K σ;rw[yc,ih];show(vcC P Γ N aQ b σ).T _=(vcC P Γ N aQ b σ).T _;congr 1;funext r;obtain⟨e,s⟩:=r;cases e with
  | exit j=>simp only[bkT,bkC];cases Nat.beq j id<;>rfl
  | _=>rfl
 | loop b ih =>
  intro K σ;simp only[yc,vcC];cases lk aQ.head (jM b)with
  | some k =>
   simp only;rw[ni];show(ae.opt (canon P k σ)).T _=(ae.opt (canon P k σ)).T _;congr 1;funext s;have key:∀(n:Nat)(s:St),lpT P k (yc P Γ N aQ b) K n s=(lpC P k (vcC P Γ N aQ b) n s).T λr=>K r.1 r.2:=by
    intro n
    induction n with
    | zero=>intro s;rfl
    | succ n ihn =>
     intro s;rw[lpT,ih];show(vcC P Γ N aQ b s).T _=(vcC P Γ N aQ b s).T _;congr 1;funext r;obtain⟨e,s1⟩:=r;cases e with
     | normal =>
      show DD P k _ s1=(ae.opt (canon P k s1)).T _;rw[ni];congr 1;funext s;exact ihn s
     | _=>rfl
   exact key N s
  | none =>
   simp only;cases lk aQ.unr (jM b)with
   | none=>rfl
   | some x =>
    obtain⟨n,k⟩:=x;simp only;have key:∀(n:Nat)(s:St),unT P k (yc P Γ N aQ b) K n s=(unC P k (vcC P Γ N aQ b) n s).T λr=>K r.1 r.2:=by
     intro n
     induction n with
     | zero=>intro s;rfl
     | succ n ihn =>
      intro s;rw[unT,ni];show(ae.opt (canon P k s)).T _=(ae.opt (canon P k s)).T _;congr 1;funext s;rw[ih];show(vcC P Γ N aQ b s).T _=(vcC P Γ N aQ b s).T _;congr 1;funext r;obtain⟨e,s1⟩:=r;cases e with
      | normal=>exact ihn s1
      | _=>rfl
    exact key n σ
 | rangeFunc f ps ah bd iha UG =>
  intro K σ;simp only[yc,vcC];cases lk aQ.head (Zj ah bd)with
  | none=>rfl
  | some k =>
   simp only;have key:∀(ys:List (List PA))(s:St),rgT P k (og [G7] (eH ah++eH bd)) ps.toList (yc P Γ N aQ ah) (yc P Γ N aQ bd) K ys s=(rgC P k (og [G7] (eH ah++eH bd)) ps.toList (vcC P Γ N aQ ah) (vcC P Γ N aQ bd) ys s).T λr=>K r.1 r.2:=by
    intro ys
    induction ys with
    | nil=>intro s;rfl
    | cons y rest ihr =>
     intro s;simp only[rgT,rgC];cases qC ps.toList y s.env with
     | none=>rfl
     | some env =>
      simp only;rw[iha];show(vcC P Γ N aQ ah _).T _=(vcC P Γ N aQ ah _).T _;congr 1;funext r;obtain⟨e,s1⟩:=r;cases e with
      | normal =>
       show yc P Γ N aQ bd _ s1=(vcC P Γ N aQ bd s1).T _;rw[UG];congr 1;funext r;obtain⟨e,s2⟩:=r;cases e with
       | normal =>
        show DD P k _ s2=(ae.opt (canon P k s2)).T _;rw[ni];congr 1;funext s;exact ihr s
       | ret=>exact ni
       | exit id=>exact ni
       | panic ch =>
        simp only[rgK];cases og [G7] (eH ah++eH bd)with
        | true=>exact ni
        | false=>rfl
       | _=>rfl
      | _=>rfl
   cases canon P k σ with
   | none=>rfl
   | some s =>
    cases og k.tmps (ps.toList++(eH ah++eH bd))&&ps.toList.all (λp=>Nat.blt p aQ.nt)with
    | false=>rfl
    | true =>
     simp only;cases fU s.env f with
     | tup _=>rfl
     | one d=>cases d with
      | agg _=>rfl
      | c x=>cases x with
       | p v=>cases v with
        | fn gf first caps=>cases first with
         | cons _ _=>rfl
         | nil =>
          show(Γ.it gf (caps.map .one)).T _=(Γ.it gf (caps.map .one)).T _;congr 1;funext ys;exact key ys s
        | _=>rfl
       | _=>rfl
 | exit id=>intro K σ;rfl
 | scope b ih =>
  intro K σ;rw[yc,ih];show(vcC P Γ N aQ b σ).T _=(vcC P Γ N aQ b σ).T _;congr 1;funext r;obtain⟨e,s⟩:=r;cases e<;>rfl
 | label l=>intro K σ;rfl
 | ret=>intro K σ;rfl
 | goto l=>intro K σ;rfl
 | refuse s=>intro K σ;rfl
end
end Go.Pm
namespace Go.Pm
abbrev YO:=Option (List (List PA))
section
variable(P:Program)(Γ:bU)
def yT(y:List PA)(a b:YO):YO:=match a with
 | some _=>match b with
  | some r=>some (y::r)
  | none=>none
 | none=>none
def LX(nt:Nat)(o:Oper)(next:Bool->St->YO)(q:Bool)(σ:St):YO :=
 match znc σ o with
 | some (args,t)=>match rF (args.toList.map (fU σ.env)),Nat.blt t nt,q with
  | some y,true,false=>yT y (next true ((zG σ).setT t (.bool false))) (next false ((zG σ).setT t (.bool true)))
  | _,_,_=>none
 | none=>match dJ nt o.dst with
  | true=>Z7 P Γ o (λ_ _=>[]) 0 (next q) σ
  | false=>none
def AQ(nt:Nat)(ops:Array Oper):List Oper→(Bool→St→YO)→Bool→St→YO
  | [],K,q,σ=>K q σ
  | o::r,K,q,σ=>match o.guard with
    | none=>LX P Γ nt o (AQ nt ops r K) q σ
    | some (j,want)=>match dJ nt o.dst,(ops[j]?).bind (·.dst)with
      | true,some g=>match lk σ.env g with
        | some (.one (.c (.p (.bool b)))) => cond b
            (match want with|true=>LX P Γ nt o (AQ nt ops r K) q (σ.setT g (.bool true))|false=>AQ nt ops r K q ((σ.setT g (.bool true)).skip o.dst))
            (match want with|true=>AQ nt ops r K q ((σ.setT g (.bool false)).skip o.dst)|false=>LX P Γ nt o (AQ nt ops r K) q (σ.setT g (.bool false)))
        | some (.one (.c .undef))=>AQ nt ops r K q (σ.skip o.dst)
        | _=>none
      | _,_=>none
abbrev UB:=Exit->Bool->St->YO
def zef(k:Keep)(K:St->YO)(σ:St):YO:=match canon P k σ with
 | some s=>K s
 | none=>none
def lkY(k:Keep)(go:Bool->St->YO)(K:UB):UB:=λe q s=>match e with
 | .normal=>zef P k (go q) s
 | e=>K e q s
def skY(aQ:dK)(id:Nat)(go:UB->Bool->St->YO)(K:UB):UB:=λe q s=>match e with
 | .normal=>zee P aQ id (go K q) s
 | e=>K e q s
def bkY(id:Nat)(K:UB):UB:=λe q s=>match e with
 | .exit i=>match Nat.beq i id with|true=>K .normal q s|false=>K (.exit i) q s
 | e=>K e q s
def zFa(K:UB):UB:=λe q s=>match e with
 | .goto _=>none
 | e=>K e q s
def zio(k:Keep)(step:UB→Bool→St→YO)(K:UB):Nat→Bool→St→YO
  | 0,_,_=>none
  | n+1,q,s=>step (lkY P k (zio k step K n) K) q s
def zwJ(k:Keep)(step:UB→Bool→St→YO)(K:UB):Nat→Bool→St→YO
  | 0,_,_=>none
  | n+1,q,σ=>zef P k (step (λe q s1=>match e with
    | .normal=>zwJ k step K n q s1
    | e=>K e q s1) q) σ
variable(N:Nat)
def vH(aQ:dK):Code→UB→Bool→St→YO
  | .skip,K,q,σ=>K .normal q σ
  | .region id ops draw,K,q,σ=>match(IJ ops.toList).contains 0,aQ.yl.contains id,draw with
    | true,_,_=>none
    | false,true,false=>AQ P Γ aQ.nt ops ops.toList (λq' σ'=>match lk aQ.reg id with
      | some k=>zef P k (K .normal q') σ'
      | none=>K .normal q' {σ' with log:=[]}) q {σ with log:=[]}
    | false,true,true=>none
    | false,false,_=>znZ P Γ aQ id ops draw (K .normal q) σ
  | .seq a b,K,q,σ=>vH aQ a (skY P aQ (jM b) (vH aQ b) K) q σ
  | .cond c a b,K,q,σ=>match fU σ.env c with
    | .one (.c (.p (.bool t)))=>cond t (vH aQ a K q (xI σ c true)) (vH aQ b K q (xI σ c false))
    | _=>none
  | .block id b,K,q,σ=>vH aQ b (bkY id K) q σ
  | .loop b,K,q,σ=>match lk aQ.head (jM b)with
    | some k=>zef P k (zio P k (vH aQ b) K N q) σ
    | none=>match lk aQ.unr (jM b)with
      | some (n,k)=>zwJ P k (vH aQ b) K n q σ
      | none=>none
  | .exit id,K,q,σ=>K (.exit id) q σ
  | .scope b,K,q,σ=>vH aQ b (zFa K) q σ
  | .label _,K,q,σ=>K .normal q σ
  | .ret,K,q,σ=>K .ret q σ
  | _,_,_,_=>none
def ztI:UB:=λe _ _=>match e with
 | .normal=>some []
 | .ret=>some []
 | _=>none
def aI(aQ:dK)(f:FuncId)(caps:List PA):YO :=
 match P.funcs[f]? with
 | some fn=>match fn.body with
  | some c=>match Nat.beq aQ.nt fn.ntmps&&Nat.ble (caps.length+1) aQ.nt&&fn.results.isEmpty with
   | true=>vH P Γ N aQ c ztI false ⟨(0,.cl (.vec U5))::jk 1 caps,[(U5,.gone)],[]⟩
   | false=>none
  | none=>none
 | none=>none
end
section
variable [aJ]{P:Program}{Γ:bU}{N:Nat}
theorem ae.T_some{ρ A:Type}{c:ae ρ}{k:ρ->Option A}{x:A}(h:c.T k=some x):∃r,c.o=some r/\k r=some x:=by
 rw[c.nat]at h;cases e:c.T some with
 | none=>rw[e]at h;cases h
 | some r=>rw[e]at h;exact⟨r,e,h⟩
def SK(K:Bool->St->YO)(K':List (List PA)->Bool->St->Prop):Prop:=∀q s r ys,K q s=some r->(q=false->ys=r)->K' ys q s
theorem Gi{nt:Nat}{o:Oper}{next:Bool->St->YO}{next':List (List PA)->Bool->St->Prop}(hn:SK next next'):SK (LX P Γ nt o next) (wG P Γ nt o next'):=by
 intro q σ r ys h hq;unfold LX at h;unfold wG;split at h
 ·rename_i args t hy;rw[hy];simp only;split at h
  ·rename_i y h1 h2;unfold yT at h;split at h
   ·rename_i r1 hf;split at h
    ·rename_i r2 ht;cases h;rw[h1,h2];exact⟨r2,hq rfl,hn _ _ _ _ ht λ_=>rfl,hn _ _ _ _ hf λe=>by cases e⟩
    ·cases h
   ·cases h
  ·cases h
 ·rename_i hy;rw[hy];simp only;split at h
  ·rename_i hd;rw[hd];rw[zcf]at h;obtain⟨s,h1,h2⟩:=ae.T_some h;exact zcc h1 (hn _ _ _ _ h2 hq)
  ·cases h
theorem Wy{nt:Nat}{ops:Array Oper}{K:Bool→St→YO}{K':List (List PA)→Bool→St→Prop}(hK:SK K K'):∀l:List Oper,SK (AQ P Γ nt ops l K) (lN P Γ nt ops l K')
  | []=>hK
  | o::l=>by
    intro q σ r ys h hq;have ih:SK (AQ P Γ nt ops l K) (lN P Γ nt ops l K'):=Wy hK l;simp only[AQ]at h;simp only[lN];split at h
    · rename_i hg;simp only[hg];exact Gi ih _ _ _ _ h hq
    · rename_i j want hg;simp only[hg];split at h
      · rename_i g hd hj;simp only[hd,hj];split at h
        · rename_i b hb;simp only[hb];refine CG (λ e=>?_) λ e=>?_
          · subst e;cases want with
            | true=>exact Gi ih _ _ _ _ h hq
            | false=>exact ih _ _ _ _ h hq
          · subst e;cases want with
            | true=>exact ih _ _ _ _ h hq
            | false=>exact Gi ih _ _ _ _ h hq
        · rename_i hb;simp only[hb];exact ih _ _ _ _ h hq
        · cases h
      · cases h
theorem zQ{k:Keep}{K:St->YO}{σ:St}{r:List (List PA)}(h:zef P k K σ=some r):∃s,canon P k σ=some s/\K s=some r:=by
 unfold zef at h;split at h
 ·rename_i s hs;exact⟨s,hs,h⟩
 ·cases h
def zFb(K:UB)(K':YK):Prop:=∀e,SK (K e) (K' e)
theorem zn0{aQ:dK}:∀(c:Code)(K:UB)(K':YK),zFb K K'->SK (vH P Γ N aQ c K) (Q8 P Γ aQ c K'):=by
 intro c
 induction c with
 | skip=>exact λK K' hK=>hK .normal
 | region id ops draw =>
  intro K K' hK q σ r ys h hq;simp only[vH]at h;simp only[Q8];split at h
  ·cases h
  ·rename_i h1 h2;simp only[h1,h2];refine Wy (λ q s r ys h hq=>?_) ops.toList _ _ _ _ h hq;split at h
   ·rename_i k hk;obtain⟨s1,h3,h4⟩:=zQ h;simp only[hk,h3];exact hK _ _ _ _ _ h4 hq
   ·rename_i hk;simp only[hk];exact hK _ _ _ _ _ h hq
  ·cases h
  ·rename_i h1 h2;simp only[h1,h2];rw[zcg]at h;obtain⟨s,h3,h4⟩:=ae.T_some h;exact zcd h3 (hK _ _ _ _ _ h4 hq)
 | seq a b iha UG =>
  intro K K' hK;refine iha _ _ λe q s r ys h hq=>?_;cases e with
  | normal =>
   have h:zee P aQ (jM b) (vH P Γ N aQ b K q) s=some r:=h;rw[zch]at h;obtain⟨s1,h1,h2⟩:=ae.T_some h;simp only[zwc,zwe];have:=UG K K' hK _ _ _ _ h2 hq;unfold Z5 at h1;split at h1
   ·rename_i k hk;simp only[hk,ae.opt_o h1];exact this
   ·rename_i hk;simp only[hk];cases ae.ok_o h1;exact this
  | _=>exact hK _ _ _ _ _ h hq
 | cond c a b iha UG =>
  intro K K' hK q σ r ys h hq;simp only[vH]at h;simp only[Q8];split at h
  ·rename_i t ht;simp only[ht];refine CG (λ e1=>?_) λ e1=>?_
   ·subst e1;exact iha _ _ hK _ _ _ _ h hq
   ·subst e1;exact UG _ _ hK _ _ _ _ h hq
  ·cases h
 | block id b ih =>
  intro K K' hK;refine ih _ _ λe q s r ys h hq=>?_;cases e with
  | exit j =>
   simp only[bkY]at h;simp only[Zk];split at h
   ·rename_i hj;rw[hj];exact hK _ _ _ _ _ h hq
   ·rename_i hj;rw[hj];exact hK _ _ _ _ _ h hq
  | _=>exact hK _ _ _ _ _ h hq
 | loop b ih =>
  intro K K' hK q σ r ys h hq;simp only[vH]at h;simp only[Q8];split at h
  ·rename_i k hk;obtain⟨s1,h1,h2⟩:=zQ h;simp only[hk,h1];intro X hX;have key:∀n:Nat,SK (zio P k (vH P Γ N aQ b) K n) X:=by
    intro n
    induction n with
    | zero=>intro q s r ys h;cases h
    | succ n ihn =>
     intro q s r ys h hq;refine hX _ _ _ (ih _ _ (λe q s r ys h hq=>?_) _ _ _ _ h hq);cases e with
     | normal =>
      obtain⟨s2,h3,h4⟩:=zQ h;simp only[zg5,hk,h3];exact ihn _ _ _ _ h4 hq
     | _=>exact hK _ _ _ _ _ h hq
   exact key N _ _ _ _ h2 hq
  ·rename_i hk;split at h
   ·rename_i n k hn;simp only[hk,hn];have key:∀n:Nat,SK (zwJ P k (vH P Γ N aQ b) K n) (PD P k (Q8 P Γ aQ b) n K'):=by
     intro n
     induction n with
     | zero=>intro q s r ys h;cases h
     | succ n ihn =>
      intro q s r ys h hq;obtain⟨s1,h1,h2⟩:=zQ h;simp only[PD,h1];refine ih _ _ (λe q s r ys h hq=>?_) _ _ _ _ h2 hq;cases e with
      | normal=>exact ihn _ _ _ _ h hq
      | _=>exact hK _ _ _ _ _ h hq
    exact key n _ _ _ _ h hq
   ·cases h
 | exit id=>exact λK K' hK=>hK _
 | scope b ih =>
  intro K K' hK;refine ih _ _ λe q s r ys h hq=>?_;cases e with
  | goto l=>cases h
  | _=>exact hK _ _ _ _ _ h hq
 | label l=>exact λK K' hK=>hK .normal
 | ret=>exact λK K' hK=>hK .ret
 | rangeFunc f ps a b _ _=>intro K K' hK q σ r ys h;cases h
 | goto l=>intro K K' hK q σ r ys h;cases h
 | refuse s=>intro K K' hK q σ r ys h;cases h
theorem zFc{aQ:dK}{f:FuncId}{caps:List PA}{ys:List (List PA)}(h:aI P Γ N aQ f caps=some ys):Rf P Γ aQ f caps ys:=by
 unfold aI at h;unfold Rf;split at h
 ·rename_i fn uh;split at h
  ·rename_i c hb;split at h
   ·rename_i hc;rw[uh];simp only[hb,hc];refine zn0 c _ _ (λe q s r ys h hq=>?_) _ _ _ _ h λ_=>rfl;have fin:some []=some r->zg6 ys q:=by
     intro e;cases e;cases q with
     | true=>trivial
     | false=>exact hq rfl
    cases e with
    | normal=>exact fin h
    | ret=>exact fin h
    | _=>cases h
   ·cases h
  ·cases h
 ·cases h
end
end Go.Pm
namespace Go.Pm
section
variable [aJ]
class iT (α : Type) where
  enc:α->PA
  dec:PA->α
  ck:PA->Bool
  up:∀{h:Fz}{a:PA}{v:Value},nU h a v->ck a=true->nU h (enc (dec a)) v
  eq:α->α->Bool
  eqk:∀{h:Fz}{a b:α}{v:Value},eq a b=true->nU h (enc a) v->nU h (enc b) v
abbrev iT.one {α : Type} [bH α] : iT α where
  enc x:=match bH.enc x with|[v]=>.one v|l=>.agg l
  dec a:=match a with | .one v=>(bH.dec [v]).1 | .agg l=>(bH.dec l).1
  ck a:=match a with | .one v=>Pv (bH.ck (α:=α) [v]) | .agg _=>false
  up:=by
    intro h a v r hc;cases a with
    | agg l=>cases hc
    | one p =>
      have r:Rep h p v:=r;have h1:=nZ (α:=α) (g:=λ_=>[p]) (λ_ _=>⟨r.un,trivial⟩) hc 0;change RL pR [p] (bH.enc (bH.dec (α:=α) [p]).1)at h1;generalize bH.enc (bH.dec (α:=α) [p]).1=m at h1
      match m,h1 with
      | [q],h1=>exact r.up h1.1
      | [],h1=>exact h1.elim
      | _::_::_,h1=>exact h1.2.elim
  eq:=bH.eq
  eqk:=by
    intro h a b v he r;have h1:=bH.eqk he;generalize bH.enc a=l at h1 r;generalize bH.enc b=m at h1;have ag:∀{l m:List PV},RL pR l m->nU h (.agg l) v->nU h (.agg m) v:=λe r1=>by
      obtain⟨vs,e1,r2⟩:=r1;exact⟨vs,e1,Be e r2⟩
    match l,m,h1 with
    | [_],[_],h1=>exact Rep.up h1.1 r
    | [],[],h1=>exact ag h1 r
    | _::_::_,_::_::_,h1=>exact ag h1 r
    | [],_::_,h1=>exact h1.elim
    | [_],[],h1=>exact h1.elim
    | [_],_::_::_,h1=>exact h1.2.elim
    | _::_::_,[],h1=>exact h1.elim
    | _::_::_,[_],h1=>exact h1.2.elim
abbrev iT.agg' {α : Type} [bH α] : iT α where
  enc x:=.agg (bH.enc x)
  dec a:=match a with | .one v=>(bH.dec [v]).1 | .agg l=>(bH.dec l).1
  ck a:=match a with | .agg l=>Pv (bH.ck (α:=α) l) | .one _=>false
  up:=by
    intro h a v r hc;cases a with
    | one p=>cases hc
    | agg l =>
      obtain⟨vs,rfl,r⟩:=r;exact⟨vs,rfl,Be (nZ (α:=α) (g:=λ_=>l) (λ_ _=>yJ r) hc 0) r⟩
  eq:=bH.eq
  eqk:=by
    intro h a b v he r;obtain⟨vs,rfl,r⟩:=r;exact⟨vs,rfl,Be (bH.eqk he) r⟩
instance:iT Int:=.one
instance:iT Bool:=.one
instance{α:Type}[bH α][Inhabited α]:iT (Sl α):=.one
instance{α:Type}[bH α]:iT (Pt α):=.one
class dG (α : Type) where
  enc:α->List PA
  dec:List PA->α
  ck:List PA->Bool
  up:∀{h:Fz}{l:List PA}{vs:List Value},RL (nU h) l vs->ck l=true->RL (nU h) (enc (dec l)) vs
  eq:α->α->Bool
  eqk:∀{h:Fz}{a b:α}{vs:List Value},eq a b=true->RL (nU h) (enc a) vs->RL (nU h) (enc b) vs
instance : dG Unit where
  enc _:=[]
  dec _:=()
  ck l:=l.isEmpty
  up:=by
    intro h l vs r hc;cases l with
    | nil=>exact r
    | cons=>cases hc
  eq _ _:=true
  eqk _ r:=r
instance {α : Type} [iT α] : dG α where
  enc x:=[iT.enc x]
  dec l:=iT.dec (l.headD (.agg []))
  ck l:=match l with|[a]=>iT.ck (α:=α) a|_=>false
  up:=by
    intro h l vs r hc
    match l,vs,r,hc with
    | [a],[v],r,hc=>exact⟨iT.up r.1 hc,trivial⟩
    | [],_,_,hc=>cases hc
    | _::_::_,_,_,hc=>cases hc
    | [_],[],r,_=>exact r.elim
    | [_],_::_::_,r,_=>exact r.2.elim
  eq:=iT.eq
  eqk:=by
    intro h a b vs he r
    match vs,r with
    | [v],r=>exact⟨iT.eqk he r.1,trivial⟩
    | [],r=>exact r.elim
    | _::_::_,r=>exact r.2.elim
instance {α β : Type} [iT α] [dG β] : dG (α × β) where
  enc x:=iT.enc x.1::dG.enc x.2
  dec l:=(iT.dec (l.headD (.agg [])),dG.dec l.tail)
  ck l:=match l with|a::r=>iT.ck (α:=α) a&&dG.ck (α:=β) r|_=>false
  up:=by
    intro h l vs r hc
    match l,vs,r,hc with
    | a::l,v::vs,r,hc =>
      rw[Bool.and_eq_true]at hc;exact⟨iT.up r.1 hc.1,dG.up r.2 hc.2⟩
    | [],_,_,hc=>cases hc
    | _::_,[],r,_=>exact r.elim
  eq a b:=iT.eq a.1 b.1&&dG.eq a.2 b.2
  eqk:=by
    intro h a b vs he r;rw[Bool.and_eq_true]at he
    match vs,r with
    | v::vs,r=>exact⟨iT.eqk he.1 r.1,dG.eqk he.2 r.2⟩
    | [],r=>exact r.elim
theorem Jm{h:Fz}{l m:List PA}{v:Value}(hm:∀vs,RL (nU h) l vs->RL (nU h) m vs)(r:qK h l v):qK h m v:=by
 have go:∀vs,RL (nU h) m vs->(vs.length=1->vs=[v])->(vs.length≠1->v=.tuple vs.toArray)->qK h m v:=by
  intro vs hr h1 h2
  match m,vs,hr with
  | [],[],_=>exact⟨[],h2 (by simp),trivial⟩
  | [x],[u],hr=>cases h1 rfl;exact hr.1
  | x::y::l,u::u2::vs,hr=>exact⟨_,h2 (by simp),hr⟩
  | [],_::_,hr=>exact hr.elim
  | [_],[],hr=>exact hr.elim
  | [_],_::_::_,hr=>exact hr.2.elim
  | _::_::_,[],hr=>exact hr.elim
  | _::_::_,[_],hr=>exact hr.2.elim
 match l,r with
 | [],⟨vs,e,r⟩=>exact go vs (hm vs r) (λh=>by rw[<- r.length]at h;cases h) λ_=>e
 | [x],r=>exact go [v] (hm [v] ⟨r,trivial⟩) (λ_=>rfl) λh=>absurd rfl h
 | x::y::l,⟨vs,e,r⟩=>exact go vs (hm vs r) (λh=>by rw[<- r.length]at h;simp at h) λ_=>e
end
/-! What is wanted later, as a number's bits. -/
def orL(m:Nat):List Nat→Nat
  | []=>m
  | t::r=>orL (m ||| 2^t) r
def clL(m:Nat):List Nat→Nat
  | []=>m
  | t::r=>clL (m ^^^ (m &&& 2^t)) r
def ztJ(ops:Array Oper):List Oper→Nat→Nat
  | [],m=>m
  | o::r,m=>orL (clL (ztJ ops r m) o.dst.toList) (uu ops o)
def lvC:Code→Nat→Nat→List (Nat×Nat)→Nat×List (Nat×Nat×Nat)
  | .skip,o,_,_=>(o,[])
  | .region id ops _,o,_,_=>(ztJ ops ops.toList o,[(0,id,o)])
  | .seq a b,o,r,x=>match lvC b o r x with
    | (mb,lb)=>match lvC a mb r x with
      | (ma,la)=>(ma,la++(2,jM b,mb)::lb)
  | .cond c a b,o,r,x=>match lvC a o r x,lvC b o r x with
    | (ma,la),(mb,lb)=>(orL (ma ||| mb) (Zd c),la++lb)
  | .block id b,o,r,x=>lvC b o r ((id,o)::x)
  | .loop b,_,r,x=>match(lvC b 0 r x).1 with
    | m=>(m,(1,jM b,m)::(lvC b m r x).2)
  | .rangeFunc f ps a b,o,r,x=>match(lvC b 0 r x).1 with
    | m0=>match orL (clL (o ||| (lvC a m0 r x).1) ps.toList) (Zd f)with
      | m=>match lvC b m r x with
        | (mb,lb)=>(m,(1,Zj a b,m)::((lvC a mb r x).2++lb))
  | .exit id,_,_,x=>((lk x id).getD 0,[])
  | .scope b,o,r,x=>lvC b o r x
  | .label _,o,_,_=>(o,[])
  | .ret,_,r,_=>(r,[])
  | _,_,_,_=>(0,[])
def zci(m:Nat):Nat→Nat→List Nat
  | _,0=>[]
  | i,n+1=>match m.testBit i with|true=>i::zci m (i+1) n|false=>zci m (i+1) n
structure Ext where
  ks:List (Nat×Nat×Keep):=[]
  cut:List Nat:=[]
  unr:List (Nat×Nat):=[]
  yl:List Nat:=[]
  vv:List Nat:=[]
  clo:List Nat:=[]
  pan:List Nat:=[]
def zcj(x:Ext)(nt k id m:Nat):Keep:=match x.ks.find? λy=>Nat.beq y.1 k&&Nat.beq y.2.1 id with
 | some y=>{y.2.2 with tmps:=zci m 0 nt}
 | none=>⟨zci m 0 nt,[],[],[],[],[],[]⟩
def zFe(x:Ext)(nt:Nat):List (Nat×Nat×Nat)→dK→dK
  | [],a=>a
  | (k,id,m)::r,a=>match zFe x nt r a with
    | a=>match k with
      | 0=>{a with reg:=(id,zcj x nt 0 id m)::a.reg}
      | 1=>match lk x.unr id with
        | some n=>{a with unr:=(id,n,zcj x nt 1 id m)::a.unr}
        | none=>{a with head:=(id,zcj x nt 1 id m)::a.head}
      | _=>match x.cut.contains id with
        | true=>{a with cut:=(id,zcj x nt 2 id m)::a.cut}
        | false=>a
def zwK:List ResultVar→List Nat
  | []=>[]
  | .tmp t::r=>t::zwK r
  | .cell t _::r=>t::zwK r
def bY(P:Program)(f:Nat)(xt:List Nat)(x:Ext):dK:=match P.funcs[f]? with
 | some fn=>match fn.body with
  | some c=>match orL 0 (xt++zwK fn.results.toList)with
   | m=>zFe x fn.ntmps (lvC c m m []).2 ⟨fn.ntmps,[],[],[],[],x.yl,x.pan⟩
  | none=>⟨0,[],[],[],[],[],[]⟩
 | none=>⟨0,[],[],[],[],[],[]⟩
section
variable(P:Program)(N:Nat)(Γ:bU){ρ:Type}
def WA(aQ:dK)(f:FuncId)(n:Nat)(g:Code->Bool)(σ:St)(fin:Func->St->Option ρ):ae ρ :=
 match P.funcs[f]? with
 | some fn=>match fn.body with
  | some c=>match Nat.beq aQ.nt fn.ntmps&&Nat.ble n aQ.nt&&g c with
   | true=>(vcC P Γ N aQ c σ).bind λ(e,s)=>match e with
    | .normal=>.opt (fin fn s)
    | .ret=>.opt (fin fn s)
    | _=>.no
   | false=>.no
  | none=>.no
 | none=>.no
def aF(aQ:dK)(f:FuncId)(args:List PA):ae (List PA) :=
 WA P N Γ aQ f args.length (λ_=>true) ⟨jk 0 args,[],[]⟩ λfn s=>kT P s fn.results.toList
def WB(fn:Func)(e s b:Nat)(σ:St):Option (Nat×(Nat->List PV)×List PV) :=
 match fn.results.toList with
 | .tmp t::r=>match lk σ.env t with
  | some (.one (.c (.vec L)))=>match lk σ.aB L with
   | some (.vec e' s' b' n get)=>match Nat.beq e e'&&(Nat.beq s s'&&Nat.beq b b'),r with
    | true,[]=>some (n,get,[])
    | true,[.tmp u]=>match lk σ.env u with
     | some (.one (.c (.p x)))=>some (n,get,[x])
     | _=>none
    | _,_=>none
   | _=>none
  | _=>none
 | _=>none
def aK(aQ:dK)(f:FuncId)(e s b:Nat)(args:List PA):ae (Nat×(Nat->List PV)×List PV) :=
 WA P N Γ aQ f args.length (λ_=>true) ⟨jk 0 args,[],[]⟩ λfn σ=>WB fn e s b σ
def ziq(aQ:dK)(f:FuncId)(n:Nat)(g:Code->Bool)(σ:St)(fin:Func->Exit->St->Option ρ):ae ρ :=
 match P.funcs[f]? with
 | some fn=>match fn.body with
  | some c=>match Nat.beq aQ.nt fn.ntmps&&Nat.ble n aQ.nt&&g c with
   | true=>(vcC P Γ N aQ c σ).bind λr=>.opt (fin fn r.1 r.2)
   | false=>.no
  | none=>.no
 | none=>.no
def zck(xs:List XA)(fn:Func)(σ:St):Option (List PA×List XA) :=
 match Dx P σ fn.results.toList with
 | some (l,u)=>match LU (Bz σ.env xs) (lk (u++σ.aB)) σ.env 0 xs with
  | some (ys,ls)=>match mO ls,Fh l with
   | true,none=>some (l,ys)
   | _,_=>none
  | none=>none
 | none=>none
def zir(xs:List XA)(ch:List PanicEntry)(σ:St):Option (List PA×List XA) :=
 match chR ch with
 | some l=>match LU (Bz σ.env xs) (lk σ.aB) σ.env 0 xs with
  | some (ys,ls)=>match mO ls with
   | true=>some (l,ys)
   | false=>none
  | none=>none
 | none=>none
def zwL(xs:List XA)(fn:Func):Exit→St→Option (List PA×List XA)
  | .normal,σ=>zck P xs fn σ
  | .ret,σ=>zck P xs fn σ
  | .panic ch,σ=>zir xs ch σ
  | _,_=>none
def aM(aQ:dK)(f:FuncId)(xs:List XA):ae (List PA×List XA) :=
 ziq P N Γ aQ f xs.length (λc=>mO ((iV 0 xs).map (·.1))&&zk (wQ 0 xs) xs&&og (wQ 0 xs) (eH c)) ⟨LM 0 xs,iV 0 xs,[]⟩ (zwL P xs)
end
section
variable [aJ]{P:Program}{N:Nat}{Γ:bU}
theorem SL{ρ:Type}{aQ:dK}{f:FuncId}{n:Nat}{g:Code→Bool}{σ:St}{fin:Func→St→Option ρ}{r:ρ}(h:(WA P N Γ aQ f n g σ fin).o=some r) :
  ∃fn c,P.funcs[f]? = some fn/\fn.body=some c/\(Nat.beq aQ.nt fn.ntmps&&Nat.ble n aQ.nt)=true/\g c=true/\∀K:Exit->St->Prop,(∀s,fin fn s=some r->K .normal s/\K .ret s)->vc P Γ aQ c K σ:=by
 unfold WA at h;split at h
 ·rename_i fn uh;split at h
  ·rename_i c hb;split at h
   ·rename_i hc;rw[gG]at hc;obtain⟨⟨e,s⟩,h1,h2⟩:=ae.bind_o h;refine⟨fn,c,uh,hb,hc.1,hc.2,λK hK=>SI c σ s e K h1 ?_⟩;cases e with
    | normal=>exact(hK s (ae.opt_o h2)).1
    | ret=>exact(hK s (ae.opt_o h2)).2
    | _=>exact(ae.no_o h2).elim
   ·exact(ae.no_o h).elim
  ·exact(ae.no_o h).elim
 ·exact(ae.no_o h).elim
theorem zFf{aQ:dK}{f:FuncId}{args rs:List PA}(h:(aF P N Γ aQ f args).o=some rs):vcFun P Γ aQ f args λQH=>QH=rs:=by
 obtain⟨fn,c,h1,h2,h3,_,h4⟩:=SL h;unfold vcFun;rw[h1];simp only[h2,h3];refine h4 _ λs hs=>?_;constructor<;>simp only[zg3,Bd,hs]
theorem zFg{aQ:dK}{f:FuncId}{e s b n:Nat}{get:Nat->List PV}{rs:List PV}{args:List PA}(h:(aK P N Γ aQ f e s b args).o=some (n,get,rs)):zbr P Γ aQ f args e s b (ZZ n s get rs):=by
 obtain⟨fn,c,h1,h2,h3,_,h4⟩:=SL h;unfold zbr;rw[h1];simp only[h2,h3];refine h4 _ λσ hs=>?_;have:Py fn e s b (ZZ n s get rs) σ:=by
  unfold WB at hs;unfold Py;split at hs
  ·rename_i t r hr;split at hs
   ·rename_i L hL;split at hs
    ·rename_i e' s' b' m g hO;split at hs
     ·rename_i hc;cases hs;rw[hr];simp only[hL,hO,hc];rfl
     ·rename_i u hc;split at hs
      ·rename_i x hu;cases hs;rw[hr];simp only[hL,hO,hc,hu];rfl
      ·cases hs
     ·cases hs
    ·cases hs
   ·cases hs
  ·cases hs
 exact⟨this,this⟩
theorem zn1{ρ:Type}{aQ:dK}{f:FuncId}{n:Nat}{g:Code→Bool}{σ:St}{fin:Func→Exit→St→Option ρ}{r:ρ}(h:(ziq P N Γ aQ f n g σ fin).o=some r) :
  ∃fn c,P.funcs[f]? = some fn/\fn.body=some c/\(Nat.beq aQ.nt fn.ntmps&&Nat.ble n aQ.nt)=true/\g c=true/\∀K:Exit->St->Prop,(∀e s,fin fn e s=some r->K e s)->vc P Γ aQ c K σ:=by
 unfold ziq at h;split at h
 ·rename_i fn uh;split at h
  ·rename_i c hb;split at h
   ·rename_i hc;rw[gG]at hc;obtain⟨⟨e,s⟩,h1,h2⟩:=ae.bind_o h;exact⟨fn,c,uh,hb,hc.1,hc.2,λK hK=>SI c σ s e K h1 (hK e s (ae.opt_o h2))⟩
   ·exact(ae.no_o h).elim
  ·exact(ae.no_o h).elim
 ·exact(ae.no_o h).elim
theorem zFh{aQ:dK}{f:FuncId}{xs ys:List XA}{rs:List PA}(h:(aM P N Γ aQ f xs).o=some (rs,ys)):Wj P Γ aQ f xs λl zs=>l=rs/\zs=ys:=by
 obtain⟨fn,c,h1,h2,h3,h0,h4⟩:=zn1 h;unfold Wj;rw[h1];simp only[gG]at h0 h3;simp only[h2,h3.1,h3.2,h0.1.1,h0.1.2,h0.2,qjQ];refine h4 _ λe σ hs=>?_;have nr:zck P xs fn σ=some (rs,ys)->Vs P fn xs (λl zs=>l=rs/\zs=ys) σ:=λhs=>by
  unfold zck at hs;unfold Vs;split at hs
  ·rename_i l u hr;split at hs
   ·rename_i zs ls ho;split at hs
    ·rename_i hn hp;cases hs;simp only[hr,ho,hn,hp,and_self]
    ·cases hs
   ·cases hs
  ·cases hs
 cases e with
 | normal=>exact nr hs
 | ret=>exact nr hs
 | panic ch =>
  have hs:zir xs ch σ=some (rs,ys):=hs;show zh9 xs (λl zs=>l=rs/\zs=ys) ch σ;unfold zir at hs;unfold zh9;split at hs
  ·rename_i l hr;split at hs
   ·rename_i zs ls ho;split at hs
    ·rename_i hn;cases hs;simp only[hr,ho,hn,and_self]
    ·cases hs
   ·cases hs
  ·cases hs
 | _=>cases hs
end
structure Tabs where
  fn:List (Nat×(List PA->ae (List PA)))
  own:List (Nat×Fe)
  it:List (Nat×(List PA->ae (List (List PA))))
  mt:List (Nat×Option MK)
  cf:List (Nat×(List PA->ae (List PA)))
def WC{α:Type _}(d:α):List (Nat×α)→Nat→α
  | [],_=>d
  | (k,c)::r,f=>match Nat.beq k f with|true=>c|false=>WC d r f
def gY(T:Tabs)(vv:List Nat):bU:=⟨WC (λ_=>.no) T.fn,WC Fe.none T.own,WC (λ_=>.no) T.it,λt=>vv.contains t,WC none T.mt,WC (λ_=>.no) T.cf⟩
def Tabs.nil:Tabs:=⟨[],[],[],[],[]⟩
def Tabs.addF(T:Tabs)(f:Nat)(c:List PA->ae (List PA)):Tabs:=⟨(f,c)::T.fn,T.own,T.it,T.mt,T.cf⟩
def Tabs.addO(T:Tabs)(f:Nat)(c:Fe):Tabs:=⟨T.fn,(f,c)::T.own,T.it,T.mt,T.cf⟩
def Tabs.addI(T:Tabs)(f:Nat)(c:List PA->ae (List (List PA))):Tabs:=⟨T.fn,T.own,(f,c)::T.it,T.mt,T.cf⟩
def Tabs.addM(T:Tabs)(f:Nat)(c:MK):Tabs:=⟨T.fn,T.own,T.it,(f,some c)::T.mt,T.cf⟩
def Tabs.addN(T:Tabs):List Nat→Tabs
  | []=>T
  | f::r=>(T.addM f λ_=>.no).addN r
def Tabs.addC(T:Tabs)(f:Nat)(c:List PA->ae (List PA)):Tabs:=⟨T.fn,T.own,T.it,T.mt,(f,c)::T.cf⟩
variable [aJ]
structure ax (P : Program) (T : Tabs) : Prop where
  fn:∀x∈T.fn,Ok P x.1 x.2
  own:∀x∈T.own,gz P x.1 x.2
  it:∀x∈T.it,Ac P x.1 x.2
  mt:∀x∈T.mt,∀C,x.2=some C->rJ P x.1 C
  cf:∀x∈T.cf,@Ok ⟨1⟩ P x.1 x.2
theorem all_cons{α:Type _}{p:α->Prop}{a:α}{l:List α}(h:∀x∈l,p x)(ha:p a):∀x∈a::l,p x:=λx hx=>(kR.1 hx).elim (λe=>e▸ha) (h x)
section
variable{P:Program}{T:Tabs}{f:Nat}
theorem ax.nil:ax P .nil:=⟨λ_ h=>(by cases h),λ_ h=>(by cases h),λ_ h=>(by cases h),λ_ h=>(by cases h),λ_ h=>(by cases h)⟩
theorem ax.addF(h:ax P T){c:List PA->ae (List PA)}(hc:Ok P f c):ax P (T.addF f c):=⟨all_cons h.fn hc,h.own,h.it,h.mt,h.cf⟩
theorem ax.addO(h:ax P T){c:Fe}(hc:gz P f c):ax P (T.addO f c):=⟨h.fn,all_cons h.own hc,h.it,h.mt,h.cf⟩
theorem ax.addI(h:ax P T){c:List PA->ae (List (List PA))}(hc:Ac P f c):ax P (T.addI f c):=⟨h.fn,h.own,all_cons h.it hc,h.mt,h.cf⟩
theorem ax.addM(h:ax P T){c:MK}(hc:rJ P f c):ax P (T.addM f c):=⟨h.fn,h.own,h.it,all_cons h.mt λ_ e=>by cases e;exact hc,h.cf⟩
theorem ax.addC(h:ax P T){c:List PA->ae (List PA)}(hc : @Ok ⟨1⟩ P f c):ax P (T.addC f c):=⟨h.fn,h.own,h.it,h.mt,all_cons h.cf hc⟩
theorem ax.addN:∀{l:List Nat}{T:Tabs},ax P T→ax P (T.addN l)
  | [],_,h=>h
  | _::_,_,h=>(h.addM λ_ _ _ h=>(ae.no_o h).elim).addN
theorem zS{α:Type _}{p:Nat→α→Prop}{d:α}(hd:p f d):∀{l:List (Nat×α)},(∀x∈l,p x.1 x.2)→p f (WC d l f)
  | [],_=>hd
  | (k,c)::l,h=>by
    simp only[WC];split
    · rename_i e;have:=h (k,c) lq;rw[<- kL e];exact this
    · exact zS hd λx hx=>h x (jU _ hx)
theorem ax.all(h:ax P T)(vv:List Nat):jw P (gY T vv) :=
 ⟨λf C hC=>zS (p:=λf o=>∀C,o=some C->rJ P f C) (λ_ e=>by cases e) (λx hx C e=>h.mt x hx C e) C hC,λf=>zS (p:=λf c=>Ok P f c) (λ_ _ h=>(ae.no_o h).elim) λx hx=>h.fn x hx,
  λf=>zS (p:=λf c=>gz P f c) (d:=.none) trivial λx hx=>h.own x hx,λf=>zS (p:=λf c=>Ac P f c) (λ_ _ h=>(ae.no_o h).elim) λx hx=>h.it x hx,
  λf=>zS (p:=λf c=>@Ok ⟨1⟩ P f c) (λ_ _ h=>(ae.no_o h).elim) λx hx=>h.cf x hx⟩
theorem wz(h:ax P T)(hc:dD P f){N:Nat}{vv:List Nat}{aQ:dK}:Ok P f (aF P N (gY T vv) aQ f) :=
 zh4 (h.all vv) hc λargs rs h=>⟨_,aQ,zFf h⟩
theorem SN(h:ax P T)(hc:dD P f){N e s b:Nat}{vv:List Nat}{aQ:dK}:gz P f (.mkv e s b (aK P N (gY T vv) aQ f e s b)) :=
 zec (h.all vv) hc λargs n get rs h=>⟨_,aQ,zFg h⟩
theorem Z8(h:ax P T)(hc:dD P f){N:Nat}{vv:List Nat}{aQ:List XA->dK}:rJ P f (λxs=>aM P N (gY T vv) (aQ xs) f xs) :=
 zed (h.all vv) hc λxs rs ys h=>⟨_,aQ xs,zFh h⟩
theorem LY(h:ax P T)(hc:dD P f){N:Nat}{vv:List Nat}{aQ:dK}:Ac P f (λcaps=>.opt (aI P (gY T vv) N aQ f caps)) :=
 zh8 (h.all vv) hc λcaps ys h=>⟨_,aQ,zFc (ae.opt_o h)⟩
def zwM(P:Program)(N:Nat)(T:Tabs)(x:Ext)(f:Nat):Nat→MK
  | 0=>λ_=>.no
  | n+1=>λxs=>aM P N (gY ((T.addM f (zwM P N T x f n)).addN x.clo) x.vv) (bY P f (wQ 0 xs) x) f xs
theorem WE(h:ax P T)(hc:dD P f){N:Nat}{x:Ext}:∀n,rJ P f (zwM P N T x f n)
  | 0=>λ_ _ _ h=>(ae.no_o h).elim
  | n+1=>Z8 (h.addM (WE h hc n)).addN hc
def ae.ty{δ ρ:Type}[dG δ][dG ρ](C:List PA->ae (List PA))(x:δ):ae ρ:=(C (dG.enc x)).bind λl=>.chk (dG.ck (α:=ρ) l) (.ok (dG.dec l))
def ae.un{δ ρ:Type}[dG δ][dG ρ](F:δ->ae ρ)(args:List PA):ae (List PA):=.chk (dG.ck (α:=δ) args) ((F (dG.dec args)).mp dG.enc)
theorem ztK{δ ρ:Type}[dG δ][dG ρ]{C:List PA->ae (List PA)}(h:Ok P f C):Ok P f (ae.un (ae.ty C:δ->ae ρ)):=by
 intro args rs hr w h0 vs jK hw;obtain⟨h1,h2⟩:=ae.chk_o hr;obtain⟨r,h3,h4⟩:=ae.mp_o h2;obtain⟨l,h5,h6⟩:=ae.bind_o h3;obtain⟨h7,h8⟩:=ae.chk_o h6;have h8:=ae.ok_o h8;subst h4 h8;obtain⟨hc,h9⟩:=h _ _ h5 w h0 vs (dG.up jK h1) hw;refine⟨hc,h9.mono ?_⟩;rintro e w' ⟨h',v,he,hv,r⟩;exact⟨h',v,he,Jm (λvs jK=>dG.up jK h7) hv,r⟩
def zn2{δ ρ:Type}[dG δ][dG ρ](C:List PA->ae (List PA))(y:δ×ρ):Bool:=match(C (dG.enc y.1)).o with
 | some l=>dG.ck (α:=ρ) l&&dG.eq (dG.dec l) y.2
 | none=>false
def zis{δ ρ:Type}[dG δ][dG ρ](y:δ×ρ)(C:List PA->ae (List PA))(args:List PA):ae (List PA):=match dG.ck (α:=δ) args&&dG.eq (dG.dec args) y.1 with
 | true=>.ok (dG.enc y.2)
 | false=>C args
theorem zn3{δ ρ:Type}[dG δ][dG ρ]{C:List PA->ae (List PA)}(h:Ok P f C){y:δ×ρ}(hy:zn2 C y=true):Ok P f (zis y C):=by
 intro args rs hr w h0 vs jK hw;unfold zis at hr;split at hr
 ·rename_i hc;rw[gG] at hc;cases ae.ok_o hr;unfold zn2 at hy;split at hy
  ·rename_i l hl;rw[gG]at hy;obtain⟨h1,h2⟩:=h _ _ hl w h0 vs (dG.eqk hc.2 (dG.up jK hc.1)) hw;refine⟨h1,h2.mono ?_⟩;rintro e w' ⟨h',v,he,hv,r⟩;exact⟨h',v,he,Jm (λvs jK=>dG.eqk hy.2 (dG.up jK hy.1)) hv,r⟩
  ·cases hy
 ·exact h _ _ hr w h0 vs jK hw
def Tabs.memo{δ ρ:Type}[dG δ][dG ρ](T:Tabs)(f:Nat)(y:δ×ρ):Tabs:=T.addF f (zis y ((gY T []).fn f))
theorem ax.memo{δ ρ:Type}[dG δ][dG ρ](h:ax P T){y:δ×ρ}(hy:zn2 ((gY T []).fn f) y=true):ax P (T.memo f y):=h.addF (zn3 ((h.all []).fn f) hy)
def Sl.of{α:Type}[Inhabited α](l:List α):Sl α:=⟨l.length,λi=>l.getD i default⟩
inductive Ent where
  | f (f:Nat) (x:Ext)
  | k (f e s b:Nat) (x:Ext)
  | m (f:Nat) (x:Ext)
  | r (f n:Nat) (x:Ext)
  | i (f:Nat) (x:Ext)
def Ent.fn:Ent→Nat
  | .f f _=>f
  | .k f _ _ _ _=>f
  | .m f _=>f
  | .r f _ _=>f
  | .i f _=>f
def zFi(P:Program)(N:Nat)(T:Tabs):Ent→Tabs
  | .f f x=>T.addF f (aF P N (gY (T.addN x.clo) x.vv) (bY P f [] x) f)
  | .k f e s b x=>T.addO f (.mkv e s b (aK P N (gY (T.addN x.clo) x.vv) (bY P f [] x) f e s b))
  | .m f x=>T.addM f λxs=>aM P N (gY (T.addN x.clo) x.vv) (bY P f (wQ 0 xs) x) f xs
  | .r f n x=>T.addM f (zwM P N T x f n)
  | .i f x=>T.addI f λcaps=>.opt (aI P (gY (T.addN x.clo) x.vv) N (bY P f [0] x) f caps)
def oC(P:Program)(N:Nat)(T:Tabs)(l:List Ent):Tabs:=l.foldl (zFi P N) T
def WF(P:Program)(f:Nat):Bool:=match P.funcs[f]? with
 | some fn => fn.body.isSome && !(fn.name == "runtime.NumGoroutine")
 | none=>false
theorem dL(h:WF P f=true):dD P f:=by
 unfold WF at h;split at h
 ·rename_i fn hf;rw[gG,NR]at h;exact⟨fn,hf,h.1,h.2⟩
 ·cases h
theorem zn4{N:Nat}(h:ax P T){e:Ent}(hc:WF P e.fn=true):ax P (zFi P N T e):=by
 cases e with
 | f f x=>exact h.addF (wz h.addN (dL hc))
 | k f e s b x=>exact h.addO (SN h.addN (dL hc))
 | m f x=>exact h.addM (Z8 h.addN (dL hc))
 | r f n x=>exact h.addM (WE h (dL hc) n)
 | i f x=>exact h.addI (LY h.addN (dL hc))
theorem eY {N : Nat} : ∀ {l : List Ent} {T : Tabs}, ax P T → (l.all fun e => WF P e.fn) = true → ax P (oC P N T l)
  | [],_,h,_=>h
  | e::l,_,h,hc=>by
    rw[qdS,gG]at hc;exact eY (l:=l) (zn4 h hc.1) hc.2
end
theorem zit{P:Program}{T:Tabs}{f:Nat}(h : @ax ⟨1⟩ P T)(hc:dD P f){N:Nat}{vv:List Nat}{aQ:dK} : @Ok ⟨1⟩ P f (aF P N (gY T vv) aQ f):=@wz ⟨1⟩ P T f h hc N vv aQ
end Go.Pm
namespace Go.Pm
section
variable(P:Program)(Γ:bU){A:Type}(N:Nat)
inductive zn5 where
  | n (n:Nat)
  | y (l:List (List PA))
  | o (i:Nat)
def atT(aQ:dK):Code→List Nat→List zn5→EK A→St→Option A
  | .seq a b,0::p,r,K=>atT aQ a p r (sqT P aQ (jM b) (yc P Γ N aQ b) K)
  | .seq _ b,_::p,r,K=>atT aQ b p r K
  | .cond _ a _,0::p,r,K=>atT aQ a p r K
  | .cond _ _ b,_::p,r,K=>atT aQ b p r K
  | .block id b,_::p,r,K=>atT aQ b p r (bkT id K)
  | .scope b,_::p,r,K=>atT aQ b p r (scT K)
  | .loop b,_::p,.n n::r,K=>match lk aQ.head (jM b)with
    | some k=>atT aQ b p r (lpK P k (lpT P k (yc P Γ N aQ b) K n) K)
    | none=>λ_=>none
  | .loop b,[],.n n::_,K=>match lk aQ.head (jM b)with
    | some k=>lpT P k (yc P Γ N aQ b) K n
    | none=>λ_=>none
  | .rangeFunc _ ps ah bd,_::p,.y l::r,K=>match lk aQ.head (Zj ah bd)with
    | some k=>atT aQ bd p r (rgK P k (og [G7] (eH ah++eH bd)) (rgT P k (og [G7] (eH ah++eH bd)) ps.toList (yc P Γ N aQ ah) (yc P Γ N aQ bd) K l) K)
    | none=>λ_=>none
  | .rangeFunc _ ps ah bd,[],.y l::_,K=>match lk aQ.head (Zj ah bd)with
    | some k=>rgT P k (og [G7] (eH ah++eH bd)) ps.toList (yc P Γ N aQ ah) (yc P Γ N aQ bd) K l
    | none=>λ_=>none
  | .region id ops draw,[],.o i::_,K=>opsT P Γ aQ.nt ops (Wx P aQ id ops draw (K .normal)) i (ops.toList.drop i)
  | c,[],_,K=>yc P Γ N aQ c K
  | _,_,_,_=>λ_=>none
def zn6(fin:St->Option (List PA))(K:List PA->Option A):EK A:=λe s=>match e with
 | .normal=>match fin s with|some r=>K r|none=>none
 | .ret=>match fin s with|some r=>K r|none=>none
 | _=>none
def iO{ρ:Type}[aJ][dG ρ](k:ρ->Option A)(l:List PA):Option A:=match dG.ck (α:=ρ) l with|true=>k (dG.dec l)|false=>none
def runT(aQ:dK)(f:FuncId)(K:List PA->Option A)(args:List PA):Option A :=
 match P.funcs[f]? with
 | some fn=>match fn.body with
  | some c=>match Nat.beq aQ.nt fn.ntmps&&Nat.ble args.length aQ.nt&&true with
   | true=>yc P Γ N aQ c (zn6 (λs=>kT P s fn.results.toList) K) ⟨jk 0 args,[],[]⟩
   | false=>none
  | none=>none
 | none=>none
def iP(aQ:dK)(f:FuncId)(p:List Nat)(r:List zn5)(K:List PA->Option A)(σ:St):Option A :=
 match P.funcs[f]? with
 | some fn=>match fn.body with
  | some c=>atT P Γ N aQ c p r (zn6 (λs=>kT P s fn.results.toList) K) σ
  | none=>none
 | none=>none
end
section
variable{P:Program}{Γ:bU}{A:Type}{N:Nat}
theorem runT_eq{aQ:dK}{f:FuncId}{K:List PA->Option A}{args:List PA}:(aF P N Γ aQ f args).T K=runT P Γ N aQ f K args:=by
 unfold aF WA runT;cases P.funcs[f]? with
 | none=>rfl
 | some fn =>
  simp only;cases fn.body with
  | none=>rfl
  | some c =>
   simp only;cases Nat.beq aQ.nt fn.ntmps&&Nat.ble args.length aQ.nt&&true with
   | false=>rfl
   | true =>
    simp only;rw[LW];show(vcC P Γ N aQ c _).T _=(vcC P Γ N aQ c _).T _;congr 1;funext r;obtain⟨e,s⟩:=r;cases e with
    | normal=>simp only[zn6,ae.opt];cases kT P s fn.results.toList<;>rfl
    | ret=>simp only[zn6,ae.opt];cases kT P s fn.results.toList<;>rfl
    | _=>rfl
theorem zP6 [aJ]{δ ρ:Type}[dG δ][dG ρ]{aQ:dK}{f:FuncId}{x:δ}{k:ρ->Option A}:(ae.ty (aF P N Γ aQ f) x:ae ρ).T k=runT P Γ N aQ f (iO k) (dG.enc x):=by
 rw[<- runT_eq];show(aF P N Γ aQ f (dG.enc x)).T _=_;congr 1
end
instance : bH Unit where
  enc _:=[]
  dec l:=((),l)
  ck l:=some l
  le:=by
    intro l r _ h;cases h;exact⟨[],rfl,rfl,trivial⟩
  inv:=by
    intro l m r h hc;cases hc;exact⟨m,rfl,h⟩
  sm _ _:=trivial
  eq _ _:=true
  eqk _:=trivial
structure dY (f : Nat) (α β : Type) where
  a:α
  v:β
theorem ziv{l m:List PV}(e:RL pR l m)(k:Nat)(x y:PV)(hx:l[k]? = some x)(hy:m[k]? = some y):pR x y:=by
 obtain⟨z,hz,r⟩:=RL.get e k x hx;rw[hy]at hz;cases hz;exact r
theorem ztL{h:Fz}{f:FuncId}{a b l m:List PV}{v:Value}(e0:RL pR a b)(e:RL pR l m)(r:Rep h (.fn f a l) v):Rep h (.fn f b m) v :=
 @Rep.up ⟨0⟩ _ _ _ (.fn f a b l m e0.length (ziv e0) e.length (ziv e)) _ r
theorem ztM{h:Fz}{f:FuncId}{a l:List PV}{v:Value}(r:Rep h (.fn f a l) v):RS a a/\RS l l:=by
 letI:aJ:=⟨0⟩;cases r with
 | fn _ _ _ fv cv h1 h2 hf hc =>
  refine⟨RL.of_get rfl λj a b ha hb=>?_,RL.of_get rfl λj a b ha hb=>?_⟩
  ·rw [ha]at hb;cases hb;obtain⟨w,hw⟩:=oP h1 ha;exact(hf j a w ha hw).un
  ·rw [ha]at hb;cases hb;obtain⟨w,hw⟩:=oP h2 ha;exact(hc j a w ha hw).un
instance {f : Nat} {α β : Type} [bH α] [bH β] : iT (dY f α β) where
  enc x:=.one (.fn f (bH.enc x.a) (bH.enc x.v))
  dec a:=match a with | .one (.fn _ k l)=>⟨(bH.dec k).1,(bH.dec l).1⟩|_=>⟨(bH.dec []).1,(bH.dec []).1⟩
  ck a:=match a with | .one (.fn g k l)=>Nat.beq g f&&(Pv (bH.ck (α:=α) k)&&Pv (bH.ck (α:=β) l))|_=>false
  up:=by
    intro h a v r hc
    match a,r,hc with
    | .one (.fn g k l),r,hc =>
      simp only[Bool.and_eq_true]at hc;have e:=Nat.eq_of_beq_eq_true hc.1;subst e;have r:Rep h (.fn g k l) v:=r;exact ztL (nZ (α:=α) (g:=λ_=>k) (λ_ _=>(ztM r).1) hc.2.1 0) (nZ (α:=β) (g:=λ_=>l) (λ_ _=>(ztM r).2) hc.2.2 0) r
  eq a b:=bH.eq a.a b.a&&bH.eq a.v b.v
  eqk:=by
    intro h a b v he r;rw[Bool.and_eq_true]at he;exact ztL (bH.eqk he.1) (bH.eqk he.2) r
instance {α β : Type} [iT α] [iT β] : iT (α ⊕ β) where
  enc x:=match x with | .inl x=>iT.enc x | .inr x=>iT.enc x
  dec a:=match iT.ck (α:=α) a with|true=>.inl (iT.dec a)|false=>.inr (iT.dec a)
  ck a:=iT.ck (α:=α) a||iT.ck (α:=β) a
  up:=by
    intro h a v r hc;cases hb:iT.ck (α:=α) a with
    | true=>exact iT.up r hb
    | false=>rw[hb]at hc;exact iT.up r hc
  eq a b:=match a,b with | .inl a,.inl b=>iT.eq a b | .inr a,.inr b=>iT.eq a b|_,_=>false
  eqk:=by
    intro h a b v he r
    match a,b,he with
    | .inl a,.inl b,he=>exact iT.eqk he r
    | .inr a,.inr b,he=>exact iT.eqk he r
/-! Functions that hand back nothing but an error, or a pointer. -/
section
variable{α β τ A:Type}
def zmz(r:α ⊕ β)(f:α->Option A)(g:β->Option A):Option A:=match r with
 | .inl a=>f a
 | .inr b=>g b
def ae.alt(r:α ⊕ β)(f:α->ae τ)(g:β->ae τ):ae τ:=⟨λk=>zmz r (λa=>(f a).T k) (λb=>(g b).T k),λk=>by
 cases r with
 | inl a=>exact(f a).nat k
 | inr b=>exact(g b).nat k⟩
variable [aJ]{δ ε ρ:Type}[dG δ][dG ε][dG ρ]
def ziw(k:ε ⊕ ρ→Option A):List PA→Option A
  | .one .nilp::r=>match dG.ck (α:=ε) r with|true=>k (.inl (dG.dec r))|false=>none
  | l=>match dG.ck (α:=ρ) l with|true=>k (.inr (dG.dec l))|false=>none
def zwN:List PA→ae (ε ⊕ ρ)
  | .one .nilp::r=>.chk (dG.ck (α:=ε) r) (.ok (.inl (dG.dec r)))
  | l=>.chk (dG.ck (α:=ρ) l) (.ok (.inr (dG.dec l)))
def ae.tyA(C:List PA->ae (List PA))(x:δ):ae (ε ⊕ ρ):=(C (dG.enc x)).bind zwN
def ae.unA(F:δ->ae (ε ⊕ ρ))(args:List PA):ae (List PA):=.chk (dG.ck (α:=δ) args) ((F (dG.dec args)).bind λr=>.alt r (λe=>.ok (.one .nilp::dG.enc e)) λp=>.ok (dG.enc p))
theorem zix{P:Program}{f:FuncId}{C:List PA->ae (List PA)}(h:Ok P f C):Ok P f (ae.unA (ae.tyA C:δ->ae (ε ⊕ ρ))):=by
 intro args rs hr w h0 vs jK hw;obtain⟨h1,h2⟩:=ae.chk_o hr;obtain⟨r,h3,h4⟩:=ae.bind_o h2;obtain⟨l,h5,h6⟩:=ae.bind_o h3;obtain⟨hc,h9⟩:=h _ _ h5 w h0 vs (dG.up jK h1) hw;have fin:∀(h':Fz)(v:Value),qK h' l v->qK h' rs v:=by
  intro h' v hv;unfold zwN at h6;split at h6
  ·obtain ⟨h7, h8⟩ := ae.chk_o h6;have h8:=ae.ok_o h8;subst h8;cases ae.ok_o h4;refine Jm (λ vs jK=>?_) hv
   match vs,jK with
   | v::vs,jK=>exact⟨jK.1,dG.up jK.2 h7⟩
   | [],jK=>exact jK.elim
  ·obtain⟨h7,h8⟩:=ae.chk_o h6;have h8:=ae.ok_o h8;subst h8;cases ae.ok_o h4;exact Jm (λvs jK=>dG.up jK h7) hv
 refine⟨hc,h9.mono ?_⟩;rintro e w' ⟨h',v,he,hv,r⟩;exact⟨h',v,he,fin h' v hv,r⟩
theorem ztN{P:Program}{Γ:bU}{N:Nat}{aQ:dK}{f:FuncId}{x:δ}{k:ε ⊕ ρ->Option A}:(ae.tyA (aF P N Γ aQ f) x:ae (ε ⊕ ρ)).T k=runT P Γ N aQ f (ziw k) (dG.enc x):=by
 rw[<- runT_eq];show(aF P N Γ aQ f (dG.enc x)).T _=_;congr 1;funext l;unfold zwN ziw;split
 ·cases dG.ck (α:=ε) _<;>rfl
 ·cases dG.ck (α:=ρ) l<;>rfl
end
/-! Iterators. -/
def ae.tyI [aJ]{δ ε:Type}[dG δ][dG ε](C:List PA->ae (List (List PA)))(x:δ):ae (List ε):=(C (dG.enc x)).bind λl=>.chk (l.all (dG.ck (α:=ε))) (.ok (l.map dG.dec))
def ae.unI [aJ]{δ ε:Type}[dG δ][dG ε](I:δ->ae (List ε))(caps:List PA):ae (List (List PA)):=.chk (dG.ck (α:=δ) caps) ((I (dG.dec caps)).mp (List.map dG.enc))
theorem SQ [aJ]{P:Program}{f:FuncId}{δ ε:Type}[dG δ][dG ε]{C:List PA->ae (List (List PA))}(h:Ac P f C):Ac P f (ae.unI (ae.tyI C:δ->ae (List ε))):=by
  intro caps ys hr l J Jx Rp w h0 vs sJ sX hy hj jK hw;obtain⟨h1,h2⟩:=ae.chk_o hr;obtain⟨r,h3,h4⟩:=ae.mp_o h2;obtain⟨ls,h5,h6⟩:=ae.bind_o h3;obtain⟨h7,h8⟩:=ae.chk_o h6;have h8:=ae.ok_o h8;subst h8 h4
  obtain ⟨hc, h9⟩ := h _ _ h5 l (fun ys h W => ys.all (dG.ck (α := ε)) = true ∧ J ((ys.map (dG.dec (α := ε))).map dG.enc) h W)
    (λys h W=>Jx ((ys.map (dG.dec (α:=ε))).map dG.enc) h W) Rp w h0 vs
    (λys h W h' W' a b c d e=>⟨a.1,sJ _ _ _ _ _ a.2 b c d e⟩) (λys h W h' W' a b c d e=>sX _ _ _ _ _ a b c d e)
    (λy rest h W us hJ hu hW n=>by
      obtain⟨hk,hJ⟩:=hJ;rw[qdS,gG]at hk;obtain⟨fn,tmps,ah,bd,e1,e2⟩:=hy _ _ _ _ _ hJ (dG.up hu hk.1) hW n;refine⟨fn,tmps,ah,bd,e1,e2.mono ?_⟩;rintro e W' (⟨h',a,b,c|c⟩|c)
      · exact .inl ⟨h',a,b,.inl ⟨c.1,hk.2,c.2⟩⟩
      · exact .inl ⟨h',a,b,.inr c⟩
      · exact .inr c)
    ⟨h7,hj⟩ (dG.up jK h1) hw
  refine⟨hc,h9.mono ?_⟩;rintro e W' (⟨v,h',a,b,c,d⟩|c)
  rotate_left
  · exact .inr c
  refine .inl ⟨v,h',a,b,c,?_⟩;rcases d with d|⟨rest,d⟩
  · exact .inl d.2
  · exact .inr ⟨_,d⟩
section
variable(P:Program)(Γ:bU)(N:Nat)
def atY(aQ:dK):Code→List Nat→List Nat→UB→Bool→St→YO
  | .seq a b,0::p,r,K=>atY aQ a p r (skY P aQ (jM b) (vH P Γ N aQ b) K)
  | .seq _ b,_::p,r,K=>atY aQ b p r K
  | .cond _ a _,0::p,r,K=>atY aQ a p r K
  | .cond _ _ b,_::p,r,K=>atY aQ b p r K
  | .block id b,_::p,r,K=>atY aQ b p r (bkY id K)
  | .scope b,_::p,r,K=>atY aQ b p r (zFa K)
  | .loop b,_::p,n::r,K=>match lk aQ.head (jM b)with
    | some k=>atY aQ b p r (lkY P k (zio P k (vH P Γ N aQ b) K n) K)
    | none=>λ_ _=>none
  | .loop b,[],n::_,K=>match lk aQ.head (jM b)with
    | some k=>zio P k (vH P Γ N aQ b) K n
    | none=>λ_ _=>none
  | c,[],_,K=>vH P Γ N aQ c K
  | _,_,_,_=>λ_ _=>none
def ptY(aQ:dK)(f:FuncId)(p r:List Nat)(σ:St):YO :=
 match P.funcs[f]? with
 | some fn=>match fn.body with
  | some c=>atY P Γ N aQ c p r ztI false σ
  | none=>none
 | none=>none
end
/-! Data in states. -/
def eP [aJ]{α:Type}[iT α](x:α):DV:=.one (I5 (iT.enc x))
def eB{α:Type}[bH α](t:Nat)(x:α):AO:=.box t ((bH.enc x).map .p)
def eV{α:Type}[bH α](e s b:Nat)(w:Sl α):AO:=.vec e s b w.len (λi=>bH.enc (w.get i))
/-! Slices that grow, of typed data. -/
abbrev aO(n:Int):Int:=IntKind.wrap .i64 n
def room(n b:Nat):Bool:=decide (n*b<=140737488355328/\n<=9223372036854775807)
section
variable{α:Type}[bH α]
def ziy(g:Nat->α)(r:Nat->List PV)(i:Nat):α:=(bH.dec (nzG (bH.enc (g 0)) r i)).1
def jL(n:Nat)(g h:Nat->α):Nat->α:=ziy g (appG n (λi=>bH.enc (g i)) λi=>bH.enc (h i))
def seG(i:Nat)(g:Nat->α)(x:α):Nat->α:=ziy g (yu i 0 (λi=>bH.enc (g i)) (bH.enc x))
def stG(i k:Nat)(g:Nat->α)(l:List PV):Nat->α:=ziy g (yu i k (λi=>bH.enc (g i)) l)
def GU(l:List α):Nat->α:=λi=>(bH.dec (nzG (AZ (l.map bH.enc) 0) (AZ (l.map bH.enc)) i)).1
def EM(g:Nat->α)(n i:Nat):α:=g (i+n)
def eW(te bb e s b:Nat)(w:Sl (Sl α)):AO:=.vv te bb e s b w.len (λi=>(w.get i).len) (λi j=>bH.enc ((w.get i).get j))
def upG(i:Nat)(v:Sl α)(g:Nat->Sl α):Nat->Sl α:=λj=>⟨mM i v.len (λj=>(g j).len) j,λq=>(bH.dec (zgT (bH.enc ((g 0).get 0)) (mM i (λq=>bH.enc (v.get q)) (λj q=>bH.enc ((g j).get q))) j q)).1⟩
class sQ (α : Type) [bH α] : Prop where
  de:∀x:α,(bH.dec (bH.enc x)).1=x
instance [Inhabited α][sQ α]:sQ (Sl α):=⟨λx=>by
 obtain⟨n,f⟩:=x;show(⟨n,λi=>(bH.dec (bH.enc (f i))).1⟩:Sl α)=⟨n,f⟩;congr 1;funext i;exact sQ.de (f i)⟩
variable [sQ α]
theorem UR{g:Nat->α}{r:Nat->List PV}{i:Nat}{x:α}(h:r i=bH.enc x):ziy g r i=x:=by
 unfold ziy nzG;rw[h,kK (pO 8) (bH.sm _ _),sQ.de]
theorem je(n:Nat)(g h:Nat->α)(i:Nat):jL n g h i=if n<=i then h (i-n)else g i:=by
 refine UR ?_;unfold appG;cases hb:Nat.ble n i with
 | true=>rw[eX (qd7 hb)]
 | false=>rw[fB λhh=>by rw[jqe hh]at hb;cases hb]
theorem zDC(i:Nat)(v:Sl α)(g:Nat->Sl α)(j:Nat):upG i v g j=if j=i then v else g j:=by
 unfold upG mM zgT;cases hb:Nat.beq j i with
 | true =>
  rw[eX (kL hb)];obtain⟨n,f⟩:=v;simp only[hb];congr 1;funext q;rw[kK (pO 8) (bH.sm _ _),sQ.de]
 | false =>
  rw[fB (qde hb)];simp only[hb];generalize g j=w;obtain⟨n,f⟩:=w;congr 1;funext q;rw[kK (pO 8) (bH.sm _ _),sQ.de]
theorem ziz{β:Type}:∀(l m:List β),l.length=m.length->spl l 0 m=m:=by
 have key:∀(m pre l:List β),l.length=m.length->spl (pre++l) pre.length m=pre++m:=by
  intro m
  induction m with
  | nil=>intro pre l h;cases l with
   | nil=>rfl
   | cons=>cases h
  | cons x m ih =>
   intro pre l h;cases l with
   | nil=>cases h
   | cons y l =>
    show spl ((pre++y::l).set pre.length x) (pre.length+1) m=_;have e:(pre++y::l).set pre.length x=(pre++[x])++l:=by simp
    rw[e];have:=ih (pre++[x]) l (by simpa using h);simp only[Jz,Cc,UJ,NV]at this;rw[this];simp
 intro l m h;exact key m [] l h
theorem zDD(i:Nat)(g:Nat->α)(x:α)(j:Nat):seG i g x j=if j=i then x else g j:=by
 refine UR ?_;unfold yu;cases hb:Nat.beq j i with
 | true=>rw[eX (kL hb)];exact ziz _ _ (bH.sm (g j) x).length
 | false=>rw[fB (qde hb)]
end
end Go.Pm
namespace Go.Pm
section
variable(P:Program)(Γ:bU){A ρ:Type}(N:Nat)
def zn7(fin:St->Option ρ)(K:ρ->Option A):EK A:=λe s=>match e with
 | .normal=>match fin s with|some r=>K r|none=>none
 | .ret=>match fin s with|some r=>K r|none=>none
 | _=>none
def zn8(aQ:dK)(f:FuncId)(n:Nat)(g:Code->Bool)(σ:St)(fin:Func->St->Option ρ)(K:ρ->Option A):Option A :=
 match P.funcs[f]? with
 | some fn=>match fn.body with
  | some c=>match Nat.beq aQ.nt fn.ntmps&&Nat.ble n aQ.nt&&g c with
   | true=>yc P Γ N aQ c (zn7 (fin fn) K) σ
   | false=>none
  | none=>none
 | none=>none
def ptG(aQ:dK)(f:FuncId)(p:List Nat)(r:List zn5)(fin:Func->St->Option ρ)(K:ρ->Option A)(σ:St):Option A :=
 match P.funcs[f]? with
 | some fn=>match fn.body with
  | some c=>atT P Γ N aQ c p r (zn7 (fin fn) K) σ
  | none=>none
 | none=>none
end
theorem zcl{P:Program}{Γ:bU}{A ρ:Type}{N:Nat}{aQ:dK}{f:FuncId}{n:Nat}{g:Code→Bool}{σ:St}{fin:Func→St→Option ρ}{K:ρ→Option A} :
  (WA P N Γ aQ f n g σ fin).T K=zn8 P Γ N aQ f n g σ fin K:=by
 unfold WA zn8;cases P.funcs[f]? with
 | none=>rfl
 | some fn =>
  simp only;cases fn.body with
  | none=>rfl
  | some c =>
   simp only;cases Nat.beq aQ.nt fn.ntmps&&Nat.ble n aQ.nt&&g c with
   | false=>rfl
   | true =>
    simp only;rw[LW];show(vcC P Γ N aQ c _).T _=(vcC P Γ N aQ c _).T _;congr 1;funext r;obtain⟨e,s⟩:=r;cases e with
    | normal=>simp only[zn7,ae.opt];cases fin fn s<;>rfl
    | ret=>simp only[zn7,ae.opt];cases fin fn s<;>rfl
    | _=>rfl
section
variable(P:Program)(Γ:bU){A ρ:Type}(N:Nat)
def zn9(fin:Exit->St->Option ρ)(K:ρ->Option A):EK A:=λe s=>match fin e s with|some r=>K r|none=>none
def zwO(aQ:dK)(f:FuncId)(n:Nat)(g:Code->Bool)(σ:St)(fin:Func->Exit->St->Option ρ)(K:ρ->Option A):Option A :=
 match P.funcs[f]? with
 | some fn=>match fn.body with
  | some c=>match Nat.beq aQ.nt fn.ntmps&&Nat.ble n aQ.nt&&g c with
   | true=>yc P Γ N aQ c (zn9 (fin fn) K) σ
   | false=>none
  | none=>none
 | none=>none
def ptM(aQ:dK)(f:FuncId)(p:List Nat)(r:List zn5)(fin:Func->Exit->St->Option ρ)(K:ρ->Option A)(σ:St):Option A :=
 match P.funcs[f]? with
 | some fn=>match fn.body with
  | some c=>atT P Γ N aQ c p r (zn9 (fin fn) K) σ
  | none=>none
 | none=>none
end
theorem zoa{P:Program}{Γ:bU}{A ρ:Type}{N:Nat}{aQ:dK}{f:FuncId}{n:Nat}{g:Code→Bool}{σ:St}{fin:Func→Exit→St→Option ρ}{K:ρ→Option A} :
  (ziq P N Γ aQ f n g σ fin).T K=zwO P Γ N aQ f n g σ fin K:=by
 unfold ziq zwO;cases P.funcs[f]? with
 | none=>rfl
 | some fn =>
  simp only;cases fn.body with
  | none=>rfl
  | some c =>
   simp only;cases Nat.beq aQ.nt fn.ntmps&&Nat.ble n aQ.nt&&g c with
   | false=>rfl
   | true =>
    simp only;rw[LW];show(vcC P Γ N aQ c _).T _=(vcC P Γ N aQ c _).T _;congr 1;funext r;obtain⟨e,s⟩:=r;show(ae.opt (fin fn e s)).T K=zn9 (fin fn) K e s;unfold zn9;cases fin fn e s<;>rfl
/-! A slice of one's own. -/
variable [aJ]
theorem Ai.up{h:Fz}{w:World}{base e s n:Nat}{v:Value}{g g':Nat->List PV}(hg:∀i,RL pR (g i) (g' i))(H:Ai h w base e s v n g):Ai h w base e s v n g':=by
 obtain⟨xs,h1,h2⟩:=H;exact⟨xs,h1,λi hi=>Be (hg i) (h2 i hi)⟩
section
variable{δ α β A:Type}[dG δ][bH α][bH β]
abbrev VR:=Nat×(Nat->List PV)×List PV
def vrC(r:VR):Bool:=Pv (bH.ck (α:=β) r.2.2)&&Pv (bH.ck (α:=α) (r.2.1 0))
def vrD(r:VR):Sl α×β:=(⟨r.1,λi=>(bH.dec (r.2.1 i)).1⟩,(bH.dec r.2.2).1)
def ae.tyV(C:List PA->ae VR)(x:δ):ae (Sl α×β):=(C (dG.enc x)).bind λr=>.chk (vrC (α:=α) (β:=β) r) (.ok (vrD r))
def ae.unV(F:δ->ae (Sl α×β))(args:List PA):ae VR:=.chk (dG.ck (α:=δ) args) ((F (dG.dec args)).mp λw=>(w.1.len,λi=>bH.enc (w.1.get i),bH.enc w.2))
theorem ziA{v:Value}{xs:List Value}{rs QH:List PV}(h:rs.length=QH.length):U7 v xs rs=U7 v xs QH:=by
 cases rs with
 | nil=>cases QH with
  | nil=>rfl
  | cons=>cases h
 | cons=>cases QH with
  | nil=>cases h
  | cons=>rfl
theorem Z9{P:Program}{f:FuncId}{e s b:Nat}{C:List PA->ae VR}(h:gz P f (.mkv e s b C)):gz P f (.mkv e s b (ae.unV (ae.tyV C:δ->ae (Sl α×β)))):=by
 intro w hz az vs n get rs hr ha hw;obtain⟨h1,h2⟩:=ae.chk_o hr;obtain⟨w',h3,h4⟩:=ae.mp_o h2;obtain⟨⟨n',g',QH⟩,h5,h6⟩:=ae.bind_o h3;obtain⟨h7,h8⟩:=ae.chk_o h6;have h8:=ae.ok_o h8;subst h8;cases h4;have h7:(Pv (bH.ck (α:=β) QH)&&Pv (bH.ck (α:=α) (g' 0)))=true:=h7;rw[gG]at h7;obtain⟨hc,hk⟩:=h w hz _ vs _ _ _ h5 (dG.up ha h1) hw;refine⟨hc,hk.mono ?_⟩;rintro r w2 ⟨h',v',xs,a1,a2,a3,a4,a5,a6⟩;have e:RL pR QH (bH.enc (bH.dec (α:=β) QH).1):=nZ (α:=β) (g:=λ_=>QH) (λ_ _=>yJ a2) h7.1 0;exact⟨h',v',xs,by rw[a1];exact jX _ (ziA e.length),Be e a2,a3,λ_ _=>bH.sm _ _,a5.up (nZ a4 h7.2),a6⟩
def zaa(k:Sl α×β->Option A)(r:VR):Option A:=match vrC (α:=α) (β:=β) r with|true=>k (vrD r)|false=>none
abbrev zab(e s b:Nat)(fn:Func)(σ:St):Option VR:=WB fn e s b σ
theorem ziB{P:Program}{Γ:bU}{N:Nat}{aQ:dK}{f:FuncId}{e s b:Nat}{x:δ}{k:Sl α×β→Option A} :
  (ae.tyV (aK P N Γ aQ f e s b) x).T k=zn8 P Γ N aQ f (dG.enc x).length (λ_=>true) ⟨jk 0 (dG.enc x),[],[]⟩ (zab e s b) (zaa k):=by
 rw[<- zcl];show(aK P N Γ aQ f e s b (dG.enc x)).T _=_;rfl
end
/-! What is given to be changed, as typed data. -/
class XaC (α : Type) (ε : outParam Type) where
  enc:α->XA
  dec:XA->α
  ck:XA->Bool
  up:∀ [dF] {P:Program} {h:Fz} {w:World} {B:Nat} {x:XA} {v:Value},zH P h w B x v->ck x=true->zH P h w B (enc (dec x)) v/\U8 w (enc (dec x)) v=U8 w x v
  put:α->ε->XA
  out:XA->ε
  cko:α->XA->Bool
  outk:∀ [dF] {P:Program} {h h':Fz} {w w':World} {B:Nat} {a:α} {y:XA} {v:Value},zH P h w B (enc a) v->(∀p x,Rep h p x->Rep h' p x)->zH P h' w' B y v->cko a y=true ->
    zH P h' w' B (put a (out y)) v/\U8 w' (put a (out y)) v=U8 w' y v
class tX (δ : Type) (ε : outParam Type) where
  enc:δ->List XA
  dec:List XA->δ
  ck:List XA->Bool
  up:∀ [dF] {P:Program} {h:Fz} {w:World} {B:Nat} {xs:List XA} {vs:List Value},RL (zH P h w B) xs vs->ck xs=true->RL (zH P h w B) (enc (dec xs)) vs/\nP w (enc (dec xs)) vs=nP w xs vs
  put:δ->ε->List XA
  out:List XA->ε
  cko:δ->List XA->Bool
  outk:∀ [dF] {P:Program} {h h':Fz} {w w':World} {B:Nat} {a:δ} {ys:List XA} {vs:List Value},RL (zH P h w B) (enc a) vs->(∀p x,Rep h p x->Rep h' p x)->RL (zH P h' w' B) ys vs->cko a ys=true ->
    RL (zH P h' w' B) (put a (out ys)) vs/\nP w' (put a (out ys)) vs=nP w' ys vs
instance : tX Unit Unit where
  enc _:=[]
  dec _:=()
  ck l:=l.isEmpty
  up:=by
    intro _ P h w B xs vs r hc;cases xs with
    | nil=>exact⟨r,rfl⟩
    | cons=>cases hc
  put _ _:=[]
  out _:=()
  cko _ l:=l.isEmpty
  outk:=by
    intro _ P h h' w w' B a ys vs _ _ r hc;cases ys with
    | nil=>exact⟨r,rfl⟩
    | cons=>cases hc
instance {α ε δ ζ : Type} [XaC α ε] [tX δ ζ] : tX (α × δ) (ε × ζ) where
  enc x:=XaC.enc x.1::tX.enc x.2
  dec l:=(XaC.dec (l.headD (.d (.agg []))),tX.dec l.tail)
  ck l:=match l with|x::r=>XaC.ck (α:=α) x&&tX.ck (δ:=δ) r|[]=>false
  up:=by
    intro _ P h w B xs vs r hc
    match xs,vs,r,hc with
    | x::xs,v::vs,r,hc =>
      rw[Bool.and_eq_true]at hc;obtain⟨a1,a2⟩:=XaC.up r.1 hc.1;obtain⟨b1,b2⟩:=tX.up r.2 hc.2;refine⟨⟨a1,b1⟩,?_⟩;show _++_=_++_;exact congr (congrArg _ a2) b2
  put x o:=XaC.put x.1 o.1::tX.put x.2 o.2
  out l:=(XaC.out α (l.headD (.d (.agg []))),tX.out δ l.tail)
  cko a l:=match l with|x::r=>XaC.cko a.1 x&&tX.cko a.2 r|[]=>false
  outk:=by
    intro _ P h h' w w' B a ys vs ra hle r hc
    match ys,vs,ra,r,hc with
    | y::ys,v::vs,ra,r,hc =>
      rw[Bool.and_eq_true]at hc;obtain⟨a1,a2⟩:=XaC.outk ra.1 hle r.1 hc.1;obtain⟨b1,b2⟩:=tX.outk ra.2 hle r.2 hc.2;refine⟨⟨a1,b1⟩,?_⟩;show _++_=_++_;exact congr (congrArg _ a2) b2
instance {α : Type} [iT α] : XaC α Unit where
  enc x:=.d (iT.enc x)
  dec x:=match x with | .d a=>iT.dec a|_=>iT.dec (.agg [])
  ck x:=match x with | .d a=>iT.ck (α:=α) a|_=>false
  up:=by
    intro _ P h w B x v r hc
    match x,r,hc with
    | .d a,r,hc=>exact⟨iT.up r hc,rfl⟩
  put x _:=.d (iT.enc x)
  out _:=()
  cko _ y:=match y with | .d _=>true|_=>false
  outk:=by
    intro _ P h h' w w' B a y v ra hle r hc
    match y,r,hc with
    | .d b,r,hc=>exact⟨zb8 hle ra,rfl⟩
structure Bc (ty : Nat) (α : Type) where
  v:α
def xcP:List XC→Option (List PV)
  | []=>some []
  | .p v::r=>match xcP r with|some l=>some (v::l)|none=>none
  | _::_=>none
theorem ziD:∀{cs:List XC}{l:List PV},xcP cs=some l->cs=l.map .p:=by
 intro cs
 induction cs with
 | nil=>intro l h;cases h;rfl
 | cons c cs ih =>
  intro l h;cases c with
  | p v =>
   unfold xcP at h;split at h
   ·rename_i l' e;cases h;rw[ih e];rfl
   ·cases h
  | _=>cases h
theorem zcn [dF]{P:Program}{h:Fz}{w:World}{B:Nat}:∀{l:List PV}{vs:List Value},RL (xcR P h w B) (l.map XC.p) vs↔RL (Rep h) l vs:=by
 intro l
 induction l with
 | nil=>intro vs;cases vs<;>exact UX
 | cons x l ih=>intro vs;cases vs with
  | nil=>exact UX
  | cons v vs=>exact and_congr UX ih
theorem ziE:∀{l:List PV}{vs:List Value},uZ (l.map XC.p) vs=[]:=by
 intro l
 induction l with
 | nil=>intro vs;cases vs<;>rfl
 | cons x l ih=>intro vs;cases vs with
  | nil=>rfl
  | cons v vs=>exact ih
theorem ziF{w:World}{ty YX:Nat}{cs ds:List XC}{v:Value}(h:∀vs,uZ cs vs=uZ ds vs):U8 w (.box ty cs) v=U8 w (.box YX ds) v:=by
 cases v with
 | pointer a=>cases a with
  | none=>rfl
  | some a =>
   show a.block::_=a.block::_;congr 1;cases w.heap[a.block]? with
   | none=>rfl
   | some o=>cases o with
    | cells C t l=>exact h C.toList
    | _=>rfl
 | _=>rfl
theorem ztQ{w:World}{ty:Nat}{l m:List PV}{v:Value}:U8 w (.box ty (l.map .p)) v=U8 w (.box ty (m.map .p)) v:=ziF λ_=>by rw[ziE,ziE]
instance {ty : Nat} {α : Type} [bH α] : XaC (Bc ty α) α where
  enc x:=.box ty ((bH.enc x.v).map .p)
  dec x:=match x with | .box _ cs=>⟨(bH.dec ((xcP cs).getD [])).1⟩|_=>⟨(bH.dec []).1⟩
  ck x:=match x with | .box t cs=>Nat.beq t ty&&(match xcP cs with|some l=>Pv (bH.ck (α:=α) l)|none=>false)|_=>false
  up:=by
    intro _ P h w B x v r hc
    match x,r,hc with
    | .box t cs,r,hc =>
      rw[Bool.and_eq_true]at hc;cases Nat.eq_of_beq_eq_true hc.1;cases e:xcP cs with
      | none=>rw[e]at hc;cases hc.2
      | some l =>
        rw[e]at hc;have e2:=ziD e;subst e2;obtain⟨k,C,h1,h2,h3⟩:=r;have h3:=zcn.1 h3;have h4:RL pR l (bH.enc (bH.dec (α:=α) l).1):=nZ (α:=α) (g:=λ_=>l) (λ_ _=>yJ h3) hc.2 0;refine⟨⟨k,C,h1,h2,?_⟩,?_⟩
        · show RL _ ((bH.enc (bH.dec (α:=α) ((xcP (l.map XC.p)).getD [])).1).map XC.p) _;rw[e];exact zcn.2 (Be h4 h3)
        · exact ztQ
  put _ o:=.box ty ((bH.enc o).map .p)
  out x:=match x with | .box _ cs=>(bH.dec ((xcP cs).getD [])).1|_=>(bH.dec []).1
  cko _ x:=match x with | .box t cs=>Nat.beq t ty&&(match xcP cs with|some l=>Pv (bH.ck (α:=α) l)|none=>false)|_=>false
  outk:=by
    intro _ P h h' w w' B a y v ra hle r hc
    match y,r,hc with
    | .box t cs,r,hc =>
      rw[Bool.and_eq_true]at hc;cases Nat.eq_of_beq_eq_true hc.1;cases e:xcP cs with
      | none=>rw[e]at hc;cases hc.2
      | some l =>
        rw[e]at hc;have e2:=ziD e;subst e2;obtain⟨k,C,h1,h2,h3⟩:=r;have h3:=zcn.1 h3;have h4:RL pR l (bH.enc (bH.dec (α:=α) l).1):=nZ (α:=α) (g:=λ_=>l) (λ_ _=>yJ h3) hc.2 0;refine⟨⟨k,C,h1,h2,?_⟩,?_⟩
        · show RL _ ((bH.enc (bH.dec (α:=α) ((xcP (l.map XC.p)).getD [])).1).map XC.p) _;rw[e];exact zcn.2 (Be h4 h3)
        · exact ztQ
structure Bw (ty e s b : Nat) (α : Type) where
  v:Sl α
def bwE{α:Type}[bH α](ty e s b:Nat)(w:Sl α):XA:=.box ty [.vec e s b w.len λi=>bH.enc (w.get i)]
theorem ztR [dF]{P:Program}{h:Fz}{w:World}{B ty e s b n:Nat}{v:Value}{g g':Nat->List PV}(hg:∀i,RL pR (g i) (g' i))(hu:ut g')(r:zH P h w B (.box ty [.vec e s b n g]) v):zH P h w B (.box ty [.vec e s b n g']) v:=by
 obtain⟨k,C,h1,h2,h3⟩:=r;refine⟨k,C,h1,h2,?_⟩
 match C.toList,h3 with
 | [x],h3 =>
  obtain⟨⟨a1,a2,a3,a4⟩,_⟩:=h3;exact⟨⟨a1,⟨hu,a2.2⟩,a3,a4.up hg⟩,trivial⟩
theorem ziG [dF]{P:Program}{h:Fz}{w:World}{B ty e s b n:Nat}{v:Value}{g:Nat->List PV}(r:zH P h w B (.box ty [.vec e s b n g]) v):ut g:=by
 obtain⟨k,C,h1,h2,h3⟩:=r
 match C.toList,h3 with
 | [x],h3=>exact h3.1.2.1.1
instance {ty e s b : Nat} {α : Type} [Inhabited α] [bH α] : XaC (Bw ty e s b α) (Sl α) where
  enc x:=bwE ty e s b x.v
  dec x:=match x with | .box _ [.vec _ _ _ n g]=>⟨⟨n,λi=>(bH.dec (g i)).1⟩⟩|_=>⟨⟨0,λ_=>default⟩⟩
  ck x:=match x with | .box t [.vec e' s' b' _ g]=>Nat.beq t ty&&(Nat.beq e' e&&(Nat.beq s' s&&(Nat.beq b' b&&Pv (bH.ck (α:=α) (g 0)))))|_=>false
  up:=by
    intro _ P h w B x v r hc
    match x,r,hc with
    | .box t [.vec e' s' b' n g],r,hc =>
      simp only[Bool.and_eq_true]at hc;cases Nat.eq_of_beq_eq_true hc.1;cases Nat.eq_of_beq_eq_true hc.2.1;cases Nat.eq_of_beq_eq_true hc.2.2.1;cases Nat.eq_of_beq_eq_true hc.2.2.2.1;exact⟨ztR (nZ (ziG r) hc.2.2.2.2) (λ_ _=>bH.sm _ _) r,ziF λvs=>by cases vs<;>rfl⟩
  put _ w:=bwE ty e s b w
  out x:=match x with | .box _ [.vec _ _ _ n g]=>⟨n,λi=>(bH.dec (g i)).1⟩|_=>⟨0,λ_=>default⟩
  cko _ x:=match x with | .box t [.vec e' s' b' _ g]=>Nat.beq t ty&&(Nat.beq e' e&&(Nat.beq s' s&&(Nat.beq b' b&&Pv (bH.ck (α:=α) (g 0)))))|_=>false
  outk:=by
    intro _ P h h' w w' B a y v ra hle r hc
    match y,r,hc with
    | .box t [.vec e' s' b' n g],r,hc =>
      simp only[Bool.and_eq_true]at hc;cases Nat.eq_of_beq_eq_true hc.1;cases Nat.eq_of_beq_eq_true hc.2.1;cases Nat.eq_of_beq_eq_true hc.2.2.1;cases Nat.eq_of_beq_eq_true hc.2.2.2.1;exact⟨ztR (nZ (ziG r) hc.2.2.2.2) (λ_ _=>bH.sm _ _) r,ziF λvs=>by cases vs<;>rfl⟩
structure Bs(ty f np n:Nat) where
instance {ty f np n : Nat} : XaC (Bs ty f np n) Unit where
  enc _:=.box ty [.slf f np n]
  dec _:={}
  ck x:=match x with | .box t [.slf f' np' n']=>Nat.beq t ty&&(Nat.beq f' f&&(Nat.beq np' np&&Nat.beq n' n))|_=>false
  up:=by
    intro _ P h w B x v r hc
    match x,r,hc with
    | .box t [.slf f' np' n'],r,hc =>
      simp only[Bool.and_eq_true]at hc;cases Nat.eq_of_beq_eq_true hc.1;cases Nat.eq_of_beq_eq_true hc.2.1;cases Nat.eq_of_beq_eq_true hc.2.2.1;cases Nat.eq_of_beq_eq_true hc.2.2.2;exact⟨r,rfl⟩
  put _ _:=.box ty [.slf f np n]
  out _:=()
  cko _ x:=match x with | .box t [.slf f' np' n']=>Nat.beq t ty&&(Nat.beq f' f&&(Nat.beq np' np&&Nat.beq n' n))|_=>false
  outk:=by
    intro _ P h h' w w' B a y v ra hle r hc
    match y,r,hc with
    | .box t [.slf f' np' n'],r,hc =>
      simp only[Bool.and_eq_true]at hc;cases Nat.eq_of_beq_eq_true hc.1;cases Nat.eq_of_beq_eq_true hc.2.1;cases Nat.eq_of_beq_eq_true hc.2.2.1;cases Nat.eq_of_beq_eq_true hc.2.2.2;exact⟨r,rfl⟩
structure Bm (ty kt vt : Nat) (q : MQ) where
  n:Nat
  F:List Int->Option (List Int)
instance {ty kt vt : Nat} {q : MQ} [DecidableEq MQ] : XaC (Bm ty kt vt q) (Nat × (List Int → Option (List Int))) where
  enc x:=.box ty [.mo kt vt q x.n x.F]
  dec x:=match x with | .box _ [.mo _ _ _ n F]=>⟨n,F⟩|_=>⟨0,λ_=>none⟩
  ck x:=match x with | .box t [.mo k' v' q' _ _]=>Nat.beq t ty&&(Nat.beq k' kt&&(Nat.beq v' vt&&decide (q'=q)))|_=>false
  up:=by
    intro _ P h w B x v r hc
    match x,r,hc with
    | .box t [.mo k' v' q' n F],r,hc =>
      simp only[Bool.and_eq_true]at hc;cases Nat.eq_of_beq_eq_true hc.1;cases Nat.eq_of_beq_eq_true hc.2.1;cases Nat.eq_of_beq_eq_true hc.2.2.1;cases of_decide_eq_true hc.2.2.2;exact⟨r,rfl⟩
  put _ o:=.box ty [.mo kt vt q o.1 o.2]
  out x:=match x with | .box _ [.mo _ _ _ n F]=>(n,F)|_=>(0,λ_=>none)
  cko _ x:=match x with | .box t [.mo k' v' q' _ _]=>Nat.beq t ty&&(Nat.beq k' kt&&(Nat.beq v' vt&&decide (q'=q)))|_=>false
  outk:=by
    intro _ P h h' w w' B a y v ra hle r hc
    match y,r,hc with
    | .box t [.mo k' v' q' n F],r,hc =>
      simp only[Bool.and_eq_true]at hc;cases Nat.eq_of_beq_eq_true hc.1;cases Nat.eq_of_beq_eq_true hc.2.1;cases Nat.eq_of_beq_eq_true hc.2.2.1;cases of_decide_eq_true hc.2.2.2;exact⟨r,rfl⟩
class NpC (ρ : Type) [dG ρ] : Prop where
  np:∀{l:List PA},dG.ck (α:=ρ) l=true->Fh l=none/\Fh (dG.enc (dG.dec l:ρ))=none
instance:NpC Unit:=⟨fun {l} h=>by cases l with|nil=>exact⟨rfl,rfl⟩|cons=>cases h⟩
instance:NpC Int:=⟨fun {l} h=>by
 match l,h with
 | [.one v],h=>cases v with
  | int k x=>cases k<;>first|exact⟨rfl,rfl⟩|cases h
  | _=>cases h
 | [.agg _],h=>cases h
 | [],h=>cases h
 | _::_::_,h=>cases h⟩
section
variable{δ ε ρ A:Type}[tX δ ε][dG ρ][NpC ρ]
end
/-! A function without results that may panic. -/
section
variable{δ ε A:Type}[tX δ ε]{ty:Nat}
def pnD(ty:Nat):List PA→Option (Bool×Int)
  | []=>some (false,0)
  | [.one (.fna f [.int .i64 t,.int .i64 n])]=>match Nat.beq f 4294967295&&decide (t=ty)with|true=>some (true,n)|false=>none
  | _=>none
theorem zwP{l:List PA}{q:Bool×Int}(h:pnD ty l=some q):l=cond q.1 (zv6 ty .i64 q.2) []:=by
 unfold pnD at h;split at h
 ·cases h;rfl
 ·split at h
  ·rename_i f t n hc;cases h;rw[gG]at hc;cases kL hc.1;rw[dqS hc.2];rfl
  ·cases h
 ·cases h
def ae.tyP(ty:Nat)(C:MK)(x:δ):ae ((Bool×Int)×ε):=(C (tX.enc x)).bind λr=>match pnD ty r.1 with
 | some q=>.chk (tX.cko x r.2) (.ok (q,tX.out δ r.2))
 | none=>.no
def ae.unP(ty:Nat)(F:δ->ae ((Bool×Int)×ε)):MK:=λxs=>.chk (tX.ck (δ:=δ) xs) ((F (tX.dec xs)).bind λr=>.ite r.1.1 (.ok (zv6 ty .i64 r.1.2,tX.put (tX.dec xs:δ) r.2)) (.ok ([],tX.put (tX.dec xs:δ) r.2)))
theorem zwQ{P:Program}{f:FuncId}{C:MK}(H:rJ P f C):rJ P f (ae.unP ty (ae.tyP ty C:δ->ae ((Bool×Int)×ε))):=by
 intro _ xs ys rs hr w h base vs hv hs hn hb hw jO;obtain⟨h1,h2⟩:=ae.chk_o hr;obtain⟨⟨q,o⟩,h3,h4⟩:=ae.bind_o h2;obtain⟨⟨QH,qp⟩,h5,h6⟩:=ae.bind_o h3;simp only at h6;split at h6
 rotate_left
 ·exact(ae.no_o h6).elim
 rename_i q' hq;obtain⟨h7,h8⟩:=ae.chk_o h6;cases ae.ok_o h8;have h4:rs=QH/\ys=tX.put (tX.dec xs:δ) (tX.out δ qp):=by
  have e:=zwP hq;obtain⟨b,n⟩:=q;cases b with
  | true=>cases ae.ok_o h4;exact⟨e.symm,rfl⟩
  | false=>cases ae.ok_o h4;exact⟨e.symm,rfl⟩
 obtain⟨rfl,rfl⟩:=h4;obtain⟨u1,u2⟩:=tX.up hv h1;have:=H _ _ _ h5 w h base vs u1 hs (by rw[u2];exact hn) (by rw[u2];exact hb) hw jO;refine⟨this.1,this.2.mono ?_⟩;rintro e w' ⟨h',a2,a3,a4,a5,a6,a7,a8,a9⟩;rw[u2]at a5 a8 a9;obtain⟨b1,b2⟩:=tX.outk u1 (λ_ _ r=>Rep.mono a6 r) a3 h7;refine⟨h',a2,b1,?_,?_,a6,a7,a8,a9⟩
 ·show(nP w' (tX.put _ _) vs).Nodup;rw[b2];exact a4
 ·show ∀b∈nP w' (tX.put _ _) vs,_;rw[b2];exact a5
def zob(ty:Nat)(x:δ)(k:(Bool×Int)×ε->Option A)(r:List PA×List XA):Option A:=match pnD ty r.1 with
 | some q=>match tX.cko x r.2 with|true=>k (q,tX.out δ r.2)|false=>none
 | none=>none
theorem zFj{P:Program}{Γ:bU}{N:Nat}{aQ:dK}{f:FuncId}{x:δ}{k:(Bool×Int)×ε→Option A} :
    (ae.tyP ty (fun xs => aM P N Γ aQ f xs) x).T k = zwO P Γ N aQ f (tX.enc x).length (fun c => mO ((iV 0 (tX.enc x)).map (·.1)) && zk (wQ 0 (tX.enc x)) (tX.enc x) && og (wQ 0 (tX.enc x)) (eH c))
      ⟨LM 0 (tX.enc x),iV 0 (tX.enc x),[]⟩ (zwL P (tX.enc x)) (zob ty x k):=by
  rw[<- zoa];show(aM P N Γ aQ f (tX.enc x)).T _=(aM P N Γ aQ f (tX.enc x)).T _;congr 1;funext r;show ae.T (match pnD ty r.1 with|some q=>.chk (tX.cko x r.2) (.ok (q,tX.out δ r.2))|none=>.no) k=zob ty x k r;unfold zob;cases pnD ty r.1<;>rfl
end
/-! One function for two closures. -/
section
variable{α β γ ρ:Type}[iT α][iT β][iT γ][dG ρ]
def ae.two(F:α×β->ae ρ)(G:α×γ->ae ρ)(x:α×(β ⊕ γ)):ae ρ:=match x.2 with | .inl b=>F (x.1,b) | .inr c=>G (x.1,c)
theorem ziH{args:List PA}(h:dG.ck (α:=α×(β ⊕ γ)) args=true):(dG.ck (α:=α×β) args=true/\(dG.dec args:α×(β ⊕ γ))=((dG.dec args:α×β).1,.inl (dG.dec args:α×β).2))\/dG.ck (α:=α×γ) args=true/\(dG.dec args:α×(β ⊕ γ))=((dG.dec args:α×γ).1,.inr (dG.dec args:α×γ).2):=by
 match args,h with
 | [a,b],h =>
  have h:(iT.ck (α:=α) a&&iT.ck (α:=β ⊕ γ) b)=true:=h;rw[gG]at h;have h2:(iT.ck (α:=β) b||iT.ck (α:=γ) b)=true:=h.2;cases hb:iT.ck (α:=β) b with
  | true =>
   refine .inl ⟨gG _ _▸⟨h.1,hb⟩,?_⟩;show(iT.dec a,(match iT.ck (α:=β) b with|true=>Sum.inl (iT.dec b)|false=>Sum.inr (iT.dec b):β ⊕ γ))=_;rw[hb];rfl
  | false =>
   rw[hb]at h2;refine .inr ⟨gG _ _▸⟨h.1,h2⟩,?_⟩;show(iT.dec a,(match iT.ck (α:=β) b with|true=>Sum.inl (iT.dec b)|false=>Sum.inr (iT.dec b):β ⊕ γ))=_;rw[hb];rfl
 | [a],h=>have h:(iT.ck (α:=α) a&&false)=true:=h;rw[qds]at h;cases h
 | a::b::c::r,h=>have h:(iT.ck (α:=α) a&&false)=true:=h;rw[qds]at h;cases h
theorem zwR{F:α×β->ae ρ}{G:α×γ->ae ρ}{args:List PA}{rs:List PA}(hr:(ae.un (ae.two F G) args).o=some rs):(ae.un F args).o=some rs\/(ae.un G args).o=some rs:=by
 obtain⟨h1,h2⟩:=ae.chk_o hr;rcases ziH h1 with⟨a,b⟩|⟨a,b⟩
 ·rw[b]at h2;left;unfold ae.un;rw[a];exact h2
 ·rw[b]at h2;right;unfold ae.un;rw[a];exact h2
theorem wV{P:Program}{f:FuncId}{F:α×β->ae ρ}{G:α×γ->ae ρ}(h1:Ok P f (ae.un F))(h2:Ok P f (ae.un G)):Ok P f (ae.un (ae.two F G)):=by
 intro args rs hr;rcases zwR hr with h|h
 ·exact h1 args rs h
 ·exact h2 args rs h
theorem zoc{τ υ:Type}[bH τ][bH υ]{P:Program}{f:FuncId}{e s b:Nat}{F:α×β->ae (Sl τ×υ)}{G:α×γ->ae (Sl τ×υ)}(h1:gz P f (.mkv e s b (ae.unV F)))(h2:gz P f (.mkv e s b (ae.unV G))):gz P f (.mkv e s b (ae.unV (ae.two F G))):=by
 intro w hz az vs n get rs hr;obtain⟨a1,a2⟩:=ae.chk_o hr;rcases ziH a1 with⟨a,b⟩|⟨a,b⟩
 ·rw[b]at a2;exact h1 w hz az vs n get rs (by unfold ae.unV;rw[a];exact a2)
 ·rw[b]at a2;exact h2 w hz az vs n get rs (by unfold ae.unV;rw[a];exact a2)
end
/-! Sorts of typed data. -/
section
variable{α:Type}[bH α]
def uG(w:Sl α)(i:Nat):List PV:=bH.enc (w.get i)
def soP(C:List PA->ae (List PA))(caps:List PV)(ag:Bool)(w:Sl α):Bool:=(zv3 w.len (λi j=>(JK C caps ag (uG w) i j).isSome) (nY C caps ag (uG w))).b
def soG(C:List PA->ae (List PA))(caps:List PV)(ag:Bool)(w:Sl α):Nat->α:=λi=>(bH.dec (JL w.len (nY C caps ag (uG w)) (uG w) i)).1
end
end Go.Pm
namespace Go.Pm
variable [aJ]
open Go.RowKit (Below)
structure qO where
  t1:Nat
  y1:TypeId
  t2:Nat
  y2:TypeId
  e:Bool
  ty:TypeId
def qO.ok(pr:qO):List PanicEntry→Bool
  | [⟨.iface ty (.agg ⟨[.int _ _]⟩),false,false⟩]=>Nat.beq ty pr.ty
  | _=>false
def zeh:List PanicEntry→List PanicEntry
  | [x]=>[{x with recovered:=true}]
  | l=>l
def stA (pr : qO) : Oper := { dst := none, op := .store pr.y1 (.tmp pr.t1) (.const (.slice none 0 0)), type := 0, pos := "", after := #[], guard := none }
def stB (pr : qO) : Oper := { dst := none, op := .store pr.y2 (.tmp pr.t2) (.const (.bool pr.e)), type := 0, pos := "", after := #[], guard := none }
def tY(pr:qO):Array Oper:=#[stA pr,stB pr]
section
variable(P:Program)(Γ:bU)
def BB(pr:qO)(fi:FuncId):Code→Option (Nat×Nat)
  | .region id ops false=>match ops.toList with
    | [o1,o2]=>match o1.op,o1.dst,o1.guard,o2.op,o2.dst,o2.guard with
      | .makeFunc (.func f) first caps,some t,none,.defer {callee:=.value (.tmp t'),args,argTypes:=_},none,none=>match caps.toList with
        | [.tmp c1,.tmp c2]=>match Nat.beq f fi&&Nat.beq t t'&&first.isEmpty&&args.isEmpty&&Nat.beq c1 pr.t1&&Nat.beq c2 pr.t2 && !Nat.beq t pr.t1 && !Nat.beq t pr.t2 with
          | true=>some (id,t)
          | false=>none
        | _=>none
      | _,_,_,_,_,_=>none
    | _=>none
  | _=>none
def pnK(dn:Bool)(K:Exit->St->Prop)(e:Exit)(s:St):Prop:=match e with
 | .panic ch=>match dn with
  | true=>K (.panic ch) s
  | false=>False
 | e=>K e s
def pnC(dn:Bool):Exit×St→ae (Exit×St)
  | (.panic ch,s)=>match dn with
    | true=>.ok (.panic ch,s)
    | false=>.no
  | r=>.ok r
def AU(pr:qO)(fi:FuncId)(aQ:dK):Bool→Code→(Exit→St→Prop)→St→Prop
  | dn,.seq a b,K,σ=>match BB pr fi a with
    | some (id,t)=>match Nat.blt t aQ.nt && !dn&&og [pr.t1,pr.t2] (eH b)with
      | true=>zdv P aQ id (AU pr fi aQ true b K) ⟨(t,.junk)::σ.env,σ.aB,[]⟩
      | false=>False
    | none=>vc P Γ aQ a (zdy (AU pr fi aQ dn b K) (pnK dn K)) σ
  | dn,c,K,σ=>vc P Γ aQ c (pnK dn K) σ
def seC(dn:Bool)(go:St→ae (Exit×St)):Exit×St→ae (Exit×St)
  | (.normal,s)=>go s
  | r=>pnC dn r
def uH(N:Nat)(pr:qO)(fi:FuncId)(aQ:dK):Bool→Code→St→ae (Exit×St)
  | dn,.seq a b,σ=>match BB pr fi a with
    | some (id,t)=>match Nat.blt t aQ.nt && !dn&&og [pr.t1,pr.t2] (eH b)with
      | true=>(Dz P aQ id ⟨(t,.junk)::σ.env,σ.aB,[]⟩).bind (uH N pr fi aQ true b)
      | false=>.no
    | none=>(vcC P Γ N aQ a σ).bind (seC dn (uH N pr fi aQ dn b))
  | dn,c,σ=>(vcC P Γ N aQ c σ).bind (pnC dn)
def ziI(pr:qO)(aQ:dK)(fn:Func):Exit×St→ae (List PA)
  | (.normal,s)=>.opt (kT P s fn.results.toList)
  | (.ret,s)=>.opt (kT P s fn.results.toList)
  | (.panic ch,s)=>match pr.ok ch with
    | true=>(pg P Γ aQ.nt (tY pr) 0 (tY pr).toList {s with log:=[]}).bind λs=>.opt (kT P s fn.results.toList)
    | false=>.no
  | _=>.no
def aD(N:Nat)(pr:qO)(fi:FuncId)(aQ:dK)(f:FuncId)(args:List PA):ae (List PA) :=
 match P.funcs[f]? with
 | some fn=>match fn.body with
  | some c=>match Nat.beq aQ.nt fn.ntmps&&Nat.ble args.length aQ.nt&&og [G7] (eH c)with
   | true=>(uH P Γ N pr fi aQ false c ⟨jk 0 args,[],[]⟩).bind (ziI P Γ pr aQ fn)
   | false=>.no
  | none=>.no
 | none=>.no
def zwS(pr:qO)(aQ:dK)(fn:Func)(K:List PA→Prop):Exit→St→Prop
  | .ret,σ=>Bd P fn K σ
  | .normal,σ=>Bd P fn K σ
  | .panic ch,σ=>pr.ok ch=true/\ku P Γ aQ.nt (tY pr) 0 (tY pr).toList (Bd P fn K) {σ with log:=[]}
  | _,_=>False
def SS(pr:qO)(fi:FuncId)(aQ:dK)(f:FuncId)(args:List PA)(K:List PA->Prop):Prop :=
 match P.funcs[f]? with
 | some fn=>match fn.body with
  | some c=>match Nat.beq aQ.nt fn.ntmps&&Nat.ble args.length aQ.nt&&og [G7] (eH c)with
   | true=>AU P Γ pr fi aQ false c (zwS P Γ pr aQ fn K) ⟨jk 0 args,[],[]⟩
   | false=>False
  | none=>False
 | none=>False
end
section
variable{P:Program}{Γ:bU}{B:Nat}{w0:World}{pr:qO}
abbrev dfD(fi:FuncId)(v1 v2:Value):Deferred:={target:=.fn (.func fi) #[v1,v2],args:=#[]}
theorem LZ{fi:FuncId}{c:Code}{id t:Nat}(h:BB pr fi c=some (id,t)):∃(o1 o2:Oper)(ats:Array TypeId),c=.region id #[o1,o2] false/\t≠pr.t1/\t≠pr.t2/\o1.op=.makeFunc (.func fi) #[] #[.tmp pr.t1,.tmp pr.t2]/\o1.dst=some t/\o1.guard=none /\
  o2.op=.defer {callee:=.value (.tmp t),args:=#[],argTypes:=ats}/\o2.dst=none/\o2.guard=none:=by
 unfold BB at h;split at h
 ·rename_i id' ops;split at h
  ·rename_i o1 o2 zBp;split at h
   ·rename_i f first caps t' t2 args ats e1 e2 e3 e4 e5 e6
    split at h
    ·rename_i c1 c2 zFk;split at h
     ·rename_i hc;simp only[gG] at hc;simp only[bW,gy] at h;obtain⟨rfl,rfl⟩:=h;obtain⟨⟨⟨⟨⟨⟨⟨h1,h2⟩,h3⟩,h4⟩,h5⟩,h6⟩,h7⟩,h8⟩:=hc;have h1:=kL h1;have h2:=kL h2;have h3:first = #[]:=by simpa using h3
      have h4:args = #[]:=by simpa using h4
      have h5:=kL h5;have h6:=kL h6;have h7:t'≠pr.t1:=qde (by simpa using h7);have h8:t'≠pr.t2:=qde (by simpa using h8);have h9:caps = #[.tmp c1,.tmp c2]:=by rw[<- qdp (xs:=caps),zFk]
      subst h1 h2 h3 h4 h9;rw[h5,h6]at e1;refine⟨o1,o2,ats,?_,h7,h8,e1,e2,e3,e4,e5,e6⟩;rw[<- qdp (xs:=ops),zBp]
     ·cases h
    ·cases h
   ·cases h
  ·cases h
 ·cases h
theorem zac{fi:FuncId}(zlJ:∀caps:Array Value,caps.size=2→G8 P {target := .fn (.func fi) caps,args := #[]}){c:Code}{id t nt n:Nat}{h0:Fz}{a:Act}{σ:St}{g:Gh}{w:World}{Q:Exit→Act→World→Prop}
    (h:BB pr fi c=some (id,t)) (ht:t<nt) (S:cO P nt B w0 h0 g σ a w)
    (hQ:∀a',cO P nt B w0 h0 g ⟨(t,.junk)::σ.env,σ.aB,[]⟩ a' w->a'.defers=dfD fi (a.tmps.getD pr.t1 undef) (a.tmps.getD pr.t2 undef)::a.defers->(∀u,u≠t->a'.tmps.getD u undef=a.tmps.getD u undef)->Q .normal a' w):c.wpIn (FR none) n P Q a w:=by
  obtain⟨o1,o2,ats,rfl,n1,n2,e1,e2,e3,e4,e5,e6⟩:=LZ h;refine wpIn_region ?_;show wpOpsIn (FR none) n P #[o1,o2] Q [0,1] a w;have w1:∀tm,Region.wanted o1 (yielded #[o1,o2] tm)=true:=λtm=>by simp[Region.wanted,e3]
  have w2:∀tm,Region.wanted o2 (yielded #[o1,o2] tm)=true:=λtm=>by simp[Region.wanted,e6]
  have r1:(execOp a.eval o1).run P w=.ok (.value (.func (.func fi) #[] #[a.tmps.getD pr.t1 undef,a.tmps.getD pr.t2 undef])) w:=by
    simp only[execOp,e1,Instr.makeFunc,Sem.run_bind,Sem.run_pure,Result.andThen_ok];simp[Act.eval]
  have ets:t<a.tmps.size:=qdF ht S.size;have ev:(a.put (some t) (.func (.func fi) #[] #[a.tmps.getD pr.t1 undef,a.tmps.getD pr.t2 undef])).eval (.tmp t)=.func (.func fi) #[] #[a.tmps.getD pr.t1 undef,a.tmps.getD pr.t2 undef]:=by
    simp[Act.put,Act.eval,xX,ets]
  have r2:(execOp (a.put (some t) (.func (.func fi) #[] #[a.tmps.getD pr.t1 undef,a.tmps.getD pr.t2 undef])).eval o2).run P w=.ok (.defer (dfD fi (a.tmps.getD pr.t1 undef) (a.tmps.getD pr.t2 undef))) w:=by
    simp only[execOp,e4,resolve,Sem.run_bind,ev,Deferred.ofValue,Sem.run_pure,Result.andThen_ok];simp
  show(if Region.wanted o1 (yielded #[o1,o2] a.tmps)then o1.wpIn (FR none) n P a w (wpOpsIn (FR none) n P #[o1,o2] Q [1]) Q else _);rw[eX (w1 _)];refine⟨λ_ _=>trivial,?_⟩;rw[show o1.semAt (FR none).round a.eval=execOp a.eval o1 from rfl,r1];show wpOpsIn (FR none) n P #[o1,o2] Q [1] (a.put o1.dst _) w;rw[e2];show(if Region.wanted o2 (yielded #[o1,o2] (a.put (some t) _).tmps)then o2.wpIn (FR none) n P (a.put (some t) _) w (wpOpsIn (FR none) n P #[o1,o2] Q []) Q else _);rw[eX (w2 _)];refine⟨λ_ _=>trivial,?_⟩;have r3:Sem.run P (o2.semAt (FR none).round (a.put (some t) (.func (.func fi) #[] #[a.tmps.getD pr.t1 undef,a.tmps.getD pr.t2 undef])).eval) w=.ok (.defer (dfD fi (a.tmps.getD pr.t1 undef) (a.tmps.getD pr.t2 undef))) w:=r2;rw[r3];have S1:=S.put (dst:=some t) (d:=.junk) (v:=.func (.func fi) #[] #[a.tmps.getD pr.t1 undef,a.tmps.getD pr.t2 undef]) (by simpa [dJ,qjy]using ht) trivial (λL hL=>by simp[df,dE,bD]at hL) [];rw[Oper.uponIn_defer,e5];refine hQ _ (S1.act ?_ ?_ ?_) rfl λu hu=>?_
  · obtain ⟨es, m1, m2, m3, m4⟩ := S1.dfr;refine⟨.inr (dfD fi (a.tmps.getD pr.t1 undef) (a.tmps.getD pr.t2 undef)) :: es,m1,?_,λ E hE=>?_,λ d hd=>?_⟩
    · rw[oU,<- m2];rfl
    · rcases kR.1 hE with e | hE
      · cases e
      · exact m3 E hE
    · rcases kR.1 hd with e | hd
      · cases e;exact zlJ _ rfl
      · exact m4 d hd
  · exact S1.size
  · exact S1.env
  · simp[Act.put,xX,qdQ (jqa hu)]
def Jn(P:Program)(nt B:Nat)(w0:World)(h0:Fz)(pr:qO)(fi:FuncId)(K:Exit->St->Prop):Exit->Act->World->Prop :=
 λe a' w'=>∃g' σ',K e σ'/\cO P nt B w0 h0 g' σ' a' w'/\∀ch,e=.panic ch->a'.defers=[dfD fi (a'.tmps.getD pr.t1 undef) (a'.tmps.getD pr.t2 undef)]
def PhD(pr:qO)(fi:FuncId)(D:List Nat)(a0:Act):Bool→Prop
  | false=>a0.defers=[]
  | true=>a0.defers=[dfD fi (a0.tmps.getD pr.t1 undef) (a0.tmps.getD pr.t2 undef)]/\pr.t1∉D/\pr.t2∉D
theorem zco{a b:List Nat}(h:og a b=true):∀t∈a,t∉b:=λt ht hb=>by
 have:=Aa.1 h t ht;simp at this;exact this hb
theorem zod(gp:jw P Γ){fi:FuncId}(zlJ:∀caps:Array Value,caps.size=2→G8 P {target := .fn (.func fi) caps,args := #[]})
    (aQ:dK):∀(c:Code)(dn:Bool)(n:Nat)(h0:Fz)(D:List Nat)(a0:Act)(K:Exit->St->Prop)(σ:St)(g:Gh)(a:Act)(w:World),
    (∀t∈eH c,t∈D)->G7∉D->PhD pr fi D a0 dn->AU P Γ pr fi aQ dn c K σ->cO P aQ.nt B w0 h0 g σ a w->Kp D a0 a->c.wpIn (FR none) n P (Jn P aQ.nt B w0 h0 pr fi K) a w:=by
  intro c;have out:∀{dn:Bool}{h0:Fz}{D:List Nat}{a0:Act}{K:Exit->St->Prop}{g':Gh}{σ':St}{a':Act}{w':World}{e:Exit},G7∉D->PhD pr fi D a0 dn->pnK dn K e σ'->cO P aQ.nt B w0 h0 g' σ' a' w'->Kp D a0 a'->Jn P aQ.nt B w0 h0 pr fi K e a' w':=by
    intro dn h0 D a0 K g' σ' a' w' e hr hph hK S' hk;cases e with
    | panic ch =>
      cases dn with
      | false=>exact hK.elim
      | true =>
        obtain⟨p1,p2,p3⟩:=hph;exact⟨g',σ',hK,S',λ_ _=>by rw[hk.2.2.1 hr,p1,hk.1 _ p2,hk.1 _ p3]⟩
    | normal=>exact⟨g',σ',hK,S',λ_ e=>by cases e⟩
    | exit id=>exact⟨g',σ',hK,S',λ_ e=>by cases e⟩
    | goto l=>exact⟨g',σ',hK,S',λ_ e=>by cases e⟩
    | ret=>exact⟨g',σ',hK,S',λ_ e=>by cases e⟩
    | outgrown=>exact⟨g',σ',hK,S',λ_ e=>by cases e⟩
  have leaf:∀(c:Code),(∀dn K σ,AU P Γ pr fi aQ dn c K σ=vc P Γ aQ c (pnK dn K) σ)->∀(dn:Bool)(n:Nat)(h0:Fz)(D:List Nat)(a0:Act)(K:Exit->St->Prop)(σ:St)(g:Gh)(a:Act)(w:World),
      (∀t∈eH c,t∈D)->G7∉D->PhD pr fi D a0 dn->AU P Γ pr fi aQ dn c K σ->cO P aQ.nt B w0 h0 g σ a w->Kp D a0 a->c.wpIn (FR none) n P (Jn P aQ.nt B w0 h0 pr fi K) a w:=by
    intro c hc dn n h0 D a0 K σ g a w hD hr hph h S kX;rw[hc]at h;exact wpIn_mono (ry (LH gp aQ c none n h0 D a0 _ σ g a w hD (Rnd.none h0) h S kX)) λe a' w' ⟨g',σ',hK,S',hk⟩=>out hr hph hK S' hk
  induction c with
  | seq x y _ YT =>
    intro dn n h0 D a0 K σ g a w hD hr hph h S kX;have hDx:∀t∈eH x,t∈D:=λt ht=>hD t (dU.2 (.inl ht));have hDy:∀t∈eH y,t∈D:=λt ht=>hD t (dU.2 (.inr ht));simp only[AU]at h;split at h
    · rename_i id t EJ;split at h
      · rename_i iC;simp only[gG,NR] at iC;obtain⟨⟨ht,hdn⟩,hdj⟩:=iC;subst hdn;have ht:t < aQ.nt:=by simpa [qjy] using ht
        have hph:a0.defers=[]:=hph;refine wpIn_seq (zac zlJ EJ ht S λa' S' gu htm=>?_);have hd:=zco hdj;obtain⟨_,_,_,rfl,n1,n2,_⟩:=LZ EJ;have zP9:PhD pr fi (eH y) a' true:=by
          refine⟨?_,hd _ (by simp),hd _ (by simp)⟩;rw[gu,kX.2.2.1 hr,hph,htm _ (jqa n1),htm _ (jqa n2)]
        have hk:∀s g2,AU P Γ pr fi aQ true y K s->cO P aQ.nt B w0 h0 g2 s a' w->y.wpIn (FR none) n P (Jn P aQ.nt B w0 h0 pr fi K) a' w:=λs g2 hv S2 =>
          YT true n h0 (eH y) a' K s g2 a' w (λ_ h=>h) (λh=>hr (hDy _ h)) zP9 hv S2 (Kp.refl _ _)
        unfold zdv at h;split at h
        · split at h
          · rename_i s hs;obtain⟨g2,S2⟩:=eQ hs S';exact hk s g2 h S2
          · exact h.elim
        · exact hk _ g h S'
      · exact h.elim
    · refine wpIn_seq (wpIn_mono (ry (LH gp aQ x none n h0 D a0 _ σ g a w hDx (Rnd.none h0) h S kX)) ?_);rintro e a' w' ⟨g',σ',hK,S',jJ⟩;cases e with
      | normal=>exact YT dn n h0 D a0 K σ' g' a' w' hDy hr hph hK S' jJ
      | exit id=>exact out hr hph hK S' jJ
      | goto l=>exact out hr hph hK S' jJ
      | ret=>exact out hr hph hK S' jJ
      | panic ch=>exact out hr hph hK S' jJ
      | outgrown=>exact out hr hph hK S' jJ
  | skip=>exact leaf _ λdn K σ=>rfl
  | region i o d=>exact leaf _ λdn K σ=>rfl
  | cond c x y=>exact leaf _ λdn K σ=>rfl
  | block i x=>exact leaf _ λdn K σ=>rfl
  | loop x=>exact leaf _ λdn K σ=>rfl
  | scope x=>exact leaf _ λdn K σ=>rfl
  | exit i=>exact leaf _ λdn K σ=>rfl
  | goto i=>exact leaf _ λdn K σ=>rfl
  | label i=>exact leaf _ λdn K σ=>rfl
  | ret=>exact leaf _ λdn K σ=>rfl
  | rangeFunc f p x y=>exact leaf _ λdn K σ=>rfl
  | refuse x=>exact leaf _ λdn K σ=>rfl
theorem zoe{n:Nat}{a:Act}{w:World}{Q:Exit→Act→World→Prop}(h:wpOpsIn (FR none) n P (tY pr) Q [0,1] a w)(hQ:∀ch a' w',¬Q (.panic ch) a' w') :
  ∃w1 w2,(Instr.storeAt pr.y1 (a.tmps.getD pr.t1 undef) (.slice none 0 0)).run P w=.ok () w1/\(Instr.storeAt pr.y2 (a.tmps.getD pr.t2 undef) (.bool pr.e)).run P w1=.ok () w2/\Q .normal a w2:=by
 have one:∀(o:Oper)(ty:TypeId)(t:Nat)(v:Value)(w:World)(next:Act->World->Prop),o.op=.store ty (.tmp t) (.const v)->o.dst=none->o.wpIn (FR none) n P a w next Q->∃w1,(Instr.storeAt ty (a.tmps.getD t undef) v).run P w=.ok () w1/\next a w1:=by
  intro o ty t v w next ho hd h
  obtain⟨_,h⟩:=h;have e:o.semAt (FR none).round a.eval=(do Instr.storeAt ty (a.tmps.getD t undef) v;pure .skip):=by
   show execOp a.eval o=_;simp only[execOp,ho];rfl
  rw[e]at h;simp only[Sem.run_bind]at h;cases hr:(Instr.storeAt ty (a.tmps.getD t undef) v).run P w with
  | ok u w1 =>
   rw[hr]at h;simp only[Result.andThen_ok,Sem.run_pure,Oper.uponIn_skip,hd]at h;exact⟨w1,rfl,h⟩
  | halt hh w1 =>
   rw[hr]at h;cases hh with
   | panic v=>exact(hQ _ _ _ h).elim
   | _=>exact h.elim
 have w1:∀(o:Oper) tm,o.guard=none->Region.wanted o (yielded (tY pr) tm)=true:=λo tm e3=>by simp[Region.wanted,e3]
 have e0:(tY pr)[0]? = some (stA pr):=rfl;have e1:(tY pr)[1]? = some (stB pr):=rfl;simp only[wpOpsIn,e0,e1]at h;rw[eX (w1 _ _ rfl)]at h;obtain⟨wa,hr1,h⟩:=one _ _ _ _ _ _ rfl rfl h;rw[eX (w1 _ _ rfl)]at h;obtain⟨wb,hr2,h⟩:=one _ _ _ _ _ _ rfl rfl h;exact⟨wa,wb,hr1,hr2,h⟩
def zFm(P:Program)(pr:qO)(fi:FuncId):Prop:=∀(ch:List PanicEntry),pr.ok ch=true->∀(v1 v2:Value)(w:World),∃os:Array Obj,∀w1 w2,(Instr.storeAt pr.y1 v1 (.slice none 0 0)).run P {w with heap:=w.heap++os} = .ok () w1->(Instr.storeAt pr.y2 v2 (.bool pr.e)).run P w1=.ok () w2 ->
 (∀w,(invoke (dfD fi v1 v2).target (dfD fi v1 v2).args).run P w=.ok (.enter fi #[v1,v2]) w) /\
 ∀n,CallsDIn (FR none) n P fi #[v1,v2] (.panicking ch) w λe u' w'=>(∃v,e=.returned v)/\u'=.panicking (zeh ch)/\w'=w2
structure zwT (P : Program) (pr : qO) (fi : FuncId) : Prop where
  idle:∀caps:Array Value,caps.size=2->G8 P {target:=.fn (.func fi) caps,args:=#[]}
  pan:zFm P pr fi
theorem zad{ch:List PanicEntry}(h:pr.ok ch=true):settle (.panicking (zeh ch))=.returning:=by
 unfold qO.ok at h;split at h
 ·rfl
 ·cases h
theorem ziJ{G:bU}(gp:jw P G){f fi:FuncId}(H:zwT P pr fi){args:List PA}{K:List PA→Prop}{aQ:dK}(hv:SS P G pr fi aQ f args K){w:World}{h0:Fz}{vs:List Value}(jK:RL (nU h0) args vs)(Oa:Hw h0 w) :
    Calls P f vs.toArray w λ e w'=>∃ (h':Fz) (rs:List PA) (v:Value),K rs/\e=.returned v/\qK h' rs v/\xJ h0 w.heap.size w w' /\
      jV h0 h'/\Hw h' w'/\∀b o,h' b=some o->h0 b=some o\/w.heap.size<=b:=by
  unfold SS at hv;split at hv
  · rename_i fn uh;split at hv
    · rename_i c sG;split at hv
      · rename_i EG;simp only[gG,Uz] at EG;have S:=Qp (P:=P) (kL EG.1.1) EG.1.2 jK Oa;have hwp:=zod (B:=w.heap.size) (w0:=w) gp H.idle aQ c false 0 h0 (eH c) { tmps:=vs.toArray ++ Array.replicate (fn.ntmps - vs.toArray.size) undef,defers:=[] } _ _ _ _ _ (λ _ h=>h) (zco EG.2 _ (by simp)) rfl hv S (Kp.refl _ _);refine (callsIn_wide (n:=0)).1 ?_;refine callsIn_of_wp_marks (F:=FR none) uh sG trivial (wpIn_mono hwp ?_);have Qm:∀ b,h0 b=some (.fz (.deferred (some [])))->b < w.heap.size:=λ b h=>Oa.lt h
        have res:∀σ' g2 a2 w2,Bd P fn K σ'->cO P aQ.nt w.heap.size w h0 g2 σ' a2 w2->∃v,(results fn a2.tmps).run P w2=.ok v w2/\∃(h':Fz)(rs:List PA)(v':Value),K rs/\Ending.returned v=.returned v'/\qK h' rs v'/\xJ h0 w.heap.size w w2 /\
            jV h0 h'/\Hw h' w2/\∀b o,h' b=some o->h0 b=some o\/w.heap.size<=b:=by
          intro σ' g2 a2 w2 hf S2;unfold Bd at hf;split at hf
          · rename_i l hl;obtain⟨u,v,hu,dA,oI⟩:=Ih S2 hl;obtain⟨h',S3,F⟩:=S2.freeze hu;exact⟨v,dA,h',l,v,hf,rfl,oI h' F,S3.below,S3.le0,S3.hw,S3.hn⟩
          · exact hf.elim
        rintro e a' w' ⟨g',σ',xA,S',EJ⟩
        · have fin:Bd P fn K σ'->LeavesInM (FR none) 0 P fn a'.tmps (λ e w'=>∃ (h':Fz) (rs:List PA) (v:Value),K rs/\e=.returned v/\qK h' rs v/\xJ h0 w.heap.size w w' /\
              jV h0 h'/\Hw h' w'/\∀b o,h' b=some o->h0 b=some o\/w.heap.size<=b) a'.defers .returning w':=by
            intro hf;obtain⟨Ds,h1,h2,h3,h4⟩:=S'.dfr;exact zM Qm Ds g' a' w' h1 h2 h3 h4 S' λg2 a2 w2 _ S2=>res σ' g2 a2 w2 hf S2
          cases e with
          | normal=>exact fin xA
          | ret=>exact fin xA
          | exit id=>exact xA.elim
          | goto l=>exact xA.elim
          | outgrown=>exact xA.elim
          | panic ch =>
          obtain⟨zFn,hvo⟩:=xA;have EJ:=EJ ch rfl;show LeavesInM (FR none) 0 P fn a'.tmps _ a'.defers (.panicking _) w';rw[EJ];obtain⟨os,zwD⟩:=H.pan ch zFn (a'.tmps.getD pr.t1 undef) (a'.tmps.getD pr.t2 undef) w';have fF:∀k,k<w'.heap.size->(w'.heap++os)[k]? = w'.heap[k]?:=λk hk=>qdh hk
          have S1 : cO P aQ.nt w.heap.size w h0 g' σ' a' { w' with heap := w'.heap ++ os } := S'.world (h' := g'.h) (fun _ _ h => h) (S'.hw.same fun k o hk => fF k (S'.hw.lt hk)) (fun _ _ h => .inl h)
            ⟨rfl,rfl,rfl,by simp,kC _,λk hk=>fF k hk⟩
          have zBp:=Hu (r:=none) (n:=0) (D:=[]) (a0:=a') (Q:=λe a2 w2=>e=.normal/\a2.tmps=a'.tmps/\∃g2 σ2,Bd P fn K σ2/\cO P aQ.nt w.heap.size w h0 g2 σ2 a2 w2) gp (λj o ho t ht=>by
            match j,ho with
            | 0,ho=>cases ho;cases ht
            | 1,ho=>cases ho;cases ht
            | _+2,ho=>cases ho) hvo (S1.log []) (Kp.refl _ _) λσ2 hK g2 a2 w2 S2 hk2 _=>⟨rfl,?_,g2,σ2,hK,S2⟩
          · obtain ⟨w1, w2, hr1, hr2, _, _, g2, σ2, hf, S2⟩ := zoe zBp fun ch a2 w2 h => by cases h.1
            obtain⟨hinv,fO⟩:=zwD w1 w2 hr1 hr2;refine⟨by simp,.inr ⟨(λh=>by cases h),.func fi,_,fi,_,rfl,hinv w',(λ_ _=>trivial),?_⟩⟩;refine(fO _).mono ?_;rintro e u' w3 ⟨⟨v,rfl⟩,rfl,rfl⟩;have Fb:settle (.panicking (zeh ch))=.returning:=zad zFn;show LeavesInM (FR none) 0 P fn a'.tmps _ [] (settle (.panicking (zeh ch))) _;rw[Fb];exact res σ2 g2 a' _ hf S2
          · refine Array.ext (hk2.2.1) fun i h1 h2 => ?_;have:=hk2.1 i (by simp);rw[xX,xX,qdT h1,qdT h2]at this;exact this
      · exact hv.elim
    · exact hv.elim
  · exact hv.elim
theorem Gj{dn:Bool}{r:Exit×St}{s:St}{e:Exit}{K:Exit->St->Prop}(h:(pnC dn r).o=some (e,s))(hK:K e s):pnK dn K r.1 r.2:=by
 obtain⟨e1,s1⟩:=r;cases e1 with
 | panic ch =>
  cases dn with
  | true=>cases ae.ok_o h;exact hK
  | false=>exact(ae.no_o h).elim
 | _=>cases ae.ok_o h;exact hK
theorem zej{N:Nat}{fi:FuncId}{aQ:dK}{K:Exit->St->Prop}:∀(c:Code)(dn:Bool)(σ s:St)(e:Exit),(uH P Γ N pr fi aQ dn c σ).o=some (e,s)->K e s->AU P Γ pr fi aQ dn c K σ:=by
 have other:∀(c:Code)(dn:Bool)(σ s:St)(e:Exit),((vcC P Γ N aQ c σ).bind (pnC dn)).o=some (e,s)->K e s->vc P Γ aQ c (pnK dn K) σ:=by
  intro c dn σ s e h hK;obtain⟨⟨e1,s1⟩,h1,h2⟩:=ae.bind_o h;exact SI c _ _ _ _ h1 (Gj h2 hK)
 intro c
 induction c with
 | seq a b _ UG =>
  intro dn σ s e h hK;simp only[uH]at h;simp only[AU];split at h
  ·split at h
   ·obtain⟨s1,h1,h2⟩:=ae.bind_o h;exact Wv h1 (UG _ _ _ _ h2 hK)
   ·exact(ae.no_o h).elim
  ·obtain⟨⟨e1,s1⟩,h1,h2⟩:=ae.bind_o h;refine SI a _ _ _ _ h1 ?_;cases e1 with
   | normal=>exact UG _ _ _ _ h2 hK
   | exit id=>exact Gj (K:=K) (dn:=dn) (r:=(.exit id,s1)) h2 hK
   | goto id=>exact Gj (K:=K) (dn:=dn) (r:=(.goto id,s1)) h2 hK
   | ret=>exact Gj (K:=K) (dn:=dn) (r:=(.ret,s1)) h2 hK
   | panic ch=>exact Gj (K:=K) (dn:=dn) (r:=(.panic ch,s1)) h2 hK
   | outgrown=>exact Gj (K:=K) (dn:=dn) (r:=(.outgrown,s1)) h2 hK
 | skip=>exact other .skip
 | region i o d=>exact other (.region i o d)
 | cond c a b=>exact other (.cond c a b)
 | block i b=>exact other (.block i b)
 | loop b=>exact other (.loop b)
 | rangeFunc f p a b=>exact other (.rangeFunc f p a b)
 | exit i=>exact other (.exit i)
 | scope b=>exact other (.scope b)
 | label l=>exact other (.label l)
 | goto l=>exact other (.goto l)
 | ret=>exact other .ret
 | refuse s=>exact other (.refuse s)
theorem ziK{T:Tabs}(hT:ax P T){f fi:FuncId}(hc:dD P f){N:Nat}{vv:List Nat}{aQ:dK}(H:zwT P pr fi):Ok P f (aD P (gY T vv) N pr fi aQ f):=by
 intro args rs hr w h0 vs jK Oa;have hv:SS P (gY T vv) pr fi aQ f args λQH=>QH=rs:=by
  unfold aD at hr;unfold SS;split at hr
  ·rename_i fn uh;split at hr
   ·rename_i c hb;split at hr
    ·obtain⟨⟨e,s⟩,h1,h2⟩:=ae.bind_o hr;refine zej c _ _ _ _ h1 ?_;cases e with
     | normal=>simp only[zwS,Bd,ae.opt_o h2]
     | ret=>simp only[zwS,Bd,ae.opt_o h2]
     | panic ch =>
      simp only[ziI]at h2;split at h2
      ·rename_i hp;obtain⟨s2,h3,h4⟩:=ae.bind_o h2;exact⟨hp,qN _ _ _ _ h3 (by simp only[Bd,ae.opt_o h4])⟩
      ·exact(ae.no_o h2).elim
     | _=>exact(ae.no_o h2).elim
    ·exact(ae.no_o hr).elim
   ·exact(ae.no_o hr).elim
  ·exact(ae.no_o hr).elim
 refine⟨hc,(ziJ (hT.all vv) H hv jK Oa).mono ?_⟩;rintro e w' ⟨h',QH,v,rfl,he⟩;exact⟨h',v,he⟩
end
end Go.Pm
namespace Go.Pm
section
variable(P:Program)(Γ:bU){A:Type}
def pnT(dn:Bool)(K:EK A):EK A:=λe s=>match e with
 | .panic ch=>match dn with|true=>K (.panic ch) s|false=>none
 | e=>K e s
def sqD(dn:Bool)(f:St->Option A)(K:EK A):EK A:=λe s=>match e with | .normal=>f s|e=>pnT dn K e s
def Gl(N:Nat)(pr:qO)(fi:FuncId)(aQ:dK):Bool→Code→EK A→St→Option A
  | dn,.seq a b,K,σ=>match BB pr fi a with
    | some (id,t)=>match Nat.blt t aQ.nt && !dn&&og [pr.t1,pr.t2] (eH b)with
      | true=>(Dz P aQ id ⟨(t,.junk)::σ.env,σ.aB,[]⟩).T (Gl N pr fi aQ true b K)
      | false=>none
    | none=>yc P Γ N aQ a (sqD dn (Gl N pr fi aQ dn b K) K) σ
  | dn,c,K,σ=>yc P Γ N aQ c (pnT dn K) σ
def zof(pr:qO)(aQ:dK)(fn:Func)(K:List PA->Option A):EK A:=λe s=>match e with
 | .normal=>match kT P s fn.results.toList with|some r=>K r|none=>none
 | .ret=>match kT P s fn.results.toList with|some r=>K r|none=>none
 | .panic ch=>match pr.ok ch with
  | true=>opsT P Γ aQ.nt (tY pr) (λs=>match kT P s fn.results.toList with|some r=>K r|none=>none) 0 (tY pr).toList {s with log:=[]}
  | false=>none
 | _=>none
def zwU(N:Nat)(pr:qO)(fi:FuncId)(aQ:dK)(f:FuncId)(K:List PA->Option A)(args:List PA):Option A :=
 match P.funcs[f]? with
 | some fn=>match fn.body with
  | some c=>match Nat.beq aQ.nt fn.ntmps&&Nat.ble args.length aQ.nt&&og [G7] (eH c)with
   | true=>Gl P Γ N pr fi aQ false c (zof P Γ pr aQ fn K) ⟨jk 0 args,[],[]⟩
   | false=>none
  | none=>none
 | none=>none
end
section
variable{P:Program}{Γ:bU}{A:Type}{N:Nat}{pr:qO}{fi:FuncId}{aQ:dK}
theorem ziL{dn:Bool}{K:EK A}{r:Exit×St}:pnT dn K r.1 r.2=(pnC dn r).T λr=>K r.1 r.2:=by
 obtain⟨e,s⟩:=r;cases e with
 | panic ch=>cases dn<;>rfl
 | _=>rfl
theorem zFo{dn:Bool}{K:EK A}{c:ae (Exit×St)}:c.T (λr=>pnT dn K r.1 r.2)=(c.bind (pnC dn)).T λr=>K r.1 r.2:=by
 show c.T _=c.T _;congr 1;funext r;exact ziL
theorem zek:∀(c:Code)(dn:Bool)(K:EK A)(σ:St),Gl P Γ N pr fi aQ dn c K σ=(uH P Γ N pr fi aQ dn c σ).T λr=>K r.1 r.2:=by
 intro c
 induction c with
 | seq a b _ ih =>
  intro dn K σ;simp only[Gl,uH];cases BB pr fi a with
  | some x =>
   obtain⟨id,t⟩:=x;simp only;cases Nat.blt t aQ.nt && !dn&&og [pr.t1,pr.t2] (eH b)with
   | false=>rfl
   | true =>
    show(Dz P aQ id _).T _=(Dz P aQ id _).T _;congr 1;funext s;exact ih true K s
  | none =>
   simp only;rw[LW];show(vcC P Γ N aQ a σ).T _=(vcC P Γ N aQ a σ).T _;congr 1;funext r;obtain⟨e,s⟩:=r;cases e with
   | normal=>exact ih dn K s
   | panic ch=>exact ziL (r:=(.panic ch,s))
   | _=>rfl
 | _ =>
  intro dn K σ;unfold Gl uH;rw[LW];exact zFo
theorem zog{f:FuncId}{K:List PA->Option A}{args:List PA}:(aD P Γ N pr fi aQ f args).T K=zwU P Γ N pr fi aQ f K args:=by
 unfold aD zwU;cases P.funcs[f]? with
 | none=>rfl
 | some fn =>
  simp only;cases fn.body with
  | none=>rfl
  | some c =>
   simp only;cases Nat.beq aQ.nt fn.ntmps&&Nat.ble args.length aQ.nt&&og [G7] (eH c)with
   | false=>rfl
   | true =>
    simp only;rw[zek];show(uH P Γ N pr fi aQ false c _).T _=(uH P Γ N pr fi aQ false c _).T _;congr 1;funext r;obtain⟨e,s⟩:=r;cases e with
    | normal=>simp only[zof,ziI,ae.opt];cases kT P s fn.results.toList<;>rfl
    | ret=>simp only[zof,ziI,ae.opt];cases kT P s fn.results.toList<;>rfl
    | panic ch =>
     simp only[zof,ziI];cases pr.ok ch with
     | false=>rfl
     | true =>
      simp only;rw[wU];show(pg P Γ aQ.nt (tY pr) 0 (tY pr).toList _).T _=(pg P Γ aQ.nt (tY pr) 0 (tY pr).toList _).T _;congr 1;funext s;simp only;cases kT P s fn.results.toList<;>rfl
    | _=>rfl
theorem zFp [aJ]{δ ρ:Type}[dG δ][dG ρ]{f:FuncId}{x:δ}{k:ρ->Option A}:(ae.ty (aD P Γ N pr fi aQ f) x:ae ρ).T k=zwU P Γ N pr fi aQ f (iO k) (dG.enc x):=by
 rw[<- zog];show(aD P Γ N pr fi aQ f (dG.enc x)).T _=_;congr 1
end
end Go.Pm
