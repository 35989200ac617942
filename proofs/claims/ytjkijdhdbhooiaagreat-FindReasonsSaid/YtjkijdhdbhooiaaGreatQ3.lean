/- Part 3: framework, functions, plain laws. -/
import Derived.Test.YtjkijdhdbhooiaaGreatQ2
import Derived.RangeFuncNested
import Derived.Scope
set_option linter.all false
noncomputable section
namespace Go.Pm
variable [aH]
open Go.RowKit (Below)
def VA(h h':Fz):Prop:=∀b o,h b=some o->(∃C ty fr,o=.fz (.cells C ty fr))->h' b=some o
theorem jP.c{h h':Fz}(hl:jP h h'):VA h h':=λb o hb _=>hl b o hb
section
variable{P:Program}{Γ:bI}{nt B:Nat}{w0:World}{h0:Fz}{g:Gh}{σ:St}{a:Act}{w:World}{r:Option Nat}{n i:Nat}{Q:Exit->Act->World->Prop}
abbrev Gh.re(g:Gh)(h:Fz):Gh:=⟨h,g.bk,g.sv,g.iv⟩
theorem zhv{h:Fz}(hl:VA g.h h){c:Cl}{x:Value}(hc:ja g c x):ja (g.re h) c x:=by
 cases c with
 | p v=>exact Rep.mono' hl hc
 | clo f caps=>obtain⟨cv,e,hr⟩:=hc;exact⟨cv,e,qB (λ_ _ hp=>Rep.mono' hl hp) (λ_ _=>rfl) hr⟩
 | _=>exact hc
theorem ztN{h:Fz}(hl:VA g.h h):∀{cs:List Cl}{vs:List Value},RL (ja g) cs vs->RL (ja (g.re h)) cs vs:=λhc=>hc.mono λ_ _=>zhv hl
theorem zhw{h:Fz}(hl:VA g.h h){d:D1}{x:Value}(hd:Ai g d x):Ai (g.re h) d x:=by
 cases d with
 | c y=>exact zhv hl hd
 | agg cs=>obtain⟨vs,rfl,hr⟩:=hd;exact⟨vs,rfl,ztN hl hr⟩
theorem Y7{h:Fz}(hl:VA g.h h){d:DV}{x:Value}(hd:qM g d x):qM (g.re h) d x:=by
 cases d with
 | one y=>exact zhw hl hd
 | tup ds=>obtain⟨vs,rfl,hr⟩:=hd;exact⟨vs,rfl,hr.mono λ_ _=>zhw hl⟩
theorem Y8{h:Fz}(hl:VA g.h h){L:Nat}{o:AO}(ho:NU P g w B L o):NU P (g.re h) w B L o:=by
 cases o with
 | box ty cs=>obtain⟨C,hC,hr⟩:=ho;exact⟨C,hC,ztN hl hr⟩
 | fbox cs=>obtain⟨C,ty,fr,hC,hr⟩:=ho;exact⟨C,ty,fr,hl _ _ hC ⟨_,_,_,rfl⟩,hr.mono λ_ _=>Rep.mono' hl⟩
 | vec e s b n get=>obtain⟨h1,h2,xs,hx,hr⟩:=ho;exact⟨h1,h2,xs,hx,λi hi=>(hr i hi).mono λ_ _=>Rep.mono' hl⟩
 | fvec s n get=>exact⟨Rep.mono' hl ho.1,ho.2⟩
 | vv te bb e s b n ln get =>
  obtain⟨h1,h2,h3,h4,h5,h6⟩:=ho;exact⟨h1,h2,h3,h4,λi hi=>by obtain⟨h7,h70,xs,hx,hr⟩:=h5 i hi;exact⟨h7,h70,xs,hx,λj hj=>(hr j hj).mono λ_ _=>Rep.mono' hl⟩,h6⟩
 | vt te bb e s b n ln get o =>
  obtain⟨h1,h2,h3,h4,h41,h42,h5,h6⟩:=ho;exact⟨h1,h2,h3,h4,h41,h42,λi hi ho=>by obtain⟨h7,h70,xs,hx,hr⟩:=h5 i hi ho;exact⟨h7,h70,xs,hx,λj hj=>(hr j hj).mono λ_ _=>Rep.mono' hl⟩,h6⟩
 | mo kt vt q n F=>exact ho
 | gone=>trivial
def Fz.add(h:Fz)(b:Nat)(o:Obj):Fz:=λk=>if k=b then some (.fz o)else h k
def Fz.del(h:Fz)(b:Nat):Fz:=λk=>if k=b then none else h k
theorem Fz.add_same{h:Fz}{b:Nat}{o:Obj}:h.add b o b=some (.fz o):=eX rfl
theorem Fz.add_other{h:Fz}{b k:Nat}{o:Obj}(hk:k≠b):h.add b o k=h k:=fF hk
theorem Fz.del_same{h:Fz}{b:Nat}:h.del b b=none:=eX rfl
theorem Fz.del_other{h:Fz}{b k:Nat}(hk:k≠b):h.del b k=h k:=fF hk
theorem Fz.le_add{h:Fz}{b:Nat}{o:Obj}(hb:h b=none):jP h (h.add b o):=λk x hk=>by
 rw[Fz.add_other (λe=>by subst e;rw[hb]at hk;cases hk)];exact hk
theorem bW.hide(S:bW P nt B w0 h0 g σ a w){b:Nat}{o:Obj}(hb:g.h b=none)(hw:w.heap[b]? = some o)(hB:B≤b)(sW:∀L o,lk σ.aB L=some o→¬gQ g L o b) :
  bW P nt B w0 (h0.add b o) (g.re (g.h.add b o)) σ a w:=by
 have hle:=Fz.le_add (o:=o) hb;have PW:h0 b=none:=by
  cases h:h0 b with|none=>rfl|some x=>rw[S.le0 b x h]at hb;cases hb
 refine⟨S.dfr.mono hle,S.size,λt d ht=>Y7 hle.c (S.env t d ht),λL x hL=>Y8 hle.c (S.obj L x hL),λL x k hL hk=>?_,S.sep,?_,?_,?_,?_,S.bs,S.clE,S.clO⟩;obtain⟨h1,h2⟩:=S.own L x k hL hk;refine⟨h1,?_⟩;show g.h.add b o k=none;rw[Fz.add_other (λe=>sW L x hL (by rw[<- e];exact hk))];exact h2;intro k x hk;by_cases h:k=b;subst h;have hk:g.h.add k o k=some x:=hk;rw[Fz.add_same]at hk;simp only[bQ]at hk;subst hk;exact⟨o,hw,rfl⟩;have hk:g.h.add b o k=some x:=hk;rw[Fz.add_other h]at hk;exact S.hw k x hk;intro k x hk;show g.h.add b o k=some x;by_cases h:k=b;subst h;rw[Fz.add_same]at hk ⊢;exact hk;rw[Fz.add_other h]at hk ⊢;exact S.le0 k x hk;intro k x hk;have hk:g.h.add b o k=some x:=hk;by_cases h:k=b;exact .inr (h▸hB);rw[Fz.add_other h]at hk ⊢;exact S.hn k x hk;exact⟨S.below.os,S.below.tape,S.below.output,S.below.size,S.below.drawn,λk hk=>S.below.block k hk⟩
theorem bW.unhide{b:Nat}{o:Obj}(S:bW P nt B w0 (h0.add b o) g σ a w)(hB:B≤b)(PW:h0 b=none)(hc:o.isCells=false)(hm:∀ds,o ≠ .deferred ds) :
  g.h b=some (.fz o)/\(∀L x,lk σ.aB L=some x->¬gQ g L x b)/\w.heap[b]? = some o/\bW P nt B w0 h0 (g.re (g.h.del b)) σ a w:=by
 have hb:g.h b=some (.fz o):=S.le0 b _ Fz.add_same;have hl:VA g.h (g.h.del b):=λk x hk hx=>by
  rw[Fz.del_other];exact hk;intro e;subst e;rw[hb]at hk;simp only[bQ]at hk;subst hk;obtain⟨C,ty,fr,hx⟩:=hx;cases hx;cases hc
 have hwb:w.heap[b]? = some o:=S.hw.fz hb;refine⟨hb,(λL x hL hk=>by(have:=(S.own L x b hL hk).2;rw[hb]at this;cases this)),hwb,?_⟩;refine⟨?_,S.size,λt d ht=>Y7 hl (S.env t d ht),λL x hL=>Y8 hl (S.obj L x hL),λL x k hL hk=>?_,S.sep,?_,?_,?_,?_,S.bs,S.clE,S.clO⟩;obtain⟨Ds,h1,h2,h3,h4⟩:=S.dfr;refine⟨Ds,h1,h2,λD hD=>⟨(h3 D hD).1,?_⟩,h4⟩;show g.h.del b D=_;rw[Fz.del_other];exact(h3 D hD).2;intro e;subst e;have:=(h3 D hD).2;rw[hb]at this;simp only[bQ,UF.fz.injEq]at this;exact hm _ this;obtain⟨h1,h2⟩:=S.own L x k hL hk;refine⟨h1,?_⟩;show g.h.del b k=none;unfold Fz.del;split;rfl;exact h2;intro k x hk;have hk:g.h.del b k=some x:=hk;unfold Fz.del at hk;split at hk;cases hk;exact S.hw k x hk;intro k x hk;have hkb:k≠b:=λe=>by subst e;rw[PW]at hk;cases hk
 show g.h.del b k=some x;rw[Fz.del_other hkb];exact S.le0 k x (by rw[Fz.add_other hkb];exact hk);intro k x hk;have hk:g.h.del b k=some x:=hk;by_cases h:k=b;exact .inr (h▸hB);rw [Fz.del_other h]at hk;rcases S.hn k x hk with h1|h1
 rw[Fz.add_other h]at h1;exact .inl h1;exact .inr h1;exact⟨S.below.os,S.below.tape,S.below.output,S.below.size,S.below.drawn,λk hk=>S.below.block k hk⟩
theorem bW.putObj(S:bW P nt B w0 h0 g σ a w){b:Nat}(o:Obj)(hb:g.h b=none)(hB:B<=b)(sW:∀L x,lk σ.aB L=some x->¬gQ g L x b):bW P nt B w0 h0 g σ a (w.putObj b o):=by
  have jb:∀k,k≠b->(w.putObj b o).heap[k]? = w.heap[k]?:=λk hk=>World.putObj_heap_other hk
  refine S.change (g' := g) (Aj := σ.aB) (fun L _ _ => iV.refl g L) (fun _ _ h => h) (S.hw.same fun k x hk => jb k fun e => by subst e; rw [hb] at hk; cases hk) (fun _ _ h => .inl h)
    ⟨rfl,rfl,rfl,by simp,kw _,λk hk=>jb k omY⟩ ?_ S.own S.sep (λL o h=>⟨o,h⟩) S.clO
  intro L x hL;exact jM (S.obj L x hL) (iV.refl g L) (λM _=>iV.refl g M) (λ_ _ h=>h) λk hk=>jb k λe=>by subst e;exact sW L x hL hk
theorem bW.act(S:bW P nt B w0 h0 g σ a w){a':Act}(hd:Marks P B g.h a'.defers)(hs:nt<=a'.tmps.size)(he:∀t d,lk σ.env t=some d->qM g d (a'.tmps.getD t undef)):bW P nt B w0 h0 g σ a' w :=
 ⟨hd,hs,he,S.obj,S.own,S.sep,S.hw,S.le0,S.hn,S.below,S.bs,S.clE,S.clO⟩
theorem bW.envs(S:bW P nt B w0 h0 g σ a w){env:List (Nat×DV)}(he:∀t d,lk env t=some d→qM g d (a.tmps.getD t undef))(hl:∀t d,lk env t=some d→∀L∈cu d,∃o,lk σ.aB L=some o)
    (l:List (Nat×Nat×Nat)):bW P nt B w0 h0 g ⟨env,σ.aB,l⟩ a w :=
  ⟨S.dfr,S.size,he,S.obj,S.own,S.sep,S.hw,S.le0,S.hn,S.below,S.bs,hl,S.clO⟩
theorem fold_size : ∀ (l : List (Nat × Value)) (t : Array Value), (l.foldl (fun t (p, v) => t.setIfInBounds p v) t).size = t.size|[],t=>rfl|(p,v)::l,t=>by rw[Yf,fold_size l];simp
theorem Lh : ∀ (l : List (Nat × Value)) (t : Array Value) (k : Nat), (∀ x ∈ l, x.1 ≠ k) → (l.foldl (fun t (p, v) => t.setIfInBounds p v) t).getD k undef = t.getD k undef
  | [],t,k,_=>rfl
  | (p,v)::l,t,k,h=>by
    rw[Yf,Lh l _ k λx hx=>h x (jS _ hx)];have hp:p≠k:=h (p,v) kQ;simp[xI,qdB hp]
theorem zbA(nt0:Nat):∀(ps:List Nat)(ys:List PA)(us:List Value)(e env:List (Nat×DV))(t:Array Value),pW ps ys e=some env->RL (nN g.h) ys us->(∀p∈ps,p<t.size) ->
  (∀k d,lk e k=some d->qM g d (t.getD k undef)) ->
  us.length=ps.length/\∀k d,lk env k=some d->qM g d (((ps.zip us).foldl (λt (p,v)=>t.setIfInBounds p v) t).getD k undef)
 | [],[],us,e,env,t,h,hr,_,he=>by
  simp only[pW,bQ]at h;subst h;cases us with|nil=>exact⟨rfl,he⟩|cons=>exact hr.elim
 | p::ps,y::ys,[],e,env,t,h,hr,_,he=>hr.elim
 | p::ps,y::ys,u::us,e,env,t,h,hr,hp,he=>by
  simp only[pW]at h;have iw:=hp p kQ;obtain⟨h1,h2⟩:=zbA nt0 ps ys us _ env (t.setIfInBounds p u) h hr.2 (λq hq=>by have:=hp q (jS _ hq);simpa using this) (λk d hk=>by
   rw[aW]at hk;split at hk;rename_i e1;simp only[bQ]at hk;subst hk;subst e1;rw[show(t.setIfInBounds p u).getD p undef=u by simp[xI,iw]];exact KA hr.1;rename_i e1;have:=he k d hk;rw[show(t.setIfInBounds p u).getD k undef=t.getD k undef by simp[xI,qdB e1]];exact this)
  exact⟨by simp[h1],h2⟩
 | [],_::_,_,_,_,_,h,_,_,_=>by simp[pW]at h
 | _::_,[],_,_,_,_,h,_,_,_=>by simp[pW]at h
theorem PX:∀(ps:List Nat)(ys:List PA)(e env:List (Nat×DV)),pW ps ys e=some env→∀k d,lk env k=some d→lk e k=some d∨cu d=[]
  | [],[],e,env,h,k,d,hk=>by simp only[pW,bQ]at h;subst h;exact .inl hk
  | p::ps,y::ys,e,env,h,k,d,hk=>by
    simp only[pW]at h;rcases PX ps ys _ env h k d hk with h1|h1
    rw [aW]at h1;split at h1;simp only[bQ]at h1;subst h1;exact .inr (vY y);exact .inl h1;exact .inr h1
  | [],_::_,_,_,h,_,_,_=>by simp[pW]at h
  | _::_,[],_,_,h,_,_,_=>by simp[pW]at h
theorem bW.up(S:bW P nt B w0 h0 g σ a w):bW P nt B w0 g.h g σ a w :=
 ⟨S.dfr,S.size,S.env,S.obj,S.own,S.sep,S.hw,λ_ _ h=>h,λ_ _ h=>.inl h,
  ⟨S.below.os,S.below.tape,S.below.output,S.below.size,S.below.drawn,λk hk=>S.below.block k hk⟩,S.bs,S.clE,S.clO⟩
theorem bW.down{h1:Fz}(S:bW P nt B w0 h1 g σ a w)(hl:jP h0 h1)(hn:∀b o,h1 b=some o->h0 b=some o\/B<=b):bW P nt B w0 h0 g σ a w :=
 ⟨S.dfr,S.size,S.env,S.obj,S.own,S.sep,S.hw,λb o h=>S.le0 b o (hl b o h),λb o h=>by
   rcases S.hn b o h with h|h
   exact hn b o h;exact .inr h,
  ⟨S.below.os,S.below.tape,S.below.output,S.below.size,S.below.drawn,λk hk=>S.below.block k hk⟩,S.bs,S.clE,S.clO⟩
theorem Y9{k:Keep}{σ s:St}(h:yf P k σ=some s):∀t d,lk s.env t=some d->t∈k.tmps:=by
 unfold yf at h;split at h;cases h;split at h;cases h;split at h;cases h;simp only[]at h;split at h;simp only [bQ]at h;subst h;intro t d ht;obtain⟨_,_,_,h1⟩:=kU ht;exact h1;cases h
theorem znB{k a b e:Nat}{σ:St}:∀t d,lk (nf1 P k a b e σ).env t=some d->∃d',lk σ.env t=some d':=by
 have key:∀x y,lk σ.env a=some y->∀t d,lk (Yv a x σ.env) t=some d->∃d',lk σ.env t=some d':=by
  intro x y hy t d ht;rw[C9 ⟨y,hy⟩,aW]at ht;split at ht;rename_i e;exact⟨y,e▸hy⟩;exact⟨d,ht⟩
 unfold nf1
 repeat' split
 all_goals first
  | exact λt d ht=>⟨d,ht⟩
  | exact key _ _ (by assumption)
theorem G8:∀{l:List (Nat×Nat×Nat×Nat)}{σ:St},∀t d,lk (IQ P l σ).env t=some d→∃d',lk σ.env t=some d'
  | [],_,_,d,ht=>⟨d,ht⟩
  | (_,_,_,_)::l,_,t,d,ht=>by
    obtain⟨d',h2⟩:=G8 (l:=l) t d ht;exact znB t d' h2
theorem FD{k:Keep}{σ s:St}(h:canon P k σ=some s):∀t d,lk s.env t=some d->t∈k.tmps:=by
 unfold canon at h;split at h;split at h;rename_i s1 h1;intro t d ht;cases h;obtain⟨d',h2⟩:=G8 t d ht;exact Y9 h1 t d' h2;cases h;cases h
def Rnd(r:Option Nat)(h0:Fz):Prop:=∀l,r=some l->∃rec:Loop,h0 l=some (.fz (.loop rec))
theorem Rnd.none(h0:Fz):Rnd none h0:=λl h=>by cases h
theorem Om(S:bW P nt B w0 h0 g σ a w)(hR:Rnd r h0)(fn:FuncId)(ps:Array Tmp)(x y:Code) :
  ∃(l:Nat)(mark:List Deferred)(w1:World)(d:Nat)(h1:Fz),(Instr.enterLoop fn a.tmps ps x y r).run P w=.ok (l,mark) w1/\w.heap.size<=l /\
   w1.heap[l]? = some (.loop {state:=.ready,pending:=none,fn,tmps:=a.tmps,params:=ps,assign:=x,body:=y,defers:=d})/\jP g.h h1/\h1 l=none /\
   bW P nt B w0 h0 (g.re h1) σ {a with defers:=mark++a.defers} w1/\∀d∈mark,∃b,d.target=.collected b:=by
 have zlY:∀k,w.heap.size<=k->g.h k=none:=λk hk=>by
  cases h:g.h k with|none=>rfl|some x=>exact absurd (uJ S.hw h) omY
 cases r with
 | none =>
  have hb0:g.h w.heap.size=none:=zlY _ (kw _);have hw1:((w.alloc (.deferred (some []))).alloc (.loop {state:=.ready,pending:=none,fn,tmps:=a.tmps,params:=ps,assign:=x,body:=y,defers:=w.heap.size})).heap[w.heap.size]? = some (.deferred (some [])):=by
   exact(Below.heap_alloc _ _ _ (by simp)).trans (World.alloc_heap_new w _)
  have rG:Below w.heap.size w ((w.alloc (.deferred (some []))).alloc (.loop {state:=.ready,pending:=none,fn,tmps:=a.tmps,params:=ps,assign:=x,body:=y,defers:=w.heap.size})) :=
   ((Below.refl _ w).alloc (kw _) _).alloc (by simp) _
  have S1:=S.world (h':=g.h.add w.heap.size (.deferred (some []))) (Fz.le_add hb0) (λk z hk=>by
    by_cases h:k=w.heap.size;subst h;rw[Fz.add_same]at hk;simp only[bQ]at hk;subst hk;exact⟨_,hw1,rfl⟩;rw [Fz.add_other h]at hk;obtain⟨o,h1,h2⟩:=S.hw k z hk;exact⟨o,by rw[rG.block k (S.hw.lt hk)];exact h1,h2⟩)
   (λk z hk=>by
    by_cases h:k=w.heap.size;exact .inr omY;rw[Fz.add_other h]at hk;exact .inl hk) (.of ⟨rG,kw _⟩)
  refine⟨w.heap.size+1,[{target:=.collected w.heap.size,args:=#[]}],_,w.heap.size,g.h.add w.heap.size (.deferred (some [])),run_enterLoop_outer fn a.tmps ps x y,omY,?_,Fz.le_add hb0,?_,?_,λd hd=>⟨w.heap.size,by rw[kY.1 hd]⟩⟩;have:=World.alloc_heap_new (w.alloc (.deferred (some []))) (.loop {state := .ready,pending:=none,fn,tmps:=a.tmps,params:=ps,assign:=x,body:=y,defers:=w.heap.size});rwa[World.size_alloc]at this;rw[Fz.add_other omY];exact zlY _ omY
  ·refine S1.act ?_ S1.size S1.env;obtain⟨Ds,h1,h2,h3,h4⟩:=S.dfr;refine⟨.inl w.heap.size :: Ds,qdq.2 ⟨λ hm=>?_,h1⟩,by simp[h2,deD],λ D hD=>?_,λ d hd=>?_⟩;have:=uJ S.hw (h3 _ (JS hm)).2;omega
   rotate_left
   rcases kF.1 hd with e|hd
   cases e;exact h4 d hd;rcases kF.1 hD with e|hD
   cases e;exact⟨S.bs,Fz.add_same⟩;exact⟨(h3 D hD).1,Fz.le_add hb0 _ _ (h3 D hD).2⟩
 | some l0 =>
  obtain⟨rec,zZo⟩:=hR l0 rfl;have hl0:w.heap[l0]? = some (.loop rec):=S.hw.fz (S.le0 _ _ zZo);have rG:Below w.heap.size w (w.alloc (.loop {state:=.ready,pending:=none,fn,tmps:=a.tmps,params:=ps,assign:=x,body:=y,defers:=rec.defers})):=(Below.refl _ w).alloc (kw _) _;have S1:=S.world (h':=g.h) (λ_ _ h=>h) (S.hw.same λk z hk=>rG.block k (S.hw.lt hk)) (λ_ _ h=>.inl h) (.of ⟨rG,kw _⟩);exact⟨w.heap.size,[],_,rec.defers,g.h,run_enterLoop_inner hl0 fn a.tmps ps x y,kw _,World.alloc_heap_new w _,λ_ _ h=>h,zlY _ (kw _),S1,λd hd=>by cases hd⟩
end
end Go.Pm
namespace Go.Pm
def zw2:List Item→Bool|.call .. :: _=>false|_=>true
def jy(I:Machine→Prop)(P:Program)(m:Machine)(b:Frame)(k:List Item)(cs:List Frame):Exit→Act→World→Prop
  | .panic ch,a,w=>∃todo,zw2 todo=true/\StepsIn I P m (lone {b.atR a todo with mode:=.panicking ch} cs w)
  | .normal,a,w=>ArrivesIn I P m b k cs .normal a w
  | .exit id,a,w=>ArrivesIn I P m b k cs (.exit id) a w
  | .goto l,a,w=>ArrivesIn I P m b k cs (.goto l) a w
  | .ret,a,w=>ArrivesIn I P m b k cs .ret a w
  | .outgrown,a,w=>ArrivesIn I P m b k cs .outgrown a w
theorem jy.inn{I:Machine->Prop}{P:Program}{m:Machine}{b:Frame}{k:List Item}{cs:List Frame}{e:Exit}{a:Act}{w:World}(h:jy I P m b k cs e a w):ArrivesIn I P m b k cs e a w:=by
 cases e with
 | panic ch=>obtain⟨t,_,h⟩:=h;exact⟨t,h⟩
 | _=>exact h
theorem jy.of_steps{I:Machine->Prop}{P:Program}{m m1:Machine}{b:Frame}{k:List Item}{cs:List Frame}{e:Exit}{a:Act}{w:World}(h:StepsIn I P m m1)(h':jy I P m1 b k cs e a w):jy I P m b k cs e a w:=by
 cases e with
 | panic ch=>obtain⟨t,ht,hs⟩:=h';exact⟨t,ht,h.trans hs⟩
 | normal=>exact ArrivesIn.of_steps (e:=.normal) h h'
 | exit id=>exact ArrivesIn.of_steps (e:=.exit id) h h'
 | goto l=>exact ArrivesIn.of_steps (e:=.goto l) h h'
 | ret=>exact ArrivesIn.of_steps (I:=I) (b:=b) (k:=k) (cs:=cs) (e:=.ret) (a:=a) (w:=w) h h'
 | outgrown=>exact ArrivesIn.of_steps (b:=b) (k:=k) (cs:=cs) (e:=.outgrown) (a:=a) (w:=w) h h'
theorem jy.pass{I:Machine->Prop}{P:Program}{m:Machine}{b:Frame}{x:Item}{k:List Item}{cs:List Frame}{e:Exit}{a:Act}{w:World}(hx:x.plain=true)(he:e ≠ .normal)(h:jy I P m b (x::k) cs e a w):jy I P m b k cs e a w:=by
 cases e with|panic ch=>exact h|normal=>exact absurd rfl he|exit id=>exact ArrivesIn.pass (I:=I) (P:=P) (m:=m) (b:=b) (x:=x) (k:=k) (cs:=cs) (e:=.exit id) (a:=a) (w:=w) hx (λ_ _=>.inl (by simp)) h|goto l=>exact ArrivesIn.pass (I:=I) (P:=P) (m:=m) (b:=b) (x:=x) (k:=k) (cs:=cs) (e:=.goto l) (a:=a) (w:=w) hx (λ_ _=>.inl (by simp)) h|ret=>exact ArrivesIn.pass (I:=I) (P:=P) (m:=m) (b:=b) (x:=x) (k:=k) (cs:=cs) (e:=.ret) (a:=a) (w:=w) hx (λ_ _=>.inl (by simp)) h|outgrown=>exact h
def Dk(r:Option Nat)(n:Nat)(P:Program)(c:Code)(Q:Exit->Act->World->Prop)(a:Act)(w:World):Prop :=
 ∀(b:Frame)(k:List Item)(cs:List Frame),b.roundOf=(FR r).round->(FR r).fn b.fn->(FR r).room (cs.length+1+n) ->
  ∃e a' w',Q e a' w'/\jy (Machine.fenced P (FR r)) P (lone (b.atR a (.code c::k)) cs w) b k cs e a' w'
section
variable{r:Option Nat}{n:Nat}{P:Program}{Q:Exit->Act->World->Prop}{a:Act}{w:World}
theorem qG{c:Code}(h:Dk r n P c Q a w):c.wpIn (FR r) n P Q a w:=λb k cs vO hb hr=>let⟨e,a',w',q,x⟩:=h b k cs vO hb hr;⟨e,a',w',q,x.inn⟩
theorem zdZ{c:Code}(h:c.wpIn (FR r) n P Q a w)(hq:∀ch a w,¬Q (.panic ch) a w):Dk r n P c Q a w:=λb k cs vO hb hr=>by
 obtain⟨e,a',w',q,x⟩:=h b k cs vO hb hr;refine⟨e,a',w',q,?_⟩;cases e with|panic ch=>exact absurd q (hq _ _ _)|_=>exact x
theorem oM{c:Code}{Q':Exit->Act->World->Prop}(h:Dk r n P c Q a w)(hq:∀e a w,Q e a w->Q' e a w):Dk r n P c Q' a w :=
 λb k cs vO hb hr=>let⟨e,a',w',q,x⟩:=h b k cs vO hb hr;⟨e,a',w',hq _ _ _ q,x⟩
theorem zhx(h:Q .normal a w):Dk r n P .skip Q a w:=λ_ _ _ _ hb hr=>⟨.normal,a,w,h,.one (fenced_calm hb hr rfl) stepR_skip⟩
theorem zd0{l:Nat}(h:Q .normal a w):Dk r n P (.label l) Q a w:=λ_ _ _ _ hb hr=>⟨.normal,a,w,h,.one (fenced_calm hb hr rfl) stepR_label⟩
theorem VB{id:Nat}(h:Q (.exit id) a w):Dk r n P (.exit id) Q a w :=
 λ_ k _ _ hb hr=>⟨.exit id,a,w,h,λ_ hk=>.one (fenced_calm hb hr rfl) (stepR_exit hk),λ_ hk=>⟨k,hk,.refl _⟩⟩
theorem zbB(h:Q .ret a w):Dk r n P .ret Q a w :=
 λ_ k _ _ hb hr=>⟨.ret,a,w,h,λhn=>⟨_,.one (fenced_calm hb hr rfl) (stepR_ret hn)⟩,λ_=>⟨k,.refl _⟩⟩
theorem znC{x y:Code}(h:Dk r n P x (Exit.then (Dk r n P y Q) Q) a w):Dk r n P (.seq x y) Q a w:=by
 intro b k cs vO hb hr;have h0:(lone (b.atR a (.code (.seq x y)::k)) cs w).fenced P (FR r):=fenced_calm hb hr rfl;obtain⟨e,a1,w1,hq,dZ⟩:=h b (.code y::k) cs vO hb hr;have st:=StepsIn.one h0 (stepR_seq (P:=P) (b:=b) (a:=a) (k:=k) (cs:=cs) (w:=w) (x:=x) (y:=y));cases e with
 | normal =>
  obtain⟨e2,a2,w2,hq2,Dl⟩:=hq b k cs vO hb hr;exact⟨e2,a2,w2,hq2,.of_steps (st.trans dZ) Dl⟩
 | exit id=>exact⟨_,a1,w1,hq,.of_steps st (.pass (x:=.code y) rfl (by simp) dZ)⟩
 | goto l=>exact⟨_,a1,w1,hq,.of_steps st (.pass (x:=.code y) rfl (by simp) dZ)⟩
 | ret=>exact⟨_,a1,w1,hq,.of_steps st (.pass (x:=.code y) rfl (by simp) dZ)⟩
 | panic ch=>exact⟨_,a1,w1,hq,.of_steps st (.pass (x:=.code y) rfl (by simp) dZ)⟩
 | outgrown=>exact⟨_,a1,w1,hq,.of_steps st (.pass (x:=.code y) rfl (by simp) dZ)⟩
theorem zhy{c:Operand}{x y:Code}{t:Bool}(hc:a.eval c=.bool t)(h:Dk r n P (if t then x else y) Q a w):Dk r n P (.cond c x y) Q a w :=
 λb k cs vO hb hr=>let⟨e,a',w',q,x⟩:=h b k cs vO hb hr;⟨e,a',w',q,.of_steps (.one (fenced_calm hb hr rfl) (stepR_cond hc)) x⟩
theorem zd1{id:Nat}{c:Code}(h:Dk r n P c (Exit.inBlock id Q) a w):Dk r n P (.block id c) Q a w:=by
 intro b k cs vO hb hr;have h0:(lone (b.atR a (.code (.block id c)::k)) cs w).fenced P (FR r):=fenced_calm hb hr rfl;have st:=StepsIn.one h0 (stepR_block (P:=P) (b:=b) (a:=a) (k:=k) (cs:=cs) (w:=w) (id:=id) (c:=c));obtain⟨e,a1,w1,hq,dZ⟩:=h b (.inBlock id::k) cs vO hb hr;cases e with
 | normal=>exact⟨.normal,a1,w1,hq,(st.trans dZ).trans (.one (fenced_calm hb hr rfl) stepR_inBlock)⟩
 | exit id' =>
  by_cases hid:id'=id;simp only [Exit.inBlock,hid,OV]at hq;exact⟨.normal,a1,w1,hq,st.trans (dZ.1 k (by simp[exitTo,hid]))⟩;simp only [Exit.inBlock,hid,qd4]at hq;have this:(id==id')=false:=by simp;exact λh=>hid h.symm
  have hx:exitTo id' (.inBlock id::k)=exitTo id' k:=by simp[exitTo,this]
  exact⟨.exit id',a1,w1,hq,λk' hk=>st.trans (dZ.1 k' (by rw[hx];exact hk)),
   λuA hk=>let⟨k1,h1,h2⟩:=dZ.2 uA (by rw[hx];exact hk);⟨k1,h1,st.trans h2⟩⟩
 | goto l =>
  have hx:gotoIn l (.inBlock id::k)=gotoIn l k:=by simp[gotoIn]
  exact⟨_,a1,w1,hq,λk' hk=>st.trans (dZ.1 k' (by rw[hx];exact hk)),
   λuA hk=>let⟨k1,h1,h2⟩:=dZ.2 uA (by rw[hx];exact hk);⟨k1,h1,st.trans h2⟩⟩
 | ret=>exact⟨_,a1,w1,hq,.of_steps st dZ⟩
 | panic ch=>exact⟨_,a1,w1,hq,.of_steps st dZ⟩
 | outgrown=>exact⟨_,a1,w1,hq,.of_steps (b:=b) (k:=k) (cs:=cs) (e:=.outgrown) st dZ⟩
theorem Rn{b:Frame}{a:Act}{k:List Item}{cs:List Frame}{w:World}{c:Code} :
  step P (lone (b.atR a (.code (.scope c)::k)) cs w)=.next (lone (b.atR a (.code c :: .inScope c::k)) cs w) :=
 step_lone_go (by simp[stepG,stepG.exec,Frame.atR])
theorem Lj{b:Frame}{a:Act}{k:List Item}{cs:List Frame}{w:World}{c:Code} :
  step P (lone (b.atR a (.inScope c::k)) cs w)=.next (lone (b.atR a k) cs w) :=
 step_lone_go (by simp[stepG,stepG.exec,Frame.atR])
theorem zd2{c:Code}(h:Dk r n P c (Exit.noGoto Q) a w):Dk r n P (.scope c) Q a w:=by
 intro b k cs vO hb hr;obtain⟨e,a1,w1,hq,dZ⟩:=h b (.inScope c::k) cs vO hb hr;have h0:(lone (b.atR a (.code (.scope c)::k)) cs w).fenced P (FR r):=fenced_calm hb hr rfl;have st:=StepsIn.one h0 (Rn (P:=P) (b:=b) (a:=a) (k:=k) (cs:=cs) (w:=w) (c:=c));cases e with
 | normal=>exact⟨.normal,a1,w1,hq,(st.trans dZ).trans (.one (fenced_calm hb hr rfl) Lj)⟩
 | exit id =>
  refine⟨.exit id,a1,w1,hq,λk' hk=>st.trans (dZ.1 k' (by simp[exitTo,hk])),λuA hk=>?_⟩;obtain⟨k1,h1,h2⟩:=dZ.2 uA (by simp[exitTo,hk]);exact⟨k1,h1,st.trans h2⟩
 | goto l=>exact hq.elim
 | ret=>exact⟨.ret,a1,w1,hq,jy.of_steps (e:=.ret) st dZ⟩
 | panic ch=>exact⟨.panic ch,a1,w1,hq,jy.of_steps (e:=.panic ch) st dZ⟩
 | outgrown=>exact⟨_,a1,w1,hq,.of_steps (b:=b) (k:=k) (cs:=cs) (e:=.outgrown) st dZ⟩
def VC(r:Option Nat)(n:Nat)(P:Program)(c:Code)(Q:Exit->Act->World->Prop)(a:Act)(w:World):Prop :=
 ∀(b:Frame)(k:List Item)(cs:List Frame),b.roundOf=(FR r).round->(FR r).fn b.fn->(FR r).room (cs.length+1+n) ->
  ∃e a' w',Q e a' w'/\jy (Machine.fenced P (FR r)) P (lone (b.atR a (.code c :: .inLoop c::k)) cs w) b k cs e a' w'
theorem G9{c:Code}(h:VC r n P c Q a w):Dk r n P (.loop c) Q a w:=by
 intro b k cs vO hb hr;obtain⟨e,a',w',hq,dZ⟩:=h b k cs vO hb hr;exact⟨e,a',w',hq,.of_steps (.one (fenced_calm hb hr rfl) stepR_loop) dZ⟩
theorem Ha{c:Code}(h:Dk r n P c (Exit.then (VC r n P c Q) Q) a w):VC r n P c Q a w:=by
 intro b k cs vO hb hr;obtain⟨e,a1,w1,hq,dZ⟩:=h b (.inLoop c::k) cs vO hb hr;cases e with
 | normal =>
  obtain⟨e2,a2,w2,hq2,Dl⟩:=hq b k cs vO hb hr;exact⟨e2,a2,w2,hq2,.of_steps (StepsIn.trans dZ (.one (fenced_calm hb hr rfl) stepR_inLoop)) Dl⟩
 | exit id=>exact⟨_,a1,w1,hq,.pass (x:=.inLoop c) rfl (by simp) dZ⟩
 | goto l=>exact⟨_,a1,w1,hq,.pass (x:=.inLoop c) rfl (by simp) dZ⟩
 | ret=>exact⟨_,a1,w1,hq,.pass (x:=.inLoop c) rfl (by simp) dZ⟩
 | panic ch=>exact⟨_,a1,w1,hq,.pass (x:=.inLoop c) rfl (by simp) dZ⟩
 | outgrown=>exact⟨_,a1,w1,hq,.pass (x:=.inLoop c) rfl (by simp) dZ⟩
theorem znD{ops:Array Oper}(l:List Nat):∀(a:Act)(w:World),wpOpsIn (FR r) n P ops Q l a w->∀(b:Frame)(k:List Item)(cs:List Frame),b.roundOf=(FR r).round->(FR r).fn b.fn->(FR r).room (cs.length+1+n) ->
  ∃e a' w',Q e a' w'/\jy (Machine.fenced P (FR r)) P (lone (b.atR a (.inRegion ops l::k)) cs w) b k cs e a' w':=by
 induction l with
 | nil=>exact λa w h b k cs _ hb hr=>⟨.normal,a,w,h,.one (fenced_calm hb hr rfl) stepR_region_end⟩
 | cons i rest ih =>
  intro a w h b k cs vO hb hr;simp only[wpOpsIn]at h;cases ho:ops[i]? with
  | none =>
   simp only[ho]at h;obtain⟨e,a',w',hq,dZ⟩:=ih a w h b k cs vO hb hr;have hs:=stepR_op_skip (P:=P) (b:=b) (a:=a) (k:=k) (cs:=cs) (w:=w) (ops:=ops) (i:=i) (rest:=rest) (by simp[ho]);simp only[ho,Option.bind_none,Act.put]at hs;exact⟨e,a',w',hq,.of_steps (.one (fenced_noOper hb hr ho) hs) dZ⟩
  | some o =>
   simp only[ho]at h;by_cases hw:Region.wanted o (yielded ops a.tmps)=true;simp only [hw,OV,Oper.wpIn]at h;obtain⟨zaL,h⟩:=h;have h0:(lone (b.atR a (.inRegion ops (i::rest)::k)) cs w).fenced P (FR r):=fenced_oper hb hr ho zaL;simp only[Oper.uponIn]at h;have hg:=stepGR_op (P:=P) (b:=b) (k:=k) (cs:=cs) (w:=w) (rest:=rest) ho hw;rw[vO]at hg;have zlR:∀v,(b.atR a (.inRegion ops (i::rest)::k)).finish v=b.atR (a.put o.dst v) (.inRegion ops rest::k):=by
    intro v;rw[Frame.finish_atR,ho];rfl
   split at h;rename_i v w' uA;obtain⟨e,a',zL,hq,dZ⟩:=ih _ _ h b k cs vO hb hr;refine⟨e,a',zL,hq,.of_steps (.one h0 (step_lone_go ?_)) dZ⟩;rw[hg,<- zlR];simp[stepG.apply,uA];rename_i w' uA;obtain⟨e,a',zL,hq,dZ⟩:=ih _ _ h b k cs vO hb hr;refine⟨e,a',zL,hq,.of_steps (.one h0 (step_lone_go ?_)) dZ⟩;rw[hg,<- zlR];simp[stepG.apply,uA];rename_i d w' uA;obtain⟨e,a',zL,hq,dZ⟩:=ih _ _ h b k cs vO hb hr;refine⟨e,a',zL,hq,.of_steps (.one h0 (step_lone_go ?_)) dZ⟩
   have:({b.atR a (.inRegion ops (i::rest)::k)with defers:=d::a.defers}:Frame).finish undef =
     b.atR ({a with defers:=d::a.defers}.put o.dst undef) (.inRegion ops rest::k):=by
    have:=Frame.finish_atR b {a with defers:=d::a.defers} ops i rest k undef;rw[ho]at this;exact this
   rw[hg];simp only[stepG.apply,Sem.runT_eq,uA,GStep.bare_after];exact kz (λfr=>GStep.go {frame:=fr,callers:=cs,status:=.running,dying:=none} w') this
   ·rename_i f args w' uA;obtain⟨hn,hF,h⟩:=h;have EM:(FR r).room ((b.atR a (.inRegion ops (i::rest)::k)::cs).length+1+(n-1)):=Fence.room_enter hr hn;obtain⟨e,zL,fr,hR,pM,sU,xm⟩:=h (b.atR a (.inRegion ops (i::rest)::k)::cs) EM;have pO:step P (lone (b.atR a (.inRegion ops (i::rest)::k)) cs w)=.next (lone (Frame.enter P f args .normal) (b.atR a (.inRegion ops (i::rest)::k)::cs) w') :=
     step_lone_go (by rw[hg];simp[stepG.apply,uA,Frame.atR])
    cases e with
    | returned v =>
     have hl:(lone fr (b.atR a (.inRegion ops (i::rest)::k)::cs) zL).fenced P (FR r):=fenced_leaving (sU▸hF) EM xm;obtain⟨e,a',w3,hq,dZ⟩:=ih _ _ hR b k cs vO hb hr;refine⟨e,a',w3,hq,.of_steps (.head h0 pO (StepsIn.trans pM (.one hl ?_))) dZ⟩;rw[<- zlR];exact step_leave_returned xm
    | panicked chain =>
     have hl:(lone fr (b.atR a (.inRegion ops (i::rest)::k)::cs) zL).fenced P (FR r):=fenced_leaving (sU▸hF) EM xm;refine⟨.panic chain,a,zL,hR,.inRegion ops (i::rest)::k,rfl,.head h0 pO (StepsIn.trans pM (.one hl ?_))⟩;rw[<- Frame.raise_atR];exact step_leave_panicked xm
    | outgrown =>
     obtain⟨a0,w0,hq⟩:=hR;exact⟨.outgrown,a0,w0,hq,.inr (Outgrown.of_steps (.one pO) pM)⟩
   rename_i row args w' uA;obtain⟨hn,h⟩:=h;obtain⟨v,zL,hR,pM⟩:=h (b.atR a (.inRegion ops (i::rest)::k)) cs (Fence.room_enter hr hn);have pO:step P (lone (b.atR a (.inRegion ops (i::rest)::k)) cs w)=.next (lone (Frame.ofRow P row args .normal) (b.atR a (.inRegion ops (i::rest)::k)::cs) w') :=
    step_lone_go (by rw[hg];simp[stepG.apply,uA,Frame.atR])
   obtain⟨e,a',w3,hq,dZ⟩:=ih _ _ hR b k cs vO hb hr;refine⟨e,a',w3,hq,.of_steps (.head h0 pO ?_) dZ⟩;rw[<- zlR];exact pM
   ·rename_i l f tmps assign body w' uA;obtain⟨hn,_,h⟩:=h;obtain⟨e,zL,hR,pM⟩:=h (b.atR a (.inRegion ops (i::rest)::k)) cs (Fence.room_enter hr hn);have pO:step P (lone (b.atR a (.inRegion ops (i::rest)::k)) cs w)=.next (lone (Frame.round l f tmps assign body .normal) (b.atR a (.inRegion ops (i::rest)::k)::cs) w') :=
     step_lone_go (by rw[hg];simp[stepG.apply,uA,Frame.atR])
    cases e with
    | returned v =>
     obtain⟨e,a',w3,hq,dZ⟩:=ih _ _ hR b k cs vO hb hr;refine⟨e,a',w3,hq,.of_steps (.head h0 pO ?_) dZ⟩;rw[<- zlR];exact pM
    | panicked chain =>
     refine⟨.panic chain,a,zL,hR,.inRegion ops (i::rest)::k,rfl,.head h0 pO ?_⟩;rw[<- Frame.raise_atR];exact pM
    | outgrown =>
     obtain⟨a0,w0,hq⟩:=hR;exact⟨.outgrown,a0,w0,hq,.inr (Outgrown.of_steps (.one pO) pM)⟩
   rename_i v w' uA;refine⟨.panic [{v,recovered:=false}],a,w',h,.inRegion ops (i::rest)::k,rfl,.one h0 (step_lone_go ?_)⟩;rw[hg,<- Frame.raise_atR];simp[stepG.apply,uA];exact h.elim;simp only [hw,qds,qd4]at h;obtain⟨zaL,h⟩:=h;have h0:(lone (b.atR a (.inRegion ops (i::rest)::k)) cs w).fenced P (FR r):=fenced_oper hb hr ho zaL;obtain⟨e,a',w',hq,dZ⟩:=ih _ _ h b k cs vO hb hr;have hs:=stepR_op_skip (P:=P) (b:=b) (a:=a) (k:=k) (cs:=cs) (w:=w) (ops:=ops) (i:=i) (rest:=rest) (by simpa [ho]using hw);rw[ho]at hs;exact⟨e,a',w',hq,.of_steps (.one h0 hs) dZ⟩
theorem Ll{id:Nat}{ops:Array Oper}(h:wpOpsIn (FR r) n P ops Q (List.range ops.size) a w):Dk r n P (.region id ops false) Q a w:=λb k cs vO hb hr=>by
 obtain⟨e,a',w',hq,dZ⟩:=znD _ a w h b k cs vO hb hr;exact⟨e,a',w',hq,.of_steps (.one (fenced_calm hb hr rfl) stepR_region) dZ⟩
theorem Za{P:Program}{fr:Frame}(h:zw2 fr.todo=true):fr.catches P=false:=by
 unfold Frame.catches;split;rename_i e;rw[e]at h;cases h;rfl
theorem zU{P:Program}{fr c:Frame}{cs:List Frame}{w:World}{chain:List PanicEntry}(hm:fr.mode=.panicking chain)(hd:fr.defers=[])(ht:zw2 fr.todo=true):step P (lone fr (c::cs) w)=.next (lone (c.raise chain) cs w) :=
 step_lone_go (by simp[stepG,unwind,hm,hd,Za ht])
def Zb(P:Program)(l:Nat)(R:Ending→World→Prop):Exit→Act→World→Prop|.normal,_,w=>∃v w',(Instr.endRound l none).run P w=.ok v w'/\R (.returned v) w'|.ret,_,w=>∃v w',(Instr.endRound l (some .ret)).run P w=.ok v w'/\R (.returned v) w'|.exit id,_,w=>∃v w',(Instr.endRound l (some (.exit id))).run P w=.ok v w'/\R (.returned v) w'|.goto t,_,w=>∃v w',(Instr.endRound l (some (.goto t))).run P w=.ok v w'/\R (.returned v) w'|.panic ch,a,w=>a.defers=[]/\R (.panicked ch) w|.outgrown,_,_=>False
theorem Lm{l n:Nat}{P:Program}{f:FuncId}{tmps:Array Value}{assign body:Code}{w:World}{R:Ending→World→Prop}
    (h:Dk (some l) n P assign (Exit.then (λa1 w1=>∃w2,(Instr.beginRound l).run P w1=.ok () w2/\Dk (some l) n P body (Zb P l R) a1 w2) (λ_ _ _=>False)) {tmps:=tmps,defers:=[]} w) :
    RoundIn Fence.wide n P l f tmps assign body w R:=by
  refine⟨trivial,λc cs hr=>?_⟩;let b:Frame:={(default:Frame)with fn:=f,kind:=.normal,roundOf:=some l};have hb0:Frame.round l f tmps assign body .normal=b.atR {tmps:=tmps,defers:=[]} [.code assign,.beginRound,.code body]:=by
    simp[Frame.round,Frame.atR,b]
  have uA:(FR (some l)).room ((c::cs).length+1+n):=hr;obtain⟨e,a1,w1,hq,dZ⟩:=h b [.beginRound,.code body] (c::cs) rfl trivial uA;rw[<- hb0]at dZ;have back:∀{m m':Machine},StepsIn (Machine.fenced P (FR (some l))) P m m'->StepsIn (Machine.fenced P Fence.wide) P m m':=λh=>stepsIn_wide.2 (StepsIn.steps h);cases e with
  | normal =>
    obtain⟨w2,hbr,rP⟩:=hq;have s1:StepsIn (Machine.fenced P (FR (some l))) P (lone (b.atR a1 [.beginRound,.code body]) (c::cs) w1) (lone (b.atR a1 [.code body]) (c::cs) w2) :=
      .one (fenced_calm (fr:=b.atR a1 [.beginRound,.code body]) trivial uA rfl) (stepR_beginRound rfl hbr)
    obtain⟨e2,a2,w3,hq2,Dl⟩:=rP b [] (c::cs) rfl trivial uA;cases e2 with
    | normal =>
      obtain⟨v,w4,oU,hR⟩:=hq2;exact⟨.returned v,w4,hR,back ((StepsIn.trans dZ s1).trans (StepsIn.trans Dl (.one (fenced_calm (fr:=b.atR a2 []) trivial uA rfl) (stepR_round_end rfl rfl oU))))⟩
    | ret =>
      obtain⟨v,w4,oU,hR⟩:=hq2;obtain⟨k1,hs⟩:=Dl.2 rfl;exact⟨.returned v,w4,hR,back ((StepsIn.trans dZ s1).trans (StepsIn.trans hs (.one (fenced_calm (fr:=b.atR a2 (.code .ret::k1)) trivial uA rfl) (stepR_round_ret rfl rfl oU))))⟩
    | exit id =>
      obtain⟨v,w4,oU,hR⟩:=hq2;obtain⟨k1,hx,hs⟩:=Dl.2 rfl rfl;exact⟨.returned v,w4,hR,back ((StepsIn.trans dZ s1).trans (StepsIn.trans hs (.one (fenced_calm (fr:=b.atR a2 (.code (.exit id)::k1)) trivial uA rfl) (stepR_round_exit rfl rfl hx oU))))⟩
    | goto t =>
      obtain⟨v,w4,oU,hR⟩:=hq2;obtain⟨k1,hx,hs⟩:=Dl.2 rfl rfl;exact⟨.returned v,w4,hR,back ((StepsIn.trans dZ s1).trans (StepsIn.trans hs (.one (fenced_calm (fr:=b.atR a2 (.code (.goto t)::k1)) trivial uA rfl) (stepR_round_goto rfl rfl hx oU))))⟩
    | panic ch =>
      obtain⟨hd,hR⟩:=hq2;obtain⟨todo,ht,hs⟩:=Dl;refine⟨.panicked ch,w3,hR,back ((StepsIn.trans dZ s1).trans (StepsIn.trans hs (.one ?_ (zU rfl hd ht))))⟩;refine fenced_calm (fr:={b.atR a2 todo with mode:=.panicking ch}) trivial uA ?_;simp[Frame.about,Frame.atR,hd]
    | outgrown=>exact hq2.elim
  | exit id=>exact hq.elim
  | goto l=>exact hq.elim
  | ret=>exact hq.elim
  | panic chain=>exact hq.elim
  | outgrown=>exact hq.elim
theorem Oo{r:Option Nat}{n:Nat}{P:Program}{Q:Exit→Act→World→Prop}{a:Act}{w:World}{g:Operand}{ps:Array Tmp}{assign body:Code}
    (h:∀fn,∃(l:Nat)(mark:List Deferred)(w₁:World)(d:Deferred)(w₁':World)(f:FuncId)(args:Array Value)(w₂:World),
      (Instr.enterLoop fn a.tmps ps assign body (FR r).round).run P w=.ok (l,mark) w₁ /\
      (resolve a.eval (rangeCall g l) 0).run P w₁=.ok d w₁' /\
      (invoke d.target d.args).run P w₁'=.ok (.enter f args) w₂ /\
      CallsIn (FR r) (n-1) P f args w₂ (λe w₃=>match e with
        | .returned _=>∃jump w₄,(Instr.endLoop l).run P w₃=.ok jump w₄/\(match jump with
          | none=>Q .normal {a with defers:=mark++a.defers} w₄
          | some c=>Dk r n P c Q {a with defers:=mark++a.defers} w₄)
        | .panicked chain=>Q (.panic chain) {a with defers:=mark++a.defers} w₃
        | .outgrown=>False)) :
    Dk r n P (.rangeFunc g ps assign body) Q a w:=by
  intro b k cs vO hb hr;obtain⟨l,mark,w₁,d,w₁',f,args,w₂,he,og,hinv,hF,fJ⟩:=h b.fn;rw[<- vO]at he;have h0:(lone (b.atR a (.code (.rangeFunc g ps assign body)::k)) cs w).fenced P (FR r):=fenced_lone (.inl trivial) (λ_ _=>trivial) (Fence.room_le hr omY);have pO:=stepR_rangeFunc (P:=P) (b:=b) (a:=a) (k:=k) (cs:=cs) (w:=w) he og hinv;have EM:(FR r).room ((b.atR {a with defers:=mark++a.defers} (.inRangeFunc l::k)::cs).length+1+(n-1)):=Fence.room_enter hr (λh=>by simp[FR]at h);obtain⟨e,w₃,fr,hR,pM,sU,xm⟩:=fJ (b.atR {a with defers:=mark++a.defers} (.inRangeFunc l::k)::cs) EM;cases e with
  | outgrown=>exact hR.elim
  | returned v =>
    have hl:(lone fr (b.atR {a with defers:=mark++a.defers} (.inRangeFunc l::k)::cs) w₃).fenced P (FR r):=fenced_leaving (sU▸hF) EM xm;obtain⟨jump,w₄,oU,hj⟩:=hR;have zwf:StepsIn (Machine.fenced P (FR r)) P (lone (b.atR a (.code (.rangeFunc g ps assign body)::k)) cs w) (lone (b.atR {a with defers:=mark++a.defers} ((jump.map Item.code).toList++k)) cs w₄):=by
      refine .head h0 pO (StepsIn.trans pM (.head hl ?_ (.one (fenced_calm (fr:=b.atR {a with defers:=mark++a.defers} (.endRangeFunc l::k)) hb hr rfl) (stepR_endRangeFunc oU))));rw[<- finish_atR_inRangeFunc l v];exact step_leave_returned xm
    cases jump with
    | none=>exact⟨.normal,_,w₄,hj,zwf⟩
    | some c =>
      obtain⟨e',a'',w₅,hq,dZ⟩:=hj b k cs vO hb hr;exact⟨e',a'',w₅,hq,.of_steps zwf dZ⟩
  | panicked chain =>
    have hl:(lone fr (b.atR {a with defers:=mark++a.defers} (.inRangeFunc l::k)::cs) w₃).fenced P (FR r):=fenced_leaving (sU▸hF) EM xm;refine⟨.panic chain,_,w₃,hR,.inRangeFunc l::k,rfl,.head h0 pO (StepsIn.trans pM (.one hl ?_))⟩;rw[<- Frame.raise_atR];exact step_leave_panicked xm
end
end Go.Pm
namespace Go.Pm
variable [aH]
open Go.RowKit (Below)
theorem yF{P:Program}:∀(l:List (Nat×Nat×Nat))(σ τ:St),Bh σ τ→(l7 P l σ=none∧l7 P l τ=none)∨∃σ' τ',l7 P l σ=some σ'∧l7 P l τ=some τ'∧Bh σ' τ'
  | [],σ,τ,h=>.inr ⟨σ,τ,rfl,rfl,h⟩
  | (t,L,e)::r,σ,τ,h=>by
    simp only[l7];rw[<- h.env,<- h.aB];split;split;split;refine yF r _ _ ⟨fun s => ?_,fun s => ?_,h.log⟩;simp only[aW,h.env];simp only[aW,h.aB];exact .inl ⟨rfl,rfl⟩;exact .inl ⟨rfl,rfl⟩;exact yF r _ _ h;exact .inl ⟨rfl,rfl⟩
theorem yG{P:Program}:∀(l:List (Nat×Nat×Nat×Nat))(σ τ:St),Bh σ τ→(l9 P l σ=none∧l9 P l τ=none)∨∃σ' τ',l9 P l σ=some σ'∧l9 P l τ=some τ'∧Bh σ' τ'
  | [],σ,τ,h=>.inr ⟨σ,τ,rfl,rfl,h⟩
  | (B,k,L,e)::r,σ,τ,h=>by
    simp only[l9];rw[<- h.aB,<- h.aB];split;split;split;split;refine yG r _ _ ⟨h.env,fun s => ?_,h.log⟩;simp only[aW,h.aB];exact .inl ⟨rfl,rfl⟩;exact .inl ⟨rfl,rfl⟩;exact yG r _ _ h;exact .inl ⟨rfl,rfl⟩;exact .inl ⟨rfl,rfl⟩
theorem yH{P:Program}:∀(l:List (Nat×Nat×Nat×Nat×Nat))(σ τ:St),Bh σ τ→(mf P l σ=none∧mf P l τ=none)∨∃σ' τ',mf P l σ=some σ'∧mf P l τ=some τ'∧Bh σ' τ'
  | [],σ,τ,h=>.inr ⟨σ,τ,rfl,rfl,h⟩
  | (B,k,L,te,e)::r,σ,τ,h=>by
    simp only[mf];rw[<- h.aB,<- h.aB];split;split;split;split;split;refine yH r _ _ ⟨h.env,fun s => ?_,h.log⟩;simp only[aW,h.aB];exact .inl ⟨rfl,rfl⟩;exact .inl ⟨rfl,rfl⟩;exact .inl ⟨rfl,rfl⟩;exact yH r _ _ h;exact .inl ⟨rfl,rfl⟩;exact .inl ⟨rfl,rfl⟩
theorem yI:∀(l:List Nat)(σ τ:St),Bh σ τ→(mg l σ=none∧mg l τ=none)∨∃σ' τ',mg l σ=some σ'∧mg l τ=some τ'∧Bh σ' τ'
  | [],σ,τ,h=>.inr ⟨σ,τ,rfl,rfl,h⟩
  | t::r,σ,τ,h=>by
    have ho:lk σ.aB=lk τ.aB:=funext h.aB;simp only[mg];rw[<- h.env,<- ho];split;split;refine yI r _ _ ⟨fun s => ?_,h.aB,h.log⟩;simp only[aW,h.env];split;refine yI r _ _ ⟨fun s => ?_,fun s => ?_,h.log⟩;simp only[aW,h.env];simp only[gU,h.aB];exact .inl ⟨rfl,rfl⟩;exact .inl ⟨rfl,rfl⟩
theorem FH{α:Type}{f:α→α}{l l':List (Nat×α)}(h:∀t,lk l t=lk l' t):∀ks,xu f l ks=xu f l' ks|[]=>rfl|t::r=>by simp only[xu,h,FH h r]
theorem zhz{ob ob':Nat->Option AO}(h:∀t,ob t=ob' t):∀ks,EY ob ks=EY ob' ks:=by
 intro ks;have:ob=ob':=funext h;rw[this]
theorem zhA{ob ob':Nat->Option AO}(h:∀t,ob t=ob' t):∀ks,Oe ob ks=Oe ob' ks:=by
 intro ks;have:ob=ob':=funext h;rw[this]
theorem Zc{P:Program}{k:Keep}{σ τ:St}(h:Bh σ τ):yf P k σ=yf P k τ:=by
 unfold yf;rcases yF (P:=P) k.coT σ τ h with⟨h1,h2⟩|⟨σ1,τ1,h1,h2,h3⟩
 rw[h1,h2];rw [h1,h2];simp only;rcases yG (P:=P) k.coB σ1 τ1 h3 with⟨h4,h5⟩|⟨σ2,τ2,h4,h5,h6⟩
 rw[h4,h5];rw [h4,h5];simp only;rcases yH (P:=P) k.coV σ2 τ2 h6 with⟨h7,h8⟩|⟨σ3,τ3,h7,h8,h9⟩
 rw[h7,h8];rw [h7,h8];simp only;rw[FH h9.env,show lk σ3.aB=lk τ3.aB from funext h9.aB];rw[FH h9.aB]
theorem zhB{σ τ:St}{n:Nat}(h:Bh σ τ):Bh (zdp σ n) (zdp τ n):=by
 have ho:lk σ.aB=lk τ.aB:=funext h.aB;unfold zdp;rw[<- ho]
 repeat' split
 all_goals first
  | exact h
  | exact⟨h.env,λt=>by simp only[jqA,aW,h.aB],h.log⟩
theorem zbC:∀(l:List Nat){σ τ:St},Bh σ τ→Bh (coP l σ) (coP l τ)|[],_,_,h=>h|_::r,_,_,h=>zbC r (zhB h)
theorem zd3{P:Program}{k:Keep}{σ τ:St}(h:Bh σ τ):canon P k σ=canon P k τ:=by
 unfold canon;have h1:Bh (zdo k.coF σ) (zdo k.coF τ):=⟨h.env,λt=>by simp only[zdo,gU,h.aB,zhz h.aB,zhA h.aB],h.log⟩;rcases yI k.coZ _ _ (zbC k.coF h1)with⟨h2,h3⟩|⟨σ1,τ1,h2,h3,h4⟩
 rw[h2,h3];rw[h2,h3];simp only;rw[Zc h4]
section
variable{P:Program}{Γ:bI}{nt B:Nat}{w0:World}{h0:Fz}{r:Option Nat}{n:Nat}
theorem lU{b:Frame}{a:Act}{k:List Item}{cs:List Frame}{w:World}{c:Code} :
  step P (lone (b.atR a (.code (.scope c)::k)) cs w)=.next (lone (b.atR a (.code c :: .inScope c::k)) cs w) :=
 step_lone_go (by simp[stepG,stepG.exec,Frame.atR])
theorem Oq{b:Frame}{a:Act}{k:List Item}{cs:List Frame}{w:World}{c:Code} :
  step P (lone (b.atR a (.inScope c::k)) cs w)=.next (lone (b.atR a k) cs w) :=
 step_lone_go (by simp[stepG,stepG.exec,Frame.atR])
theorem Zd{c:Code}{Q:Exit->Act->World->Prop}{a:Act}{w:World}{F:Fence}(h:c.wpIn F n P (Exit.noGoto Q) a w):(Code.scope c).wpIn F n P Q a w:=by
 intro b k cs vO hb hr;obtain⟨e,a₁,w₁,hq,dZ⟩:=h b (.inScope c::k) cs vO hb hr;have h0:(lone (b.atR a (.code (.scope c)::k)) cs w).fenced P F:=fenced_calm hb hr rfl;cases e with
 | normal=>exact⟨.normal,a₁,w₁,hq,.head h0 lU (StepsIn.trans dZ (.one (fenced_calm hb hr rfl) Oq))⟩
 | exit id =>
  refine⟨.exit id,a₁,w₁,hq,λk' hk=>.head h0 lU (dZ.1 k' (by simp[exitTo,hk])),λuA hk=>?_⟩;obtain⟨k₁,h1,h2⟩:=dZ.2 uA (by simp[exitTo,hk]);exact⟨k₁,h1,.head h0 lU h2⟩
 | goto l=>exact hq.elim
 | ret=>exact⟨_,a₁,w₁,hq,.of_steps (.one h0 lU) dZ⟩
 | panic ch=>exact⟨_,a₁,w₁,hq,.of_steps (.one h0 lU) dZ⟩
 | outgrown=>exact⟨_,a₁,w₁,hq,.of_steps (b:=b) (k:=k) (cs:=cs) (e:=.outgrown) (.one h0 lU) dZ⟩
def VD(F:Fence)(n:Nat)(P:Program)(c:Code)(Q:Exit->Act->World->Prop)(a:Act)(w:World):Prop :=
 ∀(b:Frame)(k:List Item)(cs:List Frame),b.roundOf=F.round->F.fn b.fn->F.room (cs.length+1+n) ->
  ∃e a' w',Q e a' w'/\ArrivesIn (Machine.fenced P F) P (lone (b.atR a (.code c :: .inLoop c::k)) cs w) b k cs e a' w'
theorem He{F:Fence}{c:Code}{Q:Exit->Act->World->Prop}{a:Act}{w:World}(h:VD F n P c Q a w):(Code.loop c).wpIn F n P Q a w:=by
 intro b k cs vO hb hr;obtain⟨e,a',w',hq,dZ⟩:=h b k cs vO hb hr;exact⟨e,a',w',hq,.of_steps (.one (fenced_calm hb hr rfl) stepR_loop) dZ⟩
theorem Hf{F:Fence}{c:Code}{Q:Exit->Act->World->Prop}{a:Act}{w:World}(h:c.wpIn F n P (Exit.then (VD F n P c Q) Q) a w):VD F n P c Q a w:=by
 intro b k cs vO hb hr;obtain⟨e,a₁,w₁,hq,dZ⟩:=h b (.inLoop c::k) cs vO hb hr;cases e with
 | normal =>
  obtain⟨e₂,a₂,w₂,hq₂,zLM⟩:=hq b k cs vO hb hr;exact⟨e₂,a₂,w₂,hq₂,.of_steps (StepsIn.trans dZ (.one (fenced_calm hb hr rfl) stepR_inLoop)) zLM⟩
 | exit id=>exact⟨_,a₁,w₁,hq,.pass (x:=.inLoop c) rfl (λ_ _=>.inl (by simp)) dZ⟩
 | goto l=>exact⟨_,a₁,w₁,hq,.pass (x:=.inLoop c) rfl (λ_ _=>.inl (by simp)) dZ⟩
 | ret=>exact⟨_,a₁,w₁,hq,.pass (x:=.inLoop c) rfl (λ_ _=>.inl (by simp)) dZ⟩
 | panic ch=>exact⟨_,a₁,w₁,hq,.pass (x:=.inLoop c) rfl (λ_ _=>.inl (by simp)) dZ⟩
 | outgrown=>exact⟨_,a₁,w₁,hq,.pass (x:=.inLoop c) rfl (λ_ _=>.inl (by simp)) dZ⟩
def PostR(P:Program)(nt B:Nat)(w0:World)(h0:Fz)(D:List Nat)(a0:Act)(K:Exit->St->Prop):Exit->Act->World->Prop :=
 λe a' w'=>∃g' σ',K e σ'/\bW P nt B w0 h0 g' σ' a' w'/\Kp D a0 a'
def Snd(P:Program)(Γ:bI)(aQ:dG)(B:Nat)(w0:World)(c:Code):Prop :=
 ∀(r:Option Nat)(n:Nat)(h0:Fz)(D:List Nat)(a0:Act)(K:Exit->St->Prop)(σ:St)(g:Gh)(a:Act)(w:World),(∀t∈eu c,t∈D)->Rnd r h0->vc P Γ aQ c K σ ->
  bW P aQ.nt B w0 h0 g σ a w->Kp D a0 a->Dk r n P c (PostR P aQ.nt B w0 h0 D a0 K) a w
theorem Dn:∀{l:List Oper}{j:Nat}{o:Oper}{t:Nat},l[j]? = some o→o.dst=some t→t∈Iq l
  | [],j,o,t,h,_=>by simp at h
  | x::l,j,o,t,h,hd=>by
    cases j with
    | zero =>
      simp only[qdy,bQ]at h;subst h;simp only[Iq,hd];exact kQ
    | succ j =>
      have:=Dn (l:=l) (j:=j) (by simpa using h) hd;simp only[Iq];split;exact jS _ this;exact this
theorem PY(fP:jk P Γ)(aQ:dG){id:Nat}{ops:Array Oper}{draw:Bool}{K:St→Prop}{Q:Exit→Act→World→Prop}{D:List Nat}{a0:Act}{σ:St}{g:Gh}{a:Act}{w:World}
    (hD:∀t∈Iq ops.toList,t∈D) (h:OZ P Γ aQ id ops draw K σ) (S:bW P aQ.nt B w0 h0 g σ a w) (kN:Kp D a0 a)
    (hQ:∀g' σ' a' w',K σ'->bW P aQ.nt B w0 h0 g' σ' a' w'->Kp D a0 a'->a'.defers=a.defers->Q .normal a' w'):Dk r n P (.region id ops draw) Q a w:=by
  have hD':∀(j:Nat)(o:Oper),ops[j]? = some o->∀t,o.dst=some t->t∈D:=λj o ho t ht=>hD t (Dn (by simpa using ho) ht);have zPK:∀σ',(match lk aQ.reg id with|some k=>(match canon P k σ' with|some s=>K s|none=>False)|none=>K σ')->∀g' a' w',bW P aQ.nt B w0 h0 g' σ' a' w'->Kp D a0 a'->a'.defers=a.defers->Q .normal a' w':=by
    intro σ' h g' a' w' S jD EL;split at h;split at h;rename_i s hs;obtain⟨g2,S2⟩:=eF hs S;exact hQ g2 s a' w' h S2 jD EL;exact h.elim;exact hQ g' σ' a' w' h S jD EL
  simp only[OZ]at h;cases draw with
  | false =>
    refine Ll ?_;exact GU fP hD' h (S.log _) kN zPK
  | true =>
    simp only at h;split at h;rename_i hc;simp only[gz]at hc;refine oM (Q:=λe a w=>e=.normal/\Q .normal a w) (zdZ ?_ λch a w h=>by cases h.1) λe a w h=>by obtain⟨rfl,h⟩:=h;exact h
    refine Y6 (K:=λσ'=>match lk aQ.reg id with
      | some k=>match canon P k σ' with|some s=>K s|none=>False
      | none=>False) fP hD' kN hc.1.1 hc.1.2 hc.2 (λσ τ he hσ=>?_) h (S.log []) ?_
    split at hσ;rename_i k hk;rw[zd3 he]at hσ;exact hσ;exact hσ.elim;intro σ' h g' a' w' S jD EL;split at h;split at h;rename_i s hs;obtain⟨g2,S2⟩:=eF hs S;exact⟨rfl,hQ g2 s a' w' h S2 jD EL⟩;exact h.elim;exact h.elim;exact h.elim
theorem FI{α:Type}:∀{l p:List α}{x:α},o7 l=some (p,x)→l=p++[x]
  | [],p,x,h=>by cases h
  | o::r,p,x,h=>by
    simp only[o7]at h;split at h;rename_i q y hq;cases h;rw[qdJ,<- FI hq]
    · rename_i hq;cases h;cases r with|nil=>rfl|cons a r=>simp only[o7]at hq;split at hq<;>cases hq
theorem zhC{P:Program}{nt:Nat}{m p:Oper}{ty:TypeId}{x y:Nat}(h:zdr P nt m p=some (ty,x,y)) :
  m.op=.makeInterface ty (.tmp x)/\m.dst=some y/\m.guard=none/\p.op=.panic (.tmp y)/\p.guard=none/\y<nt/\∃fs,P.underlying ty=some (.struct fs):=by
 unfold zdr at h;split at h;rename_i Yl x' y1 y2 e1 e2 e3 e4 e5;split at h;rename_i hc;simp only[gz]at hc;split at h;rename_i fs hfs;cases h;have:=kP hc.1;subst this;exact⟨e1,e2,e3,e4,e5,by simpa [qjb]using hc.2,fs,hfs⟩;cases h;cases h;cases h
theorem zhD{Γ:bI}{o:Oper}{σ:St}{C:MK}{xs:List XA}{ds:List DV}{ls ms:List Nat}(h:zds Γ o σ=some (C,xs,ds,ls,ms)) :
  ∃f args ts gf caps,o.op=.call {callee:=.value f,args,argTypes:=ts}/\fK σ.env f=.one (.c (.clo gf caps))/\Γ.mt gf=some C/\ds=args.toList.map (fK σ.env)++caps.map capD/\jU (zdm gf args.size caps) (lk σ.aB) ds=some (xs,ls,ms):=by
 unfold zds at h;split at h;rename_i f args ts e1;split at h;rename_i gf caps e2;split at h;rename_i C' e3;split at h;rename_i xs' ls' ms' e4;cases h;exact⟨f,args,ts,gf,caps,e1,e2,e3,rfl,e4⟩;cases h;cases h;cases h;cases h
theorem zd4{ds:List DV}{ob:Nat→Option AO}{ls ms:List Nat}{rs:List PA}{ys:List XA}{i:Nat}{dst:Option Nat}{σ σ2:St}(h:Og i dst σ (pV ds ob ls ms rs ys)=some σ2) :
  ∃u,jL ob ds ys=some u/\(lY ls&&Nat.ble ms.length 1&&ms.all λM=>((u.filter λx=>!kS x.2).map (·.1)).contains M)=true/\∃fp,σ2=σ.upd i dst fp (resD rs) (u.filter λx=>!kS x.2) ms:=by
 unfold pV at h;split at h;rename_i u hu;split at h;rename_i hc;cases h;exact⟨u,hu,hc,_,rfl⟩;cases h;cases h
theorem Hg{o:Oper}{a:Act}{w w':World}{Q:Exit→Act→World→Prop}{next:Act→World→Prop}(zf:∀c,o.op ≠ .defer c){f:FuncId}{args:Array Value}(h:(execOp a.eval o).run P w = .ok (.enter f args) w')
    (hR:Calls P f args w' λe zL=>(∃v,e=.returned v/\next (a.put o.dst v) zL)\/∃ch,e=.panicked ch/\Q (.panic ch) a zL):o.wpIn (FR r) n P a w next Q:=by
  refine⟨λ_ _=>trivial,?_⟩;rw[Oper.semAt_eq _ _ _ zf,h,Oper.uponIn_enter];refine⟨λh=>by simp[FR]at h,(JX hR).mono ?_⟩;rintro e zL (⟨v,rfl,hv⟩|⟨ch,rfl,hv⟩);exact hv;exact hv
theorem Ze(fP:jk P Γ)(aQ:dG){id:Nat}{ops:Array Oper}{K:Exit→St→Prop}{D:List Nat}{a0:Act}{σ:St}{g:Gh}{a:Act}{w:World}
    (hD:∀t∈Iq ops.toList,t∈D) (h:JM P Γ aQ id ops K σ) (S:bW P aQ.nt B w0 h0 g σ a w) (kN:Kp D a0 a):Dk r n P (.region id ops false) (PostR P aQ.nt B w0 h0 D a0 K) a w:=by
  have hD':∀(j:Nat)(o:Oper),ops[j]? = some o->∀t,o.dst=some t->t∈D:=λj o ho t ht=>hD t (Dn (by simpa using ho) ht);refine Ll ?_;unfold JM at h;split at h
  rotate_left
  exact h.elim;rename_i p1 l hs;have e0:=FI hs;have jH:ops.size=p1.length+1:=by rw[<- qd7,e0];simp
  have at_:∀j:Nat,ops[j]? = (p1++[l])[j]?:=λj:Nat=>by rw[<- e0,jqB]
  split at h
  rotate_left
  exact h.elim;rename_i pre m hs1;have e1:=FI hs1;split at h
  · -- the region panics
    rename_i ty x y zw3;obtain⟨q1,q2,q3,q4,q5,q6,fs,q7⟩:=zhC zw3;have zL0:ops.size=pre.length+2:=by rw[jH,e1];simp
    have om:ops[pre.length]? = some m:=by rw[at_,e1];simp
    have ol:ops[pre.length+1]? = some l:=by rw[at_,e1];simp
    rw[qdp,zL0,show List.range' 0 (pre.length+2)=List.range' 0 pre.length++[pre.length,pre.length+1]by rw[show pre.length+2=pre.length+1+1 by rfl,qjV,qjV];simp];refine qP _ a w ?_;refine yB (r:=r) (n:=n) (ad:=a.defers) fP hD' ?_ pre 0 _ g a w (λj hj=>by rw[Oa,at_,e1,List.append_assoc,qjA hj]) h (S.log []) kN rfl;intro σ' hK g' a' w' S' zdY _;unfold zwB at hK;split at hK
    rotate_left
    exact hK.elim;rename_i k nn hx;have hv:a'.tmps.getD x undef=.agg #[.int k nn]:=by
      obtain⟨vs,e,hr⟩:=S'.env x _ hx
      match vs,hr with
      | [v],hr =>
        have:Rep g'.h (.int k nn) v:=hr.1;cases this;exact e
    show wpOpsIn (FR r) n P ops _ [pre.length,pre.length+1] a' w';have w1:∀tm,Region.wanted m (yielded ops tm)=true:=λtm=>by simp[Region.wanted,q3]
    have w2:∀tm,Region.wanted l (yielded ops tm)=true:=λtm=>by simp[Region.wanted,q5]
    simp only[wpOpsIn,om,ol,w1,w2,OV];have r1:(execOp a'.eval m).run P w'=.ok (.value (.iface ty (.agg #[.int k nn]))) w':=by
      simp only[execOp,q1,Instr.makeInterface,Act.eval,hv,Sem.run_bind,run_underlying q7,Result.andThen_ok,Sem.run_pure]
    have m1:∀c,m.op ≠ .defer c:=λc e=>by rw[q1]at e;cases e
    have m2:∀c,l.op ≠ .defer c:=λc e=>by rw[q4]at e;cases e
    refine⟨λ_ _=>trivial,?_⟩;rw[Oper.semAt_eq _ _ _ m1,r1,Oper.uponIn_value,q2];refine⟨λ_ _=>trivial,?_⟩;have ets:y<a'.tmps.size:=qdt q6 S'.size;have r2:(execOp (a'.put (some y) (.iface ty (.agg #[.int k nn]))).eval l).run P w'=.halt (.panic (.iface ty (.agg #[.int k nn]))) w':=by
      have ey:(a'.put (some y) (.iface ty (.agg #[.int k nn]))).eval (.tmp y)=.iface ty (.agg #[.int k nn]):=by
        simp[Act.put,Act.eval,xI,ets]
      simp only[execOp,q4,ey];rfl
    rw[Oper.semAt_eq _ _ _ m2,r2,Oper.uponIn_panic];have S2:=S'.put (dst:=some y) (d:=.junk) (v:=.iface ty (.agg #[.int k nn])) (by simpa [dI,qjb]using q6) trivial (λL hL=>by simp[cu,dC,bu]at hL) [];exact⟨g',_,hK,S2,zdY.put (λt ht=>hD' pre.length m om t (q2.trans ht)) _ a'.defers rfl⟩
  · -- the last operation is a call
    have ol:ops[p1.length]? = some l:=by rw[at_];simp
    rw[qdp,jH,show List.range' 0 (p1.length+1)=List.range' 0 p1.length++[p1.length]by rw[qjV];simp];refine qP _ a w ?_;refine yB (r:=r) (n:=n) (ad:=a.defers) fP hD' ?_ p1 0 _ g a w (λj hj=>by rw[Oa,at_,qjA hj]) h (S.log []) kN rfl;intro σ' hK g' a' w' S' zdY _;show wpOpsIn (FR r) n P ops _ [p1.length] a' w';unfold Yw at hK;split at hK
    rotate_left
    exact hK.elim;rename_i q5 q6;split at hK
    rotate_left
    exact hK.elim;rename_i C xs ds ls ms hm;obtain⟨f,args,ts,gf,caps,c1,c2,c3,c4,c5⟩:=zhD hm;split at hK
    rotate_left
    exact hK.elim;rename_i rs ys hC;obtain⟨cv,NR,ku⟩:=(iJ S' c2).1;have w1:∀tm,Region.wanted l (yielded ops tm)=true:=λtm=>by simp[Region.wanted,q5]
    simp only[wpOpsIn,ol,w1,OV];have df:dm P gf->(execOp a'.eval l).run P w'=.ok (.enter gf (args.toList.map a'.eval++cv).toArray) w':=by
      intro fJ;simp only[execOp,c1,resolve,NR,Deferred.ofValue,Sem.run_bind,Sem.run_pure,Result.andThen_ok,invoke];rw[show(#[]++Array.map a'.eval args++cv.toArray)=(args.toList.map a'.eval++cv).toArray by cases args;simp];exact ed fJ
    have OT:RL (qM g') ds (args.toList.map a'.eval++cv):=by rw[c4];exact(CS S' args.toList).append (QX ku)
    have main:∀(dst:Option Nat)(σ2:St),Og p1.length dst σ' (pV ds (lk σ'.aB) ls ms rs ys)=some σ2 ->
        dm P gf/\Calls P gf (args.toList.map a'.eval++cv).toArray w' λe w2=>∃g2 u fp,σ2=σ'.upd p1.length dst fp (resD rs) u ms/\QJ g2.h rs e/\bW P aQ.nt B w0 h0 g2 ⟨kills (gB ms) σ'.env,u++kills (eY ms) σ'.aB,σ'.log⟩ a' w2:=by
      intro dst σ2 h2;obtain⟨u,hu,dh,fp,hσ⟩:=zd4 h2;obtain⟨fJ,vZ⟩:=Vb fP S' c3 OT (zg7 ku (by simp)) c5 hC hu dh none;exact⟨fJ,vZ.mono λe w2 ⟨g2,he,S2⟩=>⟨g2,_,fp,hσ,he,S2⟩⟩
    split at hK
    · rename_i hpm;split at hK
      rotate_left
      exact hK.elim;rename_i σ2 h2;obtain⟨fJ,vZ⟩:=main _ _ h2;refine Hg (λc e=>by rw[c1]at e;cases e) (df fJ) (vZ.mono ?_);rintro e w2 ⟨g2,u,fp,hσ,oU,S2⟩;unfold QJ at oU;rw[hpm]at oU;obtain⟨v,rfl,og⟩:=oU;refine .inl ⟨v,rfl,?_⟩;have S3:=S2.put (v:=v) (d:=resD rs) q6 (QT (g:=g2) og) (λL hL=>by rw[CQ]at hL;simp at hL) σ'.log;have znE:=zdY.put (hD' p1.length l ol) v a'.defers rfl;rw[QV]at hσ;rw[hσ]at hK;unfold zdq at hK;split at hK;split at hK;rename_i s hs2;obtain⟨g3,S4⟩:=eF hs2 S3;exact⟨g3,s,hK,S4,znE⟩;exact hK.elim;exact⟨g2,_,hK,S3,znE⟩
    · rename_i ch hpm;split at hK
      rotate_left
      exact hK.elim;rename_i σ2 h2;obtain⟨fJ,vZ⟩:=main _ _ h2;refine Hg (λc e=>by rw[c1]at e;cases e) (df fJ) (vZ.mono ?_);rintro e w2 ⟨g2,u,fp,hσ,oU,S2⟩;unfold QJ at oU;rw[hpm]at oU;refine .inr ⟨ch,oU,?_⟩;rw[QV]at hσ;rw[hσ]at hK;exact⟨g2,_,hK,S2,zdY⟩
def VE(P:Program)(Γ:bI)(aQ:dG)(x y:Code)(ps:List Nat)(k:Keep)(K:Exit→St→Prop):List (List PA)→St→Prop
  | [],s=>K .normal s
  | yv::rest,s=>match pW ps yv s.env with|some env=>vc P Γ aQ x (zdt (vc P Γ aQ y (tN P k (nM [Gw] (eu x++eu y)) (VE P Γ aQ x y ps k K rest) K)) λ_ _=>False) ⟨env,s.aB,[]⟩|none=>False
theorem VF{w:World}{l:Nat}{o:Obj}(h:w.heap[l]? = some o):w.putObj l o=w:=by
 obtain⟨hl,e⟩:=Us.1 h;unfold World.putObj;have:w.heap.setIfInBounds l o=w.heap:=by
  apply Array.ext_getElem?;intro i;rw[qdV];split;rename_i c;subst c
  first|(rw[eX hl];exact h.symm)|exact h.symm
  rfl
 rw[this]
theorem VG(fP:jk P Γ){aQ:dG}{f:Operand}{ps:Array Tmp}{x y:Code}(ihx:Snd P Γ aQ B w0 x)(Yj:Snd P Γ aQ B w0 y):Snd P Γ aQ B w0 (.rangeFunc f ps x y):=by
 intro r n h0 D a0 K σ g a w hD hR h S kN;simp only[vc]at h;split at h
 ·rename_i k hk;split at h
  ·rename_i s hs zth;simp only[gz] at zth;obtain⟨zth,zPM⟩:=zth;split at h
   ·rename_i gf caps hf;split at h
    ·rename_i ys hit;have zL4:VE P Γ aQ x y ps.toList k K ys s:=h (VE P Γ aQ x y ps.toList k K) (λ_ h=>h) (λ_ _ _ h=>h);obtain⟨g1,S1⟩:=eF hs S;have EJ:∀t∈k.tmps,t∉ps.toList/\t∉eu x++eu y:=by
      intro t ht;have h1:=Af.1 zth t ht;simp only[N8]at h1;have h2:t∉ps.toList++(eu x++eu y):=by simpa using h1
      exact⟨λh=>h2 (dW.2 (.inl h)),λh=>h2 (dW.2 (.inr h))⟩
     refine Oo λfn=>?_;obtain⟨l,mark,w1,d,h1,df,hlw,hl1,zZs,hn1,S2,zFy⟩:=Om S1 hR fn ps x y;have sU:=jv S1 hf;generalize NR:a.eval f=fvv at sU;cases sU with
     | fn _ _ _ fv cv l1 l2 hf1 EI =>
      have e1:fv=[]:=qdw l1.symm;subst e1;let a1:Act:={a with defers:=mark++a.defers};let rec_:LoopState->Option Code->Loop:=λst pe=>{state:=st,pending:=pe,fn,tmps:=a.tmps,params:=ps,assign:=x,body:=y,defers:=d}
      let J:List (List PA)->Fz->World->Prop:=λ rest h W=>∃ s bk sv iv,VE P Γ aQ x y ps.toList k K rest s/\(∀ t d,lk s.env t=some d->t∈k.tmps)/\bW P aQ.nt B w0 h0 ⟨h,bk,sv,iv⟩ s a1 W/\h l=none/\B<=l /\
       (∀L o,lk s.aB L=some o->¬gQ ⟨h,bk,sv,iv⟩ L o l)/\W.heap[l]? = some (.loop (rec_ .ready none))
      let Jx:List (List PA)->Fz->World->Prop:=λ _ h W=>∃ s bk sv iv c,((c=.ret/\K .ret s)\/∃ id,c=.exit id/\K (.exit id) s)/\bW P aQ.nt B w0 h0 ⟨h,bk,sv,iv⟩ s a1 W/\h l=none/\B<=l /\
       (∀L o,lk s.aB L=some o->¬gQ ⟨h,bk,sv,iv⟩ L o l)/\W.heap[l]? = some (.loop (rec_ .done (some c)))
      have ztO:∀{h h':Fz}{W W':World},W.heap[l]? ≠ none->h l=none->(∀b o,h' b=some o->h b=some o\/W.heap.size<=b)->xx h W.heap.size W W'->h' l=none/\W'.heap[l]? = W.heap[l]?:=by
       intro h h' W W' hW hl hn hb;have iw:l<W.heap.size:=by
        cases hx:W.heap[l]? with|none=>exact absurd hx hW|some o=>exact(Us.1 hx).1
       refine⟨?_,hb.block l iw⟩;cases hx:h' l with
       | none=>rfl
       | some o =>
        rcases hn l o hx with h3|h3
        rw[hl]at h3;cases h3;omega
      have hJ:JSt J:=by
       rintro rest h W h' W' ⟨s,bk,sv,iv,hg,he,SJ,hl,hB,sW,hW⟩ hle Jp hn hb;obtain⟨k1,k2⟩:=ztO (by rw[hW];simp) hl hn hb;exact⟨s,bk,sv,iv,hg,he,SJ.world hle Jp hn hb,k1,hB,sW,by rw[k2];exact hW⟩
      have hJx:JSt Jx:=by
       rintro rest h W h' W' ⟨s,bk,sv,iv,c,hc,SJ,hl,hB,sW,hW⟩ hle Jp hn hb;obtain⟨k1,k2⟩:=ztO (by rw[hW];simp) hl hn hb;exact⟨s,bk,sv,iv,c,hc,SJ.world hle Jp hn hb,k1,hB,sW,by rw[k2];exact hW⟩
      have hBl:B<=l:=Gv S1.bs hlw;have h0l:∀{h:Fz} {bk sv iv} {s:St} {W:World},bW P aQ.nt B w0 h0 ⟨h,bk,sv,iv⟩ s a1 W->h l=none->h0 l=none:=λSJ hl=>by
       cases hx:h0 l with|none=>rfl|some o=>have:=SJ.le0 l o hx;simp only[hl]at this;cases this
      have zPN:∀L o,lk s.aB L=some o->¬gQ (g1.re h1) L o l:=λL o ho hk=>by
       have:gQ g1 L o l:=hk;have:=iI (S1.obj L o ho) this;omega
      have zCS:=fP.it gf (caps.map .one) ys hit l J Jx (λe W=>∃ch s bk sv iv h,e=.panicked ch/\K (.panic ch) s/\bW P aQ.nt B w0 h0 ⟨h,bk,sv,iv⟩ s a1 W) w1 h1 cv hJ hJx ?_ ⟨s,g1.bk,g1.sv,g1.iv,zL4,FD hs,S2,hn1,hBl,zPN,hl1⟩ (YP ((KC l2 EI).mono λ_ _ h=>h.mono zZs)) S2.hw;obtain⟨fJ,zY1⟩:=zCS;refine⟨l,mark,w1,{target:=.fn (.func gf) cv.toArray,args:=#[.func (.yield l) #[] #[]]},w1,gf,(.func (.yield l) #[] #[]::cv).toArray,w1,?_,?_,?_,(JX zY1).mono ?_⟩;exact df;simp only [resolve,NR];simp[go_sem];simp only [invoke];rw[show(#[.func (.yield l) #[] #[]]++cv.toArray)=(.func (.yield l) #[] #[]::cv).toArray by simp];exact ed fJ;have col:∀d∈a1.defers,d∈a0.defers\/∃b,d.target=.collected b:=λd hd=>by
       rcases dW.1 hd with hd|hd
       exact .inr (zFy d hd);exact kN.2.2.2 d hd
      rintro e W3 (⟨v,h3,rfl,zLX,hw3,(⟨s3,bk,sv,iv,hg3,he3,S3,hl3,hB3,zw4,hW3⟩|⟨_,s3,bk,sv,iv,c,hc,S3,hl3,hB3,zw4,hW3⟩)⟩|⟨⟨ch,rfl⟩,ch',s3,bk,sv,iv,h3,e3,hK3,S3⟩);have S4:=S3.putObj (.loop {rec_ .ready none with state := .exhausted}) hl3 hB3 zw4;refine⟨none,_,run_endLoop hW3 (by simp[rec_]),_,s3,hg3,S4,kN.1,kN.2.1,λhr=>absurd (hD Gw kQ) hr,col⟩;have S4:=S3.putObj (.loop {rec_ .done (some c)with state := .exhausted}) hl3 hB3 zw4;refine⟨some c,_,run_endLoop hW3 (by simp[rec_]),?_⟩;rcases hc with⟨rfl,hc⟩|⟨id,rfl,hc⟩
      exact zbB ⟨_,s3,hc,S4,kN.1,kN.2.1,λhr=>absurd (hD Gw kQ) hr,col⟩;exact VB ⟨_,s3,hc,S4,kN.1,kN.2.1,λhr=>absurd (hD Gw kQ) hr,col⟩;cases e3;exact⟨_,s3,hK3,S3,kN.1,kN.2.1,λhr=>absurd (hD Gw kQ) hr,col⟩
      ·-- one round
       rintro yv rest h W us ⟨s,bk,sv,iv,hg,hek,SJ,hl,_,sW,hW⟩ NQ hHw n';simp only[VE]at hg;split at hg
       ·rename_i env zaI;have iw:l<W.heap.size:=(Us.1 hW).1;have z2x:=h0l SJ hl;have SJ2:=SJ.up.hide hl hW hBl sW;have zs9:jP h (h.add l (.loop (rec_ .ready none))):=Fz.le_add hl;have zPO:∀p∈ps.toList,p<a.tmps.size:=λp hp=>by
         have:=Af.1 zPM p hp;exact qdt (by simpa [qjb]using this) SJ.size
        obtain⟨hul,zFz⟩:=zbA (g:=(⟨h.add l (.loop (rec_ .ready none)),bk,sv,iv⟩:Gh)) 0 ps.toList yv us s.env env a.tmps zaI (NQ.mono λp q hpq=>by
         cases p with
         | one v=>exact Rep.mono zs9 hpq
         | agg cs=>obtain⟨vs,h5,h6⟩:=hpq;exact⟨vs,h5,h6.mono λ_ _=>Rep.mono zs9⟩) zPO (λt d ht=>SJ2.env t d ht)
        have zPP:(ps.zip us.toArray).foldl (λtmps (t,a)=>tmps.setIfInBounds t a) a.tmps=(ps.toList.zip us).foldl (λt (p,v)=>t.setIfInBounds p v) a.tmps:=by
         rw[<- Array.foldl_toList,Array.toList_zip]
        let ar:Act:={tmps:=(ps.toList.zip us).foldl (λt (p,v)=>t.setIfInBounds p v) a.tmps,defers:=[]};have Sr:bW P aQ.nt B w0 (h.add l (.loop (rec_ .ready none))) ⟨h.add l (.loop (rec_ .ready none)),bk,sv,iv⟩ ⟨env,s.aB,[]⟩ ar W:=by
         have Sa:=(SJ2.envs (env:=[]) (λt d ht=>by simp[lk]at ht) (λt d ht=>by simp[lk]at ht) []).act (a':=ar) (Marks.nil _ _) (by rw[show ar.tmps.size=a.tmps.size from fold_size _ _];exact SJ.size) (λt d ht=>by simp[lk]at ht);exact Sa.envs zFz (λt d ht L hL=>by
          rcases PX _ _ _ _ zaI t d ht with h5|h5
          exact SJ.clE t d h5 L hL;rw[h5]at hL;simp at hL) []
        have hrd:∀st pe,Rnd (some l) (h.add l (.loop (rec_ st pe))):=λst pe l' e=>by cases e;exact⟨_,Fz.add_same⟩
        refine⟨_,_,_,_,by rw[run_yield (P:=P) (args:=us.toArray) hW (by simp[rec_,hul]),zPP],Lm ?_⟩;show Dk (some l) n' P x _ ar W;refine oM (ihx (some l) n' _ (eu x++eu y) ar _ _ _ ar W (λt ht=>dW.2 (.inl ht)) (hrd _ _) hg Sr (Kp.refl _ _)) ?_;rintro e a' w' ⟨g2,σ2,hK2,S2,znE⟩;cases e with
        | normal =>
         simp only[zdt]at hK2;obtain⟨_,zFA,Ya,S3⟩:=S2.unhide hBl hl rfl (λds=>by simp);refine⟨_,run_beginRound Ya rfl,?_⟩;have S4:=S3.putObj (.loop {rec_ .ready none with state:=.busy}) Fz.del_same hBl zFA;have hw4:(w'.putObj l (.loop {rec_ .ready none with state:=.busy})).heap[l]? = some (.loop (rec_ .busy none)):=World.putObj_heap_same (Us.1 Ya).1;have S5:=S4.hide (o:=.loop (rec_ .busy none)) Fz.del_same hw4 hBl zFA;show Dk (some l) n' P y _ a' _;refine oM (Yj (some l) n' _ (eu x++eu y) ar _ σ2 _ a' _ (λt ht=>dW.2 (.inr ht)) (hrd _ _) hK2 S5 znE) ?_;rintro e a5 w5 ⟨g6,σ6,Un,S6,zFB⟩
         have back:∀s7,canon P k σ6=some s7->∃(w5l:w5.heap[l]? = some (.loop (rec_ .busy none)))(h':Fz)(bk sv:_)(iv:Nat->Nat->Value),jP h h'/\h' l=none /\
           ∀o',bW P aQ.nt B w0 h0 ⟨h',bk,sv,iv⟩ s7 a1 (w5.putObj l o')/\(∀L o,lk s7.aB L=some o->¬gQ ⟨h',bk,sv,iv⟩ L o l):=by
          intro s7 hs7;obtain⟨g7,S7⟩:=eF hs7 S6;obtain⟨_,zFC,hw8,S8⟩:=S7.unhide hBl hl rfl (λds=>by simp);have zFD:jP h (g7.h.del l):=S8.le0;refine⟨hw8,g7.h.del l,g7.bk,g7.sv,g7.iv,zFD,Fz.del_same,λo'=>⟨?_,zFC⟩⟩;have S9:=(S8.putObj o' Fz.del_same hBl zFC).down (h0:=h0) SJ.le0 SJ.hn;refine S9.act (SJ.dfr.mono zFD) SJ.size λt d ht=>?_;obtain⟨h10,h11⟩:=EJ t (FD hs7 t d ht);have h12:=zFB.1 t h11;have h13:ar.tmps.getD t undef=a.tmps.getD t undef:=Lh _ _ _ λq hq e=>h10 (e▸(List.of_mem_zip hq).1);have:=S9.env t d ht;rw[h12,h13]at this;exact this
         cases e with
         | normal =>
          simp only[tN]at Un;split at Un;rename_i s7 hs7;obtain⟨w5l,h',bk',sv',iv',gZ,zK,hS⟩:=back s7 hs7;have zhG:=(Us.1 w5l).1;refine⟨_,_,run_endRound none w5l,.inl ⟨h',gZ,(hS _).1.hw,.inl ⟨rfl,s7,bk',sv',iv',Un,FD hs7,(hS _).1,zK,hBl,(hS (.loop (rec_ .ready none))).2,?_⟩⟩⟩;exact World.putObj_heap_same zhG;exact Un.elim
         | ret =>
          simp only[tN]at Un;split at Un;rename_i s7 hs7;obtain⟨w5l,h',bk',sv',iv',gZ,zK,hS⟩:=back s7 hs7;have zhG:=(Us.1 w5l).1;refine⟨_,_,run_endRound (some .ret) w5l,.inl ⟨h',gZ,(hS _).1.hw,.inr ⟨rfl,s7,bk',sv',iv',.ret,.inl ⟨rfl,Un⟩,(hS _).1,zK,hBl,(hS (.loop (rec_ .ready none))).2,?_⟩⟩⟩;exact World.putObj_heap_same zhG;exact Un.elim
         | exit id =>
          simp only[tN]at Un;split at Un;rename_i s7 hs7;obtain⟨w5l,h',bk',sv',iv',gZ,zK,hS⟩:=back s7 hs7;have zhG:=(Us.1 w5l).1;refine⟨_,_,run_endRound (some (.exit id)) w5l,.inl ⟨h',gZ,(hS _).1.hw,.inr ⟨rfl,s7,bk',sv',iv',.exit id,.inr ⟨id,rfl,Un⟩,(hS _).1,zK,hBl,(hS (.loop (rec_ .ready none))).2,?_⟩⟩⟩;exact World.putObj_heap_same zhG;exact Un.elim
         | goto q=>exact Un.elim
         | panic ch =>
          simp only[tN]at Un;split at Un;rename_i hnp hs7;obtain⟨w5l,h',bk',sv',iv',gZ,zK,hS⟩:=back _ hs7;have hr:Gw∉eu x++eu y:=by
           have:=Af.1 hnp Gw (by simp);simpa using this
          refine⟨zFB.2.2.1 hr,.inr ⟨⟨ch,rfl⟩,ch,_,bk',sv',iv',h',rfl,Un,?_⟩⟩;have:=(hS (.loop (rec_ .busy none))).1;rwa[VF w5l]at this;exact Un.elim
         | outgrown=>exact Un.elim
        | exit id=>exact hK2.elim
        | goto q=>exact hK2.elim
        | ret=>exact hK2.elim
        | panic ch=>exact hK2.elim
        | outgrown=>exact hK2.elim
       exact hg.elim
    exact h.elim
   exact h.elim
  exact h.elim
 exact h.elim
theorem Lp(fP:jk P Γ)(aQ:dG):∀(c:Code),Snd P Γ aQ B w0 c:=by
 intro c
 induction c with
 | skip=>intro r n h0 D a0 K σ g a w _ _ h S kN;exact zhx ⟨g,σ,h,S,kN⟩
 | region id ops draw =>
  intro r n h0 D a0 K σ g a w hD _ h S kN;simp only[vc]at h;split at h;exact PY fP aQ hD h S kN λg' σ' a' w' hK S' jD _=>⟨g',σ',hK,S',jD⟩;rename_i hp;have hdr:draw=false:=by cases draw<;>simp_all
  subst hdr;exact Ze fP aQ hD h S kN
 | seq x y ihx Yj =>
  intro r n h0 D a0 K σ g a w hD hR h S kN;refine znC (oM (ihx r n h0 D a0 _ σ g a w (λt ht=>hD t (dW.2 (.inl ht))) hR h S kN) ?_);have hDy:∀t∈eu y,t∈D:=λt ht=>hD t (dW.2 (.inr ht));rintro e a' w' ⟨g',σ',hK,S',jD⟩;cases e with
  | normal =>
   simp only[zdt,zm1]at hK;split at hK;split at hK;rename_i s hs;obtain⟨g2,S2⟩:=eF hs S';exact Yj r n h0 D a0 K s g2 a' w' hDy hR hK S2 jD;exact hK.elim;exact Yj r n h0 D a0 K σ' g' a' w' hDy hR hK S' jD
  | exit id=>exact⟨g',σ',hK,S',jD⟩
  | goto l=>exact⟨g',σ',hK,S',jD⟩
  | ret=>exact⟨g',σ',hK,S',jD⟩
  | panic ch=>exact⟨g',σ',hK,S',jD⟩
  | outgrown=>exact⟨g',σ',hK,S',jD⟩
 | cond c x y ihx Yj =>
  intro r n h0 D a0 K σ g a w hD hR h S kN;simp only[vc]at h;split at h
  ·rename_i t ht;have hv:=uM S ht;have hS:∀b,t=b->bW P aQ.nt B w0 h0 g (xw σ c b) a w:=by
    intro b hb;cases c with
    | tmp q =>
     refine S.env' (t:=q) (d:=.bool b) ?_ (kD _);have:a.tmps.getD q undef=.bool t:=hv;rw[this,hb];exact .bool b
    | _=>exact S
   have h2:=qA.1 h;refine zhy hv ?_;cases t with|true=>exact ihx r n h0 D a0 K _ g a w (λt ht=>hD t (dW.2 (.inl ht))) hR (h2.1 rfl) (hS true rfl) kN|false=>exact Yj r n h0 D a0 K _ g a w (λt ht=>hD t (dW.2 (.inr ht))) hR (h2.2 rfl) (hS false rfl) kN
  exact h.elim
 | block id b ih =>
  intro r n h0 D a0 K σ g a w hD hR h S kN;refine zd1 (oM (ih r n h0 D a0 _ σ g a w hD hR h S kN) ?_);rintro e a' w' ⟨g',σ',hK,S',jD⟩;cases e with
  | exit j =>
   simp only[Yx]at hK;simp only[Exit.inBlock];split at hK;rename_i hj;rw[eX (kP hj)];exact⟨g',σ',hK,S',jD⟩;rename_i hj;rw[fF (qdu hj)];exact⟨g',σ',hK,S',jD⟩
  | normal=>exact⟨g',σ',hK,S',jD⟩
  | goto l=>exact⟨g',σ',hK,S',jD⟩
  | ret=>exact⟨g',σ',hK,S',jD⟩
  | panic ch=>exact⟨g',σ',hK,S',jD⟩
  | outgrown=>exact⟨g',σ',hK,S',jD⟩
 | loop b ih =>
  intro r n h0 D a0 K σ g a w hD hR h S kN;simp only[vc]at h;split at h;rename_i k hk;split at h;rename_i s hs;obtain⟨g1,S1⟩:=eF hs S;refine G9 ?_;have key:=h (λs=>∀g a w,bW P aQ.nt B w0 h0 g s a w->Kp D a0 a->VC r n P b (PostR P aQ.nt B w0 h0 D a0 K) a w) ?_;exact key g1 a w S1 kN
  ·intro s hs g a w S kN;refine Ha (oM (ih r n h0 D a0 _ s g a w hD hR hs S kN) ?_);rintro e a' w' ⟨g',σ',hK,S',jD⟩;cases e with
   | normal =>
    simp only[zgE,hk]at hK;split at hK;rename_i s2 hs2;obtain⟨g2,S2⟩:=eF hs2 S';exact hK g2 a' w' S2 jD;exact hK.elim
   | exit id=>exact⟨g',σ',hK,S',jD⟩
   | goto l=>exact⟨g',σ',hK,S',jD⟩
   | ret=>exact⟨g',σ',hK,S',jD⟩
   | panic ch=>exact⟨g',σ',hK,S',jD⟩
   | outgrown=>exact⟨g',σ',hK,S',jD⟩
  exact h.elim;split at h;rename_i m k hk;have key:∀(m:Nat)(σ:St)(g:Gh)(a:Act)(w:World),zdu P k (vc P Γ aQ b) m K σ->bW P aQ.nt B w0 h0 g σ a w->Kp D a0 a->VC r n P b (PostR P aQ.nt B w0 h0 D a0 K) a w:=by
   intro m
   induction m with
   | zero=>intro σ g a w h;exact h.elim
   | succ m ihm =>
    intro σ g a w h S kN;simp only[zdu]at h;split at h
    ·rename_i s hs;obtain⟨g1,S1⟩:=eF hs S;refine Ha (oM (ih r n h0 D a0 _ s g1 a w hD hR h S1 kN) ?_);rintro e a' w' ⟨g',σ',hK,S',jD⟩;cases e with|normal=>exact ihm σ' g' a' w' hK S' jD|exit id=>exact⟨g',σ',hK,S',jD⟩|goto l=>exact⟨g',σ',hK,S',jD⟩|ret=>exact⟨g',σ',hK,S',jD⟩|panic ch=>exact⟨g',σ',hK,S',jD⟩|outgrown=>exact⟨g',σ',hK,S',jD⟩
    exact h.elim
  exact G9 (key m σ g a w h S kN);exact h.elim
 | exit id=>intro r n h0 D a0 K σ g a w _ _ h S kN;exact VB ⟨g,σ,h,S,kN⟩
 | scope b ih =>
  intro r n h0 D a0 K σ g a w hD hR h S kN;refine zd2 (oM (ih r n h0 D a0 _ σ g a w hD hR h S kN) ?_);rintro e a' w' ⟨g',σ',hK,S',jD⟩;cases e with|goto l=>exact hK|normal=>exact⟨g',σ',hK,S',jD⟩|exit l=>exact⟨g',σ',hK,S',jD⟩|ret=>exact⟨g',σ',hK,S',jD⟩|panic ch=>exact⟨g',σ',hK,S',jD⟩|outgrown=>exact⟨g',σ',hK,S',jD⟩
 | label l=>intro r n h0 D a0 K σ g a w _ _ h S kN;exact zd0 ⟨g,σ,h,S,kN⟩
 | ret=>intro r n h0 D a0 K σ g a w _ _ h S kN;exact zbB ⟨g,σ,h,S,kN⟩
 | rangeFunc f ps x y ihx Yj=>exact VG fP ihx Yj
 | goto l=>intro r n h0 D a0 K σ g a w _ _ h S;exact h.elim
 | refuse s=>intro r n h0 D a0 K σ g a w _ _ h S;exact h.elim
end
end Go.Pm
namespace Go.Pm
variable [aH]
open Go.RowKit (Below)
section
variable{P:Program}{Γ:bI}
theorem qH:∀(args:List PA)(i t:Nat)(d:DV),lk (jd i args) t=some d→∃x,args[t-i]? = some x∧i≤t∧d = .one (IM x)
  | [],i,t,d,h=>by simp[jd,lk]at h
  | x::r,i,t,d,h=>by
    simp only[jd]at h;rw[aW]at h;split at h;rename_i e;simp only[bQ]at h;subst e;exact⟨x,by simp,kw _,h.symm⟩;rename_i e;obtain⟨y,h1,h2,h3⟩:=qH r (i+1) t d h;refine⟨y,?_,omY,h3⟩;rw[show t-i=(t-(i+1))+1 by omega,Yn];exact h1
def resV(tmps:Array Value):ResultVar→Sem Value
  | .tmp t=>pure (tmps.getD t undef)
  | .cell b t=>do loadVar t (<- asAddr (tmps.getD b undef))
theorem Lr{w:World}(x:Addr):(asAddr (.pointer (some x))).run P w=.ok x w:=rfl
theorem FK{nt B:Nat}{w0:World}{h0:Fz}{g:Gh}{σ:St}{a:Act}{w:World}(S:bW P nt B w0 h0 g σ a w):∀(rs:List ResultVar)(l:List PA),kK P σ rs=some l ->
  ∃(u:lX)(vs:List Value),fA (lk σ.aB) u /\
   (rs.mapM (resV a.tmps)).run P w=.ok vs w /\
   ∀(u':lX)(h':Fz),(∀y∈u,y∈u')->fG g (lk σ.aB) u' h'->RL (nN h') l vs
 | [],l,h=>by
  simp[kK]at h;subst h;exact⟨[],[],fA.nil _,rfl,λ_ _ _ _=>trivial⟩
 | .tmp t::r,l,h=>by
  simp only[kK]at h;split at h;rename_i d hd;split at h;rename_i x u1 l2 h1 h2;simp only[bQ]at h;subst h;obtain⟨u2,vs,hu2,df,hr⟩:=FK S r l2 h2;refine⟨u1++u2,a.tmps.getD t undef::vs,(CB h1).append hu2,?_,λu' h' hu F=>⟨F.repD h1 (λy hy=>hu y (dW.2 (.inl hy))) (S.env t d hd),hr u' h' (λy hy=>hu y (dW.2 (.inr hy))) F⟩⟩;rw[qjy];simp only[resV,Sem.run_bind,Sem.run_pure,Result.andThen_ok];rw[df];rfl;cases h;cases h
 | .cell t ty::r,l,h=>by
  simp only[kK]at h;split at h;rename_i L off ag m ht hg hs;split at h;rename_i Yl cells hL;split at h;rename_i d hd;split at h;rename_i x u1 l2 h1 h2;simp only[bQ]at h;subst h;obtain⟨u2,vs,hu2,df,hr⟩:=FK S r l2 h2;obtain⟨C,hC,TZ⟩:=S.obj L _ hL;obtain⟨v,Yb,hv⟩:=JY (P:=P) hg hs hC 0 (λj y hj=>by obtain⟨v,hv,Qs⟩:=TZ.get j y hj;exact⟨v,by simpa using hv,Qs⟩) hd;have hp:a.tmps.getD t undef=.pointer (some ⟨g.bk L,off,none⟩):=S.env t _ ht;rw[Oa]at Yb;refine⟨u1++u2,v::vs,(CB h1).append hu2,?_,λu' h' hu F=>⟨F.repD h1 (λy hy=>hu y (dW.2 (.inl hy))) hv,hr u' h' (λy hy=>hu y (dW.2 (.inr hy))) F⟩⟩;have h1:(resV a.tmps (.cell t ty)).run P w=.ok v w:=by
   simp only[resV,Sem.run_bind,hp,Lr,Result.andThen_ok,Yb]
  rw[qjy];simp only[Sem.run_bind,h1,Result.andThen_ok];rw[df];rfl;cases h;cases h;cases h;cases h
theorem Hl{nt B:Nat}{w0:World}{h0:Fz}{g:Gh}{σ:St}{a:Act}{w:World}(S:bW P nt B w0 h0 g σ a w){fn:Func}{l:List PA}(h:kK P σ fn.results.toList=some l) :
  ∃(u:lX)(v:Value),fA (lk σ.aB) u/\(results fn a.tmps).run P w=.ok v w/\∀(h':Fz),fG g (lk σ.aB) u h'->qg h' l v:=by
 obtain⟨u,vs,hu,df,hr⟩:=FK S fn.results.toList l h;refine⟨u,if h:vs.toArray.size=1 then vs.toArray[0]else .tuple vs.toArray,hu,?_,λh' F=>?_⟩;have e:results fn a.tmps=(do let vs ← fn.results.mapM (resV a.tmps);pure (if h:vs.size=1 then vs[0]else .tuple vs)):=rfl;rw[e,qjz];simp only[Sem.run_bind,Sem.run_map];rw[df];simp only[Result.andThen_ok,Sem.run_pure]
 ·have nH := hr u h' (fun y hy => hy) F
  match l,vs,nH with
  | [],[],_=>exact⟨[],rfl,trivial⟩
  | [x],[v],nH=>exact nH.1
  | x::y::l,v::v2::vs,nH =>
   refine⟨v::v2::vs,?_,nH⟩;rw[dif_neg (by simp)]
  | [],_::_,nH=>exact nH.elim
  | [_],[],nH=>exact nH.elim
  | [_],_::_::_,nH=>exact nH.2.elim
  | _::_::_,[],nH=>exact nH.elim
  | _::_::_,[_],nH=>exact nH.2.elim
theorem bW.unmark{nt B:Nat}{w0:World}{h0:Fz}{g:Gh}{σ:St}{a:Act}{w:World}(S:bW P nt B w0 h0 g σ a w){D:Nat}{Ds:List (Nat ⊕ Deferred)}
    (zf:(lefts (.inl D::Ds)).Nodup) (hm:∀E,Sum.inl E∈.inl D::Ds->B<=E/\g.h E=some (.fz (.deferred (some [])))) (hi:∀d,Sum.inr d∈Ds->Gx P d) (PW:∀b,h0 b=some (.fz (.deferred (some [])))->b<B) {ds:List Deferred} (OT:ds=Ds.map deD) :
    w.heap[D]? = some (.deferred (some []))/\bW P nt B w0 h0 (g.re (g.h.del D)) σ {a with defers:=ds} (w.putObj D (.deferred none)):=by
  obtain⟨hB,hb⟩:=hm D kQ;have zl1:=(qdq.1 zf).1;have hl:VA g.h (g.h.del D):=λk x hk hx=>by
    rw[Fz.del_other];exact hk;intro e;subst e;rw[hb]at hk;simp only[bQ]at hk;subst hk;obtain⟨C,ty,fr,hx⟩:=hx;cases hx
  have sW:∀L x,lk σ.aB L=some x->¬gQ g L x D:=λL x hL hk=>by have:=(S.own L x D hL hk).2;rw[hb]at this;cases this
  refine⟨S.hw.fz hb,?_⟩;have S1:bW P nt B w0 h0 (g.re (g.h.del D)) σ {a with defers:=ds} w:=by
    refine⟨⟨Ds,(qdq.1 zf).2,OT,λE hE=>⟨(hm E (jS _ hE)).1,?_⟩,hi⟩,S.size,λt d ht=>Y7 hl (S.env t d ht),λL x hL=>Y8 hl (S.obj L x hL),λL x k hL hk=>?_,S.sep,?_,?_,?_,S.below,S.bs,S.clE,S.clO⟩;show g.h.del D E=_;rw[Fz.del_other (λe=>zl1 (by rw[<- e];exact uG hE))];exact(hm E (jS _ hE)).2;obtain⟨h1,h2⟩:=S.own L x k hL hk;refine⟨h1,?_⟩;show g.h.del D k=none;unfold Fz.del;split;rfl;exact h2;intro k x hk;have hk:g.h.del D k=some x:=hk;unfold Fz.del at hk;split at hk;cases hk;exact S.hw k x hk;intro k x hk;show g.h.del D k=some x;rw[Fz.del_other (λe=>by
      subst e;have h1:=S.le0 _ _ hk;rw[hb]at h1;simp only[bQ]at h1;rw[<- h1]at hk;have:=PW _ hk;omega)];exact S.le0 k x hk
    intro k x hk;have hk:g.h.del D k=some x:=hk;unfold Fz.del at hk;split at hk;cases hk;exact S.hn k x hk
  exact S1.putObj _ Fz.del_same hB sW
theorem zq{nt B:Nat}{w0:World}{h0:Fz}{σ:St}{fn:Func}{R:Ending→World→Prop}{n:Nat}(PW:∀b,h0 b=some (.fz (.deferred (some [])))→b<B) :
  ∀(Ds:List (Nat ⊕ Deferred))(g:Gh)(a:Act)(w:World),(lefts Ds).Nodup->a.defers=Ds.map deD->(∀D,Sum.inl D∈Ds->B<=D/\g.h D=some (.fz (.deferred (some []))))->(∀d,Sum.inr d∈Ds->Gx P d)->bW P nt B w0 h0 g σ a w ->
   (∀g' a' w',a'.tmps=a.tmps->bW P nt B w0 h0 g' σ a' w'->∃v,(results fn a'.tmps).run P w'=.ok v w'/\R (.returned v) w')->LeavesInM (FR none) n P fn a.tmps R a.defers .returning w
 | [],g,a,w,_,ha,_,_,S,hR=>by
  rw[ha];exact hR g a w rfl S
 | .inl D::Ds,g,a,w,zf,ha,hm,hi,S,hR=>by
  obtain⟨h1,S1⟩:=S.unmark zf hm (λd hd=>hi d (jS _ hd)) PW rfl;rw[ha,o5];refine⟨by simp,.inl ⟨D,_,rfl,run_takeDeferred h1,?_⟩⟩;have zl1:=(qdq.1 zf).1;exact zq PW Ds _ {a with defers:=Ds.map deD} _ (qdq.1 zf).2 rfl (λE hE=>⟨(hm E (jS _ hE)).1,by
   show g.h.del D E=_;rw[Fz.del_other (λe=>zl1 (by rw[<- e];exact uG hE))];exact(hm E (jS _ hE)).2⟩) (λd hd=>hi d (jS _ hd)) S1 (λg' a' w' ht=>hR g' a' w' ht)
 | .inr d::Ds,g,a,w,zf,ha,hm,hi,S,hR=>by
  obtain⟨fv,cap,f,args,h1,h2,h3⟩:=hi d kQ;rw[ha,o5];refine⟨by simp,.inr ⟨(λh=>by cases h),fv,cap,f,args,h1,h2 w,(λ_ _=>trivial),?_⟩⟩;obtain⟨c1,c2⟩:=h3 (n-1) w;refine⟨c1,λc cs hc hr=>?_⟩;obtain⟨e,u',w',fr,hR',rest⟩:=c2 c cs hc hr;refine⟨e,u',w',fr,?_,rest⟩;obtain⟨⟨v,rfl⟩,rfl,rfl⟩:=hR';have Ie:∀D,Sum.inl D∈Ds->B<=D/\g.h D=some (.fz (.deferred (some []))):=λD hD=>hm D (jS _ hD);have kX:∀d,Sum.inr d∈Ds->Gx P d:=λd hd=>hi d (jS _ hd);exact zq PW Ds g {a with defers:=Ds.map deD} _ zf rfl Ie kX (S.act ⟨Ds,zf,rfl,Ie,kX⟩ S.size S.env) (λg' a' w' ht=>hR g' a' w' ht)
theorem zbD{nt B:Nat}{w0:World}{h0:Fz}{σ:St}{fn:Func}{R:Ending→World→Prop}{n:Nat}{ch:List PanicEntry}(PW:∀b,h0 b=some (.fz (.deferred (some [])))→b<B) :
  ∀(Ds:List (Nat ⊕ Deferred))(g:Gh)(a:Act)(w:World),(lefts Ds).Nodup->a.defers=Ds.map deD->(∀D,Sum.inl D∈Ds->B<=D/\g.h D=some (.fz (.deferred (some []))))->(∀d,Sum.inr d∈Ds->False)->bW P nt B w0 h0 g σ a w ->
   (∀g' a' w',a'.tmps=a.tmps->bW P nt B w0 h0 g' σ a' w'->R (.panicked ch) w')->LeavesInM (FR none) n P fn a.tmps R a.defers (.panicking ch) w
 | [],g,a,w,_,ha,_,_,S,hR=>by
  rw[ha];exact hR g a w rfl S
 | .inl D::Ds,g,a,w,zf,ha,hm,hi,S,hR=>by
  have kX:∀d,Sum.inr d∈Ds->False:=λd hd=>hi d (jS _ hd);obtain⟨h1,S1⟩:=S.unmark zf hm (λd hd=>(kX d hd).elim) PW rfl;rw[ha,o5];refine⟨by simp,.inl ⟨D,_,rfl,run_takeDeferred h1,?_⟩⟩;have zl1:=(qdq.1 zf).1;exact zbD PW Ds _ {a with defers:=Ds.map deD} _ (qdq.1 zf).2 rfl (λE hE=>⟨(hm E (jS _ hE)).1,by
   show g.h.del D E=_;rw[Fz.del_other (λe=>zl1 (by rw[<- e];exact uG hE))];exact(hm E (jS _ hE)).2⟩) kX S1 (λg' a' w' ht=>hR g' a' w' ht)
 | .inr d::Ds,g,a,w,zf,ha,hm,hi,S,hR=>(hi d kQ).elim
theorem PZ{nt:Nat}{args:List PA}{w:World}{h0:Fz}{vs:List Value}{m:Nat}(EH:nt=m)(hlen:args.length≤nt)(jE:RL (nN h0) args vs)(NZ:Hw h0 w) :
  bW P nt w.heap.size w h0 ⟨h0,λ_=>0,λ_=>undef,λ_ _=>undef⟩ ⟨jd 0 args,[],[]⟩ {tmps:=vs.toArray++Array.replicate (m-vs.toArray.size) undef,defers:=[]} w:=by
 have hl:=jE.length;refine⟨Marks.nil _ _,by simp;omega,?_,λL o ho=>by simp[lk]at ho,λL o b ho=>by simp[lk]at ho,λL o b L' o' ho=>by simp[lk]at ho,NZ,λ_ _ h=>h,λb o h=>.inl h,xx.refl _ _ _,kw _,?_,λL o ho=>by simp[lk]at ho⟩;intro t d ht;obtain⟨x,hx,_,rfl⟩:=qH args 0 t d ht;obtain⟨v,hv,xH⟩:=jE.get t x (by simpa using hx);have iw:=(AL.1 hv).1;have:(vs.toArray++Array.replicate (m-vs.toArray.size) undef).getD t undef=v:=by
  rw[xI,dqW (by simpa using iw)];simp[hv]
 rw[this];exact KA (g:=⟨h0,λ_=>0,λ_=>undef,λ_ _=>undef⟩) xH;intro t d ht L hL;obtain⟨x,hx,_,rfl⟩:=qH args 0 t d ht;rw[show cu (.one (IM x))=dC (IM x)from rfl,vY]at hL;simp at hL
theorem P5{G:bI}(fP:jk P G){f:FuncId}{aQ:dG}{args:List PA}{Kx:Func→Exit→St→Prop}{w:World}{h0:Fz}{vs:List Value}{R:Ending→World→Prop}{fn:Func}{c:Code}
    (sU:P.funcs[f]? = some fn) (rP:fn.body=some c) (EH:aQ.nt=fn.ntmps) (hlen:args.length<=aQ.nt) (hv:vc P G aQ c (Kx fn) ⟨jd 0 args,[],[]⟩) (jE:RL (nN h0) args vs) (NZ:Hw h0 w)
    (oU:∀e σ g a w',Kx fn e σ->bW P aQ.nt w.heap.size w h0 g σ a w'->(e=.normal\/e=.ret)/\∃v,(results fn a.tmps).run P w'=.ok v w'/\R (.returned v) w'):Calls P f vs.toArray w R:=by
  have S:=PZ (P:=P) EH hlen jE NZ;have hwp:=Lp (B:=w.heap.size) (w0:=w) fP aQ c none 0 h0 (eu c) _ (Kx fn) _ _ _ _ (λ_ h=>h) (Rnd.none h0) hv S (Kp.refl _ _);refine(callsIn_wide (n:=0)).1 ?_;refine callsIn_of_wp_marks (F:=FR none) sU rP trivial (wpIn_mono (qG hwp) ?_);have PW:∀b,h0 b=some (.fz (.deferred (some [])))->b<w.heap.size:=λb h=>NZ.lt h;rintro e a' w' ⟨g',σ',xn,S',_⟩;have fin:LeavesInM (FR none) 0 P fn a'.tmps R a'.defers .returning w':=by
    obtain⟨Ds,h1,h2,h3,h4⟩:=S'.dfr;exact zq PW Ds g' a' w' h1 h2 h3 h4 S' λg2 a2 w2 _ S2=>(oU e σ' g2 a2 w2 xn S2).2
  rcases(oU e σ' g' a' w' xn S').1 with rfl|rfl
  exact fin;exact fin
theorem znF{G:bI}(fP:jk P G){f:FuncId}{args:List PA}{K:List PA→Prop}{aQ:dG}(hv:vcFun P G aQ f args K){w:World}{h0:Fz}{vs:List Value}(jE:RL (nN h0) args vs)(NZ:Hw h0 w) :
  Calls P f vs.toArray w λ e w'=>∃ (h':Fz) (rs:List PA) (v:Value),K rs/\e=.returned v/\qg h' rs v/\xx h0 w.heap.size w w' /\
   jP h0 h'/\Hw h' w'/\∀b o,h' b=some o->h0 b=some o\/w.heap.size<=b:=by
 unfold vcFun at hv;split at hv;rename_i fn sU;split at hv;rename_i c rP;split at hv
 ·rename_i EH;simp only[gz,Ug] at EH;refine P5 (G:=G) fP (Kx:=λ fn=>zgF P fn K) sU rP (kP EH.1) EH.2 hv jE NZ ?_;intro e σ' g' a' w' xn S'
  have fin:AY P fn K σ'->∃v,(results fn a'.tmps).run P w'=.ok v w' /\
    (∃(h':Fz)(rs:List PA)(v_1:Value),K rs/\Ending.returned v=.returned v_1/\qg h' rs v_1/\xx h0 w.heap.size w w'/\jP h0 h'/\Hw h' w'/\∀b o,h' b=some o->h0 b=some o\/w.heap.size<=b):=by
   intro hf;unfold AY at hf;split at hf;rename_i l hl;obtain⟨u,v,hu,df,og⟩:=Hl S' hl;obtain⟨h',S2,F⟩:=S'.freeze hu;exact⟨v,df,h',l,v,hf,rfl,og h' F,S2.below,S2.le0,S2.hw,S2.hn⟩;exact hf.elim
  cases e with|normal=>exact⟨.inl rfl,fin xn⟩|ret=>exact⟨.inr rfl,fin xn⟩|exit id=>exact xn.elim|goto l=>exact xn.elim|panic ch=>exact xn.elim|outgrown=>exact xn.elim
 exact hv.elim;exact hv.elim;exact hv.elim
theorem zhH{G:bI}(fP:jk P G){f:FuncId}{C:List PA→ae (List PA)}(hc:dm P f)
    (h:∀args rs,(C args).o=some rs->∃vv aQ,vcFun P {G with vv:=vv} aQ f args λQr=>Qr=rs):Ok P f C:=by
  intro args rs hK w h0 vs jE NZ;obtain⟨vv,aQ,hv⟩:=h args rs hK;refine⟨hc,(znF (G:={G with vv:=vv}) ⟨fP.mt,fP.fn,fP.own,fP.it,fP.cmp⟩ hv jE NZ).mono ?_⟩;rintro e w' ⟨h',Qr,v,rfl,he⟩;exact⟨h',v,he⟩
end
end Go.Pm
namespace Go.Pm
variable [aH]
open Go.RowKit (Below)
section
variable{P:Program}{Γ:bI}{nt:Nat}{n:Nat}
theorem zhI{o:Oper}{a:Act}{w w':World}{R:Act→World→Prop}{Q:Exit→Act→World→Prop}(zf:∀c,o.op ≠ .defer c){l f:Nat}{tmps:Array Value}{x y:Code}(h:(execOp a.eval o).run P w = .ok (.round l f tmps x y) w')
    (hR:RoundIn Fence.wide (n-1) P l f tmps x y w' λe zL=>(∃v,e=.returned v/\R (a.put o.dst v) zL)\/∃ch,e=.panicked ch/\Q (.panic ch) a zL):o.wpIn (FR none) n P a w R Q:=by
  refine⟨λ_ _=>trivial,?_⟩;rw[Oper.semAt_eq _ _ _ zf,h,Oper.uponIn_round];refine⟨λh=>by simp[FR]at h,?_⟩;have hR':RoundIn (FR none) (n-1) P l f tmps x y w' λe zL=>(∃v,e=.returned v/\R (a.put o.dst v) zL)\/∃ch,e=.panicked ch/\Q (.panic ch) a zL:=hR;refine hR'.mono ?_;rintro e zL (⟨v,rfl,hv⟩|⟨ch,rfl,hv⟩);exact hv;exact hv
theorem Rq{h:Fz}{g:Gh}(hg:g.h=h):∀{ds:List DV}{l:List PA}{vs:List Value},qK ds=some l→RL (qM g) ds vs→RL (nN h) l vs
  | [],l,vs,h,hr=>by
    simp only[qK,bQ]at h;subst h;cases vs with|nil=>trivial|cons=>exact hr.elim
  | d::ds,l,[],h,hr=>hr.elim
  | .one (.c (.p p))::ds,l,v::vs,h,hr=>by
    simp only[qK]at h;split at h;rename_i l' zK;simp only[bQ]at h;subst h;refine⟨?_,Rq hg zK hr.2⟩;have:=hr.1;rw[<- hg];exact this;cases h
  | .one (.agg cs)::ds,l,v::vs,h,hr=>by
    simp only[qK]at h;split at h;rename_i l' m' hc Ie;simp only[bQ]at h;subst h;refine⟨?_,Rq hg Ie hr.2⟩;obtain⟨us,rfl,NQ⟩:=hr.1;rw[nS hc]at NQ;have:=RL.map_left.1 NQ;exact⟨us,rfl,by rw[<- hg];exact this⟩;cases h
  | .one (.c (.ptr _ _))::ds,l,v::vs,h,hr=>by simp[qK]at h
  | .one (.c (.vptr _ _ _ _))::ds,l,v::vs,h,hr=>by simp[qK]at h
  | .one (.c (.vec _))::ds,l,v::vs,h,hr=>by simp[qK]at h
  | .one (.c .undef)::ds,l,v::vs,h,hr=>by simp[qK]at h
  | .one (.c .junk)::ds,l,v::vs,h,hr=>by simp[qK]at h
  | .one (.c (.dead _))::ds,l,v::vs,h,hr=>by simp[qK]at h
  | .tup _::ds,l,v::vs,h,hr=>by simp[qK]at h
variable(J Jx:List (List PA)->Fz->World->Prop)
def JQ(q:Bool)(ys:List (List PA))(h:Fz)(w:World):Prop :=
 match q with|false=>J ys h w|true=>∃rest,Jx rest h w
structure YI (l : Nat) (a : Act) : Prop where
  d:a.defers=[]
  y:a.tmps.getD 0 undef=.func (.yield l) #[] #[]
theorem YI.put{l:Nat}{a:Act}(h:YI l a){dst:Option Nat}(hd:dst≠some 0){v:Value}{ds:List Deferred}(OT:(({a with defers:=ds}:Act).put dst v).defers=[]):YI l (({a with defers:=ds}:Act).put dst v):=by
 refine⟨OT,?_⟩;cases dst with
 | none=>exact h.y
 | some t =>
  have ht:t≠0:=λe=>hd (by rw[e]);have:=h.y;simpa [Act.put,xI,qdB ht]using this
def zbE(P:Program)(nt l:Nat)(hs:Fz)(Rp:Ending->World->Prop)(K:YK):Exit->Act->World->Prop :=
 λe a' w'=>(∃ys q σ w0 h0 g,K e ys q σ/\bW P nt w0.heap.size w0 h0 g σ a' w'/\jP hs h0/\JQ J Jx q ys h0 w0/\YI l a')\/∃ch,e=.panic ch/\YI l a'/\Rp (.panicked ch) w'
variable {J Jx}
theorem JQ.later{q:Bool}{ys:List (List PA)}{h0:Fz}{w0:World}{g:Gh}{σ:St}{a:Act}{w:World}(hJ:JSt J)(hJx:JSt Jx)(h:JQ J Jx q ys h0 w0)(S:bW P nt w0.heap.size w0 h0 g σ a w):JQ J Jx q ys g.h w:=by
 cases q with
 | false=>exact hJ _ _ _ _ _ h S.le0 S.hw S.hn S.below
 | true=>obtain⟨rest,h⟩:=h;exact⟨rest,hJx _ _ _ _ _ h S.le0 S.hw S.hn S.below⟩
def YH(P:Program)(J Jx:List (List PA)->Fz->World->Prop)(Rp:Ending->World->Prop)(l:Nat):Prop :=
 ∀y rest h W us,J (y::rest) h W->RL (nN h) y us->Hw h W->∀n,∃fn tmps assign body,(Instr.yield l us.toArray).run P W=.ok (.round l fn tmps assign body) W /\
   RoundIn Fence.wide n P l fn tmps assign body W λe W'=>(∃h',jP h h'/\Hw h' W'/\((e=.returned (.bool true)/\J rest h' W')\/(e=.returned (.bool false)/\Jx rest h' W')))\/((∃ch,e=.panicked ch)/\Rp e W')
theorem qU{kl:List Nat}{l:List (Nat×DV)}:∀{ks:List Nat}{t:Nat}{d:DV},lk (vT kl l ks) t=some d→lk l t=some d∧∀L∈cu d,L∈kl
  | [],t,d,h=>by simp[vT,lk]at h
  | k::ks,t,d,h=>by
    simp only[vT]at h;split at h;rename_i d' fZ;split at h;rename_i hl;rw[aW]at h;split at h;rename_i e;simp only[bQ]at h;subst h;subst e;refine⟨fZ,λL hL=>?_⟩;have:=Af.1 hl L hL;simpa using this;exact qU h;exact qU h;exact qU h
theorem Ls{ob:Nat→Option AO}:∀{ks:List Nat}{x:Nat×AO},x∈O1 ob ks→∃l,ob x.1=some (.fbox l)∧x.2 = .fbox l
  | [],x,h=>by simp[O1]at h
  | k::ks,x,h=>by
    simp only[O1]at h;split at h;rename_i l hk;rcases kF.1 h with rfl|h
    exact⟨l,hk,rfl⟩;exact Ls h;exact Ls h
theorem Dp{σ:St}{L:Nat}{o:AO}(h:lk (JO σ) L=some o):∃l,o=.fbox l/\lk (EY (lk σ.aB) (σ.aB.map (·.1))++σ.aB) L=some (.fbox l):=by
 unfold JO at h;rw[gU]at h ⊢;cases hb:lk (EY (lk σ.aB) (σ.aB.map (·.1))) L with
 | some x =>
  rw[hb]at h;simp only[bQ]at h;subst h;obtain⟨ty,cells,l,_,h2,_⟩:=CZ (fH hb);have h2:x=.fbox l:=h2;subst h2;exact⟨l,rfl,rfl⟩
 | none =>
  rw[hb]at h;simp only at h;obtain⟨l,h1,h2⟩:=Ls (fH h);exact⟨l,h2,h1⟩
theorem yJ {α : Type} : ∀ {l : List (Nat × α)} {L : Nat}, L ∈ l.map (·.1) → ∃ o, lk l L = some o
  | [],L,h=>by simp at h
  | (k,a)::r,L,h=>by
    rw[aW];split;exact⟨a,rfl⟩;rename_i jb;simp only[o5,kF]at h;rcases h with rfl|h
    exact absurd rfl jb;exact yJ h
theorem zhJ{σ:St}{o:Oper}{args:Array Operand}{t:Nat}(h:zm2 σ o=some (args,t)) :
  ∃f ts,o.op=.call {callee:=.value f,args,argTypes:=ts}/\o.dst=some t/\fK σ.env f=.cl (.vec UE)/\lk σ.env 0=some (.cl (.vec UE)):=by
 unfold zm2 at h;split at h;rename_i f az ts t' bf hd;split at h;rename_i hl;split at h;rename_i h0;simp only[bQ,gm]at h;obtain⟨rfl,rfl⟩:=h;exact⟨f,ts,bf,hd,hl,h0⟩;cases h;cases h;cases h
theorem zbF{σ:St}{L:Nat}{o:AO}(h:lk ((UE,AO.gone)::JO σ) L=some o):(L=UE/\o=.gone)\/lk (JO σ) L=some o:=by
 rw[aW]at h;split at h;rename_i e;simp only[bQ]at h;exact .inl ⟨e.symm,h.symm⟩;exact .inr h
theorem Rt(fP:jk P Γ){Rp:Ending→World→Prop}{l:Nat}(hJ:JSt J)(hJx:JSt Jx)(hY:YH P J Jx Rp l){hs:Fz}{ops:Array Oper}{K:List (List PA)→Bool→St→Prop}{Q:Exit→Act→World→Prop}(hP:∀ch a w,YI l a→Rp (.panicked ch) w→Q (.panic ch) a w)
    (hQ:∀ys q σ w0 h0 g a w,K ys q σ->bW P nt w0.heap.size w0 h0 g σ a w->jP hs h0->JQ J Jx q ys h0 w0->YI l a->Q .normal a w) :
    ∀(lo:List Oper)(i:Nat)(ys:List (List PA))(q:Bool)(σ:St)(w0:World)(h0:Fz)(g:Gh)(a:Act)(w:World),(∀j,lo[j]? = ops[i+j]?)->(∀o∈lo,o.dst≠some 0)->lH P Γ nt ops lo K ys q σ ->
      bW P nt w0.heap.size w0 h0 g σ a w->jP hs h0->JQ J Jx q ys h0 w0->YI l a->wpOpsIn (FR none) n P ops Q (List.range' i lo.length) a w:=by
  intro lo
  induction lo with
  | nil=>intro i ys q σ w0 h0 g a w _ _ h S hle hj hd;exact hQ ys q σ w0 h0 g a w h S hle hj hd
  | cons o lo ih =>
    intro i ys q σ w0 h0 g a w hl hz h S hle hj EL;have hz0:=hz o kQ;have hz':∀o∈lo,o.dst≠some 0:=λo ho=>hz o (jS _ ho);have ho:ops[i]? = some o:=by have:=hl 0;simpa using this.symm
    have zK:∀j,lo[j]? = ops[i+1+j]?:=λj=>by have:=hl (j+1);rw[Yn]at this;rw[this];congr 1;omega
    simp only[EN,qdr,wpOpsIn,ho];have run:∀(σ:St),bW P nt w0.heap.size w0 h0 g σ a w->vU P Γ nt o (lH P Γ nt ops lo K) ys q σ->o.wpIn (FR none) n P a w (wpOpsIn (FR none) n P ops Q (List.range' (i+1) lo.length)) Q:=by
      clear h S;intro σ S h;unfold vU at h;split at h
      · rename_i args t hyl;obtain⟨f,ts,bf,Gp,hf,hf0⟩:=zhJ hyl;split at h
        · rename_i y hy ht;obtain⟨rest,rfl,htr,hfa⟩:=h;have NR:a.eval f=.func (.yield l) #[] #[]:=by
            have h1:qM g _ (a.eval f):=S.ev f;rw[hf]at h1;have h2:=S.env 0 _ hf0;rw[EL.y]at h2;have h1:a.eval f=g.sv UE/\_:=h1;have h2:Value.func (.yield l) #[] #[]=g.sv UE/\_:=h2;exact h1.1.trans h2.1.symm
          · obtain ⟨h1, S1, _⟩ := S.freeze (Vp (ob := lk σ.aB) (ks := σ.aB.map (·.1)));have hJn:J (y :: rest) h1 w:=hj.later hJ hJx S1;have NQ:RL (nN h1) y (args.toList.map a.eval):=Rq (g:=⟨h1,g.bk,g.sv,g.iv⟩) rfl hy (CS S1 args.toList);obtain⟨fn,tmps,x,c,df,zw6⟩:=hY y rest h1 w _ hJn NQ S1.hw (n - 1);refine zhI (by simp[bf]) (l:=l) (f:=fn) (tmps:=tmps) (x:=x) (y:=c) (w':=w) ?_ (zw6.mono ?_);simp only [execOp, bf, resolve, NR, Deferred.ofValue, Sem.run_bind, Sem.run_pure, Result.andThen_ok, invoke];rw[show (#[] ++ Array.map a.eval args)=(args.toList.map a.eval).toArray by cases args;simp];exact df
            · have hto : dI nt (some t) = true := ht
              have next:∀(b:Bool)(h':Fz)(W':World),jP h1 h'->Hw h' W'->JQ J Jx (!b) rest h' W'->lH P Γ nt ops lo K rest (!b) ((zh σ).setT t (.bool b)) ->
                  wpOpsIn (FR none) n P ops Q (List.range' (i+1) lo.length) (a.put o.dst (.bool b)) W':=by
                intro b h' W' gZ Jp oV AC;have S0:bW P nt W'.heap.size W' h' ⟨h',g.bk,g.sv,g.iv⟩ (zh σ) a W':=by
                  refine⟨by rw[EL.d];exact Marks.nil _ _,S.size,?_,λL o ho=>?_,λL o b ho cO=>?_,λL o b L' o' ho kH cO iq=>?_,Jp,λ_ _ h=>h,λb o h=>.inl h,xx.refl _ _ _,kw _,?_,λL o ho M hM=>?_⟩;intro u d hu;obtain⟨h2,_⟩:=qU hu;exact UM (g:=⟨h1,g.bk,g.sv,g.iv⟩) (g':=⟨h',g.bk,g.sv,g.iv⟩) (λL hL=>⟨rfl,rfl,rfl⟩) gZ (S1.env u d h2);rcases zbF ho with⟨_,rfl⟩|ho
                  trivial;obtain⟨l,rfl,h2⟩:=Dp ho;obtain⟨C,ty,fr,hC,hr⟩:=S1.obj L _ h2;exact⟨C,ty,fr,gZ _ _ hC,hr.mono λ_ _=>Rep.mono gZ⟩;rcases zbF ho with⟨_,rfl⟩|ho
                  exact cO.elim;obtain⟨l,rfl,_⟩:=Dp ho;exact cO.elim;rcases zbF ho with⟨_,rfl⟩|ho
                  exact cO.elim;obtain⟨l,rfl,_⟩:=Dp ho;exact cO.elim;intro u d hu L hL;exact yJ (l:=(UE,AO.gone)::JO σ) ((qU hu).2 L hL);rcases zbF ho with⟨_,rfl⟩|ho
                  simp[dU]at hM;obtain⟨l,rfl,_⟩:=Dp ho;simp[dU]at hM
                have S2:=S0.put (dst:=some t) (d:=.bool b) (v:=.bool b) hto (.bool b) (kD _) [];rw[Gp];exact ih (i+1) rest (!b) _ W' h' _ _ W' zK hz' AC S2 (λb o hb=>gZ b o (S1.le0 b o (hle b o hb))) oV (EL.put (ds:=a.defers) (Gp▸hz0) ((put_defers _ _ _).trans EL.d))
              rintro e W' (⟨h',gZ,Jp,(⟨rfl,oV⟩|⟨rfl,oV⟩)⟩|⟨⟨ch,rfl⟩,hr⟩)
              · exact .inl ⟨_,rfl,next true h' W' gZ Jp oV htr⟩
              · exact .inl ⟨_,rfl,next false h' W' gZ Jp ⟨rest,oV⟩ hfa⟩
              exact .inr ⟨ch,rfl,hP ch _ _ EL hr⟩
        exact h.elim
      split at h;rename_i hd;obtain⟨rM,hk⟩:=E8.1 h;refine I7 (YW (Fj (i:=0) (Q:=Q) (r:=none) (n:=n) fP S hd rfl rM)) ?_;rintro a' w' ⟨⟨zPR,g',σ',Ih,S'⟩,v,ds,rfl⟩;exact ih (i+1) ys q _ w0 h0 g' _ w' zK hz' (hk σ' Ih) (S'.log _) hle hj (EL.put hz0 (zPR.trans EL.d));exact h.elim
    have skp:∀(σ:St),dI nt o.dst=true->bW P nt w0.heap.size w0 h0 g σ a w->lH P Γ nt ops lo K ys q (σ.skip o.dst)->wpOpsIn (FR none) n P ops Q (List.range' (i+1) lo.length) (a.put o.dst undef) w:=by
      intro σ hd S h;exact ih (i+1) ys q _ w0 h0 g _ w zK hz' h (S.skip hd) hle hj (EL.put (ds:=a.defers) hz0 ((put_defers _ _ _).trans EL.d))
    simp only[lH]at h;split at h;rename_i hg;rw[eX (by simp[Region.wanted,hg])];exact run σ S h;rename_i j want hg;split at h;rename_i gt hd TY;split at h
    · rename_i b hb;have hv:a.tmps.getD gt undef=.bool b:=by
        have:=S.env gt _ hb;generalize a.tmps.getD gt undef=v at this;cases this;rfl
      have hy:=wo TY hv;have S1:∀c,b=c->bW P nt w0.heap.size w0 h0 g (σ.setT gt (.bool c)) a w:=by
        intro c hc;refine S.env' (t:=gt) (d:=.bool c) ?_ (kD _);rw[hv,hc];exact .bool c
      have h2:=qA.1 h;cases b with
      | true =>
        have h3:=h2.1 rfl;cases want with|true=>rw[eX (by simp[Region.wanted,hg,hy])];exact run _ (S1 true rfl) h3|false=>rw[fF (by simp[Region.wanted,hg,hy])];exact⟨λ_ _=>trivial,skp _ hd (S1 true rfl) h3⟩
      | false =>
        have h3:=h2.2 rfl;cases want with|true=>rw[fF (by simp[Region.wanted,hg,hy])];exact⟨λ_ _=>trivial,skp _ hd (S1 false rfl) h3⟩|false=>rw[eX (by simp[Region.wanted,hg,hy])];exact run _ (S1 false rfl) h3
    rename_i hb;have hv:a.tmps.getD gt undef=undef:=S.env gt _ hb;have hy:=uf TY hv;rw[fF (by simp[Region.wanted,hg,hy])];exact⟨λ_ _=>trivial,skp _ hd S h⟩;exact h.elim;exact h.elim
theorem znG:∀{l:List Oper}{o:Oper}{t:Nat},o∈l->o.dst=some t->t∈Iq l:=fun {l} _ _ h e=>by
 obtain⟨j,hj⟩:=Yo h;exact Dn hj e
theorem zd6(fP:jk P Γ)(aQ:dG){Rp:Ending->World->Prop}{l:Nat}(hJ:JSt J)(hJx:JSt Jx)(hY:YH P J Jx Rp l){hs:Fz}:∀(c:Code)(K:YK)(ys:List (List PA))(q:Bool)(σ:St)(w0:World)(h0:Fz)(g:Gh)(a:Act)(w:World),
  QH P Γ aQ c K ys q σ->bW P aQ.nt w0.heap.size w0 h0 g σ a w->jP hs h0->JQ J Jx q ys h0 w0->YI l a->c.wpIn (FR none) n P (zbE J Jx P aQ.nt l hs Rp K) a w:=by
 intro c
 induction c with
 | skip=>intro K ys q σ w0 h0 g a w h S hle hj hd;exact wpIn_skip (.inl ⟨ys,q,σ,w0,h0,g,h,S,hle,hj,hd⟩)
 | region id ops draw =>
  intro K ys q σ w0 h0 g a w h S hle hj hd;simp only[QH]at h;split at h;exact h.elim
  ·-- a region that yields
   rename_i hz _;refine wpIn_region ?_;have:=Rt (n:=n) fP hJ hJx hY (hs:=hs) (ops:=ops) (Q:=zbE J Jx P aQ.nt l hs Rp K) (λch a w hd hr=>.inr ⟨ch,rfl,hd,hr⟩) (λys q σ w0 h0 g a w h S hle hj hd=>?_) ops.toList 0 ys q _ w0 h0 g a w (λj=>by simp) (λo ho e=>by have:=znG ho e;simp at hz;exact hz this) h (S.log _) hle hj hd;rw [qdp];simpa using this;split at h;split at h;rename_i s rM;obtain⟨g2,S2⟩:=eF rM S;exact .inl ⟨ys,q,s,w0,h0,g2,h,S2,hle,hj,hd⟩;exact h.elim;exact .inl ⟨ys,q,_,w0,h0,g,h,S.log _,hle,hj,hd⟩
  exact h.elim;rename_i hz _;exact qG (PY (r:=none) (n:=n) fP aQ (D:=Iq ops.toList) (a0:=a) (λ_ h=>h) h S (Kp.refl _ _) λg' σ' a' w' hK S' hk EL=>.inl ⟨ys,q,σ',w0,h0,g',hK,S',hle,hj,EL.trans hd.d,(hk.1 0 (by simpa using hz)).trans hd.y⟩)
 | seq x y ihx Yj =>
  intro K ys q σ w0 h0 g a w h S hle hj hd;refine wpIn_seq (wpIn_mono (ihx _ ys q σ w0 h0 g a w h S hle hj hd) ?_);rintro e a' w' (⟨pR,q',σ',w1,h1,g',hK,S',gZ,oV,fZ⟩|⟨ch,rfl,fZ,uA⟩)
  rotate_left
  exact .inr ⟨ch,rfl,fZ,uA⟩;cases e with
  | normal =>
   simp only[zwD,zwF]at hK;split at hK;split at hK;rename_i s hs;obtain⟨g2,S2⟩:=eF hs S';exact Yj K pR q' s w1 h1 g2 a' w' hK S2 gZ oV fZ;exact hK.elim;exact Yj K pR q' σ' w1 h1 g' a' w' hK S' gZ oV fZ
  | exit id=>exact .inl ⟨pR,q',σ',w1,h1,g',hK,S',gZ,oV,fZ⟩
  | goto l=>exact .inl ⟨pR,q',σ',w1,h1,g',hK,S',gZ,oV,fZ⟩
  | ret=>exact .inl ⟨pR,q',σ',w1,h1,g',hK,S',gZ,oV,fZ⟩
  | panic ch=>exact .inl ⟨pR,q',σ',w1,h1,g',hK,S',gZ,oV,fZ⟩
  | outgrown=>exact .inl ⟨pR,q',σ',w1,h1,g',hK,S',gZ,oV,fZ⟩
 | cond c x y ihx Yj =>
  intro K ys q σ w0 h0 g a w h S hle hj hd;simp only[QH]at h;split at h
  ·rename_i t ht;have hv:=uM S ht;have hS:∀b,t=b->bW P aQ.nt w0.heap.size w0 h0 g (xw σ c b) a w:=by
    intro b hb;cases c with
    | tmp q =>
     refine S.env' (t:=q) (d:=.bool b) ?_ (kD _);have:a.tmps.getD q undef=.bool t:=hv;rw[this,hb];exact .bool b
    | _=>exact S
   have h2:=qA.1 h;refine wpIn_cond hv ?_;cases t with|true=>exact ihx K ys q _ w0 h0 g a w (h2.1 rfl) (hS true rfl) hle hj hd|false=>exact Yj K ys q _ w0 h0 g a w (h2.2 rfl) (hS false rfl) hle hj hd
  exact h.elim
 | block id b ih =>
  intro K ys q σ w0 h0 g a w h S hle hj hd;refine wpIn_block (wpIn_mono (ih _ ys q σ w0 h0 g a w h S hle hj hd) ?_);rintro e a' w' (⟨pR,q',σ',w1,h1,g',hK,S',gZ,oV,fZ⟩|⟨ch,rfl,fZ,uA⟩)
  rotate_left
  exact .inr ⟨ch,rfl,fZ,uA⟩;cases e with
  | exit j =>
   simp only[Yz]at hK;simp only[Exit.inBlock];split at hK;rename_i hj;rw[eX (kP hj)];exact .inl ⟨pR,q',σ',w1,h1,g',hK,S',gZ,oV,fZ⟩;rename_i hj;rw[fF (qdu hj)];exact .inl ⟨pR,q',σ',w1,h1,g',hK,S',gZ,oV,fZ⟩
  | normal=>exact .inl ⟨pR,q',σ',w1,h1,g',hK,S',gZ,oV,fZ⟩
  | goto l=>exact .inl ⟨pR,q',σ',w1,h1,g',hK,S',gZ,oV,fZ⟩
  | ret=>exact .inl ⟨pR,q',σ',w1,h1,g',hK,S',gZ,oV,fZ⟩
  | panic ch=>exact .inl ⟨pR,q',σ',w1,h1,g',hK,S',gZ,oV,fZ⟩
  | outgrown=>exact .inl ⟨pR,q',σ',w1,h1,g',hK,S',gZ,oV,fZ⟩
 | loop b ih =>
  intro K ys q σ w0 h0 g a w h S hle hj hd;simp only[QH]at h;split at h
  ·rename_i k hk;split at h
   ·rename_i s rM;obtain⟨g1,S1⟩:=eF rM S;refine He ?_;have key:=h (λ ys q s=>∀ w0 h0 g a w,bW P aQ.nt w0.heap.size w0 h0 g s a w->jP hs h0->JQ J Jx q ys h0 w0->YI l a->VD (FR none) n P b (zbE J Jx P aQ.nt l hs Rp K) a w) ?_;exact key w0 h0 g1 a w S1 hle hj hd
    ·intro ys q s hs2 w0 h0 g a w S hle hj hd;refine Hf (wpIn_mono (ih _ ys q s w0 h0 g a w hs2 S hle hj hd) ?_);rintro e a' w' (⟨pR,q',σ',w1,h1,g',hK,S',gZ,oV,fZ⟩ | ⟨ch,rfl,fZ,uA⟩)
     rotate_left
     exact .inr ⟨ch,rfl,fZ,uA⟩;cases e with
     | normal =>
      simp only[zgH,hk]at hK;split at hK;rename_i s2 hs2;obtain⟨g2,S2⟩:=eF hs2 S';exact hK w1 h1 g2 a' w' S2 gZ oV fZ;exact hK.elim
     | exit id=>exact .inl ⟨pR,q',σ',w1,h1,g',hK,S',gZ,oV,fZ⟩
     | goto l=>exact .inl ⟨pR,q',σ',w1,h1,g',hK,S',gZ,oV,fZ⟩
     | ret=>exact .inl ⟨pR,q',σ',w1,h1,g',hK,S',gZ,oV,fZ⟩
     | panic ch=>exact .inl ⟨pR,q',σ',w1,h1,g',hK,S',gZ,oV,fZ⟩
     | outgrown=>exact .inl ⟨pR,q',σ',w1,h1,g',hK,S',gZ,oV,fZ⟩
   exact h.elim
  ·split at h
   ·rename_i m k hk
    have key:∀(m:Nat)(ys:List (List PA))(q:Bool)(σ:St)(w0:World)(h0:Fz)(g:Gh)(a:Act)(w:World),O3 P k (QH P Γ aQ b) m K ys q σ->bW P aQ.nt w0.heap.size w0 h0 g σ a w->jP hs h0->JQ J Jx q ys h0 w0->YI l a ->
      VD (FR none) n P b (zbE J Jx P aQ.nt l hs Rp K) a w:=by
     intro m
     induction m with
     | zero=>intro ys q σ w0 h0 g a w h;exact h.elim
     | succ m ihm =>
      intro ys q σ w0 h0 g a w h S hle hj hd;simp only[O3]at h;split at h
      ·rename_i s rM;obtain⟨g1,S1⟩:=eF rM S;refine Hf (wpIn_mono (ih _ ys q s w0 h0 g1 a w h S1 hle hj hd) ?_);rintro e a' w' (⟨pR,q',σ',w1,h1,g',hK,S',gZ,oV,fZ⟩ | ⟨ch,rfl,fZ,uA⟩)
       rotate_left
       exact .inr ⟨ch,rfl,fZ,uA⟩;cases e with|normal=>exact ihm pR q' σ' w1 h1 g' a' w' hK S' gZ oV fZ|exit id=>exact .inl ⟨pR,q',σ',w1,h1,g',hK,S',gZ,oV,fZ⟩|goto l=>exact .inl ⟨pR,q',σ',w1,h1,g',hK,S',gZ,oV,fZ⟩|ret=>exact .inl ⟨pR,q',σ',w1,h1,g',hK,S',gZ,oV,fZ⟩|panic ch=>exact .inl ⟨pR,q',σ',w1,h1,g',hK,S',gZ,oV,fZ⟩|outgrown=>exact .inl ⟨pR,q',σ',w1,h1,g',hK,S',gZ,oV,fZ⟩
      exact h.elim
    exact He (key m ys q σ w0 h0 g a w h S hle hj hd)
   exact h.elim
 | exit id=>intro K ys q σ w0 h0 g a w h S hle hj hd;exact wpIn_exit (.inl ⟨ys,q,σ,w0,h0,g,h,S,hle,hj,hd⟩)
 | scope b ih =>
  intro K ys q σ w0 h0 g a w h S hle hj hd;refine Zd (wpIn_mono (ih _ ys q σ w0 h0 g a w h S hle hj hd) ?_);rintro e a' w' (⟨pR,q',σ',w1,h1,g',hK,S',gZ,oV,fZ⟩|⟨ch,rfl,fZ,uA⟩)
  rotate_left
  exact .inr ⟨ch,rfl,fZ,uA⟩;cases e with|goto l=>exact hK|normal=>exact .inl ⟨pR,q',σ',w1,h1,g',hK,S',gZ,oV,fZ⟩|exit l=>exact .inl ⟨pR,q',σ',w1,h1,g',hK,S',gZ,oV,fZ⟩|ret=>exact .inl ⟨pR,q',σ',w1,h1,g',hK,S',gZ,oV,fZ⟩|panic ch=>exact .inl ⟨pR,q',σ',w1,h1,g',hK,S',gZ,oV,fZ⟩|outgrown=>exact .inl ⟨pR,q',σ',w1,h1,g',hK,S',gZ,oV,fZ⟩
 | label l=>intro K ys q σ w0 h0 g a w h S hle hj hd;exact wpIn_label (.inl ⟨ys,q,σ,w0,h0,g,h,S,hle,hj,hd⟩)
 | ret=>intro K ys q σ w0 h0 g a w h S hle hj hd;exact wpIn_ret (.inl ⟨ys,q,σ,w0,h0,g,h,S,hle,hj,hd⟩)
 | rangeFunc f ps x y _ _=>intro K ys q σ w0 h0 g a w h S;exact h.elim
 | goto l=>intro K ys q σ w0 h0 g a w h S;exact h.elim
 | refuse s=>intro K ys q σ w0 h0 g a w h S;exact h.elim
theorem zhK{v:Value}{vs:List Value}{m:Nat}:((v::vs).toArray++Array.replicate m undef).getD 0 undef=v:=by
 rw[xI,dqW (by simp)];simp
theorem zw7{nt l:Nat}{args:List PA}{w:World}{h0:Fz}{vs:List Value}{m:Nat}(EH:nt=m)(hlen:args.length+1≤nt)(jE:RL (nN h0) args vs)(NZ:Hw h0 w) :
  bW P nt w.heap.size w h0 ⟨h0,λ_=>0,λ_=>.func (.yield l) #[] #[],λ_ _=>undef⟩ ⟨(0,.cl (.vec UE))::jd 1 args,[(UE,.gone)],[]⟩ {tmps:=(.func (.yield l) #[] #[]::vs).toArray++Array.replicate (m-(.func (.yield l) #[] #[]::vs).toArray.size) undef,defers:=[]} w:=by
 have hl:=jE.length;have ho:∀{L:Nat}{o:AO},lk [(UE,AO.gone)] L=some o->o=.gone:=fun {L o} h=>by
  rw[aW]at h;split at h;simp only[bQ]at h;exact h.symm;simp[lk]at h
 refine⟨Marks.nil _ _,by simp;omega,?_,λL o h=>by rw[ho h];trivial,λL o b h hb=>by rw[ho h]at hb;exact hb.elim,λL o b L' o' h h' hb=>by rw[ho h]at hb;exact hb.elim,NZ,λ_ _ h=>h,λb o h=>.inl h,xx.refl _ _ _,kw _,?_,λL o h M hM=>by rw[ho h]at hM;simp[dU]at hM⟩;intro t d ht;rw[aW]at ht;split at ht;rename_i e;subst e;simp only[bQ]at ht;subst ht;rw[zhK];exact⟨rfl,rfl⟩;obtain⟨x,hx,hle,rfl⟩:=qH args 1 t d ht;obtain⟨v,hv,xH⟩:=jE.get (t-1) x hx;have iw:=(AL.1 hv).1;have:((.func (.yield l) #[] #[]::vs).toArray++Array.replicate (m-(.func (.yield l) #[] #[]::vs).toArray.size) undef).getD t undef=v:=by
  rw[xI,dqW (by simp;omega)];obtain⟨k,rfl⟩:∃k,t=k+1:=⟨t-1,omY⟩;have hv:vs[k]? = some v:=hv;simp[hv]
 rw[this];exact KA (g:=⟨h0,λ_=>0,λ_=>.func (.yield l) #[] #[],λ_ _=>undef⟩) xH;intro t d ht L hL;rw[aW]at ht;split at ht;simp only [bQ]at ht;subst ht;have e:L=UE:=by simpa [cu,dC,bu]using hL
 subst e;exact⟨.gone,rfl⟩;obtain⟨x,hx,_,rfl⟩:=qH args 1 t d ht;rw[show cu (.one (IM x))=dC (IM x)from rfl,vY]at hL;simp at hL
theorem zhL{G:bI}(fP:jk P G){f:FuncId}{C:List PA→ae (List (List PA))}(hc:dm P f)
    (h:∀caps ys,(C caps).o=some ys->∃vv aQ,QI P {G with vv:=vv} aQ f caps ys):zT P f C:=by
  intro caps ys hC l J Jx Rp w h0 vs hJ hJx hY hj0 jE NZ;refine⟨hc,?_⟩;obtain⟨vv,aQ,hv⟩:=h caps ys hC;unfold QI at hv;split at hv
  · rename_i fn sU;split at hv
    · rename_i c rP;split at hv
      · rename_i EH;simp only[gz,Ug] at EH;obtain⟨⟨EH,hlen⟩,og⟩:=EH;have S:=zw7 (P:=P) (l:=l) (args:=caps) (vs:=vs) (h0:=h0) (w:=w) (kP EH) (by simpa using hlen) jE NZ;have hwp:=zd6 (n:=0) (Γ:={ G with vv:=vv }) (J:=J) (Jx:=Jx) (Rp:=Rp) (hs:=h0) ⟨fP.mt,fP.fn,fP.own,fP.it,fP.cmp⟩ aQ (l:=l) hJ hJx hY c _ ys false _ w h0 _ _ w hv S (λ _ _ h=>h) hj0 ⟨rfl,zhK⟩;refine (callsIn_wide (n:=0)).1 ?_;refine callsIn_of_wp (F:=FR none) sU rP trivial (wpIn_mono hwp ?_);rintro e a' w' (⟨pR,q',σ',w1,h1,g',hK,S',hle,hj,hd⟩ | ⟨ch,rfl,hd,hr⟩)
        rotate_left
        exact⟨hd.d,.inr ⟨⟨ch,rfl⟩,hr⟩⟩;have fin:zgI pR q'->a'.defers=[]/\∃v,(results fn a'.tmps).run P w'=.ok v w'/\((∃v2 h',Ending.returned v=.returned v2/\jP h0 h'/\Hw h' w'/\(J [] h' w'\/∃rest,Jx rest h' w'))\/((∃ch,Ending.returned v=.panicked ch)/\Rp (.returned v) w')):=by
          intro hf;have hr:fn.results = #[]:=by simpa using og
          refine⟨hd.d,.tuple #[],?_,.inl ⟨_,g'.h,rfl,λb o hb=>S'.le0 b o (hle b o hb),S'.hw,?_⟩⟩;simp[results,hr]
          · have:=hj.later hJ hJx S';cases q' with|false=>simp only[zgI]at hf;subst hf;exact .inl this|true=>exact .inr this
        cases e with|normal=>exact fin hK|ret=>exact fin hK|exit id=>exact hK.elim|goto l=>exact hK.elim|panic ch=>exact hK.elim|outgrown=>exact hK.elim
      exact hv.elim
    exact hv.elim
  exact hv.elim
def Zf(n s:Nat)(get:Nat->List PV)(rs:List PV)(r:List PA):Prop:=r=.one (.sl n s get)::rs.map .one
theorem zd7{G:bI}(fP:jk P G){f:FuncId}{e s b:Nat}{F:List PA→ae (Nat×(Nat→List PV)×List PV)}(hc:dm P f)
    (h:∀az n get rs,(F az).o=some (n,get,rs)->∃vv aQ,za0 P {G with vv:=vv} aQ f az e s b (Zf n s get rs)):fU P f (.mkv e s b F):=by
  intro w h0 az vs n get rs hF jE NZ;refine⟨hc,?_⟩;obtain⟨vv,aQ,AC⟩:=h az n get rs hF;unfold za0 at AC;split at AC;rename_i fn sU;split at AC;rename_i c rP;split at AC
  · rename_i EH;simp only[gz,Ug] at EH;refine P5 (G:={ G with vv:=vv }) ⟨fP.mt,fP.fn,fP.own,fP.it,fP.cmp⟩ (Kx:=λ fn=>zgG fn e s b (Zf n s get rs)) (vs:=vs) sU rP (kP EH.1) EH.2 AC jE NZ ?_;intro ex σ' g' a' w' xn S'
    have fin:O0 fn e s b (Zf n s get rs) σ'->∃v,(results fn a'.tmps).run P w'=.ok v w'/\∃(h':Fz)(v':Value)(xs:List Value),Ending.returned v=.returned (UG v' xs rs)/\RL (Rep h') rs xs/\v'.oneCell'=true/\tH get /\
        zS h' w' w.heap.size e s v' n get/\(∀k,v'.ownBlock=some k->h' k=none)/\xx h0 w.heap.size w w'/\jP h0 h'/\Hw h' w'/\∀b o,h' b=some o->h0 b=some o\/w.heap.size<=b:=by
      intro hf;unfold O0 at hf;split at hf;rename_i t og;have hr:fn.results = #[.tmp t]:=by rw[<- qdc (xs:=fn.results),og]
      have df:(results fn a'.tmps).run P w'=.ok (a'.tmps.getD t undef) w':=by
        simp only[results,hr];simp
      split at hf;rename_i L ht;split at hf;rename_i e' s' b' m get' cO;split at hf
      · rename_i hb;simp only[gz]at hb;have e1:=kP hb.1;have e2:=kP hb.2.1;subst e1 e2;obtain⟨htv,lM⟩:=S'.env t _ ht;obtain⟨iF,mV,ys,Yd,hrr⟩:=S'.obj L _ cO;unfold Zf at hf;cases rs with
        | nil =>
          simp only[qdQ,Gu,PA.one.injEq,PV.sl.injEq,qj9]at hf;obtain⟨rfl,_,rfl⟩:=hf;exact⟨_,df,g'.h,g'.sv L,[],by rw[htv];rfl,trivial,by rw[<- htv];exact lM,iF.1,⟨ys,Yd,hrr⟩,λk hk=>(S'.own L _ k cO hk).2,S'.below,S'.le0,S'.hw,S'.hn⟩
        | cons x l=>simp at hf
      exact hf.elim;exact hf.elim;exact hf.elim;rename_i t u og;have hr:fn.results = #[.tmp t,.tmp u]:=by rw[<- qdc (xs:=fn.results),og]
      have df:(results fn a'.tmps).run P w'=.ok (.tuple #[a'.tmps.getD t undef,a'.tmps.getD u undef]) w':=by
        simp only[results,hr];simp
      split at hf;rename_i L ht;split at hf;rename_i x hu;split at hf;rename_i e' s' b' m get' cO;split at hf
      · rename_i hb;simp only[gz] at hb;have e1:=kP hb.1;have e2:=kP hb.2.1;subst e1 e2;obtain⟨htv,lM⟩:=S'.env t _ ht;have huv:=S'.env u _ hu;obtain⟨iF,mV,ys,Yd,hrr⟩:=S'.obj L _ cO;unfold Zf at hf
        match rs,hf with
        | [y],hf =>
          simp only[o5,qdQ,Gu,PA.one.injEq,PV.sl.injEq,qj9]at hf;obtain⟨⟨rfl,_,rfl⟩,rfl⟩:=hf;exact⟨_,df,g'.h,g'.sv L,[a'.tmps.getD u undef],by rw[<- htv];rfl,⟨huv,trivial⟩,by rw[<- htv];exact lM,iF.1,⟨ys,Yd,hrr⟩,λk hk=>(S'.own L _ k cO hk).2,S'.below,S'.le0,S'.hw,S'.hn⟩
        | [],hf=>simp at hf
        | _::_::_,hf=>simp at hf
      exact hf.elim;exact hf.elim;exact hf.elim;exact hf.elim;exact hf.elim
    cases ex with|normal=>exact⟨.inl rfl,fin xn⟩|ret=>exact⟨.inr rfl,fin xn⟩|exit id=>exact xn.elim|goto l=>exact xn.elim|panic ch=>exact xn.elim|outgrown=>exact xn.elim
  exact AC.elim;exact AC.elim;exact AC.elim
end
end Go.Pm
namespace Go.Pm
variable [aH]
open Go.RowKit (Below)
def FM(i j:Nat):Nat:=i+4096*(j+1)
def Lt:Nat→List XA→List (Nat×DV)|_,[]=>[]|i,.d a::r=>(i,.one (IM a))::Lt (i+1) r|i,.box _ _::r=>(i,.cl (.ptr i 0))::Lt (i+1) r
def zu:Nat→Nat→List sZ|_,0=>[]|np,n+1=>.b np::zu (np+1) n
def o9(i:Nat):Nat→List XC→List Cl|_,[]=>[]|j,.p v::r=>.p v::o9 i (j+1) r|j,.vec _ _ _ _ _::r=>.vec (FM i j)::o9 i (j+1) r|j,.mo _ _ _ _ _::r=>.mo (FM i j)::o9 i (j+1) r|j,.slf f np n::r=>.clo f (zu np n)::o9 i (j+1) r
def mD(i:Nat):Nat→List XC→List (Nat×AO)|_,[]=>[]|j,.p _::r=>mD i (j+1) r|j,.vec e s b n get::r=>(FM i j,.vec e s b n get)::mD i (j+1) r|j,.mo kt vt q n F::r=>(FM i j,.mo kt vt q n F)::mD i (j+1) r|j,.slf _ _ _::r=>mD i (j+1) r
def iP:Nat→List XA→List (Nat×AO)|_,[]=>[]|i,.d _::r=>iP (i+1) r|i,.box ty cs::r=>(i,.box ty (o9 i 0 cs))::(mD i 0 cs++iP (i+1) r)
def wz:Nat→List XA→List Nat|_,[]=>[]|i,.d _::r=>wz (i+1) r|i,.box _ _::r=>i::wz (i+1) r
def zbG:List XC→Option (FuncId×Nat×Nat)|[]=>none|.slf f np n::_=>some (f,np,n)|_::r=>zbG r
def VH:List XA→Option (FuncId×Nat×Nat)
  | []=>none
  | .d _::r=>VH r
  | .box _ cs::r=>match zbG cs with|some x=>some x|none=>VH r
def Lu(env:List (Nat×DV)):Nat→Nat→Option (List Nat)
  | _,0=>some []
  | np,n+1=>match lk env np,Lu env (np+1) n with|some (.one (.c (.ptr L 0))),some l=>some (L::l)|_,_=>none
def Bj(env:List (Nat×DV))(xs:List XA):kR:=match VH xs with
 | some (f,np,n)=>match Lu env np n with|some l=>some (f,np,l)|none=>none
 | none=>none
def yK(bx:List Nat):Nat→Nat→Bool|_,0=>true|np,n+1=>bx.contains np&&yK bx (np+1) n
def LC(bx:List Nat):List XC→Bool|[]=>true|.slf _ np n::r=>yK bx np n&&LC bx r|_::r=>LC bx r
def yL(bx:List Nat):List XA→Bool|[]=>true|.d _::r=>yL bx r|.box _ cs::r=>LC bx cs&&yL bx r
section
variable(P:Program)
def Dq(σ:St):List ResultVar→Option (List PA×List (Nat×AO))
  | []=>some ([],[])
  | .tmp t::r=>match lk σ.env t with
    | some d=>match zN (lk σ.aB) d,Dq σ r with|some (x,u),some (l,us)=>some (x::l,u++us)|_,_=>none
    | none=>none
  | .cell t ty::r=>match lk σ.env t,jq P ty,pU P ty with
    | some (.one (.c (.ptr L off))),some g,some n=>match lk σ.aB L with
      | some (.box _ cells)=>match nI g n cells off with
        | some d=>match zN (lk σ.aB) (.one d),Dq σ r with|some (x,u),some (l,us)=>some (x::l,u++us)|_,_=>none
        | none=>none
      | _=>none
    | _,_,_=>none
def LD(sf:kR)(ob:Nat→Option AO)(env:List (Nat×DV)):Nat→List XA→Option (List XA×List Nat)
  | _,[]=>some ([],[])
  | i,.d a::r=>match LD sf ob env (i+1) r with|some (ys,ls)=>some (.d a::ys,ls)|none=>none
  | i,.box _ _::r=>match lk env i,LD sf ob env (i+1) r with
    | some (.one (.c (.ptr L 0))),some (ys,ls)=>match zQ sf ob (.one (.c (.ptr L 0)))with|some (y,l,_)=>some (y::ys,l++ls)|none=>none
    | _,_=>none
def U0(fn:Func)(xs:List XA)(K:List PA->List XA->Prop)(σ:St):Prop :=
 match Dq P σ fn.results.toList with
 | some (l,u)=>match LD (Bj σ.env xs) (lk (u++σ.aB)) σ.env 0 xs with
  | some (ys,ls)=>match lY ls,EW l with|true,none=>K l ys|_,_=>False
  | none=>False
 | none=>False
def zhM(xs:List XA)(K:List PA->List XA->Prop)(ch:List PanicEntry)(σ:St):Prop :=
 match chR ch with
 | some l=>match LD (Bj σ.env xs) (lk σ.aB) σ.env 0 xs with
  | some (ys,ls)=>match lY ls with|true=>K l ys|false=>False
  | none=>False
 | none=>False
def ztP(fn:Func)(xs:List XA)(K:List PA→List XA→Prop):Exit→St→Prop|.ret,σ=>U0 P fn xs K σ|.normal,σ=>U0 P fn xs K σ|.panic ch,σ=>zhM xs K ch σ|_,_=>False
def VJ(Γ:bI)(aQ:dG)(f:FuncId)(xs:List XA)(K:List PA->List XA->Prop):Prop :=
 match P.funcs[f]? with
 | some fn=>match fn.body with
  | some c=>match Nat.beq aQ.nt fn.ntmps&&Nat.ble xs.length aQ.nt&&lY ((iP 0 xs).map (·.1))&&yL (wz 0 xs) xs&&nM (wz 0 xs) (eu c)with|true=>vc P Γ aQ c (ztP P fn xs K) ⟨Lt 0 xs,iP 0 xs,[]⟩|false=>False
  | none=>False
 | none=>False
end
section
variable{P:Program}{Γ:bI}
def Ja(w:World)(v:Value):List Value:=match v with
 | .pointer (some a)=>match w.heap[a.block]? with|some (.cells C _ _)=>C.toList|_=>[]
 | _=>[]
def xVV(i:Nat):Nat→List XC→List Value→List (Nat×Value)|j,.p _::r,_::vs=>xVV i (j+1) r vs|j,.vec _ _ _ _ _::r,v::vs=>(FM i j,v)::xVV i (j+1) r vs|j,.mo _ _ _ _ _::r,v::vs=>(FM i j,v)::xVV i (j+1) r vs|j,.slf _ _ _::r,_::vs=>xVV i (j+1) r vs|_,_,_=>[]
def yM(w:World):Nat→List XA→List Value→List (Nat×Value)|i,.d _::r,_::vs=>yM w (i+1) r vs|i,.box _ cs::r,v::vs=>(i,v)::(xVV i 0 cs (Ja w v)++yM w (i+1) r vs)|_,_,_=>[]
def zhN:Value→Nat|.pointer (some a)=>a.block|_=>0
theorem Hm:∀(n np:Nat)(bx:List Nat),yK bx np n=true→∀M∈lF (zu np n),M∈bx
  | 0,_,_,_,M,hM=>by simp[zu,lF]at hM
  | n+1,np,bx,h,M,hM=>by
    simp only[yK,gz]at h;simp only[zu,lF,kF]at hM;rcases hM with rfl|hM
    simpa using h.1;exact Hm n (np+1) bx h.2 M hM
theorem Bl:∀(n np:Nat)(bx:List Nat),yK bx np n=true→∀k,k<n→np+k∈bx
  | 0,_,_,_,k,h=>absurd h omY
  | n+1,np,bx,h,k,hk=>by
    simp only[yK,gz]at h;cases k with|zero=>simpa using h.1|succ k=>rw[show np+(k+1)=np+1+k by omega];exact Bl n (np+1) bx h.2 k omY
theorem P6{g:Gh}:∀(bs:List Nat)(np:Nat),(∀k b,bs[k]? = some b→g.bk (np+k)=b)→RL (Ir g) (zu np bs.length) (bs.map xJ)|[],_,_=>trivial|b::bs,np,h=>⟨by show xJ b=_;rw[<- h 0 b rfl];rfl,P6 bs (np+1) λk b' hk=>by rw[<- h (k+1) b' (by simpa using hk)];congr 1;omega⟩
section start
variable{h:Fz}{w:World}{B:Nat}{g:Gh}(hle:∀p x,Rep h p x->Rep g.h p x)
include hle
theorem VK [dD]{i:Nat}{bx:List Nat}(Ru:∀k b,(dD.bs)[k]? = some b->dD.np+k∈bx->g.bk (dD.np+k)=b):∀{cs:List XC}{j:Nat}{vs:List Value},RL (xcR P h w B) cs vs->LC bx cs=true->(∀x∈xVV i j cs vs,g.sv x.1=x.2) ->
  RL (ja g) (o9 i j cs) vs/\(∀ x∈mD i j cs,U7 x.2/\dU x.2=[]/\NU P g w B x.1 x.2)/\uH cs vs=(mD i j cs).flatMap (λ x=>kO g x.1 x.2)/\(xVV i j cs vs).map (·.1)=(mD i j cs).map (·.1) /\
   ∀M∈(o9 i j cs).flatMap bu,M∈(mD i j cs).map (·.1)\/M∈bx
 | [],j,[],_,_,_=>⟨trivial,λx hx=>by simp[mD]at hx,rfl,rfl,λM hM=>by simp[o9]at hM⟩
 | [],_,_::_,hr,_,_=>hr.elim
 | _::_,_,[],hr,_,_=>hr.elim
 | .slf f np n::cs,j,v::vs,hr,hb,hs=>by
  simp only[LC,gz]at hb;obtain⟨i1,i2,i3,i4,i5⟩:=VK (j:=j+1) Ru hr.2 hb.2 hs;obtain⟨rfl,rfl,rfl,rfl⟩:=hr.1;refine⟨⟨⟨_,rfl,P6 _ _ λk b hk=>Ru k b hk (Bl _ _ _ hb.1 k (AL.1 hk).1)⟩,i1⟩,i2,by simp only[uH,xcK,OU];exact i3,i4,λM hM=>?_⟩;simp only[o9,oD,dW]at hM;rcases hM with hM|hM
  exact .inr (Hm _ _ _ hb.1 M hM);exact i5 M hM
 | .p p::cs,j,v::vs,hr,hb,hs=>by
  obtain⟨i1,i2,i3,i4,i5⟩:=VK (j:=j+1) Ru hr.2 hb hs;exact⟨⟨hle _ _ hr.1,i1⟩,i2,by simp only[uH,xcK,OU];exact i3,i4,λM hM=>i5 M (by simpa [o9,bu]using hM)⟩
 | .vec e s b n get::cs,j,v::vs,hr,hb,hs=>by
  obtain⟨i1,i2,i3,i4,i5⟩:=VK (j:=j+1) Ru hr.2 hb (λx hx=>hs x (jS _ hx));have hv:g.sv (FM i j)=v:=hs (FM i j,v) kQ;obtain⟨h1,h2,h3,xs,hx,OM⟩:=hr.1;refine⟨⟨⟨hv.symm,h1⟩,i1⟩,λx hx=>?_,?_,by simp[xVV,mD,i4],λM hM=>?_⟩;rcases kF.1 hx with e1|hx
  subst e1;refine⟨trivial,rfl,h2,h3,xs,?_,λq hq=>(OM q hq).mono hle⟩;show w.ownsRow B e s (g.sv (FM i j)) n xs;rw[hv];assumption;exact i2 x hx;simp only[uH,xcK,mD,oD,kO,hv,i3];simp only [o9,oD,dW,bu,kY]at hM;simp only[mD,o5,kF];rcases hM with hM|hM
  exact .inl (.inl hM);exact(i5 M hM).imp_left .inr
 | .mo kt vt q n F::cs,j,v::vs,hr,ER,hs=>by
  obtain⟨i1,i2,i3,i4,i5⟩:=VK (j:=j+1) Ru hr.2 ER (λx hx=>hs x (jS _ hx));have hv:g.sv (FM i j)=v:=hs (FM i j,v) kQ;obtain⟨b,es,clock,rfl,h2,h3⟩:=hr.1;have hb:oI (g.sv (FM i j))=b:=by rw[hv];rfl
  refine⟨⟨by show Value.map (some b)=.map (some (oI (g.sv (FM i j))));rw[hb],i1⟩,λx hx=>?_,?_,by simp[xVV,mD,i4],λM hM=>?_⟩;rcases kF.1 hx with e1|hx
  subst e1;exact⟨trivial,rfl,es,clock,by rw[hb];exact h2,h3⟩;exact i2 x hx;simp only[uH,xcK,mD,oD,kO,hb,i3];rfl;simp only [o9,oD,dW,bu,kY]at hM;simp only[mD,o5,kF];rcases hM with hM|hM
  exact .inl (.inl hM);exact(i5 M hM).imp_left .inr
theorem Rw [dD]{bx:List Nat}(Ru:∀k b,(dD.bs)[k]? = some b->dD.np+k∈bx->g.bk (dD.np+k)=b):∀{xs:List XA}{i:Nat}{vs:List Value},RL (zi P h w B) xs vs->yL bx xs=true->(∀x∈yM w i xs vs,g.sv x.1=x.2/\g.bk x.1=zhN x.2) ->
  (∀x∈iP i xs,U7 x.2/\(∀M∈dU x.2,M∈(iP i xs).map (·.1)\/M∈bx)/\NU P g w B x.1 x.2)/\nz w xs vs=(iP i xs).flatMap (λx=>kO g x.1 x.2)/\(yM w i xs vs).map (·.1)=(iP i xs).map (·.1)
 | [],i,[],_,_,_=>⟨λx hx=>by simp[iP]at hx,rfl,rfl⟩
 | [],_,_::_,hr,_,_=>hr.elim
 | _::_,_,[],hr,_,_=>hr.elim
 | .d a::xs,i,v::vs,hr,ER,hs=>by
  obtain⟨i1,i2,i3⟩:=Rw (i:=i+1) Ru hr.2 ER hs;exact⟨i1,by simp only[nz,UH,OU];exact i2,i3⟩
 | .box ty cs::xs,i,v::vs,hr,ER,hs=>by
  simp only[yL,gz]at ER;obtain⟨i1,i2,i3⟩:=Rw (i:=i+1) Ru hr.2 ER.2 (λx hx=>hs x (jS _ (dW.2 (.inr hx))));obtain⟨k,C,rfl,hC,nH⟩:=hr.1;have hca:Ja w (.pointer (some ⟨k,0,none⟩))=C.toList:=by simp only[Ja,hC]
  obtain⟨j1,j2,j3,j4,j5⟩:=VK (i:=i) (j:=0) hle Ru nH ER.1 (λx hx=>(hs x (jS _ (dW.2 (.inl (by rw[hca];exact hx))))).1);have hb:g.bk i=k:=(hs (i,_) kQ).2;refine⟨λx hx=>?_,?_,?_⟩;simp only [iP]at hx;rcases kF.1 hx with e|hx
  subst e;refine⟨trivial,λM hM=>?_,C,by rw[hb];exact hC,j1⟩;simp only[iP,o5,Ud,kF,dW];exact(j5 M hM).imp_left λh=>.inr (.inl h);rcases dW.1 hx with hx|hx
  obtain⟨q1,q2,q3⟩:=j2 x hx;exact⟨q1,λM hM=>by rw[q2]at hM;simp at hM,q3⟩;obtain⟨q1,q2,q3⟩:=i1 x hx;refine⟨q1,λM hM=>?_,q3⟩;simp only[iP,o5,Ud,kF,dW];exact(q2 M hM).imp_left λh=>.inr (.inr h);simp only[nz,UH,hC,iP,oD,qdH,kO,hb,j3,i2];simp;simp only[yM,iP,o5,Ud,hca,j4,i3]
end start
theorem Rx : ∀ (xs : List XA) (i t : Nat) (d : DV), lk (Lt i xs) t = some d → ∃ x, xs[t - i]? = some x ∧ i ≤ t ∧ d = match x with | .d a => .one (IM a) | .box _ _ => .cl (.ptr t 0)
  | [],i,t,d,h=>by simp[Lt,lk]at h
  | x::r,i,t,d,h=>by
    have key:lk (Lt (i+1) r) t=some d->i≠t->∃y,(x::r)[t-i]? = some y/\i<=t/\d=match y with | .d a=>.one (IM a) | .box _ _=>.cl (.ptr t 0):=λh jb=>by
      obtain⟨y,h1,h2,h3⟩:=Rx r (i+1) t d h;refine⟨y,?_,omY,h3⟩;rw[show t-i=(t-(i+1))+1 by omega,Yn];exact h1
    cases x with
    | d a =>
      simp only[Lt]at h;rw[aW]at h;split at h;rename_i e;subst e;simp only[bQ]at h;exact⟨.d a,by simp,kw _,h.symm⟩;rename_i e;exact key h e
    | box ty cs =>
      simp only[Lt]at h;rw[aW]at h;split at h;rename_i e;subst e;simp only[bQ]at h;exact⟨.box ty cs,by simp,kw _,h.symm⟩;rename_i e;exact key h e
theorem FN : ∀ {xs : List XA} {i t : Nat} {ty : Nat} {cs : List XC}, xs[t - i]? = some (.box ty cs) → i ≤ t → t ∈ (iP i xs).map (·.1)
  | [],i,t,ty,cs,h,_=>by simp at h
  | x::xs,i,t,ty,cs,h,hi=>by
    by_cases e:t=i;subst e;simp at h;subst h;simp[iP]
    · rw [show t-i=(t-(i+1))+1 by omega,Yn]at h;have:=FN (i:=i+1) h omY;cases x with
      | d a=>exact this
      | box Yl Ij =>
        simp only[iP,o5,Ud,kF,dW];exact .inr (.inr this)
theorem FO{w:World}:∀{xs:List XA}{i t:Nat}{ty:Nat}{cs:List XC}{vs:List Value}{v:Value},xs[t-i]? = some (.box ty cs)→vs[t-i]? = some v→i≤t→(t,v)∈yM w i xs vs
  | [],i,t,ty,cs,vs,v,h,_,_=>by simp at h
  | _::_,i,t,ty,cs,[],v,_,h,_=>by simp at h
  | x::xs,i,t,ty,cs,u::vs,v,h,h2,hi=>by
    by_cases e:t=i;subst e;simp at h h2;subst h h2;simp[yM]
    · rw [show t-i=(t-(i+1))+1 by omega,Yn]at h h2;have:=FO (w:=w) (i:=i+1) h h2 omY;cases x with
      | d a=>exact this
      | box Yl Ij =>
        simp only[yM,kF,dW];exact .inr (.inr this)
def pinned(h:Fz)(K:List Nat)(w:World):Fz:=λb =>
 match h b with
 | some (.fz (.cells C ty fr))=>some (.fz (.cells C ty fr))
 | _=>match K.contains b with|true=>none|false=>(w.heap[b]?).map .pin
theorem VL{h:Fz}{K:List Nat}{w:World}{b:Nat}{o:UF}(hb:h b=some o)(ho:(∃C ty fr,o=.fz (.cells C ty fr))):pinned h K w b=some o:=by
 obtain⟨C,ty,fr,rfl⟩:=ho;simp only[pinned,hb]
def zFF(h:Fz)(K:List Nat)(w:World)(b:Nat):Prop :=
 (∃o,h b=some o∧pinned h K w b=some o∧((∃C ty fr,o = .fz (.cells C ty fr)))) ∨
  (b∈K/\pinned h K w b=none)\/(b∉K/\pinned h K w b=(w.heap[b]?).map .pin)
theorem yN{h:Fz}{K:List Nat}{w:World}{b:Nat}(e:pinned h K w b=(match K.contains b with|true=>none|false=>(w.heap[b]?).map .pin)):zFF h K w b:=by
 cases hk:K.contains b with|true=>rw[hk]at e;exact .inr (.inl ⟨by simpa using hk,e⟩)|false=>rw[hk]at e;exact .inr (.inr ⟨by simpa using hk,e⟩)
theorem dV{h:Fz}{K:List Nat}{w:World}(b:Nat):zFF h K w b:=by
 cases hb:h b with
 | none=>exact yN (by simp only[pinned,hb])
 | some o =>
  cases o with
  | pin o=>exact yN (by simp only[pinned,hb])
  | fz o =>
   cases o with|cells C ty fr=>exact .inl ⟨_,hb,by simp only[pinned,hb],C,ty,fr,rfl⟩|_=>exact yN (by simp only[pinned,hb])
theorem wB{h:Fz}{K:List Nat}{w:World}{p:PV}{x:Value}(hr:Rep h p x):Rep (pinned h K w) p x:=hr.mono' λ_ _ hb ho=>VL hb ho
theorem P7{h:Fz}{K:List Nat}{w:World}(H:Hw h w):Hw (pinned h K w) w:=by
 intro b x hb;rcases dV (h:=h) (K:=K) (w:=w) b with⟨o,h1,h2,_⟩|⟨_,h2⟩|⟨_,h2⟩
 rw[h2]at hb;simp only[bQ]at hb;subst hb;exact H b _ h1;rw[h2]at hb;cases hb;rw [h2]at hb;obtain⟨o,ho,rfl⟩:=Ye.1 hb;exact⟨o,ho,rfl⟩
theorem wC{h h':Fz}(hle:∀p x,Rep h p x->Rep h' p x){a:PA}{v:Value}(hr:nN h a v):nN h' a v:=by
 cases a with
 | one p=>exact hle _ _ hr
 | agg cs=>obtain⟨vs,rfl,hr⟩:=hr;exact⟨vs,rfl,hr.mono hle⟩
theorem zhO{h h':Fz}(hle:∀p x,Rep h p x->Rep h' p x){rs:List PA}{v:Value}(hr:qg h rs v):qg h' rs v:=by
 match rs,hr with|[],⟨vs,e,r⟩=>exact⟨vs,e,r.mono λ_ _=>wC hle⟩|[x],hr=>exact wC hle hr|x::y::l,⟨vs,e,r⟩=>exact⟨vs,e,r.mono λ_ _=>wC hle⟩
theorem znH [dD]{h h':Fz}{w:World}{B:Nat}(hle:∀p x,Rep h p x->Rep h' p x){c:XC}{v:Value}(hr:xcR P h w B c v):xcR P h' w B c v:=by
 cases c with
 | p v=>exact hle _ _ hr
 | vec e s b n get=>obtain⟨h1,h2,h3,xs,h4,h5⟩:=hr;exact⟨h1,h2,h3,xs,h4,λq hq=>(h5 q hq).mono hle⟩
 | mo kt vt q n F=>exact hr
 | slf f np n=>exact hr
theorem zbH [dD]{h h':Fz}{w:World}{B:Nat}(hle:∀p x,Rep h p x->Rep h' p x){c:XA}{v:Value}(hr:zi P h w B c v):zi P h' w B c v:=by
 cases c with
 | d a=>exact wC hle hr
 | box ty cs=>obtain⟨k,C,h1,h2,h3⟩:=hr;exact⟨k,C,h1,h2,h3.mono λ_ _=>znH hle⟩
theorem Dt:∀{xs:List XA}{i M:Nat},M∈wz i xs→i≤M∧∃ty cs,xs[M-i]? = some (.box ty cs)
  | [],_,_,h=>by simp[wz]at h
  | .d a::xs,i,M,h=>by
    obtain⟨h1,ty,cs,h2⟩:=Dt (i:=i+1) h;exact⟨omY,ty,cs,by rw[show M-i=(M-(i+1))+1 by omega,Yn];exact h2⟩
  | .box ty cs::xs,i,M,h=>by
    rcases kF.1 h with rfl|h
    exact⟨kw _,ty,cs,by simp⟩;obtain⟨h1,ty,cs,h2⟩:=Dt (i:=i+1) h;exact⟨omY,ty,cs,by rw[show M-i=(M-(i+1))+1 by omega,Yn];exact h2⟩
theorem znI [dD]{nt m:Nat}{xs:List XA}{w:World}{h:Fz}{B:Nat}{vs:List Value}(EH:nt=m)(hlen:xs.length≤nt)(jE:RL (zi P h w B) xs vs)(hn:(nz w xs vs).Nodup)
    (hK:∀b∈nz w xs vs,B<=b/\h b=none) (hw:Hw h w) (hB:B<=w.heap.size) (Aa:((iP 0 xs).map (·.1)).Nodup) (ER:yL (wz 0 xs) xs=true) (lW:∀k b,(dD.bs)[k]? = some b->vs[dD.np+k]? = some (xJ b)) :
    ∃g,bW P nt B w (pinned h (nz w xs vs) w) g ⟨Lt 0 xs,iP 0 xs,[]⟩ {tmps:=vs.toArray++Array.replicate (m-vs.toArray.size) undef,defers:=[]} w:=by
  let nv:=yM w 0 xs vs;let h0:=pinned h (nz w xs vs) w;let g:Gh:=⟨h0,λL=>zhN ((lk nv L).getD undef),λL=>(lk nv L).getD undef,λ_ _=>undef⟩;have hle:∀p x,Rep h p x->Rep g.h p x:=λp x hr=>wB hr;have Qv:nv.map (·.1)=(iP 0 xs).map (·.1):=by
    have:∀{xs:List XA}{i:Nat}{vs:List Value},RL (zi P h w B) xs vs->(yM w i xs vs).map (·.1)=(iP i xs).map (·.1):=by
      intro xs
      induction xs with
      | nil=>intro i vs hr;cases vs with|nil=>rfl|cons=>exact hr.elim
      | cons x xs ih =>
        intro i vs hr;cases vs with
        | nil=>exact hr.elim
        | cons v vs =>
          cases x with
          | d a=>exact ih hr.2
          | box ty cs =>
            obtain⟨k,C,rfl,hC,nH⟩:=hr.1;have hv:∀{cs:List XC}{j:Nat}{vs:List Value},RL (xcR P h w B) cs vs->(xVV i j cs vs).map (·.1)=(mD i j cs).map (·.1):=by
              intro cs
              induction cs with
              | nil=>intro j vs hr;cases vs with|nil=>rfl|cons=>exact hr.elim
              | cons c cs ih2 =>
                intro j vs hr;cases vs with
                | nil=>exact hr.elim
                | cons v vs=>cases c with|p q=>exact ih2 hr.2|vec e s b n get=>simp only[xVV,mD,o5];rw[ih2 hr.2]|mo kt vt q n F=>simp only[xVV,mD,o5];rw[ih2 hr.2]|slf f np n=>exact ih2 hr.2
            simp only[yM,iP,o5,Ud,Ja,hC];rw[hv nH,ih hr.2]
    exact this jE
  have znJ:∀x∈nv,lk nv x.1=some x.2:=λx hx=>Fg (by rw[Qv];exact Aa) hx;obtain⟨o1,o2,o3⟩:=Rw (g:=g) (i:=0) hle (bx:=wz 0 xs) (λk b hk hm=>by
    obtain⟨_,ty,cs,hx⟩:=Dt hm;have:=znJ _ (FO (w:=w) (i:=0) hx (by rw[jqz];exact lW k b hk) (AP _));show zhN ((lk nv (dD.np+k)).getD undef)=b;rw[show lk nv (dD.np+k)=some (xJ b)from this];rfl) jE ER (λx hx=>⟨by show(lk nv x.1).getD undef=x.2;rw[znJ x hx];rfl,by show zhN ((lk nv x.1).getD undef)=_;rw[znJ x hx];rfl⟩)
  have rH:∀L o,lk (iP 0 xs) L=some o->(L,o)∈iP 0 xs:=λL o h=>fH h;have hl:=jE.length;have hblk:∀L o b,lk (iP 0 xs) L=some o->gQ g L o b->b∈(iP 0 xs).flatMap (λx=>kO g x.1 x.2):=λL o b hL hb=>lD.2 ⟨_,rH L o hL,Fe (o1 _ (rH L o hL)).1 hb⟩;refine⟨g,Marks.nil _ _,by simp;omega,?_,λL o hL=>(o1 _ (rH L o hL)).2.2,?_,?_,P7 hw,λ_ _ h=>h,λb o h=>.inl h,xx.refl _ _ _,hB,?_,?_⟩
  · intro t d ht;obtain⟨x,hx,_,rfl⟩:=Rx xs 0 t d ht;obtain⟨v,hv,xH⟩:=jE.get t x (by simpa using hx);have iw:=(AL.1 hv).1;have:(vs.toArray++Array.replicate (m-vs.toArray.size) undef).getD t undef=v:=by
      rw[xI,dqW (by simpa using iw)];simp[hv]
    rw[this];cases x with
    | d a=>exact KA (g:=g) (wC hle xH)
    | box ty cs =>
      obtain⟨k,C,rfl,hC,_⟩:=xH;have:=znJ _ (FO (w:=w) (i:=0) hx (by simpa using hv) (AP _));show Value.pointer (some ⟨k,0,none⟩)=.pointer (some ⟨zhN ((lk nv t).getD undef),0,none⟩);rw[show lk nv t=some (.pointer (some ⟨k,0,none⟩))from this];rfl
  intro L o b hL hb;have hbK:b∈nz w xs vs:=by rw[o2];exact hblk L o b hL hb
  refine⟨(hK b hbK).1,?_⟩;show pinned h (nz w xs vs) w b=none;rcases dV (h:=h) (K:=nz w xs vs) (w:=w) b with⟨o,h1,_⟩|⟨_,h2⟩|⟨h2,_⟩
  rw[(hK b hbK).2]at h1;cases h1;exact h2;exact(h2 hbK).elim;intro L o b L' o' hL Qx hb mW;rw[o2]at hn;have:=Ff hn (L,o) (L',o') b (rH L o hL) (rH L' o' Qx) (Fe (o1 _ (rH L o hL)).1 hb) (Fe (o1 _ (rH L' o' Qx)).1 mW);exact kz Prod.fst this
  · intro t d ht L hL;obtain⟨x,hx,_,rfl⟩:=Rx xs 0 t d ht;cases x with
    | d a=>rw[show cu (.one (IM a))=dC (IM a)from rfl,vY]at hL;simp at hL
    | box ty cs =>
      simp[cu,dC,bu]at hL;subst hL;exact zk (FN (i:=0) hx (AP _))
  intro L o hL M hM;rcases(o1 _ (rH L o hL)).2.1 M hM with h|h
  exact zk h;obtain⟨_,ty,cs,hx⟩:=Dt h;exact zk (FN (i:=0) hx (AP _))
theorem FP{nt B:Nat}{w0:World}{h0:Fz}{g:Gh}{σ:St}{a:Act}{w:World}(S:bW P nt B w0 h0 g σ a w):∀(rs:List ResultVar)(l:List PA)(u:lX),Dq P σ rs=some (l,u) ->
  ∃(vs:List Value),fA (lk σ.aB) u/\(rs.mapM (resV a.tmps)).run P w=.ok vs w/\∀(u':lX)(h':Fz),(∀y∈u,y∈u')->fG g (lk σ.aB) u' h'->RL (nN h') l vs
 | [],l,u,h=>by
  simp[Dq]at h;obtain⟨rfl,rfl⟩:=h;exact⟨[],fA.nil _,rfl,λ_ _ _ _=>trivial⟩
 | .tmp t::r,l,u,h=>by
  simp only[Dq]at h;split at h;rename_i d hd;split at h;rename_i x u1 l2 u2 h1 h2;simp only[bQ,gm]at h;obtain⟨rfl,rfl⟩:=h;obtain⟨vs,hu2,df,hr⟩:=FP S r l2 u2 h2;refine⟨a.tmps.getD t undef::vs,(CB h1).append hu2,?_,λu' h' hu F=>⟨F.repD h1 (λy hy=>hu y (dW.2 (.inl hy))) (S.env t d hd),hr u' h' (λy hy=>hu y (dW.2 (.inr hy))) F⟩⟩;rw[qjy];simp only[resV,Sem.run_bind,Sem.run_pure,Result.andThen_ok];rw[df];rfl;cases h;cases h
 | .cell t ty::r,l,u,h=>by
  simp only[Dq]at h;split at h;rename_i L off ag m ht hg hs;split at h;rename_i Yl cells hL;split at h;rename_i d hd;split at h;rename_i x u1 l2 u2 h1 h2;simp only[bQ,gm]at h;obtain⟨rfl,rfl⟩:=h;obtain⟨vs,hu2,df,hr⟩:=FP S r l2 u2 h2;obtain⟨C,hC,TZ⟩:=S.obj L _ hL;obtain⟨v,Yb,hv⟩:=JY (P:=P) hg hs hC 0 (λj y hj=>by obtain⟨v,hv,Qs⟩:=TZ.get j y hj;exact⟨v,by simpa using hv,Qs⟩) hd;have hp:a.tmps.getD t undef=.pointer (some ⟨g.bk L,off,none⟩):=S.env t _ ht;rw[Oa]at Yb;refine⟨v::vs,(CB h1).append hu2,?_,λu' h' hu F=>⟨F.repD h1 (λy hy=>hu y (dW.2 (.inl hy))) hv,hr u' h' (λy hy=>hu y (dW.2 (.inr hy))) F⟩⟩;have h1:(resV a.tmps (.cell t ty)).run P w=.ok v w:=by
   simp only[resV,Sem.run_bind,hp,Lr,Result.andThen_ok,Yb]
  rw[qjy];simp only[Sem.run_bind,h1,Result.andThen_ok];rw[df];rfl;cases h;cases h;cases h;cases h
theorem Ry{nt B:Nat}{w0:World}{h0:Fz}{g:Gh}{σ:St}{a:Act}{w:World}(S:bW P nt B w0 h0 g σ a w){fn:Func}{l:List PA}{u:lX}(h:Dq P σ fn.results.toList=some (l,u)) :
  ∃(v:Value),fA (lk σ.aB) u/\(results fn a.tmps).run P w=.ok v w/\∀(h':Fz),fG g (lk σ.aB) u h'->qg h' l v:=by
 obtain⟨vs,hu,df,hr⟩:=FP S fn.results.toList l u h;refine⟨if h:vs.toArray.size=1 then vs.toArray[0]else .tuple vs.toArray,hu,?_,λh' F=>?_⟩;have e:results fn a.tmps=(do let vs ← fn.results.mapM (resV a.tmps);pure (if h:vs.size=1 then vs[0]else .tuple vs)):=rfl;rw[e,qjz];simp only[Sem.run_bind,Sem.run_map];rw[df];simp only[Result.andThen_ok,Sem.run_pure]
 ·have nH := hr u h' (fun y hy => hy) F
  match l,vs,nH with
  | [],[],_=>exact⟨[],rfl,trivial⟩
  | [x],[v],nH=>exact nH.1
  | x::y::l,v::v2::vs,nH =>
   refine⟨v::v2::vs,?_,nH⟩;rw[dif_neg (by simp)]
  | [],_::_,nH=>exact nH.elim
  | [_],[],nH=>exact nH.elim
  | [_],_::_::_,nH=>exact nH.2.elim
  | _::_::_,[],nH=>exact nH.elim
  | _::_::_,[_],nH=>exact nH.2.elim
theorem zx [dD]{h:Fz}{B:Nat}{w:World}{bx:List Nat}:∀{cs:List XC}{vs:List Value}{f:FuncId}{np n:Nat},zbG cs=some (f,np,n)→RL (xcR P h w B) cs vs→LC bx cs=true→f=dD.f∧np=dD.np∧n=(dD.bs).length∧yK bx np n=true
  | [],_,_,_,_,h1,_,_=>by cases h1
  | _::_,[],_,_,_,_,hr,_=>hr.elim
  | c::cs,v::vs,f,np,n,h1,hr,hb=>by
    cases c with
    | slf f' np' n' =>
      simp only[zbG,bQ,gm]at h1;obtain⟨rfl,rfl,rfl⟩:=h1;simp only[LC,gz]at hb;obtain⟨q1,q2,q3,_⟩:=hr.1;exact⟨q1,q2,q3,hb.1⟩
    | p q=>exact zx (cs:=cs) h1 hr.2 hb
    | vec e s b n get=>exact zx (cs:=cs) h1 hr.2 hb
    | mo kt vt q n F=>exact zx (cs:=cs) h1 hr.2 hb
theorem FQ [dD]{h:Fz}{B:Nat}{w:World}{bx:List Nat}:∀{xs:List XA}{vs:List Value}{f:FuncId}{np n:Nat},VH xs=some (f,np,n)→RL (zi P h w B) xs vs→yL bx xs=true→f=dD.f∧np=dD.np∧n=(dD.bs).length∧yK bx np n=true
  | [],_,_,_,_,h1,_,_=>by cases h1
  | _::_,[],_,_,_,_,hr,_=>hr.elim
  | .d a::xs,v::vs,f,np,n,h1,hr,hb=>FQ (xs:=xs) h1 hr.2 hb
  | .box ty cs::xs,v::vs,f,np,n,h1,hr,hb=>by
    simp only[yL,gz]at hb;simp only[VH]at h1;split at h1;rename_i y hy;simp only[bQ]at h1;subst h1;obtain⟨k,C,_,_,nH⟩:=hr.1;exact zx hy nH hb.1;exact FQ (xs:=xs) h1 hr.2 hb.2
theorem VM{nt B:Nat}{w0:World}{h0:Fz}{g:Gh}{σ:St}{a:Act}{w:World}(S:bW P nt B w0 h0 g σ a w):∀(bs:List Nat)(np:Nat)(l:List Nat),Lu σ.env np bs.length=some l→(∀k b,bs[k]? = some b→a.tmps.getD (np+k) undef=xJ b)→bs=l.map g.bk
  | [],_,l,h1,_=>by simp only[Uu,Lu,bQ]at h1;subst h1;rfl
  | b::bs,np,l,h1,h2=>by
    simp only[EN,Lu]at h1;split at h1;rename_i L l' hL zK;simp only[bQ]at h1;subst h1;have e1:a.tmps.getD np undef=.pointer (some ⟨g.bk L,0,none⟩):=S.env np _ hL;have e2:=h2 0 b rfl;rw[qdW,e1]at e2;have e3:g.bk L=b:=by simpa [xJ]using e2
    rw[o5,e3,<- VM S bs (np+1) l' zK λk b' hk=>by rw[show np+1+k=np+(k+1)by omega];exact h2 (k+1) b' (by simpa using hk)];cases h1
theorem zhP [dD]{nt B:Nat}{w0:World}{h0 h:Fz}{g:Gh}{σ:St}{a:Act}{w w1:World}(S:bW P nt B w0 h0 g σ a w){xs:List XA}{vs:List Value}(jE:RL (zi P h w1 B) xs vs)(ER:yL (wz 0 xs) xs=true)
    (lW:∀k b,(dD.bs)[k]? = some b->vs[dD.np+k]? = some (xJ b)) (zdd:∀t u,vs[t]? = some u->t∈wz 0 xs->a.tmps.getD t undef=u):YQ g (Bj σ.env xs):=by
  intro f np ls h1;unfold Bj at h1;split at h1;rename_i f' np' n hx;split at h1;rename_i l hl;simp only[bQ,gm]at h1;obtain⟨rfl,rfl,rfl⟩:=h1;obtain⟨rfl,rfl,rfl,hbb⟩:=FQ hx jE ER;exact⟨rfl,rfl,VM S _ _ _ hl λk b hk=>zdd _ _ (lW k b hk) (Bl _ _ _ hbb k (AL.1 hk).1)⟩;cases h1;cases h1
theorem Zg [dD]{sf:kR}{nt B:Nat}{w0:World}{h0:Fz}{g:Gh}{σ:St}{a:Act}{w w1:World}{h:Fz}(S:bW P nt B w0 h0 g σ a w)(Uc:YQ g sf)(hle:∀p x,Rep h p x→Rep g.h p x) :
  ∀{xs ys:List XA}{ls:List Nat}{i:Nat}{vs:List Value},LD sf (lk σ.aB) σ.env i xs=some (ys,ls)->RL (zi P h w1 B) xs vs->(∀t v,vs[t]? = some v->i+t∈wz i xs->a.tmps.getD (i+t) undef=v) ->
  RL (zi P g.h w B) ys vs/\nz w ys vs=ls.flatMap (kB g (lk σ.aB))/\∀L∈ls,isB (lk σ.aB) L
 | [],ys,ls,i,[],h1,_,_=>by
  simp only[LD,bQ,gm]at h1;obtain⟨rfl,rfl⟩:=h1;exact⟨trivial,rfl,λL hL=>by simp at hL⟩
 | [],_,_,_,_::_,_,hr,_=>hr.elim
 | _::_,_,_,_,[],_,hr,_=>hr.elim
 | .d p::xs,ys,ls,i,v::vs,h1,hr,ht=>by
  simp only[LD]at h1;split at h1;rename_i pR ls' h2;simp only[bQ,gm]at h1;obtain⟨rfl,rfl⟩:=h1;obtain⟨i1,i2,i3⟩:=Zg S Uc hle h2 hr.2 (λt u hu hb=>by
   have:=ht (t+1) u (by simpa using hu) (by rw[show i+(t+1)=i+1+t by omega];exact hb);rw[show i+1+t=i+(t+1)by omega];exact this)
  exact⟨⟨wC hle hr.1,i1⟩,by simp only[nz,UH,OU];exact i2,i3⟩;cases h1
 | .box ty cs::xs,ys,ls,i,v::vs,h1,hr,ht=>by
  simp only[LD]at h1;split at h1;rename_i L pR ls' hL h2;split at h1;rename_i y l ms hy;simp only[bQ,gm]at h1;obtain⟨rfl,rfl⟩:=h1;obtain⟨i1,i2,i3⟩:=Zg S Uc hle h2 hr.2 (λt u hu hb=>by
   have:=ht (t+1) u (by simpa using hu) (by rw[show i+(t+1)=i+1+t by omega];exact jS _ hb);rw[show i+1+t=i+(t+1)by omega];exact this)
  have hv:a.tmps.getD i undef=v:=ht 0 v rfl (by simp[wz]);obtain⟨j1,j2,j3⟩:=zg5 S Uc hy (S.env i _ hL);rw[hv]at j1 j2;exact⟨⟨j1,i1⟩,by simp only[nz,i2,j2,qdH],λM hM=>(dW.1 hM).elim (j3 M) (i3 M)⟩;cases h1;cases h1
def zbI [dD](P:Program)(h:Fz)(base:Nat)(w:World)(xs:List XA)(vs:List Value)(K:List PA->List XA->Prop)(e:Ending)(w':World):Prop :=
 ∃(h':Fz)(rs:List PA)(ys:List XA),K rs ys/\QJ h' rs e/\RL (zi P h' w' base) ys vs/\(nz w' ys vs).Nodup /\
   (∀b∈nz w' ys vs,(b∈nz w xs vs\/w.heap.size<=b)/\h' b=none)/\jP h h'/\Hw h' w'/\(∀b o,h' b=some o->h b=some o\/w.heap.size<=b\/b∈nz w xs vs)/\YA h (nz w xs vs) w w'
theorem znK [dD]{G:bI}(fP:jk P G){f:FuncId}{aQ:dG}{xs:List XA}{K:List PA→List XA→Prop}{w:World}{h:Fz}{base:Nat}{vs:List Value}(hv:VJ P G aQ f xs K)(jE:RL (zi P h w base) xs vs)
    (hn:(nz w xs vs).Nodup) (hK:∀b∈nz w xs vs,base<=b/\h b=none) (hw:Hw h w) (hB:base<=w.heap.size) (lW:∀k b,(dD.bs)[k]? = some b->vs[dD.np+k]? = some (xJ b)) :
    Calls P f vs.toArray w (zbI P h base w xs vs K):=by
  unfold VJ at hv;split at hv;rename_i fn sU;split at hv;rename_i c rP;split at hv
  · rename_i hc;simp only[gz,Ug]at hc;obtain⟨⟨⟨⟨EH,hlen⟩,Aa⟩,ER⟩,zLv⟩:=hc;obtain⟨g0,S⟩:=znI (P:=P) (kP EH) hlen jE hn hK hw hB (mi Aa) ER lW;have hwp:=Lp (B:=base) (w0:=w) fP aQ c none 0 (pinned h (nz w xs vs) w) (eu c) _ (ztP P fn xs K) _ _ _ _ (λ_ h=>h) (Rnd.none _) hv S (Kp.refl _ _);refine(callsIn_wide (n:=0)).1 ?_;refine callsIn_of_wp_marks (F:=FR none) sU rP trivial (wpIn_mono (qG hwp) ?_);have PW:∀b,pinned h (nz w xs vs) w b=some (.fz (.deferred (some [])))->b<base:=λb hb=>by
      rcases dV (h:=h) (K:=nz w xs vs) (w:=w) b with⟨o,h1,h2,h3⟩|⟨_,h2⟩|⟨_,h2⟩
      rw [h2]at hb;simp only [bQ]at hb;subst hb;obtain⟨C,ty,fr,e⟩:=h3;cases e;rw[h2]at hb;cases hb;rw [h2]at hb;obtain⟨o,_,e⟩:=Ye.1 hb;cases e
    rintro e a' w' ⟨g',σ',xn,S',kN⟩
    have core:∀(g2:Gh)(a2:Act)(w2:World)(u:lX)(ys:List XA)(ls:List Nat),a2.tmps=a'.tmps->bW P aQ.nt base w (pinned h (nz w xs vs) w) g2 σ' a2 w2->fA (lk σ'.aB) u->LD (Bj σ'.env xs) (lk (u++σ'.aB)) σ'.env 0 xs=some (ys,ls)->lY ls=true ->
        ∃h':Fz,(∀l v,(∀Jq:Fz,fG g2 (lk σ'.aB) u Jq->qg Jq l v)->qg h' l v)/\RL (zi P h' w2 base) ys vs/\(nz w2 ys vs).Nodup /\
          (∀b∈nz w2 ys vs,(b∈nz w xs vs\/w.heap.size<=b)/\h' b=none)/\jP h h'/\Hw h' w2/\(∀b o,h' b=some o->h b=some o\/w.heap.size<=b\/b∈nz w xs vs)/\YA h (nz w xs vs) w w2:=by
      intro g2 a2 w2 u ys ls ht S2 hu ho hnl;obtain⟨Jq,S3,F⟩:=S2.freeze hu;have zLX:∀p x,Rep h p x->Rep Jq p x:=λp x hr=>(wB (K:=nz w xs vs) (w:=w) hr).mono S3.le0;have zdd:∀t u,vs[t]? = some u->t∈wz 0 xs->a2.tmps.getD t undef=u:=λt u hu hb=>by
        rw[ht,kN.1 t (λhd=>by
          have:=Af.1 zLv t hb;simp at this;exact this hd)]
        have iw:=(AL.1 hu).1;rw[xI,dqW (by simpa using iw)];simp[hu]
      obtain⟨o1,o2,o3⟩:=Zg S3 (zhP S3 jE ER lW zdd) (w1:=w) zLX ho jE (λt u hu hb=>by
        rw[Oa]at hb ⊢;exact zdd t u hu hb)
      let h':Fz:=λb=>match Jq b with|some (.pin _)=>h b|x=>x
      have hnp:∀b o,Jq b=some o->(∀x,o ≠ .pin x)->h' b=some o:=λb o hb hx=>by
        show(match Jq b with|some (.pin _)=>h b|x=>x)=some o;rw[hb];cases o with|pin x=>exact(hx x rfl).elim|_=>rfl
      have hpn:∀b x,Jq b=some (.pin x)->h' b=h b:=λb x hb=>by
        show(match Jq b with|some (.pin _)=>h b|x=>x)=h b;rw[hb]
      have hnn:∀b,Jq b=none->h' b=none:=λb hb=>by
        show(match Jq b with|some (.pin _)=>h b|x=>x)=none;rw[hb]
      have zf0:∀p x,Rep Jq p x->Rep h' p x:=λp x hr=>hr.mono' λb o hb ho=>hnp b o hb λx e=>by
        subst e;obtain⟨C,ty,fr,e⟩:=ho;cases e
      have ug:∀b y,pinned h (nz w xs vs) w b=some y->Jq b=some y:=λb y hb=>S3.le0 b y hb;have iw:∀b,b<w.heap.size->∃o,w.heap[b]? = some o:=λb hb=>⟨_,qdC hb⟩;have zf:=mi hnl;refine⟨h',λl v og=>zhO zf0 (og Jq F),o1.mono λ_ _=>zbH zf0,by rw[o2];exact GI S3 zf,λb hb=>?_,λb x hb=>?_,λb x hb=>?_,λb x hb=>?_,⟨S3.below.os,S3.below.tape,S3.below.output,S3.below.size,S3.below.drawn,λk hk hkK=>?_⟩⟩;rw [o2]at hb;obtain⟨L,hL,hb⟩:=lD.1 hb;unfold kB at hb;split at hb;rename_i o' kH;have cO:base<=b/\Jq b=none:=S3.own L o' b kH (QU hb);refine⟨?_,hnn b cO.2⟩;by_cases hbs:b<w.heap.size;refine .inl ?_;rcases dV (h:=h) (K:=nz w xs vs) (w:=w) b with⟨o,_,h2,_⟩|⟨h2,_⟩|⟨_,h2⟩
      have:=ug b _ h2;rw[cO.2]at this;cases this;exact h2;obtain⟨o,ho⟩:=iw b hbs;rw[ho]at h2;have:=ug b _ h2;rw[cO.2]at this;cases this;exact .inr omY;simp at hb;rcases dV (h:=h) (K:=nz w xs vs) (w:=w) b with⟨o,h1,h2,h3⟩|⟨h2,_⟩|⟨_,h2⟩
      rw [h1]at hb;simp only [bQ]at hb;subst hb;exact hnp b _ (ug b _ h2) λx e=>by subst e;obtain⟨C,ty,fr,e⟩:=h3;cases e
      rw[(hK b h2).2]at hb;cases hb;obtain⟨o,ho⟩:=iw b (hw.lt hb);rw[ho]at h2;rw[hpn b _ (ug b _ h2)];exact hb
      · cases h3b:Jq b with
        | none=>rw[hnn b h3b]at hb;cases hb
        | some y =>
          by_cases hy:∃o,y=.pin o;obtain⟨o,rfl⟩:=hy;rw[hpn b _ h3b]at hb;rcases dV (h:=h) (K:=nz w xs vs) (w:=w) b with⟨o',h1,h2,h3⟩|⟨h2,_⟩|⟨_,h2⟩
          have:=ug b _ h2;rw[h3b]at this;simp only[bQ]at this;subst this;obtain⟨C,ty,fr,e⟩:=h3;cases e;rw[(hK b h2).2]at hb;cases hb;obtain⟨o1,ho1,hx1⟩:=hw b x hb;rw[ho1]at h2;have:=ug b _ h2;rw[h3b]at this;simp only[bQ,UF.pin.injEq]at this;subst this;obtain⟨o2,oh,OM⟩:=S3.hw b _ h3b;simp only[UF.ok]at OM;subst OM;exact⟨_,oh,hx1⟩;rw [hnp b y h3b fun x e=>hy ⟨x,e⟩]at hb;simp only[bQ]at hb;subst hb;exact S3.hw b _ h3b
      · cases h3b:Jq b with
        | none=>rw[hnn b h3b]at hb;cases hb
        | some y =>
          by_cases hy:∃o,y=.pin o;obtain⟨o,rfl⟩:=hy;rw[hpn b _ h3b]at hb;exact .inl hb;rw [hnp b y h3b fun x e=>hy ⟨x,e⟩]at hb;simp only[bQ]at hb;subst hb;by_cases hbs:b<w.heap.size;rcases dV (h:=h) (K:=nz w xs vs) (w:=w) b with⟨o',h1,h2,h3⟩|⟨h2,_⟩|⟨_,h2⟩
          have:=ug b _ h2;rw[h3b]at this;simp only[bQ]at this;subst this;exact .inl h1;exact .inr (.inr h2);obtain⟨o,ho⟩:=iw b hbs;rw[ho]at h2;have:=ug b _ h2;rw[h3b]at this;simp only[bQ]at this;exact(hy ⟨_,this⟩).elim;exact .inr (.inl omY)
      rcases dV (h:=h) (K:=nz w xs vs) (w:=w) k with⟨o',h1,h2,h3⟩|⟨h2,_⟩|⟨_,h2⟩
      obtain⟨C,ty,fr,rfl⟩:=h3;rw[S3.hw.fz (ug k _ h2),hw.fz h1];exact(hkK h2).elim;obtain⟨o,ho⟩:=iw k hk;rw[ho]at h2 ⊢;obtain⟨o2,oh,OM⟩:=S3.hw k _ (ug k _ h2);simp only[UF.ok]at OM;subst OM;exact oh
    have fin:U0 P fn xs K σ'->LeavesInM (FR none) 0 P fn a'.tmps (zbI P h base w xs vs K) a'.defers .returning w':=by
      intro hf;obtain⟨Ds,h1,h2,h3,h4⟩:=S'.dfr;refine zq PW Ds g' a' w' h1 h2 h3 h4 S' λg2 a2 w2 ht S2=>?_;unfold U0 at hf;split at hf;rename_i l u hl;split at hf;rename_i ys ls ho;split at hf;rename_i hnl hpm;obtain⟨v,hu,df,og⟩:=Ry S2 hl;obtain⟨h',hr,hx⟩:=core g2 a2 w2 u ys ls ht S2 hu ho hnl;refine⟨v,df,h',l,ys,hf,?_,hx⟩;unfold QJ;rw[hpm];exact⟨v,rfl,hr l v og⟩;exact hf.elim;exact hf.elim;exact hf.elim
    cases e with
    | normal=>exact fin xn
    | ret=>exact fin xn
    | exit id=>exact xn.elim
    | goto l=>exact xn.elim
    | panic ch =>
      have xn:zhM xs K ch σ':=xn;obtain⟨Ds,h1,h2,h3,h4⟩:=S'.dfr;refine zbD PW Ds g' a' w' h1 h2 h3 (λd hd=>?_) S' λg2 a2 w2 ht S2=>?_;obtain⟨_,_,_,_,e1,_⟩:=h4 d hd;have hd:d∈a'.defers:=by rw[h2];exact xq.2 ⟨_,hd,rfl⟩
      rcases kN.2.2.2 d hd with hd|⟨b,e2⟩
      cases hd;rw[e1]at e2;cases e2;unfold zhM at xn;split at xn;rename_i l hl;split at xn;rename_i ys ls ho;split at xn;rename_i hnl;obtain⟨h',hr,hx⟩:=core g2 a2 w2 [] ys ls ht S2 (fA.nil _) ho hnl;refine⟨h',l,ys,xn,?_,hx⟩;unfold QJ;rw[zE3 hl];exact xn.elim;exact xn.elim;exact xn.elim
    | outgrown=>exact xn.elim
  exact hv.elim;exact hv.elim;exact hv.elim
theorem zd8{G:bI}(fP:jk P G){f:FuncId}{C:MK}(hc:dm P f)
    (h:∀xs rs ys,(C xs).o=some (rs,ys)->∃vv aQ,VJ P {G with vv:=vv} aQ f xs λl zs=>l=rs/\zs=ys):qN P f C:=by
  intro _ xs ys rs hC w h0 base vs jE lW hn hK hw hB;obtain⟨vv,aQ,hv⟩:=h xs rs ys hC;refine⟨hc,(znK (G:={G with vv:=vv}) ⟨fP.mt,fP.fn,fP.own,fP.it,fP.cmp⟩ hv jE hn hK hw hB lW).mono ?_⟩;rintro e w' ⟨h',Qr,pR,⟨rfl,rfl⟩,r⟩;exact⟨h',r⟩
end
end Go.Pm
namespace Go.Pm
section
variable{ρ τ:Type}
theorem ae.ext{c d:ae ρ}(h:∀{A:Type}(k:ρ->Option A),c.T k=d.T k):c=d:=by
 obtain⟨T,n⟩:=c;obtain⟨T',n'⟩:=d;have : @T = @T':=by funext A k;exact h k
 subst this;rfl
def ae.bind(c:ae ρ)(f:ρ->ae τ):ae τ:=⟨λk=>c.T λr=>(f r).T k,λk=>by
 rw[c.nat,c.nat λr=>(f r).T some];cases c.T some with|none=>rfl|some r=>exact(f r).nat k⟩
def ae.mp(f:ρ->τ)(c:ae ρ):ae τ:=⟨λk=>c.T λr=>k (f r),λk=>by
 rw[c.nat,c.nat λr=>some (f r)];cases c.T some<;>rfl⟩
def ae.chk(b:Bool)(c:ae ρ):ae ρ:=⟨λk=>match b with|true=>c.T k|false=>none,λk=>by
 cases b with|true=>exact c.nat k|false=>rfl⟩
def ae.ite(b:Bool)(c d:ae ρ):ae ρ:=⟨λk=>cond b (c.T k) (d.T k),λk=>by
 cases b with|true=>exact c.nat k|false=>exact d.nat k⟩
def ae.opt:Option ρ→ae ρ|some r=>.ok r|none=>.no
theorem ae.bind_o{c:ae ρ}{f:ρ->ae τ}{y:τ}(h:(c.bind f).o=some y):∃r,c.o=some r/\(f r).o=some y:=by
 have h:c.T (λr=>(f r).T some)=some y:=h;rw[c.nat]at h;cases e:c.T some with|none=>rw[e]at h;cases h|some r=>rw[e]at h;exact⟨r,e,h⟩
theorem ae.mp_o{c:ae ρ}{f:ρ->τ}{y:τ}(h:(c.mp f).o=some y):∃r,c.o=some r/\f r=y:=by
 have h:c.T (λr=>some (f r))=some y:=h;rw[c.nat]at h;cases e:c.T some with|none=>rw[e]at h;cases h|some r=>rw[e]at h;exact⟨r,e,Yg h⟩
theorem ae.chk_o{b:Bool}{c:ae ρ}{y:ρ}(h:(ae.chk b c).o=some y):b=true/\c.o=some y:=by
 cases b with|true=>exact⟨rfl,h⟩|false=>cases h
theorem ae.ok_o{x y:ρ}(h:(ae.ok x).o=some y):x=y:=Yg h
theorem ae.no_o{y:ρ}(h:(ae.no:ae ρ).o=some y):False:=by cases h
theorem ae.opt_o{x:Option ρ}{y:ρ}(h:(ae.opt x).o=some y):x=some y:=by
 cases x with|none=>cases h|some x=>rw[ae.ok_o h]
end
structure VN where
  ρ:Type
  c:ae ρ
  f:ρ->aJ
section
variable(P:Program)(Γ:bI)
def znL(C:MK)(sf:kR)(args:List DV)(ob:Nat->Option AO):Option VN :=
 match jU sf ob args with
 | some (xs,ls,ms)=>some ⟨_,C xs,λ(rs,ys)=>match EW rs with|none=>pV args ob ls ms rs ys|some _=>.no⟩
 | none=>none
def zw8(o:Oper)(e s b:Nat)(F:List PA->ae (Nat×(Nat->List PV)×List PV))(args:List DV)(ob:Nat->Option AO):Option VN :=
  match iy ob args,o.dst with
  | some (az,u),some dst=>some ⟨_,F az,λ(n,get,rs)=>match ob dst,P.info? e,gK P e with
    | none,some ie,some _=>if ie.size=s/\ie.bytes=b/\0<s/\zgC get u=true/\rs.all jI=true then
          .val ((dst,true)::rd (args.flatMap (bH ob)))
            (match rs with|[]=>.cl (.vec dst)|_=>.tup (.c (.vec dst)::rs.map λv=>.c (.p v))) [(dst,.vec e s b n get)] []
        else .no
    | _,_,_=>.no⟩
  | _,_=>none
def zhQ(o:Oper)(e s b:Nat)(F:List PA->Nat->(Nat->List PV)->ae (Nat×(Nat->List PV)))(args:List DV)(ob:Nat->Option AO):Option VN :=
  match JE args with
    | some (ds,.one (.c (.vec L)))=>match iy ob ds,ob L with
      | some (az,[]),some (.vec e' s' b' n get)=>some ⟨_,F az n get,λ(m,get')=>if e'=e/\s'=s/\b'=b then
            .val ((L,true)::rd (ds.flatMap (bH ob))) (.cl (.vec L)) [(L,.vec e s b m get')] [L]
          else .no⟩
      | _,_=>none
    | some (ds,.one (.c (.p .nils)))=>match iy ob ds,o.dst with
      | some (az,[]),some dst=>match ob dst,P.info? e,gK P e with
        | none,some ie,some z=>match jT z with
          | some l=>some ⟨_,F az 0 λ_=>l,λ(m,get')=>if ie.size=s/\ie.bytes=b/\0<s then
                .val ((dst,true)::rd (ds.flatMap (bH ob))) (.cl (.vec dst)) [(dst,.vec e s b m get')] []
              else .no⟩
          | none=>none
        | _,_,_=>none
      | _,_=>none
    | _=>none
def VO(o:Oper)(ev:Operand->DV)(ob:Nat->Option AO):Option VN :=
  match o.op with
  | .call {callee:=.value f,args,argTypes:=_}=>match ev f with
    | .one (.c (.clo g caps))=>match Γ.mt g with|some C=>znL C (zdm g args.size caps) (args.toList.map ev++caps.map capD) ob|none=>none
    | .one (.c (.p (.fn g first caps)))=>match Γ.mt g with
     | some C=>znL C none (first.map (λv=>.p v)++args.toList.map ev++caps.map (λv=>.p v)) ob
     | none=>match Γ.own g with
       | .none=>match iy ob (args.toList.map ev)with
         | some (az,u)=>some ⟨_,Γ.fn g (first.map .one++az++caps.map .one),λr=>kZ (args.toList.flatMap λx=>bH ob (ev x)) u r⟩
         | none=>none
       | .mkv e s b F=>match first,caps with|[],[]=>zw8 P o e s b F (args.toList.map ev) ob|_,_=>none
       | .grow e s b F=>match first,caps with|[],[]=>zhQ P o e s b F (args.toList.map ev) ob|_,_=>none
       | _=>none
    | .one (.c (.p (.fna g cells)))=>match iy ob (args.toList.map ev)with|some (az,u)=>some ⟨_,Γ.fn g (.agg cells::az),λr=>kZ (args.toList.flatMap λx=>bH ob (ev x)) u r⟩|none=>none
    | _=>none
  | _=>none
def zhR(A:aJ)(lg:List (Nat×Bool)->List Nat->List (Nat×Nat×Nat))(i:Nat)(dst:Option Nat)(σ:St):ae St :=
 match A with|.no=>.no|.val fp d u kl=>.ok ((σ.upd i dst fp d u kl).relog (lg fp kl))|.chk fp s d u kl=>.chk s.b (.ok ((σ.upd i dst fp d u kl).relog (lg fp kl)))
def LG(o:Oper)(lg:List (Nat×Bool)->List Nat->List (Nat×Nat×Nat))(i:Nat)(σ:St):ae St :=
 match VO P Γ o (fK σ.env) (lk σ.aB)with|some p=>p.c.bind λr=>zhR (p.f r) lg i o.dst σ|none=>zhR (act P Γ o (fK σ.env) (lk σ.aB)) lg i o.dst σ
def oN(nt:Nat)(ops:Array Oper):Nat→List Oper→St→ae St
  | _,[],σ=>.ok σ
  | i,o::r,σ =>
    match dI nt o.dst with
    | false=>.no
    | true =>
    match o.guard with
    | none=>(LG P Γ o (oH σ i o) i σ).bind (oN nt ops (i+1) r)
    | some (j,want) =>
      match(ops[j]?).bind (·.dst)with
      | none=>.no
      | some g =>
        match lk σ.env g with
        | some (.one (.c (.p (.bool b)))) =>
          .ite b
            (match want with|true=>(LG P Γ o (oH (σ.setT g (.bool true)) i o) i (σ.setT g (.bool true))).bind (oN nt ops (i+1) r)|false=>oN nt ops (i+1) r ((σ.setT g (.bool true)).skip o.dst))
            (match want with|true=>oN nt ops (i+1) r ((σ.setT g (.bool false)).skip o.dst)|false=>(LG P Γ o (oH (σ.setT g (.bool false)) i o) i (σ.setT g (.bool false))).bind (oN nt ops (i+1) r))
        | some (.one (.c .undef))=>oN nt ops (i+1) r (σ.skip o.dst)
        | _=>.no
def zhS(aQ:dG)(id:Nat)(ops:Array Oper)(draw:Bool)(σ:St):ae St :=
 match draw with
 | false=>(oN P Γ aQ.nt ops 0 ops.toList {σ with log:=[]}).bind λσ'=>match lk aQ.reg id with|some k=>.opt (canon P k σ')|none=>.ok σ'
 | true=>match P.follows .mixedOrders&&JL ops&&AV ops (masks ops.toList [])with
  | true=>(oN P Γ aQ.nt ops 0 ops.toList {σ with log:=[]}).bind λσ'=>match uD (masks ops.toList []) σ'.log with
   | true=>match lk aQ.reg id with|some k=>.opt (canon P k σ')|none=>.no
   | false=>.no
  | false=>.no
def Du(aQ:dG)(id:Nat)(σ:St):ae St:=match lk aQ.reg id with|some k=>.opt (canon P k σ)|none=>.ok σ
def zhT(aQ:dG)(id i:Nat)(o:Oper)(σ:St):ae (Exit×St) :=
 match o.guard,dI aQ.nt o.dst with
 | none,true=>match zds Γ o σ with
  | some (C,xs,ds,ls,ms)=>(C xs).bind λr=>match EW r.1 with
   | none=>match Og i o.dst σ (pV ds (lk σ.aB) ls ms r.1 r.2)with|some s=>(Du P aQ id s).mp λs=>(.normal,s)|none=>.no
   | some ch=>match Og i none σ (pV ds (lk σ.aB) ls ms r.1 r.2)with|some s=>.ok (.panic ch,s)|none=>.no
  | none=>.no
 | _,_=>.no
def zhU(ty:TypeId)(x y:Nat)(σ:St):ae (Exit×St):=match lk σ.env x with|some (.one (.agg [.p (.int k n)]))=>.ok (.panic (zmU ty k n),⟨(y,.junk)::σ.env,σ.aB,[]⟩)|_=>.no
def VP(aQ:dG)(id:Nat)(ops:Array Oper)(σ:St):ae (Exit×St) :=
 match o7 ops.toList with
 | some (p1,l)=>match o7 p1 with
  | some (pre,m)=>match zdr P aQ.nt m l with
   | some (ty,x,y)=>(oN P Γ aQ.nt ops 0 pre {σ with log:=[]}).bind (zhU ty x y)
   | none=>(oN P Γ aQ.nt ops 0 p1 {σ with log:=[]}).bind (zhT P Γ aQ id p1.length l)
  | none=>.no
 | none=>.no
def Zh(aQ:dG)(r:Nat)(σ:St):ae St :=
 match lk aQ.cut r with|some k=>.opt (canon P k σ)|none=>.ok σ
def lpC(k:Keep)(step:St→ae (Exit×St)):Nat→St→ae (Exit×St)
  | 0,_=>.no
  | n+1,s=>(step s).bind λ(e,s1)=>match e with|.normal=>(ae.opt (canon P k s1)).bind (lpC k step n)|e=>.ok (e,s1)
def unC(k:Keep)(step:St→ae (Exit×St)):Nat→St→ae (Exit×St)
  | 0,_=>.no
  | n+1,σ=>(ae.opt (canon P k σ)).bind λs=>(step s).bind λ(e,s1)=>match e with|.normal=>unC k step n s1|e=>.ok (e,s1)
def rgC(k:Keep)(np:Bool)(ps:List Nat)(ah bd:St→ae (Exit×St)):List (List PA)→St→ae (Exit×St)
  | [],s=>.ok (.normal,s)
  | y::rest,s=>match pW ps y s.env with
    | some env=>(ah ⟨env,s.aB,[]⟩).bind λ(e,s1)=>match e with
      | .normal=>(bd s1).bind λ(e,s2)=>match e with
        | .normal=>(ae.opt (canon P k s2)).bind (rgC k np ps ah bd rest)
        | .ret=>(ae.opt (canon P k s2)).mp λs=>(.ret,s)
        | .exit id=>(ae.opt (canon P k s2)).mp λs=>(.exit id,s)
        | .panic ch=>match np with|true=>(ae.opt (canon P k s2)).mp λs=>(.panic ch,s)|false=>.no
        | _=>.no
      | _=>.no
    | none=>.no
def sqC(go:St→ae (Exit×St)):Exit×St→ae (Exit×St)|(.normal,s)=>go s|r=>.ok r
def bkC(id:Nat):Exit×St→Exit×St
  | (.exit i,s)=>match Nat.beq i id with|true=>(.normal,s)|false=>(.exit i,s)
  | r=>r
def scC:Exit×St→ae (Exit×St)|(.goto _,_)=>.no|r=>.ok r
variable(N:Nat)
def vcC(aQ:dG):Code→St→ae (Exit×St)
  | .skip,σ=>.ok (.normal,σ)
  | .region id ops draw,σ=>match aQ.pan.contains id && !draw with|false=>(zhS P Γ aQ id ops draw σ).mp λs=>(.normal,s)|true=>VP P Γ aQ id ops σ
  | .seq a b,σ=>(vcC aQ a σ).bind (sqC λs=>(Zh P aQ (jF b) s).bind (vcC aQ b))
  | .cond c a b,σ=>match fK σ.env c with|.one (.c (.p (.bool t)))=>.ite t (vcC aQ a (xw σ c true)) (vcC aQ b (xw σ c false))|_=>.no
  | .block id b,σ=>(vcC aQ b σ).mp (bkC id)
  | .loop b,σ=>match lk aQ.head (jF b)with
    | some k=>(ae.opt (canon P k σ)).bind (lpC P k (vcC aQ b) N)
    | none=>match lk aQ.unr (jF b)with|some (n,k)=>unC P k (vcC aQ b) n σ|none=>.no
  | .rangeFunc f ps assign body,σ=>match lk aQ.head (Yy assign body)with
    | some k=>match canon P k σ,nM k.tmps (ps.toList++(eu assign++eu body))&&ps.toList.all (λp=>Nat.blt p aQ.nt)with
      | some s,true=>match fK s.env f with|.one (.c (.p (.fn gf [] caps)))=>(Γ.it gf (caps.map .one)).bind λys=>rgC P k (nM [Gw] (eu assign++eu body)) ps.toList (vcC aQ assign) (vcC aQ body) ys s|_=>.no
      | _,_=>.no
    | none=>.no
  | .exit id,σ=>.ok (.exit id,σ)
  | .scope b,σ=>(vcC aQ b σ).bind scC
  | .label _,σ=>.ok (.normal,σ)
  | .ret,σ=>.ok (.ret,σ)
  | _,_=>.no
end
section
variable{P:Program}{Γ:bI}
theorem zbJ{C:MK}{sf:kR}{args:List DV}{ob:Nat->Option AO}{p:VN}{r:p.ρ}(h:znL C sf args ob=some p)(hr:p.c.o=some r):tC C sf args ob=p.f r:=by
 unfold znL at h;unfold tC;split at h;rename_i xs ls ms hx;cases h;obtain⟨rs,ys⟩:=r;simp only at hr ⊢;rw[hx];simp only[hr];cases EW rs<;>rfl;cases h
theorem znM{o:Oper}{e s b:Nat}{F:List PA→ae (Nat×(Nat→List PV)×List PV)}{args:List DV}{ob:Nat→Option AO}{p:VN}{r:p.ρ}(h:zw8 P o e s b F args ob=some p)(hr:p.c.o=some r) :
  kC P Γ o (.mkv e s b F) args ob=p.f r:=by
 unfold zw8 at h;unfold kC;split at h;rename_i az u dst hx hd;cases h;obtain⟨n,get,rs⟩:=r;simp only at hr ⊢;rw[hx,hd];simp only[hr];cases ob dst<;>cases P.info? e<;>cases gK P e<;>rfl;cases h
theorem zhV{o:Oper}{e s b:Nat}{F:List PA→Nat→(Nat→List PV)→ae (Nat×(Nat→List PV))}{args:List DV}{ob:Nat→Option AO}{p:VN}{r:p.ρ}(h:zhQ P o e s b F args ob=some p)(hr:p.c.o=some r) :
  kC P Γ o (.grow e s b F) args ob=p.f r:=by
 unfold zhQ at h;unfold kC;split at h;rename_i ds L hl;split at h;rename_i az e' s' b' n get ha hL;cases h;obtain⟨m,get'⟩:=r;simp only at hr ⊢;rw[hl];simp only[ha,hL,hr];cases h;rename_i ds hl;split at h;rename_i az dst ha hd;split at h;rename_i ie z h1 h2 h3;split at h;rename_i l h4;cases h;obtain⟨m,get'⟩:=r;simp only at hr ⊢;rw[hl];simp only[ha,hd,h1,h2,h3,h4,hr];cases h;cases h;cases h;cases h
theorem znN{o:Oper}{ev:Operand->DV}{ob:Nat->Option AO}{p:VN}{r:p.ρ}(h:VO P Γ o ev ob=some p)(hr:p.c.o=some r):act P Γ o ev ob=p.f r:=by
 unfold VO at h;split at h;rename_i f args ats bf;simp only[act,bf,aCl];split at h;rename_i g caps hf;simp only[hf];split at h;rename_i C hC;simp only[hC];exact zbJ h hr;cases h;rename_i g first caps hf
 simp only[hf];split at h;rename_i C hC;simp only[hC];exact zbJ h hr;rename_i hC;simp only[hC];split at h;rename_i hk;simp only[hk,ES.on];split at h;rename_i az u hz;cases h;simp only at hr ⊢;rw[hz];simp only[hr];cases h;rename_i e s b F hk;simp only[hk,ES.on];split at h;exact znM h hr;cases h;rename_i e s b F hk;simp only[hk,ES.on];split at h;exact zhV h hr;cases h;cases h;rename_i g cells hf;simp only[hf];split at h;rename_i az u hz;cases h;simp only at hr ⊢;rw[hz];simp only[hr];cases h;cases h;cases h
theorem zbK{A:aJ}{lg:List (Nat×Bool)->List Nat->List (Nat×Nat×Nat)}{i:Nat}{dst:Option Nat}{σ s:St}{K:St->Prop}(h:(zhR A lg i dst σ).o=some s)(hK:K s):ni A lg i dst K σ:=by
 cases A with
 | no=>exact(ae.no_o h).elim
 | val fp d u kl=>have:=ae.ok_o h;subst this;exact hK
 | chk fp c d u kl =>
  obtain⟨h1,h2⟩:=ae.chk_o h;have:=ae.ok_o h2;subst this;exact⟨c.h h1,hK⟩
theorem zbL{o:Oper}{lg:List (Nat×Bool)->List Nat->List (Nat×Nat×Nat)}{i:Nat}{σ s:St}{K:St->Prop}(h:(LG P Γ o lg i σ).o=some s)(hK:K s):ni (act P Γ o (fK σ.env) (lk σ.aB)) lg i o.dst K σ:=by
 unfold LG at h;split at h;rename_i p hp;obtain⟨r,h1,h2⟩:=ae.bind_o h;rw[znN hp h1];exact zbK h2 hK;exact zbK h hK
theorem ql{nt:Nat}{ops:Array Oper}{K:St→Prop}:∀(l:List Oper)(i:Nat)(σ s:St),(oN P Γ nt ops i l σ).o=some s→K s→jV P Γ nt ops i l K σ
  | [],i,σ,s,h,hK=>by have:=ae.ok_o h;subst this;exact hK
  | o::r,i,σ,s,h,hK=>by
    have one:∀(lg:List (Nat×Bool)->List Nat->List (Nat×Nat×Nat))(τ:St),((LG P Γ o lg i τ).bind (oN P Γ nt ops (i+1) r)).o=some s->ni (act P Γ o (fK τ.env) (lk τ.aB)) lg i o.dst (jV P Γ nt ops (i+1) r K) τ:=by
      intro lg τ h;obtain⟨s1,h1,h2⟩:=ae.bind_o h;exact zbL h1 (ql r _ _ _ h2 hK)
    simp only[oN]at h;simp only[jV];split at h;exact(ae.no_o h).elim;rename_i hd;simp only[hd];split at h;rename_i hg;simp only[hg];exact one _ _ h;rename_i j want hg;simp only[hg];split at h;exact(ae.no_o h).elim;rename_i g hg2;simp only[hg2];split at h;rename_i b hb;simp only[hb];refine Ci (λe=>?_) λe=>?_
    · subst e;cases want with|true=>exact one _ _ h|false=>exact ql r _ _ _ h hK
    · subst e;cases want with|true=>exact ql r _ _ _ h hK|false=>exact one _ _ h
    rename_i hb;simp only[hb];exact ql r _ _ _ h hK;exact(ae.no_o h).elim
theorem zbM{aQ:dG}{id:Nat}{ops:Array Oper}{draw:Bool}{σ s:St}{K:St->Prop}(h:(zhS P Γ aQ id ops draw σ).o=some s)(hK:K s):OZ P Γ aQ id ops draw K σ:=by
 unfold zhS at h;unfold OZ;cases draw with
 | false =>
  obtain⟨s1,h1,h2⟩:=ae.bind_o h;refine ql _ _ _ _ h1 ?_;split at h2;rename_i k hk;rw[hk];simp only[ae.opt_o h2];exact hK;rename_i hk;rw[hk];have:=ae.ok_o h2;subst this;exact hK
 | true =>
  simp only at h ⊢;split at h;rename_i hc;rw[hc];obtain⟨s1,h1,h2⟩:=ae.bind_o h;refine ql _ _ _ _ h1 ?_;split at h2;rename_i hl;rw[hl];split at h2;rename_i k hk;rw[hk];simp only[ae.opt_o h2];exact hK;exact(ae.no_o h2).elim;exact(ae.no_o h2).elim;exact(ae.no_o h).elim
theorem VQ{aQ:dG}{id:Nat}{σ s:St}{K:St->Prop}(h:(Du P aQ id σ).o=some s)(hK:K s):zdq P aQ id K σ:=by
 unfold Du at h;unfold zdq;split at h;rename_i k hk;rw[hk];simp only[ae.opt_o h];exact hK;rename_i hk;rw[hk];cases ae.ok_o h;exact hK
theorem zhW{aQ:dG}{id:Nat}{ops:Array Oper}{σ s:St}{e:Exit}{K:Exit->St->Prop}(h:(VP P Γ aQ id ops σ).o=some (e,s))(hK:K e s):JM P Γ aQ id ops K σ:=by
 unfold VP at h;unfold JM;split at h
 rotate_left
 exact(ae.no_o h).elim;rename_i p1 l h1;rw[h1];simp only;split at h
 rotate_left
 exact(ae.no_o h).elim;rename_i pre m h2;rw[h2];simp only;split at h;rename_i ty x y h3;rw[h3];simp only;obtain⟨s1,a1,a2⟩:=ae.bind_o h;refine ql _ _ _ _ a1 ?_;unfold zhU at a2;unfold zwB;split at a2;rename_i k n hx;rw[hx];cases ae.ok_o a2;exact hK;exact(ae.no_o a2).elim
 ·rename_i h3;rw[h3];simp only;obtain⟨s1,a1,a2⟩:=ae.bind_o h;refine ql _ _ _ _ a1 ?_;unfold zhT at a2;unfold Yw;split at a2
  rotate_left
  exact(ae.no_o a2).elim;rename_i g1 g2;rw[g1,g2];simp only;split at a2
  rotate_left
  exact(ae.no_o a2).elim;rename_i C xs ds ls ms hm;rw[hm];simp only;obtain⟨⟨rs,ys⟩,b1,b2⟩:=ae.bind_o a2;rw[b1];simp only at b2 ⊢;split at b2;rename_i hp;rw[hp];simp only;split at b2;rename_i s2 hu;rw[hu];simp only;obtain⟨s3,c1,c2⟩:=ae.mp_o b2;cases c2;exact VQ c1 hK;exact(ae.no_o b2).elim;rename_i ch hp;rw[hp];simp only;split at b2;rename_i s2 hu;rw[hu];simp only;cases ae.ok_o b2;exact hK;exact(ae.no_o b2).elim
theorem znO{aQ:dG}{r:Nat}{σ s:St}{K:St->Prop}(h:(Zh P aQ r σ).o=some s)(hK:K s):zm1 P aQ r K σ:=by
 unfold Zh at h;unfold zm1;split at h;rename_i k hk;rw[hk];simp only[ae.opt_o h];exact hK;rename_i hk;rw[hk];have:=ae.ok_o h;subst this;exact hK
theorem Rz{N:Nat}{aQ:dG}:∀(c:Code)(σ s:St)(e:Exit)(K:Exit->St->Prop),(vcC P Γ N aQ c σ).o=some (e,s)->K e s->vc P Γ aQ c K σ:=by
 intro c
 induction c with
 | skip=>intro σ s e K h hK;cases ae.ok_o h;exact hK
 | region id ops draw =>
  intro σ s e K h hK;simp only[vcC]at h;simp only[vc];split at h;rename_i hp;rw[hp];obtain⟨s1,h1,h2⟩:=ae.mp_o h;cases h2;exact zbM h1 hK;rename_i hp;rw[hp];exact zhW h hK
 | seq a b iha Um =>
  intro σ s e K h hK;obtain⟨⟨e1,s1⟩,h1,h2⟩:=ae.bind_o h;refine iha σ s1 e1 _ h1 ?_;cases e1 with
  | normal =>
   obtain⟨s2,h3,h4⟩:=ae.bind_o h2;exact znO h3 (Um _ _ _ _ h4 hK)
  | _=>cases ae.ok_o h2;exact hK
 | cond c a b iha Um =>
  intro σ s e K h hK;simp only[vcC]at h;simp only[vc];split at h;rename_i t ht;simp only[ht];refine Ci (λe1=>?_) λe1=>?_;subst e1;exact iha _ _ _ _ h hK;subst e1;exact Um _ _ _ _ h hK;exact(ae.no_o h).elim
 | block id b ih =>
  intro σ s e K h hK;obtain⟨⟨e1,s1⟩,h1,h2⟩:=ae.mp_o h;refine ih σ s1 e1 _ h1 ?_;cases e1 with
  | exit j =>
   simp only[bkC]at h2;simp only[Yx];split at h2;rename_i hj;rw[hj];cases h2;exact hK;rename_i hj;rw[hj];cases h2;exact hK
  | _=>cases h2;exact hK
 | loop b ih =>
  intro σ s e K h hK;simp only[vcC]at h;simp only[vc];split at h;rename_i k hk;obtain⟨s1,h1,h2⟩:=ae.bind_o h;simp only[hk,ae.opt_o h1];intro X hX;have key:∀(n:Nat)(s1:St),(lpC P k (vcC P Γ N aQ b) n s1).o=some (e,s)->X s1:=by
   intro n
   induction n with
   | zero=>intro s1 h;exact(ae.no_o h).elim
   | succ n ihn =>
    intro s1 h;obtain⟨⟨e1,s2⟩,h1,h2⟩:=ae.bind_o h;refine hX s1 (ih _ _ _ _ h1 ?_);cases e1 with
    | normal =>
     obtain⟨s3,h3,h4⟩:=ae.bind_o h2;simp only[zgE,hk,ae.opt_o h3];exact ihn s3 h4
    | _=>cases ae.ok_o h2;exact hK
  exact key N s1 h2;rename_i hk;split at h;rename_i n k hn;simp only[hk,hn];have key:∀(n:Nat)(σ:St),(unC P k (vcC P Γ N aQ b) n σ).o=some (e,s)->zdu P k (vc P Γ aQ b) n K σ:=by
   intro n
   induction n with
   | zero=>intro s1 h;exact(ae.no_o h).elim
   | succ n ihn =>
    intro s1 h;obtain⟨s0,h0,h⟩:=ae.bind_o h;obtain⟨⟨e1,s2⟩,h1,h2⟩:=ae.bind_o h;simp only[zdu,ae.opt_o h0];refine ih _ _ _ _ h1 ?_;cases e1 with|normal=>exact ihn _ h2|_=>cases ae.ok_o h2;exact hK
  exact key n σ h;exact(ae.no_o h).elim
 | rangeFunc f ps ah bd iha Um =>
  intro σ s e K h hK;simp only[vcC]at h;simp only[vc];split at h;rename_i k hk;split at h;rename_i s1 hs hd;simp only[hk,hs,hd];split at h;rename_i gf caps hf;obtain⟨ys,h1,h2⟩:=ae.bind_o h;simp only[hf,h1];intro X hX0 hX1;have key:∀(ys:List (List PA))(s1:St),(rgC P k (nM [Gw] (eu ah++eu bd)) ps.toList (vcC P Γ N aQ ah) (vcC P Γ N aQ bd) ys s1).o=some (e,s)->X ys s1:=by
   intro ys
   induction ys with
   | nil=>intro s1 h;cases ae.ok_o h;exact hX0 _ hK
   | cons y rest ihr =>
    intro s1 h;simp only[rgC]at h;refine hX1 y rest s1 ?_;split at h
    ·rename_i env zaI;simp only[zaI];obtain⟨⟨e1,s2⟩,h1,h2⟩:=ae.bind_o h;refine iha _ _ _ _ h1 ?_;cases e1 with
     | normal =>
      obtain⟨⟨e2,s3⟩,h3,h4⟩:=ae.bind_o h2;refine Um _ _ _ _ h3 ?_;cases e2 with
      | normal =>
       obtain⟨s4,h5,h6⟩:=ae.bind_o h4;simp only[tN,ae.opt_o h5];exact ihr _ h6
      | ret =>
       obtain⟨s4,h5,h6⟩:=ae.mp_o h4;cases h6;simp only[tN,ae.opt_o h5];exact hK
      | exit id =>
       obtain⟨s4,h5,h6⟩:=ae.mp_o h4;cases h6;simp only[tN,ae.opt_o h5];exact hK
      | panic ch =>
       simp only at h4;split at h4;rename_i hnp;obtain⟨s4,h5,h6⟩:=ae.mp_o h4;cases h6;simp only[tN,ae.opt_o h5,hnp];exact hK;exact(ae.no_o h4).elim
      | _=>exact(ae.no_o h4).elim
     | _=>exact(ae.no_o h2).elim
    exact(ae.no_o h).elim
  exact key ys s1 h2;exact(ae.no_o h).elim;exact(ae.no_o h).elim;exact(ae.no_o h).elim
 | exit id=>intro σ s e K h hK;cases ae.ok_o h;exact hK
 | scope b ih =>
  intro σ s e K h hK;obtain⟨⟨e1,s1⟩,h1,h2⟩:=ae.bind_o h;refine ih σ s1 e1 _ h1 ?_;cases e1 with|goto l=>exact(ae.no_o h2).elim|_=>cases ae.ok_o h2;exact hK
 | label l=>intro σ s e K h hK;cases ae.ok_o h;exact hK
 | ret=>intro σ s e K h hK;cases ae.ok_o h;exact hK
 | goto l=>intro σ s e K h hK;exact(ae.no_o h).elim
 | refuse s=>intro σ s e K h hK;exact(ae.no_o h).elim
end
end Go.Pm
namespace Go.Pm
section
variable(P:Program)(Γ:bI){A:Type}
def aU(b:Bool)(x:Option A):Option A:=match b with|true=>x|false=>none
def zbN(a:aJ)(lg:List (Nat×Bool)->List Nat->List (Nat×Nat×Nat))(i:Nat)(dst:Option Nat)(K:St->Option A)(σ:St):Option A :=
 match a with|.no=>none|.val fp d u kl=>K ((σ.upd i dst fp d u kl).relog (lg fp kl))|.chk fp s d u kl=>aU s.b (K ((σ.upd i dst fp d u kl).relog (lg fp kl)))
def Zi(o:Oper)(lg:List (Nat×Bool)->List Nat->List (Nat×Nat×Nat))(i:Nat)(K:St->Option A)(σ:St):Option A :=
 match VO P Γ o (fK σ.env) (lk σ.aB)with|some p=>p.c.T λr=>zbN (p.f r) lg i o.dst K σ|none=>zbN (act P Γ o (fK σ.env) (lk σ.aB)) lg i o.dst K σ
def opsT(nt:Nat)(ops:Array Oper)(K:St→Option A):Nat→List Oper→St→Option A
  | _,[],σ=>K σ
  | i,o::r,σ =>
    match dI nt o.dst with
    | false=>none
    | true =>
    match o.guard with
    | none=>Zi P Γ o (oH σ i o) i (opsT nt ops K (i+1) r) σ
    | some (j,want) =>
      match(ops[j]?).bind (·.dst)with
      | none=>none
      | some g =>
        match lk σ.env g with
        | some (.one (.c (.p (.bool b)))) =>
          cond b
            (match want with|true=>Zi P Γ o (oH (σ.setT g (.bool true)) i o) i (opsT nt ops K (i+1) r) (σ.setT g (.bool true))|false=>opsT nt ops K (i+1) r ((σ.setT g (.bool true)).skip o.dst))
            (match want with|true=>opsT nt ops K (i+1) r ((σ.setT g (.bool false)).skip o.dst)|false=>Zi P Γ o (oH (σ.setT g (.bool false)) i o) i (opsT nt ops K (i+1) r) (σ.setT g (.bool false)))
        | some (.one (.c .undef))=>opsT nt ops K (i+1) r (σ.skip o.dst)
        | _=>none
def Dv(k:Keep)(K:St->Option A)(σ:St):Option A:=match canon P k σ with|some s=>K s|none=>none
def VS(aQ:dG)(id:Nat)(ops:Array Oper)(draw:Bool)(K:St->Option A)(σ:St):Option A:=match draw with
 | false=>match lk aQ.reg id with|some k=>Dv P k K σ|none=>K σ
 | true=>match uD (masks ops.toList []) σ.log with
  | true=>match lk aQ.reg id with|some k=>Dv P k K σ|none=>none
  | false=>none
def znP(aQ:dG)(id:Nat)(ops:Array Oper)(draw:Bool)(K:St->Option A)(σ:St):Option A :=
 match draw with
 | false=>opsT P Γ aQ.nt ops (VS P aQ id ops false K) 0 ops.toList {σ with log:=[]}
 | true=>match P.follows .mixedOrders&&JL ops&&AV ops (masks ops.toList [])with
  | true=>opsT P Γ aQ.nt ops (VS P aQ id ops true K) 0 ops.toList {σ with log:=[]}
  | false=>none
def lastT(aQ:dG)(id i:Nat)(o:Oper)(K:Exit->St->Option A)(σ:St):Option A :=
 match o.guard,dI aQ.nt o.dst with
 | none,true=>match zds Γ o σ with
  | some (C,xs,ds,ls,ms)=>(C xs).T λr=>match EW r.1 with
   | none=>match Og i o.dst σ (pV ds (lk σ.aB) ls ms r.1 r.2)with|some s=>VS P aQ id #[] false (K .normal) s|none=>none
   | some ch=>match Og i none σ (pV ds (lk σ.aB) ls ms r.1 r.2)with|some s=>K (.panic ch) s|none=>none
  | none=>none
 | _,_=>none
def ztQ(ty:TypeId)(x y:Nat)(K:Exit->St->Option A)(σ:St):Option A:=match lk σ.env x with|some (.one (.agg [.p (.int k n)]))=>K (.panic (zmU ty k n)) ⟨(y,.junk)::σ.env,σ.aB,[]⟩|_=>none
def zhY(aQ:dG)(id:Nat)(ops:Array Oper)(K:Exit->St->Option A)(σ:St):Option A :=
 match o7 ops.toList with
 | some (p1,l)=>match o7 p1 with
  | some (pre,m)=>match zdr P aQ.nt m l with
   | some (ty,x,y)=>opsT P Γ aQ.nt ops (ztQ ty x y K) 0 pre {σ with log:=[]}
   | none=>opsT P Γ aQ.nt ops (lastT P Γ aQ id p1.length l K) 0 p1 {σ with log:=[]}
  | none=>none
 | none=>none
def zd9(aQ:dG)(r:Nat)(K:St->Option A)(σ:St):Option A:=match lk aQ.cut r with|some k=>Dv P k K σ|none=>K σ
abbrev EK(A:Type):=Exit->St->Option A
def bkT(id:Nat)(K:EK A):EK A:=λe s=>match e with
 | .exit i=>match Nat.beq i id with|true=>K .normal s|false=>K (.exit i) s
 | e=>K e s
def scT(K:EK A):EK A:=λe s=>match e with|.goto _=>none|e=>K e s
def lpK(k:Keep)(go:St->Option A)(K:EK A):EK A:=λe s=>match e with|.normal=>Dv P k go s|e=>K e s
def lpT(k:Keep)(step:EK A→St→Option A)(K:EK A):Nat→St→Option A|0,_=>none|n+1,s=>step (lpK P k (lpT k step K n) K) s
def unT(k:Keep)(step:EK A→St→Option A)(K:EK A):Nat→St→Option A
  | 0,_=>none
  | n+1,σ=>Dv P k (step λe s=>match e with|.normal=>unT k step K n s|e=>K e s) σ
def rgK(k:Keep)(np:Bool)(go:St->Option A)(K:EK A):EK A:=λe s=>match e with
 | .normal=>Dv P k go s
 | .ret=>Dv P k (K .ret) s
 | .exit id=>Dv P k (K (.exit id)) s
 | .panic ch=>match np with|true=>Dv P k (K (.panic ch)) s|false=>none
 | _=>none
def asK(bd:EK A->St->Option A)(K:EK A):EK A:=λe s=>match e with|.normal=>bd K s|_=>none
def rgT(k:Keep)(np:Bool)(ps:List Nat)(ah bd:EK A→St→Option A)(K:EK A):List (List PA)→St→Option A
  | [],s=>K .normal s
  | y::rest,s=>match pW ps y s.env with|some env=>ah (asK bd (rgK P k np (rgT k np ps ah bd K rest) K)) ⟨env,s.aB,[]⟩|none=>none
def sqT(aQ:dG)(id:Nat)(go:EK A->St->Option A)(K:EK A):EK A:=λe s=>match e with|.normal=>zd9 P aQ id (go K) s|e=>K e s
variable(N:Nat)
def xM(aQ:dG):Code→EK A→St→Option A
  | .skip,K,σ=>K .normal σ
  | .region id ops draw,K,σ=>match aQ.pan.contains id && !draw with|false=>znP P Γ aQ id ops draw (K .normal) σ|true=>zhY P Γ aQ id ops K σ
  | .seq a b,K,σ=>xM aQ a (sqT P aQ (jF b) (xM aQ b) K) σ
  | .cond c a b,K,σ=>match fK σ.env c with|.one (.c (.p (.bool t)))=>cond t (xM aQ a K (xw σ c true)) (xM aQ b K (xw σ c false))|_=>none
  | .block id b,K,σ=>xM aQ b (bkT id K) σ
  | .loop b,K,σ=>match lk aQ.head (jF b)with
    | some k=>Dv P k (lpT P k (xM aQ b) K N) σ
    | none=>match lk aQ.unr (jF b)with|some (n,k)=>unT P k (xM aQ b) K n σ|none=>none
  | .rangeFunc f ps assign body,K,σ=>match lk aQ.head (Yy assign body)with
    | some k=>match canon P k σ,nM k.tmps (ps.toList++(eu assign++eu body))&&ps.toList.all (λp=>Nat.blt p aQ.nt)with
      | some s,true=>match fK s.env f with|.one (.c (.p (.fn gf [] caps)))=>(Γ.it gf (caps.map .one)).T λys=>rgT P k (nM [Gw] (eu assign++eu body)) ps.toList (xM aQ assign) (xM aQ body) K ys s|_=>none
      | _,_=>none
    | none=>none
  | .exit id,K,σ=>K (.exit id) σ
  | .scope b,K,σ=>xM aQ b (scT K) σ
  | .label _,K,σ=>K .normal σ
  | .ret,K,σ=>K .ret σ
  | _,_,_=>none
end
section
variable{P:Program}{Γ:bI}{A:Type}{N:Nat}
theorem zbO{o:Oper}{lg:List (Nat×Bool)->List Nat->List (Nat×Nat×Nat)}{i:Nat}{K:St->Option A}{σ:St}:Zi P Γ o lg i K σ=(LG P Γ o lg i σ).T K:=by
 have key:∀a:aJ,zbN a lg i o.dst K σ=(zhR a lg i o.dst σ).T K:=by
  intro a;cases a with|no=>rfl|val=>rfl|chk fp s d u kl=>unfold zbN zhR aU;cases hs:s.b<;>simp only[hs,ae.chk,ae.ok]
 unfold Zi LG;cases VO P Γ o (fK σ.env) (lk σ.aB)with
 | none=>exact key _
 | some p =>
  show p.c.T _=p.c.T _;congr 1;funext r;exact key _
theorem wE{nt:Nat}{ops:Array Oper}{K:St→Option A}:∀(l:List Oper)(i:Nat)(σ:St),opsT P Γ nt ops K i l σ=(oN P Γ nt ops i l σ).T K
  | [],_,_=>rfl
  | o::r,i,σ=>by
    have one:∀(lg:List (Nat×Bool)->List Nat->List (Nat×Nat×Nat))(τ:St),Zi P Γ o lg i (opsT P Γ nt ops K (i+1) r) τ=((LG P Γ o lg i τ).bind (oN P Γ nt ops (i+1) r)).T K:=λlg τ=>by
      rw[zbO];show(LG P Γ o lg i τ).T _=(LG P Γ o lg i τ).T _;congr 1;funext s;exact wE r _ s
    have rest:∀σ:St,opsT P Γ nt ops K (i+1) r σ=(oN P Γ nt ops (i+1) r σ).T K:=λσ=>wE r _ σ;simp only[opsT,oN];cases dI nt o.dst with
    | false=>rfl
    | true =>
      simp only;cases o.guard with
      | none=>exact one _ _
      | some x =>
        obtain⟨j,want⟩:=x;simp only;cases(ops[j]?).bind (·.dst)with
        | none=>rfl
        | some g =>
          simp only;cases lk σ.env g with
          | none=>rfl
          | some d=>cases d with
            | tup _=>rfl
            | one d=>cases d with
              | agg _=>rfl
              | c x=>cases x with
                | undef=>exact rest _
                | p v=>cases v with
                  | bool b=>cases b<;>cases want<;>first|exact one _ _|exact rest _
                  | _=>rfl
                | _=>rfl
theorem mF{k:Keep}{K:St->Option A}{σ:St}:Dv P k K σ=(ae.opt (canon P k σ)).T K:=by
 unfold Dv;cases canon P k σ<;>rfl
theorem zbP{aQ:dG}{id:Nat}{ops:Array Oper}{draw:Bool}{K:St->Option A}{σ:St}:znP P Γ aQ id ops draw K σ=(zhS P Γ aQ id ops draw σ).T K:=by
 cases draw with
 | false =>
  show opsT P Γ aQ.nt ops _ 0 ops.toList _=(oN P Γ aQ.nt ops 0 ops.toList _).T _;rw[wE];congr 1;funext s;simp only[VS];cases lk aQ.reg id with|none=>rfl|some k=>exact mF
 | true =>
  simp only[znP,zhS];cases P.follows .mixedOrders&&JL ops&&AV ops (masks ops.toList [])with
  | false=>rfl
  | true =>
   simp only;rw[wE];show _=(oN P Γ aQ.nt ops 0 ops.toList _).T _;congr 1;funext s;show _=((match uD (masks ops.toList []) s.log with|true=>(match lk aQ.reg id with|some k=>ae.opt (canon P k s)|none=>.no)|false=>.no):ae St).T K;simp only[VS];cases uD (masks ops.toList []) s.log with
   | false=>rfl
   | true =>
    cases lk aQ.reg id with|none=>rfl|some k=>exact mF
theorem zhZ{aQ:dG}{id:Nat}{ops:Array Oper}{K:Exit->St->Option A}{σ:St}:zhY P Γ aQ id ops K σ=(VP P Γ aQ id ops σ).T λr=>K r.1 r.2:=by
 unfold zhY VP;cases o7 ops.toList with
 | none=>rfl
 | some x =>
  obtain⟨p1,l⟩:=x;simp only;cases o7 p1 with
  | none=>rfl
  | some x =>
   obtain⟨pre,m⟩:=x;simp only;cases zdr P aQ.nt m l with
   | some x =>
    obtain⟨ty,x,y⟩:=x;simp only;rw[wE];show(oN P Γ aQ.nt ops 0 pre _).T _=(oN P Γ aQ.nt ops 0 pre _).T _;congr 1;funext s;unfold ztQ zhU;cases lk s.env x with
    | none=>rfl
    | some d=>cases d with
     | tup _=>rfl
     | one d=>cases d with
      | c _=>rfl
      | agg l=>match l with
       | []=>rfl
       | [y]=>cases y with|p v=>cases v<;>rfl|_=>rfl
       | y::_::_=>cases y with|p v=>cases v<;>rfl|_=>rfl
   | none =>
    simp only;rw[wE];show(oN P Γ aQ.nt ops 0 p1 _).T _=(oN P Γ aQ.nt ops 0 p1 _).T _;congr 1;funext s;unfold lastT zhT;cases l.guard with
    | some x=>rfl
    | none =>
    cases dI aQ.nt l.dst with
    | false=>rfl
    | true =>
    simp only;cases zds Γ l s with
    | none=>rfl
    | some x =>
     obtain⟨C,xs,ds,ls,ms⟩:=x;show(C xs).T _=(C xs).T _;congr 1;funext r;simp only;cases EW r.1 with
     | none =>
      simp only;cases Og p1.length l.dst s (pV ds (lk s.aB) ls ms r.1 r.2)with
      | none=>rfl
      | some s2 =>
       show VS P aQ id #[] false (K .normal) s2=(Du P aQ id s2).T λs=>K .normal s;simp only[VS,Du];cases lk aQ.reg id with|none=>rfl|some k=>exact mF
     | some ch =>
      simp only;cases Og p1.length none s (pV ds (lk s.aB) ls ms r.1 r.2)<;>rfl
theorem zbQ{aQ:dG}{r:Nat}{K:St->Option A}{σ:St}:zd9 P aQ r K σ=(Zh P aQ r σ).T K:=by
 unfold zd9 Zh;cases lk aQ.cut r with|none=>rfl|some k=>exact mF
theorem LH{aQ:dG}:∀(c:Code)(K:EK A)(σ:St),xM P Γ N aQ c K σ=(vcC P Γ N aQ c σ).T λr=>K r.1 r.2:=by
 intro c
 induction c with
 | skip=>intro K σ;rfl
 | region id ops draw =>
  intro K σ;simp only[xM,vcC];cases aQ.pan.contains id && !draw with|false=>exact zbP|true=>exact zhZ
 | seq a b iha Um =>
  intro K σ;rw[xM,iha];show(vcC P Γ N aQ a σ).T _=(vcC P Γ N aQ a σ).T _;congr 1;funext r;obtain⟨e,s⟩:=r;cases e with
  | normal =>
   show zd9 P aQ (jF b) (xM P Γ N aQ b K) s=(Zh P aQ (jF b) s).T _;rw[zbQ];congr 1;funext s;exact Um _ _
  | _=>rfl
 | cond c a b iha Um =>
  intro K σ;simp only[xM,vcC];cases fK σ.env c with
  | tup _=>rfl
  | one d=>cases d with
   | agg _=>rfl
   | c x=>cases x with
    | p v=>cases v with
     | bool t=>cases t with|true=>exact iha _ _|false=>exact Um _ _
     | _=>rfl
    | _=>rfl
 | block id b ih =>
  intro K σ;rw[xM,ih];show(vcC P Γ N aQ b σ).T _=(vcC P Γ N aQ b σ).T _;congr 1;funext r;obtain⟨e,s⟩:=r;cases e with|exit j=>simp only[bkT,bkC];cases Nat.beq j id<;>rfl|_=>rfl
 | loop b ih =>
  intro K σ;simp only[xM,vcC];cases lk aQ.head (jF b)with
  | some k =>
   simp only;rw[mF];show(ae.opt (canon P k σ)).T _=(ae.opt (canon P k σ)).T _;congr 1;funext s;have key:∀(n:Nat)(s:St),lpT P k (xM P Γ N aQ b) K n s=(lpC P k (vcC P Γ N aQ b) n s).T λr=>K r.1 r.2:=by
    intro n
    induction n with
    | zero=>intro s;rfl
    | succ n ihn =>
     intro s;rw[lpT,ih];show(vcC P Γ N aQ b s).T _=(vcC P Γ N aQ b s).T _;congr 1;funext r;obtain⟨e,s1⟩:=r;cases e with
     | normal =>
      show Dv P k _ s1=(ae.opt (canon P k s1)).T _;rw[mF];congr 1;funext s;exact ihn s
     | _=>rfl
   exact key N s
  | none =>
   simp only;cases lk aQ.unr (jF b)with
   | none=>rfl
   | some x =>
    obtain⟨n,k⟩:=x;simp only;have key:∀(n:Nat)(s:St),unT P k (xM P Γ N aQ b) K n s=(unC P k (vcC P Γ N aQ b) n s).T λr=>K r.1 r.2:=by
     intro n
     induction n with
     | zero=>intro s;rfl
     | succ n ihn =>
      intro s;rw[unT,mF];show(ae.opt (canon P k s)).T _=(ae.opt (canon P k s)).T _;congr 1;funext s;rw[ih];show(vcC P Γ N aQ b s).T _=(vcC P Γ N aQ b s).T _;congr 1;funext r;obtain⟨e,s1⟩:=r;cases e with|normal=>exact ihn s1|_=>rfl
    exact key n σ
 | rangeFunc f ps ah bd iha Um =>
  intro K σ;simp only[xM,vcC];cases lk aQ.head (Yy ah bd)with
  | none=>rfl
  | some k =>
   simp only;have key:∀(ys:List (List PA))(s:St),rgT P k (nM [Gw] (eu ah++eu bd)) ps.toList (xM P Γ N aQ ah) (xM P Γ N aQ bd) K ys s=(rgC P k (nM [Gw] (eu ah++eu bd)) ps.toList (vcC P Γ N aQ ah) (vcC P Γ N aQ bd) ys s).T λr=>K r.1 r.2:=by
    intro ys
    induction ys with
    | nil=>intro s;rfl
    | cons y rest ihr =>
     intro s;simp only[rgT,rgC];cases pW ps.toList y s.env with
     | none=>rfl
     | some env =>
      simp only;rw[iha];show(vcC P Γ N aQ ah _).T _=(vcC P Γ N aQ ah _).T _;congr 1;funext r;obtain⟨e,s1⟩:=r;cases e with
      | normal =>
       show xM P Γ N aQ bd _ s1=(vcC P Γ N aQ bd s1).T _;rw[Um];congr 1;funext r;obtain⟨e,s2⟩:=r;cases e with
       | normal =>
        show Dv P k _ s2=(ae.opt (canon P k s2)).T _;rw[mF];congr 1;funext s;exact ihr s
       | ret=>exact mF
       | exit id=>exact mF
       | panic ch =>
        simp only[rgK];cases nM [Gw] (eu ah++eu bd)with|true=>exact mF|false=>rfl
       | _=>rfl
      | _=>rfl
   cases canon P k σ with
   | none=>rfl
   | some s =>
    cases nM k.tmps (ps.toList++(eu ah++eu bd))&&ps.toList.all (λp=>Nat.blt p aQ.nt)with
    | false=>rfl
    | true =>
     simp only;cases fK s.env f with
     | tup _=>rfl
     | one d=>cases d with
      | agg _=>rfl
      | c x=>cases x with
       | p v=>cases v with
        | fn gf first caps=>cases first with
         | cons _ _=>rfl
         | nil =>
          show(Γ.it gf (caps.map .one)).T _=(Γ.it gf (caps.map .one)).T _;congr 1;funext ys;exact key ys s
        | _=>rfl
       | _=>rfl
 | exit id=>intro K σ;rfl
 | scope b ih =>
  intro K σ;rw[xM,ih];show(vcC P Γ N aQ b σ).T _=(vcC P Γ N aQ b σ).T _;congr 1;funext r;obtain⟨e,s⟩:=r;cases e<;>rfl
 | label l=>intro K σ;rfl
 | ret=>intro K σ;rfl
 | goto l=>intro K σ;rfl
 | refuse s=>intro K σ;rfl
end
end Go.Pm
namespace Go.Pm
abbrev YO:=Option (List (List PA))
section
variable(P:Program)(Γ:bI)
def yT(y:List PA)(a b:YO):YO:=match a with
 | some _=>match b with|some r=>some (y::r)|none=>none
 | none=>none
def LJ(nt:Nat)(o:Oper)(next:Bool->St->YO)(q:Bool)(σ:St):YO :=
 match zm2 σ o with
 | some (args,t)=>match qK (args.toList.map (fK σ.env)),Nat.blt t nt,q with
  | some y,true,false=>yT y (next true ((zh σ).setT t (.bool false))) (next false ((zh σ).setT t (.bool true)))
  | _,_,_=>none
 | none=>match dI nt o.dst with
  | true=>Zi P Γ o (λ_ _=>[]) 0 (next q) σ
  | false=>none
def Aq(nt:Nat)(ops:Array Oper):List Oper→(Bool→St→YO)→Bool→St→YO
  | [],K,q,σ=>K q σ
  | o::r,K,q,σ=>match o.guard with
    | none=>LJ P Γ nt o (Aq nt ops r K) q σ
    | some (j,want)=>match dI nt o.dst,(ops[j]?).bind (·.dst)with
      | true,some g=>match lk σ.env g with
        | some (.one (.c (.p (.bool b)))) => cond b
            (match want with|true=>LJ P Γ nt o (Aq nt ops r K) q (σ.setT g (.bool true))|false=>Aq nt ops r K q ((σ.setT g (.bool true)).skip o.dst))
            (match want with|true=>Aq nt ops r K q ((σ.setT g (.bool false)).skip o.dst)|false=>LJ P Γ nt o (Aq nt ops r K) q (σ.setT g (.bool false)))
        | some (.one (.c .undef))=>Aq nt ops r K q (σ.skip o.dst)
        | _=>none
      | _,_=>none
abbrev Ui:=Exit->Bool->St->YO
def zea(k:Keep)(K:St->YO)(σ:St):YO:=match canon P k σ with|some s=>K s|none=>none
def lkY(k:Keep)(go:Bool->St->YO)(K:Ui):Ui:=λe q s=>match e with|.normal=>zea P k (go q) s|e=>K e q s
def skY(aQ:dG)(id:Nat)(go:Ui->Bool->St->YO)(K:Ui):Ui:=λe q s=>match e with|.normal=>zd9 P aQ id (go K q) s|e=>K e q s
def bkY(id:Nat)(K:Ui):Ui:=λe q s=>match e with
 | .exit i=>match Nat.beq i id with|true=>K .normal q s|false=>K (.exit i) q s
 | e=>K e q s
def zFG(K:Ui):Ui:=λe q s=>match e with|.goto _=>none|e=>K e q s
def zh0(k:Keep)(step:Ui→Bool→St→YO)(K:Ui):Nat→Bool→St→YO|0,_,_=>none|n+1,q,s=>step (lkY P k (zh0 k step K n) K) q s
def zw9(k:Keep)(step:Ui→Bool→St→YO)(K:Ui):Nat→Bool→St→YO
  | 0,_,_=>none
  | n+1,q,σ=>zea P k (step (λe q s1=>match e with|.normal=>zw9 k step K n q s1|e=>K e q s1) q) σ
variable(N:Nat)
def uQ(aQ:dG):Code→Ui→Bool→St→YO
  | .skip,K,q,σ=>K .normal q σ
  | .region id ops draw,K,q,σ=>match(Iq ops.toList).contains 0,aQ.yl.contains id,draw with
    | true,_,_=>none
    | false,true,false=>Aq P Γ aQ.nt ops ops.toList (λq' σ'=>match lk aQ.reg id with
      | some k=>zea P k (K .normal q') σ'
      | none=>K .normal q' {σ' with log:=[]}) q {σ with log:=[]}
    | false,true,true=>none
    | false,false,_=>znP P Γ aQ id ops draw (K .normal q) σ
  | .seq a b,K,q,σ=>uQ aQ a (skY P aQ (jF b) (uQ aQ b) K) q σ
  | .cond c a b,K,q,σ=>match fK σ.env c with|.one (.c (.p (.bool t)))=>cond t (uQ aQ a K q (xw σ c true)) (uQ aQ b K q (xw σ c false))|_=>none
  | .block id b,K,q,σ=>uQ aQ b (bkY id K) q σ
  | .loop b,K,q,σ=>match lk aQ.head (jF b)with
    | some k=>zea P k (zh0 P k (uQ aQ b) K N q) σ
    | none=>match lk aQ.unr (jF b)with|some (n,k)=>zw9 P k (uQ aQ b) K n q σ|none=>none
  | .exit id,K,q,σ=>K (.exit id) q σ
  | .scope b,K,q,σ=>uQ aQ b (zFG K) q σ
  | .label _,K,q,σ=>K .normal q σ
  | .ret,K,q,σ=>K .ret q σ
  | _,_,_,_=>none
def ztR:Ui:=λe _ _=>match e with|.normal=>some []|.ret=>some []|_=>none
def aI(aQ:dG)(f:FuncId)(caps:List PA):YO :=
 match P.funcs[f]? with
 | some fn=>match fn.body with
  | some c=>match Nat.beq aQ.nt fn.ntmps&&Nat.ble (caps.length+1) aQ.nt&&fn.results.isEmpty with|true=>uQ P Γ N aQ c ztR false ⟨(0,.cl (.vec UE))::jd 1 caps,[(UE,.gone)],[]⟩|false=>none
  | none=>none
 | none=>none
end
section
variable [aH]{P:Program}{Γ:bI}{N:Nat}
theorem ae.T_some{ρ A:Type}{c:ae ρ}{k:ρ->Option A}{x:A}(h:c.T k=some x):∃r,c.o=some r/\k r=some x:=by
 rw[c.nat]at h;cases e:c.T some with|none=>rw[e]at h;cases h|some r=>rw[e]at h;exact⟨r,e,h⟩
def RD(K:Bool->St->YO)(K':List (List PA)->Bool->St->Prop):Prop:=∀q s r ys,K q s=some r->(q=false->ys=r)->K' ys q s
theorem FT{nt:Nat}{o:Oper}{next:Bool->St->YO}{next':List (List PA)->Bool->St->Prop}(hn:RD next next'):RD (LJ P Γ nt o next) (vU P Γ nt o next'):=by
 intro q σ r ys h hq;unfold LJ at h;unfold vU;split at h;rename_i args t hy;rw[hy];simp only;split at h;rename_i y h1 h2;unfold yT at h;split at h;rename_i r1 hf;split at h;rename_i r2 ht;cases h;rw[h1,h2];exact⟨r2,hq rfl,hn _ _ _ _ ht λ_=>rfl,hn _ _ _ _ hf λe=>by cases e⟩;cases h;cases h;cases h;rename_i hy;rw[hy];simp only;split at h;rename_i hd;rw[hd];rw[zbO]at h;obtain⟨s,h1,h2⟩:=ae.T_some h;exact zbL h1 (hn _ _ _ _ h2 hq);cases h
theorem VT{nt:Nat}{ops:Array Oper}{K:Bool→St→YO}{K':List (List PA)→Bool→St→Prop}(hK:RD K K'):∀l:List Oper,RD (Aq P Γ nt ops l K) (lH P Γ nt ops l K')
  | []=>hK
  | o::l=>by
    intro q σ r ys h hq;have ih:RD (Aq P Γ nt ops l K) (lH P Γ nt ops l K'):=VT hK l;simp only[Aq]at h;simp only[lH];split at h;rename_i hg;simp only[hg];exact FT ih _ _ _ _ h hq;rename_i j want hg;simp only[hg];split at h;rename_i g hd hj;simp only[hd,hj];split at h;rename_i b hb;simp only[hb];refine Ci (λe=>?_) λe=>?_
    · subst e;cases want with|true=>exact FT ih _ _ _ _ h hq|false=>exact ih _ _ _ _ h hq
    · subst e;cases want with|true=>exact ih _ _ _ _ h hq|false=>exact FT ih _ _ _ _ h hq
    rename_i hb;simp only[hb];exact ih _ _ _ _ h hq;cases h;cases h
theorem zy{k:Keep}{K:St->YO}{σ:St}{r:List (List PA)}(h:zea P k K σ=some r):∃s,canon P k σ=some s/\K s=some r:=by
 unfold zea at h;split at h;rename_i s hs;exact⟨s,hs,h⟩;cases h
def zFH(K:Ui)(K':YK):Prop:=∀e,RD (K e) (K' e)
theorem znQ{aQ:dG}:∀(c:Code)(K:Ui)(K':YK),zFH K K'->RD (uQ P Γ N aQ c K) (QH P Γ aQ c K'):=by
 intro c
 induction c with
 | skip=>exact λK K' hK=>hK .normal
 | region id ops draw =>
  intro K K' hK q σ r ys h hq;simp only[uQ]at h;simp only[QH];split at h;cases h;rename_i h1 h2;simp only[h1,h2];refine VT (λq s r ys h hq=>?_) ops.toList _ _ _ _ h hq;split at h;rename_i k hk;obtain⟨s1,h3,h4⟩:=zy h;simp only[hk,h3];exact hK _ _ _ _ _ h4 hq;rename_i hk;simp only[hk];exact hK _ _ _ _ _ h hq;cases h;rename_i h1 h2;simp only[h1,h2];rw[zbP]at h;obtain⟨s,h3,h4⟩:=ae.T_some h;exact zbM h3 (hK _ _ _ _ _ h4 hq)
 | seq a b iha Um =>
  intro K K' hK;refine iha _ _ λe q s r ys h hq=>?_;cases e with
  | normal =>
   have h:zd9 P aQ (jF b) (uQ P Γ N aQ b K q) s=some r:=h;rw[zbQ]at h;obtain⟨s1,h1,h2⟩:=ae.T_some h;simp only[zwD,zwF];have:=Um K K' hK _ _ _ _ h2 hq;unfold Zh at h1;split at h1;rename_i k hk;simp only[hk,ae.opt_o h1];exact this;rename_i hk;simp only[hk];cases ae.ok_o h1;exact this
  | _=>exact hK _ _ _ _ _ h hq
 | cond c a b iha Um =>
  intro K K' hK q σ r ys h hq;simp only[uQ]at h;simp only[QH];split at h;rename_i t ht;simp only[ht];refine Ci (λe1=>?_) λe1=>?_;subst e1;exact iha _ _ hK _ _ _ _ h hq;subst e1;exact Um _ _ hK _ _ _ _ h hq;cases h
 | block id b ih =>
  intro K K' hK;refine ih _ _ λe q s r ys h hq=>?_;cases e with
  | exit j =>
   simp only[bkY]at h;simp only[Yz];split at h;rename_i hj;rw[hj];exact hK _ _ _ _ _ h hq;rename_i hj;rw[hj];exact hK _ _ _ _ _ h hq
  | _=>exact hK _ _ _ _ _ h hq
 | loop b ih =>
  intro K K' hK q σ r ys h hq;simp only[uQ]at h;simp only[QH];split at h;rename_i k hk;obtain⟨s1,h1,h2⟩:=zy h;simp only[hk,h1];intro X hX;have key:∀n:Nat,RD (zh0 P k (uQ P Γ N aQ b) K n) X:=by
   intro n
   induction n with
   | zero=>intro q s r ys h;cases h
   | succ n ihn =>
    intro q s r ys h hq;refine hX _ _ _ (ih _ _ (λe q s r ys h hq=>?_) _ _ _ _ h hq);cases e with
    | normal =>
     obtain⟨s2,h3,h4⟩:=zy h;simp only[zgH,hk,h3];exact ihn _ _ _ _ h4 hq
    | _=>exact hK _ _ _ _ _ h hq
  exact key N _ _ _ _ h2 hq;rename_i hk;split at h;rename_i n k hn;simp only[hk,hn];have key:∀n:Nat,RD (zw9 P k (uQ P Γ N aQ b) K n) (O3 P k (QH P Γ aQ b) n K'):=by
   intro n
   induction n with
   | zero=>intro q s r ys h;cases h
   | succ n ihn =>
    intro q s r ys h hq;obtain⟨s1,h1,h2⟩:=zy h;simp only[O3,h1];refine ih _ _ (λe q s r ys h hq=>?_) _ _ _ _ h2 hq;cases e with|normal=>exact ihn _ _ _ _ h hq|_=>exact hK _ _ _ _ _ h hq
  exact key n _ _ _ _ h hq;cases h
 | exit id=>exact λK K' hK=>hK _
 | scope b ih =>
  intro K K' hK;refine ih _ _ λe q s r ys h hq=>?_;cases e with|goto l=>cases h|_=>exact hK _ _ _ _ _ h hq
 | label l=>exact λK K' hK=>hK .normal
 | ret=>exact λK K' hK=>hK .ret
 | rangeFunc f ps a b _ _=>intro K K' hK q σ r ys h;cases h
 | goto l=>intro K K' hK q σ r ys h;cases h
 | refuse s=>intro K K' hK q σ r ys h;cases h
theorem zFI{aQ:dG}{f:FuncId}{caps:List PA}{ys:List (List PA)}(h:aI P Γ N aQ f caps=some ys):QI P Γ aQ f caps ys:=by
 unfold aI at h;unfold QI;split at h;rename_i fn sU;split at h;rename_i c hb;split at h
 ·rename_i hc;rw[sU];simp only[hb,hc];refine znQ c _ _ (λe q s r ys h hq=>?_) _ _ _ _ h λ_=>rfl;have fin:some []=some r->zgI ys q:=by
   intro e;cases e;cases q with|true=>trivial|false=>exact hq rfl
  cases e with|normal=>exact fin h|ret=>exact fin h|_=>cases h
 cases h;cases h;cases h
end
end Go.Pm
namespace Go.Pm
section
variable [aH]
class iQ (α : Type) where
  enc:α->PA
  dec:PA->α
  ck:PA->Bool
  up:∀{h:Fz}{a:PA}{v:Value},nN h a v->ck a=true->nN h (enc (dec a)) v
  eq:α->α->Bool
  eqk:∀{h:Fz}{a b:α}{v:Value},eq a b=true->nN h (enc a) v->nN h (enc b) v
abbrev iQ.one {α : Type} [bG α] : iQ α where
  enc x:=match bG.enc x with|[v]=>.one v|l=>.agg l
  dec a:=match a with | .one v=>(bG.dec [v]).1 | .agg l=>(bG.dec l).1
  ck a:=match a with | .one v=>OY (bG.ck (α:=α) [v]) | .agg _=>false
  up:=by
    intro h a v r hc;cases a with
    | agg l=>cases hc
    | one p =>
      have r:Rep h p v:=r;have h1:=nK (α:=α) (g:=λ_=>[p]) (λ_ _=>⟨r.un,trivial⟩) hc 0;change RL o6 [p] (bG.enc (bG.dec (α:=α) [p]).1)at h1;generalize bG.enc (bG.dec (α:=α) [p]).1=m at h1
      match m,h1 with|[q],h1=>exact r.up h1.1|[],h1=>exact h1.elim|_::_::_,h1=>exact h1.2.elim
  eq:=bG.eq
  eqk:=by
    intro h a b v he r;have h1:=bG.eqk he;generalize bG.enc a=l at h1 r;generalize bG.enc b=m at h1;have ag:∀{l m:List PV},RL o6 l m->nN h (.agg l) v->nN h (.agg m) v:=λe r1=>by
      obtain⟨vs,e1,r2⟩:=r1;exact⟨vs,e1,AZ e r2⟩
    match l,m,h1 with|[_],[_],h1=>exact Rep.up h1.1 r|[],[],h1=>exact ag h1 r|_::_::_,_::_::_,h1=>exact ag h1 r|[],_::_,h1=>exact h1.elim|[_],[],h1=>exact h1.elim|[_],_::_::_,h1=>exact h1.2.elim|_::_::_,[],h1=>exact h1.elim|_::_::_,[_],h1=>exact h1.2.elim
abbrev iQ.agg' {α : Type} [bG α] : iQ α where
  enc x:=.agg (bG.enc x)
  dec a:=match a with | .one v=>(bG.dec [v]).1 | .agg l=>(bG.dec l).1
  ck a:=match a with | .agg l=>OY (bG.ck (α:=α) l) | .one _=>false
  up:=by
    intro h a v r hc;cases a with
    | one p=>cases hc
    | agg l =>
      obtain⟨vs,rfl,r⟩:=r;exact⟨vs,rfl,AZ (nK (α:=α) (g:=λ_=>l) (λ_ _=>yg r) hc 0) r⟩
  eq:=bG.eq
  eqk:=by
    intro h a b v he r;obtain⟨vs,rfl,r⟩:=r;exact⟨vs,rfl,AZ (bG.eqk he) r⟩
instance:iQ Int:=.one
instance:iQ Bool:=.one
instance{α:Type}[bG α][Inhabited α]:iQ (Sl α):=.one
instance{α:Type}[bG α]:iQ (Pt α):=.one
class dE (α : Type) where
  enc:α->List PA
  dec:List PA->α
  ck:List PA->Bool
  up:∀{h:Fz}{l:List PA}{vs:List Value},RL (nN h) l vs->ck l=true->RL (nN h) (enc (dec l)) vs
  eq:α->α->Bool
  eqk:∀{h:Fz}{a b:α}{vs:List Value},eq a b=true->RL (nN h) (enc a) vs->RL (nN h) (enc b) vs
instance : dE Unit where
  enc _:=[]
  dec _:=()
  ck l:=l.isEmpty
  up:=by
    intro h l vs r hc;cases l with|nil=>exact r|cons=>cases hc
  eq _ _:=true
  eqk _ r:=r
instance {α : Type} [iQ α] : dE α where
  enc x:=[iQ.enc x]
  dec l:=iQ.dec (l.headD (.agg []))
  ck l:=match l with|[a]=>iQ.ck (α:=α) a|_=>false
  up:=by
    intro h l vs r hc
    match l,vs,r,hc with|[a],[v],r,hc=>exact⟨iQ.up r.1 hc,trivial⟩|[],_,_,hc=>cases hc|_::_::_,_,_,hc=>cases hc|[_],[],r,_=>exact r.elim|[_],_::_::_,r,_=>exact r.2.elim
  eq:=iQ.eq
  eqk:=by
    intro h a b vs he r
    match vs,r with|[v],r=>exact⟨iQ.eqk he r.1,trivial⟩|[],r=>exact r.elim|_::_::_,r=>exact r.2.elim
instance {α β : Type} [iQ α] [dE β] : dE (α × β) where
  enc x:=iQ.enc x.1::dE.enc x.2
  dec l:=(iQ.dec (l.headD (.agg [])),dE.dec l.tail)
  ck l:=match l with|a::r=>iQ.ck (α:=α) a&&dE.ck (α:=β) r|_=>false
  up:=by
    intro h l vs r hc
    match l,vs,r,hc with
    | a::l,v::vs,r,hc =>
      rw[Bool.and_eq_true]at hc;exact⟨iQ.up r.1 hc.1,dE.up r.2 hc.2⟩
    | [],_,_,hc=>cases hc
    | _::_,[],r,_=>exact r.elim
  eq a b:=iQ.eq a.1 b.1&&dE.eq a.2 b.2
  eqk:=by
    intro h a b vs he r;rw[Bool.and_eq_true]at he
    match vs,r with|v::vs,r=>exact⟨iQ.eqk he.1 r.1,dE.eqk he.2 r.2⟩|[],r=>exact r.elim
theorem Jb{h:Fz}{l m:List PA}{v:Value}(hm:∀vs,RL (nN h) l vs->RL (nN h) m vs)(r:qg h l v):qg h m v:=by
 have go:∀vs,RL (nN h) m vs->(vs.length=1->vs=[v])->(vs.length≠1->v=.tuple vs.toArray)->qg h m v:=by
  intro vs hr h1 h2
  match m,vs,hr with|[],[],_=>exact⟨[],h2 (by simp),trivial⟩|[x],[u],hr=>cases h1 rfl;exact hr.1|x::y::l,u::u2::vs,hr=>exact⟨_,h2 (by simp),hr⟩|[],_::_,hr=>exact hr.elim|[_],[],hr=>exact hr.elim|[_],_::_::_,hr=>exact hr.2.elim|_::_::_,[],hr=>exact hr.elim|_::_::_,[_],hr=>exact hr.2.elim
 match l,r with|[],⟨vs,e,r⟩=>exact go vs (hm vs r) (λh=>by rw[<- r.length]at h;cases h) λ_=>e|[x],r=>exact go [v] (hm [v] ⟨r,trivial⟩) (λ_=>rfl) λh=>absurd rfl h|x::y::l,⟨vs,e,r⟩=>exact go vs (hm vs r) (λh=>by rw[<- r.length]at h;simp at h) λ_=>e
end
/-! What is wanted later, as a number's bits. -/
def orL(m:Nat):List Nat→Nat
  | []=>m
  | t::r=>orL (m ||| 2^t) r
def clL(m:Nat):List Nat→Nat|[]=>m|t::r=>clL (m ^^^ (m &&& 2^t)) r
def ztS(ops:Array Oper):List Oper→Nat→Nat|[],m=>m|o::r,m=>orL (clL (ztS ops r m) o.dst.toList) (tK ops o)
def lvC:Code→Nat→Nat→List (Nat×Nat)→Nat×List (Nat×Nat×Nat)
  | .skip,o,_,_=>(o,[])
  | .region id ops _,o,_,_=>(ztS ops ops.toList o,[(0,id,o)])
  | .seq a b,o,r,x=>match lvC b o r x with
    | (mb,lb)=>match lvC a mb r x with|(ma,la)=>(ma,la++(2,jF b,mb)::lb)
  | .cond c a b,o,r,x=>match lvC a o r x,lvC b o r x with
    | (ma,la),(mb,lb)=>(orL (ma ||| mb) (Yr c),la++lb)
  | .block id b,o,r,x=>lvC b o r ((id,o)::x)
  | .loop b,_,r,x=>match(lvC b 0 r x).1 with|m=>(m,(1,jF b,m)::(lvC b m r x).2)
  | .rangeFunc f ps a b,o,r,x=>match(lvC b 0 r x).1 with
    | m0=>match orL (clL (o ||| (lvC a m0 r x).1) ps.toList) (Yr f)with
      | m=>match lvC b m r x with|(mb,lb)=>(m,(1,Yy a b,m)::((lvC a mb r x).2++lb))
  | .exit id,_,_,x=>((lk x id).getD 0,[])
  | .scope b,o,r,x=>lvC b o r x
  | .label _,o,_,_=>(o,[])
  | .ret,_,r,_=>(r,[])
  | _,_,_,_=>(0,[])
def zbR(m:Nat):Nat→Nat→List Nat
  | _,0=>[]
  | i,n+1=>match m.testBit i with|true=>i::zbR m (i+1) n|false=>zbR m (i+1) n
structure Ext where
  ks:List (Nat×Nat×Keep):=[]
  cut:List Nat:=[]
  unr:List (Nat×Nat):=[]
  yl:List Nat:=[]
  vv:List Nat:=[]
  clo:List Nat:=[]
  pan:List Nat:=[]
def zbS(x:Ext)(nt k id m:Nat):Keep:=match x.ks.find? λy=>Nat.beq y.1 k&&Nat.beq y.2.1 id with
 | some y=>{y.2.2 with tmps:=zbR m 0 nt}
 | none=>⟨zbR m 0 nt,[],[],[],[],[],[]⟩
def zFK(x:Ext)(nt:Nat):List (Nat×Nat×Nat)→dG→dG
  | [],a=>a
  | (k,id,m)::r,a=>match zFK x nt r a with
    | a=>match k with
      | 0=>{a with reg:=(id,zbS x nt 0 id m)::a.reg}
      | 1=>match lk x.unr id with
        | some n=>{a with unr:=(id,n,zbS x nt 1 id m)::a.unr}
        | none=>{a with head:=(id,zbS x nt 1 id m)::a.head}
      | _=>match x.cut.contains id with
        | true=>{a with cut:=(id,zbS x nt 2 id m)::a.cut}
        | false=>a
def zxa:List ResultVar→List Nat|[]=>[]|.tmp t::r=>t::zxa r|.cell t _::r=>t::zxa r
def bP(P:Program)(f:Nat)(xt:List Nat)(x:Ext):dG:=match P.funcs[f]? with
 | some fn=>match fn.body with
  | some c=>match orL 0 (xt++zxa fn.results.toList)with|m=>zFK x fn.ntmps (lvC c m m []).2 ⟨fn.ntmps,[],[],[],[],x.yl,x.pan⟩
  | none=>⟨0,[],[],[],[],[],[]⟩
 | none=>⟨0,[],[],[],[],[],[]⟩
section
variable(P:Program)(N:Nat)(Γ:bI){ρ:Type}
def VU(aQ:dG)(f:FuncId)(n:Nat)(g:Code->Bool)(σ:St)(fin:Func->St->Option ρ):ae ρ :=
 match P.funcs[f]? with
 | some fn=>match fn.body with
  | some c=>match Nat.beq aQ.nt fn.ntmps&&Nat.ble n aQ.nt&&g c with
   | true=>(vcC P Γ N aQ c σ).bind λ(e,s)=>match e with|.normal=>.opt (fin fn s)|.ret=>.opt (fin fn s)|_=>.no
   | false=>.no
  | none=>.no
 | none=>.no
def aF(aQ:dG)(f:FuncId)(args:List PA):ae (List PA) :=
 VU P N Γ aQ f args.length (λ_=>true) ⟨jd 0 args,[],[]⟩ λfn s=>kK P s fn.results.toList
def VV(fn:Func)(e s b:Nat)(σ:St):Option (Nat×(Nat->List PV)×List PV) :=
 match fn.results.toList with
 | .tmp t::r=>match lk σ.env t with
  | some (.one (.c (.vec L)))=>match lk σ.aB L with
   | some (.vec e' s' b' n get)=>match Nat.beq e e'&&(Nat.beq s s'&&Nat.beq b b'),r with
    | true,[]=>some (n,get,[])
    | true,[.tmp u]=>match lk σ.env u with|some (.one (.c (.p x)))=>some (n,get,[x])|_=>none
    | _,_=>none
   | _=>none
  | _=>none
 | _=>none
def aK(aQ:dG)(f:FuncId)(e s b:Nat)(args:List PA):ae (Nat×(Nat->List PV)×List PV) :=
 VU P N Γ aQ f args.length (λ_=>true) ⟨jd 0 args,[],[]⟩ λfn σ=>VV fn e s b σ
def zh1(aQ:dG)(f:FuncId)(n:Nat)(g:Code->Bool)(σ:St)(fin:Func->Exit->St->Option ρ):ae ρ :=
 match P.funcs[f]? with
 | some fn=>match fn.body with
  | some c=>match Nat.beq aQ.nt fn.ntmps&&Nat.ble n aQ.nt&&g c with|true=>(vcC P Γ N aQ c σ).bind λr=>.opt (fin fn r.1 r.2)|false=>.no
  | none=>.no
 | none=>.no
def zbT(xs:List XA)(fn:Func)(σ:St):Option (List PA×List XA) :=
 match Dq P σ fn.results.toList with
 | some (l,u)=>match LD (Bj σ.env xs) (lk (u++σ.aB)) σ.env 0 xs with
  | some (ys,ls)=>match lY ls,EW l with|true,none=>some (l,ys)|_,_=>none
  | none=>none
 | none=>none
def zh2(xs:List XA)(ch:List PanicEntry)(σ:St):Option (List PA×List XA) :=
 match chR ch with
 | some l=>match LD (Bj σ.env xs) (lk σ.aB) σ.env 0 xs with
  | some (ys,ls)=>match lY ls with|true=>some (l,ys)|false=>none
  | none=>none
 | none=>none
def zxb(xs:List XA)(fn:Func):Exit→St→Option (List PA×List XA)|.normal,σ=>zbT P xs fn σ|.ret,σ=>zbT P xs fn σ|.panic ch,σ=>zh2 xs ch σ|_,_=>none
def aM(aQ:dG)(f:FuncId)(xs:List XA):ae (List PA×List XA) :=
 zh1 P N Γ aQ f xs.length (λc=>lY ((iP 0 xs).map (·.1))&&yL (wz 0 xs) xs&&nM (wz 0 xs) (eu c)) ⟨Lt 0 xs,iP 0 xs,[]⟩ (zxb P xs)
end
section
variable [aH]{P:Program}{N:Nat}{Γ:bI}
theorem RF{ρ:Type}{aQ:dG}{f:FuncId}{n:Nat}{g:Code→Bool}{σ:St}{fin:Func→St→Option ρ}{r:ρ}(h:(VU P N Γ aQ f n g σ fin).o=some r) :
  ∃fn c,P.funcs[f]? = some fn/\fn.body=some c/\(Nat.beq aQ.nt fn.ntmps&&Nat.ble n aQ.nt)=true/\g c=true/\∀K:Exit->St->Prop,(∀s,fin fn s=some r->K .normal s/\K .ret s)->vc P Γ aQ c K σ:=by
 unfold VU at h;split at h;rename_i fn sU;split at h;rename_i c hb;split at h
 ·rename_i hc;rw[gz]at hc;obtain⟨⟨e,s⟩,h1,h2⟩:=ae.bind_o h;refine⟨fn,c,sU,hb,hc.1,hc.2,λK hK=>Rz c σ s e K h1 ?_⟩;cases e with|normal=>exact(hK s (ae.opt_o h2)).1|ret=>exact(hK s (ae.opt_o h2)).2|_=>exact(ae.no_o h2).elim
 exact(ae.no_o h).elim;exact(ae.no_o h).elim;exact(ae.no_o h).elim
theorem zFL{aQ:dG}{f:FuncId}{args rs:List PA}(h:(aF P N Γ aQ f args).o=some rs):vcFun P Γ aQ f args λQr=>Qr=rs:=by
 obtain⟨fn,c,h1,h2,h3,_,h4⟩:=RF h;unfold vcFun;rw[h1];simp only[h2,h3];refine h4 _ λs hs=>?_;constructor<;>simp only[zgF,AY,hs]
theorem zFM{aQ:dG}{f:FuncId}{e s b n:Nat}{get:Nat->List PV}{rs:List PV}{args:List PA}(h:(aK P N Γ aQ f e s b args).o=some (n,get,rs)):za0 P Γ aQ f args e s b (Zf n s get rs):=by
 obtain⟨fn,c,h1,h2,h3,_,h4⟩:=RF h;unfold za0;rw[h1];simp only[h2,h3];refine h4 _ λσ hs=>?_;have:O0 fn e s b (Zf n s get rs) σ:=by
  unfold VV at hs;unfold O0;split at hs;rename_i t r hr;split at hs;rename_i L hL;split at hs;rename_i e' s' b' m g hO;split at hs;rename_i hc;cases hs;rw[hr];simp only[hL,hO,hc];rfl;rename_i u hc;split at hs;rename_i x hu;cases hs;rw[hr];simp only[hL,hO,hc,hu];rfl;cases hs;cases hs;cases hs;cases hs;cases hs
 exact⟨this,this⟩
theorem znR{ρ:Type}{aQ:dG}{f:FuncId}{n:Nat}{g:Code→Bool}{σ:St}{fin:Func→Exit→St→Option ρ}{r:ρ}(h:(zh1 P N Γ aQ f n g σ fin).o=some r) :
  ∃fn c,P.funcs[f]? = some fn/\fn.body=some c/\(Nat.beq aQ.nt fn.ntmps&&Nat.ble n aQ.nt)=true/\g c=true/\∀K:Exit->St->Prop,(∀e s,fin fn e s=some r->K e s)->vc P Γ aQ c K σ:=by
 unfold zh1 at h;split at h;rename_i fn sU;split at h;rename_i c hb;split at h;rename_i hc;rw[gz]at hc;obtain⟨⟨e,s⟩,h1,h2⟩:=ae.bind_o h;exact⟨fn,c,sU,hb,hc.1,hc.2,λK hK=>Rz c σ s e K h1 (hK e s (ae.opt_o h2))⟩;exact(ae.no_o h).elim;exact(ae.no_o h).elim;exact(ae.no_o h).elim
theorem zFN{aQ:dG}{f:FuncId}{xs ys:List XA}{rs:List PA}(h:(aM P N Γ aQ f xs).o=some (rs,ys)):VJ P Γ aQ f xs λl zs=>l=rs/\zs=ys:=by
 obtain⟨fn,c,h1,h2,h3,h0,h4⟩:=znR h;unfold VJ;rw[h1];simp only[gz]at h0 h3;simp only[h2,h3.1,h3.2,h0.1.1,h0.1.2,h0.2,qjW];refine h4 _ λe σ hs=>?_;have nr:zbT P xs fn σ=some (rs,ys)->U0 P fn xs (λl zs=>l=rs/\zs=ys) σ:=λhs=>by
  unfold zbT at hs;unfold U0;split at hs;rename_i l u hr;split at hs;rename_i zs ls ho;split at hs;rename_i hn hp;cases hs;simp only[hr,ho,hn,hp,and_self];cases hs;cases hs;cases hs
 cases e with
 | normal=>exact nr hs
 | ret=>exact nr hs
 | panic ch =>
  have hs:zh2 xs ch σ=some (rs,ys):=hs;show zhM xs (λl zs=>l=rs/\zs=ys) ch σ;unfold zh2 at hs;unfold zhM;split at hs;rename_i l hr;split at hs;rename_i zs ls ho;split at hs;rename_i hn;cases hs;simp only[hr,ho,hn,and_self];cases hs;cases hs;cases hs
 | _=>cases hs
end
structure Tabs where
  fn:List (Nat×(List PA->ae (List PA)))
  own:List (Nat×ES)
  it:List (Nat×(List PA->ae (List (List PA))))
  mt:List (Nat×Option MK)
  cf:List (Nat×(List PA->ae (List PA)))
def VW{α:Type _}(d:α):List (Nat×α)→Nat→α
  | [],_=>d
  | (k,c)::r,f=>match Nat.beq k f with|true=>c|false=>VW d r f
def gq(T:Tabs)(vv:List Nat):bI:=⟨VW (λ_=>.no) T.fn,VW ES.none T.own,VW (λ_=>.no) T.it,λt=>vv.contains t,VW none T.mt,VW (λ_=>.no) T.cf⟩
def Tabs.nil:Tabs:=⟨[],[],[],[],[]⟩
def Tabs.addF(T:Tabs)(f:Nat)(c:List PA->ae (List PA)):Tabs:=⟨(f,c)::T.fn,T.own,T.it,T.mt,T.cf⟩
def Tabs.addO(T:Tabs)(f:Nat)(c:ES):Tabs:=⟨T.fn,(f,c)::T.own,T.it,T.mt,T.cf⟩
def Tabs.addI(T:Tabs)(f:Nat)(c:List PA->ae (List (List PA))):Tabs:=⟨T.fn,T.own,(f,c)::T.it,T.mt,T.cf⟩
def Tabs.addM(T:Tabs)(f:Nat)(c:MK):Tabs:=⟨T.fn,T.own,T.it,(f,some c)::T.mt,T.cf⟩
def Tabs.addN(T:Tabs):List Nat→Tabs|[]=>T|f::r=>(T.addM f λ_=>.no).addN r
def Tabs.addC(T:Tabs)(f:Nat)(c:List PA->ae (List PA)):Tabs:=⟨T.fn,T.own,T.it,T.mt,(f,c)::T.cf⟩
variable [aH]
structure ay (P : Program) (T : Tabs) : Prop where
  fn:∀x∈T.fn,Ok P x.1 x.2
  own:∀x∈T.own,fU P x.1 x.2
  it:∀x∈T.it,zT P x.1 x.2
  mt:∀x∈T.mt,∀C,x.2=some C->qN P x.1 C
  cf:∀x∈T.cf,@Ok ⟨1⟩ P x.1 x.2
theorem all_cons{α:Type _}{p:α->Prop}{a:α}{l:List α}(h:∀x∈l,p x)(ha:p a):∀x∈a::l,p x:=λx hx=>(kF.1 hx).elim (λe=>e▸ha) (h x)
section
variable{P:Program}{T:Tabs}{f:Nat}
theorem ay.nil:ay P .nil:=⟨λ_ h=>(by cases h),λ_ h=>(by cases h),λ_ h=>(by cases h),λ_ h=>(by cases h),λ_ h=>(by cases h)⟩
theorem ay.addF(h:ay P T){c:List PA->ae (List PA)}(hc:Ok P f c):ay P (T.addF f c):=⟨all_cons h.fn hc,h.own,h.it,h.mt,h.cf⟩
theorem ay.addO(h:ay P T){c:ES}(hc:fU P f c):ay P (T.addO f c):=⟨h.fn,all_cons h.own hc,h.it,h.mt,h.cf⟩
theorem ay.addI(h:ay P T){c:List PA->ae (List (List PA))}(hc:zT P f c):ay P (T.addI f c):=⟨h.fn,h.own,all_cons h.it hc,h.mt,h.cf⟩
theorem ay.addM(h:ay P T){c:MK}(hc:qN P f c):ay P (T.addM f c):=⟨h.fn,h.own,h.it,all_cons h.mt λ_ e=>by cases e;exact hc,h.cf⟩
theorem ay.addC(h:ay P T){c:List PA->ae (List PA)}(hc : @Ok ⟨1⟩ P f c):ay P (T.addC f c):=⟨h.fn,h.own,h.it,h.mt,all_cons h.cf hc⟩
theorem ay.addN:∀{l:List Nat}{T:Tabs},ay P T→ay P (T.addN l)|[],_,h=>h|_::_,_,h=>(h.addM λ_ _ _ h=>(ae.no_o h).elim).addN
theorem zA{α:Type _}{p:Nat→α→Prop}{d:α}(hd:p f d):∀{l:List (Nat×α)},(∀x∈l,p x.1 x.2)→p f (VW d l f)
  | [],_=>hd
  | (k,c)::l,h=>by
    simp only[VW];split;rename_i e;have:=h (k,c) kQ;rw[<- kP e];exact this;exact zA hd λx hx=>h x (jS _ hx)
theorem ay.all(h:ay P T)(vv:List Nat):jk P (gq T vv) :=
 ⟨λf C hC=>zA (p:=λf o=>∀C,o=some C->qN P f C) (λ_ e=>by cases e) (λx hx C e=>h.mt x hx C e) C hC,λf=>zA (p:=λf c=>Ok P f c) (λ_ _ h=>(ae.no_o h).elim) λx hx=>h.fn x hx,
  λf=>zA (p:=λf c=>fU P f c) (d:=.none) trivial λx hx=>h.own x hx,λf=>zA (p:=λf c=>zT P f c) (λ_ _ h=>(ae.no_o h).elim) λx hx=>h.it x hx,
  λf=>zA (p:=λf c=>@Ok ⟨1⟩ P f c) (λ_ _ h=>(ae.no_o h).elim) λx hx=>h.cf x hx⟩
theorem wF(h:ay P T)(hc:dm P f){N:Nat}{vv:List Nat}{aQ:dG}:Ok P f (aF P N (gq T vv) aQ f) :=
 zhH (h.all vv) hc λargs rs h=>⟨_,aQ,zFL h⟩
theorem RG(h:ay P T)(hc:dm P f){N e s b:Nat}{vv:List Nat}{aQ:dG}:fU P f (.mkv e s b (aK P N (gq T vv) aQ f e s b)) :=
 zd7 (h.all vv) hc λargs n get rs h=>⟨_,aQ,zFM h⟩
theorem Zj(h:ay P T)(hc:dm P f){N:Nat}{vv:List Nat}{aQ:List XA->dG}:qN P f (λxs=>aM P N (gq T vv) (aQ xs) f xs) :=
 zd8 (h.all vv) hc λxs rs ys h=>⟨_,aQ xs,zFN h⟩
theorem LK(h:ay P T)(hc:dm P f){N:Nat}{vv:List Nat}{aQ:dG}:zT P f (λcaps=>.opt (aI P (gq T vv) N aQ f caps)) :=
 zhL (h.all vv) hc λcaps ys h=>⟨_,aQ,zFI (ae.opt_o h)⟩
def zxc(P:Program)(N:Nat)(T:Tabs)(x:Ext)(f:Nat):Nat→MK|0=>λ_=>.no|n+1=>λxs=>aM P N (gq ((T.addM f (zxc P N T x f n)).addN x.clo) x.vv) (bP P f (wz 0 xs) x) f xs
theorem VX(h:ay P T)(hc:dm P f){N:Nat}{x:Ext}:∀n,qN P f (zxc P N T x f n)|0=>λ_ _ _ h=>(ae.no_o h).elim|n+1=>Zj (h.addM (VX h hc n)).addN hc
def ae.ty{δ ρ:Type}[dE δ][dE ρ](C:List PA->ae (List PA))(x:δ):ae ρ:=(C (dE.enc x)).bind λl=>.chk (dE.ck (α:=ρ) l) (.ok (dE.dec l))
def ae.un{δ ρ:Type}[dE δ][dE ρ](F:δ->ae ρ)(args:List PA):ae (List PA):=.chk (dE.ck (α:=δ) args) ((F (dE.dec args)).mp dE.enc)
theorem ztT{δ ρ:Type}[dE δ][dE ρ]{C:List PA->ae (List PA)}(h:Ok P f C):Ok P f (ae.un (ae.ty C:δ->ae ρ)):=by
 intro args rs hr w h0 vs jE hw;obtain⟨h1,h2⟩:=ae.chk_o hr;obtain⟨r,h3,h4⟩:=ae.mp_o h2;obtain⟨l,h5,h6⟩:=ae.bind_o h3;obtain⟨h7,h8⟩:=ae.chk_o h6;have h8:=ae.ok_o h8;subst h4 h8;obtain⟨hc,h9⟩:=h _ _ h5 w h0 vs (dE.up jE h1) hw;refine⟨hc,h9.mono ?_⟩;rintro e w' ⟨h',v,he,hv,r⟩;exact⟨h',v,he,Jb (λvs jE=>dE.up jE h7) hv,r⟩
def znS{δ ρ:Type}[dE δ][dE ρ](C:List PA->ae (List PA))(y:δ×ρ):Bool:=match(C (dE.enc y.1)).o with|some l=>dE.ck (α:=ρ) l&&dE.eq (dE.dec l) y.2|none=>false
def zh3{δ ρ:Type}[dE δ][dE ρ](y:δ×ρ)(C:List PA->ae (List PA))(args:List PA):ae (List PA):=match dE.ck (α:=δ) args&&dE.eq (dE.dec args) y.1 with|true=>.ok (dE.enc y.2)|false=>C args
theorem znT{δ ρ:Type}[dE δ][dE ρ]{C:List PA->ae (List PA)}(h:Ok P f C){y:δ×ρ}(hy:znS C y=true):Ok P f (zh3 y C):=by
 intro args rs hr w h0 vs jE hw;unfold zh3 at hr;split at hr;rename_i hc;rw[gz]at hc;cases ae.ok_o hr;unfold znS at hy;split at hy;rename_i l hl;rw[gz]at hy;obtain⟨h1,h2⟩:=h _ _ hl w h0 vs (dE.eqk hc.2 (dE.up jE hc.1)) hw;refine⟨h1,h2.mono ?_⟩;rintro e w' ⟨h',v,he,hv,r⟩;exact⟨h',v,he,Jb (λvs jE=>dE.eqk hy.2 (dE.up jE hy.1)) hv,r⟩;cases hy;exact h _ _ hr w h0 vs jE hw
def Tabs.memo{δ ρ:Type}[dE δ][dE ρ](T:Tabs)(f:Nat)(y:δ×ρ):Tabs:=T.addF f (zh3 y ((gq T []).fn f))
theorem ay.memo{δ ρ:Type}[dE δ][dE ρ](h:ay P T){y:δ×ρ}(hy:znS ((gq T []).fn f) y=true):ay P (T.memo f y):=h.addF (znT ((h.all []).fn f) hy)
def Sl.of{α:Type}[Inhabited α](l:List α):Sl α:=⟨l.length,λi=>l.getD i default⟩
inductive Ent where
  | f (f:Nat) (x:Ext)
  | k (f e s b:Nat) (x:Ext)
  | m (f:Nat) (x:Ext)
  | r (f n:Nat) (x:Ext)
  | i (f:Nat) (x:Ext)
def Ent.fn:Ent→Nat|.f f _=>f|.k f _ _ _ _=>f|.m f _=>f|.r f _ _=>f|.i f _=>f
def zFO(P:Program)(N:Nat)(T:Tabs):Ent→Tabs|.f f x=>T.addF f (aF P N (gq (T.addN x.clo) x.vv) (bP P f [] x) f)|.k f e s b x=>T.addO f (.mkv e s b (aK P N (gq (T.addN x.clo) x.vv) (bP P f [] x) f e s b))|.m f x=>T.addM f λxs=>aM P N (gq (T.addN x.clo) x.vv) (bP P f (wz 0 xs) x) f xs|.r f n x=>T.addM f (zxc P N T x f n)|.i f x=>T.addI f λcaps=>.opt (aI P (gq (T.addN x.clo) x.vv) N (bP P f [0] x) f caps)
def nT(P:Program)(N:Nat)(T:Tabs)(l:List Ent):Tabs:=l.foldl (zFO P N) T
def VY(P:Program)(f:Nat):Bool:=match P.funcs[f]? with
 | some fn => fn.body.isSome && !(fn.name == "runtime.NumGoroutine")
 | none=>false
theorem dJ(h:VY P f=true):dm P f:=by
 unfold VY at h;split at h;rename_i fn hf;rw[gz,N8]at h;exact⟨fn,hf,h.1,h.2⟩;cases h
theorem znU{N:Nat}(h:ay P T){e:Ent}(hc:VY P e.fn=true):ay P (zFO P N T e):=by
 cases e with|f f x=>exact h.addF (wF h.addN (dJ hc))|k f e s b x=>exact h.addO (RG h.addN (dJ hc))|m f x=>exact h.addM (Zj h.addN (dJ hc))|r f n x=>exact h.addM (VX h (dJ hc) n)|i f x=>exact h.addI (LK h.addN (dJ hc))
theorem eG {N : Nat} : ∀ {l : List Ent} {T : Tabs}, ay P T → (l.all fun e => VY P e.fn) = true → ay P (nT P N T l)
  | [],_,h,_=>h
  | e::l,_,h,hc=>by
    rw[qd0,gz]at hc;exact eG (l:=l) (znU h hc.1) hc.2
end
theorem zh4{P:Program}{T:Tabs}{f:Nat}(h : @ay ⟨1⟩ P T)(hc:dm P f){N:Nat}{vv:List Nat}{aQ:dG} : @Ok ⟨1⟩ P f (aF P N (gq T vv) aQ f):=@wF ⟨1⟩ P T f h hc N vv aQ
end Go.Pm
namespace Go.Pm
section
variable(P:Program)(Γ:bI){A:Type}(N:Nat)
inductive znV where
  | n (n:Nat)
  | y (l:List (List PA))
  | o (i:Nat)
def atT(aQ:dG):Code→List Nat→List znV→EK A→St→Option A
  | .seq a b,0::p,r,K=>atT aQ a p r (sqT P aQ (jF b) (xM P Γ N aQ b) K)
  | .seq _ b,_::p,r,K=>atT aQ b p r K
  | .cond _ a _,0::p,r,K=>atT aQ a p r K
  | .cond _ _ b,_::p,r,K=>atT aQ b p r K
  | .block id b,_::p,r,K=>atT aQ b p r (bkT id K)
  | .scope b,_::p,r,K=>atT aQ b p r (scT K)
  | .loop b,_::p,.n n::r,K=>match lk aQ.head (jF b)with|some k=>atT aQ b p r (lpK P k (lpT P k (xM P Γ N aQ b) K n) K)|none=>λ_=>none
  | .loop b,[],.n n::_,K=>match lk aQ.head (jF b)with|some k=>lpT P k (xM P Γ N aQ b) K n|none=>λ_=>none
  | .rangeFunc _ ps ah bd,_::p,.y l::r,K=>match lk aQ.head (Yy ah bd)with|some k=>atT aQ bd p r (rgK P k (nM [Gw] (eu ah++eu bd)) (rgT P k (nM [Gw] (eu ah++eu bd)) ps.toList (xM P Γ N aQ ah) (xM P Γ N aQ bd) K l) K)|none=>λ_=>none
  | .rangeFunc _ ps ah bd,[],.y l::_,K=>match lk aQ.head (Yy ah bd)with|some k=>rgT P k (nM [Gw] (eu ah++eu bd)) ps.toList (xM P Γ N aQ ah) (xM P Γ N aQ bd) K l|none=>λ_=>none
  | .region id ops draw,[],.o i::_,K=>opsT P Γ aQ.nt ops (VS P aQ id ops draw (K .normal)) i (ops.toList.drop i)
  | c,[],_,K=>xM P Γ N aQ c K
  | _,_,_,_=>λ_=>none
def znW(fin:St->Option (List PA))(K:List PA->Option A):EK A:=λe s=>match e with
 | .normal=>match fin s with|some r=>K r|none=>none
 | .ret=>match fin s with|some r=>K r|none=>none
 | _=>none
def gW{ρ:Type}[aH][dE ρ](k:ρ->Option A)(l:List PA):Option A:=match dE.ck (α:=ρ) l with|true=>k (dE.dec l)|false=>none
def runT(aQ:dG)(f:FuncId)(K:List PA->Option A)(args:List PA):Option A :=
 match P.funcs[f]? with
 | some fn=>match fn.body with
  | some c=>match Nat.beq aQ.nt fn.ntmps&&Nat.ble args.length aQ.nt&&true with|true=>xM P Γ N aQ c (znW (λs=>kK P s fn.results.toList) K) ⟨jd 0 args,[],[]⟩|false=>none
  | none=>none
 | none=>none
def gX(aQ:dG)(f:FuncId)(p:List Nat)(r:List znV)(K:List PA->Option A)(σ:St):Option A :=
 match P.funcs[f]? with
 | some fn=>match fn.body with|some c=>atT P Γ N aQ c p r (znW (λs=>kK P s fn.results.toList) K) σ|none=>none
 | none=>none
end
section
variable{P:Program}{Γ:bI}{A:Type}{N:Nat}
theorem runT_eq{aQ:dG}{f:FuncId}{K:List PA->Option A}{args:List PA}:(aF P N Γ aQ f args).T K=runT P Γ N aQ f K args:=by
 unfold aF VU runT;cases P.funcs[f]? with
 | none=>rfl
 | some fn =>
  simp only;cases fn.body with
  | none=>rfl
  | some c =>
   simp only;cases Nat.beq aQ.nt fn.ntmps&&Nat.ble args.length aQ.nt&&true with
   | false=>rfl
   | true =>
    simp only;rw[LH];show(vcC P Γ N aQ c _).T _=(vcC P Γ N aQ c _).T _;congr 1;funext r;obtain⟨e,s⟩:=r;cases e with|normal=>simp only[znW,ae.opt];cases kK P s fn.results.toList<;>rfl|ret=>simp only[znW,ae.opt];cases kK P s fn.results.toList<;>rfl|_=>rfl
theorem zPY [aH]{δ ρ:Type}[dE δ][dE ρ]{aQ:dG}{f:FuncId}{x:δ}{k:ρ->Option A}:(ae.ty (aF P N Γ aQ f) x:ae ρ).T k=runT P Γ N aQ f (gW k) (dE.enc x):=by
 rw[<- runT_eq];show(aF P N Γ aQ f (dE.enc x)).T _=_;congr 1
end
instance : bG Unit where
  enc _:=[]
  dec l:=((),l)
  ck l:=some l
  le:=by
    intro l r _ h;cases h;exact⟨[],rfl,rfl,trivial⟩
  inv:=by
    intro l m r h hc;cases hc;exact⟨m,rfl,h⟩
  sm _ _:=trivial
  eq _ _:=true
  eqk _:=trivial
structure dY (f : Nat) (α β : Type) where
  a:α
  v:β
theorem zh6{l m:List PV}(e:RL o6 l m)(k:Nat)(x y:PV)(hx:l[k]? = some x)(hy:m[k]? = some y):o6 x y:=by
 obtain⟨z,hz,r⟩:=RL.get e k x hx;rw[hy]at hz;cases hz;exact r
theorem ztU{h:Fz}{f:FuncId}{a b l m:List PV}{v:Value}(e0:RL o6 a b)(e:RL o6 l m)(r:Rep h (.fn f a l) v):Rep h (.fn f b m) v :=
 @Rep.up ⟨0⟩ _ _ _ (.fn f a b l m e0.length (zh6 e0) e.length (zh6 e)) _ r
theorem ztV{h:Fz}{f:FuncId}{a l:List PV}{v:Value}(r:Rep h (.fn f a l) v):RS a a/\RS l l:=by
 letI:aH:=⟨0⟩;cases r with
 | fn _ _ _ fv cv h1 h2 hf hc =>
  refine⟨RL.of_get rfl λj a b ha hb=>?_,RL.of_get rfl λj a b ha hb=>?_⟩;rw [ha]at hb;cases hb;obtain⟨w,hw⟩:=ou h1 ha;exact(hf j a w ha hw).un;rw [ha]at hb;cases hb;obtain⟨w,hw⟩:=ou h2 ha;exact(hc j a w ha hw).un
instance {f : Nat} {α β : Type} [bG α] [bG β] : iQ (dY f α β) where
  enc x:=.one (.fn f (bG.enc x.a) (bG.enc x.v))
  dec a:=match a with | .one (.fn _ k l)=>⟨(bG.dec k).1,(bG.dec l).1⟩|_=>⟨(bG.dec []).1,(bG.dec []).1⟩
  ck a:=match a with | .one (.fn g k l)=>Nat.beq g f&&(OY (bG.ck (α:=α) k)&&OY (bG.ck (α:=β) l))|_=>false
  up:=by
    intro h a v r hc
    match a,r,hc with
    | .one (.fn g k l),r,hc =>
      simp only[Bool.and_eq_true]at hc;have e:=Nat.eq_of_beq_eq_true hc.1;subst e;have r:Rep h (.fn g k l) v:=r;exact ztU (nK (α:=α) (g:=λ_=>k) (λ_ _=>(ztV r).1) hc.2.1 0) (nK (α:=β) (g:=λ_=>l) (λ_ _=>(ztV r).2) hc.2.2 0) r
  eq a b:=bG.eq a.a b.a&&bG.eq a.v b.v
  eqk:=by
    intro h a b v he r;rw[Bool.and_eq_true]at he;exact ztU (bG.eqk he.1) (bG.eqk he.2) r
instance {α β : Type} [iQ α] [iQ β] : iQ (α ⊕ β) where
  enc x:=match x with | .inl x=>iQ.enc x | .inr x=>iQ.enc x
  dec a:=match iQ.ck (α:=α) a with|true=>.inl (iQ.dec a)|false=>.inr (iQ.dec a)
  ck a:=iQ.ck (α:=α) a||iQ.ck (α:=β) a
  up:=by
    intro h a v r hc;cases hb:iQ.ck (α:=α) a with|true=>exact iQ.up r hb|false=>rw[hb]at hc;exact iQ.up r hc
  eq a b:=match a,b with | .inl a,.inl b=>iQ.eq a b | .inr a,.inr b=>iQ.eq a b|_,_=>false
  eqk:=by
    intro h a b v he r
    match a,b,he with|.inl a,.inl b,he=>exact iQ.eqk he r|.inr a,.inr b,he=>exact iQ.eqk he r
/-! Functions that hand back nothing but an error, or a pointer. -/
section
variable{α β τ A:Type}
def zec(r:α ⊕ β)(f:α->Option A)(g:β->Option A):Option A:=match r with|.inl a=>f a|.inr b=>g b
def ae.alt(r:α ⊕ β)(f:α->ae τ)(g:β->ae τ):ae τ:=⟨λk=>zec r (λa=>(f a).T k) (λb=>(g b).T k),λk=>by
 cases r with|inl a=>exact(f a).nat k|inr b=>exact(g b).nat k⟩
variable [aH]{δ ε ρ:Type}[dE δ][dE ε][dE ρ]
def zh7(k:ε ⊕ ρ→Option A):List PA→Option A
  | .one .nilp::r=>match dE.ck (α:=ε) r with|true=>k (.inl (dE.dec r))|false=>none
  | l=>match dE.ck (α:=ρ) l with|true=>k (.inr (dE.dec l))|false=>none
def zxd:List PA→ae (ε ⊕ ρ)|.one .nilp::r=>.chk (dE.ck (α:=ε) r) (.ok (.inl (dE.dec r)))|l=>.chk (dE.ck (α:=ρ) l) (.ok (.inr (dE.dec l)))
def ae.tyA(C:List PA->ae (List PA))(x:δ):ae (ε ⊕ ρ):=(C (dE.enc x)).bind zxd
def ae.unA(F:δ->ae (ε ⊕ ρ))(args:List PA):ae (List PA):=.chk (dE.ck (α:=δ) args) ((F (dE.dec args)).bind λr=>.alt r (λe=>.ok (.one .nilp::dE.enc e)) λp=>.ok (dE.enc p))
theorem zh8{P:Program}{f:FuncId}{C:List PA->ae (List PA)}(h:Ok P f C):Ok P f (ae.unA (ae.tyA C:δ->ae (ε ⊕ ρ))):=by
 intro args rs hr w h0 vs jE hw;obtain⟨h1,h2⟩:=ae.chk_o hr;obtain⟨r,h3,h4⟩:=ae.bind_o h2;obtain⟨l,h5,h6⟩:=ae.bind_o h3;obtain⟨hc,h9⟩:=h _ _ h5 w h0 vs (dE.up jE h1) hw;have fin:∀(h':Fz)(v:Value),qg h' l v->qg h' rs v:=by
  intro h' v hv;unfold zxd at h6;split at h6
  ·obtain ⟨h7, h8⟩ := ae.chk_o h6;have h8:=ae.ok_o h8;subst h8;cases ae.ok_o h4;refine Jb (λ vs jE=>?_) hv
   match vs,jE with|v::vs,jE=>exact⟨jE.1,dE.up jE.2 h7⟩|[],jE=>exact jE.elim
  obtain⟨h7,h8⟩:=ae.chk_o h6;have h8:=ae.ok_o h8;subst h8;cases ae.ok_o h4;exact Jb (λvs jE=>dE.up jE h7) hv
 refine⟨hc,h9.mono ?_⟩;rintro e w' ⟨h',v,he,hv,r⟩;exact⟨h',v,he,fin h' v hv,r⟩
theorem ztW{P:Program}{Γ:bI}{N:Nat}{aQ:dG}{f:FuncId}{x:δ}{k:ε ⊕ ρ->Option A}:(ae.tyA (aF P N Γ aQ f) x:ae (ε ⊕ ρ)).T k=runT P Γ N aQ f (zh7 k) (dE.enc x):=by
 rw[<- runT_eq];show(aF P N Γ aQ f (dE.enc x)).T _=_;congr 1;funext l;unfold zxd zh7;split;cases dE.ck (α:=ε) _<;>rfl;cases dE.ck (α:=ρ) l<;>rfl
end
/-! Iterators. -/
def ae.tyI [aH]{δ ε:Type}[dE δ][dE ε](C:List PA->ae (List (List PA)))(x:δ):ae (List ε):=(C (dE.enc x)).bind λl=>.chk (l.all (dE.ck (α:=ε))) (.ok (l.map dE.dec))
def ae.unI [aH]{δ ε:Type}[dE δ][dE ε](I:δ->ae (List ε))(caps:List PA):ae (List (List PA)):=.chk (dE.ck (α:=δ) caps) ((I (dE.dec caps)).mp (List.map dE.enc))
theorem RH [aH]{P:Program}{f:FuncId}{δ ε:Type}[dE δ][dE ε]{C:List PA->ae (List (List PA))}(h:zT P f C):zT P f (ae.unI (ae.tyI C:δ->ae (List ε))):=by
  intro caps ys hr l J Jx Rp w h0 vs sJ sX hy hj jE hw;obtain⟨h1,h2⟩:=ae.chk_o hr;obtain⟨r,h3,h4⟩:=ae.mp_o h2;obtain⟨ls,h5,h6⟩:=ae.bind_o h3;obtain⟨h7,h8⟩:=ae.chk_o h6;have h8:=ae.ok_o h8;subst h8 h4
  obtain ⟨hc, h9⟩ := h _ _ h5 l (fun ys h W => ys.all (dE.ck (α := ε)) = true ∧ J ((ys.map (dE.dec (α := ε))).map dE.enc) h W)
    (λys h W=>Jx ((ys.map (dE.dec (α:=ε))).map dE.enc) h W) Rp w h0 vs
    (λys h W h' W' a b c d e=>⟨a.1,sJ _ _ _ _ _ a.2 b c d e⟩) (λys h W h' W' a b c d e=>sX _ _ _ _ _ a b c d e)
    (λy rest h W us hJ hu hW n=>by
      obtain⟨hk,hJ⟩:=hJ;rw[qd0,gz]at hk;obtain⟨fn,tmps,ah,bd,e1,e2⟩:=hy _ _ _ _ _ hJ (dE.up hu hk.1) hW n;refine⟨fn,tmps,ah,bd,e1,e2.mono ?_⟩;rintro e W' (⟨h',a,b,c|c⟩|c);exact .inl ⟨h',a,b,.inl ⟨c.1,hk.2,c.2⟩⟩;exact .inl ⟨h',a,b,.inr c⟩;exact .inr c)
    ⟨h7,hj⟩ (dE.up jE h1) hw
  refine⟨hc,h9.mono ?_⟩;rintro e W' (⟨v,h',a,b,c,d⟩|c)
  rotate_left
  exact .inr c;refine .inl ⟨v,h',a,b,c,?_⟩;rcases d with d|⟨rest,d⟩
  exact .inl d.2;exact .inr ⟨_,d⟩
section
variable(P:Program)(Γ:bI)(N:Nat)
def atY(aQ:dG):Code→List Nat→List Nat→Ui→Bool→St→YO
  | .seq a b,0::p,r,K=>atY aQ a p r (skY P aQ (jF b) (uQ P Γ N aQ b) K)
  | .seq _ b,_::p,r,K=>atY aQ b p r K
  | .cond _ a _,0::p,r,K=>atY aQ a p r K
  | .cond _ _ b,_::p,r,K=>atY aQ b p r K
  | .block id b,_::p,r,K=>atY aQ b p r (bkY id K)
  | .scope b,_::p,r,K=>atY aQ b p r (zFG K)
  | .loop b,_::p,n::r,K=>match lk aQ.head (jF b)with|some k=>atY aQ b p r (lkY P k (zh0 P k (uQ P Γ N aQ b) K n) K)|none=>λ_ _=>none
  | .loop b,[],n::_,K=>match lk aQ.head (jF b)with|some k=>zh0 P k (uQ P Γ N aQ b) K n|none=>λ_ _=>none
  | c,[],_,K=>uQ P Γ N aQ c K
  | _,_,_,_=>λ_ _=>none
def ptY(aQ:dG)(f:FuncId)(p r:List Nat)(σ:St):YO :=
 match P.funcs[f]? with
 | some fn=>match fn.body with|some c=>atY P Γ N aQ c p r ztR false σ|none=>none
 | none=>none
end
/-! Data in states. -/
def eP [aH]{α:Type}[iQ α](x:α):DV:=.one (IM (iQ.enc x))
def eB{α:Type}[bG α](t:Nat)(x:α):AO:=.box t ((bG.enc x).map .p)
def eV{α:Type}[bG α](e s b:Nat)(w:Sl α):AO:=.vec e s b w.len (λi=>bG.enc (w.get i))
/-! Slices that grow, of typed data. -/
abbrev aO(n:Int):Int:=IntKind.wrap .i64 n
def room(n b:Nat):Bool:=decide (n*b<=140737488355328/\n<=9223372036854775807)
section
variable{α:Type}[bG α]
def zxe(g:Nat->α)(r:Nat->List PV)(i:Nat):α:=(bG.dec (nzG (bG.enc (g 0)) r i)).1
def jY(n:Nat)(g h:Nat->α):Nat->α:=zxe g (appG n (λi=>bG.enc (g i)) λi=>bG.enc (h i))
def kL(l:List α):Nat->α:=λi=>(bG.dec (nzG (AQ (l.map bG.enc) 0) (AQ (l.map bG.enc)) i)).1
def Ar(g:Nat->α)(n i:Nat):α:=g (i+n)
class uh (α : Type) [bG α] : Prop where
  de:∀x:α,(bG.dec (bG.enc x)).1=x
instance [Inhabited α][uh α]:uh (Sl α):=⟨λx=>by
 obtain⟨n,f⟩:=x;show(⟨n,λi=>(bG.dec (bG.enc (f i))).1⟩:Sl α)=⟨n,f⟩;congr 1;funext i;exact uh.de (f i)⟩
variable [uh α]
theorem znX{g:Nat->α}{r:Nat->List PV}{i:Nat}{x:α}(h:r i=bG.enc x):zxe g r i=x:=by
 unfold zxe nzG;rw[h,lZ (tJ 8) (bG.sm _ _),uh.de]
theorem jA(n:Nat)(g h:Nat->α)(i:Nat):jY n g h i=if n<=i then h (i-n)else g i:=by
 refine znX ?_;unfold appG;cases hb:Nat.ble n i with|true=>rw[eX (qdK hb)]|false=>rw[fF λhh=>by rw[qjJ hh]at hb;cases hb]
end
end Go.Pm
namespace Go.Pm
section
variable(P:Program)(Γ:bI){A ρ:Type}(N:Nat)
def znY(fin:St->Option ρ)(K:ρ->Option A):EK A:=λe s=>match e with
 | .normal=>match fin s with|some r=>K r|none=>none
 | .ret=>match fin s with|some r=>K r|none=>none
 | _=>none
def znZ(aQ:dG)(f:FuncId)(n:Nat)(g:Code->Bool)(σ:St)(fin:Func->St->Option ρ)(K:ρ->Option A):Option A :=
 match P.funcs[f]? with
 | some fn=>match fn.body with
  | some c=>match Nat.beq aQ.nt fn.ntmps&&Nat.ble n aQ.nt&&g c with|true=>xM P Γ N aQ c (znY (fin fn) K) σ|false=>none
  | none=>none
 | none=>none
def ptG(aQ:dG)(f:FuncId)(p:List Nat)(r:List znV)(fin:Func->St->Option ρ)(K:ρ->Option A)(σ:St):Option A :=
 match P.funcs[f]? with
 | some fn=>match fn.body with|some c=>atT P Γ N aQ c p r (znY (fin fn) K) σ|none=>none
 | none=>none
end
theorem zbU{P:Program}{Γ:bI}{A ρ:Type}{N:Nat}{aQ:dG}{f:FuncId}{n:Nat}{g:Code→Bool}{σ:St}{fin:Func→St→Option ρ}{K:ρ→Option A} :
  (VU P N Γ aQ f n g σ fin).T K=znZ P Γ N aQ f n g σ fin K:=by
 unfold VU znZ;cases P.funcs[f]? with
 | none=>rfl
 | some fn =>
  simp only;cases fn.body with
  | none=>rfl
  | some c =>
   simp only;cases Nat.beq aQ.nt fn.ntmps&&Nat.ble n aQ.nt&&g c with
   | false=>rfl
   | true =>
    simp only;rw[LH];show(vcC P Γ N aQ c _).T _=(vcC P Γ N aQ c _).T _;congr 1;funext r;obtain⟨e,s⟩:=r;cases e with|normal=>simp only[znY,ae.opt];cases fin fn s<;>rfl|ret=>simp only[znY,ae.opt];cases fin fn s<;>rfl|_=>rfl
section
variable(P:Program)(Γ:bI){A ρ:Type}(N:Nat)
def zn0(fin:Exit->St->Option ρ)(K:ρ->Option A):EK A:=λe s=>match fin e s with|some r=>K r|none=>none
def zxf(aQ:dG)(f:FuncId)(n:Nat)(g:Code->Bool)(σ:St)(fin:Func->Exit->St->Option ρ)(K:ρ->Option A):Option A :=
 match P.funcs[f]? with
 | some fn=>match fn.body with
  | some c=>match Nat.beq aQ.nt fn.ntmps&&Nat.ble n aQ.nt&&g c with|true=>xM P Γ N aQ c (zn0 (fin fn) K) σ|false=>none
  | none=>none
 | none=>none
def ptM(aQ:dG)(f:FuncId)(p:List Nat)(r:List znV)(fin:Func->Exit->St->Option ρ)(K:ρ->Option A)(σ:St):Option A :=
 match P.funcs[f]? with
 | some fn=>match fn.body with|some c=>atT P Γ N aQ c p r (zn0 (fin fn) K) σ|none=>none
 | none=>none
end
theorem zn1{P:Program}{Γ:bI}{A ρ:Type}{N:Nat}{aQ:dG}{f:FuncId}{n:Nat}{g:Code→Bool}{σ:St}{fin:Func→Exit→St→Option ρ}{K:ρ→Option A} :
  (zh1 P N Γ aQ f n g σ fin).T K=zxf P Γ N aQ f n g σ fin K:=by
 unfold zh1 zxf;cases P.funcs[f]? with
 | none=>rfl
 | some fn =>
  simp only;cases fn.body with
  | none=>rfl
  | some c =>
   simp only;cases Nat.beq aQ.nt fn.ntmps&&Nat.ble n aQ.nt&&g c with
   | false=>rfl
   | true =>
    simp only;rw[LH];show(vcC P Γ N aQ c _).T _=(vcC P Γ N aQ c _).T _;congr 1;funext r;obtain⟨e,s⟩:=r;show(ae.opt (fin fn e s)).T K=zn0 (fin fn) K e s;unfold zn0;cases fin fn e s<;>rfl
/-! A slice of one's own. -/
variable [aH]
theorem zS.up{h:Fz}{w:World}{base e s n:Nat}{v:Value}{g g':Nat->List PV}(hg:∀i,RL o6 (g i) (g' i))(H:zS h w base e s v n g):zS h w base e s v n g':=by
 obtain⟨xs,h1,h2⟩:=H;exact⟨xs,h1,λi hi=>AZ (hg i) (h2 i hi)⟩
section
variable{δ α β A:Type}[dE δ][bG α][bG β]
abbrev VR:=Nat×(Nat->List PV)×List PV
def vrC(r:VR):Bool:=OY (bG.ck (α:=β) r.2.2)&&OY (bG.ck (α:=α) (r.2.1 0))
def vrD(r:VR):Sl α×β:=(⟨r.1,λi=>(bG.dec (r.2.1 i)).1⟩,(bG.dec r.2.2).1)
def ae.tyV(C:List PA->ae VR)(x:δ):ae (Sl α×β):=(C (dE.enc x)).bind λr=>.chk (vrC (α:=α) (β:=β) r) (.ok (vrD r))
def ae.unV(F:δ->ae (Sl α×β))(args:List PA):ae VR:=.chk (dE.ck (α:=δ) args) ((F (dE.dec args)).mp λw=>(w.1.len,λi=>bG.enc (w.1.get i),bG.enc w.2))
theorem zh9{v:Value}{xs:List Value}{rs Qr:List PV}(h:rs.length=Qr.length):UG v xs rs=UG v xs Qr:=by
 cases rs with
 | nil=>cases Qr with|nil=>rfl|cons=>cases h
 | cons=>cases Qr with|nil=>cases h|cons=>rfl
theorem Zk{P:Program}{f:FuncId}{e s b:Nat}{C:List PA->ae VR}(h:fU P f (.mkv e s b C)):fU P f (.mkv e s b (ae.unV (ae.tyV C:δ->ae (Sl α×β)))):=by
 intro w hz az vs n get rs hr ha hw;obtain⟨h1,h2⟩:=ae.chk_o hr;obtain⟨w',h3,h4⟩:=ae.mp_o h2;obtain⟨⟨n',g',Qr⟩,h5,h6⟩:=ae.bind_o h3;obtain⟨h7,h8⟩:=ae.chk_o h6;have h8:=ae.ok_o h8;subst h8;cases h4;have h7:(OY (bG.ck (α:=β) Qr)&&OY (bG.ck (α:=α) (g' 0)))=true:=h7;rw[gz]at h7;obtain⟨hc,hk⟩:=h w hz _ vs _ _ _ h5 (dE.up ha h1) hw;refine⟨hc,hk.mono ?_⟩;rintro r w2 ⟨h',v',xs,a1,a2,a3,a4,a5,a6⟩;have e:RL o6 Qr (bG.enc (bG.dec (α:=β) Qr).1):=nK (α:=β) (g:=λ_=>Qr) (λ_ _=>yg a2) h7.1 0;exact⟨h',v',xs,by rw[a1];exact kz _ (zh9 e.length),AZ e a2,a3,λ_ _=>bG.sm _ _,a5.up (nK a4 h7.2),a6⟩
def Zl(k:Sl α×β->Option A)(r:VR):Option A:=match vrC (α:=α) (β:=β) r with|true=>k (vrD r)|false=>none
abbrev Zm(e s b:Nat)(fn:Func)(σ:St):Option VR:=VV fn e s b σ
theorem zia{P:Program}{Γ:bI}{N:Nat}{aQ:dG}{f:FuncId}{e s b:Nat}{x:δ}{k:Sl α×β→Option A} :
  (ae.tyV (aK P N Γ aQ f e s b) x).T k=znZ P Γ N aQ f (dE.enc x).length (λ_=>true) ⟨jd 0 (dE.enc x),[],[]⟩ (Zm e s b) (Zl k):=by
 rw[<- zbU];show(aK P N Γ aQ f e s b (dE.enc x)).T _=_;rfl
end
/-! What is given to be changed, as typed data. -/
class XaC (α : Type) (ε : outParam Type) where
  enc:α->XA
  dec:XA->α
  ck:XA->Bool
  up:∀ [dD] {P:Program} {h:Fz} {w:World} {B:Nat} {x:XA} {v:Value},zi P h w B x v->ck x=true->zi P h w B (enc (dec x)) v/\UH w (enc (dec x)) v=UH w x v
  put:α->ε->XA
  out:XA->ε
  cko:α->XA->Bool
  outk:∀ [dD] {P:Program} {h h':Fz} {w w':World} {B:Nat} {a:α} {y:XA} {v:Value},zi P h w B (enc a) v->(∀p x,Rep h p x->Rep h' p x)->zi P h' w' B y v->cko a y=true ->
    zi P h' w' B (put a (out y)) v/\UH w' (put a (out y)) v=UH w' y v
class sH (δ : Type) (ε : outParam Type) where
  enc:δ->List XA
  dec:List XA->δ
  ck:List XA->Bool
  up:∀ [dD] {P:Program} {h:Fz} {w:World} {B:Nat} {xs:List XA} {vs:List Value},RL (zi P h w B) xs vs->ck xs=true->RL (zi P h w B) (enc (dec xs)) vs/\nz w (enc (dec xs)) vs=nz w xs vs
  put:δ->ε->List XA
  out:List XA->ε
  cko:δ->List XA->Bool
  outk:∀ [dD] {P:Program} {h h':Fz} {w w':World} {B:Nat} {a:δ} {ys:List XA} {vs:List Value},RL (zi P h w B) (enc a) vs->(∀p x,Rep h p x->Rep h' p x)->RL (zi P h' w' B) ys vs->cko a ys=true ->
    RL (zi P h' w' B) (put a (out ys)) vs/\nz w' (put a (out ys)) vs=nz w' ys vs
instance : sH Unit Unit where
  enc _:=[]
  dec _:=()
  ck l:=l.isEmpty
  up:=by
    intro _ P h w B xs vs r hc;cases xs with|nil=>exact⟨r,rfl⟩|cons=>cases hc
  put _ _:=[]
  out _:=()
  cko _ l:=l.isEmpty
  outk:=by
    intro _ P h h' w w' B a ys vs _ _ r hc;cases ys with|nil=>exact⟨r,rfl⟩|cons=>cases hc
instance {α ε δ ζ : Type} [XaC α ε] [sH δ ζ] : sH (α × δ) (ε × ζ) where
  enc x:=XaC.enc x.1::sH.enc x.2
  dec l:=(XaC.dec (l.headD (.d (.agg []))),sH.dec l.tail)
  ck l:=match l with|x::r=>XaC.ck (α:=α) x&&sH.ck (δ:=δ) r|[]=>false
  up:=by
    intro _ P h w B xs vs r hc
    match xs,vs,r,hc with
    | x::xs,v::vs,r,hc =>
      rw[Bool.and_eq_true]at hc;obtain⟨a1,a2⟩:=XaC.up r.1 hc.1;obtain⟨b1,b2⟩:=sH.up r.2 hc.2;refine⟨⟨a1,b1⟩,?_⟩;show _++_=_++_;exact congr (congrArg _ a2) b2
  put x o:=XaC.put x.1 o.1::sH.put x.2 o.2
  out l:=(XaC.out α (l.headD (.d (.agg []))),sH.out δ l.tail)
  cko a l:=match l with|x::r=>XaC.cko a.1 x&&sH.cko a.2 r|[]=>false
  outk:=by
    intro _ P h h' w w' B a ys vs ra hle r hc
    match ys,vs,ra,r,hc with
    | y::ys,v::vs,ra,r,hc =>
      rw[Bool.and_eq_true]at hc;obtain⟨a1,a2⟩:=XaC.outk ra.1 hle r.1 hc.1;obtain⟨b1,b2⟩:=sH.outk ra.2 hle r.2 hc.2;refine⟨⟨a1,b1⟩,?_⟩;show _++_=_++_;exact congr (congrArg _ a2) b2
instance {α : Type} [iQ α] : XaC α Unit where
  enc x:=.d (iQ.enc x)
  dec x:=match x with | .d a=>iQ.dec a|_=>iQ.dec (.agg [])
  ck x:=match x with | .d a=>iQ.ck (α:=α) a|_=>false
  up:=by
    intro _ P h w B x v r hc
    match x,r,hc with|.d a,r,hc=>exact⟨iQ.up r hc,rfl⟩
  put x _:=.d (iQ.enc x)
  out _:=()
  cko _ y:=match y with | .d _=>true|_=>false
  outk:=by
    intro _ P h h' w w' B a y v ra hle r hc
    match y,r,hc with|.d b,r,hc=>exact⟨zbH hle ra,rfl⟩
structure Bc (ty : Nat) (α : Type) where
  v:α
def xcP:List XC→Option (List PV)
  | []=>some []
  | .p v::r=>match xcP r with|some l=>some (v::l)|none=>none
  | _::_=>none
theorem zic:∀{cs:List XC}{l:List PV},xcP cs=some l->cs=l.map .p:=by
 intro cs
 induction cs with
 | nil=>intro l h;cases h;rfl
 | cons c cs ih =>
  intro l h;cases c with
  | p v =>
   unfold xcP at h;split at h;rename_i l' e;cases h;rw[ih e];rfl;cases h
  | _=>cases h
theorem zbW [dD]{P:Program}{h:Fz}{w:World}{B:Nat}:∀{l:List PV}{vs:List Value},RL (xcR P h w B) (l.map XC.p) vs↔RL (Rep h) l vs:=by
 intro l
 induction l with
 | nil=>intro vs;cases vs<;>exact Uw
 | cons x l ih=>intro vs;cases vs with|nil=>exact Uw|cons v vs=>exact and_congr Uw ih
theorem zid:∀{l:List PV}{vs:List Value},uH (l.map XC.p) vs=[]:=by
 intro l
 induction l with
 | nil=>intro vs;cases vs<;>rfl
 | cons x l ih=>intro vs;cases vs with|nil=>rfl|cons v vs=>exact ih
theorem zie{w:World}{ty Yl:Nat}{cs ds:List XC}{v:Value}(h:∀vs,uH cs vs=uH ds vs):UH w (.box ty cs) v=UH w (.box Yl ds) v:=by
 cases v with
 | pointer a=>cases a with
  | none=>rfl
  | some a =>
   show a.block::_=a.block::_;congr 1;cases w.heap[a.block]? with
   | none=>rfl
   | some o=>cases o with|cells C t l=>exact h C.toList|_=>rfl
 | _=>rfl
theorem ztZ{w:World}{ty:Nat}{l m:List PV}{v:Value}:UH w (.box ty (l.map .p)) v=UH w (.box ty (m.map .p)) v:=zie λ_=>by rw[zid,zid]
instance {ty : Nat} {α : Type} [bG α] : XaC (Bc ty α) α where
  enc x:=.box ty ((bG.enc x.v).map .p)
  dec x:=match x with | .box _ cs=>⟨(bG.dec ((xcP cs).getD [])).1⟩|_=>⟨(bG.dec []).1⟩
  ck x:=match x with | .box t cs=>Nat.beq t ty&&(match xcP cs with|some l=>OY (bG.ck (α:=α) l)|none=>false)|_=>false
  up:=by
    intro _ P h w B x v r hc
    match x,r,hc with
    | .box t cs,r,hc =>
      rw[Bool.and_eq_true]at hc;cases Nat.eq_of_beq_eq_true hc.1;cases e:xcP cs with
      | none=>rw[e]at hc;cases hc.2
      | some l =>
        rw[e]at hc;have e2:=zic e;subst e2;obtain⟨k,C,h1,h2,h3⟩:=r;have h3:=zbW.1 h3;have h4:RL o6 l (bG.enc (bG.dec (α:=α) l).1):=nK (α:=α) (g:=λ_=>l) (λ_ _=>yg h3) hc.2 0;refine⟨⟨k,C,h1,h2,?_⟩,?_⟩;show RL _ ((bG.enc (bG.dec (α:=α) ((xcP (l.map XC.p)).getD [])).1).map XC.p) _;rw[e];exact zbW.2 (AZ h4 h3);exact ztZ
  put _ o:=.box ty ((bG.enc o).map .p)
  out x:=match x with | .box _ cs=>(bG.dec ((xcP cs).getD [])).1|_=>(bG.dec []).1
  cko _ x:=match x with | .box t cs=>Nat.beq t ty&&(match xcP cs with|some l=>OY (bG.ck (α:=α) l)|none=>false)|_=>false
  outk:=by
    intro _ P h h' w w' B a y v ra hle r hc
    match y,r,hc with
    | .box t cs,r,hc =>
      rw[Bool.and_eq_true]at hc;cases Nat.eq_of_beq_eq_true hc.1;cases e:xcP cs with
      | none=>rw[e]at hc;cases hc.2
      | some l =>
        rw[e]at hc;have e2:=zic e;subst e2;obtain⟨k,C,h1,h2,h3⟩:=r;have h3:=zbW.1 h3;have h4:RL o6 l (bG.enc (bG.dec (α:=α) l).1):=nK (α:=α) (g:=λ_=>l) (λ_ _=>yg h3) hc.2 0;refine⟨⟨k,C,h1,h2,?_⟩,?_⟩;show RL _ ((bG.enc (bG.dec (α:=α) ((xcP (l.map XC.p)).getD [])).1).map XC.p) _;rw[e];exact zbW.2 (AZ h4 h3);exact ztZ
structure Bw (ty e s b : Nat) (α : Type) where
  v:Sl α
def bwE{α:Type}[bG α](ty e s b:Nat)(w:Sl α):XA:=.box ty [.vec e s b w.len λi=>bG.enc (w.get i)]
theorem zt0 [dD]{P:Program}{h:Fz}{w:World}{B ty e s b n:Nat}{v:Value}{g g':Nat->List PV}(hg:∀i,RL o6 (g i) (g' i))(hu:tH g')(r:zi P h w B (.box ty [.vec e s b n g]) v):zi P h w B (.box ty [.vec e s b n g']) v:=by
 obtain⟨k,C,h1,h2,h3⟩:=r;refine⟨k,C,h1,h2,?_⟩
 match C.toList,h3 with
 | [x],h3 =>
  obtain⟨⟨a1,a2,a3,a4⟩,_⟩:=h3;exact⟨⟨a1,⟨hu,a2.2⟩,a3,a4.up hg⟩,trivial⟩
theorem zif [dD]{P:Program}{h:Fz}{w:World}{B ty e s b n:Nat}{v:Value}{g:Nat->List PV}(r:zi P h w B (.box ty [.vec e s b n g]) v):tH g:=by
 obtain⟨k,C,h1,h2,h3⟩:=r
 match C.toList,h3 with|[x],h3=>exact h3.1.2.1.1
instance {ty e s b : Nat} {α : Type} [Inhabited α] [bG α] : XaC (Bw ty e s b α) (Sl α) where
  enc x:=bwE ty e s b x.v
  dec x:=match x with | .box _ [.vec _ _ _ n g]=>⟨⟨n,λi=>(bG.dec (g i)).1⟩⟩|_=>⟨⟨0,λ_=>default⟩⟩
  ck x:=match x with | .box t [.vec e' s' b' _ g]=>Nat.beq t ty&&(Nat.beq e' e&&(Nat.beq s' s&&(Nat.beq b' b&&OY (bG.ck (α:=α) (g 0)))))|_=>false
  up:=by
    intro _ P h w B x v r hc
    match x,r,hc with
    | .box t [.vec e' s' b' n g],r,hc =>
      simp only[Bool.and_eq_true]at hc;cases Nat.eq_of_beq_eq_true hc.1;cases Nat.eq_of_beq_eq_true hc.2.1;cases Nat.eq_of_beq_eq_true hc.2.2.1;cases Nat.eq_of_beq_eq_true hc.2.2.2.1;exact⟨zt0 (nK (zif r) hc.2.2.2.2) (λ_ _=>bG.sm _ _) r,zie λvs=>by cases vs<;>rfl⟩
  put _ w:=bwE ty e s b w
  out x:=match x with | .box _ [.vec _ _ _ n g]=>⟨n,λi=>(bG.dec (g i)).1⟩|_=>⟨0,λ_=>default⟩
  cko _ x:=match x with | .box t [.vec e' s' b' _ g]=>Nat.beq t ty&&(Nat.beq e' e&&(Nat.beq s' s&&(Nat.beq b' b&&OY (bG.ck (α:=α) (g 0)))))|_=>false
  outk:=by
    intro _ P h h' w w' B a y v ra hle r hc
    match y,r,hc with
    | .box t [.vec e' s' b' n g],r,hc =>
      simp only[Bool.and_eq_true]at hc;cases Nat.eq_of_beq_eq_true hc.1;cases Nat.eq_of_beq_eq_true hc.2.1;cases Nat.eq_of_beq_eq_true hc.2.2.1;cases Nat.eq_of_beq_eq_true hc.2.2.2.1;exact⟨zt0 (nK (zif r) hc.2.2.2.2) (λ_ _=>bG.sm _ _) r,zie λvs=>by cases vs<;>rfl⟩
structure Bs(ty f np n:Nat) where
instance {ty f np n : Nat} : XaC (Bs ty f np n) Unit where
  enc _:=.box ty [.slf f np n]
  dec _:={}
  ck x:=match x with | .box t [.slf f' np' n']=>Nat.beq t ty&&(Nat.beq f' f&&(Nat.beq np' np&&Nat.beq n' n))|_=>false
  up:=by
    intro _ P h w B x v r hc
    match x,r,hc with
    | .box t [.slf f' np' n'],r,hc =>
      simp only[Bool.and_eq_true]at hc;cases Nat.eq_of_beq_eq_true hc.1;cases Nat.eq_of_beq_eq_true hc.2.1;cases Nat.eq_of_beq_eq_true hc.2.2.1;cases Nat.eq_of_beq_eq_true hc.2.2.2;exact⟨r,rfl⟩
  put _ _:=.box ty [.slf f np n]
  out _:=()
  cko _ x:=match x with | .box t [.slf f' np' n']=>Nat.beq t ty&&(Nat.beq f' f&&(Nat.beq np' np&&Nat.beq n' n))|_=>false
  outk:=by
    intro _ P h h' w w' B a y v ra hle r hc
    match y,r,hc with
    | .box t [.slf f' np' n'],r,hc =>
      simp only[Bool.and_eq_true]at hc;cases Nat.eq_of_beq_eq_true hc.1;cases Nat.eq_of_beq_eq_true hc.2.1;cases Nat.eq_of_beq_eq_true hc.2.2.1;cases Nat.eq_of_beq_eq_true hc.2.2.2;exact⟨r,rfl⟩
structure Bm (ty kt vt : Nat) (q : MQ) where
  n:Nat
  F:List Int->Option (List Int)
instance {ty kt vt : Nat} {q : MQ} [DecidableEq MQ] : XaC (Bm ty kt vt q) (Nat × (List Int → Option (List Int))) where
  enc x:=.box ty [.mo kt vt q x.n x.F]
  dec x:=match x with | .box _ [.mo _ _ _ n F]=>⟨n,F⟩|_=>⟨0,λ_=>none⟩
  ck x:=match x with | .box t [.mo k' v' q' _ _]=>Nat.beq t ty&&(Nat.beq k' kt&&(Nat.beq v' vt&&decide (q'=q)))|_=>false
  up:=by
    intro _ P h w B x v r hc
    match x,r,hc with
    | .box t [.mo k' v' q' n F],r,hc =>
      simp only[Bool.and_eq_true]at hc;cases Nat.eq_of_beq_eq_true hc.1;cases Nat.eq_of_beq_eq_true hc.2.1;cases Nat.eq_of_beq_eq_true hc.2.2.1;cases of_decide_eq_true hc.2.2.2;exact⟨r,rfl⟩
  put _ o:=.box ty [.mo kt vt q o.1 o.2]
  out x:=match x with | .box _ [.mo _ _ _ n F]=>(n,F)|_=>(0,λ_=>none)
  cko _ x:=match x with | .box t [.mo k' v' q' _ _]=>Nat.beq t ty&&(Nat.beq k' kt&&(Nat.beq v' vt&&decide (q'=q)))|_=>false
  outk:=by
    intro _ P h h' w w' B a y v ra hle r hc
    match y,r,hc with
    | .box t [.mo k' v' q' n F],r,hc =>
      simp only[Bool.and_eq_true]at hc;cases Nat.eq_of_beq_eq_true hc.1;cases Nat.eq_of_beq_eq_true hc.2.1;cases Nat.eq_of_beq_eq_true hc.2.2.1;cases of_decide_eq_true hc.2.2.2;exact⟨r,rfl⟩
class NpC (ρ : Type) [dE ρ] : Prop where
  np:∀{l:List PA},dE.ck (α:=ρ) l=true->EW l=none/\EW (dE.enc (dE.dec l:ρ))=none
instance:NpC Unit:=⟨fun {l} h=>by cases l with|nil=>exact⟨rfl,rfl⟩|cons=>cases h⟩
instance:NpC Int:=⟨fun {l} h=>by
 match l,h with
 | [.one v],h=>cases v with
  | int k x=>cases k<;>first|exact⟨rfl,rfl⟩|cases h
  | _=>cases h
 | [.agg _],h=>cases h
 | [],h=>cases h
 | _::_::_,h=>cases h⟩
section
variable{δ ε ρ A:Type}[sH δ ε][dE ρ][NpC ρ]
end
/-! A function without results that may panic. -/
section
variable{δ ε A:Type}[sH δ ε]{ty:Nat}
def pnD(ty:Nat):List PA→Option (Bool×Int)
  | []=>some (false,0)
  | [.one (.fna f [.int .i64 t,.int .i64 n])]=>match Nat.beq f 4294967295&&decide (t=ty)with|true=>some (true,n)|false=>none
  | _=>none
theorem zxg{l:List PA}{q:Bool×Int}(h:pnD ty l=some q):l=cond q.1 (zwx ty .i64 q.2) []:=by
 unfold pnD at h;split at h;cases h;rfl;split at h;rename_i f t n hc;cases h;rw[gz]at hc;cases kP hc.1;rw[qdk hc.2];rfl;cases h;cases h
def ae.tyP(ty:Nat)(C:MK)(x:δ):ae ((Bool×Int)×ε):=(C (sH.enc x)).bind λr=>match pnD ty r.1 with|some q=>.chk (sH.cko x r.2) (.ok (q,sH.out δ r.2))|none=>.no
def ae.unP(ty:Nat)(F:δ->ae ((Bool×Int)×ε)):MK:=λxs=>.chk (sH.ck (δ:=δ) xs) ((F (sH.dec xs)).bind λr=>.ite r.1.1 (.ok (zwx ty .i64 r.1.2,sH.put (sH.dec xs:δ) r.2)) (.ok ([],sH.put (sH.dec xs:δ) r.2)))
theorem zxh{P:Program}{f:FuncId}{C:MK}(H:qN P f C):qN P f (ae.unP ty (ae.tyP ty C:δ->ae ((Bool×Int)×ε))):=by
 intro _ xs ys rs hr w h base vs hv hs hn hb hw jH;obtain⟨h1,h2⟩:=ae.chk_o hr;obtain⟨⟨q,o⟩,h3,h4⟩:=ae.bind_o h2;obtain⟨⟨Qr,pR⟩,h5,h6⟩:=ae.bind_o h3;simp only at h6;split at h6
 rotate_left
 exact(ae.no_o h6).elim;rename_i q' hq;obtain⟨h7,h8⟩:=ae.chk_o h6;cases ae.ok_o h8;have h4:rs=Qr/\ys=sH.put (sH.dec xs:δ) (sH.out δ pR):=by
  have e:=zxg hq;obtain⟨b,n⟩:=q;cases b with|true=>cases ae.ok_o h4;exact⟨e.symm,rfl⟩|false=>cases ae.ok_o h4;exact⟨e.symm,rfl⟩
 obtain⟨rfl,rfl⟩:=h4;obtain⟨u1,u2⟩:=sH.up hv h1;have:=H _ _ _ h5 w h base vs u1 hs (by rw[u2];exact hn) (by rw[u2];exact hb) hw jH;refine⟨this.1,this.2.mono ?_⟩;rintro e w' ⟨h',a2,a3,a4,a5,a6,a7,a8,a9⟩;rw[u2]at a5 a8 a9;obtain⟨b1,b2⟩:=sH.outk u1 (λ_ _ r=>Rep.mono a6 r) a3 h7;refine⟨h',a2,b1,?_,?_,a6,a7,a8,a9⟩;show(nz w' (sH.put _ _) vs).Nodup;rw[b2];exact a4;show ∀b∈nz w' (sH.put _ _) vs,_;rw[b2];exact a5
def zn2(ty:Nat)(x:δ)(k:(Bool×Int)×ε->Option A)(r:List PA×List XA):Option A:=match pnD ty r.1 with
 | some q=>match sH.cko x r.2 with|true=>k (q,sH.out δ r.2)|false=>none
 | none=>none
theorem zFP{P:Program}{Γ:bI}{N:Nat}{aQ:dG}{f:FuncId}{x:δ}{k:(Bool×Int)×ε→Option A} :
    (ae.tyP ty (fun xs => aM P N Γ aQ f xs) x).T k = zxf P Γ N aQ f (sH.enc x).length (fun c => lY ((iP 0 (sH.enc x)).map (·.1)) && yL (wz 0 (sH.enc x)) (sH.enc x) && nM (wz 0 (sH.enc x)) (eu c))
      ⟨Lt 0 (sH.enc x),iP 0 (sH.enc x),[]⟩ (zxb P (sH.enc x)) (zn2 ty x k):=by
  rw[<- zn1];show(aM P N Γ aQ f (sH.enc x)).T _=(aM P N Γ aQ f (sH.enc x)).T _;congr 1;funext r;show ae.T (match pnD ty r.1 with|some q=>.chk (sH.cko x r.2) (.ok (q,sH.out δ r.2))|none=>.no) k=zn2 ty x k r;unfold zn2;cases pnD ty r.1<;>rfl
end
/-! One function for two closures. -/
section
variable{α β γ ρ:Type}[iQ α][iQ β][iQ γ][dE ρ]
def ae.two(F:α×β->ae ρ)(G:α×γ->ae ρ)(x:α×(β ⊕ γ)):ae ρ:=match x.2 with | .inl b=>F (x.1,b) | .inr c=>G (x.1,c)
theorem zih{args:List PA}(h:dE.ck (α:=α×(β ⊕ γ)) args=true):(dE.ck (α:=α×β) args=true/\(dE.dec args:α×(β ⊕ γ))=((dE.dec args:α×β).1,.inl (dE.dec args:α×β).2))\/dE.ck (α:=α×γ) args=true/\(dE.dec args:α×(β ⊕ γ))=((dE.dec args:α×γ).1,.inr (dE.dec args:α×γ).2):=by
 match args,h with
 | [a,b],h =>
  have h:(iQ.ck (α:=α) a&&iQ.ck (α:=β ⊕ γ) b)=true:=h;rw[gz]at h;have h2:(iQ.ck (α:=β) b||iQ.ck (α:=γ) b)=true:=h.2;cases hb:iQ.ck (α:=β) b with
  | true =>
   refine .inl ⟨gz _ _▸⟨h.1,hb⟩,?_⟩;show(iQ.dec a,(match iQ.ck (α:=β) b with|true=>Sum.inl (iQ.dec b)|false=>Sum.inr (iQ.dec b):β ⊕ γ))=_;rw[hb];rfl
  | false =>
   rw[hb]at h2;refine .inr ⟨gz _ _▸⟨h.1,h2⟩,?_⟩;show(iQ.dec a,(match iQ.ck (α:=β) b with|true=>Sum.inl (iQ.dec b)|false=>Sum.inr (iQ.dec b):β ⊕ γ))=_;rw[hb];rfl
 | [a],h=>have h:(iQ.ck (α:=α) a&&false)=true:=h;rw[qdL]at h;cases h
 | a::b::c::r,h=>have h:(iQ.ck (α:=α) a&&false)=true:=h;rw[qdL]at h;cases h
theorem zxi{F:α×β->ae ρ}{G:α×γ->ae ρ}{args:List PA}{rs:List PA}(hr:(ae.un (ae.two F G) args).o=some rs):(ae.un F args).o=some rs\/(ae.un G args).o=some rs:=by
 obtain⟨h1,h2⟩:=ae.chk_o hr;rcases zih h1 with⟨a,b⟩|⟨a,b⟩
 rw[b]at h2;left;unfold ae.un;rw[a];exact h2;rw[b]at h2;right;unfold ae.un;rw[a];exact h2
theorem wG{P:Program}{f:FuncId}{F:α×β->ae ρ}{G:α×γ->ae ρ}(h1:Ok P f (ae.un F))(h2:Ok P f (ae.un G)):Ok P f (ae.un (ae.two F G)):=by
 intro args rs hr;rcases zxi hr with h|h
 exact h1 args rs h;exact h2 args rs h
theorem zn3{τ υ:Type}[bG τ][bG υ]{P:Program}{f:FuncId}{e s b:Nat}{F:α×β->ae (Sl τ×υ)}{G:α×γ->ae (Sl τ×υ)}(h1:fU P f (.mkv e s b (ae.unV F)))(h2:fU P f (.mkv e s b (ae.unV G))):fU P f (.mkv e s b (ae.unV (ae.two F G))):=by
 intro w hz az vs n get rs hr;obtain⟨a1,a2⟩:=ae.chk_o hr;rcases zih a1 with⟨a,b⟩|⟨a,b⟩
 rw[b]at a2;exact h1 w hz az vs n get rs (by unfold ae.unV;rw[a];exact a2);rw[b]at a2;exact h2 w hz az vs n get rs (by unfold ae.unV;rw[a];exact a2)
end
/-! Sorts of typed data. -/
section
variable{α:Type}[bG α]
def ui(w:Sl α)(i:Nat):List PV:=bG.enc (w.get i)
def soP(C:List PA->ae (List PA))(caps:List PV)(ag:Bool)(w:Sl α):Bool:=(zwu w.len (λi j=>(JC C caps ag (ui w) i j).isSome) (nJ C caps ag (ui w))).b
def soG(C:List PA->ae (List PA))(caps:List PV)(ag:Bool)(w:Sl α):Nat->α:=λi=>(bG.dec (JD w.len (nJ C caps ag (ui w)) (ui w) i)).1
end
end Go.Pm
namespace Go.Pm
variable [aH]
open Go.RowKit (Below)
structure qm where
  t1:Nat
  y1:TypeId
  t2:Nat
  y2:TypeId
  e:Bool
  ty:TypeId
def qm.ok(pr:qm):List PanicEntry→Bool|[⟨.iface ty (.agg ⟨[.int _ _]⟩),false,false⟩]=>Nat.beq ty pr.ty|_=>false
def zed:List PanicEntry→List PanicEntry
  | [x]=>[{x with recovered:=true}]
  | l=>l
def stA (pr : qm) : Oper := { dst := none, op := .store pr.y1 (.tmp pr.t1) (.const (.slice none 0 0)), type := 0, pos := "", after := #[], guard := none }
def stB (pr : qm) : Oper := { dst := none, op := .store pr.y2 (.tmp pr.t2) (.const (.bool pr.e)), type := 0, pos := "", after := #[], guard := none }
def sK(pr:qm):Array Oper:=#[stA pr,stB pr]
section
variable(P:Program)(Γ:bI)
def Bo(pr:qm)(fi:FuncId):Code→Option (Nat×Nat)
  | .region id ops false=>match ops.toList with
    | [o1,o2]=>match o1.op,o1.dst,o1.guard,o2.op,o2.dst,o2.guard with
      | .makeFunc (.func f) first caps,some t,none,.defer {callee:=.value (.tmp t'),args,argTypes:=_},none,none=>match caps.toList with
        | [.tmp c1,.tmp c2]=>match Nat.beq f fi&&Nat.beq t t'&&first.isEmpty&&args.isEmpty&&Nat.beq c1 pr.t1&&Nat.beq c2 pr.t2 && !Nat.beq t pr.t1 && !Nat.beq t pr.t2 with|true=>some (id,t)|false=>none
        | _=>none
      | _,_,_,_,_,_=>none
    | _=>none
  | _=>none
def pnK(dn:Bool)(K:Exit->St->Prop)(e:Exit)(s:St):Prop:=match e with
 | .panic ch=>match dn with|true=>K (.panic ch) s|false=>False
 | e=>K e s
def pnC(dn:Bool):Exit×St→ae (Exit×St)
  | (.panic ch,s)=>match dn with|true=>.ok (.panic ch,s)|false=>.no
  | r=>.ok r
def Au(pr:qm)(fi:FuncId)(aQ:dG):Bool→Code→(Exit→St→Prop)→St→Prop
  | dn,.seq a b,K,σ=>match Bo pr fi a with
    | some (id,t)=>match Nat.blt t aQ.nt && !dn&&nM [pr.t1,pr.t2] (eu b)with|true=>zdq P aQ id (Au pr fi aQ true b K) ⟨(t,.junk)::σ.env,σ.aB,[]⟩|false=>False
    | none=>vc P Γ aQ a (zdt (Au pr fi aQ dn b K) (pnK dn K)) σ
  | dn,c,K,σ=>vc P Γ aQ c (pnK dn K) σ
def seC(dn:Bool)(go:St→ae (Exit×St)):Exit×St→ae (Exit×St)|(.normal,s)=>go s|r=>pnC dn r
def uj(N:Nat)(pr:qm)(fi:FuncId)(aQ:dG):Bool→Code→St→ae (Exit×St)
  | dn,.seq a b,σ=>match Bo pr fi a with
    | some (id,t)=>match Nat.blt t aQ.nt && !dn&&nM [pr.t1,pr.t2] (eu b)with|true=>(Du P aQ id ⟨(t,.junk)::σ.env,σ.aB,[]⟩).bind (uj N pr fi aQ true b)|false=>.no
    | none=>(vcC P Γ N aQ a σ).bind (seC dn (uj N pr fi aQ dn b))
  | dn,c,σ=>(vcC P Γ N aQ c σ).bind (pnC dn)
def zii(pr:qm)(aQ:dG)(fn:Func):Exit×St→ae (List PA)
  | (.normal,s)=>.opt (kK P s fn.results.toList)
  | (.ret,s)=>.opt (kK P s fn.results.toList)
  | (.panic ch,s)=>match pr.ok ch with
    | true=>(oN P Γ aQ.nt (sK pr) 0 (sK pr).toList {s with log:=[]}).bind λs=>.opt (kK P s fn.results.toList)
    | false=>.no
  | _=>.no
def aD(N:Nat)(pr:qm)(fi:FuncId)(aQ:dG)(f:FuncId)(args:List PA):ae (List PA) :=
 match P.funcs[f]? with
 | some fn=>match fn.body with
  | some c=>match Nat.beq aQ.nt fn.ntmps&&Nat.ble args.length aQ.nt&&nM [Gw] (eu c)with|true=>(uj P Γ N pr fi aQ false c ⟨jd 0 args,[],[]⟩).bind (zii P Γ pr aQ fn)|false=>.no
  | none=>.no
 | none=>.no
def zxj(pr:qm)(aQ:dG)(fn:Func)(K:List PA→Prop):Exit→St→Prop
  | .ret,σ=>AY P fn K σ
  | .normal,σ=>AY P fn K σ
  | .panic ch,σ=>pr.ok ch=true/\jV P Γ aQ.nt (sK pr) 0 (sK pr).toList (AY P fn K) {σ with log:=[]}
  | _,_=>False
def RI(pr:qm)(fi:FuncId)(aQ:dG)(f:FuncId)(args:List PA)(K:List PA->Prop):Prop :=
 match P.funcs[f]? with
 | some fn=>match fn.body with
  | some c=>match Nat.beq aQ.nt fn.ntmps&&Nat.ble args.length aQ.nt&&nM [Gw] (eu c)with|true=>Au P Γ pr fi aQ false c (zxj P Γ pr aQ fn K) ⟨jd 0 args,[],[]⟩|false=>False
  | none=>False
 | none=>False
end
section
variable{P:Program}{Γ:bI}{B:Nat}{w0:World}{pr:qm}
abbrev dfD(fi:FuncId)(v1 v2:Value):Deferred:={target:=.fn (.func fi) #[v1,v2],args:=#[]}
theorem LM{fi:FuncId}{c:Code}{id t:Nat}(h:Bo pr fi c=some (id,t)):∃(o1 o2:Oper)(ats:Array TypeId),c=.region id #[o1,o2] false/\t≠pr.t1/\t≠pr.t2/\o1.op=.makeFunc (.func fi) #[] #[.tmp pr.t1,.tmp pr.t2]/\o1.dst=some t/\o1.guard=none /\
  o2.op=.defer {callee:=.value (.tmp t),args:=#[],argTypes:=ats}/\o2.dst=none/\o2.guard=none:=by
 unfold Bo at h;split at h;rename_i id' ops;split at h;rename_i o1 o2 zCO;split at h;rename_i f first caps t' t2 args ats e1 e2 e3 e4 e5 e6
 split at h;rename_i c1 c2 zFQ;split at h;rename_i hc;simp only[gz]at hc;simp only[bQ,gm]at h;obtain⟨rfl,rfl⟩:=h;obtain⟨⟨⟨⟨⟨⟨⟨h1,h2⟩,h3⟩,h4⟩,h5⟩,h6⟩,h7⟩,h8⟩:=hc;have h1:=kP h1;have h2:=kP h2;have h3:first = #[]:=by simpa using h3
 have h4:args = #[]:=by simpa using h4
 have h5:=kP h5;have h6:=kP h6;have h7:t'≠pr.t1:=qdu (by simpa using h7);have h8:t'≠pr.t2:=qdu (by simpa using h8);have h9:caps = #[.tmp c1,.tmp c2]:=by rw[<- qdc (xs:=caps),zFQ]
 subst h1 h2 h3 h4 h9;rw[h5,h6]at e1;refine⟨o1,o2,ats,?_,h7,h8,e1,e2,e3,e4,e5,e6⟩;rw[<- qdc (xs:=ops),zCO];cases h;cases h;cases h;cases h;cases h
theorem Zn{fi:FuncId}(zl3:∀caps:Array Value,caps.size=2→Gx P {target := .fn (.func fi) caps,args := #[]}){c:Code}{id t nt n:Nat}{h0:Fz}{a:Act}{σ:St}{g:Gh}{w:World}{Q:Exit→Act→World→Prop}
    (h:Bo pr fi c=some (id,t)) (ht:t<nt) (S:bW P nt B w0 h0 g σ a w)
    (hQ:∀a',bW P nt B w0 h0 g ⟨(t,.junk)::σ.env,σ.aB,[]⟩ a' w->a'.defers=dfD fi (a.tmps.getD pr.t1 undef) (a.tmps.getD pr.t2 undef)::a.defers->(∀u,u≠t->a'.tmps.getD u undef=a.tmps.getD u undef)->Q .normal a' w):c.wpIn (FR none) n P Q a w:=by
  obtain⟨o1,o2,ats,rfl,n1,n2,e1,e2,e3,e4,e5,e6⟩:=LM h;refine wpIn_region ?_;show wpOpsIn (FR none) n P #[o1,o2] Q [0,1] a w;have w1:∀tm,Region.wanted o1 (yielded #[o1,o2] tm)=true:=λtm=>by simp[Region.wanted,e3]
  have w2:∀tm,Region.wanted o2 (yielded #[o1,o2] tm)=true:=λtm=>by simp[Region.wanted,e6]
  have r1:(execOp a.eval o1).run P w=.ok (.value (.func (.func fi) #[] #[a.tmps.getD pr.t1 undef,a.tmps.getD pr.t2 undef])) w:=by
    simp only[execOp,e1,Instr.makeFunc,Sem.run_bind,Sem.run_pure,Result.andThen_ok];simp[Act.eval]
  have ets:t<a.tmps.size:=qdt ht S.size;have ev:(a.put (some t) (.func (.func fi) #[] #[a.tmps.getD pr.t1 undef,a.tmps.getD pr.t2 undef])).eval (.tmp t)=.func (.func fi) #[] #[a.tmps.getD pr.t1 undef,a.tmps.getD pr.t2 undef]:=by
    simp[Act.put,Act.eval,xI,ets]
  have r2:(execOp (a.put (some t) (.func (.func fi) #[] #[a.tmps.getD pr.t1 undef,a.tmps.getD pr.t2 undef])).eval o2).run P w=.ok (.defer (dfD fi (a.tmps.getD pr.t1 undef) (a.tmps.getD pr.t2 undef))) w:=by
    simp only[execOp,e4,resolve,Sem.run_bind,ev,Deferred.ofValue,Sem.run_pure,Result.andThen_ok];simp
  show(if Region.wanted o1 (yielded #[o1,o2] a.tmps)then o1.wpIn (FR none) n P a w (wpOpsIn (FR none) n P #[o1,o2] Q [1]) Q else _);rw[eX (w1 _)];refine⟨λ_ _=>trivial,?_⟩;rw[show o1.semAt (FR none).round a.eval=execOp a.eval o1 from rfl,r1];show wpOpsIn (FR none) n P #[o1,o2] Q [1] (a.put o1.dst _) w;rw[e2];show(if Region.wanted o2 (yielded #[o1,o2] (a.put (some t) _).tmps)then o2.wpIn (FR none) n P (a.put (some t) _) w (wpOpsIn (FR none) n P #[o1,o2] Q []) Q else _);rw[eX (w2 _)];refine⟨λ_ _=>trivial,?_⟩;have r3:Sem.run P (o2.semAt (FR none).round (a.put (some t) (.func (.func fi) #[] #[a.tmps.getD pr.t1 undef,a.tmps.getD pr.t2 undef])).eval) w=.ok (.defer (dfD fi (a.tmps.getD pr.t1 undef) (a.tmps.getD pr.t2 undef))) w:=r2;rw[r3];have S1:=S.put (dst:=some t) (d:=.junk) (v:=.func (.func fi) #[] #[a.tmps.getD pr.t1 undef,a.tmps.getD pr.t2 undef]) (by simpa [dI,qjb]using ht) trivial (λL hL=>by simp[cu,dC,bu]at hL) [];rw[Oper.uponIn_defer,e5];refine hQ _ (S1.act ?_ ?_ ?_) rfl λu hu=>?_;obtain⟨es,m1,m2,m3,m4⟩:=S1.dfr;refine⟨.inr (dfD fi (a.tmps.getD pr.t1 undef) (a.tmps.getD pr.t2 undef))::es,m1,?_,λE hE=>?_,λd hd=>?_⟩;rw[o5,<- m2];rfl;rcases kF.1 hE with e|hE
  cases e;exact m3 E hE;rcases kF.1 hd with e|hd
  cases e;exact zl3 _ rfl;exact m4 d hd;exact S1.size;exact S1.env;simp[Act.put,xI,qdB (qjE hu)]
def Jc(P:Program)(nt B:Nat)(w0:World)(h0:Fz)(pr:qm)(fi:FuncId)(K:Exit->St->Prop):Exit->Act->World->Prop :=
 λe a' w'=>∃g' σ',K e σ'/\bW P nt B w0 h0 g' σ' a' w'/\∀ch,e=.panic ch->a'.defers=[dfD fi (a'.tmps.getD pr.t1 undef) (a'.tmps.getD pr.t2 undef)]
def PhD(pr:qm)(fi:FuncId)(D:List Nat)(a0:Act):Bool→Prop|false=>a0.defers=[]|true=>a0.defers=[dfD fi (a0.tmps.getD pr.t1 undef) (a0.tmps.getD pr.t2 undef)]/\pr.t1∉D/\pr.t2∉D
theorem zbX{a b:List Nat}(h:nM a b=true):∀t∈a,t∉b:=λt ht hb=>by
 have:=Af.1 h t ht;simp at this;exact this hb
theorem zn4(fP:jk P Γ){fi:FuncId}(zl3:∀caps:Array Value,caps.size=2→Gx P {target := .fn (.func fi) caps,args := #[]})
    (aQ:dG):∀(c:Code)(dn:Bool)(n:Nat)(h0:Fz)(D:List Nat)(a0:Act)(K:Exit->St->Prop)(σ:St)(g:Gh)(a:Act)(w:World),
    (∀t∈eu c,t∈D)->Gw∉D->PhD pr fi D a0 dn->Au P Γ pr fi aQ dn c K σ->bW P aQ.nt B w0 h0 g σ a w->Kp D a0 a->c.wpIn (FR none) n P (Jc P aQ.nt B w0 h0 pr fi K) a w:=by
  intro c;have out:∀{dn:Bool}{h0:Fz}{D:List Nat}{a0:Act}{K:Exit->St->Prop}{g':Gh}{σ':St}{a':Act}{w':World}{e:Exit},Gw∉D->PhD pr fi D a0 dn->pnK dn K e σ'->bW P aQ.nt B w0 h0 g' σ' a' w'->Kp D a0 a'->Jc P aQ.nt B w0 h0 pr fi K e a' w':=by
    intro dn h0 D a0 K g' σ' a' w' e hr hph hK S' hk;cases e with
    | panic ch =>
      cases dn with
      | false=>exact hK.elim
      | true =>
        obtain⟨p1,p2,p3⟩:=hph;exact⟨g',σ',hK,S',λ_ _=>by rw[hk.2.2.1 hr,p1,hk.1 _ p2,hk.1 _ p3]⟩
    | normal=>exact⟨g',σ',hK,S',λ_ e=>by cases e⟩
    | exit id=>exact⟨g',σ',hK,S',λ_ e=>by cases e⟩
    | goto l=>exact⟨g',σ',hK,S',λ_ e=>by cases e⟩
    | ret=>exact⟨g',σ',hK,S',λ_ e=>by cases e⟩
    | outgrown=>exact⟨g',σ',hK,S',λ_ e=>by cases e⟩
  have leaf:∀(c:Code),(∀dn K σ,Au P Γ pr fi aQ dn c K σ=vc P Γ aQ c (pnK dn K) σ)->∀(dn:Bool)(n:Nat)(h0:Fz)(D:List Nat)(a0:Act)(K:Exit->St->Prop)(σ:St)(g:Gh)(a:Act)(w:World),
      (∀t∈eu c,t∈D)->Gw∉D->PhD pr fi D a0 dn->Au P Γ pr fi aQ dn c K σ->bW P aQ.nt B w0 h0 g σ a w->Kp D a0 a->c.wpIn (FR none) n P (Jc P aQ.nt B w0 h0 pr fi K) a w:=by
    intro c hc dn n h0 D a0 K σ g a w hD hr hph h S kN;rw[hc]at h;exact wpIn_mono (qG (Lp fP aQ c none n h0 D a0 _ σ g a w hD (Rnd.none h0) h S kN)) λe a' w' ⟨g',σ',hK,S',hk⟩=>out hr hph hK S' hk
  induction c with
  | seq x y _ Yj =>
    intro dn n h0 D a0 K σ g a w hD hr hph h S kN;have hDx:∀t∈eu x,t∈D:=λt ht=>hD t (dW.2 (.inl ht));have hDy:∀t∈eu y,t∈D:=λt ht=>hD t (dW.2 (.inr ht));simp only[Au]at h;split at h;rename_i id t EL;split at h;rename_i iw;simp only[gz,N8]at iw;obtain⟨⟨ht,hdn⟩,hdj⟩:=iw;subst hdn;have ht:t<aQ.nt:=by simpa [qjb]using ht
    have hph:a0.defers=[]:=hph;refine wpIn_seq (Zn zl3 EL ht S λa' S' fZ htm=>?_);have hd:=zbX hdj;obtain⟨_,_,_,rfl,n1,n2,_⟩:=LM EL;have zP1:PhD pr fi (eu y) a' true:=by
      refine⟨?_,hd _ (by simp),hd _ (by simp)⟩;rw[fZ,kN.2.2.1 hr,hph,htm _ (qjE n1),htm _ (qjE n2)]
    have hk:∀s g2,Au P Γ pr fi aQ true y K s->bW P aQ.nt B w0 h0 g2 s a' w->y.wpIn (FR none) n P (Jc P aQ.nt B w0 h0 pr fi K) a' w:=λs g2 hv S2 =>
      Yj true n h0 (eu y) a' K s g2 a' w (λ_ h=>h) (λh=>hr (hDy _ h)) zP1 hv S2 (Kp.refl _ _)
    unfold zdq at h;split at h;split at h;rename_i s hs;obtain⟨g2,S2⟩:=eF hs S';exact hk s g2 h S2;exact h.elim;exact hk _ g h S';exact h.elim
    · refine wpIn_seq (wpIn_mono (qG (Lp fP aQ x none n h0 D a0 _ σ g a w hDx (Rnd.none h0) h S kN)) ?_);rintro e a' w' ⟨g',σ',hK,S',jD⟩;cases e with|normal=>exact Yj dn n h0 D a0 K σ' g' a' w' hDy hr hph hK S' jD|exit id=>exact out hr hph hK S' jD|goto l=>exact out hr hph hK S' jD|ret=>exact out hr hph hK S' jD|panic ch=>exact out hr hph hK S' jD|outgrown=>exact out hr hph hK S' jD
  | skip=>exact leaf _ λdn K σ=>rfl
  | region i o d=>exact leaf _ λdn K σ=>rfl
  | cond c x y=>exact leaf _ λdn K σ=>rfl
  | block i x=>exact leaf _ λdn K σ=>rfl
  | loop x=>exact leaf _ λdn K σ=>rfl
  | scope x=>exact leaf _ λdn K σ=>rfl
  | exit i=>exact leaf _ λdn K σ=>rfl
  | goto i=>exact leaf _ λdn K σ=>rfl
  | label i=>exact leaf _ λdn K σ=>rfl
  | ret=>exact leaf _ λdn K σ=>rfl
  | rangeFunc f p x y=>exact leaf _ λdn K σ=>rfl
  | refuse x=>exact leaf _ λdn K σ=>rfl
theorem zn5{n:Nat}{a:Act}{w:World}{Q:Exit→Act→World→Prop}(h:wpOpsIn (FR none) n P (sK pr) Q [0,1] a w)(hQ:∀ch a' w',¬Q (.panic ch) a' w') :
  ∃w1 w2,(Instr.storeAt pr.y1 (a.tmps.getD pr.t1 undef) (.slice none 0 0)).run P w=.ok () w1/\(Instr.storeAt pr.y2 (a.tmps.getD pr.t2 undef) (.bool pr.e)).run P w1=.ok () w2/\Q .normal a w2:=by
 have one:∀(o:Oper)(ty:TypeId)(t:Nat)(v:Value)(w:World)(next:Act->World->Prop),o.op=.store ty (.tmp t) (.const v)->o.dst=none->o.wpIn (FR none) n P a w next Q->∃w1,(Instr.storeAt ty (a.tmps.getD t undef) v).run P w=.ok () w1/\next a w1:=by
  intro o ty t v w next ho hd h
  obtain⟨_,h⟩:=h;have e:o.semAt (FR none).round a.eval=(do Instr.storeAt ty (a.tmps.getD t undef) v;pure .skip):=by
   show execOp a.eval o=_;simp only[execOp,ho];rfl
  rw[e]at h;simp only[Sem.run_bind]at h;cases hr:(Instr.storeAt ty (a.tmps.getD t undef) v).run P w with
  | ok u w1 =>
   rw[hr]at h;simp only[Result.andThen_ok,Sem.run_pure,Oper.uponIn_skip,hd]at h;exact⟨w1,rfl,h⟩
  | halt hh w1 =>
   rw[hr]at h;cases hh with|panic v=>exact(hQ _ _ _ h).elim|_=>exact h.elim
 have w1:∀(o:Oper) tm,o.guard=none->Region.wanted o (yielded (sK pr) tm)=true:=λo tm e3=>by simp[Region.wanted,e3]
 have e0:(sK pr)[0]? = some (stA pr):=rfl;have e1:(sK pr)[1]? = some (stB pr):=rfl;simp only[wpOpsIn,e0,e1]at h;rw[eX (w1 _ _ rfl)]at h;obtain⟨wa,hr1,h⟩:=one _ _ _ _ _ _ rfl rfl h;rw[eX (w1 _ _ rfl)]at h;obtain⟨wb,hr2,h⟩:=one _ _ _ _ _ _ rfl rfl h;exact⟨wa,wb,hr1,hr2,h⟩
def zFS(P:Program)(pr:qm)(fi:FuncId):Prop:=∀(ch:List PanicEntry),pr.ok ch=true->∀(v1 v2:Value)(w:World),∃os:Array Obj,∀w1 w2,(Instr.storeAt pr.y1 v1 (.slice none 0 0)).run P {w with heap:=w.heap++os} = .ok () w1->(Instr.storeAt pr.y2 v2 (.bool pr.e)).run P w1=.ok () w2 ->
 (∀w,(invoke (dfD fi v1 v2).target (dfD fi v1 v2).args).run P w=.ok (.enter fi #[v1,v2]) w) /\
 ∀n,CallsDIn (FR none) n P fi #[v1,v2] (.panicking ch) w λe u' w'=>(∃v,e=.returned v)/\u'=.panicking (zed ch)/\w'=w2
structure zxk (P : Program) (pr : qm) (fi : FuncId) : Prop where
  idle:∀caps:Array Value,caps.size=2->Gx P {target:=.fn (.func fi) caps,args:=#[]}
  pan:zFS P pr fi
theorem Zo{ch:List PanicEntry}(h:pr.ok ch=true):settle (.panicking (zed ch))=.returning:=by
 unfold qm.ok at h;split at h;rfl;cases h
theorem zij{G:bI}(fP:jk P G){f fi:FuncId}(H:zxk P pr fi){args:List PA}{K:List PA→Prop}{aQ:dG}(hv:RI P G pr fi aQ f args K){w:World}{h0:Fz}{vs:List Value}(jE:RL (nN h0) args vs)(NZ:Hw h0 w) :
    Calls P f vs.toArray w λ e w'=>∃ (h':Fz) (rs:List PA) (v:Value),K rs/\e=.returned v/\qg h' rs v/\xx h0 w.heap.size w w' /\
      jP h0 h'/\Hw h' w'/\∀b o,h' b=some o->h0 b=some o\/w.heap.size<=b:=by
  unfold RI at hv;split at hv;rename_i fn sU;split at hv;rename_i c rP;split at hv;rename_i EH;simp only[gz,Ug]at EH;have S:=PZ (P:=P) (kP EH.1.1) EH.1.2 jE NZ;have hwp:=zn4 (B:=w.heap.size) (w0:=w) fP H.idle aQ c false 0 h0 (eu c) {tmps:=vs.toArray++Array.replicate (fn.ntmps-vs.toArray.size) undef,defers:=[]} _ _ _ _ _ (λ_ h=>h) (zbX EH.2 _ (by simp)) rfl hv S (Kp.refl _ _);refine(callsIn_wide (n:=0)).1 ?_;refine callsIn_of_wp_marks (F:=FR none) sU rP trivial (wpIn_mono hwp ?_);have PW:∀b,h0 b=some (.fz (.deferred (some [])))->b<w.heap.size:=λb h=>NZ.lt h
  have res:∀σ' g2 a2 w2,AY P fn K σ'->bW P aQ.nt w.heap.size w h0 g2 σ' a2 w2->∃v,(results fn a2.tmps).run P w2=.ok v w2/\∃(h':Fz)(rs:List PA)(v':Value),K rs/\Ending.returned v=.returned v'/\qg h' rs v'/\xx h0 w.heap.size w w2 /\
      jP h0 h'/\Hw h' w2/\∀b o,h' b=some o->h0 b=some o\/w.heap.size<=b:=by
    intro σ' g2 a2 w2 hf S2;unfold AY at hf;split at hf;rename_i l hl;obtain⟨u,v,hu,df,og⟩:=Hl S2 hl;obtain⟨h',S3,F⟩:=S2.freeze hu;exact⟨v,df,h',l,v,hf,rfl,og h' F,S3.below,S3.le0,S3.hw,S3.hn⟩;exact hf.elim
  rintro e a' w' ⟨g',σ',xn,S',EL⟩
  · have fin:AY P fn K σ'->LeavesInM (FR none) 0 P fn a'.tmps (λ e w'=>∃ (h':Fz) (rs:List PA) (v:Value),K rs/\e=.returned v/\qg h' rs v/\xx h0 w.heap.size w w' /\
        jP h0 h'/\Hw h' w'/\∀b o,h' b=some o->h0 b=some o\/w.heap.size<=b) a'.defers .returning w':=by
      intro hf;obtain⟨Ds,h1,h2,h3,h4⟩:=S'.dfr;exact zq PW Ds g' a' w' h1 h2 h3 h4 S' λg2 a2 w2 _ S2=>res σ' g2 a2 w2 hf S2
    cases e with
    | normal=>exact fin xn
    | ret=>exact fin xn
    | exit id=>exact xn.elim
    | goto l=>exact xn.elim
    | outgrown=>exact xn.elim
    | panic ch =>
    obtain⟨zFT,hvo⟩:=xn;have EL:=EL ch rfl;show LeavesInM (FR none) 0 P fn a'.tmps _ a'.defers (.panicking _) w';rw[EL];obtain⟨os,zw3⟩:=H.pan ch zFT (a'.tmps.getD pr.t1 undef) (a'.tmps.getD pr.t2 undef) w';have fB:∀k,k<w'.heap.size->(w'.heap++os)[k]? = w'.heap[k]?:=λk hk=>dqW hk
    have S1 : bW P aQ.nt w.heap.size w h0 g' σ' a' { w' with heap := w'.heap ++ os } := S'.world (h' := g'.h) (fun _ _ h => h) (S'.hw.same fun k o hk => fB k (S'.hw.lt hk)) (fun _ _ h => .inl h)
      ⟨rfl,rfl,rfl,by simp,kw _,λk hk=>fB k hk⟩
    have zCO:=GU (r:=none) (n:=0) (D:=[]) (a0:=a') (Q:=λe a2 w2=>e=.normal/\a2.tmps=a'.tmps/\∃g2 σ2,AY P fn K σ2/\bW P aQ.nt w.heap.size w h0 g2 σ2 a2 w2) fP (λj o ho t ht=>by
      match j,ho with|0,ho=>cases ho;cases ht|1,ho=>cases ho;cases ht|_+2,ho=>cases ho) hvo (S1.log []) (Kp.refl _ _) λσ2 hK g2 a2 w2 S2 hk2 _=>⟨rfl,?_,g2,σ2,hK,S2⟩
    obtain⟨w1,w2,hr1,hr2,_,_,g2,σ2,hf,S2⟩:=zn5 zCO fun ch a2 w2 h=>by cases h.1
    obtain⟨hinv,fJ⟩:=zw3 w1 w2 hr1 hr2;refine⟨by simp,.inr ⟨(λh=>by cases h),.func fi,_,fi,_,rfl,hinv w',(λ_ _=>trivial),?_⟩⟩;refine(fJ _).mono ?_;rintro e u' w3 ⟨⟨v,rfl⟩,rfl,rfl⟩;have Ih:settle (.panicking (zed ch))=.returning:=Zo zFT;show LeavesInM (FR none) 0 P fn a'.tmps _ [] (settle (.panicking (zed ch))) _;rw[Ih];exact res σ2 g2 a' _ hf S2;refine Array.ext (hk2.2.1) fun i h1 h2 => ?_;have:=hk2.1 i (by simp);rw[xI,xI,qdC h1,qdC h2]at this;exact this
  exact hv.elim;exact hv.elim;exact hv.elim
theorem FU{dn:Bool}{r:Exit×St}{s:St}{e:Exit}{K:Exit->St->Prop}(h:(pnC dn r).o=some (e,s))(hK:K e s):pnK dn K r.1 r.2:=by
 obtain⟨e1,s1⟩:=r;cases e1 with
 | panic ch =>
  cases dn with|true=>cases ae.ok_o h;exact hK|false=>exact(ae.no_o h).elim
 | _=>cases ae.ok_o h;exact hK
theorem zef{N:Nat}{fi:FuncId}{aQ:dG}{K:Exit->St->Prop}:∀(c:Code)(dn:Bool)(σ s:St)(e:Exit),(uj P Γ N pr fi aQ dn c σ).o=some (e,s)->K e s->Au P Γ pr fi aQ dn c K σ:=by
 have other:∀(c:Code)(dn:Bool)(σ s:St)(e:Exit),((vcC P Γ N aQ c σ).bind (pnC dn)).o=some (e,s)->K e s->vc P Γ aQ c (pnK dn K) σ:=by
  intro c dn σ s e h hK;obtain⟨⟨e1,s1⟩,h1,h2⟩:=ae.bind_o h;exact Rz c _ _ _ _ h1 (FU h2 hK)
 intro c
 induction c with
 | seq a b _ Um =>
  intro dn σ s e h hK;simp only[uj]at h;simp only[Au];split at h;split at h;obtain⟨s1,h1,h2⟩:=ae.bind_o h;exact VQ h1 (Um _ _ _ _ h2 hK);exact(ae.no_o h).elim
  ·obtain⟨⟨e1,s1⟩,h1,h2⟩:=ae.bind_o h;refine Rz a _ _ _ _ h1 ?_;cases e1 with|normal=>exact Um _ _ _ _ h2 hK|exit id=>exact FU (K:=K) (dn:=dn) (r:=(.exit id,s1)) h2 hK|goto id=>exact FU (K:=K) (dn:=dn) (r:=(.goto id,s1)) h2 hK|ret=>exact FU (K:=K) (dn:=dn) (r:=(.ret,s1)) h2 hK|panic ch=>exact FU (K:=K) (dn:=dn) (r:=(.panic ch,s1)) h2 hK|outgrown=>exact FU (K:=K) (dn:=dn) (r:=(.outgrown,s1)) h2 hK
 | skip=>exact other .skip
 | region i o d=>exact other (.region i o d)
 | cond c a b=>exact other (.cond c a b)
 | block i b=>exact other (.block i b)
 | loop b=>exact other (.loop b)
 | rangeFunc f p a b=>exact other (.rangeFunc f p a b)
 | exit i=>exact other (.exit i)
 | scope b=>exact other (.scope b)
 | label l=>exact other (.label l)
 | goto l=>exact other (.goto l)
 | ret=>exact other .ret
 | refuse s=>exact other (.refuse s)
theorem zik{T:Tabs}(hT:ay P T){f fi:FuncId}(hc:dm P f){N:Nat}{vv:List Nat}{aQ:dG}(H:zxk P pr fi):Ok P f (aD P (gq T vv) N pr fi aQ f):=by
 intro args rs hr w h0 vs jE NZ;have hv:RI P (gq T vv) pr fi aQ f args λQr=>Qr=rs:=by
  unfold aD at hr;unfold RI;split at hr;rename_i fn sU;split at hr;rename_i c hb;split at hr
  ·obtain⟨⟨e,s⟩,h1,h2⟩:=ae.bind_o hr;refine zef c _ _ _ _ h1 ?_;cases e with
   | normal=>simp only[zxj,AY,ae.opt_o h2]
   | ret=>simp only[zxj,AY,ae.opt_o h2]
   | panic ch =>
    simp only[zii]at h2;split at h2;rename_i hp;obtain⟨s2,h3,h4⟩:=ae.bind_o h2;exact⟨hp,ql _ _ _ _ h3 (by simp only[AY,ae.opt_o h4])⟩;exact(ae.no_o h2).elim
   | _=>exact(ae.no_o h2).elim
  exact(ae.no_o hr).elim;exact(ae.no_o hr).elim;exact(ae.no_o hr).elim
 refine⟨hc,(zij (hT.all vv) H hv jE NZ).mono ?_⟩;rintro e w' ⟨h',Qr,v,rfl,he⟩;exact⟨h',v,he⟩
end
end Go.Pm
namespace Go.Pm
section
variable(P:Program)(Γ:bI){A:Type}
def pnT(dn:Bool)(K:EK A):EK A:=λe s=>match e with
 | .panic ch=>match dn with|true=>K (.panic ch) s|false=>none
 | e=>K e s
def sqD(dn:Bool)(f:St->Option A)(K:EK A):EK A:=λe s=>match e with | .normal=>f s|e=>pnT dn K e s
def FV(N:Nat)(pr:qm)(fi:FuncId)(aQ:dG):Bool→Code→EK A→St→Option A
  | dn,.seq a b,K,σ=>match Bo pr fi a with
    | some (id,t)=>match Nat.blt t aQ.nt && !dn&&nM [pr.t1,pr.t2] (eu b)with|true=>(Du P aQ id ⟨(t,.junk)::σ.env,σ.aB,[]⟩).T (FV N pr fi aQ true b K)|false=>none
    | none=>xM P Γ N aQ a (sqD dn (FV N pr fi aQ dn b K) K) σ
  | dn,c,K,σ=>xM P Γ N aQ c (pnT dn K) σ
def zn6(pr:qm)(aQ:dG)(fn:Func)(K:List PA->Option A):EK A:=λe s=>match e with
 | .normal=>match kK P s fn.results.toList with|some r=>K r|none=>none
 | .ret=>match kK P s fn.results.toList with|some r=>K r|none=>none
 | .panic ch=>match pr.ok ch with
  | true=>opsT P Γ aQ.nt (sK pr) (λs=>match kK P s fn.results.toList with|some r=>K r|none=>none) 0 (sK pr).toList {s with log:=[]}
  | false=>none
 | _=>none
def zxl(N:Nat)(pr:qm)(fi:FuncId)(aQ:dG)(f:FuncId)(K:List PA->Option A)(args:List PA):Option A :=
 match P.funcs[f]? with
 | some fn=>match fn.body with
  | some c=>match Nat.beq aQ.nt fn.ntmps&&Nat.ble args.length aQ.nt&&nM [Gw] (eu c)with|true=>FV P Γ N pr fi aQ false c (zn6 P Γ pr aQ fn K) ⟨jd 0 args,[],[]⟩|false=>none
  | none=>none
 | none=>none
end
section
variable{P:Program}{Γ:bI}{A:Type}{N:Nat}{pr:qm}{fi:FuncId}{aQ:dG}
theorem zil{dn:Bool}{K:EK A}{r:Exit×St}:pnT dn K r.1 r.2=(pnC dn r).T λr=>K r.1 r.2:=by
 obtain⟨e,s⟩:=r;cases e with|panic ch=>cases dn<;>rfl|_=>rfl
theorem zFU{dn:Bool}{K:EK A}{c:ae (Exit×St)}:c.T (λr=>pnT dn K r.1 r.2)=(c.bind (pnC dn)).T λr=>K r.1 r.2:=by
 show c.T _=c.T _;congr 1;funext r;exact zil
theorem zeg:∀(c:Code)(dn:Bool)(K:EK A)(σ:St),FV P Γ N pr fi aQ dn c K σ=(uj P Γ N pr fi aQ dn c σ).T λr=>K r.1 r.2:=by
 intro c
 induction c with
 | seq a b _ ih =>
  intro dn K σ;simp only[FV,uj];cases Bo pr fi a with
  | some x =>
   obtain⟨id,t⟩:=x;simp only;cases Nat.blt t aQ.nt && !dn&&nM [pr.t1,pr.t2] (eu b)with
   | false=>rfl
   | true =>
    show(Du P aQ id _).T _=(Du P aQ id _).T _;congr 1;funext s;exact ih true K s
  | none =>
   simp only;rw[LH];show(vcC P Γ N aQ a σ).T _=(vcC P Γ N aQ a σ).T _;congr 1;funext r;obtain⟨e,s⟩:=r;cases e with|normal=>exact ih dn K s|panic ch=>exact zil (r:=(.panic ch,s))|_=>rfl
 | _ =>
  intro dn K σ;unfold FV uj;rw[LH];exact zFU
theorem zn7{f:FuncId}{K:List PA->Option A}{args:List PA}:(aD P Γ N pr fi aQ f args).T K=zxl P Γ N pr fi aQ f K args:=by
 unfold aD zxl;cases P.funcs[f]? with
 | none=>rfl
 | some fn =>
  simp only;cases fn.body with
  | none=>rfl
  | some c =>
   simp only;cases Nat.beq aQ.nt fn.ntmps&&Nat.ble args.length aQ.nt&&nM [Gw] (eu c)with
   | false=>rfl
   | true =>
    simp only;rw[zeg];show(uj P Γ N pr fi aQ false c _).T _=(uj P Γ N pr fi aQ false c _).T _;congr 1;funext r;obtain⟨e,s⟩:=r;cases e with
    | normal=>simp only[zn6,zii,ae.opt];cases kK P s fn.results.toList<;>rfl
    | ret=>simp only[zn6,zii,ae.opt];cases kK P s fn.results.toList<;>rfl
    | panic ch =>
     simp only[zn6,zii];cases pr.ok ch with
     | false=>rfl
     | true =>
      simp only;rw[wE];show(oN P Γ aQ.nt (sK pr) 0 (sK pr).toList _).T _=(oN P Γ aQ.nt (sK pr) 0 (sK pr).toList _).T _;congr 1;funext s;simp only;cases kK P s fn.results.toList<;>rfl
    | _=>rfl
theorem zFV [aH]{δ ρ:Type}[dE δ][dE ρ]{f:FuncId}{x:δ}{k:ρ->Option A}:(ae.ty (aD P Γ N pr fi aQ f) x:ae ρ).T k=zxl P Γ N pr fi aQ f (gW k) (dE.enc x):=by
 rw[<- zn7];show(aD P Γ N pr fi aQ f (dE.enc x)).T _=_;congr 1
end
end Go.Pm
namespace Go.Pm
variable [aH]
open Go.RowKit (Below)
section
variable{P:Program}
theorem zFW{h h3:Fz}{K:List Nat}{w w2:World}{B:Nat}{hx:Fz}(hK:∀b∈K,h b=none)(hw:Hw h w)(hle:jP (pinned h K w) h3)(hw3:Hw h3 w2)(hb:xx hx B w w2) :
  ∃h':Fz,(∀p x,Rep h3 p x->Rep h' p x)/\(∀b,h3 b=none->h' b=none/\(b∈K\/w.heap.size<=b))/\jP h h'/\Hw h' w2/\(∀b o,h' b=some o->h b=some o\/w.heap.size<=b\/b∈K)/\YA h K w w2:=by
 let h':Fz:=λb=>match h3 b with|some (.pin _)=>h b|x=>x
 have hnp:∀b o,h3 b=some o->(∀x,o ≠ .pin x)->h' b=some o:=λb o hb hx=>by
  show(match h3 b with|some (.pin _)=>h b|x=>x)=some o;rw[hb];cases o with|pin x=>exact(hx x rfl).elim|_=>rfl
 have hpn:∀b x,h3 b=some (.pin x)->h' b=h b:=λb x hb=>by
  show(match h3 b with|some (.pin _)=>h b|x=>x)=h b;rw[hb]
 have hnn:∀b,h3 b=none->h' b=none:=λb hb=>by
  show(match h3 b with|some (.pin _)=>h b|x=>x)=none;rw[hb]
 have ug:∀b y,pinned h K w b=some y->h3 b=some y:=λb y hb=>hle b y hb;have iw:∀b,b<w.heap.size->∃o,w.heap[b]? = some o:=λb hb=>⟨_,qdC hb⟩;refine⟨h',(λp x hr=>hr.mono' λb o hb ho=>hnp b o hb λx e=>by subst e;obtain⟨C,ty,fr,e⟩:=ho;cases e),λb hb=>⟨hnn b hb,?_⟩,λb x hb=>?_,λb x hb=>?_,λb x hb=>?_,⟨hb.os,hb.tape,hb.output,hb.size,hb.drawn,λk hk hkK=>?_⟩⟩;by_cases hbs:b<w.heap.size;refine .inl ?_;rcases dV (h:=h) (K:=K) (w:=w) b with⟨o,_,h2,_⟩|⟨h2,_⟩|⟨_,h2⟩
 have:=ug b _ h2;rw[hb]at this;cases this;exact h2;obtain⟨o,ho⟩:=iw b hbs;rw[ho]at h2;have:=ug b _ h2;rw[hb]at this;cases this;exact .inr omY;rcases dV (h:=h) (K:=K) (w:=w) b with⟨o,h1,h2,Jq⟩|⟨h2,_⟩|⟨_,h2⟩
 rw [h1]at hb;simp only [bQ]at hb;subst hb;exact hnp b _ (ug b _ h2) λx e=>by subst e;obtain⟨C,ty,fr,e⟩:=Jq;cases e
 rw[hK b h2]at hb;cases hb;obtain⟨o,ho⟩:=iw b (hw.lt hb);rw[ho]at h2;rw[hpn b _ (ug b _ h2)];exact hb
 ·cases h3b:h3 b with
  | none=>rw[hnn b h3b]at hb;cases hb
  | some y =>
   by_cases hy:∃o,y=.pin o;obtain⟨o,rfl⟩:=hy;rw[hpn b _ h3b]at hb;rcases dV (h:=h) (K:=K) (w:=w) b with⟨o',h1,h2,Jq⟩|⟨h2,_⟩|⟨_,h2⟩
   have:=ug b _ h2;rw[h3b]at this;simp only[bQ]at this;subst this;obtain⟨C,ty,fr,e⟩:=Jq;cases e;rw[hK b h2]at hb;cases hb;obtain⟨o1,ho1,hx1⟩:=hw b x hb;rw[ho1]at h2;have:=ug b _ h2;rw[h3b]at this;simp only[bQ,UF.pin.injEq]at this;subst this;obtain⟨o2,oh,OM⟩:=hw3 b _ h3b;simp only[UF.ok]at OM;subst OM;exact⟨_,oh,hx1⟩;rw [hnp b y h3b fun x e=>hy ⟨x,e⟩]at hb;simp only[bQ]at hb;subst hb;exact hw3 b _ h3b
 ·cases h3b:h3 b with
  | none=>rw[hnn b h3b]at hb;cases hb
  | some y =>
   by_cases hy:∃o,y=.pin o;obtain⟨o,rfl⟩:=hy;rw[hpn b _ h3b]at hb;exact .inl hb;rw [hnp b y h3b fun x e=>hy ⟨x,e⟩]at hb;simp only[bQ]at hb;subst hb;by_cases hbs:b<w.heap.size;rcases dV (h:=h) (K:=K) (w:=w) b with⟨o',h1,h2,Jq⟩|⟨h2,_⟩|⟨_,h2⟩
   have:=ug b _ h2;rw[h3b]at this;simp only[bQ]at this;subst this;exact .inl h1;exact .inr (.inr h2);obtain⟨o,ho⟩:=iw b hbs;rw[ho]at h2;have:=ug b _ h2;rw[h3b]at this;simp only[bQ]at this;exact(hy ⟨_,this⟩).elim;exact .inr (.inl omY)
 rcases dV (h:=h) (K:=K) (w:=w) k with⟨o',h1,h2,Jq⟩|⟨h2,_⟩|⟨_,h2⟩
 obtain⟨C,ty,fr,rfl⟩:=Jq;rw[hw3.fz (ug k _ h2),hw.fz h1];exact(hkK h2).elim;obtain⟨o,ho⟩:=iw k hk;rw[ho]at h2 ⊢;obtain⟨o2,oh,OM⟩:=hw3 k _ (ug k _ h2);simp only[UF.ok]at OM;subst OM;exact oh
def RJ(az:List PA)(e s b n:Nat)(get:Nat->List PV):St:=⟨jd 0 az++[(az.length,.cl (.vec 4095))],[(4095,.vec e s b n get)],[]⟩
theorem zim{nt m:Nat}{az:List PA}{w:World}{h:Fz}{B:Nat}{vs:List Value}{v:Value}{e s b n:Nat}{get:Nat→List PV}(EH:nt=m)(hlen:az.length+1≤nt)(jE:RL (nN h) az vs)(lM:v.oneCell'=true)(iF:tH get∧0<s)
    (mV:∃i z,P.info? e=some i/\i.size=s/\i.bytes=b/\i.zero=some z/\z.cells.size=s) (hV:zS h w B e s v n get) (hK:∀k,v.ownBlock=some k->B<=k/\h k=none) (hw:Hw h w) (hB:B<=w.heap.size) :
    bW P nt B w (pinned h v.ownBlock.toList w) ⟨pinned h v.ownBlock.toList w,λ_=>0,λ_=>v,λ_ _=>undef⟩ (RJ az e s b n get) {tmps:=(vs++[v]).toArray++Array.replicate (m-(vs++[v]).toArray.size) undef,defers:=[]} w:=by
  have hl:=jE.length;have hlo:∀L o,lk [(4095,AO.vec e s b n get)] L=some o->L=4095/\o=.vec e s b n get:=λL o h=>by
    rw[aW]at h;split at h;rename_i e1;exact⟨e1.symm,(Yg h).symm⟩;cases h
  have htm:∀t u,(vs++[v])[t]? = some u->((vs++[v]).toArray++Array.replicate (m-(vs++[v]).toArray.size) undef).getD t undef=u:=λt u hu=>by
    have iw:=(AL.1 hu).1;rw[xI,dqW (by simpa using iw)];simp only[qjI,hu,qdE]
  have zaI:∀t d,lk (RJ az e s b n get).env t=some d->(∃x,az[t]? = some x/\d=.one (IM x))\/(t=az.length/\d=.cl (.vec 4095)):=λt d ht=>by
    have ht:lk (jd 0 az++[(az.length,DV.cl (.vec 4095))]) t=some d:=ht;rw[gU]at ht;cases hk:lk (jd 0 az) t with
    | some y =>
      rw[hk]at ht;cases ht;obtain⟨x,hx,_,e1⟩:=qH az 0 t d hk;exact .inl ⟨x,by simpa using hx,e1⟩
    | none =>
      rw[hk]at ht;simp only[aW]at ht;split at ht;rename_i e1;exact .inr ⟨e1.symm,(Yg ht).symm⟩;cases ht
  refine⟨Marks.nil _ _,by simp;omega,?_,?_,?_,?_,P7 hw,λ_ _ h=>h,λb o h=>.inl h,xx.refl _ _ _,hB,?_,?_⟩;intro t d ht;rcases zaI t d ht with⟨x,hx,rfl⟩|⟨rfl,rfl⟩
  obtain⟨u,hu,X7⟩:=jE.get t x hx;rw[htm t u (by rw[qjA (AL.1 hu).1];exact hu)];exact KA (g:=⟨pinned h v.ownBlock.toList w,λ_=>0,λ_=>v,λ_ _=>undef⟩) (wC (λp x hr=>wB hr) X7);rw [htm az.length v (by rw [hl];simp)];exact⟨rfl,lM⟩;intro L o ho;obtain⟨rfl,rfl⟩:=hlo L o ho;obtain⟨xs,h1,h2⟩:=hV;exact⟨iF,mV,xs,h1,λi hi=>(h2 i hi).mono λ_ _ hr=>wB hr⟩;intro L o k ho hk;obtain⟨rfl,rfl⟩:=hlo L o ho;have hk:v.ownBlock=some k:=hk;refine⟨(hK k hk).1,?_⟩;show pinned h v.ownBlock.toList w k=none;rcases dV (h:=h) (K:=v.ownBlock.toList) (w:=w) k with⟨o,h1,_⟩|⟨_,h2⟩|⟨h2,_⟩
  rw[(hK k hk).2]at h1;cases h1;exact h2;exact(h2 (by rw[hk];simp)).elim;intro L o k L' o' ho kH _ _;rw[(hlo L o ho).1,(hlo L' o' kH).1];intro t d ht L hL;rcases zaI t d ht with⟨x,hx,rfl⟩|⟨rfl,rfl⟩
  rw[show cu (.one (IM x))=dC (IM x)from rfl,vY]at hL;simp at hL;simp [cu,dC,bu]at hL;subst hL;exact⟨_,by show lk [(4095,AO.vec e s b n get)] 4095=_;rw[aW,eX rfl]⟩;intro L o ho M hM;obtain⟨rfl,rfl⟩:=hlo L o ho;simp[dU]at hM
def LP(e s b:Nat)(fn:Func)(σ:St):Option (Nat×(Nat->List PV)):=match VV fn e s b σ with|some (n,get,[])=>some (n,get)|_=>none
def aG(P:Program)(N:Nat)(Γ:bI)(aQ:dG)(f:FuncId)(e s b:Nat)(az:List PA)(n:Nat)(get:Nat->List PV):ae (Nat×(Nat->List PV)) :=
 VU P N Γ aQ f (az.length+1) (λ_=>true) (RJ az e s b n get) (LP e s b)
theorem zin{e s b m:Nat}{fn:Func}{σ:St}{get:Nat->List PV}(h:LP e s b fn σ=some (m,get)):∃t L,fn.results = #[.tmp t]/\lk σ.env t=some (.one (.c (.vec L)))/\lk σ.aB L=some (.vec e s b m get):=by
 unfold LP at h;split at h;rename_i n g hk;cases h;unfold VV at hk;split at hk;rename_i t r hr;split at hk;rename_i L hL;split at hk;rename_i e' s' b' n' g' hO;split at hk;rename_i hc;cases hk;simp only[gz]at hc;have e1:=kP hc.1;have e2:=kP hc.2.1;have e3:=kP hc.2.2;subst e1 e2 e3;exact⟨t,L,by rw[<- qdc (xs:=fn.results),hr],hL,hO⟩;split at hk;cases hk;cases hk;cases hk;cases hk;cases hk;cases hk;cases h
theorem zxm{G:bI}(fP:jk P G){N:Nat}{aQ:dG}{f:FuncId}{e s b:Nat}(hc:dm P f):fU P f (.grow e s b (aG P N G aQ f e s b)):=by
  intro w h base az vs v n get m get' hF jE lM iF mV hV hK hw hB;refine⟨hc,?_⟩;obtain⟨fn,c,sU,rP,EH,_,hv⟩:=RF hF;simp only[gz,Ug]at EH;have S:=zim (P:=P) (kP EH.1) EH.2 jE lM iF mV hV hK hw hB;have hv:=hv (λex σ=>(match ex with | .normal=>True | .ret=>True|_=>False)/\LP e s b fn σ=some (m,get')) (λs hs=>⟨⟨trivial,hs⟩,⟨trivial,hs⟩⟩);have hwp:=Lp (B:=base) (w0:=w) fP aQ c none 0 (pinned h v.ownBlock.toList w) (eu c) _ _ _ _ _ _ (λ_ h=>h) (Rnd.none _) hv S (Kp.refl _ _);refine(callsIn_wide (n:=0)).1 ?_;refine callsIn_of_wp_marks (F:=FR none) sU rP trivial (wpIn_mono (qG hwp) ?_);have PW:∀b,pinned h v.ownBlock.toList w b=some (.fz (.deferred (some [])))->b<base:=λb hb=>by
    rcases dV (h:=h) (K:=v.ownBlock.toList) (w:=w) b with⟨o,h1,h2,h3⟩|⟨_,h2⟩|⟨_,h2⟩
    rw [h2]at hb;simp only [bQ]at hb;subst hb;obtain⟨C,ty,fr,e⟩:=h3;cases e;rw[h2]at hb;cases hb;rw [h2]at hb;obtain⟨o,_,e⟩:=Ye.1 hb;cases e
  rintro ex a' w' ⟨g',σ',⟨hex,hf⟩,S',kN⟩;obtain⟨Ds,h1,h2,h3,h4⟩:=S'.dfr
  have fin:=zq (n:=0) (fn:=fn) (R:=λ r w'=>∃ (h':Fz) (v':Value),r=.returned v'/\v'.oneCell'=true/\tH get'/\zS h' w' base e s v' m get' /\
        (∀k,v'.ownBlock=some k->(k∈v.ownBlock.toList\/w.heap.size<=k)/\h' k=none)/\jP h h'/\Hw h' w'/\(∀b o,h' b=some o->h b=some o\/w.heap.size<=b\/b∈v.ownBlock.toList)/\YA h v.ownBlock.toList w w')
    PW Ds g' a' w' h1 h2 h3 h4 S' λg2 a2 w2 ht S2=>by
      obtain⟨t,L,hr,hL,hO⟩:=zin hf;have df:(results fn a2.tmps).run P w2=.ok (a2.tmps.getD t undef) w2:=by
        simp only[results,hr];simp
      obtain⟨htv,Vk⟩:=S2.env t _ hL;obtain⟨zg3,_,ys,Yd,hrr⟩:=S2.obj L _ hO;obtain⟨h',q1,q2,q3,q4,q5,q6⟩:=zFW (h:=h) (K:=v.ownBlock.toList) (w:=w) (λb hb=>(hK b (by simpa using hb)).2) hw S2.le0 S2.hw S2.below;exact⟨_,df,h',_,rfl,Vk,zg3.1,⟨ys,by rw[htv];exact Yd,λi hi=>(hrr i hi).mono λp x hr=>q1 p x hr⟩,λk hk=>(by
        have:=q2 k (S2.own L _ k hO (by rw[htv]at hk;exact hk)).2;exact⟨this.2,this.1⟩),q3,q4,q5,q6⟩
  cases ex with|normal=>exact fin|ret=>exact fin|exit id=>exact hex.elim|goto l=>exact hex.elim|panic ch=>exact hex.elim|outgrown=>exact hex.elim
theorem zxn{T:Tabs}(h:ay P T){f:FuncId}(hc:dm P f){N e s b:Nat}{vv:List Nat}{aQ:dG}:fU P f (.grow e s b (aG P N (gq T vv) aQ f e s b)):=zxm (h.all vv) hc
end
/-! The same of typed data. -/
section
variable{δ α A:Type}[dE δ][bG α]
def ae.tyW(C:List PA->Nat->(Nat->List PV)->ae (Nat×(Nat->List PV)))(x:δ×Sl α):ae (Sl α):=(C (dE.enc x.1) x.2.len λi=>bG.enc (x.2.get i)).bind λr=>.chk (OY (bG.ck (α:=α) (r.2 0))) (.ok ⟨r.1,λi=>(bG.dec (r.2 i)).1⟩)
def ae.unW(F:δ×Sl α->ae (Sl α))(az:List PA)(n:Nat)(get:Nat->List PV):ae (Nat×(Nat->List PV)):=.chk (dE.ck (α:=δ) az&&OY (bG.ck (α:=α) (get 0))) ((F (dE.dec az,⟨n,λi=>(bG.dec (get i)).1⟩)).mp λw=>(w.len,λi=>bG.enc (w.get i)))
theorem zxo{P:Program}{f:FuncId}{e s b:Nat}{C:List PA->Nat->(Nat->List PV)->ae (Nat×(Nat->List PV))}(H:fU P f (.grow e s b C)):fU P f (.grow e s b (ae.unW (ae.tyW C:δ×Sl α->ae (Sl α)))):=by
 intro w h base az vs v n get m get' hr jE lM iF mV hV hK hw hB;obtain⟨h1,h2⟩:=ae.chk_o hr;rw[gz]at h1;obtain⟨w',h3,h4⟩:=ae.mp_o h2;obtain⟨⟨n',g'⟩,h5,h6⟩:=ae.bind_o h3;obtain⟨h7,h8⟩:=ae.chk_o h6;have h8:=ae.ok_o h8;subst h8;cases h4;obtain⟨hc,hk⟩:=H w h base _ vs v n _ _ _ h5 (dE.up jE h1.1) lM ⟨λ_ _=>bG.sm _ _,iF.2⟩ mV (hV.up (nK iF.1 h1.2)) hK hw hB;refine⟨hc,hk.mono ?_⟩;rintro r w2 ⟨h',v',a1,a2,a3,a4,a5⟩;exact⟨h',v',a1,a2,λ_ _=>bG.sm _ _,a4.up (nK a3 h7),a5⟩
def zxp(k:Sl α->Option A)(r:Nat×(Nat->List PV)):Option A:=match OY (bG.ck (α:=α) (r.2 0))with|true=>k ⟨r.1,λi=>(bG.dec (r.2 i)).1⟩|false=>none
theorem zFX{P:Program}{Γ:bI}{N:Nat}{aQ:dG}{f:FuncId}{e s b:Nat}{x:δ×Sl α}{k:Sl α→Option A} :
  (ae.tyW (aG P N Γ aQ f e s b) x).T k=znZ P Γ N aQ f ((dE.enc x.1).length+1) (λ_=>true) (RJ (dE.enc x.1) e s b x.2.len λi=>bG.enc (x.2.get i)) (LP e s b) (zxp k):=by
 rw[<- zbU];rfl
end
end Go.Pm
