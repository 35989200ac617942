/- Part 3: framework, functions, plain laws. -/
import Derived.Test.YtjkijdhdbhooiaaGreatQ2
import Derived.RangeFuncNested
import Derived.Scope
set_option linter.all false
noncomputable section
namespace Go.Pm
variable [aG]
open Go.RowKit (Below)
def Vj(h h':Fz):Prop:=∀b o,h b=some o->(∃C ty fr,o=.fz (.cells C ty fr))->h' b=some o
theorem jX.c{h h':Fz}(hl:jX h h'):Vj h h':=λb o hb _=>hl b o hb
section
variable{P:Program}{Γ:bM}{nt B:Nat}{w0:World}{h0:Fz}{g:Gh}{σ:St}{a:Act}{w:World}{r:Option Nat}{n i:Nat}{Q:Exit->Act->World->Prop}
abbrev Gh.re(g:Gh)(h:Fz):Gh:=⟨h,g.bk,g.sv,g.iv⟩
theorem zg0{h:Fz}(hl:Vj g.h h){c:Cl}{x:Value}(hc:iV g c x):iV (g.re h) c x:=by
 cases c with
 | p v=>exact Rep.mono' hl hc
 | clo f caps=>obtain⟨cv,e,hr⟩:=hc;exact⟨cv,e,qw (λ_ _ hp=>Rep.mono' hl hp) (λ_ _=>rfl) hr⟩
 | _=>exact hc
theorem zsp{h:Fz}(hl:Vj g.h h):∀{cs:List Cl}{vs:List Value},RL (iV g) cs vs->RL (iV (g.re h)) cs vs:=λhc=>hc.mono λ_ _=>zg0 hl
theorem zg1{h:Fz}(hl:Vj g.h h){d:D1}{x:Value}(hd:zS g d x):zS (g.re h) d x:=by
 cases d with
 | c y=>exact zg0 hl hd
 | agg cs=>obtain⟨vs,rfl,hr⟩:=hd;exact⟨vs,rfl,zsp hl hr⟩
theorem Y0{h:Fz}(hl:Vj g.h h){d:DV}{x:Value}(hd:qH g d x):qH (g.re h) d x:=by
 cases d with
 | one y=>exact zg1 hl hd
 | tup ds=>obtain⟨vs,rfl,hr⟩:=hd;exact⟨vs,rfl,hr.mono λ_ _=>zg1 hl⟩
theorem Y1{h:Fz}(hl:Vj g.h h){L:Nat}{o:AO}(ho:NS P g w B L o):NS P (g.re h) w B L o:=by
 cases o with
 | box ty cs=>obtain⟨C,hC,hr⟩:=ho;exact⟨C,hC,zsp hl hr⟩
 | fbox cs=>obtain⟨C,ty,fr,hC,hr⟩:=ho;exact⟨C,ty,fr,hl _ _ hC ⟨_,_,_,rfl⟩,hr.mono λ_ _=>Rep.mono' hl⟩
 | vec e s b n get=>obtain⟨h1,h2,xs,hx,hr⟩:=ho;exact⟨h1,h2,xs,hx,λi hi=>(hr i hi).mono λ_ _=>Rep.mono' hl⟩
 | fvec s n get=>exact⟨Rep.mono' hl ho.1,ho.2⟩
 | vv te bb e s b n ln get =>
  obtain⟨h1,h2,h3,h4,h5,h6⟩:=ho;exact⟨h1,h2,h3,h4,λi hi=>by obtain⟨h7,h70,xs,hx,hr⟩:=h5 i hi;exact⟨h7,h70,xs,hx,λj hj=>(hr j hj).mono λ_ _=>Rep.mono' hl⟩,h6⟩
 | vt te bb e s b n ln get o =>
  obtain⟨h1,h2,h3,h4,h41,h42,h5,h6⟩:=ho;exact⟨h1,h2,h3,h4,h41,h42,λi hi ho=>by obtain⟨h7,h70,xs,hx,hr⟩:=h5 i hi ho;exact⟨h7,h70,xs,hx,λj hj=>(hr j hj).mono λ_ _=>Rep.mono' hl⟩,h6⟩
 | mo kt vt q n F=>exact ho
 | gone=>trivial
def Fz.add(h:Fz)(b:Nat)(o:Obj):Fz:=λk=>if k=b then some (.fz o)else h k
def Fz.del(h:Fz)(b:Nat):Fz:=λk=>if k=b then none else h k
theorem Fz.add_same{h:Fz}{b:Nat}{o:Obj}:h.add b o b=some (.fz o):=dH rfl
theorem Fz.add_other{h:Fz}{b k:Nat}{o:Obj}(hk:k≠b):h.add b o k=h k:=dM hk
theorem Fz.del_same{h:Fz}{b:Nat}:h.del b b=none:=dH rfl
theorem Fz.del_other{h:Fz}{b k:Nat}(hk:k≠b):h.del b k=h k:=dM hk
theorem Fz.le_add{h:Fz}{b:Nat}{o:Obj}(hb:h b=none):jX h (h.add b o):=λk x hk=>by
 rw[Fz.add_other (λe=>by subst e;rw[hb]at hk;cases hk)];exact hk
theorem bK.hide(S:bK P nt B w0 h0 g σ a w){b:Nat}{o:Obj}(hb:g.h b=none)(hw:w.heap[b]? = some o)(hB:B≤b)(vF:∀L o,lk σ.ay L=some o→¬gy g L o b) :
  bK P nt B w0 (h0.add b o) (g.re (g.h.add b o)) σ a w:=by
 have hle:=Fz.le_add (o:=o) hb;have TU:h0 b=none:=by
  cases h:h0 b with|none=>rfl|some x=>rw[S.le0 b x h]at hb;cases hb
 refine⟨S.dfr.mono hle,S.size,λt d ht=>Y0 hle.c (S.env t d ht),λL x hL=>Y1 hle.c (S.obj L x hL),λL x k hL hk=>?_,S.sep,?_,?_,?_,?_,S.bs,S.clE,S.clO⟩;obtain⟨h1,h2⟩:=S.own L x k hL hk;refine⟨h1,?_⟩;show g.h.add b o k=none;rw[Fz.add_other (λe=>vF L x hL (by rw[<- e];exact hk))];exact h2;intro k x hk;by_cases h:k=b;subst h;have hk:g.h.add k o k=some x:=hk;rw[Fz.add_same]at hk;simp only[bG]at hk;subst hk;exact⟨o,hw,rfl⟩;have hk:g.h.add b o k=some x:=hk;rw[Fz.add_other h]at hk;exact S.hw k x hk;intro k x hk;show g.h.add b o k=some x;by_cases h:k=b;subst h;rw[Fz.add_same]at hk ⊢;exact hk;rw[Fz.add_other h]at hk ⊢;exact S.le0 k x hk;intro k x hk;have hk:g.h.add b o k=some x:=hk;by_cases h:k=b;exact .inr (h▸hB);rw[Fz.add_other h]at hk ⊢;exact S.hn k x hk;exact⟨S.below.os,S.below.tape,S.below.output,S.below.size,S.below.drawn,λk hk=>S.below.block k hk⟩
theorem bK.unhide{b:Nat}{o:Obj}(S:bK P nt B w0 (h0.add b o) g σ a w)(hB:B≤b)(TU:h0 b=none)(hc:o.isCells=false)(hm:∀ds,o ≠ .deferred ds) :
  g.h b=some (.fz o)/\(∀L x,lk σ.ay L=some x->¬gy g L x b)/\w.heap[b]? = some o/\bK P nt B w0 h0 (g.re (g.h.del b)) σ a w:=by
 have hb:g.h b=some (.fz o):=S.le0 b _ Fz.add_same;have hl:Vj g.h (g.h.del b):=λk x hk hx=>by
  rw[Fz.del_other];exact hk;intro e;subst e;rw[hb]at hk;simp only[bG]at hk;subst hk;obtain⟨C,ty,fr,hx⟩:=hx;cases hx;cases hc
 have hwb:w.heap[b]? = some o:=S.hw.fz hb;refine⟨hb,(λL x hL hk=>by(have:=(S.own L x b hL hk).2;rw[hb]at this;cases this)),hwb,?_⟩;refine⟨?_,S.size,λt d ht=>Y0 hl (S.env t d ht),λL x hL=>Y1 hl (S.obj L x hL),λL x k hL hk=>?_,S.sep,?_,?_,?_,?_,S.bs,S.clE,S.clO⟩;obtain⟨Ds,h1,h2,h3,h4⟩:=S.dfr;refine⟨Ds,h1,h2,λD hD=>⟨(h3 D hD).1,?_⟩,h4⟩;show g.h.del b D=_;rw[Fz.del_other];exact(h3 D hD).2;intro e;subst e;have:=(h3 D hD).2;rw[hb]at this;simp only[bG,FzO.fz.injEq]at this;exact hm _ this;obtain⟨h1,h2⟩:=S.own L x k hL hk;refine⟨h1,?_⟩;show g.h.del b k=none;unfold Fz.del;split;rfl;exact h2;intro k x hk;have hk:g.h.del b k=some x:=hk;unfold Fz.del at hk;split at hk;cases hk;exact S.hw k x hk;intro k x hk;have hkb:k≠b:=λe=>by subst e;rw[TU]at hk;cases hk
 show g.h.del b k=some x;rw[Fz.del_other hkb];exact S.le0 k x (by rw[Fz.add_other hkb];exact hk);intro k x hk;have hk:g.h.del b k=some x:=hk;by_cases h:k=b;exact .inr (h▸hB);rw [Fz.del_other h]at hk;rcases S.hn k x hk with h1|h1
 rw[Fz.add_other h]at h1;exact .inl h1;exact .inr h1;exact⟨S.below.os,S.below.tape,S.below.output,S.below.size,S.below.drawn,λk hk=>S.below.block k hk⟩
theorem bK.putObj(S:bK P nt B w0 h0 g σ a w){b:Nat}(o:Obj)(hb:g.h b=none)(hB:B<=b)(vF:∀L x,lk σ.ay L=some x->¬gy g L x b):bK P nt B w0 h0 g σ a (w.putObj b o):=by
  have iK:∀k,k≠b->(w.putObj b o).heap[k]? = w.heap[k]?:=λk hk=>World.putObj_heap_other hk
  refine S.change (g' := g) (zT := σ.ay) (fun L _ _ => iO.refl g L) (fun _ _ h => h) (S.hw.same fun k x hk => iK k fun e => by subst e; rw [hb] at hk; cases hk) (fun _ _ h => .inl h)
    ⟨rfl,rfl,rfl,by simp,jy _,λk hk=>iK k omY⟩ ?_ S.own S.sep (λL o h=>⟨o,h⟩) S.clO
  intro L x hL;exact jH (S.obj L x hL) (iO.refl g L) (λM _=>iO.refl g M) (λ_ _ h=>h) λk hk=>iK k λe=>by subst e;exact vF L x hL hk
theorem bK.act(S:bK P nt B w0 h0 g σ a w){a':Act}(hd:Marks P B g.h a'.defers)(hs:nt<=a'.tmps.size)(he:∀t d,lk σ.env t=some d->qH g d (a'.tmps.getD t undef)):bK P nt B w0 h0 g σ a' w :=
 ⟨hd,hs,he,S.obj,S.own,S.sep,S.hw,S.le0,S.hn,S.below,S.bs,S.clE,S.clO⟩
theorem bK.envs(S:bK P nt B w0 h0 g σ a w){env:List (Nat×DV)}(he:∀t d,lk env t=some d→qH g d (a.tmps.getD t undef))(hl:∀t d,lk env t=some d→∀L∈bQ d,∃o,lk σ.ay L=some o)
    (l:List (Nat×Nat×Nat)):bK P nt B w0 h0 g ⟨env,σ.ay,l⟩ a w :=
  ⟨S.dfr,S.size,he,S.obj,S.own,S.sep,S.hw,S.le0,S.hn,S.below,S.bs,hl,S.clO⟩
theorem fold_size : ∀ (l : List (Nat × Value)) (t : Array Value), (l.foldl (fun t (p, v) => t.setIfInBounds p v) t).size = t.size|[],t=>rfl|(p,v)::l,t=>by rw[qdy,fold_size l];simp
theorem Lm : ∀ (l : List (Nat × Value)) (t : Array Value) (k : Nat), (∀ x ∈ l, x.1 ≠ k) → (l.foldl (fun t (p, v) => t.setIfInBounds p v) t).getD k undef = t.getD k undef
  | [],t,k,_=>rfl
  | (p,v)::l,t,k,h=>by
    rw[qdy,Lm l _ k λx hx=>h x (jB _ hx)];have hp:p≠k:=h (p,v) jM;simp[yP,qdv hp]
theorem za8(nt0:Nat):∀(ps:List Nat)(ys:List PA)(us:List Value)(e env:List (Nat×DV))(t:Array Value),pI ps ys e=some env->RL (pJ g.h) ys us->(∀p∈ps,p<t.size) ->
  (∀k d,lk e k=some d->qH g d (t.getD k undef)) ->
  us.length=ps.length/\∀k d,lk env k=some d->qH g d (((ps.zip us).foldl (λt (p,v)=>t.setIfInBounds p v) t).getD k undef)
 | [],[],us,e,env,t,h,hr,_,he=>by
  simp only[pI,bG]at h;subst h;cases us with|nil=>exact⟨rfl,he⟩|cons=>exact hr.elim
 | p::ps,y::ys,[],e,env,t,h,hr,_,he=>hr.elim
 | p::ps,y::ys,u::us,e,env,t,h,hr,hp,he=>by
  simp only[pI]at h;have jv:=hp p jM;obtain⟨h1,h2⟩:=za8 nt0 ps ys us _ env (t.setIfInBounds p u) h hr.2 (λq hq=>by have:=hp q (jB _ hq);simpa using this) (λk d hk=>by
   rw[aS]at hk;split at hk;rename_i e1;simp only[bG]at hk;subst hk;subst e1;rw[show(t.setIfInBounds p u).getD p undef=u by simp[yP,jv]];exact Po hr.1;rename_i e1;have:=he k d hk;rw[show(t.setIfInBounds p u).getD k undef=t.getD k undef by simp[yP,qdv e1]];exact this)
  exact⟨by simp[h1],h2⟩
 | [],_::_,_,_,_,_,h,_,_,_=>by simp[pI]at h
 | _::_,[],_,_,_,_,h,_,_,_=>by simp[pI]at h
theorem PQ:∀(ps:List Nat)(ys:List PA)(e env:List (Nat×DV)),pI ps ys e=some env→∀k d,lk env k=some d→lk e k=some d∨bQ d=[]
  | [],[],e,env,h,k,d,hk=>by simp only[pI,bG]at h;subst h;exact .inl hk
  | p::ps,y::ys,e,env,h,k,d,hk=>by
    simp only[pI]at h;rcases PQ ps ys _ env h k d hk with h1|h1
    rw [aS]at h1;split at h1;simp only[bG]at h1;subst h1;exact .inr (yS y);exact .inl h1;exact .inr h1
  | [],_::_,_,_,h,_,_,_=>by simp[pI]at h
  | _::_,[],_,_,h,_,_,_=>by simp[pI]at h
theorem bK.up(S:bK P nt B w0 h0 g σ a w):bK P nt B w0 g.h g σ a w :=
 ⟨S.dfr,S.size,S.env,S.obj,S.own,S.sep,S.hw,λ_ _ h=>h,λ_ _ h=>.inl h,
  ⟨S.below.os,S.below.tape,S.below.output,S.below.size,S.below.drawn,λk hk=>S.below.block k hk⟩,S.bs,S.clE,S.clO⟩
theorem bK.down{h1:Fz}(S:bK P nt B w0 h1 g σ a w)(hl:jX h0 h1)(hn:∀b o,h1 b=some o->h0 b=some o\/B<=b):bK P nt B w0 h0 g σ a w :=
 ⟨S.dfr,S.size,S.env,S.obj,S.own,S.sep,S.hw,λb o h=>S.le0 b o (hl b o h),λb o h=>by
   rcases S.hn b o h with h|h
   exact hn b o h;exact .inr h,
  ⟨S.below.os,S.below.tape,S.below.output,S.below.size,S.below.drawn,λk hk=>S.below.block k hk⟩,S.bs,S.clE,S.clO⟩
theorem Y2{k:Keep}{σ s:St}(h:xM P k σ=some s):∀t d,lk s.env t=some d->t∈k.tmps:=by
 unfold xM at h;split at h;cases h;split at h;cases h;split at h;cases h;simp only[]at h;split at h;simp only [bG]at h;subst h;intro t d ht;obtain⟨_,_,_,h1⟩:=kV ht;exact h1;cases h
theorem zm1{k a b e:Nat}{σ:St}:∀t d,lk (nf1 P k a b e σ).env t=some d->∃d',lk σ.env t=some d':=by
 have key:∀x y,lk σ.env a=some y->∀t d,lk (Yn a x σ.env) t=some d->∃d',lk σ.env t=some d':=by
  intro x y hy t d ht;rw[CG ⟨y,hy⟩,aS]at ht;split at ht;rename_i e;exact⟨y,e▸hy⟩;exact⟨d,ht⟩
 unfold nf1
 repeat' split
 all_goals first
  | exact λt d ht=>⟨d,ht⟩
  | exact key _ _ (by assumption)
theorem Hf:∀{l:List (Nat×Nat×Nat×Nat)}{σ:St},∀t d,lk (IX P l σ).env t=some d→∃d',lk σ.env t=some d'
  | [],_,_,d,ht=>⟨d,ht⟩
  | (_,_,_,_)::l,_,t,d,ht=>by
    obtain⟨d',h2⟩:=Hf (l:=l) t d ht;exact zm1 t d' h2
theorem FH{k:Keep}{σ s:St}(h:canon P k σ=some s):∀t d,lk s.env t=some d->t∈k.tmps:=by
 unfold canon at h;split at h;split at h;rename_i s1 h1;intro t d ht;cases h;obtain⟨d',h2⟩:=Hf t d ht;exact Y2 h1 t d' h2;cases h;cases h
def Rnd(r:Option Nat)(h0:Fz):Prop:=∀l,r=some l->∃rec:Loop,h0 l=some (.fz (.loop rec))
theorem Rnd.none(h0:Fz):Rnd none h0:=λl h=>by cases h
theorem Oh(S:bK P nt B w0 h0 g σ a w)(hR:Rnd r h0)(fn:FuncId)(ps:Array Tmp)(x y:Code) :
  ∃(l:Nat)(mark:List Deferred)(w1:World)(d:Nat)(h1:Fz),(Instr.enterLoop fn a.tmps ps x y r).run P w=.ok (l,mark) w1/\w.heap.size<=l /\
   w1.heap[l]? = some (.loop {state:=.ready,pending:=none,fn,tmps:=a.tmps,params:=ps,assign:=x,body:=y,defers:=d})/\jX g.h h1/\h1 l=none /\
   bK P nt B w0 h0 (g.re h1) σ {a with defers:=mark++a.defers} w1/\∀d∈mark,∃b,d.target=.collected b:=by
 have zll:∀k,w.heap.size<=k->g.h k=none:=λk hk=>by
  cases h:g.h k with|none=>rfl|some x=>exact absurd (uj S.hw h) omY
 cases r with
 | none =>
  have hb0:g.h w.heap.size=none:=zll _ (jy _);have hw1:((w.alloc (.deferred (some []))).alloc (.loop {state:=.ready,pending:=none,fn,tmps:=a.tmps,params:=ps,assign:=x,body:=y,defers:=w.heap.size})).heap[w.heap.size]? = some (.deferred (some [])):=by
   exact(Below.heap_alloc _ _ _ (by simp)).trans (World.alloc_heap_new w _)
  have qV:Below w.heap.size w ((w.alloc (.deferred (some []))).alloc (.loop {state:=.ready,pending:=none,fn,tmps:=a.tmps,params:=ps,assign:=x,body:=y,defers:=w.heap.size})) :=
   ((Below.refl _ w).alloc (jy _) _).alloc (by simp) _
  have S1:=S.world (h':=g.h.add w.heap.size (.deferred (some []))) (Fz.le_add hb0) (λk z hk=>by
    by_cases h:k=w.heap.size;subst h;rw[Fz.add_same]at hk;simp only[bG]at hk;subst hk;exact⟨_,hw1,rfl⟩;rw [Fz.add_other h]at hk;obtain⟨o,h1,h2⟩:=S.hw k z hk;exact⟨o,by rw[qV.block k (S.hw.lt hk)];exact h1,h2⟩)
   (λk z hk=>by
    by_cases h:k=w.heap.size;exact .inr omY;rw[Fz.add_other h]at hk;exact .inl hk) (.of ⟨qV,jy _⟩)
  refine⟨w.heap.size+1,[{target:=.collected w.heap.size,args:=#[]}],_,w.heap.size,g.h.add w.heap.size (.deferred (some [])),run_enterLoop_outer fn a.tmps ps x y,omY,?_,Fz.le_add hb0,?_,?_,λd hd=>⟨w.heap.size,by rw[kK.1 hd]⟩⟩;have:=World.alloc_heap_new (w.alloc (.deferred (some []))) (.loop {state := .ready,pending:=none,fn,tmps:=a.tmps,params:=ps,assign:=x,body:=y,defers:=w.heap.size});rwa[World.size_alloc]at this;rw[Fz.add_other omY];exact zll _ omY
  ·refine S1.act ?_ S1.size S1.env;obtain⟨Ds,h1,h2,h3,h4⟩:=S.dfr;refine⟨.inl w.heap.size :: Ds,qdc.2 ⟨λ hm=>?_,h1⟩,by simp[h2,deD],λ D hD=>?_,λ d hd=>?_⟩;have:=uj S.hw (h3 _ (JX hm)).2;omega
   rotate_left
   rcases jW.1 hd with e|hd
   cases e;exact h4 d hd;rcases jW.1 hD with e|hD
   cases e;exact⟨S.bs,Fz.add_same⟩;exact⟨(h3 D hD).1,Fz.le_add hb0 _ _ (h3 D hD).2⟩
 | some l0 =>
  obtain⟨rec,zSp⟩:=hR l0 rfl;have hl0:w.heap[l0]? = some (.loop rec):=S.hw.fz (S.le0 _ _ zSp);have qV:Below w.heap.size w (w.alloc (.loop {state:=.ready,pending:=none,fn,tmps:=a.tmps,params:=ps,assign:=x,body:=y,defers:=rec.defers})):=(Below.refl _ w).alloc (jy _) _;have S1:=S.world (h':=g.h) (λ_ _ h=>h) (S.hw.same λk z hk=>qV.block k (S.hw.lt hk)) (λ_ _ h=>.inl h) (.of ⟨qV,jy _⟩);exact⟨w.heap.size,[],_,rec.defers,g.h,run_enterLoop_inner hl0 fn a.tmps ps x y,jy _,World.alloc_heap_new w _,λ_ _ h=>h,zll _ (jy _),S1,λd hd=>by cases hd⟩
end
end Go.Pm
namespace Go.Pm
def zvr:List Item→Bool|.call .. :: _=>false|_=>true
def jo(I:Machine→Prop)(P:Program)(m:Machine)(b:Frame)(k:List Item)(cs:List Frame):Exit→Act→World→Prop
  | .panic ch,a,w=>∃todo,zvr todo=true/\StepsIn I P m (lone {b.atR a todo with mode:=.panicking ch} cs w)
  | .normal,a,w=>ArrivesIn I P m b k cs .normal a w
  | .exit id,a,w=>ArrivesIn I P m b k cs (.exit id) a w
  | .goto l,a,w=>ArrivesIn I P m b k cs (.goto l) a w
  | .ret,a,w=>ArrivesIn I P m b k cs .ret a w
  | .outgrown,a,w=>ArrivesIn I P m b k cs .outgrown a w
theorem jo.inn{I:Machine->Prop}{P:Program}{m:Machine}{b:Frame}{k:List Item}{cs:List Frame}{e:Exit}{a:Act}{w:World}(h:jo I P m b k cs e a w):ArrivesIn I P m b k cs e a w:=by
 cases e with
 | panic ch=>obtain⟨t,_,h⟩:=h;exact⟨t,h⟩
 | _=>exact h
theorem jo.of_steps{I:Machine->Prop}{P:Program}{m m1:Machine}{b:Frame}{k:List Item}{cs:List Frame}{e:Exit}{a:Act}{w:World}(h:StepsIn I P m m1)(h':jo I P m1 b k cs e a w):jo I P m b k cs e a w:=by
 cases e with
 | panic ch=>obtain⟨t,ht,hs⟩:=h';exact⟨t,ht,h.trans hs⟩
 | normal=>exact ArrivesIn.of_steps (e:=.normal) h h'
 | exit id=>exact ArrivesIn.of_steps (e:=.exit id) h h'
 | goto l=>exact ArrivesIn.of_steps (e:=.goto l) h h'
 | ret=>exact ArrivesIn.of_steps (I:=I) (b:=b) (k:=k) (cs:=cs) (e:=.ret) (a:=a) (w:=w) h h'
 | outgrown=>exact ArrivesIn.of_steps (b:=b) (k:=k) (cs:=cs) (e:=.outgrown) (a:=a) (w:=w) h h'
theorem jo.pass{I:Machine->Prop}{P:Program}{m:Machine}{b:Frame}{x:Item}{k:List Item}{cs:List Frame}{e:Exit}{a:Act}{w:World}(hx:x.plain=true)(he:e ≠ .normal)(h:jo I P m b (x::k) cs e a w):jo I P m b k cs e a w:=by
 cases e with|panic ch=>exact h|normal=>exact absurd rfl he|exit id=>exact ArrivesIn.pass (I:=I) (P:=P) (m:=m) (b:=b) (x:=x) (k:=k) (cs:=cs) (e:=.exit id) (a:=a) (w:=w) hx (λ_ _=>.inl (by simp)) h|goto l=>exact ArrivesIn.pass (I:=I) (P:=P) (m:=m) (b:=b) (x:=x) (k:=k) (cs:=cs) (e:=.goto l) (a:=a) (w:=w) hx (λ_ _=>.inl (by simp)) h|ret=>exact ArrivesIn.pass (I:=I) (P:=P) (m:=m) (b:=b) (x:=x) (k:=k) (cs:=cs) (e:=.ret) (a:=a) (w:=w) hx (λ_ _=>.inl (by simp)) h|outgrown=>exact h
def CV(r:Option Nat)(n:Nat)(P:Program)(c:Code)(Q:Exit->Act->World->Prop)(a:Act)(w:World):Prop :=
 ∀(b:Frame)(k:List Item)(cs:List Frame),b.roundOf=(FR r).round->(FR r).fn b.fn->(FR r).room (cs.length+1+n) ->
  ∃e a' w',Q e a' w'/\jo (Machine.fenced P (FR r)) P (lone (b.atR a (.code c::k)) cs w) b k cs e a' w'
section
variable{r:Option Nat}{n:Nat}{P:Program}{Q:Exit->Act->World->Prop}{a:Act}{w:World}
theorem uw{c:Code}(h:CV r n P c Q a w):c.wpIn (FR r) n P Q a w:=λb k cs vz hb hr=>let⟨e,a',w',q,x⟩:=h b k cs vz hb hr;⟨e,a',w',q,x.inn⟩
theorem zdy{c:Code}(h:c.wpIn (FR r) n P Q a w)(hq:∀ch a w,¬Q (.panic ch) a w):CV r n P c Q a w:=λb k cs vz hb hr=>by
 obtain⟨e,a',w',q,x⟩:=h b k cs vz hb hr;refine⟨e,a',w',q,?_⟩;cases e with|panic ch=>exact absurd q (hq _ _ _)|_=>exact x
theorem oD{c:Code}{Q':Exit->Act->World->Prop}(h:CV r n P c Q a w)(hq:∀e a w,Q e a w->Q' e a w):CV r n P c Q' a w :=
 λb k cs vz hb hr=>let⟨e,a',w',q,x⟩:=h b k cs vz hb hr;⟨e,a',w',hq _ _ _ q,x⟩
theorem zg2(h:Q .normal a w):CV r n P .skip Q a w:=λ_ _ _ _ hb hr=>⟨.normal,a,w,h,.one (fenced_calm hb hr rfl) stepR_skip⟩
theorem zdz{l:Nat}(h:Q .normal a w):CV r n P (.label l) Q a w:=λ_ _ _ _ hb hr=>⟨.normal,a,w,h,.one (fenced_calm hb hr rfl) stepR_label⟩
theorem Vk{id:Nat}(h:Q (.exit id) a w):CV r n P (.exit id) Q a w :=
 λ_ k _ _ hb hr=>⟨.exit id,a,w,h,λ_ hk=>.one (fenced_calm hb hr rfl) (stepR_exit hk),λ_ hk=>⟨k,hk,.refl _⟩⟩
theorem za9(h:Q .ret a w):CV r n P .ret Q a w :=
 λ_ k _ _ hb hr=>⟨.ret,a,w,h,λhn=>⟨_,.one (fenced_calm hb hr rfl) (stepR_ret hn)⟩,λ_=>⟨k,.refl _⟩⟩
theorem zm2{x y:Code}(h:CV r n P x (Exit.then (CV r n P y Q) Q) a w):CV r n P (.seq x y) Q a w:=by
 intro b k cs vz hb hr;have h0:(lone (b.atR a (.code (.seq x y)::k)) cs w).fenced P (FR r):=fenced_calm hb hr rfl;obtain⟨e,a1,w1,hq,dL⟩:=h b (.code y::k) cs vz hb hr;have st:=StepsIn.one h0 (stepR_seq (P:=P) (b:=b) (a:=a) (k:=k) (cs:=cs) (w:=w) (x:=x) (y:=y));cases e with
 | normal =>
  obtain⟨e2,a2,w2,hq2,CW⟩:=hq b k cs vz hb hr;exact⟨e2,a2,w2,hq2,.of_steps (st.trans dL) CW⟩
 | exit id=>exact⟨_,a1,w1,hq,.of_steps st (.pass (x:=.code y) rfl (by simp) dL)⟩
 | goto l=>exact⟨_,a1,w1,hq,.of_steps st (.pass (x:=.code y) rfl (by simp) dL)⟩
 | ret=>exact⟨_,a1,w1,hq,.of_steps st (.pass (x:=.code y) rfl (by simp) dL)⟩
 | panic ch=>exact⟨_,a1,w1,hq,.of_steps st (.pass (x:=.code y) rfl (by simp) dL)⟩
 | outgrown=>exact⟨_,a1,w1,hq,.of_steps st (.pass (x:=.code y) rfl (by simp) dL)⟩
theorem zg3{c:Operand}{x y:Code}{t:Bool}(hc:a.eval c=.bool t)(h:CV r n P (if t then x else y) Q a w):CV r n P (.cond c x y) Q a w :=
 λb k cs vz hb hr=>let⟨e,a',w',q,x⟩:=h b k cs vz hb hr;⟨e,a',w',q,.of_steps (.one (fenced_calm hb hr rfl) (stepR_cond hc)) x⟩
theorem zdA{id:Nat}{c:Code}(h:CV r n P c (Exit.inBlock id Q) a w):CV r n P (.block id c) Q a w:=by
 intro b k cs vz hb hr;have h0:(lone (b.atR a (.code (.block id c)::k)) cs w).fenced P (FR r):=fenced_calm hb hr rfl;have st:=StepsIn.one h0 (stepR_block (P:=P) (b:=b) (a:=a) (k:=k) (cs:=cs) (w:=w) (id:=id) (c:=c));obtain⟨e,a1,w1,hq,dL⟩:=h b (.inBlock id::k) cs vz hb hr;cases e with
 | normal=>exact⟨.normal,a1,w1,hq,(st.trans dL).trans (.one (fenced_calm hb hr rfl) stepR_inBlock)⟩
 | exit id' =>
  by_cases hid:id'=id;simp only [Exit.inBlock,hid,OM]at hq;exact⟨.normal,a1,w1,hq,st.trans (dL.1 k (by simp[exitTo,hid]))⟩;simp only [Exit.inBlock,hid,qd2]at hq;have this:(id==id')=false:=by simp;exact λh=>hid h.symm
  have hx:exitTo id' (.inBlock id::k)=exitTo id' k:=by simp[exitTo,this]
  exact⟨.exit id',a1,w1,hq,λk' hk=>st.trans (dL.1 k' (by rw[hx];exact hk)),
   λtK hk=>let⟨k1,h1,h2⟩:=dL.2 tK (by rw[hx];exact hk);⟨k1,h1,st.trans h2⟩⟩
 | goto l =>
  have hx:gotoIn l (.inBlock id::k)=gotoIn l k:=by simp[gotoIn]
  exact⟨_,a1,w1,hq,λk' hk=>st.trans (dL.1 k' (by rw[hx];exact hk)),
   λtK hk=>let⟨k1,h1,h2⟩:=dL.2 tK (by rw[hx];exact hk);⟨k1,h1,st.trans h2⟩⟩
 | ret=>exact⟨_,a1,w1,hq,.of_steps st dL⟩
 | panic ch=>exact⟨_,a1,w1,hq,.of_steps st dL⟩
 | outgrown=>exact⟨_,a1,w1,hq,.of_steps (b:=b) (k:=k) (cs:=cs) (e:=.outgrown) st dL⟩
theorem Rf{b:Frame}{a:Act}{k:List Item}{cs:List Frame}{w:World}{c:Code} :
  step P (lone (b.atR a (.code (.scope c)::k)) cs w)=.next (lone (b.atR a (.code c :: .inScope c::k)) cs w) :=
 step_lone_go (by simp[stepG,stepG.exec,Frame.atR])
theorem Lp{b:Frame}{a:Act}{k:List Item}{cs:List Frame}{w:World}{c:Code} :
  step P (lone (b.atR a (.inScope c::k)) cs w)=.next (lone (b.atR a k) cs w) :=
 step_lone_go (by simp[stepG,stepG.exec,Frame.atR])
theorem zdB{c:Code}(h:CV r n P c (Exit.noGoto Q) a w):CV r n P (.scope c) Q a w:=by
 intro b k cs vz hb hr;obtain⟨e,a1,w1,hq,dL⟩:=h b (.inScope c::k) cs vz hb hr;have h0:(lone (b.atR a (.code (.scope c)::k)) cs w).fenced P (FR r):=fenced_calm hb hr rfl;have st:=StepsIn.one h0 (Rf (P:=P) (b:=b) (a:=a) (k:=k) (cs:=cs) (w:=w) (c:=c));cases e with
 | normal=>exact⟨.normal,a1,w1,hq,(st.trans dL).trans (.one (fenced_calm hb hr rfl) Lp)⟩
 | exit id =>
  refine⟨.exit id,a1,w1,hq,λk' hk=>st.trans (dL.1 k' (by simp[exitTo,hk])),λtK hk=>?_⟩;obtain⟨k1,h1,h2⟩:=dL.2 tK (by simp[exitTo,hk]);exact⟨k1,h1,st.trans h2⟩
 | goto l=>exact hq.elim
 | ret=>exact⟨.ret,a1,w1,hq,jo.of_steps (e:=.ret) st dL⟩
 | panic ch=>exact⟨.panic ch,a1,w1,hq,jo.of_steps (e:=.panic ch) st dL⟩
 | outgrown=>exact⟨_,a1,w1,hq,.of_steps (b:=b) (k:=k) (cs:=cs) (e:=.outgrown) st dL⟩
def Vl(r:Option Nat)(n:Nat)(P:Program)(c:Code)(Q:Exit->Act->World->Prop)(a:Act)(w:World):Prop :=
 ∀(b:Frame)(k:List Item)(cs:List Frame),b.roundOf=(FR r).round->(FR r).fn b.fn->(FR r).room (cs.length+1+n) ->
  ∃e a' w',Q e a' w'/\jo (Machine.fenced P (FR r)) P (lone (b.atR a (.code c :: .inLoop c::k)) cs w) b k cs e a' w'
theorem Hg{c:Code}(h:Vl r n P c Q a w):CV r n P (.loop c) Q a w:=by
 intro b k cs vz hb hr;obtain⟨e,a',w',hq,dL⟩:=h b k cs vz hb hr;exact⟨e,a',w',hq,.of_steps (.one (fenced_calm hb hr rfl) stepR_loop) dL⟩
theorem Hl{c:Code}(h:CV r n P c (Exit.then (Vl r n P c Q) Q) a w):Vl r n P c Q a w:=by
 intro b k cs vz hb hr;obtain⟨e,a1,w1,hq,dL⟩:=h b (.inLoop c::k) cs vz hb hr;cases e with
 | normal =>
  obtain⟨e2,a2,w2,hq2,CW⟩:=hq b k cs vz hb hr;exact⟨e2,a2,w2,hq2,.of_steps (StepsIn.trans dL (.one (fenced_calm hb hr rfl) stepR_inLoop)) CW⟩
 | exit id=>exact⟨_,a1,w1,hq,.pass (x:=.inLoop c) rfl (by simp) dL⟩
 | goto l=>exact⟨_,a1,w1,hq,.pass (x:=.inLoop c) rfl (by simp) dL⟩
 | ret=>exact⟨_,a1,w1,hq,.pass (x:=.inLoop c) rfl (by simp) dL⟩
 | panic ch=>exact⟨_,a1,w1,hq,.pass (x:=.inLoop c) rfl (by simp) dL⟩
 | outgrown=>exact⟨_,a1,w1,hq,.pass (x:=.inLoop c) rfl (by simp) dL⟩
theorem zm3{ops:Array Oper}(l:List Nat):∀(a:Act)(w:World),wpOpsIn (FR r) n P ops Q l a w->∀(b:Frame)(k:List Item)(cs:List Frame),b.roundOf=(FR r).round->(FR r).fn b.fn->(FR r).room (cs.length+1+n) ->
  ∃e a' w',Q e a' w'/\jo (Machine.fenced P (FR r)) P (lone (b.atR a (.inRegion ops l::k)) cs w) b k cs e a' w':=by
 induction l with
 | nil=>exact λa w h b k cs _ hb hr=>⟨.normal,a,w,h,.one (fenced_calm hb hr rfl) stepR_region_end⟩
 | cons i rest ih =>
  intro a w h b k cs vz hb hr;simp only[wpOpsIn]at h;cases ho:ops[i]? with
  | none =>
   simp only[ho]at h;obtain⟨e,a',w',hq,dL⟩:=ih a w h b k cs vz hb hr;have hs:=stepR_op_skip (P:=P) (b:=b) (a:=a) (k:=k) (cs:=cs) (w:=w) (ops:=ops) (i:=i) (rest:=rest) (by simp[ho]);simp only[ho,Option.bind_none,Act.put]at hs;exact⟨e,a',w',hq,.of_steps (.one (fenced_noOper hb hr ho) hs) dL⟩
  | some o =>
   simp only[ho]at h;by_cases hw:Region.wanted o (yielded ops a.tmps)=true;simp only [hw,OM,Oper.wpIn]at h;obtain⟨zah,h⟩:=h;have h0:(lone (b.atR a (.inRegion ops (i::rest)::k)) cs w).fenced P (FR r):=fenced_oper hb hr ho zah;simp only[Oper.uponIn]at h;have hg:=stepGR_op (P:=P) (b:=b) (k:=k) (cs:=cs) (w:=w) (rest:=rest) ho hw;rw[vz]at hg;have zlf:∀v,(b.atR a (.inRegion ops (i::rest)::k)).finish v=b.atR (a.put o.dst v) (.inRegion ops rest::k):=by
    intro v;rw[Frame.finish_atR,ho];rfl
   split at h;rename_i v w' tK;obtain⟨e,a',zu,hq,dL⟩:=ih _ _ h b k cs vz hb hr;refine⟨e,a',zu,hq,.of_steps (.one h0 (step_lone_go ?_)) dL⟩;rw[hg,<- zlf];simp[stepG.apply,tK];rename_i w' tK;obtain⟨e,a',zu,hq,dL⟩:=ih _ _ h b k cs vz hb hr;refine⟨e,a',zu,hq,.of_steps (.one h0 (step_lone_go ?_)) dL⟩;rw[hg,<- zlf];simp[stepG.apply,tK];rename_i d w' tK;obtain⟨e,a',zu,hq,dL⟩:=ih _ _ h b k cs vz hb hr;refine⟨e,a',zu,hq,.of_steps (.one h0 (step_lone_go ?_)) dL⟩
   have:({b.atR a (.inRegion ops (i::rest)::k)with defers:=d::a.defers}:Frame).finish undef =
     b.atR ({a with defers:=d::a.defers}.put o.dst undef) (.inRegion ops rest::k):=by
    have:=Frame.finish_atR b {a with defers:=d::a.defers} ops i rest k undef;rw[ho]at this;exact this
   rw[hg];simp only[stepG.apply,Sem.runT_eq,tK,GStep.bare_after];exact jF (λfr=>GStep.go {frame:=fr,callers:=cs,status:=.running,dying:=none} w') this
   ·rename_i f args w' tK;obtain⟨hn,hF,h⟩:=h;have EL:(FR r).room ((b.atR a (.inRegion ops (i::rest)::k)::cs).length+1+(n-1)):=Fence.room_enter hr hn;obtain⟨e,zu,fr,hR,pq,tN,wP⟩:=h (b.atR a (.inRegion ops (i::rest)::k)::cs) EL;have pF:step P (lone (b.atR a (.inRegion ops (i::rest)::k)) cs w)=.next (lone (Frame.enter P f args .normal) (b.atR a (.inRegion ops (i::rest)::k)::cs) w') :=
     step_lone_go (by rw[hg];simp[stepG.apply,tK,Frame.atR])
    cases e with
    | returned v =>
     have hl:(lone fr (b.atR a (.inRegion ops (i::rest)::k)::cs) zu).fenced P (FR r):=fenced_leaving (tN▸hF) EL wP;obtain⟨e,a',w3,hq,dL⟩:=ih _ _ hR b k cs vz hb hr;refine⟨e,a',w3,hq,.of_steps (.head h0 pF (StepsIn.trans pq (.one hl ?_))) dL⟩;rw[<- zlf];exact step_leave_returned wP
    | panicked chain =>
     have hl:(lone fr (b.atR a (.inRegion ops (i::rest)::k)::cs) zu).fenced P (FR r):=fenced_leaving (tN▸hF) EL wP;refine⟨.panic chain,a,zu,hR,.inRegion ops (i::rest)::k,rfl,.head h0 pF (StepsIn.trans pq (.one hl ?_))⟩;rw[<- Frame.raise_atR];exact step_leave_panicked wP
    | outgrown =>
     obtain⟨a0,w0,hq⟩:=hR;exact⟨.outgrown,a0,w0,hq,.inr (Outgrown.of_steps (.one pF) pq)⟩
   rename_i row args w' tK;obtain⟨hn,h⟩:=h;obtain⟨v,zu,hR,pq⟩:=h (b.atR a (.inRegion ops (i::rest)::k)) cs (Fence.room_enter hr hn);have pF:step P (lone (b.atR a (.inRegion ops (i::rest)::k)) cs w)=.next (lone (Frame.ofRow P row args .normal) (b.atR a (.inRegion ops (i::rest)::k)::cs) w') :=
    step_lone_go (by rw[hg];simp[stepG.apply,tK,Frame.atR])
   obtain⟨e,a',w3,hq,dL⟩:=ih _ _ hR b k cs vz hb hr;refine⟨e,a',w3,hq,.of_steps (.head h0 pF ?_) dL⟩;rw[<- zlf];exact pq
   ·rename_i l f tmps assign body w' tK;obtain⟨hn,_,h⟩:=h;obtain⟨e,zu,hR,pq⟩:=h (b.atR a (.inRegion ops (i::rest)::k)) cs (Fence.room_enter hr hn);have pF:step P (lone (b.atR a (.inRegion ops (i::rest)::k)) cs w)=.next (lone (Frame.round l f tmps assign body .normal) (b.atR a (.inRegion ops (i::rest)::k)::cs) w') :=
     step_lone_go (by rw[hg];simp[stepG.apply,tK,Frame.atR])
    cases e with
    | returned v =>
     obtain⟨e,a',w3,hq,dL⟩:=ih _ _ hR b k cs vz hb hr;refine⟨e,a',w3,hq,.of_steps (.head h0 pF ?_) dL⟩;rw[<- zlf];exact pq
    | panicked chain =>
     refine⟨.panic chain,a,zu,hR,.inRegion ops (i::rest)::k,rfl,.head h0 pF ?_⟩;rw[<- Frame.raise_atR];exact pq
    | outgrown =>
     obtain⟨a0,w0,hq⟩:=hR;exact⟨.outgrown,a0,w0,hq,.inr (Outgrown.of_steps (.one pF) pq)⟩
   rename_i v w' tK;refine⟨.panic [{v,recovered:=false}],a,w',h,.inRegion ops (i::rest)::k,rfl,.one h0 (step_lone_go ?_)⟩;rw[hg,<- Frame.raise_atR];simp[stepG.apply,tK];exact h.elim;simp only [hw,qdm,qd2]at h;obtain⟨zah,h⟩:=h;have h0:(lone (b.atR a (.inRegion ops (i::rest)::k)) cs w).fenced P (FR r):=fenced_oper hb hr ho zah;obtain⟨e,a',w',hq,dL⟩:=ih _ _ h b k cs vz hb hr;have hs:=stepR_op_skip (P:=P) (b:=b) (a:=a) (k:=k) (cs:=cs) (w:=w) (ops:=ops) (i:=i) (rest:=rest) (by simpa [ho]using hw);rw[ho]at hs;exact⟨e,a',w',hq,.of_steps (.one h0 hs) dL⟩
theorem Lr{id:Nat}{ops:Array Oper}(h:wpOpsIn (FR r) n P ops Q (List.range ops.size) a w):CV r n P (.region id ops false) Q a w:=λb k cs vz hb hr=>by
 obtain⟨e,a',w',hq,dL⟩:=zm3 _ a w h b k cs vz hb hr;exact⟨e,a',w',hq,.of_steps (.one (fenced_calm hb hr rfl) stepR_region) dL⟩
theorem Y3{P:Program}{fr:Frame}(h:zvr fr.todo=true):fr.catches P=false:=by
 unfold Frame.catches;split;rename_i e;rw[e]at h;cases h;rfl
theorem zD{P:Program}{fr c:Frame}{cs:List Frame}{w:World}{chain:List PanicEntry}(hm:fr.mode=.panicking chain)(hd:fr.defers=[])(ht:zvr fr.todo=true):step P (lone fr (c::cs) w)=.next (lone (c.raise chain) cs w) :=
 step_lone_go (by simp[stepG,unwind,hm,hd,Y3 ht])
def Y4(P:Program)(l:Nat)(R:Ending→World→Prop):Exit→Act→World→Prop|.normal,_,w=>∃v w',(Instr.endRound l none).run P w=.ok v w'/\R (.returned v) w'|.ret,_,w=>∃v w',(Instr.endRound l (some .ret)).run P w=.ok v w'/\R (.returned v) w'|.exit id,_,w=>∃v w',(Instr.endRound l (some (.exit id))).run P w=.ok v w'/\R (.returned v) w'|.goto t,_,w=>∃v w',(Instr.endRound l (some (.goto t))).run P w=.ok v w'/\R (.returned v) w'|.panic ch,a,w=>a.defers=[]/\R (.panicked ch) w|.outgrown,_,_=>False
theorem Ls{l n:Nat}{P:Program}{f:FuncId}{tmps:Array Value}{assign body:Code}{w:World}{R:Ending→World→Prop}
    (h:CV (some l) n P assign (Exit.then (λa1 w1=>∃w2,(Instr.beginRound l).run P w1=.ok () w2/\CV (some l) n P body (Y4 P l R) a1 w2) (λ_ _ _=>False)) {tmps:=tmps,defers:=[]} w) :
    RoundIn Fence.wide n P l f tmps assign body w R:=by
  refine⟨trivial,λc cs hr=>?_⟩;let b:Frame:={(default:Frame)with fn:=f,kind:=.normal,roundOf:=some l};have hb0:Frame.round l f tmps assign body .normal=b.atR {tmps:=tmps,defers:=[]} [.code assign,.beginRound,.code body]:=by
    simp[Frame.round,Frame.atR,b]
  have tK:(FR (some l)).room ((c::cs).length+1+n):=hr;obtain⟨e,a1,w1,hq,dL⟩:=h b [.beginRound,.code body] (c::cs) rfl trivial tK;rw[<- hb0]at dL;have back:∀{m m':Machine},StepsIn (Machine.fenced P (FR (some l))) P m m'->StepsIn (Machine.fenced P Fence.wide) P m m':=λh=>stepsIn_wide.2 (StepsIn.steps h);cases e with
  | normal =>
    obtain⟨w2,hbr,vC⟩:=hq;have s1:StepsIn (Machine.fenced P (FR (some l))) P (lone (b.atR a1 [.beginRound,.code body]) (c::cs) w1) (lone (b.atR a1 [.code body]) (c::cs) w2) :=
      .one (fenced_calm (fr:=b.atR a1 [.beginRound,.code body]) trivial tK rfl) (stepR_beginRound rfl hbr)
    obtain⟨e2,a2,w3,hq2,CW⟩:=vC b [] (c::cs) rfl trivial tK;cases e2 with
    | normal =>
      obtain⟨v,w4,oK,hR⟩:=hq2;exact⟨.returned v,w4,hR,back ((StepsIn.trans dL s1).trans (StepsIn.trans CW (.one (fenced_calm (fr:=b.atR a2 []) trivial tK rfl) (stepR_round_end rfl rfl oK))))⟩
    | ret =>
      obtain⟨v,w4,oK,hR⟩:=hq2;obtain⟨k1,hs⟩:=CW.2 rfl;exact⟨.returned v,w4,hR,back ((StepsIn.trans dL s1).trans (StepsIn.trans hs (.one (fenced_calm (fr:=b.atR a2 (.code .ret::k1)) trivial tK rfl) (stepR_round_ret rfl rfl oK))))⟩
    | exit id =>
      obtain⟨v,w4,oK,hR⟩:=hq2;obtain⟨k1,hx,hs⟩:=CW.2 rfl rfl;exact⟨.returned v,w4,hR,back ((StepsIn.trans dL s1).trans (StepsIn.trans hs (.one (fenced_calm (fr:=b.atR a2 (.code (.exit id)::k1)) trivial tK rfl) (stepR_round_exit rfl rfl hx oK))))⟩
    | goto t =>
      obtain⟨v,w4,oK,hR⟩:=hq2;obtain⟨k1,hx,hs⟩:=CW.2 rfl rfl;exact⟨.returned v,w4,hR,back ((StepsIn.trans dL s1).trans (StepsIn.trans hs (.one (fenced_calm (fr:=b.atR a2 (.code (.goto t)::k1)) trivial tK rfl) (stepR_round_goto rfl rfl hx oK))))⟩
    | panic ch =>
      obtain⟨hd,hR⟩:=hq2;obtain⟨todo,ht,hs⟩:=CW;refine⟨.panicked ch,w3,hR,back ((StepsIn.trans dL s1).trans (StepsIn.trans hs (.one ?_ (zD rfl hd ht))))⟩;refine fenced_calm (fr:={b.atR a2 todo with mode:=.panicking ch}) trivial tK ?_;simp[Frame.about,Frame.atR,hd]
    | outgrown=>exact hq2.elim
  | exit id=>exact hq.elim
  | goto l=>exact hq.elim
  | ret=>exact hq.elim
  | panic chain=>exact hq.elim
  | outgrown=>exact hq.elim
theorem Oi{r:Option Nat}{n:Nat}{P:Program}{Q:Exit→Act→World→Prop}{a:Act}{w:World}{g:Operand}{ps:Array Tmp}{assign body:Code}
    (h:∀fn,∃(l:Nat)(mark:List Deferred)(w₁:World)(d:Deferred)(w₁':World)(f:FuncId)(args:Array Value)(w₂:World),
      (Instr.enterLoop fn a.tmps ps assign body (FR r).round).run P w=.ok (l,mark) w₁ /\
      (resolve a.eval (rangeCall g l) 0).run P w₁=.ok d w₁' /\
      (invoke d.target d.args).run P w₁'=.ok (.enter f args) w₂ /\
      CallsIn (FR r) (n-1) P f args w₂ (λe w₃=>match e with
        | .returned _=>∃jump w₄,(Instr.endLoop l).run P w₃=.ok jump w₄/\(match jump with
          | none=>Q .normal {a with defers:=mark++a.defers} w₄
          | some c=>CV r n P c Q {a with defers:=mark++a.defers} w₄)
        | .panicked chain=>Q (.panic chain) {a with defers:=mark++a.defers} w₃
        | .outgrown=>False)) :
    CV r n P (.rangeFunc g ps assign body) Q a w:=by
  intro b k cs vz hb hr;obtain⟨l,mark,w₁,d,w₁',f,args,w₂,he,nS,hinv,hF,fC⟩:=h b.fn;rw[<- vz]at he;have h0:(lone (b.atR a (.code (.rangeFunc g ps assign body)::k)) cs w).fenced P (FR r):=fenced_lone (.inl trivial) (λ_ _=>trivial) (Fence.room_le hr omY);have pF:=stepR_rangeFunc (P:=P) (b:=b) (a:=a) (k:=k) (cs:=cs) (w:=w) he nS hinv;have EL:(FR r).room ((b.atR {a with defers:=mark++a.defers} (.inRangeFunc l::k)::cs).length+1+(n-1)):=Fence.room_enter hr (λh=>by simp[FR]at h);obtain⟨e,w₃,fr,hR,pq,tN,wP⟩:=fC (b.atR {a with defers:=mark++a.defers} (.inRangeFunc l::k)::cs) EL;cases e with
  | outgrown=>exact hR.elim
  | returned v =>
    have hl:(lone fr (b.atR {a with defers:=mark++a.defers} (.inRangeFunc l::k)::cs) w₃).fenced P (FR r):=fenced_leaving (tN▸hF) EL wP;obtain⟨jump,w₄,oK,hj⟩:=hR;have zuv:StepsIn (Machine.fenced P (FR r)) P (lone (b.atR a (.code (.rangeFunc g ps assign body)::k)) cs w) (lone (b.atR {a with defers:=mark++a.defers} ((jump.map Item.code).toList++k)) cs w₄):=by
      refine .head h0 pF (StepsIn.trans pq (.head hl ?_ (.one (fenced_calm (fr:=b.atR {a with defers:=mark++a.defers} (.endRangeFunc l::k)) hb hr rfl) (stepR_endRangeFunc oK))));rw[<- finish_atR_inRangeFunc l v];exact step_leave_returned wP
    cases jump with
    | none=>exact⟨.normal,_,w₄,hj,zuv⟩
    | some c =>
      obtain⟨e',a'',w₅,hq,dL⟩:=hj b k cs vz hb hr;exact⟨e',a'',w₅,hq,.of_steps zuv dL⟩
  | panicked chain =>
    have hl:(lone fr (b.atR {a with defers:=mark++a.defers} (.inRangeFunc l::k)::cs) w₃).fenced P (FR r):=fenced_leaving (tN▸hF) EL wP;refine⟨.panic chain,_,w₃,hR,.inRangeFunc l::k,rfl,.head h0 pF (StepsIn.trans pq (.one hl ?_))⟩;rw[<- Frame.raise_atR];exact step_leave_panicked wP
end
end Go.Pm
namespace Go.Pm
variable [aG]
open Go.RowKit (Below)
theorem yj{P:Program}:∀(l:List (Nat×Nat×Nat))(σ τ:St),zW σ τ→(mf P l σ=none∧mf P l τ=none)∨∃σ' τ',mf P l σ=some σ'∧mf P l τ=some τ'∧zW σ' τ'
  | [],σ,τ,h=>.inr ⟨σ,τ,rfl,rfl,h⟩
  | (t,L,e)::r,σ,τ,h=>by
    simp only[mf];rw[<- h.env,<- h.ay];split;split;split;refine yj r _ _ ⟨fun s => ?_,fun s => ?_,h.log⟩;simp only[aS,h.env];simp only[aS,h.ay];exact .inl ⟨rfl,rfl⟩;exact .inl ⟨rfl,rfl⟩;exact yj r _ _ h;exact .inl ⟨rfl,rfl⟩
theorem yt{P:Program}:∀(l:List (Nat×Nat×Nat×Nat))(σ τ:St),zW σ τ→(mg P l σ=none∧mg P l τ=none)∨∃σ' τ',mg P l σ=some σ'∧mg P l τ=some τ'∧zW σ' τ'
  | [],σ,τ,h=>.inr ⟨σ,τ,rfl,rfl,h⟩
  | (B,k,L,e)::r,σ,τ,h=>by
    simp only[mg];rw[<- h.ay,<- h.ay];split;split;split;split;refine yt r _ _ ⟨h.env,fun s => ?_,h.log⟩;simp only[aS,h.ay];exact .inl ⟨rfl,rfl⟩;exact .inl ⟨rfl,rfl⟩;exact yt r _ _ h;exact .inl ⟨rfl,rfl⟩;exact .inl ⟨rfl,rfl⟩
theorem yu{P:Program}:∀(l:List (Nat×Nat×Nat×Nat×Nat))(σ τ:St),zW σ τ→(mr P l σ=none∧mr P l τ=none)∨∃σ' τ',mr P l σ=some σ'∧mr P l τ=some τ'∧zW σ' τ'
  | [],σ,τ,h=>.inr ⟨σ,τ,rfl,rfl,h⟩
  | (B,k,L,te,e)::r,σ,τ,h=>by
    simp only[mr];rw[<- h.ay,<- h.ay];split;split;split;split;split;refine yu r _ _ ⟨h.env,fun s => ?_,h.log⟩;simp only[aS,h.ay];exact .inl ⟨rfl,rfl⟩;exact .inl ⟨rfl,rfl⟩;exact .inl ⟨rfl,rfl⟩;exact yu r _ _ h;exact .inl ⟨rfl,rfl⟩;exact .inl ⟨rfl,rfl⟩
theorem yw:∀(l:List Nat)(σ τ:St),zW σ τ→(mD l σ=none∧mD l τ=none)∨∃σ' τ',mD l σ=some σ'∧mD l τ=some τ'∧zW σ' τ'
  | [],σ,τ,h=>.inr ⟨σ,τ,rfl,rfl,h⟩
  | t::r,σ,τ,h=>by
    have ho:lk σ.ay=lk τ.ay:=funext h.ay;simp only[mD];rw[<- h.env,<- ho];split;split;refine yw r _ _ ⟨fun s => ?_,h.ay,h.log⟩;simp only[aS,h.env];split;refine yw r _ _ ⟨fun s => ?_,fun s => ?_,h.log⟩;simp only[aS,h.env];simp only[gX,h.ay];exact .inl ⟨rfl,rfl⟩;exact .inl ⟨rfl,rfl⟩
theorem FI{α:Type}{f:α→α}{l l':List (Nat×α)}(h:∀t,lk l t=lk l' t):∀ks,wR f l ks=wR f l' ks|[]=>rfl|t::r=>by simp only[wR,h,FI h r]
theorem zg4{ob ob':Nat->Option AO}(h:∀t,ob t=ob' t):∀ks,EZ ob ks=EZ ob' ks:=by
 intro ks;have:ob=ob':=funext h;rw[this]
theorem zg5{ob ob':Nat->Option AO}(h:∀t,ob t=ob' t):∀ks,N8 ob ks=N8 ob' ks:=by
 intro ks;have:ob=ob':=funext h;rw[this]
theorem Y5{P:Program}{k:Keep}{σ τ:St}(h:zW σ τ):xM P k σ=xM P k τ:=by
 unfold xM;rcases yj (P:=P) k.coT σ τ h with⟨h1,h2⟩|⟨σ1,τ1,h1,h2,h3⟩
 rw[h1,h2];rw [h1,h2];simp only;rcases yt (P:=P) k.coB σ1 τ1 h3 with⟨h4,h5⟩|⟨σ2,τ2,h4,h5,h6⟩
 rw[h4,h5];rw [h4,h5];simp only;rcases yu (P:=P) k.coV σ2 τ2 h6 with⟨h7,h8⟩|⟨σ3,τ3,h7,h8,h9⟩
 rw[h7,h8];rw [h7,h8];simp only;rw[FI h9.env,show lk σ3.ay=lk τ3.ay from funext h9.ay];rw[FI h9.ay]
theorem zg6{σ τ:St}{n:Nat}(h:zW σ τ):zW (zcW σ n) (zcW τ n):=by
 have ho:lk σ.ay=lk τ.ay:=funext h.ay;unfold zcW;rw[<- ho]
 repeat' split
 all_goals first
  | exact h
  | exact⟨h.env,λt=>by simp only[jqO,aS,h.ay],h.log⟩
theorem zba:∀(l:List Nat){σ τ:St},zW σ τ→zW (coP l σ) (coP l τ)|[],_,_,h=>h|_::r,_,_,h=>zba r (zg6 h)
theorem zdC{P:Program}{k:Keep}{σ τ:St}(h:zW σ τ):canon P k σ=canon P k τ:=by
 unfold canon;have h1:zW (zcV k.coF σ) (zcV k.coF τ):=⟨h.env,λt=>by simp only[zcV,gX,h.ay,zg4 h.ay,zg5 h.ay],h.log⟩;rcases yw k.coZ _ _ (zba k.coF h1)with⟨h2,h3⟩|⟨σ1,τ1,h2,h3,h4⟩
 rw[h2,h3];rw[h2,h3];simp only;rw[Y5 h4]
section
variable{P:Program}{Γ:bM}{nt B:Nat}{w0:World}{h0:Fz}{r:Option Nat}{n:Nat}
theorem lM{b:Frame}{a:Act}{k:List Item}{cs:List Frame}{w:World}{c:Code} :
  step P (lone (b.atR a (.code (.scope c)::k)) cs w)=.next (lone (b.atR a (.code c :: .inScope c::k)) cs w) :=
 step_lone_go (by simp[stepG,stepG.exec,Frame.atR])
theorem Oj{b:Frame}{a:Act}{k:List Item}{cs:List Frame}{w:World}{c:Code} :
  step P (lone (b.atR a (.inScope c::k)) cs w)=.next (lone (b.atR a k) cs w) :=
 step_lone_go (by simp[stepG,stepG.exec,Frame.atR])
theorem Y6{c:Code}{Q:Exit->Act->World->Prop}{a:Act}{w:World}{F:Fence}(h:c.wpIn F n P (Exit.noGoto Q) a w):(Code.scope c).wpIn F n P Q a w:=by
 intro b k cs vz hb hr;obtain⟨e,a₁,w₁,hq,dL⟩:=h b (.inScope c::k) cs vz hb hr;have h0:(lone (b.atR a (.code (.scope c)::k)) cs w).fenced P F:=fenced_calm hb hr rfl;cases e with
 | normal=>exact⟨.normal,a₁,w₁,hq,.head h0 lM (StepsIn.trans dL (.one (fenced_calm hb hr rfl) Oj))⟩
 | exit id =>
  refine⟨.exit id,a₁,w₁,hq,λk' hk=>.head h0 lM (dL.1 k' (by simp[exitTo,hk])),λtK hk=>?_⟩;obtain⟨k₁,h1,h2⟩:=dL.2 tK (by simp[exitTo,hk]);exact⟨k₁,h1,.head h0 lM h2⟩
 | goto l=>exact hq.elim
 | ret=>exact⟨_,a₁,w₁,hq,.of_steps (.one h0 lM) dL⟩
 | panic ch=>exact⟨_,a₁,w₁,hq,.of_steps (.one h0 lM) dL⟩
 | outgrown=>exact⟨_,a₁,w₁,hq,.of_steps (b:=b) (k:=k) (cs:=cs) (e:=.outgrown) (.one h0 lM) dL⟩
def Vm(F:Fence)(n:Nat)(P:Program)(c:Code)(Q:Exit->Act->World->Prop)(a:Act)(w:World):Prop :=
 ∀(b:Frame)(k:List Item)(cs:List Frame),b.roundOf=F.round->F.fn b.fn->F.room (cs.length+1+n) ->
  ∃e a' w',Q e a' w'/\ArrivesIn (Machine.fenced P F) P (lone (b.atR a (.code c :: .inLoop c::k)) cs w) b k cs e a' w'
theorem Hm{F:Fence}{c:Code}{Q:Exit->Act->World->Prop}{a:Act}{w:World}(h:Vm F n P c Q a w):(Code.loop c).wpIn F n P Q a w:=by
 intro b k cs vz hb hr;obtain⟨e,a',w',hq,dL⟩:=h b k cs vz hb hr;exact⟨e,a',w',hq,.of_steps (.one (fenced_calm hb hr rfl) stepR_loop) dL⟩
theorem Ho{F:Fence}{c:Code}{Q:Exit->Act->World->Prop}{a:Act}{w:World}(h:c.wpIn F n P (Exit.then (Vm F n P c Q) Q) a w):Vm F n P c Q a w:=by
 intro b k cs vz hb hr;obtain⟨e,a₁,w₁,hq,dL⟩:=h b (.inLoop c::k) cs vz hb hr;cases e with
 | normal =>
  obtain⟨e₂,a₂,w₂,hq₂,zH7⟩:=hq b k cs vz hb hr;exact⟨e₂,a₂,w₂,hq₂,.of_steps (StepsIn.trans dL (.one (fenced_calm hb hr rfl) stepR_inLoop)) zH7⟩
 | exit id=>exact⟨_,a₁,w₁,hq,.pass (x:=.inLoop c) rfl (λ_ _=>.inl (by simp)) dL⟩
 | goto l=>exact⟨_,a₁,w₁,hq,.pass (x:=.inLoop c) rfl (λ_ _=>.inl (by simp)) dL⟩
 | ret=>exact⟨_,a₁,w₁,hq,.pass (x:=.inLoop c) rfl (λ_ _=>.inl (by simp)) dL⟩
 | panic ch=>exact⟨_,a₁,w₁,hq,.pass (x:=.inLoop c) rfl (λ_ _=>.inl (by simp)) dL⟩
 | outgrown=>exact⟨_,a₁,w₁,hq,.pass (x:=.inLoop c) rfl (λ_ _=>.inl (by simp)) dL⟩
def PostR(P:Program)(nt B:Nat)(w0:World)(h0:Fz)(D:List Nat)(a0:Act)(K:Exit->St->Prop):Exit->Act->World->Prop :=
 λe a' w'=>∃g' σ',K e σ'/\bK P nt B w0 h0 g' σ' a' w'/\Kp D a0 a'
def Snd(P:Program)(Γ:bM)(aO:dI)(B:Nat)(w0:World)(c:Code):Prop :=
 ∀(r:Option Nat)(n:Nat)(h0:Fz)(D:List Nat)(a0:Act)(K:Exit->St->Prop)(σ:St)(g:Gh)(a:Act)(w:World),(∀t∈dP c,t∈D)->Rnd r h0->vc P Γ aO c K σ ->
  bK P aO.nt B w0 h0 g σ a w->Kp D a0 a->CV r n P c (PostR P aO.nt B w0 h0 D a0 K) a w
theorem CX:∀{l:List Oper}{j:Nat}{o:Oper}{t:Nat},l[j]? = some o→o.dst=some t→t∈Ir l
  | [],j,o,t,h,_=>by simp at h
  | x::l,j,o,t,h,hd=>by
    cases j with
    | zero =>
      simp only[qdp,bG]at h;subst h;simp only[Ir,hd];exact jM
    | succ j =>
      have:=CX (l:=l) (j:=j) (by simpa using h) hd;simp only[Ir];split;exact jB _ this;exact this
theorem PR(fK:jk P Γ)(aO:dI){id:Nat}{ops:Array Oper}{draw:Bool}{K:St→Prop}{Q:Exit→Act→World→Prop}{D:List Nat}{a0:Act}{σ:St}{g:Gh}{a:Act}{w:World}
    (hD:∀t∈Ir ops.toList,t∈D) (h:OT P Γ aO id ops draw K σ) (S:bK P aO.nt B w0 h0 g σ a w) (kQ:Kp D a0 a)
    (hQ:∀g' σ' a' w',K σ'->bK P aO.nt B w0 h0 g' σ' a' w'->Kp D a0 a'->a'.defers=a.defers->Q .normal a' w'):CV r n P (.region id ops draw) Q a w:=by
  have hD':∀(j:Nat)(o:Oper),ops[j]? = some o->∀t,o.dst=some t->t∈D:=λj o ho t ht=>hD t (CX (by simpa using ho) ht);have zLa:∀σ',(match lk aO.reg id with|some k=>(match canon P k σ' with|some s=>K s|none=>False)|none=>K σ')->∀g' a' w',bK P aO.nt B w0 h0 g' σ' a' w'->Kp D a0 a'->a'.defers=a.defers->Q .normal a' w':=by
    intro σ' h g' a' w' S je EJ;split at h;split at h;rename_i s hs;obtain⟨g2,S2⟩:=dR hs S;exact hQ g2 s a' w' h S2 je EJ;exact h.elim;exact hQ g' σ' a' w' h S je EJ
  simp only[OT]at h;cases draw with
  | false =>
    refine Lr ?_;exact GZ fK hD' h (S.log _) kQ zLa
  | true =>
    simp only at h;split at h;rename_i hc;simp only[fH]at hc;refine oD (Q:=λe a w=>e=.normal/\Q .normal a w) (zdy ?_ λch a w h=>by cases h.1) λe a w h=>by obtain⟨rfl,h⟩:=h;exact h
    refine YZ (K:=λσ'=>match lk aO.reg id with
      | some k=>match canon P k σ' with|some s=>K s|none=>False
      | none=>False) fK hD' kQ hc.1.1 hc.1.2 hc.2 (λσ τ he hσ=>?_) h (S.log []) ?_
    split at hσ;rename_i k hk;rw[zdC he]at hσ;exact hσ;exact hσ.elim;intro σ' h g' a' w' S je EJ;split at h;split at h;rename_i s hs;obtain⟨g2,S2⟩:=dR hs S;exact⟨rfl,hQ g2 s a' w' h S2 je EJ⟩;exact h.elim;exact h.elim;exact h.elim
theorem FK{α:Type}:∀{l p:List α}{x:α},oV l=some (p,x)→l=p++[x]
  | [],p,x,h=>by cases h
  | o::r,p,x,h=>by
    simp only[oV]at h;split at h;rename_i q y hq;cases h;rw[qdB,<- FK hq]
    · rename_i hq;cases h;cases r with|nil=>rfl|cons a r=>simp only[oV]at hq;split at hq<;>cases hq
theorem zg7{P:Program}{nt:Nat}{m p:Oper}{ty:TypeId}{x y:Nat}(h:zcY P nt m p=some (ty,x,y)) :
  m.op=.makeInterface ty (.tmp x)/\m.dst=some y/\m.guard=none/\p.op=.panic (.tmp y)/\p.guard=none/\y<nt/\∃fs,P.underlying ty=some (.struct fs):=by
 unfold zcY at h;split at h;rename_i TZ x' y1 y2 e1 e2 e3 e4 e5;split at h;rename_i hc;simp only[fH]at hc;split at h;rename_i fs hfs;cases h;have:=kY hc.1;subst this;exact⟨e1,e2,e3,e4,e5,by simpa [qd6]using hc.2,fs,hfs⟩;cases h;cases h;cases h
theorem zg8{Γ:bM}{o:Oper}{σ:St}{C:MK}{xs:List XA}{ds:List DV}{ls ms:List Nat}(h:zcZ Γ o σ=some (C,xs,ds,ls,ms)) :
  ∃f args ts gf caps,o.op=.call {callee:=.value f,args,argTypes:=ts}/\dW σ.env f=.one (.c (.clo gf caps))/\Γ.mt gf=some C/\ds=args.toList.map (dW σ.env)++caps.map capD/\jP (zcT gf args.size caps) (lk σ.ay) ds=some (xs,ls,ms):=by
 unfold zcZ at h;split at h;rename_i f args ts e1;split at h;rename_i gf caps e2;split at h;rename_i C' e3;split at h;rename_i xs' ls' ms' e4;cases h;exact⟨f,args,ts,gf,caps,e1,e2,e3,rfl,e4⟩;cases h;cases h;cases h;cases h
theorem zdD{ds:List DV}{ob:Nat→Option AO}{ls ms:List Nat}{rs:List PA}{ys:List XA}{i:Nat}{dst:Option Nat}{σ σ2:St}(h:N9 i dst σ (pG ds ob ls ms rs ys)=some σ2) :
  ∃u,jG ob ds ys=some u/\(lu ls&&Nat.ble ms.length 1&&ms.all λM=>((u.filter λx=>!kT x.2).map (·.1)).contains M)=true/\∃fp,σ2=σ.upd i dst fp (resD rs) (u.filter λx=>!kT x.2) ms:=by
 unfold pG at h;split at h;rename_i u hu;split at h;rename_i hc;cases h;exact⟨u,hu,hc,_,rfl⟩;cases h;cases h
theorem Hq{o:Oper}{a:Act}{w w':World}{Q:Exit→Act→World→Prop}{next:Act→World→Prop}(yN:∀c,o.op ≠ .defer c){f:FuncId}{args:Array Value}(h:(execOp a.eval o).run P w = .ok (.enter f args) w')
    (hR:Calls P f args w' λe zu=>(∃v,e=.returned v/\next (a.put o.dst v) zu)\/∃ch,e=.panicked ch/\Q (.panic ch) a zu):o.wpIn (FR r) n P a w next Q:=by
  refine⟨λ_ _=>trivial,?_⟩;rw[Oper.semAt_eq _ _ _ yN,h,Oper.uponIn_enter];refine⟨λh=>by simp[FR]at h,(J4 hR).mono ?_⟩;rintro e zu (⟨v,rfl,hv⟩|⟨ch,rfl,hv⟩);exact hv;exact hv
theorem Y7(fK:jk P Γ)(aO:dI){id:Nat}{ops:Array Oper}{K:Exit→St→Prop}{D:List Nat}{a0:Act}{σ:St}{g:Gh}{a:Act}{w:World}
    (hD:∀t∈Ir ops.toList,t∈D) (h:JS P Γ aO id ops K σ) (S:bK P aO.nt B w0 h0 g σ a w) (kQ:Kp D a0 a):CV r n P (.region id ops false) (PostR P aO.nt B w0 h0 D a0 K) a w:=by
  have hD':∀(j:Nat)(o:Oper),ops[j]? = some o->∀t,o.dst=some t->t∈D:=λj o ho t ht=>hD t (CX (by simpa using ho) ht);refine Lr ?_;unfold JS at h;split at h
  rotate_left
  exact h.elim;rename_i p1 l hs;have e0:=FK hs;have jw:ops.size=p1.length+1:=by rw[<- qd3,e0];simp
  have at_:∀j:Nat,ops[j]? = (p1++[l])[j]?:=λj:Nat=>by rw[<- e0,jqP]
  split at h
  rotate_left
  exact h.elim;rename_i pre m hs1;have e1:=FK hs1;split at h
  · -- the region panics
    rename_i ty x y zvs;obtain⟨q1,q2,q3,q4,q5,q6,fs,q7⟩:=zg7 zvs;have zIh:ops.size=pre.length+2:=by rw[jw,e1];simp
    have om:ops[pre.length]? = some m:=by rw[at_,e1];simp
    have ol:ops[pre.length+1]? = some l:=by rw[at_,e1];simp
    rw[dqV,zIh,show List.range' 0 (pre.length+2)=List.range' 0 pre.length++[pre.length,pre.length+1]by rw[show pre.length+2=pre.length+1+1 by rfl,qj2,qj2];simp];refine qJ _ a w ?_;refine yc (r:=r) (n:=n) (ad:=a.defers) fK hD' ?_ pre 0 _ g a w (λj hj=>by rw[NR,at_,e1,qjd,jqw hj]) h (S.log []) kQ rfl;intro σ' hK g' a' w' S' zdx _;unfold zuV at hK;split at hK
    rotate_left
    exact hK.elim;rename_i k nn hx;have hv:a'.tmps.getD x undef=.agg #[.int k nn]:=by
      obtain⟨vs,e,hr⟩:=S'.env x _ hx
      match vs,hr with
      | [v],hr =>
        have:Rep g'.h (.int k nn) v:=hr.1;cases this;exact e
    show wpOpsIn (FR r) n P ops _ [pre.length,pre.length+1] a' w';have w1:∀tm,Region.wanted m (yielded ops tm)=true:=λtm=>by simp[Region.wanted,q3]
    have w2:∀tm,Region.wanted l (yielded ops tm)=true:=λtm=>by simp[Region.wanted,q5]
    simp only[wpOpsIn,om,ol,w1,w2,OM];have r1:(execOp a'.eval m).run P w'=.ok (.value (.iface ty (.agg #[.int k nn]))) w':=by
      simp only[execOp,q1,Instr.makeInterface,Act.eval,hv,Sem.run_bind,run_underlying q7,Result.andThen_ok,Sem.run_pure]
    have m1:∀c,m.op ≠ .defer c:=λc e=>by rw[q1]at e;cases e
    have m2:∀c,l.op ≠ .defer c:=λc e=>by rw[q4]at e;cases e
    refine⟨λ_ _=>trivial,?_⟩;rw[Oper.semAt_eq _ _ _ m1,r1,Oper.uponIn_value,q2];refine⟨λ_ _=>trivial,?_⟩;have ets:y<a'.tmps.size:=qdi q6 S'.size;have r2:(execOp (a'.put (some y) (.iface ty (.agg #[.int k nn]))).eval l).run P w'=.halt (.panic (.iface ty (.agg #[.int k nn]))) w':=by
      have ey:(a'.put (some y) (.iface ty (.agg #[.int k nn]))).eval (.tmp y)=.iface ty (.agg #[.int k nn]):=by
        simp[Act.put,Act.eval,yP,ets]
      simp only[execOp,q4,ey];rfl
    rw[Oper.semAt_eq _ _ _ m2,r2,Oper.uponIn_panic];have S2:=S'.put (dst:=some y) (d:=.junk) (v:=.iface ty (.agg #[.int k nn])) (by simpa [dA,qd6]using q6) trivial (λL hL=>by simp[bQ,dw,aY]at hL) [];exact⟨g',_,hK,S2,zdx.put (λt ht=>hD' pre.length m om t (q2.trans ht)) _ a'.defers rfl⟩
  · -- the last operation is a call
    have ol:ops[p1.length]? = some l:=by rw[at_];simp
    rw[dqV,jw,show List.range' 0 (p1.length+1)=List.range' 0 p1.length++[p1.length]by rw[qj2];simp];refine qJ _ a w ?_;refine yc (r:=r) (n:=n) (ad:=a.defers) fK hD' ?_ p1 0 _ g a w (λj hj=>by rw[NR,at_,jqw hj]) h (S.log []) kQ rfl;intro σ' hK g' a' w' S' zdx _;show wpOpsIn (FR r) n P ops _ [p1.length] a' w';unfold Yo at hK;split at hK
    rotate_left
    exact hK.elim;rename_i q5 q6;split at hK
    rotate_left
    exact hK.elim;rename_i C xs ds ls ms hm;obtain⟨f,args,ts,gf,caps,c1,c2,c3,c4,c5⟩:=zg8 hm;split at hK
    rotate_left
    exact hK.elim;rename_i rs ys hC;obtain⟨cv,NM,jV⟩:=(ig S' c2).1;have w1:∀tm,Region.wanted l (yielded ops tm)=true:=λtm=>by simp[Region.wanted,q5]
    simp only[wpOpsIn,ol,w1,OM];have cu:df P gf->(execOp a'.eval l).run P w'=.ok (.enter gf (args.toList.map a'.eval++cv).toArray) w':=by
      intro fC;simp only[execOp,c1,resolve,NM,Deferred.ofValue,Sem.run_bind,Sem.run_pure,Result.andThen_ok,invoke];rw[show(#[]++Array.map a'.eval args++cv.toArray)=(args.toList.map a'.eval++cv).toArray by cases args;simp];exact dN fC
    have OJ:RL (qH g') ds (args.toList.map a'.eval++cv):=by rw[c4];exact(Ce S' args.toList).append (QR jV)
    have main:∀(dst:Option Nat)(σ2:St),N9 p1.length dst σ' (pG ds (lk σ'.ay) ls ms rs ys)=some σ2 ->
        df P gf/\Calls P gf (args.toList.map a'.eval++cv).toArray w' λe w2=>∃g2 u fp,σ2=σ'.upd p1.length dst fp (resD rs) u ms/\Oa g2.h rs e/\bK P aO.nt B w0 h0 g2 ⟨kills (fU ms) σ'.env,u++kills (dO ms) σ'.ay,σ'.log⟩ a' w2:=by
      intro dst σ2 h2;obtain⟨u,hu,cO,fp,hσ⟩:=zdD h2;obtain⟨fC,vO⟩:=UW fK S' c3 OJ (zgz jV (by simp)) c5 hC hu cO none;exact⟨fC,vO.mono λe w2 ⟨g2,he,S2⟩=>⟨g2,_,fp,hσ,he,S2⟩⟩
    split at hK
    · rename_i hpm;split at hK
      rotate_left
      exact hK.elim;rename_i σ2 h2;obtain⟨fC,vO⟩:=main _ _ h2;refine Hq (λc e=>by rw[c1]at e;cases e) (cu fC) (vO.mono ?_);rintro e w2 ⟨g2,u,fp,hσ,oK,S2⟩;unfold Oa at oK;rw[hpm]at oK;obtain⟨v,rfl,nS⟩:=oK;refine .inl ⟨v,rfl,?_⟩;have S3:=S2.put (v:=v) (d:=resD rs) q6 (QO (g:=g2) nS) (λL hL=>by rw[Cc]at hL;simp at hL) σ'.log;have zm4:=zdx.put (hD' p1.length l ol) v a'.defers rfl;rw[QQ]at hσ;rw[hσ]at hK;unfold zcX at hK;split at hK;split at hK;rename_i s hs2;obtain⟨g3,S4⟩:=dR hs2 S3;exact⟨g3,s,hK,S4,zm4⟩;exact hK.elim;exact⟨g2,_,hK,S3,zm4⟩
    · rename_i ch hpm;split at hK
      rotate_left
      exact hK.elim;rename_i σ2 h2;obtain⟨fC,vO⟩:=main _ _ h2;refine Hq (λc e=>by rw[c1]at e;cases e) (cu fC) (vO.mono ?_);rintro e w2 ⟨g2,u,fp,hσ,oK,S2⟩;unfold Oa at oK;rw[hpm]at oK;refine .inr ⟨ch,oK,?_⟩;rw[QQ]at hσ;rw[hσ]at hK;exact⟨g2,_,hK,S2,zdx⟩
def Vo(P:Program)(Γ:bM)(aO:dI)(x y:Code)(ps:List Nat)(k:Keep)(K:Exit→St→Prop):List (List PA)→St→Prop
  | [],s=>K .normal s
  | yv::rest,s=>match pI ps yv s.env with|some env=>vc P Γ aO x (zc0 (vc P Γ aO y (sG P k (mY [GG] (dP x++dP y)) (Vo P Γ aO x y ps k K rest) K)) λ_ _=>False) ⟨env,s.ay,[]⟩|none=>False
theorem Vp{w:World}{l:Nat}{o:Obj}(h:w.heap[l]? = some o):w.putObj l o=w:=by
 obtain⟨hl,e⟩:=X5.1 h;unfold World.putObj;have:w.heap.setIfInBounds l o=w.heap:=by
  apply Array.ext_getElem?;intro i;rw[qdZ];split;rename_i c;subst c
  first|(rw[dH hl];exact h.symm)|exact h.symm
  rfl
 rw[this]
theorem Vq(fK:jk P Γ){aO:dI}{f:Operand}{ps:Array Tmp}{x y:Code}(ihx:Snd P Γ aO B w0 x)(X9:Snd P Γ aO B w0 y):Snd P Γ aO B w0 (.rangeFunc f ps x y):=by
 intro r n h0 D a0 K σ g a w hD hR h S kQ;simp only[vc]at h;split at h
 ·rename_i k hk;split at h
  ·rename_i s hs zrW;simp only[fH] at zrW;obtain⟨zrW,zLc⟩:=zrW;split at h
   ·rename_i gf caps hf;split at h
    ·rename_i ys hit;have zIl:Vo P Γ aO x y ps.toList k K ys s:=h (Vo P Γ aO x y ps.toList k K) (λ_ h=>h) (λ_ _ _ h=>h);obtain⟨g1,S1⟩:=dR hs S;have EI:∀t∈k.tmps,t∉ps.toList/\t∉dP x++dP y:=by
      intro t ht;have h1:=Aj.1 zrW t ht;simp only[NQ]at h1;have h2:t∉ps.toList++(dP x++dP y):=by simpa using h1
      exact⟨λh=>h2 (dG.2 (.inl h)),λh=>h2 (dG.2 (.inr h))⟩
     refine Oi λfn=>?_;obtain⟨l,mark,w1,d,h1,cu,hlw,hl1,zSv,hn1,S2,zCP⟩:=Oh S1 hR fn ps x y;have tN:=jl S1 hf;generalize NM:a.eval f=fvv at tN;cases tN with
     | fn _ _ _ fv cv l1 l2 hf1 EH =>
      have e1:fv=[]:=qdn l1.symm;subst e1;let a1:Act:={a with defers:=mark++a.defers};let rec_:LoopState->Option Code->Loop:=λst pe=>{state:=st,pending:=pe,fn,tmps:=a.tmps,params:=ps,assign:=x,body:=y,defers:=d}
      let J:List (List PA)->Fz->World->Prop:=λ rest h W=>∃ s bk sv iv,Vo P Γ aO x y ps.toList k K rest s/\(∀ t d,lk s.env t=some d->t∈k.tmps)/\bK P aO.nt B w0 h0 ⟨h,bk,sv,iv⟩ s a1 W/\h l=none/\B<=l /\
       (∀L o,lk s.ay L=some o->¬gy ⟨h,bk,sv,iv⟩ L o l)/\W.heap[l]? = some (.loop (rec_ .ready none))
      let Jx:List (List PA)->Fz->World->Prop:=λ _ h W=>∃ s bk sv iv c,((c=.ret/\K .ret s)\/∃ id,c=.exit id/\K (.exit id) s)/\bK P aO.nt B w0 h0 ⟨h,bk,sv,iv⟩ s a1 W/\h l=none/\B<=l /\
       (∀L o,lk s.ay L=some o->¬gy ⟨h,bk,sv,iv⟩ L o l)/\W.heap[l]? = some (.loop (rec_ .done (some c)))
      have zsq:∀{h h':Fz}{W W':World},W.heap[l]? ≠ none->h l=none->(∀b o,h' b=some o->h b=some o\/W.heap.size<=b)->xE h W.heap.size W W'->h' l=none/\W'.heap[l]? = W.heap[l]?:=by
       intro h h' W W' hW hl hn hb;have jv:l<W.heap.size:=by
        cases hx:W.heap[l]? with|none=>exact absurd hx hW|some o=>exact(X5.1 hx).1
       refine⟨?_,hb.block l jv⟩;cases hx:h' l with
       | none=>rfl
       | some o =>
        rcases hn l o hx with h3|h3
        rw[hl]at h3;cases h3;omega
      have hJ:JSt J:=by
       rintro rest h W h' W' ⟨s,bk,sv,iv,hg,he,SJ,hl,hB,vF,hW⟩ hle Jw hn hb;obtain⟨k1,k2⟩:=zsq (by rw[hW];simp) hl hn hb;exact⟨s,bk,sv,iv,hg,he,SJ.world hle Jw hn hb,k1,hB,vF,by rw[k2];exact hW⟩
      have hJx:JSt Jx:=by
       rintro rest h W h' W' ⟨s,bk,sv,iv,c,hc,SJ,hl,hB,vF,hW⟩ hle Jw hn hb;obtain⟨k1,k2⟩:=zsq (by rw[hW];simp) hl hn hb;exact⟨s,bk,sv,iv,c,hc,SJ.world hle Jw hn hb,k1,hB,vF,by rw[k2];exact hW⟩
      have hBl:B<=l:=BH S1.bs hlw;have h0l:∀{h:Fz} {bk sv iv} {s:St} {W:World},bK P aO.nt B w0 h0 ⟨h,bk,sv,iv⟩ s a1 W->h l=none->h0 l=none:=λSJ hl=>by
       cases hx:h0 l with|none=>rfl|some o=>have:=SJ.le0 l o hx;simp only[hl]at this;cases this
      have zLd:∀L o,lk s.ay L=some o->¬gy (g1.re h1) L o l:=λL o ho hk=>by
       have:gy g1 L o l:=hk;have:=gZ (S1.obj L o ho) this;omega
      have zAi:=fK.it gf (caps.map .one) ys hit l J Jx (λe W=>∃ch s bk sv iv h,e=.panicked ch/\K (.panic ch) s/\bK P aO.nt B w0 h0 ⟨h,bk,sv,iv⟩ s a1 W) w1 h1 cv hJ hJx ?_ ⟨s,g1.bk,g1.sv,g1.iv,zIl,FH hs,S2,hn1,hBl,zLd,hl1⟩ (YD ((KG l2 EH).mono λ_ _ h=>h.mono zSv)) S2.hw;obtain⟨fC,zRY⟩:=zAi;refine⟨l,mark,w1,{target:=.fn (.func gf) cv.toArray,args:=#[.func (.yield l) #[] #[]]},w1,gf,(.func (.yield l) #[] #[]::cv).toArray,w1,?_,?_,?_,(J4 zRY).mono ?_⟩;exact cu;simp only [resolve,NM];simp[go_sem];simp only [invoke];rw[show(#[.func (.yield l) #[] #[]]++cv.toArray)=(.func (.yield l) #[] #[]::cv).toArray by simp];exact dN fC;have col:∀d∈a1.defers,d∈a0.defers\/∃b,d.target=.collected b:=λd hd=>by
       rcases dG.1 hd with hd|hd
       exact .inr (zCP d hd);exact kQ.2.2.2 d hd
      rintro e W3 (⟨v,h3,rfl,zIe,hw3,(⟨s3,bk,sv,iv,hg3,he3,S3,hl3,hB3,zvt,hW3⟩|⟨_,s3,bk,sv,iv,c,hc,S3,hl3,hB3,zvt,hW3⟩)⟩|⟨⟨ch,rfl⟩,ch',s3,bk,sv,iv,h3,e3,hK3,S3⟩);have S4:=S3.putObj (.loop {rec_ .ready none with state := .exhausted}) hl3 hB3 zvt;refine⟨none,_,run_endLoop hW3 (by simp[rec_]),_,s3,hg3,S4,kQ.1,kQ.2.1,λhr=>absurd (hD GG jM) hr,col⟩;have S4:=S3.putObj (.loop {rec_ .done (some c)with state := .exhausted}) hl3 hB3 zvt;refine⟨some c,_,run_endLoop hW3 (by simp[rec_]),?_⟩;rcases hc with⟨rfl,hc⟩|⟨id,rfl,hc⟩
      exact za9 ⟨_,s3,hc,S4,kQ.1,kQ.2.1,λhr=>absurd (hD GG jM) hr,col⟩;exact Vk ⟨_,s3,hc,S4,kQ.1,kQ.2.1,λhr=>absurd (hD GG jM) hr,col⟩;cases e3;exact⟨_,s3,hK3,S3,kQ.1,kQ.2.1,λhr=>absurd (hD GG jM) hr,col⟩
      ·-- one round
       rintro yv rest h W us ⟨s,bk,sv,iv,hg,hek,SJ,hl,_,vF,hW⟩ Qm hHw n';simp only[Vo]at hg;split at hg
       ·rename_i env zrP;have jv:l<W.heap.size:=(X5.1 hW).1;have zVd:=h0l SJ hl;have SJ2:=SJ.up.hide hl hW hBl vF;have zrN:jX h (h.add l (.loop (rec_ .ready none))):=Fz.le_add hl;have zLe:∀p∈ps.toList,p<a.tmps.size:=λp hp=>by
         have:=Aj.1 zLc p hp;exact qdi (by simpa [qd6]using this) SJ.size
        obtain⟨hul,zCQ⟩:=za8 (g:=(⟨h.add l (.loop (rec_ .ready none)),bk,sv,iv⟩:Gh)) 0 ps.toList yv us s.env env a.tmps zrP (Qm.mono λp q hpq=>by
         cases p with
         | one v=>exact Rep.mono zrN hpq
         | agg cs=>obtain⟨vs,h5,h6⟩:=hpq;exact⟨vs,h5,h6.mono λ_ _=>Rep.mono zrN⟩) zLe (λt d ht=>SJ2.env t d ht)
        have zLf:(ps.zip us.toArray).foldl (λtmps (t,a)=>tmps.setIfInBounds t a) a.tmps=(ps.toList.zip us).foldl (λt (p,v)=>t.setIfInBounds p v) a.tmps:=by
         rw[<- Array.foldl_toList,Array.toList_zip]
        let ar:Act:={tmps:=(ps.toList.zip us).foldl (λt (p,v)=>t.setIfInBounds p v) a.tmps,defers:=[]};have Sr:bK P aO.nt B w0 (h.add l (.loop (rec_ .ready none))) ⟨h.add l (.loop (rec_ .ready none)),bk,sv,iv⟩ ⟨env,s.ay,[]⟩ ar W:=by
         have Sa:=(SJ2.envs (env:=[]) (λt d ht=>by simp[lk]at ht) (λt d ht=>by simp[lk]at ht) []).act (a':=ar) (Marks.nil _ _) (by rw[show ar.tmps.size=a.tmps.size from fold_size _ _];exact SJ.size) (λt d ht=>by simp[lk]at ht);exact Sa.envs zCQ (λt d ht L hL=>by
          rcases PQ _ _ _ _ zrP t d ht with h5|h5
          exact SJ.clE t d h5 L hL;rw[h5]at hL;simp at hL) []
        have hrd:∀st pe,Rnd (some l) (h.add l (.loop (rec_ st pe))):=λst pe l' e=>by cases e;exact⟨_,Fz.add_same⟩
        refine⟨_,_,_,_,by rw[run_yield (P:=P) (args:=us.toArray) hW (by simp[rec_,hul]),zLf],Ls ?_⟩;show CV (some l) n' P x _ ar W;refine oD (ihx (some l) n' _ (dP x++dP y) ar _ _ _ ar W (λt ht=>dG.2 (.inl ht)) (hrd _ _) hg Sr (Kp.refl _ _)) ?_;rintro e a' w' ⟨g2,σ2,hK2,S2,zm4⟩;cases e with
        | normal =>
         simp only[zc0]at hK2;obtain⟨_,zCR,X0,S3⟩:=S2.unhide hBl hl rfl (λds=>by simp);refine⟨_,run_beginRound X0 rfl,?_⟩;have S4:=S3.putObj (.loop {rec_ .ready none with state:=.busy}) Fz.del_same hBl zCR;have hw4:(w'.putObj l (.loop {rec_ .ready none with state:=.busy})).heap[l]? = some (.loop (rec_ .busy none)):=World.putObj_heap_same (X5.1 X0).1;have S5:=S4.hide (o:=.loop (rec_ .busy none)) Fz.del_same hw4 hBl zCR;show CV (some l) n' P y _ a' _;refine oD (X9 (some l) n' _ (dP x++dP y) ar _ σ2 _ a' _ (λt ht=>dG.2 (.inr ht)) (hrd _ _) hK2 S5 zm4) ?_;rintro e a5 w5 ⟨g6,σ6,Ua,S6,zCS⟩
         have back:∀s7,canon P k σ6=some s7->∃(w5l:w5.heap[l]? = some (.loop (rec_ .busy none)))(h':Fz)(bk sv:_)(iv:Nat->Nat->Value),jX h h'/\h' l=none /\
           ∀o',bK P aO.nt B w0 h0 ⟨h',bk,sv,iv⟩ s7 a1 (w5.putObj l o')/\(∀L o,lk s7.ay L=some o->¬gy ⟨h',bk,sv,iv⟩ L o l):=by
          intro s7 hs7;obtain⟨g7,S7⟩:=dR hs7 S6;obtain⟨_,zCT,hw8,S8⟩:=S7.unhide hBl hl rfl (λds=>by simp);have zCU:jX h (g7.h.del l):=S8.le0;refine⟨hw8,g7.h.del l,g7.bk,g7.sv,g7.iv,zCU,Fz.del_same,λo'=>⟨?_,zCT⟩⟩;have S9:=(S8.putObj o' Fz.del_same hBl zCT).down (h0:=h0) SJ.le0 SJ.hn;refine S9.act (SJ.dfr.mono zCU) SJ.size λt d ht=>?_;obtain⟨h10,h11⟩:=EI t (FH hs7 t d ht);have h12:=zCS.1 t h11;have h13:ar.tmps.getD t undef=a.tmps.getD t undef:=Lm _ _ _ λq hq e=>h10 (e▸(List.of_mem_zip hq).1);have:=S9.env t d ht;rw[h12,h13]at this;exact this
         cases e with
         | normal =>
          simp only[sG]at Ua;split at Ua;rename_i s7 hs7;obtain⟨w5l,h',bk',sv',iv',gI,vk,hS⟩:=back s7 hs7;have zhb:=(X5.1 w5l).1;refine⟨_,_,run_endRound none w5l,.inl ⟨h',gI,(hS _).1.hw,.inl ⟨rfl,s7,bk',sv',iv',Ua,FH hs7,(hS _).1,vk,hBl,(hS (.loop (rec_ .ready none))).2,?_⟩⟩⟩;exact World.putObj_heap_same zhb;exact Ua.elim
         | ret =>
          simp only[sG]at Ua;split at Ua;rename_i s7 hs7;obtain⟨w5l,h',bk',sv',iv',gI,vk,hS⟩:=back s7 hs7;have zhb:=(X5.1 w5l).1;refine⟨_,_,run_endRound (some .ret) w5l,.inl ⟨h',gI,(hS _).1.hw,.inr ⟨rfl,s7,bk',sv',iv',.ret,.inl ⟨rfl,Ua⟩,(hS _).1,vk,hBl,(hS (.loop (rec_ .ready none))).2,?_⟩⟩⟩;exact World.putObj_heap_same zhb;exact Ua.elim
         | exit id =>
          simp only[sG]at Ua;split at Ua;rename_i s7 hs7;obtain⟨w5l,h',bk',sv',iv',gI,vk,hS⟩:=back s7 hs7;have zhb:=(X5.1 w5l).1;refine⟨_,_,run_endRound (some (.exit id)) w5l,.inl ⟨h',gI,(hS _).1.hw,.inr ⟨rfl,s7,bk',sv',iv',.exit id,.inr ⟨id,rfl,Ua⟩,(hS _).1,vk,hBl,(hS (.loop (rec_ .ready none))).2,?_⟩⟩⟩;exact World.putObj_heap_same zhb;exact Ua.elim
         | goto q=>exact Ua.elim
         | panic ch =>
          simp only[sG]at Ua;split at Ua;rename_i hnp hs7;obtain⟨w5l,h',bk',sv',iv',gI,vk,hS⟩:=back _ hs7;have hr:GG∉dP x++dP y:=by
           have:=Aj.1 hnp GG (by simp);simpa using this
          refine⟨zCS.2.2.1 hr,.inr ⟨⟨ch,rfl⟩,ch,_,bk',sv',iv',h',rfl,Ua,?_⟩⟩;have:=(hS (.loop (rec_ .busy none))).1;rwa[Vp w5l]at this;exact Ua.elim
         | outgrown=>exact Ua.elim
        | exit id=>exact hK2.elim
        | goto q=>exact hK2.elim
        | ret=>exact hK2.elim
        | panic ch=>exact hK2.elim
        | outgrown=>exact hK2.elim
       exact hg.elim
    exact h.elim
   exact h.elim
  exact h.elim
 exact h.elim
theorem Rh(fK:jk P Γ)(aO:dI):∀(c:Code),Snd P Γ aO B w0 c:=by
 intro c
 induction c with
 | skip=>intro r n h0 D a0 K σ g a w _ _ h S kQ;exact zg2 ⟨g,σ,h,S,kQ⟩
 | region id ops draw =>
  intro r n h0 D a0 K σ g a w hD _ h S kQ;simp only[vc]at h;split at h;exact PR fK aO hD h S kQ λg' σ' a' w' hK S' je _=>⟨g',σ',hK,S',je⟩;rename_i hp;have hdr:draw=false:=by cases draw<;>simp_all
  subst hdr;exact Y7 fK aO hD h S kQ
 | seq x y ihx X9 =>
  intro r n h0 D a0 K σ g a w hD hR h S kQ;refine zm2 (oD (ihx r n h0 D a0 _ σ g a w (λt ht=>hD t (dG.2 (.inl ht))) hR h S kQ) ?_);have hDy:∀t∈dP y,t∈D:=λt ht=>hD t (dG.2 (.inr ht));rintro e a' w' ⟨g',σ',hK,S',je⟩;cases e with
  | normal =>
   simp only[zc0,zmq]at hK;split at hK;split at hK;rename_i s hs;obtain⟨g2,S2⟩:=dR hs S';exact X9 r n h0 D a0 K s g2 a' w' hDy hR hK S2 je;exact hK.elim;exact X9 r n h0 D a0 K σ' g' a' w' hDy hR hK S' je
  | exit id=>exact⟨g',σ',hK,S',je⟩
  | goto l=>exact⟨g',σ',hK,S',je⟩
  | ret=>exact⟨g',σ',hK,S',je⟩
  | panic ch=>exact⟨g',σ',hK,S',je⟩
  | outgrown=>exact⟨g',σ',hK,S',je⟩
 | cond c x y ihx X9 =>
  intro r n h0 D a0 K σ g a w hD hR h S kQ;simp only[vc]at h;split at h
  ·rename_i t ht;have hv:=um S ht;have hS:∀b,t=b->bK P aO.nt B w0 h0 g (wS σ c b) a w:=by
    intro b hb;cases c with
    | tmp q =>
     refine S.env' (t:=q) (d:=.bool b) ?_ (jZ _);have:a.tmps.getD q undef=.bool t:=hv;rw[this,hb];exact .bool b
    | _=>exact S
   have h2:=qp.1 h;refine zg3 hv ?_;cases t with|true=>exact ihx r n h0 D a0 K _ g a w (λt ht=>hD t (dG.2 (.inl ht))) hR (h2.1 rfl) (hS true rfl) kQ|false=>exact X9 r n h0 D a0 K _ g a w (λt ht=>hD t (dG.2 (.inr ht))) hR (h2.2 rfl) (hS false rfl) kQ
  exact h.elim
 | block id b ih =>
  intro r n h0 D a0 K σ g a w hD hR h S kQ;refine zdA (oD (ih r n h0 D a0 _ σ g a w hD hR h S kQ) ?_);rintro e a' w' ⟨g',σ',hK,S',je⟩;cases e with
  | exit j =>
   simp only[Yp]at hK;simp only[Exit.inBlock];split at hK;rename_i hj;rw[dH (kY hj)];exact⟨g',σ',hK,S',je⟩;rename_i hj;rw[dM (dq4 hj)];exact⟨g',σ',hK,S',je⟩
  | normal=>exact⟨g',σ',hK,S',je⟩
  | goto l=>exact⟨g',σ',hK,S',je⟩
  | ret=>exact⟨g',σ',hK,S',je⟩
  | panic ch=>exact⟨g',σ',hK,S',je⟩
  | outgrown=>exact⟨g',σ',hK,S',je⟩
 | loop b ih =>
  intro r n h0 D a0 K σ g a w hD hR h S kQ;simp only[vc]at h;split at h;rename_i k hk;split at h;rename_i s hs;obtain⟨g1,S1⟩:=dR hs S;refine Hg ?_;have key:=h (λs=>∀g a w,bK P aO.nt B w0 h0 g s a w->Kp D a0 a->Vl r n P b (PostR P aO.nt B w0 h0 D a0 K) a w) ?_;exact key g1 a w S1 kQ
  ·intro s hs g a w S kQ;refine Hl (oD (ih r n h0 D a0 _ s g a w hD hR hs S kQ) ?_);rintro e a' w' ⟨g',σ',hK,S',je⟩;cases e with
   | normal =>
    simp only[zf6,hk]at hK;split at hK;rename_i s2 hs2;obtain⟨g2,S2⟩:=dR hs2 S';exact hK g2 a' w' S2 je;exact hK.elim
   | exit id=>exact⟨g',σ',hK,S',je⟩
   | goto l=>exact⟨g',σ',hK,S',je⟩
   | ret=>exact⟨g',σ',hK,S',je⟩
   | panic ch=>exact⟨g',σ',hK,S',je⟩
   | outgrown=>exact⟨g',σ',hK,S',je⟩
  exact h.elim;split at h;rename_i m k hk;have key:∀(m:Nat)(σ:St)(g:Gh)(a:Act)(w:World),zc1 P k (vc P Γ aO b) m K σ->bK P aO.nt B w0 h0 g σ a w->Kp D a0 a->Vl r n P b (PostR P aO.nt B w0 h0 D a0 K) a w:=by
   intro m
   induction m with
   | zero=>intro σ g a w h;exact h.elim
   | succ m ihm =>
    intro σ g a w h S kQ;simp only[zc1]at h;split at h
    ·rename_i s hs;obtain⟨g1,S1⟩:=dR hs S;refine Hl (oD (ih r n h0 D a0 _ s g1 a w hD hR h S1 kQ) ?_);rintro e a' w' ⟨g',σ',hK,S',je⟩;cases e with|normal=>exact ihm σ' g' a' w' hK S' je|exit id=>exact⟨g',σ',hK,S',je⟩|goto l=>exact⟨g',σ',hK,S',je⟩|ret=>exact⟨g',σ',hK,S',je⟩|panic ch=>exact⟨g',σ',hK,S',je⟩|outgrown=>exact⟨g',σ',hK,S',je⟩
    exact h.elim
  exact Hg (key m σ g a w h S kQ);exact h.elim
 | exit id=>intro r n h0 D a0 K σ g a w _ _ h S kQ;exact Vk ⟨g,σ,h,S,kQ⟩
 | scope b ih =>
  intro r n h0 D a0 K σ g a w hD hR h S kQ;refine zdB (oD (ih r n h0 D a0 _ σ g a w hD hR h S kQ) ?_);rintro e a' w' ⟨g',σ',hK,S',je⟩;cases e with|goto l=>exact hK|normal=>exact⟨g',σ',hK,S',je⟩|exit l=>exact⟨g',σ',hK,S',je⟩|ret=>exact⟨g',σ',hK,S',je⟩|panic ch=>exact⟨g',σ',hK,S',je⟩|outgrown=>exact⟨g',σ',hK,S',je⟩
 | label l=>intro r n h0 D a0 K σ g a w _ _ h S kQ;exact zdz ⟨g,σ,h,S,kQ⟩
 | ret=>intro r n h0 D a0 K σ g a w _ _ h S kQ;exact za9 ⟨g,σ,h,S,kQ⟩
 | rangeFunc f ps x y ihx X9=>exact Vq fK ihx X9
 | goto l=>intro r n h0 D a0 K σ g a w _ _ h S;exact h.elim
 | refuse s=>intro r n h0 D a0 K σ g a w _ _ h S;exact h.elim
end
end Go.Pm
namespace Go.Pm
variable [aG]
open Go.RowKit (Below)
section
variable{P:Program}{Γ:bM}
theorem uy:∀(args:List PA)(i t:Nat)(d:DV),lk (jK i args) t=some d→∃x,args[t-i]? = some x∧i≤t∧d = .one (NZ x)
  | [],i,t,d,h=>by simp[jK,lk]at h
  | x::r,i,t,d,h=>by
    simp only[jK]at h;rw[aS]at h;split at h;rename_i e;simp only[bG]at h;subst e;exact⟨x,by simp,jy _,h.symm⟩;rename_i e;obtain⟨y,h1,h2,h3⟩:=uy r (i+1) t d h;refine⟨y,?_,omY,h3⟩;rw[show t-i=(t-(i+1))+1 by omega,Yg];exact h1
def resV(tmps:Array Value):ResultVar→Sem Value
  | .tmp t=>pure (tmps.getD t undef)
  | .cell b t=>do loadVar t (<- asAddr (tmps.getD b undef))
theorem Lt{w:World}(x:Addr):(asAddr (.pointer (some x))).run P w=.ok x w:=rfl
theorem FM{nt B:Nat}{w0:World}{h0:Fz}{g:Gh}{σ:St}{a:Act}{w:World}(S:bK P nt B w0 h0 g σ a w):∀(rs:List ResultVar)(l:List PA),kJ P σ rs=some l ->
  ∃(u:lY)(vs:List Value),dY (lk σ.ay) u /\
   (rs.mapM (resV a.tmps)).run P w=.ok vs w /\
   ∀(u':lY)(h':Fz),(∀y∈u,y∈u')->eQ g (lk σ.ay) u' h'->RL (pJ h') l vs
 | [],l,h=>by
  simp[kJ]at h;subst h;exact⟨[],[],dY.nil _,rfl,λ_ _ _ _=>trivial⟩
 | .tmp t::r,l,h=>by
  simp only[kJ]at h;split at h;rename_i d hd;split at h;rename_i x u1 l2 h1 h2;simp only[bG]at h;subst h;obtain⟨u2,vs,hu2,cu,hr⟩:=FM S r l2 h2;refine⟨u1++u2,a.tmps.getD t undef::vs,(BU h1).append hu2,?_,λu' h' hu F=>⟨F.repD h1 (λy hy=>hu y (dG.2 (.inl hy))) (S.env t d hd),hr u' h' (λy hy=>hu y (dG.2 (.inr hy))) F⟩⟩;rw[qjD];simp only[resV,Sem.run_bind,Sem.run_pure,Result.andThen_ok];rw[cu];rfl;cases h;cases h
 | .cell t ty::r,l,h=>by
  simp only[kJ]at h;split at h;rename_i L off ag m ht hg hs;split at h;rename_i TZ cells hL;split at h;rename_i d hd;split at h;rename_i x u1 l2 h1 h2;simp only[bG]at h;subst h;obtain⟨u2,vs,hu2,cu,hr⟩:=FM S r l2 h2;obtain⟨C,hC,TP⟩:=S.obj L _ hL;obtain⟨v,X3,hv⟩:=J5 (P:=P) hg hs hC 0 (λj y hj=>by obtain⟨v,hv,Ql⟩:=TP.get j y hj;exact⟨v,by simpa using hv,Ql⟩) hd;have hp:a.tmps.getD t undef=.pointer (some ⟨g.bk L,off,none⟩):=S.env t _ ht;rw[NR]at X3;refine⟨u1++u2,v::vs,(BU h1).append hu2,?_,λu' h' hu F=>⟨F.repD h1 (λy hy=>hu y (dG.2 (.inl hy))) hv,hr u' h' (λy hy=>hu y (dG.2 (.inr hy))) F⟩⟩;have h1:(resV a.tmps (.cell t ty)).run P w=.ok v w:=by
   simp only[resV,Sem.run_bind,hp,Lt,Result.andThen_ok,X3]
  rw[qjD];simp only[Sem.run_bind,h1,Result.andThen_ok];rw[cu];rfl;cases h;cases h;cases h;cases h
theorem Hr{nt B:Nat}{w0:World}{h0:Fz}{g:Gh}{σ:St}{a:Act}{w:World}(S:bK P nt B w0 h0 g σ a w){fn:Func}{l:List PA}(h:kJ P σ fn.results.toList=some l) :
  ∃(u:lY)(v:Value),dY (lk σ.ay) u/\(results fn a.tmps).run P w=.ok v w/\∀(h':Fz),eQ g (lk σ.ay) u h'->pU h' l v:=by
 obtain⟨u,vs,hu,cu,hr⟩:=FM S fn.results.toList l h;refine⟨u,if h:vs.toArray.size=1 then vs.toArray[0]else .tuple vs.toArray,hu,?_,λh' F=>?_⟩;have e:results fn a.tmps=(do let vs ← fn.results.mapM (resV a.tmps);pure (if h:vs.size=1 then vs[0]else .tuple vs)):=rfl;rw[e,qjE];simp only[Sem.run_bind,Sem.run_map];rw[cu];simp only[Result.andThen_ok,Sem.run_pure]
 ·have nG := hr u h' (fun y hy => hy) F
  match l,vs,nG with
  | [],[],_=>exact⟨[],rfl,trivial⟩
  | [x],[v],nG=>exact nG.1
  | x::y::l,v::v2::vs,nG =>
   refine⟨v::v2::vs,?_,nG⟩;rw[dif_neg (by simp)]
  | [],_::_,nG=>exact nG.elim
  | [_],[],nG=>exact nG.elim
  | [_],_::_::_,nG=>exact nG.2.elim
  | _::_::_,[],nG=>exact nG.elim
  | _::_::_,[_],nG=>exact nG.2.elim
theorem bK.unmark{nt B:Nat}{w0:World}{h0:Fz}{g:Gh}{σ:St}{a:Act}{w:World}(S:bK P nt B w0 h0 g σ a w){D:Nat}{Ds:List (Nat ⊕ Deferred)}
    (yN:(lefts (.inl D::Ds)).Nodup) (hm:∀E,Sum.inl E∈.inl D::Ds->B<=E/\g.h E=some (.fz (.deferred (some [])))) (hi:∀d,Sum.inr d∈Ds->GH P d) (TU:∀b,h0 b=some (.fz (.deferred (some [])))->b<B) {ds:List Deferred} (OJ:ds=Ds.map deD) :
    w.heap[D]? = some (.deferred (some []))/\bK P nt B w0 h0 (g.re (g.h.del D)) σ {a with defers:=ds} (w.putObj D (.deferred none)):=by
  obtain⟨hB,hb⟩:=hm D jM;have zlp:=(qdc.1 yN).1;have hl:Vj g.h (g.h.del D):=λk x hk hx=>by
    rw[Fz.del_other];exact hk;intro e;subst e;rw[hb]at hk;simp only[bG]at hk;subst hk;obtain⟨C,ty,fr,hx⟩:=hx;cases hx
  have vF:∀L x,lk σ.ay L=some x->¬gy g L x D:=λL x hL hk=>by have:=(S.own L x D hL hk).2;rw[hb]at this;cases this
  refine⟨S.hw.fz hb,?_⟩;have S1:bK P nt B w0 h0 (g.re (g.h.del D)) σ {a with defers:=ds} w:=by
    refine⟨⟨Ds,(qdc.1 yN).2,OJ,λE hE=>⟨(hm E (jB _ hE)).1,?_⟩,hi⟩,S.size,λt d ht=>Y0 hl (S.env t d ht),λL x hL=>Y1 hl (S.obj L x hL),λL x k hL hk=>?_,S.sep,?_,?_,?_,S.below,S.bs,S.clE,S.clO⟩;show g.h.del D E=_;rw[Fz.del_other (λe=>zlp (by rw[<- e];exact ug hE))];exact(hm E (jB _ hE)).2;obtain⟨h1,h2⟩:=S.own L x k hL hk;refine⟨h1,?_⟩;show g.h.del D k=none;unfold Fz.del;split;rfl;exact h2;intro k x hk;have hk:g.h.del D k=some x:=hk;unfold Fz.del at hk;split at hk;cases hk;exact S.hw k x hk;intro k x hk;show g.h.del D k=some x;rw[Fz.del_other (λe=>by
      subst e;have h1:=S.le0 _ _ hk;rw[hb]at h1;simp only[bG]at h1;rw[<- h1]at hk;have:=TU _ hk;omega)];exact S.le0 k x hk
    intro k x hk;have hk:g.h.del D k=some x:=hk;unfold Fz.del at hk;split at hk;cases hk;exact S.hn k x hk
  exact S1.putObj _ Fz.del_same hB vF
theorem CY{nt B:Nat}{w0:World}{h0:Fz}{σ:St}{fn:Func}{R:Ending→World→Prop}{n:Nat}(TU:∀b,h0 b=some (.fz (.deferred (some [])))→b<B) :
  ∀(Ds:List (Nat ⊕ Deferred))(g:Gh)(a:Act)(w:World),(lefts Ds).Nodup->a.defers=Ds.map deD->(∀D,Sum.inl D∈Ds->B<=D/\g.h D=some (.fz (.deferred (some []))))->(∀d,Sum.inr d∈Ds->GH P d)->bK P nt B w0 h0 g σ a w ->
   (∀g' a' w',a'.tmps=a.tmps->bK P nt B w0 h0 g' σ a' w'->∃v,(results fn a'.tmps).run P w'=.ok v w'/\R (.returned v) w')->LeavesInM (FR none) n P fn a.tmps R a.defers .returning w
 | [],g,a,w,_,ha,_,_,S,hR=>by
  rw[ha];exact hR g a w rfl S
 | .inl D::Ds,g,a,w,yN,ha,hm,hi,S,hR=>by
  obtain⟨h1,S1⟩:=S.unmark yN hm (λd hd=>hi d (jB _ hd)) TU rfl;rw[ha,nU];refine⟨by simp,.inl ⟨D,_,rfl,run_takeDeferred h1,?_⟩⟩;have zlp:=(qdc.1 yN).1;exact CY TU Ds _ {a with defers:=Ds.map deD} _ (qdc.1 yN).2 rfl (λE hE=>⟨(hm E (jB _ hE)).1,by
   show g.h.del D E=_;rw[Fz.del_other (λe=>zlp (by rw[<- e];exact ug hE))];exact(hm E (jB _ hE)).2⟩) (λd hd=>hi d (jB _ hd)) S1 (λg' a' w' ht=>hR g' a' w' ht)
 | .inr d::Ds,g,a,w,yN,ha,hm,hi,S,hR=>by
  obtain⟨fv,cap,f,args,h1,h2,h3⟩:=hi d jM;rw[ha,nU];refine⟨by simp,.inr ⟨(λh=>by cases h),fv,cap,f,args,h1,h2 w,(λ_ _=>trivial),?_⟩⟩;obtain⟨c1,c2⟩:=h3 (n-1) w;refine⟨c1,λc cs hc hr=>?_⟩;obtain⟨e,u',w',fr,hR',rest⟩:=c2 c cs hc hr;refine⟨e,u',w',fr,?_,rest⟩;obtain⟨⟨v,rfl⟩,rfl,rfl⟩:=hR';have Ju:∀D,Sum.inl D∈Ds->B<=D/\g.h D=some (.fz (.deferred (some []))):=λD hD=>hm D (jB _ hD);have mV:∀d,Sum.inr d∈Ds->GH P d:=λd hd=>hi d (jB _ hd);exact CY TU Ds g {a with defers:=Ds.map deD} _ yN rfl Ju mV (S.act ⟨Ds,yN,rfl,Ju,mV⟩ S.size S.env) (λg' a' w' ht=>hR g' a' w' ht)
theorem zbb{nt B:Nat}{w0:World}{h0:Fz}{σ:St}{fn:Func}{R:Ending→World→Prop}{n:Nat}{ch:List PanicEntry}(TU:∀b,h0 b=some (.fz (.deferred (some [])))→b<B) :
  ∀(Ds:List (Nat ⊕ Deferred))(g:Gh)(a:Act)(w:World),(lefts Ds).Nodup->a.defers=Ds.map deD->(∀D,Sum.inl D∈Ds->B<=D/\g.h D=some (.fz (.deferred (some []))))->(∀d,Sum.inr d∈Ds->False)->bK P nt B w0 h0 g σ a w ->
   (∀g' a' w',a'.tmps=a.tmps->bK P nt B w0 h0 g' σ a' w'->R (.panicked ch) w')->LeavesInM (FR none) n P fn a.tmps R a.defers (.panicking ch) w
 | [],g,a,w,_,ha,_,_,S,hR=>by
  rw[ha];exact hR g a w rfl S
 | .inl D::Ds,g,a,w,yN,ha,hm,hi,S,hR=>by
  have mV:∀d,Sum.inr d∈Ds->False:=λd hd=>hi d (jB _ hd);obtain⟨h1,S1⟩:=S.unmark yN hm (λd hd=>(mV d hd).elim) TU rfl;rw[ha,nU];refine⟨by simp,.inl ⟨D,_,rfl,run_takeDeferred h1,?_⟩⟩;have zlp:=(qdc.1 yN).1;exact zbb TU Ds _ {a with defers:=Ds.map deD} _ (qdc.1 yN).2 rfl (λE hE=>⟨(hm E (jB _ hE)).1,by
   show g.h.del D E=_;rw[Fz.del_other (λe=>zlp (by rw[<- e];exact ug hE))];exact(hm E (jB _ hE)).2⟩) mV S1 (λg' a' w' ht=>hR g' a' w' ht)
 | .inr d::Ds,g,a,w,yN,ha,hm,hi,S,hR=>(hi d jM).elim
theorem PS{nt:Nat}{args:List PA}{w:World}{h0:Fz}{vs:List Value}{m:Nat}(Jv:nt=m)(hlen:args.length≤nt)(jI:RL (pJ h0) args vs)(NV:Hw h0 w) :
  bK P nt w.heap.size w h0 ⟨h0,λ_=>0,λ_=>undef,λ_ _=>undef⟩ ⟨jK 0 args,[],[]⟩ {tmps:=vs.toArray++Array.replicate (m-vs.toArray.size) undef,defers:=[]} w:=by
 have hl:=jI.length;refine⟨Marks.nil _ _,by simp;omega,?_,λL o ho=>by simp[lk]at ho,λL o b ho=>by simp[lk]at ho,λL o b L' o' ho=>by simp[lk]at ho,NV,λ_ _ h=>h,λb o h=>.inl h,xE.refl _ _ _,jy _,?_,λL o ho=>by simp[lk]at ho⟩;intro t d ht;obtain⟨x,hx,_,rfl⟩:=uy args 0 t d ht;obtain⟨v,hv,xg⟩:=jI.get t x (by simpa using hx);have jv:=(ER.1 hv).1;have:(vs.toArray++Array.replicate (m-vs.toArray.size) undef).getD t undef=v:=by
  rw[yP,dqZ (by simpa using jv)];simp[hv]
 rw[this];exact Po (g:=⟨h0,λ_=>0,λ_=>undef,λ_ _=>undef⟩) xg;intro t d ht L hL;obtain⟨x,hx,_,rfl⟩:=uy args 0 t d ht;rw[show bQ (.one (NZ x))=dw (NZ x)from rfl,yS]at hL;simp at hL
theorem PT{G:bM}(fK:jk P G){f:FuncId}{aO:dI}{args:List PA}{Kx:Func→Exit→St→Prop}{w:World}{h0:Fz}{vs:List Value}{R:Ending→World→Prop}{fn:Func}{c:Code}
    (tN:P.funcs[f]? = some fn) (vC:fn.body=some c) (Jv:aO.nt=fn.ntmps) (hlen:args.length<=aO.nt) (hv:vc P G aO c (Kx fn) ⟨jK 0 args,[],[]⟩) (jI:RL (pJ h0) args vs) (NV:Hw h0 w)
    (oK:∀e σ g a w',Kx fn e σ->bK P aO.nt w.heap.size w h0 g σ a w'->(e=.normal\/e=.ret)/\∃v,(results fn a.tmps).run P w'=.ok v w'/\R (.returned v) w'):Calls P f vs.toArray w R:=by
  have S:=PS (P:=P) Jv hlen jI NV;have hwp:=Rh (B:=w.heap.size) (w0:=w) fK aO c none 0 h0 (dP c) _ (Kx fn) _ _ _ _ (λ_ h=>h) (Rnd.none h0) hv S (Kp.refl _ _);refine(callsIn_wide (n:=0)).1 ?_;refine callsIn_of_wp_marks (F:=FR none) tN vC trivial (wpIn_mono (uw hwp) ?_);have TU:∀b,h0 b=some (.fz (.deferred (some [])))->b<w.heap.size:=λb h=>NV.lt h;rintro e a' w' ⟨g',σ',wQ,S',_⟩;have fin:LeavesInM (FR none) 0 P fn a'.tmps R a'.defers .returning w':=by
    obtain⟨Ds,h1,h2,h3,h4⟩:=S'.dfr;exact CY TU Ds g' a' w' h1 h2 h3 h4 S' λg2 a2 w2 _ S2=>(oK e σ' g2 a2 w2 wQ S2).2
  rcases(oK e σ' g' a' w' wQ S').1 with rfl|rfl
  exact fin;exact fin
theorem zm5{G:bM}(fK:jk P G){f:FuncId}{args:List PA}{K:List PA→Prop}{aO:dI}(hv:vcFun P G aO f args K){w:World}{h0:Fz}{vs:List Value}(jI:RL (pJ h0) args vs)(NV:Hw h0 w) :
  Calls P f vs.toArray w λ e w'=>∃ (h':Fz) (rs:List PA) (v:Value),K rs/\e=.returned v/\pU h' rs v/\xE h0 w.heap.size w w' /\
   jX h0 h'/\Hw h' w'/\∀b o,h' b=some o->h0 b=some o\/w.heap.size<=b:=by
 unfold vcFun at hv;split at hv;rename_i fn tN;split at hv;rename_i c vC;split at hv
 ·rename_i Jv;simp only[fH,Ud] at Jv;refine PT (G:=G) fK (Kx:=λ fn=>zf7 P fn K) tN vC (kY Jv.1) Jv.2 hv jI NV ?_;intro e σ' g' a' w' wQ S'
  have fin:Ar P fn K σ'->∃v,(results fn a'.tmps).run P w'=.ok v w' /\
    (∃(h':Fz)(rs:List PA)(v_1:Value),K rs/\Ending.returned v=.returned v_1/\pU h' rs v_1/\xE h0 w.heap.size w w'/\jX h0 h'/\Hw h' w'/\∀b o,h' b=some o->h0 b=some o\/w.heap.size<=b):=by
   intro hf;unfold Ar at hf;split at hf;rename_i l hl;obtain⟨u,v,hu,cu,nS⟩:=Hr S' hl;obtain⟨h',S2,F⟩:=S'.freeze hu;exact⟨v,cu,h',l,v,hf,rfl,nS h' F,S2.below,S2.le0,S2.hw,S2.hn⟩;exact hf.elim
  cases e with|normal=>exact⟨.inl rfl,fin wQ⟩|ret=>exact⟨.inr rfl,fin wQ⟩|exit id=>exact wQ.elim|goto l=>exact wQ.elim|panic ch=>exact wQ.elim|outgrown=>exact wQ.elim
 exact hv.elim;exact hv.elim;exact hv.elim
theorem zhc{G:bM}(fK:jk P G){f:FuncId}{C:List PA→ae (List PA)}(hc:df P f)
    (h:∀args rs,(C args).o=some rs->∃vv aO,vcFun P {G with vv:=vv} aO f args λOz=>Oz=rs):Ok P f C:=by
  intro args rs hK w h0 vs jI NV;obtain⟨vv,aO,hv⟩:=h args rs hK;refine⟨hc,(zm5 (G:={G with vv:=vv}) ⟨fK.mt,fK.fn,fK.own,fK.it,fK.cmp⟩ hv jI NV).mono ?_⟩;rintro e w' ⟨h',Oz,v,rfl,he⟩;exact⟨h',v,he⟩
end
end Go.Pm
namespace Go.Pm
variable [aG]
open Go.RowKit (Below)
section
variable{P:Program}{Γ:bM}{nt:Nat}{n:Nat}
theorem zhd{o:Oper}{a:Act}{w w':World}{R:Act→World→Prop}{Q:Exit→Act→World→Prop}(yN:∀c,o.op ≠ .defer c){l f:Nat}{tmps:Array Value}{x y:Code}(h:(execOp a.eval o).run P w = .ok (.round l f tmps x y) w')
    (hR:RoundIn Fence.wide (n-1) P l f tmps x y w' λe zu=>(∃v,e=.returned v/\R (a.put o.dst v) zu)\/∃ch,e=.panicked ch/\Q (.panic ch) a zu):o.wpIn (FR none) n P a w R Q:=by
  refine⟨λ_ _=>trivial,?_⟩;rw[Oper.semAt_eq _ _ _ yN,h,Oper.uponIn_round];refine⟨λh=>by simp[FR]at h,?_⟩;have hR':RoundIn (FR none) (n-1) P l f tmps x y w' λe zu=>(∃v,e=.returned v/\R (a.put o.dst v) zu)\/∃ch,e=.panicked ch/\Q (.panic ch) a zu:=hR;refine hR'.mono ?_;rintro e zu (⟨v,rfl,hv⟩|⟨ch,rfl,hv⟩);exact hv;exact hv
theorem Ri{h:Fz}{g:Gh}(hg:g.h=h):∀{ds:List DV}{l:List PA}{vs:List Value},qF ds=some l→RL (qH g) ds vs→RL (pJ h) l vs
  | [],l,vs,h,hr=>by
    simp only[qF,bG]at h;subst h;cases vs with|nil=>trivial|cons=>exact hr.elim
  | d::ds,l,[],h,hr=>hr.elim
  | .one (.c (.p p))::ds,l,v::vs,h,hr=>by
    simp only[qF]at h;split at h;rename_i l' vk;simp only[bG]at h;subst h;refine⟨?_,Ri hg vk hr.2⟩;have:=hr.1;rw[<- hg];exact this;cases h
  | .one (.agg cs)::ds,l,v::vs,h,hr=>by
    simp only[qF]at h;split at h;rename_i l' m' hc Ju;simp only[bG]at h;subst h;refine⟨?_,Ri hg Ju hr.2⟩;obtain⟨us,rfl,Qm⟩:=hr.1;rw[nM hc]at Qm;have:=RL.map_left.1 Qm;exact⟨us,rfl,by rw[<- hg];exact this⟩;cases h
  | .one (.c (.ptr _ _))::ds,l,v::vs,h,hr=>by simp[qF]at h
  | .one (.c (.vptr _ _ _ _))::ds,l,v::vs,h,hr=>by simp[qF]at h
  | .one (.c (.vec _))::ds,l,v::vs,h,hr=>by simp[qF]at h
  | .one (.c .undef)::ds,l,v::vs,h,hr=>by simp[qF]at h
  | .one (.c .junk)::ds,l,v::vs,h,hr=>by simp[qF]at h
  | .one (.c (.dead _))::ds,l,v::vs,h,hr=>by simp[qF]at h
  | .tup _::ds,l,v::vs,h,hr=>by simp[qF]at h
variable(J Jx:List (List PA)->Fz->World->Prop)
def JQ(q:Bool)(ys:List (List PA))(h:Fz)(w:World):Prop :=
 match q with|false=>J ys h w|true=>∃rest,Jx rest h w
structure YI (l : Nat) (a : Act) : Prop where
  d:a.defers=[]
  y:a.tmps.getD 0 undef=.func (.yield l) #[] #[]
theorem YI.put{l:Nat}{a:Act}(h:YI l a){dst:Option Nat}(hd:dst≠some 0){v:Value}{ds:List Deferred}(OJ:(({a with defers:=ds}:Act).put dst v).defers=[]):YI l (({a with defers:=ds}:Act).put dst v):=by
 refine⟨OJ,?_⟩;cases dst with
 | none=>exact h.y
 | some t =>
  have ht:t≠0:=λe=>hd (by rw[e]);have:=h.y;simpa [Act.put,yP,qdv ht]using this
def zbc(P:Program)(nt l:Nat)(hs:Fz)(Rp:Ending->World->Prop)(K:YK):Exit->Act->World->Prop :=
 λe a' w'=>(∃ys q σ w0 h0 g,K e ys q σ/\bK P nt w0.heap.size w0 h0 g σ a' w'/\jX hs h0/\JQ J Jx q ys h0 w0/\YI l a')\/∃ch,e=.panic ch/\YI l a'/\Rp (.panicked ch) w'
variable {J Jx}
theorem JQ.later{q:Bool}{ys:List (List PA)}{h0:Fz}{w0:World}{g:Gh}{σ:St}{a:Act}{w:World}(hJ:JSt J)(hJx:JSt Jx)(h:JQ J Jx q ys h0 w0)(S:bK P nt w0.heap.size w0 h0 g σ a w):JQ J Jx q ys g.h w:=by
 cases q with
 | false=>exact hJ _ _ _ _ _ h S.le0 S.hw S.hn S.below
 | true=>obtain⟨rest,h⟩:=h;exact⟨rest,hJx _ _ _ _ _ h S.le0 S.hw S.hn S.below⟩
def YH(P:Program)(J Jx:List (List PA)->Fz->World->Prop)(Rp:Ending->World->Prop)(l:Nat):Prop :=
 ∀y rest h W us,J (y::rest) h W->RL (pJ h) y us->Hw h W->∀n,∃fn tmps assign body,(Instr.yield l us.toArray).run P W=.ok (.round l fn tmps assign body) W /\
   RoundIn Fence.wide n P l fn tmps assign body W λe W'=>(∃h',jX h h'/\Hw h' W'/\((e=.returned (.bool true)/\J rest h' W')\/(e=.returned (.bool false)/\Jx rest h' W')))\/((∃ch,e=.panicked ch)/\Rp e W')
theorem qN{kl:List Nat}{l:List (Nat×DV)}:∀{ks:List Nat}{t:Nat}{d:DV},lk (vI kl l ks) t=some d→lk l t=some d∧∀L∈bQ d,L∈kl
  | [],t,d,h=>by simp[vI,lk]at h
  | k::ks,t,d,h=>by
    simp only[vI]at h;split at h;rename_i d' fD;split at h;rename_i hl;rw[aS]at h;split at h;rename_i e;simp only[bG]at h;subst h;subst e;refine⟨fD,λL hL=>?_⟩;have:=Aj.1 hl L hL;simpa using this;exact qN h;exact qN h;exact qN h
theorem Lu{ob:Nat→Option AO}:∀{ks:List Nat}{x:Nat×AO},x∈OV ob ks→∃l,ob x.1=some (.fbox l)∧x.2 = .fbox l
  | [],x,h=>by simp[OV]at h
  | k::ks,x,h=>by
    simp only[OV]at h;split at h;rename_i l hk;rcases jW.1 h with rfl|h
    exact⟨l,hk,rfl⟩;exact Lu h;exact Lu h
theorem CZ{σ:St}{L:Nat}{o:AO}(h:lk (JU σ) L=some o):∃l,o=.fbox l/\lk (EZ (lk σ.ay) (σ.ay.map (·.1))++σ.ay) L=some (.fbox l):=by
 unfold JU at h;rw[gX]at h ⊢;cases hb:lk (EZ (lk σ.ay) (σ.ay.map (·.1))) L with
 | some x =>
  rw[hb]at h;simp only[bG]at h;subst h;obtain⟨ty,cells,l,_,h2,_⟩:=CE (eU hb);have h2:x=.fbox l:=h2;subst h2;exact⟨l,rfl,rfl⟩
 | none =>
  rw[hb]at h;simp only at h;obtain⟨l,h1,h2⟩:=Lu (eU h);exact⟨l,h2,h1⟩
theorem yx {α : Type} : ∀ {l : List (Nat × α)} {L : Nat}, L ∈ l.map (·.1) → ∃ o, lk l L = some o
  | [],L,h=>by simp at h
  | (k,a)::r,L,h=>by
    rw[aS];split;exact⟨a,rfl⟩;rename_i iK;simp only[nU,jW]at h;rcases h with rfl|h
    exact absurd rfl iK;exact yx h
theorem zhe{σ:St}{o:Oper}{args:Array Operand}{t:Nat}(h:zmr σ o=some (args,t)) :
  ∃f ts,o.op=.call {callee:=.value f,args,argTypes:=ts}/\o.dst=some t/\dW σ.env f=.cl (.vec Un)/\lk σ.env 0=some (.cl (.vec Un)):=by
 unfold zmr at h;split at h;rename_i f az ts t' aU hd;split at h;rename_i hl;split at h;rename_i h0;simp only[bG,fJ]at h;obtain⟨rfl,rfl⟩:=h;exact⟨f,ts,aU,hd,hl,h0⟩;cases h;cases h;cases h
theorem zbd{σ:St}{L:Nat}{o:AO}(h:lk ((Un,AO.gone)::JU σ) L=some o):(L=Un/\o=.gone)\/lk (JU σ) L=some o:=by
 rw[aS]at h;split at h;rename_i e;simp only[bG]at h;exact .inl ⟨e.symm,h.symm⟩;exact .inr h
theorem Rj(fK:jk P Γ){Rp:Ending→World→Prop}{l:Nat}(hJ:JSt J)(hJx:JSt Jx)(hY:YH P J Jx Rp l){hs:Fz}{ops:Array Oper}{K:List (List PA)→Bool→St→Prop}{Q:Exit→Act→World→Prop}(hP:∀ch a w,YI l a→Rp (.panicked ch) w→Q (.panic ch) a w)
    (hQ:∀ys q σ w0 h0 g a w,K ys q σ->bK P nt w0.heap.size w0 h0 g σ a w->jX hs h0->JQ J Jx q ys h0 w0->YI l a->Q .normal a w) :
    ∀(lo:List Oper)(i:Nat)(ys:List (List PA))(q:Bool)(σ:St)(w0:World)(h0:Fz)(g:Gh)(a:Act)(w:World),(∀j,lo[j]? = ops[i+j]?)->(∀o∈lo,o.dst≠some 0)->lC P Γ nt ops lo K ys q σ ->
      bK P nt w0.heap.size w0 h0 g σ a w->jX hs h0->JQ J Jx q ys h0 w0->YI l a->wpOpsIn (FR none) n P ops Q (List.range' i lo.length) a w:=by
  intro lo
  induction lo with
  | nil=>intro i ys q σ w0 h0 g a w _ _ h S hle hj hd;exact hQ ys q σ w0 h0 g a w h S hle hj hd
  | cons o lo ih =>
    intro i ys q σ w0 h0 g a w hl hz h S hle hj EJ;have hz0:=hz o jM;have hz':∀o∈lo,o.dst≠some 0:=λo ho=>hz o (jB _ ho);have ho:ops[i]? = some o:=by have:=hl 0;simpa using this.symm
    have vk:∀j,lo[j]? = ops[i+1+j]?:=λj=>by have:=hl (j+1);rw[Yg]at this;rw[this];congr 1;omega
    simp only[xm,Yj,wpOpsIn,ho];have run:∀(σ:St),bK P nt w0.heap.size w0 h0 g σ a w->vJ P Γ nt o (lC P Γ nt ops lo K) ys q σ->o.wpIn (FR none) n P a w (wpOpsIn (FR none) n P ops Q (List.range' (i+1) lo.length)) Q:=by
      clear h S;intro σ S h;unfold vJ at h;split at h
      · rename_i args t hyl;obtain⟨f,ts,aU,Gw,hf,hf0⟩:=zhe hyl;split at h
        · rename_i y hy ht;obtain⟨rest,rfl,htr,hfa⟩:=h;have NM:a.eval f=.func (.yield l) #[] #[]:=by
            have h1:qH g _ (a.eval f):=S.ev f;rw[hf]at h1;have h2:=S.env 0 _ hf0;rw[EJ.y]at h2;have h1:a.eval f=g.sv Un/\_:=h1;have h2:Value.func (.yield l) #[] #[]=g.sv Un/\_:=h2;exact h1.1.trans h2.1.symm
          · obtain ⟨h1, S1, _⟩ := S.freeze (U6 (ob := lk σ.ay) (ks := σ.ay.map (·.1)));have hJn:J (y :: rest) h1 w:=hj.later hJ hJx S1;have Qm:RL (pJ h1) y (args.toList.map a.eval):=Ri (g:=⟨h1,g.bk,g.sv,g.iv⟩) rfl hy (Ce S1 args.toList);obtain⟨fn,tmps,x,c,cu,zvv⟩:=hY y rest h1 w _ hJn Qm S1.hw (n - 1);refine zhd (by simp[aU]) (l:=l) (f:=fn) (tmps:=tmps) (x:=x) (y:=c) (w':=w) ?_ (zvv.mono ?_);simp only [execOp, aU, resolve, NM, Deferred.ofValue, Sem.run_bind, Sem.run_pure, Result.andThen_ok, invoke];rw[show (#[] ++ Array.map a.eval args)=(args.toList.map a.eval).toArray by cases args;simp];exact cu
            · have hto : dA nt (some t) = true := ht
              have next:∀(b:Bool)(h':Fz)(W':World),jX h1 h'->Hw h' W'->JQ J Jx (!b) rest h' W'->lC P Γ nt ops lo K rest (!b) ((yQ σ).setT t (.bool b)) ->
                  wpOpsIn (FR none) n P ops Q (List.range' (i+1) lo.length) (a.put o.dst (.bool b)) W':=by
                intro b h' W' gI Jw oM Ah;have S0:bK P nt W'.heap.size W' h' ⟨h',g.bk,g.sv,g.iv⟩ (yQ σ) a W':=by
                  refine⟨by rw[EJ.d];exact Marks.nil _ _,S.size,?_,λL o ho=>?_,λL o b ho bT=>?_,λL o b L' o' ho kN bT fP=>?_,Jw,λ_ _ h=>h,λb o h=>.inl h,xE.refl _ _ _,jy _,?_,λL o ho M hM=>?_⟩;intro u d hu;obtain⟨h2,_⟩:=qN hu;exact Ux (g:=⟨h1,g.bk,g.sv,g.iv⟩) (g':=⟨h',g.bk,g.sv,g.iv⟩) (λL hL=>⟨rfl,rfl,rfl⟩) gI (S1.env u d h2);rcases zbd ho with⟨_,rfl⟩|ho
                  trivial;obtain⟨l,rfl,h2⟩:=CZ ho;obtain⟨C,ty,fr,hC,hr⟩:=S1.obj L _ h2;exact⟨C,ty,fr,gI _ _ hC,hr.mono λ_ _=>Rep.mono gI⟩;rcases zbd ho with⟨_,rfl⟩|ho
                  exact bT.elim;obtain⟨l,rfl,_⟩:=CZ ho;exact bT.elim;rcases zbd ho with⟨_,rfl⟩|ho
                  exact bT.elim;obtain⟨l,rfl,_⟩:=CZ ho;exact bT.elim;intro u d hu L hL;exact yx (l:=(Un,AO.gone)::JU σ) ((qN hu).2 L hL);rcases zbd ho with⟨_,rfl⟩|ho
                  simp[dJ]at hM;obtain⟨l,rfl,_⟩:=CZ ho;simp[dJ]at hM
                have S2:=S0.put (dst:=some t) (d:=.bool b) (v:=.bool b) hto (.bool b) (jZ _) [];rw[Gw];exact ih (i+1) rest (!b) _ W' h' _ _ W' vk hz' Ah S2 (λb o hb=>gI b o (S1.le0 b o (hle b o hb))) oM (EJ.put (ds:=a.defers) (Gw▸hz0) ((put_defers _ _ _).trans EJ.d))
              rintro e W' (⟨h',gI,Jw,(⟨rfl,oM⟩|⟨rfl,oM⟩)⟩|⟨⟨ch,rfl⟩,hr⟩)
              · exact .inl ⟨_,rfl,next true h' W' gI Jw oM htr⟩
              · exact .inl ⟨_,rfl,next false h' W' gI Jw ⟨rest,oM⟩ hfa⟩
              exact .inr ⟨ch,rfl,hP ch _ _ EJ hr⟩
        exact h.elim
      split at h;rename_i hd;obtain⟨qZ,hk⟩:=Fa.1 h;refine Jc (YN (Fp (i:=0) (Q:=Q) (r:=none) (n:=n) fK S hd rfl qZ)) ?_;rintro a' w' ⟨⟨zLh,g',σ',IQ,S'⟩,v,ds,rfl⟩;exact ih (i+1) ys q _ w0 h0 g' _ w' vk hz' (hk σ' IQ) (S'.log _) hle hj (EJ.put hz0 (zLh.trans EJ.d));exact h.elim
    have skp:∀(σ:St),dA nt o.dst=true->bK P nt w0.heap.size w0 h0 g σ a w->lC P Γ nt ops lo K ys q (σ.skip o.dst)->wpOpsIn (FR none) n P ops Q (List.range' (i+1) lo.length) (a.put o.dst undef) w:=by
      intro σ hd S h;exact ih (i+1) ys q _ w0 h0 g _ w vk hz' h (S.skip hd) hle hj (EJ.put (ds:=a.defers) hz0 ((put_defers _ _ _).trans EJ.d))
    simp only[lC]at h;split at h;rename_i hg;rw[dH (by simp[Region.wanted,hg])];exact run σ S h;rename_i j want hg;split at h;rename_i gt hd TN;split at h
    · rename_i b hb;have hv:a.tmps.getD gt undef=.bool b:=by
        have:=S.env gt _ hb;generalize a.tmps.getD gt undef=v at this;cases this;rfl
      have hy:=vP TN hv;have S1:∀c,b=c->bK P nt w0.heap.size w0 h0 g (σ.setT gt (.bool c)) a w:=by
        intro c hc;refine S.env' (t:=gt) (d:=.bool c) ?_ (jZ _);rw[hv,hc];exact .bool c
      have h2:=qp.1 h;cases b with
      | true =>
        have h3:=h2.1 rfl;cases want with|true=>rw[dH (by simp[Region.wanted,hg,hy])];exact run _ (S1 true rfl) h3|false=>rw[dM (by simp[Region.wanted,hg,hy])];exact⟨λ_ _=>trivial,skp _ hd (S1 true rfl) h3⟩
      | false =>
        have h3:=h2.2 rfl;cases want with|true=>rw[dM (by simp[Region.wanted,hg,hy])];exact⟨λ_ _=>trivial,skp _ hd (S1 false rfl) h3⟩|false=>rw[dH (by simp[Region.wanted,hg,hy])];exact run _ (S1 false rfl) h3
    rename_i hb;have hv:a.tmps.getD gt undef=undef:=S.env gt _ hb;have hy:=sQ TN hv;rw[dM (by simp[Region.wanted,hg,hy])];exact⟨λ_ _=>trivial,skp _ hd S h⟩;exact h.elim;exact h.elim
theorem zm6:∀{l:List Oper}{o:Oper}{t:Nat},o∈l->o.dst=some t->t∈Ir l:=fun {l} _ _ h e=>by
 obtain⟨j,hj⟩:=Yi h;exact CX hj e
theorem zdE(fK:jk P Γ)(aO:dI){Rp:Ending->World->Prop}{l:Nat}(hJ:JSt J)(hJx:JSt Jx)(hY:YH P J Jx Rp l){hs:Fz}:∀(c:Code)(K:YK)(ys:List (List PA))(q:Bool)(σ:St)(w0:World)(h0:Fz)(g:Gh)(a:Act)(w:World),
  QD P Γ aO c K ys q σ->bK P aO.nt w0.heap.size w0 h0 g σ a w->jX hs h0->JQ J Jx q ys h0 w0->YI l a->c.wpIn (FR none) n P (zbc J Jx P aO.nt l hs Rp K) a w:=by
 intro c
 induction c with
 | skip=>intro K ys q σ w0 h0 g a w h S hle hj hd;exact wpIn_skip (.inl ⟨ys,q,σ,w0,h0,g,h,S,hle,hj,hd⟩)
 | region id ops draw =>
  intro K ys q σ w0 h0 g a w h S hle hj hd;simp only[QD]at h;split at h;exact h.elim
  ·-- a region that yields
   rename_i hz _;refine wpIn_region ?_;have:=Rj (n:=n) fK hJ hJx hY (hs:=hs) (ops:=ops) (Q:=zbc J Jx P aO.nt l hs Rp K) (λch a w hd hr=>.inr ⟨ch,rfl,hd,hr⟩) (λys q σ w0 h0 g a w h S hle hj hd=>?_) ops.toList 0 ys q _ w0 h0 g a w (λj=>by simp) (λo ho e=>by have:=zm6 ho e;simp at hz;exact hz this) h (S.log _) hle hj hd;rw [dqV];simpa using this;split at h;split at h;rename_i s qZ;obtain⟨g2,S2⟩:=dR qZ S;exact .inl ⟨ys,q,s,w0,h0,g2,h,S2,hle,hj,hd⟩;exact h.elim;exact .inl ⟨ys,q,_,w0,h0,g,h,S.log _,hle,hj,hd⟩
  exact h.elim;rename_i hz _;exact uw (PR (r:=none) (n:=n) fK aO (D:=Ir ops.toList) (a0:=a) (λ_ h=>h) h S (Kp.refl _ _) λg' σ' a' w' hK S' hk EJ=>.inl ⟨ys,q,σ',w0,h0,g',hK,S',hle,hj,EJ.trans hd.d,(hk.1 0 (by simpa using hz)).trans hd.y⟩)
 | seq x y ihx X9 =>
  intro K ys q σ w0 h0 g a w h S hle hj hd;refine wpIn_seq (wpIn_mono (ihx _ ys q σ w0 h0 g a w h S hle hj hd) ?_);rintro e a' w' (⟨oN,q',σ',w1,h1,g',hK,S',gI,oM,fD⟩|⟨ch,rfl,fD,tK⟩)
  rotate_left
  exact .inr ⟨ch,rfl,fD,tK⟩;cases e with
  | normal =>
   simp only[zuX,zuZ]at hK;split at hK;split at hK;rename_i s hs;obtain⟨g2,S2⟩:=dR hs S';exact X9 K oN q' s w1 h1 g2 a' w' hK S2 gI oM fD;exact hK.elim;exact X9 K oN q' σ' w1 h1 g' a' w' hK S' gI oM fD
  | exit id=>exact .inl ⟨oN,q',σ',w1,h1,g',hK,S',gI,oM,fD⟩
  | goto l=>exact .inl ⟨oN,q',σ',w1,h1,g',hK,S',gI,oM,fD⟩
  | ret=>exact .inl ⟨oN,q',σ',w1,h1,g',hK,S',gI,oM,fD⟩
  | panic ch=>exact .inl ⟨oN,q',σ',w1,h1,g',hK,S',gI,oM,fD⟩
  | outgrown=>exact .inl ⟨oN,q',σ',w1,h1,g',hK,S',gI,oM,fD⟩
 | cond c x y ihx X9 =>
  intro K ys q σ w0 h0 g a w h S hle hj hd;simp only[QD]at h;split at h
  ·rename_i t ht;have hv:=um S ht;have hS:∀b,t=b->bK P aO.nt w0.heap.size w0 h0 g (wS σ c b) a w:=by
    intro b hb;cases c with
    | tmp q =>
     refine S.env' (t:=q) (d:=.bool b) ?_ (jZ _);have:a.tmps.getD q undef=.bool t:=hv;rw[this,hb];exact .bool b
    | _=>exact S
   have h2:=qp.1 h;refine wpIn_cond hv ?_;cases t with|true=>exact ihx K ys q _ w0 h0 g a w (h2.1 rfl) (hS true rfl) hle hj hd|false=>exact X9 K ys q _ w0 h0 g a w (h2.2 rfl) (hS false rfl) hle hj hd
  exact h.elim
 | block id b ih =>
  intro K ys q σ w0 h0 g a w h S hle hj hd;refine wpIn_block (wpIn_mono (ih _ ys q σ w0 h0 g a w h S hle hj hd) ?_);rintro e a' w' (⟨oN,q',σ',w1,h1,g',hK,S',gI,oM,fD⟩|⟨ch,rfl,fD,tK⟩)
  rotate_left
  exact .inr ⟨ch,rfl,fD,tK⟩;cases e with
  | exit j =>
   simp only[Yr]at hK;simp only[Exit.inBlock];split at hK;rename_i hj;rw[dH (kY hj)];exact .inl ⟨oN,q',σ',w1,h1,g',hK,S',gI,oM,fD⟩;rename_i hj;rw[dM (dq4 hj)];exact .inl ⟨oN,q',σ',w1,h1,g',hK,S',gI,oM,fD⟩
  | normal=>exact .inl ⟨oN,q',σ',w1,h1,g',hK,S',gI,oM,fD⟩
  | goto l=>exact .inl ⟨oN,q',σ',w1,h1,g',hK,S',gI,oM,fD⟩
  | ret=>exact .inl ⟨oN,q',σ',w1,h1,g',hK,S',gI,oM,fD⟩
  | panic ch=>exact .inl ⟨oN,q',σ',w1,h1,g',hK,S',gI,oM,fD⟩
  | outgrown=>exact .inl ⟨oN,q',σ',w1,h1,g',hK,S',gI,oM,fD⟩
 | loop b ih =>
  intro K ys q σ w0 h0 g a w h S hle hj hd;simp only[QD]at h;split at h
  ·rename_i k hk;split at h
   ·rename_i s qZ;obtain⟨g1,S1⟩:=dR qZ S;refine Hm ?_;have key:=h (λ ys q s=>∀ w0 h0 g a w,bK P aO.nt w0.heap.size w0 h0 g s a w->jX hs h0->JQ J Jx q ys h0 w0->YI l a->Vm (FR none) n P b (zbc J Jx P aO.nt l hs Rp K) a w) ?_;exact key w0 h0 g1 a w S1 hle hj hd
    ·intro ys q s hs2 w0 h0 g a w S hle hj hd;refine Ho (wpIn_mono (ih _ ys q s w0 h0 g a w hs2 S hle hj hd) ?_);rintro e a' w' (⟨oN,q',σ',w1,h1,g',hK,S',gI,oM,fD⟩ | ⟨ch,rfl,fD,tK⟩)
     rotate_left
     exact .inr ⟨ch,rfl,fD,tK⟩;cases e with
     | normal =>
      simp only[zf9,hk]at hK;split at hK;rename_i s2 hs2;obtain⟨g2,S2⟩:=dR hs2 S';exact hK w1 h1 g2 a' w' S2 gI oM fD;exact hK.elim
     | exit id=>exact .inl ⟨oN,q',σ',w1,h1,g',hK,S',gI,oM,fD⟩
     | goto l=>exact .inl ⟨oN,q',σ',w1,h1,g',hK,S',gI,oM,fD⟩
     | ret=>exact .inl ⟨oN,q',σ',w1,h1,g',hK,S',gI,oM,fD⟩
     | panic ch=>exact .inl ⟨oN,q',σ',w1,h1,g',hK,S',gI,oM,fD⟩
     | outgrown=>exact .inl ⟨oN,q',σ',w1,h1,g',hK,S',gI,oM,fD⟩
   exact h.elim
  ·split at h
   ·rename_i m k hk
    have key:∀(m:Nat)(ys:List (List PA))(q:Bool)(σ:St)(w0:World)(h0:Fz)(g:Gh)(a:Act)(w:World),OW P k (QD P Γ aO b) m K ys q σ->bK P aO.nt w0.heap.size w0 h0 g σ a w->jX hs h0->JQ J Jx q ys h0 w0->YI l a ->
      Vm (FR none) n P b (zbc J Jx P aO.nt l hs Rp K) a w:=by
     intro m
     induction m with
     | zero=>intro ys q σ w0 h0 g a w h;exact h.elim
     | succ m ihm =>
      intro ys q σ w0 h0 g a w h S hle hj hd;simp only[OW]at h;split at h
      ·rename_i s qZ;obtain⟨g1,S1⟩:=dR qZ S;refine Ho (wpIn_mono (ih _ ys q s w0 h0 g1 a w h S1 hle hj hd) ?_);rintro e a' w' (⟨oN,q',σ',w1,h1,g',hK,S',gI,oM,fD⟩ | ⟨ch,rfl,fD,tK⟩)
       rotate_left
       exact .inr ⟨ch,rfl,fD,tK⟩;cases e with|normal=>exact ihm oN q' σ' w1 h1 g' a' w' hK S' gI oM fD|exit id=>exact .inl ⟨oN,q',σ',w1,h1,g',hK,S',gI,oM,fD⟩|goto l=>exact .inl ⟨oN,q',σ',w1,h1,g',hK,S',gI,oM,fD⟩|ret=>exact .inl ⟨oN,q',σ',w1,h1,g',hK,S',gI,oM,fD⟩|panic ch=>exact .inl ⟨oN,q',σ',w1,h1,g',hK,S',gI,oM,fD⟩|outgrown=>exact .inl ⟨oN,q',σ',w1,h1,g',hK,S',gI,oM,fD⟩
      exact h.elim
    exact Hm (key m ys q σ w0 h0 g a w h S hle hj hd)
   exact h.elim
 | exit id=>intro K ys q σ w0 h0 g a w h S hle hj hd;exact wpIn_exit (.inl ⟨ys,q,σ,w0,h0,g,h,S,hle,hj,hd⟩)
 | scope b ih =>
  intro K ys q σ w0 h0 g a w h S hle hj hd;refine Y6 (wpIn_mono (ih _ ys q σ w0 h0 g a w h S hle hj hd) ?_);rintro e a' w' (⟨oN,q',σ',w1,h1,g',hK,S',gI,oM,fD⟩|⟨ch,rfl,fD,tK⟩)
  rotate_left
  exact .inr ⟨ch,rfl,fD,tK⟩;cases e with|goto l=>exact hK|normal=>exact .inl ⟨oN,q',σ',w1,h1,g',hK,S',gI,oM,fD⟩|exit l=>exact .inl ⟨oN,q',σ',w1,h1,g',hK,S',gI,oM,fD⟩|ret=>exact .inl ⟨oN,q',σ',w1,h1,g',hK,S',gI,oM,fD⟩|panic ch=>exact .inl ⟨oN,q',σ',w1,h1,g',hK,S',gI,oM,fD⟩|outgrown=>exact .inl ⟨oN,q',σ',w1,h1,g',hK,S',gI,oM,fD⟩
 | label l=>intro K ys q σ w0 h0 g a w h S hle hj hd;exact wpIn_label (.inl ⟨ys,q,σ,w0,h0,g,h,S,hle,hj,hd⟩)
 | ret=>intro K ys q σ w0 h0 g a w h S hle hj hd;exact wpIn_ret (.inl ⟨ys,q,σ,w0,h0,g,h,S,hle,hj,hd⟩)
 | rangeFunc f ps x y _ _=>intro K ys q σ w0 h0 g a w h S;exact h.elim
 | goto l=>intro K ys q σ w0 h0 g a w h S;exact h.elim
 | refuse s=>intro K ys q σ w0 h0 g a w h S;exact h.elim
theorem zhf{v:Value}{vs:List Value}{m:Nat}:((v::vs).toArray++Array.replicate m undef).getD 0 undef=v:=by
 rw[yP,dqZ (by simp)];simp
theorem zvw{nt l:Nat}{args:List PA}{w:World}{h0:Fz}{vs:List Value}{m:Nat}(Jv:nt=m)(hlen:args.length+1≤nt)(jI:RL (pJ h0) args vs)(NV:Hw h0 w) :
  bK P nt w.heap.size w h0 ⟨h0,λ_=>0,λ_=>.func (.yield l) #[] #[],λ_ _=>undef⟩ ⟨(0,.cl (.vec Un))::jK 1 args,[(Un,.gone)],[]⟩ {tmps:=(.func (.yield l) #[] #[]::vs).toArray++Array.replicate (m-(.func (.yield l) #[] #[]::vs).toArray.size) undef,defers:=[]} w:=by
 have hl:=jI.length;have ho:∀{L:Nat}{o:AO},lk [(Un,AO.gone)] L=some o->o=.gone:=fun {L o} h=>by
  rw[aS]at h;split at h;simp only[bG]at h;exact h.symm;simp[lk]at h
 refine⟨Marks.nil _ _,by simp;omega,?_,λL o h=>by rw[ho h];trivial,λL o b h hb=>by rw[ho h]at hb;exact hb.elim,λL o b L' o' h h' hb=>by rw[ho h]at hb;exact hb.elim,NV,λ_ _ h=>h,λb o h=>.inl h,xE.refl _ _ _,jy _,?_,λL o h M hM=>by rw[ho h]at hM;simp[dJ]at hM⟩;intro t d ht;rw[aS]at ht;split at ht;rename_i e;subst e;simp only[bG]at ht;subst ht;rw[zhf];exact⟨rfl,rfl⟩;obtain⟨x,hx,hle,rfl⟩:=uy args 1 t d ht;obtain⟨v,hv,xg⟩:=jI.get (t-1) x hx;have jv:=(ER.1 hv).1;have:((.func (.yield l) #[] #[]::vs).toArray++Array.replicate (m-(.func (.yield l) #[] #[]::vs).toArray.size) undef).getD t undef=v:=by
  rw[yP,dqZ (by simp;omega)];obtain⟨k,rfl⟩:∃k,t=k+1:=⟨t-1,omY⟩;have hv:vs[k]? = some v:=hv;simp[hv]
 rw[this];exact Po (g:=⟨h0,λ_=>0,λ_=>.func (.yield l) #[] #[],λ_ _=>undef⟩) xg;intro t d ht L hL;rw[aS]at ht;split at ht;simp only [bG]at ht;subst ht;have e:L=Un:=by simpa [bQ,dw,aY]using hL
 subst e;exact⟨.gone,rfl⟩;obtain⟨x,hx,_,rfl⟩:=uy args 1 t d ht;rw[show bQ (.one (NZ x))=dw (NZ x)from rfl,yS]at hL;simp at hL
theorem zhg{G:bM}(fK:jk P G){f:FuncId}{C:List PA→ae (List (List PA))}(hc:df P f)
    (h:∀caps ys,(C caps).o=some ys->∃vv aO,QE P {G with vv:=vv} aO f caps ys):xO P f C:=by
  intro caps ys hC l J Jx Rp w h0 vs hJ hJx hY hj0 jI NV;refine⟨hc,?_⟩;obtain⟨vv,aO,hv⟩:=h caps ys hC;unfold QE at hv;split at hv
  · rename_i fn tN;split at hv
    · rename_i c vC;split at hv
      · rename_i Jv;simp only[fH,Ud] at Jv;obtain⟨⟨Jv,hlen⟩,nS⟩:=Jv;have S:=zvw (P:=P) (l:=l) (args:=caps) (vs:=vs) (h0:=h0) (w:=w) (kY Jv) (by simpa using hlen) jI NV;have hwp:=zdE (n:=0) (Γ:={ G with vv:=vv }) (J:=J) (Jx:=Jx) (Rp:=Rp) (hs:=h0) ⟨fK.mt,fK.fn,fK.own,fK.it,fK.cmp⟩ aO (l:=l) hJ hJx hY c _ ys false _ w h0 _ _ w hv S (λ _ _ h=>h) hj0 ⟨rfl,zhf⟩;refine (callsIn_wide (n:=0)).1 ?_;refine callsIn_of_wp (F:=FR none) tN vC trivial (wpIn_mono hwp ?_);rintro e a' w' (⟨oN,q',σ',w1,h1,g',hK,S',hle,hj,hd⟩ | ⟨ch,rfl,hd,hr⟩)
        rotate_left
        exact⟨hd.d,.inr ⟨⟨ch,rfl⟩,hr⟩⟩;have fin:zga oN q'->a'.defers=[]/\∃v,(results fn a'.tmps).run P w'=.ok v w'/\((∃v2 h',Ending.returned v=.returned v2/\jX h0 h'/\Hw h' w'/\(J [] h' w'\/∃rest,Jx rest h' w'))\/((∃ch,Ending.returned v=.panicked ch)/\Rp (.returned v) w')):=by
          intro hf;have hr:fn.results = #[]:=by simpa using nS
          refine⟨hd.d,.tuple #[],?_,.inl ⟨_,g'.h,rfl,λb o hb=>S'.le0 b o (hle b o hb),S'.hw,?_⟩⟩;simp[results,hr]
          · have:=hj.later hJ hJx S';cases q' with|false=>simp only[zga]at hf;subst hf;exact .inl this|true=>exact .inr this
        cases e with|normal=>exact fin hK|ret=>exact fin hK|exit id=>exact hK.elim|goto l=>exact hK.elim|panic ch=>exact hK.elim|outgrown=>exact hK.elim
      exact hv.elim
    exact hv.elim
  exact hv.elim
def Y8(n s:Nat)(get:Nat->List PV)(rs:List PV)(r:List PA):Prop:=r=.one (.sl n s get)::rs.map .one
theorem zdF{G:bM}(fK:jk P G){f:FuncId}{e s b:Nat}{F:List PA→ae (Nat×(Nat→List PV)×List PV)}(hc:df P f)
    (h:∀az n get rs,(F az).o=some (n,get,rs)->∃vv aO,zaz P {G with vv:=vv} aO f az e s b (Y8 n s get rs)):jh P f (.mkv e s b F):=by
  intro w h0 az vs n get rs hF jI NV;refine⟨hc,?_⟩;obtain⟨vv,aO,Ah⟩:=h az n get rs hF;unfold zaz at Ah;split at Ah;rename_i fn tN;split at Ah;rename_i c vC;split at Ah
  · rename_i Jv;simp only[fH,Ud] at Jv;refine PT (G:={ G with vv:=vv }) ⟨fK.mt,fK.fn,fK.own,fK.it,fK.cmp⟩ (Kx:=λ fn=>zf8 fn e s b (Y8 n s get rs)) (vs:=vs) tN vC (kY Jv.1) Jv.2 Ah jI NV ?_;intro ex σ' g' a' w' wQ S'
    have fin:OU fn e s b (Y8 n s get rs) σ'->∃v,(results fn a'.tmps).run P w'=.ok v w'/\∃(h':Fz)(v':Value)(xs:List Value),Ending.returned v=.returned (Uo v' xs rs)/\RL (Rep h') rs xs/\v'.oneCell'=true/\tX get /\
        BQ h' w' w.heap.size e s v' n get/\(∀k,v'.ownBlock=some k->h' k=none)/\xE h0 w.heap.size w w'/\jX h0 h'/\Hw h' w'/\∀b o,h' b=some o->h0 b=some o\/w.heap.size<=b:=by
      intro hf;unfold OU at hf;split at hf;rename_i t nS;have hr:fn.results = #[.tmp t]:=by rw[<- qdh (xs:=fn.results),nS]
      have cu:(results fn a'.tmps).run P w'=.ok (a'.tmps.getD t undef) w':=by
        simp only[results,hr];simp
      split at hf;rename_i L ht;split at hf;rename_i e' s' b' m get' bT;split at hf
      · rename_i hb;simp only[fH]at hb;have e1:=kY hb.1;have e2:=kY hb.2.1;subst e1 e2;obtain⟨htv,pg⟩:=S'.env t _ ht;obtain⟨jr,vg,ys,hys,hrr⟩:=S'.obj L _ bT;unfold Y8 at hf;cases rs with
        | nil =>
          simp only[qdR,ES,PA.one.injEq,PV.sl.injEq,qj1]at hf;obtain⟨rfl,_,rfl⟩:=hf;exact⟨_,cu,g'.h,g'.sv L,[],by rw[htv];rfl,trivial,by rw[<- htv];exact pg,jr.1,⟨ys,hys,hrr⟩,λk hk=>(S'.own L _ k bT hk).2,S'.below,S'.le0,S'.hw,S'.hn⟩
        | cons x l=>simp at hf
      exact hf.elim;exact hf.elim;exact hf.elim;rename_i t u nS;have hr:fn.results = #[.tmp t,.tmp u]:=by rw[<- qdh (xs:=fn.results),nS]
      have cu:(results fn a'.tmps).run P w'=.ok (.tuple #[a'.tmps.getD t undef,a'.tmps.getD u undef]) w':=by
        simp only[results,hr];simp
      split at hf;rename_i L ht;split at hf;rename_i x hu;split at hf;rename_i e' s' b' m get' bT;split at hf
      · rename_i hb;simp only[fH] at hb;have e1:=kY hb.1;have e2:=kY hb.2.1;subst e1 e2;obtain⟨htv,pg⟩:=S'.env t _ ht;have huv:=S'.env u _ hu;obtain⟨jr,vg,ys,hys,hrr⟩:=S'.obj L _ bT;unfold Y8 at hf
        match rs,hf with
        | [y],hf =>
          simp only[nU,qdR,ES,PA.one.injEq,PV.sl.injEq,qj1]at hf;obtain⟨⟨rfl,_,rfl⟩,rfl⟩:=hf;exact⟨_,cu,g'.h,g'.sv L,[a'.tmps.getD u undef],by rw[<- htv];rfl,⟨huv,trivial⟩,by rw[<- htv];exact pg,jr.1,⟨ys,hys,hrr⟩,λk hk=>(S'.own L _ k bT hk).2,S'.below,S'.le0,S'.hw,S'.hn⟩
        | [],hf=>simp at hf
        | _::_::_,hf=>simp at hf
      exact hf.elim;exact hf.elim;exact hf.elim;exact hf.elim;exact hf.elim
    cases ex with|normal=>exact⟨.inl rfl,fin wQ⟩|ret=>exact⟨.inr rfl,fin wQ⟩|exit id=>exact wQ.elim|goto l=>exact wQ.elim|panic ch=>exact wQ.elim|outgrown=>exact wQ.elim
  exact Ah.elim;exact Ah.elim;exact Ah.elim
end
end Go.Pm
namespace Go.Pm
variable [aG]
open Go.RowKit (Below)
def FN(i j:Nat):Nat:=i+4096*(j+1)
def Iz:Nat→List XA→List (Nat×DV)|_,[]=>[]|i,.d a::r=>(i,.one (NZ a))::Iz (i+1) r|i,.box _ _::r=>(i,.cl (.ptr i 0))::Iz (i+1) r
def yY:Nat→Nat→List rZ|_,0=>[]|np,n+1=>.b np::yY (np+1) n
def oZ(i:Nat):Nat→List XC→List Cl|_,[]=>[]|j,.p v::r=>.p v::oZ i (j+1) r|j,.vec _ _ _ _ _::r=>.vec (FN i j)::oZ i (j+1) r|j,.mo _ _ _ _ _::r=>.mo (FN i j)::oZ i (j+1) r|j,.slf f np n::r=>.clo f (yY np n)::oZ i (j+1) r
def mJ(i:Nat):Nat→List XC→List (Nat×AO)|_,[]=>[]|j,.p _::r=>mJ i (j+1) r|j,.vec e s b n get::r=>(FN i j,.vec e s b n get)::mJ i (j+1) r|j,.mo kt vt q n F::r=>(FN i j,.mo kt vt q n F)::mJ i (j+1) r|j,.slf _ _ _::r=>mJ i (j+1) r
def gV:Nat→List XA→List (Nat×AO)|_,[]=>[]|i,.d _::r=>gV (i+1) r|i,.box ty cs::r=>(i,.box ty (oZ i 0 cs))::(mJ i 0 cs++gV (i+1) r)
def sS:Nat→List XA→List Nat|_,[]=>[]|i,.d _::r=>sS (i+1) r|i,.box _ _::r=>i::sS (i+1) r
def zbe:List XC→Option (FuncId×Nat×Nat)|[]=>none|.slf f np n::_=>some (f,np,n)|_::r=>zbe r
def Vr:List XA→Option (FuncId×Nat×Nat)
  | []=>none
  | .d _::r=>Vr r
  | .box _ cs::r=>match zbe cs with|some x=>some x|none=>Vr r
def LC(env:List (Nat×DV)):Nat→Nat→Option (List Nat)
  | _,0=>some []
  | np,n+1=>match lk env np,LC env (np+1) n with|some (.one (.c (.ptr L 0))),some l=>some (L::l)|_,_=>none
def AU(env:List (Nat×DV))(xs:List XA):kS:=match Vr xs with
 | some (f,np,n)=>match LC env np n with|some l=>some (f,np,l)|none=>none
 | none=>none
def yz(bx:List Nat):Nat→Nat→Bool|_,0=>true|np,n+1=>bx.contains np&&yz bx (np+1) n
def LD(bx:List Nat):List XC→Bool|[]=>true|.slf _ np n::r=>yz bx np n&&LD bx r|_::r=>LD bx r
def wX(bx:List Nat):List XA→Bool|[]=>true|.d _::r=>wX bx r|.box _ cs::r=>LD bx cs&&wX bx r
section
variable(P:Program)
def C9(σ:St):List ResultVar→Option (List PA×List (Nat×AO))
  | []=>some ([],[])
  | .tmp t::r=>match lk σ.env t with
    | some d=>match zy (lk σ.ay) d,C9 σ r with|some (x,u),some (l,us)=>some (x::l,u++us)|_,_=>none
    | none=>none
  | .cell t ty::r=>match lk σ.env t,jb P ty,oP P ty with
    | some (.one (.c (.ptr L off))),some g,some n=>match lk σ.ay L with
      | some (.box _ cells)=>match kL g n cells off with
        | some d=>match zy (lk σ.ay) (.one d),C9 σ r with|some (x,u),some (l,us)=>some (x::l,u++us)|_,_=>none
        | none=>none
      | _=>none
    | _,_,_=>none
def LG(sf:kS)(ob:Nat→Option AO)(env:List (Nat×DV)):Nat→List XA→Option (List XA×List Nat)
  | _,[]=>some ([],[])
  | i,.d a::r=>match LG sf ob env (i+1) r with|some (ys,ls)=>some (.d a::ys,ls)|none=>none
  | i,.box _ _::r=>match lk env i,LG sf ob env (i+1) r with
    | some (.one (.c (.ptr L 0))),some (ys,ls)=>match zC sf ob (.one (.c (.ptr L 0)))with|some (y,l,_)=>some (y::ys,l++ls)|none=>none
    | _,_=>none
def UJ(fn:Func)(xs:List XA)(K:List PA->List XA->Prop)(σ:St):Prop :=
 match C9 P σ fn.results.toList with
 | some (l,u)=>match LG (AU σ.env xs) (lk (u++σ.ay)) σ.env 0 xs with
  | some (ys,ls)=>match lu ls,EX l with|true,none=>K l ys|_,_=>False
  | none=>False
 | none=>False
def zhh(xs:List XA)(K:List PA->List XA->Prop)(ch:List PanicEntry)(σ:St):Prop :=
 match chR ch with
 | some l=>match LG (AU σ.env xs) (lk σ.ay) σ.env 0 xs with
  | some (ys,ls)=>match lu ls with|true=>K l ys|false=>False
  | none=>False
 | none=>False
def zss(fn:Func)(xs:List XA)(K:List PA→List XA→Prop):Exit→St→Prop|.ret,σ=>UJ P fn xs K σ|.normal,σ=>UJ P fn xs K σ|.panic ch,σ=>zhh xs K ch σ|_,_=>False
def Vs(Γ:bM)(aO:dI)(f:FuncId)(xs:List XA)(K:List PA->List XA->Prop):Prop :=
 match P.funcs[f]? with
 | some fn=>match fn.body with
  | some c=>match Nat.beq aO.nt fn.ntmps&&Nat.ble xs.length aO.nt&&lu ((gV 0 xs).map (·.1))&&wX (sS 0 xs) xs&&mY (sS 0 xs) (dP c)with|true=>vc P Γ aO c (zss P fn xs K) ⟨Iz 0 xs,gV 0 xs,[]⟩|false=>False
  | none=>False
 | none=>False
end
section
variable{P:Program}{Γ:bM}
def Jg(w:World)(v:Value):List Value:=match v with
 | .pointer (some a)=>match w.heap[a.block]? with|some (.cells C _ _)=>C.toList|_=>[]
 | _=>[]
def xVV(i:Nat):Nat→List XC→List Value→List (Nat×Value)|j,.p _::r,_::vs=>xVV i (j+1) r vs|j,.vec _ _ _ _ _::r,v::vs=>(FN i j,v)::xVV i (j+1) r vs|j,.mo _ _ _ _ _::r,v::vs=>(FN i j,v)::xVV i (j+1) r vs|j,.slf _ _ _::r,_::vs=>xVV i (j+1) r vs|_,_,_=>[]
def yA(w:World):Nat→List XA→List Value→List (Nat×Value)|i,.d _::r,_::vs=>yA w (i+1) r vs|i,.box _ cs::r,v::vs=>(i,v)::(xVV i 0 cs (Jg w v)++yA w (i+1) r vs)|_,_,_=>[]
def zhi:Value→Nat|.pointer (some a)=>a.block|_=>0
theorem Ht:∀(n np:Nat)(bx:List Nat),yz bx np n=true→∀M∈lq (yY np n),M∈bx
  | 0,_,_,_,M,hM=>by simp[yY,lq]at hM
  | n+1,np,bx,h,M,hM=>by
    simp only[yz,fH]at h;simp only[yY,lq,jW]at hM;rcases hM with rfl|hM
    simpa using h.1;exact Ht n (np+1) bx h.2 M hM
theorem AV:∀(n np:Nat)(bx:List Nat),yz bx np n=true→∀k,k<n→np+k∈bx
  | 0,_,_,_,k,h=>absurd h omY
  | n+1,np,bx,h,k,hk=>by
    simp only[yz,fH]at h;cases k with|zero=>simpa using h.1|succ k=>rw[show np+(k+1)=np+1+k by omega];exact AV n (np+1) bx h.2 k omY
theorem PU{g:Gh}:∀(bs:List Nat)(np:Nat),(∀k b,bs[k]? = some b→g.bk (np+k)=b)→RL (Iu g) (yY np bs.length) (bs.map xq)|[],_,_=>trivial|b::bs,np,h=>⟨by show xq b=_;rw[<- h 0 b rfl];rfl,PU bs (np+1) λk b' hk=>by rw[<- h (k+1) b' (by simpa using hk)];congr 1;omega⟩
section start
variable{h:Fz}{w:World}{B:Nat}{g:Gh}(hle:∀p x,Rep h p x->Rep g.h p x)
include hle
theorem Vt [dh]{i:Nat}{bx:List Nat}(Rk:∀k b,(dh.bs)[k]? = some b->dh.np+k∈bx->g.bk (dh.np+k)=b):∀{cs:List XC}{j:Nat}{vs:List Value},RL (xcR P h w B) cs vs->LD bx cs=true->(∀x∈xVV i j cs vs,g.sv x.1=x.2) ->
  RL (iV g) (oZ i j cs) vs/\(∀ x∈mJ i j cs,UR x.2/\dJ x.2=[]/\NS P g w B x.1 x.2)/\uh cs vs=(mJ i j cs).flatMap (λ x=>kO g x.1 x.2)/\(xVV i j cs vs).map (·.1)=(mJ i j cs).map (·.1) /\
   ∀M∈(oZ i j cs).flatMap aY,M∈(mJ i j cs).map (·.1)\/M∈bx
 | [],j,[],_,_,_=>⟨trivial,λx hx=>by simp[mJ]at hx,rfl,rfl,λM hM=>by simp[oZ]at hM⟩
 | [],_,_::_,hr,_,_=>hr.elim
 | _::_,_,[],hr,_,_=>hr.elim
 | .slf f np n::cs,j,v::vs,hr,hb,hs=>by
  simp only[LD,fH]at hb;obtain⟨i1,i2,i3,i4,i5⟩:=Vt (j:=j+1) Rk hr.2 hb.2 hs;obtain⟨rfl,rfl,rfl,rfl⟩:=hr.1;refine⟨⟨⟨_,rfl,PU _ _ λk b hk=>Rk k b hk (AV _ _ _ hb.1 k (ER.1 hk).1)⟩,i1⟩,i2,by simp only[uh,xcK,NW];exact i3,i4,λM hM=>?_⟩;simp only[oZ,lX,dG]at hM;rcases hM with hM|hM
  exact .inr (Ht _ _ _ hb.1 M hM);exact i5 M hM
 | .p p::cs,j,v::vs,hr,hb,hs=>by
  obtain⟨i1,i2,i3,i4,i5⟩:=Vt (j:=j+1) Rk hr.2 hb hs;exact⟨⟨hle _ _ hr.1,i1⟩,i2,by simp only[uh,xcK,NW];exact i3,i4,λM hM=>i5 M (by simpa [oZ,aY]using hM)⟩
 | .vec e s b n get::cs,j,v::vs,hr,hb,hs=>by
  obtain⟨i1,i2,i3,i4,i5⟩:=Vt (j:=j+1) Rk hr.2 hb (λx hx=>hs x (jB _ hx));have hv:g.sv (FN i j)=v:=hs (FN i j,v) jM;obtain⟨h1,h2,h3,xs,hx,hx2⟩:=hr.1;refine⟨⟨⟨hv.symm,h1⟩,i1⟩,λx hx=>?_,?_,by simp[xVV,mJ,i4],λM hM=>?_⟩;rcases jW.1 hx with e1|hx
  subst e1;refine⟨trivial,rfl,h2,h3,xs,?_,λq hq=>(hx2 q hq).mono hle⟩;show w.ownsRow B e s (g.sv (FN i j)) n xs;rw[hv];assumption;exact i2 x hx;simp only[uh,xcK,mJ,lX,kO,hv,i3];simp only [oZ,lX,dG,aY,kK]at hM;simp only[mJ,nU,jW];rcases hM with hM|hM
  exact .inl (.inl hM);exact(i5 M hM).imp_left .inr
 | .mo kt vt q n F::cs,j,v::vs,hr,EQ,hs=>by
  obtain⟨i1,i2,i3,i4,i5⟩:=Vt (j:=j+1) Rk hr.2 EQ (λx hx=>hs x (jB _ hx));have hv:g.sv (FN i j)=v:=hs (FN i j,v) jM;obtain⟨b,es,clock,rfl,h2,h3⟩:=hr.1;have hb:oq (g.sv (FN i j))=b:=by rw[hv];rfl
  refine⟨⟨by show Value.map (some b)=.map (some (oq (g.sv (FN i j))));rw[hb],i1⟩,λx hx=>?_,?_,by simp[xVV,mJ,i4],λM hM=>?_⟩;rcases jW.1 hx with e1|hx
  subst e1;exact⟨trivial,rfl,es,clock,by rw[hb];exact h2,h3⟩;exact i2 x hx;simp only[uh,xcK,mJ,lX,kO,hb,i3];rfl;simp only [oZ,lX,dG,aY,kK]at hM;simp only[mJ,nU,jW];rcases hM with hM|hM
  exact .inl (.inl hM);exact(i5 M hM).imp_left .inr
theorem Rl [dh]{bx:List Nat}(Rk:∀k b,(dh.bs)[k]? = some b->dh.np+k∈bx->g.bk (dh.np+k)=b):∀{xs:List XA}{i:Nat}{vs:List Value},RL (yR P h w B) xs vs->wX bx xs=true->(∀x∈yA w i xs vs,g.sv x.1=x.2/\g.bk x.1=zhi x.2) ->
  (∀x∈gV i xs,UR x.2/\(∀M∈dJ x.2,M∈(gV i xs).map (·.1)\/M∈bx)/\NS P g w B x.1 x.2)/\mW w xs vs=(gV i xs).flatMap (λx=>kO g x.1 x.2)/\(yA w i xs vs).map (·.1)=(gV i xs).map (·.1)
 | [],i,[],_,_,_=>⟨λx hx=>by simp[gV]at hx,rfl,rfl⟩
 | [],_,_::_,hr,_,_=>hr.elim
 | _::_,_,[],hr,_,_=>hr.elim
 | .d a::xs,i,v::vs,hr,EQ,hs=>by
  obtain⟨i1,i2,i3⟩:=Rl (i:=i+1) Rk hr.2 EQ hs;exact⟨i1,by simp only[mW,Ur,NW];exact i2,i3⟩
 | .box ty cs::xs,i,v::vs,hr,EQ,hs=>by
  simp only[wX,fH]at EQ;obtain⟨i1,i2,i3⟩:=Rl (i:=i+1) Rk hr.2 EQ.2 (λx hx=>hs x (jB _ (dG.2 (.inr hx))));obtain⟨k,C,rfl,hC,nG⟩:=hr.1;have hca:Jg w (.pointer (some ⟨k,0,none⟩))=C.toList:=by simp only[Jg,hC]
  obtain⟨j1,j2,j3,j4,j5⟩:=Vt (i:=i) (j:=0) hle Rk nG EQ.1 (λx hx=>(hs x (jB _ (dG.2 (.inl (by rw[hca];exact hx))))).1);have hb:g.bk i=k:=(hs (i,_) jM).2;refine⟨λx hx=>?_,?_,?_⟩;simp only [gV]at hx;rcases jW.1 hx with e|hx
  subst e;refine⟨trivial,λM hM=>?_,C,by rw[hb];exact hC,j1⟩;simp only[gV,nU,TR,jW,dG];exact(j5 M hM).imp_left λh=>.inr (.inl h);rcases dG.1 hx with hx|hx
  obtain⟨q1,q2,q3⟩:=j2 x hx;exact⟨q1,λM hM=>by rw[q2]at hM;simp at hM,q3⟩;obtain⟨q1,q2,q3⟩:=i1 x hx;refine⟨q1,λM hM=>?_,q3⟩;simp only[gV,nU,TR,jW,dG];exact(q2 M hM).imp_left λh=>.inr (.inr h);simp only[mW,Ur,hC,gV,lX,qdH,kO,hb,j3,i2];simp;simp only[yA,gV,nU,TR,hca,j4,i3]
end start
theorem Rn : ∀ (xs : List XA) (i t : Nat) (d : DV), lk (Iz i xs) t = some d → ∃ x, xs[t - i]? = some x ∧ i ≤ t ∧ d = match x with | .d a => .one (NZ a) | .box _ _ => .cl (.ptr t 0)
  | [],i,t,d,h=>by simp[Iz,lk]at h
  | x::r,i,t,d,h=>by
    have key:lk (Iz (i+1) r) t=some d->i≠t->∃y,(x::r)[t-i]? = some y/\i<=t/\d=match y with | .d a=>.one (NZ a) | .box _ _=>.cl (.ptr t 0):=λh iK=>by
      obtain⟨y,h1,h2,h3⟩:=Rn r (i+1) t d h;refine⟨y,?_,omY,h3⟩;rw[show t-i=(t-(i+1))+1 by omega,Yg];exact h1
    cases x with
    | d a =>
      simp only[Iz]at h;rw[aS]at h;split at h;rename_i e;subst e;simp only[bG]at h;exact⟨.d a,by simp,jy _,h.symm⟩;rename_i e;exact key h e
    | box ty cs =>
      simp only[Iz]at h;rw[aS]at h;split at h;rename_i e;subst e;simp only[bG]at h;exact⟨.box ty cs,by simp,jy _,h.symm⟩;rename_i e;exact key h e
theorem FO : ∀ {xs : List XA} {i t : Nat} {ty : Nat} {cs : List XC}, xs[t - i]? = some (.box ty cs) → i ≤ t → t ∈ (gV i xs).map (·.1)
  | [],i,t,ty,cs,h,_=>by simp at h
  | x::xs,i,t,ty,cs,h,hi=>by
    by_cases e:t=i;subst e;simp at h;subst h;simp[gV]
    · rw [show t-i=(t-(i+1))+1 by omega,Yg]at h;have:=FO (i:=i+1) h omY;cases x with
      | d a=>exact this
      | box TZ cs' =>
        simp only[gV,nU,TR,jW,dG];exact .inr (.inr this)
theorem FP{w:World}:∀{xs:List XA}{i t:Nat}{ty:Nat}{cs:List XC}{vs:List Value}{v:Value},xs[t-i]? = some (.box ty cs)→vs[t-i]? = some v→i≤t→(t,v)∈yA w i xs vs
  | [],i,t,ty,cs,vs,v,h,_,_=>by simp at h
  | _::_,i,t,ty,cs,[],v,_,h,_=>by simp at h
  | x::xs,i,t,ty,cs,u::vs,v,h,h2,hi=>by
    by_cases e:t=i;subst e;simp at h h2;subst h h2;simp[yA]
    · rw [show t-i=(t-(i+1))+1 by omega,Yg]at h h2;have:=FP (w:=w) (i:=i+1) h h2 omY;cases x with
      | d a=>exact this
      | box TZ cs' =>
        simp only[yA,jW,dG];exact .inr (.inr this)
def pinned(h:Fz)(K:List Nat)(w:World):Fz:=λb =>
 match h b with
 | some (.fz (.cells C ty fr))=>some (.fz (.cells C ty fr))
 | _=>match K.contains b with|true=>none|false=>(w.heap[b]?).map .pin
theorem Vu{h:Fz}{K:List Nat}{w:World}{b:Nat}{o:FzO}(hb:h b=some o)(ho:(∃C ty fr,o=.fz (.cells C ty fr))):pinned h K w b=some o:=by
 obtain⟨C,ty,fr,rfl⟩:=ho;simp only[pinned,hb]
def zCW(h:Fz)(K:List Nat)(w:World)(b:Nat):Prop :=
 (∃o,h b=some o∧pinned h K w b=some o∧((∃C ty fr,o = .fz (.cells C ty fr)))) ∨
  (b∈K/\pinned h K w b=none)\/(b∉K/\pinned h K w b=(w.heap[b]?).map .pin)
theorem yB{h:Fz}{K:List Nat}{w:World}{b:Nat}(e:pinned h K w b=(match K.contains b with|true=>none|false=>(w.heap[b]?).map .pin)):zCW h K w b:=by
 cases hk:K.contains b with|true=>rw[hk]at e;exact .inr (.inl ⟨by simpa using hk,e⟩)|false=>rw[hk]at e;exact .inr (.inr ⟨by simpa using hk,e⟩)
theorem iQ{h:Fz}{K:List Nat}{w:World}(b:Nat):zCW h K w b:=by
 cases hb:h b with
 | none=>exact yB (by simp only[pinned,hb])
 | some o =>
  cases o with
  | pin o=>exact yB (by simp only[pinned,hb])
  | fz o =>
   cases o with|cells C ty fr=>exact .inl ⟨_,hb,by simp only[pinned,hb],C,ty,fr,rfl⟩|_=>exact yB (by simp only[pinned,hb])
theorem LH{h:Fz}{K:List Nat}{w:World}{p:PV}{x:Value}(hr:Rep h p x):Rep (pinned h K w) p x:=hr.mono' λ_ _ hb ho=>Vu hb ho
theorem zdG{h:Fz}{K:List Nat}{w:World}(H:Hw h w):Hw (pinned h K w) w:=by
 intro b x hb;rcases iQ (h:=h) (K:=K) (w:=w) b with⟨o,h1,h2,_⟩|⟨_,h2⟩|⟨_,h2⟩
 rw[h2]at hb;simp only[bG]at hb;subst hb;exact H b _ h1;rw[h2]at hb;cases hb;rw [h2]at hb;obtain⟨o,ho,rfl⟩:=Yh.1 hb;exact⟨o,ho,rfl⟩
theorem yZ{h h':Fz}(hle:∀p x,Rep h p x->Rep h' p x){a:PA}{v:Value}(hr:pJ h a v):pJ h' a v:=by
 cases a with
 | one p=>exact hle _ _ hr
 | agg cs=>obtain⟨vs,rfl,hr⟩:=hr;exact⟨vs,rfl,hr.mono hle⟩
theorem zhj{h h':Fz}(hle:∀p x,Rep h p x->Rep h' p x){rs:List PA}{v:Value}(hr:pU h rs v):pU h' rs v:=by
 match rs,hr with|[],⟨vs,e,r⟩=>exact⟨vs,e,r.mono λ_ _=>yZ hle⟩|[x],hr=>exact yZ hle hr|x::y::l,⟨vs,e,r⟩=>exact⟨vs,e,r.mono λ_ _=>yZ hle⟩
theorem zm7 [dh]{h h':Fz}{w:World}{B:Nat}(hle:∀p x,Rep h p x->Rep h' p x){c:XC}{v:Value}(hr:xcR P h w B c v):xcR P h' w B c v:=by
 cases c with
 | p v=>exact hle _ _ hr
 | vec e s b n get=>obtain⟨h1,h2,h3,xs,h4,h5⟩:=hr;exact⟨h1,h2,h3,xs,h4,λq hq=>(h5 q hq).mono hle⟩
 | mo kt vt q n F=>exact hr
 | slf f np n=>exact hr
theorem zbf [dh]{h h':Fz}{w:World}{B:Nat}(hle:∀p x,Rep h p x->Rep h' p x){c:XA}{v:Value}(hr:yR P h w B c v):yR P h' w B c v:=by
 cases c with
 | d a=>exact yZ hle hr
 | box ty cs=>obtain⟨k,C,h1,h2,h3⟩:=hr;exact⟨k,C,h1,h2,h3.mono λ_ _=>zm7 hle⟩
theorem Dc:∀{xs:List XA}{i M:Nat},M∈sS i xs→i≤M∧∃ty cs,xs[M-i]? = some (.box ty cs)
  | [],_,_,h=>by simp[sS]at h
  | .d a::xs,i,M,h=>by
    obtain⟨h1,ty,cs,h2⟩:=Dc (i:=i+1) h;exact⟨omY,ty,cs,by rw[show M-i=(M-(i+1))+1 by omega,Yg];exact h2⟩
  | .box ty cs::xs,i,M,h=>by
    rcases jW.1 h with rfl|h
    exact⟨jy _,ty,cs,by simp⟩;obtain⟨h1,ty,cs,h2⟩:=Dc (i:=i+1) h;exact⟨omY,ty,cs,by rw[show M-i=(M-(i+1))+1 by omega,Yg];exact h2⟩
theorem zm8 [dh]{nt m:Nat}{xs:List XA}{w:World}{h:Fz}{B:Nat}{vs:List Value}(Jv:nt=m)(hlen:xs.length≤nt)(jI:RL (yR P h w B) xs vs)(hn:(mW w xs vs).Nodup)
    (hK:∀b∈mW w xs vs,B<=b/\h b=none) (hw:Hw h w) (hB:B<=w.heap.size) (zK:((gV 0 xs).map (·.1)).Nodup) (EQ:wX (sS 0 xs) xs=true) (lQ:∀k b,(dh.bs)[k]? = some b->vs[dh.np+k]? = some (xq b)) :
    ∃g,bK P nt B w (pinned h (mW w xs vs) w) g ⟨Iz 0 xs,gV 0 xs,[]⟩ {tmps:=vs.toArray++Array.replicate (m-vs.toArray.size) undef,defers:=[]} w:=by
  let nv:=yA w 0 xs vs;let h0:=pinned h (mW w xs vs) w;let g:Gh:=⟨h0,λL=>zhi ((lk nv L).getD undef),λL=>(lk nv L).getD undef,λ_ _=>undef⟩;have hle:∀p x,Rep h p x->Rep g.h p x:=λp x hr=>LH hr;have Qp:nv.map (·.1)=(gV 0 xs).map (·.1):=by
    have:∀{xs:List XA}{i:Nat}{vs:List Value},RL (yR P h w B) xs vs->(yA w i xs vs).map (·.1)=(gV i xs).map (·.1):=by
      intro xs
      induction xs with
      | nil=>intro i vs hr;cases vs with|nil=>rfl|cons=>exact hr.elim
      | cons x xs ih =>
        intro i vs hr;cases vs with
        | nil=>exact hr.elim
        | cons v vs =>
          cases x with
          | d a=>exact ih hr.2
          | box ty cs =>
            obtain⟨k,C,rfl,hC,nG⟩:=hr.1;have hv:∀{cs:List XC}{j:Nat}{vs:List Value},RL (xcR P h w B) cs vs->(xVV i j cs vs).map (·.1)=(mJ i j cs).map (·.1):=by
              intro cs
              induction cs with
              | nil=>intro j vs hr;cases vs with|nil=>rfl|cons=>exact hr.elim
              | cons c cs ih2 =>
                intro j vs hr;cases vs with
                | nil=>exact hr.elim
                | cons v vs=>cases c with|p q=>exact ih2 hr.2|vec e s b n get=>simp only[xVV,mJ,nU];rw[ih2 hr.2]|mo kt vt q n F=>simp only[xVV,mJ,nU];rw[ih2 hr.2]|slf f np n=>exact ih2 hr.2
            simp only[yA,gV,nU,TR,Jg,hC];rw[hv nG,ih hr.2]
    exact this jI
  have zm9:∀x∈nv,lk nv x.1=some x.2:=λx hx=>Fh (by rw[Qp];exact zK) hx;obtain⟨o1,o2,o3⟩:=Rl (g:=g) (i:=0) hle (bx:=sS 0 xs) (λk b hk hm=>by
    obtain⟨_,ty,cs,hx⟩:=Dc hm;have:=zm9 _ (FP (w:=w) (i:=0) hx (by rw[jqN];exact lQ k b hk) (xn _));show zhi ((lk nv (dh.np+k)).getD undef)=b;rw[show lk nv (dh.np+k)=some (xq b)from this];rfl) jI EQ (λx hx=>⟨by show(lk nv x.1).getD undef=x.2;rw[zm9 x hx];rfl,by show zhi ((lk nv x.1).getD undef)=_;rw[zm9 x hx];rfl⟩)
  have qX:∀L o,lk (gV 0 xs) L=some o->(L,o)∈gV 0 xs:=λL o h=>eU h;have hl:=jI.length;have hblk:∀L o b,lk (gV 0 xs) L=some o->gy g L o b->b∈(gV 0 xs).flatMap (λx=>kO g x.1 x.2):=λL o b hL hb=>jJ.2 ⟨_,qX L o hL,Ff (o1 _ (qX L o hL)).1 hb⟩;refine⟨g,Marks.nil _ _,by simp;omega,?_,λL o hL=>(o1 _ (qX L o hL)).2.2,?_,?_,zdG hw,λ_ _ h=>h,λb o h=>.inl h,xE.refl _ _ _,hB,?_,?_⟩
  · intro t d ht;obtain⟨x,hx,_,rfl⟩:=Rn xs 0 t d ht;obtain⟨v,hv,xg⟩:=jI.get t x (by simpa using hx);have jv:=(ER.1 hv).1;have:(vs.toArray++Array.replicate (m-vs.toArray.size) undef).getD t undef=v:=by
      rw[yP,dqZ (by simpa using jv)];simp[hv]
    rw[this];cases x with
    | d a=>exact Po (g:=g) (yZ hle xg)
    | box ty cs =>
      obtain⟨k,C,rfl,hC,_⟩:=xg;have:=zm9 _ (FP (w:=w) (i:=0) hx (by simpa using hv) (xn _));show Value.pointer (some ⟨k,0,none⟩)=.pointer (some ⟨zhi ((lk nv t).getD undef),0,none⟩);rw[show lk nv t=some (.pointer (some ⟨k,0,none⟩))from this];rfl
  intro L o b hL hb;have hbK:b∈mW w xs vs:=by rw[o2];exact hblk L o b hL hb
  refine⟨(hK b hbK).1,?_⟩;show pinned h (mW w xs vs) w b=none;rcases iQ (h:=h) (K:=mW w xs vs) (w:=w) b with⟨o,h1,_⟩|⟨_,h2⟩|⟨h2,_⟩
  rw[(hK b hbK).2]at h1;cases h1;exact h2;exact(h2 hbK).elim;intro L o b L' o' hL Qr hb lS;rw[o2]at hn;have:=Fg hn (L,o) (L',o') b (qX L o hL) (qX L' o' Qr) (Ff (o1 _ (qX L o hL)).1 hb) (Ff (o1 _ (qX L' o' Qr)).1 lS);exact jF Prod.fst this
  · intro t d ht L hL;obtain⟨x,hx,_,rfl⟩:=Rn xs 0 t d ht;cases x with
    | d a=>rw[show bQ (.one (NZ a))=dw (NZ a)from rfl,yS]at hL;simp at hL
    | box ty cs =>
      simp[bQ,dw,aY]at hL;subst hL;exact yU (FO (i:=0) hx (xn _))
  intro L o hL M hM;rcases(o1 _ (qX L o hL)).2.1 M hM with h|h
  exact yU h;obtain⟨_,ty,cs,hx⟩:=Dc h;exact yU (FO (i:=0) hx (xn _))
theorem FQ{nt B:Nat}{w0:World}{h0:Fz}{g:Gh}{σ:St}{a:Act}{w:World}(S:bK P nt B w0 h0 g σ a w):∀(rs:List ResultVar)(l:List PA)(u:lY),C9 P σ rs=some (l,u) ->
  ∃(vs:List Value),dY (lk σ.ay) u/\(rs.mapM (resV a.tmps)).run P w=.ok vs w/\∀(u':lY)(h':Fz),(∀y∈u,y∈u')->eQ g (lk σ.ay) u' h'->RL (pJ h') l vs
 | [],l,u,h=>by
  simp[C9]at h;obtain⟨rfl,rfl⟩:=h;exact⟨[],dY.nil _,rfl,λ_ _ _ _=>trivial⟩
 | .tmp t::r,l,u,h=>by
  simp only[C9]at h;split at h;rename_i d hd;split at h;rename_i x u1 l2 u2 h1 h2;simp only[bG,fJ]at h;obtain⟨rfl,rfl⟩:=h;obtain⟨vs,hu2,cu,hr⟩:=FQ S r l2 u2 h2;refine⟨a.tmps.getD t undef::vs,(BU h1).append hu2,?_,λu' h' hu F=>⟨F.repD h1 (λy hy=>hu y (dG.2 (.inl hy))) (S.env t d hd),hr u' h' (λy hy=>hu y (dG.2 (.inr hy))) F⟩⟩;rw[qjD];simp only[resV,Sem.run_bind,Sem.run_pure,Result.andThen_ok];rw[cu];rfl;cases h;cases h
 | .cell t ty::r,l,u,h=>by
  simp only[C9]at h;split at h;rename_i L off ag m ht hg hs;split at h;rename_i TZ cells hL;split at h;rename_i d hd;split at h;rename_i x u1 l2 u2 h1 h2;simp only[bG,fJ]at h;obtain⟨rfl,rfl⟩:=h;obtain⟨vs,hu2,cu,hr⟩:=FQ S r l2 u2 h2;obtain⟨C,hC,TP⟩:=S.obj L _ hL;obtain⟨v,X3,hv⟩:=J5 (P:=P) hg hs hC 0 (λj y hj=>by obtain⟨v,hv,Ql⟩:=TP.get j y hj;exact⟨v,by simpa using hv,Ql⟩) hd;have hp:a.tmps.getD t undef=.pointer (some ⟨g.bk L,off,none⟩):=S.env t _ ht;rw[NR]at X3;refine⟨v::vs,(BU h1).append hu2,?_,λu' h' hu F=>⟨F.repD h1 (λy hy=>hu y (dG.2 (.inl hy))) hv,hr u' h' (λy hy=>hu y (dG.2 (.inr hy))) F⟩⟩;have h1:(resV a.tmps (.cell t ty)).run P w=.ok v w:=by
   simp only[resV,Sem.run_bind,hp,Lt,Result.andThen_ok,X3]
  rw[qjD];simp only[Sem.run_bind,h1,Result.andThen_ok];rw[cu];rfl;cases h;cases h;cases h;cases h
theorem Rq{nt B:Nat}{w0:World}{h0:Fz}{g:Gh}{σ:St}{a:Act}{w:World}(S:bK P nt B w0 h0 g σ a w){fn:Func}{l:List PA}{u:lY}(h:C9 P σ fn.results.toList=some (l,u)) :
  ∃(v:Value),dY (lk σ.ay) u/\(results fn a.tmps).run P w=.ok v w/\∀(h':Fz),eQ g (lk σ.ay) u h'->pU h' l v:=by
 obtain⟨vs,hu,cu,hr⟩:=FQ S fn.results.toList l u h;refine⟨if h:vs.toArray.size=1 then vs.toArray[0]else .tuple vs.toArray,hu,?_,λh' F=>?_⟩;have e:results fn a.tmps=(do let vs ← fn.results.mapM (resV a.tmps);pure (if h:vs.size=1 then vs[0]else .tuple vs)):=rfl;rw[e,qjE];simp only[Sem.run_bind,Sem.run_map];rw[cu];simp only[Result.andThen_ok,Sem.run_pure]
 ·have nG := hr u h' (fun y hy => hy) F
  match l,vs,nG with
  | [],[],_=>exact⟨[],rfl,trivial⟩
  | [x],[v],nG=>exact nG.1
  | x::y::l,v::v2::vs,nG =>
   refine⟨v::v2::vs,?_,nG⟩;rw[dif_neg (by simp)]
  | [],_::_,nG=>exact nG.elim
  | [_],[],nG=>exact nG.elim
  | [_],_::_::_,nG=>exact nG.2.elim
  | _::_::_,[],nG=>exact nG.elim
  | _::_::_,[_],nG=>exact nG.2.elim
theorem y5 [dh]{h:Fz}{B:Nat}{w:World}{bx:List Nat}:∀{cs:List XC}{vs:List Value}{f:FuncId}{np n:Nat},zbe cs=some (f,np,n)→RL (xcR P h w B) cs vs→LD bx cs=true→f=dh.f∧np=dh.np∧n=(dh.bs).length∧yz bx np n=true
  | [],_,_,_,_,h1,_,_=>by cases h1
  | _::_,[],_,_,_,_,hr,_=>hr.elim
  | c::cs,v::vs,f,np,n,h1,hr,hb=>by
    cases c with
    | slf f' np' n' =>
      simp only[zbe,bG,fJ]at h1;obtain⟨rfl,rfl,rfl⟩:=h1;simp only[LD,fH]at hb;obtain⟨q1,q2,q3,_⟩:=hr.1;exact⟨q1,q2,q3,hb.1⟩
    | p q=>exact y5 (cs:=cs) h1 hr.2 hb
    | vec e s b n get=>exact y5 (cs:=cs) h1 hr.2 hb
    | mo kt vt q n F=>exact y5 (cs:=cs) h1 hr.2 hb
theorem FT [dh]{h:Fz}{B:Nat}{w:World}{bx:List Nat}:∀{xs:List XA}{vs:List Value}{f:FuncId}{np n:Nat},Vr xs=some (f,np,n)→RL (yR P h w B) xs vs→wX bx xs=true→f=dh.f∧np=dh.np∧n=(dh.bs).length∧yz bx np n=true
  | [],_,_,_,_,h1,_,_=>by cases h1
  | _::_,[],_,_,_,_,hr,_=>hr.elim
  | .d a::xs,v::vs,f,np,n,h1,hr,hb=>FT (xs:=xs) h1 hr.2 hb
  | .box ty cs::xs,v::vs,f,np,n,h1,hr,hb=>by
    simp only[wX,fH]at hb;simp only[Vr]at h1;split at h1;rename_i y hy;simp only[bG]at h1;subst h1;obtain⟨k,C,_,_,nG⟩:=hr.1;exact y5 hy nG hb.1;exact FT (xs:=xs) h1 hr.2 hb.2
theorem Vw{nt B:Nat}{w0:World}{h0:Fz}{g:Gh}{σ:St}{a:Act}{w:World}(S:bK P nt B w0 h0 g σ a w):∀(bs:List Nat)(np:Nat)(l:List Nat),LC σ.env np bs.length=some l→(∀k b,bs[k]? = some b→a.tmps.getD (np+k) undef=xq b)→bs=l.map g.bk
  | [],_,l,h1,_=>by simp only[X6,LC,bG]at h1;subst h1;rfl
  | b::bs,np,l,h1,h2=>by
    simp only[xm,LC]at h1;split at h1;rename_i L l' hL vk;simp only[bG]at h1;subst h1;have e1:a.tmps.getD np undef=.pointer (some ⟨g.bk L,0,none⟩):=S.env np _ hL;have e2:=h2 0 b rfl;rw[qdQ,e1]at e2;have e3:g.bk L=b:=by simpa [xq]using e2
    rw[nU,e3,<- Vw S bs (np+1) l' vk λk b' hk=>by rw[show np+1+k=np+(k+1)by omega];exact h2 (k+1) b' (by simpa using hk)];cases h1
theorem zhk [dh]{nt B:Nat}{w0:World}{h0 h:Fz}{g:Gh}{σ:St}{a:Act}{w w1:World}(S:bK P nt B w0 h0 g σ a w){xs:List XA}{vs:List Value}(jI:RL (yR P h w1 B) xs vs)(EQ:wX (sS 0 xs) xs=true)
    (lQ:∀k b,(dh.bs)[k]? = some b->vs[dh.np+k]? = some (xq b)) (zcG:∀t u,vs[t]? = some u->t∈sS 0 xs->a.tmps.getD t undef=u):YE g (AU σ.env xs):=by
  intro f np ls h1;unfold AU at h1;split at h1;rename_i f' np' n hx;split at h1;rename_i l hl;simp only[bG,fJ]at h1;obtain⟨rfl,rfl,rfl⟩:=h1;obtain⟨rfl,rfl,rfl,hbb⟩:=FT hx jI EQ;exact⟨rfl,rfl,Vw S _ _ _ hl λk b hk=>zcG _ _ (lQ k b hk) (AV _ _ _ hbb k (ER.1 hk).1)⟩;cases h1;cases h1
theorem Y9 [dh]{sf:kS}{nt B:Nat}{w0:World}{h0:Fz}{g:Gh}{σ:St}{a:Act}{w w1:World}{h:Fz}(S:bK P nt B w0 h0 g σ a w)(TQ:YE g sf)(hle:∀p x,Rep h p x→Rep g.h p x) :
  ∀{xs ys:List XA}{ls:List Nat}{i:Nat}{vs:List Value},LG sf (lk σ.ay) σ.env i xs=some (ys,ls)->RL (yR P h w1 B) xs vs->(∀t v,vs[t]? = some v->i+t∈sS i xs->a.tmps.getD (i+t) undef=v) ->
  RL (yR P g.h w B) ys vs/\mW w ys vs=ls.flatMap (kB g (lk σ.ay))/\∀L∈ls,isB (lk σ.ay) L
 | [],ys,ls,i,[],h1,_,_=>by
  simp only[LG,bG,fJ]at h1;obtain⟨rfl,rfl⟩:=h1;exact⟨trivial,rfl,λL hL=>by simp at hL⟩
 | [],_,_,_,_::_,_,hr,_=>hr.elim
 | _::_,_,_,_,[],_,hr,_=>hr.elim
 | .d p::xs,ys,ls,i,v::vs,h1,hr,ht=>by
  simp only[LG]at h1;split at h1;rename_i oN ls' h2;simp only[bG,fJ]at h1;obtain⟨rfl,rfl⟩:=h1;obtain⟨i1,i2,i3⟩:=Y9 S TQ hle h2 hr.2 (λt u hu hb=>by
   have:=ht (t+1) u (by simpa using hu) (by rw[show i+(t+1)=i+1+t by omega];exact hb);rw[show i+1+t=i+(t+1)by omega];exact this)
  exact⟨⟨yZ hle hr.1,i1⟩,by simp only[mW,Ur,NW];exact i2,i3⟩;cases h1
 | .box ty cs::xs,ys,ls,i,v::vs,h1,hr,ht=>by
  simp only[LG]at h1;split at h1;rename_i L oN ls' hL h2;split at h1;rename_i y l ms hy;simp only[bG,fJ]at h1;obtain⟨rfl,rfl⟩:=h1;obtain⟨i1,i2,i3⟩:=Y9 S TQ hle h2 hr.2 (λt u hu hb=>by
   have:=ht (t+1) u (by simpa using hu) (by rw[show i+(t+1)=i+1+t by omega];exact jB _ hb);rw[show i+1+t=i+(t+1)by omega];exact this)
  have hv:a.tmps.getD i undef=v:=ht 0 v rfl (by simp[sS]);obtain⟨j1,j2,j3⟩:=zgx S TQ hy (S.env i _ hL);rw[hv]at j1 j2;exact⟨⟨j1,i1⟩,by simp only[mW,i2,j2,qdH],λM hM=>(dG.1 hM).elim (j3 M) (i3 M)⟩;cases h1;cases h1
def zbg [dh](P:Program)(h:Fz)(base:Nat)(w:World)(xs:List XA)(vs:List Value)(K:List PA->List XA->Prop)(e:Ending)(w':World):Prop :=
 ∃(h':Fz)(rs:List PA)(ys:List XA),K rs ys/\Oa h' rs e/\RL (yR P h' w' base) ys vs/\(mW w' ys vs).Nodup /\
   (∀b∈mW w' ys vs,(b∈mW w xs vs\/w.heap.size<=b)/\h' b=none)/\jX h h'/\Hw h' w'/\(∀b o,h' b=some o->h b=some o\/w.heap.size<=b\/b∈mW w xs vs)/\zgb h (mW w xs vs) w w'
theorem zna [dh]{G:bM}(fK:jk P G){f:FuncId}{aO:dI}{xs:List XA}{K:List PA→List XA→Prop}{w:World}{h:Fz}{base:Nat}{vs:List Value}(hv:Vs P G aO f xs K)(jI:RL (yR P h w base) xs vs)
    (hn:(mW w xs vs).Nodup) (hK:∀b∈mW w xs vs,base<=b/\h b=none) (hw:Hw h w) (hB:base<=w.heap.size) (lQ:∀k b,(dh.bs)[k]? = some b->vs[dh.np+k]? = some (xq b)) :
    Calls P f vs.toArray w (zbg P h base w xs vs K):=by
  unfold Vs at hv;split at hv;rename_i fn tN;split at hv;rename_i c vC;split at hv
  · rename_i hc;simp only[fH,Ud]at hc;obtain⟨⟨⟨⟨Jv,hlen⟩,zK⟩,EQ⟩,zHT⟩:=hc;obtain⟨g0,S⟩:=zm8 (P:=P) (kY Jv) hlen jI hn hK hw hB (mF zK) EQ lQ;have hwp:=Rh (B:=base) (w0:=w) fK aO c none 0 (pinned h (mW w xs vs) w) (dP c) _ (zss P fn xs K) _ _ _ _ (λ_ h=>h) (Rnd.none _) hv S (Kp.refl _ _);refine(callsIn_wide (n:=0)).1 ?_;refine callsIn_of_wp_marks (F:=FR none) tN vC trivial (wpIn_mono (uw hwp) ?_);have TU:∀b,pinned h (mW w xs vs) w b=some (.fz (.deferred (some [])))->b<base:=λb hb=>by
      rcases iQ (h:=h) (K:=mW w xs vs) (w:=w) b with⟨o,h1,h2,h3⟩|⟨_,h2⟩|⟨_,h2⟩
      rw [h2]at hb;simp only [bG]at hb;subst hb;obtain⟨C,ty,fr,e⟩:=h3;cases e;rw[h2]at hb;cases hb;rw [h2]at hb;obtain⟨o,_,e⟩:=Yh.1 hb;cases e
    rintro e a' w' ⟨g',σ',wQ,S',kQ⟩
    have core:∀(g2:Gh)(a2:Act)(w2:World)(u:lY)(ys:List XA)(ls:List Nat),a2.tmps=a'.tmps->bK P aO.nt base w (pinned h (mW w xs vs) w) g2 σ' a2 w2->dY (lk σ'.ay) u->LG (AU σ'.env xs) (lk (u++σ'.ay)) σ'.env 0 xs=some (ys,ls)->lu ls=true ->
        ∃h':Fz,(∀l v,(∀XZ:Fz,eQ g2 (lk σ'.ay) u XZ->pU XZ l v)->pU h' l v)/\RL (yR P h' w2 base) ys vs/\(mW w2 ys vs).Nodup /\
          (∀b∈mW w2 ys vs,(b∈mW w xs vs\/w.heap.size<=b)/\h' b=none)/\jX h h'/\Hw h' w2/\(∀b o,h' b=some o->h b=some o\/w.heap.size<=b\/b∈mW w xs vs)/\zgb h (mW w xs vs) w w2:=by
      intro g2 a2 w2 u ys ls ht S2 hu ho hnl;obtain⟨XZ,S3,F⟩:=S2.freeze hu;have zIe:∀p x,Rep h p x->Rep XZ p x:=λp x hr=>(LH (K:=mW w xs vs) (w:=w) hr).mono S3.le0;have zcG:∀t u,vs[t]? = some u->t∈sS 0 xs->a2.tmps.getD t undef=u:=λt u hu hb=>by
        rw[ht,kQ.1 t (λhd=>by
          have:=Aj.1 zHT t hb;simp at this;exact this hd)]
        have jv:=(ER.1 hu).1;rw[yP,dqZ (by simpa using jv)];simp[hu]
      obtain⟨o1,o2,o3⟩:=Y9 S3 (zhk S3 jI EQ lQ zcG) (w1:=w) zIe ho jI (λt u hu hb=>by
        rw[NR]at hb ⊢;exact zcG t u hu hb)
      let h':Fz:=λb=>match XZ b with|some (.pin _)=>h b|x=>x
      have hnp:∀b o,XZ b=some o->(∀x,o ≠ .pin x)->h' b=some o:=λb o hb hx=>by
        show(match XZ b with|some (.pin _)=>h b|x=>x)=some o;rw[hb];cases o with|pin x=>exact(hx x rfl).elim|_=>rfl
      have hpn:∀b x,XZ b=some (.pin x)->h' b=h b:=λb x hb=>by
        show(match XZ b with|some (.pin _)=>h b|x=>x)=h b;rw[hb]
      have hnn:∀b,XZ b=none->h' b=none:=λb hb=>by
        show(match XZ b with|some (.pin _)=>h b|x=>x)=none;rw[hb]
      have zfo:∀p x,Rep XZ p x->Rep h' p x:=λp x hr=>hr.mono' λb o hb ho=>hnp b o hb λx e=>by
        subst e;obtain⟨C,ty,fr,e⟩:=ho;cases e
      have Ol:∀b y,pinned h (mW w xs vs) w b=some y->XZ b=some y:=λb y hb=>S3.le0 b y hb;have jv:∀b,b<w.heap.size->∃o,w.heap[b]? = some o:=λb hb=>⟨_,qdM hb⟩;have yN:=mF hnl;refine⟨h',λl v nS=>zhj zfo (nS XZ F),o1.mono λ_ _=>zbf zfo,by rw[o2];exact GN S3 yN,λb hb=>?_,λb x hb=>?_,λb x hb=>?_,λb x hb=>?_,⟨S3.below.os,S3.below.tape,S3.below.output,S3.below.size,S3.below.drawn,λk hk hkK=>?_⟩⟩;rw [o2]at hb;obtain⟨L,hL,hb⟩:=jJ.1 hb;unfold kB at hb;split at hb;rename_i o' kN;have bT:base<=b/\XZ b=none:=S3.own L o' b kN (QP hb);refine⟨?_,hnn b bT.2⟩;by_cases hbs:b<w.heap.size;refine .inl ?_;rcases iQ (h:=h) (K:=mW w xs vs) (w:=w) b with⟨o,_,h2,_⟩|⟨h2,_⟩|⟨_,h2⟩
      have:=Ol b _ h2;rw[bT.2]at this;cases this;exact h2;obtain⟨o,ho⟩:=jv b hbs;rw[ho]at h2;have:=Ol b _ h2;rw[bT.2]at this;cases this;exact .inr omY;simp at hb;rcases iQ (h:=h) (K:=mW w xs vs) (w:=w) b with⟨o,h1,h2,h3⟩|⟨h2,_⟩|⟨_,h2⟩
      rw [h1]at hb;simp only [bG]at hb;subst hb;exact hnp b _ (Ol b _ h2) λx e=>by subst e;obtain⟨C,ty,fr,e⟩:=h3;cases e
      rw[(hK b h2).2]at hb;cases hb;obtain⟨o,ho⟩:=jv b (hw.lt hb);rw[ho]at h2;rw[hpn b _ (Ol b _ h2)];exact hb
      · cases h3b:XZ b with
        | none=>rw[hnn b h3b]at hb;cases hb
        | some y =>
          by_cases hy:∃o,y=.pin o;obtain⟨o,rfl⟩:=hy;rw[hpn b _ h3b]at hb;rcases iQ (h:=h) (K:=mW w xs vs) (w:=w) b with⟨o',h1,h2,h3⟩|⟨h2,_⟩|⟨_,h2⟩
          have:=Ol b _ h2;rw[h3b]at this;simp only[bG]at this;subst this;obtain⟨C,ty,fr,e⟩:=h3;cases e;rw[(hK b h2).2]at hb;cases hb;obtain⟨o1,ho1,hx1⟩:=hw b x hb;rw[ho1]at h2;have:=Ol b _ h2;rw[h3b]at this;simp only[bG,FzO.pin.injEq]at this;subst this;obtain⟨o2,pz,hx2⟩:=S3.hw b _ h3b;simp only[FzO.ok]at hx2;subst hx2;exact⟨_,pz,hx1⟩;rw [hnp b y h3b fun x e=>hy ⟨x,e⟩]at hb;simp only[bG]at hb;subst hb;exact S3.hw b _ h3b
      · cases h3b:XZ b with
        | none=>rw[hnn b h3b]at hb;cases hb
        | some y =>
          by_cases hy:∃o,y=.pin o;obtain⟨o,rfl⟩:=hy;rw[hpn b _ h3b]at hb;exact .inl hb;rw [hnp b y h3b fun x e=>hy ⟨x,e⟩]at hb;simp only[bG]at hb;subst hb;by_cases hbs:b<w.heap.size;rcases iQ (h:=h) (K:=mW w xs vs) (w:=w) b with⟨o',h1,h2,h3⟩|⟨h2,_⟩|⟨_,h2⟩
          have:=Ol b _ h2;rw[h3b]at this;simp only[bG]at this;subst this;exact .inl h1;exact .inr (.inr h2);obtain⟨o,ho⟩:=jv b hbs;rw[ho]at h2;have:=Ol b _ h2;rw[h3b]at this;simp only[bG]at this;exact(hy ⟨_,this⟩).elim;exact .inr (.inl omY)
      rcases iQ (h:=h) (K:=mW w xs vs) (w:=w) k with⟨o',h1,h2,h3⟩|⟨h2,_⟩|⟨_,h2⟩
      obtain⟨C,ty,fr,rfl⟩:=h3;rw[S3.hw.fz (Ol k _ h2),hw.fz h1];exact(hkK h2).elim;obtain⟨o,ho⟩:=jv k hk;rw[ho]at h2 ⊢;obtain⟨o2,pz,hx2⟩:=S3.hw k _ (Ol k _ h2);simp only[FzO.ok]at hx2;subst hx2;exact pz
    have fin:UJ P fn xs K σ'->LeavesInM (FR none) 0 P fn a'.tmps (zbg P h base w xs vs K) a'.defers .returning w':=by
      intro hf;obtain⟨Ds,h1,h2,h3,h4⟩:=S'.dfr;refine CY TU Ds g' a' w' h1 h2 h3 h4 S' λg2 a2 w2 ht S2=>?_;unfold UJ at hf;split at hf;rename_i l u hl;split at hf;rename_i ys ls ho;split at hf;rename_i hnl hpm;obtain⟨v,hu,cu,nS⟩:=Rq S2 hl;obtain⟨h',hr,hx⟩:=core g2 a2 w2 u ys ls ht S2 hu ho hnl;refine⟨v,cu,h',l,ys,hf,?_,hx⟩;unfold Oa;rw[hpm];exact⟨v,rfl,hr l v nS⟩;exact hf.elim;exact hf.elim;exact hf.elim
    cases e with
    | normal=>exact fin wQ
    | ret=>exact fin wQ
    | exit id=>exact wQ.elim
    | goto l=>exact wQ.elim
    | panic ch =>
      have wQ:zhh xs K ch σ':=wQ;obtain⟨Ds,h1,h2,h3,h4⟩:=S'.dfr;refine zbb TU Ds g' a' w' h1 h2 h3 (λd hd=>?_) S' λg2 a2 w2 ht S2=>?_;obtain⟨_,_,_,_,e1,_⟩:=h4 d hd;have hd:d∈a'.defers:=by rw[h2];exact rY.2 ⟨_,hd,rfl⟩
      rcases kQ.2.2.2 d hd with hd|⟨b,e2⟩
      cases hd;rw[e1]at e2;cases e2;unfold zhh at wQ;split at wQ;rename_i l hl;split at wQ;rename_i ys ls ho;split at wQ;rename_i hnl;obtain⟨h',hr,hx⟩:=core g2 a2 w2 [] ys ls ht S2 (dY.nil _) ho hnl;refine⟨h',l,ys,wQ,?_,hx⟩;unfold Oa;rw[zCk hl];exact wQ.elim;exact wQ.elim;exact wQ.elim
    | outgrown=>exact wQ.elim
  exact hv.elim;exact hv.elim;exact hv.elim
theorem zdH{G:bM}(fK:jk P G){f:FuncId}{C:MK}(hc:df P f)
    (h:∀xs rs ys,(C xs).o=some (rs,ys)->∃vv aO,Vs P {G with vv:=vv} aO f xs λl zs=>l=rs/\zs=ys):iM P f C:=by
  intro _ xs ys rs hC w h0 base vs jI lQ hn hK hw hB;obtain⟨vv,aO,hv⟩:=h xs rs ys hC;refine⟨hc,(zna (G:={G with vv:=vv}) ⟨fK.mt,fK.fn,fK.own,fK.it,fK.cmp⟩ hv jI hn hK hw hB lQ).mono ?_⟩;rintro e w' ⟨h',Oz,oN,⟨rfl,rfl⟩,r⟩;exact⟨h',r⟩
end
end Go.Pm
namespace Go.Pm
section
variable{ρ τ:Type}
theorem ae.ext{c d:ae ρ}(h:∀{A:Type}(k:ρ->Option A),c.T k=d.T k):c=d:=by
 obtain⟨T,n⟩:=c;obtain⟨T',n'⟩:=d;have : @T = @T':=by funext A k;exact h k
 subst this;rfl
def ae.bind(c:ae ρ)(f:ρ->ae τ):ae τ:=⟨λk=>c.T λr=>(f r).T k,λk=>by
 rw[c.nat,c.nat λr=>(f r).T some];cases c.T some with|none=>rfl|some r=>exact(f r).nat k⟩
def ae.mp(f:ρ->τ)(c:ae ρ):ae τ:=⟨λk=>c.T λr=>k (f r),λk=>by
 rw[c.nat,c.nat λr=>some (f r)];cases c.T some<;>rfl⟩
def ae.chk(b:Bool)(c:ae ρ):ae ρ:=⟨λk=>match b with|true=>c.T k|false=>none,λk=>by
 cases b with|true=>exact c.nat k|false=>rfl⟩
def ae.ite(b:Bool)(c d:ae ρ):ae ρ:=⟨λk=>cond b (c.T k) (d.T k),λk=>by
 cases b with|true=>exact c.nat k|false=>exact d.nat k⟩
def ae.opt:Option ρ→ae ρ|some r=>.ok r|none=>.no
theorem ae.bind_o{c:ae ρ}{f:ρ->ae τ}{y:τ}(h:(c.bind f).o=some y):∃r,c.o=some r/\(f r).o=some y:=by
 have h:c.T (λr=>(f r).T some)=some y:=h;rw[c.nat]at h;cases e:c.T some with|none=>rw[e]at h;cases h|some r=>rw[e]at h;exact⟨r,e,h⟩
theorem ae.mp_o{c:ae ρ}{f:ρ->τ}{y:τ}(h:(c.mp f).o=some y):∃r,c.o=some r/\f r=y:=by
 have h:c.T (λr=>some (f r))=some y:=h;rw[c.nat]at h;cases e:c.T some with|none=>rw[e]at h;cases h|some r=>rw[e]at h;exact⟨r,e,dq9 h⟩
theorem ae.chk_o{b:Bool}{c:ae ρ}{y:ρ}(h:(ae.chk b c).o=some y):b=true/\c.o=some y:=by
 cases b with|true=>exact⟨rfl,h⟩|false=>cases h
theorem ae.ok_o{x y:ρ}(h:(ae.ok x).o=some y):x=y:=dq9 h
theorem ae.no_o{y:ρ}(h:(ae.no:ae ρ).o=some y):False:=by cases h
theorem ae.opt_o{x:Option ρ}{y:ρ}(h:(ae.opt x).o=some y):x=some y:=by
 cases x with|none=>cases h|some x=>rw[ae.ok_o h]
end
structure Vx where
  ρ:Type
  c:ae ρ
  f:ρ->aA
section
variable(P:Program)(Γ:bM)
def znb(C:MK)(sf:kS)(args:List DV)(ob:Nat->Option AO):Option Vx :=
 match jP sf ob args with
 | some (xs,ls,ms)=>some ⟨_,C xs,λ(rs,ys)=>match EX rs with|none=>pG args ob ls ms rs ys|some _=>.no⟩
 | none=>none
def zvx(o:Oper)(e s b:Nat)(F:List PA->ae (Nat×(Nat->List PV)×List PV))(args:List DV)(ob:Nat->Option AO):Option Vx :=
  match gQ ob args,o.dst with
  | some (az,u),some dst=>some ⟨_,F az,λ(n,get,rs)=>match ob dst,P.info? e,gu P e with
    | none,some ie,some _=>if ie.size=s/\ie.bytes=b/\0<s/\zf3 get u=true/\rs.all jC=true then
          .val ((dst,true)::rd (args.flatMap (bi ob)))
            (match rs with|[]=>.cl (.vec dst)|_=>.tup (.c (.vec dst)::rs.map λv=>.c (.p v))) [(dst,.vec e s b n get)] []
        else .no
    | _,_,_=>.no⟩
  | _,_=>none
def zhl(o:Oper)(e s b:Nat)(F:List PA->Nat->(Nat->List PV)->ae (Nat×(Nat->List PV)))(args:List DV)(ob:Nat->Option AO):Option Vx :=
  match JI args with
    | some (ds,.one (.c (.vec L)))=>match gQ ob ds,ob L with
      | some (az,[]),some (.vec e' s' b' n get)=>some ⟨_,F az n get,λ(m,get')=>if e'=e/\s'=s/\b'=b then
            .val ((L,true)::rd (ds.flatMap (bi ob))) (.cl (.vec L)) [(L,.vec e s b m get')] [L]
          else .no⟩
      | _,_=>none
    | some (ds,.one (.c (.p .nils)))=>match gQ ob ds,o.dst with
      | some (az,[]),some dst=>match ob dst,P.info? e,gu P e with
        | none,some ie,some z=>match jO z with
          | some l=>some ⟨_,F az 0 λ_=>l,λ(m,get')=>if ie.size=s/\ie.bytes=b/\0<s then
                .val ((dst,true)::rd (ds.flatMap (bi ob))) (.cl (.vec dst)) [(dst,.vec e s b m get')] []
              else .no⟩
          | none=>none
        | _,_,_=>none
      | _,_=>none
    | _=>none
def Vy(o:Oper)(ev:Operand->DV)(ob:Nat->Option AO):Option Vx :=
  match o.op with
  | .call {callee:=.value f,args,argTypes:=_}=>match ev f with
    | .one (.c (.clo g caps))=>match Γ.mt g with|some C=>znb C (zcT g args.size caps) (args.toList.map ev++caps.map capD) ob|none=>none
    | .one (.c (.p (.fn g first caps)))=>match Γ.mt g with
     | some C=>znb C none (first.map (λv=>.p v)++args.toList.map ev++caps.map (λv=>.p v)) ob
     | none=>match Γ.own g with
       | .none=>match gQ ob (args.toList.map ev)with
         | some (az,u)=>some ⟨_,Γ.fn g (first.map .one++az++caps.map .one),λr=>kZ (args.toList.flatMap λx=>bi ob (ev x)) u r⟩
         | none=>none
       | .mkv e s b F=>match first,caps with|[],[]=>zvx P o e s b F (args.toList.map ev) ob|_,_=>none
       | .grow e s b F=>match first,caps with|[],[]=>zhl P o e s b F (args.toList.map ev) ob|_,_=>none
       | _=>none
    | .one (.c (.p (.fna g cells)))=>match gQ ob (args.toList.map ev)with|some (az,u)=>some ⟨_,Γ.fn g (.agg cells::az),λr=>kZ (args.toList.flatMap λx=>bi ob (ev x)) u r⟩|none=>none
    | _=>none
  | _=>none
def zhm(A:aA)(lg:List (Nat×Bool)->List Nat->List (Nat×Nat×Nat))(i:Nat)(dst:Option Nat)(σ:St):ae St :=
 match A with|.no=>.no|.val fp d u kl=>.ok ((σ.upd i dst fp d u kl).relog (lg fp kl))|.chk fp s d u kl=>.chk s.b (.ok ((σ.upd i dst fp d u kl).relog (lg fp kl)))
def LJ(o:Oper)(lg:List (Nat×Bool)->List Nat->List (Nat×Nat×Nat))(i:Nat)(σ:St):ae St :=
 match Vy P Γ o (dW σ.env) (lk σ.ay)with|some p=>p.c.bind λr=>zhm (p.f r) lg i o.dst σ|none=>zhm (act P Γ o (dW σ.env) (lk σ.ay)) lg i o.dst σ
def oG(nt:Nat)(ops:Array Oper):Nat→List Oper→St→ae St
  | _,[],σ=>.ok σ
  | i,o::r,σ =>
    match dA nt o.dst with
    | false=>.no
    | true =>
    match o.guard with
    | none=>(LJ P Γ o (l9 σ i o) i σ).bind (oG nt ops (i+1) r)
    | some (j,want) =>
      match(ops[j]?).bind (·.dst)with
      | none=>.no
      | some g =>
        match lk σ.env g with
        | some (.one (.c (.p (.bool b)))) =>
          .ite b
            (match want with|true=>(LJ P Γ o (l9 (σ.setT g (.bool true)) i o) i (σ.setT g (.bool true))).bind (oG nt ops (i+1) r)|false=>oG nt ops (i+1) r ((σ.setT g (.bool true)).skip o.dst))
            (match want with|true=>oG nt ops (i+1) r ((σ.setT g (.bool false)).skip o.dst)|false=>(LJ P Γ o (l9 (σ.setT g (.bool false)) i o) i (σ.setT g (.bool false))).bind (oG nt ops (i+1) r))
        | some (.one (.c .undef))=>oG nt ops (i+1) r (σ.skip o.dst)
        | _=>.no
def zhn(aO:dI)(id:Nat)(ops:Array Oper)(draw:Bool)(σ:St):ae St :=
 match draw with
 | false=>(oG P Γ aO.nt ops 0 ops.toList {σ with log:=[]}).bind λσ'=>match lk aO.reg id with|some k=>.opt (canon P k σ')|none=>.ok σ'
 | true=>match P.follows .mixedOrders&&JR ops&&Aq ops (masks ops.toList [])with
  | true=>(oG P Γ aO.nt ops 0 ops.toList {σ with log:=[]}).bind λσ'=>match tZ (masks ops.toList []) σ'.log with
   | true=>match lk aO.reg id with|some k=>.opt (canon P k σ')|none=>.no
   | false=>.no
  | false=>.no
def Dh(aO:dI)(id:Nat)(σ:St):ae St:=match lk aO.reg id with|some k=>.opt (canon P k σ)|none=>.ok σ
def zho(aO:dI)(id i:Nat)(o:Oper)(σ:St):ae (Exit×St) :=
 match o.guard,dA aO.nt o.dst with
 | none,true=>match zcZ Γ o σ with
  | some (C,xs,ds,ls,ms)=>(C xs).bind λr=>match EX r.1 with
   | none=>match N9 i o.dst σ (pG ds (lk σ.ay) ls ms r.1 r.2)with|some s=>(Dh P aO id s).mp λs=>(.normal,s)|none=>.no
   | some ch=>match N9 i none σ (pG ds (lk σ.ay) ls ms r.1 r.2)with|some s=>.ok (.panic ch,s)|none=>.no
  | none=>.no
 | _,_=>.no
def zhp(ty:TypeId)(x y:Nat)(σ:St):ae (Exit×St):=match lk σ.env x with|some (.one (.agg [.p (.int k n)]))=>.ok (.panic (zmj ty k n),⟨(y,.junk)::σ.env,σ.ay,[]⟩)|_=>.no
def Vz(aO:dI)(id:Nat)(ops:Array Oper)(σ:St):ae (Exit×St) :=
 match oV ops.toList with
 | some (p1,l)=>match oV p1 with
  | some (pre,m)=>match zcY P aO.nt m l with
   | some (ty,x,y)=>(oG P Γ aO.nt ops 0 pre {σ with log:=[]}).bind (zhp ty x y)
   | none=>(oG P Γ aO.nt ops 0 p1 {σ with log:=[]}).bind (zho P Γ aO id p1.length l)
  | none=>.no
 | none=>.no
def Za(aO:dI)(r:Nat)(σ:St):ae St :=
 match lk aO.cut r with|some k=>.opt (canon P k σ)|none=>.ok σ
def lpC(k:Keep)(step:St→ae (Exit×St)):Nat→St→ae (Exit×St)
  | 0,_=>.no
  | n+1,s=>(step s).bind λ(e,s1)=>match e with|.normal=>(ae.opt (canon P k s1)).bind (lpC k step n)|e=>.ok (e,s1)
def unC(k:Keep)(step:St→ae (Exit×St)):Nat→St→ae (Exit×St)
  | 0,_=>.no
  | n+1,σ=>(ae.opt (canon P k σ)).bind λs=>(step s).bind λ(e,s1)=>match e with|.normal=>unC k step n s1|e=>.ok (e,s1)
def rgC(k:Keep)(np:Bool)(ps:List Nat)(ah bd:St→ae (Exit×St)):List (List PA)→St→ae (Exit×St)
  | [],s=>.ok (.normal,s)
  | y::rest,s=>match pI ps y s.env with
    | some env=>(ah ⟨env,s.ay,[]⟩).bind λ(e,s1)=>match e with
      | .normal=>(bd s1).bind λ(e,s2)=>match e with
        | .normal=>(ae.opt (canon P k s2)).bind (rgC k np ps ah bd rest)
        | .ret=>(ae.opt (canon P k s2)).mp λs=>(.ret,s)
        | .exit id=>(ae.opt (canon P k s2)).mp λs=>(.exit id,s)
        | .panic ch=>match np with|true=>(ae.opt (canon P k s2)).mp λs=>(.panic ch,s)|false=>.no
        | _=>.no
      | _=>.no
    | none=>.no
def sqC(go:St→ae (Exit×St)):Exit×St→ae (Exit×St)|(.normal,s)=>go s|r=>.ok r
def bkC(id:Nat):Exit×St→Exit×St
  | (.exit i,s)=>match Nat.beq i id with|true=>(.normal,s)|false=>(.exit i,s)
  | r=>r
def scC:Exit×St→ae (Exit×St)|(.goto _,_)=>.no|r=>.ok r
variable(N:Nat)
def vcC(aO:dI):Code→St→ae (Exit×St)
  | .skip,σ=>.ok (.normal,σ)
  | .region id ops draw,σ=>match aO.pan.contains id && !draw with|false=>(zhn P Γ aO id ops draw σ).mp λs=>(.normal,s)|true=>Vz P Γ aO id ops σ
  | .seq a b,σ=>(vcC aO a σ).bind (sqC λs=>(Za P aO (jA b) s).bind (vcC aO b))
  | .cond c a b,σ=>match dW σ.env c with|.one (.c (.p (.bool t)))=>.ite t (vcC aO a (wS σ c true)) (vcC aO b (wS σ c false))|_=>.no
  | .block id b,σ=>(vcC aO b σ).mp (bkC id)
  | .loop b,σ=>match lk aO.head (jA b)with
    | some k=>(ae.opt (canon P k σ)).bind (lpC P k (vcC aO b) N)
    | none=>match lk aO.unr (jA b)with|some (n,k)=>unC P k (vcC aO b) n σ|none=>.no
  | .rangeFunc f ps assign body,σ=>match lk aO.head (Yq assign body)with
    | some k=>match canon P k σ,mY k.tmps (ps.toList++(dP assign++dP body))&&ps.toList.all (λp=>Nat.blt p aO.nt)with
      | some s,true=>match dW s.env f with|.one (.c (.p (.fn gf [] caps)))=>(Γ.it gf (caps.map .one)).bind λys=>rgC P k (mY [GG] (dP assign++dP body)) ps.toList (vcC aO assign) (vcC aO body) ys s|_=>.no
      | _,_=>.no
    | none=>.no
  | .exit id,σ=>.ok (.exit id,σ)
  | .scope b,σ=>(vcC aO b σ).bind scC
  | .label _,σ=>.ok (.normal,σ)
  | .ret,σ=>.ok (.ret,σ)
  | _,_=>.no
end
section
variable{P:Program}{Γ:bM}
theorem zbh{C:MK}{sf:kS}{args:List DV}{ob:Nat->Option AO}{p:Vx}{r:p.ρ}(h:znb C sf args ob=some p)(hr:p.c.o=some r):sF C sf args ob=p.f r:=by
 unfold znb at h;unfold sF;split at h;rename_i xs ls ms hx;cases h;obtain⟨rs,ys⟩:=r;simp only at hr ⊢;rw[hx];simp only[hr];cases EX rs<;>rfl;cases h
theorem znc{o:Oper}{e s b:Nat}{F:List PA→ae (Nat×(Nat→List PV)×List PV)}{args:List DV}{ob:Nat→Option AO}{p:Vx}{r:p.ρ}(h:zvx P o e s b F args ob=some p)(hr:p.c.o=some r) :
  jY P Γ o (.mkv e s b F) args ob=p.f r:=by
 unfold zvx at h;unfold jY;split at h;rename_i az u dst hx hd;cases h;obtain⟨n,get,rs⟩:=r;simp only at hr ⊢;rw[hx,hd];simp only[hr];cases ob dst<;>cases P.info? e<;>cases gu P e<;>rfl;cases h
theorem zhq{o:Oper}{e s b:Nat}{F:List PA→Nat→(Nat→List PV)→ae (Nat×(Nat→List PV))}{args:List DV}{ob:Nat→Option AO}{p:Vx}{r:p.ρ}(h:zhl P o e s b F args ob=some p)(hr:p.c.o=some r) :
  jY P Γ o (.grow e s b F) args ob=p.f r:=by
 unfold zhl at h;unfold jY;split at h;rename_i ds L hl;split at h;rename_i az e' s' b' n get ha hL;cases h;obtain⟨m,get'⟩:=r;simp only at hr ⊢;rw[hl];simp only[ha,hL,hr];cases h;rename_i ds hl;split at h;rename_i az dst ha hd;split at h;rename_i ie z h1 h2 h3;split at h;rename_i l h4;cases h;obtain⟨m,get'⟩:=r;simp only at hr ⊢;rw[hl];simp only[ha,hd,h1,h2,h3,h4,hr];cases h;cases h;cases h;cases h
theorem znd{o:Oper}{ev:Operand->DV}{ob:Nat->Option AO}{p:Vx}{r:p.ρ}(h:Vy P Γ o ev ob=some p)(hr:p.c.o=some r):act P Γ o ev ob=p.f r:=by
 unfold Vy at h;split at h;rename_i f args ats aU;simp only[act,aU,aCl];split at h;rename_i g caps hf;simp only[hf];split at h;rename_i C hC;simp only[hC];exact zbh h hr;cases h;rename_i g first caps hf
 simp only[hf];split at h;rename_i C hC;simp only[hC];exact zbh h hr;rename_i hC;simp only[hC];split at h;rename_i hk;simp only[hk,ET.on];split at h;rename_i az u hz;cases h;simp only at hr ⊢;rw[hz];simp only[hr];cases h;rename_i e s b F hk;simp only[hk,ET.on];split at h;exact znc h hr;cases h;rename_i e s b F hk;simp only[hk,ET.on];split at h;exact zhq h hr;cases h;cases h;rename_i g cells hf;simp only[hf];split at h;rename_i az u hz;cases h;simp only at hr ⊢;rw[hz];simp only[hr];cases h;cases h;cases h
theorem zbi{A:aA}{lg:List (Nat×Bool)->List Nat->List (Nat×Nat×Nat)}{i:Nat}{dst:Option Nat}{σ s:St}{K:St->Prop}(h:(zhm A lg i dst σ).o=some s)(hK:K s):nC A lg i dst K σ:=by
 cases A with
 | no=>exact(ae.no_o h).elim
 | val fp d u kl=>have:=ae.ok_o h;subst this;exact hK
 | chk fp c d u kl =>
  obtain⟨h1,h2⟩:=ae.chk_o h;have:=ae.ok_o h2;subst this;exact⟨c.h h1,hK⟩
theorem zbj{o:Oper}{lg:List (Nat×Bool)->List Nat->List (Nat×Nat×Nat)}{i:Nat}{σ s:St}{K:St->Prop}(h:(LJ P Γ o lg i σ).o=some s)(hK:K s):nC (act P Γ o (dW σ.env) (lk σ.ay)) lg i o.dst K σ:=by
 unfold LJ at h;split at h;rename_i p hp;obtain⟨r,h1,h2⟩:=ae.bind_o h;rw[znd hp h1];exact zbi h2 hK;exact zbi h hK
theorem pX{nt:Nat}{ops:Array Oper}{K:St→Prop}:∀(l:List Oper)(i:Nat)(σ s:St),(oG P Γ nt ops i l σ).o=some s→K s→jQ P Γ nt ops i l K σ
  | [],i,σ,s,h,hK=>by have:=ae.ok_o h;subst this;exact hK
  | o::r,i,σ,s,h,hK=>by
    have one:∀(lg:List (Nat×Bool)->List Nat->List (Nat×Nat×Nat))(τ:St),((LJ P Γ o lg i τ).bind (oG P Γ nt ops (i+1) r)).o=some s->nC (act P Γ o (dW τ.env) (lk τ.ay)) lg i o.dst (jQ P Γ nt ops (i+1) r K) τ:=by
      intro lg τ h;obtain⟨s1,h1,h2⟩:=ae.bind_o h;exact zbj h1 (pX r _ _ _ h2 hK)
    simp only[oG]at h;simp only[jQ];split at h;exact(ae.no_o h).elim;rename_i hd;simp only[hd];split at h;rename_i hg;simp only[hg];exact one _ _ h;rename_i j want hg;simp only[hg];split at h;exact(ae.no_o h).elim;rename_i g hg2;simp only[hg2];split at h;rename_i b hb;simp only[hb];refine BO (λe=>?_) λe=>?_
    · subst e;cases want with|true=>exact one _ _ h|false=>exact pX r _ _ _ h hK
    · subst e;cases want with|true=>exact pX r _ _ _ h hK|false=>exact one _ _ h
    rename_i hb;simp only[hb];exact pX r _ _ _ h hK;exact(ae.no_o h).elim
theorem zbk{aO:dI}{id:Nat}{ops:Array Oper}{draw:Bool}{σ s:St}{K:St->Prop}(h:(zhn P Γ aO id ops draw σ).o=some s)(hK:K s):OT P Γ aO id ops draw K σ:=by
 unfold zhn at h;unfold OT;cases draw with
 | false =>
  obtain⟨s1,h1,h2⟩:=ae.bind_o h;refine pX _ _ _ _ h1 ?_;split at h2;rename_i k hk;rw[hk];simp only[ae.opt_o h2];exact hK;rename_i hk;rw[hk];have:=ae.ok_o h2;subst this;exact hK
 | true =>
  simp only at h ⊢;split at h;rename_i hc;rw[hc];obtain⟨s1,h1,h2⟩:=ae.bind_o h;refine pX _ _ _ _ h1 ?_;split at h2;rename_i hl;rw[hl];split at h2;rename_i k hk;rw[hk];simp only[ae.opt_o h2];exact hK;exact(ae.no_o h2).elim;exact(ae.no_o h2).elim;exact(ae.no_o h).elim
theorem VA{aO:dI}{id:Nat}{σ s:St}{K:St->Prop}(h:(Dh P aO id σ).o=some s)(hK:K s):zcX P aO id K σ:=by
 unfold Dh at h;unfold zcX;split at h;rename_i k hk;rw[hk];simp only[ae.opt_o h];exact hK;rename_i hk;rw[hk];cases ae.ok_o h;exact hK
theorem zhr{aO:dI}{id:Nat}{ops:Array Oper}{σ s:St}{e:Exit}{K:Exit->St->Prop}(h:(Vz P Γ aO id ops σ).o=some (e,s))(hK:K e s):JS P Γ aO id ops K σ:=by
 unfold Vz at h;unfold JS;split at h
 rotate_left
 exact(ae.no_o h).elim;rename_i p1 l h1;rw[h1];simp only;split at h
 rotate_left
 exact(ae.no_o h).elim;rename_i pre m h2;rw[h2];simp only;split at h;rename_i ty x y h3;rw[h3];simp only;obtain⟨s1,a1,a2⟩:=ae.bind_o h;refine pX _ _ _ _ a1 ?_;unfold zhp at a2;unfold zuV;split at a2;rename_i k n hx;rw[hx];cases ae.ok_o a2;exact hK;exact(ae.no_o a2).elim
 ·rename_i h3;rw[h3];simp only;obtain⟨s1,a1,a2⟩:=ae.bind_o h;refine pX _ _ _ _ a1 ?_;unfold zho at a2;unfold Yo;split at a2
  rotate_left
  exact(ae.no_o a2).elim;rename_i g1 g2;rw[g1,g2];simp only;split at a2
  rotate_left
  exact(ae.no_o a2).elim;rename_i C xs ds ls ms hm;rw[hm];simp only;obtain⟨⟨rs,ys⟩,b1,b2⟩:=ae.bind_o a2;rw[b1];simp only at b2 ⊢;split at b2;rename_i hp;rw[hp];simp only;split at b2;rename_i s2 hu;rw[hu];simp only;obtain⟨s3,c1,c2⟩:=ae.mp_o b2;cases c2;exact VA c1 hK;exact(ae.no_o b2).elim;rename_i ch hp;rw[hp];simp only;split at b2;rename_i s2 hu;rw[hu];simp only;cases ae.ok_o b2;exact hK;exact(ae.no_o b2).elim
theorem zne{aO:dI}{r:Nat}{σ s:St}{K:St->Prop}(h:(Za P aO r σ).o=some s)(hK:K s):zmq P aO r K σ:=by
 unfold Za at h;unfold zmq;split at h;rename_i k hk;rw[hk];simp only[ae.opt_o h];exact hK;rename_i hk;rw[hk];have:=ae.ok_o h;subst this;exact hK
theorem Rt{N:Nat}{aO:dI}:∀(c:Code)(σ s:St)(e:Exit)(K:Exit->St->Prop),(vcC P Γ N aO c σ).o=some (e,s)->K e s->vc P Γ aO c K σ:=by
 intro c
 induction c with
 | skip=>intro σ s e K h hK;cases ae.ok_o h;exact hK
 | region id ops draw =>
  intro σ s e K h hK;simp only[vcC]at h;simp only[vc];split at h;rename_i hp;rw[hp];obtain⟨s1,h1,h2⟩:=ae.mp_o h;cases h2;exact zbk h1 hK;rename_i hp;rw[hp];exact zhr h hK
 | seq a b iha TW =>
  intro σ s e K h hK;obtain⟨⟨e1,s1⟩,h1,h2⟩:=ae.bind_o h;refine iha σ s1 e1 _ h1 ?_;cases e1 with
  | normal =>
   obtain⟨s2,h3,h4⟩:=ae.bind_o h2;exact zne h3 (TW _ _ _ _ h4 hK)
  | _=>cases ae.ok_o h2;exact hK
 | cond c a b iha TW =>
  intro σ s e K h hK;simp only[vcC]at h;simp only[vc];split at h;rename_i t ht;simp only[ht];refine BO (λe1=>?_) λe1=>?_;subst e1;exact iha _ _ _ _ h hK;subst e1;exact TW _ _ _ _ h hK;exact(ae.no_o h).elim
 | block id b ih =>
  intro σ s e K h hK;obtain⟨⟨e1,s1⟩,h1,h2⟩:=ae.mp_o h;refine ih σ s1 e1 _ h1 ?_;cases e1 with
  | exit j =>
   simp only[bkC]at h2;simp only[Yp];split at h2;rename_i hj;rw[hj];cases h2;exact hK;rename_i hj;rw[hj];cases h2;exact hK
  | _=>cases h2;exact hK
 | loop b ih =>
  intro σ s e K h hK;simp only[vcC]at h;simp only[vc];split at h;rename_i k hk;obtain⟨s1,h1,h2⟩:=ae.bind_o h;simp only[hk,ae.opt_o h1];intro X hX;have key:∀(n:Nat)(s1:St),(lpC P k (vcC P Γ N aO b) n s1).o=some (e,s)->X s1:=by
   intro n
   induction n with
   | zero=>intro s1 h;exact(ae.no_o h).elim
   | succ n ihn =>
    intro s1 h;obtain⟨⟨e1,s2⟩,h1,h2⟩:=ae.bind_o h;refine hX s1 (ih _ _ _ _ h1 ?_);cases e1 with
    | normal =>
     obtain⟨s3,h3,h4⟩:=ae.bind_o h2;simp only[zf6,hk,ae.opt_o h3];exact ihn s3 h4
    | _=>cases ae.ok_o h2;exact hK
  exact key N s1 h2;rename_i hk;split at h;rename_i n k hn;simp only[hk,hn];have key:∀(n:Nat)(σ:St),(unC P k (vcC P Γ N aO b) n σ).o=some (e,s)->zc1 P k (vc P Γ aO b) n K σ:=by
   intro n
   induction n with
   | zero=>intro s1 h;exact(ae.no_o h).elim
   | succ n ihn =>
    intro s1 h;obtain⟨s0,h0,h⟩:=ae.bind_o h;obtain⟨⟨e1,s2⟩,h1,h2⟩:=ae.bind_o h;simp only[zc1,ae.opt_o h0];refine ih _ _ _ _ h1 ?_;cases e1 with|normal=>exact ihn _ h2|_=>cases ae.ok_o h2;exact hK
  exact key n σ h;exact(ae.no_o h).elim
 | rangeFunc f ps ah bd iha TW =>
  intro σ s e K h hK;simp only[vcC]at h;simp only[vc];split at h;rename_i k hk;split at h;rename_i s1 hs hd;simp only[hk,hs,hd];split at h;rename_i gf caps hf;obtain⟨ys,h1,h2⟩:=ae.bind_o h;simp only[hf,h1];intro X hX0 hX1;have key:∀(ys:List (List PA))(s1:St),(rgC P k (mY [GG] (dP ah++dP bd)) ps.toList (vcC P Γ N aO ah) (vcC P Γ N aO bd) ys s1).o=some (e,s)->X ys s1:=by
   intro ys
   induction ys with
   | nil=>intro s1 h;cases ae.ok_o h;exact hX0 _ hK
   | cons y rest ihr =>
    intro s1 h;simp only[rgC]at h;refine hX1 y rest s1 ?_;split at h
    ·rename_i env zrP;simp only[zrP];obtain⟨⟨e1,s2⟩,h1,h2⟩:=ae.bind_o h;refine iha _ _ _ _ h1 ?_;cases e1 with
     | normal =>
      obtain⟨⟨e2,s3⟩,h3,h4⟩:=ae.bind_o h2;refine TW _ _ _ _ h3 ?_;cases e2 with
      | normal =>
       obtain⟨s4,h5,h6⟩:=ae.bind_o h4;simp only[sG,ae.opt_o h5];exact ihr _ h6
      | ret =>
       obtain⟨s4,h5,h6⟩:=ae.mp_o h4;cases h6;simp only[sG,ae.opt_o h5];exact hK
      | exit id =>
       obtain⟨s4,h5,h6⟩:=ae.mp_o h4;cases h6;simp only[sG,ae.opt_o h5];exact hK
      | panic ch =>
       simp only at h4;split at h4;rename_i hnp;obtain⟨s4,h5,h6⟩:=ae.mp_o h4;cases h6;simp only[sG,ae.opt_o h5,hnp];exact hK;exact(ae.no_o h4).elim
      | _=>exact(ae.no_o h4).elim
     | _=>exact(ae.no_o h2).elim
    exact(ae.no_o h).elim
  exact key ys s1 h2;exact(ae.no_o h).elim;exact(ae.no_o h).elim;exact(ae.no_o h).elim
 | exit id=>intro σ s e K h hK;cases ae.ok_o h;exact hK
 | scope b ih =>
  intro σ s e K h hK;obtain⟨⟨e1,s1⟩,h1,h2⟩:=ae.bind_o h;refine ih σ s1 e1 _ h1 ?_;cases e1 with|goto l=>exact(ae.no_o h2).elim|_=>cases ae.ok_o h2;exact hK
 | label l=>intro σ s e K h hK;cases ae.ok_o h;exact hK
 | ret=>intro σ s e K h hK;cases ae.ok_o h;exact hK
 | goto l=>intro σ s e K h hK;exact(ae.no_o h).elim
 | refuse s=>intro σ s e K h hK;exact(ae.no_o h).elim
end
end Go.Pm
namespace Go.Pm
section
variable(P:Program)(Γ:bM){A:Type}
def aV(b:Bool)(x:Option A):Option A:=match b with|true=>x|false=>none
def zbl(a:aA)(lg:List (Nat×Bool)->List Nat->List (Nat×Nat×Nat))(i:Nat)(dst:Option Nat)(K:St->Option A)(σ:St):Option A :=
 match a with|.no=>none|.val fp d u kl=>K ((σ.upd i dst fp d u kl).relog (lg fp kl))|.chk fp s d u kl=>aV s.b (K ((σ.upd i dst fp d u kl).relog (lg fp kl)))
def Zb(o:Oper)(lg:List (Nat×Bool)->List Nat->List (Nat×Nat×Nat))(i:Nat)(K:St->Option A)(σ:St):Option A :=
 match Vy P Γ o (dW σ.env) (lk σ.ay)with|some p=>p.c.T λr=>zbl (p.f r) lg i o.dst K σ|none=>zbl (act P Γ o (dW σ.env) (lk σ.ay)) lg i o.dst K σ
def opsT(nt:Nat)(ops:Array Oper)(K:St→Option A):Nat→List Oper→St→Option A
  | _,[],σ=>K σ
  | i,o::r,σ =>
    match dA nt o.dst with
    | false=>none
    | true =>
    match o.guard with
    | none=>Zb P Γ o (l9 σ i o) i (opsT nt ops K (i+1) r) σ
    | some (j,want) =>
      match(ops[j]?).bind (·.dst)with
      | none=>none
      | some g =>
        match lk σ.env g with
        | some (.one (.c (.p (.bool b)))) =>
          cond b
            (match want with|true=>Zb P Γ o (l9 (σ.setT g (.bool true)) i o) i (opsT nt ops K (i+1) r) (σ.setT g (.bool true))|false=>opsT nt ops K (i+1) r ((σ.setT g (.bool true)).skip o.dst))
            (match want with|true=>opsT nt ops K (i+1) r ((σ.setT g (.bool false)).skip o.dst)|false=>Zb P Γ o (l9 (σ.setT g (.bool false)) i o) i (opsT nt ops K (i+1) r) (σ.setT g (.bool false)))
        | some (.one (.c .undef))=>opsT nt ops K (i+1) r (σ.skip o.dst)
        | _=>none
def Di(k:Keep)(K:St->Option A)(σ:St):Option A:=match canon P k σ with|some s=>K s|none=>none
def VB(aO:dI)(id:Nat)(ops:Array Oper)(draw:Bool)(K:St->Option A)(σ:St):Option A:=match draw with
 | false=>match lk aO.reg id with|some k=>Di P k K σ|none=>K σ
 | true=>match tZ (masks ops.toList []) σ.log with
  | true=>match lk aO.reg id with|some k=>Di P k K σ|none=>none
  | false=>none
def znf(aO:dI)(id:Nat)(ops:Array Oper)(draw:Bool)(K:St->Option A)(σ:St):Option A :=
 match draw with
 | false=>opsT P Γ aO.nt ops (VB P aO id ops false K) 0 ops.toList {σ with log:=[]}
 | true=>match P.follows .mixedOrders&&JR ops&&Aq ops (masks ops.toList [])with
  | true=>opsT P Γ aO.nt ops (VB P aO id ops true K) 0 ops.toList {σ with log:=[]}
  | false=>none
def lastT(aO:dI)(id i:Nat)(o:Oper)(K:Exit->St->Option A)(σ:St):Option A :=
 match o.guard,dA aO.nt o.dst with
 | none,true=>match zcZ Γ o σ with
  | some (C,xs,ds,ls,ms)=>(C xs).T λr=>match EX r.1 with
   | none=>match N9 i o.dst σ (pG ds (lk σ.ay) ls ms r.1 r.2)with|some s=>VB P aO id #[] false (K .normal) s|none=>none
   | some ch=>match N9 i none σ (pG ds (lk σ.ay) ls ms r.1 r.2)with|some s=>K (.panic ch) s|none=>none
  | none=>none
 | _,_=>none
def zst(ty:TypeId)(x y:Nat)(K:Exit->St->Option A)(σ:St):Option A:=match lk σ.env x with|some (.one (.agg [.p (.int k n)]))=>K (.panic (zmj ty k n)) ⟨(y,.junk)::σ.env,σ.ay,[]⟩|_=>none
def zht(aO:dI)(id:Nat)(ops:Array Oper)(K:Exit->St->Option A)(σ:St):Option A :=
 match oV ops.toList with
 | some (p1,l)=>match oV p1 with
  | some (pre,m)=>match zcY P aO.nt m l with
   | some (ty,x,y)=>opsT P Γ aO.nt ops (zst ty x y K) 0 pre {σ with log:=[]}
   | none=>opsT P Γ aO.nt ops (lastT P Γ aO id p1.length l K) 0 p1 {σ with log:=[]}
  | none=>none
 | none=>none
def zdI(aO:dI)(r:Nat)(K:St->Option A)(σ:St):Option A:=match lk aO.cut r with|some k=>Di P k K σ|none=>K σ
abbrev EK(A:Type):=Exit->St->Option A
def bkT(id:Nat)(K:EK A):EK A:=λe s=>match e with
 | .exit i=>match Nat.beq i id with|true=>K .normal s|false=>K (.exit i) s
 | e=>K e s
def scT(K:EK A):EK A:=λe s=>match e with|.goto _=>none|e=>K e s
def lpK(k:Keep)(go:St->Option A)(K:EK A):EK A:=λe s=>match e with|.normal=>Di P k go s|e=>K e s
def lpT(k:Keep)(step:EK A→St→Option A)(K:EK A):Nat→St→Option A|0,_=>none|n+1,s=>step (lpK P k (lpT k step K n) K) s
def unT(k:Keep)(step:EK A→St→Option A)(K:EK A):Nat→St→Option A
  | 0,_=>none
  | n+1,σ=>Di P k (step λe s=>match e with|.normal=>unT k step K n s|e=>K e s) σ
def rgK(k:Keep)(np:Bool)(go:St->Option A)(K:EK A):EK A:=λe s=>match e with
 | .normal=>Di P k go s
 | .ret=>Di P k (K .ret) s
 | .exit id=>Di P k (K (.exit id)) s
 | .panic ch=>match np with|true=>Di P k (K (.panic ch)) s|false=>none
 | _=>none
def asK(bd:EK A->St->Option A)(K:EK A):EK A:=λe s=>match e with|.normal=>bd K s|_=>none
def rgT(k:Keep)(np:Bool)(ps:List Nat)(ah bd:EK A→St→Option A)(K:EK A):List (List PA)→St→Option A
  | [],s=>K .normal s
  | y::rest,s=>match pI ps y s.env with|some env=>ah (asK bd (rgK P k np (rgT k np ps ah bd K rest) K)) ⟨env,s.ay,[]⟩|none=>none
def sqT(aO:dI)(id:Nat)(go:EK A->St->Option A)(K:EK A):EK A:=λe s=>match e with|.normal=>zdI P aO id (go K) s|e=>K e s
variable(N:Nat)
def xw(aO:dI):Code→EK A→St→Option A
  | .skip,K,σ=>K .normal σ
  | .region id ops draw,K,σ=>match aO.pan.contains id && !draw with|false=>znf P Γ aO id ops draw (K .normal) σ|true=>zht P Γ aO id ops K σ
  | .seq a b,K,σ=>xw aO a (sqT P aO (jA b) (xw aO b) K) σ
  | .cond c a b,K,σ=>match dW σ.env c with|.one (.c (.p (.bool t)))=>cond t (xw aO a K (wS σ c true)) (xw aO b K (wS σ c false))|_=>none
  | .block id b,K,σ=>xw aO b (bkT id K) σ
  | .loop b,K,σ=>match lk aO.head (jA b)with
    | some k=>Di P k (lpT P k (xw aO b) K N) σ
    | none=>match lk aO.unr (jA b)with|some (n,k)=>unT P k (xw aO b) K n σ|none=>none
  | .rangeFunc f ps assign body,K,σ=>match lk aO.head (Yq assign body)with
    | some k=>match canon P k σ,mY k.tmps (ps.toList++(dP assign++dP body))&&ps.toList.all (λp=>Nat.blt p aO.nt)with
      | some s,true=>match dW s.env f with|.one (.c (.p (.fn gf [] caps)))=>(Γ.it gf (caps.map .one)).T λys=>rgT P k (mY [GG] (dP assign++dP body)) ps.toList (xw aO assign) (xw aO body) K ys s|_=>none
      | _,_=>none
    | none=>none
  | .exit id,K,σ=>K (.exit id) σ
  | .scope b,K,σ=>xw aO b (scT K) σ
  | .label _,K,σ=>K .normal σ
  | .ret,K,σ=>K .ret σ
  | _,_,_=>none
end
section
variable{P:Program}{Γ:bM}{A:Type}{N:Nat}
theorem zbm{o:Oper}{lg:List (Nat×Bool)->List Nat->List (Nat×Nat×Nat)}{i:Nat}{K:St->Option A}{σ:St}:Zb P Γ o lg i K σ=(LJ P Γ o lg i σ).T K:=by
 have key:∀a:aA,zbl a lg i o.dst K σ=(zhm a lg i o.dst σ).T K:=by
  intro a;cases a with|no=>rfl|val=>rfl|chk fp s d u kl=>unfold zbl zhm aV;cases hs:s.b<;>simp only[hs,ae.chk,ae.ok]
 unfold Zb LJ;cases Vy P Γ o (dW σ.env) (lk σ.ay)with
 | none=>exact key _
 | some p =>
  show p.c.T _=p.c.T _;congr 1;funext r;exact key _
theorem vU{nt:Nat}{ops:Array Oper}{K:St→Option A}:∀(l:List Oper)(i:Nat)(σ:St),opsT P Γ nt ops K i l σ=(oG P Γ nt ops i l σ).T K
  | [],_,_=>rfl
  | o::r,i,σ=>by
    have one:∀(lg:List (Nat×Bool)->List Nat->List (Nat×Nat×Nat))(τ:St),Zb P Γ o lg i (opsT P Γ nt ops K (i+1) r) τ=((LJ P Γ o lg i τ).bind (oG P Γ nt ops (i+1) r)).T K:=λlg τ=>by
      rw[zbm];show(LJ P Γ o lg i τ).T _=(LJ P Γ o lg i τ).T _;congr 1;funext s;exact vU r _ s
    have rest:∀σ:St,opsT P Γ nt ops K (i+1) r σ=(oG P Γ nt ops (i+1) r σ).T K:=λσ=>vU r _ σ;simp only[opsT,oG];cases dA nt o.dst with
    | false=>rfl
    | true =>
      simp only;cases o.guard with
      | none=>exact one _ _
      | some x =>
        obtain⟨j,want⟩:=x;simp only;cases(ops[j]?).bind (·.dst)with
        | none=>rfl
        | some g =>
          simp only;cases lk σ.env g with
          | none=>rfl
          | some d=>cases d with
            | tup _=>rfl
            | one d=>cases d with
              | agg _=>rfl
              | c x=>cases x with
                | undef=>exact rest _
                | p v=>cases v with
                  | bool b=>cases b<;>cases want<;>first|exact one _ _|exact rest _
                  | _=>rfl
                | _=>rfl
theorem mM{k:Keep}{K:St->Option A}{σ:St}:Di P k K σ=(ae.opt (canon P k σ)).T K:=by
 unfold Di;cases canon P k σ<;>rfl
theorem zbn{aO:dI}{id:Nat}{ops:Array Oper}{draw:Bool}{K:St->Option A}{σ:St}:znf P Γ aO id ops draw K σ=(zhn P Γ aO id ops draw σ).T K:=by
 cases draw with
 | false =>
  show opsT P Γ aO.nt ops _ 0 ops.toList _=(oG P Γ aO.nt ops 0 ops.toList _).T _;rw[vU];congr 1;funext s;simp only[VB];cases lk aO.reg id with|none=>rfl|some k=>exact mM
 | true =>
  simp only[znf,zhn];cases P.follows .mixedOrders&&JR ops&&Aq ops (masks ops.toList [])with
  | false=>rfl
  | true =>
   simp only;rw[vU];show _=(oG P Γ aO.nt ops 0 ops.toList _).T _;congr 1;funext s;show _=((match tZ (masks ops.toList []) s.log with|true=>(match lk aO.reg id with|some k=>ae.opt (canon P k s)|none=>.no)|false=>.no):ae St).T K;simp only[VB];cases tZ (masks ops.toList []) s.log with
   | false=>rfl
   | true =>
    cases lk aO.reg id with|none=>rfl|some k=>exact mM
theorem zhu{aO:dI}{id:Nat}{ops:Array Oper}{K:Exit->St->Option A}{σ:St}:zht P Γ aO id ops K σ=(Vz P Γ aO id ops σ).T λr=>K r.1 r.2:=by
 unfold zht Vz;cases oV ops.toList with
 | none=>rfl
 | some x =>
  obtain⟨p1,l⟩:=x;simp only;cases oV p1 with
  | none=>rfl
  | some x =>
   obtain⟨pre,m⟩:=x;simp only;cases zcY P aO.nt m l with
   | some x =>
    obtain⟨ty,x,y⟩:=x;simp only;rw[vU];show(oG P Γ aO.nt ops 0 pre _).T _=(oG P Γ aO.nt ops 0 pre _).T _;congr 1;funext s;unfold zst zhp;cases lk s.env x with
    | none=>rfl
    | some d=>cases d with
     | tup _=>rfl
     | one d=>cases d with
      | c _=>rfl
      | agg l=>match l with
       | []=>rfl
       | [y]=>cases y with|p v=>cases v<;>rfl|_=>rfl
       | y::_::_=>cases y with|p v=>cases v<;>rfl|_=>rfl
   | none =>
    simp only;rw[vU];show(oG P Γ aO.nt ops 0 p1 _).T _=(oG P Γ aO.nt ops 0 p1 _).T _;congr 1;funext s;unfold lastT zho;cases l.guard with
    | some x=>rfl
    | none =>
    cases dA aO.nt l.dst with
    | false=>rfl
    | true =>
    simp only;cases zcZ Γ l s with
    | none=>rfl
    | some x =>
     obtain⟨C,xs,ds,ls,ms⟩:=x;show(C xs).T _=(C xs).T _;congr 1;funext r;simp only;cases EX r.1 with
     | none =>
      simp only;cases N9 p1.length l.dst s (pG ds (lk s.ay) ls ms r.1 r.2)with
      | none=>rfl
      | some s2 =>
       show VB P aO id #[] false (K .normal) s2=(Dh P aO id s2).T λs=>K .normal s;simp only[VB,Dh];cases lk aO.reg id with|none=>rfl|some k=>exact mM
     | some ch =>
      simp only;cases N9 p1.length none s (pG ds (lk s.ay) ls ms r.1 r.2)<;>rfl
theorem zbo{aO:dI}{r:Nat}{K:St->Option A}{σ:St}:zdI P aO r K σ=(Za P aO r σ).T K:=by
 unfold zdI Za;cases lk aO.cut r with|none=>rfl|some k=>exact mM
theorem LK{aO:dI}:∀(c:Code)(K:EK A)(σ:St),xw P Γ N aO c K σ=(vcC P Γ N aO c σ).T λr=>K r.1 r.2:=by
 intro c
 induction c with
 | skip=>intro K σ;rfl
 | region id ops draw =>
  intro K σ;simp only[xw,vcC];cases aO.pan.contains id && !draw with|false=>exact zbn|true=>exact zhu
 | seq a b iha TW =>
  intro K σ;rw[xw,iha];show(vcC P Γ N aO a σ).T _=(vcC P Γ N aO a σ).T _;congr 1;funext r;obtain⟨e,s⟩:=r;cases e with
  | normal =>
   show zdI P aO (jA b) (xw P Γ N aO b K) s=(Za P aO (jA b) s).T _;rw[zbo];congr 1;funext s;exact TW _ _
  | _=>rfl
 | cond c a b iha TW =>
  intro K σ;simp only[xw,vcC];cases dW σ.env c with
  | tup _=>rfl
  | one d=>cases d with
   | agg _=>rfl
   | c x=>cases x with
    | p v=>cases v with
     | bool t=>cases t with|true=>exact iha _ _|false=>exact TW _ _
     | _=>rfl
    | _=>rfl
 | block id b ih =>
  intro K σ;rw[xw,ih];show(vcC P Γ N aO b σ).T _=(vcC P Γ N aO b σ).T _;congr 1;funext r;obtain⟨e,s⟩:=r;cases e with|exit j=>simp only[bkT,bkC];cases Nat.beq j id<;>rfl|_=>rfl
 | loop b ih =>
  intro K σ;simp only[xw,vcC];cases lk aO.head (jA b)with
  | some k =>
   simp only;rw[mM];show(ae.opt (canon P k σ)).T _=(ae.opt (canon P k σ)).T _;congr 1;funext s;have key:∀(n:Nat)(s:St),lpT P k (xw P Γ N aO b) K n s=(lpC P k (vcC P Γ N aO b) n s).T λr=>K r.1 r.2:=by
    intro n
    induction n with
    | zero=>intro s;rfl
    | succ n ihn =>
     intro s;rw[lpT,ih];show(vcC P Γ N aO b s).T _=(vcC P Γ N aO b s).T _;congr 1;funext r;obtain⟨e,s1⟩:=r;cases e with
     | normal =>
      show Di P k _ s1=(ae.opt (canon P k s1)).T _;rw[mM];congr 1;funext s;exact ihn s
     | _=>rfl
   exact key N s
  | none =>
   simp only;cases lk aO.unr (jA b)with
   | none=>rfl
   | some x =>
    obtain⟨n,k⟩:=x;simp only;have key:∀(n:Nat)(s:St),unT P k (xw P Γ N aO b) K n s=(unC P k (vcC P Γ N aO b) n s).T λr=>K r.1 r.2:=by
     intro n
     induction n with
     | zero=>intro s;rfl
     | succ n ihn =>
      intro s;rw[unT,mM];show(ae.opt (canon P k s)).T _=(ae.opt (canon P k s)).T _;congr 1;funext s;rw[ih];show(vcC P Γ N aO b s).T _=(vcC P Γ N aO b s).T _;congr 1;funext r;obtain⟨e,s1⟩:=r;cases e with|normal=>exact ihn s1|_=>rfl
    exact key n σ
 | rangeFunc f ps ah bd iha TW =>
  intro K σ;simp only[xw,vcC];cases lk aO.head (Yq ah bd)with
  | none=>rfl
  | some k =>
   simp only;have key:∀(ys:List (List PA))(s:St),rgT P k (mY [GG] (dP ah++dP bd)) ps.toList (xw P Γ N aO ah) (xw P Γ N aO bd) K ys s=(rgC P k (mY [GG] (dP ah++dP bd)) ps.toList (vcC P Γ N aO ah) (vcC P Γ N aO bd) ys s).T λr=>K r.1 r.2:=by
    intro ys
    induction ys with
    | nil=>intro s;rfl
    | cons y rest ihr =>
     intro s;simp only[rgT,rgC];cases pI ps.toList y s.env with
     | none=>rfl
     | some env =>
      simp only;rw[iha];show(vcC P Γ N aO ah _).T _=(vcC P Γ N aO ah _).T _;congr 1;funext r;obtain⟨e,s1⟩:=r;cases e with
      | normal =>
       show xw P Γ N aO bd _ s1=(vcC P Γ N aO bd s1).T _;rw[TW];congr 1;funext r;obtain⟨e,s2⟩:=r;cases e with
       | normal =>
        show Di P k _ s2=(ae.opt (canon P k s2)).T _;rw[mM];congr 1;funext s;exact ihr s
       | ret=>exact mM
       | exit id=>exact mM
       | panic ch =>
        simp only[rgK];cases mY [GG] (dP ah++dP bd)with|true=>exact mM|false=>rfl
       | _=>rfl
      | _=>rfl
   cases canon P k σ with
   | none=>rfl
   | some s =>
    cases mY k.tmps (ps.toList++(dP ah++dP bd))&&ps.toList.all (λp=>Nat.blt p aO.nt)with
    | false=>rfl
    | true =>
     simp only;cases dW s.env f with
     | tup _=>rfl
     | one d=>cases d with
      | agg _=>rfl
      | c x=>cases x with
       | p v=>cases v with
        | fn gf first caps=>cases first with
         | cons _ _=>rfl
         | nil =>
          show(Γ.it gf (caps.map .one)).T _=(Γ.it gf (caps.map .one)).T _;congr 1;funext ys;exact key ys s
        | _=>rfl
       | _=>rfl
 | exit id=>intro K σ;rfl
 | scope b ih =>
  intro K σ;rw[xw,ih];show(vcC P Γ N aO b σ).T _=(vcC P Γ N aO b σ).T _;congr 1;funext r;obtain⟨e,s⟩:=r;cases e<;>rfl
 | label l=>intro K σ;rfl
 | ret=>intro K σ;rfl
 | goto l=>intro K σ;rfl
 | refuse s=>intro K σ;rfl
end
end Go.Pm
namespace Go.Pm
abbrev YO:=Option (List (List PA))
section
variable(P:Program)(Γ:bM)
def yT(y:List PA)(a b:YO):YO:=match a with
 | some _=>match b with|some r=>some (y::r)|none=>none
 | none=>none
def LM(nt:Nat)(o:Oper)(next:Bool->St->YO)(q:Bool)(σ:St):YO :=
 match zmr σ o with
 | some (args,t)=>match qF (args.toList.map (dW σ.env)),Nat.blt t nt,q with
  | some y,true,false=>yT y (next true ((yQ σ).setT t (.bool false))) (next false ((yQ σ).setT t (.bool true)))
  | _,_,_=>none
 | none=>match dA nt o.dst with
  | true=>Zb P Γ o (λ_ _=>[]) 0 (next q) σ
  | false=>none
def zY(nt:Nat)(ops:Array Oper):List Oper→(Bool→St→YO)→Bool→St→YO
  | [],K,q,σ=>K q σ
  | o::r,K,q,σ=>match o.guard with
    | none=>LM P Γ nt o (zY nt ops r K) q σ
    | some (j,want)=>match dA nt o.dst,(ops[j]?).bind (·.dst)with
      | true,some g=>match lk σ.env g with
        | some (.one (.c (.p (.bool b)))) => cond b
            (match want with|true=>LM P Γ nt o (zY nt ops r K) q (σ.setT g (.bool true))|false=>zY nt ops r K q ((σ.setT g (.bool true)).skip o.dst))
            (match want with|true=>zY nt ops r K q ((σ.setT g (.bool false)).skip o.dst)|false=>LM P Γ nt o (zY nt ops r K) q (σ.setT g (.bool false)))
        | some (.one (.c .undef))=>zY nt ops r K q (σ.skip o.dst)
        | _=>none
      | _,_=>none
abbrev TV:=Exit->Bool->St->YO
def zdJ(k:Keep)(K:St->YO)(σ:St):YO:=match canon P k σ with|some s=>K s|none=>none
def lkY(k:Keep)(go:Bool->St->YO)(K:TV):TV:=λe q s=>match e with|.normal=>zdJ P k (go q) s|e=>K e q s
def skY(aO:dI)(id:Nat)(go:TV->Bool->St->YO)(K:TV):TV:=λe q s=>match e with|.normal=>zdI P aO id (go K q) s|e=>K e q s
def bkY(id:Nat)(K:TV):TV:=λe q s=>match e with
 | .exit i=>match Nat.beq i id with|true=>K .normal q s|false=>K (.exit i) q s
 | e=>K e q s
def zCX(K:TV):TV:=λe q s=>match e with|.goto _=>none|e=>K e q s
def zhv(k:Keep)(step:TV→Bool→St→YO)(K:TV):Nat→Bool→St→YO|0,_,_=>none|n+1,q,s=>step (lkY P k (zhv k step K n) K) q s
def zvy(k:Keep)(step:TV→Bool→St→YO)(K:TV):Nat→Bool→St→YO
  | 0,_,_=>none
  | n+1,q,σ=>zdJ P k (step (λe q s1=>match e with|.normal=>zvy k step K n q s1|e=>K e q s1) q) σ
variable(N:Nat)
def uz(aO:dI):Code→TV→Bool→St→YO
  | .skip,K,q,σ=>K .normal q σ
  | .region id ops draw,K,q,σ=>match(Ir ops.toList).contains 0,aO.yl.contains id,draw with
    | true,_,_=>none
    | false,true,false=>zY P Γ aO.nt ops ops.toList (λq' σ'=>match lk aO.reg id with
      | some k=>zdJ P k (K .normal q') σ'
      | none=>K .normal q' {σ' with log:=[]}) q {σ with log:=[]}
    | false,true,true=>none
    | false,false,_=>znf P Γ aO id ops draw (K .normal q) σ
  | .seq a b,K,q,σ=>uz aO a (skY P aO (jA b) (uz aO b) K) q σ
  | .cond c a b,K,q,σ=>match dW σ.env c with|.one (.c (.p (.bool t)))=>cond t (uz aO a K q (wS σ c true)) (uz aO b K q (wS σ c false))|_=>none
  | .block id b,K,q,σ=>uz aO b (bkY id K) q σ
  | .loop b,K,q,σ=>match lk aO.head (jA b)with
    | some k=>zdJ P k (zhv P k (uz aO b) K N q) σ
    | none=>match lk aO.unr (jA b)with|some (n,k)=>zvy P k (uz aO b) K n q σ|none=>none
  | .exit id,K,q,σ=>K (.exit id) q σ
  | .scope b,K,q,σ=>uz aO b (zCX K) q σ
  | .label _,K,q,σ=>K .normal q σ
  | .ret,K,q,σ=>K .ret q σ
  | _,_,_,_=>none
def zsu:TV:=λe _ _=>match e with|.normal=>some []|.ret=>some []|_=>none
def aI(aO:dI)(f:FuncId)(caps:List PA):YO :=
 match P.funcs[f]? with
 | some fn=>match fn.body with
  | some c=>match Nat.beq aO.nt fn.ntmps&&Nat.ble (caps.length+1) aO.nt&&fn.results.isEmpty with|true=>uz P Γ N aO c zsu false ⟨(0,.cl (.vec Un))::jK 1 caps,[(Un,.gone)],[]⟩|false=>none
  | none=>none
 | none=>none
end
section
variable [aG]{P:Program}{Γ:bM}{N:Nat}
theorem ae.T_some{ρ A:Type}{c:ae ρ}{k:ρ->Option A}{x:A}(h:c.T k=some x):∃r,c.o=some r/\k r=some x:=by
 rw[c.nat]at h;cases e:c.T some with|none=>rw[e]at h;cases h|some r=>rw[e]at h;exact⟨r,e,h⟩
def Ru(K:Bool->St->YO)(K':List (List PA)->Bool->St->Prop):Prop:=∀q s r ys,K q s=some r->(q=false->ys=r)->K' ys q s
theorem FU{nt:Nat}{o:Oper}{next:Bool->St->YO}{next':List (List PA)->Bool->St->Prop}(hn:Ru next next'):Ru (LM P Γ nt o next) (vJ P Γ nt o next'):=by
 intro q σ r ys h hq;unfold LM at h;unfold vJ;split at h;rename_i args t hy;rw[hy];simp only;split at h;rename_i y h1 h2;unfold yT at h;split at h;rename_i r1 hf;split at h;rename_i r2 ht;cases h;rw[h1,h2];exact⟨r2,hq rfl,hn _ _ _ _ ht λ_=>rfl,hn _ _ _ _ hf λe=>by cases e⟩;cases h;cases h;cases h;rename_i hy;rw[hy];simp only;split at h;rename_i hd;rw[hd];rw[zbm]at h;obtain⟨s,h1,h2⟩:=ae.T_some h;exact zbj h1 (hn _ _ _ _ h2 hq);cases h
theorem VC{nt:Nat}{ops:Array Oper}{K:Bool→St→YO}{K':List (List PA)→Bool→St→Prop}(hK:Ru K K'):∀l:List Oper,Ru (zY P Γ nt ops l K) (lC P Γ nt ops l K')
  | []=>hK
  | o::l=>by
    intro q σ r ys h hq;have ih:Ru (zY P Γ nt ops l K) (lC P Γ nt ops l K'):=VC hK l;simp only[zY]at h;simp only[lC];split at h;rename_i hg;simp only[hg];exact FU ih _ _ _ _ h hq;rename_i j want hg;simp only[hg];split at h;rename_i g hd hj;simp only[hd,hj];split at h;rename_i b hb;simp only[hb];refine BO (λe=>?_) λe=>?_
    · subst e;cases want with|true=>exact FU ih _ _ _ _ h hq|false=>exact ih _ _ _ _ h hq
    · subst e;cases want with|true=>exact ih _ _ _ _ h hq|false=>exact FU ih _ _ _ _ h hq
    rename_i hb;simp only[hb];exact ih _ _ _ _ h hq;cases h;cases h
theorem y7{k:Keep}{K:St->YO}{σ:St}{r:List (List PA)}(h:zdJ P k K σ=some r):∃s,canon P k σ=some s/\K s=some r:=by
 unfold zdJ at h;split at h;rename_i s hs;exact⟨s,hs,h⟩;cases h
def zCY(K:TV)(K':YK):Prop:=∀e,Ru (K e) (K' e)
theorem zng{aO:dI}:∀(c:Code)(K:TV)(K':YK),zCY K K'->Ru (uz P Γ N aO c K) (QD P Γ aO c K'):=by
 intro c
 induction c with
 | skip=>exact λK K' hK=>hK .normal
 | region id ops draw =>
  intro K K' hK q σ r ys h hq;simp only[uz]at h;simp only[QD];split at h;cases h;rename_i h1 h2;simp only[h1,h2];refine VC (λq s r ys h hq=>?_) ops.toList _ _ _ _ h hq;split at h;rename_i k hk;obtain⟨s1,h3,h4⟩:=y7 h;simp only[hk,h3];exact hK _ _ _ _ _ h4 hq;rename_i hk;simp only[hk];exact hK _ _ _ _ _ h hq;cases h;rename_i h1 h2;simp only[h1,h2];rw[zbn]at h;obtain⟨s,h3,h4⟩:=ae.T_some h;exact zbk h3 (hK _ _ _ _ _ h4 hq)
 | seq a b iha TW =>
  intro K K' hK;refine iha _ _ λe q s r ys h hq=>?_;cases e with
  | normal =>
   have h:zdI P aO (jA b) (uz P Γ N aO b K q) s=some r:=h;rw[zbo]at h;obtain⟨s1,h1,h2⟩:=ae.T_some h;simp only[zuX,zuZ];have:=TW K K' hK _ _ _ _ h2 hq;unfold Za at h1;split at h1;rename_i k hk;simp only[hk,ae.opt_o h1];exact this;rename_i hk;simp only[hk];cases ae.ok_o h1;exact this
  | _=>exact hK _ _ _ _ _ h hq
 | cond c a b iha TW =>
  intro K K' hK q σ r ys h hq;simp only[uz]at h;simp only[QD];split at h;rename_i t ht;simp only[ht];refine BO (λe1=>?_) λe1=>?_;subst e1;exact iha _ _ hK _ _ _ _ h hq;subst e1;exact TW _ _ hK _ _ _ _ h hq;cases h
 | block id b ih =>
  intro K K' hK;refine ih _ _ λe q s r ys h hq=>?_;cases e with
  | exit j =>
   simp only[bkY]at h;simp only[Yr];split at h;rename_i hj;rw[hj];exact hK _ _ _ _ _ h hq;rename_i hj;rw[hj];exact hK _ _ _ _ _ h hq
  | _=>exact hK _ _ _ _ _ h hq
 | loop b ih =>
  intro K K' hK q σ r ys h hq;simp only[uz]at h;simp only[QD];split at h;rename_i k hk;obtain⟨s1,h1,h2⟩:=y7 h;simp only[hk,h1];intro X hX;have key:∀n:Nat,Ru (zhv P k (uz P Γ N aO b) K n) X:=by
   intro n
   induction n with
   | zero=>intro q s r ys h;cases h
   | succ n ihn =>
    intro q s r ys h hq;refine hX _ _ _ (ih _ _ (λe q s r ys h hq=>?_) _ _ _ _ h hq);cases e with
    | normal =>
     obtain⟨s2,h3,h4⟩:=y7 h;simp only[zf9,hk,h3];exact ihn _ _ _ _ h4 hq
    | _=>exact hK _ _ _ _ _ h hq
  exact key N _ _ _ _ h2 hq;rename_i hk;split at h;rename_i n k hn;simp only[hk,hn];have key:∀n:Nat,Ru (zvy P k (uz P Γ N aO b) K n) (OW P k (QD P Γ aO b) n K'):=by
   intro n
   induction n with
   | zero=>intro q s r ys h;cases h
   | succ n ihn =>
    intro q s r ys h hq;obtain⟨s1,h1,h2⟩:=y7 h;simp only[OW,h1];refine ih _ _ (λe q s r ys h hq=>?_) _ _ _ _ h2 hq;cases e with|normal=>exact ihn _ _ _ _ h hq|_=>exact hK _ _ _ _ _ h hq
  exact key n _ _ _ _ h hq;cases h
 | exit id=>exact λK K' hK=>hK _
 | scope b ih =>
  intro K K' hK;refine ih _ _ λe q s r ys h hq=>?_;cases e with|goto l=>cases h|_=>exact hK _ _ _ _ _ h hq
 | label l=>exact λK K' hK=>hK .normal
 | ret=>exact λK K' hK=>hK .ret
 | rangeFunc f ps a b _ _=>intro K K' hK q σ r ys h;cases h
 | goto l=>intro K K' hK q σ r ys h;cases h
 | refuse s=>intro K K' hK q σ r ys h;cases h
theorem zCZ{aO:dI}{f:FuncId}{caps:List PA}{ys:List (List PA)}(h:aI P Γ N aO f caps=some ys):QE P Γ aO f caps ys:=by
 unfold aI at h;unfold QE;split at h;rename_i fn tN;split at h;rename_i c hb;split at h
 ·rename_i hc;rw[tN];simp only[hb,hc];refine zng c _ _ (λe q s r ys h hq=>?_) _ _ _ _ h λ_=>rfl;have fin:some []=some r->zga ys q:=by
   intro e;cases e;cases q with|true=>trivial|false=>exact hq rfl
  cases e with|normal=>exact fin h|ret=>exact fin h|_=>cases h
 cases h;cases h;cases h
end
end Go.Pm
namespace Go.Pm
section
variable [aG]
class iR (α : Type) where
  enc:α->PA
  dec:PA->α
  ck:PA->Bool
  up:∀{h:Fz}{a:PA}{v:Value},pJ h a v->ck a=true->pJ h (enc (dec a)) v
  eq:α->α->Bool
  eqk:∀{h:Fz}{a b:α}{v:Value},eq a b=true->pJ h (enc a) v->pJ h (enc b) v
abbrev iR.one {α : Type} [bn α] : iR α where
  enc x:=match bn.enc x with|[v]=>.one v|l=>.agg l
  dec a:=match a with | .one v=>(bn.dec [v]).1 | .agg l=>(bn.dec l).1
  ck a:=match a with | .one v=>Ul (bn.ck (α:=α) [v]) | .agg _=>false
  up:=by
    intro h a v r hc;cases a with
    | agg l=>cases hc
    | one p =>
      have r:Rep h p v:=r;have h1:=qC (α:=α) (g:=λ_=>[p]) (λ_ _=>⟨r.un,trivial⟩) hc 0;change RL oQ [p] (bn.enc (bn.dec (α:=α) [p]).1)at h1;generalize bn.enc (bn.dec (α:=α) [p]).1=m at h1
      match m,h1 with|[q],h1=>exact r.up h1.1|[],h1=>exact h1.elim|_::_::_,h1=>exact h1.2.elim
  eq:=bn.eq
  eqk:=by
    intro h a b v he r;have h1:=bn.eqk he;generalize bn.enc a=l at h1 r;generalize bn.enc b=m at h1;have ag:∀{l m:List PV},RL oQ l m->pJ h (.agg l) v->pJ h (.agg m) v:=λe r1=>by
      obtain⟨vs,e1,r2⟩:=r1;exact⟨vs,e1,Au e r2⟩
    match l,m,h1 with|[_],[_],h1=>exact Rep.up h1.1 r|[],[],h1=>exact ag h1 r|_::_::_,_::_::_,h1=>exact ag h1 r|[],_::_,h1=>exact h1.elim|[_],[],h1=>exact h1.elim|[_],_::_::_,h1=>exact h1.2.elim|_::_::_,[],h1=>exact h1.elim|_::_::_,[_],h1=>exact h1.2.elim
abbrev iR.agg' {α : Type} [bn α] : iR α where
  enc x:=.agg (bn.enc x)
  dec a:=match a with | .one v=>(bn.dec [v]).1 | .agg l=>(bn.dec l).1
  ck a:=match a with | .agg l=>Ul (bn.ck (α:=α) l) | .one _=>false
  up:=by
    intro h a v r hc;cases a with
    | one p=>cases hc
    | agg l =>
      obtain⟨vs,rfl,r⟩:=r;exact⟨vs,rfl,Au (qC (α:=α) (g:=λ_=>l) (λ_ _=>xN r) hc 0) r⟩
  eq:=bn.eq
  eqk:=by
    intro h a b v he r;obtain⟨vs,rfl,r⟩:=r;exact⟨vs,rfl,Au (bn.eqk he) r⟩
instance:iR Int:=.one
instance:iR Bool:=.one
instance{α:Type}[bn α][Inhabited α]:iR (Sl α):=.one
instance{α:Type}[bn α]:iR (Pt α):=.one
class dm (α : Type) where
  enc:α->List PA
  dec:List PA->α
  ck:List PA->Bool
  up:∀{h:Fz}{l:List PA}{vs:List Value},RL (pJ h) l vs->ck l=true->RL (pJ h) (enc (dec l)) vs
  eq:α->α->Bool
  eqk:∀{h:Fz}{a b:α}{vs:List Value},eq a b=true->RL (pJ h) (enc a) vs->RL (pJ h) (enc b) vs
instance : dm Unit where
  enc _:=[]
  dec _:=()
  ck l:=l.isEmpty
  up:=by
    intro h l vs r hc;cases l with|nil=>exact r|cons=>cases hc
  eq _ _:=true
  eqk _ r:=r
instance {α : Type} [iR α] : dm α where
  enc x:=[iR.enc x]
  dec l:=iR.dec (l.headD (.agg []))
  ck l:=match l with|[a]=>iR.ck (α:=α) a|_=>false
  up:=by
    intro h l vs r hc
    match l,vs,r,hc with|[a],[v],r,hc=>exact⟨iR.up r.1 hc,trivial⟩|[],_,_,hc=>cases hc|_::_::_,_,_,hc=>cases hc|[_],[],r,_=>exact r.elim|[_],_::_::_,r,_=>exact r.2.elim
  eq:=iR.eq
  eqk:=by
    intro h a b vs he r
    match vs,r with|[v],r=>exact⟨iR.eqk he r.1,trivial⟩|[],r=>exact r.elim|_::_::_,r=>exact r.2.elim
instance {α β : Type} [iR α] [dm β] : dm (α × β) where
  enc x:=iR.enc x.1::dm.enc x.2
  dec l:=(iR.dec (l.headD (.agg [])),dm.dec l.tail)
  ck l:=match l with|a::r=>iR.ck (α:=α) a&&dm.ck (α:=β) r|_=>false
  up:=by
    intro h l vs r hc
    match l,vs,r,hc with
    | a::l,v::vs,r,hc =>
      rw[Bool.and_eq_true]at hc;exact⟨iR.up r.1 hc.1,dm.up r.2 hc.2⟩
    | [],_,_,hc=>cases hc
    | _::_,[],r,_=>exact r.elim
  eq a b:=iR.eq a.1 b.1&&dm.eq a.2 b.2
  eqk:=by
    intro h a b vs he r;rw[Bool.and_eq_true]at he
    match vs,r with|v::vs,r=>exact⟨iR.eqk he.1 r.1,dm.eqk he.2 r.2⟩|[],r=>exact r.elim
theorem Dj{h:Fz}{l m:List PA}{v:Value}(hm:∀vs,RL (pJ h) l vs->RL (pJ h) m vs)(r:pU h l v):pU h m v:=by
 have go:∀vs,RL (pJ h) m vs->(vs.length=1->vs=[v])->(vs.length≠1->v=.tuple vs.toArray)->pU h m v:=by
  intro vs hr h1 h2
  match m,vs,hr with|[],[],_=>exact⟨[],h2 (by simp),trivial⟩|[x],[u],hr=>cases h1 rfl;exact hr.1|x::y::l,u::u2::vs,hr=>exact⟨_,h2 (by simp),hr⟩|[],_::_,hr=>exact hr.elim|[_],[],hr=>exact hr.elim|[_],_::_::_,hr=>exact hr.2.elim|_::_::_,[],hr=>exact hr.elim|_::_::_,[_],hr=>exact hr.2.elim
 match l,r with|[],⟨vs,e,r⟩=>exact go vs (hm vs r) (λh=>by rw[<- r.length]at h;cases h) λ_=>e|[x],r=>exact go [v] (hm [v] ⟨r,trivial⟩) (λ_=>rfl) λh=>absurd rfl h|x::y::l,⟨vs,e,r⟩=>exact go vs (hm vs r) (λh=>by rw[<- r.length]at h;simp at h) λ_=>e
end
/-! What is wanted later, as a number's bits. -/
def orL(m:Nat):List Nat→Nat
  | []=>m
  | t::r=>orL (m ||| 2^t) r
def clL(m:Nat):List Nat→Nat|[]=>m|t::r=>clL (m ^^^ (m &&& 2^t)) r
def zsv(ops:Array Oper):List Oper→Nat→Nat|[],m=>m|o::r,m=>orL (clL (zsv ops r m) o.dst.toList) (qE ops o)
def lvC:Code→Nat→Nat→List (Nat×Nat)→Nat×List (Nat×Nat×Nat)
  | .skip,o,_,_=>(o,[])
  | .region id ops _,o,_,_=>(zsv ops ops.toList o,[(0,id,o)])
  | .seq a b,o,r,x=>match lvC b o r x with
    | (mb,lb)=>match lvC a mb r x with|(ma,la)=>(ma,la++(2,jA b,mb)::lb)
  | .cond c a b,o,r,x=>match lvC a o r x,lvC b o r x with
    | (ma,la),(mb,lb)=>(orL (ma ||| mb) (QB c),la++lb)
  | .block id b,o,r,x=>lvC b o r ((id,o)::x)
  | .loop b,_,r,x=>match(lvC b 0 r x).1 with|m=>(m,(1,jA b,m)::(lvC b m r x).2)
  | .rangeFunc f ps a b,o,r,x=>match(lvC b 0 r x).1 with
    | m0=>match orL (clL (o ||| (lvC a m0 r x).1) ps.toList) (QB f)with
      | m=>match lvC b m r x with|(mb,lb)=>(m,(1,Yq a b,m)::((lvC a mb r x).2++lb))
  | .exit id,_,_,x=>((lk x id).getD 0,[])
  | .scope b,o,r,x=>lvC b o r x
  | .label _,o,_,_=>(o,[])
  | .ret,_,r,_=>(r,[])
  | _,_,_,_=>(0,[])
def zbp(m:Nat):Nat→Nat→List Nat
  | _,0=>[]
  | i,n+1=>match m.testBit i with|true=>i::zbp m (i+1) n|false=>zbp m (i+1) n
structure Ext where
  ks:List (Nat×Nat×Keep):=[]
  cut:List Nat:=[]
  unr:List (Nat×Nat):=[]
  yl:List Nat:=[]
  vv:List Nat:=[]
  clo:List Nat:=[]
  pan:List Nat:=[]
def zbq(x:Ext)(nt k id m:Nat):Keep:=match x.ks.find? λy=>Nat.beq y.1 k&&Nat.beq y.2.1 id with
 | some y=>{y.2.2 with tmps:=zbp m 0 nt}
 | none=>⟨zbp m 0 nt,[],[],[],[],[],[]⟩
def zC1(x:Ext)(nt:Nat):List (Nat×Nat×Nat)→dI→dI
  | [],a=>a
  | (k,id,m)::r,a=>match zC1 x nt r a with
    | a=>match k with
      | 0=>{a with reg:=(id,zbq x nt 0 id m)::a.reg}
      | 1=>match lk x.unr id with
        | some n=>{a with unr:=(id,n,zbq x nt 1 id m)::a.unr}
        | none=>{a with head:=(id,zbq x nt 1 id m)::a.head}
      | _=>match x.cut.contains id with
        | true=>{a with cut:=(id,zbq x nt 2 id m)::a.cut}
        | false=>a
def zvz:List ResultVar→List Nat|[]=>[]|.tmp t::r=>t::zvz r|.cell t _::r=>t::zvz r
def bZ(P:Program)(f:Nat)(xt:List Nat)(x:Ext):dI:=match P.funcs[f]? with
 | some fn=>match fn.body with
  | some c=>match orL 0 (xt++zvz fn.results.toList)with|m=>zC1 x fn.ntmps (lvC c m m []).2 ⟨fn.ntmps,[],[],[],[],x.yl,x.pan⟩
  | none=>⟨0,[],[],[],[],[],[]⟩
 | none=>⟨0,[],[],[],[],[],[]⟩
section
variable(P:Program)(N:Nat)(Γ:bM){ρ:Type}
def Zc(aO:dI)(f:FuncId)(n:Nat)(g:Code->Bool)(σ:St)(fin:Func->St->Option ρ):ae ρ :=
 match P.funcs[f]? with
 | some fn=>match fn.body with
  | some c=>match Nat.beq aO.nt fn.ntmps&&Nat.ble n aO.nt&&g c with
   | true=>(vcC P Γ N aO c σ).bind λ(e,s)=>match e with|.normal=>.opt (fin fn s)|.ret=>.opt (fin fn s)|_=>.no
   | false=>.no
  | none=>.no
 | none=>.no
def aF(aO:dI)(f:FuncId)(args:List PA):ae (List PA) :=
 Zc P N Γ aO f args.length (λ_=>true) ⟨jK 0 args,[],[]⟩ λfn s=>kJ P s fn.results.toList
def zhw(fn:Func)(e s b:Nat)(σ:St):Option (Nat×(Nat->List PV)×List PV) :=
 match fn.results.toList with
 | .tmp t::r=>match lk σ.env t with
  | some (.one (.c (.vec L)))=>match lk σ.ay L with
   | some (.vec e' s' b' n get)=>match Nat.beq e e'&&(Nat.beq s s'&&Nat.beq b b'),r with
    | true,[]=>some (n,get,[])
    | true,[.tmp u]=>match lk σ.env u with|some (.one (.c (.p x)))=>some (n,get,[x])|_=>none
    | _,_=>none
   | _=>none
  | _=>none
 | _=>none
def aK(aO:dI)(f:FuncId)(e s b:Nat)(args:List PA):ae (Nat×(Nat->List PV)×List PV) :=
 Zc P N Γ aO f args.length (λ_=>true) ⟨jK 0 args,[],[]⟩ λfn σ=>zhw fn e s b σ
def zhx(aO:dI)(f:FuncId)(n:Nat)(g:Code->Bool)(σ:St)(fin:Func->Exit->St->Option ρ):ae ρ :=
 match P.funcs[f]? with
 | some fn=>match fn.body with
  | some c=>match Nat.beq aO.nt fn.ntmps&&Nat.ble n aO.nt&&g c with|true=>(vcC P Γ N aO c σ).bind λr=>.opt (fin fn r.1 r.2)|false=>.no
  | none=>.no
 | none=>.no
def zbr(xs:List XA)(fn:Func)(σ:St):Option (List PA×List XA) :=
 match C9 P σ fn.results.toList with
 | some (l,u)=>match LG (AU σ.env xs) (lk (u++σ.ay)) σ.env 0 xs with
  | some (ys,ls)=>match lu ls,EX l with|true,none=>some (l,ys)|_,_=>none
  | none=>none
 | none=>none
def zhy(xs:List XA)(ch:List PanicEntry)(σ:St):Option (List PA×List XA) :=
 match chR ch with
 | some l=>match LG (AU σ.env xs) (lk σ.ay) σ.env 0 xs with
  | some (ys,ls)=>match lu ls with|true=>some (l,ys)|false=>none
  | none=>none
 | none=>none
def zhz(xs:List XA)(fn:Func):Exit→St→Option (List PA×List XA)|.normal,σ=>zbr P xs fn σ|.ret,σ=>zbr P xs fn σ|.panic ch,σ=>zhy xs ch σ|_,_=>none
def aM(aO:dI)(f:FuncId)(xs:List XA):ae (List PA×List XA) :=
 zhx P N Γ aO f xs.length (λc=>lu ((gV 0 xs).map (·.1))&&wX (sS 0 xs) xs&&mY (sS 0 xs) (dP c)) ⟨Iz 0 xs,gV 0 xs,[]⟩ (zhz P xs)
end
section
variable [aG]{P:Program}{N:Nat}{Γ:bM}
theorem zbs{ρ:Type}{aO:dI}{f:FuncId}{n:Nat}{g:Code→Bool}{σ:St}{fin:Func→St→Option ρ}{r:ρ}(h:(Zc P N Γ aO f n g σ fin).o=some r) :
  ∃fn c,P.funcs[f]? = some fn/\fn.body=some c/\(Nat.beq aO.nt fn.ntmps&&Nat.ble n aO.nt)=true/\g c=true/\∀K:Exit->St->Prop,(∀s,fin fn s=some r->K .normal s/\K .ret s)->vc P Γ aO c K σ:=by
 unfold Zc at h;split at h;rename_i fn tN;split at h;rename_i c hb;split at h
 ·rename_i hc;rw[fH]at hc;obtain⟨⟨e,s⟩,h1,h2⟩:=ae.bind_o h;refine⟨fn,c,tN,hb,hc.1,hc.2,λK hK=>Rt c σ s e K h1 ?_⟩;cases e with|normal=>exact(hK s (ae.opt_o h2)).1|ret=>exact(hK s (ae.opt_o h2)).2|_=>exact(ae.no_o h2).elim
 exact(ae.no_o h).elim;exact(ae.no_o h).elim;exact(ae.no_o h).elim
theorem zC2{aO:dI}{f:FuncId}{args rs:List PA}(h:(aF P N Γ aO f args).o=some rs):vcFun P Γ aO f args λOz=>Oz=rs:=by
 obtain⟨fn,c,h1,h2,h3,_,h4⟩:=zbs h;unfold vcFun;rw[h1];simp only[h2,h3];refine h4 _ λs hs=>?_;constructor<;>simp only[zf7,Ar,hs]
theorem zC3{aO:dI}{f:FuncId}{e s b n:Nat}{get:Nat->List PV}{rs:List PV}{args:List PA}(h:(aK P N Γ aO f e s b args).o=some (n,get,rs)):zaz P Γ aO f args e s b (Y8 n s get rs):=by
 obtain⟨fn,c,h1,h2,h3,_,h4⟩:=zbs h;unfold zaz;rw[h1];simp only[h2,h3];refine h4 _ λσ hs=>?_;have:OU fn e s b (Y8 n s get rs) σ:=by
  unfold zhw at hs;unfold OU;split at hs;rename_i t r hr;split at hs;rename_i L hL;split at hs;rename_i e' s' b' m g hO;split at hs;rename_i hc;cases hs;rw[hr];simp only[hL,hO,hc];rfl;rename_i u hc;split at hs;rename_i x hu;cases hs;rw[hr];simp only[hL,hO,hc,hu];rfl;cases hs;cases hs;cases hs;cases hs;cases hs
 exact⟨this,this⟩
theorem znh{ρ:Type}{aO:dI}{f:FuncId}{n:Nat}{g:Code→Bool}{σ:St}{fin:Func→Exit→St→Option ρ}{r:ρ}(h:(zhx P N Γ aO f n g σ fin).o=some r) :
  ∃fn c,P.funcs[f]? = some fn/\fn.body=some c/\(Nat.beq aO.nt fn.ntmps&&Nat.ble n aO.nt)=true/\g c=true/\∀K:Exit->St->Prop,(∀e s,fin fn e s=some r->K e s)->vc P Γ aO c K σ:=by
 unfold zhx at h;split at h;rename_i fn tN;split at h;rename_i c hb;split at h;rename_i hc;rw[fH]at hc;obtain⟨⟨e,s⟩,h1,h2⟩:=ae.bind_o h;exact⟨fn,c,tN,hb,hc.1,hc.2,λK hK=>Rt c σ s e K h1 (hK e s (ae.opt_o h2))⟩;exact(ae.no_o h).elim;exact(ae.no_o h).elim;exact(ae.no_o h).elim
theorem zC4{aO:dI}{f:FuncId}{xs ys:List XA}{rs:List PA}(h:(aM P N Γ aO f xs).o=some (rs,ys)):Vs P Γ aO f xs λl zs=>l=rs/\zs=ys:=by
 obtain⟨fn,c,h1,h2,h3,h0,h4⟩:=znh h;unfold Vs;rw[h1];simp only[fH]at h0 h3;simp only[h2,h3.1,h3.2,h0.1.1,h0.1.2,h0.2,qj3];refine h4 _ λe σ hs=>?_;have nr:zbr P xs fn σ=some (rs,ys)->UJ P fn xs (λl zs=>l=rs/\zs=ys) σ:=λhs=>by
  unfold zbr at hs;unfold UJ;split at hs;rename_i l u hr;split at hs;rename_i zs ls ho;split at hs;rename_i hn hp;cases hs;simp only[hr,ho,hn,hp,and_self];cases hs;cases hs;cases hs
 cases e with
 | normal=>exact nr hs
 | ret=>exact nr hs
 | panic ch =>
  have hs:zhy xs ch σ=some (rs,ys):=hs;show zhh xs (λl zs=>l=rs/\zs=ys) ch σ;unfold zhy at hs;unfold zhh;split at hs;rename_i l hr;split at hs;rename_i zs ls ho;split at hs;rename_i hn;cases hs;simp only[hr,ho,hn,and_self];cases hs;cases hs;cases hs
 | _=>cases hs
end
structure Tabs where
  fn:List (Nat×(List PA->ae (List PA)))
  own:List (Nat×ET)
  it:List (Nat×(List PA->ae (List (List PA))))
  mt:List (Nat×Option MK)
  cf:List (Nat×(List PA->ae (List PA)))
def VD{α:Type _}(d:α):List (Nat×α)→Nat→α
  | [],_=>d
  | (k,c)::r,f=>match Nat.beq k f with|true=>c|false=>VD d r f
def jc(T:Tabs)(vv:List Nat):bM:=⟨VD (λ_=>.no) T.fn,VD ET.none T.own,VD (λ_=>.no) T.it,λt=>vv.contains t,VD none T.mt,VD (λ_=>.no) T.cf⟩
def Tabs.nil:Tabs:=⟨[],[],[],[],[]⟩
def Tabs.addF(T:Tabs)(f:Nat)(c:List PA->ae (List PA)):Tabs:=⟨(f,c)::T.fn,T.own,T.it,T.mt,T.cf⟩
def Tabs.addO(T:Tabs)(f:Nat)(c:ET):Tabs:=⟨T.fn,(f,c)::T.own,T.it,T.mt,T.cf⟩
def Tabs.addI(T:Tabs)(f:Nat)(c:List PA->ae (List (List PA))):Tabs:=⟨T.fn,T.own,(f,c)::T.it,T.mt,T.cf⟩
def Tabs.addM(T:Tabs)(f:Nat)(c:MK):Tabs:=⟨T.fn,T.own,T.it,(f,some c)::T.mt,T.cf⟩
def Tabs.addN(T:Tabs):List Nat→Tabs|[]=>T|f::r=>(T.addM f λ_=>.no).addN r
def Tabs.addC(T:Tabs)(f:Nat)(c:List PA->ae (List PA)):Tabs:=⟨T.fn,T.own,T.it,T.mt,(f,c)::T.cf⟩
variable [aG]
structure aB (P : Program) (T : Tabs) : Prop where
  fn:∀x∈T.fn,Ok P x.1 x.2
  own:∀x∈T.own,jh P x.1 x.2
  it:∀x∈T.it,xO P x.1 x.2
  mt:∀x∈T.mt,∀C,x.2=some C->iM P x.1 C
  cf:∀x∈T.cf,@Ok ⟨1⟩ P x.1 x.2
theorem all_cons{α:Type _}{p:α->Prop}{a:α}{l:List α}(h:∀x∈l,p x)(ha:p a):∀x∈a::l,p x:=λx hx=>(jW.1 hx).elim (λe=>e▸ha) (h x)
section
variable{P:Program}{T:Tabs}{f:Nat}
theorem aB.nil:aB P .nil:=⟨λ_ h=>(by cases h),λ_ h=>(by cases h),λ_ h=>(by cases h),λ_ h=>(by cases h),λ_ h=>(by cases h)⟩
theorem aB.addF(h:aB P T){c:List PA->ae (List PA)}(hc:Ok P f c):aB P (T.addF f c):=⟨all_cons h.fn hc,h.own,h.it,h.mt,h.cf⟩
theorem aB.addO(h:aB P T){c:ET}(hc:jh P f c):aB P (T.addO f c):=⟨h.fn,all_cons h.own hc,h.it,h.mt,h.cf⟩
theorem aB.addI(h:aB P T){c:List PA->ae (List (List PA))}(hc:xO P f c):aB P (T.addI f c):=⟨h.fn,h.own,all_cons h.it hc,h.mt,h.cf⟩
theorem aB.addM(h:aB P T){c:MK}(hc:iM P f c):aB P (T.addM f c):=⟨h.fn,h.own,h.it,all_cons h.mt λ_ e=>by cases e;exact hc,h.cf⟩
theorem aB.addC(h:aB P T){c:List PA->ae (List PA)}(hc : @Ok ⟨1⟩ P f c):aB P (T.addC f c):=⟨h.fn,h.own,h.it,h.mt,all_cons h.cf hc⟩
theorem aB.addN:∀{l:List Nat}{T:Tabs},aB P T→aB P (T.addN l)|[],_,h=>h|_::_,_,h=>(h.addM λ_ _ _ h=>(ae.no_o h).elim).addN
theorem y8{α:Type _}{p:Nat→α→Prop}{d:α}(hd:p f d):∀{l:List (Nat×α)},(∀x∈l,p x.1 x.2)→p f (VD d l f)
  | [],_=>hd
  | (k,c)::l,h=>by
    simp only[VD];split;rename_i e;have:=h (k,c) jM;rw[<- kY e];exact this;exact y8 hd λx hx=>h x (jB _ hx)
theorem aB.all(h:aB P T)(vv:List Nat):jk P (jc T vv) :=
 ⟨λf C hC=>y8 (p:=λf o=>∀C,o=some C->iM P f C) (λ_ e=>by cases e) (λx hx C e=>h.mt x hx C e) C hC,λf=>y8 (p:=λf c=>Ok P f c) (λ_ _ h=>(ae.no_o h).elim) λx hx=>h.fn x hx,
  λf=>y8 (p:=λf c=>jh P f c) (d:=.none) trivial λx hx=>h.own x hx,λf=>y8 (p:=λf c=>xO P f c) (λ_ _ h=>(ae.no_o h).elim) λx hx=>h.it x hx,
  λf=>y8 (p:=λf c=>@Ok ⟨1⟩ P f c) (λ_ _ h=>(ae.no_o h).elim) λx hx=>h.cf x hx⟩
theorem sU(h:aB P T)(hc:df P f){N:Nat}{vv:List Nat}{aO:dI}:Ok P f (aF P N (jc T vv) aO f) :=
 zhc (h.all vv) hc λargs rs h=>⟨_,aO,zC2 h⟩
theorem Zd(h:aB P T)(hc:df P f){N e s b:Nat}{vv:List Nat}{aO:dI}:jh P f (.mkv e s b (aK P N (jc T vv) aO f e s b)) :=
 zdF (h.all vv) hc λargs n get rs h=>⟨_,aO,zC3 h⟩
theorem LP(h:aB P T)(hc:df P f){N:Nat}{vv:List Nat}{aO:List XA->dI}:iM P f (λxs=>aM P N (jc T vv) (aO xs) f xs) :=
 zdH (h.all vv) hc λxs rs ys h=>⟨_,aO xs,zC4 h⟩
theorem LQ(h:aB P T)(hc:df P f){N:Nat}{vv:List Nat}{aO:dI}:xO P f (λcaps=>.opt (aI P (jc T vv) N aO f caps)) :=
 zhg (h.all vv) hc λcaps ys h=>⟨_,aO,zCZ (ae.opt_o h)⟩
def zvA(P:Program)(N:Nat)(T:Tabs)(x:Ext)(f:Nat):Nat→MK|0=>λ_=>.no|n+1=>λxs=>aM P N (jc ((T.addM f (zvA P N T x f n)).addN x.clo) x.vv) (bZ P f (sS 0 xs) x) f xs
theorem VE(h:aB P T)(hc:df P f){N:Nat}{x:Ext}:∀n,iM P f (zvA P N T x f n)|0=>λ_ _ _ h=>(ae.no_o h).elim|n+1=>LP (h.addM (VE h hc n)).addN hc
def ae.ty{δ ρ:Type}[dm δ][dm ρ](C:List PA->ae (List PA))(x:δ):ae ρ:=(C (dm.enc x)).bind λl=>.chk (dm.ck (α:=ρ) l) (.ok (dm.dec l))
def ae.un{δ ρ:Type}[dm δ][dm ρ](F:δ->ae ρ)(args:List PA):ae (List PA):=.chk (dm.ck (α:=δ) args) ((F (dm.dec args)).mp dm.enc)
theorem zsw{δ ρ:Type}[dm δ][dm ρ]{C:List PA->ae (List PA)}(h:Ok P f C):Ok P f (ae.un (ae.ty C:δ->ae ρ)):=by
 intro args rs hr w h0 vs jI hw;obtain⟨h1,h2⟩:=ae.chk_o hr;obtain⟨r,h3,h4⟩:=ae.mp_o h2;obtain⟨l,h5,h6⟩:=ae.bind_o h3;obtain⟨h7,h8⟩:=ae.chk_o h6;have h8:=ae.ok_o h8;subst h4 h8;obtain⟨hc,h9⟩:=h _ _ h5 w h0 vs (dm.up jI h1) hw;refine⟨hc,h9.mono ?_⟩;rintro e w' ⟨h',v,he,hv,r⟩;exact⟨h',v,he,Dj (λvs jI=>dm.up jI h7) hv,r⟩
def zni{δ ρ:Type}[dm δ][dm ρ](C:List PA->ae (List PA))(y:δ×ρ):Bool:=match(C (dm.enc y.1)).o with|some l=>dm.ck (α:=ρ) l&&dm.eq (dm.dec l) y.2|none=>false
def zhA{δ ρ:Type}[dm δ][dm ρ](y:δ×ρ)(C:List PA->ae (List PA))(args:List PA):ae (List PA):=match dm.ck (α:=δ) args&&dm.eq (dm.dec args) y.1 with|true=>.ok (dm.enc y.2)|false=>C args
theorem znj{δ ρ:Type}[dm δ][dm ρ]{C:List PA->ae (List PA)}(h:Ok P f C){y:δ×ρ}(hy:zni C y=true):Ok P f (zhA y C):=by
 intro args rs hr w h0 vs jI hw;unfold zhA at hr;split at hr;rename_i hc;rw[fH]at hc;cases ae.ok_o hr;unfold zni at hy;split at hy;rename_i l hl;rw[fH]at hy;obtain⟨h1,h2⟩:=h _ _ hl w h0 vs (dm.eqk hc.2 (dm.up jI hc.1)) hw;refine⟨h1,h2.mono ?_⟩;rintro e w' ⟨h',v,he,hv,r⟩;exact⟨h',v,he,Dj (λvs jI=>dm.eqk hy.2 (dm.up jI hy.1)) hv,r⟩;cases hy;exact h _ _ hr w h0 vs jI hw
def Tabs.memo{δ ρ:Type}[dm δ][dm ρ](T:Tabs)(f:Nat)(y:δ×ρ):Tabs:=T.addF f (zhA y ((jc T []).fn f))
theorem aB.memo{δ ρ:Type}[dm δ][dm ρ](h:aB P T){y:δ×ρ}(hy:zni ((jc T []).fn f) y=true):aB P (T.memo f y):=h.addF (znj ((h.all []).fn f) hy)
def Sl.of{α:Type}[Inhabited α](l:List α):Sl α:=⟨l.length,λi=>l.getD i default⟩
inductive Ent where
  | f (f:Nat) (x:Ext)
  | k (f e s b:Nat) (x:Ext)
  | m (f:Nat) (x:Ext)
  | r (f n:Nat) (x:Ext)
  | i (f:Nat) (x:Ext)
def Ent.fn:Ent→Nat|.f f _=>f|.k f _ _ _ _=>f|.m f _=>f|.r f _ _=>f|.i f _=>f
def zC5(P:Program)(N:Nat)(T:Tabs):Ent→Tabs|.f f x=>T.addF f (aF P N (jc (T.addN x.clo) x.vv) (bZ P f [] x) f)|.k f e s b x=>T.addO f (.mkv e s b (aK P N (jc (T.addN x.clo) x.vv) (bZ P f [] x) f e s b))|.m f x=>T.addM f λxs=>aM P N (jc (T.addN x.clo) x.vv) (bZ P f (sS 0 xs) x) f xs|.r f n x=>T.addM f (zvA P N T x f n)|.i f x=>T.addI f λcaps=>.opt (aI P (jc (T.addN x.clo) x.vv) N (bZ P f [0] x) f caps)
def nN(P:Program)(N:Nat)(T:Tabs)(l:List Ent):Tabs:=l.foldl (zC5 P N) T
def VF(P:Program)(f:Nat):Bool:=match P.funcs[f]? with
 | some fn => fn.body.isSome && !(fn.name == "runtime.NumGoroutine")
 | none=>false
theorem dC(h:VF P f=true):df P f:=by
 unfold VF at h;split at h;rename_i fn hf;rw[fH,NQ]at h;exact⟨fn,hf,h.1,h.2⟩;cases h
theorem znk{N:Nat}(h:aB P T){e:Ent}(hc:VF P e.fn=true):aB P (zC5 P N T e):=by
 cases e with|f f x=>exact h.addF (sU h.addN (dC hc))|k f e s b x=>exact h.addO (Zd h.addN (dC hc))|m f x=>exact h.addM (LP h.addN (dC hc))|r f n x=>exact h.addM (VE h (dC hc) n)|i f x=>exact h.addI (LQ h.addN (dC hc))
theorem dS {N : Nat} : ∀ {l : List Ent} {T : Tabs}, aB P T → (l.all fun e => VF P e.fn) = true → aB P (nN P N T l)
  | [],_,h,_=>h
  | e::l,_,h,hc=>by
    rw[qjo,fH]at hc;exact dS (l:=l) (znk h hc.1) hc.2
end
theorem zhB{P:Program}{T:Tabs}{f:Nat}(h : @aB ⟨1⟩ P T)(hc:df P f){N:Nat}{vv:List Nat}{aO:dI} : @Ok ⟨1⟩ P f (aF P N (jc T vv) aO f):=@sU ⟨1⟩ P T f h hc N vv aO
end Go.Pm
namespace Go.Pm
section
variable(P:Program)(Γ:bM){A:Type}(N:Nat)
inductive znl where
  | n (n:Nat)
  | y (l:List (List PA))
  | o (i:Nat)
def atT(aO:dI):Code→List Nat→List znl→EK A→St→Option A
  | .seq a b,0::p,r,K=>atT aO a p r (sqT P aO (jA b) (xw P Γ N aO b) K)
  | .seq _ b,_::p,r,K=>atT aO b p r K
  | .cond _ a _,0::p,r,K=>atT aO a p r K
  | .cond _ _ b,_::p,r,K=>atT aO b p r K
  | .block id b,_::p,r,K=>atT aO b p r (bkT id K)
  | .scope b,_::p,r,K=>atT aO b p r (scT K)
  | .loop b,_::p,.n n::r,K=>match lk aO.head (jA b)with|some k=>atT aO b p r (lpK P k (lpT P k (xw P Γ N aO b) K n) K)|none=>λ_=>none
  | .loop b,[],.n n::_,K=>match lk aO.head (jA b)with|some k=>lpT P k (xw P Γ N aO b) K n|none=>λ_=>none
  | .rangeFunc _ ps ah bd,_::p,.y l::r,K=>match lk aO.head (Yq ah bd)with|some k=>atT aO bd p r (rgK P k (mY [GG] (dP ah++dP bd)) (rgT P k (mY [GG] (dP ah++dP bd)) ps.toList (xw P Γ N aO ah) (xw P Γ N aO bd) K l) K)|none=>λ_=>none
  | .rangeFunc _ ps ah bd,[],.y l::_,K=>match lk aO.head (Yq ah bd)with|some k=>rgT P k (mY [GG] (dP ah++dP bd)) ps.toList (xw P Γ N aO ah) (xw P Γ N aO bd) K l|none=>λ_=>none
  | .region id ops draw,[],.o i::_,K=>opsT P Γ aO.nt ops (VB P aO id ops draw (K .normal)) i (ops.toList.drop i)
  | c,[],_,K=>xw P Γ N aO c K
  | _,_,_,_=>λ_=>none
def znm(fin:St->Option (List PA))(K:List PA->Option A):EK A:=λe s=>match e with
 | .normal=>match fin s with|some r=>K r|none=>none
 | .ret=>match fin s with|some r=>K r|none=>none
 | _=>none
def kz{ρ:Type}[aG][dm ρ](k:ρ->Option A)(l:List PA):Option A:=match dm.ck (α:=ρ) l with|true=>k (dm.dec l)|false=>none
def runT(aO:dI)(f:FuncId)(K:List PA->Option A)(args:List PA):Option A :=
 match P.funcs[f]? with
 | some fn=>match fn.body with
  | some c=>match Nat.beq aO.nt fn.ntmps&&Nat.ble args.length aO.nt&&true with|true=>xw P Γ N aO c (znm (λs=>kJ P s fn.results.toList) K) ⟨jK 0 args,[],[]⟩|false=>none
  | none=>none
 | none=>none
def kC(aO:dI)(f:FuncId)(p:List Nat)(r:List znl)(K:List PA->Option A)(σ:St):Option A :=
 match P.funcs[f]? with
 | some fn=>match fn.body with|some c=>atT P Γ N aO c p r (znm (λs=>kJ P s fn.results.toList) K) σ|none=>none
 | none=>none
end
section
variable{P:Program}{Γ:bM}{A:Type}{N:Nat}
theorem runT_eq{aO:dI}{f:FuncId}{K:List PA->Option A}{args:List PA}:(aF P N Γ aO f args).T K=runT P Γ N aO f K args:=by
 unfold aF Zc runT;cases P.funcs[f]? with
 | none=>rfl
 | some fn =>
  simp only;cases fn.body with
  | none=>rfl
  | some c =>
   simp only;cases Nat.beq aO.nt fn.ntmps&&Nat.ble args.length aO.nt&&true with
   | false=>rfl
   | true =>
    simp only;rw[LK];show(vcC P Γ N aO c _).T _=(vcC P Γ N aO c _).T _;congr 1;funext r;obtain⟨e,s⟩:=r;cases e with|normal=>simp only[znm,ae.opt];cases kJ P s fn.results.toList<;>rfl|ret=>simp only[znm,ae.opt];cases kJ P s fn.results.toList<;>rfl|_=>rfl
theorem zLo [aG]{δ ρ:Type}[dm δ][dm ρ]{aO:dI}{f:FuncId}{x:δ}{k:ρ->Option A}:(ae.ty (aF P N Γ aO f) x:ae ρ).T k=runT P Γ N aO f (kz k) (dm.enc x):=by
 rw[<- runT_eq];show(aF P N Γ aO f (dm.enc x)).T _=_;congr 1
end
instance : bn Unit where
  enc _:=[]
  dec l:=((),l)
  ck l:=some l
  le:=by
    intro l r _ h;cases h;exact⟨[],rfl,rfl,trivial⟩
  inv:=by
    intro l m r h hc;cases hc;exact⟨m,rfl,h⟩
  sm _ _:=trivial
  eq _ _:=true
  eqk _:=trivial
structure dF (f : Nat) (α β : Type) where
  a:α
  v:β
theorem zhD{l m:List PV}(e:RL oQ l m)(k:Nat)(x y:PV)(hx:l[k]? = some x)(hy:m[k]? = some y):oQ x y:=by
 obtain⟨z,hz,r⟩:=RL.get e k x hx;rw[hy]at hz;cases hz;exact r
theorem zsx{h:Fz}{f:FuncId}{a b l m:List PV}{v:Value}(e0:RL oQ a b)(e:RL oQ l m)(r:Rep h (.fn f a l) v):Rep h (.fn f b m) v :=
 @Rep.up ⟨0⟩ _ _ _ (.fn f a b l m e0.length (zhD e0) e.length (zhD e)) _ r
theorem zsy{h:Fz}{f:FuncId}{a l:List PV}{v:Value}(r:Rep h (.fn f a l) v):RS a a/\RS l l:=by
 letI:aG:=⟨0⟩;cases r with
 | fn _ _ _ fv cv h1 h2 hf hc =>
  refine⟨RL.of_get rfl λj a b ha hb=>?_,RL.of_get rfl λj a b ha hb=>?_⟩;rw [ha]at hb;cases hb;obtain⟨w,hw⟩:=nV h1 ha;exact(hf j a w ha hw).un;rw [ha]at hb;cases hb;obtain⟨w,hw⟩:=nV h2 ha;exact(hc j a w ha hw).un
instance {f : Nat} {α β : Type} [bn α] [bn β] : iR (dF f α β) where
  enc x:=.one (.fn f (bn.enc x.a) (bn.enc x.v))
  dec a:=match a with | .one (.fn _ k l)=>⟨(bn.dec k).1,(bn.dec l).1⟩|_=>⟨(bn.dec []).1,(bn.dec []).1⟩
  ck a:=match a with | .one (.fn g k l)=>Nat.beq g f&&(Ul (bn.ck (α:=α) k)&&Ul (bn.ck (α:=β) l))|_=>false
  up:=by
    intro h a v r hc
    match a,r,hc with
    | .one (.fn g k l),r,hc =>
      simp only[Bool.and_eq_true]at hc;have e:=Nat.eq_of_beq_eq_true hc.1;subst e;have r:Rep h (.fn g k l) v:=r;exact zsx (qC (α:=α) (g:=λ_=>k) (λ_ _=>(zsy r).1) hc.2.1 0) (qC (α:=β) (g:=λ_=>l) (λ_ _=>(zsy r).2) hc.2.2 0) r
  eq a b:=bn.eq a.a b.a&&bn.eq a.v b.v
  eqk:=by
    intro h a b v he r;rw[Bool.and_eq_true]at he;exact zsx (bn.eqk he.1) (bn.eqk he.2) r
instance {α β : Type} [iR α] [iR β] : iR (α ⊕ β) where
  enc x:=match x with | .inl x=>iR.enc x | .inr x=>iR.enc x
  dec a:=match iR.ck (α:=α) a with|true=>.inl (iR.dec a)|false=>.inr (iR.dec a)
  ck a:=iR.ck (α:=α) a||iR.ck (α:=β) a
  up:=by
    intro h a v r hc;cases hb:iR.ck (α:=α) a with|true=>exact iR.up r hb|false=>rw[hb]at hc;exact iR.up r hc
  eq a b:=match a,b with | .inl a,.inl b=>iR.eq a b | .inr a,.inr b=>iR.eq a b|_,_=>false
  eqk:=by
    intro h a b v he r
    match a,b,he with|.inl a,.inl b,he=>exact iR.eqk he r|.inr a,.inr b,he=>exact iR.eqk he r
/-! Functions that hand back nothing but an error, or a pointer. -/
section
variable{α β τ A:Type}
def VG(r:α ⊕ β)(f:α->Option A)(g:β->Option A):Option A:=match r with|.inl a=>f a|.inr b=>g b
def ae.alt(r:α ⊕ β)(f:α->ae τ)(g:β->ae τ):ae τ:=⟨λk=>VG r (λa=>(f a).T k) (λb=>(g b).T k),λk=>by
 cases r with|inl a=>exact(f a).nat k|inr b=>exact(g b).nat k⟩
variable [aG]{δ ε ρ:Type}[dm δ][dm ε][dm ρ]
def zhE(k:ε ⊕ ρ→Option A):List PA→Option A
  | .one .nilp::r=>match dm.ck (α:=ε) r with|true=>k (.inl (dm.dec r))|false=>none
  | l=>match dm.ck (α:=ρ) l with|true=>k (.inr (dm.dec l))|false=>none
def zvB:List PA→ae (ε ⊕ ρ)|.one .nilp::r=>.chk (dm.ck (α:=ε) r) (.ok (.inl (dm.dec r)))|l=>.chk (dm.ck (α:=ρ) l) (.ok (.inr (dm.dec l)))
def ae.tyA(C:List PA->ae (List PA))(x:δ):ae (ε ⊕ ρ):=(C (dm.enc x)).bind zvB
def ae.unA(F:δ->ae (ε ⊕ ρ))(args:List PA):ae (List PA):=.chk (dm.ck (α:=δ) args) ((F (dm.dec args)).bind λr=>.alt r (λe=>.ok (.one .nilp::dm.enc e)) λp=>.ok (dm.enc p))
theorem zhF{P:Program}{f:FuncId}{C:List PA->ae (List PA)}(h:Ok P f C):Ok P f (ae.unA (ae.tyA C:δ->ae (ε ⊕ ρ))):=by
 intro args rs hr w h0 vs jI hw;obtain⟨h1,h2⟩:=ae.chk_o hr;obtain⟨r,h3,h4⟩:=ae.bind_o h2;obtain⟨l,h5,h6⟩:=ae.bind_o h3;obtain⟨hc,h9⟩:=h _ _ h5 w h0 vs (dm.up jI h1) hw;have fin:∀(h':Fz)(v:Value),pU h' l v->pU h' rs v:=by
  intro h' v hv;unfold zvB at h6;split at h6
  ·obtain ⟨h7, h8⟩ := ae.chk_o h6;have h8:=ae.ok_o h8;subst h8;cases ae.ok_o h4;refine Dj (λ vs jI=>?_) hv
   match vs,jI with|v::vs,jI=>exact⟨jI.1,dm.up jI.2 h7⟩|[],jI=>exact jI.elim
  obtain⟨h7,h8⟩:=ae.chk_o h6;have h8:=ae.ok_o h8;subst h8;cases ae.ok_o h4;exact Dj (λvs jI=>dm.up jI h7) hv
 refine⟨hc,h9.mono ?_⟩;rintro e w' ⟨h',v,he,hv,r⟩;exact⟨h',v,he,fin h' v hv,r⟩
theorem zsz{P:Program}{Γ:bM}{N:Nat}{aO:dI}{f:FuncId}{x:δ}{k:ε ⊕ ρ->Option A}:(ae.tyA (aF P N Γ aO f) x:ae (ε ⊕ ρ)).T k=runT P Γ N aO f (zhE k) (dm.enc x):=by
 rw[<- runT_eq];show(aF P N Γ aO f (dm.enc x)).T _=_;congr 1;funext l;unfold zvB zhE;split;cases dm.ck (α:=ε) _<;>rfl;cases dm.ck (α:=ρ) l<;>rfl
end
/-! Iterators. -/
def ae.tyI [aG]{δ ε:Type}[dm δ][dm ε](C:List PA->ae (List (List PA)))(x:δ):ae (List ε):=(C (dm.enc x)).bind λl=>.chk (l.all (dm.ck (α:=ε))) (.ok (l.map dm.dec))
def ae.unI [aG]{δ ε:Type}[dm δ][dm ε](I:δ->ae (List ε))(caps:List PA):ae (List (List PA)):=.chk (dm.ck (α:=δ) caps) ((I (dm.dec caps)).mp (List.map dm.enc))
theorem Rw [aG]{P:Program}{f:FuncId}{δ ε:Type}[dm δ][dm ε]{C:List PA->ae (List (List PA))}(h:xO P f C):xO P f (ae.unI (ae.tyI C:δ->ae (List ε))):=by
  intro caps ys hr l J Jx Rp w h0 vs sJ sX hy hj jI hw;obtain⟨h1,h2⟩:=ae.chk_o hr;obtain⟨r,h3,h4⟩:=ae.mp_o h2;obtain⟨ls,h5,h6⟩:=ae.bind_o h3;obtain⟨h7,h8⟩:=ae.chk_o h6;have h8:=ae.ok_o h8;subst h8 h4
  obtain ⟨hc, h9⟩ := h _ _ h5 l (fun ys h W => ys.all (dm.ck (α := ε)) = true ∧ J ((ys.map (dm.dec (α := ε))).map dm.enc) h W)
    (λys h W=>Jx ((ys.map (dm.dec (α:=ε))).map dm.enc) h W) Rp w h0 vs
    (λys h W h' W' a b c d e=>⟨a.1,sJ _ _ _ _ _ a.2 b c d e⟩) (λys h W h' W' a b c d e=>sX _ _ _ _ _ a b c d e)
    (λy rest h W us hJ hu hW n=>by
      obtain⟨hk,hJ⟩:=hJ;rw[qjo,fH]at hk;obtain⟨fn,tmps,ah,bd,e1,e2⟩:=hy _ _ _ _ _ hJ (dm.up hu hk.1) hW n;refine⟨fn,tmps,ah,bd,e1,e2.mono ?_⟩;rintro e W' (⟨h',a,b,c|c⟩|c);exact .inl ⟨h',a,b,.inl ⟨c.1,hk.2,c.2⟩⟩;exact .inl ⟨h',a,b,.inr c⟩;exact .inr c)
    ⟨h7,hj⟩ (dm.up jI h1) hw
  refine⟨hc,h9.mono ?_⟩;rintro e W' (⟨v,h',a,b,c,d⟩|c)
  rotate_left
  exact .inr c;refine .inl ⟨v,h',a,b,c,?_⟩;rcases d with d|⟨rest,d⟩
  exact .inl d.2;exact .inr ⟨_,d⟩
section
variable(P:Program)(Γ:bM)(N:Nat)
def atY(aO:dI):Code→List Nat→List Nat→TV→Bool→St→YO
  | .seq a b,0::p,r,K=>atY aO a p r (skY P aO (jA b) (uz P Γ N aO b) K)
  | .seq _ b,_::p,r,K=>atY aO b p r K
  | .cond _ a _,0::p,r,K=>atY aO a p r K
  | .cond _ _ b,_::p,r,K=>atY aO b p r K
  | .block id b,_::p,r,K=>atY aO b p r (bkY id K)
  | .scope b,_::p,r,K=>atY aO b p r (zCX K)
  | .loop b,_::p,n::r,K=>match lk aO.head (jA b)with|some k=>atY aO b p r (lkY P k (zhv P k (uz P Γ N aO b) K n) K)|none=>λ_ _=>none
  | .loop b,[],n::_,K=>match lk aO.head (jA b)with|some k=>zhv P k (uz P Γ N aO b) K n|none=>λ_ _=>none
  | c,[],_,K=>uz P Γ N aO c K
  | _,_,_,_=>λ_ _=>none
def ptY(aO:dI)(f:FuncId)(p r:List Nat)(σ:St):YO :=
 match P.funcs[f]? with
 | some fn=>match fn.body with|some c=>atY P Γ N aO c p r zsu false σ|none=>none
 | none=>none
end
/-! Data in states. -/
def eP [aG]{α:Type}[iR α](x:α):DV:=.one (NZ (iR.enc x))
def eB{α:Type}[bn α](t:Nat)(x:α):AO:=.box t ((bn.enc x).map .p)
def eV{α:Type}[bn α](e s b:Nat)(w:Sl α):AO:=.vec e s b w.len (λi=>bn.enc (w.get i))
/-! Slices that grow, of typed data. -/
abbrev aQ(n:Int):Int:=IntKind.wrap .i64 n
def room(n b:Nat):Bool:=decide (n*b<=140737488355328/\n<=9223372036854775807)
section
variable{α:Type}[bn α]
def znn(g:Nat->α)(r:Nat->List PV)(i:Nat):α:=(bn.dec (nzG (bn.enc (g 0)) r i)).1
def lm(n:Nat)(g h:Nat->α):Nat->α:=znn g (appG n (λi=>bn.enc (g i)) λi=>bn.enc (h i))
def seG(i:Nat)(g:Nat->α)(x:α):Nat->α:=znn g (zA i 0 (λi=>bn.enc (g i)) (bn.enc x))
def kW(l:List α):Nat->α:=λi=>(bn.dec (nzG (Am (l.map bn.enc) 0) (Am (l.map bn.enc)) i)).1
def LU(g:Nat->α)(n i:Nat):α:=g (i+n)
def eW(te bb e s b:Nat)(w:Sl (Sl α)):AO:=.vv te bb e s b w.len (λi=>(w.get i).len) (λi j=>bn.enc ((w.get i).get j))
def upG(i:Nat)(v:Sl α)(g:Nat->Sl α):Nat->Sl α:=λj=>⟨l7 i v.len (λj=>(g j).len) j,λq=>(bn.dec (zfV (bn.enc ((g 0).get 0)) (l7 i (λq=>bn.enc (v.get q)) (λj q=>bn.enc ((g j).get q))) j q)).1⟩
class rq (α : Type) [bn α] : Prop where
  de:∀x:α,(bn.dec (bn.enc x)).1=x
instance [Inhabited α][rq α]:rq (Sl α):=⟨λx=>by
 obtain⟨n,f⟩:=x;show(⟨n,λi=>(bn.dec (bn.enc (f i))).1⟩:Sl α)=⟨n,f⟩;congr 1;funext i;exact rq.de (f i)⟩
variable [rq α]
theorem zbt{g:Nat->α}{r:Nat->List PV}{i:Nat}{x:α}(h:r i=bn.enc x):znn g r i=x:=by
 unfold znn nzG;rw[h,kD (oU 8) (bn.sm _ _),rq.de]
theorem jD(n:Nat)(g h:Nat->α)(i:Nat):lm n g h i=if n<=i then h (i-n)else g i:=by
 refine zbt ?_;unfold appG;cases hb:Nat.ble n i with|true=>rw[dH (qdJ hb)]|false=>rw[dM λhh=>by rw[qjQ hh]at hb;cases hb]
theorem zhG(i:Nat)(v:Sl α)(g:Nat->Sl α)(j:Nat):upG i v g j=if j=i then v else g j:=by
 unfold upG l7 zfV;cases hb:Nat.beq j i with
 | true =>
  rw[dH (kY hb)];obtain⟨n,f⟩:=v;simp only[hb];congr 1;funext q;rw[kD (oU 8) (bn.sm _ _),rq.de]
 | false =>
  rw[dM (dq4 hb)];simp only[hb];generalize g j=w;obtain⟨n,f⟩:=w;congr 1;funext q;rw[kD (oU 8) (bn.sm _ _),rq.de]
theorem zhH{β:Type}:∀(l m:List β),l.length=m.length->spl l 0 m=m:=by
 have key:∀(m pre l:List β),l.length=m.length->spl (pre++l) pre.length m=pre++m:=by
  intro m
  induction m with
  | nil=>intro pre l h;cases l with|nil=>rfl|cons=>cases h
  | cons x m ih =>
   intro pre l h;cases l with
   | nil=>cases h
   | cons y l =>
    show spl ((pre++y::l).set pre.length x) (pre.length+1) m=_;have e:(pre++y::l).set pre.length x=(pre++[x])++l:=by simp
    rw[e];have:=ih (pre++[x]) l (by simpa using h);simp only[BG,xm,X6,NR]at this;rw[this];simp
 intro l m h;exact key m [] l h
theorem Rx(i:Nat)(g:Nat->α)(x:α)(j:Nat):seG i g x j=if j=i then x else g j:=by
 refine zbt ?_;unfold zA;cases hb:Nat.beq j i with|true=>rw[dH (kY hb)];exact zhH _ _ (bn.sm (g j) x).length|false=>rw[dM (dq4 hb)]
end
end Go.Pm
namespace Go.Pm
section
variable(P:Program)(Γ:bM){A ρ:Type}(N:Nat)
def znp(fin:St->Option ρ)(K:ρ->Option A):EK A:=λe s=>match e with
 | .normal=>match fin s with|some r=>K r|none=>none
 | .ret=>match fin s with|some r=>K r|none=>none
 | _=>none
def zvC(aO:dI)(f:FuncId)(n:Nat)(g:Code->Bool)(σ:St)(fin:Func->St->Option ρ)(K:ρ->Option A):Option A :=
 match P.funcs[f]? with
 | some fn=>match fn.body with
  | some c=>match Nat.beq aO.nt fn.ntmps&&Nat.ble n aO.nt&&g c with|true=>xw P Γ N aO c (znp (fin fn) K) σ|false=>none
  | none=>none
 | none=>none
def ptG(aO:dI)(f:FuncId)(p:List Nat)(r:List znl)(fin:Func->St->Option ρ)(K:ρ->Option A)(σ:St):Option A :=
 match P.funcs[f]? with
 | some fn=>match fn.body with|some c=>atT P Γ N aO c p r (znp (fin fn) K) σ|none=>none
 | none=>none
end
theorem znq{P:Program}{Γ:bM}{A ρ:Type}{N:Nat}{aO:dI}{f:FuncId}{n:Nat}{g:Code→Bool}{σ:St}{fin:Func→St→Option ρ}{K:ρ→Option A} :
  (Zc P N Γ aO f n g σ fin).T K=zvC P Γ N aO f n g σ fin K:=by
 unfold Zc zvC;cases P.funcs[f]? with
 | none=>rfl
 | some fn =>
  simp only;cases fn.body with
  | none=>rfl
  | some c =>
   simp only;cases Nat.beq aO.nt fn.ntmps&&Nat.ble n aO.nt&&g c with
   | false=>rfl
   | true =>
    simp only;rw[LK];show(vcC P Γ N aO c _).T _=(vcC P Γ N aO c _).T _;congr 1;funext r;obtain⟨e,s⟩:=r;cases e with|normal=>simp only[znp,ae.opt];cases fin fn s<;>rfl|ret=>simp only[znp,ae.opt];cases fin fn s<;>rfl|_=>rfl
section
variable(P:Program)(Γ:bM){A ρ:Type}(N:Nat)
def znr(fin:Exit->St->Option ρ)(K:ρ->Option A):EK A:=λe s=>match fin e s with|some r=>K r|none=>none
def zns(aO:dI)(f:FuncId)(n:Nat)(g:Code->Bool)(σ:St)(fin:Func->Exit->St->Option ρ)(K:ρ->Option A):Option A :=
 match P.funcs[f]? with
 | some fn=>match fn.body with
  | some c=>match Nat.beq aO.nt fn.ntmps&&Nat.ble n aO.nt&&g c with|true=>xw P Γ N aO c (znr (fin fn) K) σ|false=>none
  | none=>none
 | none=>none
def ptM(aO:dI)(f:FuncId)(p:List Nat)(r:List znl)(fin:Func->Exit->St->Option ρ)(K:ρ->Option A)(σ:St):Option A :=
 match P.funcs[f]? with
 | some fn=>match fn.body with|some c=>atT P Γ N aO c p r (znr (fin fn) K) σ|none=>none
 | none=>none
end
theorem zbu{P:Program}{Γ:bM}{A ρ:Type}{N:Nat}{aO:dI}{f:FuncId}{n:Nat}{g:Code→Bool}{σ:St}{fin:Func→Exit→St→Option ρ}{K:ρ→Option A} :
  (zhx P N Γ aO f n g σ fin).T K=zns P Γ N aO f n g σ fin K:=by
 unfold zhx zns;cases P.funcs[f]? with
 | none=>rfl
 | some fn =>
  simp only;cases fn.body with
  | none=>rfl
  | some c =>
   simp only;cases Nat.beq aO.nt fn.ntmps&&Nat.ble n aO.nt&&g c with
   | false=>rfl
   | true =>
    simp only;rw[LK];show(vcC P Γ N aO c _).T _=(vcC P Γ N aO c _).T _;congr 1;funext r;obtain⟨e,s⟩:=r;show(ae.opt (fin fn e s)).T K=znr (fin fn) K e s;unfold znr;cases fin fn e s<;>rfl
/-! A slice of one's own. -/
variable [aG]
theorem BQ.up{h:Fz}{w:World}{base e s n:Nat}{v:Value}{g g':Nat->List PV}(hg:∀i,RL oQ (g i) (g' i))(H:BQ h w base e s v n g):BQ h w base e s v n g':=by
 obtain⟨xs,h1,h2⟩:=H;exact⟨xs,h1,λi hi=>Au (hg i) (h2 i hi)⟩
section
variable{δ α β A:Type}[dm δ][bn α][bn β]
abbrev VR:=Nat×(Nat->List PV)×List PV
def vrC(r:VR):Bool:=Ul (bn.ck (α:=β) r.2.2)&&Ul (bn.ck (α:=α) (r.2.1 0))
def vrD(r:VR):Sl α×β:=(⟨r.1,λi=>(bn.dec (r.2.1 i)).1⟩,(bn.dec r.2.2).1)
def ae.tyV(C:List PA->ae VR)(x:δ):ae (Sl α×β):=(C (dm.enc x)).bind λr=>.chk (vrC (α:=α) (β:=β) r) (.ok (vrD r))
def ae.unV(F:δ->ae (Sl α×β))(args:List PA):ae VR:=.chk (dm.ck (α:=δ) args) ((F (dm.dec args)).mp λw=>(w.1.len,λi=>bn.enc (w.1.get i),bn.enc w.2))
theorem zhI{v:Value}{xs:List Value}{rs Oz:List PV}(h:rs.length=Oz.length):Uo v xs rs=Uo v xs Oz:=by
 cases rs with
 | nil=>cases Oz with|nil=>rfl|cons=>cases h
 | cons=>cases Oz with|nil=>cases h|cons=>rfl
theorem zhJ{P:Program}{f:FuncId}{e s b:Nat}{C:List PA->ae VR}(h:jh P f (.mkv e s b C)):jh P f (.mkv e s b (ae.unV (ae.tyV C:δ->ae (Sl α×β)))):=by
 intro w hz az vs n get rs hr ha hw;obtain⟨h1,h2⟩:=ae.chk_o hr;obtain⟨w',h3,h4⟩:=ae.mp_o h2;obtain⟨⟨n',g',Oz⟩,h5,h6⟩:=ae.bind_o h3;obtain⟨h7,h8⟩:=ae.chk_o h6;have h8:=ae.ok_o h8;subst h8;cases h4;have h7:(Ul (bn.ck (α:=β) Oz)&&Ul (bn.ck (α:=α) (g' 0)))=true:=h7;rw[fH]at h7;obtain⟨hc,hk⟩:=h w hz _ vs _ _ _ h5 (dm.up ha h1) hw;refine⟨hc,hk.mono ?_⟩;rintro r w2 ⟨h',v',xs,a1,a2,a3,a4,a5,a6⟩;have e:RL oQ Oz (bn.enc (bn.dec (α:=β) Oz).1):=qC (α:=β) (g:=λ_=>Oz) (λ_ _=>xN a2) h7.1 0;exact⟨h',v',xs,by rw[a1];exact jF _ (zhI e.length),Au e a2,a3,λ_ _=>bn.sm _ _,a5.up (qC a4 h7.2),a6⟩
def zvD(k:Sl α×β->Option A)(r:VR):Option A:=match vrC (α:=α) (β:=β) r with|true=>k (vrD r)|false=>none
abbrev zvE(e s b:Nat)(fn:Func)(σ:St):Option VR:=zhw fn e s b σ
theorem zsB{P:Program}{Γ:bM}{N:Nat}{aO:dI}{f:FuncId}{e s b:Nat}{x:δ}{k:Sl α×β→Option A} :
  (ae.tyV (aK P N Γ aO f e s b) x).T k=zvC P Γ N aO f (dm.enc x).length (λ_=>true) ⟨jK 0 (dm.enc x),[],[]⟩ (zvE e s b) (zvD k):=by
 rw[<- znq];show(aK P N Γ aO f e s b (dm.enc x)).T _=_;rfl
end
/-! What is given to be changed, as typed data. -/
class XaC (α : Type) (ε : outParam Type) where
  enc:α->XA
  dec:XA->α
  ck:XA->Bool
  up:∀ [dh] {P:Program} {h:Fz} {w:World} {B:Nat} {x:XA} {v:Value},yR P h w B x v->ck x=true->yR P h w B (enc (dec x)) v/\Ur w (enc (dec x)) v=Ur w x v
  put:α->ε->XA
  out:XA->ε
  cko:α->XA->Bool
  outk:∀ [dh] {P:Program} {h h':Fz} {w w':World} {B:Nat} {a:α} {y:XA} {v:Value},yR P h w B (enc a) v->(∀p x,Rep h p x->Rep h' p x)->yR P h' w' B y v->cko a y=true ->
    yR P h' w' B (put a (out y)) v/\Ur w' (put a (out y)) v=Ur w' y v
class kP (δ : Type) (ε : outParam Type) where
  enc:δ->List XA
  dec:List XA->δ
  ck:List XA->Bool
  up:∀ [dh] {P:Program} {h:Fz} {w:World} {B:Nat} {xs:List XA} {vs:List Value},RL (yR P h w B) xs vs->ck xs=true->RL (yR P h w B) (enc (dec xs)) vs/\mW w (enc (dec xs)) vs=mW w xs vs
  put:δ->ε->List XA
  out:List XA->ε
  cko:δ->List XA->Bool
  outk:∀ [dh] {P:Program} {h h':Fz} {w w':World} {B:Nat} {a:δ} {ys:List XA} {vs:List Value},RL (yR P h w B) (enc a) vs->(∀p x,Rep h p x->Rep h' p x)->RL (yR P h' w' B) ys vs->cko a ys=true ->
    RL (yR P h' w' B) (put a (out ys)) vs/\mW w' (put a (out ys)) vs=mW w' ys vs
instance : kP Unit Unit where
  enc _:=[]
  dec _:=()
  ck l:=l.isEmpty
  up:=by
    intro _ P h w B xs vs r hc;cases xs with|nil=>exact⟨r,rfl⟩|cons=>cases hc
  put _ _:=[]
  out _:=()
  cko _ l:=l.isEmpty
  outk:=by
    intro _ P h h' w w' B a ys vs _ _ r hc;cases ys with|nil=>exact⟨r,rfl⟩|cons=>cases hc
instance {α ε δ ζ : Type} [XaC α ε] [kP δ ζ] : kP (α × δ) (ε × ζ) where
  enc x:=XaC.enc x.1::kP.enc x.2
  dec l:=(XaC.dec (l.headD (.d (.agg []))),kP.dec l.tail)
  ck l:=match l with|x::r=>XaC.ck (α:=α) x&&kP.ck (δ:=δ) r|[]=>false
  up:=by
    intro _ P h w B xs vs r hc
    match xs,vs,r,hc with
    | x::xs,v::vs,r,hc =>
      rw[Bool.and_eq_true]at hc;obtain⟨a1,a2⟩:=XaC.up r.1 hc.1;obtain⟨b1,b2⟩:=kP.up r.2 hc.2;refine⟨⟨a1,b1⟩,?_⟩;show _++_=_++_;exact congr (congrArg _ a2) b2
  put x o:=XaC.put x.1 o.1::kP.put x.2 o.2
  out l:=(XaC.out α (l.headD (.d (.agg []))),kP.out δ l.tail)
  cko a l:=match l with|x::r=>XaC.cko a.1 x&&kP.cko a.2 r|[]=>false
  outk:=by
    intro _ P h h' w w' B a ys vs ra hle r hc
    match ys,vs,ra,r,hc with
    | y::ys,v::vs,ra,r,hc =>
      rw[Bool.and_eq_true]at hc;obtain⟨a1,a2⟩:=XaC.outk ra.1 hle r.1 hc.1;obtain⟨b1,b2⟩:=kP.outk ra.2 hle r.2 hc.2;refine⟨⟨a1,b1⟩,?_⟩;show _++_=_++_;exact congr (congrArg _ a2) b2
instance {α : Type} [iR α] : XaC α Unit where
  enc x:=.d (iR.enc x)
  dec x:=match x with | .d a=>iR.dec a|_=>iR.dec (.agg [])
  ck x:=match x with | .d a=>iR.ck (α:=α) a|_=>false
  up:=by
    intro _ P h w B x v r hc
    match x,r,hc with|.d a,r,hc=>exact⟨iR.up r hc,rfl⟩
  put x _:=.d (iR.enc x)
  out _:=()
  cko _ y:=match y with | .d _=>true|_=>false
  outk:=by
    intro _ P h h' w w' B a y v ra hle r hc
    match y,r,hc with|.d b,r,hc=>exact⟨zbf hle ra,rfl⟩
structure Bc (ty : Nat) (α : Type) where
  v:α
def xcP:List XC→Option (List PV)
  | []=>some []
  | .p v::r=>match xcP r with|some l=>some (v::l)|none=>none
  | _::_=>none
theorem zhL:∀{cs:List XC}{l:List PV},xcP cs=some l->cs=l.map .p:=by
 intro cs
 induction cs with
 | nil=>intro l h;cases h;rfl
 | cons c cs ih =>
  intro l h;cases c with
  | p v =>
   unfold xcP at h;split at h;rename_i l' e;cases h;rw[ih e];rfl;cases h
  | _=>cases h
theorem zbw [dh]{P:Program}{h:Fz}{w:World}{B:Nat}:∀{l:List PV}{vs:List Value},RL (xcR P h w B) (l.map XC.p) vs↔RL (Rep h) l vs:=by
 intro l
 induction l with
 | nil=>intro vs;cases vs<;>exact Ue
 | cons x l ih=>intro vs;cases vs with|nil=>exact Ue|cons v vs=>exact and_congr Ue ih
theorem zhM:∀{l:List PV}{vs:List Value},uh (l.map XC.p) vs=[]:=by
 intro l
 induction l with
 | nil=>intro vs;cases vs<;>rfl
 | cons x l ih=>intro vs;cases vs with|nil=>rfl|cons v vs=>exact ih
theorem zhN{w:World}{ty TZ:Nat}{cs ds:List XC}{v:Value}(h:∀vs,uh cs vs=uh ds vs):Ur w (.box ty cs) v=Ur w (.box TZ ds) v:=by
 cases v with
 | pointer a=>cases a with
  | none=>rfl
  | some a =>
   show a.block::_=a.block::_;congr 1;cases w.heap[a.block]? with
   | none=>rfl
   | some o=>cases o with|cells C t l=>exact h C.toList|_=>rfl
 | _=>rfl
theorem zsC{w:World}{ty:Nat}{l m:List PV}{v:Value}:Ur w (.box ty (l.map .p)) v=Ur w (.box ty (m.map .p)) v:=zhN λ_=>by rw[zhM,zhM]
instance {ty : Nat} {α : Type} [bn α] : XaC (Bc ty α) α where
  enc x:=.box ty ((bn.enc x.v).map .p)
  dec x:=match x with | .box _ cs=>⟨(bn.dec ((xcP cs).getD [])).1⟩|_=>⟨(bn.dec []).1⟩
  ck x:=match x with | .box t cs=>Nat.beq t ty&&(match xcP cs with|some l=>Ul (bn.ck (α:=α) l)|none=>false)|_=>false
  up:=by
    intro _ P h w B x v r hc
    match x,r,hc with
    | .box t cs,r,hc =>
      rw[Bool.and_eq_true]at hc;cases Nat.eq_of_beq_eq_true hc.1;cases e:xcP cs with
      | none=>rw[e]at hc;cases hc.2
      | some l =>
        rw[e]at hc;have e2:=zhL e;subst e2;obtain⟨k,C,h1,h2,h3⟩:=r;have h3:=zbw.1 h3;have h4:RL oQ l (bn.enc (bn.dec (α:=α) l).1):=qC (α:=α) (g:=λ_=>l) (λ_ _=>xN h3) hc.2 0;refine⟨⟨k,C,h1,h2,?_⟩,?_⟩;show RL _ ((bn.enc (bn.dec (α:=α) ((xcP (l.map XC.p)).getD [])).1).map XC.p) _;rw[e];exact zbw.2 (Au h4 h3);exact zsC
  put _ o:=.box ty ((bn.enc o).map .p)
  out x:=match x with | .box _ cs=>(bn.dec ((xcP cs).getD [])).1|_=>(bn.dec []).1
  cko _ x:=match x with | .box t cs=>Nat.beq t ty&&(match xcP cs with|some l=>Ul (bn.ck (α:=α) l)|none=>false)|_=>false
  outk:=by
    intro _ P h h' w w' B a y v ra hle r hc
    match y,r,hc with
    | .box t cs,r,hc =>
      rw[Bool.and_eq_true]at hc;cases Nat.eq_of_beq_eq_true hc.1;cases e:xcP cs with
      | none=>rw[e]at hc;cases hc.2
      | some l =>
        rw[e]at hc;have e2:=zhL e;subst e2;obtain⟨k,C,h1,h2,h3⟩:=r;have h3:=zbw.1 h3;have h4:RL oQ l (bn.enc (bn.dec (α:=α) l).1):=qC (α:=α) (g:=λ_=>l) (λ_ _=>xN h3) hc.2 0;refine⟨⟨k,C,h1,h2,?_⟩,?_⟩;show RL _ ((bn.enc (bn.dec (α:=α) ((xcP (l.map XC.p)).getD [])).1).map XC.p) _;rw[e];exact zbw.2 (Au h4 h3);exact zsC
structure Bw (ty e s b : Nat) (α : Type) where
  v:Sl α
def bwE{α:Type}[bn α](ty e s b:Nat)(w:Sl α):XA:=.box ty [.vec e s b w.len λi=>bn.enc (w.get i)]
theorem zsD [dh]{P:Program}{h:Fz}{w:World}{B ty e s b n:Nat}{v:Value}{g g':Nat->List PV}(hg:∀i,RL oQ (g i) (g' i))(hu:tX g')(r:yR P h w B (.box ty [.vec e s b n g]) v):yR P h w B (.box ty [.vec e s b n g']) v:=by
 obtain⟨k,C,h1,h2,h3⟩:=r;refine⟨k,C,h1,h2,?_⟩
 match C.toList,h3 with
 | [x],h3 =>
  obtain⟨⟨a1,a2,a3,a4⟩,_⟩:=h3;exact⟨⟨a1,⟨hu,a2.2⟩,a3,a4.up hg⟩,trivial⟩
theorem zhO [dh]{P:Program}{h:Fz}{w:World}{B ty e s b n:Nat}{v:Value}{g:Nat->List PV}(r:yR P h w B (.box ty [.vec e s b n g]) v):tX g:=by
 obtain⟨k,C,h1,h2,h3⟩:=r
 match C.toList,h3 with|[x],h3=>exact h3.1.2.1.1
instance {ty e s b : Nat} {α : Type} [Inhabited α] [bn α] : XaC (Bw ty e s b α) (Sl α) where
  enc x:=bwE ty e s b x.v
  dec x:=match x with | .box _ [.vec _ _ _ n g]=>⟨⟨n,λi=>(bn.dec (g i)).1⟩⟩|_=>⟨⟨0,λ_=>default⟩⟩
  ck x:=match x with | .box t [.vec e' s' b' _ g]=>Nat.beq t ty&&(Nat.beq e' e&&(Nat.beq s' s&&(Nat.beq b' b&&Ul (bn.ck (α:=α) (g 0)))))|_=>false
  up:=by
    intro _ P h w B x v r hc
    match x,r,hc with
    | .box t [.vec e' s' b' n g],r,hc =>
      simp only[Bool.and_eq_true]at hc;cases Nat.eq_of_beq_eq_true hc.1;cases Nat.eq_of_beq_eq_true hc.2.1;cases Nat.eq_of_beq_eq_true hc.2.2.1;cases Nat.eq_of_beq_eq_true hc.2.2.2.1;exact⟨zsD (qC (zhO r) hc.2.2.2.2) (λ_ _=>bn.sm _ _) r,zhN λvs=>by cases vs<;>rfl⟩
  put _ w:=bwE ty e s b w
  out x:=match x with | .box _ [.vec _ _ _ n g]=>⟨n,λi=>(bn.dec (g i)).1⟩|_=>⟨0,λ_=>default⟩
  cko _ x:=match x with | .box t [.vec e' s' b' _ g]=>Nat.beq t ty&&(Nat.beq e' e&&(Nat.beq s' s&&(Nat.beq b' b&&Ul (bn.ck (α:=α) (g 0)))))|_=>false
  outk:=by
    intro _ P h h' w w' B a y v ra hle r hc
    match y,r,hc with
    | .box t [.vec e' s' b' n g],r,hc =>
      simp only[Bool.and_eq_true]at hc;cases Nat.eq_of_beq_eq_true hc.1;cases Nat.eq_of_beq_eq_true hc.2.1;cases Nat.eq_of_beq_eq_true hc.2.2.1;cases Nat.eq_of_beq_eq_true hc.2.2.2.1;exact⟨zsD (qC (zhO r) hc.2.2.2.2) (λ_ _=>bn.sm _ _) r,zhN λvs=>by cases vs<;>rfl⟩
structure Bs(ty f np n:Nat) where
instance {ty f np n : Nat} : XaC (Bs ty f np n) Unit where
  enc _:=.box ty [.slf f np n]
  dec _:={}
  ck x:=match x with | .box t [.slf f' np' n']=>Nat.beq t ty&&(Nat.beq f' f&&(Nat.beq np' np&&Nat.beq n' n))|_=>false
  up:=by
    intro _ P h w B x v r hc
    match x,r,hc with
    | .box t [.slf f' np' n'],r,hc =>
      simp only[Bool.and_eq_true]at hc;cases Nat.eq_of_beq_eq_true hc.1;cases Nat.eq_of_beq_eq_true hc.2.1;cases Nat.eq_of_beq_eq_true hc.2.2.1;cases Nat.eq_of_beq_eq_true hc.2.2.2;exact⟨r,rfl⟩
  put _ _:=.box ty [.slf f np n]
  out _:=()
  cko _ x:=match x with | .box t [.slf f' np' n']=>Nat.beq t ty&&(Nat.beq f' f&&(Nat.beq np' np&&Nat.beq n' n))|_=>false
  outk:=by
    intro _ P h h' w w' B a y v ra hle r hc
    match y,r,hc with
    | .box t [.slf f' np' n'],r,hc =>
      simp only[Bool.and_eq_true]at hc;cases Nat.eq_of_beq_eq_true hc.1;cases Nat.eq_of_beq_eq_true hc.2.1;cases Nat.eq_of_beq_eq_true hc.2.2.1;cases Nat.eq_of_beq_eq_true hc.2.2.2;exact⟨r,rfl⟩
structure Bm (ty kt vt : Nat) (q : MQ) where
  n:Nat
  F:List Int->Option (List Int)
instance {ty kt vt : Nat} {q : MQ} [DecidableEq MQ] : XaC (Bm ty kt vt q) (Nat × (List Int → Option (List Int))) where
  enc x:=.box ty [.mo kt vt q x.n x.F]
  dec x:=match x with | .box _ [.mo _ _ _ n F]=>⟨n,F⟩|_=>⟨0,λ_=>none⟩
  ck x:=match x with | .box t [.mo k' v' q' _ _]=>Nat.beq t ty&&(Nat.beq k' kt&&(Nat.beq v' vt&&decide (q'=q)))|_=>false
  up:=by
    intro _ P h w B x v r hc
    match x,r,hc with
    | .box t [.mo k' v' q' n F],r,hc =>
      simp only[Bool.and_eq_true]at hc;cases Nat.eq_of_beq_eq_true hc.1;cases Nat.eq_of_beq_eq_true hc.2.1;cases Nat.eq_of_beq_eq_true hc.2.2.1;cases of_decide_eq_true hc.2.2.2;exact⟨r,rfl⟩
  put _ o:=.box ty [.mo kt vt q o.1 o.2]
  out x:=match x with | .box _ [.mo _ _ _ n F]=>(n,F)|_=>(0,λ_=>none)
  cko _ x:=match x with | .box t [.mo k' v' q' _ _]=>Nat.beq t ty&&(Nat.beq k' kt&&(Nat.beq v' vt&&decide (q'=q)))|_=>false
  outk:=by
    intro _ P h h' w w' B a y v ra hle r hc
    match y,r,hc with
    | .box t [.mo k' v' q' n F],r,hc =>
      simp only[Bool.and_eq_true]at hc;cases Nat.eq_of_beq_eq_true hc.1;cases Nat.eq_of_beq_eq_true hc.2.1;cases Nat.eq_of_beq_eq_true hc.2.2.1;cases of_decide_eq_true hc.2.2.2;exact⟨r,rfl⟩
class NpC (ρ : Type) [dm ρ] : Prop where
  np:∀{l:List PA},dm.ck (α:=ρ) l=true->EX l=none/\EX (dm.enc (dm.dec l:ρ))=none
instance:NpC Unit:=⟨fun {l} h=>by cases l with|nil=>exact⟨rfl,rfl⟩|cons=>cases h⟩
instance:NpC Int:=⟨fun {l} h=>by
 match l,h with
 | [.one v],h=>cases v with
  | int k x=>cases k<;>first|exact⟨rfl,rfl⟩|cases h
  | _=>cases h
 | [.agg _],h=>cases h
 | [],h=>cases h
 | _::_::_,h=>cases h⟩
section
variable{δ ε ρ A:Type}[kP δ ε][dm ρ][NpC ρ]
def ae.tyM(C:MK)(x:δ):ae (ρ×ε):=(C (kP.enc x)).bind λr=>.chk (dm.ck (α:=ρ) r.1&&kP.cko x r.2) (.ok (dm.dec r.1,kP.out δ r.2))
def ae.unM(F:δ->ae (ρ×ε)):MK:=λxs=>.chk (kP.ck (δ:=δ) xs) ((F (kP.dec xs)).mp λr=>(dm.enc r.1,kP.put (kP.dec xs:δ) r.2))
theorem zhP{P:Program}{f:FuncId}{C:MK}(H:iM P f C):iM P f (ae.unM (ae.tyM C:δ->ae (ρ×ε))):=by
 intro _ xs ys rs hr w h base vs hv hs hn hb hw jw;obtain⟨h1,h2⟩:=ae.chk_o hr;obtain⟨⟨r,o⟩,h3,h4⟩:=ae.mp_o h2;obtain⟨⟨Oz,oN⟩,h5,h6⟩:=ae.bind_o h3;obtain⟨h7,h8⟩:=ae.chk_o h6;cases ae.ok_o h8;cases h4;rw[fH]at h7;obtain⟨u1,u2⟩:=kP.up hv h1;have:=H _ _ _ h5 w h base vs u1 hs (by rw[u2];exact hn) (by rw[u2];exact hb) hw jw;refine⟨this.1,this.2.mono ?_⟩;rintro e w' ⟨h',a2,a3,a4,a5,a6,a7,a8,a9⟩;rw[u2]at a5 a8 a9;obtain⟨b1,b2⟩:=kP.outk u1 (λ_ _ r=>Rep.mono a6 r) a3 h7.2;refine⟨h',?_,b1,?_,?_,a6,a7,a8,a9⟩;obtain⟨q1,q2⟩:=NpC.np h7.1;unfold Oa at a2 ⊢;rw[q1]at a2;rw[q2];obtain⟨v,a1,a2⟩:=a2;exact⟨v,a1,Dj (λvs jI=>dm.up jI h7.1) a2⟩;show(mW w' (kP.put _ _) vs).Nodup;rw[b2];exact a4;show ∀b∈mW w' (kP.put _ _) vs,_;rw[b2];exact a5
def zC7(x:δ)(k:ρ×ε->Option A)(r:List PA×List XA):Option A:=match dm.ck (α:=ρ) r.1&&kP.cko x r.2 with|true=>k (dm.dec r.1,kP.out δ r.2)|false=>none
omit [NpC ρ]in
theorem zsE{P:Program}{Γ:bM}{N:Nat}{aO:dI}{f:FuncId}{x:δ}{k:ρ×ε→Option A} :
    (ae.tyM (fun xs => aM P N Γ aO f xs) x).T k = zns P Γ N aO f (kP.enc x).length (fun c => lu ((gV 0 (kP.enc x)).map (·.1)) && wX (sS 0 (kP.enc x)) (kP.enc x) && mY (sS 0 (kP.enc x)) (dP c))
      ⟨Iz 0 (kP.enc x),gV 0 (kP.enc x),[]⟩ (zhz P (kP.enc x)) (zC7 x k):=by
  rw[<- zbu];rfl
end
/-! A function without results that may panic. -/
section
variable{δ ε A:Type}[kP δ ε]{ty:Nat}
def pnD(ty:Nat):List PA→Option (Bool×Int)
  | []=>some (false,0)
  | [.one (.fna f [.int .i64 t,.int .i64 n])]=>match Nat.beq f 4294967295&&decide (t=ty)with|true=>some (true,n)|false=>none
  | _=>none
theorem zvF{l:List PA}{q:Bool×Int}(h:pnD ty l=some q):l=cond q.1 (zuR ty .i64 q.2) []:=by
 unfold pnD at h;split at h;cases h;rfl;split at h;rename_i f t n hc;cases h;rw[fH]at hc;cases kY hc.1;rw[qde hc.2];rfl;cases h;cases h
def ae.tyP(ty:Nat)(C:MK)(x:δ):ae ((Bool×Int)×ε):=(C (kP.enc x)).bind λr=>match pnD ty r.1 with|some q=>.chk (kP.cko x r.2) (.ok (q,kP.out δ r.2))|none=>.no
def ae.unP(ty:Nat)(F:δ->ae ((Bool×Int)×ε)):MK:=λxs=>.chk (kP.ck (δ:=δ) xs) ((F (kP.dec xs)).bind λr=>.ite r.1.1 (.ok (zuR ty .i64 r.1.2,kP.put (kP.dec xs:δ) r.2)) (.ok ([],kP.put (kP.dec xs:δ) r.2)))
theorem zvG{P:Program}{f:FuncId}{C:MK}(H:iM P f C):iM P f (ae.unP ty (ae.tyP ty C:δ->ae ((Bool×Int)×ε))):=by
 intro _ xs ys rs hr w h base vs hv hs hn hb hw jw;obtain⟨h1,h2⟩:=ae.chk_o hr;obtain⟨⟨q,o⟩,h3,h4⟩:=ae.bind_o h2;obtain⟨⟨Oz,oN⟩,h5,h6⟩:=ae.bind_o h3;simp only at h6;split at h6
 rotate_left
 exact(ae.no_o h6).elim;rename_i q' hq;obtain⟨h7,h8⟩:=ae.chk_o h6;cases ae.ok_o h8;have h4:rs=Oz/\ys=kP.put (kP.dec xs:δ) (kP.out δ oN):=by
  have e:=zvF hq;obtain⟨b,n⟩:=q;cases b with|true=>cases ae.ok_o h4;exact⟨e.symm,rfl⟩|false=>cases ae.ok_o h4;exact⟨e.symm,rfl⟩
 obtain⟨rfl,rfl⟩:=h4;obtain⟨u1,u2⟩:=kP.up hv h1;have:=H _ _ _ h5 w h base vs u1 hs (by rw[u2];exact hn) (by rw[u2];exact hb) hw jw;refine⟨this.1,this.2.mono ?_⟩;rintro e w' ⟨h',a2,a3,a4,a5,a6,a7,a8,a9⟩;rw[u2]at a5 a8 a9;obtain⟨b1,b2⟩:=kP.outk u1 (λ_ _ r=>Rep.mono a6 r) a3 h7;refine⟨h',a2,b1,?_,?_,a6,a7,a8,a9⟩;show(mW w' (kP.put _ _) vs).Nodup;rw[b2];exact a4;show ∀b∈mW w' (kP.put _ _) vs,_;rw[b2];exact a5
def znt(ty:Nat)(x:δ)(k:(Bool×Int)×ε->Option A)(r:List PA×List XA):Option A:=match pnD ty r.1 with
 | some q=>match kP.cko x r.2 with|true=>k (q,kP.out δ r.2)|false=>none
 | none=>none
theorem zC8{P:Program}{Γ:bM}{N:Nat}{aO:dI}{f:FuncId}{x:δ}{k:(Bool×Int)×ε→Option A} :
    (ae.tyP ty (fun xs => aM P N Γ aO f xs) x).T k = zns P Γ N aO f (kP.enc x).length (fun c => lu ((gV 0 (kP.enc x)).map (·.1)) && wX (sS 0 (kP.enc x)) (kP.enc x) && mY (sS 0 (kP.enc x)) (dP c))
      ⟨Iz 0 (kP.enc x),gV 0 (kP.enc x),[]⟩ (zhz P (kP.enc x)) (znt ty x k):=by
  rw[<- zbu];show(aM P N Γ aO f (kP.enc x)).T _=(aM P N Γ aO f (kP.enc x)).T _;congr 1;funext r;show ae.T (match pnD ty r.1 with|some q=>.chk (kP.cko x r.2) (.ok (q,kP.out δ r.2))|none=>.no) k=znt ty x k r;unfold znt;cases pnD ty r.1<;>rfl
end
/-! One function for two closures. -/
section
variable{α β γ ρ:Type}[iR α][iR β][iR γ][dm ρ]
def ae.two(F:α×β->ae ρ)(G:α×γ->ae ρ)(x:α×(β ⊕ γ)):ae ρ:=match x.2 with | .inl b=>F (x.1,b) | .inr c=>G (x.1,c)
theorem zhQ{args:List PA}(h:dm.ck (α:=α×(β ⊕ γ)) args=true):(dm.ck (α:=α×β) args=true/\(dm.dec args:α×(β ⊕ γ))=((dm.dec args:α×β).1,.inl (dm.dec args:α×β).2))\/dm.ck (α:=α×γ) args=true/\(dm.dec args:α×(β ⊕ γ))=((dm.dec args:α×γ).1,.inr (dm.dec args:α×γ).2):=by
 match args,h with
 | [a,b],h =>
  have h:(iR.ck (α:=α) a&&iR.ck (α:=β ⊕ γ) b)=true:=h;rw[fH]at h;have h2:(iR.ck (α:=β) b||iR.ck (α:=γ) b)=true:=h.2;cases hb:iR.ck (α:=β) b with
  | true =>
   refine .inl ⟨fH _ _▸⟨h.1,hb⟩,?_⟩;show(iR.dec a,(match iR.ck (α:=β) b with|true=>Sum.inl (iR.dec b)|false=>Sum.inr (iR.dec b):β ⊕ γ))=_;rw[hb];rfl
  | false =>
   rw[hb]at h2;refine .inr ⟨fH _ _▸⟨h.1,h2⟩,?_⟩;show(iR.dec a,(match iR.ck (α:=β) b with|true=>Sum.inl (iR.dec b)|false=>Sum.inr (iR.dec b):β ⊕ γ))=_;rw[hb];rfl
 | [a],h=>have h:(iR.ck (α:=α) a&&false)=true:=h;rw[qdW]at h;cases h
 | a::b::c::r,h=>have h:(iR.ck (α:=α) a&&false)=true:=h;rw[qdW]at h;cases h
theorem zvH{F:α×β->ae ρ}{G:α×γ->ae ρ}{args:List PA}{rs:List PA}(hr:(ae.un (ae.two F G) args).o=some rs):(ae.un F args).o=some rs\/(ae.un G args).o=some rs:=by
 obtain⟨h1,h2⟩:=ae.chk_o hr;rcases zhQ h1 with⟨a,b⟩|⟨a,b⟩
 rw[b]at h2;left;unfold ae.un;rw[a];exact h2;rw[b]at h2;right;unfold ae.un;rw[a];exact h2
theorem sV{P:Program}{f:FuncId}{F:α×β->ae ρ}{G:α×γ->ae ρ}(h1:Ok P f (ae.un F))(h2:Ok P f (ae.un G)):Ok P f (ae.un (ae.two F G)):=by
 intro args rs hr;rcases zvH hr with h|h
 exact h1 args rs h;exact h2 args rs h
theorem znu{τ υ:Type}[bn τ][bn υ]{P:Program}{f:FuncId}{e s b:Nat}{F:α×β->ae (Sl τ×υ)}{G:α×γ->ae (Sl τ×υ)}(h1:jh P f (.mkv e s b (ae.unV F)))(h2:jh P f (.mkv e s b (ae.unV G))):jh P f (.mkv e s b (ae.unV (ae.two F G))):=by
 intro w hz az vs n get rs hr;obtain⟨a1,a2⟩:=ae.chk_o hr;rcases zhQ a1 with⟨a,b⟩|⟨a,b⟩
 rw[b]at a2;exact h1 w hz az vs n get rs (by unfold ae.unV;rw[a];exact a2);rw[b]at a2;exact h2 w hz az vs n get rs (by unfold ae.unV;rw[a];exact a2)
end
/-! Sorts of typed data. -/
section
variable{α:Type}[bn α]
def sW(w:Sl α)(i:Nat):List PV:=bn.enc (w.get i)
def soP(C:List PA->ae (List PA))(caps:List PV)(ag:Bool)(w:Sl α):Bool:=(zuO w.len (λi j=>(JG C caps ag (sW w) i j).isSome) (nH C caps ag (sW w))).b
def soG(C:List PA->ae (List PA))(caps:List PV)(ag:Bool)(w:Sl α):Nat->α:=λi=>(bn.dec (JH w.len (nH C caps ag (sW w)) (sW w) i)).1
end
end Go.Pm
namespace Go.Pm
variable [aG]
open Go.RowKit (Below)
structure pY where
  t1:Nat
  y1:TypeId
  t2:Nat
  y2:TypeId
  e:Bool
  ty:TypeId
def pY.ok(pr:pY):List PanicEntry→Bool|[⟨.iface ty (.agg ⟨[.int _ _]⟩),false,false⟩]=>Nat.beq ty pr.ty|_=>false
def zdL:List PanicEntry→List PanicEntry
  | [x]=>[{x with recovered:=true}]
  | l=>l
def stA (pr : pY) : Oper := { dst := none, op := .store pr.y1 (.tmp pr.t1) (.const (.slice none 0 0)), type := 0, pos := "", after := #[], guard := none }
def stB (pr : pY) : Oper := { dst := none, op := .store pr.y2 (.tmp pr.t2) (.const (.bool pr.e)), type := 0, pos := "", after := #[], guard := none }
def rM(pr:pY):Array Oper:=#[stA pr,stB pr]
section
variable(P:Program)(Γ:bM)
def AX(pr:pY)(fi:FuncId):Code→Option (Nat×Nat)
  | .region id ops false=>match ops.toList with
    | [o1,o2]=>match o1.op,o1.dst,o1.guard,o2.op,o2.dst,o2.guard with
      | .makeFunc (.func f) first caps,some t,none,.defer {callee:=.value (.tmp t'),args,argTypes:=_},none,none=>match caps.toList with
        | [.tmp c1,.tmp c2]=>match Nat.beq f fi&&Nat.beq t t'&&first.isEmpty&&args.isEmpty&&Nat.beq c1 pr.t1&&Nat.beq c2 pr.t2 && !Nat.beq t pr.t1 && !Nat.beq t pr.t2 with|true=>some (id,t)|false=>none
        | _=>none
      | _,_,_,_,_,_=>none
    | _=>none
  | _=>none
def pnK(dn:Bool)(K:Exit->St->Prop)(e:Exit)(s:St):Prop:=match e with
 | .panic ch=>match dn with|true=>K (.panic ch) s|false=>False
 | e=>K e s
def pnC(dn:Bool):Exit×St→ae (Exit×St)
  | (.panic ch,s)=>match dn with|true=>.ok (.panic ch,s)|false=>.no
  | r=>.ok r
def zZ(pr:pY)(fi:FuncId)(aO:dI):Bool→Code→(Exit→St→Prop)→St→Prop
  | dn,.seq a b,K,σ=>match AX pr fi a with
    | some (id,t)=>match Nat.blt t aO.nt && !dn&&mY [pr.t1,pr.t2] (dP b)with|true=>zcX P aO id (zZ pr fi aO true b K) ⟨(t,.junk)::σ.env,σ.ay,[]⟩|false=>False
    | none=>vc P Γ aO a (zc0 (zZ pr fi aO dn b K) (pnK dn K)) σ
  | dn,c,K,σ=>vc P Γ aO c (pnK dn K) σ
def seC(dn:Bool)(go:St→ae (Exit×St)):Exit×St→ae (Exit×St)|(.normal,s)=>go s|r=>pnC dn r
def sZ(N:Nat)(pr:pY)(fi:FuncId)(aO:dI):Bool→Code→St→ae (Exit×St)
  | dn,.seq a b,σ=>match AX pr fi a with
    | some (id,t)=>match Nat.blt t aO.nt && !dn&&mY [pr.t1,pr.t2] (dP b)with|true=>(Dh P aO id ⟨(t,.junk)::σ.env,σ.ay,[]⟩).bind (sZ N pr fi aO true b)|false=>.no
    | none=>(vcC P Γ N aO a σ).bind (seC dn (sZ N pr fi aO dn b))
  | dn,c,σ=>(vcC P Γ N aO c σ).bind (pnC dn)
def zhR(pr:pY)(aO:dI)(fn:Func):Exit×St→ae (List PA)
  | (.normal,s)=>.opt (kJ P s fn.results.toList)
  | (.ret,s)=>.opt (kJ P s fn.results.toList)
  | (.panic ch,s)=>match pr.ok ch with
    | true=>(oG P Γ aO.nt (rM pr) 0 (rM pr).toList {s with log:=[]}).bind λs=>.opt (kJ P s fn.results.toList)
    | false=>.no
  | _=>.no
def aD(N:Nat)(pr:pY)(fi:FuncId)(aO:dI)(f:FuncId)(args:List PA):ae (List PA) :=
 match P.funcs[f]? with
 | some fn=>match fn.body with
  | some c=>match Nat.beq aO.nt fn.ntmps&&Nat.ble args.length aO.nt&&mY [GG] (dP c)with|true=>(sZ P Γ N pr fi aO false c ⟨jK 0 args,[],[]⟩).bind (zhR P Γ pr aO fn)|false=>.no
  | none=>.no
 | none=>.no
def zvI(pr:pY)(aO:dI)(fn:Func)(K:List PA→Prop):Exit→St→Prop
  | .ret,σ=>Ar P fn K σ
  | .normal,σ=>Ar P fn K σ
  | .panic ch,σ=>pr.ok ch=true/\jQ P Γ aO.nt (rM pr) 0 (rM pr).toList (Ar P fn K) {σ with log:=[]}
  | _,_=>False
def Ry(pr:pY)(fi:FuncId)(aO:dI)(f:FuncId)(args:List PA)(K:List PA->Prop):Prop :=
 match P.funcs[f]? with
 | some fn=>match fn.body with
  | some c=>match Nat.beq aO.nt fn.ntmps&&Nat.ble args.length aO.nt&&mY [GG] (dP c)with|true=>zZ P Γ pr fi aO false c (zvI P Γ pr aO fn K) ⟨jK 0 args,[],[]⟩|false=>False
  | none=>False
 | none=>False
end
section
variable{P:Program}{Γ:bM}{B:Nat}{w0:World}{pr:pY}
abbrev dfD(fi:FuncId)(v1 v2:Value):Deferred:={target:=.fn (.func fi) #[v1,v2],args:=#[]}
theorem LV{fi:FuncId}{c:Code}{id t:Nat}(h:AX pr fi c=some (id,t)):∃(o1 o2:Oper)(ats:Array TypeId),c=.region id #[o1,o2] false/\t≠pr.t1/\t≠pr.t2/\o1.op=.makeFunc (.func fi) #[] #[.tmp pr.t1,.tmp pr.t2]/\o1.dst=some t/\o1.guard=none /\
  o2.op=.defer {callee:=.value (.tmp t),args:=#[],argTypes:=ats}/\o2.dst=none/\o2.guard=none:=by
 unfold AX at h;split at h;rename_i id' ops;split at h;rename_i o1 o2 zAd;split at h;rename_i f first caps t' t2 args ats e1 e2 e3 e4 e5 e6
 split at h;rename_i c1 c2 zC9;split at h;rename_i hc;simp only[fH]at hc;simp only[bG,fJ]at h;obtain⟨rfl,rfl⟩:=h;obtain⟨⟨⟨⟨⟨⟨⟨h1,h2⟩,h3⟩,h4⟩,h5⟩,h6⟩,h7⟩,h8⟩:=hc;have h1:=kY h1;have h2:=kY h2;have h3:first = #[]:=by simpa using h3
 have h4:args = #[]:=by simpa using h4
 have h5:=kY h5;have h6:=kY h6;have h7:t'≠pr.t1:=dq4 (by simpa using h7);have h8:t'≠pr.t2:=dq4 (by simpa using h8);have h9:caps = #[.tmp c1,.tmp c2]:=by rw[<- qdh (xs:=caps),zC9]
 subst h1 h2 h3 h4 h9;rw[h5,h6]at e1;refine⟨o1,o2,ats,?_,h7,h8,e1,e2,e3,e4,e5,e6⟩;rw[<- qdh (xs:=ops),zAd];cases h;cases h;cases h;cases h;cases h
theorem Ze{fi:FuncId}(zlr:∀caps:Array Value,caps.size=2→GH P {target := .fn (.func fi) caps,args := #[]}){c:Code}{id t nt n:Nat}{h0:Fz}{a:Act}{σ:St}{g:Gh}{w:World}{Q:Exit→Act→World→Prop}
    (h:AX pr fi c=some (id,t)) (ht:t<nt) (S:bK P nt B w0 h0 g σ a w)
    (hQ:∀a',bK P nt B w0 h0 g ⟨(t,.junk)::σ.env,σ.ay,[]⟩ a' w->a'.defers=dfD fi (a.tmps.getD pr.t1 undef) (a.tmps.getD pr.t2 undef)::a.defers->(∀u,u≠t->a'.tmps.getD u undef=a.tmps.getD u undef)->Q .normal a' w):c.wpIn (FR none) n P Q a w:=by
  obtain⟨o1,o2,ats,rfl,n1,n2,e1,e2,e3,e4,e5,e6⟩:=LV h;refine wpIn_region ?_;show wpOpsIn (FR none) n P #[o1,o2] Q [0,1] a w;have w1:∀tm,Region.wanted o1 (yielded #[o1,o2] tm)=true:=λtm=>by simp[Region.wanted,e3]
  have w2:∀tm,Region.wanted o2 (yielded #[o1,o2] tm)=true:=λtm=>by simp[Region.wanted,e6]
  have r1:(execOp a.eval o1).run P w=.ok (.value (.func (.func fi) #[] #[a.tmps.getD pr.t1 undef,a.tmps.getD pr.t2 undef])) w:=by
    simp only[execOp,e1,Instr.makeFunc,Sem.run_bind,Sem.run_pure,Result.andThen_ok];simp[Act.eval]
  have ets:t<a.tmps.size:=qdi ht S.size;have ev:(a.put (some t) (.func (.func fi) #[] #[a.tmps.getD pr.t1 undef,a.tmps.getD pr.t2 undef])).eval (.tmp t)=.func (.func fi) #[] #[a.tmps.getD pr.t1 undef,a.tmps.getD pr.t2 undef]:=by
    simp[Act.put,Act.eval,yP,ets]
  have r2:(execOp (a.put (some t) (.func (.func fi) #[] #[a.tmps.getD pr.t1 undef,a.tmps.getD pr.t2 undef])).eval o2).run P w=.ok (.defer (dfD fi (a.tmps.getD pr.t1 undef) (a.tmps.getD pr.t2 undef))) w:=by
    simp only[execOp,e4,resolve,Sem.run_bind,ev,Deferred.ofValue,Sem.run_pure,Result.andThen_ok];simp
  show(if Region.wanted o1 (yielded #[o1,o2] a.tmps)then o1.wpIn (FR none) n P a w (wpOpsIn (FR none) n P #[o1,o2] Q [1]) Q else _);rw[dH (w1 _)];refine⟨λ_ _=>trivial,?_⟩;rw[show o1.semAt (FR none).round a.eval=execOp a.eval o1 from rfl,r1];show wpOpsIn (FR none) n P #[o1,o2] Q [1] (a.put o1.dst _) w;rw[e2];show(if Region.wanted o2 (yielded #[o1,o2] (a.put (some t) _).tmps)then o2.wpIn (FR none) n P (a.put (some t) _) w (wpOpsIn (FR none) n P #[o1,o2] Q []) Q else _);rw[dH (w2 _)];refine⟨λ_ _=>trivial,?_⟩;have r3:Sem.run P (o2.semAt (FR none).round (a.put (some t) (.func (.func fi) #[] #[a.tmps.getD pr.t1 undef,a.tmps.getD pr.t2 undef])).eval) w=.ok (.defer (dfD fi (a.tmps.getD pr.t1 undef) (a.tmps.getD pr.t2 undef))) w:=r2;rw[r3];have S1:=S.put (dst:=some t) (d:=.junk) (v:=.func (.func fi) #[] #[a.tmps.getD pr.t1 undef,a.tmps.getD pr.t2 undef]) (by simpa [dA,qd6]using ht) trivial (λL hL=>by simp[bQ,dw,aY]at hL) [];rw[Oper.uponIn_defer,e5];refine hQ _ (S1.act ?_ ?_ ?_) rfl λu hu=>?_;obtain⟨es,m1,m2,m3,m4⟩:=S1.dfr;refine⟨.inr (dfD fi (a.tmps.getD pr.t1 undef) (a.tmps.getD pr.t2 undef))::es,m1,?_,λE hE=>?_,λd hd=>?_⟩;rw[nU,<- m2];rfl;rcases jW.1 hE with e|hE
  cases e;exact m3 E hE;rcases jW.1 hd with e|hd
  cases e;exact zlr _ rfl;exact m4 d hd;exact S1.size;exact S1.env;simp[Act.put,yP,qdv (qjL hu)]
def Jh(P:Program)(nt B:Nat)(w0:World)(h0:Fz)(pr:pY)(fi:FuncId)(K:Exit->St->Prop):Exit->Act->World->Prop :=
 λe a' w'=>∃g' σ',K e σ'/\bK P nt B w0 h0 g' σ' a' w'/\∀ch,e=.panic ch->a'.defers=[dfD fi (a'.tmps.getD pr.t1 undef) (a'.tmps.getD pr.t2 undef)]
def PhD(pr:pY)(fi:FuncId)(D:List Nat)(a0:Act):Bool→Prop|false=>a0.defers=[]|true=>a0.defers=[dfD fi (a0.tmps.getD pr.t1 undef) (a0.tmps.getD pr.t2 undef)]/\pr.t1∉D/\pr.t2∉D
theorem zbx{a b:List Nat}(h:mY a b=true):∀t∈a,t∉b:=λt ht hb=>by
 have:=Aj.1 h t ht;simp at this;exact this hb
theorem znv(fK:jk P Γ){fi:FuncId}(zlr:∀caps:Array Value,caps.size=2→GH P {target := .fn (.func fi) caps,args := #[]})
    (aO:dI):∀(c:Code)(dn:Bool)(n:Nat)(h0:Fz)(D:List Nat)(a0:Act)(K:Exit->St->Prop)(σ:St)(g:Gh)(a:Act)(w:World),
    (∀t∈dP c,t∈D)->GG∉D->PhD pr fi D a0 dn->zZ P Γ pr fi aO dn c K σ->bK P aO.nt B w0 h0 g σ a w->Kp D a0 a->c.wpIn (FR none) n P (Jh P aO.nt B w0 h0 pr fi K) a w:=by
  intro c;have out:∀{dn:Bool}{h0:Fz}{D:List Nat}{a0:Act}{K:Exit->St->Prop}{g':Gh}{σ':St}{a':Act}{w':World}{e:Exit},GG∉D->PhD pr fi D a0 dn->pnK dn K e σ'->bK P aO.nt B w0 h0 g' σ' a' w'->Kp D a0 a'->Jh P aO.nt B w0 h0 pr fi K e a' w':=by
    intro dn h0 D a0 K g' σ' a' w' e hr hph hK S' hk;cases e with
    | panic ch =>
      cases dn with
      | false=>exact hK.elim
      | true =>
        obtain⟨p1,p2,p3⟩:=hph;exact⟨g',σ',hK,S',λ_ _=>by rw[hk.2.2.1 hr,p1,hk.1 _ p2,hk.1 _ p3]⟩
    | normal=>exact⟨g',σ',hK,S',λ_ e=>by cases e⟩
    | exit id=>exact⟨g',σ',hK,S',λ_ e=>by cases e⟩
    | goto l=>exact⟨g',σ',hK,S',λ_ e=>by cases e⟩
    | ret=>exact⟨g',σ',hK,S',λ_ e=>by cases e⟩
    | outgrown=>exact⟨g',σ',hK,S',λ_ e=>by cases e⟩
  have leaf:∀(c:Code),(∀dn K σ,zZ P Γ pr fi aO dn c K σ=vc P Γ aO c (pnK dn K) σ)->∀(dn:Bool)(n:Nat)(h0:Fz)(D:List Nat)(a0:Act)(K:Exit->St->Prop)(σ:St)(g:Gh)(a:Act)(w:World),
      (∀t∈dP c,t∈D)->GG∉D->PhD pr fi D a0 dn->zZ P Γ pr fi aO dn c K σ->bK P aO.nt B w0 h0 g σ a w->Kp D a0 a->c.wpIn (FR none) n P (Jh P aO.nt B w0 h0 pr fi K) a w:=by
    intro c hc dn n h0 D a0 K σ g a w hD hr hph h S kQ;rw[hc]at h;exact wpIn_mono (uw (Rh fK aO c none n h0 D a0 _ σ g a w hD (Rnd.none h0) h S kQ)) λe a' w' ⟨g',σ',hK,S',hk⟩=>out hr hph hK S' hk
  induction c with
  | seq x y _ X9 =>
    intro dn n h0 D a0 K σ g a w hD hr hph h S kQ;have hDx:∀t∈dP x,t∈D:=λt ht=>hD t (dG.2 (.inl ht));have hDy:∀t∈dP y,t∈D:=λt ht=>hD t (dG.2 (.inr ht));simp only[zZ]at h;split at h;rename_i id t EJ;split at h;rename_i jv;simp only[fH,NQ]at jv;obtain⟨⟨ht,hdn⟩,hdj⟩:=jv;subst hdn;have ht:t<aO.nt:=by simpa [qd6]using ht
    have hph:a0.defers=[]:=hph;refine wpIn_seq (Ze zlr EJ ht S λa' S' fD htm=>?_);have hd:=zbx hdj;obtain⟨_,_,_,rfl,n1,n2,_⟩:=LV EJ;have zLq:PhD pr fi (dP y) a' true:=by
      refine⟨?_,hd _ (by simp),hd _ (by simp)⟩;rw[fD,kQ.2.2.1 hr,hph,htm _ (qjL n1),htm _ (qjL n2)]
    have hk:∀s g2,zZ P Γ pr fi aO true y K s->bK P aO.nt B w0 h0 g2 s a' w->y.wpIn (FR none) n P (Jh P aO.nt B w0 h0 pr fi K) a' w:=λs g2 hv S2 =>
      X9 true n h0 (dP y) a' K s g2 a' w (λ_ h=>h) (λh=>hr (hDy _ h)) zLq hv S2 (Kp.refl _ _)
    unfold zcX at h;split at h;split at h;rename_i s hs;obtain⟨g2,S2⟩:=dR hs S';exact hk s g2 h S2;exact h.elim;exact hk _ g h S';exact h.elim
    · refine wpIn_seq (wpIn_mono (uw (Rh fK aO x none n h0 D a0 _ σ g a w hDx (Rnd.none h0) h S kQ)) ?_);rintro e a' w' ⟨g',σ',hK,S',je⟩;cases e with|normal=>exact X9 dn n h0 D a0 K σ' g' a' w' hDy hr hph hK S' je|exit id=>exact out hr hph hK S' je|goto l=>exact out hr hph hK S' je|ret=>exact out hr hph hK S' je|panic ch=>exact out hr hph hK S' je|outgrown=>exact out hr hph hK S' je
  | skip=>exact leaf _ λdn K σ=>rfl
  | region i o d=>exact leaf _ λdn K σ=>rfl
  | cond c x y=>exact leaf _ λdn K σ=>rfl
  | block i x=>exact leaf _ λdn K σ=>rfl
  | loop x=>exact leaf _ λdn K σ=>rfl
  | scope x=>exact leaf _ λdn K σ=>rfl
  | exit i=>exact leaf _ λdn K σ=>rfl
  | goto i=>exact leaf _ λdn K σ=>rfl
  | label i=>exact leaf _ λdn K σ=>rfl
  | ret=>exact leaf _ λdn K σ=>rfl
  | rangeFunc f p x y=>exact leaf _ λdn K σ=>rfl
  | refuse x=>exact leaf _ λdn K σ=>rfl
theorem znw{n:Nat}{a:Act}{w:World}{Q:Exit→Act→World→Prop}(h:wpOpsIn (FR none) n P (rM pr) Q [0,1] a w)(hQ:∀ch a' w',¬Q (.panic ch) a' w') :
  ∃w1 w2,(Instr.storeAt pr.y1 (a.tmps.getD pr.t1 undef) (.slice none 0 0)).run P w=.ok () w1/\(Instr.storeAt pr.y2 (a.tmps.getD pr.t2 undef) (.bool pr.e)).run P w1=.ok () w2/\Q .normal a w2:=by
 have one:∀(o:Oper)(ty:TypeId)(t:Nat)(v:Value)(w:World)(next:Act->World->Prop),o.op=.store ty (.tmp t) (.const v)->o.dst=none->o.wpIn (FR none) n P a w next Q->∃w1,(Instr.storeAt ty (a.tmps.getD t undef) v).run P w=.ok () w1/\next a w1:=by
  intro o ty t v w next ho hd h
  obtain⟨_,h⟩:=h;have e:o.semAt (FR none).round a.eval=(do Instr.storeAt ty (a.tmps.getD t undef) v;pure .skip):=by
   show execOp a.eval o=_;simp only[execOp,ho];rfl
  rw[e]at h;simp only[Sem.run_bind]at h;cases hr:(Instr.storeAt ty (a.tmps.getD t undef) v).run P w with
  | ok u w1 =>
   rw[hr]at h;simp only[Result.andThen_ok,Sem.run_pure,Oper.uponIn_skip,hd]at h;exact⟨w1,rfl,h⟩
  | halt hh w1 =>
   rw[hr]at h;cases hh with|panic v=>exact(hQ _ _ _ h).elim|_=>exact h.elim
 have w1:∀(o:Oper) tm,o.guard=none->Region.wanted o (yielded (rM pr) tm)=true:=λo tm e3=>by simp[Region.wanted,e3]
 have e0:(rM pr)[0]? = some (stA pr):=rfl;have e1:(rM pr)[1]? = some (stB pr):=rfl;simp only[wpOpsIn,e0,e1]at h;rw[dH (w1 _ _ rfl)]at h;obtain⟨wa,hr1,h⟩:=one _ _ _ _ _ _ rfl rfl h;rw[dH (w1 _ _ rfl)]at h;obtain⟨wb,hr2,h⟩:=one _ _ _ _ _ _ rfl rfl h;exact⟨wa,wb,hr1,hr2,h⟩
def zDa(P:Program)(pr:pY)(fi:FuncId):Prop:=∀(ch:List PanicEntry),pr.ok ch=true->∀(v1 v2:Value)(w:World),∃os:Array Obj,∀w1 w2,(Instr.storeAt pr.y1 v1 (.slice none 0 0)).run P {w with heap:=w.heap++os} = .ok () w1->(Instr.storeAt pr.y2 v2 (.bool pr.e)).run P w1=.ok () w2 ->
 (∀w,(invoke (dfD fi v1 v2).target (dfD fi v1 v2).args).run P w=.ok (.enter fi #[v1,v2]) w) /\
 ∀n,CallsDIn (FR none) n P fi #[v1,v2] (.panicking ch) w λe u' w'=>(∃v,e=.returned v)/\u'=.panicking (zdL ch)/\w'=w2
structure zvJ (P : Program) (pr : pY) (fi : FuncId) : Prop where
  idle:∀caps:Array Value,caps.size=2->GH P {target:=.fn (.func fi) caps,args:=#[]}
  pan:zDa P pr fi
theorem Zf{ch:List PanicEntry}(h:pr.ok ch=true):settle (.panicking (zdL ch))=.returning:=by
 unfold pY.ok at h;split at h;rfl;cases h
theorem zhS{G:bM}(fK:jk P G){f fi:FuncId}(H:zvJ P pr fi){args:List PA}{K:List PA→Prop}{aO:dI}(hv:Ry P G pr fi aO f args K){w:World}{h0:Fz}{vs:List Value}(jI:RL (pJ h0) args vs)(NV:Hw h0 w) :
    Calls P f vs.toArray w λ e w'=>∃ (h':Fz) (rs:List PA) (v:Value),K rs/\e=.returned v/\pU h' rs v/\xE h0 w.heap.size w w' /\
      jX h0 h'/\Hw h' w'/\∀b o,h' b=some o->h0 b=some o\/w.heap.size<=b:=by
  unfold Ry at hv;split at hv;rename_i fn tN;split at hv;rename_i c vC;split at hv;rename_i Jv;simp only[fH,Ud]at Jv;have S:=PS (P:=P) (kY Jv.1.1) Jv.1.2 jI NV;have hwp:=znv (B:=w.heap.size) (w0:=w) fK H.idle aO c false 0 h0 (dP c) {tmps:=vs.toArray++Array.replicate (fn.ntmps-vs.toArray.size) undef,defers:=[]} _ _ _ _ _ (λ_ h=>h) (zbx Jv.2 _ (by simp)) rfl hv S (Kp.refl _ _);refine(callsIn_wide (n:=0)).1 ?_;refine callsIn_of_wp_marks (F:=FR none) tN vC trivial (wpIn_mono hwp ?_);have TU:∀b,h0 b=some (.fz (.deferred (some [])))->b<w.heap.size:=λb h=>NV.lt h
  have res:∀σ' g2 a2 w2,Ar P fn K σ'->bK P aO.nt w.heap.size w h0 g2 σ' a2 w2->∃v,(results fn a2.tmps).run P w2=.ok v w2/\∃(h':Fz)(rs:List PA)(v':Value),K rs/\Ending.returned v=.returned v'/\pU h' rs v'/\xE h0 w.heap.size w w2 /\
      jX h0 h'/\Hw h' w2/\∀b o,h' b=some o->h0 b=some o\/w.heap.size<=b:=by
    intro σ' g2 a2 w2 hf S2;unfold Ar at hf;split at hf;rename_i l hl;obtain⟨u,v,hu,cu,nS⟩:=Hr S2 hl;obtain⟨h',S3,F⟩:=S2.freeze hu;exact⟨v,cu,h',l,v,hf,rfl,nS h' F,S3.below,S3.le0,S3.hw,S3.hn⟩;exact hf.elim
  rintro e a' w' ⟨g',σ',wQ,S',EJ⟩
  · have fin:Ar P fn K σ'->LeavesInM (FR none) 0 P fn a'.tmps (λ e w'=>∃ (h':Fz) (rs:List PA) (v:Value),K rs/\e=.returned v/\pU h' rs v/\xE h0 w.heap.size w w' /\
        jX h0 h'/\Hw h' w'/\∀b o,h' b=some o->h0 b=some o\/w.heap.size<=b) a'.defers .returning w':=by
      intro hf;obtain⟨Ds,h1,h2,h3,h4⟩:=S'.dfr;exact CY TU Ds g' a' w' h1 h2 h3 h4 S' λg2 a2 w2 _ S2=>res σ' g2 a2 w2 hf S2
    cases e with
    | normal=>exact fin wQ
    | ret=>exact fin wQ
    | exit id=>exact wQ.elim
    | goto l=>exact wQ.elim
    | outgrown=>exact wQ.elim
    | panic ch =>
    obtain⟨zDb,hvo⟩:=wQ;have EJ:=EJ ch rfl;show LeavesInM (FR none) 0 P fn a'.tmps _ a'.defers (.panicking _) w';rw[EJ];obtain⟨os,zvs⟩:=H.pan ch zDb (a'.tmps.getD pr.t1 undef) (a'.tmps.getD pr.t2 undef) w';have ed:∀k,k<w'.heap.size->(w'.heap++os)[k]? = w'.heap[k]?:=λk hk=>dqZ hk
    have S1 : bK P aO.nt w.heap.size w h0 g' σ' a' { w' with heap := w'.heap ++ os } := S'.world (h' := g'.h) (fun _ _ h => h) (S'.hw.same fun k o hk => ed k (S'.hw.lt hk)) (fun _ _ h => .inl h)
      ⟨rfl,rfl,rfl,by simp,jy _,λk hk=>ed k hk⟩
    have zAd:=GZ (r:=none) (n:=0) (D:=[]) (a0:=a') (Q:=λe a2 w2=>e=.normal/\a2.tmps=a'.tmps/\∃g2 σ2,Ar P fn K σ2/\bK P aO.nt w.heap.size w h0 g2 σ2 a2 w2) fK (λj o ho t ht=>by
      match j,ho with|0,ho=>cases ho;cases ht|1,ho=>cases ho;cases ht|_+2,ho=>cases ho) hvo (S1.log []) (Kp.refl _ _) λσ2 hK g2 a2 w2 S2 hk2 _=>⟨rfl,?_,g2,σ2,hK,S2⟩
    obtain⟨w1,w2,hr1,hr2,_,_,g2,σ2,hf,S2⟩:=znw zAd fun ch a2 w2 h=>by cases h.1
    obtain⟨hinv,fC⟩:=zvs w1 w2 hr1 hr2;refine⟨by simp,.inr ⟨(λh=>by cases h),.func fi,_,fi,_,rfl,hinv w',(λ_ _=>trivial),?_⟩⟩;refine(fC _).mono ?_;rintro e u' w3 ⟨⟨v,rfl⟩,rfl,rfl⟩;have IQ:settle (.panicking (zdL ch))=.returning:=Zf zDb;show LeavesInM (FR none) 0 P fn a'.tmps _ [] (settle (.panicking (zdL ch))) _;rw[IQ];exact res σ2 g2 a' _ hf S2;refine Array.ext (hk2.2.1) fun i h1 h2 => ?_;have:=hk2.1 i (by simp);rw[yP,yP,qdM h1,qdM h2]at this;exact this
  exact hv.elim;exact hv.elim;exact hv.elim
theorem FV{dn:Bool}{r:Exit×St}{s:St}{e:Exit}{K:Exit->St->Prop}(h:(pnC dn r).o=some (e,s))(hK:K e s):pnK dn K r.1 r.2:=by
 obtain⟨e1,s1⟩:=r;cases e1 with
 | panic ch =>
  cases dn with|true=>cases ae.ok_o h;exact hK|false=>exact(ae.no_o h).elim
 | _=>cases ae.ok_o h;exact hK
theorem zdN{N:Nat}{fi:FuncId}{aO:dI}{K:Exit->St->Prop}:∀(c:Code)(dn:Bool)(σ s:St)(e:Exit),(sZ P Γ N pr fi aO dn c σ).o=some (e,s)->K e s->zZ P Γ pr fi aO dn c K σ:=by
 have other:∀(c:Code)(dn:Bool)(σ s:St)(e:Exit),((vcC P Γ N aO c σ).bind (pnC dn)).o=some (e,s)->K e s->vc P Γ aO c (pnK dn K) σ:=by
  intro c dn σ s e h hK;obtain⟨⟨e1,s1⟩,h1,h2⟩:=ae.bind_o h;exact Rt c _ _ _ _ h1 (FV h2 hK)
 intro c
 induction c with
 | seq a b _ TW =>
  intro dn σ s e h hK;simp only[sZ]at h;simp only[zZ];split at h;split at h;obtain⟨s1,h1,h2⟩:=ae.bind_o h;exact VA h1 (TW _ _ _ _ h2 hK);exact(ae.no_o h).elim
  ·obtain⟨⟨e1,s1⟩,h1,h2⟩:=ae.bind_o h;refine Rt a _ _ _ _ h1 ?_;cases e1 with|normal=>exact TW _ _ _ _ h2 hK|exit id=>exact FV (K:=K) (dn:=dn) (r:=(.exit id,s1)) h2 hK|goto id=>exact FV (K:=K) (dn:=dn) (r:=(.goto id,s1)) h2 hK|ret=>exact FV (K:=K) (dn:=dn) (r:=(.ret,s1)) h2 hK|panic ch=>exact FV (K:=K) (dn:=dn) (r:=(.panic ch,s1)) h2 hK|outgrown=>exact FV (K:=K) (dn:=dn) (r:=(.outgrown,s1)) h2 hK
 | skip=>exact other .skip
 | region i o d=>exact other (.region i o d)
 | cond c a b=>exact other (.cond c a b)
 | block i b=>exact other (.block i b)
 | loop b=>exact other (.loop b)
 | rangeFunc f p a b=>exact other (.rangeFunc f p a b)
 | exit i=>exact other (.exit i)
 | scope b=>exact other (.scope b)
 | label l=>exact other (.label l)
 | goto l=>exact other (.goto l)
 | ret=>exact other .ret
 | refuse s=>exact other (.refuse s)
theorem zhT{T:Tabs}(hT:aB P T){f fi:FuncId}(hc:df P f){N:Nat}{vv:List Nat}{aO:dI}(H:zvJ P pr fi):Ok P f (aD P (jc T vv) N pr fi aO f):=by
 intro args rs hr w h0 vs jI NV;have hv:Ry P (jc T vv) pr fi aO f args λOz=>Oz=rs:=by
  unfold aD at hr;unfold Ry;split at hr;rename_i fn tN;split at hr;rename_i c hb;split at hr
  ·obtain⟨⟨e,s⟩,h1,h2⟩:=ae.bind_o hr;refine zdN c _ _ _ _ h1 ?_;cases e with
   | normal=>simp only[zvI,Ar,ae.opt_o h2]
   | ret=>simp only[zvI,Ar,ae.opt_o h2]
   | panic ch =>
    simp only[zhR]at h2;split at h2;rename_i hp;obtain⟨s2,h3,h4⟩:=ae.bind_o h2;exact⟨hp,pX _ _ _ _ h3 (by simp only[Ar,ae.opt_o h4])⟩;exact(ae.no_o h2).elim
   | _=>exact(ae.no_o h2).elim
  exact(ae.no_o hr).elim;exact(ae.no_o hr).elim;exact(ae.no_o hr).elim
 refine⟨hc,(zhS (hT.all vv) H hv jI NV).mono ?_⟩;rintro e w' ⟨h',Oz,v,rfl,he⟩;exact⟨h',v,he⟩
end
end Go.Pm
namespace Go.Pm
section
variable(P:Program)(Γ:bM){A:Type}
def pnT(dn:Bool)(K:EK A):EK A:=λe s=>match e with
 | .panic ch=>match dn with|true=>K (.panic ch) s|false=>none
 | e=>K e s
def sqD(dn:Bool)(f:St->Option A)(K:EK A):EK A:=λe s=>match e with | .normal=>f s|e=>pnT dn K e s
def FW(N:Nat)(pr:pY)(fi:FuncId)(aO:dI):Bool→Code→EK A→St→Option A
  | dn,.seq a b,K,σ=>match AX pr fi a with
    | some (id,t)=>match Nat.blt t aO.nt && !dn&&mY [pr.t1,pr.t2] (dP b)with|true=>(Dh P aO id ⟨(t,.junk)::σ.env,σ.ay,[]⟩).T (FW N pr fi aO true b K)|false=>none
    | none=>xw P Γ N aO a (sqD dn (FW N pr fi aO dn b K) K) σ
  | dn,c,K,σ=>xw P Γ N aO c (pnT dn K) σ
def znx(pr:pY)(aO:dI)(fn:Func)(K:List PA->Option A):EK A:=λe s=>match e with
 | .normal=>match kJ P s fn.results.toList with|some r=>K r|none=>none
 | .ret=>match kJ P s fn.results.toList with|some r=>K r|none=>none
 | .panic ch=>match pr.ok ch with
  | true=>opsT P Γ aO.nt (rM pr) (λs=>match kJ P s fn.results.toList with|some r=>K r|none=>none) 0 (rM pr).toList {s with log:=[]}
  | false=>none
 | _=>none
def zvK(N:Nat)(pr:pY)(fi:FuncId)(aO:dI)(f:FuncId)(K:List PA->Option A)(args:List PA):Option A :=
 match P.funcs[f]? with
 | some fn=>match fn.body with
  | some c=>match Nat.beq aO.nt fn.ntmps&&Nat.ble args.length aO.nt&&mY [GG] (dP c)with|true=>FW P Γ N pr fi aO false c (znx P Γ pr aO fn K) ⟨jK 0 args,[],[]⟩|false=>none
  | none=>none
 | none=>none
end
section
variable{P:Program}{Γ:bM}{A:Type}{N:Nat}{pr:pY}{fi:FuncId}{aO:dI}
theorem zhU{dn:Bool}{K:EK A}{r:Exit×St}:pnT dn K r.1 r.2=(pnC dn r).T λr=>K r.1 r.2:=by
 obtain⟨e,s⟩:=r;cases e with|panic ch=>cases dn<;>rfl|_=>rfl
theorem zDc{dn:Bool}{K:EK A}{c:ae (Exit×St)}:c.T (λr=>pnT dn K r.1 r.2)=(c.bind (pnC dn)).T λr=>K r.1 r.2:=by
 show c.T _=c.T _;congr 1;funext r;exact zhU
theorem zdO:∀(c:Code)(dn:Bool)(K:EK A)(σ:St),FW P Γ N pr fi aO dn c K σ=(sZ P Γ N pr fi aO dn c σ).T λr=>K r.1 r.2:=by
 intro c
 induction c with
 | seq a b _ ih =>
  intro dn K σ;simp only[FW,sZ];cases AX pr fi a with
  | some x =>
   obtain⟨id,t⟩:=x;simp only;cases Nat.blt t aO.nt && !dn&&mY [pr.t1,pr.t2] (dP b)with
   | false=>rfl
   | true =>
    show(Dh P aO id _).T _=(Dh P aO id _).T _;congr 1;funext s;exact ih true K s
  | none =>
   simp only;rw[LK];show(vcC P Γ N aO a σ).T _=(vcC P Γ N aO a σ).T _;congr 1;funext r;obtain⟨e,s⟩:=r;cases e with|normal=>exact ih dn K s|panic ch=>exact zhU (r:=(.panic ch,s))|_=>rfl
 | _ =>
  intro dn K σ;unfold FW sZ;rw[LK];exact zDc
theorem zny{f:FuncId}{K:List PA->Option A}{args:List PA}:(aD P Γ N pr fi aO f args).T K=zvK P Γ N pr fi aO f K args:=by
 unfold aD zvK;cases P.funcs[f]? with
 | none=>rfl
 | some fn =>
  simp only;cases fn.body with
  | none=>rfl
  | some c =>
   simp only;cases Nat.beq aO.nt fn.ntmps&&Nat.ble args.length aO.nt&&mY [GG] (dP c)with
   | false=>rfl
   | true =>
    simp only;rw[zdO];show(sZ P Γ N pr fi aO false c _).T _=(sZ P Γ N pr fi aO false c _).T _;congr 1;funext r;obtain⟨e,s⟩:=r;cases e with
    | normal=>simp only[znx,zhR,ae.opt];cases kJ P s fn.results.toList<;>rfl
    | ret=>simp only[znx,zhR,ae.opt];cases kJ P s fn.results.toList<;>rfl
    | panic ch =>
     simp only[znx,zhR];cases pr.ok ch with
     | false=>rfl
     | true =>
      simp only;rw[vU];show(oG P Γ aO.nt (rM pr) 0 (rM pr).toList _).T _=(oG P Γ aO.nt (rM pr) 0 (rM pr).toList _).T _;congr 1;funext s;simp only;cases kJ P s fn.results.toList<;>rfl
    | _=>rfl
theorem zDd [aG]{δ ρ:Type}[dm δ][dm ρ]{f:FuncId}{x:δ}{k:ρ->Option A}:(ae.ty (aD P Γ N pr fi aO f) x:ae ρ).T k=zvK P Γ N pr fi aO f (kz k) (dm.enc x):=by
 rw[<- zny];show(aD P Γ N pr fi aO f (dm.enc x)).T _=_;congr 1
end
end Go.Pm
namespace Go.Pm
variable [aG]
open Go.RowKit (Below)
section
variable{P:Program}
end
/-! The same of typed data. -/
section
variable{δ α A:Type}[dm δ][bn α]
end
end Go.Pm
