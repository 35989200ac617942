/- Part 3: framework, functions, plain laws. -/
import Derived.Test.YtjkijdhdbhooiaaGreatQ2
import Derived.RangeFuncNested
import Derived.Scope
set_option linter.all false
noncomputable section
namespace Go.Pm
variable [aH]
open Go.RowKit (Below)
def XF(h h':Fz):Prop:=∀b o,h b=some o->(∃C ty fr,o=.fz (.cells C ty fr))->h' b=some o
theorem ku.c{h h':Fz}(hl:ku h h'):XF h h':=λb o hb _=>hl b o hb
section
variable{P:Program}{Γ:bI}{nt B:Nat}{w0:World}{h0:Fz}{g:Gh}{σ:St}{a:Act}{w:World}{r:Option Nat}{n i:Nat}{Q:Exit->Act->World->Prop}
abbrev Gh.re(g:Gh)(h:Fz):Gh:=⟨h,g.bk,g.sv,g.iv⟩
theorem zi8{h:Fz}(hl:XF g.h h){c:Cl}{x:Value}(hc:jk g c x):jk (g.re h) c x:=by
 cases c with
 | p v=>exact Rep.mono' hl hc
 | clo f caps=>obtain⟨cv,e,hr⟩:=hc;exact⟨cv,e,rE (λ_ _ hp=>Rep.mono' hl hp) (λ_ _=>rfl) hr⟩
 | _=>exact hc
theorem zvT{h:Fz}(hl:XF g.h h):∀{cs:List Cl}{vs:List Value},RL (jk g) cs vs->RL (jk (g.re h)) cs vs:=λhc=>hc.mono λ_ _=>zi8 hl
theorem zi9{h:Fz}(hl:XF g.h h){d:D1}{x:Value}(hd:BB g d x):BB (g.re h) d x:=by
 cases d with
 | c y=>exact zi8 hl hd
 | agg cs=>obtain⟨vs,rfl,hr⟩:=hd;exact⟨vs,rfl,zvT hl hr⟩
theorem za3{h:Fz}(hl:XF g.h h){d:DV}{x:Value}(hd:rW g d x):rW (g.re h) d x:=by
 cases d with
 | one y=>exact zi9 hl hd
 | tup ds=>obtain⟨vs,rfl,hr⟩:=hd;exact⟨vs,rfl,hr.mono λ_ _=>zi9 hl⟩
theorem za4{h:Fz}(hl:XF g.h h){L:Nat}{o:AO}(ho:Pz P g w B L o):Pz P (g.re h) w B L o:=by
 cases o with
 | box ty cs=>obtain⟨C,hC,hr⟩:=ho;exact⟨C,hC,zvT hl hr⟩
 | fbox cs=>obtain⟨C,ty,fr,hC,hr⟩:=ho;exact⟨C,ty,fr,hl _ _ hC ⟨_,_,_,rfl⟩,hr.mono λ_ _=>Rep.mono' hl⟩
 | vec e s b n get=>obtain⟨h1,h2,xs,hx,hr⟩:=ho;exact⟨h1,h2,xs,hx,λi hi=>(hr i hi).mono λ_ _=>Rep.mono' hl⟩
 | fvec s n get=>exact⟨Rep.mono' hl ho.1,ho.2⟩
 | vv te bb e s b n ln get =>
  obtain⟨h1,h2,h3,h4,h5,h6⟩:=ho;exact⟨h1,h2,h3,h4,λi hi=>by obtain⟨h7,h70,xs,hx,hr⟩:=h5 i hi;exact⟨h7,h70,xs,hx,λj hj=>(hr j hj).mono λ_ _=>Rep.mono' hl⟩,h6⟩
 | vt te bb e s b n ln get o =>
  obtain⟨h1,h2,h3,h4,h41,h42,h5,h6⟩:=ho;exact⟨h1,h2,h3,h4,h41,h42,λi hi ho=>by obtain⟨h7,h70,xs,hx,hr⟩:=h5 i hi ho;exact⟨h7,h70,xs,hx,λj hj=>(hr j hj).mono λ_ _=>Rep.mono' hl⟩,h6⟩
 | mo kt vt q n F=>exact ho
 | gone=>trivial
def Fz.add(h:Fz)(b:Nat)(o:Obj):Fz:=λk=>if k=b then some (.fz o)else h k
def Fz.del(h:Fz)(b:Nat):Fz:=λk=>if k=b then none else h k
theorem Fz.add_same{h:Fz}{b:Nat}{o:Obj}:h.add b o b=some (.fz o):=eU rfl
theorem Fz.add_other{h:Fz}{b k:Nat}{o:Obj}(hk:k≠b):h.add b o k=h k:=eY hk
theorem Fz.del_same{h:Fz}{b:Nat}:h.del b b=none:=eU rfl
theorem Fz.del_other{h:Fz}{b k:Nat}(hk:k≠b):h.del b k=h k:=eY hk
theorem Fz.le_add{h:Fz}{b:Nat}{o:Obj}(hb:h b=none):ku h (h.add b o):=λk x hk=>by
 rw[Fz.add_other (λe=>by subst e;rw[hb]at hk;cases hk)];exact hk
theorem bU.hide(S:bU P nt B w0 h0 g σ a w){b:Nat}{o:Obj}(hb:g.h b=none)(hw:w.heap[b]? = some o)(hB:B≤b)(wR:∀L o,lk σ.ax L=some o→¬gY g L o b) :
  bU P nt B w0 (h0.add b o) (g.re (g.h.add b o)) σ a w:=by
 have hle:=Fz.le_add (o:=o) hb;have Rk:h0 b=none:=by
  cases h:h0 b with|none=>rfl|some x=>rw[S.le0 b x h]at hb;cases hb
 refine⟨S.dfr.mono hle,S.size,λt d ht=>za3 hle.c (S.env t d ht),λL x hL=>za4 hle.c (S.obj L x hL),λL x k hL hk=>?_,S.sep,?_,?_,?_,?_,S.bs,S.clE,S.clO⟩;obtain⟨h1,h2⟩:=S.own L x k hL hk;refine⟨h1,?_⟩;show g.h.add b o k=none;rw[Fz.add_other (λe=>wR L x hL (by rw[<- e];exact hk))];exact h2;intro k x hk;by_cases h:k=b;subst h;have hk:g.h.add k o k=some x:=hk;rw[Fz.add_same]at hk;simp only[bM]at hk;subst hk;exact⟨o,hw,rfl⟩;have hk:g.h.add b o k=some x:=hk;rw[Fz.add_other h]at hk;exact S.hw k x hk;intro k x hk;show g.h.add b o k=some x;by_cases h:k=b;subst h;rw[Fz.add_same]at hk ⊢;exact hk;rw[Fz.add_other h]at hk ⊢;exact S.le0 k x hk;intro k x hk;have hk:g.h.add b o k=some x:=hk;by_cases h:k=b;exact .inr (h▸hB);rw[Fz.add_other h]at hk ⊢;exact S.hn k x hk;exact⟨S.below.os,S.below.tape,S.below.output,S.below.size,S.below.drawn,λk hk=>S.below.block k hk⟩
theorem bU.unhide{b:Nat}{o:Obj}(S:bU P nt B w0 (h0.add b o) g σ a w)(hB:B≤b)(Rk:h0 b=none)(hc:o.isCells=false)(hm:∀ds,o ≠ .deferred ds) :
  g.h b=some (.fz o)/\(∀L x,lk σ.ax L=some x->¬gY g L x b)/\w.heap[b]? = some o/\bU P nt B w0 h0 (g.re (g.h.del b)) σ a w:=by
 have hb:g.h b=some (.fz o):=S.le0 b _ Fz.add_same;have hl:XF g.h (g.h.del b):=λk x hk hx=>by
  rw[Fz.del_other];exact hk;intro e;subst e;rw[hb]at hk;simp only[bM]at hk;subst hk;obtain⟨C,ty,fr,hx⟩:=hx;cases hx;cases hc
 have hwb:w.heap[b]? = some o:=S.hw.fz hb;refine⟨hb,(λL x hL hk=>by(have:=(S.own L x b hL hk).2;rw[hb]at this;cases this)),hwb,?_⟩;refine⟨?_,S.size,λt d ht=>za3 hl (S.env t d ht),λL x hL=>za4 hl (S.obj L x hL),λL x k hL hk=>?_,S.sep,?_,?_,?_,?_,S.bs,S.clE,S.clO⟩;obtain⟨Ds,h1,h2,h3,h4⟩:=S.dfr;refine⟨Ds,h1,h2,λD hD=>⟨(h3 D hD).1,?_⟩,h4⟩;show g.h.del b D=_;rw[Fz.del_other];exact(h3 D hD).2;intro e;subst e;have:=(h3 D hD).2;rw[hb]at this;simp only[bM,WC.fz.injEq]at this;exact hm _ this;obtain⟨h1,h2⟩:=S.own L x k hL hk;refine⟨h1,?_⟩;show g.h.del b k=none;unfold Fz.del;split;rfl;exact h2;intro k x hk;have hk:g.h.del b k=some x:=hk;unfold Fz.del at hk;split at hk;cases hk;exact S.hw k x hk;intro k x hk;have hkb:k≠b:=λe=>by subst e;rw[Rk]at hk;cases hk
 show g.h.del b k=some x;rw[Fz.del_other hkb];exact S.le0 k x (by rw[Fz.add_other hkb];exact hk);intro k x hk;have hk:g.h.del b k=some x:=hk;by_cases h:k=b;exact .inr (h▸hB);rw [Fz.del_other h]at hk;rcases S.hn k x hk with h1|h1
 rw[Fz.add_other h]at h1;exact .inl h1;exact .inr h1;exact⟨S.below.os,S.below.tape,S.below.output,S.below.size,S.below.drawn,λk hk=>S.below.block k hk⟩
theorem bU.putObj(S:bU P nt B w0 h0 g σ a w){b:Nat}(o:Obj)(hb:g.h b=none)(hB:B<=b)(wR:∀L x,lk σ.ax L=some x->¬gY g L x b):bU P nt B w0 h0 g σ a (w.putObj b o):=by
  have jb:∀k,k≠b->(w.putObj b o).heap[k]? = w.heap[k]?:=λk hk=>World.putObj_heap_other hk
  refine S.change (g' := g) (BC := σ.ax) (fun L _ _ => jd.refl g L) (fun _ _ h => h) (S.hw.same fun k x hk => jb k fun e => by subst e; rw [hb] at hk; cases hk) (fun _ _ h => .inl h)
    ⟨rfl,rfl,rfl,by simp,jP _,λk hk=>jb k omY⟩ ?_ S.own S.sep (λL o h=>⟨o,h⟩) S.clO
  intro L x hL;exact jX (S.obj L x hL) (jd.refl g L) (λM _=>jd.refl g M) (λ_ _ h=>h) λk hk=>jb k λe=>by subst e;exact wR L x hL hk
theorem bU.act(S:bU P nt B w0 h0 g σ a w){a':Act}(hd:Marks P B g.h a'.defers)(hs:nt<=a'.tmps.size)(he:∀t d,lk σ.env t=some d->rW g d (a'.tmps.getD t undef)):bU P nt B w0 h0 g σ a' w :=
 ⟨hd,hs,he,S.obj,S.own,S.sep,S.hw,S.le0,S.hn,S.below,S.bs,S.clE,S.clO⟩
theorem bU.envs(S:bU P nt B w0 h0 g σ a w){env:List (Nat×DV)}(he:∀t d,lk env t=some d→rW g d (a.tmps.getD t undef))(hl:∀t d,lk env t=some d→∀L∈bY d,∃o,lk σ.ax L=some o)
    (l:List (Nat×Nat×Nat)):bU P nt B w0 h0 g ⟨env,σ.ax,l⟩ a w :=
  ⟨S.dfr,S.size,he,S.obj,S.own,S.sep,S.hw,S.le0,S.hn,S.below,S.bs,hl,S.clO⟩
theorem fold_size : ∀ (l : List (Nat × Value)) (t : Array Value), (l.foldl (fun t (p, v) => t.setIfInBounds p v) t).size = t.size|[],t=>rfl|(p,v)::l,t=>by rw[Wl,fold_size l];simp
theorem Nu : ∀ (l : List (Nat × Value)) (t : Array Value) (k : Nat), (∀ x ∈ l, x.1 ≠ k) → (l.foldl (fun t (p, v) => t.setIfInBounds p v) t).getD k undef = t.getD k undef
  | [],t,k,_=>rfl
  | (p,v)::l,t,k,h=>by
    rw[Wl,Nu l _ k λx hx=>h x (jM _ hx)];have hp:p≠k:=h (p,v) kH;simp[yB,qdK hp]
theorem zde(nt0:Nat):∀(ps:List Nat)(ys:List PA)(us:List Value)(e env:List (Nat×DV))(t:Array Value),qM ps ys e=some env->RL (oC g.h) ys us->(∀p∈ps,p<t.size) ->
  (∀k d,lk e k=some d->rW g d (t.getD k undef)) ->
  us.length=ps.length/\∀k d,lk env k=some d->rW g d (((ps.zip us).foldl (λt (p,v)=>t.setIfInBounds p v) t).getD k undef)
 | [],[],us,e,env,t,h,hr,_,he=>by
  simp only[qM,bM]at h;subst h;cases us with|nil=>exact⟨rfl,he⟩|cons=>exact hr.elim
 | p::ps,y::ys,[],e,env,t,h,hr,_,he=>hr.elim
 | p::ps,y::ys,u::us,e,env,t,h,hr,hp,he=>by
  simp only[qM]at h;have iF:=hp p kH;obtain⟨h1,h2⟩:=zde nt0 ps ys us _ env (t.setIfInBounds p u) h hr.2 (λq hq=>by have:=hp q (jM _ hq);simpa using this) (λk d hk=>by
   rw[aV]at hk;split at hk;rename_i e1;simp only[bM]at hk;subst hk;subst e1;rw[show(t.setIfInBounds p u).getD p undef=u by simp[yB,iF]];exact MI hr.1;rename_i e1;have:=he k d hk;rw[show(t.setIfInBounds p u).getD k undef=t.getD k undef by simp[yB,qdK e1]];exact this)
  exact⟨by simp[h1],h2⟩
 | [],_::_,_,_,_,_,h,_,_,_=>by simp[qM]at h
 | _::_,[],_,_,_,_,h,_,_,_=>by simp[qM]at h
theorem Rl:∀(ps:List Nat)(ys:List PA)(e env:List (Nat×DV)),qM ps ys e=some env→∀k d,lk env k=some d→lk e k=some d∨bY d=[]
  | [],[],e,env,h,k,d,hk=>by simp only[qM,bM]at h;subst h;exact .inl hk
  | p::ps,y::ys,e,env,h,k,d,hk=>by
    simp only[qM]at h;rcases Rl ps ys _ env h k d hk with h1|h1
    rw [aV]at h1;split at h1;simp only[bM]at h1;subst h1;exact .inr (xe y);exact .inl h1;exact .inr h1
  | [],_::_,_,_,h,_,_,_=>by simp[qM]at h
  | _::_,[],_,_,h,_,_,_=>by simp[qM]at h
theorem bU.up(S:bU P nt B w0 h0 g σ a w):bU P nt B w0 g.h g σ a w :=
 ⟨S.dfr,S.size,S.env,S.obj,S.own,S.sep,S.hw,λ_ _ h=>h,λ_ _ h=>.inl h,
  ⟨S.below.os,S.below.tape,S.below.output,S.below.size,S.below.drawn,λk hk=>S.below.block k hk⟩,S.bs,S.clE,S.clO⟩
theorem bU.down{h1:Fz}(S:bU P nt B w0 h1 g σ a w)(hl:ku h0 h1)(hn:∀b o,h1 b=some o->h0 b=some o\/B<=b):bU P nt B w0 h0 g σ a w :=
 ⟨S.dfr,S.size,S.env,S.obj,S.own,S.sep,S.hw,λb o h=>S.le0 b o (hl b o h),λb o h=>by
   rcases S.hn b o h with h|h
   exact hn b o h;exact .inr h,
  ⟨S.below.os,S.below.tape,S.below.output,S.below.size,S.below.drawn,λk hk=>S.below.block k hk⟩,S.bs,S.clE,S.clO⟩
theorem za5{k:Keep}{σ s:St}(h:yU P k σ=some s):∀t d,lk s.env t=some d->t∈k.tmps:=by
 unfold yU at h;split at h;cases h;split at h;cases h;split at h;cases h;simp only[]at h;split at h;simp only [bM]at h;subst h;intro t d ht;obtain⟨_,_,_,h1⟩:=lH ht;exact h1;cases h
theorem zpy{k a b e:Nat}{σ:St}:∀t d,lk (nf1 P k a b e σ).env t=some d->∃d',lk σ.env t=some d':=by
 have key:∀x y,lk σ.env a=some y->∀t d,lk (zav a x σ.env) t=some d->∃d',lk σ.env t=some d':=by
  intro x y hy t d ht;rw[Ea ⟨y,hy⟩,aV]at ht;split at ht;rename_i e;exact⟨y,e▸hy⟩;exact⟨d,ht⟩
 unfold nf1
 repeat' split
 all_goals first
  | exact λt d ht=>⟨d,ht⟩
  | exact key _ _ (by assumption)
theorem I8:∀{l:List (Nat×Nat×Nat×Nat)}{σ:St},∀t d,lk (JW P l σ).env t=some d→∃d',lk σ.env t=some d'
  | [],_,_,d,ht=>⟨d,ht⟩
  | (_,_,_,_)::l,_,t,d,ht=>by
    obtain⟨d',h2⟩:=I8 (l:=l) t d ht;exact zpy t d' h2
theorem G5{k:Keep}{σ s:St}(h:canon P k σ=some s):∀t d,lk s.env t=some d->t∈k.tmps:=by
 unfold canon at h;split at h;split at h;rename_i s1 h1;intro t d ht;cases h;obtain⟨d',h2⟩:=I8 t d ht;exact za5 h1 t d' h2;cases h;cases h
def Rnd(r:Option Nat)(h0:Fz):Prop:=∀l,r=some l->∃rec:Loop,h0 l=some (.fz (.loop rec))
theorem Rnd.none(h0:Fz):Rnd none h0:=λl h=>by cases h
theorem PY(S:bU P nt B w0 h0 g σ a w)(hR:Rnd r h0)(fn:FuncId)(ps:Array Tmp)(x y:Code) :
  ∃(l:Nat)(mark:List Deferred)(w1:World)(d:Nat)(h1:Fz),(Instr.enterLoop fn a.tmps ps x y r).run P w=.ok (l,mark) w1/\w.heap.size<=l /\
   w1.heap[l]? = some (.loop {state:=.ready,pending:=none,fn,tmps:=a.tmps,params:=ps,assign:=x,body:=y,defers:=d})/\ku g.h h1/\h1 l=none /\
   bU P nt B w0 h0 (g.re h1) σ {a with defers:=mark++a.defers} w1/\∀d∈mark,∃b,d.target=.collected b:=by
 have zn5:∀k,w.heap.size<=k->g.h k=none:=λk hk=>by
  cases h:g.h k with|none=>rfl|some x=>exact absurd (vO S.hw h) omY
 cases r with
 | none =>
  have hb0:g.h w.heap.size=none:=zn5 _ (jP _);have hw1:((w.alloc (.deferred (some []))).alloc (.loop {state:=.ready,pending:=none,fn,tmps:=a.tmps,params:=ps,assign:=x,body:=y,defers:=w.heap.size})).heap[w.heap.size]? = some (.deferred (some [])):=by
   exact(Below.heap_alloc _ _ _ (by simp)).trans (World.alloc_heap_new w _)
  have sV:Below w.heap.size w ((w.alloc (.deferred (some []))).alloc (.loop {state:=.ready,pending:=none,fn,tmps:=a.tmps,params:=ps,assign:=x,body:=y,defers:=w.heap.size})) :=
   ((Below.refl _ w).alloc (jP _) _).alloc (by simp) _
  have S1:=S.world (h':=g.h.add w.heap.size (.deferred (some []))) (Fz.le_add hb0) (λk z hk=>by
    by_cases h:k=w.heap.size;subst h;rw[Fz.add_same]at hk;simp only[bM]at hk;subst hk;exact⟨_,hw1,rfl⟩;rw [Fz.add_other h]at hk;obtain⟨o,h1,h2⟩:=S.hw k z hk;exact⟨o,by rw[sV.block k (S.hw.lt hk)];exact h1,h2⟩)
   (λk z hk=>by
    by_cases h:k=w.heap.size;exact .inr omY;rw[Fz.add_other h]at hk;exact .inl hk) (.of ⟨sV,jP _⟩)
  refine⟨w.heap.size+1,[{target:=.collected w.heap.size,args:=#[]}],_,w.heap.size,g.h.add w.heap.size (.deferred (some [])),run_enterLoop_outer fn a.tmps ps x y,omY,?_,Fz.le_add hb0,?_,?_,λd hd=>⟨w.heap.size,by rw[mf.1 hd]⟩⟩;have:=World.alloc_heap_new (w.alloc (.deferred (some []))) (.loop {state := .ready,pending:=none,fn,tmps:=a.tmps,params:=ps,assign:=x,body:=y,defers:=w.heap.size});rwa[World.size_alloc]at this;rw[Fz.add_other omY];exact zn5 _ omY
  ·refine S1.act ?_ S1.size S1.env;obtain⟨Ds,h1,h2,h3,h4⟩:=S.dfr;refine⟨.inl w.heap.size :: Ds,qdx.2 ⟨λ hm=>?_,h1⟩,by simp[h2,deD],λ D hD=>?_,λ d hd=>?_⟩;have:=vO S.hw (h3 _ (LG hm)).2;omega
   rotate_left
   rcases jV.1 hd with e|hd
   cases e;exact h4 d hd;rcases jV.1 hD with e|hD
   cases e;exact⟨S.bs,Fz.add_same⟩;exact⟨(h3 D hD).1,Fz.le_add hb0 _ _ (h3 D hD).2⟩
 | some l0 =>
  obtain⟨rec,z1k⟩:=hR l0 rfl;have hl0:w.heap[l0]? = some (.loop rec):=S.hw.fz (S.le0 _ _ z1k);have sV:Below w.heap.size w (w.alloc (.loop {state:=.ready,pending:=none,fn,tmps:=a.tmps,params:=ps,assign:=x,body:=y,defers:=rec.defers})):=(Below.refl _ w).alloc (jP _) _;have S1:=S.world (h':=g.h) (λ_ _ h=>h) (S.hw.same λk z hk=>sV.block k (S.hw.lt hk)) (λ_ _ h=>.inl h) (.of ⟨sV,jP _⟩);exact⟨w.heap.size,[],_,rec.defers,g.h,run_enterLoop_inner hl0 fn a.tmps ps x y,jP _,World.alloc_heap_new w _,λ_ _ h=>h,zn5 _ (jP _),S1,λd hd=>by cases hd⟩
end
end Go.Pm
namespace Go.Pm
def zy1:List Item→Bool|.call .. :: _=>false|_=>true
def jK(I:Machine→Prop)(P:Program)(m:Machine)(b:Frame)(k:List Item)(cs:List Frame):Exit→Act→World→Prop
  | .panic ch,a,w=>∃todo,zy1 todo=true/\StepsIn I P m (lone {b.atR a todo with mode:=.panicking ch} cs w)
  | .normal,a,w=>ArrivesIn I P m b k cs .normal a w
  | .exit id,a,w=>ArrivesIn I P m b k cs (.exit id) a w
  | .goto l,a,w=>ArrivesIn I P m b k cs (.goto l) a w
  | .ret,a,w=>ArrivesIn I P m b k cs .ret a w
  | .outgrown,a,w=>ArrivesIn I P m b k cs .outgrown a w
theorem jK.inn{I:Machine->Prop}{P:Program}{m:Machine}{b:Frame}{k:List Item}{cs:List Frame}{e:Exit}{a:Act}{w:World}(h:jK I P m b k cs e a w):ArrivesIn I P m b k cs e a w:=by
 cases e with
 | panic ch=>obtain⟨t,_,h⟩:=h;exact⟨t,h⟩
 | _=>exact h
theorem jK.of_steps{I:Machine->Prop}{P:Program}{m m1:Machine}{b:Frame}{k:List Item}{cs:List Frame}{e:Exit}{a:Act}{w:World}(h:StepsIn I P m m1)(h':jK I P m1 b k cs e a w):jK I P m b k cs e a w:=by
 cases e with
 | panic ch=>obtain⟨t,ht,hs⟩:=h';exact⟨t,ht,h.trans hs⟩
 | normal=>exact ArrivesIn.of_steps (e:=.normal) h h'
 | exit id=>exact ArrivesIn.of_steps (e:=.exit id) h h'
 | goto l=>exact ArrivesIn.of_steps (e:=.goto l) h h'
 | ret=>exact ArrivesIn.of_steps (I:=I) (b:=b) (k:=k) (cs:=cs) (e:=.ret) (a:=a) (w:=w) h h'
 | outgrown=>exact ArrivesIn.of_steps (b:=b) (k:=k) (cs:=cs) (e:=.outgrown) (a:=a) (w:=w) h h'
theorem jK.pass{I:Machine->Prop}{P:Program}{m:Machine}{b:Frame}{x:Item}{k:List Item}{cs:List Frame}{e:Exit}{a:Act}{w:World}(hx:x.plain=true)(he:e ≠ .normal)(h:jK I P m b (x::k) cs e a w):jK I P m b k cs e a w:=by
 cases e with|panic ch=>exact h|normal=>exact absurd rfl he|exit id=>exact ArrivesIn.pass (I:=I) (P:=P) (m:=m) (b:=b) (x:=x) (k:=k) (cs:=cs) (e:=.exit id) (a:=a) (w:=w) hx (λ_ _=>.inl (by simp)) h|goto l=>exact ArrivesIn.pass (I:=I) (P:=P) (m:=m) (b:=b) (x:=x) (k:=k) (cs:=cs) (e:=.goto l) (a:=a) (w:=w) hx (λ_ _=>.inl (by simp)) h|ret=>exact ArrivesIn.pass (I:=I) (P:=P) (m:=m) (b:=b) (x:=x) (k:=k) (cs:=cs) (e:=.ret) (a:=a) (w:=w) hx (λ_ _=>.inl (by simp)) h|outgrown=>exact h
def Ef(r:Option Nat)(n:Nat)(P:Program)(c:Code)(Q:Exit->Act->World->Prop)(a:Act)(w:World):Prop :=
 ∀(b:Frame)(k:List Item)(cs:List Frame),b.roundOf=(FR r).round->(FR r).fn b.fn->(FR r).room (cs.length+1+n) ->
  ∃e a' w',Q e a' w'/\jK (Machine.fenced P (FR r)) P (lone (b.atR a (.code c::k)) cs w) b k cs e a' w'
section
variable{r:Option Nat}{n:Nat}{P:Program}{Q:Exit->Act->World->Prop}{a:Act}{w:World}
theorem rJ{c:Code}(h:Ef r n P c Q a w):c.wpIn (FR r) n P Q a w:=λb k cs wP hb hr=>let⟨e,a',w',q,x⟩:=h b k cs wP hb hr;⟨e,a',w',q,x.inn⟩
theorem zfB{c:Code}(h:c.wpIn (FR r) n P Q a w)(hq:∀ch a w,¬Q (.panic ch) a w):Ef r n P c Q a w:=λb k cs wP hb hr=>by
 obtain⟨e,a',w',q,x⟩:=h b k cs wP hb hr;refine⟨e,a',w',q,?_⟩;cases e with|panic ch=>exact absurd q (hq _ _ _)|_=>exact x
theorem pX{c:Code}{Q':Exit->Act->World->Prop}(h:Ef r n P c Q a w)(hq:∀e a w,Q e a w->Q' e a w):Ef r n P c Q' a w :=
 λb k cs wP hb hr=>let⟨e,a',w',q,x⟩:=h b k cs wP hb hr;⟨e,a',w',hq _ _ _ q,x⟩
theorem zja(h:Q .normal a w):Ef r n P .skip Q a w:=λ_ _ _ _ hb hr=>⟨.normal,a,w,h,.one (fenced_calm hb hr rfl) stepR_skip⟩
theorem zfC{l:Nat}(h:Q .normal a w):Ef r n P (.label l) Q a w:=λ_ _ _ _ hb hr=>⟨.normal,a,w,h,.one (fenced_calm hb hr rfl) stepR_label⟩
theorem XG{id:Nat}(h:Q (.exit id) a w):Ef r n P (.exit id) Q a w :=
 λ_ k _ _ hb hr=>⟨.exit id,a,w,h,λ_ hk=>.one (fenced_calm hb hr rfl) (stepR_exit hk),λ_ hk=>⟨k,hk,.refl _⟩⟩
theorem zdf(h:Q .ret a w):Ef r n P .ret Q a w :=
 λ_ k _ _ hb hr=>⟨.ret,a,w,h,λhn=>⟨_,.one (fenced_calm hb hr rfl) (stepR_ret hn)⟩,λ_=>⟨k,.refl _⟩⟩
theorem zpz{x y:Code}(h:Ef r n P x (Exit.then (Ef r n P y Q) Q) a w):Ef r n P (.seq x y) Q a w:=by
 intro b k cs wP hb hr;have h0:(lone (b.atR a (.code (.seq x y)::k)) cs w).fenced P (FR r):=fenced_calm hb hr rfl;obtain⟨e,a1,w1,hq,dZ⟩:=h b (.code y::k) cs wP hb hr;have st:=StepsIn.one h0 (stepR_seq (P:=P) (b:=b) (a:=a) (k:=k) (cs:=cs) (w:=w) (x:=x) (y:=y));cases e with
 | normal =>
  obtain⟨e2,a2,w2,hq2,Eg⟩:=hq b k cs wP hb hr;exact⟨e2,a2,w2,hq2,.of_steps (st.trans dZ) Eg⟩
 | exit id=>exact⟨_,a1,w1,hq,.of_steps st (.pass (x:=.code y) rfl (by simp) dZ)⟩
 | goto l=>exact⟨_,a1,w1,hq,.of_steps st (.pass (x:=.code y) rfl (by simp) dZ)⟩
 | ret=>exact⟨_,a1,w1,hq,.of_steps st (.pass (x:=.code y) rfl (by simp) dZ)⟩
 | panic ch=>exact⟨_,a1,w1,hq,.of_steps st (.pass (x:=.code y) rfl (by simp) dZ)⟩
 | outgrown=>exact⟨_,a1,w1,hq,.of_steps st (.pass (x:=.code y) rfl (by simp) dZ)⟩
theorem zjb{c:Operand}{x y:Code}{t:Bool}(hc:a.eval c=.bool t)(h:Ef r n P (if t then x else y) Q a w):Ef r n P (.cond c x y) Q a w :=
 λb k cs wP hb hr=>let⟨e,a',w',q,x⟩:=h b k cs wP hb hr;⟨e,a',w',q,.of_steps (.one (fenced_calm hb hr rfl) (stepR_cond hc)) x⟩
theorem zfD{id:Nat}{c:Code}(h:Ef r n P c (Exit.inBlock id Q) a w):Ef r n P (.block id c) Q a w:=by
 intro b k cs wP hb hr;have h0:(lone (b.atR a (.code (.block id c)::k)) cs w).fenced P (FR r):=fenced_calm hb hr rfl;have st:=StepsIn.one h0 (stepR_block (P:=P) (b:=b) (a:=a) (k:=k) (cs:=cs) (w:=w) (id:=id) (c:=c));obtain⟨e,a1,w1,hq,dZ⟩:=h b (.inBlock id::k) cs wP hb hr;cases e with
 | normal=>exact⟨.normal,a1,w1,hq,(st.trans dZ).trans (.one (fenced_calm hb hr rfl) stepR_inBlock)⟩
 | exit id' =>
  by_cases hid:id'=id;simp only [Exit.inBlock,hid,Qs]at hq;exact⟨.normal,a1,w1,hq,st.trans (dZ.1 k (by simp[exitTo,hid]))⟩;simp only [Exit.inBlock,hid,qje]at hq;have this:(id==id')=false:=by simp;exact λh=>hid h.symm
  have hx:exitTo id' (.inBlock id::k)=exitTo id' k:=by simp[exitTo,this]
  exact⟨.exit id',a1,w1,hq,λk' hk=>st.trans (dZ.1 k' (by rw[hx];exact hk)),
   λvG hk=>let⟨k1,h1,h2⟩:=dZ.2 vG (by rw[hx];exact hk);⟨k1,h1,st.trans h2⟩⟩
 | goto l =>
  have hx:gotoIn l (.inBlock id::k)=gotoIn l k:=by simp[gotoIn]
  exact⟨_,a1,w1,hq,λk' hk=>st.trans (dZ.1 k' (by rw[hx];exact hk)),
   λvG hk=>let⟨k1,h1,h2⟩:=dZ.2 vG (by rw[hx];exact hk);⟨k1,h1,st.trans h2⟩⟩
 | ret=>exact⟨_,a1,w1,hq,.of_steps st dZ⟩
 | panic ch=>exact⟨_,a1,w1,hq,.of_steps st dZ⟩
 | outgrown=>exact⟨_,a1,w1,hq,.of_steps (b:=b) (k:=k) (cs:=cs) (e:=.outgrown) st dZ⟩
theorem TR{b:Frame}{a:Act}{k:List Item}{cs:List Frame}{w:World}{c:Code} :
  step P (lone (b.atR a (.code (.scope c)::k)) cs w)=.next (lone (b.atR a (.code c :: .inScope c::k)) cs w) :=
 step_lone_go (by simp[stepG,stepG.exec,Frame.atR])
theorem Nv{b:Frame}{a:Act}{k:List Item}{cs:List Frame}{w:World}{c:Code} :
  step P (lone (b.atR a (.inScope c::k)) cs w)=.next (lone (b.atR a k) cs w) :=
 step_lone_go (by simp[stepG,stepG.exec,Frame.atR])
theorem zfE{c:Code}(h:Ef r n P c (Exit.noGoto Q) a w):Ef r n P (.scope c) Q a w:=by
 intro b k cs wP hb hr;obtain⟨e,a1,w1,hq,dZ⟩:=h b (.inScope c::k) cs wP hb hr;have h0:(lone (b.atR a (.code (.scope c)::k)) cs w).fenced P (FR r):=fenced_calm hb hr rfl;have st:=StepsIn.one h0 (TR (P:=P) (b:=b) (a:=a) (k:=k) (cs:=cs) (w:=w) (c:=c));cases e with
 | normal=>exact⟨.normal,a1,w1,hq,(st.trans dZ).trans (.one (fenced_calm hb hr rfl) Nv)⟩
 | exit id =>
  refine⟨.exit id,a1,w1,hq,λk' hk=>st.trans (dZ.1 k' (by simp[exitTo,hk])),λvG hk=>?_⟩;obtain⟨k1,h1,h2⟩:=dZ.2 vG (by simp[exitTo,hk]);exact⟨k1,h1,st.trans h2⟩
 | goto l=>exact hq.elim
 | ret=>exact⟨.ret,a1,w1,hq,jK.of_steps (e:=.ret) st dZ⟩
 | panic ch=>exact⟨.panic ch,a1,w1,hq,jK.of_steps (e:=.panic ch) st dZ⟩
 | outgrown=>exact⟨_,a1,w1,hq,.of_steps (b:=b) (k:=k) (cs:=cs) (e:=.outgrown) st dZ⟩
def XH(r:Option Nat)(n:Nat)(P:Program)(c:Code)(Q:Exit->Act->World->Prop)(a:Act)(w:World):Prop :=
 ∀(b:Frame)(k:List Item)(cs:List Frame),b.roundOf=(FR r).round->(FR r).fn b.fn->(FR r).room (cs.length+1+n) ->
  ∃e a' w',Q e a' w'/\jK (Machine.fenced P (FR r)) P (lone (b.atR a (.code c :: .inLoop c::k)) cs w) b k cs e a' w'
theorem I9{c:Code}(h:XH r n P c Q a w):Ef r n P (.loop c) Q a w:=by
 intro b k cs wP hb hr;obtain⟨e,a',w',hq,dZ⟩:=h b k cs wP hb hr;exact⟨e,a',w',hq,.of_steps (.one (fenced_calm hb hr rfl) stepR_loop) dZ⟩
theorem Ja{c:Code}(h:Ef r n P c (Exit.then (XH r n P c Q) Q) a w):XH r n P c Q a w:=by
 intro b k cs wP hb hr;obtain⟨e,a1,w1,hq,dZ⟩:=h b (.inLoop c::k) cs wP hb hr;cases e with
 | normal =>
  obtain⟨e2,a2,w2,hq2,Eg⟩:=hq b k cs wP hb hr;exact⟨e2,a2,w2,hq2,.of_steps (StepsIn.trans dZ (.one (fenced_calm hb hr rfl) stepR_inLoop)) Eg⟩
 | exit id=>exact⟨_,a1,w1,hq,.pass (x:=.inLoop c) rfl (by simp) dZ⟩
 | goto l=>exact⟨_,a1,w1,hq,.pass (x:=.inLoop c) rfl (by simp) dZ⟩
 | ret=>exact⟨_,a1,w1,hq,.pass (x:=.inLoop c) rfl (by simp) dZ⟩
 | panic ch=>exact⟨_,a1,w1,hq,.pass (x:=.inLoop c) rfl (by simp) dZ⟩
 | outgrown=>exact⟨_,a1,w1,hq,.pass (x:=.inLoop c) rfl (by simp) dZ⟩
theorem zpA{ops:Array Oper}(l:List Nat):∀(a:Act)(w:World),wpOpsIn (FR r) n P ops Q l a w->∀(b:Frame)(k:List Item)(cs:List Frame),b.roundOf=(FR r).round->(FR r).fn b.fn->(FR r).room (cs.length+1+n) ->
  ∃e a' w',Q e a' w'/\jK (Machine.fenced P (FR r)) P (lone (b.atR a (.inRegion ops l::k)) cs w) b k cs e a' w':=by
 induction l with
 | nil=>exact λa w h b k cs _ hb hr=>⟨.normal,a,w,h,.one (fenced_calm hb hr rfl) stepR_region_end⟩
 | cons i rest ih =>
  intro a w h b k cs wP hb hr;simp only[wpOpsIn]at h;cases ho:ops[i]? with
  | none =>
   simp only[ho]at h;obtain⟨e,a',w',hq,dZ⟩:=ih a w h b k cs wP hb hr;have hs:=stepR_op_skip (P:=P) (b:=b) (a:=a) (k:=k) (cs:=cs) (w:=w) (ops:=ops) (i:=i) (rest:=rest) (by simp[ho]);simp only[ho,Option.bind_none,Act.put]at hs;exact⟨e,a',w',hq,.of_steps (.one (fenced_noOper hb hr ho) hs) dZ⟩
  | some o =>
   simp only[ho]at h;by_cases hw:Region.wanted o (yielded ops a.tmps)=true;simp only [hw,Qs,Oper.wpIn]at h;obtain⟨zcr,h⟩:=h;have h0:(lone (b.atR a (.inRegion ops (i::rest)::k)) cs w).fenced P (FR r):=fenced_oper hb hr ho zcr;simp only[Oper.uponIn]at h;have hg:=stepGR_op (P:=P) (b:=b) (k:=k) (cs:=cs) (w:=w) (rest:=rest) ho hw;rw[wP]at hg;have zn0:∀v,(b.atR a (.inRegion ops (i::rest)::k)).finish v=b.atR (a.put o.dst v) (.inRegion ops rest::k):=by
    intro v;rw[Frame.finish_atR,ho];rfl
   split at h;rename_i v w' vG;obtain⟨e,a',AV,hq,dZ⟩:=ih _ _ h b k cs wP hb hr;refine⟨e,a',AV,hq,.of_steps (.one h0 (step_lone_go ?_)) dZ⟩;rw[hg,<- zn0];simp[stepG.apply,vG];rename_i w' vG;obtain⟨e,a',AV,hq,dZ⟩:=ih _ _ h b k cs wP hb hr;refine⟨e,a',AV,hq,.of_steps (.one h0 (step_lone_go ?_)) dZ⟩;rw[hg,<- zn0];simp[stepG.apply,vG];rename_i d w' vG;obtain⟨e,a',AV,hq,dZ⟩:=ih _ _ h b k cs wP hb hr;refine⟨e,a',AV,hq,.of_steps (.one h0 (step_lone_go ?_)) dZ⟩
   have:({b.atR a (.inRegion ops (i::rest)::k)with defers:=d::a.defers}:Frame).finish undef =
     b.atR ({a with defers:=d::a.defers}.put o.dst undef) (.inRegion ops rest::k):=by
    have:=Frame.finish_atR b {a with defers:=d::a.defers} ops i rest k undef;rw[ho]at this;exact this
   rw[hg];simp only[stepG.apply,Sem.runT_eq,vG,GStep.bare_after];exact jZ (λfr=>GStep.go {frame:=fr,callers:=cs,status:=.running,dying:=none} w') this
   ·rename_i f args w' vG;obtain⟨hn,hF,h⟩:=h;have Gi:(FR r).room ((b.atR a (.inRegion ops (i::rest)::k)::cs).length+1+(n-1)):=Fence.room_enter hr hn;obtain⟨e,AV,fr,hR,qI,uo,xW⟩:=h (b.atR a (.inRegion ops (i::rest)::k)::cs) Gi;have qJ:step P (lone (b.atR a (.inRegion ops (i::rest)::k)) cs w)=.next (lone (Frame.enter P f args .normal) (b.atR a (.inRegion ops (i::rest)::k)::cs) w') :=
     step_lone_go (by rw[hg];simp[stepG.apply,vG,Frame.atR])
    cases e with
    | returned v =>
     have hl:(lone fr (b.atR a (.inRegion ops (i::rest)::k)::cs) AV).fenced P (FR r):=fenced_leaving (uo▸hF) Gi xW;obtain⟨e,a',w3,hq,dZ⟩:=ih _ _ hR b k cs wP hb hr;refine⟨e,a',w3,hq,.of_steps (.head h0 qJ (StepsIn.trans qI (.one hl ?_))) dZ⟩;rw[<- zn0];exact step_leave_returned xW
    | panicked chain =>
     have hl:(lone fr (b.atR a (.inRegion ops (i::rest)::k)::cs) AV).fenced P (FR r):=fenced_leaving (uo▸hF) Gi xW;refine⟨.panic chain,a,AV,hR,.inRegion ops (i::rest)::k,rfl,.head h0 qJ (StepsIn.trans qI (.one hl ?_))⟩;rw[<- Frame.raise_atR];exact step_leave_panicked xW
    | outgrown =>
     obtain⟨a0,w0,hq⟩:=hR;exact⟨.outgrown,a0,w0,hq,.inr (Outgrown.of_steps (.one qJ) qI)⟩
   rename_i row args w' vG;obtain⟨hn,h⟩:=h;obtain⟨v,AV,hR,qI⟩:=h (b.atR a (.inRegion ops (i::rest)::k)) cs (Fence.room_enter hr hn);have qJ:step P (lone (b.atR a (.inRegion ops (i::rest)::k)) cs w)=.next (lone (Frame.ofRow P row args .normal) (b.atR a (.inRegion ops (i::rest)::k)::cs) w') :=
    step_lone_go (by rw[hg];simp[stepG.apply,vG,Frame.atR])
   obtain⟨e,a',w3,hq,dZ⟩:=ih _ _ hR b k cs wP hb hr;refine⟨e,a',w3,hq,.of_steps (.head h0 qJ ?_) dZ⟩;rw[<- zn0];exact qI
   ·rename_i l f tmps assign body w' vG;obtain⟨hn,_,h⟩:=h;obtain⟨e,AV,hR,qI⟩:=h (b.atR a (.inRegion ops (i::rest)::k)) cs (Fence.room_enter hr hn);have qJ:step P (lone (b.atR a (.inRegion ops (i::rest)::k)) cs w)=.next (lone (Frame.round l f tmps assign body .normal) (b.atR a (.inRegion ops (i::rest)::k)::cs) w') :=
     step_lone_go (by rw[hg];simp[stepG.apply,vG,Frame.atR])
    cases e with
    | returned v =>
     obtain⟨e,a',w3,hq,dZ⟩:=ih _ _ hR b k cs wP hb hr;refine⟨e,a',w3,hq,.of_steps (.head h0 qJ ?_) dZ⟩;rw[<- zn0];exact qI
    | panicked chain =>
     refine⟨.panic chain,a,AV,hR,.inRegion ops (i::rest)::k,rfl,.head h0 qJ ?_⟩;rw[<- Frame.raise_atR];exact qI
    | outgrown =>
     obtain⟨a0,w0,hq⟩:=hR;exact⟨.outgrown,a0,w0,hq,.inr (Outgrown.of_steps (.one qJ) qI)⟩
   rename_i v w' vG;refine⟨.panic [{v,recovered:=false}],a,w',h,.inRegion ops (i::rest)::k,rfl,.one h0 (step_lone_go ?_)⟩;rw[hg,<- Frame.raise_atR];simp[stepG.apply,vG];exact h.elim;simp only [hw,qdz,qje]at h;obtain⟨zcr,h⟩:=h;have h0:(lone (b.atR a (.inRegion ops (i::rest)::k)) cs w).fenced P (FR r):=fenced_oper hb hr ho zcr;obtain⟨e,a',w',hq,dZ⟩:=ih _ _ h b k cs wP hb hr;have hs:=stepR_op_skip (P:=P) (b:=b) (a:=a) (k:=k) (cs:=cs) (w:=w) (ops:=ops) (i:=i) (rest:=rest) (by simpa [ho]using hw);rw[ho]at hs;exact⟨e,a',w',hq,.of_steps (.one h0 hs) dZ⟩
theorem Nw{id:Nat}{ops:Array Oper}(h:wpOpsIn (FR r) n P ops Q (List.range ops.size) a w):Ef r n P (.region id ops false) Q a w:=λb k cs wP hb hr=>by
 obtain⟨e,a',w',hq,dZ⟩:=zpA _ a w h b k cs wP hb hr;exact⟨e,a',w',hq,.of_steps (.one (fenced_calm hb hr rfl) stepR_region) dZ⟩
theorem za6{P:Program}{fr:Frame}(h:zy1 fr.todo=true):fr.catches P=false:=by
 unfold Frame.catches;split;rename_i e;rw[e]at h;cases h;rfl
theorem Bg{P:Program}{fr c:Frame}{cs:List Frame}{w:World}{chain:List PanicEntry}(hm:fr.mode=.panicking chain)(hd:fr.defers=[])(ht:zy1 fr.todo=true):step P (lone fr (c::cs) w)=.next (lone (c.raise chain) cs w) :=
 step_lone_go (by simp[stepG,unwind,hm,hd,za6 ht])
def za7(P:Program)(l:Nat)(R:Ending→World→Prop):Exit→Act→World→Prop|.normal,_,w=>∃v w',(Instr.endRound l none).run P w=.ok v w'/\R (.returned v) w'|.ret,_,w=>∃v w',(Instr.endRound l (some .ret)).run P w=.ok v w'/\R (.returned v) w'|.exit id,_,w=>∃v w',(Instr.endRound l (some (.exit id))).run P w=.ok v w'/\R (.returned v) w'|.goto t,_,w=>∃v w',(Instr.endRound l (some (.goto t))).run P w=.ok v w'/\R (.returned v) w'|.panic ch,a,w=>a.defers=[]/\R (.panicked ch) w|.outgrown,_,_=>False
theorem Ny{l n:Nat}{P:Program}{f:FuncId}{tmps:Array Value}{assign body:Code}{w:World}{R:Ending→World→Prop}
    (h:Ef (some l) n P assign (Exit.then (λa1 w1=>∃w2,(Instr.beginRound l).run P w1=.ok () w2/\Ef (some l) n P body (za7 P l R) a1 w2) (λ_ _ _=>False)) {tmps:=tmps,defers:=[]} w) :
    RoundIn Fence.wide n P l f tmps assign body w R:=by
  refine⟨trivial,λc cs hr=>?_⟩;let b:Frame:={(default:Frame)with fn:=f,kind:=.normal,roundOf:=some l};have hb0:Frame.round l f tmps assign body .normal=b.atR {tmps:=tmps,defers:=[]} [.code assign,.beginRound,.code body]:=by
    simp[Frame.round,Frame.atR,b]
  have vG:(FR (some l)).room ((c::cs).length+1+n):=hr;obtain⟨e,a1,w1,hq,dZ⟩:=h b [.beginRound,.code body] (c::cs) rfl trivial vG;rw[<- hb0]at dZ;have back:∀{m m':Machine},StepsIn (Machine.fenced P (FR (some l))) P m m'->StepsIn (Machine.fenced P Fence.wide) P m m':=λh=>stepsIn_wide.2 (StepsIn.steps h);cases e with
  | normal =>
    obtain⟨w2,hbr,tq⟩:=hq;have s1:StepsIn (Machine.fenced P (FR (some l))) P (lone (b.atR a1 [.beginRound,.code body]) (c::cs) w1) (lone (b.atR a1 [.code body]) (c::cs) w2) :=
      .one (fenced_calm (fr:=b.atR a1 [.beginRound,.code body]) trivial vG rfl) (stepR_beginRound rfl hbr)
    obtain⟨e2,a2,w3,hq2,Eg⟩:=tq b [] (c::cs) rfl trivial vG;cases e2 with
    | normal =>
      obtain⟨v,w4,qm,hR⟩:=hq2;exact⟨.returned v,w4,hR,back ((StepsIn.trans dZ s1).trans (StepsIn.trans Eg (.one (fenced_calm (fr:=b.atR a2 []) trivial vG rfl) (stepR_round_end rfl rfl qm))))⟩
    | ret =>
      obtain⟨v,w4,qm,hR⟩:=hq2;obtain⟨k1,hs⟩:=Eg.2 rfl;exact⟨.returned v,w4,hR,back ((StepsIn.trans dZ s1).trans (StepsIn.trans hs (.one (fenced_calm (fr:=b.atR a2 (.code .ret::k1)) trivial vG rfl) (stepR_round_ret rfl rfl qm))))⟩
    | exit id =>
      obtain⟨v,w4,qm,hR⟩:=hq2;obtain⟨k1,hx,hs⟩:=Eg.2 rfl rfl;exact⟨.returned v,w4,hR,back ((StepsIn.trans dZ s1).trans (StepsIn.trans hs (.one (fenced_calm (fr:=b.atR a2 (.code (.exit id)::k1)) trivial vG rfl) (stepR_round_exit rfl rfl hx qm))))⟩
    | goto t =>
      obtain⟨v,w4,qm,hR⟩:=hq2;obtain⟨k1,hx,hs⟩:=Eg.2 rfl rfl;exact⟨.returned v,w4,hR,back ((StepsIn.trans dZ s1).trans (StepsIn.trans hs (.one (fenced_calm (fr:=b.atR a2 (.code (.goto t)::k1)) trivial vG rfl) (stepR_round_goto rfl rfl hx qm))))⟩
    | panic ch =>
      obtain⟨hd,hR⟩:=hq2;obtain⟨todo,ht,hs⟩:=Eg;refine⟨.panicked ch,w3,hR,back ((StepsIn.trans dZ s1).trans (StepsIn.trans hs (.one ?_ (Bg rfl hd ht))))⟩;refine fenced_calm (fr:={b.atR a2 todo with mode:=.panicking ch}) trivial vG ?_;simp[Frame.about,Frame.atR,hd]
    | outgrown=>exact hq2.elim
  | exit id=>exact hq.elim
  | goto l=>exact hq.elim
  | ret=>exact hq.elim
  | panic chain=>exact hq.elim
  | outgrown=>exact hq.elim
theorem PZ{r:Option Nat}{n:Nat}{P:Program}{Q:Exit→Act→World→Prop}{a:Act}{w:World}{g:Operand}{ps:Array Tmp}{assign body:Code}
    (h:∀fn,∃(l:Nat)(mark:List Deferred)(w₁:World)(d:Deferred)(w₁':World)(f:FuncId)(args:Array Value)(w₂:World),
      (Instr.enterLoop fn a.tmps ps assign body (FR r).round).run P w=.ok (l,mark) w₁ /\
      (resolve a.eval (rangeCall g l) 0).run P w₁=.ok d w₁' /\
      (invoke d.target d.args).run P w₁'=.ok (.enter f args) w₂ /\
      CallsIn (FR r) (n-1) P f args w₂ (λe w₃=>match e with
        | .returned _=>∃jump w₄,(Instr.endLoop l).run P w₃=.ok jump w₄/\(match jump with
          | none=>Q .normal {a with defers:=mark++a.defers} w₄
          | some c=>Ef r n P c Q {a with defers:=mark++a.defers} w₄)
        | .panicked chain=>Q (.panic chain) {a with defers:=mark++a.defers} w₃
        | .outgrown=>False)) :
    Ef r n P (.rangeFunc g ps assign body) Q a w:=by
  intro b k cs wP hb hr;obtain⟨l,mark,w₁,d,w₁',f,args,w₂,he,o6,hinv,hF,fM⟩:=h b.fn;rw[<- wP]at he;have h0:(lone (b.atR a (.code (.rangeFunc g ps assign body)::k)) cs w).fenced P (FR r):=fenced_lone (.inl trivial) (λ_ _=>trivial) (Fence.room_le hr omY);have qJ:=stepR_rangeFunc (P:=P) (b:=b) (a:=a) (k:=k) (cs:=cs) (w:=w) he o6 hinv;have Gi:(FR r).room ((b.atR {a with defers:=mark++a.defers} (.inRangeFunc l::k)::cs).length+1+(n-1)):=Fence.room_enter hr (λh=>by simp[FR]at h);obtain⟨e,w₃,fr,hR,qI,uo,xW⟩:=fM (b.atR {a with defers:=mark++a.defers} (.inRangeFunc l::k)::cs) Gi;cases e with
  | outgrown=>exact hR.elim
  | returned v =>
    have hl:(lone fr (b.atR {a with defers:=mark++a.defers} (.inRangeFunc l::k)::cs) w₃).fenced P (FR r):=fenced_leaving (uo▸hF) Gi xW;obtain⟨jump,w₄,qm,hj⟩:=hR;have zyc:StepsIn (Machine.fenced P (FR r)) P (lone (b.atR a (.code (.rangeFunc g ps assign body)::k)) cs w) (lone (b.atR {a with defers:=mark++a.defers} ((jump.map Item.code).toList++k)) cs w₄):=by
      refine .head h0 qJ (StepsIn.trans qI (.head hl ?_ (.one (fenced_calm (fr:=b.atR {a with defers:=mark++a.defers} (.endRangeFunc l::k)) hb hr rfl) (stepR_endRangeFunc qm))));rw[<- finish_atR_inRangeFunc l v];exact step_leave_returned xW
    cases jump with
    | none=>exact⟨.normal,_,w₄,hj,zyc⟩
    | some c =>
      obtain⟨e',a'',w₅,hq,dZ⟩:=hj b k cs wP hb hr;exact⟨e',a'',w₅,hq,.of_steps zyc dZ⟩
  | panicked chain =>
    have hl:(lone fr (b.atR {a with defers:=mark++a.defers} (.inRangeFunc l::k)::cs) w₃).fenced P (FR r):=fenced_leaving (uo▸hF) Gi xW;refine⟨.panic chain,_,w₃,hR,.inRangeFunc l::k,rfl,.head h0 qJ (StepsIn.trans qI (.one hl ?_))⟩;rw[<- Frame.raise_atR];exact step_leave_panicked xW
end
end Go.Pm
namespace Go.Pm
variable [aH]
open Go.RowKit (Below)
theorem zx{P:Program}:∀(l:List (Nat×Nat×Nat))(σ τ:St),CB σ τ→(mW P l σ=none∧mW P l τ=none)∨∃σ' τ',mW P l σ=some σ'∧mW P l τ=some τ'∧CB σ' τ'
  | [],σ,τ,h=>.inr ⟨σ,τ,rfl,rfl,h⟩
  | (t,L,e)::r,σ,τ,h=>by
    simp only[mW];rw[<- h.env,<- h.ax];split;split;split;refine zx r _ _ ⟨fun s => ?_,fun s => ?_,h.log⟩;simp only[aV,h.env];simp only[aV,h.ax];exact .inl ⟨rfl,rfl⟩;exact .inl ⟨rfl,rfl⟩;exact zx r _ _ h;exact .inl ⟨rfl,rfl⟩
theorem zy{P:Program}:∀(l:List (Nat×Nat×Nat×Nat))(σ τ:St),CB σ τ→(mX P l σ=none∧mX P l τ=none)∨∃σ' τ',mX P l σ=some σ'∧mX P l τ=some τ'∧CB σ' τ'
  | [],σ,τ,h=>.inr ⟨σ,τ,rfl,rfl,h⟩
  | (B,k,L,e)::r,σ,τ,h=>by
    simp only[mX];rw[<- h.ax,<- h.ax];split;split;split;split;refine zy r _ _ ⟨h.env,fun s => ?_,h.log⟩;simp only[aV,h.ax];exact .inl ⟨rfl,rfl⟩;exact .inl ⟨rfl,rfl⟩;exact zy r _ _ h;exact .inl ⟨rfl,rfl⟩;exact .inl ⟨rfl,rfl⟩
theorem zA{P:Program}:∀(l:List (Nat×Nat×Nat×Nat×Nat))(σ τ:St),CB σ τ→(mY P l σ=none∧mY P l τ=none)∨∃σ' τ',mY P l σ=some σ'∧mY P l τ=some τ'∧CB σ' τ'
  | [],σ,τ,h=>.inr ⟨σ,τ,rfl,rfl,h⟩
  | (B,k,L,te,e)::r,σ,τ,h=>by
    simp only[mY];rw[<- h.ax,<- h.ax];split;split;split;split;split;refine zA r _ _ ⟨h.env,fun s => ?_,h.log⟩;simp only[aV,h.ax];exact .inl ⟨rfl,rfl⟩;exact .inl ⟨rfl,rfl⟩;exact .inl ⟨rfl,rfl⟩;exact zA r _ _ h;exact .inl ⟨rfl,rfl⟩;exact .inl ⟨rfl,rfl⟩
theorem zB:∀(l:List Nat)(σ τ:St),CB σ τ→(mZ l σ=none∧mZ l τ=none)∨∃σ' τ',mZ l σ=some σ'∧mZ l τ=some τ'∧CB σ' τ'
  | [],σ,τ,h=>.inr ⟨σ,τ,rfl,rfl,h⟩
  | t::r,σ,τ,h=>by
    have ho:lk σ.ax=lk τ.ax:=funext h.ax;simp only[mZ];rw[<- h.env,<- ho];split;split;refine zB r _ _ ⟨fun s => ?_,h.ax,h.log⟩;simp only[aV,h.env];split;refine zB r _ _ ⟨fun s => ?_,fun s => ?_,h.log⟩;simp only[aV,h.env];simp only[gZ,h.ax];exact .inl ⟨rfl,rfl⟩;exact .inl ⟨rfl,rfl⟩
theorem G6{α:Type}{f:α→α}{l l':List (Nat×α)}(h:∀t,lk l t=lk l' t):∀ks,yc f l ks=yc f l' ks|[]=>rfl|t::r=>by simp only[yc,h,G6 h r]
theorem zjc{ob ob':Nat->Option AO}(h:∀t,ob t=ob' t):∀ks,Gx ob ks=Gx ob' ks:=by
 intro ks;have:ob=ob':=funext h;rw[this]
theorem zjd{ob ob':Nat->Option AO}(h:∀t,ob t=ob' t):∀ks,PQ ob ks=PQ ob' ks:=by
 intro ks;have:ob=ob':=funext h;rw[this]
theorem za8{P:Program}{k:Keep}{σ τ:St}(h:CB σ τ):yU P k σ=yU P k τ:=by
 unfold yU;rcases zx (P:=P) k.coT σ τ h with⟨h1,h2⟩|⟨σ1,τ1,h1,h2,h3⟩
 rw[h1,h2];rw [h1,h2];simp only;rcases zy (P:=P) k.coB σ1 τ1 h3 with⟨h4,h5⟩|⟨σ2,τ2,h4,h5,h6⟩
 rw[h4,h5];rw [h4,h5];simp only;rcases zA (P:=P) k.coV σ2 τ2 h6 with⟨h7,h8⟩|⟨σ3,τ3,h7,h8,h9⟩
 rw[h7,h8];rw [h7,h8];simp only;rw[G6 h9.env,show lk σ3.ax=lk τ3.ax from funext h9.ax];rw[G6 h9.ax]
theorem zje{σ τ:St}{n:Nat}(h:CB σ τ):CB (ze1 σ n) (ze1 τ n):=by
 have ho:lk σ.ax=lk τ.ax:=funext h.ax;unfold ze1;rw[<- ho]
 repeat' split
 all_goals first
  | exact h
  | exact⟨h.env,λt=>by simp only[jqY,aV,h.ax],h.log⟩
theorem zdg:∀(l:List Nat){σ τ:St},CB σ τ→CB (coP l σ) (coP l τ)|[],_,_,h=>h|_::r,_,_,h=>zdg r (zje h)
theorem zfF{P:Program}{k:Keep}{σ τ:St}(h:CB σ τ):canon P k σ=canon P k τ:=by
 unfold canon;have h1:CB (ze0 k.coF σ) (ze0 k.coF τ):=⟨h.env,λt=>by simp only[ze0,gZ,h.ax,zjc h.ax,zjd h.ax],h.log⟩;rcases zB k.coZ _ _ (zdg k.coF h1)with⟨h2,h3⟩|⟨σ1,τ1,h2,h3,h4⟩
 rw[h2,h3];rw[h2,h3];simp only;rw[za8 h4]
section
variable{P:Program}{Γ:bI}{nt B:Nat}{w0:World}{h0:Fz}{r:Option Nat}{n:Nat}
theorem mJ{b:Frame}{a:Act}{k:List Item}{cs:List Frame}{w:World}{c:Code} :
  step P (lone (b.atR a (.code (.scope c)::k)) cs w)=.next (lone (b.atR a (.code c :: .inScope c::k)) cs w) :=
 step_lone_go (by simp[stepG,stepG.exec,Frame.atR])
theorem P5{b:Frame}{a:Act}{k:List Item}{cs:List Frame}{w:World}{c:Code} :
  step P (lone (b.atR a (.inScope c::k)) cs w)=.next (lone (b.atR a k) cs w) :=
 step_lone_go (by simp[stepG,stepG.exec,Frame.atR])
theorem za9{c:Code}{Q:Exit->Act->World->Prop}{a:Act}{w:World}{F:Fence}(h:c.wpIn F n P (Exit.noGoto Q) a w):(Code.scope c).wpIn F n P Q a w:=by
 intro b k cs wP hb hr;obtain⟨e,a₁,w₁,hq,dZ⟩:=h b (.inScope c::k) cs wP hb hr;have h0:(lone (b.atR a (.code (.scope c)::k)) cs w).fenced P F:=fenced_calm hb hr rfl;cases e with
 | normal=>exact⟨.normal,a₁,w₁,hq,.head h0 mJ (StepsIn.trans dZ (.one (fenced_calm hb hr rfl) P5))⟩
 | exit id =>
  refine⟨.exit id,a₁,w₁,hq,λk' hk=>.head h0 mJ (dZ.1 k' (by simp[exitTo,hk])),λvG hk=>?_⟩;obtain⟨k₁,h1,h2⟩:=dZ.2 vG (by simp[exitTo,hk]);exact⟨k₁,h1,.head h0 mJ h2⟩
 | goto l=>exact hq.elim
 | ret=>exact⟨_,a₁,w₁,hq,.of_steps (.one h0 mJ) dZ⟩
 | panic ch=>exact⟨_,a₁,w₁,hq,.of_steps (.one h0 mJ) dZ⟩
 | outgrown=>exact⟨_,a₁,w₁,hq,.of_steps (b:=b) (k:=k) (cs:=cs) (e:=.outgrown) (.one h0 mJ) dZ⟩
def XI(F:Fence)(n:Nat)(P:Program)(c:Code)(Q:Exit->Act->World->Prop)(a:Act)(w:World):Prop :=
 ∀(b:Frame)(k:List Item)(cs:List Frame),b.roundOf=F.round->F.fn b.fn->F.room (cs.length+1+n) ->
  ∃e a' w',Q e a' w'/\ArrivesIn (Machine.fenced P F) P (lone (b.atR a (.code c :: .inLoop c::k)) cs w) b k cs e a' w'
theorem Jb{F:Fence}{c:Code}{Q:Exit->Act->World->Prop}{a:Act}{w:World}(h:XI F n P c Q a w):(Code.loop c).wpIn F n P Q a w:=by
 intro b k cs wP hb hr;obtain⟨e,a',w',hq,dZ⟩:=h b k cs wP hb hr;exact⟨e,a',w',hq,.of_steps (.one (fenced_calm hb hr rfl) stepR_loop) dZ⟩
theorem Jc{F:Fence}{c:Code}{Q:Exit->Act->World->Prop}{a:Act}{w:World}(h:c.wpIn F n P (Exit.then (XI F n P c Q) Q) a w):XI F n P c Q a w:=by
 intro b k cs wP hb hr;obtain⟨e,a₁,w₁,hq,dZ⟩:=h b (.inLoop c::k) cs wP hb hr;cases e with
 | normal =>
  obtain⟨e₂,a₂,w₂,hq₂,zOg⟩:=hq b k cs wP hb hr;exact⟨e₂,a₂,w₂,hq₂,.of_steps (StepsIn.trans dZ (.one (fenced_calm hb hr rfl) stepR_inLoop)) zOg⟩
 | exit id=>exact⟨_,a₁,w₁,hq,.pass (x:=.inLoop c) rfl (λ_ _=>.inl (by simp)) dZ⟩
 | goto l=>exact⟨_,a₁,w₁,hq,.pass (x:=.inLoop c) rfl (λ_ _=>.inl (by simp)) dZ⟩
 | ret=>exact⟨_,a₁,w₁,hq,.pass (x:=.inLoop c) rfl (λ_ _=>.inl (by simp)) dZ⟩
 | panic ch=>exact⟨_,a₁,w₁,hq,.pass (x:=.inLoop c) rfl (λ_ _=>.inl (by simp)) dZ⟩
 | outgrown=>exact⟨_,a₁,w₁,hq,.pass (x:=.inLoop c) rfl (λ_ _=>.inl (by simp)) dZ⟩
def PostR(P:Program)(nt B:Nat)(w0:World)(h0:Fz)(D:List Nat)(a0:Act)(K:Exit->St->Prop):Exit->Act->World->Prop :=
 λe a' w'=>∃g' σ',K e σ'/\bU P nt B w0 h0 g' σ' a' w'/\Kp D a0 a'
def Snd(P:Program)(Γ:bI)(aQ:dG)(B:Nat)(w0:World)(c:Code):Prop :=
 ∀(r:Option Nat)(n:Nat)(h0:Fz)(D:List Nat)(a0:Act)(K:Exit->St->Prop)(σ:St)(g:Gh)(a:Act)(w:World),(∀t∈eG c,t∈D)->Rnd r h0->vc P Γ aQ c K σ ->
  bU P aQ.nt B w0 h0 g σ a w->Kp D a0 a->Ef r n P c (PostR P aQ.nt B w0 h0 D a0 K) a w
theorem Eh:∀{l:List Oper}{j:Nat}{o:Oper}{t:Nat},l[j]? = some o→o.dst=some t→t∈Jz l
  | [],j,o,t,h,_=>by simp at h
  | x::l,j,o,t,h,hd=>by
    cases j with
    | zero =>
      simp only[qdG,bM]at h;subst h;simp only[Jz,hd];exact kH
    | succ j =>
      have:=Eh (l:=l) (j:=j) (by simpa using h) hd;simp only[Jz];split;exact jM _ this;exact this
theorem Rn(gp:jw P Γ)(aQ:dG){id:Nat}{ops:Array Oper}{draw:Bool}{K:St→Prop}{Q:Exit→Act→World→Prop}{D:List Nat}{a0:Act}{σ:St}{g:Gh}{a:Act}{w:World}
    (hD:∀t∈Jz ops.toList,t∈D) (h:Qx P Γ aQ id ops draw K σ) (S:bU P aQ.nt B w0 h0 g σ a w) (kZ:Kp D a0 a)
    (hQ:∀g' σ' a' w',K σ'->bU P aQ.nt B w0 h0 g' σ' a' w'->Kp D a0 a'->a'.defers=a.defers->Q .normal a' w'):Ef r n P (.region id ops draw) Q a w:=by
  have hD':∀(j:Nat)(o:Oper),ops[j]? = some o->∀t,o.dst=some t->t∈D:=λj o ho t ht=>hD t (Eh (by simpa using ho) ht);have zSm:∀σ',(match lk aQ.reg id with|some k=>(match canon P k σ' with|some s=>K s|none=>False)|none=>K σ')->∀g' a' w',bU P aQ.nt B w0 h0 g' σ' a' w'->Kp D a0 a'->a'.defers=a.defers->Q .normal a' w':=by
    intro σ' h g' a' w' S jO Gg;split at h;split at h;rename_i s hs;obtain⟨g2,S2⟩:=eQ hs S;exact hQ g2 s a' w' h S2 jO Gg;exact h.elim;exact hQ g' σ' a' w' h S jO Gg
  simp only[Qx]at h;cases draw with
  | false =>
    refine Nw ?_;exact IV gp hD' h (S.log _) kZ zSm
  | true =>
    simp only at h;split at h;rename_i hc;simp only[fQ]at hc;refine pX (Q:=λe a w=>e=.normal/\Q .normal a w) (zfB ?_ λch a w h=>by cases h.1) λe a w h=>by obtain⟨rfl,h⟩:=h;exact h
    refine za2 (K:=λσ'=>match lk aQ.reg id with
      | some k=>match canon P k σ' with|some s=>K s|none=>False
      | none=>False) gp hD' kZ hc.1.1 hc.1.2 hc.2 (λσ τ he hσ=>?_) h (S.log []) ?_
    split at hσ;rename_i k hk;rw[zfF he]at hσ;exact hσ;exact hσ.elim;intro σ' h g' a' w' S jO Gg;split at h;split at h;rename_i s hs;obtain⟨g2,S2⟩:=eQ hs S;exact⟨rfl,hQ g2 s a' w' h S2 jO Gg⟩;exact h.elim;exact h.elim;exact h.elim
theorem G9{α:Type}:∀{l p:List α}{x:α},qA l=some (p,x)→l=p++[x]
  | [],p,x,h=>by cases h
  | o::r,p,x,h=>by
    simp only[qA]at h;split at h;rename_i q y hq;cases h;rw[qdW,<- G9 hq]
    · rename_i hq;cases h;cases r with|nil=>rfl|cons a r=>simp only[qA]at hq;split at hq<;>cases hq
theorem zjf{P:Program}{nt:Nat}{m p:Oper}{ty:TypeId}{x y:Nat}(h:ze3 P nt m p=some (ty,x,y)) :
  m.op=.makeInterface ty (.tmp x)/\m.dst=some y/\m.guard=none/\p.op=.panic (.tmp y)/\p.guard=none/\y<nt/\∃fs,P.underlying ty=some (.struct fs):=by
 unfold ze3 at h;split at h;rename_i ty' x' y1 y2 e1 e2 e3 e4 e5;split at h;rename_i hc;simp only[fQ]at hc;split at h;rename_i fs hfs;cases h;have:=lu hc.1;subst this;exact⟨e1,e2,e3,e4,e5,by simpa [qjl]using hc.2,fs,hfs⟩;cases h;cases h;cases h
theorem zjg{Γ:bI}{o:Oper}{σ:St}{C:MK}{xs:List XA}{ds:List DV}{ls ms:List Nat}(h:ze4 Γ o σ=some (C,xs,ds,ls,ms)) :
  ∃f args ts gf caps,o.op=.call {callee:=.value f,args,argTypes:=ts}/\fU σ.env f=.one (.c (.clo gf caps))/\Γ.mt gf=some C/\ds=args.toList.map (fU σ.env)++caps.map capD/\kD (zeY gf args.size caps) (lk σ.ax) ds=some (xs,ls,ms):=by
 unfold ze4 at h;split at h;rename_i f args ts e1;split at h;rename_i gf caps e2;split at h;rename_i C' e3;split at h;rename_i xs' ls' ms' e4;cases h;exact⟨f,args,ts,gf,caps,e1,e2,e3,rfl,e4⟩;cases h;cases h;cases h;cases h
theorem zfG{ds:List DV}{ob:Nat→Option AO}{ls ms:List Nat}{rs:List PA}{ys:List XA}{i:Nat}{dst:Option Nat}{σ σ2:St}(h:PR i dst σ (qL ds ob ls ms rs ys)=some σ2) :
  ∃u,jW ob ds ys=some u/\(lS ls&&Nat.ble ms.length 1&&ms.all λM=>((u.filter λx=>!lF x.2).map (·.1)).contains M)=true/\∃fp,σ2=σ.upd i dst fp (resD rs) (u.filter λx=>!lF x.2) ms:=by
 unfold qL at h;split at h;rename_i u hu;split at h;rename_i hc;cases h;exact⟨u,hu,hc,_,rfl⟩;cases h;cases h
theorem Jd{o:Oper}{a:Act}{w w':World}{Q:Exit→Act→World→Prop}{next:Act→World→Prop}(Aa:∀c,o.op ≠ .defer c){f:FuncId}{args:Array Value}(h:(execOp a.eval o).run P w = .ok (.enter f args) w')
    (hR:Calls P f args w' λe AV=>(∃v,e=.returned v/\next (a.put o.dst v) AV)\/∃ch,e=.panicked ch/\Q (.panic ch) a AV):o.wpIn (FR r) n P a w next Q:=by
  refine⟨λ_ _=>trivial,?_⟩;rw[Oper.semAt_eq _ _ _ Aa,h,Oper.uponIn_enter];refine⟨λh=>by simp[FR]at h,(LM hR).mono ?_⟩;rintro e AV (⟨v,rfl,hv⟩|⟨ch,rfl,hv⟩);exact hv;exact hv
theorem zba(gp:jw P Γ)(aQ:dG){id:Nat}{ops:Array Oper}{K:Exit→St→Prop}{D:List Nat}{a0:Act}{σ:St}{g:Gh}{a:Act}{w:World}
    (hD:∀t∈Jz ops.toList,t∈D) (h:Lt P Γ aQ id ops K σ) (S:bU P aQ.nt B w0 h0 g σ a w) (kZ:Kp D a0 a):Ef r n P (.region id ops false) (PostR P aQ.nt B w0 h0 D a0 K) a w:=by
  have hD':∀(j:Nat)(o:Oper),ops[j]? = some o->∀t,o.dst=some t->t∈D:=λj o ho t ht=>hD t (Eh (by simpa using ho) ht);refine Nw ?_;unfold Lt at h;split at h
  rotate_left
  exact h.elim;rename_i p1 l hs;have e0:=G9 hs;have jL:ops.size=p1.length+1:=by rw[<- qjg,e0];simp
  have at_:∀j:Nat,ops[j]? = (p1++[l])[j]?:=λj:Nat=>by rw[<- e0,jqZ]
  split at h
  rotate_left
  exact h.elim;rename_i pre m hs1;have e1:=G9 hs1;split at h
  · -- the region panics
    rename_i ty x y zy2;obtain⟨q1,q2,q3,q4,q5,q6,fs,q7⟩:=zjf zy2;have zOv:ops.size=pre.length+2:=by rw[jL,e1];simp
    have om:ops[pre.length]? = some m:=by rw[at_,e1];simp
    have ol:ops[pre.length+1]? = some l:=by rw[at_,e1];simp
    rw[dq7,zOv,show List.range' 0 (pre.length+2)=List.range' 0 pre.length++[pre.length,pre.length+1]by rw[show pre.length+2=pre.length+1+1 by rfl,jqg,jqg];simp];refine rY _ a w ?_;refine zn (r:=r) (n:=n) (ad:=a.defers) gp hD' ?_ pre 0 _ g a w (λj hj=>by rw[PK,at_,e1,qdR,qjM hj]) h (S.log []) kZ rfl;intro σ' hK g' a' w' S' zfA _;unfold zyA at hK;split at hK
    rotate_left
    exact hK.elim;rename_i k nn hx;have hv:a'.tmps.getD x undef=.agg #[.int k nn]:=by
      obtain⟨vs,e,hr⟩:=S'.env x _ hx
      match vs,hr with
      | [v],hr =>
        have:Rep g'.h (.int k nn) v:=hr.1;cases this;exact e
    show wpOpsIn (FR r) n P ops _ [pre.length,pre.length+1] a' w';have w1:∀tm,Region.wanted m (yielded ops tm)=true:=λtm=>by simp[Region.wanted,q3]
    have w2:∀tm,Region.wanted l (yielded ops tm)=true:=λtm=>by simp[Region.wanted,q5]
    simp only[wpOpsIn,om,ol,w1,w2,Qs];have r1:(execOp a'.eval m).run P w'=.ok (.value (.iface ty (.agg #[.int k nn]))) w':=by
      simp only[execOp,q1,Instr.makeInterface,Act.eval,hv,Sem.run_bind,run_underlying q7,Result.andThen_ok,Sem.run_pure]
    have m1:∀c,m.op ≠ .defer c:=λc e=>by rw[q1]at e;cases e
    have m2:∀c,l.op ≠ .defer c:=λc e=>by rw[q4]at e;cases e
    refine⟨λ_ _=>trivial,?_⟩;rw[Oper.semAt_eq _ _ _ m1,r1,Oper.uponIn_value,q2];refine⟨λ_ _=>trivial,?_⟩;have ets:y<a'.tmps.size:=qdw q6 S'.size;have r2:(execOp (a'.put (some y) (.iface ty (.agg #[.int k nn]))).eval l).run P w'=.halt (.panic (.iface ty (.agg #[.int k nn]))) w':=by
      have ey:(a'.put (some y) (.iface ty (.agg #[.int k nn]))).eval (.tmp y)=.iface ty (.agg #[.int k nn]):=by
        simp[Act.put,Act.eval,yB,ets]
      simp only[execOp,q4,ey];rfl
    rw[Oper.semAt_eq _ _ _ m2,r2,Oper.uponIn_panic];have S2:=S'.put (dst:=some y) (d:=.junk) (v:=.iface ty (.agg #[.int k nn])) (by simpa [dH,qjl]using q6) trivial (λL hL=>by simp[bY,dC,bg]at hL) [];exact⟨g',_,hK,S2,zfA.put (λt ht=>hD' pre.length m om t (q2.trans ht)) _ a'.defers rfl⟩
  · -- the last operation is a call
    have ol:ops[p1.length]? = some l:=by rw[at_];simp
    rw[dq7,jL,show List.range' 0 (p1.length+1)=List.range' 0 p1.length++[p1.length]by rw[jqg];simp];refine rY _ a w ?_;refine zn (r:=r) (n:=n) (ad:=a.defers) gp hD' ?_ p1 0 _ g a w (λj hj=>by rw[PK,at_,qjM hj]) h (S.log []) kZ rfl;intro σ' hK g' a' w' S' zfA _;show wpOpsIn (FR r) n P ops _ [p1.length] a' w';unfold zaw at hK;split at hK
    rotate_left
    exact hK.elim;rename_i q5 q6;split at hK
    rotate_left
    exact hK.elim;rename_i C xs ds ls ms hm;obtain⟨f,args,ts,gf,caps,c1,c2,c3,c4,c5⟩:=zjg hm;split at hK
    rotate_left
    exact hK.elim;rename_i rs ys hC;obtain⟨cv,Pv,kK⟩:=(iQ S' c2).1;have w1:∀tm,Region.wanted l (yielded ops tm)=true:=λtm=>by simp[Region.wanted,q5]
    simp only[wpOpsIn,ol,w1,Qs];have df:dw P gf->(execOp a'.eval l).run P w'=.ok (.enter gf (args.toList.map a'.eval++cv).toArray) w':=by
      intro fM;simp only[execOp,c1,resolve,Pv,Deferred.ofValue,Sem.run_bind,Sem.run_pure,Result.andThen_ok,invoke];rw[show(#[]++Array.map a'.eval args++cv.toArray)=(args.toList.map a'.eval++cv).toArray by cases args;simp];exact eF fM
    have Qm:RL (rW g') ds (args.toList.map a'.eval++cv):=by rw[c4];exact(DW S' args.toList).append (Tz kK)
    have main:∀(dst:Option Nat)(σ2:St),PR p1.length dst σ' (qL ds (lk σ'.ax) ls ms rs ys)=some σ2 ->
        dw P gf/\Calls P gf (args.toList.map a'.eval++cv).toArray w' λe w2=>∃g2 u fp,σ2=σ'.upd p1.length dst fp (resD rs) u ms/\PS g2.h rs e/\bU P aQ.nt B w0 h0 g2 ⟨kills (gU ms) σ'.env,u++kills (fE ms) σ'.ax,σ'.log⟩ a' w2:=by
      intro dst σ2 h2;obtain⟨u,hu,dm,fp,hσ⟩:=zfG h2;obtain⟨fM,xg⟩:=Xh gp S' c3 Qm (ziK kK (by simp)) c5 hC hu dm none;exact⟨fM,xg.mono λe w2 ⟨g2,he,S2⟩=>⟨g2,_,fp,hσ,he,S2⟩⟩
    split at hK
    · rename_i hpm;split at hK
      rotate_left
      exact hK.elim;rename_i σ2 h2;obtain⟨fM,xg⟩:=main _ _ h2;refine Jd (λc e=>by rw[c1]at e;cases e) (df fM) (xg.mono ?_);rintro e w2 ⟨g2,u,fp,hσ,qm,S2⟩;unfold PS at qm;rw[hpm]at qm;obtain⟨v,rfl,o6⟩:=qm;refine .inl ⟨v,rfl,?_⟩;have S3:=S2.put (v:=v) (d:=resD rs) q6 (Tt (g:=g2) o6) (λL hL=>by rw[DU]at hL;simp at hL) σ'.log;have zpB:=zfA.put (hD' p1.length l ol) v a'.defers rfl;rw[Tv]at hσ;rw[hσ]at hK;unfold ze2 at hK;split at hK;split at hK;rename_i s hs2;obtain⟨g3,S4⟩:=eQ hs2 S3;exact⟨g3,s,hK,S4,zpB⟩;exact hK.elim;exact⟨g2,_,hK,S3,zpB⟩
    · rename_i ch hpm;split at hK
      rotate_left
      exact hK.elim;rename_i σ2 h2;obtain⟨fM,xg⟩:=main _ _ h2;refine Jd (λc e=>by rw[c1]at e;cases e) (df fM) (xg.mono ?_);rintro e w2 ⟨g2,u,fp,hσ,qm,S2⟩;unfold PS at qm;rw[hpm]at qm;refine .inr ⟨ch,qm,?_⟩;rw[Tv]at hσ;rw[hσ]at hK;exact⟨g2,_,hK,S2,zfA⟩
def XJ(P:Program)(Γ:bI)(aQ:dG)(x y:Code)(ps:List Nat)(k:Keep)(K:Exit→St→Prop):List (List PA)→St→Prop
  | [],s=>K .normal s
  | yv::rest,s=>match qM ps yv s.env with|some env=>vc P Γ aQ x (ze5 (vc P Γ aQ y (uG P k (nR [IC] (eG x++eG y)) (XJ P Γ aQ x y ps k K rest) K)) λ_ _=>False) ⟨env,s.ax,[]⟩|none=>False
theorem XK{w:World}{l:Nat}{o:Obj}(h:w.heap[l]? = some o):w.putObj l o=w:=by
 obtain⟨hl,e⟩:=Wh.1 h;unfold World.putObj;have:w.heap.setIfInBounds l o=w.heap:=by
  apply Array.ext_getElem?;intro i;rw[qd9];split;rename_i c;subst c
  first|(rw[eU hl];exact h.symm)|exact h.symm
  rfl
 rw[this]
theorem XL(gp:jw P Γ){aQ:dG}{f:Operand}{ps:Array Tmp}{x y:Code}(ihx:Snd P Γ aQ B w0 x)(ihy:Snd P Γ aQ B w0 y):Snd P Γ aQ B w0 (.rangeFunc f ps x y):=by
 intro r n h0 D a0 K σ g a w hD hR h S kZ;simp only[vc]at h;split at h
 ·rename_i k hk;split at h
  ·rename_i s hs zvp;simp only[fQ] at zvp;obtain⟨zvp,zSo⟩:=zvp;split at h
   ·rename_i gf caps hf;split at h
    ·rename_i ys hit;have zOy:XJ P Γ aQ x y ps.toList k K ys s:=h (XJ P Γ aQ x y ps.toList k K) (λ_ h=>h) (λ_ _ _ h=>h);obtain⟨g1,S1⟩:=eQ hs S;have F9:∀t∈k.tmps,t∉ps.toList/\t∉eG x++eG y:=by
      intro t ht;have h1:=yL.1 zvp t ht;simp only[JS]at h1;have h2:t∉ps.toList++(eG x++eG y):=by simpa using h1
      exact⟨λh=>h2 (dR.2 (.inl h)),λh=>h2 (dR.2 (.inr h))⟩
     refine PZ λfn=>?_;obtain⟨l,mark,w1,d,h1,df,hlw,hl1,z1q,hn1,S2,zHn⟩:=PY S1 hR fn ps x y;have uo:=jI S1 hf;generalize Pv:a.eval f=fvv at uo;cases uo with
     | fn _ _ _ fv cv l1 l2 hf1 F6 =>
      have e1:fv=[]:=qdD l1.symm;subst e1;let a1:Act:={a with defers:=mark++a.defers};let rec_:LoopState->Option Code->Loop:=λst pe=>{state:=st,pending:=pe,fn,tmps:=a.tmps,params:=ps,assign:=x,body:=y,defers:=d}
      let J:List (List PA)->Fz->World->Prop:=λ rest h W=>∃ s bk sv iv,XJ P Γ aQ x y ps.toList k K rest s/\(∀ t d,lk s.env t=some d->t∈k.tmps)/\bU P aQ.nt B w0 h0 ⟨h,bk,sv,iv⟩ s a1 W/\h l=none/\B<=l /\
       (∀L o,lk s.ax L=some o->¬gY ⟨h,bk,sv,iv⟩ L o l)/\W.heap[l]? = some (.loop (rec_ .ready none))
      let Jx:List (List PA)->Fz->World->Prop:=λ _ h W=>∃ s bk sv iv c,((c=.ret/\K .ret s)\/∃ id,c=.exit id/\K (.exit id) s)/\bU P aQ.nt B w0 h0 ⟨h,bk,sv,iv⟩ s a1 W/\h l=none/\B<=l /\
       (∀L o,lk s.ax L=some o->¬gY ⟨h,bk,sv,iv⟩ L o l)/\W.heap[l]? = some (.loop (rec_ .done (some c)))
      have zvU:∀{h h':Fz}{W W':World},W.heap[l]? ≠ none->h l=none->(∀b o,h' b=some o->h b=some o\/W.heap.size<=b)->yg h W.heap.size W W'->h' l=none/\W'.heap[l]? = W.heap[l]?:=by
       intro h h' W W' hW hl hn hb;have iF:l<W.heap.size:=by
        cases hx:W.heap[l]? with|none=>exact absurd hx hW|some o=>exact(Wh.1 hx).1
       refine⟨?_,hb.block l iF⟩;cases hx:h' l with
       | none=>rfl
       | some o =>
        rcases hn l o hx with h3|h3
        rw[hl]at h3;cases h3;omega
      have hJ:JSt J:=by
       rintro rest h W h' W' ⟨s,bk,sv,iv,hg,he,SJ,hl,hB,wR,hW⟩ hle KJ hn hb;obtain⟨k1,k2⟩:=zvU (by rw[hW];simp) hl hn hb;exact⟨s,bk,sv,iv,hg,he,SJ.world hle KJ hn hb,k1,hB,wR,by rw[k2];exact hW⟩
      have hJx:JSt Jx:=by
       rintro rest h W h' W' ⟨s,bk,sv,iv,c,hc,SJ,hl,hB,wR,hW⟩ hle KJ hn hb;obtain⟨k1,k2⟩:=zvU (by rw[hW];simp) hl hn hb;exact⟨s,bk,sv,iv,c,hc,SJ.world hle KJ hn hb,k1,hB,wR,by rw[k2];exact hW⟩
      have hBl:B<=l:=Gj S1.bs hlw;have h0l:∀{h:Fz} {bk sv iv} {s:St} {W:World},bU P aQ.nt B w0 h0 ⟨h,bk,sv,iv⟩ s a1 W->h l=none->h0 l=none:=λSJ hl=>by
       cases hx:h0 l with|none=>rfl|some o=>have:=SJ.le0 l o hx;simp only[hl]at this;cases this
      have zSp:∀L o,lk s.ax L=some o->¬gY (g1.re h1) L o l:=λL o ho hk=>by
       have:gY g1 L o l:=hk;have:=iP (S1.obj L o ho) this;omega
      have zEC:=gp.it gf (caps.map .one) ys hit l J Jx (λe W=>∃ch s bk sv iv h,e=.panicked ch/\K (.panic ch) s/\bU P aQ.nt B w0 h0 ⟨h,bk,sv,iv⟩ s a1 W) w1 h1 cv hJ hJx ?_ ⟨s,g1.bk,g1.sv,g1.iv,zOy,G5 hs,S2,hn1,hBl,zSp,hl1⟩ (zaL ((MJ l2 F6).mono λ_ _ h=>h.mono z1q)) S2.hw;obtain⟨fM,z0W⟩:=zEC;refine⟨l,mark,w1,{target:=.fn (.func gf) cv.toArray,args:=#[.func (.yield l) #[] #[]]},w1,gf,(.func (.yield l) #[] #[]::cv).toArray,w1,?_,?_,?_,(LM z0W).mono ?_⟩;exact df;simp only [resolve,Pv];simp[go_sem];simp only [invoke];rw[show(#[.func (.yield l) #[] #[]]++cv.toArray)=(.func (.yield l) #[] #[]::cv).toArray by simp];exact eF fM;have col:∀d∈a1.defers,d∈a0.defers\/∃b,d.target=.collected b:=λd hd=>by
       rcases dR.1 hd with hd|hd
       exact .inr (zHn d hd);exact kZ.2.2.2 d hd
      rintro e W3 (⟨v,h3,rfl,zOq,hw3,(⟨s3,bk,sv,iv,hg3,he3,S3,hl3,hB3,zy3,hW3⟩|⟨_,s3,bk,sv,iv,c,hc,S3,hl3,hB3,zy3,hW3⟩)⟩|⟨⟨ch,rfl⟩,ch',s3,bk,sv,iv,h3,e3,hK3,S3⟩);have S4:=S3.putObj (.loop {rec_ .ready none with state := .exhausted}) hl3 hB3 zy3;refine⟨none,_,run_endLoop hW3 (by simp[rec_]),_,s3,hg3,S4,kZ.1,kZ.2.1,λhr=>absurd (hD IC kH) hr,col⟩;have S4:=S3.putObj (.loop {rec_ .done (some c)with state := .exhausted}) hl3 hB3 zy3;refine⟨some c,_,run_endLoop hW3 (by simp[rec_]),?_⟩;rcases hc with⟨rfl,hc⟩|⟨id,rfl,hc⟩
      exact zdf ⟨_,s3,hc,S4,kZ.1,kZ.2.1,λhr=>absurd (hD IC kH) hr,col⟩;exact XG ⟨_,s3,hc,S4,kZ.1,kZ.2.1,λhr=>absurd (hD IC kH) hr,col⟩;cases e3;exact⟨_,s3,hK3,S3,kZ.1,kZ.2.1,λhr=>absurd (hD IC kH) hr,col⟩
      ·-- one round
       rintro yv rest h W us ⟨s,bk,sv,iv,hg,hek,SJ,hl,_,wR,hW⟩ Po hHw n';simp only[XJ]at hg;split at hg
       ·rename_i env zco;have iF:l<W.heap.size:=(Wh.1 hW).1;have z5c:=h0l SJ hl;have SJ2:=SJ.up.hide hl hW hBl wR;have zvg:ku h (h.add l (.loop (rec_ .ready none))):=Fz.le_add hl;have zSq:∀p∈ps.toList,p<a.tmps.size:=λp hp=>by
         have:=yL.1 zSo p hp;exact qdw (by simpa [qjl]using this) SJ.size
        obtain⟨hul,zHo⟩:=zde (g:=(⟨h.add l (.loop (rec_ .ready none)),bk,sv,iv⟩:Gh)) 0 ps.toList yv us s.env env a.tmps zco (Po.mono λp q hpq=>by
         cases p with
         | one v=>exact Rep.mono zvg hpq
         | agg cs=>obtain⟨vs,h5,h6⟩:=hpq;exact⟨vs,h5,h6.mono λ_ _=>Rep.mono zvg⟩) zSq (λt d ht=>SJ2.env t d ht)
        have zSr:(ps.zip us.toArray).foldl (λtmps (t,a)=>tmps.setIfInBounds t a) a.tmps=(ps.toList.zip us).foldl (λt (p,v)=>t.setIfInBounds p v) a.tmps:=by
         rw[<- Array.foldl_toList,Array.toList_zip]
        let ar:Act:={tmps:=(ps.toList.zip us).foldl (λt (p,v)=>t.setIfInBounds p v) a.tmps,defers:=[]};have Sr:bU P aQ.nt B w0 (h.add l (.loop (rec_ .ready none))) ⟨h.add l (.loop (rec_ .ready none)),bk,sv,iv⟩ ⟨env,s.ax,[]⟩ ar W:=by
         have Sa:=(SJ2.envs (env:=[]) (λt d ht=>by simp[lk]at ht) (λt d ht=>by simp[lk]at ht) []).act (a':=ar) (Marks.nil _ _) (by rw[show ar.tmps.size=a.tmps.size from fold_size _ _];exact SJ.size) (λt d ht=>by simp[lk]at ht);exact Sa.envs zHo (λt d ht L hL=>by
          rcases Rl _ _ _ _ zco t d ht with h5|h5
          exact SJ.clE t d h5 L hL;rw[h5]at hL;simp at hL) []
        have hrd:∀st pe,Rnd (some l) (h.add l (.loop (rec_ st pe))):=λst pe l' e=>by cases e;exact⟨_,Fz.add_same⟩
        refine⟨_,_,_,_,by rw[run_yield (P:=P) (args:=us.toArray) hW (by simp[rec_,hul]),zSr],Ny ?_⟩;show Ef (some l) n' P x _ ar W;refine pX (ihx (some l) n' _ (eG x++eG y) ar _ _ _ ar W (λt ht=>dR.2 (.inl ht)) (hrd _ _) hg Sr (Kp.refl _ _)) ?_;rintro e a' w' ⟨g2,σ2,hK2,S2,zpB⟩;cases e with
        | normal =>
         simp only[ze5]at hK2;obtain⟨_,zHp,Z7,S3⟩:=S2.unhide hBl hl rfl (λds=>by simp);refine⟨_,run_beginRound Z7 rfl,?_⟩;have S4:=S3.putObj (.loop {rec_ .ready none with state:=.busy}) Fz.del_same hBl zHp;have hw4:(w'.putObj l (.loop {rec_ .ready none with state:=.busy})).heap[l]? = some (.loop (rec_ .busy none)):=World.putObj_heap_same (Wh.1 Z7).1;have S5:=S4.hide (o:=.loop (rec_ .busy none)) Fz.del_same hw4 hBl zHp;show Ef (some l) n' P y _ a' _;refine pX (ihy (some l) n' _ (eG x++eG y) ar _ σ2 _ a' _ (λt ht=>dR.2 (.inr ht)) (hrd _ _) hK2 S5 zpB) ?_;rintro e a5 w5 ⟨g6,σ6,V3,S6,zHq⟩
         have back:∀s7,canon P k σ6=some s7->∃(w5l:w5.heap[l]? = some (.loop (rec_ .busy none)))(h':Fz)(bk sv:_)(iv:Nat->Nat->Value),ku h h'/\h' l=none /\
           ∀o',bU P aQ.nt B w0 h0 ⟨h',bk,sv,iv⟩ s7 a1 (w5.putObj l o')/\(∀L o,lk s7.ax L=some o->¬gY ⟨h',bk,sv,iv⟩ L o l):=by
          intro s7 hs7;obtain⟨g7,S7⟩:=eQ hs7 S6;obtain⟨_,zHr,hw8,S8⟩:=S7.unhide hBl hl rfl (λds=>by simp);have zHs:ku h (g7.h.del l):=S8.le0;refine⟨hw8,g7.h.del l,g7.bk,g7.sv,g7.iv,zHs,Fz.del_same,λo'=>⟨?_,zHr⟩⟩;have S9:=(S8.putObj o' Fz.del_same hBl zHr).down (h0:=h0) SJ.le0 SJ.hn;refine S9.act (SJ.dfr.mono zHs) SJ.size λt d ht=>?_;obtain⟨h10,h11⟩:=F9 t (G5 hs7 t d ht);have h12:=zHq.1 t h11;have h13:ar.tmps.getD t undef=a.tmps.getD t undef:=Nu _ _ _ λq hq e=>h10 (e▸(List.of_mem_zip hq).1);have:=S9.env t d ht;rw[h12,h13]at this;exact this
         cases e with
         | normal =>
          simp only[uG]at V3;split at V3;rename_i s7 hs7;obtain⟨w5l,h',bk',sv',iv',iy,yK,hS⟩:=back s7 hs7;have zjj:=(Wh.1 w5l).1;refine⟨_,_,run_endRound none w5l,.inl ⟨h',iy,(hS _).1.hw,.inl ⟨rfl,s7,bk',sv',iv',V3,G5 hs7,(hS _).1,yK,hBl,(hS (.loop (rec_ .ready none))).2,?_⟩⟩⟩;exact World.putObj_heap_same zjj;exact V3.elim
         | ret =>
          simp only[uG]at V3;split at V3;rename_i s7 hs7;obtain⟨w5l,h',bk',sv',iv',iy,yK,hS⟩:=back s7 hs7;have zjj:=(Wh.1 w5l).1;refine⟨_,_,run_endRound (some .ret) w5l,.inl ⟨h',iy,(hS _).1.hw,.inr ⟨rfl,s7,bk',sv',iv',.ret,.inl ⟨rfl,V3⟩,(hS _).1,yK,hBl,(hS (.loop (rec_ .ready none))).2,?_⟩⟩⟩;exact World.putObj_heap_same zjj;exact V3.elim
         | exit id =>
          simp only[uG]at V3;split at V3;rename_i s7 hs7;obtain⟨w5l,h',bk',sv',iv',iy,yK,hS⟩:=back s7 hs7;have zjj:=(Wh.1 w5l).1;refine⟨_,_,run_endRound (some (.exit id)) w5l,.inl ⟨h',iy,(hS _).1.hw,.inr ⟨rfl,s7,bk',sv',iv',.exit id,.inr ⟨id,rfl,V3⟩,(hS _).1,yK,hBl,(hS (.loop (rec_ .ready none))).2,?_⟩⟩⟩;exact World.putObj_heap_same zjj;exact V3.elim
         | goto q=>exact V3.elim
         | panic ch =>
          simp only[uG]at V3;split at V3;rename_i hnp hs7;obtain⟨w5l,h',bk',sv',iv',iy,yK,hS⟩:=back _ hs7;have hr:IC∉eG x++eG y:=by
           have:=yL.1 hnp IC (by simp);simpa using this
          refine⟨zHq.2.2.1 hr,.inr ⟨⟨ch,rfl⟩,ch,_,bk',sv',iv',h',rfl,V3,?_⟩⟩;have:=(hS (.loop (rec_ .busy none))).1;rwa[XK w5l]at this;exact V3.elim
         | outgrown=>exact V3.elim
        | exit id=>exact hK2.elim
        | goto q=>exact hK2.elim
        | ret=>exact hK2.elim
        | panic ch=>exact hK2.elim
        | outgrown=>exact hK2.elim
       exact hg.elim
    exact h.elim
   exact h.elim
  exact h.elim
 exact h.elim
theorem Nz(gp:jw P Γ)(aQ:dG):∀(c:Code),Snd P Γ aQ B w0 c:=by
 intro c
 induction c with
 | skip=>intro r n h0 D a0 K σ g a w _ _ h S kZ;exact zja ⟨g,σ,h,S,kZ⟩
 | region id ops draw =>
  intro r n h0 D a0 K σ g a w hD _ h S kZ;simp only[vc]at h;split at h;exact Rn gp aQ hD h S kZ λg' σ' a' w' hK S' jO _=>⟨g',σ',hK,S',jO⟩;rename_i hp;have hdr:draw=false:=by cases draw<;>simp_all
  subst hdr;exact zba gp aQ hD h S kZ
 | seq x y ihx ihy =>
  intro r n h0 D a0 K σ g a w hD hR h S kZ;refine zpz (pX (ihx r n h0 D a0 _ σ g a w (λt ht=>hD t (dR.2 (.inl ht))) hR h S kZ) ?_);have hDy:∀t∈eG y,t∈D:=λt ht=>hD t (dR.2 (.inr ht));rintro e a' w' ⟨g',σ',hK,S',jO⟩;cases e with
  | normal =>
   simp only[ze5,zoW]at hK;split at hK;split at hK;rename_i s hs;obtain⟨g2,S2⟩:=eQ hs S';exact ihy r n h0 D a0 K s g2 a' w' hDy hR hK S2 jO;exact hK.elim;exact ihy r n h0 D a0 K σ' g' a' w' hDy hR hK S' jO
  | exit id=>exact⟨g',σ',hK,S',jO⟩
  | goto l=>exact⟨g',σ',hK,S',jO⟩
  | ret=>exact⟨g',σ',hK,S',jO⟩
  | panic ch=>exact⟨g',σ',hK,S',jO⟩
  | outgrown=>exact⟨g',σ',hK,S',jO⟩
 | cond c x y ihx ihy =>
  intro r n h0 D a0 K σ g a w hD hR h S kZ;simp only[vc]at h;split at h
  ·rename_i t ht;have hv:=vS S ht;have hS:∀b,t=b->bU P aQ.nt B w0 h0 g (yf σ c b) a w:=by
    intro b hb;cases c with
    | tmp q =>
     refine S.env' (t:=q) (d:=.bool b) ?_ (kN _);have:a.tmps.getD q undef=.bool t:=hv;rw[this,hb];exact .bool b
    | _=>exact S
   have h2:=rD.1 h;refine zjb hv ?_;cases t with|true=>exact ihx r n h0 D a0 K _ g a w (λt ht=>hD t (dR.2 (.inl ht))) hR (h2.1 rfl) (hS true rfl) kZ|false=>exact ihy r n h0 D a0 K _ g a w (λt ht=>hD t (dR.2 (.inr ht))) hR (h2.2 rfl) (hS false rfl) kZ
  exact h.elim
 | block id b ih =>
  intro r n h0 D a0 K σ g a w hD hR h S kZ;refine zfD (pX (ih r n h0 D a0 _ σ g a w hD hR h S kZ) ?_);rintro e a' w' ⟨g',σ',hK,S',jO⟩;cases e with
  | exit j =>
   simp only[zax]at hK;simp only[Exit.inBlock];split at hK;rename_i hj;rw[eU (lu hj)];exact⟨g',σ',hK,S',jO⟩;rename_i hj;rw[eY (qdA hj)];exact⟨g',σ',hK,S',jO⟩
  | normal=>exact⟨g',σ',hK,S',jO⟩
  | goto l=>exact⟨g',σ',hK,S',jO⟩
  | ret=>exact⟨g',σ',hK,S',jO⟩
  | panic ch=>exact⟨g',σ',hK,S',jO⟩
  | outgrown=>exact⟨g',σ',hK,S',jO⟩
 | loop b ih =>
  intro r n h0 D a0 K σ g a w hD hR h S kZ;simp only[vc]at h;split at h;rename_i k hk;split at h;rename_i s hs;obtain⟨g1,S1⟩:=eQ hs S;refine I9 ?_;have key:=h (λs=>∀g a w,bU P aQ.nt B w0 h0 g s a w->Kp D a0 a->XH r n P b (PostR P aQ.nt B w0 h0 D a0 K) a w) ?_;exact key g1 a w S1 kZ
  ·intro s hs g a w S kZ;refine Ja (pX (ih r n h0 D a0 _ s g a w hD hR hs S kZ) ?_);rintro e a' w' ⟨g',σ',hK,S',jO⟩;cases e with
   | normal =>
    simp only[zih,hk]at hK;split at hK;rename_i s2 hs2;obtain⟨g2,S2⟩:=eQ hs2 S';exact hK g2 a' w' S2 jO;exact hK.elim
   | exit id=>exact⟨g',σ',hK,S',jO⟩
   | goto l=>exact⟨g',σ',hK,S',jO⟩
   | ret=>exact⟨g',σ',hK,S',jO⟩
   | panic ch=>exact⟨g',σ',hK,S',jO⟩
   | outgrown=>exact⟨g',σ',hK,S',jO⟩
  exact h.elim;split at h;rename_i m k hk;have key:∀(m:Nat)(σ:St)(g:Gh)(a:Act)(w:World),ze6 P k (vc P Γ aQ b) m K σ->bU P aQ.nt B w0 h0 g σ a w->Kp D a0 a->XH r n P b (PostR P aQ.nt B w0 h0 D a0 K) a w:=by
   intro m
   induction m with
   | zero=>intro σ g a w h;exact h.elim
   | succ m ihm =>
    intro σ g a w h S kZ;simp only[ze6]at h;split at h
    ·rename_i s hs;obtain⟨g1,S1⟩:=eQ hs S;refine Ja (pX (ih r n h0 D a0 _ s g1 a w hD hR h S1 kZ) ?_);rintro e a' w' ⟨g',σ',hK,S',jO⟩;cases e with|normal=>exact ihm σ' g' a' w' hK S' jO|exit id=>exact⟨g',σ',hK,S',jO⟩|goto l=>exact⟨g',σ',hK,S',jO⟩|ret=>exact⟨g',σ',hK,S',jO⟩|panic ch=>exact⟨g',σ',hK,S',jO⟩|outgrown=>exact⟨g',σ',hK,S',jO⟩
    exact h.elim
  exact I9 (key m σ g a w h S kZ);exact h.elim
 | exit id=>intro r n h0 D a0 K σ g a w _ _ h S kZ;exact XG ⟨g,σ,h,S,kZ⟩
 | scope b ih =>
  intro r n h0 D a0 K σ g a w hD hR h S kZ;refine zfE (pX (ih r n h0 D a0 _ σ g a w hD hR h S kZ) ?_);rintro e a' w' ⟨g',σ',hK,S',jO⟩;cases e with|goto l=>exact hK|normal=>exact⟨g',σ',hK,S',jO⟩|exit l=>exact⟨g',σ',hK,S',jO⟩|ret=>exact⟨g',σ',hK,S',jO⟩|panic ch=>exact⟨g',σ',hK,S',jO⟩|outgrown=>exact⟨g',σ',hK,S',jO⟩
 | label l=>intro r n h0 D a0 K σ g a w _ _ h S kZ;exact zfC ⟨g,σ,h,S,kZ⟩
 | ret=>intro r n h0 D a0 K σ g a w _ _ h S kZ;exact zdf ⟨g,σ,h,S,kZ⟩
 | rangeFunc f ps x y ihx ihy=>exact XL gp ihx ihy
 | goto l=>intro r n h0 D a0 K σ g a w _ _ h S;exact h.elim
 | refuse s=>intro r n h0 D a0 K σ g a w _ _ h S;exact h.elim
end
end Go.Pm
namespace Go.Pm
variable [aH]
open Go.RowKit (Below)
section
variable{P:Program}{Γ:bI}
theorem rM:∀(args:List PA)(i t:Nat)(d:DV),lk (jm i args) t=some d→∃x,args[t-i]? = some x∧i≤t∧d = .one (JU x)
  | [],i,t,d,h=>by simp[jm,lk]at h
  | x::r,i,t,d,h=>by
    simp only[jm]at h;rw[aV]at h;split at h;rename_i e;simp only[bM]at h;subst e;exact⟨x,by simp,jP _,h.symm⟩;rename_i e;obtain⟨y,h1,h2,h3⟩:=rM r (i+1) t d h;refine⟨y,?_,omY,h3⟩;rw[show t-i=(t-(i+1))+1 by omega,dqN];exact h1
def resV(tmps:Array Value):ResultVar→Sem Value
  | .tmp t=>pure (tmps.getD t undef)
  | .cell b t=>do loadVar t (<- asAddr (tmps.getD b undef))
theorem NC{w:World}(x:Addr):(asAddr (.pointer (some x))).run P w=.ok x w:=rfl
theorem Ha{nt B:Nat}{w0:World}{h0:Fz}{g:Gh}{σ:St}{a:Act}{w:World}(S:bU P nt B w0 h0 g σ a w):∀(rs:List ResultVar)(l:List PA),kX P σ rs=some l ->
  ∃(u:mQ)(vs:List Value),fF (lk σ.ax) u /\
   (rs.mapM (resV a.tmps)).run P w=.ok vs w /\
   ∀(u':mQ)(h':Fz),(∀y∈u,y∈u')->fJ g (lk σ.ax) u' h'->RL (oC h') l vs
 | [],l,h=>by
  simp[kX]at h;subst h;exact⟨[],[],fF.nil _,rfl,λ_ _ _ _=>trivial⟩
 | .tmp t::r,l,h=>by
  simp only[kX]at h;split at h;rename_i d hd;split at h;rename_i x u1 l2 h1 h2;simp only[bM]at h;subst h;obtain⟨u2,vs,hu2,df,hr⟩:=Ha S r l2 h2;refine⟨u1++u2,a.tmps.getD t undef::vs,(DK h1).append hu2,?_,λu' h' hu F=>⟨F.repD h1 (λy hy=>hu y (dR.2 (.inl hy))) (S.env t d hd),hr u' h' (λy hy=>hu y (dR.2 (.inr hy))) F⟩⟩;rw[qjJ];simp only[resV,Sem.run_bind,Sem.run_pure,Result.andThen_ok];rw[df];rfl;cases h;cases h
 | .cell t ty::r,l,h=>by
  simp only[kX]at h;split at h;rename_i L off ag m ht hg hs;split at h;rename_i ty' cells hL;split at h;rename_i d hd;split at h;rename_i x u1 l2 h1 h2;simp only[bM]at h;subst h;obtain⟨u2,vs,hu2,df,hr⟩:=Ha S r l2 h2;obtain⟨C,hC,VJ⟩:=S.obj L _ hL;obtain⟨v,Z8,hv⟩:=LP (P:=P) hg hs hC 0 (λj y hj=>by obtain⟨v,hv,Sz⟩:=VJ.get j y hj;exact⟨v,by simpa using hv,Sz⟩) hd;have hp:a.tmps.getD t undef=.pointer (some ⟨g.bk L,off,none⟩):=S.env t _ ht;rw[PK]at Z8;refine⟨u1++u2,v::vs,(DK h1).append hu2,?_,λu' h' hu F=>⟨F.repD h1 (λy hy=>hu y (dR.2 (.inl hy))) hv,hr u' h' (λy hy=>hu y (dR.2 (.inr hy))) F⟩⟩;have h1:(resV a.tmps (.cell t ty)).run P w=.ok v w:=by
   simp only[resV,Sem.run_bind,hp,NC,Result.andThen_ok,Z8]
  rw[qjJ];simp only[Sem.run_bind,h1,Result.andThen_ok];rw[df];rfl;cases h;cases h;cases h;cases h
theorem Je{nt B:Nat}{w0:World}{h0:Fz}{g:Gh}{σ:St}{a:Act}{w:World}(S:bU P nt B w0 h0 g σ a w){fn:Func}{l:List PA}(h:kX P σ fn.results.toList=some l) :
  ∃(u:mQ)(v:Value),fF (lk σ.ax) u/\(results fn a.tmps).run P w=.ok v w/\∀(h':Fz),fJ g (lk σ.ax) u h'->qV h' l v:=by
 obtain⟨u,vs,hu,df,hr⟩:=Ha S fn.results.toList l h;refine⟨u,if h:vs.toArray.size=1 then vs.toArray[0]else .tuple vs.toArray,hu,?_,λh' F=>?_⟩;have e:results fn a.tmps=(do let vs ← fn.results.mapM (resV a.tmps);pure (if h:vs.size=1 then vs[0]else .tuple vs)):=rfl;rw[e,qjK];simp only[Sem.run_bind,Sem.run_map];rw[df];simp only[Result.andThen_ok,Sem.run_pure]
 ·have oz := hr u h' (fun y hy => hy) F
  match l,vs,oz with
  | [],[],_=>exact⟨[],rfl,trivial⟩
  | [x],[v],oz=>exact oz.1
  | x::y::l,v::v2::vs,oz =>
   refine⟨v::v2::vs,?_,oz⟩;rw[dif_neg (by simp)]
  | [],_::_,oz=>exact oz.elim
  | [_],[],oz=>exact oz.elim
  | [_],_::_::_,oz=>exact oz.2.elim
  | _::_::_,[],oz=>exact oz.elim
  | _::_::_,[_],oz=>exact oz.2.elim
theorem bU.unmark{nt B:Nat}{w0:World}{h0:Fz}{g:Gh}{σ:St}{a:Act}{w:World}(S:bU P nt B w0 h0 g σ a w){D:Nat}{Ds:List (Nat ⊕ Deferred)}
    (Aa:(lefts (.inl D::Ds)).Nodup) (hm:∀E,Sum.inl E∈.inl D::Ds->B<=E/\g.h E=some (.fz (.deferred (some [])))) (hi:∀d,Sum.inr d∈Ds->IE P d) (Rk:∀b,h0 b=some (.fz (.deferred (some [])))->b<B) {ds:List Deferred} (Qm:ds=Ds.map deD) :
    w.heap[D]? = some (.deferred (some []))/\bU P nt B w0 h0 (g.re (g.h.del D)) σ {a with defers:=ds} (w.putObj D (.deferred none)):=by
  obtain⟨hB,hb⟩:=hm D kH;have zn8:=(qdx.1 Aa).1;have hl:XF g.h (g.h.del D):=λk x hk hx=>by
    rw[Fz.del_other];exact hk;intro e;subst e;rw[hb]at hk;simp only[bM]at hk;subst hk;obtain⟨C,ty,fr,hx⟩:=hx;cases hx
  have wR:∀L x,lk σ.ax L=some x->¬gY g L x D:=λL x hL hk=>by have:=(S.own L x D hL hk).2;rw[hb]at this;cases this
  refine⟨S.hw.fz hb,?_⟩;have S1:bU P nt B w0 h0 (g.re (g.h.del D)) σ {a with defers:=ds} w:=by
    refine⟨⟨Ds,(qdx.1 Aa).2,Qm,λE hE=>⟨(hm E (jM _ hE)).1,?_⟩,hi⟩,S.size,λt d ht=>za3 hl (S.env t d ht),λL x hL=>za4 hl (S.obj L x hL),λL x k hL hk=>?_,S.sep,?_,?_,?_,S.below,S.bs,S.clE,S.clO⟩;show g.h.del D E=_;rw[Fz.del_other (λe=>zn8 (by rw[<- e];exact vK hE))];exact(hm E (jM _ hE)).2;obtain⟨h1,h2⟩:=S.own L x k hL hk;refine⟨h1,?_⟩;show g.h.del D k=none;unfold Fz.del;split;rfl;exact h2;intro k x hk;have hk:g.h.del D k=some x:=hk;unfold Fz.del at hk;split at hk;cases hk;exact S.hw k x hk;intro k x hk;show g.h.del D k=some x;rw[Fz.del_other (λe=>by
      subst e;have h1:=S.le0 _ _ hk;rw[hb]at h1;simp only[bM]at h1;rw[<- h1]at hk;have:=Rk _ hk;omega)];exact S.le0 k x hk
    intro k x hk;have hk:g.h.del D k=some x:=hk;unfold Fz.del at hk;split at hk;cases hk;exact S.hn k x hk
  exact S1.putObj _ Fz.del_same hB wR
theorem Ak{nt B:Nat}{w0:World}{h0:Fz}{σ:St}{fn:Func}{R:Ending→World→Prop}{n:Nat}(Rk:∀b,h0 b=some (.fz (.deferred (some [])))→b<B) :
  ∀(Ds:List (Nat ⊕ Deferred))(g:Gh)(a:Act)(w:World),(lefts Ds).Nodup->a.defers=Ds.map deD->(∀D,Sum.inl D∈Ds->B<=D/\g.h D=some (.fz (.deferred (some []))))->(∀d,Sum.inr d∈Ds->IE P d)->bU P nt B w0 h0 g σ a w ->
   (∀g' a' w',a'.tmps=a.tmps->bU P nt B w0 h0 g' σ a' w'->∃v,(results fn a'.tmps).run P w'=.ok v w'/\R (.returned v) w')->LeavesInM (FR none) n P fn a.tmps R a.defers .returning w
 | [],g,a,w,_,ha,_,_,S,hR=>by
  rw[ha];exact hR g a w rfl S
 | .inl D::Ds,g,a,w,Aa,ha,hm,hi,S,hR=>by
  obtain⟨h1,S1⟩:=S.unmark Aa hm (λd hd=>hi d (jM _ hd)) Rk rfl;rw[ha,lM];refine⟨by simp,.inl ⟨D,_,rfl,run_takeDeferred h1,?_⟩⟩;have zn8:=(qdx.1 Aa).1;exact Ak Rk Ds _ {a with defers:=Ds.map deD} _ (qdx.1 Aa).2 rfl (λE hE=>⟨(hm E (jM _ hE)).1,by
   show g.h.del D E=_;rw[Fz.del_other (λe=>zn8 (by rw[<- e];exact vK hE))];exact(hm E (jM _ hE)).2⟩) (λd hd=>hi d (jM _ hd)) S1 (λg' a' w' ht=>hR g' a' w' ht)
 | .inr d::Ds,g,a,w,Aa,ha,hm,hi,S,hR=>by
  obtain⟨fv,cap,f,args,h1,h2,h3⟩:=hi d kH;rw[ha,lM];refine⟨by simp,.inr ⟨(λh=>by cases h),fv,cap,f,args,h1,h2 w,(λ_ _=>trivial),?_⟩⟩;obtain⟨c1,c2⟩:=h3 (n-1) w;refine⟨c1,λc cs hc hr=>?_⟩;obtain⟨e,u',w',fr,hR',rest⟩:=c2 c cs hc hr;refine⟨e,u',w',fr,?_,rest⟩;obtain⟨⟨v,rfl⟩,rfl,rfl⟩:=hR';have KI:∀D,Sum.inl D∈Ds->B<=D/\g.h D=some (.fz (.deferred (some []))):=λD hD=>hm D (jM _ hD);have jY:∀d,Sum.inr d∈Ds->IE P d:=λd hd=>hi d (jM _ hd);exact Ak Rk Ds g {a with defers:=Ds.map deD} _ Aa rfl KI jY (S.act ⟨Ds,Aa,rfl,KI,jY⟩ S.size S.env) (λg' a' w' ht=>hR g' a' w' ht)
theorem zdh{nt B:Nat}{w0:World}{h0:Fz}{σ:St}{fn:Func}{R:Ending→World→Prop}{n:Nat}{ch:List PanicEntry}(Rk:∀b,h0 b=some (.fz (.deferred (some [])))→b<B) :
  ∀(Ds:List (Nat ⊕ Deferred))(g:Gh)(a:Act)(w:World),(lefts Ds).Nodup->a.defers=Ds.map deD->(∀D,Sum.inl D∈Ds->B<=D/\g.h D=some (.fz (.deferred (some []))))->(∀d,Sum.inr d∈Ds->False)->bU P nt B w0 h0 g σ a w ->
   (∀g' a' w',a'.tmps=a.tmps->bU P nt B w0 h0 g' σ a' w'->R (.panicked ch) w')->LeavesInM (FR none) n P fn a.tmps R a.defers (.panicking ch) w
 | [],g,a,w,_,ha,_,_,S,hR=>by
  rw[ha];exact hR g a w rfl S
 | .inl D::Ds,g,a,w,Aa,ha,hm,hi,S,hR=>by
  have jY:∀d,Sum.inr d∈Ds->False:=λd hd=>hi d (jM _ hd);obtain⟨h1,S1⟩:=S.unmark Aa hm (λd hd=>(jY d hd).elim) Rk rfl;rw[ha,lM];refine⟨by simp,.inl ⟨D,_,rfl,run_takeDeferred h1,?_⟩⟩;have zn8:=(qdx.1 Aa).1;exact zdh Rk Ds _ {a with defers:=Ds.map deD} _ (qdx.1 Aa).2 rfl (λE hE=>⟨(hm E (jM _ hE)).1,by
   show g.h.del D E=_;rw[Fz.del_other (λe=>zn8 (by rw[<- e];exact vK hE))];exact(hm E (jM _ hE)).2⟩) jY S1 (λg' a' w' ht=>hR g' a' w' ht)
 | .inr d::Ds,g,a,w,Aa,ha,hm,hi,S,hR=>(hi d kH).elim
theorem Rq{nt:Nat}{args:List PA}{w:World}{h0:Fz}{vs:List Value}{m:Nat}(F5:nt=m)(hlen:args.length≤nt)(jE:RL (oC h0) args vs)(PH:Hw h0 w) :
  bU P nt w.heap.size w h0 ⟨h0,λ_=>0,λ_=>undef,λ_ _=>undef⟩ ⟨jm 0 args,[],[]⟩ {tmps:=vs.toArray++Array.replicate (m-vs.toArray.size) undef,defers:=[]} w:=by
 have hl:=jE.length;refine⟨Marks.nil _ _,by simp;omega,?_,λL o ho=>by simp[lk]at ho,λL o b ho=>by simp[lk]at ho,λL o b L' o' ho=>by simp[lk]at ho,PH,λ_ _ h=>h,λb o h=>.inl h,yg.refl _ _ _,jP _,?_,λL o ho=>by simp[lk]at ho⟩;intro t d ht;obtain⟨x,hx,_,rfl⟩:=rM args 0 t d ht;obtain⟨v,hv,yA⟩:=jE.get t x (by simpa using hx);have iF:=(BP.1 hv).1;have:(vs.toArray++Array.replicate (m-vs.toArray.size) undef).getD t undef=v:=by
  rw[yB,qda (by simpa using iF)];simp[hv]
 rw[this];exact MI (g:=⟨h0,λ_=>0,λ_=>undef,λ_ _=>undef⟩) yA;intro t d ht L hL;obtain⟨x,hx,_,rfl⟩:=rM args 0 t d ht;rw[show bY (.one (JU x))=dC (JU x)from rfl,xe]at hL;simp at hL
theorem Rt{G:bI}(gp:jw P G){f:FuncId}{aQ:dG}{args:List PA}{Kx:Func→Exit→St→Prop}{w:World}{h0:Fz}{vs:List Value}{R:Ending→World→Prop}{fn:Func}{c:Code}
    (uo:P.funcs[f]? = some fn) (tq:fn.body=some c) (F5:aQ.nt=fn.ntmps) (hlen:args.length<=aQ.nt) (hv:vc P G aQ c (Kx fn) ⟨jm 0 args,[],[]⟩) (jE:RL (oC h0) args vs) (PH:Hw h0 w)
    (qm:∀e σ g a w',Kx fn e σ->bU P aQ.nt w.heap.size w h0 g σ a w'->(e=.normal\/e=.ret)/\∃v,(results fn a.tmps).run P w'=.ok v w'/\R (.returned v) w'):Calls P f vs.toArray w R:=by
  have S:=Rq (P:=P) F5 hlen jE PH;have hwp:=Nz (B:=w.heap.size) (w0:=w) gp aQ c none 0 h0 (eG c) _ (Kx fn) _ _ _ _ (λ_ h=>h) (Rnd.none h0) hv S (Kp.refl _ _);refine(callsIn_wide (n:=0)).1 ?_;refine callsIn_of_wp_marks (F:=FR none) uo tq trivial (wpIn_mono (rJ hwp) ?_);have Rk:∀b,h0 b=some (.fz (.deferred (some [])))->b<w.heap.size:=λb h=>PH.lt h;rintro e a' w' ⟨g',σ',xX,S',_⟩;have fin:LeavesInM (FR none) 0 P fn a'.tmps R a'.defers .returning w':=by
    obtain⟨Ds,h1,h2,h3,h4⟩:=S'.dfr;exact Ak Rk Ds g' a' w' h1 h2 h3 h4 S' λg2 a2 w2 _ S2=>(qm e σ' g2 a2 w2 xX S2).2
  rcases(qm e σ' g' a' w' xX S').1 with rfl|rfl
  exact fin;exact fin
theorem zpC{G:bI}(gp:jw P G){f:FuncId}{args:List PA}{K:List PA→Prop}{aQ:dG}(hv:vcFun P G aQ f args K){w:World}{h0:Fz}{vs:List Value}(jE:RL (oC h0) args vs)(PH:Hw h0 w) :
  Calls P f vs.toArray w λ e w'=>∃ (h':Fz) (rs:List PA) (v:Value),K rs/\e=.returned v/\qV h' rs v/\yg h0 w.heap.size w w' /\
   ku h0 h'/\Hw h' w'/\∀b o,h' b=some o->h0 b=some o\/w.heap.size<=b:=by
 unfold vcFun at hv;split at hv;rename_i fn uo;split at hv;rename_i c tq;split at hv
 ·rename_i F5;simp only[fQ,VT] at F5;refine Rt (G:=G) gp (Kx:=λ fn=>zii P fn K) uo tq (lu F5.1) F5.2 hv jE PH ?_;intro e σ' g' a' w' xX S'
  have fin:BX P fn K σ'->∃v,(results fn a'.tmps).run P w'=.ok v w' /\
    (∃(h':Fz)(rs:List PA)(v_1:Value),K rs/\Ending.returned v=.returned v_1/\qV h' rs v_1/\yg h0 w.heap.size w w'/\ku h0 h'/\Hw h' w'/\∀b o,h' b=some o->h0 b=some o\/w.heap.size<=b):=by
   intro hf;unfold BX at hf;split at hf;rename_i l hl;obtain⟨u,v,hu,df,o6⟩:=Je S' hl;obtain⟨h',S2,F⟩:=S'.freeze hu;exact⟨v,df,h',l,v,hf,rfl,o6 h' F,S2.below,S2.le0,S2.hw,S2.hn⟩;exact hf.elim
  cases e with|normal=>exact⟨.inl rfl,fin xX⟩|ret=>exact⟨.inr rfl,fin xX⟩|exit id=>exact xX.elim|goto l=>exact xX.elim|panic ch=>exact xX.elim|outgrown=>exact xX.elim
 exact hv.elim;exact hv.elim;exact hv.elim
theorem zjk{G:bI}(gp:jw P G){f:FuncId}{C:List PA→ae (List PA)}(hc:dw P f)
    (h:∀args rs,(C args).o=some rs->∃vv aQ,vcFun P {G with vv:=vv} aQ f args λQe=>Qe=rs):Ok P f C:=by
  intro args rs hK w h0 vs jE PH;obtain⟨vv,aQ,hv⟩:=h args rs hK;refine⟨hc,(zpC (G:={G with vv:=vv}) ⟨gp.mt,gp.fn,gp.own,gp.it,gp.cmp⟩ hv jE PH).mono ?_⟩;rintro e w' ⟨h',Qe,v,rfl,he⟩;exact⟨h',v,he⟩
end
end Go.Pm
namespace Go.Pm
variable [aH]
open Go.RowKit (Below)
section
variable{P:Program}{Γ:bI}{nt:Nat}{n:Nat}
theorem zjl{o:Oper}{a:Act}{w w':World}{R:Act→World→Prop}{Q:Exit→Act→World→Prop}(Aa:∀c,o.op ≠ .defer c){l f:Nat}{tmps:Array Value}{x y:Code}(h:(execOp a.eval o).run P w = .ok (.round l f tmps x y) w')
    (hR:RoundIn Fence.wide (n-1) P l f tmps x y w' λe AV=>(∃v,e=.returned v/\R (a.put o.dst v) AV)\/∃ch,e=.panicked ch/\Q (.panic ch) a AV):o.wpIn (FR none) n P a w R Q:=by
  refine⟨λ_ _=>trivial,?_⟩;rw[Oper.semAt_eq _ _ _ Aa,h,Oper.uponIn_round];refine⟨λh=>by simp[FR]at h,?_⟩;have hR':RoundIn (FR none) (n-1) P l f tmps x y w' λe AV=>(∃v,e=.returned v/\R (a.put o.dst v) AV)\/∃ch,e=.panicked ch/\Q (.panic ch) a AV:=hR;refine hR'.mono ?_;rintro e AV (⟨v,rfl,hv⟩|⟨ch,rfl,hv⟩);exact hv;exact hv
theorem TS{h:Fz}{g:Gh}(hg:g.h=h):∀{ds:List DV}{l:List PA}{vs:List Value},rU ds=some l→RL (rW g) ds vs→RL (oC h) l vs
  | [],l,vs,h,hr=>by
    simp only[rU,bM]at h;subst h;cases vs with|nil=>trivial|cons=>exact hr.elim
  | d::ds,l,[],h,hr=>hr.elim
  | .one (.c (.p p))::ds,l,v::vs,h,hr=>by
    simp only[rU]at h;split at h;rename_i l' yK;simp only[bM]at h;subst h;refine⟨?_,TS hg yK hr.2⟩;have:=hr.1;rw[<- hg];exact this;cases h
  | .one (.agg cs)::ds,l,v::vs,h,hr=>by
    simp only[rU]at h;split at h;rename_i l' m' hc KI;simp only[bM]at h;subst h;refine⟨?_,TS hg KI hr.2⟩;obtain⟨us,rfl,Po⟩:=hr.1;rw[oP hc]at Po;have:=RL.map_left.1 Po;exact⟨us,rfl,by rw[<- hg];exact this⟩;cases h
  | .one (.c (.ptr _ _))::ds,l,v::vs,h,hr=>by simp[rU]at h
  | .one (.c (.vptr _ _ _ _))::ds,l,v::vs,h,hr=>by simp[rU]at h
  | .one (.c (.vec _))::ds,l,v::vs,h,hr=>by simp[rU]at h
  | .one (.c .undef)::ds,l,v::vs,h,hr=>by simp[rU]at h
  | .one (.c .junk)::ds,l,v::vs,h,hr=>by simp[rU]at h
  | .one (.c (.dead _))::ds,l,v::vs,h,hr=>by simp[rU]at h
  | .tup _::ds,l,v::vs,h,hr=>by simp[rU]at h
variable(J Jx:List (List PA)->Fz->World->Prop)
def JQ(q:Bool)(ys:List (List PA))(h:Fz)(w:World):Prop :=
 match q with|false=>J ys h w|true=>∃rest,Jx rest h w
structure YI (l : Nat) (a : Act) : Prop where
  d:a.defers=[]
  y:a.tmps.getD 0 undef=.func (.yield l) #[] #[]
theorem YI.put{l:Nat}{a:Act}(h:YI l a){dst:Option Nat}(hd:dst≠some 0){v:Value}{ds:List Deferred}(Qm:(({a with defers:=ds}:Act).put dst v).defers=[]):YI l (({a with defers:=ds}:Act).put dst v):=by
 refine⟨Qm,?_⟩;cases dst with
 | none=>exact h.y
 | some t =>
  have ht:t≠0:=λe=>hd (by rw[e]);have:=h.y;simpa [Act.put,yB,qdK ht]using this
def zdi(P:Program)(nt l:Nat)(hs:Fz)(Rp:Ending->World->Prop)(K:YK):Exit->Act->World->Prop :=
 λe a' w'=>(∃ys q σ w0 h0 g,K e ys q σ/\bU P nt w0.heap.size w0 h0 g σ a' w'/\ku hs h0/\JQ J Jx q ys h0 w0/\YI l a')\/∃ch,e=.panic ch/\YI l a'/\Rp (.panicked ch) w'
variable {J Jx}
theorem JQ.later{q:Bool}{ys:List (List PA)}{h0:Fz}{w0:World}{g:Gh}{σ:St}{a:Act}{w:World}(hJ:JSt J)(hJx:JSt Jx)(h:JQ J Jx q ys h0 w0)(S:bU P nt w0.heap.size w0 h0 g σ a w):JQ J Jx q ys g.h w:=by
 cases q with
 | false=>exact hJ _ _ _ _ _ h S.le0 S.hw S.hn S.below
 | true=>obtain⟨rest,h⟩:=h;exact⟨rest,hJx _ _ _ _ _ h S.le0 S.hw S.hn S.below⟩
def YH(P:Program)(J Jx:List (List PA)->Fz->World->Prop)(Rp:Ending->World->Prop)(l:Nat):Prop :=
 ∀y rest h W us,J (y::rest) h W->RL (oC h) y us->Hw h W->∀n,∃fn tmps assign body,(Instr.yield l us.toArray).run P W=.ok (.round l fn tmps assign body) W /\
   RoundIn Fence.wide n P l fn tmps assign body W λe W'=>(∃h',ku h h'/\Hw h' W'/\((e=.returned (.bool true)/\J rest h' W')\/(e=.returned (.bool false)/\Jx rest h' W')))\/((∃ch,e=.panicked ch)/\Rp e W')
theorem sD{kl:List Nat}{l:List (Nat×DV)}:∀{ks:List Nat}{t:Nat}{d:DV},lk (wV kl l ks) t=some d→lk l t=some d∧∀L∈bY d,L∈kl
  | [],t,d,h=>by simp[wV,lk]at h
  | k::ks,t,d,h=>by
    simp only[wV]at h;split at h;rename_i d' gG;split at h;rename_i hl;rw[aV]at h;split at h;rename_i e;simp only[bM]at h;subst h;subst e;refine⟨gG,λL hL=>?_⟩;have:=yL.1 hl L hL;simpa using this;exact sD h;exact sD h;exact sD h
theorem ND{ob:Nat→Option AO}:∀{ks:List Nat}{x:Nat×AO},x∈Qz ob ks→∃l,ob x.1=some (.fbox l)∧x.2 = .fbox l
  | [],x,h=>by simp[Qz]at h
  | k::ks,x,h=>by
    simp only[Qz]at h;split at h;rename_i l hk;rcases jV.1 h with rfl|h
    exact⟨l,hk,rfl⟩;exact ND h;exact ND h
theorem Ei{σ:St}{L:Nat}{o:AO}(h:lk (Lu σ) L=some o):∃l,o=.fbox l/\lk (Gx (lk σ.ax) (σ.ax.map (·.1))++σ.ax) L=some (.fbox l):=by
 unfold Lu at h;rw[gZ]at h ⊢;cases hb:lk (Gx (lk σ.ax) (σ.ax.map (·.1))) L with
 | some x =>
  rw[hb]at h;simp only[bM]at h;subst h;obtain⟨ty,cells,l,_,h2,_⟩:=D9 (fK hb);have h2:x=.fbox l:=h2;subst h2;exact⟨l,rfl,rfl⟩
 | none =>
  rw[hb]at h;simp only at h;obtain⟨l,h1,h2⟩:=ND (fK h);exact⟨l,h2,h1⟩
theorem zC {α : Type} : ∀ {l : List (Nat × α)} {L : Nat}, L ∈ l.map (·.1) → ∃ o, lk l L = some o
  | [],L,h=>by simp at h
  | (k,a)::r,L,h=>by
    rw[aV];split;exact⟨a,rfl⟩;rename_i jb;simp only[lM,jV]at h;rcases h with rfl|h
    exact absurd rfl jb;exact zC h
theorem zjm{σ:St}{o:Oper}{args:Array Operand}{t:Nat}(h:zoX σ o=some (args,t)) :
  ∃f ts,o.op=.call {callee:=.value f,args,argTypes:=ts}/\o.dst=some t/\fU σ.env f=.cl (.vec WB)/\lk σ.env 0=some (.cl (.vec WB)):=by
 unfold zoX at h;split at h;rename_i f az ts t' aY hd;split at h;rename_i hl;split at h;rename_i h0;simp only[bM,gq]at h;obtain⟨rfl,rfl⟩:=h;exact⟨f,ts,aY,hd,hl,h0⟩;cases h;cases h;cases h
theorem zdj{σ:St}{L:Nat}{o:AO}(h:lk ((WB,AO.gone)::Lu σ) L=some o):(L=WB/\o=.gone)\/lk (Lu σ) L=some o:=by
 rw[aV]at h;split at h;rename_i e;simp only[bM]at h;exact .inl ⟨e.symm,h.symm⟩;exact .inr h
theorem TT(gp:jw P Γ){Rp:Ending→World→Prop}{l:Nat}(hJ:JSt J)(hJx:JSt Jx)(hY:YH P J Jx Rp l){hs:Fz}{ops:Array Oper}{K:List (List PA)→Bool→St→Prop}{Q:Exit→Act→World→Prop}(hP:∀ch a w,YI l a→Rp (.panicked ch) w→Q (.panic ch) a w)
    (hQ:∀ys q σ w0 h0 g a w,K ys q σ->bU P nt w0.heap.size w0 h0 g σ a w->ku hs h0->JQ J Jx q ys h0 w0->YI l a->Q .normal a w) :
    ∀(lo:List Oper)(i:Nat)(ys:List (List PA))(q:Bool)(σ:St)(w0:World)(h0:Fz)(g:Gh)(a:Act)(w:World),(∀j,lo[j]? = ops[i+j]?)->(∀o∈lo,o.dst≠some 0)->lU P Γ nt ops lo K ys q σ ->
      bU P nt w0.heap.size w0 h0 g σ a w->ku hs h0->JQ J Jx q ys h0 w0->YI l a->wpOpsIn (FR none) n P ops Q (List.range' i lo.length) a w:=by
  intro lo
  induction lo with
  | nil=>intro i ys q σ w0 h0 g a w _ _ h S hle hj hd;exact hQ ys q σ w0 h0 g a w h S hle hj hd
  | cons o lo ih =>
    intro i ys q σ w0 h0 g a w hl hz h S hle hj Gg;have hz0:=hz o kH;have hz':∀o∈lo,o.dst≠some 0:=λo ho=>hz o (jM _ ho);have ho:ops[i]? = some o:=by have:=hl 0;simpa using this.symm
    have yK:∀j,lo[j]? = ops[i+1+j]?:=λj=>by have:=hl (j+1);rw[dqN]at this;rw[this];congr 1;omega
    simp only[qp,SG,wpOpsIn,ho];have run:∀(σ:St),bU P nt w0.heap.size w0 h0 g σ a w->wW P Γ nt o (lU P Γ nt ops lo K) ys q σ->o.wpIn (FR none) n P a w (wpOpsIn (FR none) n P ops Q (List.range' (i+1) lo.length)) Q:=by
      clear h S;intro σ S h;unfold wW at h;split at h
      · rename_i args t hyl;obtain⟨f,ts,aY,Iu,hf,hf0⟩:=zjm hyl;split at h
        · rename_i y hy ht;obtain⟨rest,rfl,htr,hfa⟩:=h;have Pv:a.eval f=.func (.yield l) #[] #[]:=by
            have h1:rW g _ (a.eval f):=S.ev f;rw[hf]at h1;have h2:=S.env 0 _ hf0;rw[Gg.y]at h2;have h1:a.eval f=g.sv WB/\_:=h1;have h2:Value.func (.yield l) #[] #[]=g.sv WB/\_:=h2;exact h1.1.trans h2.1.symm
          · obtain ⟨h1, S1, _⟩ := S.freeze (Xt (ob := lk σ.ax) (ks := σ.ax.map (·.1)));have hJn:J (y :: rest) h1 w:=hj.later hJ hJx S1;have Po:RL (oC h1) y (args.toList.map a.eval):=TS (g:=⟨h1,g.bk,g.sv,g.iv⟩) rfl hy (DW S1 args.toList);obtain⟨fn,tmps,x,c,df,zy5⟩:=hY y rest h1 w _ hJn Po S1.hw (n - 1);refine zjl (by simp[aY]) (l:=l) (f:=fn) (tmps:=tmps) (x:=x) (y:=c) (w':=w) ?_ (zy5.mono ?_);simp only [execOp, aY, resolve, Pv, Deferred.ofValue, Sem.run_bind, Sem.run_pure, Result.andThen_ok, invoke];rw[show (#[] ++ Array.map a.eval args)=(args.toList.map a.eval).toArray by cases args;simp];exact df
            · have hto : dH nt (some t) = true := ht
              have next:∀(b:Bool)(h':Fz)(W':World),ku h1 h'->Hw h' W'->JQ J Jx (!b) rest h' W'->lU P Γ nt ops lo K rest (!b) ((Ae σ).setT t (.bool b)) ->
                  wpOpsIn (FR none) n P ops Q (List.range' (i+1) lo.length) (a.put o.dst (.bool b)) W':=by
                intro b h' W' iy KJ rC BL;have S0:bU P nt W'.heap.size W' h' ⟨h',g.bk,g.sv,g.iv⟩ (Ae σ) a W':=by
                  refine⟨by rw[Gg.d];exact Marks.nil _ _,S.size,?_,λL o ho=>?_,λL o b ho bZ=>?_,λL o b L' o' ho kV bZ iE=>?_,KJ,λ_ _ h=>h,λb o h=>.inl h,yg.refl _ _ _,jP _,?_,λL o ho M hM=>?_⟩;intro u d hu;obtain⟨h2,_⟩:=sD hu;exact WL (g:=⟨h1,g.bk,g.sv,g.iv⟩) (g':=⟨h',g.bk,g.sv,g.iv⟩) (λL hL=>⟨rfl,rfl,rfl⟩) iy (S1.env u d h2);rcases zdj ho with⟨_,rfl⟩|ho
                  trivial;obtain⟨l,rfl,h2⟩:=Ei ho;obtain⟨C,ty,fr,hC,hr⟩:=S1.obj L _ h2;exact⟨C,ty,fr,iy _ _ hC,hr.mono λ_ _=>Rep.mono iy⟩;rcases zdj ho with⟨_,rfl⟩|ho
                  exact bZ.elim;obtain⟨l,rfl,_⟩:=Ei ho;exact bZ.elim;rcases zdj ho with⟨_,rfl⟩|ho
                  exact bZ.elim;obtain⟨l,rfl,_⟩:=Ei ho;exact bZ.elim;intro u d hu L hL;exact zC (l:=(WB,AO.gone)::Lu σ) ((sD hu).2 L hL);rcases zdj ho with⟨_,rfl⟩|ho
                  simp[dS]at hM;obtain⟨l,rfl,_⟩:=Ei ho;simp[dS]at hM
                have S2:=S0.put (dst:=some t) (d:=.bool b) (v:=.bool b) hto (.bool b) (kN _) [];rw[Iu];exact ih (i+1) rest (!b) _ W' h' _ _ W' yK hz' BL S2 (λb o hb=>iy b o (S1.le0 b o (hle b o hb))) rC (Gg.put (ds:=a.defers) (Iu▸hz0) ((put_defers _ _ _).trans Gg.d))
              rintro e W' (⟨h',iy,KJ,(⟨rfl,rC⟩|⟨rfl,rC⟩)⟩|⟨⟨ch,rfl⟩,hr⟩)
              · exact .inl ⟨_,rfl,next true h' W' iy KJ rC htr⟩
              · exact .inl ⟨_,rfl,next false h' W' iy KJ ⟨rest,rC⟩ hfa⟩
              exact .inr ⟨ch,rfl,hP ch _ _ Gg hr⟩
        exact h.elim
      split at h;rename_i hd;obtain⟨pM,hk⟩:=GG.1 h;refine J9 (zaS (GR (i:=0) (Q:=Q) (r:=none) (n:=n) gp S hd rfl pM)) ?_;rintro a' w' ⟨⟨zSt,g',σ',Gn,S'⟩,v,ds,rfl⟩;exact ih (i+1) ys q _ w0 h0 g' _ w' yK hz' (hk σ' Gn) (S'.log _) hle hj (Gg.put hz0 (zSt.trans Gg.d));exact h.elim
    have skp:∀(σ:St),dH nt o.dst=true->bU P nt w0.heap.size w0 h0 g σ a w->lU P Γ nt ops lo K ys q (σ.skip o.dst)->wpOpsIn (FR none) n P ops Q (List.range' (i+1) lo.length) (a.put o.dst undef) w:=by
      intro σ hd S h;exact ih (i+1) ys q _ w0 h0 g _ w yK hz' h (S.skip hd) hle hj (Gg.put (ds:=a.defers) hz0 ((put_defers _ _ _).trans Gg.d))
    simp only[lU]at h;split at h;rename_i hg;rw[eU (by simp[Region.wanted,hg])];exact run σ S h;rename_i j want hg;split at h;rename_i gt hd ZX;split at h
    · rename_i b hb;have hv:a.tmps.getD gt undef=.bool b:=by
        have:=S.env gt _ hb;generalize a.tmps.getD gt undef=v at this;cases this;rfl
      have hy:=xh ZX hv;have S1:∀c,b=c->bU P nt w0.heap.size w0 h0 g (σ.setT gt (.bool c)) a w:=by
        intro c hc;refine S.env' (t:=gt) (d:=.bool c) ?_ (kN _);rw[hv,hc];exact .bool c
      have h2:=rD.1 h;cases b with
      | true =>
        have h3:=h2.1 rfl;cases want with|true=>rw[eU (by simp[Region.wanted,hg,hy])];exact run _ (S1 true rfl) h3|false=>rw[eY (by simp[Region.wanted,hg,hy])];exact⟨λ_ _=>trivial,skp _ hd (S1 true rfl) h3⟩
      | false =>
        have h3:=h2.2 rfl;cases want with|true=>rw[eY (by simp[Region.wanted,hg,hy])];exact⟨λ_ _=>trivial,skp _ hd (S1 false rfl) h3⟩|false=>rw[eU (by simp[Region.wanted,hg,hy])];exact run _ (S1 false rfl) h3
    rename_i hb;have hv:a.tmps.getD gt undef=undef:=S.env gt _ hb;have hy:=uM ZX hv;rw[eY (by simp[Region.wanted,hg,hy])];exact⟨λ_ _=>trivial,skp _ hd S h⟩;exact h.elim;exact h.elim
theorem zpD:∀{l:List Oper}{o:Oper}{t:Nat},o∈l->o.dst=some t->t∈Jz l:=fun {l} _ _ h e=>by
 obtain⟨j,hj⟩:=dq0 h;exact Eh hj e
theorem zfI(gp:jw P Γ)(aQ:dG){Rp:Ending->World->Prop}{l:Nat}(hJ:JSt J)(hJx:JSt Jx)(hY:YH P J Jx Rp l){hs:Fz}:∀(c:Code)(K:YK)(ys:List (List PA))(q:Bool)(σ:St)(w0:World)(h0:Fz)(g:Gh)(a:Act)(w:World),
  SV P Γ aQ c K ys q σ->bU P aQ.nt w0.heap.size w0 h0 g σ a w->ku hs h0->JQ J Jx q ys h0 w0->YI l a->c.wpIn (FR none) n P (zdi J Jx P aQ.nt l hs Rp K) a w:=by
 intro c
 induction c with
 | skip=>intro K ys q σ w0 h0 g a w h S hle hj hd;exact wpIn_skip (.inl ⟨ys,q,σ,w0,h0,g,h,S,hle,hj,hd⟩)
 | region id ops draw =>
  intro K ys q σ w0 h0 g a w h S hle hj hd;simp only[SV]at h;split at h;exact h.elim
  ·-- a region that yields
   rename_i hz _;refine wpIn_region ?_;have:=TT (n:=n) gp hJ hJx hY (hs:=hs) (ops:=ops) (Q:=zdi J Jx P aQ.nt l hs Rp K) (λch a w hd hr=>.inr ⟨ch,rfl,hd,hr⟩) (λys q σ w0 h0 g a w h S hle hj hd=>?_) ops.toList 0 ys q _ w0 h0 g a w (λj=>by simp) (λo ho e=>by have:=zpD ho e;simp at hz;exact hz this) h (S.log _) hle hj hd;rw [dq7];simpa using this;split at h;split at h;rename_i s pM;obtain⟨g2,S2⟩:=eQ pM S;exact .inl ⟨ys,q,s,w0,h0,g2,h,S2,hle,hj,hd⟩;exact h.elim;exact .inl ⟨ys,q,_,w0,h0,g,h,S.log _,hle,hj,hd⟩
  exact h.elim;rename_i hz _;exact rJ (Rn (r:=none) (n:=n) gp aQ (D:=Jz ops.toList) (a0:=a) (λ_ h=>h) h S (Kp.refl _ _) λg' σ' a' w' hK S' hk Gg=>.inl ⟨ys,q,σ',w0,h0,g',hK,S',hle,hj,Gg.trans hd.d,(hk.1 0 (by simpa using hz)).trans hd.y⟩)
 | seq x y ihx ihy =>
  intro K ys q σ w0 h0 g a w h S hle hj hd;refine wpIn_seq (wpIn_mono (ihx _ ys q σ w0 h0 g a w h S hle hj hd) ?_);rintro e a' w' (⟨qx,q',σ',w1,h1,g',hK,S',iy,rC,gG⟩|⟨ch,rfl,gG,vG⟩)
  rotate_left
  exact .inr ⟨ch,rfl,gG,vG⟩;cases e with
  | normal =>
   simp only[zyC,zyE]at hK;split at hK;split at hK;rename_i s hs;obtain⟨g2,S2⟩:=eQ hs S';exact ihy K qx q' s w1 h1 g2 a' w' hK S2 iy rC gG;exact hK.elim;exact ihy K qx q' σ' w1 h1 g' a' w' hK S' iy rC gG
  | exit id=>exact .inl ⟨qx,q',σ',w1,h1,g',hK,S',iy,rC,gG⟩
  | goto l=>exact .inl ⟨qx,q',σ',w1,h1,g',hK,S',iy,rC,gG⟩
  | ret=>exact .inl ⟨qx,q',σ',w1,h1,g',hK,S',iy,rC,gG⟩
  | panic ch=>exact .inl ⟨qx,q',σ',w1,h1,g',hK,S',iy,rC,gG⟩
  | outgrown=>exact .inl ⟨qx,q',σ',w1,h1,g',hK,S',iy,rC,gG⟩
 | cond c x y ihx ihy =>
  intro K ys q σ w0 h0 g a w h S hle hj hd;simp only[SV]at h;split at h
  ·rename_i t ht;have hv:=vS S ht;have hS:∀b,t=b->bU P aQ.nt w0.heap.size w0 h0 g (yf σ c b) a w:=by
    intro b hb;cases c with
    | tmp q =>
     refine S.env' (t:=q) (d:=.bool b) ?_ (kN _);have:a.tmps.getD q undef=.bool t:=hv;rw[this,hb];exact .bool b
    | _=>exact S
   have h2:=rD.1 h;refine wpIn_cond hv ?_;cases t with|true=>exact ihx K ys q _ w0 h0 g a w (h2.1 rfl) (hS true rfl) hle hj hd|false=>exact ihy K ys q _ w0 h0 g a w (h2.2 rfl) (hS false rfl) hle hj hd
  exact h.elim
 | block id b ih =>
  intro K ys q σ w0 h0 g a w h S hle hj hd;refine wpIn_block (wpIn_mono (ih _ ys q σ w0 h0 g a w h S hle hj hd) ?_);rintro e a' w' (⟨qx,q',σ',w1,h1,g',hK,S',iy,rC,gG⟩|⟨ch,rfl,gG,vG⟩)
  rotate_left
  exact .inr ⟨ch,rfl,gG,vG⟩;cases e with
  | exit j =>
   simp only[zaz]at hK;simp only[Exit.inBlock];split at hK;rename_i hj;rw[eU (lu hj)];exact .inl ⟨qx,q',σ',w1,h1,g',hK,S',iy,rC,gG⟩;rename_i hj;rw[eY (qdA hj)];exact .inl ⟨qx,q',σ',w1,h1,g',hK,S',iy,rC,gG⟩
  | normal=>exact .inl ⟨qx,q',σ',w1,h1,g',hK,S',iy,rC,gG⟩
  | goto l=>exact .inl ⟨qx,q',σ',w1,h1,g',hK,S',iy,rC,gG⟩
  | ret=>exact .inl ⟨qx,q',σ',w1,h1,g',hK,S',iy,rC,gG⟩
  | panic ch=>exact .inl ⟨qx,q',σ',w1,h1,g',hK,S',iy,rC,gG⟩
  | outgrown=>exact .inl ⟨qx,q',σ',w1,h1,g',hK,S',iy,rC,gG⟩
 | loop b ih =>
  intro K ys q σ w0 h0 g a w h S hle hj hd;simp only[SV]at h;split at h
  ·rename_i k hk;split at h
   ·rename_i s pM;obtain⟨g1,S1⟩:=eQ pM S;refine Jb ?_;have key:=h (λ ys q s=>∀ w0 h0 g a w,bU P aQ.nt w0.heap.size w0 h0 g s a w->ku hs h0->JQ J Jx q ys h0 w0->YI l a->XI (FR none) n P b (zdi J Jx P aQ.nt l hs Rp K) a w) ?_;exact key w0 h0 g1 a w S1 hle hj hd
    ·intro ys q s hs2 w0 h0 g a w S hle hj hd;refine Jc (wpIn_mono (ih _ ys q s w0 h0 g a w hs2 S hle hj hd) ?_);rintro e a' w' (⟨qx,q',σ',w1,h1,g',hK,S',iy,rC,gG⟩ | ⟨ch,rfl,gG,vG⟩)
     rotate_left
     exact .inr ⟨ch,rfl,gG,vG⟩;cases e with
     | normal =>
      simp only[zik,hk]at hK;split at hK;rename_i s2 hs2;obtain⟨g2,S2⟩:=eQ hs2 S';exact hK w1 h1 g2 a' w' S2 iy rC gG;exact hK.elim
     | exit id=>exact .inl ⟨qx,q',σ',w1,h1,g',hK,S',iy,rC,gG⟩
     | goto l=>exact .inl ⟨qx,q',σ',w1,h1,g',hK,S',iy,rC,gG⟩
     | ret=>exact .inl ⟨qx,q',σ',w1,h1,g',hK,S',iy,rC,gG⟩
     | panic ch=>exact .inl ⟨qx,q',σ',w1,h1,g',hK,S',iy,rC,gG⟩
     | outgrown=>exact .inl ⟨qx,q',σ',w1,h1,g',hK,S',iy,rC,gG⟩
   exact h.elim
  ·split at h
   ·rename_i m k hk
    have key:∀(m:Nat)(ys:List (List PA))(q:Bool)(σ:St)(w0:World)(h0:Fz)(g:Gh)(a:Act)(w:World),QA P k (SV P Γ aQ b) m K ys q σ->bU P aQ.nt w0.heap.size w0 h0 g σ a w->ku hs h0->JQ J Jx q ys h0 w0->YI l a ->
      XI (FR none) n P b (zdi J Jx P aQ.nt l hs Rp K) a w:=by
     intro m
     induction m with
     | zero=>intro ys q σ w0 h0 g a w h;exact h.elim
     | succ m ihm =>
      intro ys q σ w0 h0 g a w h S hle hj hd;simp only[QA]at h;split at h
      ·rename_i s pM;obtain⟨g1,S1⟩:=eQ pM S;refine Jc (wpIn_mono (ih _ ys q s w0 h0 g1 a w h S1 hle hj hd) ?_);rintro e a' w' (⟨qx,q',σ',w1,h1,g',hK,S',iy,rC,gG⟩ | ⟨ch,rfl,gG,vG⟩)
       rotate_left
       exact .inr ⟨ch,rfl,gG,vG⟩;cases e with|normal=>exact ihm qx q' σ' w1 h1 g' a' w' hK S' iy rC gG|exit id=>exact .inl ⟨qx,q',σ',w1,h1,g',hK,S',iy,rC,gG⟩|goto l=>exact .inl ⟨qx,q',σ',w1,h1,g',hK,S',iy,rC,gG⟩|ret=>exact .inl ⟨qx,q',σ',w1,h1,g',hK,S',iy,rC,gG⟩|panic ch=>exact .inl ⟨qx,q',σ',w1,h1,g',hK,S',iy,rC,gG⟩|outgrown=>exact .inl ⟨qx,q',σ',w1,h1,g',hK,S',iy,rC,gG⟩
      exact h.elim
    exact Jb (key m ys q σ w0 h0 g a w h S hle hj hd)
   exact h.elim
 | exit id=>intro K ys q σ w0 h0 g a w h S hle hj hd;exact wpIn_exit (.inl ⟨ys,q,σ,w0,h0,g,h,S,hle,hj,hd⟩)
 | scope b ih =>
  intro K ys q σ w0 h0 g a w h S hle hj hd;refine za9 (wpIn_mono (ih _ ys q σ w0 h0 g a w h S hle hj hd) ?_);rintro e a' w' (⟨qx,q',σ',w1,h1,g',hK,S',iy,rC,gG⟩|⟨ch,rfl,gG,vG⟩)
  rotate_left
  exact .inr ⟨ch,rfl,gG,vG⟩;cases e with|goto l=>exact hK|normal=>exact .inl ⟨qx,q',σ',w1,h1,g',hK,S',iy,rC,gG⟩|exit l=>exact .inl ⟨qx,q',σ',w1,h1,g',hK,S',iy,rC,gG⟩|ret=>exact .inl ⟨qx,q',σ',w1,h1,g',hK,S',iy,rC,gG⟩|panic ch=>exact .inl ⟨qx,q',σ',w1,h1,g',hK,S',iy,rC,gG⟩|outgrown=>exact .inl ⟨qx,q',σ',w1,h1,g',hK,S',iy,rC,gG⟩
 | label l=>intro K ys q σ w0 h0 g a w h S hle hj hd;exact wpIn_label (.inl ⟨ys,q,σ,w0,h0,g,h,S,hle,hj,hd⟩)
 | ret=>intro K ys q σ w0 h0 g a w h S hle hj hd;exact wpIn_ret (.inl ⟨ys,q,σ,w0,h0,g,h,S,hle,hj,hd⟩)
 | rangeFunc f ps x y _ _=>intro K ys q σ w0 h0 g a w h S;exact h.elim
 | goto l=>intro K ys q σ w0 h0 g a w h S;exact h.elim
 | refuse s=>intro K ys q σ w0 h0 g a w h S;exact h.elim
theorem zjn{v:Value}{vs:List Value}{m:Nat}:((v::vs).toArray++Array.replicate m undef).getD 0 undef=v:=by
 rw[yB,qda (by simp)];simp
theorem zy6{nt l:Nat}{args:List PA}{w:World}{h0:Fz}{vs:List Value}{m:Nat}(F5:nt=m)(hlen:args.length+1≤nt)(jE:RL (oC h0) args vs)(PH:Hw h0 w) :
  bU P nt w.heap.size w h0 ⟨h0,λ_=>0,λ_=>.func (.yield l) #[] #[],λ_ _=>undef⟩ ⟨(0,.cl (.vec WB))::jm 1 args,[(WB,.gone)],[]⟩ {tmps:=(.func (.yield l) #[] #[]::vs).toArray++Array.replicate (m-(.func (.yield l) #[] #[]::vs).toArray.size) undef,defers:=[]} w:=by
 have hl:=jE.length;have ho:∀{L:Nat}{o:AO},lk [(WB,AO.gone)] L=some o->o=.gone:=fun {L o} h=>by
  rw[aV]at h;split at h;simp only[bM]at h;exact h.symm;simp[lk]at h
 refine⟨Marks.nil _ _,by simp;omega,?_,λL o h=>by rw[ho h];trivial,λL o b h hb=>by rw[ho h]at hb;exact hb.elim,λL o b L' o' h h' hb=>by rw[ho h]at hb;exact hb.elim,PH,λ_ _ h=>h,λb o h=>.inl h,yg.refl _ _ _,jP _,?_,λL o h M hM=>by rw[ho h]at hM;simp[dS]at hM⟩;intro t d ht;rw[aV]at ht;split at ht;rename_i e;subst e;simp only[bM]at ht;subst ht;rw[zjn];exact⟨rfl,rfl⟩;obtain⟨x,hx,hle,rfl⟩:=rM args 1 t d ht;obtain⟨v,hv,yA⟩:=jE.get (t-1) x hx;have iF:=(BP.1 hv).1;have:((.func (.yield l) #[] #[]::vs).toArray++Array.replicate (m-(.func (.yield l) #[] #[]::vs).toArray.size) undef).getD t undef=v:=by
  rw[yB,qda (by simp;omega)];obtain⟨k,rfl⟩:∃k,t=k+1:=⟨t-1,omY⟩;have hv:vs[k]? = some v:=hv;simp[hv]
 rw[this];exact MI (g:=⟨h0,λ_=>0,λ_=>.func (.yield l) #[] #[],λ_ _=>undef⟩) yA;intro t d ht L hL;rw[aV]at ht;split at ht;simp only [bM]at ht;subst ht;have e:L=WB:=by simpa [bY,dC,bg]using hL
 subst e;exact⟨.gone,rfl⟩;obtain⟨x,hx,_,rfl⟩:=rM args 1 t d ht;rw[show bY (.one (JU x))=dC (JU x)from rfl,xe]at hL;simp at hL
theorem zjo{G:bI}(gp:jw P G){f:FuncId}{C:List PA→ae (List (List PA))}(hc:dw P f)
    (h:∀caps ys,(C caps).o=some ys->∃vv aQ,SX P {G with vv:=vv} aQ f caps ys):Bf P f C:=by
  intro caps ys hC l J Jx Rp w h0 vs hJ hJx hY hj0 jE PH;refine⟨hc,?_⟩;obtain⟨vv,aQ,hv⟩:=h caps ys hC;unfold SX at hv;split at hv
  · rename_i fn uo;split at hv
    · rename_i c tq;split at hv
      · rename_i F5;simp only[fQ,VT] at F5;obtain⟨⟨F5,hlen⟩,o6⟩:=F5;have S:=zy6 (P:=P) (l:=l) (args:=caps) (vs:=vs) (h0:=h0) (w:=w) (lu F5) (by simpa using hlen) jE PH;have hwp:=zfI (n:=0) (Γ:={ G with vv:=vv }) (J:=J) (Jx:=Jx) (Rp:=Rp) (hs:=h0) ⟨gp.mt,gp.fn,gp.own,gp.it,gp.cmp⟩ aQ (l:=l) hJ hJx hY c _ ys false _ w h0 _ _ w hv S (λ _ _ h=>h) hj0 ⟨rfl,zjn⟩;refine (callsIn_wide (n:=0)).1 ?_;refine callsIn_of_wp (F:=FR none) uo tq trivial (wpIn_mono hwp ?_);rintro e a' w' (⟨qx,q',σ',w1,h1,g',hK,S',hle,hj,hd⟩ | ⟨ch,rfl,hd,hr⟩)
        rotate_left
        exact⟨hd.d,.inr ⟨⟨ch,rfl⟩,hr⟩⟩;have fin:zil qx q'->a'.defers=[]/\∃v,(results fn a'.tmps).run P w'=.ok v w'/\((∃v2 h',Ending.returned v=.returned v2/\ku h0 h'/\Hw h' w'/\(J [] h' w'\/∃rest,Jx rest h' w'))\/((∃ch,Ending.returned v=.panicked ch)/\Rp (.returned v) w')):=by
          intro hf;have hr:fn.results = #[]:=by simpa using o6
          refine⟨hd.d,.tuple #[],?_,.inl ⟨_,g'.h,rfl,λb o hb=>S'.le0 b o (hle b o hb),S'.hw,?_⟩⟩;simp[results,hr]
          · have:=hj.later hJ hJx S';cases q' with|false=>simp only[zil]at hf;subst hf;exact .inl this|true=>exact .inr this
        cases e with|normal=>exact fin hK|ret=>exact fin hK|exit id=>exact hK.elim|goto l=>exact hK.elim|panic ch=>exact hK.elim|outgrown=>exact hK.elim
      exact hv.elim
    exact hv.elim
  exact hv.elim
def zbb(n s:Nat)(get:Nat->List PV)(rs:List PV)(r:List PA):Prop:=r=.one (.sl n s get)::rs.map .one
theorem zfJ{G:bI}(gp:jw P G){f:FuncId}{e s b:Nat}{F:List PA→ae (Nat×(Nat→List PV)×List PV)}(hc:dw P f)
    (h:∀az n get rs,(F az).o=some (n,get,rs)->∃vv aQ,zcE P {G with vv:=vv} aQ f az e s b (zbb n s get rs)):gI P f (.mkv e s b F):=by
  intro w h0 az vs n get rs hF jE PH;refine⟨hc,?_⟩;obtain⟨vv,aQ,BL⟩:=h az n get rs hF;unfold zcE at BL;split at BL;rename_i fn uo;split at BL;rename_i c tq;split at BL
  · rename_i F5;simp only[fQ,VT] at F5;refine Rt (G:={ G with vv:=vv }) ⟨gp.mt,gp.fn,gp.own,gp.it,gp.cmp⟩ (Kx:=λ fn=>zij fn e s b (zbb n s get rs)) (vs:=vs) uo tq (lu F5.1) F5.2 BL jE PH ?_;intro ex σ' g' a' w' xX S'
    have fin:Qy fn e s b (zbb n s get rs) σ'->∃v,(results fn a'.tmps).run P w'=.ok v w'/\∃(h':Fz)(v':Value)(xs:List Value),Ending.returned v=.returned (WE v' xs rs)/\RL (Rep h') rs xs/\v'.oneCell'=true/\uC get /\
        Be h' w' w.heap.size e s v' n get/\(∀k,v'.ownBlock=some k->h' k=none)/\yg h0 w.heap.size w w'/\ku h0 h'/\Hw h' w'/\∀b o,h' b=some o->h0 b=some o\/w.heap.size<=b:=by
      intro hf;unfold Qy at hf;split at hf;rename_i t o6;have hr:fn.results = #[.tmp t]:=by rw[<- qdp (xs:=fn.results),o6]
      have df:(results fn a'.tmps).run P w'=.ok (a'.tmps.getD t undef) w':=by
        simp only[results,hr];simp
      split at hf;rename_i L ht;split at hf;rename_i e' s' b' m get' bZ;split at hf
      · rename_i hb;simp only[fQ]at hb;have e1:=lu hb.1;have e2:=lu hb.2.1;subst e1 e2;obtain⟨htv,l9⟩:=S'.env t _ ht;obtain⟨iL,nN,ys,hys,hrr⟩:=S'.obj L _ bZ;unfold zbb at hf;cases rs with
        | nil =>
          simp only[qdY,Du,PA.one.injEq,PV.sl.injEq,jqf]at hf;obtain⟨rfl,_,rfl⟩:=hf;exact⟨_,df,g'.h,g'.sv L,[],by rw[htv];rfl,trivial,by rw[<- htv];exact l9,iL.1,⟨ys,hys,hrr⟩,λk hk=>(S'.own L _ k bZ hk).2,S'.below,S'.le0,S'.hw,S'.hn⟩
        | cons x l=>simp at hf
      exact hf.elim;exact hf.elim;exact hf.elim;rename_i t u o6;have hr:fn.results = #[.tmp t,.tmp u]:=by rw[<- qdp (xs:=fn.results),o6]
      have df:(results fn a'.tmps).run P w'=.ok (.tuple #[a'.tmps.getD t undef,a'.tmps.getD u undef]) w':=by
        simp only[results,hr];simp
      split at hf;rename_i L ht;split at hf;rename_i x hu;split at hf;rename_i e' s' b' m get' bZ;split at hf
      · rename_i hb;simp only[fQ] at hb;have e1:=lu hb.1;have e2:=lu hb.2.1;subst e1 e2;obtain⟨htv,l9⟩:=S'.env t _ ht;have huv:=S'.env u _ hu;obtain⟨iL,nN,ys,hys,hrr⟩:=S'.obj L _ bZ;unfold zbb at hf
        match rs,hf with
        | [y],hf =>
          simp only[lM,qdY,Du,PA.one.injEq,PV.sl.injEq,jqf]at hf;obtain⟨⟨rfl,_,rfl⟩,rfl⟩:=hf;exact⟨_,df,g'.h,g'.sv L,[a'.tmps.getD u undef],by rw[<- htv];rfl,⟨huv,trivial⟩,by rw[<- htv];exact l9,iL.1,⟨ys,hys,hrr⟩,λk hk=>(S'.own L _ k bZ hk).2,S'.below,S'.le0,S'.hw,S'.hn⟩
        | [],hf=>simp at hf
        | _::_::_,hf=>simp at hf
      exact hf.elim;exact hf.elim;exact hf.elim;exact hf.elim;exact hf.elim
    cases ex with|normal=>exact⟨.inl rfl,fin xX⟩|ret=>exact⟨.inr rfl,fin xX⟩|exit id=>exact xX.elim|goto l=>exact xX.elim|panic ch=>exact xX.elim|outgrown=>exact xX.elim
  exact BL.elim;exact BL.elim;exact BL.elim
end
end Go.Pm
namespace Go.Pm
variable [aH]
open Go.RowKit (Below)
def He(i j:Nat):Nat:=i+4096*(j+1)
def JD:Nat→List XA→List (Nat×DV)|_,[]=>[]|i,.d a::r=>(i,.one (JU a))::JD (i+1) r|i,.box _ _::r=>(i,.cl (.ptr i 0))::JD (i+1) r
def Am:Nat→Nat→List uw|_,0=>[]|np,n+1=>.b np::Am (np+1) n
def qC(i:Nat):Nat→List XC→List Cl|_,[]=>[]|j,.p v::r=>.p v::qC i (j+1) r|j,.vec _ _ _ _ _::r=>.vec (He i j)::qC i (j+1) r|j,.mo _ _ _ _ _::r=>.mo (He i j)::qC i (j+1) r|j,.slf f np n::r=>.clo f (Am np n)::qC i (j+1) r
def nC(i:Nat):Nat→List XC→List (Nat×AO)|_,[]=>[]|j,.p _::r=>nC i (j+1) r|j,.vec e s b n get::r=>(He i j,.vec e s b n get)::nC i (j+1) r|j,.mo kt vt q n F::r=>(He i j,.mo kt vt q n F)::nC i (j+1) r|j,.slf _ _ _::r=>nC i (j+1) r
def iI:Nat→List XA→List (Nat×AO)|_,[]=>[]|i,.d _::r=>iI (i+1) r|i,.box ty cs::r=>(i,.box ty (qC i 0 cs))::(nC i 0 cs++iI (i+1) r)
def uN:Nat→List XA→List Nat|_,[]=>[]|i,.d _::r=>uN (i+1) r|i,.box _ _::r=>i::uN (i+1) r
def zdk:List XC→Option (FuncId×Nat×Nat)|[]=>none|.slf f np n::_=>some (f,np,n)|_::r=>zdk r
def XM:List XA→Option (FuncId×Nat×Nat)
  | []=>none
  | .d _::r=>XM r
  | .box _ cs::r=>match zdk cs with|some x=>some x|none=>XM r
def NE(env:List (Nat×DV)):Nat→Nat→Option (List Nat)
  | _,0=>some []
  | np,n+1=>match lk env np,NE env (np+1) n with|some (.one (.c (.ptr L 0))),some l=>some (L::l)|_,_=>none
def CG(env:List (Nat×DV))(xs:List XA):lD:=match XM xs with
 | some (f,np,n)=>match NE env np n with|some l=>some (f,np,l)|none=>none
 | none=>none
def zD(bx:List Nat):Nat→Nat→Bool|_,0=>true|np,n+1=>bx.contains np&&zD bx (np+1) n
def NF(bx:List Nat):List XC→Bool|[]=>true|.slf _ np n::r=>zD bx np n&&NF bx r|_::r=>NF bx r
def yu(bx:List Nat):List XA→Bool|[]=>true|.d _::r=>yu bx r|.box _ cs::r=>NF bx cs&&yu bx r
section
variable(P:Program)
def Ej(σ:St):List ResultVar→Option (List PA×List (Nat×AO))
  | []=>some ([],[])
  | .tmp t::r=>match lk σ.env t with
    | some d=>match AY (lk σ.ax) d,Ej σ r with|some (x,u),some (l,us)=>some (x::l,u++us)|_,_=>none
    | none=>none
  | .cell t ty::r=>match lk σ.env t,jG P ty,qK P ty with
    | some (.one (.c (.ptr L off))),some g,some n=>match lk σ.ax L with
      | some (.box _ cells)=>match oH g n cells off with
        | some d=>match AY (lk σ.ax) (.one d),Ej σ r with|some (x,u),some (l,us)=>some (x::l,u++us)|_,_=>none
        | none=>none
      | _=>none
    | _,_,_=>none
def NG(sf:lD)(ob:Nat→Option AO)(env:List (Nat×DV)):Nat→List XA→Option (List XA×List Nat)
  | _,[]=>some ([],[])
  | i,.d a::r=>match NG sf ob env (i+1) r with|some (ys,ls)=>some (.d a::ys,ls)|none=>none
  | i,.box _ _::r=>match lk env i,NG sf ob env (i+1) r with
    | some (.one (.c (.ptr L 0))),some (ys,ls)=>match Bd sf ob (.one (.c (.ptr L 0)))with|some (y,l,_)=>some (y::ys,l++ls)|none=>none
    | _,_=>none
def WX(fn:Func)(xs:List XA)(K:List PA->List XA->Prop)(σ:St):Prop :=
 match Ej P σ fn.results.toList with
 | some (l,u)=>match NG (CG σ.env xs) (lk (u++σ.ax)) σ.env 0 xs with
  | some (ys,ls)=>match lS ls,Gv l with|true,none=>K l ys|_,_=>False
  | none=>False
 | none=>False
def zjq(xs:List XA)(K:List PA->List XA->Prop)(ch:List PanicEntry)(σ:St):Prop :=
 match chR ch with
 | some l=>match NG (CG σ.env xs) (lk σ.ax) σ.env 0 xs with
  | some (ys,ls)=>match lS ls with|true=>K l ys|false=>False
  | none=>False
 | none=>False
def zvV(fn:Func)(xs:List XA)(K:List PA→List XA→Prop):Exit→St→Prop|.ret,σ=>WX P fn xs K σ|.normal,σ=>WX P fn xs K σ|.panic ch,σ=>zjq xs K ch σ|_,_=>False
def XN(Γ:bI)(aQ:dG)(f:FuncId)(xs:List XA)(K:List PA->List XA->Prop):Prop :=
 match P.funcs[f]? with
 | some fn=>match fn.body with
  | some c=>match Nat.beq aQ.nt fn.ntmps&&Nat.ble xs.length aQ.nt&&lS ((iI 0 xs).map (·.1))&&yu (uN 0 xs) xs&&nR (uN 0 xs) (eG c)with|true=>vc P Γ aQ c (zvV P fn xs K) ⟨JD 0 xs,iI 0 xs,[]⟩|false=>False
  | none=>False
 | none=>False
end
section
variable{P:Program}{Γ:bI}
def Kr(w:World)(v:Value):List Value:=match v with
 | .pointer (some a)=>match w.heap[a.block]? with|some (.cells C _ _)=>C.toList|_=>[]
 | _=>[]
def xVV(i:Nat):Nat→List XC→List Value→List (Nat×Value)|j,.p _::r,_::vs=>xVV i (j+1) r vs|j,.vec _ _ _ _ _::r,v::vs=>(He i j,v)::xVV i (j+1) r vs|j,.mo _ _ _ _ _::r,v::vs=>(He i j,v)::xVV i (j+1) r vs|j,.slf _ _ _::r,_::vs=>xVV i (j+1) r vs|_,_,_=>[]
def zF(w:World):Nat→List XA→List Value→List (Nat×Value)|i,.d _::r,_::vs=>zF w (i+1) r vs|i,.box _ cs::r,v::vs=>(i,v)::(xVV i 0 cs (Kr w v)++zF w (i+1) r vs)|_,_,_=>[]
def zjr:Value→Nat|.pointer (some a)=>a.block|_=>0
theorem Jf:∀(n np:Nat)(bx:List Nat),zD bx np n=true→∀M∈lN (Am np n),M∈bx
  | 0,_,_,_,M,hM=>by simp[Am,lN]at hM
  | n+1,np,bx,h,M,hM=>by
    simp only[zD,fQ]at h;simp only[Am,lN,jV]at hM;rcases hM with rfl|hM
    simpa using h.1;exact Jf n (np+1) bx h.2 M hM
theorem CJ:∀(n np:Nat)(bx:List Nat),zD bx np n=true→∀k,k<n→np+k∈bx
  | 0,_,_,_,k,h=>absurd h omY
  | n+1,np,bx,h,k,hk=>by
    simp only[zD,fQ]at h;cases k with|zero=>simpa using h.1|succ k=>rw[show np+(k+1)=np+1+k by omega];exact CJ n (np+1) bx h.2 k omY
theorem Ru{g:Gh}:∀(bs:List Nat)(np:Nat),(∀k b,bs[k]? = some b→g.bk (np+k)=b)→RL (JA g) (Am np bs.length) (bs.map yD)|[],_,_=>trivial|b::bs,np,h=>⟨by show yD b=_;rw[<- h 0 b rfl];rfl,Ru bs (np+1) λk b' hk=>by rw[<- h (k+1) b' (by simpa using hk)];congr 1;omega⟩
section start
variable{h:Fz}{w:World}{B:Nat}{g:Gh}(hle:∀p x,Rep h p x->Rep g.h p x)
include hle
theorem XO [dD]{i:Nat}{bx:List Nat}(TU:∀k b,(dD.bs)[k]? = some b->dD.np+k∈bx->g.bk (dD.np+k)=b):∀{cs:List XC}{j:Nat}{vs:List Value},RL (xcR P h w B) cs vs->NF bx cs=true->(∀x∈xVV i j cs vs,g.sv x.1=x.2) ->
  RL (jk g) (qC i j cs) vs/\(∀ x∈nC i j cs,Xd x.2/\dS x.2=[]/\Pz P g w B x.1 x.2)/\vM cs vs=(nC i j cs).flatMap (λ x=>kO g x.1 x.2)/\(xVV i j cs vs).map (·.1)=(nC i j cs).map (·.1) /\
   ∀M∈(qC i j cs).flatMap bg,M∈(nC i j cs).map (·.1)\/M∈bx
 | [],j,[],_,_,_=>⟨trivial,λx hx=>by simp[nC]at hx,rfl,rfl,λM hM=>by simp[qC]at hM⟩
 | [],_,_::_,hr,_,_=>hr.elim
 | _::_,_,[],hr,_,_=>hr.elim
 | .slf f np n::cs,j,v::vs,hr,hb,hs=>by
  simp only[NF,fQ]at hb;obtain⟨i1,i2,i3,i4,i5⟩:=XO (j:=j+1) TU hr.2 hb.2 hs;obtain⟨rfl,rfl,rfl,rfl⟩:=hr.1;refine⟨⟨⟨_,rfl,Ru _ _ λk b hk=>TU k b hk (CJ _ _ _ hb.1 k (BP.1 hk).1)⟩,i1⟩,i2,by simp only[vM,xcK,Qr];exact i3,i4,λM hM=>?_⟩;simp only[qC,oG,dR]at hM;rcases hM with hM|hM
  exact .inr (Jf _ _ _ hb.1 M hM);exact i5 M hM
 | .p p::cs,j,v::vs,hr,hb,hs=>by
  obtain⟨i1,i2,i3,i4,i5⟩:=XO (j:=j+1) TU hr.2 hb hs;exact⟨⟨hle _ _ hr.1,i1⟩,i2,by simp only[vM,xcK,Qr];exact i3,i4,λM hM=>i5 M (by simpa [qC,bg]using hM)⟩
 | .vec e s b n get::cs,j,v::vs,hr,hb,hs=>by
  obtain⟨i1,i2,i3,i4,i5⟩:=XO (j:=j+1) TU hr.2 hb (λx hx=>hs x (jM _ hx));have hv:g.sv (He i j)=v:=hs (He i j,v) kH;obtain⟨h1,h2,h3,xs,hx,Qj⟩:=hr.1;refine⟨⟨⟨hv.symm,h1⟩,i1⟩,λx hx=>?_,?_,by simp[xVV,nC,i4],λM hM=>?_⟩;rcases jV.1 hx with e1|hx
  subst e1;refine⟨trivial,rfl,h2,h3,xs,?_,λq hq=>(Qj q hq).mono hle⟩;show w.ownsRow B e s (g.sv (He i j)) n xs;rw[hv];assumption;exact i2 x hx;simp only[vM,xcK,nC,oG,kO,hv,i3];simp only [qC,oG,dR,bg,mf]at hM;simp only[nC,lM,jV];rcases hM with hM|hM
  exact .inl (.inl hM);exact(i5 M hM).imp_left .inr
 | .mo kt vt q n F::cs,j,v::vs,hr,Gp,hs=>by
  obtain⟨i1,i2,i3,i4,i5⟩:=XO (j:=j+1) TU hr.2 Gp (λx hx=>hs x (jM _ hx));have hv:g.sv (He i j)=v:=hs (He i j,v) kH;obtain⟨b,es,clock,rfl,h2,h3⟩:=hr.1;have hb:pU (g.sv (He i j))=b:=by rw[hv];rfl
  refine⟨⟨by show Value.map (some b)=.map (some (pU (g.sv (He i j))));rw[hb],i1⟩,λx hx=>?_,?_,by simp[xVV,nC,i4],λM hM=>?_⟩;rcases jV.1 hx with e1|hx
  subst e1;exact⟨trivial,rfl,es,clock,by rw[hb];exact h2,h3⟩;exact i2 x hx;simp only[vM,xcK,nC,oG,kO,hb,i3];rfl;simp only [qC,oG,dR,bg,mf]at hM;simp only[nC,lM,jV];rcases hM with hM|hM
  exact .inl (.inl hM);exact(i5 M hM).imp_left .inr
theorem TV [dD]{bx:List Nat}(TU:∀k b,(dD.bs)[k]? = some b->dD.np+k∈bx->g.bk (dD.np+k)=b):∀{xs:List XA}{i:Nat}{vs:List Value},RL (Af P h w B) xs vs->yu bx xs=true->(∀x∈zF w i xs vs,g.sv x.1=x.2/\g.bk x.1=zjr x.2) ->
  (∀x∈iI i xs,Xd x.2/\(∀M∈dS x.2,M∈(iI i xs).map (·.1)\/M∈bx)/\Pz P g w B x.1 x.2)/\nO w xs vs=(iI i xs).flatMap (λx=>kO g x.1 x.2)/\(zF w i xs vs).map (·.1)=(iI i xs).map (·.1)
 | [],i,[],_,_,_=>⟨λx hx=>by simp[iI]at hx,rfl,rfl⟩
 | [],_,_::_,hr,_,_=>hr.elim
 | _::_,_,[],hr,_,_=>hr.elim
 | .d a::xs,i,v::vs,hr,Gp,hs=>by
  obtain⟨i1,i2,i3⟩:=TV (i:=i+1) TU hr.2 Gp hs;exact⟨i1,by simp only[nO,WF,Qr];exact i2,i3⟩
 | .box ty cs::xs,i,v::vs,hr,Gp,hs=>by
  simp only[yu,fQ]at Gp;obtain⟨i1,i2,i3⟩:=TV (i:=i+1) TU hr.2 Gp.2 (λx hx=>hs x (jM _ (dR.2 (.inr hx))));obtain⟨k,C,rfl,hC,oz⟩:=hr.1;have hca:Kr w (.pointer (some ⟨k,0,none⟩))=C.toList:=by simp only[Kr,hC]
  obtain⟨j1,j2,j3,j4,j5⟩:=XO (i:=i) (j:=0) hle TU oz Gp.1 (λx hx=>(hs x (jM _ (dR.2 (.inl (by rw[hca];exact hx))))).1);have hb:g.bk i=k:=(hs (i,_) kH).2;refine⟨λx hx=>?_,?_,?_⟩;simp only [iI]at hx;rcases jV.1 hx with e|hx
  subst e;refine⟨trivial,λM hM=>?_,C,by rw[hb];exact hC,j1⟩;simp only[iI,lM,Qn,jV,dR];exact(j5 M hM).imp_left λh=>.inr (.inl h);rcases dR.1 hx with hx|hx
  obtain⟨q1,q2,q3⟩:=j2 x hx;exact⟨q1,λM hM=>by rw[q2]at hM;simp at hM,q3⟩;obtain⟨q1,q2,q3⟩:=i1 x hx;refine⟨q1,λM hM=>?_,q3⟩;simp only[iI,lM,Qn,jV,dR];exact(q2 M hM).imp_left λh=>.inr (.inr h);simp only[nO,WF,hC,iI,oG,qdT,kO,hb,j3,i2];simp;simp only[zF,iI,lM,Qn,hca,j4,i3]
end start
theorem TW : ∀ (xs : List XA) (i t : Nat) (d : DV), lk (JD i xs) t = some d → ∃ x, xs[t - i]? = some x ∧ i ≤ t ∧ d = match x with | .d a => .one (JU a) | .box _ _ => .cl (.ptr t 0)
  | [],i,t,d,h=>by simp[JD,lk]at h
  | x::r,i,t,d,h=>by
    have key:lk (JD (i+1) r) t=some d->i≠t->∃y,(x::r)[t-i]? = some y/\i<=t/\d=match y with | .d a=>.one (JU a) | .box _ _=>.cl (.ptr t 0):=λh jb=>by
      obtain⟨y,h1,h2,h3⟩:=TW r (i+1) t d h;refine⟨y,?_,omY,h3⟩;rw[show t-i=(t-(i+1))+1 by omega,dqN];exact h1
    cases x with
    | d a =>
      simp only[JD]at h;rw[aV]at h;split at h;rename_i e;subst e;simp only[bM]at h;exact⟨.d a,by simp,jP _,h.symm⟩;rename_i e;exact key h e
    | box ty cs =>
      simp only[JD]at h;rw[aV]at h;split at h;rename_i e;subst e;simp only[bM]at h;exact⟨.box ty cs,by simp,jP _,h.symm⟩;rename_i e;exact key h e
theorem Hf : ∀ {xs : List XA} {i t : Nat} {ty : Nat} {cs : List XC}, xs[t - i]? = some (.box ty cs) → i ≤ t → t ∈ (iI i xs).map (·.1)
  | [],i,t,ty,cs,h,_=>by simp at h
  | x::xs,i,t,ty,cs,h,hi=>by
    by_cases e:t=i;subst e;simp at h;subst h;simp[iI]
    · rw [show t-i=(t-(i+1))+1 by omega,dqN]at h;have:=Hf (i:=i+1) h omY;cases x with
      | d a=>exact this
      | box ty' Jt =>
        simp only[iI,lM,Qn,jV,dR];exact .inr (.inr this)
theorem Hg{w:World}:∀{xs:List XA}{i t:Nat}{ty:Nat}{cs:List XC}{vs:List Value}{v:Value},xs[t-i]? = some (.box ty cs)→vs[t-i]? = some v→i≤t→(t,v)∈zF w i xs vs
  | [],i,t,ty,cs,vs,v,h,_,_=>by simp at h
  | _::_,i,t,ty,cs,[],v,_,h,_=>by simp at h
  | x::xs,i,t,ty,cs,u::vs,v,h,h2,hi=>by
    by_cases e:t=i;subst e;simp at h h2;subst h h2;simp[zF]
    · rw [show t-i=(t-(i+1))+1 by omega,dqN]at h h2;have:=Hg (w:=w) (i:=i+1) h h2 omY;cases x with
      | d a=>exact this
      | box ty' Jt =>
        simp only[zF,jV,dR];exact .inr (.inr this)
def pinned(h:Fz)(K:List Nat)(w:World):Fz:=λb =>
 match h b with
 | some (.fz (.cells C ty fr))=>some (.fz (.cells C ty fr))
 | _=>match K.contains b with|true=>none|false=>(w.heap[b]?).map .pin
theorem XP{h:Fz}{K:List Nat}{w:World}{b:Nat}{o:WC}(hb:h b=some o)(ho:(∃C ty fr,o=.fz (.cells C ty fr))):pinned h K w b=some o:=by
 obtain⟨C,ty,fr,rfl⟩:=ho;simp only[pinned,hb]
def zHu(h:Fz)(K:List Nat)(w:World)(b:Nat):Prop :=
 (∃o,h b=some o∧pinned h K w b=some o∧((∃C ty fr,o = .fz (.cells C ty fr)))) ∨
  (b∈K/\pinned h K w b=none)\/(b∉K/\pinned h K w b=(w.heap[b]?).map .pin)
theorem zG{h:Fz}{K:List Nat}{w:World}{b:Nat}(e:pinned h K w b=(match K.contains b with|true=>none|false=>(w.heap[b]?).map .pin)):zHu h K w b:=by
 cases hk:K.contains b with|true=>rw[hk]at e;exact .inr (.inl ⟨by simpa using hk,e⟩)|false=>rw[hk]at e;exact .inr (.inr ⟨by simpa using hk,e⟩)
theorem dW{h:Fz}{K:List Nat}{w:World}(b:Nat):zHu h K w b:=by
 cases hb:h b with
 | none=>exact zG (by simp only[pinned,hb])
 | some o =>
  cases o with
  | pin o=>exact zG (by simp only[pinned,hb])
  | fz o =>
   cases o with|cells C ty fr=>exact .inl ⟨_,hb,by simp only[pinned,hb],C,ty,fr,rfl⟩|_=>exact zG (by simp only[pinned,hb])
theorem xn{h:Fz}{K:List Nat}{w:World}{p:PV}{x:Value}(hr:Rep h p x):Rep (pinned h K w) p x:=hr.mono' λ_ _ hb ho=>XP hb ho
theorem Rw{h:Fz}{K:List Nat}{w:World}(H:Hw h w):Hw (pinned h K w) w:=by
 intro b x hb;rcases dW (h:=h) (K:=K) (w:=w) b with⟨o,h1,h2,_⟩|⟨_,h2⟩|⟨_,h2⟩
 rw[h2]at hb;simp only[bM]at hb;subst hb;exact H b _ h1;rw[h2]at hb;cases hb;rw [h2]at hb;obtain⟨o,ho,rfl⟩:=dqP.1 hb;exact⟨o,ho,rfl⟩
theorem xq{h h':Fz}(hle:∀p x,Rep h p x->Rep h' p x){a:PA}{v:Value}(hr:oC h a v):oC h' a v:=by
 cases a with
 | one p=>exact hle _ _ hr
 | agg cs=>obtain⟨vs,rfl,hr⟩:=hr;exact⟨vs,rfl,hr.mono hle⟩
theorem zjs{h h':Fz}(hle:∀p x,Rep h p x->Rep h' p x){rs:List PA}{v:Value}(hr:qV h rs v):qV h' rs v:=by
 match rs,hr with|[],⟨vs,e,r⟩=>exact⟨vs,e,r.mono λ_ _=>xq hle⟩|[x],hr=>exact xq hle hr|x::y::l,⟨vs,e,r⟩=>exact⟨vs,e,r.mono λ_ _=>xq hle⟩
theorem zpE [dD]{h h':Fz}{w:World}{B:Nat}(hle:∀p x,Rep h p x->Rep h' p x){c:XC}{v:Value}(hr:xcR P h w B c v):xcR P h' w B c v:=by
 cases c with
 | p v=>exact hle _ _ hr
 | vec e s b n get=>obtain⟨h1,h2,h3,xs,h4,h5⟩:=hr;exact⟨h1,h2,h3,xs,h4,λq hq=>(h5 q hq).mono hle⟩
 | mo kt vt q n F=>exact hr
 | slf f np n=>exact hr
theorem zdl [dD]{h h':Fz}{w:World}{B:Nat}(hle:∀p x,Rep h p x->Rep h' p x){c:XA}{v:Value}(hr:Af P h w B c v):Af P h' w B c v:=by
 cases c with
 | d a=>exact xq hle hr
 | box ty cs=>obtain⟨k,C,h1,h2,h3⟩:=hr;exact⟨k,C,h1,h2,h3.mono λ_ _=>zpE hle⟩
theorem Em:∀{xs:List XA}{i M:Nat},M∈uN i xs→i≤M∧∃ty cs,xs[M-i]? = some (.box ty cs)
  | [],_,_,h=>by simp[uN]at h
  | .d a::xs,i,M,h=>by
    obtain⟨h1,ty,cs,h2⟩:=Em (i:=i+1) h;exact⟨omY,ty,cs,by rw[show M-i=(M-(i+1))+1 by omega,dqN];exact h2⟩
  | .box ty cs::xs,i,M,h=>by
    rcases jV.1 h with rfl|h
    exact⟨jP _,ty,cs,by simp⟩;obtain⟨h1,ty,cs,h2⟩:=Em (i:=i+1) h;exact⟨omY,ty,cs,by rw[show M-i=(M-(i+1))+1 by omega,dqN];exact h2⟩
theorem zpF [dD]{nt m:Nat}{xs:List XA}{w:World}{h:Fz}{B:Nat}{vs:List Value}(F5:nt=m)(hlen:xs.length≤nt)(jE:RL (Af P h w B) xs vs)(hn:(nO w xs vs).Nodup)
    (hK:∀b∈nO w xs vs,B<=b/\h b=none) (hw:Hw h w) (hB:B<=w.heap.size) (Bo:((iI 0 xs).map (·.1)).Nodup) (Gp:yu (uN 0 xs) xs=true) (mO:∀k b,(dD.bs)[k]? = some b->vs[dD.np+k]? = some (yD b)) :
    ∃g,bU P nt B w (pinned h (nO w xs vs) w) g ⟨JD 0 xs,iI 0 xs,[]⟩ {tmps:=vs.toArray++Array.replicate (m-vs.toArray.size) undef,defers:=[]} w:=by
  let nv:=zF w 0 xs vs;let h0:=pinned h (nO w xs vs) w;let g:Gh:=⟨h0,λL=>zjr ((lk nv L).getD undef),λL=>(lk nv L).getD undef,λ_ _=>undef⟩;have hle:∀p x,Rep h p x->Rep g.h p x:=λp x hr=>xn hr;have SB:nv.map (·.1)=(iI 0 xs).map (·.1):=by
    have:∀{xs:List XA}{i:Nat}{vs:List Value},RL (Af P h w B) xs vs->(zF w i xs vs).map (·.1)=(iI i xs).map (·.1):=by
      intro xs
      induction xs with
      | nil=>intro i vs hr;cases vs with|nil=>rfl|cons=>exact hr.elim
      | cons x xs ih =>
        intro i vs hr;cases vs with
        | nil=>exact hr.elim
        | cons v vs =>
          cases x with
          | d a=>exact ih hr.2
          | box ty cs =>
            obtain⟨k,C,rfl,hC,oz⟩:=hr.1;have hv:∀{cs:List XC}{j:Nat}{vs:List Value},RL (xcR P h w B) cs vs->(xVV i j cs vs).map (·.1)=(nC i j cs).map (·.1):=by
              intro cs
              induction cs with
              | nil=>intro j vs hr;cases vs with|nil=>rfl|cons=>exact hr.elim
              | cons c cs ih2 =>
                intro j vs hr;cases vs with
                | nil=>exact hr.elim
                | cons v vs=>cases c with|p q=>exact ih2 hr.2|vec e s b n get=>simp only[xVV,nC,lM];rw[ih2 hr.2]|mo kt vt q n F=>simp only[xVV,nC,lM];rw[ih2 hr.2]|slf f np n=>exact ih2 hr.2
            simp only[zF,iI,lM,Qn,Kr,hC];rw[hv oz,ih hr.2]
    exact this jE
  have zpG:∀x∈nv,lk nv x.1=some x.2:=λx hx=>GM (by rw[SB];exact Bo) hx;obtain⟨o1,o2,o3⟩:=TV (g:=g) (i:=0) hle (bx:=uN 0 xs) (λk b hk hm=>by
    obtain⟨_,ty,cs,hx⟩:=Em hm;have:=zpG _ (Hg (w:=w) (i:=0) hx (by rw[jqX];exact mO k b hk) (Ad _));show zjr ((lk nv (dD.np+k)).getD undef)=b;rw[show lk nv (dD.np+k)=some (yD b)from this];rfl) jE Gp (λx hx=>⟨by show(lk nv x.1).getD undef=x.2;rw[zpG x hx];rfl,by show zjr ((lk nv x.1).getD undef)=_;rw[zpG x hx];rfl⟩)
  have sW:∀L o,lk (iI 0 xs) L=some o->(L,o)∈iI 0 xs:=λL o h=>fK h;have hl:=jE.length;have hblk:∀L o b,lk (iI 0 xs) L=some o->gY g L o b->b∈(iI 0 xs).flatMap (λx=>kO g x.1 x.2):=λL o b hL hb=>mg.2 ⟨_,sW L o hL,GK (o1 _ (sW L o hL)).1 hb⟩;refine⟨g,Marks.nil _ _,by simp;omega,?_,λL o hL=>(o1 _ (sW L o hL)).2.2,?_,?_,Rw hw,λ_ _ h=>h,λb o h=>.inl h,yg.refl _ _ _,hB,?_,?_⟩
  · intro t d ht;obtain⟨x,hx,_,rfl⟩:=TW xs 0 t d ht;obtain⟨v,hv,yA⟩:=jE.get t x (by simpa using hx);have iF:=(BP.1 hv).1;have:(vs.toArray++Array.replicate (m-vs.toArray.size) undef).getD t undef=v:=by
      rw[yB,qda (by simpa using iF)];simp[hv]
    rw[this];cases x with
    | d a=>exact MI (g:=g) (xq hle yA)
    | box ty cs =>
      obtain⟨k,C,rfl,hC,_⟩:=yA;have:=zpG _ (Hg (w:=w) (i:=0) hx (by simpa using hv) (Ad _));show Value.pointer (some ⟨k,0,none⟩)=.pointer (some ⟨zjr ((lk nv t).getD undef),0,none⟩);rw[show lk nv t=some (.pointer (some ⟨k,0,none⟩))from this];rfl
  intro L o b hL hb;have hbK:b∈nO w xs vs:=by rw[o2];exact hblk L o b hL hb
  refine⟨(hK b hbK).1,?_⟩;show pinned h (nO w xs vs) w b=none;rcases dW (h:=h) (K:=nO w xs vs) (w:=w) b with⟨o,h1,_⟩|⟨_,h2⟩|⟨h2,_⟩
  rw[(hK b hbK).2]at h1;cases h1;exact h2;exact(h2 hbK).elim;intro L o b L' o' hL SE hb mP;rw[o2]at hn;have:=GL hn (L,o) (L',o') b (sW L o hL) (sW L' o' SE) (GK (o1 _ (sW L o hL)).1 hb) (GK (o1 _ (sW L' o' SE)).1 mP);exact jZ Prod.fst this
  · intro t d ht L hL;obtain⟨x,hx,_,rfl⟩:=TW xs 0 t d ht;cases x with
    | d a=>rw[show bY (.one (JU a))=dC (JU a)from rfl,xe]at hL;simp at hL
    | box ty cs =>
      simp[bY,dC,bg]at hL;subst hL;exact Ag (Hf (i:=0) hx (Ad _))
  intro L o hL M hM;rcases(o1 _ (sW L o hL)).2.1 M hM with h|h
  exact Ag h;obtain⟨_,ty,cs,hx⟩:=Em h;exact Ag (Hf (i:=0) hx (Ad _))
theorem Hl{nt B:Nat}{w0:World}{h0:Fz}{g:Gh}{σ:St}{a:Act}{w:World}(S:bU P nt B w0 h0 g σ a w):∀(rs:List ResultVar)(l:List PA)(u:mQ),Ej P σ rs=some (l,u) ->
  ∃(vs:List Value),fF (lk σ.ax) u/\(rs.mapM (resV a.tmps)).run P w=.ok vs w/\∀(u':mQ)(h':Fz),(∀y∈u,y∈u')->fJ g (lk σ.ax) u' h'->RL (oC h') l vs
 | [],l,u,h=>by
  simp[Ej]at h;obtain⟨rfl,rfl⟩:=h;exact⟨[],fF.nil _,rfl,λ_ _ _ _=>trivial⟩
 | .tmp t::r,l,u,h=>by
  simp only[Ej]at h;split at h;rename_i d hd;split at h;rename_i x u1 l2 u2 h1 h2;simp only[bM,gq]at h;obtain⟨rfl,rfl⟩:=h;obtain⟨vs,hu2,df,hr⟩:=Hl S r l2 u2 h2;refine⟨a.tmps.getD t undef::vs,(DK h1).append hu2,?_,λu' h' hu F=>⟨F.repD h1 (λy hy=>hu y (dR.2 (.inl hy))) (S.env t d hd),hr u' h' (λy hy=>hu y (dR.2 (.inr hy))) F⟩⟩;rw[qjJ];simp only[resV,Sem.run_bind,Sem.run_pure,Result.andThen_ok];rw[df];rfl;cases h;cases h
 | .cell t ty::r,l,u,h=>by
  simp only[Ej]at h;split at h;rename_i L off ag m ht hg hs;split at h;rename_i ty' cells hL;split at h;rename_i d hd;split at h;rename_i x u1 l2 u2 h1 h2;simp only[bM,gq]at h;obtain⟨rfl,rfl⟩:=h;obtain⟨vs,hu2,df,hr⟩:=Hl S r l2 u2 h2;obtain⟨C,hC,VJ⟩:=S.obj L _ hL;obtain⟨v,Z8,hv⟩:=LP (P:=P) hg hs hC 0 (λj y hj=>by obtain⟨v,hv,Sz⟩:=VJ.get j y hj;exact⟨v,by simpa using hv,Sz⟩) hd;have hp:a.tmps.getD t undef=.pointer (some ⟨g.bk L,off,none⟩):=S.env t _ ht;rw[PK]at Z8;refine⟨v::vs,(DK h1).append hu2,?_,λu' h' hu F=>⟨F.repD h1 (λy hy=>hu y (dR.2 (.inl hy))) hv,hr u' h' (λy hy=>hu y (dR.2 (.inr hy))) F⟩⟩;have h1:(resV a.tmps (.cell t ty)).run P w=.ok v w:=by
   simp only[resV,Sem.run_bind,hp,NC,Result.andThen_ok,Z8]
  rw[qjJ];simp only[Sem.run_bind,h1,Result.andThen_ok];rw[df];rfl;cases h;cases h;cases h;cases h
theorem TY{nt B:Nat}{w0:World}{h0:Fz}{g:Gh}{σ:St}{a:Act}{w:World}(S:bU P nt B w0 h0 g σ a w){fn:Func}{l:List PA}{u:mQ}(h:Ej P σ fn.results.toList=some (l,u)) :
  ∃(v:Value),fF (lk σ.ax) u/\(results fn a.tmps).run P w=.ok v w/\∀(h':Fz),fJ g (lk σ.ax) u h'->qV h' l v:=by
 obtain⟨vs,hu,df,hr⟩:=Hl S fn.results.toList l u h;refine⟨if h:vs.toArray.size=1 then vs.toArray[0]else .tuple vs.toArray,hu,?_,λh' F=>?_⟩;have e:results fn a.tmps=(do let vs ← fn.results.mapM (resV a.tmps);pure (if h:vs.size=1 then vs[0]else .tuple vs)):=rfl;rw[e,qjK];simp only[Sem.run_bind,Sem.run_map];rw[df];simp only[Result.andThen_ok,Sem.run_pure]
 ·have oz := hr u h' (fun y hy => hy) F
  match l,vs,oz with
  | [],[],_=>exact⟨[],rfl,trivial⟩
  | [x],[v],oz=>exact oz.1
  | x::y::l,v::v2::vs,oz =>
   refine⟨v::v2::vs,?_,oz⟩;rw[dif_neg (by simp)]
  | [],_::_,oz=>exact oz.elim
  | [_],[],oz=>exact oz.elim
  | [_],_::_::_,oz=>exact oz.2.elim
  | _::_::_,[],oz=>exact oz.elim
  | _::_::_,[_],oz=>exact oz.2.elim
theorem Ap [dD]{h:Fz}{B:Nat}{w:World}{bx:List Nat}:∀{cs:List XC}{vs:List Value}{f:FuncId}{np n:Nat},zdk cs=some (f,np,n)→RL (xcR P h w B) cs vs→NF bx cs=true→f=dD.f∧np=dD.np∧n=(dD.bs).length∧zD bx np n=true
  | [],_,_,_,_,h1,_,_=>by cases h1
  | _::_,[],_,_,_,_,hr,_=>hr.elim
  | c::cs,v::vs,f,np,n,h1,hr,hb=>by
    cases c with
    | slf f' np' n' =>
      simp only[zdk,bM,gq]at h1;obtain⟨rfl,rfl,rfl⟩:=h1;simp only[NF,fQ]at hb;obtain⟨q1,q2,q3,_⟩:=hr.1;exact⟨q1,q2,q3,hb.1⟩
    | p q=>exact Ap (cs:=cs) h1 hr.2 hb
    | vec e s b n get=>exact Ap (cs:=cs) h1 hr.2 hb
    | mo kt vt q n F=>exact Ap (cs:=cs) h1 hr.2 hb
theorem Hm [dD]{h:Fz}{B:Nat}{w:World}{bx:List Nat}:∀{xs:List XA}{vs:List Value}{f:FuncId}{np n:Nat},XM xs=some (f,np,n)→RL (Af P h w B) xs vs→yu bx xs=true→f=dD.f∧np=dD.np∧n=(dD.bs).length∧zD bx np n=true
  | [],_,_,_,_,h1,_,_=>by cases h1
  | _::_,[],_,_,_,_,hr,_=>hr.elim
  | .d a::xs,v::vs,f,np,n,h1,hr,hb=>Hm (xs:=xs) h1 hr.2 hb
  | .box ty cs::xs,v::vs,f,np,n,h1,hr,hb=>by
    simp only[yu,fQ]at hb;simp only[XM]at h1;split at h1;rename_i y hy;simp only[bM]at h1;subst h1;obtain⟨k,C,_,_,oz⟩:=hr.1;exact Ap hy oz hb.1;exact Hm (xs:=xs) h1 hr.2 hb.2
theorem XQ{nt B:Nat}{w0:World}{h0:Fz}{g:Gh}{σ:St}{a:Act}{w:World}(S:bU P nt B w0 h0 g σ a w):∀(bs:List Nat)(np:Nat)(l:List Nat),NE σ.env np bs.length=some l→(∀k b,bs[k]? = some b→a.tmps.getD (np+k) undef=yD b)→bs=l.map g.bk
  | [],_,l,h1,_=>by simp only[Wj,NE,bM]at h1;subst h1;rfl
  | b::bs,np,l,h1,h2=>by
    simp only[qp,NE]at h1;split at h1;rename_i L l' hL yK;simp only[bM]at h1;subst h1;have e1:a.tmps.getD np undef=.pointer (some ⟨g.bk L,0,none⟩):=S.env np _ hL;have e2:=h2 0 b rfl;rw[qja,e1]at e2;have e3:g.bk L=b:=by simpa [yD]using e2
    rw[lM,e3,<- XQ S bs (np+1) l' yK λk b' hk=>by rw[show np+1+k=np+(k+1)by omega];exact h2 (k+1) b' (by simpa using hk)];cases h1
theorem zjt [dD]{nt B:Nat}{w0:World}{h0 h:Fz}{g:Gh}{σ:St}{a:Act}{w w1:World}(S:bU P nt B w0 h0 g σ a w){xs:List XA}{vs:List Value}(jE:RL (Af P h w1 B) xs vs)(Gp:yu (uN 0 xs) xs=true)
    (mO:∀k b,(dD.bs)[k]? = some b->vs[dD.np+k]? = some (yD b)) (zeN:∀t u,vs[t]? = some u->t∈uN 0 xs->a.tmps.getD t undef=u):zaM g (CG σ.env xs):=by
  intro f np ls h1;unfold CG at h1;split at h1;rename_i f' np' n hx;split at h1;rename_i l hl;simp only[bM,gq]at h1;obtain⟨rfl,rfl,rfl⟩:=h1;obtain⟨rfl,rfl,rfl,hbb⟩:=Hm hx jE Gp;exact⟨rfl,rfl,XQ S _ _ _ hl λk b hk=>zeN _ _ (mO k b hk) (CJ _ _ _ hbb k (BP.1 hk).1)⟩;cases h1;cases h1
theorem zbc [dD]{sf:lD}{nt B:Nat}{w0:World}{h0:Fz}{g:Gh}{σ:St}{a:Act}{w w1:World}{h:Fz}(S:bU P nt B w0 h0 g σ a w)(VL:zaM g sf)(hle:∀p x,Rep h p x→Rep g.h p x) :
  ∀{xs ys:List XA}{ls:List Nat}{i:Nat}{vs:List Value},NG sf (lk σ.ax) σ.env i xs=some (ys,ls)->RL (Af P h w1 B) xs vs->(∀t v,vs[t]? = some v->i+t∈uN i xs->a.tmps.getD (i+t) undef=v) ->
  RL (Af P g.h w B) ys vs/\nO w ys vs=ls.flatMap (kB g (lk σ.ax))/\∀L∈ls,isB (lk σ.ax) L
 | [],ys,ls,i,[],h1,_,_=>by
  simp only[NG,bM,gq]at h1;obtain⟨rfl,rfl⟩:=h1;exact⟨trivial,rfl,λL hL=>by simp at hL⟩
 | [],_,_,_,_::_,_,hr,_=>hr.elim
 | _::_,_,_,_,[],_,hr,_=>hr.elim
 | .d p::xs,ys,ls,i,v::vs,h1,hr,ht=>by
  simp only[NG]at h1;split at h1;rename_i qx ls' h2;simp only[bM,gq]at h1;obtain⟨rfl,rfl⟩:=h1;obtain⟨i1,i2,i3⟩:=zbc S VL hle h2 hr.2 (λt u hu hb=>by
   have:=ht (t+1) u (by simpa using hu) (by rw[show i+(t+1)=i+1+t by omega];exact hb);rw[show i+1+t=i+(t+1)by omega];exact this)
  exact⟨⟨xq hle hr.1,i1⟩,by simp only[nO,WF,Qr];exact i2,i3⟩;cases h1
 | .box ty cs::xs,ys,ls,i,v::vs,h1,hr,ht=>by
  simp only[NG]at h1;split at h1;rename_i L qx ls' hL h2;split at h1;rename_i y l ms hy;simp only[bM,gq]at h1;obtain⟨rfl,rfl⟩:=h1;obtain⟨i1,i2,i3⟩:=zbc S VL hle h2 hr.2 (λt u hu hb=>by
   have:=ht (t+1) u (by simpa using hu) (by rw[show i+(t+1)=i+1+t by omega];exact jM _ hb);rw[show i+1+t=i+(t+1)by omega];exact this)
  have hv:a.tmps.getD i undef=v:=ht 0 v rfl (by simp[uN]);obtain⟨j1,j2,j3⟩:=ziI S VL hy (S.env i _ hL);rw[hv]at j1 j2;exact⟨⟨j1,i1⟩,by simp only[nO,i2,j2,qdT],λM hM=>(dR.1 hM).elim (j3 M) (i3 M)⟩;cases h1;cases h1
def zdm [dD](P:Program)(h:Fz)(base:Nat)(w:World)(xs:List XA)(vs:List Value)(K:List PA->List XA->Prop)(e:Ending)(w':World):Prop :=
 ∃(h':Fz)(rs:List PA)(ys:List XA),K rs ys/\PS h' rs e/\RL (Af P h' w' base) ys vs/\(nO w' ys vs).Nodup /\
   (∀b∈nO w' ys vs,(b∈nO w xs vs\/w.heap.size<=b)/\h' b=none)/\ku h h'/\Hw h' w'/\(∀b o,h' b=some o->h b=some o\/w.heap.size<=b\/b∈nO w xs vs)/\zaA h (nO w xs vs) w w'
theorem zpH [dD]{G:bI}(gp:jw P G){f:FuncId}{aQ:dG}{xs:List XA}{K:List PA→List XA→Prop}{w:World}{h:Fz}{base:Nat}{vs:List Value}(hv:XN P G aQ f xs K)(jE:RL (Af P h w base) xs vs)
    (hn:(nO w xs vs).Nodup) (hK:∀b∈nO w xs vs,base<=b/\h b=none) (hw:Hw h w) (hB:base<=w.heap.size) (mO:∀k b,(dD.bs)[k]? = some b->vs[dD.np+k]? = some (yD b)) :
    Calls P f vs.toArray w (zdm P h base w xs vs K):=by
  unfold XN at hv;split at hv;rename_i fn uo;split at hv;rename_i c tq;split at hv
  · rename_i hc;simp only[fQ,VT]at hc;obtain⟨⟨⟨⟨F5,hlen⟩,Bo⟩,Gp⟩,zN0⟩:=hc;obtain⟨g0,S⟩:=zpF (P:=P) (lu F5) hlen jE hn hK hw hB (ni Bo) Gp mO;have hwp:=Nz (B:=base) (w0:=w) gp aQ c none 0 (pinned h (nO w xs vs) w) (eG c) _ (zvV P fn xs K) _ _ _ _ (λ_ h=>h) (Rnd.none _) hv S (Kp.refl _ _);refine(callsIn_wide (n:=0)).1 ?_;refine callsIn_of_wp_marks (F:=FR none) uo tq trivial (wpIn_mono (rJ hwp) ?_);have Rk:∀b,pinned h (nO w xs vs) w b=some (.fz (.deferred (some [])))->b<base:=λb hb=>by
      rcases dW (h:=h) (K:=nO w xs vs) (w:=w) b with⟨o,h1,h2,h3⟩|⟨_,h2⟩|⟨_,h2⟩
      rw [h2]at hb;simp only [bM]at hb;subst hb;obtain⟨C,ty,fr,e⟩:=h3;cases e;rw[h2]at hb;cases hb;rw [h2]at hb;obtain⟨o,_,e⟩:=dqP.1 hb;cases e
    rintro e a' w' ⟨g',σ',xX,S',kZ⟩
    have core:∀(g2:Gh)(a2:Act)(w2:World)(u:mQ)(ys:List XA)(ls:List Nat),a2.tmps=a'.tmps->bU P aQ.nt base w (pinned h (nO w xs vs) w) g2 σ' a2 w2->fF (lk σ'.ax) u->NG (CG σ'.env xs) (lk (u++σ'.ax)) σ'.env 0 xs=some (ys,ls)->lS ls=true ->
        ∃h':Fz,(∀l v,(∀KL:Fz,fJ g2 (lk σ'.ax) u KL->qV KL l v)->qV h' l v)/\RL (Af P h' w2 base) ys vs/\(nO w2 ys vs).Nodup /\
          (∀b∈nO w2 ys vs,(b∈nO w xs vs\/w.heap.size<=b)/\h' b=none)/\ku h h'/\Hw h' w2/\(∀b o,h' b=some o->h b=some o\/w.heap.size<=b\/b∈nO w xs vs)/\zaA h (nO w xs vs) w w2:=by
      intro g2 a2 w2 u ys ls ht S2 hu ho hnl;obtain⟨KL,S3,F⟩:=S2.freeze hu;have zOq:∀p x,Rep h p x->Rep KL p x:=λp x hr=>(xn (K:=nO w xs vs) (w:=w) hr).mono S3.le0;have zeN:∀t u,vs[t]? = some u->t∈uN 0 xs->a2.tmps.getD t undef=u:=λt u hu hb=>by
        rw[ht,kZ.1 t (λhd=>by
          have:=yL.1 zN0 t hb;simp at this;exact this hd)]
        have iF:=(BP.1 hu).1;rw[yB,qda (by simpa using iF)];simp[hu]
      obtain⟨o1,o2,o3⟩:=zbc S3 (zjt S3 jE Gp mO zeN) (w1:=w) zOq ho jE (λt u hu hb=>by
        rw[PK]at hb ⊢;exact zeN t u hu hb)
      let h':Fz:=λb=>match KL b with|some (.pin _)=>h b|x=>x
      have hnp:∀b o,KL b=some o->(∀x,o ≠ .pin x)->h' b=some o:=λb o hb hx=>by
        show(match KL b with|some (.pin _)=>h b|x=>x)=some o;rw[hb];cases o with|pin x=>exact(hx x rfl).elim|_=>rfl
      have hpn:∀b x,KL b=some (.pin x)->h' b=h b:=λb x hb=>by
        show(match KL b with|some (.pin _)=>h b|x=>x)=h b;rw[hb]
      have hnn:∀b,KL b=none->h' b=none:=λb hb=>by
        show(match KL b with|some (.pin _)=>h b|x=>x)=none;rw[hb]
      have zhx:∀p x,Rep KL p x->Rep h' p x:=λp x hr=>hr.mono' λb o hb ho=>hnp b o hb λx e=>by
        subst e;obtain⟨C,ty,fr,e⟩:=ho;cases e
      have uO:∀b y,pinned h (nO w xs vs) w b=some y->KL b=some y:=λb y hb=>S3.le0 b y hb;have iF:∀b,b<w.heap.size->∃o,w.heap[b]? = some o:=λb hb=>⟨_,qdL hb⟩;have Aa:=ni hnl;refine⟨h',λl v o6=>zjs zhx (o6 KL F),o1.mono λ_ _=>zdl zhx,by rw[o2];exact IL S3 Aa,λb hb=>?_,λb x hb=>?_,λb x hb=>?_,λb x hb=>?_,⟨S3.below.os,S3.below.tape,S3.below.output,S3.below.size,S3.below.drawn,λk hk hkK=>?_⟩⟩;rw [o2]at hb;obtain⟨L,hL,hb⟩:=mg.1 hb;unfold kB at hb;split at hb;rename_i o' kV;have bZ:base<=b/\KL b=none:=S3.own L o' b kV (Tu hb);refine⟨?_,hnn b bZ.2⟩;by_cases hbs:b<w.heap.size;refine .inl ?_;rcases dW (h:=h) (K:=nO w xs vs) (w:=w) b with⟨o,_,h2,_⟩|⟨h2,_⟩|⟨_,h2⟩
      have:=uO b _ h2;rw[bZ.2]at this;cases this;exact h2;obtain⟨o,ho⟩:=iF b hbs;rw[ho]at h2;have:=uO b _ h2;rw[bZ.2]at this;cases this;exact .inr omY;simp at hb;rcases dW (h:=h) (K:=nO w xs vs) (w:=w) b with⟨o,h1,h2,h3⟩|⟨h2,_⟩|⟨_,h2⟩
      rw [h1]at hb;simp only [bM]at hb;subst hb;exact hnp b _ (uO b _ h2) λx e=>by subst e;obtain⟨C,ty,fr,e⟩:=h3;cases e
      rw[(hK b h2).2]at hb;cases hb;obtain⟨o,ho⟩:=iF b (hw.lt hb);rw[ho]at h2;rw[hpn b _ (uO b _ h2)];exact hb
      · cases h3b:KL b with
        | none=>rw[hnn b h3b]at hb;cases hb
        | some y =>
          by_cases hy:∃o,y=.pin o;obtain⟨o,rfl⟩:=hy;rw[hpn b _ h3b]at hb;rcases dW (h:=h) (K:=nO w xs vs) (w:=w) b with⟨o',h1,h2,h3⟩|⟨h2,_⟩|⟨_,h2⟩
          have:=uO b _ h2;rw[h3b]at this;simp only[bM]at this;subst this;obtain⟨C,ty,fr,e⟩:=h3;cases e;rw[(hK b h2).2]at hb;cases hb;obtain⟨o1,ho1,hx1⟩:=hw b x hb;rw[ho1]at h2;have:=uO b _ h2;rw[h3b]at this;simp only[bM,WC.pin.injEq]at this;subst this;obtain⟨o2,o9,Qj⟩:=S3.hw b _ h3b;simp only[WC.ok]at Qj;subst Qj;exact⟨_,o9,hx1⟩;rw [hnp b y h3b fun x e=>hy ⟨x,e⟩]at hb;simp only[bM]at hb;subst hb;exact S3.hw b _ h3b
      · cases h3b:KL b with
        | none=>rw[hnn b h3b]at hb;cases hb
        | some y =>
          by_cases hy:∃o,y=.pin o;obtain⟨o,rfl⟩:=hy;rw[hpn b _ h3b]at hb;exact .inl hb;rw [hnp b y h3b fun x e=>hy ⟨x,e⟩]at hb;simp only[bM]at hb;subst hb;by_cases hbs:b<w.heap.size;rcases dW (h:=h) (K:=nO w xs vs) (w:=w) b with⟨o',h1,h2,h3⟩|⟨h2,_⟩|⟨_,h2⟩
          have:=uO b _ h2;rw[h3b]at this;simp only[bM]at this;subst this;exact .inl h1;exact .inr (.inr h2);obtain⟨o,ho⟩:=iF b hbs;rw[ho]at h2;have:=uO b _ h2;rw[h3b]at this;simp only[bM]at this;exact(hy ⟨_,this⟩).elim;exact .inr (.inl omY)
      rcases dW (h:=h) (K:=nO w xs vs) (w:=w) k with⟨o',h1,h2,h3⟩|⟨h2,_⟩|⟨_,h2⟩
      obtain⟨C,ty,fr,rfl⟩:=h3;rw[S3.hw.fz (uO k _ h2),hw.fz h1];exact(hkK h2).elim;obtain⟨o,ho⟩:=iF k hk;rw[ho]at h2 ⊢;obtain⟨o2,o9,Qj⟩:=S3.hw k _ (uO k _ h2);simp only[WC.ok]at Qj;subst Qj;exact o9
    have fin:WX P fn xs K σ'->LeavesInM (FR none) 0 P fn a'.tmps (zdm P h base w xs vs K) a'.defers .returning w':=by
      intro hf;obtain⟨Ds,h1,h2,h3,h4⟩:=S'.dfr;refine Ak Rk Ds g' a' w' h1 h2 h3 h4 S' λg2 a2 w2 ht S2=>?_;unfold WX at hf;split at hf;rename_i l u hl;split at hf;rename_i ys ls ho;split at hf;rename_i hnl hpm;obtain⟨v,hu,df,o6⟩:=TY S2 hl;obtain⟨h',hr,hx⟩:=core g2 a2 w2 u ys ls ht S2 hu ho hnl;refine⟨v,df,h',l,ys,hf,?_,hx⟩;unfold PS;rw[hpm];exact⟨v,rfl,hr l v o6⟩;exact hf.elim;exact hf.elim;exact hf.elim
    cases e with
    | normal=>exact fin xX
    | ret=>exact fin xX
    | exit id=>exact xX.elim
    | goto l=>exact xX.elim
    | panic ch =>
      have xX:zjq xs K ch σ':=xX;obtain⟨Ds,h1,h2,h3,h4⟩:=S'.dfr;refine zdh Rk Ds g' a' w' h1 h2 h3 (λd hd=>?_) S' λg2 a2 w2 ht S2=>?_;obtain⟨_,_,_,_,e1,_⟩:=h4 d hd;have hd:d∈a'.defers:=by rw[h2];exact uu.2 ⟨_,hd,rfl⟩
      rcases kZ.2.2.2 d hd with hd|⟨b,e2⟩
      cases hd;rw[e1]at e2;cases e2;unfold zjq at xX;split at xX;rename_i l hl;split at xX;rename_i ys ls ho;split at xX;rename_i hnl;obtain⟨h',hr,hx⟩:=core g2 a2 w2 [] ys ls ht S2 (fF.nil _) ho hnl;refine⟨h',l,ys,xX,?_,hx⟩;unfold PS;rw[zGS hl];exact xX.elim;exact xX.elim;exact xX.elim
    | outgrown=>exact xX.elim
  exact hv.elim;exact hv.elim;exact hv.elim
theorem zfK{G:bI}(gp:jw P G){f:FuncId}{C:MK}(hc:dw P f)
    (h:∀xs rs ys,(C xs).o=some (rs,ys)->∃vv aQ,XN P {G with vv:=vv} aQ f xs λl zs=>l=rs/\zs=ys):jc P f C:=by
  intro _ xs ys rs hC w h0 base vs jE mO hn hK hw hB;obtain⟨vv,aQ,hv⟩:=h xs rs ys hC;refine⟨hc,(zpH (G:={G with vv:=vv}) ⟨gp.mt,gp.fn,gp.own,gp.it,gp.cmp⟩ hv jE hn hK hw hB mO).mono ?_⟩;rintro e w' ⟨h',Qe,qx,⟨rfl,rfl⟩,r⟩;exact⟨h',r⟩
end
end Go.Pm
namespace Go.Pm
section
variable{ρ τ:Type}
theorem ae.ext{c d:ae ρ}(h:∀{A:Type}(k:ρ->Option A),c.T k=d.T k):c=d:=by
 obtain⟨T,n⟩:=c;obtain⟨T',n'⟩:=d;have : @T = @T':=by funext A k;exact h k
 subst this;rfl
def ae.bind(c:ae ρ)(f:ρ->ae τ):ae τ:=⟨λk=>c.T λr=>(f r).T k,λk=>by
 rw[c.nat,c.nat λr=>(f r).T some];cases c.T some with|none=>rfl|some r=>exact(f r).nat k⟩
def ae.mp(f:ρ->τ)(c:ae ρ):ae τ:=⟨λk=>c.T λr=>k (f r),λk=>by
 rw[c.nat,c.nat λr=>some (f r)];cases c.T some<;>rfl⟩
def ae.chk(b:Bool)(c:ae ρ):ae ρ:=⟨λk=>match b with|true=>c.T k|false=>none,λk=>by
 cases b with|true=>exact c.nat k|false=>rfl⟩
def ae.ite(b:Bool)(c d:ae ρ):ae ρ:=⟨λk=>cond b (c.T k) (d.T k),λk=>by
 cases b with|true=>exact c.nat k|false=>exact d.nat k⟩
def ae.opt:Option ρ→ae ρ|some r=>.ok r|none=>.no
theorem ae.bind_o{c:ae ρ}{f:ρ->ae τ}{y:τ}(h:(c.bind f).o=some y):∃r,c.o=some r/\(f r).o=some y:=by
 have h:c.T (λr=>(f r).T some)=some y:=h;rw[c.nat]at h;cases e:c.T some with|none=>rw[e]at h;cases h|some r=>rw[e]at h;exact⟨r,e,h⟩
theorem ae.mp_o{c:ae ρ}{f:ρ->τ}{y:τ}(h:(c.mp f).o=some y):∃r,c.o=some r/\f r=y:=by
 have h:c.T (λr=>some (f r))=some y:=h;rw[c.nat]at h;cases e:c.T some with|none=>rw[e]at h;cases h|some r=>rw[e]at h;exact⟨r,e,SH h⟩
theorem ae.chk_o{b:Bool}{c:ae ρ}{y:ρ}(h:(ae.chk b c).o=some y):b=true/\c.o=some y:=by
 cases b with|true=>exact⟨rfl,h⟩|false=>cases h
theorem ae.ok_o{x y:ρ}(h:(ae.ok x).o=some y):x=y:=SH h
theorem ae.no_o{y:ρ}(h:(ae.no:ae ρ).o=some y):False:=by cases h
theorem ae.opt_o{x:Option ρ}{y:ρ}(h:(ae.opt x).o=some y):x=some y:=by
 cases x with|none=>cases h|some x=>rw[ae.ok_o h]
end
structure XR where
  ρ:Type
  c:ae ρ
  f:ρ->aC
section
variable(P:Program)(Γ:bI)
def zpI(C:MK)(sf:lD)(args:List DV)(ob:Nat->Option AO):Option XR :=
 match kD sf ob args with
 | some (xs,ls,ms)=>some ⟨_,C xs,λ(rs,ys)=>match Gv rs with|none=>qL args ob ls ms rs ys|some _=>.no⟩
 | none=>none
def zy7(o:Oper)(e s b:Nat)(F:List PA->ae (Nat×(Nat->List PV)×List PV))(args:List DV)(ob:Nat->Option AO):Option XR :=
  match iG ob args,o.dst with
  | some (az,u),some dst=>some ⟨_,F az,λ(n,get,rs)=>match ob dst,P.info? e,gX P e with
    | none,some ie,some _=>if ie.size=s/\ie.bytes=b/\0<s/\zie get u=true/\rs.all jS=true then
          .val ((dst,true)::rd (args.flatMap (bG ob)))
            (match rs with|[]=>.cl (.vec dst)|_=>.tup (.c (.vec dst)::rs.map λv=>.c (.p v))) [(dst,.vec e s b n get)] []
        else .no
    | _,_,_=>.no⟩
  | _,_=>none
def zju(o:Oper)(e s b:Nat)(F:List PA->Nat->(Nat->List PV)->ae (Nat×(Nat->List PV)))(args:List DV)(ob:Nat->Option AO):Option XR :=
  match Le args with
    | some (ds,.one (.c (.vec L)))=>match iG ob ds,ob L with
      | some (az,[]),some (.vec e' s' b' n get)=>some ⟨_,F az n get,λ(m,get')=>if e'=e/\s'=s/\b'=b then
            .val ((L,true)::rd (ds.flatMap (bG ob))) (.cl (.vec L)) [(L,.vec e s b m get')] [L]
          else .no⟩
      | _,_=>none
    | some (ds,.one (.c (.p .nils)))=>match iG ob ds,o.dst with
      | some (az,[]),some dst=>match ob dst,P.info? e,gX P e with
        | none,some ie,some z=>match kC z with
          | some l=>some ⟨_,F az 0 λ_=>l,λ(m,get')=>if ie.size=s/\ie.bytes=b/\0<s then
                .val ((dst,true)::rd (ds.flatMap (bG ob))) (.cl (.vec dst)) [(dst,.vec e s b m get')] []
              else .no⟩
          | none=>none
        | _,_,_=>none
      | _,_=>none
    | _=>none
def XT(o:Oper)(ev:Operand->DV)(ob:Nat->Option AO):Option XR :=
  match o.op with
  | .call {callee:=.value f,args,argTypes:=_}=>match ev f with
    | .one (.c (.clo g caps))=>match Γ.mt g with|some C=>zpI C (zeY g args.size caps) (args.toList.map ev++caps.map capD) ob|none=>none
    | .one (.c (.p (.fn g first caps)))=>match Γ.mt g with
     | some C=>zpI C none (first.map (λv=>.p v)++args.toList.map ev++caps.map (λv=>.p v)) ob
     | none=>match Γ.own g with
       | .none=>match iG ob (args.toList.map ev)with
         | some (az,u)=>some ⟨_,Γ.fn g (first.map .one++az++caps.map .one),λr=>lI (args.toList.flatMap λx=>bG ob (ev x)) u r⟩
         | none=>none
       | .mkv e s b F=>match first,caps with|[],[]=>zy7 P o e s b F (args.toList.map ev) ob|_,_=>none
       | .grow e s b F=>match first,caps with|[],[]=>zju P o e s b F (args.toList.map ev) ob|_,_=>none
       | _=>none
    | .one (.c (.p (.fna g cells)))=>match iG ob (args.toList.map ev)with|some (az,u)=>some ⟨_,Γ.fn g (.agg cells::az),λr=>lI (args.toList.flatMap λx=>bG ob (ev x)) u r⟩|none=>none
    | _=>none
  | _=>none
def zjv(A:aC)(lg:List (Nat×Bool)->List Nat->List (Nat×Nat×Nat))(i:Nat)(dst:Option Nat)(σ:St):ae St :=
 match A with|.no=>.no|.val fp d u kl=>.ok ((σ.upd i dst fp d u kl).relog (lg fp kl))|.chk fp s d u kl=>.chk s.b (.ok ((σ.upd i dst fp d u kl).relog (lg fp kl)))
def NH(o:Oper)(lg:List (Nat×Bool)->List Nat->List (Nat×Nat×Nat))(i:Nat)(σ:St):ae St :=
 match XT P Γ o (fU σ.env) (lk σ.ax)with|some p=>p.c.bind λr=>zjv (p.f r) lg i o.dst σ|none=>zjv (act P Γ o (fU σ.env) (lk σ.ax)) lg i o.dst σ
def pY(nt:Nat)(ops:Array Oper):Nat→List Oper→St→ae St
  | _,[],σ=>.ok σ
  | i,o::r,σ =>
    match dH nt o.dst with
    | false=>.no
    | true =>
    match o.guard with
    | none=>(NH P Γ o (pR σ i o) i σ).bind (pY nt ops (i+1) r)
    | some (j,want) =>
      match(ops[j]?).bind (·.dst)with
      | none=>.no
      | some g =>
        match lk σ.env g with
        | some (.one (.c (.p (.bool b)))) =>
          .ite b
            (match want with|true=>(NH P Γ o (pR (σ.setT g (.bool true)) i o) i (σ.setT g (.bool true))).bind (pY nt ops (i+1) r)|false=>pY nt ops (i+1) r ((σ.setT g (.bool true)).skip o.dst))
            (match want with|true=>pY nt ops (i+1) r ((σ.setT g (.bool false)).skip o.dst)|false=>(NH P Γ o (pR (σ.setT g (.bool false)) i o) i (σ.setT g (.bool false))).bind (pY nt ops (i+1) r))
        | some (.one (.c .undef))=>pY nt ops (i+1) r (σ.skip o.dst)
        | _=>.no
def zjw(aQ:dG)(id:Nat)(ops:Array Oper)(draw:Bool)(σ:St):ae St :=
 match draw with
 | false=>(pY P Γ aQ.nt ops 0 ops.toList {σ with log:=[]}).bind λσ'=>match lk aQ.reg id with|some k=>.opt (canon P k σ')|none=>.ok σ'
 | true=>match P.follows .mixedOrders&&Ls ops&&BU ops (masks ops.toList [])with
  | true=>(pY P Γ aQ.nt ops 0 ops.toList {σ with log:=[]}).bind λσ'=>match vI (masks ops.toList []) σ'.log with
   | true=>match lk aQ.reg id with|some k=>.opt (canon P k σ')|none=>.no
   | false=>.no
  | false=>.no
def En(aQ:dG)(id:Nat)(σ:St):ae St:=match lk aQ.reg id with|some k=>.opt (canon P k σ)|none=>.ok σ
def zjx(aQ:dG)(id i:Nat)(o:Oper)(σ:St):ae (Exit×St) :=
 match o.guard,dH aQ.nt o.dst with
 | none,true=>match ze4 Γ o σ with
  | some (C,xs,ds,ls,ms)=>(C xs).bind λr=>match Gv r.1 with
   | none=>match PR i o.dst σ (qL ds (lk σ.ax) ls ms r.1 r.2)with|some s=>(En P aQ id s).mp λs=>(.normal,s)|none=>.no
   | some ch=>match PR i none σ (qL ds (lk σ.ax) ls ms r.1 r.2)with|some s=>.ok (.panic ch,s)|none=>.no
  | none=>.no
 | _,_=>.no
def zjy(ty:TypeId)(x y:Nat)(σ:St):ae (Exit×St):=match lk σ.env x with|some (.one (.agg [.p (.int k n)]))=>.ok (.panic (zoP ty k n),⟨(y,.junk)::σ.env,σ.ax,[]⟩)|_=>.no
def XU(aQ:dG)(id:Nat)(ops:Array Oper)(σ:St):ae (Exit×St) :=
 match qA ops.toList with
 | some (p1,l)=>match qA p1 with
  | some (pre,m)=>match ze3 P aQ.nt m l with
   | some (ty,x,y)=>(pY P Γ aQ.nt ops 0 pre {σ with log:=[]}).bind (zjy ty x y)
   | none=>(pY P Γ aQ.nt ops 0 p1 {σ with log:=[]}).bind (zjx P Γ aQ id p1.length l)
  | none=>.no
 | none=>.no
def zbd(aQ:dG)(r:Nat)(σ:St):ae St :=
 match lk aQ.cut r with|some k=>.opt (canon P k σ)|none=>.ok σ
def lpC(k:Keep)(step:St→ae (Exit×St)):Nat→St→ae (Exit×St)
  | 0,_=>.no
  | n+1,s=>(step s).bind λ(e,s1)=>match e with|.normal=>(ae.opt (canon P k s1)).bind (lpC k step n)|e=>.ok (e,s1)
def unC(k:Keep)(step:St→ae (Exit×St)):Nat→St→ae (Exit×St)
  | 0,_=>.no
  | n+1,σ=>(ae.opt (canon P k σ)).bind λs=>(step s).bind λ(e,s1)=>match e with|.normal=>unC k step n s1|e=>.ok (e,s1)
def rgC(k:Keep)(np:Bool)(ps:List Nat)(ah bd:St→ae (Exit×St)):List (List PA)→St→ae (Exit×St)
  | [],s=>.ok (.normal,s)
  | y::rest,s=>match qM ps y s.env with
    | some env=>(ah ⟨env,s.ax,[]⟩).bind λ(e,s1)=>match e with
      | .normal=>(bd s1).bind λ(e,s2)=>match e with
        | .normal=>(ae.opt (canon P k s2)).bind (rgC k np ps ah bd rest)
        | .ret=>(ae.opt (canon P k s2)).mp λs=>(.ret,s)
        | .exit id=>(ae.opt (canon P k s2)).mp λs=>(.exit id,s)
        | .panic ch=>match np with|true=>(ae.opt (canon P k s2)).mp λs=>(.panic ch,s)|false=>.no
        | _=>.no
      | _=>.no
    | none=>.no
def sqC(go:St→ae (Exit×St)):Exit×St→ae (Exit×St)|(.normal,s)=>go s|r=>.ok r
def bkC(id:Nat):Exit×St→Exit×St
  | (.exit i,s)=>match Nat.beq i id with|true=>(.normal,s)|false=>(.exit i,s)
  | r=>r
def scC:Exit×St→ae (Exit×St)|(.goto _,_)=>.no|r=>.ok r
variable(N:Nat)
def vcC(aQ:dG):Code→St→ae (Exit×St)
  | .skip,σ=>.ok (.normal,σ)
  | .region id ops draw,σ=>match aQ.pan.contains id && !draw with|false=>(zjw P Γ aQ id ops draw σ).mp λs=>(.normal,s)|true=>XU P Γ aQ id ops σ
  | .seq a b,σ=>(vcC aQ a σ).bind (sqC λs=>(zbd P aQ (jQ b) s).bind (vcC aQ b))
  | .cond c a b,σ=>match fU σ.env c with|.one (.c (.p (.bool t)))=>.ite t (vcC aQ a (yf σ c true)) (vcC aQ b (yf σ c false))|_=>.no
  | .block id b,σ=>(vcC aQ b σ).mp (bkC id)
  | .loop b,σ=>match lk aQ.head (jQ b)with
    | some k=>(ae.opt (canon P k σ)).bind (lpC P k (vcC aQ b) N)
    | none=>match lk aQ.unr (jQ b)with|some (n,k)=>unC P k (vcC aQ b) n σ|none=>.no
  | .rangeFunc f ps assign body,σ=>match lk aQ.head (zay assign body)with
    | some k=>match canon P k σ,nR k.tmps (ps.toList++(eG assign++eG body))&&ps.toList.all (λp=>Nat.blt p aQ.nt)with
      | some s,true=>match fU s.env f with|.one (.c (.p (.fn gf [] caps)))=>(Γ.it gf (caps.map .one)).bind λys=>rgC P k (nR [IC] (eG assign++eG body)) ps.toList (vcC aQ assign) (vcC aQ body) ys s|_=>.no
      | _,_=>.no
    | none=>.no
  | .exit id,σ=>.ok (.exit id,σ)
  | .scope b,σ=>(vcC aQ b σ).bind scC
  | .label _,σ=>.ok (.normal,σ)
  | .ret,σ=>.ok (.ret,σ)
  | _,_=>.no
end
section
variable{P:Program}{Γ:bI}
theorem zdn{C:MK}{sf:lD}{args:List DV}{ob:Nat->Option AO}{p:XR}{r:p.ρ}(h:zpI C sf args ob=some p)(hr:p.c.o=some r):uA C sf args ob=p.f r:=by
 unfold zpI at h;unfold uA;split at h;rename_i xs ls ms hx;cases h;obtain⟨rs,ys⟩:=r;simp only at hr ⊢;rw[hx];simp only[hr];cases Gv rs<;>rfl;cases h
theorem zpJ{o:Oper}{e s b:Nat}{F:List PA→ae (Nat×(Nat→List PV)×List PV)}{args:List DV}{ob:Nat→Option AO}{p:XR}{r:p.ρ}(h:zy7 P o e s b F args ob=some p)(hr:p.c.o=some r) :
  kL P Γ o (.mkv e s b F) args ob=p.f r:=by
 unfold zy7 at h;unfold kL;split at h;rename_i az u dst hx hd;cases h;obtain⟨n,get,rs⟩:=r;simp only at hr ⊢;rw[hx,hd];simp only[hr];cases ob dst<;>cases P.info? e<;>cases gX P e<;>rfl;cases h
theorem zjz{o:Oper}{e s b:Nat}{F:List PA→Nat→(Nat→List PV)→ae (Nat×(Nat→List PV))}{args:List DV}{ob:Nat→Option AO}{p:XR}{r:p.ρ}(h:zju P o e s b F args ob=some p)(hr:p.c.o=some r) :
  kL P Γ o (.grow e s b F) args ob=p.f r:=by
 unfold zju at h;unfold kL;split at h;rename_i ds L hl;split at h;rename_i az e' s' b' n get ha hL;cases h;obtain⟨m,get'⟩:=r;simp only at hr ⊢;rw[hl];simp only[ha,hL,hr];cases h;rename_i ds hl;split at h;rename_i az dst ha hd;split at h;rename_i ie z h1 h2 h3;split at h;rename_i l h4;cases h;obtain⟨m,get'⟩:=r;simp only at hr ⊢;rw[hl];simp only[ha,hd,h1,h2,h3,h4,hr];cases h;cases h;cases h;cases h
theorem zpK{o:Oper}{ev:Operand->DV}{ob:Nat->Option AO}{p:XR}{r:p.ρ}(h:XT P Γ o ev ob=some p)(hr:p.c.o=some r):act P Γ o ev ob=p.f r:=by
 unfold XT at h;split at h;rename_i f args ats aY;simp only[act,aY,aCl];split at h;rename_i g caps hf;simp only[hf];split at h;rename_i C hC;simp only[hC];exact zdn h hr;cases h;rename_i g first caps hf
 simp only[hf];split at h;rename_i C hC;simp only[hC];exact zdn h hr;rename_i hC;simp only[hC];split at h;rename_i hk;simp only[hk,Gq.on];split at h;rename_i az u hz;cases h;simp only at hr ⊢;rw[hz];simp only[hr];cases h;rename_i e s b F hk;simp only[hk,Gq.on];split at h;exact zpJ h hr;cases h;rename_i e s b F hk;simp only[hk,Gq.on];split at h;exact zjz h hr;cases h;cases h;rename_i g cells hf;simp only[hf];split at h;rename_i az u hz;cases h;simp only at hr ⊢;rw[hz];simp only[hr];cases h;cases h;cases h
theorem zdo{A:aC}{lg:List (Nat×Bool)->List Nat->List (Nat×Nat×Nat)}{i:Nat}{dst:Option Nat}{σ s:St}{K:St->Prop}(h:(zjv A lg i dst σ).o=some s)(hK:K s):nY A lg i dst K σ:=by
 cases A with
 | no=>exact(ae.no_o h).elim
 | val fp d u kl=>have:=ae.ok_o h;subst this;exact hK
 | chk fp c d u kl =>
  obtain⟨h1,h2⟩:=ae.chk_o h;have:=ae.ok_o h2;subst this;exact⟨c.h h1,hK⟩
theorem zdp{o:Oper}{lg:List (Nat×Bool)->List Nat->List (Nat×Nat×Nat)}{i:Nat}{σ s:St}{K:St->Prop}(h:(NH P Γ o lg i σ).o=some s)(hK:K s):nY (act P Γ o (fU σ.env) (lk σ.ax)) lg i o.dst K σ:=by
 unfold NH at h;split at h;rename_i p hp;obtain⟨r,h1,h2⟩:=ae.bind_o h;rw[zpK hp h1];exact zdo h2 hK;exact zdo h hK
theorem qY{nt:Nat}{ops:Array Oper}{K:St→Prop}:∀(l:List Oper)(i:Nat)(σ s:St),(pY P Γ nt ops i l σ).o=some s→K s→kE P Γ nt ops i l K σ
  | [],i,σ,s,h,hK=>by have:=ae.ok_o h;subst this;exact hK
  | o::r,i,σ,s,h,hK=>by
    have one:∀(lg:List (Nat×Bool)->List Nat->List (Nat×Nat×Nat))(τ:St),((NH P Γ o lg i τ).bind (pY P Γ nt ops (i+1) r)).o=some s->nY (act P Γ o (fU τ.env) (lk τ.ax)) lg i o.dst (kE P Γ nt ops (i+1) r K) τ:=by
      intro lg τ h;obtain⟨s1,h1,h2⟩:=ae.bind_o h;exact zdp h1 (qY r _ _ _ h2 hK)
    simp only[pY]at h;simp only[kE];split at h;exact(ae.no_o h).elim;rename_i hd;simp only[hd];split at h;rename_i hg;simp only[hg];exact one _ _ h;rename_i j want hg;simp only[hg];split at h;exact(ae.no_o h).elim;rename_i g hg2;simp only[hg2];split at h;rename_i b hb;simp only[hb];refine DF (λe=>?_) λe=>?_
    · subst e;cases want with|true=>exact one _ _ h|false=>exact qY r _ _ _ h hK
    · subst e;cases want with|true=>exact qY r _ _ _ h hK|false=>exact one _ _ h
    rename_i hb;simp only[hb];exact qY r _ _ _ h hK;exact(ae.no_o h).elim
theorem zdq{aQ:dG}{id:Nat}{ops:Array Oper}{draw:Bool}{σ s:St}{K:St->Prop}(h:(zjw P Γ aQ id ops draw σ).o=some s)(hK:K s):Qx P Γ aQ id ops draw K σ:=by
 unfold zjw at h;unfold Qx;cases draw with
 | false =>
  obtain⟨s1,h1,h2⟩:=ae.bind_o h;refine qY _ _ _ _ h1 ?_;split at h2;rename_i k hk;rw[hk];simp only[ae.opt_o h2];exact hK;rename_i hk;rw[hk];have:=ae.ok_o h2;subst this;exact hK
 | true =>
  simp only at h ⊢;split at h;rename_i hc;rw[hc];obtain⟨s1,h1,h2⟩:=ae.bind_o h;refine qY _ _ _ _ h1 ?_;split at h2;rename_i hl;rw[hl];split at h2;rename_i k hk;rw[hk];simp only[ae.opt_o h2];exact hK;exact(ae.no_o h2).elim;exact(ae.no_o h2).elim;exact(ae.no_o h).elim
theorem XV{aQ:dG}{id:Nat}{σ s:St}{K:St->Prop}(h:(En P aQ id σ).o=some s)(hK:K s):ze2 P aQ id K σ:=by
 unfold En at h;unfold ze2;split at h;rename_i k hk;rw[hk];simp only[ae.opt_o h];exact hK;rename_i hk;rw[hk];cases ae.ok_o h;exact hK
theorem zjA{aQ:dG}{id:Nat}{ops:Array Oper}{σ s:St}{e:Exit}{K:Exit->St->Prop}(h:(XU P Γ aQ id ops σ).o=some (e,s))(hK:K e s):Lt P Γ aQ id ops K σ:=by
 unfold XU at h;unfold Lt;split at h
 rotate_left
 exact(ae.no_o h).elim;rename_i p1 l h1;rw[h1];simp only;split at h
 rotate_left
 exact(ae.no_o h).elim;rename_i pre m h2;rw[h2];simp only;split at h;rename_i ty x y h3;rw[h3];simp only;obtain⟨s1,a1,a2⟩:=ae.bind_o h;refine qY _ _ _ _ a1 ?_;unfold zjy at a2;unfold zyA;split at a2;rename_i k n hx;rw[hx];cases ae.ok_o a2;exact hK;exact(ae.no_o a2).elim
 ·rename_i h3;rw[h3];simp only;obtain⟨s1,a1,a2⟩:=ae.bind_o h;refine qY _ _ _ _ a1 ?_;unfold zjx at a2;unfold zaw;split at a2
  rotate_left
  exact(ae.no_o a2).elim;rename_i g1 g2;rw[g1,g2];simp only;split at a2
  rotate_left
  exact(ae.no_o a2).elim;rename_i C xs ds ls ms hm;rw[hm];simp only;obtain⟨⟨rs,ys⟩,b1,b2⟩:=ae.bind_o a2;rw[b1];simp only at b2 ⊢;split at b2;rename_i hp;rw[hp];simp only;split at b2;rename_i s2 hu;rw[hu];simp only;obtain⟨s3,c1,c2⟩:=ae.mp_o b2;cases c2;exact XV c1 hK;exact(ae.no_o b2).elim;rename_i ch hp;rw[hp];simp only;split at b2;rename_i s2 hu;rw[hu];simp only;cases ae.ok_o b2;exact hK;exact(ae.no_o b2).elim
theorem zpL{aQ:dG}{r:Nat}{σ s:St}{K:St->Prop}(h:(zbd P aQ r σ).o=some s)(hK:K s):zoW P aQ r K σ:=by
 unfold zbd at h;unfold zoW;split at h;rename_i k hk;rw[hk];simp only[ae.opt_o h];exact hK;rename_i hk;rw[hk];have:=ae.ok_o h;subst this;exact hK
theorem TZ{N:Nat}{aQ:dG}:∀(c:Code)(σ s:St)(e:Exit)(K:Exit->St->Prop),(vcC P Γ N aQ c σ).o=some (e,s)->K e s->vc P Γ aQ c K σ:=by
 intro c
 induction c with
 | skip=>intro σ s e K h hK;cases ae.ok_o h;exact hK
 | region id ops draw =>
  intro σ s e K h hK;simp only[vcC]at h;simp only[vc];split at h;rename_i hp;rw[hp];obtain⟨s1,h1,h2⟩:=ae.mp_o h;cases h2;exact zdq h1 hK;rename_i hp;rw[hp];exact zjA h hK
 | seq a b iha VZ =>
  intro σ s e K h hK;obtain⟨⟨e1,s1⟩,h1,h2⟩:=ae.bind_o h;refine iha σ s1 e1 _ h1 ?_;cases e1 with
  | normal =>
   obtain⟨s2,h3,h4⟩:=ae.bind_o h2;exact zpL h3 (VZ _ _ _ _ h4 hK)
  | _=>cases ae.ok_o h2;exact hK
 | cond c a b iha VZ =>
  intro σ s e K h hK;simp only[vcC]at h;simp only[vc];split at h;rename_i t ht;simp only[ht];refine DF (λe1=>?_) λe1=>?_;subst e1;exact iha _ _ _ _ h hK;subst e1;exact VZ _ _ _ _ h hK;exact(ae.no_o h).elim
 | block id b ih =>
  intro σ s e K h hK;obtain⟨⟨e1,s1⟩,h1,h2⟩:=ae.mp_o h;refine ih σ s1 e1 _ h1 ?_;cases e1 with
  | exit j =>
   simp only[bkC]at h2;simp only[zax];split at h2;rename_i hj;rw[hj];cases h2;exact hK;rename_i hj;rw[hj];cases h2;exact hK
  | _=>cases h2;exact hK
 | loop b ih =>
  intro σ s e K h hK;simp only[vcC]at h;simp only[vc];split at h;rename_i k hk;obtain⟨s1,h1,h2⟩:=ae.bind_o h;simp only[hk,ae.opt_o h1];intro X hX;have key:∀(n:Nat)(s1:St),(lpC P k (vcC P Γ N aQ b) n s1).o=some (e,s)->X s1:=by
   intro n
   induction n with
   | zero=>intro s1 h;exact(ae.no_o h).elim
   | succ n ihn =>
    intro s1 h;obtain⟨⟨e1,s2⟩,h1,h2⟩:=ae.bind_o h;refine hX s1 (ih _ _ _ _ h1 ?_);cases e1 with
    | normal =>
     obtain⟨s3,h3,h4⟩:=ae.bind_o h2;simp only[zih,hk,ae.opt_o h3];exact ihn s3 h4
    | _=>cases ae.ok_o h2;exact hK
  exact key N s1 h2;rename_i hk;split at h;rename_i n k hn;simp only[hk,hn];have key:∀(n:Nat)(σ:St),(unC P k (vcC P Γ N aQ b) n σ).o=some (e,s)->ze6 P k (vc P Γ aQ b) n K σ:=by
   intro n
   induction n with
   | zero=>intro s1 h;exact(ae.no_o h).elim
   | succ n ihn =>
    intro s1 h;obtain⟨s0,h0,h⟩:=ae.bind_o h;obtain⟨⟨e1,s2⟩,h1,h2⟩:=ae.bind_o h;simp only[ze6,ae.opt_o h0];refine ih _ _ _ _ h1 ?_;cases e1 with|normal=>exact ihn _ h2|_=>cases ae.ok_o h2;exact hK
  exact key n σ h;exact(ae.no_o h).elim
 | rangeFunc f ps ah bd iha VZ =>
  intro σ s e K h hK;simp only[vcC]at h;simp only[vc];split at h;rename_i k hk;split at h;rename_i s1 hs hd;simp only[hk,hs,hd];split at h;rename_i gf caps hf;obtain⟨ys,h1,h2⟩:=ae.bind_o h;simp only[hf,h1];intro X hX0 hX1;have key:∀(ys:List (List PA))(s1:St),(rgC P k (nR [IC] (eG ah++eG bd)) ps.toList (vcC P Γ N aQ ah) (vcC P Γ N aQ bd) ys s1).o=some (e,s)->X ys s1:=by
   intro ys
   induction ys with
   | nil=>intro s1 h;cases ae.ok_o h;exact hX0 _ hK
   | cons y rest ihr =>
    intro s1 h;simp only[rgC]at h;refine hX1 y rest s1 ?_;split at h
    ·rename_i env zco;simp only[zco];obtain⟨⟨e1,s2⟩,h1,h2⟩:=ae.bind_o h;refine iha _ _ _ _ h1 ?_;cases e1 with
     | normal =>
      obtain⟨⟨e2,s3⟩,h3,h4⟩:=ae.bind_o h2;refine VZ _ _ _ _ h3 ?_;cases e2 with
      | normal =>
       obtain⟨s4,h5,h6⟩:=ae.bind_o h4;simp only[uG,ae.opt_o h5];exact ihr _ h6
      | ret =>
       obtain⟨s4,h5,h6⟩:=ae.mp_o h4;cases h6;simp only[uG,ae.opt_o h5];exact hK
      | exit id =>
       obtain⟨s4,h5,h6⟩:=ae.mp_o h4;cases h6;simp only[uG,ae.opt_o h5];exact hK
      | panic ch =>
       simp only at h4;split at h4;rename_i hnp;obtain⟨s4,h5,h6⟩:=ae.mp_o h4;cases h6;simp only[uG,ae.opt_o h5,hnp];exact hK;exact(ae.no_o h4).elim
      | _=>exact(ae.no_o h4).elim
     | _=>exact(ae.no_o h2).elim
    exact(ae.no_o h).elim
  exact key ys s1 h2;exact(ae.no_o h).elim;exact(ae.no_o h).elim;exact(ae.no_o h).elim
 | exit id=>intro σ s e K h hK;cases ae.ok_o h;exact hK
 | scope b ih =>
  intro σ s e K h hK;obtain⟨⟨e1,s1⟩,h1,h2⟩:=ae.bind_o h;refine ih σ s1 e1 _ h1 ?_;cases e1 with|goto l=>exact(ae.no_o h2).elim|_=>cases ae.ok_o h2;exact hK
 | label l=>intro σ s e K h hK;cases ae.ok_o h;exact hK
 | ret=>intro σ s e K h hK;cases ae.ok_o h;exact hK
 | goto l=>intro σ s e K h hK;exact(ae.no_o h).elim
 | refuse s=>intro σ s e K h hK;exact(ae.no_o h).elim
end
end Go.Pm
namespace Go.Pm
section
variable(P:Program)(Γ:bI){A:Type}
def aU(b:Bool)(x:Option A):Option A:=match b with|true=>x|false=>none
def zdr(a:aC)(lg:List (Nat×Bool)->List Nat->List (Nat×Nat×Nat))(i:Nat)(dst:Option Nat)(K:St->Option A)(σ:St):Option A :=
 match a with|.no=>none|.val fp d u kl=>K ((σ.upd i dst fp d u kl).relog (lg fp kl))|.chk fp s d u kl=>aU s.b (K ((σ.upd i dst fp d u kl).relog (lg fp kl)))
def zbe(o:Oper)(lg:List (Nat×Bool)->List Nat->List (Nat×Nat×Nat))(i:Nat)(K:St->Option A)(σ:St):Option A :=
 match XT P Γ o (fU σ.env) (lk σ.ax)with|some p=>p.c.T λr=>zdr (p.f r) lg i o.dst K σ|none=>zdr (act P Γ o (fU σ.env) (lk σ.ax)) lg i o.dst K σ
def opsT(nt:Nat)(ops:Array Oper)(K:St→Option A):Nat→List Oper→St→Option A
  | _,[],σ=>K σ
  | i,o::r,σ =>
    match dH nt o.dst with
    | false=>none
    | true =>
    match o.guard with
    | none=>zbe P Γ o (pR σ i o) i (opsT nt ops K (i+1) r) σ
    | some (j,want) =>
      match(ops[j]?).bind (·.dst)with
      | none=>none
      | some g =>
        match lk σ.env g with
        | some (.one (.c (.p (.bool b)))) =>
          cond b
            (match want with|true=>zbe P Γ o (pR (σ.setT g (.bool true)) i o) i (opsT nt ops K (i+1) r) (σ.setT g (.bool true))|false=>opsT nt ops K (i+1) r ((σ.setT g (.bool true)).skip o.dst))
            (match want with|true=>opsT nt ops K (i+1) r ((σ.setT g (.bool false)).skip o.dst)|false=>zbe P Γ o (pR (σ.setT g (.bool false)) i o) i (opsT nt ops K (i+1) r) (σ.setT g (.bool false)))
        | some (.one (.c .undef))=>opsT nt ops K (i+1) r (σ.skip o.dst)
        | _=>none
def Eo(k:Keep)(K:St->Option A)(σ:St):Option A:=match canon P k σ with|some s=>K s|none=>none
def XW(aQ:dG)(id:Nat)(ops:Array Oper)(draw:Bool)(K:St->Option A)(σ:St):Option A:=match draw with
 | false=>match lk aQ.reg id with|some k=>Eo P k K σ|none=>K σ
 | true=>match vI (masks ops.toList []) σ.log with
  | true=>match lk aQ.reg id with|some k=>Eo P k K σ|none=>none
  | false=>none
def zpM(aQ:dG)(id:Nat)(ops:Array Oper)(draw:Bool)(K:St->Option A)(σ:St):Option A :=
 match draw with
 | false=>opsT P Γ aQ.nt ops (XW P aQ id ops false K) 0 ops.toList {σ with log:=[]}
 | true=>match P.follows .mixedOrders&&Ls ops&&BU ops (masks ops.toList [])with
  | true=>opsT P Γ aQ.nt ops (XW P aQ id ops true K) 0 ops.toList {σ with log:=[]}
  | false=>none
def lastT(aQ:dG)(id i:Nat)(o:Oper)(K:Exit->St->Option A)(σ:St):Option A :=
 match o.guard,dH aQ.nt o.dst with
 | none,true=>match ze4 Γ o σ with
  | some (C,xs,ds,ls,ms)=>(C xs).T λr=>match Gv r.1 with
   | none=>match PR i o.dst σ (qL ds (lk σ.ax) ls ms r.1 r.2)with|some s=>XW P aQ id #[] false (K .normal) s|none=>none
   | some ch=>match PR i none σ (qL ds (lk σ.ax) ls ms r.1 r.2)with|some s=>K (.panic ch) s|none=>none
  | none=>none
 | _,_=>none
def zvW(ty:TypeId)(x y:Nat)(K:Exit->St->Option A)(σ:St):Option A:=match lk σ.env x with|some (.one (.agg [.p (.int k n)]))=>K (.panic (zoP ty k n)) ⟨(y,.junk)::σ.env,σ.ax,[]⟩|_=>none
def zjC(aQ:dG)(id:Nat)(ops:Array Oper)(K:Exit->St->Option A)(σ:St):Option A :=
 match qA ops.toList with
 | some (p1,l)=>match qA p1 with
  | some (pre,m)=>match ze3 P aQ.nt m l with
   | some (ty,x,y)=>opsT P Γ aQ.nt ops (zvW ty x y K) 0 pre {σ with log:=[]}
   | none=>opsT P Γ aQ.nt ops (lastT P Γ aQ id p1.length l K) 0 p1 {σ with log:=[]}
  | none=>none
 | none=>none
def zfL(aQ:dG)(r:Nat)(K:St->Option A)(σ:St):Option A:=match lk aQ.cut r with|some k=>Eo P k K σ|none=>K σ
abbrev EK(A:Type):=Exit->St->Option A
def bkT(id:Nat)(K:EK A):EK A:=λe s=>match e with
 | .exit i=>match Nat.beq i id with|true=>K .normal s|false=>K (.exit i) s
 | e=>K e s
def scT(K:EK A):EK A:=λe s=>match e with|.goto _=>none|e=>K e s
def lpK(k:Keep)(go:St->Option A)(K:EK A):EK A:=λe s=>match e with|.normal=>Eo P k go s|e=>K e s
def lpT(k:Keep)(step:EK A→St→Option A)(K:EK A):Nat→St→Option A|0,_=>none|n+1,s=>step (lpK P k (lpT k step K n) K) s
def unT(k:Keep)(step:EK A→St→Option A)(K:EK A):Nat→St→Option A
  | 0,_=>none
  | n+1,σ=>Eo P k (step λe s=>match e with|.normal=>unT k step K n s|e=>K e s) σ
def rgK(k:Keep)(np:Bool)(go:St->Option A)(K:EK A):EK A:=λe s=>match e with
 | .normal=>Eo P k go s
 | .ret=>Eo P k (K .ret) s
 | .exit id=>Eo P k (K (.exit id)) s
 | .panic ch=>match np with|true=>Eo P k (K (.panic ch)) s|false=>none
 | _=>none
def asK(bd:EK A->St->Option A)(K:EK A):EK A:=λe s=>match e with|.normal=>bd K s|_=>none
def rgT(k:Keep)(np:Bool)(ps:List Nat)(ah bd:EK A→St→Option A)(K:EK A):List (List PA)→St→Option A
  | [],s=>K .normal s
  | y::rest,s=>match qM ps y s.env with|some env=>ah (asK bd (rgK P k np (rgT k np ps ah bd K rest) K)) ⟨env,s.ax,[]⟩|none=>none
def sqT(aQ:dG)(id:Nat)(go:EK A->St->Option A)(K:EK A):EK A:=λe s=>match e with|.normal=>zfL P aQ id (go K) s|e=>K e s
variable(N:Nat)
def yF(aQ:dG):Code→EK A→St→Option A
  | .skip,K,σ=>K .normal σ
  | .region id ops draw,K,σ=>match aQ.pan.contains id && !draw with|false=>zpM P Γ aQ id ops draw (K .normal) σ|true=>zjC P Γ aQ id ops K σ
  | .seq a b,K,σ=>yF aQ a (sqT P aQ (jQ b) (yF aQ b) K) σ
  | .cond c a b,K,σ=>match fU σ.env c with|.one (.c (.p (.bool t)))=>cond t (yF aQ a K (yf σ c true)) (yF aQ b K (yf σ c false))|_=>none
  | .block id b,K,σ=>yF aQ b (bkT id K) σ
  | .loop b,K,σ=>match lk aQ.head (jQ b)with
    | some k=>Eo P k (lpT P k (yF aQ b) K N) σ
    | none=>match lk aQ.unr (jQ b)with|some (n,k)=>unT P k (yF aQ b) K n σ|none=>none
  | .rangeFunc f ps assign body,K,σ=>match lk aQ.head (zay assign body)with
    | some k=>match canon P k σ,nR k.tmps (ps.toList++(eG assign++eG body))&&ps.toList.all (λp=>Nat.blt p aQ.nt)with
      | some s,true=>match fU s.env f with|.one (.c (.p (.fn gf [] caps)))=>(Γ.it gf (caps.map .one)).T λys=>rgT P k (nR [IC] (eG assign++eG body)) ps.toList (yF aQ assign) (yF aQ body) K ys s|_=>none
      | _,_=>none
    | none=>none
  | .exit id,K,σ=>K (.exit id) σ
  | .scope b,K,σ=>yF aQ b (scT K) σ
  | .label _,K,σ=>K .normal σ
  | .ret,K,σ=>K .ret σ
  | _,_,_=>none
end
section
variable{P:Program}{Γ:bI}{A:Type}{N:Nat}
theorem zds{o:Oper}{lg:List (Nat×Bool)->List Nat->List (Nat×Nat×Nat)}{i:Nat}{K:St->Option A}{σ:St}:zbe P Γ o lg i K σ=(NH P Γ o lg i σ).T K:=by
 have key:∀a:aC,zdr a lg i o.dst K σ=(zjv a lg i o.dst σ).T K:=by
  intro a;cases a with|no=>rfl|val=>rfl|chk fp s d u kl=>unfold zdr zjv aU;cases hs:s.b<;>simp only[hs,ae.chk,ae.ok]
 unfold zbe NH;cases XT P Γ o (fU σ.env) (lk σ.ax)with
 | none=>exact key _
 | some p =>
  show p.c.T _=p.c.T _;congr 1;funext r;exact key _
theorem xu{nt:Nat}{ops:Array Oper}{K:St→Option A}:∀(l:List Oper)(i:Nat)(σ:St),opsT P Γ nt ops K i l σ=(pY P Γ nt ops i l σ).T K
  | [],_,_=>rfl
  | o::r,i,σ=>by
    have one:∀(lg:List (Nat×Bool)->List Nat->List (Nat×Nat×Nat))(τ:St),zbe P Γ o lg i (opsT P Γ nt ops K (i+1) r) τ=((NH P Γ o lg i τ).bind (pY P Γ nt ops (i+1) r)).T K:=λlg τ=>by
      rw[zds];show(NH P Γ o lg i τ).T _=(NH P Γ o lg i τ).T _;congr 1;funext s;exact xu r _ s
    have rest:∀σ:St,opsT P Γ nt ops K (i+1) r σ=(pY P Γ nt ops (i+1) r σ).T K:=λσ=>xu r _ σ;simp only[opsT,pY];cases dH nt o.dst with
    | false=>rfl
    | true =>
      simp only;cases o.guard with
      | none=>exact one _ _
      | some x =>
        obtain⟨j,want⟩:=x;simp only;cases(ops[j]?).bind (·.dst)with
        | none=>rfl
        | some g =>
          simp only;cases lk σ.env g with
          | none=>rfl
          | some d=>cases d with
            | tup _=>rfl
            | one d=>cases d with
              | agg _=>rfl
              | c x=>cases x with
                | undef=>exact rest _
                | p v=>cases v with
                  | bool b=>cases b<;>cases want<;>first|exact one _ _|exact rest _
                  | _=>rfl
                | _=>rfl
theorem nD{k:Keep}{K:St->Option A}{σ:St}:Eo P k K σ=(ae.opt (canon P k σ)).T K:=by
 unfold Eo;cases canon P k σ<;>rfl
theorem zdt{aQ:dG}{id:Nat}{ops:Array Oper}{draw:Bool}{K:St->Option A}{σ:St}:zpM P Γ aQ id ops draw K σ=(zjw P Γ aQ id ops draw σ).T K:=by
 cases draw with
 | false =>
  show opsT P Γ aQ.nt ops _ 0 ops.toList _=(pY P Γ aQ.nt ops 0 ops.toList _).T _;rw[xu];congr 1;funext s;simp only[XW];cases lk aQ.reg id with|none=>rfl|some k=>exact nD
 | true =>
  simp only[zpM,zjw];cases P.follows .mixedOrders&&Ls ops&&BU ops (masks ops.toList [])with
  | false=>rfl
  | true =>
   simp only;rw[xu];show _=(pY P Γ aQ.nt ops 0 ops.toList _).T _;congr 1;funext s;show _=((match vI (masks ops.toList []) s.log with|true=>(match lk aQ.reg id with|some k=>ae.opt (canon P k s)|none=>.no)|false=>.no):ae St).T K;simp only[XW];cases vI (masks ops.toList []) s.log with
   | false=>rfl
   | true =>
    cases lk aQ.reg id with|none=>rfl|some k=>exact nD
theorem zjD{aQ:dG}{id:Nat}{ops:Array Oper}{K:Exit->St->Option A}{σ:St}:zjC P Γ aQ id ops K σ=(XU P Γ aQ id ops σ).T λr=>K r.1 r.2:=by
 unfold zjC XU;cases qA ops.toList with
 | none=>rfl
 | some x =>
  obtain⟨p1,l⟩:=x;simp only;cases qA p1 with
  | none=>rfl
  | some x =>
   obtain⟨pre,m⟩:=x;simp only;cases ze3 P aQ.nt m l with
   | some x =>
    obtain⟨ty,x,y⟩:=x;simp only;rw[xu];show(pY P Γ aQ.nt ops 0 pre _).T _=(pY P Γ aQ.nt ops 0 pre _).T _;congr 1;funext s;unfold zvW zjy;cases lk s.env x with
    | none=>rfl
    | some d=>cases d with
     | tup _=>rfl
     | one d=>cases d with
      | c _=>rfl
      | agg l=>match l with
       | []=>rfl
       | [y]=>cases y with|p v=>cases v<;>rfl|_=>rfl
       | y::_::_=>cases y with|p v=>cases v<;>rfl|_=>rfl
   | none =>
    simp only;rw[xu];show(pY P Γ aQ.nt ops 0 p1 _).T _=(pY P Γ aQ.nt ops 0 p1 _).T _;congr 1;funext s;unfold lastT zjx;cases l.guard with
    | some x=>rfl
    | none =>
    cases dH aQ.nt l.dst with
    | false=>rfl
    | true =>
    simp only;cases ze4 Γ l s with
    | none=>rfl
    | some x =>
     obtain⟨C,xs,ds,ls,ms⟩:=x;show(C xs).T _=(C xs).T _;congr 1;funext r;simp only;cases Gv r.1 with
     | none =>
      simp only;cases PR p1.length l.dst s (qL ds (lk s.ax) ls ms r.1 r.2)with
      | none=>rfl
      | some s2 =>
       show XW P aQ id #[] false (K .normal) s2=(En P aQ id s2).T λs=>K .normal s;simp only[XW,En];cases lk aQ.reg id with|none=>rfl|some k=>exact nD
     | some ch =>
      simp only;cases PR p1.length none s (qL ds (lk s.ax) ls ms r.1 r.2)<;>rfl
theorem zdu{aQ:dG}{r:Nat}{K:St->Option A}{σ:St}:zfL P aQ r K σ=(zbd P aQ r σ).T K:=by
 unfold zfL zbd;cases lk aQ.cut r with|none=>rfl|some k=>exact nD
theorem NI{aQ:dG}:∀(c:Code)(K:EK A)(σ:St),yF P Γ N aQ c K σ=(vcC P Γ N aQ c σ).T λr=>K r.1 r.2:=by
 intro c
 induction c with
 | skip=>intro K σ;rfl
 | region id ops draw =>
  intro K σ;simp only[yF,vcC];cases aQ.pan.contains id && !draw with|false=>exact zdt|true=>exact zjD
 | seq a b iha VZ =>
  intro K σ;rw[yF,iha];show(vcC P Γ N aQ a σ).T _=(vcC P Γ N aQ a σ).T _;congr 1;funext r;obtain⟨e,s⟩:=r;cases e with
  | normal =>
   show zfL P aQ (jQ b) (yF P Γ N aQ b K) s=(zbd P aQ (jQ b) s).T _;rw[zdu];congr 1;funext s;exact VZ _ _
  | _=>rfl
 | cond c a b iha VZ =>
  intro K σ;simp only[yF,vcC];cases fU σ.env c with
  | tup _=>rfl
  | one d=>cases d with
   | agg _=>rfl
   | c x=>cases x with
    | p v=>cases v with
     | bool t=>cases t with|true=>exact iha _ _|false=>exact VZ _ _
     | _=>rfl
    | _=>rfl
 | block id b ih =>
  intro K σ;rw[yF,ih];show(vcC P Γ N aQ b σ).T _=(vcC P Γ N aQ b σ).T _;congr 1;funext r;obtain⟨e,s⟩:=r;cases e with|exit j=>simp only[bkT,bkC];cases Nat.beq j id<;>rfl|_=>rfl
 | loop b ih =>
  intro K σ;simp only[yF,vcC];cases lk aQ.head (jQ b)with
  | some k =>
   simp only;rw[nD];show(ae.opt (canon P k σ)).T _=(ae.opt (canon P k σ)).T _;congr 1;funext s;have key:∀(n:Nat)(s:St),lpT P k (yF P Γ N aQ b) K n s=(lpC P k (vcC P Γ N aQ b) n s).T λr=>K r.1 r.2:=by
    intro n
    induction n with
    | zero=>intro s;rfl
    | succ n ihn =>
     intro s;rw[lpT,ih];show(vcC P Γ N aQ b s).T _=(vcC P Γ N aQ b s).T _;congr 1;funext r;obtain⟨e,s1⟩:=r;cases e with
     | normal =>
      show Eo P k _ s1=(ae.opt (canon P k s1)).T _;rw[nD];congr 1;funext s;exact ihn s
     | _=>rfl
   exact key N s
  | none =>
   simp only;cases lk aQ.unr (jQ b)with
   | none=>rfl
   | some x =>
    obtain⟨n,k⟩:=x;simp only;have key:∀(n:Nat)(s:St),unT P k (yF P Γ N aQ b) K n s=(unC P k (vcC P Γ N aQ b) n s).T λr=>K r.1 r.2:=by
     intro n
     induction n with
     | zero=>intro s;rfl
     | succ n ihn =>
      intro s;rw[unT,nD];show(ae.opt (canon P k s)).T _=(ae.opt (canon P k s)).T _;congr 1;funext s;rw[ih];show(vcC P Γ N aQ b s).T _=(vcC P Γ N aQ b s).T _;congr 1;funext r;obtain⟨e,s1⟩:=r;cases e with|normal=>exact ihn s1|_=>rfl
    exact key n σ
 | rangeFunc f ps ah bd iha VZ =>
  intro K σ;simp only[yF,vcC];cases lk aQ.head (zay ah bd)with
  | none=>rfl
  | some k =>
   simp only;have key:∀(ys:List (List PA))(s:St),rgT P k (nR [IC] (eG ah++eG bd)) ps.toList (yF P Γ N aQ ah) (yF P Γ N aQ bd) K ys s=(rgC P k (nR [IC] (eG ah++eG bd)) ps.toList (vcC P Γ N aQ ah) (vcC P Γ N aQ bd) ys s).T λr=>K r.1 r.2:=by
    intro ys
    induction ys with
    | nil=>intro s;rfl
    | cons y rest ihr =>
     intro s;simp only[rgT,rgC];cases qM ps.toList y s.env with
     | none=>rfl
     | some env =>
      simp only;rw[iha];show(vcC P Γ N aQ ah _).T _=(vcC P Γ N aQ ah _).T _;congr 1;funext r;obtain⟨e,s1⟩:=r;cases e with
      | normal =>
       show yF P Γ N aQ bd _ s1=(vcC P Γ N aQ bd s1).T _;rw[VZ];congr 1;funext r;obtain⟨e,s2⟩:=r;cases e with
       | normal =>
        show Eo P k _ s2=(ae.opt (canon P k s2)).T _;rw[nD];congr 1;funext s;exact ihr s
       | ret=>exact nD
       | exit id=>exact nD
       | panic ch =>
        simp only[rgK];cases nR [IC] (eG ah++eG bd)with|true=>exact nD|false=>rfl
       | _=>rfl
      | _=>rfl
   cases canon P k σ with
   | none=>rfl
   | some s =>
    cases nR k.tmps (ps.toList++(eG ah++eG bd))&&ps.toList.all (λp=>Nat.blt p aQ.nt)with
    | false=>rfl
    | true =>
     simp only;cases fU s.env f with
     | tup _=>rfl
     | one d=>cases d with
      | agg _=>rfl
      | c x=>cases x with
       | p v=>cases v with
        | fn gf first caps=>cases first with
         | cons _ _=>rfl
         | nil =>
          show(Γ.it gf (caps.map .one)).T _=(Γ.it gf (caps.map .one)).T _;congr 1;funext ys;exact key ys s
        | _=>rfl
       | _=>rfl
 | exit id=>intro K σ;rfl
 | scope b ih =>
  intro K σ;rw[yF,ih];show(vcC P Γ N aQ b σ).T _=(vcC P Γ N aQ b σ).T _;congr 1;funext r;obtain⟨e,s⟩:=r;cases e<;>rfl
 | label l=>intro K σ;rfl
 | ret=>intro K σ;rfl
 | goto l=>intro K σ;rfl
 | refuse s=>intro K σ;rfl
end
end Go.Pm
namespace Go.Pm
abbrev YO:=Option (List (List PA))
section
variable(P:Program)(Γ:bI)
def yT(y:List PA)(a b:YO):YO:=match a with
 | some _=>match b with|some r=>some (y::r)|none=>none
 | none=>none
def NJ(nt:Nat)(o:Oper)(next:Bool->St->YO)(q:Bool)(σ:St):YO :=
 match zoX σ o with
 | some (args,t)=>match rU (args.toList.map (fU σ.env)),Nat.blt t nt,q with
  | some y,true,false=>yT y (next true ((Ae σ).setT t (.bool false))) (next false ((Ae σ).setT t (.bool true)))
  | _,_,_=>none
 | none=>match dH nt o.dst with
  | true=>zbe P Γ o (λ_ _=>[]) 0 (next q) σ
  | false=>none
def BH(nt:Nat)(ops:Array Oper):List Oper→(Bool→St→YO)→Bool→St→YO
  | [],K,q,σ=>K q σ
  | o::r,K,q,σ=>match o.guard with
    | none=>NJ P Γ nt o (BH nt ops r K) q σ
    | some (j,want)=>match dH nt o.dst,(ops[j]?).bind (·.dst)with
      | true,some g=>match lk σ.env g with
        | some (.one (.c (.p (.bool b)))) => cond b
            (match want with|true=>NJ P Γ nt o (BH nt ops r K) q (σ.setT g (.bool true))|false=>BH nt ops r K q ((σ.setT g (.bool true)).skip o.dst))
            (match want with|true=>BH nt ops r K q ((σ.setT g (.bool false)).skip o.dst)|false=>NJ P Γ nt o (BH nt ops r K) q (σ.setT g (.bool false)))
        | some (.one (.c .undef))=>BH nt ops r K q (σ.skip o.dst)
        | _=>none
      | _,_=>none
abbrev VV:=Exit->Bool->St->YO
def zfM(k:Keep)(K:St->YO)(σ:St):YO:=match canon P k σ with|some s=>K s|none=>none
def lkY(k:Keep)(go:Bool->St->YO)(K:VV):VV:=λe q s=>match e with|.normal=>zfM P k (go q) s|e=>K e q s
def skY(aQ:dG)(id:Nat)(go:VV->Bool->St->YO)(K:VV):VV:=λe q s=>match e with|.normal=>zfL P aQ id (go K q) s|e=>K e q s
def bkY(id:Nat)(K:VV):VV:=λe q s=>match e with
 | .exit i=>match Nat.beq i id with|true=>K .normal q s|false=>K (.exit i) q s
 | e=>K e q s
def zHv(K:VV):VV:=λe q s=>match e with|.goto _=>none|e=>K e q s
def zjE(k:Keep)(step:VV→Bool→St→YO)(K:VV):Nat→Bool→St→YO|0,_,_=>none|n+1,q,s=>step (lkY P k (zjE k step K n) K) q s
def zy8(k:Keep)(step:VV→Bool→St→YO)(K:VV):Nat→Bool→St→YO
  | 0,_,_=>none
  | n+1,q,σ=>zfM P k (step (λe q s1=>match e with|.normal=>zy8 k step K n q s1|e=>K e q s1) q) σ
variable(N:Nat)
def vW(aQ:dG):Code→VV→Bool→St→YO
  | .skip,K,q,σ=>K .normal q σ
  | .region id ops draw,K,q,σ=>match(Jz ops.toList).contains 0,aQ.yl.contains id,draw with
    | true,_,_=>none
    | false,true,false=>BH P Γ aQ.nt ops ops.toList (λq' σ'=>match lk aQ.reg id with
      | some k=>zfM P k (K .normal q') σ'
      | none=>K .normal q' {σ' with log:=[]}) q {σ with log:=[]}
    | false,true,true=>none
    | false,false,_=>zpM P Γ aQ id ops draw (K .normal q) σ
  | .seq a b,K,q,σ=>vW aQ a (skY P aQ (jQ b) (vW aQ b) K) q σ
  | .cond c a b,K,q,σ=>match fU σ.env c with|.one (.c (.p (.bool t)))=>cond t (vW aQ a K q (yf σ c true)) (vW aQ b K q (yf σ c false))|_=>none
  | .block id b,K,q,σ=>vW aQ b (bkY id K) q σ
  | .loop b,K,q,σ=>match lk aQ.head (jQ b)with
    | some k=>zfM P k (zjE P k (vW aQ b) K N q) σ
    | none=>match lk aQ.unr (jQ b)with|some (n,k)=>zy8 P k (vW aQ b) K n q σ|none=>none
  | .exit id,K,q,σ=>K (.exit id) q σ
  | .scope b,K,q,σ=>vW aQ b (zHv K) q σ
  | .label _,K,q,σ=>K .normal q σ
  | .ret,K,q,σ=>K .ret q σ
  | _,_,_,_=>none
def zvX:VV:=λe _ _=>match e with|.normal=>some []|.ret=>some []|_=>none
def aI(aQ:dG)(f:FuncId)(caps:List PA):YO :=
 match P.funcs[f]? with
 | some fn=>match fn.body with
  | some c=>match Nat.beq aQ.nt fn.ntmps&&Nat.ble (caps.length+1) aQ.nt&&fn.results.isEmpty with|true=>vW P Γ N aQ c zvX false ⟨(0,.cl (.vec WB))::jm 1 caps,[(WB,.gone)],[]⟩|false=>none
  | none=>none
 | none=>none
end
section
variable [aH]{P:Program}{Γ:bI}{N:Nat}
theorem ae.T_some{ρ A:Type}{c:ae ρ}{k:ρ->Option A}{x:A}(h:c.T k=some x):∃r,c.o=some r/\k r=some x:=by
 rw[c.nat]at h;cases e:c.T some with|none=>rw[e]at h;cases h|some r=>rw[e]at h;exact⟨r,e,h⟩
def Ua(K:Bool->St->YO)(K':List (List PA)->Bool->St->Prop):Prop:=∀q s r ys,K q s=some r->(q=false->ys=r)->K' ys q s
theorem Ho{nt:Nat}{o:Oper}{next:Bool->St->YO}{next':List (List PA)->Bool->St->Prop}(hn:Ua next next'):Ua (NJ P Γ nt o next) (wW P Γ nt o next'):=by
 intro q σ r ys h hq;unfold NJ at h;unfold wW;split at h;rename_i args t hy;rw[hy];simp only;split at h;rename_i y h1 h2;unfold yT at h;split at h;rename_i r1 hf;split at h;rename_i r2 ht;cases h;rw[h1,h2];exact⟨r2,hq rfl,hn _ _ _ _ ht λ_=>rfl,hn _ _ _ _ hf λe=>by cases e⟩;cases h;cases h;cases h;rename_i hy;rw[hy];simp only;split at h;rename_i hd;rw[hd];rw[zds]at h;obtain⟨s,h1,h2⟩:=ae.T_some h;exact zdp h1 (hn _ _ _ _ h2 hq);cases h
theorem XX{nt:Nat}{ops:Array Oper}{K:Bool→St→YO}{K':List (List PA)→Bool→St→Prop}(hK:Ua K K'):∀l:List Oper,Ua (BH P Γ nt ops l K) (lU P Γ nt ops l K')
  | []=>hK
  | o::l=>by
    intro q σ r ys h hq;have ih:Ua (BH P Γ nt ops l K) (lU P Γ nt ops l K'):=XX hK l;simp only[BH]at h;simp only[lU];split at h;rename_i hg;simp only[hg];exact Ho ih _ _ _ _ h hq;rename_i j want hg;simp only[hg];split at h;rename_i g hd hj;simp only[hd,hj];split at h;rename_i b hb;simp only[hb];refine DF (λe=>?_) λe=>?_
    · subst e;cases want with|true=>exact Ho ih _ _ _ _ h hq|false=>exact ih _ _ _ _ h hq
    · subst e;cases want with|true=>exact ih _ _ _ _ h hq|false=>exact Ho ih _ _ _ _ h hq
    rename_i hb;simp only[hb];exact ih _ _ _ _ h hq;cases h;cases h
theorem Aq{k:Keep}{K:St->YO}{σ:St}{r:List (List PA)}(h:zfM P k K σ=some r):∃s,canon P k σ=some s/\K s=some r:=by
 unfold zfM at h;split at h;rename_i s hs;exact⟨s,hs,h⟩;cases h
def zHw(K:VV)(K':YK):Prop:=∀e,Ua (K e) (K' e)
theorem zpN{aQ:dG}:∀(c:Code)(K:VV)(K':YK),zHw K K'->Ua (vW P Γ N aQ c K) (SV P Γ aQ c K'):=by
 intro c
 induction c with
 | skip=>exact λK K' hK=>hK .normal
 | region id ops draw =>
  intro K K' hK q σ r ys h hq;simp only[vW]at h;simp only[SV];split at h;cases h;rename_i h1 h2;simp only[h1,h2];refine XX (λq s r ys h hq=>?_) ops.toList _ _ _ _ h hq;split at h;rename_i k hk;obtain⟨s1,h3,h4⟩:=Aq h;simp only[hk,h3];exact hK _ _ _ _ _ h4 hq;rename_i hk;simp only[hk];exact hK _ _ _ _ _ h hq;cases h;rename_i h1 h2;simp only[h1,h2];rw[zdt]at h;obtain⟨s,h3,h4⟩:=ae.T_some h;exact zdq h3 (hK _ _ _ _ _ h4 hq)
 | seq a b iha VZ =>
  intro K K' hK;refine iha _ _ λe q s r ys h hq=>?_;cases e with
  | normal =>
   have h:zfL P aQ (jQ b) (vW P Γ N aQ b K q) s=some r:=h;rw[zdu]at h;obtain⟨s1,h1,h2⟩:=ae.T_some h;simp only[zyC,zyE];have:=VZ K K' hK _ _ _ _ h2 hq;unfold zbd at h1;split at h1;rename_i k hk;simp only[hk,ae.opt_o h1];exact this;rename_i hk;simp only[hk];cases ae.ok_o h1;exact this
  | _=>exact hK _ _ _ _ _ h hq
 | cond c a b iha VZ =>
  intro K K' hK q σ r ys h hq;simp only[vW]at h;simp only[SV];split at h;rename_i t ht;simp only[ht];refine DF (λe1=>?_) λe1=>?_;subst e1;exact iha _ _ hK _ _ _ _ h hq;subst e1;exact VZ _ _ hK _ _ _ _ h hq;cases h
 | block id b ih =>
  intro K K' hK;refine ih _ _ λe q s r ys h hq=>?_;cases e with
  | exit j =>
   simp only[bkY]at h;simp only[zaz];split at h;rename_i hj;rw[hj];exact hK _ _ _ _ _ h hq;rename_i hj;rw[hj];exact hK _ _ _ _ _ h hq
  | _=>exact hK _ _ _ _ _ h hq
 | loop b ih =>
  intro K K' hK q σ r ys h hq;simp only[vW]at h;simp only[SV];split at h;rename_i k hk;obtain⟨s1,h1,h2⟩:=Aq h;simp only[hk,h1];intro X hX;have key:∀n:Nat,Ua (zjE P k (vW P Γ N aQ b) K n) X:=by
   intro n
   induction n with
   | zero=>intro q s r ys h;cases h
   | succ n ihn =>
    intro q s r ys h hq;refine hX _ _ _ (ih _ _ (λe q s r ys h hq=>?_) _ _ _ _ h hq);cases e with
    | normal =>
     obtain⟨s2,h3,h4⟩:=Aq h;simp only[zik,hk,h3];exact ihn _ _ _ _ h4 hq
    | _=>exact hK _ _ _ _ _ h hq
  exact key N _ _ _ _ h2 hq;rename_i hk;split at h;rename_i n k hn;simp only[hk,hn];have key:∀n:Nat,Ua (zy8 P k (vW P Γ N aQ b) K n) (QA P k (SV P Γ aQ b) n K'):=by
   intro n
   induction n with
   | zero=>intro q s r ys h;cases h
   | succ n ihn =>
    intro q s r ys h hq;obtain⟨s1,h1,h2⟩:=Aq h;simp only[QA,h1];refine ih _ _ (λe q s r ys h hq=>?_) _ _ _ _ h2 hq;cases e with|normal=>exact ihn _ _ _ _ h hq|_=>exact hK _ _ _ _ _ h hq
  exact key n _ _ _ _ h hq;cases h
 | exit id=>exact λK K' hK=>hK _
 | scope b ih =>
  intro K K' hK;refine ih _ _ λe q s r ys h hq=>?_;cases e with|goto l=>cases h|_=>exact hK _ _ _ _ _ h hq
 | label l=>exact λK K' hK=>hK .normal
 | ret=>exact λK K' hK=>hK .ret
 | rangeFunc f ps a b _ _=>intro K K' hK q σ r ys h;cases h
 | goto l=>intro K K' hK q σ r ys h;cases h
 | refuse s=>intro K K' hK q σ r ys h;cases h
theorem zHx{aQ:dG}{f:FuncId}{caps:List PA}{ys:List (List PA)}(h:aI P Γ N aQ f caps=some ys):SX P Γ aQ f caps ys:=by
 unfold aI at h;unfold SX;split at h;rename_i fn uo;split at h;rename_i c hb;split at h
 ·rename_i hc;rw[uo];simp only[hb,hc];refine zpN c _ _ (λe q s r ys h hq=>?_) _ _ _ _ h λ_=>rfl;have fin:some []=some r->zil ys q:=by
   intro e;cases e;cases q with|true=>trivial|false=>exact hq rfl
  cases e with|normal=>exact fin h|ret=>exact fin h|_=>cases h
 cases h;cases h;cases h
end
end Go.Pm
namespace Go.Pm
section
variable [aH]
class iV (α : Type) where
  enc:α->PA
  dec:PA->α
  ck:PA->Bool
  up:∀{h:Fz}{a:PA}{v:Value},oC h a v->ck a=true->oC h (enc (dec a)) v
  eq:α->α->Bool
  eqk:∀{h:Fz}{a b:α}{v:Value},eq a b=true->oC h (enc a) v->oC h (enc b) v
abbrev iV.one {α : Type} [bD α] : iV α where
  enc x:=match bD.enc x with|[v]=>.one v|l=>.agg l
  dec a:=match a with | .one v=>(bD.dec [v]).1 | .agg l=>(bD.dec l).1
  ck a:=match a with | .one v=>Qw (bD.ck (α:=α) [v]) | .agg _=>false
  up:=by
    intro h a v r hc;cases a with
    | agg l=>cases hc
    | one p =>
      have r:Rep h p v:=r;have h1:=oK (α:=α) (g:=λ_=>[p]) (λ_ _=>⟨r.un,trivial⟩) hc 0;change RL qy [p] (bD.enc (bD.dec (α:=α) [p]).1)at h1;generalize bD.enc (bD.dec (α:=α) [p]).1=m at h1
      match m,h1 with|[q],h1=>exact r.up h1.1|[],h1=>exact h1.elim|_::_::_,h1=>exact h1.2.elim
  eq:=bD.eq
  eqk:=by
    intro h a b v he r;have h1:=bD.eqk he;generalize bD.enc a=l at h1 r;generalize bD.enc b=m at h1;have ag:∀{l m:List PV},RL qy l m->oC h (.agg l) v->oC h (.agg m) v:=λe r1=>by
      obtain⟨vs,e1,r2⟩:=r1;exact⟨vs,e1,BZ e r2⟩
    match l,m,h1 with|[_],[_],h1=>exact Rep.up h1.1 r|[],[],h1=>exact ag h1 r|_::_::_,_::_::_,h1=>exact ag h1 r|[],_::_,h1=>exact h1.elim|[_],[],h1=>exact h1.elim|[_],_::_::_,h1=>exact h1.2.elim|_::_::_,[],h1=>exact h1.elim|_::_::_,[_],h1=>exact h1.2.elim
abbrev iV.agg' {α : Type} [bD α] : iV α where
  enc x:=.agg (bD.enc x)
  dec a:=match a with | .one v=>(bD.dec [v]).1 | .agg l=>(bD.dec l).1
  ck a:=match a with | .agg l=>Qw (bD.ck (α:=α) l) | .one _=>false
  up:=by
    intro h a v r hc;cases a with
    | one p=>cases hc
    | agg l =>
      obtain⟨vs,rfl,r⟩:=r;exact⟨vs,rfl,BZ (oK (α:=α) (g:=λ_=>l) (λ_ _=>yV r) hc 0) r⟩
  eq:=bD.eq
  eqk:=by
    intro h a b v he r;obtain⟨vs,rfl,r⟩:=r;exact⟨vs,rfl,BZ (bD.eqk he) r⟩
instance:iV Int:=.one
instance:iV Bool:=.one
instance{α:Type}[bD α][Inhabited α]:iV (Sl α):=.one
instance{α:Type}[bD α]:iV (Pt α):=.one
class dA (α : Type) where
  enc:α->List PA
  dec:List PA->α
  ck:List PA->Bool
  up:∀{h:Fz}{l:List PA}{vs:List Value},RL (oC h) l vs->ck l=true->RL (oC h) (enc (dec l)) vs
  eq:α->α->Bool
  eqk:∀{h:Fz}{a b:α}{vs:List Value},eq a b=true->RL (oC h) (enc a) vs->RL (oC h) (enc b) vs
instance : dA Unit where
  enc _:=[]
  dec _:=()
  ck l:=l.isEmpty
  up:=by
    intro h l vs r hc;cases l with|nil=>exact r|cons=>cases hc
  eq _ _:=true
  eqk _ r:=r
instance {α : Type} [iV α] : dA α where
  enc x:=[iV.enc x]
  dec l:=iV.dec (l.headD (.agg []))
  ck l:=match l with|[a]=>iV.ck (α:=α) a|_=>false
  up:=by
    intro h l vs r hc
    match l,vs,r,hc with|[a],[v],r,hc=>exact⟨iV.up r.1 hc,trivial⟩|[],_,_,hc=>cases hc|_::_::_,_,_,hc=>cases hc|[_],[],r,_=>exact r.elim|[_],_::_::_,r,_=>exact r.2.elim
  eq:=iV.eq
  eqk:=by
    intro h a b vs he r
    match vs,r with|[v],r=>exact⟨iV.eqk he r.1,trivial⟩|[],r=>exact r.elim|_::_::_,r=>exact r.2.elim
instance {α β : Type} [iV α] [dA β] : dA (α × β) where
  enc x:=iV.enc x.1::dA.enc x.2
  dec l:=(iV.dec (l.headD (.agg [])),dA.dec l.tail)
  ck l:=match l with|a::r=>iV.ck (α:=α) a&&dA.ck (α:=β) r|_=>false
  up:=by
    intro h l vs r hc
    match l,vs,r,hc with
    | a::l,v::vs,r,hc =>
      rw[Bool.and_eq_true]at hc;exact⟨iV.up r.1 hc.1,dA.up r.2 hc.2⟩
    | [],_,_,hc=>cases hc
    | _::_,[],r,_=>exact r.elim
  eq a b:=iV.eq a.1 b.1&&dA.eq a.2 b.2
  eqk:=by
    intro h a b vs he r;rw[Bool.and_eq_true]at he
    match vs,r with|v::vs,r=>exact⟨iV.eqk he.1 r.1,dA.eqk he.2 r.2⟩|[],r=>exact r.elim
theorem Ep{h:Fz}{l m:List PA}{v:Value}(hm:∀vs,RL (oC h) l vs->RL (oC h) m vs)(r:qV h l v):qV h m v:=by
 have go:∀vs,RL (oC h) m vs->(vs.length=1->vs=[v])->(vs.length≠1->v=.tuple vs.toArray)->qV h m v:=by
  intro vs hr h1 h2
  match m,vs,hr with|[],[],_=>exact⟨[],h2 (by simp),trivial⟩|[x],[u],hr=>cases h1 rfl;exact hr.1|x::y::l,u::u2::vs,hr=>exact⟨_,h2 (by simp),hr⟩|[],_::_,hr=>exact hr.elim|[_],[],hr=>exact hr.elim|[_],_::_::_,hr=>exact hr.2.elim|_::_::_,[],hr=>exact hr.elim|_::_::_,[_],hr=>exact hr.2.elim
 match l,r with|[],⟨vs,e,r⟩=>exact go vs (hm vs r) (λh=>by rw[<- r.length]at h;cases h) λ_=>e|[x],r=>exact go [v] (hm [v] ⟨r,trivial⟩) (λ_=>rfl) λh=>absurd rfl h|x::y::l,⟨vs,e,r⟩=>exact go vs (hm vs r) (λh=>by rw[<- r.length]at h;simp at h) λ_=>e
end
/-! What is wanted later, as a number's bits. -/
def orL(m:Nat):List Nat→Nat
  | []=>m
  | t::r=>orL (m ||| 2^t) r
def clL(m:Nat):List Nat→Nat|[]=>m|t::r=>clL (m ^^^ (m &&& 2^t)) r
def zvY(ops:Array Oper):List Oper→Nat→Nat|[],m=>m|o::r,m=>orL (clL (zvY ops r m) o.dst.toList) (uF ops o)
def lvC:Code→Nat→Nat→List (Nat×Nat)→Nat×List (Nat×Nat×Nat)
  | .skip,o,_,_=>(o,[])
  | .region id ops _,o,_,_=>(zvY ops ops.toList o,[(0,id,o)])
  | .seq a b,o,r,x=>match lvC b o r x with
    | (mb,lb)=>match lvC a mb r x with|(ma,la)=>(ma,la++(2,jQ b,mb)::lb)
  | .cond c a b,o,r,x=>match lvC a o r x,lvC b o r x with
    | (ma,la),(mb,lb)=>(orL (ma ||| mb) (zas c),la++lb)
  | .block id b,o,r,x=>lvC b o r ((id,o)::x)
  | .loop b,_,r,x=>match(lvC b 0 r x).1 with|m=>(m,(1,jQ b,m)::(lvC b m r x).2)
  | .rangeFunc f ps a b,o,r,x=>match(lvC b 0 r x).1 with
    | m0=>match orL (clL (o ||| (lvC a m0 r x).1) ps.toList) (zas f)with
      | m=>match lvC b m r x with|(mb,lb)=>(m,(1,zay a b,m)::((lvC a mb r x).2++lb))
  | .exit id,_,_,x=>((lk x id).getD 0,[])
  | .scope b,o,r,x=>lvC b o r x
  | .label _,o,_,_=>(o,[])
  | .ret,_,r,_=>(r,[])
  | _,_,_,_=>(0,[])
def zdv(m:Nat):Nat→Nat→List Nat
  | _,0=>[]
  | i,n+1=>match m.testBit i with|true=>i::zdv m (i+1) n|false=>zdv m (i+1) n
structure Ext where
  ks:List (Nat×Nat×Keep):=[]
  cut:List Nat:=[]
  unr:List (Nat×Nat):=[]
  yl:List Nat:=[]
  vv:List Nat:=[]
  clo:List Nat:=[]
  pan:List Nat:=[]
def zdw(x:Ext)(nt k id m:Nat):Keep:=match x.ks.find? λy=>Nat.beq y.1 k&&Nat.beq y.2.1 id with
 | some y=>{y.2.2 with tmps:=zdv m 0 nt}
 | none=>⟨zdv m 0 nt,[],[],[],[],[],[]⟩
def zHz(x:Ext)(nt:Nat):List (Nat×Nat×Nat)→dG→dG
  | [],a=>a
  | (k,id,m)::r,a=>match zHz x nt r a with
    | a=>match k with
      | 0=>{a with reg:=(id,zdw x nt 0 id m)::a.reg}
      | 1=>match lk x.unr id with
        | some n=>{a with unr:=(id,n,zdw x nt 1 id m)::a.unr}
        | none=>{a with head:=(id,zdw x nt 1 id m)::a.head}
      | _=>match x.cut.contains id with
        | true=>{a with cut:=(id,zdw x nt 2 id m)::a.cut}
        | false=>a
def zy9:List ResultVar→List Nat|[]=>[]|.tmp t::r=>t::zy9 r|.cell t _::r=>t::zy9 r
def bP(P:Program)(f:Nat)(xt:List Nat)(x:Ext):dG:=match P.funcs[f]? with
 | some fn=>match fn.body with
  | some c=>match orL 0 (xt++zy9 fn.results.toList)with|m=>zHz x fn.ntmps (lvC c m m []).2 ⟨fn.ntmps,[],[],[],[],x.yl,x.pan⟩
  | none=>⟨0,[],[],[],[],[],[]⟩
 | none=>⟨0,[],[],[],[],[],[]⟩
section
variable(P:Program)(N:Nat)(Γ:bI){ρ:Type}
def XY(aQ:dG)(f:FuncId)(n:Nat)(g:Code->Bool)(σ:St)(fin:Func->St->Option ρ):ae ρ :=
 match P.funcs[f]? with
 | some fn=>match fn.body with
  | some c=>match Nat.beq aQ.nt fn.ntmps&&Nat.ble n aQ.nt&&g c with
   | true=>(vcC P Γ N aQ c σ).bind λ(e,s)=>match e with|.normal=>.opt (fin fn s)|.ret=>.opt (fin fn s)|_=>.no
   | false=>.no
  | none=>.no
 | none=>.no
def aF(aQ:dG)(f:FuncId)(args:List PA):ae (List PA) :=
 XY P N Γ aQ f args.length (λ_=>true) ⟨jm 0 args,[],[]⟩ λfn s=>kX P s fn.results.toList
def XZ(fn:Func)(e s b:Nat)(σ:St):Option (Nat×(Nat->List PV)×List PV) :=
 match fn.results.toList with
 | .tmp t::r=>match lk σ.env t with
  | some (.one (.c (.vec L)))=>match lk σ.ax L with
   | some (.vec e' s' b' n get)=>match Nat.beq e e'&&(Nat.beq s s'&&Nat.beq b b'),r with
    | true,[]=>some (n,get,[])
    | true,[.tmp u]=>match lk σ.env u with|some (.one (.c (.p x)))=>some (n,get,[x])|_=>none
    | _,_=>none
   | _=>none
  | _=>none
 | _=>none
def aK(aQ:dG)(f:FuncId)(e s b:Nat)(args:List PA):ae (Nat×(Nat->List PV)×List PV) :=
 XY P N Γ aQ f args.length (λ_=>true) ⟨jm 0 args,[],[]⟩ λfn σ=>XZ fn e s b σ
def zjF(aQ:dG)(f:FuncId)(n:Nat)(g:Code->Bool)(σ:St)(fin:Func->Exit->St->Option ρ):ae ρ :=
 match P.funcs[f]? with
 | some fn=>match fn.body with
  | some c=>match Nat.beq aQ.nt fn.ntmps&&Nat.ble n aQ.nt&&g c with|true=>(vcC P Γ N aQ c σ).bind λr=>.opt (fin fn r.1 r.2)|false=>.no
  | none=>.no
 | none=>.no
def zdx(xs:List XA)(fn:Func)(σ:St):Option (List PA×List XA) :=
 match Ej P σ fn.results.toList with
 | some (l,u)=>match NG (CG σ.env xs) (lk (u++σ.ax)) σ.env 0 xs with
  | some (ys,ls)=>match lS ls,Gv l with|true,none=>some (l,ys)|_,_=>none
  | none=>none
 | none=>none
def zjG(xs:List XA)(ch:List PanicEntry)(σ:St):Option (List PA×List XA) :=
 match chR ch with
 | some l=>match NG (CG σ.env xs) (lk σ.ax) σ.env 0 xs with
  | some (ys,ls)=>match lS ls with|true=>some (l,ys)|false=>none
  | none=>none
 | none=>none
def zjH(xs:List XA)(fn:Func):Exit→St→Option (List PA×List XA)|.normal,σ=>zdx P xs fn σ|.ret,σ=>zdx P xs fn σ|.panic ch,σ=>zjG xs ch σ|_,_=>none
def aM(aQ:dG)(f:FuncId)(xs:List XA):ae (List PA×List XA) :=
 zjF P N Γ aQ f xs.length (λc=>lS ((iI 0 xs).map (·.1))&&yu (uN 0 xs) xs&&nR (uN 0 xs) (eG c)) ⟨JD 0 xs,iI 0 xs,[]⟩ (zjH P xs)
end
section
variable [aH]{P:Program}{N:Nat}{Γ:bI}
theorem Ub{ρ:Type}{aQ:dG}{f:FuncId}{n:Nat}{g:Code→Bool}{σ:St}{fin:Func→St→Option ρ}{r:ρ}(h:(XY P N Γ aQ f n g σ fin).o=some r) :
  ∃fn c,P.funcs[f]? = some fn/\fn.body=some c/\(Nat.beq aQ.nt fn.ntmps&&Nat.ble n aQ.nt)=true/\g c=true/\∀K:Exit->St->Prop,(∀s,fin fn s=some r->K .normal s/\K .ret s)->vc P Γ aQ c K σ:=by
 unfold XY at h;split at h;rename_i fn uo;split at h;rename_i c hb;split at h
 ·rename_i hc;rw[fQ]at hc;obtain⟨⟨e,s⟩,h1,h2⟩:=ae.bind_o h;refine⟨fn,c,uo,hb,hc.1,hc.2,λK hK=>TZ c σ s e K h1 ?_⟩;cases e with|normal=>exact(hK s (ae.opt_o h2)).1|ret=>exact(hK s (ae.opt_o h2)).2|_=>exact(ae.no_o h2).elim
 exact(ae.no_o h).elim;exact(ae.no_o h).elim;exact(ae.no_o h).elim
theorem zHA{aQ:dG}{f:FuncId}{args rs:List PA}(h:(aF P N Γ aQ f args).o=some rs):vcFun P Γ aQ f args λQe=>Qe=rs:=by
 obtain⟨fn,c,h1,h2,h3,_,h4⟩:=Ub h;unfold vcFun;rw[h1];simp only[h2,h3];refine h4 _ λs hs=>?_;constructor<;>simp only[zii,BX,hs]
theorem zHB{aQ:dG}{f:FuncId}{e s b n:Nat}{get:Nat->List PV}{rs:List PV}{args:List PA}(h:(aK P N Γ aQ f e s b args).o=some (n,get,rs)):zcE P Γ aQ f args e s b (zbb n s get rs):=by
 obtain⟨fn,c,h1,h2,h3,_,h4⟩:=Ub h;unfold zcE;rw[h1];simp only[h2,h3];refine h4 _ λσ hs=>?_;have:Qy fn e s b (zbb n s get rs) σ:=by
  unfold XZ at hs;unfold Qy;split at hs;rename_i t r hr;split at hs;rename_i L hL;split at hs;rename_i e' s' b' m g hO;split at hs;rename_i hc;cases hs;rw[hr];simp only[hL,hO,hc];rfl;rename_i u hc;split at hs;rename_i x hu;cases hs;rw[hr];simp only[hL,hO,hc,hu];rfl;cases hs;cases hs;cases hs;cases hs;cases hs
 exact⟨this,this⟩
theorem zpO{ρ:Type}{aQ:dG}{f:FuncId}{n:Nat}{g:Code→Bool}{σ:St}{fin:Func→Exit→St→Option ρ}{r:ρ}(h:(zjF P N Γ aQ f n g σ fin).o=some r) :
  ∃fn c,P.funcs[f]? = some fn/\fn.body=some c/\(Nat.beq aQ.nt fn.ntmps&&Nat.ble n aQ.nt)=true/\g c=true/\∀K:Exit->St->Prop,(∀e s,fin fn e s=some r->K e s)->vc P Γ aQ c K σ:=by
 unfold zjF at h;split at h;rename_i fn uo;split at h;rename_i c hb;split at h;rename_i hc;rw[fQ]at hc;obtain⟨⟨e,s⟩,h1,h2⟩:=ae.bind_o h;exact⟨fn,c,uo,hb,hc.1,hc.2,λK hK=>TZ c σ s e K h1 (hK e s (ae.opt_o h2))⟩;exact(ae.no_o h).elim;exact(ae.no_o h).elim;exact(ae.no_o h).elim
theorem zHC{aQ:dG}{f:FuncId}{xs ys:List XA}{rs:List PA}(h:(aM P N Γ aQ f xs).o=some (rs,ys)):XN P Γ aQ f xs λl zs=>l=rs/\zs=ys:=by
 obtain⟨fn,c,h1,h2,h3,h0,h4⟩:=zpO h;unfold XN;rw[h1];simp only[fQ]at h0 h3;simp only[h2,h3.1,h3.2,h0.1.1,h0.1.2,h0.2,qjU];refine h4 _ λe σ hs=>?_;have nr:zdx P xs fn σ=some (rs,ys)->WX P fn xs (λl zs=>l=rs/\zs=ys) σ:=λhs=>by
  unfold zdx at hs;unfold WX;split at hs;rename_i l u hr;split at hs;rename_i zs ls ho;split at hs;rename_i hn hp;cases hs;simp only[hr,ho,hn,hp,and_self];cases hs;cases hs;cases hs
 cases e with
 | normal=>exact nr hs
 | ret=>exact nr hs
 | panic ch =>
  have hs:zjG xs ch σ=some (rs,ys):=hs;show zjq xs (λl zs=>l=rs/\zs=ys) ch σ;unfold zjG at hs;unfold zjq;split at hs;rename_i l hr;split at hs;rename_i zs ls ho;split at hs;rename_i hn;cases hs;simp only[hr,ho,hn,and_self];cases hs;cases hs;cases hs
 | _=>cases hs
end
structure Tabs where
  fn:List (Nat×(List PA->ae (List PA)))
  own:List (Nat×Gq)
  it:List (Nat×(List PA->ae (List (List PA))))
  mt:List (Nat×Option MK)
  cf:List (Nat×(List PA->ae (List PA)))
def X0{α:Type _}(d:α):List (Nat×α)→Nat→α
  | [],_=>d
  | (k,c)::r,f=>match Nat.beq k f with|true=>c|false=>X0 d r f
def gQ(T:Tabs)(vv:List Nat):bI:=⟨X0 (λ_=>.no) T.fn,X0 Gq.none T.own,X0 (λ_=>.no) T.it,λt=>vv.contains t,X0 none T.mt,X0 (λ_=>.no) T.cf⟩
def Tabs.nil:Tabs:=⟨[],[],[],[],[]⟩
def Tabs.addF(T:Tabs)(f:Nat)(c:List PA->ae (List PA)):Tabs:=⟨(f,c)::T.fn,T.own,T.it,T.mt,T.cf⟩
def Tabs.addO(T:Tabs)(f:Nat)(c:Gq):Tabs:=⟨T.fn,(f,c)::T.own,T.it,T.mt,T.cf⟩
def Tabs.addI(T:Tabs)(f:Nat)(c:List PA->ae (List (List PA))):Tabs:=⟨T.fn,T.own,(f,c)::T.it,T.mt,T.cf⟩
def Tabs.addM(T:Tabs)(f:Nat)(c:MK):Tabs:=⟨T.fn,T.own,T.it,(f,some c)::T.mt,T.cf⟩
def Tabs.addN(T:Tabs):List Nat→Tabs|[]=>T|f::r=>(T.addM f λ_=>.no).addN r
def Tabs.addC(T:Tabs)(f:Nat)(c:List PA->ae (List PA)):Tabs:=⟨T.fn,T.own,T.it,T.mt,(f,c)::T.cf⟩
variable [aH]
structure au (P : Program) (T : Tabs) : Prop where
  fn:∀x∈T.fn,Ok P x.1 x.2
  own:∀x∈T.own,gI P x.1 x.2
  it:∀x∈T.it,Bf P x.1 x.2
  mt:∀x∈T.mt,∀C,x.2=some C->jc P x.1 C
  cf:∀x∈T.cf,@Ok ⟨1⟩ P x.1 x.2
theorem all_cons{α:Type _}{p:α->Prop}{a:α}{l:List α}(h:∀x∈l,p x)(ha:p a):∀x∈a::l,p x:=λx hx=>(jV.1 hx).elim (λe=>e▸ha) (h x)
section
variable{P:Program}{T:Tabs}{f:Nat}
theorem au.nil:au P .nil:=⟨λ_ h=>(by cases h),λ_ h=>(by cases h),λ_ h=>(by cases h),λ_ h=>(by cases h),λ_ h=>(by cases h)⟩
theorem au.addF(h:au P T){c:List PA->ae (List PA)}(hc:Ok P f c):au P (T.addF f c):=⟨all_cons h.fn hc,h.own,h.it,h.mt,h.cf⟩
theorem au.addO(h:au P T){c:Gq}(hc:gI P f c):au P (T.addO f c):=⟨h.fn,all_cons h.own hc,h.it,h.mt,h.cf⟩
theorem au.addI(h:au P T){c:List PA->ae (List (List PA))}(hc:Bf P f c):au P (T.addI f c):=⟨h.fn,h.own,all_cons h.it hc,h.mt,h.cf⟩
theorem au.addM(h:au P T){c:MK}(hc:jc P f c):au P (T.addM f c):=⟨h.fn,h.own,h.it,all_cons h.mt λ_ e=>by cases e;exact hc,h.cf⟩
theorem au.addC(h:au P T){c:List PA->ae (List PA)}(hc : @Ok ⟨1⟩ P f c):au P (T.addC f c):=⟨h.fn,h.own,h.it,h.mt,all_cons h.cf hc⟩
theorem au.addN:∀{l:List Nat}{T:Tabs},au P T→au P (T.addN l)|[],_,h=>h|_::_,_,h=>(h.addM λ_ _ _ h=>(ae.no_o h).elim).addN
theorem Ar{α:Type _}{p:Nat→α→Prop}{d:α}(hd:p f d):∀{l:List (Nat×α)},(∀x∈l,p x.1 x.2)→p f (X0 d l f)
  | [],_=>hd
  | (k,c)::l,h=>by
    simp only[X0];split;rename_i e;have:=h (k,c) kH;rw[<- lu e];exact this;exact Ar hd λx hx=>h x (jM _ hx)
theorem au.all(h:au P T)(vv:List Nat):jw P (gQ T vv) :=
 ⟨λf C hC=>Ar (p:=λf o=>∀C,o=some C->jc P f C) (λ_ e=>by cases e) (λx hx C e=>h.mt x hx C e) C hC,λf=>Ar (p:=λf c=>Ok P f c) (λ_ _ h=>(ae.no_o h).elim) λx hx=>h.fn x hx,
  λf=>Ar (p:=λf c=>gI P f c) (d:=.none) trivial λx hx=>h.own x hx,λf=>Ar (p:=λf c=>Bf P f c) (λ_ _ h=>(ae.no_o h).elim) λx hx=>h.it x hx,
  λf=>Ar (p:=λf c=>@Ok ⟨1⟩ P f c) (λ_ _ h=>(ae.no_o h).elim) λx hx=>h.cf x hx⟩
theorem xw(h:au P T)(hc:dw P f){N:Nat}{vv:List Nat}{aQ:dG}:Ok P f (aF P N (gQ T vv) aQ f) :=
 zjk (h.all vv) hc λargs rs h=>⟨_,aQ,zHA h⟩
theorem Uc(h:au P T)(hc:dw P f){N e s b:Nat}{vv:List Nat}{aQ:dG}:gI P f (.mkv e s b (aK P N (gQ T vv) aQ f e s b)) :=
 zfJ (h.all vv) hc λargs n get rs h=>⟨_,aQ,zHB h⟩
theorem NL(h:au P T)(hc:dw P f){N:Nat}{vv:List Nat}{aQ:List XA->dG}:jc P f (λxs=>aM P N (gQ T vv) (aQ xs) f xs) :=
 zfK (h.all vv) hc λxs rs ys h=>⟨_,aQ xs,zHC h⟩
theorem NM(h:au P T)(hc:dw P f){N:Nat}{vv:List Nat}{aQ:dG}:Bf P f (λcaps=>.opt (aI P (gQ T vv) N aQ f caps)) :=
 zjo (h.all vv) hc λcaps ys h=>⟨_,aQ,zHx (ae.opt_o h)⟩
def zza(P:Program)(N:Nat)(T:Tabs)(x:Ext)(f:Nat):Nat→MK|0=>λ_=>.no|n+1=>λxs=>aM P N (gQ ((T.addM f (zza P N T x f n)).addN x.clo) x.vv) (bP P f (uN 0 xs) x) f xs
theorem X3(h:au P T)(hc:dw P f){N:Nat}{x:Ext}:∀n,jc P f (zza P N T x f n)|0=>λ_ _ _ h=>(ae.no_o h).elim|n+1=>NL (h.addM (X3 h hc n)).addN hc
def ae.ty{δ ρ:Type}[dA δ][dA ρ](C:List PA->ae (List PA))(x:δ):ae ρ:=(C (dA.enc x)).bind λl=>.chk (dA.ck (α:=ρ) l) (.ok (dA.dec l))
def ae.un{δ ρ:Type}[dA δ][dA ρ](F:δ->ae ρ)(args:List PA):ae (List PA):=.chk (dA.ck (α:=δ) args) ((F (dA.dec args)).mp dA.enc)
theorem zvZ{δ ρ:Type}[dA δ][dA ρ]{C:List PA->ae (List PA)}(h:Ok P f C):Ok P f (ae.un (ae.ty C:δ->ae ρ)):=by
 intro args rs hr w h0 vs jE hw;obtain⟨h1,h2⟩:=ae.chk_o hr;obtain⟨r,h3,h4⟩:=ae.mp_o h2;obtain⟨l,h5,h6⟩:=ae.bind_o h3;obtain⟨h7,h8⟩:=ae.chk_o h6;have h8:=ae.ok_o h8;subst h4 h8;obtain⟨hc,h9⟩:=h _ _ h5 w h0 vs (dA.up jE h1) hw;refine⟨hc,h9.mono ?_⟩;rintro e w' ⟨h',v,he,hv,r⟩;exact⟨h',v,he,Ep (λvs jE=>dA.up jE h7) hv,r⟩
def zpP{δ ρ:Type}[dA δ][dA ρ](C:List PA->ae (List PA))(y:δ×ρ):Bool:=match(C (dA.enc y.1)).o with|some l=>dA.ck (α:=ρ) l&&dA.eq (dA.dec l) y.2|none=>false
def zjI{δ ρ:Type}[dA δ][dA ρ](y:δ×ρ)(C:List PA->ae (List PA))(args:List PA):ae (List PA):=match dA.ck (α:=δ) args&&dA.eq (dA.dec args) y.1 with|true=>.ok (dA.enc y.2)|false=>C args
theorem zpQ{δ ρ:Type}[dA δ][dA ρ]{C:List PA->ae (List PA)}(h:Ok P f C){y:δ×ρ}(hy:zpP C y=true):Ok P f (zjI y C):=by
 intro args rs hr w h0 vs jE hw;unfold zjI at hr;split at hr;rename_i hc;rw[fQ]at hc;cases ae.ok_o hr;unfold zpP at hy;split at hy;rename_i l hl;rw[fQ]at hy;obtain⟨h1,h2⟩:=h _ _ hl w h0 vs (dA.eqk hc.2 (dA.up jE hc.1)) hw;refine⟨h1,h2.mono ?_⟩;rintro e w' ⟨h',v,he,hv,r⟩;exact⟨h',v,he,Ep (λvs jE=>dA.eqk hy.2 (dA.up jE hy.1)) hv,r⟩;cases hy;exact h _ _ hr w h0 vs jE hw
def Tabs.memo{δ ρ:Type}[dA δ][dA ρ](T:Tabs)(f:Nat)(y:δ×ρ):Tabs:=T.addF f (zjI y ((gQ T []).fn f))
theorem au.memo{δ ρ:Type}[dA δ][dA ρ](h:au P T){y:δ×ρ}(hy:zpP ((gQ T []).fn f) y=true):au P (T.memo f y):=h.addF (zpQ ((h.all []).fn f) hy)
def Sl.of{α:Type}[Inhabited α](l:List α):Sl α:=⟨l.length,λi=>l.getD i default⟩
inductive Ent where
  | f (f:Nat) (x:Ext)
  | k (f e s b:Nat) (x:Ext)
  | m (f:Nat) (x:Ext)
  | r (f n:Nat) (x:Ext)
  | i (f:Nat) (x:Ext)
def Ent.fn:Ent→Nat|.f f _=>f|.k f _ _ _ _=>f|.m f _=>f|.r f _ _=>f|.i f _=>f
def zHD(P:Program)(N:Nat)(T:Tabs):Ent→Tabs|.f f x=>T.addF f (aF P N (gQ (T.addN x.clo) x.vv) (bP P f [] x) f)|.k f e s b x=>T.addO f (.mkv e s b (aK P N (gQ (T.addN x.clo) x.vv) (bP P f [] x) f e s b))|.m f x=>T.addM f λxs=>aM P N (gQ (T.addN x.clo) x.vv) (bP P f (uN 0 xs) x) f xs|.r f n x=>T.addM f (zza P N T x f n)|.i f x=>T.addI f λcaps=>.opt (aI P (gQ (T.addN x.clo) x.vv) N (bP P f [0] x) f caps)
def oQ(P:Program)(N:Nat)(T:Tabs)(l:List Ent):Tabs:=l.foldl (zHD P N) T
def X4(P:Program)(f:Nat):Bool:=match P.funcs[f]? with
 | some fn => fn.body.isSome && !(fn.name == "runtime.NumGoroutine")
 | none=>false
theorem dE(h:X4 P f=true):dw P f:=by
 unfold X4 at h;split at h;rename_i fn hf;rw[fQ,JS]at h;exact⟨fn,hf,h.1,h.2⟩;cases h
theorem zpR{N:Nat}(h:au P T){e:Ent}(hc:X4 P e.fn=true):au P (zHD P N T e):=by
 cases e with|f f x=>exact h.addF (xw h.addN (dE hc))|k f e s b x=>exact h.addO (Uc h.addN (dE hc))|m f x=>exact h.addM (NL h.addN (dE hc))|r f n x=>exact h.addM (X3 h (dE hc) n)|i f x=>exact h.addI (NM h.addN (dE hc))
theorem eX {N : Nat} : ∀ {l : List Ent} {T : Tabs}, au P T → (l.all fun e => X4 P e.fn) = true → au P (oQ P N T l)
  | [],_,h,_=>h
  | e::l,_,h,hc=>by
    rw[qd4,fQ]at hc;exact eX (l:=l) (zpR h hc.1) hc.2
end
theorem zjJ{P:Program}{T:Tabs}{f:Nat}(h : @au ⟨1⟩ P T)(hc:dw P f){N:Nat}{vv:List Nat}{aQ:dG} : @Ok ⟨1⟩ P f (aF P N (gQ T vv) aQ f):=@xw ⟨1⟩ P T f h hc N vv aQ
end Go.Pm
namespace Go.Pm
section
variable(P:Program)(Γ:bI){A:Type}(N:Nat)
inductive zpS where
  | n (n:Nat)
  | y (l:List (List PA))
  | o (i:Nat)
def atT(aQ:dG):Code→List Nat→List zpS→EK A→St→Option A
  | .seq a b,0::p,r,K=>atT aQ a p r (sqT P aQ (jQ b) (yF P Γ N aQ b) K)
  | .seq _ b,_::p,r,K=>atT aQ b p r K
  | .cond _ a _,0::p,r,K=>atT aQ a p r K
  | .cond _ _ b,_::p,r,K=>atT aQ b p r K
  | .block id b,_::p,r,K=>atT aQ b p r (bkT id K)
  | .scope b,_::p,r,K=>atT aQ b p r (scT K)
  | .loop b,_::p,.n n::r,K=>match lk aQ.head (jQ b)with|some k=>atT aQ b p r (lpK P k (lpT P k (yF P Γ N aQ b) K n) K)|none=>λ_=>none
  | .loop b,[],.n n::_,K=>match lk aQ.head (jQ b)with|some k=>lpT P k (yF P Γ N aQ b) K n|none=>λ_=>none
  | .rangeFunc _ ps ah bd,_::p,.y l::r,K=>match lk aQ.head (zay ah bd)with|some k=>atT aQ bd p r (rgK P k (nR [IC] (eG ah++eG bd)) (rgT P k (nR [IC] (eG ah++eG bd)) ps.toList (yF P Γ N aQ ah) (yF P Γ N aQ bd) K l) K)|none=>λ_=>none
  | .rangeFunc _ ps ah bd,[],.y l::_,K=>match lk aQ.head (zay ah bd)with|some k=>rgT P k (nR [IC] (eG ah++eG bd)) ps.toList (yF P Γ N aQ ah) (yF P Γ N aQ bd) K l|none=>λ_=>none
  | .region id ops draw,[],.o i::_,K=>opsT P Γ aQ.nt ops (XW P aQ id ops draw (K .normal)) i (ops.toList.drop i)
  | c,[],_,K=>yF P Γ N aQ c K
  | _,_,_,_=>λ_=>none
def zpT(fin:St->Option (List PA))(K:List PA->Option A):EK A:=λe s=>match e with
 | .normal=>match fin s with|some r=>K r|none=>none
 | .ret=>match fin s with|some r=>K r|none=>none
 | _=>none
def iJ{ρ:Type}[aH][dA ρ](k:ρ->Option A)(l:List PA):Option A:=match dA.ck (α:=ρ) l with|true=>k (dA.dec l)|false=>none
def runT(aQ:dG)(f:FuncId)(K:List PA->Option A)(args:List PA):Option A :=
 match P.funcs[f]? with
 | some fn=>match fn.body with
  | some c=>match Nat.beq aQ.nt fn.ntmps&&Nat.ble args.length aQ.nt&&true with|true=>yF P Γ N aQ c (zpT (λs=>kX P s fn.results.toList) K) ⟨jm 0 args,[],[]⟩|false=>none
  | none=>none
 | none=>none
def iK(aQ:dG)(f:FuncId)(p:List Nat)(r:List zpS)(K:List PA->Option A)(σ:St):Option A :=
 match P.funcs[f]? with
 | some fn=>match fn.body with|some c=>atT P Γ N aQ c p r (zpT (λs=>kX P s fn.results.toList) K) σ|none=>none
 | none=>none
end
section
variable{P:Program}{Γ:bI}{A:Type}{N:Nat}
theorem runT_eq{aQ:dG}{f:FuncId}{K:List PA->Option A}{args:List PA}:(aF P N Γ aQ f args).T K=runT P Γ N aQ f K args:=by
 unfold aF XY runT;cases P.funcs[f]? with
 | none=>rfl
 | some fn =>
  simp only;cases fn.body with
  | none=>rfl
  | some c =>
   simp only;cases Nat.beq aQ.nt fn.ntmps&&Nat.ble args.length aQ.nt&&true with
   | false=>rfl
   | true =>
    simp only;rw[NI];show(vcC P Γ N aQ c _).T _=(vcC P Γ N aQ c _).T _;congr 1;funext r;obtain⟨e,s⟩:=r;cases e with|normal=>simp only[zpT,ae.opt];cases kX P s fn.results.toList<;>rfl|ret=>simp only[zpT,ae.opt];cases kX P s fn.results.toList<;>rfl|_=>rfl
theorem zSA [aH]{δ ρ:Type}[dA δ][dA ρ]{aQ:dG}{f:FuncId}{x:δ}{k:ρ->Option A}:(ae.ty (aF P N Γ aQ f) x:ae ρ).T k=runT P Γ N aQ f (iJ k) (dA.enc x):=by
 rw[<- runT_eq];show(aF P N Γ aQ f (dA.enc x)).T _=_;congr 1
end
instance : bD Unit where
  enc _:=[]
  dec l:=((),l)
  ck l:=some l
  le:=by
    intro l r _ h;cases h;exact⟨[],rfl,rfl,trivial⟩
  inv:=by
    intro l m r h hc;cases hc;exact⟨m,rfl,h⟩
  sm _ _:=trivial
  eq _ _:=true
  eqk _:=trivial
structure dM (f : Nat) (α β : Type) where
  a:α
  v:β
theorem zjL{l m:List PV}(e:RL qy l m)(k:Nat)(x y:PV)(hx:l[k]? = some x)(hy:m[k]? = some y):qy x y:=by
 obtain⟨z,hz,r⟩:=RL.get e k x hx;rw[hy]at hz;cases hz;exact r
theorem zv0{h:Fz}{f:FuncId}{a b l m:List PV}{v:Value}(e0:RL qy a b)(e:RL qy l m)(r:Rep h (.fn f a l) v):Rep h (.fn f b m) v :=
 @Rep.up ⟨0⟩ _ _ _ (.fn f a b l m e0.length (zjL e0) e.length (zjL e)) _ r
theorem zv1{h:Fz}{f:FuncId}{a l:List PV}{v:Value}(r:Rep h (.fn f a l) v):RS a a/\RS l l:=by
 letI:aH:=⟨0⟩;cases r with
 | fn _ _ _ fv cv h1 h2 hf hc =>
  refine⟨RL.of_get rfl λj a b ha hb=>?_,RL.of_get rfl λj a b ha hb=>?_⟩;rw [ha]at hb;cases hb;obtain⟨w,hw⟩:=pz h1 ha;exact(hf j a w ha hw).un;rw [ha]at hb;cases hb;obtain⟨w,hw⟩:=pz h2 ha;exact(hc j a w ha hw).un
instance {f : Nat} {α β : Type} [bD α] [bD β] : iV (dM f α β) where
  enc x:=.one (.fn f (bD.enc x.a) (bD.enc x.v))
  dec a:=match a with | .one (.fn _ k l)=>⟨(bD.dec k).1,(bD.dec l).1⟩|_=>⟨(bD.dec []).1,(bD.dec []).1⟩
  ck a:=match a with | .one (.fn g k l)=>Nat.beq g f&&(Qw (bD.ck (α:=α) k)&&Qw (bD.ck (α:=β) l))|_=>false
  up:=by
    intro h a v r hc
    match a,r,hc with
    | .one (.fn g k l),r,hc =>
      simp only[Bool.and_eq_true]at hc;have e:=Nat.eq_of_beq_eq_true hc.1;subst e;have r:Rep h (.fn g k l) v:=r;exact zv0 (oK (α:=α) (g:=λ_=>k) (λ_ _=>(zv1 r).1) hc.2.1 0) (oK (α:=β) (g:=λ_=>l) (λ_ _=>(zv1 r).2) hc.2.2 0) r
  eq a b:=bD.eq a.a b.a&&bD.eq a.v b.v
  eqk:=by
    intro h a b v he r;rw[Bool.and_eq_true]at he;exact zv0 (bD.eqk he.1) (bD.eqk he.2) r
instance {α β : Type} [iV α] [iV β] : iV (α ⊕ β) where
  enc x:=match x with | .inl x=>iV.enc x | .inr x=>iV.enc x
  dec a:=match iV.ck (α:=α) a with|true=>.inl (iV.dec a)|false=>.inr (iV.dec a)
  ck a:=iV.ck (α:=α) a||iV.ck (α:=β) a
  up:=by
    intro h a v r hc;cases hb:iV.ck (α:=α) a with|true=>exact iV.up r hb|false=>rw[hb]at hc;exact iV.up r hc
  eq a b:=match a,b with | .inl a,.inl b=>iV.eq a b | .inr a,.inr b=>iV.eq a b|_,_=>false
  eqk:=by
    intro h a b v he r
    match a,b,he with|.inl a,.inl b,he=>exact iV.eqk he r|.inr a,.inr b,he=>exact iV.eqk he r
/-! Functions that hand back nothing but an error, or a pointer. -/
section
variable{α β τ A:Type}
def zzb(r:α ⊕ β)(f:α->Option A)(g:β->Option A):Option A:=match r with|.inl a=>f a|.inr b=>g b
def ae.alt(r:α ⊕ β)(f:α->ae τ)(g:β->ae τ):ae τ:=⟨λk=>zzb r (λa=>(f a).T k) (λb=>(g b).T k),λk=>by
 cases r with|inl a=>exact(f a).nat k|inr b=>exact(g b).nat k⟩
variable [aH]{δ ε ρ:Type}[dA δ][dA ε][dA ρ]
def zjM(k:ε ⊕ ρ→Option A):List PA→Option A
  | .one .nilp::r=>match dA.ck (α:=ε) r with|true=>k (.inl (dA.dec r))|false=>none
  | l=>match dA.ck (α:=ρ) l with|true=>k (.inr (dA.dec l))|false=>none
def zzc:List PA→ae (ε ⊕ ρ)|.one .nilp::r=>.chk (dA.ck (α:=ε) r) (.ok (.inl (dA.dec r)))|l=>.chk (dA.ck (α:=ρ) l) (.ok (.inr (dA.dec l)))
def ae.tyA(C:List PA->ae (List PA))(x:δ):ae (ε ⊕ ρ):=(C (dA.enc x)).bind zzc
def ae.unA(F:δ->ae (ε ⊕ ρ))(args:List PA):ae (List PA):=.chk (dA.ck (α:=δ) args) ((F (dA.dec args)).bind λr=>.alt r (λe=>.ok (.one .nilp::dA.enc e)) λp=>.ok (dA.enc p))
theorem zjN{P:Program}{f:FuncId}{C:List PA->ae (List PA)}(h:Ok P f C):Ok P f (ae.unA (ae.tyA C:δ->ae (ε ⊕ ρ))):=by
 intro args rs hr w h0 vs jE hw;obtain⟨h1,h2⟩:=ae.chk_o hr;obtain⟨r,h3,h4⟩:=ae.bind_o h2;obtain⟨l,h5,h6⟩:=ae.bind_o h3;obtain⟨hc,h9⟩:=h _ _ h5 w h0 vs (dA.up jE h1) hw;have fin:∀(h':Fz)(v:Value),qV h' l v->qV h' rs v:=by
  intro h' v hv;unfold zzc at h6;split at h6
  ·obtain ⟨h7, h8⟩ := ae.chk_o h6;have h8:=ae.ok_o h8;subst h8;cases ae.ok_o h4;refine Ep (λ vs jE=>?_) hv
   match vs,jE with|v::vs,jE=>exact⟨jE.1,dA.up jE.2 h7⟩|[],jE=>exact jE.elim
  obtain⟨h7,h8⟩:=ae.chk_o h6;have h8:=ae.ok_o h8;subst h8;cases ae.ok_o h4;exact Ep (λvs jE=>dA.up jE h7) hv
 refine⟨hc,h9.mono ?_⟩;rintro e w' ⟨h',v,he,hv,r⟩;exact⟨h',v,he,fin h' v hv,r⟩
theorem zv3{P:Program}{Γ:bI}{N:Nat}{aQ:dG}{f:FuncId}{x:δ}{k:ε ⊕ ρ->Option A}:(ae.tyA (aF P N Γ aQ f) x:ae (ε ⊕ ρ)).T k=runT P Γ N aQ f (zjM k) (dA.enc x):=by
 rw[<- runT_eq];show(aF P N Γ aQ f (dA.enc x)).T _=_;congr 1;funext l;unfold zzc zjM;split;cases dA.ck (α:=ε) _<;>rfl;cases dA.ck (α:=ρ) l<;>rfl
end
/-! Iterators. -/
def ae.tyI [aH]{δ ε:Type}[dA δ][dA ε](C:List PA->ae (List (List PA)))(x:δ):ae (List ε):=(C (dA.enc x)).bind λl=>.chk (l.all (dA.ck (α:=ε))) (.ok (l.map dA.dec))
def ae.unI [aH]{δ ε:Type}[dA δ][dA ε](I:δ->ae (List ε))(caps:List PA):ae (List (List PA)):=.chk (dA.ck (α:=δ) caps) ((I (dA.dec caps)).mp (List.map dA.enc))
theorem Ud [aH]{P:Program}{f:FuncId}{δ ε:Type}[dA δ][dA ε]{C:List PA->ae (List (List PA))}(h:Bf P f C):Bf P f (ae.unI (ae.tyI C:δ->ae (List ε))):=by
  intro caps ys hr l J Jx Rp w h0 vs sJ sX hy hj jE hw;obtain⟨h1,h2⟩:=ae.chk_o hr;obtain⟨r,h3,h4⟩:=ae.mp_o h2;obtain⟨ls,h5,h6⟩:=ae.bind_o h3;obtain⟨h7,h8⟩:=ae.chk_o h6;have h8:=ae.ok_o h8;subst h8 h4
  obtain ⟨hc, h9⟩ := h _ _ h5 l (fun ys h W => ys.all (dA.ck (α := ε)) = true ∧ J ((ys.map (dA.dec (α := ε))).map dA.enc) h W)
    (λys h W=>Jx ((ys.map (dA.dec (α:=ε))).map dA.enc) h W) Rp w h0 vs
    (λys h W h' W' a b c d e=>⟨a.1,sJ _ _ _ _ _ a.2 b c d e⟩) (λys h W h' W' a b c d e=>sX _ _ _ _ _ a b c d e)
    (λy rest h W us hJ hu hW n=>by
      obtain⟨hk,hJ⟩:=hJ;rw[qd4,fQ]at hk;obtain⟨fn,tmps,ah,bd,e1,e2⟩:=hy _ _ _ _ _ hJ (dA.up hu hk.1) hW n;refine⟨fn,tmps,ah,bd,e1,e2.mono ?_⟩;rintro e W' (⟨h',a,b,c|c⟩|c);exact .inl ⟨h',a,b,.inl ⟨c.1,hk.2,c.2⟩⟩;exact .inl ⟨h',a,b,.inr c⟩;exact .inr c)
    ⟨h7,hj⟩ (dA.up jE h1) hw
  refine⟨hc,h9.mono ?_⟩;rintro e W' (⟨v,h',a,b,c,d⟩|c)
  rotate_left
  exact .inr c;refine .inl ⟨v,h',a,b,c,?_⟩;rcases d with d|⟨rest,d⟩
  exact .inl d.2;exact .inr ⟨_,d⟩
section
variable(P:Program)(Γ:bI)(N:Nat)
def atY(aQ:dG):Code→List Nat→List Nat→VV→Bool→St→YO
  | .seq a b,0::p,r,K=>atY aQ a p r (skY P aQ (jQ b) (vW P Γ N aQ b) K)
  | .seq _ b,_::p,r,K=>atY aQ b p r K
  | .cond _ a _,0::p,r,K=>atY aQ a p r K
  | .cond _ _ b,_::p,r,K=>atY aQ b p r K
  | .block id b,_::p,r,K=>atY aQ b p r (bkY id K)
  | .scope b,_::p,r,K=>atY aQ b p r (zHv K)
  | .loop b,_::p,n::r,K=>match lk aQ.head (jQ b)with|some k=>atY aQ b p r (lkY P k (zjE P k (vW P Γ N aQ b) K n) K)|none=>λ_ _=>none
  | .loop b,[],n::_,K=>match lk aQ.head (jQ b)with|some k=>zjE P k (vW P Γ N aQ b) K n|none=>λ_ _=>none
  | c,[],_,K=>vW P Γ N aQ c K
  | _,_,_,_=>λ_ _=>none
def ptY(aQ:dG)(f:FuncId)(p r:List Nat)(σ:St):YO :=
 match P.funcs[f]? with
 | some fn=>match fn.body with|some c=>atY P Γ N aQ c p r zvX false σ|none=>none
 | none=>none
end
/-! Data in states. -/
def eP [aH]{α:Type}[iV α](x:α):DV:=.one (JU (iV.enc x))
def eB{α:Type}[bD α](t:Nat)(x:α):AO:=.box t ((bD.enc x).map .p)
def eV{α:Type}[bD α](e s b:Nat)(w:Sl α):AO:=.vec e s b w.len (λi=>bD.enc (w.get i))
/-! Slices that grow, of typed data. -/
abbrev aJ(n:Int):Int:=IntKind.wrap .i64 n
def room(n b:Nat):Bool:=decide (n*b<=140737488355328/\n<=9223372036854775807)
section
variable{α:Type}[bD α]
def zzd(g:Nat->α)(r:Nat->List PV)(i:Nat):α:=(bD.dec (nzG (bD.enc (g 0)) r i)).1
def iR(n:Nat)(g h:Nat->α):Nat->α:=zzd g (appG n (λi=>bD.enc (g i)) λi=>bD.enc (h i))
def X5(l:List α):Nat->α:=λi=>(bD.dec (nzG (BQ (l.map bD.enc) 0) (BQ (l.map bD.enc)) i)).1
def xZ(g:Nat->α)(n i:Nat):α:=g (i+n)
class tZ (α : Type) [bD α] : Prop where
  de:∀x:α,(bD.dec (bD.enc x)).1=x
instance [Inhabited α][tZ α]:tZ (Sl α):=⟨λx=>by
 obtain⟨n,f⟩:=x;show(⟨n,λi=>(bD.dec (bD.enc (f i))).1⟩:Sl α)=⟨n,f⟩;congr 1;funext i;exact tZ.de (f i)⟩
variable [tZ α]
theorem zpU{g:Nat->α}{r:Nat->List PV}{i:Nat}{x:α}(h:r i=bD.enc x):zzd g r i=x:=by
 unfold zzd nzG;rw[h,mV (uD 8) (bD.sm _ _),tZ.de]
theorem jA(n:Nat)(g h:Nat->α)(i:Nat):iR n g h i=if n<=i then h (i-n)else g i:=by
 refine zpU ?_;unfold appG;cases hb:Nat.ble n i with|true=>rw[eU (qdZ hb)]|false=>rw[eY λhh=>by rw[qj0 hh]at hb;cases hb]
end
end Go.Pm
namespace Go.Pm
section
variable(P:Program)(Γ:bI){A ρ:Type}(N:Nat)
def zpV(fin:St->Option ρ)(K:ρ->Option A):EK A:=λe s=>match e with
 | .normal=>match fin s with|some r=>K r|none=>none
 | .ret=>match fin s with|some r=>K r|none=>none
 | _=>none
def zpW(aQ:dG)(f:FuncId)(n:Nat)(g:Code->Bool)(σ:St)(fin:Func->St->Option ρ)(K:ρ->Option A):Option A :=
 match P.funcs[f]? with
 | some fn=>match fn.body with
  | some c=>match Nat.beq aQ.nt fn.ntmps&&Nat.ble n aQ.nt&&g c with|true=>yF P Γ N aQ c (zpV (fin fn) K) σ|false=>none
  | none=>none
 | none=>none
def ptG(aQ:dG)(f:FuncId)(p:List Nat)(r:List zpS)(fin:Func->St->Option ρ)(K:ρ->Option A)(σ:St):Option A :=
 match P.funcs[f]? with
 | some fn=>match fn.body with|some c=>atT P Γ N aQ c p r (zpV (fin fn) K) σ|none=>none
 | none=>none
end
theorem zdy{P:Program}{Γ:bI}{A ρ:Type}{N:Nat}{aQ:dG}{f:FuncId}{n:Nat}{g:Code→Bool}{σ:St}{fin:Func→St→Option ρ}{K:ρ→Option A} :
  (XY P N Γ aQ f n g σ fin).T K=zpW P Γ N aQ f n g σ fin K:=by
 unfold XY zpW;cases P.funcs[f]? with
 | none=>rfl
 | some fn =>
  simp only;cases fn.body with
  | none=>rfl
  | some c =>
   simp only;cases Nat.beq aQ.nt fn.ntmps&&Nat.ble n aQ.nt&&g c with
   | false=>rfl
   | true =>
    simp only;rw[NI];show(vcC P Γ N aQ c _).T _=(vcC P Γ N aQ c _).T _;congr 1;funext r;obtain⟨e,s⟩:=r;cases e with|normal=>simp only[zpV,ae.opt];cases fin fn s<;>rfl|ret=>simp only[zpV,ae.opt];cases fin fn s<;>rfl|_=>rfl
section
variable(P:Program)(Γ:bI){A ρ:Type}(N:Nat)
def zpX(fin:Exit->St->Option ρ)(K:ρ->Option A):EK A:=λe s=>match fin e s with|some r=>K r|none=>none
def zpY(aQ:dG)(f:FuncId)(n:Nat)(g:Code->Bool)(σ:St)(fin:Func->Exit->St->Option ρ)(K:ρ->Option A):Option A :=
 match P.funcs[f]? with
 | some fn=>match fn.body with
  | some c=>match Nat.beq aQ.nt fn.ntmps&&Nat.ble n aQ.nt&&g c with|true=>yF P Γ N aQ c (zpX (fin fn) K) σ|false=>none
  | none=>none
 | none=>none
def ptM(aQ:dG)(f:FuncId)(p:List Nat)(r:List zpS)(fin:Func->Exit->St->Option ρ)(K:ρ->Option A)(σ:St):Option A :=
 match P.funcs[f]? with
 | some fn=>match fn.body with|some c=>atT P Γ N aQ c p r (zpX (fin fn) K) σ|none=>none
 | none=>none
end
theorem zdz{P:Program}{Γ:bI}{A ρ:Type}{N:Nat}{aQ:dG}{f:FuncId}{n:Nat}{g:Code→Bool}{σ:St}{fin:Func→Exit→St→Option ρ}{K:ρ→Option A} :
  (zjF P N Γ aQ f n g σ fin).T K=zpY P Γ N aQ f n g σ fin K:=by
 unfold zjF zpY;cases P.funcs[f]? with
 | none=>rfl
 | some fn =>
  simp only;cases fn.body with
  | none=>rfl
  | some c =>
   simp only;cases Nat.beq aQ.nt fn.ntmps&&Nat.ble n aQ.nt&&g c with
   | false=>rfl
   | true =>
    simp only;rw[NI];show(vcC P Γ N aQ c _).T _=(vcC P Γ N aQ c _).T _;congr 1;funext r;obtain⟨e,s⟩:=r;show(ae.opt (fin fn e s)).T K=zpX (fin fn) K e s;unfold zpX;cases fin fn e s<;>rfl
/-! A slice of one's own. -/
variable [aH]
theorem Be.up{h:Fz}{w:World}{base e s n:Nat}{v:Value}{g g':Nat->List PV}(hg:∀i,RL qy (g i) (g' i))(H:Be h w base e s v n g):Be h w base e s v n g':=by
 obtain⟨xs,h1,h2⟩:=H;exact⟨xs,h1,λi hi=>BZ (hg i) (h2 i hi)⟩
section
variable{δ α β A:Type}[dA δ][bD α][bD β]
abbrev VR:=Nat×(Nat->List PV)×List PV
def vrC(r:VR):Bool:=Qw (bD.ck (α:=β) r.2.2)&&Qw (bD.ck (α:=α) (r.2.1 0))
def vrD(r:VR):Sl α×β:=(⟨r.1,λi=>(bD.dec (r.2.1 i)).1⟩,(bD.dec r.2.2).1)
def ae.tyV(C:List PA->ae VR)(x:δ):ae (Sl α×β):=(C (dA.enc x)).bind λr=>.chk (vrC (α:=α) (β:=β) r) (.ok (vrD r))
def ae.unV(F:δ->ae (Sl α×β))(args:List PA):ae VR:=.chk (dA.ck (α:=δ) args) ((F (dA.dec args)).mp λw=>(w.1.len,λi=>bD.enc (w.1.get i),bD.enc w.2))
theorem zjO{v:Value}{xs:List Value}{rs Qe:List PV}(h:rs.length=Qe.length):WE v xs rs=WE v xs Qe:=by
 cases rs with
 | nil=>cases Qe with|nil=>rfl|cons=>cases h
 | cons=>cases Qe with|nil=>cases h|cons=>rfl
theorem zbf{P:Program}{f:FuncId}{e s b:Nat}{C:List PA->ae VR}(h:gI P f (.mkv e s b C)):gI P f (.mkv e s b (ae.unV (ae.tyV C:δ->ae (Sl α×β)))):=by
 intro w hz az vs n get rs hr ha hw;obtain⟨h1,h2⟩:=ae.chk_o hr;obtain⟨w',h3,h4⟩:=ae.mp_o h2;obtain⟨⟨n',g',Qe⟩,h5,h6⟩:=ae.bind_o h3;obtain⟨h7,h8⟩:=ae.chk_o h6;have h8:=ae.ok_o h8;subst h8;cases h4;have h7:(Qw (bD.ck (α:=β) Qe)&&Qw (bD.ck (α:=α) (g' 0)))=true:=h7;rw[fQ]at h7;obtain⟨hc,hk⟩:=h w hz _ vs _ _ _ h5 (dA.up ha h1) hw;refine⟨hc,hk.mono ?_⟩;rintro r w2 ⟨h',v',xs,a1,a2,a3,a4,a5,a6⟩;have e:RL qy Qe (bD.enc (bD.dec (α:=β) Qe).1):=oK (α:=β) (g:=λ_=>Qe) (λ_ _=>yV a2) h7.1 0;exact⟨h',v',xs,by rw[a1];exact jZ _ (zjO e.length),BZ e a2,a3,λ_ _=>bD.sm _ _,a5.up (oK a4 h7.2),a6⟩
def zbg(k:Sl α×β->Option A)(r:VR):Option A:=match vrC (α:=α) (β:=β) r with|true=>k (vrD r)|false=>none
abbrev zbh(e s b:Nat)(fn:Func)(σ:St):Option VR:=XZ fn e s b σ
theorem zjP{P:Program}{Γ:bI}{N:Nat}{aQ:dG}{f:FuncId}{e s b:Nat}{x:δ}{k:Sl α×β→Option A} :
  (ae.tyV (aK P N Γ aQ f e s b) x).T k=zpW P Γ N aQ f (dA.enc x).length (λ_=>true) ⟨jm 0 (dA.enc x),[],[]⟩ (zbh e s b) (zbg k):=by
 rw[<- zdy];show(aK P N Γ aQ f e s b (dA.enc x)).T _=_;rfl
end
/-! What is given to be changed, as typed data. -/
class XaC (α : Type) (ε : outParam Type) where
  enc:α->XA
  dec:XA->α
  ck:XA->Bool
  up:∀ [dD] {P:Program} {h:Fz} {w:World} {B:Nat} {x:XA} {v:Value},Af P h w B x v->ck x=true->Af P h w B (enc (dec x)) v/\WF w (enc (dec x)) v=WF w x v
  put:α->ε->XA
  out:XA->ε
  cko:α->XA->Bool
  outk:∀ [dD] {P:Program} {h h':Fz} {w w':World} {B:Nat} {a:α} {y:XA} {v:Value},Af P h w B (enc a) v->(∀p x,Rep h p x->Rep h' p x)->Af P h' w' B y v->cko a y=true ->
    Af P h' w' B (put a (out y)) v/\WF w' (put a (out y)) v=WF w' y v
class lC (δ : Type) (ε : outParam Type) where
  enc:δ->List XA
  dec:List XA->δ
  ck:List XA->Bool
  up:∀ [dD] {P:Program} {h:Fz} {w:World} {B:Nat} {xs:List XA} {vs:List Value},RL (Af P h w B) xs vs->ck xs=true->RL (Af P h w B) (enc (dec xs)) vs/\nO w (enc (dec xs)) vs=nO w xs vs
  put:δ->ε->List XA
  out:List XA->ε
  cko:δ->List XA->Bool
  outk:∀ [dD] {P:Program} {h h':Fz} {w w':World} {B:Nat} {a:δ} {ys:List XA} {vs:List Value},RL (Af P h w B) (enc a) vs->(∀p x,Rep h p x->Rep h' p x)->RL (Af P h' w' B) ys vs->cko a ys=true ->
    RL (Af P h' w' B) (put a (out ys)) vs/\nO w' (put a (out ys)) vs=nO w' ys vs
instance : lC Unit Unit where
  enc _:=[]
  dec _:=()
  ck l:=l.isEmpty
  up:=by
    intro _ P h w B xs vs r hc;cases xs with|nil=>exact⟨r,rfl⟩|cons=>cases hc
  put _ _:=[]
  out _:=()
  cko _ l:=l.isEmpty
  outk:=by
    intro _ P h h' w w' B a ys vs _ _ r hc;cases ys with|nil=>exact⟨r,rfl⟩|cons=>cases hc
instance {α ε δ ζ : Type} [XaC α ε] [lC δ ζ] : lC (α × δ) (ε × ζ) where
  enc x:=XaC.enc x.1::lC.enc x.2
  dec l:=(XaC.dec (l.headD (.d (.agg []))),lC.dec l.tail)
  ck l:=match l with|x::r=>XaC.ck (α:=α) x&&lC.ck (δ:=δ) r|[]=>false
  up:=by
    intro _ P h w B xs vs r hc
    match xs,vs,r,hc with
    | x::xs,v::vs,r,hc =>
      rw[Bool.and_eq_true]at hc;obtain⟨a1,a2⟩:=XaC.up r.1 hc.1;obtain⟨b1,b2⟩:=lC.up r.2 hc.2;refine⟨⟨a1,b1⟩,?_⟩;show _++_=_++_;exact congr (congrArg _ a2) b2
  put x o:=XaC.put x.1 o.1::lC.put x.2 o.2
  out l:=(XaC.out α (l.headD (.d (.agg []))),lC.out δ l.tail)
  cko a l:=match l with|x::r=>XaC.cko a.1 x&&lC.cko a.2 r|[]=>false
  outk:=by
    intro _ P h h' w w' B a ys vs ra hle r hc
    match ys,vs,ra,r,hc with
    | y::ys,v::vs,ra,r,hc =>
      rw[Bool.and_eq_true]at hc;obtain⟨a1,a2⟩:=XaC.outk ra.1 hle r.1 hc.1;obtain⟨b1,b2⟩:=lC.outk ra.2 hle r.2 hc.2;refine⟨⟨a1,b1⟩,?_⟩;show _++_=_++_;exact congr (congrArg _ a2) b2
instance {α : Type} [iV α] : XaC α Unit where
  enc x:=.d (iV.enc x)
  dec x:=match x with | .d a=>iV.dec a|_=>iV.dec (.agg [])
  ck x:=match x with | .d a=>iV.ck (α:=α) a|_=>false
  up:=by
    intro _ P h w B x v r hc
    match x,r,hc with|.d a,r,hc=>exact⟨iV.up r hc,rfl⟩
  put x _:=.d (iV.enc x)
  out _:=()
  cko _ y:=match y with | .d _=>true|_=>false
  outk:=by
    intro _ P h h' w w' B a y v ra hle r hc
    match y,r,hc with|.d b,r,hc=>exact⟨zdl hle ra,rfl⟩
structure Bc (ty : Nat) (α : Type) where
  v:α
def xcP:List XC→Option (List PV)
  | []=>some []
  | .p v::r=>match xcP r with|some l=>some (v::l)|none=>none
  | _::_=>none
theorem zjR:∀{cs:List XC}{l:List PV},xcP cs=some l->cs=l.map .p:=by
 intro cs
 induction cs with
 | nil=>intro l h;cases h;rfl
 | cons c cs ih =>
  intro l h;cases c with
  | p v =>
   unfold xcP at h;split at h;rename_i l' e;cases h;rw[ih e];rfl;cases h
  | _=>cases h
theorem zdB [dD]{P:Program}{h:Fz}{w:World}{B:Nat}:∀{l:List PV}{vs:List Value},RL (xcR P h w B) (l.map XC.p) vs↔RL (Rep h) l vs:=by
 intro l
 induction l with
 | nil=>intro vs;cases vs<;>exact Wp
 | cons x l ih=>intro vs;cases vs with|nil=>exact Wp|cons v vs=>exact and_congr Wp ih
theorem zjS:∀{l:List PV}{vs:List Value},vM (l.map XC.p) vs=[]:=by
 intro l
 induction l with
 | nil=>intro vs;cases vs<;>rfl
 | cons x l ih=>intro vs;cases vs with|nil=>rfl|cons v vs=>exact ih
theorem zjT{w:World}{ty ty':Nat}{cs ds:List XC}{v:Value}(h:∀vs,vM cs vs=vM ds vs):WF w (.box ty cs) v=WF w (.box ty' ds) v:=by
 cases v with
 | pointer a=>cases a with
  | none=>rfl
  | some a =>
   show a.block::_=a.block::_;congr 1;cases w.heap[a.block]? with
   | none=>rfl
   | some o=>cases o with|cells C t l=>exact h C.toList|_=>rfl
 | _=>rfl
theorem zv6{w:World}{ty:Nat}{l m:List PV}{v:Value}:WF w (.box ty (l.map .p)) v=WF w (.box ty (m.map .p)) v:=zjT λ_=>by rw[zjS,zjS]
instance {ty : Nat} {α : Type} [bD α] : XaC (Bc ty α) α where
  enc x:=.box ty ((bD.enc x.v).map .p)
  dec x:=match x with | .box _ cs=>⟨(bD.dec ((xcP cs).getD [])).1⟩|_=>⟨(bD.dec []).1⟩
  ck x:=match x with | .box t cs=>Nat.beq t ty&&(match xcP cs with|some l=>Qw (bD.ck (α:=α) l)|none=>false)|_=>false
  up:=by
    intro _ P h w B x v r hc
    match x,r,hc with
    | .box t cs,r,hc =>
      rw[Bool.and_eq_true]at hc;cases Nat.eq_of_beq_eq_true hc.1;cases e:xcP cs with
      | none=>rw[e]at hc;cases hc.2
      | some l =>
        rw[e]at hc;have e2:=zjR e;subst e2;obtain⟨k,C,h1,h2,h3⟩:=r;have h3:=zdB.1 h3;have h4:RL qy l (bD.enc (bD.dec (α:=α) l).1):=oK (α:=α) (g:=λ_=>l) (λ_ _=>yV h3) hc.2 0;refine⟨⟨k,C,h1,h2,?_⟩,?_⟩;show RL _ ((bD.enc (bD.dec (α:=α) ((xcP (l.map XC.p)).getD [])).1).map XC.p) _;rw[e];exact zdB.2 (BZ h4 h3);exact zv6
  put _ o:=.box ty ((bD.enc o).map .p)
  out x:=match x with | .box _ cs=>(bD.dec ((xcP cs).getD [])).1|_=>(bD.dec []).1
  cko _ x:=match x with | .box t cs=>Nat.beq t ty&&(match xcP cs with|some l=>Qw (bD.ck (α:=α) l)|none=>false)|_=>false
  outk:=by
    intro _ P h h' w w' B a y v ra hle r hc
    match y,r,hc with
    | .box t cs,r,hc =>
      rw[Bool.and_eq_true]at hc;cases Nat.eq_of_beq_eq_true hc.1;cases e:xcP cs with
      | none=>rw[e]at hc;cases hc.2
      | some l =>
        rw[e]at hc;have e2:=zjR e;subst e2;obtain⟨k,C,h1,h2,h3⟩:=r;have h3:=zdB.1 h3;have h4:RL qy l (bD.enc (bD.dec (α:=α) l).1):=oK (α:=α) (g:=λ_=>l) (λ_ _=>yV h3) hc.2 0;refine⟨⟨k,C,h1,h2,?_⟩,?_⟩;show RL _ ((bD.enc (bD.dec (α:=α) ((xcP (l.map XC.p)).getD [])).1).map XC.p) _;rw[e];exact zdB.2 (BZ h4 h3);exact zv6
structure Bw (ty e s b : Nat) (α : Type) where
  v:Sl α
def bwE{α:Type}[bD α](ty e s b:Nat)(w:Sl α):XA:=.box ty [.vec e s b w.len λi=>bD.enc (w.get i)]
theorem zv7 [dD]{P:Program}{h:Fz}{w:World}{B ty e s b n:Nat}{v:Value}{g g':Nat->List PV}(hg:∀i,RL qy (g i) (g' i))(hu:uC g')(r:Af P h w B (.box ty [.vec e s b n g]) v):Af P h w B (.box ty [.vec e s b n g']) v:=by
 obtain⟨k,C,h1,h2,h3⟩:=r;refine⟨k,C,h1,h2,?_⟩
 match C.toList,h3 with
 | [x],h3 =>
  obtain⟨⟨a1,a2,a3,a4⟩,_⟩:=h3;exact⟨⟨a1,⟨hu,a2.2⟩,a3,a4.up hg⟩,trivial⟩
theorem zjU [dD]{P:Program}{h:Fz}{w:World}{B ty e s b n:Nat}{v:Value}{g:Nat->List PV}(r:Af P h w B (.box ty [.vec e s b n g]) v):uC g:=by
 obtain⟨k,C,h1,h2,h3⟩:=r
 match C.toList,h3 with|[x],h3=>exact h3.1.2.1.1
instance {ty e s b : Nat} {α : Type} [Inhabited α] [bD α] : XaC (Bw ty e s b α) (Sl α) where
  enc x:=bwE ty e s b x.v
  dec x:=match x with | .box _ [.vec _ _ _ n g]=>⟨⟨n,λi=>(bD.dec (g i)).1⟩⟩|_=>⟨⟨0,λ_=>default⟩⟩
  ck x:=match x with | .box t [.vec e' s' b' _ g]=>Nat.beq t ty&&(Nat.beq e' e&&(Nat.beq s' s&&(Nat.beq b' b&&Qw (bD.ck (α:=α) (g 0)))))|_=>false
  up:=by
    intro _ P h w B x v r hc
    match x,r,hc with
    | .box t [.vec e' s' b' n g],r,hc =>
      simp only[Bool.and_eq_true]at hc;cases Nat.eq_of_beq_eq_true hc.1;cases Nat.eq_of_beq_eq_true hc.2.1;cases Nat.eq_of_beq_eq_true hc.2.2.1;cases Nat.eq_of_beq_eq_true hc.2.2.2.1;exact⟨zv7 (oK (zjU r) hc.2.2.2.2) (λ_ _=>bD.sm _ _) r,zjT λvs=>by cases vs<;>rfl⟩
  put _ w:=bwE ty e s b w
  out x:=match x with | .box _ [.vec _ _ _ n g]=>⟨n,λi=>(bD.dec (g i)).1⟩|_=>⟨0,λ_=>default⟩
  cko _ x:=match x with | .box t [.vec e' s' b' _ g]=>Nat.beq t ty&&(Nat.beq e' e&&(Nat.beq s' s&&(Nat.beq b' b&&Qw (bD.ck (α:=α) (g 0)))))|_=>false
  outk:=by
    intro _ P h h' w w' B a y v ra hle r hc
    match y,r,hc with
    | .box t [.vec e' s' b' n g],r,hc =>
      simp only[Bool.and_eq_true]at hc;cases Nat.eq_of_beq_eq_true hc.1;cases Nat.eq_of_beq_eq_true hc.2.1;cases Nat.eq_of_beq_eq_true hc.2.2.1;cases Nat.eq_of_beq_eq_true hc.2.2.2.1;exact⟨zv7 (oK (zjU r) hc.2.2.2.2) (λ_ _=>bD.sm _ _) r,zjT λvs=>by cases vs<;>rfl⟩
structure Bs(ty f np n:Nat) where
instance {ty f np n : Nat} : XaC (Bs ty f np n) Unit where
  enc _:=.box ty [.slf f np n]
  dec _:={}
  ck x:=match x with | .box t [.slf f' np' n']=>Nat.beq t ty&&(Nat.beq f' f&&(Nat.beq np' np&&Nat.beq n' n))|_=>false
  up:=by
    intro _ P h w B x v r hc
    match x,r,hc with
    | .box t [.slf f' np' n'],r,hc =>
      simp only[Bool.and_eq_true]at hc;cases Nat.eq_of_beq_eq_true hc.1;cases Nat.eq_of_beq_eq_true hc.2.1;cases Nat.eq_of_beq_eq_true hc.2.2.1;cases Nat.eq_of_beq_eq_true hc.2.2.2;exact⟨r,rfl⟩
  put _ _:=.box ty [.slf f np n]
  out _:=()
  cko _ x:=match x with | .box t [.slf f' np' n']=>Nat.beq t ty&&(Nat.beq f' f&&(Nat.beq np' np&&Nat.beq n' n))|_=>false
  outk:=by
    intro _ P h h' w w' B a y v ra hle r hc
    match y,r,hc with
    | .box t [.slf f' np' n'],r,hc =>
      simp only[Bool.and_eq_true]at hc;cases Nat.eq_of_beq_eq_true hc.1;cases Nat.eq_of_beq_eq_true hc.2.1;cases Nat.eq_of_beq_eq_true hc.2.2.1;cases Nat.eq_of_beq_eq_true hc.2.2.2;exact⟨r,rfl⟩
structure Bm (ty kt vt : Nat) (q : MQ) where
  n:Nat
  F:List Int->Option (List Int)
instance {ty kt vt : Nat} {q : MQ} [DecidableEq MQ] : XaC (Bm ty kt vt q) (Nat × (List Int → Option (List Int))) where
  enc x:=.box ty [.mo kt vt q x.n x.F]
  dec x:=match x with | .box _ [.mo _ _ _ n F]=>⟨n,F⟩|_=>⟨0,λ_=>none⟩
  ck x:=match x with | .box t [.mo k' v' q' _ _]=>Nat.beq t ty&&(Nat.beq k' kt&&(Nat.beq v' vt&&decide (q'=q)))|_=>false
  up:=by
    intro _ P h w B x v r hc
    match x,r,hc with
    | .box t [.mo k' v' q' n F],r,hc =>
      simp only[Bool.and_eq_true]at hc;cases Nat.eq_of_beq_eq_true hc.1;cases Nat.eq_of_beq_eq_true hc.2.1;cases Nat.eq_of_beq_eq_true hc.2.2.1;cases of_decide_eq_true hc.2.2.2;exact⟨r,rfl⟩
  put _ o:=.box ty [.mo kt vt q o.1 o.2]
  out x:=match x with | .box _ [.mo _ _ _ n F]=>(n,F)|_=>(0,λ_=>none)
  cko _ x:=match x with | .box t [.mo k' v' q' _ _]=>Nat.beq t ty&&(Nat.beq k' kt&&(Nat.beq v' vt&&decide (q'=q)))|_=>false
  outk:=by
    intro _ P h h' w w' B a y v ra hle r hc
    match y,r,hc with
    | .box t [.mo k' v' q' n F],r,hc =>
      simp only[Bool.and_eq_true]at hc;cases Nat.eq_of_beq_eq_true hc.1;cases Nat.eq_of_beq_eq_true hc.2.1;cases Nat.eq_of_beq_eq_true hc.2.2.1;cases of_decide_eq_true hc.2.2.2;exact⟨r,rfl⟩
class NpC (ρ : Type) [dA ρ] : Prop where
  np:∀{l:List PA},dA.ck (α:=ρ) l=true->Gv l=none/\Gv (dA.enc (dA.dec l:ρ))=none
instance:NpC Unit:=⟨fun {l} h=>by cases l with|nil=>exact⟨rfl,rfl⟩|cons=>cases h⟩
instance:NpC Int:=⟨fun {l} h=>by
 match l,h with
 | [.one v],h=>cases v with
  | int k x=>cases k<;>first|exact⟨rfl,rfl⟩|cases h
  | _=>cases h
 | [.agg _],h=>cases h
 | [],h=>cases h
 | _::_::_,h=>cases h⟩
section
variable{δ ε ρ A:Type}[lC δ ε][dA ρ][NpC ρ]
def ae.tyM(C:MK)(x:δ):ae (ρ×ε):=(C (lC.enc x)).bind λr=>.chk (dA.ck (α:=ρ) r.1&&lC.cko x r.2) (.ok (dA.dec r.1,lC.out δ r.2))
def ae.unM(F:δ->ae (ρ×ε)):MK:=λxs=>.chk (lC.ck (δ:=δ) xs) ((F (lC.dec xs)).mp λr=>(dA.enc r.1,lC.put (lC.dec xs:δ) r.2))
theorem zjV{P:Program}{f:FuncId}{C:MK}(H:jc P f C):jc P f (ae.unM (ae.tyM C:δ->ae (ρ×ε))):=by
 intro _ xs ys rs hr w h base vs hv hs hn hb hw jL;obtain⟨h1,h2⟩:=ae.chk_o hr;obtain⟨⟨r,o⟩,h3,h4⟩:=ae.mp_o h2;obtain⟨⟨Qe,qx⟩,h5,h6⟩:=ae.bind_o h3;obtain⟨h7,h8⟩:=ae.chk_o h6;cases ae.ok_o h8;cases h4;rw[fQ]at h7;obtain⟨u1,u2⟩:=lC.up hv h1;have:=H _ _ _ h5 w h base vs u1 hs (by rw[u2];exact hn) (by rw[u2];exact hb) hw jL;refine⟨this.1,this.2.mono ?_⟩;rintro e w' ⟨h',a2,a3,a4,a5,a6,a7,a8,a9⟩;rw[u2]at a5 a8 a9;obtain⟨b1,b2⟩:=lC.outk u1 (λ_ _ r=>Rep.mono a6 r) a3 h7.2;refine⟨h',?_,b1,?_,?_,a6,a7,a8,a9⟩;obtain⟨q1,q2⟩:=NpC.np h7.1;unfold PS at a2 ⊢;rw[q1]at a2;rw[q2];obtain⟨v,a1,a2⟩:=a2;exact⟨v,a1,Ep (λvs jE=>dA.up jE h7.1) a2⟩;show(nO w' (lC.put _ _) vs).Nodup;rw[b2];exact a4;show ∀b∈nO w' (lC.put _ _) vs,_;rw[b2];exact a5
def zHF(x:δ)(k:ρ×ε->Option A)(r:List PA×List XA):Option A:=match dA.ck (α:=ρ) r.1&&lC.cko x r.2 with|true=>k (dA.dec r.1,lC.out δ r.2)|false=>none
omit [NpC ρ]in
theorem zv8{P:Program}{Γ:bI}{N:Nat}{aQ:dG}{f:FuncId}{x:δ}{k:ρ×ε→Option A} :
    (ae.tyM (fun xs => aM P N Γ aQ f xs) x).T k = zpY P Γ N aQ f (lC.enc x).length (fun c => lS ((iI 0 (lC.enc x)).map (·.1)) && yu (uN 0 (lC.enc x)) (lC.enc x) && nR (uN 0 (lC.enc x)) (eG c))
      ⟨JD 0 (lC.enc x),iI 0 (lC.enc x),[]⟩ (zjH P (lC.enc x)) (zHF x k):=by
  rw[<- zdz];rfl
end
/-! A function without results that may panic. -/
section
variable{δ ε A:Type}[lC δ ε]{ty:Nat}
def pnD(ty:Nat):List PA→Option (Bool×Int)
  | []=>some (false,0)
  | [.one (.fna f [.int .i64 t,.int .i64 n])]=>match Nat.beq f 4294967295&&decide (t=ty)with|true=>some (true,n)|false=>none
  | _=>none
theorem zze{l:List PA}{q:Bool×Int}(h:pnD ty l=some q):l=cond q.1 (zyw ty .i64 q.2) []:=by
 unfold pnD at h;split at h;cases h;rfl;split at h;rename_i f t n hc;cases h;rw[fQ]at hc;cases lu hc.1;rw[qdE hc.2];rfl;cases h;cases h
def ae.tyP(ty:Nat)(C:MK)(x:δ):ae ((Bool×Int)×ε):=(C (lC.enc x)).bind λr=>match pnD ty r.1 with|some q=>.chk (lC.cko x r.2) (.ok (q,lC.out δ r.2))|none=>.no
def ae.unP(ty:Nat)(F:δ->ae ((Bool×Int)×ε)):MK:=λxs=>.chk (lC.ck (δ:=δ) xs) ((F (lC.dec xs)).bind λr=>.ite r.1.1 (.ok (zyw ty .i64 r.1.2,lC.put (lC.dec xs:δ) r.2)) (.ok ([],lC.put (lC.dec xs:δ) r.2)))
theorem zzf{P:Program}{f:FuncId}{C:MK}(H:jc P f C):jc P f (ae.unP ty (ae.tyP ty C:δ->ae ((Bool×Int)×ε))):=by
 intro _ xs ys rs hr w h base vs hv hs hn hb hw jL;obtain⟨h1,h2⟩:=ae.chk_o hr;obtain⟨⟨q,o⟩,h3,h4⟩:=ae.bind_o h2;obtain⟨⟨Qe,qx⟩,h5,h6⟩:=ae.bind_o h3;simp only at h6;split at h6
 rotate_left
 exact(ae.no_o h6).elim;rename_i q' hq;obtain⟨h7,h8⟩:=ae.chk_o h6;cases ae.ok_o h8;have h4:rs=Qe/\ys=lC.put (lC.dec xs:δ) (lC.out δ qx):=by
  have e:=zze hq;obtain⟨b,n⟩:=q;cases b with|true=>cases ae.ok_o h4;exact⟨e.symm,rfl⟩|false=>cases ae.ok_o h4;exact⟨e.symm,rfl⟩
 obtain⟨rfl,rfl⟩:=h4;obtain⟨u1,u2⟩:=lC.up hv h1;have:=H _ _ _ h5 w h base vs u1 hs (by rw[u2];exact hn) (by rw[u2];exact hb) hw jL;refine⟨this.1,this.2.mono ?_⟩;rintro e w' ⟨h',a2,a3,a4,a5,a6,a7,a8,a9⟩;rw[u2]at a5 a8 a9;obtain⟨b1,b2⟩:=lC.outk u1 (λ_ _ r=>Rep.mono a6 r) a3 h7;refine⟨h',a2,b1,?_,?_,a6,a7,a8,a9⟩;show(nO w' (lC.put _ _) vs).Nodup;rw[b2];exact a4;show ∀b∈nO w' (lC.put _ _) vs,_;rw[b2];exact a5
def zpZ(ty:Nat)(x:δ)(k:(Bool×Int)×ε->Option A)(r:List PA×List XA):Option A:=match pnD ty r.1 with
 | some q=>match lC.cko x r.2 with|true=>k (q,lC.out δ r.2)|false=>none
 | none=>none
theorem zHG{P:Program}{Γ:bI}{N:Nat}{aQ:dG}{f:FuncId}{x:δ}{k:(Bool×Int)×ε→Option A} :
    (ae.tyP ty (fun xs => aM P N Γ aQ f xs) x).T k = zpY P Γ N aQ f (lC.enc x).length (fun c => lS ((iI 0 (lC.enc x)).map (·.1)) && yu (uN 0 (lC.enc x)) (lC.enc x) && nR (uN 0 (lC.enc x)) (eG c))
      ⟨JD 0 (lC.enc x),iI 0 (lC.enc x),[]⟩ (zjH P (lC.enc x)) (zpZ ty x k):=by
  rw[<- zdz];show(aM P N Γ aQ f (lC.enc x)).T _=(aM P N Γ aQ f (lC.enc x)).T _;congr 1;funext r;show ae.T (match pnD ty r.1 with|some q=>.chk (lC.cko x r.2) (.ok (q,lC.out δ r.2))|none=>.no) k=zpZ ty x k r;unfold zpZ;cases pnD ty r.1<;>rfl
end
/-! One function for two closures. -/
section
variable{α β γ ρ:Type}[iV α][iV β][iV γ][dA ρ]
def ae.two(F:α×β->ae ρ)(G:α×γ->ae ρ)(x:α×(β ⊕ γ)):ae ρ:=match x.2 with | .inl b=>F (x.1,b) | .inr c=>G (x.1,c)
theorem zjW{args:List PA}(h:dA.ck (α:=α×(β ⊕ γ)) args=true):(dA.ck (α:=α×β) args=true/\(dA.dec args:α×(β ⊕ γ))=((dA.dec args:α×β).1,.inl (dA.dec args:α×β).2))\/dA.ck (α:=α×γ) args=true/\(dA.dec args:α×(β ⊕ γ))=((dA.dec args:α×γ).1,.inr (dA.dec args:α×γ).2):=by
 match args,h with
 | [a,b],h =>
  have h:(iV.ck (α:=α) a&&iV.ck (α:=β ⊕ γ) b)=true:=h;rw[fQ]at h;have h2:(iV.ck (α:=β) b||iV.ck (α:=γ) b)=true:=h.2;cases hb:iV.ck (α:=β) b with
  | true =>
   refine .inl ⟨fQ _ _▸⟨h.1,hb⟩,?_⟩;show(iV.dec a,(match iV.ck (α:=β) b with|true=>Sum.inl (iV.dec b)|false=>Sum.inr (iV.dec b):β ⊕ γ))=_;rw[hb];rfl
  | false =>
   rw[hb]at h2;refine .inr ⟨fQ _ _▸⟨h.1,h2⟩,?_⟩;show(iV.dec a,(match iV.ck (α:=β) b with|true=>Sum.inl (iV.dec b)|false=>Sum.inr (iV.dec b):β ⊕ γ))=_;rw[hb];rfl
 | [a],h=>have h:(iV.ck (α:=α) a&&false)=true:=h;rw[qd7]at h;cases h
 | a::b::c::r,h=>have h:(iV.ck (α:=α) a&&false)=true:=h;rw[qd7]at h;cases h
theorem zzg{F:α×β->ae ρ}{G:α×γ->ae ρ}{args:List PA}{rs:List PA}(hr:(ae.un (ae.two F G) args).o=some rs):(ae.un F args).o=some rs\/(ae.un G args).o=some rs:=by
 obtain⟨h1,h2⟩:=ae.chk_o hr;rcases zjW h1 with⟨a,b⟩|⟨a,b⟩
 rw[b]at h2;left;unfold ae.un;rw[a];exact h2;rw[b]at h2;right;unfold ae.un;rw[a];exact h2
theorem uP{P:Program}{f:FuncId}{F:α×β->ae ρ}{G:α×γ->ae ρ}(h1:Ok P f (ae.un F))(h2:Ok P f (ae.un G)):Ok P f (ae.un (ae.two F G)):=by
 intro args rs hr;rcases zzg hr with h|h
 exact h1 args rs h;exact h2 args rs h
theorem zp0{τ υ:Type}[bD τ][bD υ]{P:Program}{f:FuncId}{e s b:Nat}{F:α×β->ae (Sl τ×υ)}{G:α×γ->ae (Sl τ×υ)}(h1:gI P f (.mkv e s b (ae.unV F)))(h2:gI P f (.mkv e s b (ae.unV G))):gI P f (.mkv e s b (ae.unV (ae.two F G))):=by
 intro w hz az vs n get rs hr;obtain⟨a1,a2⟩:=ae.chk_o hr;rcases zjW a1 with⟨a,b⟩|⟨a,b⟩
 rw[b]at a2;exact h1 w hz az vs n get rs (by unfold ae.unV;rw[a];exact a2);rw[b]at a2;exact h2 w hz az vs n get rs (by unfold ae.unV;rw[a];exact a2)
end
/-! Sorts of typed data. -/
section
variable{α:Type}[bD α]
def uQ(w:Sl α)(i:Nat):List PV:=bD.enc (w.get i)
def soP(C:List PA->ae (List PA))(caps:List PV)(ag:Bool)(w:Sl α):Bool:=(zyt w.len (λi j=>(Lc C caps ag (uQ w) i j).isSome) (oJ C caps ag (uQ w))).b
def soG(C:List PA->ae (List PA))(caps:List PV)(ag:Bool)(w:Sl α):Nat->α:=λi=>(bD.dec (Ld w.len (oJ C caps ag (uQ w)) (uQ w) i)).1
end
end Go.Pm
namespace Go.Pm
variable [aH]
open Go.RowKit (Below)
structure qZ where
  t1:Nat
  y1:TypeId
  t2:Nat
  y2:TypeId
  e:Bool
  ty:TypeId
def qZ.ok(pr:qZ):List PanicEntry→Bool|[⟨.iface ty (.agg ⟨[.int _ _]⟩),false,false⟩]=>Nat.beq ty pr.ty|_=>false
def zfO:List PanicEntry→List PanicEntry
  | [x]=>[{x with recovered:=true}]
  | l=>l
def stA (pr : qZ) : Oper := { dst := none, op := .store pr.y1 (.tmp pr.t1) (.const (.slice none 0 0)), type := 0, pos := "", after := #[], guard := none }
def stB (pr : qZ) : Oper := { dst := none, op := .store pr.y2 (.tmp pr.t2) (.const (.bool pr.e)), type := 0, pos := "", after := #[], guard := none }
def uf(pr:qZ):Array Oper:=#[stA pr,stB pr]
section
variable(P:Program)(Γ:bI)
def CO(pr:qZ)(fi:FuncId):Code→Option (Nat×Nat)
  | .region id ops false=>match ops.toList with
    | [o1,o2]=>match o1.op,o1.dst,o1.guard,o2.op,o2.dst,o2.guard with
      | .makeFunc (.func f) first caps,some t,none,.defer {callee:=.value (.tmp t'),args,argTypes:=_},none,none=>match caps.toList with
        | [.tmp c1,.tmp c2]=>match Nat.beq f fi&&Nat.beq t t'&&first.isEmpty&&args.isEmpty&&Nat.beq c1 pr.t1&&Nat.beq c2 pr.t2 && !Nat.beq t pr.t1 && !Nat.beq t pr.t2 with|true=>some (id,t)|false=>none
        | _=>none
      | _,_,_,_,_,_=>none
    | _=>none
  | _=>none
def pnK(dn:Bool)(K:Exit->St->Prop)(e:Exit)(s:St):Prop:=match e with
 | .panic ch=>match dn with|true=>K (.panic ch) s|false=>False
 | e=>K e s
def pnC(dn:Bool):Exit×St→ae (Exit×St)
  | (.panic ch,s)=>match dn with|true=>.ok (.panic ch,s)|false=>.no
  | r=>.ok r
def BI(pr:qZ)(fi:FuncId)(aQ:dG):Bool→Code→(Exit→St→Prop)→St→Prop
  | dn,.seq a b,K,σ=>match CO pr fi a with
    | some (id,t)=>match Nat.blt t aQ.nt && !dn&&nR [pr.t1,pr.t2] (eG b)with|true=>ze2 P aQ id (BI pr fi aQ true b K) ⟨(t,.junk)::σ.env,σ.ax,[]⟩|false=>False
    | none=>vc P Γ aQ a (ze5 (BI pr fi aQ dn b K) (pnK dn K)) σ
  | dn,c,K,σ=>vc P Γ aQ c (pnK dn K) σ
def seC(dn:Bool)(go:St→ae (Exit×St)):Exit×St→ae (Exit×St)|(.normal,s)=>go s|r=>pnC dn r
def uS(N:Nat)(pr:qZ)(fi:FuncId)(aQ:dG):Bool→Code→St→ae (Exit×St)
  | dn,.seq a b,σ=>match CO pr fi a with
    | some (id,t)=>match Nat.blt t aQ.nt && !dn&&nR [pr.t1,pr.t2] (eG b)with|true=>(En P aQ id ⟨(t,.junk)::σ.env,σ.ax,[]⟩).bind (uS N pr fi aQ true b)|false=>.no
    | none=>(vcC P Γ N aQ a σ).bind (seC dn (uS N pr fi aQ dn b))
  | dn,c,σ=>(vcC P Γ N aQ c σ).bind (pnC dn)
def zjX(pr:qZ)(aQ:dG)(fn:Func):Exit×St→ae (List PA)
  | (.normal,s)=>.opt (kX P s fn.results.toList)
  | (.ret,s)=>.opt (kX P s fn.results.toList)
  | (.panic ch,s)=>match pr.ok ch with
    | true=>(pY P Γ aQ.nt (uf pr) 0 (uf pr).toList {s with log:=[]}).bind λs=>.opt (kX P s fn.results.toList)
    | false=>.no
  | _=>.no
def aD(N:Nat)(pr:qZ)(fi:FuncId)(aQ:dG)(f:FuncId)(args:List PA):ae (List PA) :=
 match P.funcs[f]? with
 | some fn=>match fn.body with
  | some c=>match Nat.beq aQ.nt fn.ntmps&&Nat.ble args.length aQ.nt&&nR [IC] (eG c)with|true=>(uS P Γ N pr fi aQ false c ⟨jm 0 args,[],[]⟩).bind (zjX P Γ pr aQ fn)|false=>.no
  | none=>.no
 | none=>.no
def zzh(pr:qZ)(aQ:dG)(fn:Func)(K:List PA→Prop):Exit→St→Prop
  | .ret,σ=>BX P fn K σ
  | .normal,σ=>BX P fn K σ
  | .panic ch,σ=>pr.ok ch=true/\kE P Γ aQ.nt (uf pr) 0 (uf pr).toList (BX P fn K) {σ with log:=[]}
  | _,_=>False
def Ue(pr:qZ)(fi:FuncId)(aQ:dG)(f:FuncId)(args:List PA)(K:List PA->Prop):Prop :=
 match P.funcs[f]? with
 | some fn=>match fn.body with
  | some c=>match Nat.beq aQ.nt fn.ntmps&&Nat.ble args.length aQ.nt&&nR [IC] (eG c)with|true=>BI P Γ pr fi aQ false c (zzh P Γ pr aQ fn K) ⟨jm 0 args,[],[]⟩|false=>False
  | none=>False
 | none=>False
end
section
variable{P:Program}{Γ:bI}{B:Nat}{w0:World}{pr:qZ}
abbrev dfD(fi:FuncId)(v1 v2:Value):Deferred:={target:=.fn (.func fi) #[v1,v2],args:=#[]}
theorem NP{fi:FuncId}{c:Code}{id t:Nat}(h:CO pr fi c=some (id,t)):∃(o1 o2:Oper)(ats:Array TypeId),c=.region id #[o1,o2] false/\t≠pr.t1/\t≠pr.t2/\o1.op=.makeFunc (.func fi) #[] #[.tmp pr.t1,.tmp pr.t2]/\o1.dst=some t/\o1.guard=none /\
  o2.op=.defer {callee:=.value (.tmp t),args:=#[],argTypes:=ats}/\o2.dst=none/\o2.guard=none:=by
 unfold CO at h;split at h;rename_i id' ops;split at h;rename_i o1 o2 zEy;split at h;rename_i f first caps t' t2 args ats e1 e2 e3 e4 e5 e6
 split at h;rename_i c1 c2 zHH;split at h;rename_i hc;simp only[fQ]at hc;simp only[bM,gq]at h;obtain⟨rfl,rfl⟩:=h;obtain⟨⟨⟨⟨⟨⟨⟨h1,h2⟩,h3⟩,h4⟩,h5⟩,h6⟩,h7⟩,h8⟩:=hc;have h1:=lu h1;have h2:=lu h2;have h3:first = #[]:=by simpa using h3
 have h4:args = #[]:=by simpa using h4
 have h5:=lu h5;have h6:=lu h6;have h7:t'≠pr.t1:=qdA (by simpa using h7);have h8:t'≠pr.t2:=qdA (by simpa using h8);have h9:caps = #[.tmp c1,.tmp c2]:=by rw[<- qdp (xs:=caps),zHH]
 subst h1 h2 h3 h4 h9;rw[h5,h6]at e1;refine⟨o1,o2,ats,?_,h7,h8,e1,e2,e3,e4,e5,e6⟩;rw[<- qdp (xs:=ops),zEy];cases h;cases h;cases h;cases h;cases h
theorem zbi{fi:FuncId}(zoa:∀caps:Array Value,caps.size=2→IE P {target := .fn (.func fi) caps,args := #[]}){c:Code}{id t nt n:Nat}{h0:Fz}{a:Act}{σ:St}{g:Gh}{w:World}{Q:Exit→Act→World→Prop}
    (h:CO pr fi c=some (id,t)) (ht:t<nt) (S:bU P nt B w0 h0 g σ a w)
    (hQ:∀a',bU P nt B w0 h0 g ⟨(t,.junk)::σ.env,σ.ax,[]⟩ a' w->a'.defers=dfD fi (a.tmps.getD pr.t1 undef) (a.tmps.getD pr.t2 undef)::a.defers->(∀u,u≠t->a'.tmps.getD u undef=a.tmps.getD u undef)->Q .normal a' w):c.wpIn (FR none) n P Q a w:=by
  obtain⟨o1,o2,ats,rfl,n1,n2,e1,e2,e3,e4,e5,e6⟩:=NP h;refine wpIn_region ?_;show wpOpsIn (FR none) n P #[o1,o2] Q [0,1] a w;have w1:∀tm,Region.wanted o1 (yielded #[o1,o2] tm)=true:=λtm=>by simp[Region.wanted,e3]
  have w2:∀tm,Region.wanted o2 (yielded #[o1,o2] tm)=true:=λtm=>by simp[Region.wanted,e6]
  have r1:(execOp a.eval o1).run P w=.ok (.value (.func (.func fi) #[] #[a.tmps.getD pr.t1 undef,a.tmps.getD pr.t2 undef])) w:=by
    simp only[execOp,e1,Instr.makeFunc,Sem.run_bind,Sem.run_pure,Result.andThen_ok];simp[Act.eval]
  have ets:t<a.tmps.size:=qdw ht S.size;have ev:(a.put (some t) (.func (.func fi) #[] #[a.tmps.getD pr.t1 undef,a.tmps.getD pr.t2 undef])).eval (.tmp t)=.func (.func fi) #[] #[a.tmps.getD pr.t1 undef,a.tmps.getD pr.t2 undef]:=by
    simp[Act.put,Act.eval,yB,ets]
  have r2:(execOp (a.put (some t) (.func (.func fi) #[] #[a.tmps.getD pr.t1 undef,a.tmps.getD pr.t2 undef])).eval o2).run P w=.ok (.defer (dfD fi (a.tmps.getD pr.t1 undef) (a.tmps.getD pr.t2 undef))) w:=by
    simp only[execOp,e4,resolve,Sem.run_bind,ev,Deferred.ofValue,Sem.run_pure,Result.andThen_ok];simp
  show(if Region.wanted o1 (yielded #[o1,o2] a.tmps)then o1.wpIn (FR none) n P a w (wpOpsIn (FR none) n P #[o1,o2] Q [1]) Q else _);rw[eU (w1 _)];refine⟨λ_ _=>trivial,?_⟩;rw[show o1.semAt (FR none).round a.eval=execOp a.eval o1 from rfl,r1];show wpOpsIn (FR none) n P #[o1,o2] Q [1] (a.put o1.dst _) w;rw[e2];show(if Region.wanted o2 (yielded #[o1,o2] (a.put (some t) _).tmps)then o2.wpIn (FR none) n P (a.put (some t) _) w (wpOpsIn (FR none) n P #[o1,o2] Q []) Q else _);rw[eU (w2 _)];refine⟨λ_ _=>trivial,?_⟩;have r3:Sem.run P (o2.semAt (FR none).round (a.put (some t) (.func (.func fi) #[] #[a.tmps.getD pr.t1 undef,a.tmps.getD pr.t2 undef])).eval) w=.ok (.defer (dfD fi (a.tmps.getD pr.t1 undef) (a.tmps.getD pr.t2 undef))) w:=r2;rw[r3];have S1:=S.put (dst:=some t) (d:=.junk) (v:=.func (.func fi) #[] #[a.tmps.getD pr.t1 undef,a.tmps.getD pr.t2 undef]) (by simpa [dH,qjl]using ht) trivial (λL hL=>by simp[bY,dC,bg]at hL) [];rw[Oper.uponIn_defer,e5];refine hQ _ (S1.act ?_ ?_ ?_) rfl λu hu=>?_;obtain⟨es,m1,m2,m3,m4⟩:=S1.dfr;refine⟨.inr (dfD fi (a.tmps.getD pr.t1 undef) (a.tmps.getD pr.t2 undef))::es,m1,?_,λE hE=>?_,λd hd=>?_⟩;rw[lM,<- m2];rfl;rcases jV.1 hE with e|hE
  cases e;exact m3 E hE;rcases jV.1 hd with e|hd
  cases e;exact zoa _ rfl;exact m4 d hd;exact S1.size;exact S1.env;simp[Act.put,yB,qdK (qjV hu)]
def Kt(P:Program)(nt B:Nat)(w0:World)(h0:Fz)(pr:qZ)(fi:FuncId)(K:Exit->St->Prop):Exit->Act->World->Prop :=
 λe a' w'=>∃g' σ',K e σ'/\bU P nt B w0 h0 g' σ' a' w'/\∀ch,e=.panic ch->a'.defers=[dfD fi (a'.tmps.getD pr.t1 undef) (a'.tmps.getD pr.t2 undef)]
def PhD(pr:qZ)(fi:FuncId)(D:List Nat)(a0:Act):Bool→Prop|false=>a0.defers=[]|true=>a0.defers=[dfD fi (a0.tmps.getD pr.t1 undef) (a0.tmps.getD pr.t2 undef)]/\pr.t1∉D/\pr.t2∉D
theorem zdC{a b:List Nat}(h:nR a b=true):∀t∈a,t∉b:=λt ht hb=>by
 have:=yL.1 h t ht;simp at this;exact this hb
theorem zp1(gp:jw P Γ){fi:FuncId}(zoa:∀caps:Array Value,caps.size=2→IE P {target := .fn (.func fi) caps,args := #[]})
    (aQ:dG):∀(c:Code)(dn:Bool)(n:Nat)(h0:Fz)(D:List Nat)(a0:Act)(K:Exit->St->Prop)(σ:St)(g:Gh)(a:Act)(w:World),
    (∀t∈eG c,t∈D)->IC∉D->PhD pr fi D a0 dn->BI P Γ pr fi aQ dn c K σ->bU P aQ.nt B w0 h0 g σ a w->Kp D a0 a->c.wpIn (FR none) n P (Kt P aQ.nt B w0 h0 pr fi K) a w:=by
  intro c;have out:∀{dn:Bool}{h0:Fz}{D:List Nat}{a0:Act}{K:Exit->St->Prop}{g':Gh}{σ':St}{a':Act}{w':World}{e:Exit},IC∉D->PhD pr fi D a0 dn->pnK dn K e σ'->bU P aQ.nt B w0 h0 g' σ' a' w'->Kp D a0 a'->Kt P aQ.nt B w0 h0 pr fi K e a' w':=by
    intro dn h0 D a0 K g' σ' a' w' e hr hph hK S' hk;cases e with
    | panic ch =>
      cases dn with
      | false=>exact hK.elim
      | true =>
        obtain⟨p1,p2,p3⟩:=hph;exact⟨g',σ',hK,S',λ_ _=>by rw[hk.2.2.1 hr,p1,hk.1 _ p2,hk.1 _ p3]⟩
    | normal=>exact⟨g',σ',hK,S',λ_ e=>by cases e⟩
    | exit id=>exact⟨g',σ',hK,S',λ_ e=>by cases e⟩
    | goto l=>exact⟨g',σ',hK,S',λ_ e=>by cases e⟩
    | ret=>exact⟨g',σ',hK,S',λ_ e=>by cases e⟩
    | outgrown=>exact⟨g',σ',hK,S',λ_ e=>by cases e⟩
  have leaf:∀(c:Code),(∀dn K σ,BI P Γ pr fi aQ dn c K σ=vc P Γ aQ c (pnK dn K) σ)->∀(dn:Bool)(n:Nat)(h0:Fz)(D:List Nat)(a0:Act)(K:Exit->St->Prop)(σ:St)(g:Gh)(a:Act)(w:World),
      (∀t∈eG c,t∈D)->IC∉D->PhD pr fi D a0 dn->BI P Γ pr fi aQ dn c K σ->bU P aQ.nt B w0 h0 g σ a w->Kp D a0 a->c.wpIn (FR none) n P (Kt P aQ.nt B w0 h0 pr fi K) a w:=by
    intro c hc dn n h0 D a0 K σ g a w hD hr hph h S kZ;rw[hc]at h;exact wpIn_mono (rJ (Nz gp aQ c none n h0 D a0 _ σ g a w hD (Rnd.none h0) h S kZ)) λe a' w' ⟨g',σ',hK,S',hk⟩=>out hr hph hK S' hk
  induction c with
  | seq x y _ ihy =>
    intro dn n h0 D a0 K σ g a w hD hr hph h S kZ;have hDx:∀t∈eG x,t∈D:=λt ht=>hD t (dR.2 (.inl ht));have hDy:∀t∈eG y,t∈D:=λt ht=>hD t (dR.2 (.inr ht));simp only[BI]at h;split at h;rename_i id t Gg;split at h;rename_i iF;simp only[fQ,JS]at iF;obtain⟨⟨ht,hdn⟩,hdj⟩:=iF;subst hdn;have ht:t<aQ.nt:=by simpa [qjl]using ht
    have hph:a0.defers=[]:=hph;refine wpIn_seq (zbi zoa Gg ht S λa' S' gG htm=>?_);have hd:=zdC hdj;obtain⟨_,_,_,rfl,n1,n2,_⟩:=NP Gg;have zSC:PhD pr fi (eG y) a' true:=by
      refine⟨?_,hd _ (by simp),hd _ (by simp)⟩;rw[gG,kZ.2.2.1 hr,hph,htm _ (qjV n1),htm _ (qjV n2)]
    have hk:∀s g2,BI P Γ pr fi aQ true y K s->bU P aQ.nt B w0 h0 g2 s a' w->y.wpIn (FR none) n P (Kt P aQ.nt B w0 h0 pr fi K) a' w:=λs g2 hv S2 =>
      ihy true n h0 (eG y) a' K s g2 a' w (λ_ h=>h) (λh=>hr (hDy _ h)) zSC hv S2 (Kp.refl _ _)
    unfold ze2 at h;split at h;split at h;rename_i s hs;obtain⟨g2,S2⟩:=eQ hs S';exact hk s g2 h S2;exact h.elim;exact hk _ g h S';exact h.elim
    · refine wpIn_seq (wpIn_mono (rJ (Nz gp aQ x none n h0 D a0 _ σ g a w hDx (Rnd.none h0) h S kZ)) ?_);rintro e a' w' ⟨g',σ',hK,S',jO⟩;cases e with|normal=>exact ihy dn n h0 D a0 K σ' g' a' w' hDy hr hph hK S' jO|exit id=>exact out hr hph hK S' jO|goto l=>exact out hr hph hK S' jO|ret=>exact out hr hph hK S' jO|panic ch=>exact out hr hph hK S' jO|outgrown=>exact out hr hph hK S' jO
  | skip=>exact leaf _ λdn K σ=>rfl
  | region i o d=>exact leaf _ λdn K σ=>rfl
  | cond c x y=>exact leaf _ λdn K σ=>rfl
  | block i x=>exact leaf _ λdn K σ=>rfl
  | loop x=>exact leaf _ λdn K σ=>rfl
  | scope x=>exact leaf _ λdn K σ=>rfl
  | exit i=>exact leaf _ λdn K σ=>rfl
  | goto i=>exact leaf _ λdn K σ=>rfl
  | label i=>exact leaf _ λdn K σ=>rfl
  | ret=>exact leaf _ λdn K σ=>rfl
  | rangeFunc f p x y=>exact leaf _ λdn K σ=>rfl
  | refuse x=>exact leaf _ λdn K σ=>rfl
theorem zp2{n:Nat}{a:Act}{w:World}{Q:Exit→Act→World→Prop}(h:wpOpsIn (FR none) n P (uf pr) Q [0,1] a w)(hQ:∀ch a' w',¬Q (.panic ch) a' w') :
  ∃w1 w2,(Instr.storeAt pr.y1 (a.tmps.getD pr.t1 undef) (.slice none 0 0)).run P w=.ok () w1/\(Instr.storeAt pr.y2 (a.tmps.getD pr.t2 undef) (.bool pr.e)).run P w1=.ok () w2/\Q .normal a w2:=by
 have one:∀(o:Oper)(ty:TypeId)(t:Nat)(v:Value)(w:World)(next:Act->World->Prop),o.op=.store ty (.tmp t) (.const v)->o.dst=none->o.wpIn (FR none) n P a w next Q->∃w1,(Instr.storeAt ty (a.tmps.getD t undef) v).run P w=.ok () w1/\next a w1:=by
  intro o ty t v w next ho hd h
  obtain⟨_,h⟩:=h;have e:o.semAt (FR none).round a.eval=(do Instr.storeAt ty (a.tmps.getD t undef) v;pure .skip):=by
   show execOp a.eval o=_;simp only[execOp,ho];rfl
  rw[e]at h;simp only[Sem.run_bind]at h;cases hr:(Instr.storeAt ty (a.tmps.getD t undef) v).run P w with
  | ok u w1 =>
   rw[hr]at h;simp only[Result.andThen_ok,Sem.run_pure,Oper.uponIn_skip,hd]at h;exact⟨w1,rfl,h⟩
  | halt hh w1 =>
   rw[hr]at h;cases hh with|panic v=>exact(hQ _ _ _ h).elim|_=>exact h.elim
 have w1:∀(o:Oper) tm,o.guard=none->Region.wanted o (yielded (uf pr) tm)=true:=λo tm e3=>by simp[Region.wanted,e3]
 have e0:(uf pr)[0]? = some (stA pr):=rfl;have e1:(uf pr)[1]? = some (stB pr):=rfl;simp only[wpOpsIn,e0,e1]at h;rw[eU (w1 _ _ rfl)]at h;obtain⟨wa,hr1,h⟩:=one _ _ _ _ _ _ rfl rfl h;rw[eU (w1 _ _ rfl)]at h;obtain⟨wb,hr2,h⟩:=one _ _ _ _ _ _ rfl rfl h;exact⟨wa,wb,hr1,hr2,h⟩
def zHJ(P:Program)(pr:qZ)(fi:FuncId):Prop:=∀(ch:List PanicEntry),pr.ok ch=true->∀(v1 v2:Value)(w:World),∃os:Array Obj,∀w1 w2,(Instr.storeAt pr.y1 v1 (.slice none 0 0)).run P {w with heap:=w.heap++os} = .ok () w1->(Instr.storeAt pr.y2 v2 (.bool pr.e)).run P w1=.ok () w2 ->
 (∀w,(invoke (dfD fi v1 v2).target (dfD fi v1 v2).args).run P w=.ok (.enter fi #[v1,v2]) w) /\
 ∀n,CallsDIn (FR none) n P fi #[v1,v2] (.panicking ch) w λe u' w'=>(∃v,e=.returned v)/\u'=.panicking (zfO ch)/\w'=w2
structure zzi (P : Program) (pr : qZ) (fi : FuncId) : Prop where
  idle:∀caps:Array Value,caps.size=2->IE P {target:=.fn (.func fi) caps,args:=#[]}
  pan:zHJ P pr fi
theorem zbj{ch:List PanicEntry}(h:pr.ok ch=true):settle (.panicking (zfO ch))=.returning:=by
 unfold qZ.ok at h;split at h;rfl;cases h
theorem zjY{G:bI}(gp:jw P G){f fi:FuncId}(H:zzi P pr fi){args:List PA}{K:List PA→Prop}{aQ:dG}(hv:Ue P G pr fi aQ f args K){w:World}{h0:Fz}{vs:List Value}(jE:RL (oC h0) args vs)(PH:Hw h0 w) :
    Calls P f vs.toArray w λ e w'=>∃ (h':Fz) (rs:List PA) (v:Value),K rs/\e=.returned v/\qV h' rs v/\yg h0 w.heap.size w w' /\
      ku h0 h'/\Hw h' w'/\∀b o,h' b=some o->h0 b=some o\/w.heap.size<=b:=by
  unfold Ue at hv;split at hv;rename_i fn uo;split at hv;rename_i c tq;split at hv;rename_i F5;simp only[fQ,VT]at F5;have S:=Rq (P:=P) (lu F5.1.1) F5.1.2 jE PH;have hwp:=zp1 (B:=w.heap.size) (w0:=w) gp H.idle aQ c false 0 h0 (eG c) {tmps:=vs.toArray++Array.replicate (fn.ntmps-vs.toArray.size) undef,defers:=[]} _ _ _ _ _ (λ_ h=>h) (zdC F5.2 _ (by simp)) rfl hv S (Kp.refl _ _);refine(callsIn_wide (n:=0)).1 ?_;refine callsIn_of_wp_marks (F:=FR none) uo tq trivial (wpIn_mono hwp ?_);have Rk:∀b,h0 b=some (.fz (.deferred (some [])))->b<w.heap.size:=λb h=>PH.lt h
  have res:∀σ' g2 a2 w2,BX P fn K σ'->bU P aQ.nt w.heap.size w h0 g2 σ' a2 w2->∃v,(results fn a2.tmps).run P w2=.ok v w2/\∃(h':Fz)(rs:List PA)(v':Value),K rs/\Ending.returned v=.returned v'/\qV h' rs v'/\yg h0 w.heap.size w w2 /\
      ku h0 h'/\Hw h' w2/\∀b o,h' b=some o->h0 b=some o\/w.heap.size<=b:=by
    intro σ' g2 a2 w2 hf S2;unfold BX at hf;split at hf;rename_i l hl;obtain⟨u,v,hu,df,o6⟩:=Je S2 hl;obtain⟨h',S3,F⟩:=S2.freeze hu;exact⟨v,df,h',l,v,hf,rfl,o6 h' F,S3.below,S3.le0,S3.hw,S3.hn⟩;exact hf.elim
  rintro e a' w' ⟨g',σ',xX,S',Gg⟩
  · have fin:BX P fn K σ'->LeavesInM (FR none) 0 P fn a'.tmps (λ e w'=>∃ (h':Fz) (rs:List PA) (v:Value),K rs/\e=.returned v/\qV h' rs v/\yg h0 w.heap.size w w' /\
        ku h0 h'/\Hw h' w'/\∀b o,h' b=some o->h0 b=some o\/w.heap.size<=b) a'.defers .returning w':=by
      intro hf;obtain⟨Ds,h1,h2,h3,h4⟩:=S'.dfr;exact Ak Rk Ds g' a' w' h1 h2 h3 h4 S' λg2 a2 w2 _ S2=>res σ' g2 a2 w2 hf S2
    cases e with
    | normal=>exact fin xX
    | ret=>exact fin xX
    | exit id=>exact xX.elim
    | goto l=>exact xX.elim
    | outgrown=>exact xX.elim
    | panic ch =>
    obtain⟨zHK,hvo⟩:=xX;have Gg:=Gg ch rfl;show LeavesInM (FR none) 0 P fn a'.tmps _ a'.defers (.panicking _) w';rw[Gg];obtain⟨os,zy2⟩:=H.pan ch zHK (a'.tmps.getD pr.t1 undef) (a'.tmps.getD pr.t2 undef) w';have fG:∀k,k<w'.heap.size->(w'.heap++os)[k]? = w'.heap[k]?:=λk hk=>qda hk
    have S1 : bU P aQ.nt w.heap.size w h0 g' σ' a' { w' with heap := w'.heap ++ os } := S'.world (h' := g'.h) (fun _ _ h => h) (S'.hw.same fun k o hk => fG k (S'.hw.lt hk)) (fun _ _ h => .inl h)
      ⟨rfl,rfl,rfl,by simp,jP _,λk hk=>fG k hk⟩
    have zEy:=IV (r:=none) (n:=0) (D:=[]) (a0:=a') (Q:=λe a2 w2=>e=.normal/\a2.tmps=a'.tmps/\∃g2 σ2,BX P fn K σ2/\bU P aQ.nt w.heap.size w h0 g2 σ2 a2 w2) gp (λj o ho t ht=>by
      match j,ho with|0,ho=>cases ho;cases ht|1,ho=>cases ho;cases ht|_+2,ho=>cases ho) hvo (S1.log []) (Kp.refl _ _) λσ2 hK g2 a2 w2 S2 hk2 _=>⟨rfl,?_,g2,σ2,hK,S2⟩
    obtain⟨w1,w2,hr1,hr2,_,_,g2,σ2,hf,S2⟩:=zp2 zEy fun ch a2 w2 h=>by cases h.1
    obtain⟨hinv,fM⟩:=zy2 w1 w2 hr1 hr2;refine⟨by simp,.inr ⟨(λh=>by cases h),.func fi,_,fi,_,rfl,hinv w',(λ_ _=>trivial),?_⟩⟩;refine(fM _).mono ?_;rintro e u' w3 ⟨⟨v,rfl⟩,rfl,rfl⟩;have Gn:settle (.panicking (zfO ch))=.returning:=zbj zHK;show LeavesInM (FR none) 0 P fn a'.tmps _ [] (settle (.panicking (zfO ch))) _;rw[Gn];exact res σ2 g2 a' _ hf S2;refine Array.ext (hk2.2.1) fun i h1 h2 => ?_;have:=hk2.1 i (by simp);rw[yB,yB,qdL h1,qdL h2]at this;exact this
  exact hv.elim;exact hv.elim;exact hv.elim
theorem Hq{dn:Bool}{r:Exit×St}{s:St}{e:Exit}{K:Exit->St->Prop}(h:(pnC dn r).o=some (e,s))(hK:K e s):pnK dn K r.1 r.2:=by
 obtain⟨e1,s1⟩:=r;cases e1 with
 | panic ch =>
  cases dn with|true=>cases ae.ok_o h;exact hK|false=>exact(ae.no_o h).elim
 | _=>cases ae.ok_o h;exact hK
theorem zfQ{N:Nat}{fi:FuncId}{aQ:dG}{K:Exit->St->Prop}:∀(c:Code)(dn:Bool)(σ s:St)(e:Exit),(uS P Γ N pr fi aQ dn c σ).o=some (e,s)->K e s->BI P Γ pr fi aQ dn c K σ:=by
 have other:∀(c:Code)(dn:Bool)(σ s:St)(e:Exit),((vcC P Γ N aQ c σ).bind (pnC dn)).o=some (e,s)->K e s->vc P Γ aQ c (pnK dn K) σ:=by
  intro c dn σ s e h hK;obtain⟨⟨e1,s1⟩,h1,h2⟩:=ae.bind_o h;exact TZ c _ _ _ _ h1 (Hq h2 hK)
 intro c
 induction c with
 | seq a b _ VZ =>
  intro dn σ s e h hK;simp only[uS]at h;simp only[BI];split at h;split at h;obtain⟨s1,h1,h2⟩:=ae.bind_o h;exact XV h1 (VZ _ _ _ _ h2 hK);exact(ae.no_o h).elim
  ·obtain⟨⟨e1,s1⟩,h1,h2⟩:=ae.bind_o h;refine TZ a _ _ _ _ h1 ?_;cases e1 with|normal=>exact VZ _ _ _ _ h2 hK|exit id=>exact Hq (K:=K) (dn:=dn) (r:=(.exit id,s1)) h2 hK|goto id=>exact Hq (K:=K) (dn:=dn) (r:=(.goto id,s1)) h2 hK|ret=>exact Hq (K:=K) (dn:=dn) (r:=(.ret,s1)) h2 hK|panic ch=>exact Hq (K:=K) (dn:=dn) (r:=(.panic ch,s1)) h2 hK|outgrown=>exact Hq (K:=K) (dn:=dn) (r:=(.outgrown,s1)) h2 hK
 | skip=>exact other .skip
 | region i o d=>exact other (.region i o d)
 | cond c a b=>exact other (.cond c a b)
 | block i b=>exact other (.block i b)
 | loop b=>exact other (.loop b)
 | rangeFunc f p a b=>exact other (.rangeFunc f p a b)
 | exit i=>exact other (.exit i)
 | scope b=>exact other (.scope b)
 | label l=>exact other (.label l)
 | goto l=>exact other (.goto l)
 | ret=>exact other .ret
 | refuse s=>exact other (.refuse s)
theorem zjZ{T:Tabs}(hT:au P T){f fi:FuncId}(hc:dw P f){N:Nat}{vv:List Nat}{aQ:dG}(H:zzi P pr fi):Ok P f (aD P (gQ T vv) N pr fi aQ f):=by
 intro args rs hr w h0 vs jE PH;have hv:Ue P (gQ T vv) pr fi aQ f args λQe=>Qe=rs:=by
  unfold aD at hr;unfold Ue;split at hr;rename_i fn uo;split at hr;rename_i c hb;split at hr
  ·obtain⟨⟨e,s⟩,h1,h2⟩:=ae.bind_o hr;refine zfQ c _ _ _ _ h1 ?_;cases e with
   | normal=>simp only[zzh,BX,ae.opt_o h2]
   | ret=>simp only[zzh,BX,ae.opt_o h2]
   | panic ch =>
    simp only[zjX]at h2;split at h2;rename_i hp;obtain⟨s2,h3,h4⟩:=ae.bind_o h2;exact⟨hp,qY _ _ _ _ h3 (by simp only[BX,ae.opt_o h4])⟩;exact(ae.no_o h2).elim
   | _=>exact(ae.no_o h2).elim
  exact(ae.no_o hr).elim;exact(ae.no_o hr).elim;exact(ae.no_o hr).elim
 refine⟨hc,(zjY (hT.all vv) H hv jE PH).mono ?_⟩;rintro e w' ⟨h',Qe,v,rfl,he⟩;exact⟨h',v,he⟩
end
end Go.Pm
namespace Go.Pm
section
variable(P:Program)(Γ:bI){A:Type}
def pnT(dn:Bool)(K:EK A):EK A:=λe s=>match e with
 | .panic ch=>match dn with|true=>K (.panic ch) s|false=>none
 | e=>K e s
def sqD(dn:Bool)(f:St->Option A)(K:EK A):EK A:=λe s=>match e with | .normal=>f s|e=>pnT dn K e s
def Hr(N:Nat)(pr:qZ)(fi:FuncId)(aQ:dG):Bool→Code→EK A→St→Option A
  | dn,.seq a b,K,σ=>match CO pr fi a with
    | some (id,t)=>match Nat.blt t aQ.nt && !dn&&nR [pr.t1,pr.t2] (eG b)with|true=>(En P aQ id ⟨(t,.junk)::σ.env,σ.ax,[]⟩).T (Hr N pr fi aQ true b K)|false=>none
    | none=>yF P Γ N aQ a (sqD dn (Hr N pr fi aQ dn b K) K) σ
  | dn,c,K,σ=>yF P Γ N aQ c (pnT dn K) σ
def zp3(pr:qZ)(aQ:dG)(fn:Func)(K:List PA->Option A):EK A:=λe s=>match e with
 | .normal=>match kX P s fn.results.toList with|some r=>K r|none=>none
 | .ret=>match kX P s fn.results.toList with|some r=>K r|none=>none
 | .panic ch=>match pr.ok ch with
  | true=>opsT P Γ aQ.nt (uf pr) (λs=>match kX P s fn.results.toList with|some r=>K r|none=>none) 0 (uf pr).toList {s with log:=[]}
  | false=>none
 | _=>none
def zzj(N:Nat)(pr:qZ)(fi:FuncId)(aQ:dG)(f:FuncId)(K:List PA->Option A)(args:List PA):Option A :=
 match P.funcs[f]? with
 | some fn=>match fn.body with
  | some c=>match Nat.beq aQ.nt fn.ntmps&&Nat.ble args.length aQ.nt&&nR [IC] (eG c)with|true=>Hr P Γ N pr fi aQ false c (zp3 P Γ pr aQ fn K) ⟨jm 0 args,[],[]⟩|false=>none
  | none=>none
 | none=>none
end
section
variable{P:Program}{Γ:bI}{A:Type}{N:Nat}{pr:qZ}{fi:FuncId}{aQ:dG}
theorem zj0{dn:Bool}{K:EK A}{r:Exit×St}:pnT dn K r.1 r.2=(pnC dn r).T λr=>K r.1 r.2:=by
 obtain⟨e,s⟩:=r;cases e with|panic ch=>cases dn<;>rfl|_=>rfl
theorem zHL{dn:Bool}{K:EK A}{c:ae (Exit×St)}:c.T (λr=>pnT dn K r.1 r.2)=(c.bind (pnC dn)).T λr=>K r.1 r.2:=by
 show c.T _=c.T _;congr 1;funext r;exact zj0
theorem zfR:∀(c:Code)(dn:Bool)(K:EK A)(σ:St),Hr P Γ N pr fi aQ dn c K σ=(uS P Γ N pr fi aQ dn c σ).T λr=>K r.1 r.2:=by
 intro c
 induction c with
 | seq a b _ ih =>
  intro dn K σ;simp only[Hr,uS];cases CO pr fi a with
  | some x =>
   obtain⟨id,t⟩:=x;simp only;cases Nat.blt t aQ.nt && !dn&&nR [pr.t1,pr.t2] (eG b)with
   | false=>rfl
   | true =>
    show(En P aQ id _).T _=(En P aQ id _).T _;congr 1;funext s;exact ih true K s
  | none =>
   simp only;rw[NI];show(vcC P Γ N aQ a σ).T _=(vcC P Γ N aQ a σ).T _;congr 1;funext r;obtain⟨e,s⟩:=r;cases e with|normal=>exact ih dn K s|panic ch=>exact zj0 (r:=(.panic ch,s))|_=>rfl
 | _ =>
  intro dn K σ;unfold Hr uS;rw[NI];exact zHL
theorem zp4{f:FuncId}{K:List PA->Option A}{args:List PA}:(aD P Γ N pr fi aQ f args).T K=zzj P Γ N pr fi aQ f K args:=by
 unfold aD zzj;cases P.funcs[f]? with
 | none=>rfl
 | some fn =>
  simp only;cases fn.body with
  | none=>rfl
  | some c =>
   simp only;cases Nat.beq aQ.nt fn.ntmps&&Nat.ble args.length aQ.nt&&nR [IC] (eG c)with
   | false=>rfl
   | true =>
    simp only;rw[zfR];show(uS P Γ N pr fi aQ false c _).T _=(uS P Γ N pr fi aQ false c _).T _;congr 1;funext r;obtain⟨e,s⟩:=r;cases e with
    | normal=>simp only[zp3,zjX,ae.opt];cases kX P s fn.results.toList<;>rfl
    | ret=>simp only[zp3,zjX,ae.opt];cases kX P s fn.results.toList<;>rfl
    | panic ch =>
     simp only[zp3,zjX];cases pr.ok ch with
     | false=>rfl
     | true =>
      simp only;rw[xu];show(pY P Γ aQ.nt (uf pr) 0 (uf pr).toList _).T _=(pY P Γ aQ.nt (uf pr) 0 (uf pr).toList _).T _;congr 1;funext s;simp only;cases kX P s fn.results.toList<;>rfl
    | _=>rfl
theorem zHM [aH]{δ ρ:Type}[dA δ][dA ρ]{f:FuncId}{x:δ}{k:ρ->Option A}:(ae.ty (aD P Γ N pr fi aQ f) x:ae ρ).T k=zzj P Γ N pr fi aQ f (iJ k) (dA.enc x):=by
 rw[<- zp4];show(aD P Γ N pr fi aQ f (dA.enc x)).T _=_;congr 1
end
end Go.Pm
namespace Go.Pm
variable [aH]
open Go.RowKit (Below)
section
variable{P:Program}
theorem zHN{h h3:Fz}{K:List Nat}{w w2:World}{B:Nat}{hx:Fz}(hK:∀b∈K,h b=none)(hw:Hw h w)(hle:ku (pinned h K w) h3)(hw3:Hw h3 w2)(hb:yg hx B w w2) :
  ∃h':Fz,(∀p x,Rep h3 p x->Rep h' p x)/\(∀b,h3 b=none->h' b=none/\(b∈K\/w.heap.size<=b))/\ku h h'/\Hw h' w2/\(∀b o,h' b=some o->h b=some o\/w.heap.size<=b\/b∈K)/\zaA h K w w2:=by
 let h':Fz:=λb=>match h3 b with|some (.pin _)=>h b|x=>x
 have hnp:∀b o,h3 b=some o->(∀x,o ≠ .pin x)->h' b=some o:=λb o hb hx=>by
  show(match h3 b with|some (.pin _)=>h b|x=>x)=some o;rw[hb];cases o with|pin x=>exact(hx x rfl).elim|_=>rfl
 have hpn:∀b x,h3 b=some (.pin x)->h' b=h b:=λb x hb=>by
  show(match h3 b with|some (.pin _)=>h b|x=>x)=h b;rw[hb]
 have hnn:∀b,h3 b=none->h' b=none:=λb hb=>by
  show(match h3 b with|some (.pin _)=>h b|x=>x)=none;rw[hb]
 have uO:∀b y,pinned h K w b=some y->h3 b=some y:=λb y hb=>hle b y hb;have iF:∀b,b<w.heap.size->∃o,w.heap[b]? = some o:=λb hb=>⟨_,qdL hb⟩;refine⟨h',(λp x hr=>hr.mono' λb o hb ho=>hnp b o hb λx e=>by subst e;obtain⟨C,ty,fr,e⟩:=ho;cases e),λb hb=>⟨hnn b hb,?_⟩,λb x hb=>?_,λb x hb=>?_,λb x hb=>?_,⟨hb.os,hb.tape,hb.output,hb.size,hb.drawn,λk hk hkK=>?_⟩⟩;by_cases hbs:b<w.heap.size;refine .inl ?_;rcases dW (h:=h) (K:=K) (w:=w) b with⟨o,_,h2,_⟩|⟨h2,_⟩|⟨_,h2⟩
 have:=uO b _ h2;rw[hb]at this;cases this;exact h2;obtain⟨o,ho⟩:=iF b hbs;rw[ho]at h2;have:=uO b _ h2;rw[hb]at this;cases this;exact .inr omY;rcases dW (h:=h) (K:=K) (w:=w) b with⟨o,h1,h2,KL⟩|⟨h2,_⟩|⟨_,h2⟩
 rw [h1]at hb;simp only [bM]at hb;subst hb;exact hnp b _ (uO b _ h2) λx e=>by subst e;obtain⟨C,ty,fr,e⟩:=KL;cases e
 rw[hK b h2]at hb;cases hb;obtain⟨o,ho⟩:=iF b (hw.lt hb);rw[ho]at h2;rw[hpn b _ (uO b _ h2)];exact hb
 ·cases h3b:h3 b with
  | none=>rw[hnn b h3b]at hb;cases hb
  | some y =>
   by_cases hy:∃o,y=.pin o;obtain⟨o,rfl⟩:=hy;rw[hpn b _ h3b]at hb;rcases dW (h:=h) (K:=K) (w:=w) b with⟨o',h1,h2,KL⟩|⟨h2,_⟩|⟨_,h2⟩
   have:=uO b _ h2;rw[h3b]at this;simp only[bM]at this;subst this;obtain⟨C,ty,fr,e⟩:=KL;cases e;rw[hK b h2]at hb;cases hb;obtain⟨o1,ho1,hx1⟩:=hw b x hb;rw[ho1]at h2;have:=uO b _ h2;rw[h3b]at this;simp only[bM,WC.pin.injEq]at this;subst this;obtain⟨o2,o9,Qj⟩:=hw3 b _ h3b;simp only[WC.ok]at Qj;subst Qj;exact⟨_,o9,hx1⟩;rw [hnp b y h3b fun x e=>hy ⟨x,e⟩]at hb;simp only[bM]at hb;subst hb;exact hw3 b _ h3b
 ·cases h3b:h3 b with
  | none=>rw[hnn b h3b]at hb;cases hb
  | some y =>
   by_cases hy:∃o,y=.pin o;obtain⟨o,rfl⟩:=hy;rw[hpn b _ h3b]at hb;exact .inl hb;rw [hnp b y h3b fun x e=>hy ⟨x,e⟩]at hb;simp only[bM]at hb;subst hb;by_cases hbs:b<w.heap.size;rcases dW (h:=h) (K:=K) (w:=w) b with⟨o',h1,h2,KL⟩|⟨h2,_⟩|⟨_,h2⟩
   have:=uO b _ h2;rw[h3b]at this;simp only[bM]at this;subst this;exact .inl h1;exact .inr (.inr h2);obtain⟨o,ho⟩:=iF b hbs;rw[ho]at h2;have:=uO b _ h2;rw[h3b]at this;simp only[bM]at this;exact(hy ⟨_,this⟩).elim;exact .inr (.inl omY)
 rcases dW (h:=h) (K:=K) (w:=w) k with⟨o',h1,h2,KL⟩|⟨h2,_⟩|⟨_,h2⟩
 obtain⟨C,ty,fr,rfl⟩:=KL;rw[hw3.fz (uO k _ h2),hw.fz h1];exact(hkK h2).elim;obtain⟨o,ho⟩:=iF k hk;rw[ho]at h2 ⊢;obtain⟨o2,o9,Qj⟩:=hw3 k _ (uO k _ h2);simp only[WC.ok]at Qj;subst Qj;exact o9
def Uf(az:List PA)(e s b n:Nat)(get:Nat->List PV):St:=⟨jm 0 az++[(az.length,.cl (.vec 4095))],[(4095,.vec e s b n get)],[]⟩
theorem zj1{nt m:Nat}{az:List PA}{w:World}{h:Fz}{B:Nat}{vs:List Value}{v:Value}{e s b n:Nat}{get:Nat→List PV}(F5:nt=m)(hlen:az.length+1≤nt)(jE:RL (oC h) az vs)(l9:v.oneCell'=true)(iL:uC get∧0<s)
    (nN:∃i z,P.info? e=some i/\i.size=s/\i.bytes=b/\i.zero=some z/\z.cells.size=s) (hV:Be h w B e s v n get) (hK:∀k,v.ownBlock=some k->B<=k/\h k=none) (hw:Hw h w) (hB:B<=w.heap.size) :
    bU P nt B w (pinned h v.ownBlock.toList w) ⟨pinned h v.ownBlock.toList w,λ_=>0,λ_=>v,λ_ _=>undef⟩ (Uf az e s b n get) {tmps:=(vs++[v]).toArray++Array.replicate (m-(vs++[v]).toArray.size) undef,defers:=[]} w:=by
  have hl:=jE.length;have hlo:∀L o,lk [(4095,AO.vec e s b n get)] L=some o->L=4095/\o=.vec e s b n get:=λL o h=>by
    rw[aV]at h;split at h;rename_i e1;exact⟨e1.symm,(SH h).symm⟩;cases h
  have htm:∀t u,(vs++[v])[t]? = some u->((vs++[v]).toArray++Array.replicate (m-(vs++[v]).toArray.size) undef).getD t undef=u:=λt u hu=>by
    have iF:=(BP.1 hu).1;rw[yB,qda (by simpa using iF)];simp only[qjZ,hu,qdO]
  have zco:∀t d,lk (Uf az e s b n get).env t=some d->(∃x,az[t]? = some x/\d=.one (JU x))\/(t=az.length/\d=.cl (.vec 4095)):=λt d ht=>by
    have ht:lk (jm 0 az++[(az.length,DV.cl (.vec 4095))]) t=some d:=ht;rw[gZ]at ht;cases hk:lk (jm 0 az) t with
    | some y =>
      rw[hk]at ht;cases ht;obtain⟨x,hx,_,e1⟩:=rM az 0 t d hk;exact .inl ⟨x,by simpa using hx,e1⟩
    | none =>
      rw[hk]at ht;simp only[aV]at ht;split at ht;rename_i e1;exact .inr ⟨e1.symm,(SH ht).symm⟩;cases ht
  refine⟨Marks.nil _ _,by simp;omega,?_,?_,?_,?_,Rw hw,λ_ _ h=>h,λb o h=>.inl h,yg.refl _ _ _,hB,?_,?_⟩;intro t d ht;rcases zco t d ht with⟨x,hx,rfl⟩|⟨rfl,rfl⟩
  obtain⟨u,hu,ZY⟩:=jE.get t x hx;rw[htm t u (by rw[qjM (BP.1 hu).1];exact hu)];exact MI (g:=⟨pinned h v.ownBlock.toList w,λ_=>0,λ_=>v,λ_ _=>undef⟩) (xq (λp x hr=>xn hr) ZY);rw [htm az.length v (by rw [hl];simp)];exact⟨rfl,l9⟩;intro L o ho;obtain⟨rfl,rfl⟩:=hlo L o ho;obtain⟨xs,h1,h2⟩:=hV;exact⟨iL,nN,xs,h1,λi hi=>(h2 i hi).mono λ_ _ hr=>xn hr⟩;intro L o k ho hk;obtain⟨rfl,rfl⟩:=hlo L o ho;have hk:v.ownBlock=some k:=hk;refine⟨(hK k hk).1,?_⟩;show pinned h v.ownBlock.toList w k=none;rcases dW (h:=h) (K:=v.ownBlock.toList) (w:=w) k with⟨o,h1,_⟩|⟨_,h2⟩|⟨h2,_⟩
  rw[(hK k hk).2]at h1;cases h1;exact h2;exact(h2 (by rw[hk];simp)).elim;intro L o k L' o' ho kV _ _;rw[(hlo L o ho).1,(hlo L' o' kV).1];intro t d ht L hL;rcases zco t d ht with⟨x,hx,rfl⟩|⟨rfl,rfl⟩
  rw[show bY (.one (JU x))=dC (JU x)from rfl,xe]at hL;simp at hL;simp [bY,dC,bg]at hL;subst hL;exact⟨_,by show lk [(4095,AO.vec e s b n get)] 4095=_;rw[aV,eU rfl]⟩;intro L o ho M hM;obtain⟨rfl,rfl⟩:=hlo L o ho;simp[dS]at hM
def NQ(e s b:Nat)(fn:Func)(σ:St):Option (Nat×(Nat->List PV)):=match XZ fn e s b σ with|some (n,get,[])=>some (n,get)|_=>none
def aG(P:Program)(N:Nat)(Γ:bI)(aQ:dG)(f:FuncId)(e s b:Nat)(az:List PA)(n:Nat)(get:Nat->List PV):ae (Nat×(Nat->List PV)) :=
 XY P N Γ aQ f (az.length+1) (λ_=>true) (Uf az e s b n get) (NQ e s b)
theorem zj2{e s b m:Nat}{fn:Func}{σ:St}{get:Nat->List PV}(h:NQ e s b fn σ=some (m,get)):∃t L,fn.results = #[.tmp t]/\lk σ.env t=some (.one (.c (.vec L)))/\lk σ.ax L=some (.vec e s b m get):=by
 unfold NQ at h;split at h;rename_i n g hk;cases h;unfold XZ at hk;split at hk;rename_i t r hr;split at hk;rename_i L hL;split at hk;rename_i e' s' b' n' g' hO;split at hk;rename_i hc;cases hk;simp only[fQ]at hc;have e1:=lu hc.1;have e2:=lu hc.2.1;have e3:=lu hc.2.2;subst e1 e2 e3;exact⟨t,L,by rw[<- qdp (xs:=fn.results),hr],hL,hO⟩;split at hk;cases hk;cases hk;cases hk;cases hk;cases hk;cases hk;cases h
theorem zzk{G:bI}(gp:jw P G){N:Nat}{aQ:dG}{f:FuncId}{e s b:Nat}(hc:dw P f):gI P f (.grow e s b (aG P N G aQ f e s b)):=by
  intro w h base az vs v n get m get' hF jE l9 iL nN hV hK hw hB;refine⟨hc,?_⟩;obtain⟨fn,c,uo,tq,F5,_,hv⟩:=Ub hF;simp only[fQ,VT]at F5;have S:=zj1 (P:=P) (lu F5.1) F5.2 jE l9 iL nN hV hK hw hB;have hv:=hv (λex σ=>(match ex with | .normal=>True | .ret=>True|_=>False)/\NQ e s b fn σ=some (m,get')) (λs hs=>⟨⟨trivial,hs⟩,⟨trivial,hs⟩⟩);have hwp:=Nz (B:=base) (w0:=w) gp aQ c none 0 (pinned h v.ownBlock.toList w) (eG c) _ _ _ _ _ _ (λ_ h=>h) (Rnd.none _) hv S (Kp.refl _ _);refine(callsIn_wide (n:=0)).1 ?_;refine callsIn_of_wp_marks (F:=FR none) uo tq trivial (wpIn_mono (rJ hwp) ?_);have Rk:∀b,pinned h v.ownBlock.toList w b=some (.fz (.deferred (some [])))->b<base:=λb hb=>by
    rcases dW (h:=h) (K:=v.ownBlock.toList) (w:=w) b with⟨o,h1,h2,h3⟩|⟨_,h2⟩|⟨_,h2⟩
    rw [h2]at hb;simp only [bM]at hb;subst hb;obtain⟨C,ty,fr,e⟩:=h3;cases e;rw[h2]at hb;cases hb;rw [h2]at hb;obtain⟨o,_,e⟩:=dqP.1 hb;cases e
  rintro ex a' w' ⟨g',σ',⟨hex,hf⟩,S',kZ⟩;obtain⟨Ds,h1,h2,h3,h4⟩:=S'.dfr
  have fin:=Ak (n:=0) (fn:=fn) (R:=λ r w'=>∃ (h':Fz) (v':Value),r=.returned v'/\v'.oneCell'=true/\uC get'/\Be h' w' base e s v' m get' /\
        (∀k,v'.ownBlock=some k->(k∈v.ownBlock.toList\/w.heap.size<=k)/\h' k=none)/\ku h h'/\Hw h' w'/\(∀b o,h' b=some o->h b=some o\/w.heap.size<=b\/b∈v.ownBlock.toList)/\zaA h v.ownBlock.toList w w')
    Rk Ds g' a' w' h1 h2 h3 h4 S' λg2 a2 w2 ht S2=>by
      obtain⟨t,L,hr,hL,hO⟩:=zj2 hf;have df:(results fn a2.tmps).run P w2=.ok (a2.tmps.getD t undef) w2:=by
        simp only[results,hr];simp
      obtain⟨htv,Xo⟩:=S2.env t _ hL;obtain⟨ziG,_,ys,hys,hrr⟩:=S2.obj L _ hO;obtain⟨h',q1,q2,q3,q4,q5,q6⟩:=zHN (h:=h) (K:=v.ownBlock.toList) (w:=w) (λb hb=>(hK b (by simpa using hb)).2) hw S2.le0 S2.hw S2.below;exact⟨_,df,h',_,rfl,Xo,ziG.1,⟨ys,by rw[htv];exact hys,λi hi=>(hrr i hi).mono λp x hr=>q1 p x hr⟩,λk hk=>(by
        have:=q2 k (S2.own L _ k hO (by rw[htv]at hk;exact hk)).2;exact⟨this.2,this.1⟩),q3,q4,q5,q6⟩
  cases ex with|normal=>exact fin|ret=>exact fin|exit id=>exact hex.elim|goto l=>exact hex.elim|panic ch=>exact hex.elim|outgrown=>exact hex.elim
theorem zzl{T:Tabs}(h:au P T){f:FuncId}(hc:dw P f){N e s b:Nat}{vv:List Nat}{aQ:dG}:gI P f (.grow e s b (aG P N (gQ T vv) aQ f e s b)):=zzk (h.all vv) hc
end
/-! The same of typed data. -/
section
variable{δ α A:Type}[dA δ][bD α]
def ae.tyW(C:List PA->Nat->(Nat->List PV)->ae (Nat×(Nat->List PV)))(x:δ×Sl α):ae (Sl α):=(C (dA.enc x.1) x.2.len λi=>bD.enc (x.2.get i)).bind λr=>.chk (Qw (bD.ck (α:=α) (r.2 0))) (.ok ⟨r.1,λi=>(bD.dec (r.2 i)).1⟩)
def ae.unW(F:δ×Sl α->ae (Sl α))(az:List PA)(n:Nat)(get:Nat->List PV):ae (Nat×(Nat->List PV)):=.chk (dA.ck (α:=δ) az&&Qw (bD.ck (α:=α) (get 0))) ((F (dA.dec az,⟨n,λi=>(bD.dec (get i)).1⟩)).mp λw=>(w.len,λi=>bD.enc (w.get i)))
theorem zzm{P:Program}{f:FuncId}{e s b:Nat}{C:List PA->Nat->(Nat->List PV)->ae (Nat×(Nat->List PV))}(H:gI P f (.grow e s b C)):gI P f (.grow e s b (ae.unW (ae.tyW C:δ×Sl α->ae (Sl α)))):=by
 intro w h base az vs v n get m get' hr jE l9 iL nN hV hK hw hB;obtain⟨h1,h2⟩:=ae.chk_o hr;rw[fQ]at h1;obtain⟨w',h3,h4⟩:=ae.mp_o h2;obtain⟨⟨n',g'⟩,h5,h6⟩:=ae.bind_o h3;obtain⟨h7,h8⟩:=ae.chk_o h6;have h8:=ae.ok_o h8;subst h8;cases h4;obtain⟨hc,hk⟩:=H w h base _ vs v n _ _ _ h5 (dA.up jE h1.1) l9 ⟨λ_ _=>bD.sm _ _,iL.2⟩ nN (hV.up (oK iL.1 h1.2)) hK hw hB;refine⟨hc,hk.mono ?_⟩;rintro r w2 ⟨h',v',a1,a2,a3,a4,a5⟩;exact⟨h',v',a1,a2,λ_ _=>bD.sm _ _,a4.up (oK a3 h7),a5⟩
def zzn(k:Sl α->Option A)(r:Nat×(Nat->List PV)):Option A:=match Qw (bD.ck (α:=α) (r.2 0))with|true=>k ⟨r.1,λi=>(bD.dec (r.2 i)).1⟩|false=>none
theorem zHO{P:Program}{Γ:bI}{N:Nat}{aQ:dG}{f:FuncId}{e s b:Nat}{x:δ×Sl α}{k:Sl α→Option A} :
  (ae.tyW (aG P N Γ aQ f e s b) x).T k=zpW P Γ N aQ f ((dA.enc x.1).length+1) (λ_=>true) (Uf (dA.enc x.1) e s b x.2.len λi=>bD.enc (x.2.get i)) (NQ e s b) (zzn k):=by
 rw[<- zdy];rfl
end
end Go.Pm
