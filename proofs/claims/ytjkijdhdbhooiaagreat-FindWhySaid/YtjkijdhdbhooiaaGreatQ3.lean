/- Part 3: framework, functions, plain laws. -/
import Derived.Test.YtjkijdhdbhooiaaGreatQ2
import Derived.RangeFuncNested
import Derived.Scope
set_option linter.all false
noncomputable section
namespace Go.Pm
variable [aC]
open Go.RowKit (Below)
def WZ(h h':Fz):Prop:=∀b o,h b=some o->(∃C ty fr,o=.fz (.cells C ty fr))->h' b=some o
theorem kF.c{h h':Fz}(hl:kF h h'):WZ h h':=λb o hb _=>hl b o hb
section
variable{P:Program}{Γ:bK}{nt B:Nat}{w0:World}{h0:Fz}{g:Gh}{σ:St}{a:Act}{w:World}{r:Option Nat}{n i:Nat}{Q:Exit->Act->World->Prop}
abbrev Gh.re(g:Gh)(h:Fz):Gh:=⟨h,g.bk,g.sv,g.iv⟩
theorem ziB{h:Fz}(hl:WZ g.h h){c:Cl}{x:Value}(hc:jw g c x):jw (g.re h) c x:=by
 cases c with
 | p v=>exact Rep.mono' hl hc
 | clo f caps=>obtain⟨cv,e,hr⟩:=hc;exact⟨cv,e,ry (λ_ _ hp=>Rep.mono' hl hp) (λ_ _=>rfl) hr⟩
 | _=>exact hc
theorem zvj{h:Fz}(hl:WZ g.h h):∀{cs:List Cl}{vs:List Value},RL (jw g) cs vs->RL (jw (g.re h)) cs vs:=λhc=>hc.mono λ_ _=>ziB hl
theorem ziC{h:Fz}(hl:WZ g.h h){d:D1}{x:Value}(hd:A7 g d x):A7 (g.re h) d x:=by
 cases d with
 | c y=>exact ziB hl hd
 | agg cs=>obtain⟨vs,rfl,hr⟩:=hd;exact⟨vs,rfl,zvj hl hr⟩
theorem zaw{h:Fz}(hl:WZ g.h h){d:DV}{x:Value}(hd:rO g d x):rO (g.re h) d x:=by
 cases d with
 | one y=>exact ziC hl hd
 | tup ds=>obtain⟨vs,rfl,hr⟩:=hd;exact⟨vs,rfl,hr.mono λ_ _=>ziC hl⟩
theorem zax{h:Fz}(hl:WZ g.h h){L:Nat}{o:AO}(ho:OX P g w B L o):OX P (g.re h) w B L o:=by
 cases o with
 | box ty cs=>obtain⟨C,hC,hr⟩:=ho;exact⟨C,hC,zvj hl hr⟩
 | fbox cs=>obtain⟨C,ty,fr,hC,hr⟩:=ho;exact⟨C,ty,fr,hl _ _ hC ⟨_,_,_,rfl⟩,hr.mono λ_ _=>Rep.mono' hl⟩
 | vec e s b n get=>obtain⟨h1,h2,xs,hx,hr⟩:=ho;exact⟨h1,h2,xs,hx,λi hi=>(hr i hi).mono λ_ _=>Rep.mono' hl⟩
 | fvec s n get=>exact⟨Rep.mono' hl ho.1,ho.2⟩
 | vv te bb e s b n ln get =>
  obtain⟨h1,h2,h3,h4,h5,h6⟩:=ho;exact⟨h1,h2,h3,h4,λi hi=>by obtain⟨h7,h70,xs,hx,hr⟩:=h5 i hi;exact⟨h7,h70,xs,hx,λj hj=>(hr j hj).mono λ_ _=>Rep.mono' hl⟩,h6⟩
 | vt te bb e s b n ln get o =>
  obtain⟨h1,h2,h3,h4,h41,h42,h5,h6⟩:=ho;exact⟨h1,h2,h3,h4,h41,h42,λi hi ho=>by obtain⟨h7,h70,xs,hx,hr⟩:=h5 i hi ho;exact⟨h7,h70,xs,hx,λj hj=>(hr j hj).mono λ_ _=>Rep.mono' hl⟩,h6⟩
 | mo kt vt q n F=>exact ho
 | gone=>trivial
def Fz.add(h:Fz)(b:Nat)(o:Obj):Fz:=λk=>if k=b then some (.fz o)else h k
def Fz.del(h:Fz)(b:Nat):Fz:=λk=>if k=b then none else h k
theorem Fz.add_same{h:Fz}{b:Nat}{o:Obj}:h.add b o b=some (.fz o):=eY rfl
theorem Fz.add_other{h:Fz}{b k:Nat}{o:Obj}(hk:k≠b):h.add b o k=h k:=fH hk
theorem Fz.del_same{h:Fz}{b:Nat}:h.del b b=none:=eY rfl
theorem Fz.del_other{h:Fz}{b k:Nat}(hk:k≠b):h.del b k=h k:=fH hk
theorem Fz.le_add{h:Fz}{b:Nat}{o:Obj}(hb:h b=none):kF h (h.add b o):=λk x hk=>by
 rw[Fz.add_other (λe=>by subst e;rw[hb]at hk;cases hk)];exact hk
theorem bW.hide(S:bW P nt B w0 h0 g σ a w){b:Nat}{o:Obj}(hb:g.h b=none)(hw:w.heap[b]? = some o)(hB:B≤b)(wO:∀L o,lk σ.ay L=some o→¬iy g L o b) :
  bW P nt B w0 (h0.add b o) (g.re (g.h.add b o)) σ a w:=by
 have hle:=Fz.le_add (o:=o) hb;have QH:h0 b=none:=by
  cases h:h0 b with|none=>rfl|some x=>rw[S.le0 b x h]at hb;cases hb
 refine⟨S.dfr.mono hle,S.size,λt d ht=>zaw hle.c (S.env t d ht),λL x hL=>zax hle.c (S.obj L x hL),λL x k hL hk=>?_,S.sep,?_,?_,?_,?_,S.bs,S.clE,S.clO⟩;obtain⟨h1,h2⟩:=S.own L x k hL hk;refine⟨h1,?_⟩;show g.h.add b o k=none;rw[Fz.add_other (λe=>wO L x hL (by rw[<- e];exact hk))];exact h2;intro k x hk;by_cases h:k=b;subst h;have hk:g.h.add k o k=some x:=hk;rw[Fz.add_same]at hk;simp only[bV]at hk;subst hk;exact⟨o,hw,rfl⟩;have hk:g.h.add b o k=some x:=hk;rw[Fz.add_other h]at hk;exact S.hw k x hk;intro k x hk;show g.h.add b o k=some x;by_cases h:k=b;subst h;rw[Fz.add_same]at hk ⊢;exact hk;rw[Fz.add_other h]at hk ⊢;exact S.le0 k x hk;intro k x hk;have hk:g.h.add b o k=some x:=hk;by_cases h:k=b;exact .inr (h▸hB);rw[Fz.add_other h]at hk ⊢;exact S.hn k x hk;exact⟨S.below.os,S.below.tape,S.below.output,S.below.size,S.below.drawn,λk hk=>S.below.block k hk⟩
theorem bW.unhide{b:Nat}{o:Obj}(S:bW P nt B w0 (h0.add b o) g σ a w)(hB:B≤b)(QH:h0 b=none)(hc:o.isCells=false)(hm:∀ds,o ≠ .deferred ds) :
  g.h b=some (.fz o)/\(∀L x,lk σ.ay L=some x->¬iy g L x b)/\w.heap[b]? = some o/\bW P nt B w0 h0 (g.re (g.h.del b)) σ a w:=by
 have hb:g.h b=some (.fz o):=S.le0 b _ Fz.add_same;have hl:WZ g.h (g.h.del b):=λk x hk hx=>by
  rw[Fz.del_other];exact hk;intro e;subst e;rw[hb]at hk;simp only[bV]at hk;subst hk;obtain⟨C,ty,fr,hx⟩:=hx;cases hx;cases hc
 have hwb:w.heap[b]? = some o:=S.hw.fz hb;refine⟨hb,(λL x hL hk=>by(have:=(S.own L x b hL hk).2;rw[hb]at this;cases this)),hwb,?_⟩;refine⟨?_,S.size,λt d ht=>zaw hl (S.env t d ht),λL x hL=>zax hl (S.obj L x hL),λL x k hL hk=>?_,S.sep,?_,?_,?_,?_,S.bs,S.clE,S.clO⟩;obtain⟨Ds,h1,h2,h3,h4⟩:=S.dfr;refine⟨Ds,h1,h2,λD hD=>⟨(h3 D hD).1,?_⟩,h4⟩;show g.h.del b D=_;rw[Fz.del_other];exact(h3 D hD).2;intro e;subst e;have:=(h3 D hD).2;rw[hb]at this;simp only[bV,VS.fz.injEq]at this;exact hm _ this;obtain⟨h1,h2⟩:=S.own L x k hL hk;refine⟨h1,?_⟩;show g.h.del b k=none;unfold Fz.del;split;rfl;exact h2;intro k x hk;have hk:g.h.del b k=some x:=hk;unfold Fz.del at hk;split at hk;cases hk;exact S.hw k x hk;intro k x hk;have hkb:k≠b:=λe=>by subst e;rw[QH]at hk;cases hk
 show g.h.del b k=some x;rw[Fz.del_other hkb];exact S.le0 k x (by rw[Fz.add_other hkb];exact hk);intro k x hk;have hk:g.h.del b k=some x:=hk;by_cases h:k=b;exact .inr (h▸hB);rw [Fz.del_other h]at hk;rcases S.hn k x hk with h1|h1
 rw[Fz.add_other h]at h1;exact .inl h1;exact .inr h1;exact⟨S.below.os,S.below.tape,S.below.output,S.below.size,S.below.drawn,λk hk=>S.below.block k hk⟩
theorem bW.putObj(S:bW P nt B w0 h0 g σ a w){b:Nat}(o:Obj)(hb:g.h b=none)(hB:B<=b)(wO:∀L x,lk σ.ay L=some x->¬iy g L x b):bW P nt B w0 h0 g σ a (w.putObj b o):=by
  have jk:∀k,k≠b->(w.putObj b o).heap[k]? = w.heap[k]?:=λk hk=>World.putObj_heap_other hk
  refine S.change (g' := g) (A8 := σ.ay) (fun L _ _ => jl.refl g L) (fun _ _ h => h) (S.hw.same fun k x hk => jk k fun e => by subst e; rw [hb] at hk; cases hk) (fun _ _ h => .inl h)
    ⟨rfl,rfl,rfl,by simp,kD _,λk hk=>jk k omY⟩ ?_ S.own S.sep (λL o h=>⟨o,h⟩) S.clO
  intro L x hL;exact kz (S.obj L x hL) (jl.refl g L) (λM _=>jl.refl g M) (λ_ _ h=>h) λk hk=>jk k λe=>by subst e;exact wO L x hL hk
theorem bW.act(S:bW P nt B w0 h0 g σ a w){a':Act}(hd:Marks P B g.h a'.defers)(hs:nt<=a'.tmps.size)(he:∀t d,lk σ.env t=some d->rO g d (a'.tmps.getD t undef)):bW P nt B w0 h0 g σ a' w :=
 ⟨hd,hs,he,S.obj,S.own,S.sep,S.hw,S.le0,S.hn,S.below,S.bs,S.clE,S.clO⟩
theorem bW.envs(S:bW P nt B w0 h0 g σ a w){env:List (Nat×DV)}(he:∀t d,lk env t=some d→rO g d (a.tmps.getD t undef))(hl:∀t d,lk env t=some d→∀L∈cO d,∃o,lk σ.ay L=some o)
    (l:List (Nat×Nat×Nat)):bW P nt B w0 h0 g ⟨env,σ.ay,l⟩ a w :=
  ⟨S.dfr,S.size,he,S.obj,S.own,S.sep,S.hw,S.le0,S.hn,S.below,S.bs,hl,S.clO⟩
theorem fold_size : ∀ (l : List (Nat × Value)) (t : Array Value), (l.foldl (fun t (p, v) => t.setIfInBounds p v) t).size = t.size|[],t=>rfl|(p,v)::l,t=>by rw[VF,fold_size l];simp
theorem ML : ∀ (l : List (Nat × Value)) (t : Array Value) (k : Nat), (∀ x ∈ l, x.1 ≠ k) → (l.foldl (fun t (p, v) => t.setIfInBounds p v) t).getD k undef = t.getD k undef
  | [],t,k,_=>rfl
  | (p,v)::l,t,k,h=>by
    rw[VF,ML l _ k λx hx=>h x (jW _ hx)];have hp:p≠k:=h (p,v) kX;simp[yA,qdH hp]
theorem zcG(nt0:Nat):∀(ps:List Nat)(ys:List PA)(us:List Value)(e env:List (Nat×DV))(t:Array Value),qK ps ys e=some env->RL (oJ g.h) ys us->(∀p∈ps,p<t.size) ->
  (∀k d,lk e k=some d->rO g d (t.getD k undef)) ->
  us.length=ps.length/\∀k d,lk env k=some d->rO g d (((ps.zip us).foldl (λt (p,v)=>t.setIfInBounds p v) t).getD k undef)
 | [],[],us,e,env,t,h,hr,_,he=>by
  simp only[qK,bV]at h;subst h;cases us with|nil=>exact⟨rfl,he⟩|cons=>exact hr.elim
 | p::ps,y::ys,[],e,env,t,h,hr,_,he=>hr.elim
 | p::ps,y::ys,u::us,e,env,t,h,hr,hp,he=>by
  simp only[qK]at h;have iM:=hp p kX;obtain⟨h1,h2⟩:=zcG nt0 ps ys us _ env (t.setIfInBounds p u) h hr.2 (λq hq=>by have:=hp q (jW _ hq);simpa using this) (λk d hk=>by
   rw[aX]at hk;split at hk;rename_i e1;simp only[bV]at hk;subst hk;subst e1;rw[show(t.setIfInBounds p u).getD p undef=u by simp[yA,iM]];exact LJ hr.1;rename_i e1;have:=he k d hk;rw[show(t.setIfInBounds p u).getD k undef=t.getD k undef by simp[yA,qdH e1]];exact this)
  exact⟨by simp[h1],h2⟩
 | [],_::_,_,_,_,_,h,_,_,_=>by simp[qK]at h
 | _::_,[],_,_,_,_,h,_,_,_=>by simp[qK]at h
theorem QI:∀(ps:List Nat)(ys:List PA)(e env:List (Nat×DV)),qK ps ys e=some env→∀k d,lk env k=some d→lk e k=some d∨cO d=[]
  | [],[],e,env,h,k,d,hk=>by simp only[qK,bV]at h;subst h;exact .inl hk
  | p::ps,y::ys,e,env,h,k,d,hk=>by
    simp only[qK]at h;rcases QI ps ys _ env h k d hk with h1|h1
    rw [aX]at h1;split at h1;simp only[bV]at h1;subst h1;exact .inr (wX y);exact .inl h1;exact .inr h1
  | [],_::_,_,_,h,_,_,_=>by simp[qK]at h
  | _::_,[],_,_,h,_,_,_=>by simp[qK]at h
theorem bW.up(S:bW P nt B w0 h0 g σ a w):bW P nt B w0 g.h g σ a w :=
 ⟨S.dfr,S.size,S.env,S.obj,S.own,S.sep,S.hw,λ_ _ h=>h,λ_ _ h=>.inl h,
  ⟨S.below.os,S.below.tape,S.below.output,S.below.size,S.below.drawn,λk hk=>S.below.block k hk⟩,S.bs,S.clE,S.clO⟩
theorem bW.down{h1:Fz}(S:bW P nt B w0 h1 g σ a w)(hl:kF h0 h1)(hn:∀b o,h1 b=some o->h0 b=some o\/B<=b):bW P nt B w0 h0 g σ a w :=
 ⟨S.dfr,S.size,S.env,S.obj,S.own,S.sep,S.hw,λb o h=>S.le0 b o (hl b o h),λb o h=>by
   rcases S.hn b o h with h|h
   exact hn b o h;exact .inr h,
  ⟨S.below.os,S.below.tape,S.below.output,S.below.size,S.below.drawn,λk hk=>S.below.block k hk⟩,S.bs,S.clE,S.clO⟩
theorem zay{k:Keep}{σ s:St}(h:yP P k σ=some s):∀t d,lk s.env t=some d->t∈k.tmps:=by
 unfold yP at h;split at h;cases h;split at h;cases h;split at h;cases h;simp only[]at h;split at h;simp only [bV]at h;subst h;intro t d ht;obtain⟨_,_,_,h1⟩:=lL ht;exact h1;cases h
theorem zo4{k a b e:Nat}{σ:St}:∀t d,lk (nf1 P k a b e σ).env t=some d->∃d',lk σ.env t=some d':=by
 have key:∀x y,lk σ.env a=some y->∀t d,lk (ZQ a x σ.env) t=some d->∃d',lk σ.env t=some d':=by
  intro x y hy t d ht;rw[DN ⟨y,hy⟩,aX]at ht;split at ht;rename_i e;exact⟨y,e▸hy⟩;exact⟨d,ht⟩
 unfold nf1
 repeat' split
 all_goals first
  | exact λt d ht=>⟨d,ht⟩
  | exact key _ _ (by assumption)
theorem Iz:∀{l:List (Nat×Nat×Nat×Nat)}{σ:St},∀t d,lk (Js P l σ).env t=some d→∃d',lk σ.env t=some d'
  | [],_,_,d,ht=>⟨d,ht⟩
  | (_,_,_,_)::l,_,t,d,ht=>by
    obtain⟨d',h2⟩:=Iz (l:=l) t d ht;exact zo4 t d' h2
theorem Gw{k:Keep}{σ s:St}(h:canon P k σ=some s):∀t d,lk s.env t=some d->t∈k.tmps:=by
 unfold canon at h;split at h;split at h;rename_i s1 h1;intro t d ht;cases h;obtain⟨d',h2⟩:=Iz t d ht;exact zay h1 t d' h2;cases h;cases h
def Rnd(r:Option Nat)(h0:Fz):Prop:=∀l,r=some l->∃rec:Loop,h0 l=some (.fz (.loop rec))
theorem Rnd.none(h0:Fz):Rnd none h0:=λl h=>by cases h
theorem Pi(S:bW P nt B w0 h0 g σ a w)(hR:Rnd r h0)(fn:FuncId)(ps:Array Tmp)(x y:Code) :
  ∃(l:Nat)(mark:List Deferred)(w1:World)(d:Nat)(h1:Fz),(Instr.enterLoop fn a.tmps ps x y r).run P w=.ok (l,mark) w1/\w.heap.size<=l /\
   w1.heap[l]? = some (.loop {state:=.ready,pending:=none,fn,tmps:=a.tmps,params:=ps,assign:=x,body:=y,defers:=d})/\kF g.h h1/\h1 l=none /\
   bW P nt B w0 h0 (g.re h1) σ {a with defers:=mark++a.defers} w1/\∀d∈mark,∃b,d.target=.collected b:=by
 have zno:∀k,w.heap.size<=k->g.h k=none:=λk hk=>by
  cases h:g.h k with|none=>rfl|some x=>exact absurd (vH S.hw h) omY
 cases r with
 | none =>
  have hb0:g.h w.heap.size=none:=zno _ (kD _);have hw1:((w.alloc (.deferred (some []))).alloc (.loop {state:=.ready,pending:=none,fn,tmps:=a.tmps,params:=ps,assign:=x,body:=y,defers:=w.heap.size})).heap[w.heap.size]? = some (.deferred (some [])):=by
   exact(Below.heap_alloc _ _ _ (by simp)).trans (World.alloc_heap_new w _)
  have sH:Below w.heap.size w ((w.alloc (.deferred (some []))).alloc (.loop {state:=.ready,pending:=none,fn,tmps:=a.tmps,params:=ps,assign:=x,body:=y,defers:=w.heap.size})) :=
   ((Below.refl _ w).alloc (kD _) _).alloc (by simp) _
  have S1:=S.world (h':=g.h.add w.heap.size (.deferred (some []))) (Fz.le_add hb0) (λk z hk=>by
    by_cases h:k=w.heap.size;subst h;rw[Fz.add_same]at hk;simp only[bV]at hk;subst hk;exact⟨_,hw1,rfl⟩;rw [Fz.add_other h]at hk;obtain⟨o,h1,h2⟩:=S.hw k z hk;exact⟨o,by rw[sH.block k (S.hw.lt hk)];exact h1,h2⟩)
   (λk z hk=>by
    by_cases h:k=w.heap.size;exact .inr omY;rw[Fz.add_other h]at hk;exact .inl hk) (.of ⟨sH,kD _⟩)
  refine⟨w.heap.size+1,[{target:=.collected w.heap.size,args:=#[]}],_,w.heap.size,g.h.add w.heap.size (.deferred (some [])),run_enterLoop_outer fn a.tmps ps x y,omY,?_,Fz.le_add hb0,?_,?_,λd hd=>⟨w.heap.size,by rw[lN.1 hd]⟩⟩;have:=World.alloc_heap_new (w.alloc (.deferred (some []))) (.loop {state := .ready,pending:=none,fn,tmps:=a.tmps,params:=ps,assign:=x,body:=y,defers:=w.heap.size});rwa[World.size_alloc]at this;rw[Fz.add_other omY];exact zno _ omY
  ·refine S1.act ?_ S1.size S1.env;obtain⟨Ds,h1,h2,h3,h4⟩:=S.dfr;refine⟨.inl w.heap.size :: Ds,qdu.2 ⟨λ hm=>?_,h1⟩,by simp[h2,deD],λ D hD=>?_,λ d hd=>?_⟩;have:=vH S.hw (h3 _ (KT hm)).2;omega
   rotate_left
   rcases kS.1 hd with e|hd
   cases e;exact h4 d hd;rcases kS.1 hD with e|hD
   cases e;exact⟨S.bs,Fz.add_same⟩;exact⟨(h3 D hD).1,Fz.le_add hb0 _ _ (h3 D hD).2⟩
 | some l0 =>
  obtain⟨rec,z04⟩:=hR l0 rfl;have hl0:w.heap[l0]? = some (.loop rec):=S.hw.fz (S.le0 _ _ z04);have sH:Below w.heap.size w (w.alloc (.loop {state:=.ready,pending:=none,fn,tmps:=a.tmps,params:=ps,assign:=x,body:=y,defers:=rec.defers})):=(Below.refl _ w).alloc (kD _) _;have S1:=S.world (h':=g.h) (λ_ _ h=>h) (S.hw.same λk z hk=>sH.block k (S.hw.lt hk)) (λ_ _ h=>.inl h) (.of ⟨sH,kD _⟩);exact⟨w.heap.size,[],_,rec.defers,g.h,run_enterLoop_inner hl0 fn a.tmps ps x y,kD _,World.alloc_heap_new w _,λ_ _ h=>h,zno _ (kD _),S1,λd hd=>by cases hd⟩
end
end Go.Pm
namespace Go.Pm
def zyG:List Item→Bool|.call .. :: _=>false|_=>true
def jP(I:Machine→Prop)(P:Program)(m:Machine)(b:Frame)(k:List Item)(cs:List Frame):Exit→Act→World→Prop
  | .panic ch,a,w=>∃todo,zyG todo=true/\StepsIn I P m (lone {b.atR a todo with mode:=.panicking ch} cs w)
  | .normal,a,w=>ArrivesIn I P m b k cs .normal a w
  | .exit id,a,w=>ArrivesIn I P m b k cs (.exit id) a w
  | .goto l,a,w=>ArrivesIn I P m b k cs (.goto l) a w
  | .ret,a,w=>ArrivesIn I P m b k cs .ret a w
  | .outgrown,a,w=>ArrivesIn I P m b k cs .outgrown a w
theorem jP.inn{I:Machine->Prop}{P:Program}{m:Machine}{b:Frame}{k:List Item}{cs:List Frame}{e:Exit}{a:Act}{w:World}(h:jP I P m b k cs e a w):ArrivesIn I P m b k cs e a w:=by
 cases e with
 | panic ch=>obtain⟨t,_,h⟩:=h;exact⟨t,h⟩
 | _=>exact h
theorem jP.of_steps{I:Machine->Prop}{P:Program}{m m1:Machine}{b:Frame}{k:List Item}{cs:List Frame}{e:Exit}{a:Act}{w:World}(h:StepsIn I P m m1)(h':jP I P m1 b k cs e a w):jP I P m b k cs e a w:=by
 cases e with
 | panic ch=>obtain⟨t,ht,hs⟩:=h';exact⟨t,ht,h.trans hs⟩
 | normal=>exact ArrivesIn.of_steps (e:=.normal) h h'
 | exit id=>exact ArrivesIn.of_steps (e:=.exit id) h h'
 | goto l=>exact ArrivesIn.of_steps (e:=.goto l) h h'
 | ret=>exact ArrivesIn.of_steps (I:=I) (b:=b) (k:=k) (cs:=cs) (e:=.ret) (a:=a) (w:=w) h h'
 | outgrown=>exact ArrivesIn.of_steps (b:=b) (k:=k) (cs:=cs) (e:=.outgrown) (a:=a) (w:=w) h h'
theorem jP.pass{I:Machine->Prop}{P:Program}{m:Machine}{b:Frame}{x:Item}{k:List Item}{cs:List Frame}{e:Exit}{a:Act}{w:World}(hx:x.plain=true)(he:e ≠ .normal)(h:jP I P m b (x::k) cs e a w):jP I P m b k cs e a w:=by
 cases e with|panic ch=>exact h|normal=>exact absurd rfl he|exit id=>exact ArrivesIn.pass (I:=I) (P:=P) (m:=m) (b:=b) (x:=x) (k:=k) (cs:=cs) (e:=.exit id) (a:=a) (w:=w) hx (λ_ _=>.inl (by simp)) h|goto l=>exact ArrivesIn.pass (I:=I) (P:=P) (m:=m) (b:=b) (x:=x) (k:=k) (cs:=cs) (e:=.goto l) (a:=a) (w:=w) hx (λ_ _=>.inl (by simp)) h|ret=>exact ArrivesIn.pass (I:=I) (P:=P) (m:=m) (b:=b) (x:=x) (k:=k) (cs:=cs) (e:=.ret) (a:=a) (w:=w) hx (λ_ _=>.inl (by simp)) h|outgrown=>exact h
def DX(r:Option Nat)(n:Nat)(P:Program)(c:Code)(Q:Exit->Act->World->Prop)(a:Act)(w:World):Prop :=
 ∀(b:Frame)(k:List Item)(cs:List Frame),b.roundOf=(FR r).round->(FR r).fn b.fn->(FR r).room (cs.length+1+n) ->
  ∃e a' w',Q e a' w'/\jP (Machine.fenced P (FR r)) P (lone (b.atR a (.code c::k)) cs w) b k cs e a' w'
section
variable{r:Option Nat}{n:Nat}{P:Program}{Q:Exit->Act->World->Prop}{a:Act}{w:World}
theorem rF{c:Code}(h:DX r n P c Q a w):c.wpIn (FR r) n P Q a w:=λb k cs wM hb hr=>let⟨e,a',w',q,x⟩:=h b k cs wM hb hr;⟨e,a',w',q,x.inn⟩
theorem ze0{c:Code}(h:c.wpIn (FR r) n P Q a w)(hq:∀ch a w,¬Q (.panic ch) a w):DX r n P c Q a w:=λb k cs wM hb hr=>by
 obtain⟨e,a',w',q,x⟩:=h b k cs wM hb hr;refine⟨e,a',w',q,?_⟩;cases e with|panic ch=>exact absurd q (hq _ _ _)|_=>exact x
theorem pU{c:Code}{Q':Exit->Act->World->Prop}(h:DX r n P c Q a w)(hq:∀e a w,Q e a w->Q' e a w):DX r n P c Q' a w :=
 λb k cs wM hb hr=>let⟨e,a',w',q,x⟩:=h b k cs wM hb hr;⟨e,a',w',hq _ _ _ q,x⟩
theorem ziD(h:Q .normal a w):DX r n P .skip Q a w:=λ_ _ _ _ hb hr=>⟨.normal,a,w,h,.one (fenced_calm hb hr rfl) stepR_skip⟩
theorem ze1{l:Nat}(h:Q .normal a w):DX r n P (.label l) Q a w:=λ_ _ _ _ hb hr=>⟨.normal,a,w,h,.one (fenced_calm hb hr rfl) stepR_label⟩
theorem W9{id:Nat}(h:Q (.exit id) a w):DX r n P (.exit id) Q a w :=
 λ_ k _ _ hb hr=>⟨.exit id,a,w,h,λ_ hk=>.one (fenced_calm hb hr rfl) (stepR_exit hk),λ_ hk=>⟨k,hk,.refl _⟩⟩
theorem zcH(h:Q .ret a w):DX r n P .ret Q a w :=
 λ_ k _ _ hb hr=>⟨.ret,a,w,h,λhn=>⟨_,.one (fenced_calm hb hr rfl) (stepR_ret hn)⟩,λ_=>⟨k,.refl _⟩⟩
theorem zo5{x y:Code}(h:DX r n P x (Exit.then (DX r n P y Q) Q) a w):DX r n P (.seq x y) Q a w:=by
 intro b k cs wM hb hr;have h0:(lone (b.atR a (.code (.seq x y)::k)) cs w).fenced P (FR r):=fenced_calm hb hr rfl;obtain⟨e,a1,w1,hq,ed⟩:=h b (.code y::k) cs wM hb hr;have st:=StepsIn.one h0 (stepR_seq (P:=P) (b:=b) (a:=a) (k:=k) (cs:=cs) (w:=w) (x:=x) (y:=y));cases e with
 | normal =>
  obtain⟨e2,a2,w2,hq2,DY⟩:=hq b k cs wM hb hr;exact⟨e2,a2,w2,hq2,.of_steps (st.trans ed) DY⟩
 | exit id=>exact⟨_,a1,w1,hq,.of_steps st (.pass (x:=.code y) rfl (by simp) ed)⟩
 | goto l=>exact⟨_,a1,w1,hq,.of_steps st (.pass (x:=.code y) rfl (by simp) ed)⟩
 | ret=>exact⟨_,a1,w1,hq,.of_steps st (.pass (x:=.code y) rfl (by simp) ed)⟩
 | panic ch=>exact⟨_,a1,w1,hq,.of_steps st (.pass (x:=.code y) rfl (by simp) ed)⟩
 | outgrown=>exact⟨_,a1,w1,hq,.of_steps st (.pass (x:=.code y) rfl (by simp) ed)⟩
theorem ziE{c:Operand}{x y:Code}{t:Bool}(hc:a.eval c=.bool t)(h:DX r n P (if t then x else y) Q a w):DX r n P (.cond c x y) Q a w :=
 λb k cs wM hb hr=>let⟨e,a',w',q,x⟩:=h b k cs wM hb hr;⟨e,a',w',q,.of_steps (.one (fenced_calm hb hr rfl) (stepR_cond hc)) x⟩
theorem ze2{id:Nat}{c:Code}(h:DX r n P c (Exit.inBlock id Q) a w):DX r n P (.block id c) Q a w:=by
 intro b k cs wM hb hr;have h0:(lone (b.atR a (.code (.block id c)::k)) cs w).fenced P (FR r):=fenced_calm hb hr rfl;have st:=StepsIn.one h0 (stepR_block (P:=P) (b:=b) (a:=a) (k:=k) (cs:=cs) (w:=w) (id:=id) (c:=c));obtain⟨e,a1,w1,hq,ed⟩:=h b (.inBlock id::k) cs wM hb hr;cases e with
 | normal=>exact⟨.normal,a1,w1,hq,(st.trans ed).trans (.one (fenced_calm hb hr rfl) stepR_inBlock)⟩
 | exit id' =>
  by_cases hid:id'=id;simp only [Exit.inBlock,hid,PW]at hq;exact⟨.normal,a1,w1,hq,st.trans (ed.1 k (by simp[exitTo,hid]))⟩;simp only [Exit.inBlock,hid,qd8]at hq;have this:(id==id')=false:=by simp;exact λh=>hid h.symm
  have hx:exitTo id' (.inBlock id::k)=exitTo id' k:=by simp[exitTo,this]
  exact⟨.exit id',a1,w1,hq,λk' hk=>st.trans (ed.1 k' (by rw[hx];exact hk)),
   λve hk=>let⟨k1,h1,h2⟩:=ed.2 ve (by rw[hx];exact hk);⟨k1,h1,st.trans h2⟩⟩
 | goto l =>
  have hx:gotoIn l (.inBlock id::k)=gotoIn l k:=by simp[gotoIn]
  exact⟨_,a1,w1,hq,λk' hk=>st.trans (ed.1 k' (by rw[hx];exact hk)),
   λve hk=>let⟨k1,h1,h2⟩:=ed.2 ve (by rw[hx];exact hk);⟨k1,h1,st.trans h2⟩⟩
 | ret=>exact⟨_,a1,w1,hq,.of_steps st ed⟩
 | panic ch=>exact⟨_,a1,w1,hq,.of_steps st ed⟩
 | outgrown=>exact⟨_,a1,w1,hq,.of_steps (b:=b) (k:=k) (cs:=cs) (e:=.outgrown) st ed⟩
theorem TC{b:Frame}{a:Act}{k:List Item}{cs:List Frame}{w:World}{c:Code} :
  step P (lone (b.atR a (.code (.scope c)::k)) cs w)=.next (lone (b.atR a (.code c :: .inScope c::k)) cs w) :=
 step_lone_go (by simp[stepG,stepG.exec,Frame.atR])
theorem MM{b:Frame}{a:Act}{k:List Item}{cs:List Frame}{w:World}{c:Code} :
  step P (lone (b.atR a (.inScope c::k)) cs w)=.next (lone (b.atR a k) cs w) :=
 step_lone_go (by simp[stepG,stepG.exec,Frame.atR])
theorem ze3{c:Code}(h:DX r n P c (Exit.noGoto Q) a w):DX r n P (.scope c) Q a w:=by
 intro b k cs wM hb hr;obtain⟨e,a1,w1,hq,ed⟩:=h b (.inScope c::k) cs wM hb hr;have h0:(lone (b.atR a (.code (.scope c)::k)) cs w).fenced P (FR r):=fenced_calm hb hr rfl;have st:=StepsIn.one h0 (TC (P:=P) (b:=b) (a:=a) (k:=k) (cs:=cs) (w:=w) (c:=c));cases e with
 | normal=>exact⟨.normal,a1,w1,hq,(st.trans ed).trans (.one (fenced_calm hb hr rfl) MM)⟩
 | exit id =>
  refine⟨.exit id,a1,w1,hq,λk' hk=>st.trans (ed.1 k' (by simp[exitTo,hk])),λve hk=>?_⟩;obtain⟨k1,h1,h2⟩:=ed.2 ve (by simp[exitTo,hk]);exact⟨k1,h1,st.trans h2⟩
 | goto l=>exact hq.elim
 | ret=>exact⟨.ret,a1,w1,hq,jP.of_steps (e:=.ret) st ed⟩
 | panic ch=>exact⟨.panic ch,a1,w1,hq,jP.of_steps (e:=.panic ch) st ed⟩
 | outgrown=>exact⟨_,a1,w1,hq,.of_steps (b:=b) (k:=k) (cs:=cs) (e:=.outgrown) st ed⟩
def Xa(r:Option Nat)(n:Nat)(P:Program)(c:Code)(Q:Exit->Act->World->Prop)(a:Act)(w:World):Prop :=
 ∀(b:Frame)(k:List Item)(cs:List Frame),b.roundOf=(FR r).round->(FR r).fn b.fn->(FR r).room (cs.length+1+n) ->
  ∃e a' w',Q e a' w'/\jP (Machine.fenced P (FR r)) P (lone (b.atR a (.code c :: .inLoop c::k)) cs w) b k cs e a' w'
theorem IA{c:Code}(h:Xa r n P c Q a w):DX r n P (.loop c) Q a w:=by
 intro b k cs wM hb hr;obtain⟨e,a',w',hq,ed⟩:=h b k cs wM hb hr;exact⟨e,a',w',hq,.of_steps (.one (fenced_calm hb hr rfl) stepR_loop) ed⟩
theorem IB{c:Code}(h:DX r n P c (Exit.then (Xa r n P c Q) Q) a w):Xa r n P c Q a w:=by
 intro b k cs wM hb hr;obtain⟨e,a1,w1,hq,ed⟩:=h b (.inLoop c::k) cs wM hb hr;cases e with
 | normal =>
  obtain⟨e2,a2,w2,hq2,DY⟩:=hq b k cs wM hb hr;exact⟨e2,a2,w2,hq2,.of_steps (StepsIn.trans ed (.one (fenced_calm hb hr rfl) stepR_inLoop)) DY⟩
 | exit id=>exact⟨_,a1,w1,hq,.pass (x:=.inLoop c) rfl (by simp) ed⟩
 | goto l=>exact⟨_,a1,w1,hq,.pass (x:=.inLoop c) rfl (by simp) ed⟩
 | ret=>exact⟨_,a1,w1,hq,.pass (x:=.inLoop c) rfl (by simp) ed⟩
 | panic ch=>exact⟨_,a1,w1,hq,.pass (x:=.inLoop c) rfl (by simp) ed⟩
 | outgrown=>exact⟨_,a1,w1,hq,.pass (x:=.inLoop c) rfl (by simp) ed⟩
theorem zo6{ops:Array Oper}(l:List Nat):∀(a:Act)(w:World),wpOpsIn (FR r) n P ops Q l a w->∀(b:Frame)(k:List Item)(cs:List Frame),b.roundOf=(FR r).round->(FR r).fn b.fn->(FR r).room (cs.length+1+n) ->
  ∃e a' w',Q e a' w'/\jP (Machine.fenced P (FR r)) P (lone (b.atR a (.inRegion ops l::k)) cs w) b k cs e a' w':=by
 induction l with
 | nil=>exact λa w h b k cs _ hb hr=>⟨.normal,a,w,h,.one (fenced_calm hb hr rfl) stepR_region_end⟩
 | cons i rest ih =>
  intro a w h b k cs wM hb hr;simp only[wpOpsIn]at h;cases ho:ops[i]? with
  | none =>
   simp only[ho]at h;obtain⟨e,a',w',hq,ed⟩:=ih a w h b k cs wM hb hr;have hs:=stepR_op_skip (P:=P) (b:=b) (a:=a) (k:=k) (cs:=cs) (w:=w) (ops:=ops) (i:=i) (rest:=rest) (by simp[ho]);simp only[ho,Option.bind_none,Act.put]at hs;exact⟨e,a',w',hq,.of_steps (.one (fenced_noOper hb hr ho) hs) ed⟩
  | some o =>
   simp only[ho]at h;by_cases hw:Region.wanted o (yielded ops a.tmps)=true;simp only [hw,PW,Oper.wpIn]at h;obtain⟨zbS,h⟩:=h;have h0:(lone (b.atR a (.inRegion ops (i::rest)::k)) cs w).fenced P (FR r):=fenced_oper hb hr ho zbS;simp only[Oper.uponIn]at h;have hg:=stepGR_op (P:=P) (b:=b) (k:=k) (cs:=cs) (w:=w) (rest:=rest) ho hw;rw[wM]at hg;have znh:∀v,(b.atR a (.inRegion ops (i::rest)::k)).finish v=b.atR (a.put o.dst v) (.inRegion ops rest::k):=by
    intro v;rw[Frame.finish_atR,ho];rfl
   split at h;rename_i v w' ve;obtain⟨e,a',Ar,hq,ed⟩:=ih _ _ h b k cs wM hb hr;refine⟨e,a',Ar,hq,.of_steps (.one h0 (step_lone_go ?_)) ed⟩;rw[hg,<- znh];simp[stepG.apply,ve];rename_i w' ve;obtain⟨e,a',Ar,hq,ed⟩:=ih _ _ h b k cs wM hb hr;refine⟨e,a',Ar,hq,.of_steps (.one h0 (step_lone_go ?_)) ed⟩;rw[hg,<- znh];simp[stepG.apply,ve];rename_i d w' ve;obtain⟨e,a',Ar,hq,ed⟩:=ih _ _ h b k cs wM hb hr;refine⟨e,a',Ar,hq,.of_steps (.one h0 (step_lone_go ?_)) ed⟩
   have:({b.atR a (.inRegion ops (i::rest)::k)with defers:=d::a.defers}:Frame).finish undef =
     b.atR ({a with defers:=d::a.defers}.put o.dst undef) (.inRegion ops rest::k):=by
    have:=Frame.finish_atR b {a with defers:=d::a.defers} ops i rest k undef;rw[ho]at this;exact this
   rw[hg];simp only[stepG.apply,Sem.runT_eq,ve,GStep.bare_after];exact jX (λfr=>GStep.go {frame:=fr,callers:=cs,status:=.running,dying:=none} w') this
   ·rename_i f args w' ve;obtain⟨hn,hF,h⟩:=h;have FM:(FR r).room ((b.atR a (.inRegion ops (i::rest)::k)::cs).length+1+(n-1)):=Fence.room_enter hr hn;obtain⟨e,Ar,fr,hR,qE,ug,xZ⟩:=h (b.atR a (.inRegion ops (i::rest)::k)::cs) FM;have qF:step P (lone (b.atR a (.inRegion ops (i::rest)::k)) cs w)=.next (lone (Frame.enter P f args .normal) (b.atR a (.inRegion ops (i::rest)::k)::cs) w') :=
     step_lone_go (by rw[hg];simp[stepG.apply,ve,Frame.atR])
    cases e with
    | returned v =>
     have hl:(lone fr (b.atR a (.inRegion ops (i::rest)::k)::cs) Ar).fenced P (FR r):=fenced_leaving (ug▸hF) FM xZ;obtain⟨e,a',w3,hq,ed⟩:=ih _ _ hR b k cs wM hb hr;refine⟨e,a',w3,hq,.of_steps (.head h0 qF (StepsIn.trans qE (.one hl ?_))) ed⟩;rw[<- znh];exact step_leave_returned xZ
    | panicked chain =>
     have hl:(lone fr (b.atR a (.inRegion ops (i::rest)::k)::cs) Ar).fenced P (FR r):=fenced_leaving (ug▸hF) FM xZ;refine⟨.panic chain,a,Ar,hR,.inRegion ops (i::rest)::k,rfl,.head h0 qF (StepsIn.trans qE (.one hl ?_))⟩;rw[<- Frame.raise_atR];exact step_leave_panicked xZ
    | outgrown =>
     obtain⟨a0,w0,hq⟩:=hR;exact⟨.outgrown,a0,w0,hq,.inr (Outgrown.of_steps (.one qF) qE)⟩
   rename_i row args w' ve;obtain⟨hn,h⟩:=h;obtain⟨v,Ar,hR,qE⟩:=h (b.atR a (.inRegion ops (i::rest)::k)) cs (Fence.room_enter hr hn);have qF:step P (lone (b.atR a (.inRegion ops (i::rest)::k)) cs w)=.next (lone (Frame.ofRow P row args .normal) (b.atR a (.inRegion ops (i::rest)::k)::cs) w') :=
    step_lone_go (by rw[hg];simp[stepG.apply,ve,Frame.atR])
   obtain⟨e,a',w3,hq,ed⟩:=ih _ _ hR b k cs wM hb hr;refine⟨e,a',w3,hq,.of_steps (.head h0 qF ?_) ed⟩;rw[<- znh];exact qE
   ·rename_i l f tmps assign body w' ve;obtain⟨hn,_,h⟩:=h;obtain⟨e,Ar,hR,qE⟩:=h (b.atR a (.inRegion ops (i::rest)::k)) cs (Fence.room_enter hr hn);have qF:step P (lone (b.atR a (.inRegion ops (i::rest)::k)) cs w)=.next (lone (Frame.round l f tmps assign body .normal) (b.atR a (.inRegion ops (i::rest)::k)::cs) w') :=
     step_lone_go (by rw[hg];simp[stepG.apply,ve,Frame.atR])
    cases e with
    | returned v =>
     obtain⟨e,a',w3,hq,ed⟩:=ih _ _ hR b k cs wM hb hr;refine⟨e,a',w3,hq,.of_steps (.head h0 qF ?_) ed⟩;rw[<- znh];exact qE
    | panicked chain =>
     refine⟨.panic chain,a,Ar,hR,.inRegion ops (i::rest)::k,rfl,.head h0 qF ?_⟩;rw[<- Frame.raise_atR];exact qE
    | outgrown =>
     obtain⟨a0,w0,hq⟩:=hR;exact⟨.outgrown,a0,w0,hq,.inr (Outgrown.of_steps (.one qF) qE)⟩
   rename_i v w' ve;refine⟨.panic [{v,recovered:=false}],a,w',h,.inRegion ops (i::rest)::k,rfl,.one h0 (step_lone_go ?_)⟩;rw[hg,<- Frame.raise_atR];simp[stepG.apply,ve];exact h.elim;simp only [hw,qdw,qd8]at h;obtain⟨zbS,h⟩:=h;have h0:(lone (b.atR a (.inRegion ops (i::rest)::k)) cs w).fenced P (FR r):=fenced_oper hb hr ho zbS;obtain⟨e,a',w',hq,ed⟩:=ih _ _ h b k cs wM hb hr;have hs:=stepR_op_skip (P:=P) (b:=b) (a:=a) (k:=k) (cs:=cs) (w:=w) (ops:=ops) (i:=i) (rest:=rest) (by simpa [ho]using hw);rw[ho]at hs;exact⟨e,a',w',hq,.of_steps (.one h0 hs) ed⟩
theorem MN{id:Nat}{ops:Array Oper}(h:wpOpsIn (FR r) n P ops Q (List.range ops.size) a w):DX r n P (.region id ops false) Q a w:=λb k cs wM hb hr=>by
 obtain⟨e,a',w',hq,ed⟩:=zo6 _ a w h b k cs wM hb hr;exact⟨e,a',w',hq,.of_steps (.one (fenced_calm hb hr rfl) stepR_region) ed⟩
theorem zaz{P:Program}{fr:Frame}(h:zyG fr.todo=true):fr.catches P=false:=by
 unfold Frame.catches;split;rename_i e;rw[e]at h;cases h;rfl
theorem AP{P:Program}{fr c:Frame}{cs:List Frame}{w:World}{chain:List PanicEntry}(hm:fr.mode=.panicking chain)(hd:fr.defers=[])(ht:zyG fr.todo=true):step P (lone fr (c::cs) w)=.next (lone (c.raise chain) cs w) :=
 step_lone_go (by simp[stepG,unwind,hm,hd,zaz ht])
def zaA(P:Program)(l:Nat)(R:Ending→World→Prop):Exit→Act→World→Prop|.normal,_,w=>∃v w',(Instr.endRound l none).run P w=.ok v w'/\R (.returned v) w'|.ret,_,w=>∃v w',(Instr.endRound l (some .ret)).run P w=.ok v w'/\R (.returned v) w'|.exit id,_,w=>∃v w',(Instr.endRound l (some (.exit id))).run P w=.ok v w'/\R (.returned v) w'|.goto t,_,w=>∃v w',(Instr.endRound l (some (.goto t))).run P w=.ok v w'/\R (.returned v) w'|.panic ch,a,w=>a.defers=[]/\R (.panicked ch) w|.outgrown,_,_=>False
theorem MO{l n:Nat}{P:Program}{f:FuncId}{tmps:Array Value}{assign body:Code}{w:World}{R:Ending→World→Prop}
    (h:DX (some l) n P assign (Exit.then (λa1 w1=>∃w2,(Instr.beginRound l).run P w1=.ok () w2/\DX (some l) n P body (zaA P l R) a1 w2) (λ_ _ _=>False)) {tmps:=tmps,defers:=[]} w) :
    RoundIn Fence.wide n P l f tmps assign body w R:=by
  refine⟨trivial,λc cs hr=>?_⟩;let b:Frame:={(default:Frame)with fn:=f,kind:=.normal,roundOf:=some l};have hb0:Frame.round l f tmps assign body .normal=b.atR {tmps:=tmps,defers:=[]} [.code assign,.beginRound,.code body]:=by
    simp[Frame.round,Frame.atR,b]
  have ve:(FR (some l)).room ((c::cs).length+1+n):=hr;obtain⟨e,a1,w1,hq,ed⟩:=h b [.beginRound,.code body] (c::cs) rfl trivial ve;rw[<- hb0]at ed;have back:∀{m m':Machine},StepsIn (Machine.fenced P (FR (some l))) P m m'->StepsIn (Machine.fenced P Fence.wide) P m m':=λh=>stepsIn_wide.2 (StepsIn.steps h);cases e with
  | normal =>
    obtain⟨w2,hbr,sO⟩:=hq;have s1:StepsIn (Machine.fenced P (FR (some l))) P (lone (b.atR a1 [.beginRound,.code body]) (c::cs) w1) (lone (b.atR a1 [.code body]) (c::cs) w2) :=
      .one (fenced_calm (fr:=b.atR a1 [.beginRound,.code body]) trivial ve rfl) (stepR_beginRound rfl hbr)
    obtain⟨e2,a2,w3,hq2,DY⟩:=sO b [] (c::cs) rfl trivial ve;cases e2 with
    | normal =>
      obtain⟨v,w4,qg,hR⟩:=hq2;exact⟨.returned v,w4,hR,back ((StepsIn.trans ed s1).trans (StepsIn.trans DY (.one (fenced_calm (fr:=b.atR a2 []) trivial ve rfl) (stepR_round_end rfl rfl qg))))⟩
    | ret =>
      obtain⟨v,w4,qg,hR⟩:=hq2;obtain⟨k1,hs⟩:=DY.2 rfl;exact⟨.returned v,w4,hR,back ((StepsIn.trans ed s1).trans (StepsIn.trans hs (.one (fenced_calm (fr:=b.atR a2 (.code .ret::k1)) trivial ve rfl) (stepR_round_ret rfl rfl qg))))⟩
    | exit id =>
      obtain⟨v,w4,qg,hR⟩:=hq2;obtain⟨k1,hx,hs⟩:=DY.2 rfl rfl;exact⟨.returned v,w4,hR,back ((StepsIn.trans ed s1).trans (StepsIn.trans hs (.one (fenced_calm (fr:=b.atR a2 (.code (.exit id)::k1)) trivial ve rfl) (stepR_round_exit rfl rfl hx qg))))⟩
    | goto t =>
      obtain⟨v,w4,qg,hR⟩:=hq2;obtain⟨k1,hx,hs⟩:=DY.2 rfl rfl;exact⟨.returned v,w4,hR,back ((StepsIn.trans ed s1).trans (StepsIn.trans hs (.one (fenced_calm (fr:=b.atR a2 (.code (.goto t)::k1)) trivial ve rfl) (stepR_round_goto rfl rfl hx qg))))⟩
    | panic ch =>
      obtain⟨hd,hR⟩:=hq2;obtain⟨todo,ht,hs⟩:=DY;refine⟨.panicked ch,w3,hR,back ((StepsIn.trans ed s1).trans (StepsIn.trans hs (.one ?_ (AP rfl hd ht))))⟩;refine fenced_calm (fr:={b.atR a2 todo with mode:=.panicking ch}) trivial ve ?_;simp[Frame.about,Frame.atR,hd]
    | outgrown=>exact hq2.elim
  | exit id=>exact hq.elim
  | goto l=>exact hq.elim
  | ret=>exact hq.elim
  | panic chain=>exact hq.elim
  | outgrown=>exact hq.elim
theorem Pj{r:Option Nat}{n:Nat}{P:Program}{Q:Exit→Act→World→Prop}{a:Act}{w:World}{g:Operand}{ps:Array Tmp}{assign body:Code}
    (h:∀fn,∃(l:Nat)(mark:List Deferred)(w₁:World)(d:Deferred)(w₁':World)(f:FuncId)(args:Array Value)(w₂:World),
      (Instr.enterLoop fn a.tmps ps assign body (FR r).round).run P w=.ok (l,mark) w₁ /\
      (resolve a.eval (rangeCall g l) 0).run P w₁=.ok d w₁' /\
      (invoke d.target d.args).run P w₁'=.ok (.enter f args) w₂ /\
      CallsIn (FR r) (n-1) P f args w₂ (λe w₃=>match e with
        | .returned _=>∃jump w₄,(Instr.endLoop l).run P w₃=.ok jump w₄/\(match jump with
          | none=>Q .normal {a with defers:=mark++a.defers} w₄
          | some c=>DX r n P c Q {a with defers:=mark++a.defers} w₄)
        | .panicked chain=>Q (.panic chain) {a with defers:=mark++a.defers} w₃
        | .outgrown=>False)) :
    DX r n P (.rangeFunc g ps assign body) Q a w:=by
  intro b k cs wM hb hr;obtain⟨l,mark,w₁,d,w₁',f,args,w₂,he,o8,hinv,hF,fQ⟩:=h b.fn;rw[<- wM]at he;have h0:(lone (b.atR a (.code (.rangeFunc g ps assign body)::k)) cs w).fenced P (FR r):=fenced_lone (.inl trivial) (λ_ _=>trivial) (Fence.room_le hr omY);have qF:=stepR_rangeFunc (P:=P) (b:=b) (a:=a) (k:=k) (cs:=cs) (w:=w) he o8 hinv;have FM:(FR r).room ((b.atR {a with defers:=mark++a.defers} (.inRangeFunc l::k)::cs).length+1+(n-1)):=Fence.room_enter hr (λh=>by simp[FR]at h);obtain⟨e,w₃,fr,hR,qE,ug,xZ⟩:=fQ (b.atR {a with defers:=mark++a.defers} (.inRangeFunc l::k)::cs) FM;cases e with
  | outgrown=>exact hR.elim
  | returned v =>
    have hl:(lone fr (b.atR {a with defers:=mark++a.defers} (.inRangeFunc l::k)::cs) w₃).fenced P (FR r):=fenced_leaving (ug▸hF) FM xZ;obtain⟨jump,w₄,qg,hj⟩:=hR;have zxW:StepsIn (Machine.fenced P (FR r)) P (lone (b.atR a (.code (.rangeFunc g ps assign body)::k)) cs w) (lone (b.atR {a with defers:=mark++a.defers} ((jump.map Item.code).toList++k)) cs w₄):=by
      refine .head h0 qF (StepsIn.trans qE (.head hl ?_ (.one (fenced_calm (fr:=b.atR {a with defers:=mark++a.defers} (.endRangeFunc l::k)) hb hr rfl) (stepR_endRangeFunc qg))));rw[<- finish_atR_inRangeFunc l v];exact step_leave_returned xZ
    cases jump with
    | none=>exact⟨.normal,_,w₄,hj,zxW⟩
    | some c =>
      obtain⟨e',a'',w₅,hq,ed⟩:=hj b k cs wM hb hr;exact⟨e',a'',w₅,hq,.of_steps zxW ed⟩
  | panicked chain =>
    have hl:(lone fr (b.atR {a with defers:=mark++a.defers} (.inRangeFunc l::k)::cs) w₃).fenced P (FR r):=fenced_leaving (ug▸hF) FM xZ;refine⟨.panic chain,_,w₃,hR,.inRangeFunc l::k,rfl,.head h0 qF (StepsIn.trans qE (.one hl ?_))⟩;rw[<- Frame.raise_atR];exact step_leave_panicked xZ
end
end Go.Pm
namespace Go.Pm
variable [aC]
open Go.RowKit (Below)
theorem zl{P:Program}:∀(l:List (Nat×Nat×Nat))(σ τ:St),BL σ τ→(mW P l σ=none∧mW P l τ=none)∨∃σ' τ',mW P l σ=some σ'∧mW P l τ=some τ'∧BL σ' τ'
  | [],σ,τ,h=>.inr ⟨σ,τ,rfl,rfl,h⟩
  | (t,L,e)::r,σ,τ,h=>by
    simp only[mW];rw[<- h.env,<- h.ay];split;split;split;refine zl r _ _ ⟨fun s => ?_,fun s => ?_,h.log⟩;simp only[aX,h.env];simp only[aX,h.ay];exact .inl ⟨rfl,rfl⟩;exact .inl ⟨rfl,rfl⟩;exact zl r _ _ h;exact .inl ⟨rfl,rfl⟩
theorem zn{P:Program}:∀(l:List (Nat×Nat×Nat×Nat))(σ τ:St),BL σ τ→(mX P l σ=none∧mX P l τ=none)∨∃σ' τ',mX P l σ=some σ'∧mX P l τ=some τ'∧BL σ' τ'
  | [],σ,τ,h=>.inr ⟨σ,τ,rfl,rfl,h⟩
  | (B,k,L,e)::r,σ,τ,h=>by
    simp only[mX];rw[<- h.ay,<- h.ay];split;split;split;split;refine zn r _ _ ⟨h.env,fun s => ?_,h.log⟩;simp only[aX,h.ay];exact .inl ⟨rfl,rfl⟩;exact .inl ⟨rfl,rfl⟩;exact zn r _ _ h;exact .inl ⟨rfl,rfl⟩;exact .inl ⟨rfl,rfl⟩
theorem zo{P:Program}:∀(l:List (Nat×Nat×Nat×Nat×Nat))(σ τ:St),BL σ τ→(mY P l σ=none∧mY P l τ=none)∨∃σ' τ',mY P l σ=some σ'∧mY P l τ=some τ'∧BL σ' τ'
  | [],σ,τ,h=>.inr ⟨σ,τ,rfl,rfl,h⟩
  | (B,k,L,te,e)::r,σ,τ,h=>by
    simp only[mY];rw[<- h.ay,<- h.ay];split;split;split;split;split;refine zo r _ _ ⟨h.env,fun s => ?_,h.log⟩;simp only[aX,h.ay];exact .inl ⟨rfl,rfl⟩;exact .inl ⟨rfl,rfl⟩;exact .inl ⟨rfl,rfl⟩;exact zo r _ _ h;exact .inl ⟨rfl,rfl⟩;exact .inl ⟨rfl,rfl⟩
theorem zq:∀(l:List Nat)(σ τ:St),BL σ τ→(mZ l σ=none∧mZ l τ=none)∨∃σ' τ',mZ l σ=some σ'∧mZ l τ=some τ'∧BL σ' τ'
  | [],σ,τ,h=>.inr ⟨σ,τ,rfl,rfl,h⟩
  | t::r,σ,τ,h=>by
    have ho:lk σ.ay=lk τ.ay:=funext h.ay;simp only[mZ];rw[<- h.env,<- ho];split;split;refine zq r _ _ ⟨fun s => ?_,h.ay,h.log⟩;simp only[aX,h.env];split;refine zq r _ _ ⟨fun s => ?_,fun s => ?_,h.log⟩;simp only[aX,h.env];simp only[iC,h.ay];exact .inl ⟨rfl,rfl⟩;exact .inl ⟨rfl,rfl⟩
theorem Gx{α:Type}{f:α→α}{l l':List (Nat×α)}(h:∀t,lk l t=lk l' t):∀ks,yf f l ks=yf f l' ks|[]=>rfl|t::r=>by simp only[yf,h,Gx h r]
theorem ziF{ob ob':Nat->Option AO}(h:∀t,ob t=ob' t):∀ks,F6 ob ks=F6 ob' ks:=by
 intro ks;have:ob=ob':=funext h;rw[this]
theorem ziG{ob ob':Nat->Option AO}(h:∀t,ob t=ob' t):∀ks,O6 ob ks=O6 ob' ks:=by
 intro ks;have:ob=ob':=funext h;rw[this]
theorem zaB{P:Program}{k:Keep}{σ τ:St}(h:BL σ τ):yP P k σ=yP P k τ:=by
 unfold yP;rcases zl (P:=P) k.coT σ τ h with⟨h1,h2⟩|⟨σ1,τ1,h1,h2,h3⟩
 rw[h1,h2];rw [h1,h2];simp only;rcases zn (P:=P) k.coB σ1 τ1 h3 with⟨h4,h5⟩|⟨σ2,τ2,h4,h5,h6⟩
 rw[h4,h5];rw [h4,h5];simp only;rcases zo (P:=P) k.coV σ2 τ2 h6 with⟨h7,h8⟩|⟨σ3,τ3,h7,h8,h9⟩
 rw[h7,h8];rw [h7,h8];simp only;rw[Gx h9.env,show lk σ3.ay=lk τ3.ay from funext h9.ay];rw[Gx h9.ay]
theorem ziH{σ τ:St}{n:Nat}(h:BL σ τ):BL (zeq σ n) (zeq τ n):=by
 have ho:lk σ.ay=lk τ.ay:=funext h.ay;unfold zeq;rw[<- ho]
 repeat' split
 all_goals first
  | exact h
  | exact⟨h.env,λt=>by simp only[jqT,aX,h.ay],h.log⟩
theorem zcI:∀(l:List Nat){σ τ:St},BL σ τ→BL (coP l σ) (coP l τ)|[],_,_,h=>h|_::r,_,_,h=>zcI r (ziH h)
theorem ze4{P:Program}{k:Keep}{σ τ:St}(h:BL σ τ):canon P k σ=canon P k τ:=by
 unfold canon;have h1:BL (zep k.coF σ) (zep k.coF τ):=⟨h.env,λt=>by simp only[zep,iC,h.ay,ziF h.ay,ziG h.ay],h.log⟩;rcases zq k.coZ _ _ (zcI k.coF h1)with⟨h2,h3⟩|⟨σ1,τ1,h2,h3,h4⟩
 rw[h2,h3];rw[h2,h3];simp only;rw[zaB h4]
section
variable{P:Program}{Γ:bK}{nt B:Nat}{w0:World}{h0:Fz}{r:Option Nat}{n:Nat}
theorem mF{b:Frame}{a:Act}{k:List Item}{cs:List Frame}{w:World}{c:Code} :
  step P (lone (b.atR a (.code (.scope c)::k)) cs w)=.next (lone (b.atR a (.code c :: .inScope c::k)) cs w) :=
 step_lone_go (by simp[stepG,stepG.exec,Frame.atR])
theorem Pn{b:Frame}{a:Act}{k:List Item}{cs:List Frame}{w:World}{c:Code} :
  step P (lone (b.atR a (.inScope c::k)) cs w)=.next (lone (b.atR a k) cs w) :=
 step_lone_go (by simp[stepG,stepG.exec,Frame.atR])
theorem zaC{c:Code}{Q:Exit->Act->World->Prop}{a:Act}{w:World}{F:Fence}(h:c.wpIn F n P (Exit.noGoto Q) a w):(Code.scope c).wpIn F n P Q a w:=by
 intro b k cs wM hb hr;obtain⟨e,a₁,w₁,hq,ed⟩:=h b (.inScope c::k) cs wM hb hr;have h0:(lone (b.atR a (.code (.scope c)::k)) cs w).fenced P F:=fenced_calm hb hr rfl;cases e with
 | normal=>exact⟨.normal,a₁,w₁,hq,.head h0 mF (StepsIn.trans ed (.one (fenced_calm hb hr rfl) Pn))⟩
 | exit id =>
  refine⟨.exit id,a₁,w₁,hq,λk' hk=>.head h0 mF (ed.1 k' (by simp[exitTo,hk])),λve hk=>?_⟩;obtain⟨k₁,h1,h2⟩:=ed.2 ve (by simp[exitTo,hk]);exact⟨k₁,h1,.head h0 mF h2⟩
 | goto l=>exact hq.elim
 | ret=>exact⟨_,a₁,w₁,hq,.of_steps (.one h0 mF) ed⟩
 | panic ch=>exact⟨_,a₁,w₁,hq,.of_steps (.one h0 mF) ed⟩
 | outgrown=>exact⟨_,a₁,w₁,hq,.of_steps (b:=b) (k:=k) (cs:=cs) (e:=.outgrown) (.one h0 mF) ed⟩
def Xb(F:Fence)(n:Nat)(P:Program)(c:Code)(Q:Exit->Act->World->Prop)(a:Act)(w:World):Prop :=
 ∀(b:Frame)(k:List Item)(cs:List Frame),b.roundOf=F.round->F.fn b.fn->F.room (cs.length+1+n) ->
  ∃e a' w',Q e a' w'/\ArrivesIn (Machine.fenced P F) P (lone (b.atR a (.code c :: .inLoop c::k)) cs w) b k cs e a' w'
theorem IC{F:Fence}{c:Code}{Q:Exit->Act->World->Prop}{a:Act}{w:World}(h:Xb F n P c Q a w):(Code.loop c).wpIn F n P Q a w:=by
 intro b k cs wM hb hr;obtain⟨e,a',w',hq,ed⟩:=h b k cs wM hb hr;exact⟨e,a',w',hq,.of_steps (.one (fenced_calm hb hr rfl) stepR_loop) ed⟩
theorem IE{F:Fence}{c:Code}{Q:Exit->Act->World->Prop}{a:Act}{w:World}(h:c.wpIn F n P (Exit.then (Xb F n P c Q) Q) a w):Xb F n P c Q a w:=by
 intro b k cs wM hb hr;obtain⟨e,a₁,w₁,hq,ed⟩:=h b (.inLoop c::k) cs wM hb hr;cases e with
 | normal =>
  obtain⟨e₂,a₂,w₂,hq₂,zN4⟩:=hq b k cs wM hb hr;exact⟨e₂,a₂,w₂,hq₂,.of_steps (StepsIn.trans ed (.one (fenced_calm hb hr rfl) stepR_inLoop)) zN4⟩
 | exit id=>exact⟨_,a₁,w₁,hq,.pass (x:=.inLoop c) rfl (λ_ _=>.inl (by simp)) ed⟩
 | goto l=>exact⟨_,a₁,w₁,hq,.pass (x:=.inLoop c) rfl (λ_ _=>.inl (by simp)) ed⟩
 | ret=>exact⟨_,a₁,w₁,hq,.pass (x:=.inLoop c) rfl (λ_ _=>.inl (by simp)) ed⟩
 | panic ch=>exact⟨_,a₁,w₁,hq,.pass (x:=.inLoop c) rfl (λ_ _=>.inl (by simp)) ed⟩
 | outgrown=>exact⟨_,a₁,w₁,hq,.pass (x:=.inLoop c) rfl (λ_ _=>.inl (by simp)) ed⟩
def PostR(P:Program)(nt B:Nat)(w0:World)(h0:Fz)(D:List Nat)(a0:Act)(K:Exit->St->Prop):Exit->Act->World->Prop :=
 λe a' w'=>∃g' σ',K e σ'/\bW P nt B w0 h0 g' σ' a' w'/\Kp D a0 a'
def Snd(P:Program)(Γ:bK)(aQ:dG)(B:Nat)(w0:World)(c:Code):Prop :=
 ∀(r:Option Nat)(n:Nat)(h0:Fz)(D:List Nat)(a0:Act)(K:Exit->St->Prop)(σ:St)(g:Gh)(a:Act)(w:World),(∀t∈eQ c,t∈D)->Rnd r h0->vc P Γ aQ c K σ ->
  bW P aQ.nt B w0 h0 g σ a w->Kp D a0 a->DX r n P c (PostR P aQ.nt B w0 h0 D a0 K) a w
theorem DZ:∀{l:List Oper}{j:Nat}{o:Oper}{t:Nat},l[j]? = some o→o.dst=some t→t∈Jb l
  | [],j,o,t,h,_=>by simp at h
  | x::l,j,o,t,h,hd=>by
    cases j with
    | zero =>
      simp only[qdE,bV]at h;subst h;simp only[Jb,hd];exact kX
    | succ j =>
      have:=DZ (l:=l) (j:=j) (by simpa using h) hd;simp only[Jb];split;exact jW _ this;exact this
theorem QJ(gy:jF P Γ)(aQ:dG){id:Nat}{ops:Array Oper}{draw:Bool}{K:St→Prop}{Q:Exit→Act→World→Prop}{D:List Nat}{a0:Act}{σ:St}{g:Gh}{a:Act}{w:World}
    (hD:∀t∈Jb ops.toList,t∈D) (h:P5 P Γ aQ id ops draw K σ) (S:bW P aQ.nt B w0 h0 g σ a w) (lG:Kp D a0 a)
    (hQ:∀g' σ' a' w',K σ'->bW P aQ.nt B w0 h0 g' σ' a' w'->Kp D a0 a'->a'.defers=a.defers->Q .normal a' w'):DX r n P (.region id ops draw) Q a w:=by
  have hD':∀(j:Nat)(o:Oper),ops[j]? = some o->∀t,o.dst=some t->t∈D:=λj o ho t ht=>hD t (DZ (by simpa using ho) ht);have zRU:∀σ',(match lk aQ.reg id with|some k=>(match canon P k σ' with|some s=>K s|none=>False)|none=>K σ')->∀g' a' w',bW P aQ.nt B w0 h0 g' σ' a' w'->Kp D a0 a'->a'.defers=a.defers->Q .normal a' w':=by
    intro σ' h g' a' w' S jR FK;split at h;split at h;rename_i s hs;obtain⟨g2,S2⟩:=eU hs S;exact hQ g2 s a' w' h S2 jR FK;exact h.elim;exact hQ g' σ' a' w' h S jR FK
  simp only[P5]at h;cases draw with
  | false =>
    refine MN ?_;exact Il gy hD' h (S.log _) lG zRU
  | true =>
    simp only at h;split at h;rename_i hc;simp only[gq]at hc;refine pU (Q:=λe a w=>e=.normal/\Q .normal a w) (ze0 ?_ λch a w h=>by cases h.1) λe a w h=>by obtain⟨rfl,h⟩:=h;exact h
    refine zav (K:=λσ'=>match lk aQ.reg id with
      | some k=>match canon P k σ' with|some s=>K s|none=>False
      | none=>False) gy hD' lG hc.1.1 hc.1.2 hc.2 (λσ τ he hσ=>?_) h (S.log []) ?_
    split at hσ;rename_i k hk;rw[ze4 he]at hσ;exact hσ;exact hσ.elim;intro σ' h g' a' w' S jR FK;split at h;split at h;rename_i s hs;obtain⟨g2,S2⟩:=eU hs S;exact⟨rfl,hQ g2 s a' w' h S2 jR FK⟩;exact h.elim;exact h.elim;exact h.elim
theorem Gy{α:Type}:∀{l p:List α}{x:α},qm l=some (p,x)→l=p++[x]
  | [],p,x,h=>by cases h
  | o::r,p,x,h=>by
    simp only[qm]at h;split at h;rename_i q y hq;cases h;rw[qdT,<- Gy hq]
    · rename_i hq;cases h;cases r with|nil=>rfl|cons a r=>simp only[qm]at hq;split at hq<;>cases hq
theorem ziI{P:Program}{nt:Nat}{m p:Oper}{ty:TypeId}{x y:Nat}(h:zes P nt m p=some (ty,x,y)) :
  m.op=.makeInterface ty (.tmp x)/\m.dst=some y/\m.guard=none/\p.op=.panic (.tmp y)/\p.guard=none/\y<nt/\∃fs,P.underlying ty=some (.struct fs):=by
 unfold zes at h;split at h;rename_i ZC x' y1 y2 e1 e2 e3 e4 e5;split at h;rename_i hc;simp only[gq]at hc;split at h;rename_i fs hfs;cases h;have:=lH hc.1;subst this;exact⟨e1,e2,e3,e4,e5,by simpa [qjf]using hc.2,fs,hfs⟩;cases h;cases h;cases h
theorem ziJ{Γ:bK}{o:Oper}{σ:St}{C:MK}{xs:List XA}{ds:List DV}{ls ms:List Nat}(h:zet Γ o σ=some (C,xs,ds,ls,ms)) :
  ∃f args ts gf caps,o.op=.call {callee:=.value f,args,argTypes:=ts}/\fV σ.env f=.one (.c (.clo gf caps))/\Γ.mt gf=some C/\ds=args.toList.map (fV σ.env)++caps.map capD/\kK (zen gf args.size caps) (lk σ.ay) ds=some (xs,ls,ms):=by
 unfold zet at h;split at h;rename_i f args ts e1;split at h;rename_i gf caps e2;split at h;rename_i C' e3;split at h;rename_i xs' ls' ms' e4;cases h;exact⟨f,args,ts,gf,caps,e1,e2,e3,rfl,e4⟩;cases h;cases h;cases h;cases h
theorem ze5{ds:List DV}{ob:Nat→Option AO}{ls ms:List Nat}{rs:List PA}{ys:List XA}{i:Nat}{dst:Option Nat}{σ σ2:St}(h:O7 i dst σ (qJ ds ob ls ms rs ys)=some σ2) :
  ∃u,kw ob ds ys=some u/\(mQ ls&&Nat.ble ms.length 1&&ms.all λM=>((u.filter λx=>!lJ x.2).map (·.1)).contains M)=true/\∃fp,σ2=σ.upd i dst fp (resD rs) (u.filter λx=>!lJ x.2) ms:=by
 unfold qJ at h;split at h;rename_i u hu;split at h;rename_i hc;cases h;exact⟨u,hu,hc,_,rfl⟩;cases h;cases h
theorem IG{o:Oper}{a:Act}{w w':World}{Q:Exit→Act→World→Prop}{next:Act→World→Prop}(zN:∀c,o.op ≠ .defer c){f:FuncId}{args:Array Value}(h:(execOp a.eval o).run P w = .ok (.enter f args) w')
    (hR:Calls P f args w' λe Ar=>(∃v,e=.returned v/\next (a.put o.dst v) Ar)\/∃ch,e=.panicked ch/\Q (.panic ch) a Ar):o.wpIn (FR r) n P a w next Q:=by
  refine⟨λ_ _=>trivial,?_⟩;rw[Oper.semAt_eq _ _ _ zN,h,Oper.uponIn_enter];refine⟨λh=>by simp[FR]at h,(KY hR).mono ?_⟩;rintro e Ar (⟨v,rfl,hv⟩|⟨ch,rfl,hv⟩);exact hv;exact hv
theorem zaD(gy:jF P Γ)(aQ:dG){id:Nat}{ops:Array Oper}{K:Exit→St→Prop}{D:List Nat}{a0:Act}{σ:St}{g:Gh}{a:Act}{w:World}
    (hD:∀t∈Jb ops.toList,t∈D) (h:KO P Γ aQ id ops K σ) (S:bW P aQ.nt B w0 h0 g σ a w) (lG:Kp D a0 a):DX r n P (.region id ops false) (PostR P aQ.nt B w0 h0 D a0 K) a w:=by
  have hD':∀(j:Nat)(o:Oper),ops[j]? = some o->∀t,o.dst=some t->t∈D:=λj o ho t ht=>hD t (DZ (by simpa using ho) ht);refine MN ?_;unfold KO at h;split at h
  rotate_left
  exact h.elim;rename_i p1 l hs;have e0:=Gy hs;have jU:ops.size=p1.length+1:=by rw[<- qja,e0];simp
  have at_:∀j:Nat,ops[j]? = (p1++[l])[j]?:=λj:Nat=>by rw[<- e0,jqU]
  split at h
  rotate_left
  exact h.elim;rename_i pre m hs1;have e1:=Gy hs1;split at h
  · -- the region panics
    rename_i ty x y zyH;obtain⟨q1,q2,q3,q4,q5,q6,fs,q7⟩:=ziI zyH;have zOl:ops.size=pre.length+2:=by rw[jU,e1];simp
    have om:ops[pre.length]? = some m:=by rw[at_,e1];simp
    have ol:ops[pre.length+1]? = some l:=by rw[at_,e1];simp
    rw[dqZ,zOl,show List.range' 0 (pre.length+2)=List.range' 0 pre.length++[pre.length,pre.length+1]by rw[show pre.length+2=pre.length+1+1 by rfl,qj8,qj8];simp];refine rU _ a w ?_;refine zg (r:=r) (n:=n) (ad:=a.defers) gy hD' ?_ pre 0 _ g a w (λj hj=>by rw[O3,at_,e1,List.append_assoc,qjG hj]) h (S.log []) lG rfl;intro σ' hK g' a' w' S' zeZ _;unfold zyf at hK;split at hK
    rotate_left
    exact hK.elim;rename_i k nn hx;have hv:a'.tmps.getD x undef=.agg #[.int k nn]:=by
      obtain⟨vs,e,hr⟩:=S'.env x _ hx
      match vs,hr with
      | [v],hr =>
        have:Rep g'.h (.int k nn) v:=hr.1;cases this;exact e
    show wpOpsIn (FR r) n P ops _ [pre.length,pre.length+1] a' w';have w1:∀tm,Region.wanted m (yielded ops tm)=true:=λtm=>by simp[Region.wanted,q3]
    have w2:∀tm,Region.wanted l (yielded ops tm)=true:=λtm=>by simp[Region.wanted,q5]
    simp only[wpOpsIn,om,ol,w1,w2,PW];have r1:(execOp a'.eval m).run P w'=.ok (.value (.iface ty (.agg #[.int k nn]))) w':=by
      simp only[execOp,q1,Instr.makeInterface,Act.eval,hv,Sem.run_bind,run_underlying q7,Result.andThen_ok,Sem.run_pure]
    have m1:∀c,m.op ≠ .defer c:=λc e=>by rw[q1]at e;cases e
    have m2:∀c,l.op ≠ .defer c:=λc e=>by rw[q4]at e;cases e
    refine⟨λ_ _=>trivial,?_⟩;rw[Oper.semAt_eq _ _ _ m1,r1,Oper.uponIn_value,q2];refine⟨λ_ _=>trivial,?_⟩;have ets:y<a'.tmps.size:=qdx q6 S'.size;have r2:(execOp (a'.put (some y) (.iface ty (.agg #[.int k nn]))).eval l).run P w'=.halt (.panic (.iface ty (.agg #[.int k nn]))) w':=by
      have ey:(a'.put (some y) (.iface ty (.agg #[.int k nn]))).eval (.tmp y)=.iface ty (.agg #[.int k nn]):=by
        simp[Act.put,Act.eval,yA,ets]
      simp only[execOp,q4,ey];rfl
    rw[Oper.semAt_eq _ _ _ m2,r2,Oper.uponIn_panic];have S2:=S'.put (dst:=some y) (d:=.junk) (v:=.iface ty (.agg #[.int k nn])) (by simpa [dI,qjf]using q6) trivial (λL hL=>by simp[cO,dD,bC]at hL) [];exact⟨g',_,hK,S2,zeZ.put (λt ht=>hD' pre.length m om t (q2.trans ht)) _ a'.defers rfl⟩
  · -- the last operation is a call
    have ol:ops[p1.length]? = some l:=by rw[at_];simp
    rw[dqZ,jU,show List.range' 0 (p1.length+1)=List.range' 0 p1.length++[p1.length]by rw[qj8];simp];refine rU _ a w ?_;refine zg (r:=r) (n:=n) (ad:=a.defers) gy hD' ?_ p1 0 _ g a w (λj hj=>by rw[O3,at_,qjG hj]) h (S.log []) lG rfl;intro σ' hK g' a' w' S' zeZ _;show wpOpsIn (FR r) n P ops _ [p1.length] a' w';unfold ZR at hK;split at hK
    rotate_left
    exact hK.elim;rename_i q5 q6;split at hK
    rotate_left
    exact hK.elim;rename_i C xs ds ls ms hm;obtain⟨f,args,ts,gf,caps,c1,c2,c3,c4,c5⟩:=ziJ hm;split at hK
    rotate_left
    exact hK.elim;rename_i rs ys hC;obtain⟨cv,OV,kR⟩:=(iY S' c2).1;have w1:∀tm,Region.wanted l (yielded ops tm)=true:=λtm=>by simp[Region.wanted,q5]
    simp only[wpOpsIn,ol,w1,PW];have dh:dA P gf->(execOp a'.eval l).run P w'=.ok (.enter gf (args.toList.map a'.eval++cv).toArray) w':=by
      intro fQ;simp only[execOp,c1,resolve,OV,Deferred.ofValue,Sem.run_bind,Sem.run_pure,Result.andThen_ok,invoke];rw[show(#[]++Array.map a'.eval args++cv.toArray)=(args.toList.map a'.eval++cv).toArray by cases args;simp];exact eF fQ
    have PR:RL (rO g') ds (args.toList.map a'.eval++cv):=by rw[c4];exact(Dz S' args.toList).append (SX kR)
    have main:∀(dst:Option Nat)(σ2:St),O7 p1.length dst σ' (qJ ds (lk σ'.ay) ls ms rs ys)=some σ2 ->
        dA P gf/\Calls P gf (args.toList.map a'.eval++cv).toArray w' λe w2=>∃g2 u fp,σ2=σ'.upd p1.length dst fp (resD rs) u ms/\SA g2.h rs e/\bW P aQ.nt B w0 h0 g2 ⟨kills (gY ms) σ'.env,u++kills (fE ms) σ'.ay,σ'.log⟩ a' w2:=by
      intro dst σ2 h2;obtain⟨u,hu,dw,fp,hσ⟩:=ze5 h2;obtain⟨fQ,wY⟩:=WC gy S' c3 PR (zib kR (by simp)) c5 hC hu dw none;exact⟨fQ,wY.mono λe w2 ⟨g2,he,S2⟩=>⟨g2,_,fp,hσ,he,S2⟩⟩
    split at hK
    · rename_i hpm;split at hK
      rotate_left
      exact hK.elim;rename_i σ2 h2;obtain⟨fQ,wY⟩:=main _ _ h2;refine IG (λc e=>by rw[c1]at e;cases e) (dh fQ) (wY.mono ?_);rintro e w2 ⟨g2,u,fp,hσ,qg,S2⟩;unfold SA at qg;rw[hpm]at qg;obtain⟨v,rfl,o8⟩:=qg;refine .inl ⟨v,rfl,?_⟩;have S3:=S2.put (v:=v) (d:=resD rs) q6 (SQ (g:=g2) o8) (λL hL=>by rw[Dy]at hL;simp at hL) σ'.log;have zo7:=zeZ.put (hD' p1.length l ol) v a'.defers rfl;rw[SV]at hσ;rw[hσ]at hK;unfold zer at hK;split at hK;split at hK;rename_i s hs2;obtain⟨g3,S4⟩:=eU hs2 S3;exact⟨g3,s,hK,S4,zo7⟩;exact hK.elim;exact⟨g2,_,hK,S3,zo7⟩
    · rename_i ch hpm;split at hK
      rotate_left
      exact hK.elim;rename_i σ2 h2;obtain⟨fQ,wY⟩:=main _ _ h2;refine IG (λc e=>by rw[c1]at e;cases e) (dh fQ) (wY.mono ?_);rintro e w2 ⟨g2,u,fp,hσ,qg,S2⟩;unfold SA at qg;rw[hpm]at qg;refine .inr ⟨ch,qg,?_⟩;rw[SV]at hσ;rw[hσ]at hK;exact⟨g2,_,hK,S2,zeZ⟩
def Xc(P:Program)(Γ:bK)(aQ:dG)(x y:Code)(ps:List Nat)(k:Keep)(K:Exit→St→Prop):List (List PA)→St→Prop
  | [],s=>K .normal s
  | yv::rest,s=>match qK ps yv s.env with|some env=>vc P Γ aQ x (zeu (vc P Γ aQ y (uu P k (oI [H7] (eQ x++eQ y)) (Xc P Γ aQ x y ps k K rest) K)) λ_ _=>False) ⟨env,s.ay,[]⟩|none=>False
theorem Xd{w:World}{l:Nat}{o:Obj}(h:w.heap[l]? = some o):w.putObj l o=w:=by
 obtain⟨hl,e⟩:=VD.1 h;unfold World.putObj;have:w.heap.setIfInBounds l o=w.heap:=by
  apply Array.ext_getElem?;intro i;rw[qd2];split;rename_i c;subst c
  first|(rw[eY hl];exact h.symm)|exact h.symm
  rfl
 rw[this]
theorem Xe(gy:jF P Γ){aQ:dG}{f:Operand}{ps:Array Tmp}{x y:Code}(ihx:Snd P Γ aQ B w0 x)(ZA:Snd P Γ aQ B w0 y):Snd P Γ aQ B w0 (.rangeFunc f ps x y):=by
 intro r n h0 D a0 K σ g a w hD hR h S lG;simp only[vc]at h;split at h
 ·rename_i k hk;split at h
  ·rename_i s hs zuQ;simp only[gq] at zuQ;obtain⟨zuQ,zRW⟩:=zuQ;split at h
   ·rename_i gf caps hf;split at h
    ·rename_i ys hit;have zOp:Xc P Γ aQ x y ps.toList k K ys s:=h (Xc P Γ aQ x y ps.toList k K) (λ_ h=>h) (λ_ _ _ h=>h);obtain⟨g1,S1⟩:=eU hs S;have FI:∀t∈k.tmps,t∉ps.toList/\t∉eQ x++eQ y:=by
      intro t ht;have h1:=zQ.1 zuQ t ht;simp only[H6]at h1;have h2:t∉ps.toList++(eQ x++eQ y):=by simpa using h1
      exact⟨λh=>h2 (dX.2 (.inl h)),λh=>h2 (dX.2 (.inr h))⟩
     refine Pj λfn=>?_;obtain⟨l,mark,w1,d,h1,dh,hlw,hl1,z08,hn1,S2,zHg⟩:=Pi S1 hR fn ps x y;have ug:=jM S1 hf;generalize OV:a.eval f=fvv at ug;cases ug with
     | fn _ _ _ fv cv l1 l2 hf1 FH =>
      have e1:fv=[]:=qdC l1.symm;subst e1;let a1:Act:={a with defers:=mark++a.defers};let rec_:LoopState->Option Code->Loop:=λst pe=>{state:=st,pending:=pe,fn,tmps:=a.tmps,params:=ps,assign:=x,body:=y,defers:=d}
      let J:List (List PA)->Fz->World->Prop:=λ rest h W=>∃ s bk sv iv,Xc P Γ aQ x y ps.toList k K rest s/\(∀ t d,lk s.env t=some d->t∈k.tmps)/\bW P aQ.nt B w0 h0 ⟨h,bk,sv,iv⟩ s a1 W/\h l=none/\B<=l /\
       (∀L o,lk s.ay L=some o->¬iy ⟨h,bk,sv,iv⟩ L o l)/\W.heap[l]? = some (.loop (rec_ .ready none))
      let Jx:List (List PA)->Fz->World->Prop:=λ _ h W=>∃ s bk sv iv c,((c=.ret/\K .ret s)\/∃ id,c=.exit id/\K (.exit id) s)/\bW P aQ.nt B w0 h0 ⟨h,bk,sv,iv⟩ s a1 W/\h l=none/\B<=l /\
       (∀L o,lk s.ay L=some o->¬iy ⟨h,bk,sv,iv⟩ L o l)/\W.heap[l]? = some (.loop (rec_ .done (some c)))
      have zvk:∀{h h':Fz}{W W':World},W.heap[l]? ≠ none->h l=none->(∀b o,h' b=some o->h b=some o\/W.heap.size<=b)->yh h W.heap.size W W'->h' l=none/\W'.heap[l]? = W.heap[l]?:=by
       intro h h' W W' hW hl hn hb;have iM:l<W.heap.size:=by
        cases hx:W.heap[l]? with|none=>exact absurd hx hW|some o=>exact(VD.1 hx).1
       refine⟨?_,hb.block l iM⟩;cases hx:h' l with
       | none=>rfl
       | some o =>
        rcases hn l o hx with h3|h3
        rw[hl]at h3;cases h3;omega
      have hJ:JSt J:=by
       rintro rest h W h' W' ⟨s,bk,sv,iv,hg,he,SJ,hl,hB,wO,hW⟩ hle IX hn hb;obtain⟨k1,k2⟩:=zvk (by rw[hW];simp) hl hn hb;exact⟨s,bk,sv,iv,hg,he,SJ.world hle IX hn hb,k1,hB,wO,by rw[k2];exact hW⟩
      have hJx:JSt Jx:=by
       rintro rest h W h' W' ⟨s,bk,sv,iv,c,hc,SJ,hl,hB,wO,hW⟩ hle IX hn hb;obtain⟨k1,k2⟩:=zvk (by rw[hW];simp) hl hn hb;exact⟨s,bk,sv,iv,c,hc,SJ.world hle IX hn hb,k1,hB,wO,by rw[k2];exact hW⟩
      have hBl:B<=l:=FN S1.bs hlw;have h0l:∀{h:Fz} {bk sv iv} {s:St} {W:World},bW P aQ.nt B w0 h0 ⟨h,bk,sv,iv⟩ s a1 W->h l=none->h0 l=none:=λSJ hl=>by
       cases hx:h0 l with|none=>rfl|some o=>have:=SJ.le0 l o hx;simp only[hl]at this;cases this
      have zRX:∀L o,lk s.ay L=some o->¬iy (g1.re h1) L o l:=λL o ho hk=>by
       have:iy g1 L o l:=hk;have:=iW (S1.obj L o ho) this;omega
      have zEw:=gy.it gf (caps.map .one) ys hit l J Jx (λe W=>∃ch s bk sv iv h,e=.panicked ch/\K (.panic ch) s/\bW P aQ.nt B w0 h0 ⟨h,bk,sv,iv⟩ s a1 W) w1 h1 cv hJ hJx ?_ ⟨s,g1.bk,g1.sv,g1.iv,zOp,Gw hs,S2,hn1,hBl,zRX,hl1⟩ (zac ((LK l2 FH).mono λ_ _ h=>h.mono z08)) S2.hw;obtain⟨fQ,z0H⟩:=zEw;refine⟨l,mark,w1,{target:=.fn (.func gf) cv.toArray,args:=#[.func (.yield l) #[] #[]]},w1,gf,(.func (.yield l) #[] #[]::cv).toArray,w1,?_,?_,?_,(KY z0H).mono ?_⟩;exact dh;simp only [resolve,OV];simp[go_sem];simp only [invoke];rw[show(#[.func (.yield l) #[] #[]]++cv.toArray)=(.func (.yield l) #[] #[]::cv).toArray by simp];exact eF fQ;have col:∀d∈a1.defers,d∈a0.defers\/∃b,d.target=.collected b:=λd hd=>by
       rcases dX.1 hd with hd|hd
       exact .inr (zHg d hd);exact lG.2.2.2 d hd
      rintro e W3 (⟨v,h3,rfl,zOh,hw3,(⟨s3,bk,sv,iv,hg3,he3,S3,hl3,hB3,zyI,hW3⟩|⟨_,s3,bk,sv,iv,c,hc,S3,hl3,hB3,zyI,hW3⟩)⟩|⟨⟨ch,rfl⟩,ch',s3,bk,sv,iv,h3,e3,hK3,S3⟩);have S4:=S3.putObj (.loop {rec_ .ready none with state := .exhausted}) hl3 hB3 zyI;refine⟨none,_,run_endLoop hW3 (by simp[rec_]),_,s3,hg3,S4,lG.1,lG.2.1,λhr=>absurd (hD H7 kX) hr,col⟩;have S4:=S3.putObj (.loop {rec_ .done (some c)with state := .exhausted}) hl3 hB3 zyI;refine⟨some c,_,run_endLoop hW3 (by simp[rec_]),?_⟩;rcases hc with⟨rfl,hc⟩|⟨id,rfl,hc⟩
      exact zcH ⟨_,s3,hc,S4,lG.1,lG.2.1,λhr=>absurd (hD H7 kX) hr,col⟩;exact W9 ⟨_,s3,hc,S4,lG.1,lG.2.1,λhr=>absurd (hD H7 kX) hr,col⟩;cases e3;exact⟨_,s3,hK3,S3,lG.1,lG.2.1,λhr=>absurd (hD H7 kX) hr,col⟩
      ·-- one round
       rintro yv rest h W us ⟨s,bk,sv,iv,hg,hek,SJ,hl,_,wO,hW⟩ OT hHw n';simp only[Xc]at hg;split at hg
       ·rename_i env zbP;have iM:l<W.heap.size:=(VD.1 hW).1;have z4o:=h0l SJ hl;have SJ2:=SJ.up.hide hl hW hBl wO;have zuI:kF h (h.add l (.loop (rec_ .ready none))):=Fz.le_add hl;have zRY:∀p∈ps.toList,p<a.tmps.size:=λp hp=>by
         have:=zQ.1 zRW p hp;exact qdx (by simpa [qjf]using this) SJ.size
        obtain⟨hul,zHh⟩:=zcG (g:=(⟨h.add l (.loop (rec_ .ready none)),bk,sv,iv⟩:Gh)) 0 ps.toList yv us s.env env a.tmps zbP (OT.mono λp q hpq=>by
         cases p with
         | one v=>exact Rep.mono zuI hpq
         | agg cs=>obtain⟨vs,h5,h6⟩:=hpq;exact⟨vs,h5,h6.mono λ_ _=>Rep.mono zuI⟩) zRY (λt d ht=>SJ2.env t d ht)
        have zRZ:(ps.zip us.toArray).foldl (λtmps (t,a)=>tmps.setIfInBounds t a) a.tmps=(ps.toList.zip us).foldl (λt (p,v)=>t.setIfInBounds p v) a.tmps:=by
         rw[<- Array.foldl_toList,Array.toList_zip]
        let ar:Act:={tmps:=(ps.toList.zip us).foldl (λt (p,v)=>t.setIfInBounds p v) a.tmps,defers:=[]};have Sr:bW P aQ.nt B w0 (h.add l (.loop (rec_ .ready none))) ⟨h.add l (.loop (rec_ .ready none)),bk,sv,iv⟩ ⟨env,s.ay,[]⟩ ar W:=by
         have Sa:=(SJ2.envs (env:=[]) (λt d ht=>by simp[lk]at ht) (λt d ht=>by simp[lk]at ht) []).act (a':=ar) (Marks.nil _ _) (by rw[show ar.tmps.size=a.tmps.size from fold_size _ _];exact SJ.size) (λt d ht=>by simp[lk]at ht);exact Sa.envs zHh (λt d ht L hL=>by
          rcases QI _ _ _ _ zbP t d ht with h5|h5
          exact SJ.clE t d h5 L hL;rw[h5]at hL;simp at hL) []
        have hrd:∀st pe,Rnd (some l) (h.add l (.loop (rec_ st pe))):=λst pe l' e=>by cases e;exact⟨_,Fz.add_same⟩
        refine⟨_,_,_,_,by rw[run_yield (P:=P) (args:=us.toArray) hW (by simp[rec_,hul]),zRZ],MO ?_⟩;show DX (some l) n' P x _ ar W;refine pU (ihx (some l) n' _ (eQ x++eQ y) ar _ _ _ ar W (λt ht=>dX.2 (.inl ht)) (hrd _ _) hg Sr (Kp.refl _ _)) ?_;rintro e a' w' ⟨g2,σ2,hK2,S2,zo7⟩;cases e with
        | normal =>
         simp only[zeu]at hK2;obtain⟨_,zHi,Zr,S3⟩:=S2.unhide hBl hl rfl (λds=>by simp);refine⟨_,run_beginRound Zr rfl,?_⟩;have S4:=S3.putObj (.loop {rec_ .ready none with state:=.busy}) Fz.del_same hBl zHi;have hw4:(w'.putObj l (.loop {rec_ .ready none with state:=.busy})).heap[l]? = some (.loop (rec_ .busy none)):=World.putObj_heap_same (VD.1 Zr).1;have S5:=S4.hide (o:=.loop (rec_ .busy none)) Fz.del_same hw4 hBl zHi;show DX (some l) n' P y _ a' _;refine pU (ZA (some l) n' _ (eQ x++eQ y) ar _ σ2 _ a' _ (λt ht=>dX.2 (.inr ht)) (hrd _ _) hK2 S5 zo7) ?_;rintro e a5 w5 ⟨g6,σ6,Vz,S6,zHj⟩
         have back:∀s7,canon P k σ6=some s7->∃(w5l:w5.heap[l]? = some (.loop (rec_ .busy none)))(h':Fz)(bk sv:_)(iv:Nat->Nat->Value),kF h h'/\h' l=none /\
           ∀o',bW P aQ.nt B w0 h0 ⟨h',bk,sv,iv⟩ s7 a1 (w5.putObj l o')/\(∀L o,lk s7.ay L=some o->¬iy ⟨h',bk,sv,iv⟩ L o l):=by
          intro s7 hs7;obtain⟨g7,S7⟩:=eU hs7 S6;obtain⟨_,zHk,hw8,S8⟩:=S7.unhide hBl hl rfl (λds=>by simp);have zHl:kF h (g7.h.del l):=S8.le0;refine⟨hw8,g7.h.del l,g7.bk,g7.sv,g7.iv,zHl,Fz.del_same,λo'=>⟨?_,zHk⟩⟩;have S9:=(S8.putObj o' Fz.del_same hBl zHk).down (h0:=h0) SJ.le0 SJ.hn;refine S9.act (SJ.dfr.mono zHl) SJ.size λt d ht=>?_;obtain⟨h10,h11⟩:=FI t (Gw hs7 t d ht);have h12:=zHj.1 t h11;have h13:ar.tmps.getD t undef=a.tmps.getD t undef:=ML _ _ _ λq hq e=>h10 (e▸(List.of_mem_zip hq).1);have:=S9.env t d ht;rw[h12,h13]at this;exact this
         cases e with
         | normal =>
          simp only[uu]at Vz;split at Vz;rename_i s7 hs7;obtain⟨w5l,h',bk',sv',iv',iH,Aq,hS⟩:=back s7 hs7;have ziM:=(VD.1 w5l).1;refine⟨_,_,run_endRound none w5l,.inl ⟨h',iH,(hS _).1.hw,.inl ⟨rfl,s7,bk',sv',iv',Vz,Gw hs7,(hS _).1,Aq,hBl,(hS (.loop (rec_ .ready none))).2,?_⟩⟩⟩;exact World.putObj_heap_same ziM;exact Vz.elim
         | ret =>
          simp only[uu]at Vz;split at Vz;rename_i s7 hs7;obtain⟨w5l,h',bk',sv',iv',iH,Aq,hS⟩:=back s7 hs7;have ziM:=(VD.1 w5l).1;refine⟨_,_,run_endRound (some .ret) w5l,.inl ⟨h',iH,(hS _).1.hw,.inr ⟨rfl,s7,bk',sv',iv',.ret,.inl ⟨rfl,Vz⟩,(hS _).1,Aq,hBl,(hS (.loop (rec_ .ready none))).2,?_⟩⟩⟩;exact World.putObj_heap_same ziM;exact Vz.elim
         | exit id =>
          simp only[uu]at Vz;split at Vz;rename_i s7 hs7;obtain⟨w5l,h',bk',sv',iv',iH,Aq,hS⟩:=back s7 hs7;have ziM:=(VD.1 w5l).1;refine⟨_,_,run_endRound (some (.exit id)) w5l,.inl ⟨h',iH,(hS _).1.hw,.inr ⟨rfl,s7,bk',sv',iv',.exit id,.inr ⟨id,rfl,Vz⟩,(hS _).1,Aq,hBl,(hS (.loop (rec_ .ready none))).2,?_⟩⟩⟩;exact World.putObj_heap_same ziM;exact Vz.elim
         | goto q=>exact Vz.elim
         | panic ch =>
          simp only[uu]at Vz;split at Vz;rename_i hnp hs7;obtain⟨w5l,h',bk',sv',iv',iH,Aq,hS⟩:=back _ hs7;have hr:H7∉eQ x++eQ y:=by
           have:=zQ.1 hnp H7 (by simp);simpa using this
          refine⟨zHj.2.2.1 hr,.inr ⟨⟨ch,rfl⟩,ch,_,bk',sv',iv',h',rfl,Vz,?_⟩⟩;have:=(hS (.loop (rec_ .busy none))).1;rwa[Xd w5l]at this;exact Vz.elim
         | outgrown=>exact Vz.elim
        | exit id=>exact hK2.elim
        | goto q=>exact hK2.elim
        | ret=>exact hK2.elim
        | panic ch=>exact hK2.elim
        | outgrown=>exact hK2.elim
       exact hg.elim
    exact h.elim
   exact h.elim
  exact h.elim
 exact h.elim
theorem MP(gy:jF P Γ)(aQ:dG):∀(c:Code),Snd P Γ aQ B w0 c:=by
 intro c
 induction c with
 | skip=>intro r n h0 D a0 K σ g a w _ _ h S lG;exact ziD ⟨g,σ,h,S,lG⟩
 | region id ops draw =>
  intro r n h0 D a0 K σ g a w hD _ h S lG;simp only[vc]at h;split at h;exact QJ gy aQ hD h S lG λg' σ' a' w' hK S' jR _=>⟨g',σ',hK,S',jR⟩;rename_i hp;have hdr:draw=false:=by cases draw<;>simp_all
  subst hdr;exact zaD gy aQ hD h S lG
 | seq x y ihx ZA =>
  intro r n h0 D a0 K σ g a w hD hR h S lG;refine zo5 (pU (ihx r n h0 D a0 _ σ g a w (λt ht=>hD t (dX.2 (.inl ht))) hR h S lG) ?_);have hDy:∀t∈eQ y,t∈D:=λt ht=>hD t (dX.2 (.inr ht));rintro e a' w' ⟨g',σ',hK,S',jR⟩;cases e with
  | normal =>
   simp only[zeu,zou]at hK;split at hK;split at hK;rename_i s hs;obtain⟨g2,S2⟩:=eU hs S';exact ZA r n h0 D a0 K s g2 a' w' hDy hR hK S2 jR;exact hK.elim;exact ZA r n h0 D a0 K σ' g' a' w' hDy hR hK S' jR
  | exit id=>exact⟨g',σ',hK,S',jR⟩
  | goto l=>exact⟨g',σ',hK,S',jR⟩
  | ret=>exact⟨g',σ',hK,S',jR⟩
  | panic ch=>exact⟨g',σ',hK,S',jR⟩
  | outgrown=>exact⟨g',σ',hK,S',jR⟩
 | cond c x y ihx ZA =>
  intro r n h0 D a0 K σ g a w hD hR h S lG;simp only[vc]at h;split at h
  ·rename_i t ht;have hv:=vJ S ht;have hS:∀b,t=b->bW P aQ.nt B w0 h0 g (yg σ c b) a w:=by
    intro b hb;cases c with
    | tmp q =>
     refine S.env' (t:=q) (d:=.bool b) ?_ (kU _);have:a.tmps.getD q undef=.bool t:=hv;rw[this,hb];exact .bool b
    | _=>exact S
   have h2:=ru.1 h;refine ziE hv ?_;cases t with|true=>exact ihx r n h0 D a0 K _ g a w (λt ht=>hD t (dX.2 (.inl ht))) hR (h2.1 rfl) (hS true rfl) lG|false=>exact ZA r n h0 D a0 K _ g a w (λt ht=>hD t (dX.2 (.inr ht))) hR (h2.2 rfl) (hS false rfl) lG
  exact h.elim
 | block id b ih =>
  intro r n h0 D a0 K σ g a w hD hR h S lG;refine ze2 (pU (ih r n h0 D a0 _ σ g a w hD hR h S lG) ?_);rintro e a' w' ⟨g',σ',hK,S',jR⟩;cases e with
  | exit j =>
   simp only[ZT]at hK;simp only[Exit.inBlock];split at hK;rename_i hj;rw[eY (lH hj)];exact⟨g',σ',hK,S',jR⟩;rename_i hj;rw[fH (qdz hj)];exact⟨g',σ',hK,S',jR⟩
  | normal=>exact⟨g',σ',hK,S',jR⟩
  | goto l=>exact⟨g',σ',hK,S',jR⟩
  | ret=>exact⟨g',σ',hK,S',jR⟩
  | panic ch=>exact⟨g',σ',hK,S',jR⟩
  | outgrown=>exact⟨g',σ',hK,S',jR⟩
 | loop b ih =>
  intro r n h0 D a0 K σ g a w hD hR h S lG;simp only[vc]at h;split at h;rename_i k hk;split at h;rename_i s hs;obtain⟨g1,S1⟩:=eU hs S;refine IA ?_;have key:=h (λs=>∀g a w,bW P aQ.nt B w0 h0 g s a w->Kp D a0 a->Xa r n P b (PostR P aQ.nt B w0 h0 D a0 K) a w) ?_;exact key g1 a w S1 lG
  ·intro s hs g a w S lG;refine IB (pU (ih r n h0 D a0 _ s g a w hD hR hs S lG) ?_);rintro e a' w' ⟨g',σ',hK,S',jR⟩;cases e with
   | normal =>
    simp only[zhI,hk]at hK;split at hK;rename_i s2 hs2;obtain⟨g2,S2⟩:=eU hs2 S';exact hK g2 a' w' S2 jR;exact hK.elim
   | exit id=>exact⟨g',σ',hK,S',jR⟩
   | goto l=>exact⟨g',σ',hK,S',jR⟩
   | ret=>exact⟨g',σ',hK,S',jR⟩
   | panic ch=>exact⟨g',σ',hK,S',jR⟩
   | outgrown=>exact⟨g',σ',hK,S',jR⟩
  exact h.elim;split at h;rename_i m k hk;have key:∀(m:Nat)(σ:St)(g:Gh)(a:Act)(w:World),zev P k (vc P Γ aQ b) m K σ->bW P aQ.nt B w0 h0 g σ a w->Kp D a0 a->Xa r n P b (PostR P aQ.nt B w0 h0 D a0 K) a w:=by
   intro m
   induction m with
   | zero=>intro σ g a w h;exact h.elim
   | succ m ihm =>
    intro σ g a w h S lG;simp only[zev]at h;split at h
    ·rename_i s hs;obtain⟨g1,S1⟩:=eU hs S;refine IB (pU (ih r n h0 D a0 _ s g1 a w hD hR h S1 lG) ?_);rintro e a' w' ⟨g',σ',hK,S',jR⟩;cases e with|normal=>exact ihm σ' g' a' w' hK S' jR|exit id=>exact⟨g',σ',hK,S',jR⟩|goto l=>exact⟨g',σ',hK,S',jR⟩|ret=>exact⟨g',σ',hK,S',jR⟩|panic ch=>exact⟨g',σ',hK,S',jR⟩|outgrown=>exact⟨g',σ',hK,S',jR⟩
    exact h.elim
  exact IA (key m σ g a w h S lG);exact h.elim
 | exit id=>intro r n h0 D a0 K σ g a w _ _ h S lG;exact W9 ⟨g,σ,h,S,lG⟩
 | scope b ih =>
  intro r n h0 D a0 K σ g a w hD hR h S lG;refine ze3 (pU (ih r n h0 D a0 _ σ g a w hD hR h S lG) ?_);rintro e a' w' ⟨g',σ',hK,S',jR⟩;cases e with|goto l=>exact hK|normal=>exact⟨g',σ',hK,S',jR⟩|exit l=>exact⟨g',σ',hK,S',jR⟩|ret=>exact⟨g',σ',hK,S',jR⟩|panic ch=>exact⟨g',σ',hK,S',jR⟩|outgrown=>exact⟨g',σ',hK,S',jR⟩
 | label l=>intro r n h0 D a0 K σ g a w _ _ h S lG;exact ze1 ⟨g,σ,h,S,lG⟩
 | ret=>intro r n h0 D a0 K σ g a w _ _ h S lG;exact zcH ⟨g,σ,h,S,lG⟩
 | rangeFunc f ps x y ihx ZA=>exact Xe gy ihx ZA
 | goto l=>intro r n h0 D a0 K σ g a w _ _ h S;exact h.elim
 | refuse s=>intro r n h0 D a0 K σ g a w _ _ h S;exact h.elim
end
end Go.Pm
namespace Go.Pm
variable [aC]
open Go.RowKit (Below)
section
variable{P:Program}{Γ:bK}
theorem rG:∀(args:List PA)(i t:Nat)(d:DV),lk (jB i args) t=some d→∃x,args[t-i]? = some x∧i≤t∧d = .one (Jq x)
  | [],i,t,d,h=>by simp[jB,lk]at h
  | x::r,i,t,d,h=>by
    simp only[jB]at h;rw[aX]at h;split at h;rename_i e;simp only[bV]at h;subst e;exact⟨x,by simp,kD _,h.symm⟩;rename_i e;obtain⟨y,h1,h2,h3⟩:=rG r (i+1) t d h;refine⟨y,?_,omY,h3⟩;rw[show t-i=(t-(i+1))+1 by omega,ZH];exact h1
def resV(tmps:Array Value):ResultVar→Sem Value
  | .tmp t=>pure (tmps.getD t undef)
  | .cell b t=>do loadVar t (<- asAddr (tmps.getD b undef))
theorem MR{w:World}(x:Addr):(asAddr (.pointer (some x))).run P w=.ok x w:=rfl
theorem Gz{nt B:Nat}{w0:World}{h0:Fz}{g:Gh}{σ:St}{a:Act}{w:World}(S:bW P nt B w0 h0 g σ a w):∀(rs:List ResultVar)(l:List PA),lC P σ rs=some l ->
  ∃(u:mP)(vs:List Value),fF (lk σ.ay) u /\
   (rs.mapM (resV a.tmps)).run P w=.ok vs w /\
   ∀(u':mP)(h':Fz),(∀y∈u,y∈u')->fM g (lk σ.ay) u' h'->RL (oJ h') l vs
 | [],l,h=>by
  simp[lC]at h;subst h;exact⟨[],[],fF.nil _,rfl,λ_ _ _ _=>trivial⟩
 | .tmp t::r,l,h=>by
  simp only[lC]at h;split at h;rename_i d hd;split at h;rename_i x u1 l2 h1 h2;simp only[bV]at h;subst h;obtain⟨u2,vs,hu2,dh,hr⟩:=Gz S r l2 h2;refine⟨u1++u2,a.tmps.getD t undef::vs,(Dt h1).append hu2,?_,λu' h' hu F=>⟨F.repD h1 (λy hy=>hu y (dX.2 (.inl hy))) (S.env t d hd),hr u' h' (λy hy=>hu y (dX.2 (.inr hy))) F⟩⟩;rw[qjE];simp only[resV,Sem.run_bind,Sem.run_pure,Result.andThen_ok];rw[dh];rfl;cases h;cases h
 | .cell t ty::r,l,h=>by
  simp only[lC]at h;split at h;rename_i L off ag m ht hg hs;split at h;rename_i ZC cells hL;split at h;rename_i d hd;split at h;rename_i x u1 l2 h1 h2;simp only[bV]at h;subst h;obtain⟨u2,vs,hu2,dh,hr⟩:=Gz S r l2 h2;obtain⟨C,hC,Vo⟩:=S.obj L _ hL;obtain⟨v,Zt,hv⟩:=KZ (P:=P) hg hs hC 0 (λj y hj=>by obtain⟨v,hv,RD⟩:=Vo.get j y hj;exact⟨v,by simpa using hv,RD⟩) hd;have hp:a.tmps.getD t undef=.pointer (some ⟨g.bk L,off,none⟩):=S.env t _ ht;rw[O3]at Zt;refine⟨u1++u2,v::vs,(Dt h1).append hu2,?_,λu' h' hu F=>⟨F.repD h1 (λy hy=>hu y (dX.2 (.inl hy))) hv,hr u' h' (λy hy=>hu y (dX.2 (.inr hy))) F⟩⟩;have h1:(resV a.tmps (.cell t ty)).run P w=.ok v w:=by
   simp only[resV,Sem.run_bind,hp,MR,Result.andThen_ok,Zt]
  rw[qjE];simp only[Sem.run_bind,h1,Result.andThen_ok];rw[dh];rfl;cases h;cases h;cases h;cases h
theorem II{nt B:Nat}{w0:World}{h0:Fz}{g:Gh}{σ:St}{a:Act}{w:World}(S:bW P nt B w0 h0 g σ a w){fn:Func}{l:List PA}(h:lC P σ fn.results.toList=some l) :
  ∃(u:mP)(v:Value),fF (lk σ.ay) u/\(results fn a.tmps).run P w=.ok v w/\∀(h':Fz),fM g (lk σ.ay) u h'->qP h' l v:=by
 obtain⟨u,vs,hu,dh,hr⟩:=Gz S fn.results.toList l h;refine⟨u,if h:vs.toArray.size=1 then vs.toArray[0]else .tuple vs.toArray,hu,?_,λh' F=>?_⟩;have e:results fn a.tmps=(do let vs ← fn.results.mapM (resV a.tmps);pure (if h:vs.size=1 then vs[0]else .tuple vs)):=rfl;rw[e,qjF];simp only[Sem.run_bind,Sem.run_map];rw[dh];simp only[Result.andThen_ok,Sem.run_pure]
 ·have oz := hr u h' (fun y hy => hy) F
  match l,vs,oz with
  | [],[],_=>exact⟨[],rfl,trivial⟩
  | [x],[v],oz=>exact oz.1
  | x::y::l,v::v2::vs,oz =>
   refine⟨v::v2::vs,?_,oz⟩;rw[dif_neg (by simp)]
  | [],_::_,oz=>exact oz.elim
  | [_],[],oz=>exact oz.elim
  | [_],_::_::_,oz=>exact oz.2.elim
  | _::_::_,[],oz=>exact oz.elim
  | _::_::_,[_],oz=>exact oz.2.elim
theorem bW.unmark{nt B:Nat}{w0:World}{h0:Fz}{g:Gh}{σ:St}{a:Act}{w:World}(S:bW P nt B w0 h0 g σ a w){D:Nat}{Ds:List (Nat ⊕ Deferred)}
    (zN:(lefts (.inl D::Ds)).Nodup) (hm:∀E,Sum.inl E∈.inl D::Ds->B<=E/\g.h E=some (.fz (.deferred (some [])))) (hi:∀d,Sum.inr d∈Ds->H8 P d) (QH:∀b,h0 b=some (.fz (.deferred (some [])))->b<B) {ds:List Deferred} (PR:ds=Ds.map deD) :
    w.heap[D]? = some (.deferred (some []))/\bW P nt B w0 h0 (g.re (g.h.del D)) σ {a with defers:=ds} (w.putObj D (.deferred none)):=by
  obtain⟨hB,hb⟩:=hm D kX;have znq:=(qdu.1 zN).1;have hl:WZ g.h (g.h.del D):=λk x hk hx=>by
    rw[Fz.del_other];exact hk;intro e;subst e;rw[hb]at hk;simp only[bV]at hk;subst hk;obtain⟨C,ty,fr,hx⟩:=hx;cases hx
  have wO:∀L x,lk σ.ay L=some x->¬iy g L x D:=λL x hL hk=>by have:=(S.own L x D hL hk).2;rw[hb]at this;cases this
  refine⟨S.hw.fz hb,?_⟩;have S1:bW P nt B w0 h0 (g.re (g.h.del D)) σ {a with defers:=ds} w:=by
    refine⟨⟨Ds,(qdu.1 zN).2,PR,λE hE=>⟨(hm E (jW _ hE)).1,?_⟩,hi⟩,S.size,λt d ht=>zaw hl (S.env t d ht),λL x hL=>zax hl (S.obj L x hL),λL x k hL hk=>?_,S.sep,?_,?_,?_,S.below,S.bs,S.clE,S.clO⟩;show g.h.del D E=_;rw[Fz.del_other (λe=>znq (by rw[<- e];exact vC hE))];exact(hm E (jW _ hE)).2;obtain⟨h1,h2⟩:=S.own L x k hL hk;refine⟨h1,?_⟩;show g.h.del D k=none;unfold Fz.del;split;rfl;exact h2;intro k x hk;have hk:g.h.del D k=some x:=hk;unfold Fz.del at hk;split at hk;cases hk;exact S.hw k x hk;intro k x hk;show g.h.del D k=some x;rw[Fz.del_other (λe=>by
      subst e;have h1:=S.le0 _ _ hk;rw[hb]at h1;simp only[bV]at h1;rw[<- h1]at hk;have:=QH _ hk;omega)];exact S.le0 k x hk
    intro k x hk;have hk:g.h.del D k=some x:=hk;unfold Fz.del at hk;split at hk;cases hk;exact S.hn k x hk
  exact S1.putObj _ Fz.del_same hB wO
theorem zZ{nt B:Nat}{w0:World}{h0:Fz}{σ:St}{fn:Func}{R:Ending→World→Prop}{n:Nat}(QH:∀b,h0 b=some (.fz (.deferred (some [])))→b<B) :
  ∀(Ds:List (Nat ⊕ Deferred))(g:Gh)(a:Act)(w:World),(lefts Ds).Nodup->a.defers=Ds.map deD->(∀D,Sum.inl D∈Ds->B<=D/\g.h D=some (.fz (.deferred (some []))))->(∀d,Sum.inr d∈Ds->H8 P d)->bW P nt B w0 h0 g σ a w ->
   (∀g' a' w',a'.tmps=a.tmps->bW P nt B w0 h0 g' σ a' w'->∃v,(results fn a'.tmps).run P w'=.ok v w'/\R (.returned v) w')->LeavesInM (FR none) n P fn a.tmps R a.defers .returning w
 | [],g,a,w,_,ha,_,_,S,hR=>by
  rw[ha];exact hR g a w rfl S
 | .inl D::Ds,g,a,w,zN,ha,hm,hi,S,hR=>by
  obtain⟨h1,S1⟩:=S.unmark zN hm (λd hd=>hi d (jW _ hd)) QH rfl;rw[ha,nX];refine⟨by simp,.inl ⟨D,_,rfl,run_takeDeferred h1,?_⟩⟩;have znq:=(qdu.1 zN).1;exact zZ QH Ds _ {a with defers:=Ds.map deD} _ (qdu.1 zN).2 rfl (λE hE=>⟨(hm E (jW _ hE)).1,by
   show g.h.del D E=_;rw[Fz.del_other (λe=>znq (by rw[<- e];exact vC hE))];exact(hm E (jW _ hE)).2⟩) (λd hd=>hi d (jW _ hd)) S1 (λg' a' w' ht=>hR g' a' w' ht)
 | .inr d::Ds,g,a,w,zN,ha,hm,hi,S,hR=>by
  obtain⟨fv,cap,f,args,h1,h2,h3⟩:=hi d kX;rw[ha,nX];refine⟨by simp,.inr ⟨(λh=>by cases h),fv,cap,f,args,h1,h2 w,(λ_ _=>trivial),?_⟩⟩;obtain⟨c1,c2⟩:=h3 (n-1) w;refine⟨c1,λc cs hc hr=>?_⟩;obtain⟨e,u',w',fr,hR',rest⟩:=c2 c cs hc hr;refine⟨e,u',w',fr,?_,rest⟩;obtain⟨⟨v,rfl⟩,rfl,rfl⟩:=hR';have J7:∀D,Sum.inl D∈Ds->B<=D/\g.h D=some (.fz (.deferred (some []))):=λD hD=>hm D (jW _ hD);have kH:∀d,Sum.inr d∈Ds->H8 P d:=λd hd=>hi d (jW _ hd);exact zZ QH Ds g {a with defers:=Ds.map deD} _ zN rfl J7 kH (S.act ⟨Ds,zN,rfl,J7,kH⟩ S.size S.env) (λg' a' w' ht=>hR g' a' w' ht)
theorem zcJ{nt B:Nat}{w0:World}{h0:Fz}{σ:St}{fn:Func}{R:Ending→World→Prop}{n:Nat}{ch:List PanicEntry}(QH:∀b,h0 b=some (.fz (.deferred (some [])))→b<B) :
  ∀(Ds:List (Nat ⊕ Deferred))(g:Gh)(a:Act)(w:World),(lefts Ds).Nodup->a.defers=Ds.map deD->(∀D,Sum.inl D∈Ds->B<=D/\g.h D=some (.fz (.deferred (some []))))->(∀d,Sum.inr d∈Ds->False)->bW P nt B w0 h0 g σ a w ->
   (∀g' a' w',a'.tmps=a.tmps->bW P nt B w0 h0 g' σ a' w'->R (.panicked ch) w')->LeavesInM (FR none) n P fn a.tmps R a.defers (.panicking ch) w
 | [],g,a,w,_,ha,_,_,S,hR=>by
  rw[ha];exact hR g a w rfl S
 | .inl D::Ds,g,a,w,zN,ha,hm,hi,S,hR=>by
  have kH:∀d,Sum.inr d∈Ds->False:=λd hd=>hi d (jW _ hd);obtain⟨h1,S1⟩:=S.unmark zN hm (λd hd=>(kH d hd).elim) QH rfl;rw[ha,nX];refine⟨by simp,.inl ⟨D,_,rfl,run_takeDeferred h1,?_⟩⟩;have znq:=(qdu.1 zN).1;exact zcJ QH Ds _ {a with defers:=Ds.map deD} _ (qdu.1 zN).2 rfl (λE hE=>⟨(hm E (jW _ hE)).1,by
   show g.h.del D E=_;rw[Fz.del_other (λe=>znq (by rw[<- e];exact vC hE))];exact(hm E (jW _ hE)).2⟩) kH S1 (λg' a' w' ht=>hR g' a' w' ht)
 | .inr d::Ds,g,a,w,zN,ha,hm,hi,S,hR=>(hi d kX).elim
theorem QK{nt:Nat}{args:List PA}{w:World}{h0:Fz}{vs:List Value}{m:Nat}(FD:nt=m)(hlen:args.length≤nt)(jS:RL (oJ h0) args vs)(O1:Hw h0 w) :
  bW P nt w.heap.size w h0 ⟨h0,λ_=>0,λ_=>undef,λ_ _=>undef⟩ ⟨jB 0 args,[],[]⟩ {tmps:=vs.toArray++Array.replicate (m-vs.toArray.size) undef,defers:=[]} w:=by
 have hl:=jS.length;refine⟨Marks.nil _ _,by simp;omega,?_,λL o ho=>by simp[lk]at ho,λL o b ho=>by simp[lk]at ho,λL o b L' o' ho=>by simp[lk]at ho,O1,λ_ _ h=>h,λb o h=>.inl h,yh.refl _ _ _,kD _,?_,λL o ho=>by simp[lk]at ho⟩;intro t d ht;obtain⟨x,hx,_,rfl⟩:=rG args 0 t d ht;obtain⟨v,hv,yz⟩:=jS.get t x (by simpa using hx);have iM:=(Bl.1 hv).1;have:(vs.toArray++Array.replicate (m-vs.toArray.size) undef).getD t undef=v:=by
  rw[yA,dq5 (by simpa using iM)];simp[hv]
 rw[this];exact LJ (g:=⟨h0,λ_=>0,λ_=>undef,λ_ _=>undef⟩) yz;intro t d ht L hL;obtain⟨x,hx,_,rfl⟩:=rG args 0 t d ht;rw[show cO (.one (Jq x))=dD (Jq x)from rfl,wX]at hL;simp at hL
theorem QL{G:bK}(gy:jF P G){f:FuncId}{aQ:dG}{args:List PA}{Kx:Func→Exit→St→Prop}{w:World}{h0:Fz}{vs:List Value}{R:Ending→World→Prop}{fn:Func}{c:Code}
    (ug:P.funcs[f]? = some fn) (sO:fn.body=some c) (FD:aQ.nt=fn.ntmps) (hlen:args.length<=aQ.nt) (hv:vc P G aQ c (Kx fn) ⟨jB 0 args,[],[]⟩) (jS:RL (oJ h0) args vs) (O1:Hw h0 w)
    (qg:∀e σ g a w',Kx fn e σ->bW P aQ.nt w.heap.size w h0 g σ a w'->(e=.normal\/e=.ret)/\∃v,(results fn a.tmps).run P w'=.ok v w'/\R (.returned v) w'):Calls P f vs.toArray w R:=by
  have S:=QK (P:=P) FD hlen jS O1;have hwp:=MP (B:=w.heap.size) (w0:=w) gy aQ c none 0 h0 (eQ c) _ (Kx fn) _ _ _ _ (λ_ h=>h) (Rnd.none h0) hv S (Kp.refl _ _);refine(callsIn_wide (n:=0)).1 ?_;refine callsIn_of_wp_marks (F:=FR none) ug sO trivial (wpIn_mono (rF hwp) ?_);have QH:∀b,h0 b=some (.fz (.deferred (some [])))->b<w.heap.size:=λb h=>O1.lt h;rintro e a' w' ⟨g',σ',yc,S',_⟩;have fin:LeavesInM (FR none) 0 P fn a'.tmps R a'.defers .returning w':=by
    obtain⟨Ds,h1,h2,h3,h4⟩:=S'.dfr;exact zZ QH Ds g' a' w' h1 h2 h3 h4 S' λg2 a2 w2 _ S2=>(qg e σ' g2 a2 w2 yc S2).2
  rcases(qg e σ' g' a' w' yc S').1 with rfl|rfl
  exact fin;exact fin
theorem zo8{G:bK}(gy:jF P G){f:FuncId}{args:List PA}{K:List PA→Prop}{aQ:dG}(hv:vcFun P G aQ f args K){w:World}{h0:Fz}{vs:List Value}(jS:RL (oJ h0) args vs)(O1:Hw h0 w) :
  Calls P f vs.toArray w λ e w'=>∃ (h':Fz) (rs:List PA) (v:Value),K rs/\e=.returned v/\qP h' rs v/\yh h0 w.heap.size w w' /\
   kF h0 h'/\Hw h' w'/\∀b o,h' b=some o->h0 b=some o\/w.heap.size<=b:=by
 unfold vcFun at hv;split at hv;rename_i fn ug;split at hv;rename_i c sO;split at hv
 ·rename_i FD;simp only[gq,Vs] at FD;refine QL (G:=G) gy (Kx:=λ fn=>zhJ P fn K) ug sO (lH FD.1) FD.2 hv jS O1 ?_;intro e σ' g' a' w' yc S'
  have fin:BB P fn K σ'->∃v,(results fn a'.tmps).run P w'=.ok v w' /\
    (∃(h':Fz)(rs:List PA)(v_1:Value),K rs/\Ending.returned v=.returned v_1/\qP h' rs v_1/\yh h0 w.heap.size w w'/\kF h0 h'/\Hw h' w'/\∀b o,h' b=some o->h0 b=some o\/w.heap.size<=b):=by
   intro hf;unfold BB at hf;split at hf;rename_i l hl;obtain⟨u,v,hu,dh,o8⟩:=II S' hl;obtain⟨h',S2,F⟩:=S'.freeze hu;exact⟨v,dh,h',l,v,hf,rfl,o8 h' F,S2.below,S2.le0,S2.hw,S2.hn⟩;exact hf.elim
  cases e with|normal=>exact⟨.inl rfl,fin yc⟩|ret=>exact⟨.inr rfl,fin yc⟩|exit id=>exact yc.elim|goto l=>exact yc.elim|panic ch=>exact yc.elim|outgrown=>exact yc.elim
 exact hv.elim;exact hv.elim;exact hv.elim
theorem ziN{G:bK}(gy:jF P G){f:FuncId}{C:List PA→ae (List PA)}(hc:dA P f)
    (h:∀args rs,(C args).o=some rs->∃vv aQ,vcFun P {G with vv:=vv} aQ f args λRz=>Rz=rs):Ok P f C:=by
  intro args rs hK w h0 vs jS O1;obtain⟨vv,aQ,hv⟩:=h args rs hK;refine⟨hc,(zo8 (G:={G with vv:=vv}) ⟨gy.mt,gy.fn,gy.own,gy.it,gy.cmp⟩ hv jS O1).mono ?_⟩;rintro e w' ⟨h',Rz,v,rfl,he⟩;exact⟨h',v,he⟩
end
end Go.Pm
namespace Go.Pm
variable [aC]
open Go.RowKit (Below)
section
variable{P:Program}{Γ:bK}{nt:Nat}{n:Nat}
theorem ziO{o:Oper}{a:Act}{w w':World}{R:Act→World→Prop}{Q:Exit→Act→World→Prop}(zN:∀c,o.op ≠ .defer c){l f:Nat}{tmps:Array Value}{x y:Code}(h:(execOp a.eval o).run P w = .ok (.round l f tmps x y) w')
    (hR:RoundIn Fence.wide (n-1) P l f tmps x y w' λe Ar=>(∃v,e=.returned v/\R (a.put o.dst v) Ar)\/∃ch,e=.panicked ch/\Q (.panic ch) a Ar):o.wpIn (FR none) n P a w R Q:=by
  refine⟨λ_ _=>trivial,?_⟩;rw[Oper.semAt_eq _ _ _ zN,h,Oper.uponIn_round];refine⟨λh=>by simp[FR]at h,?_⟩;have hR':RoundIn (FR none) (n-1) P l f tmps x y w' λe Ar=>(∃v,e=.returned v/\R (a.put o.dst v) Ar)\/∃ch,e=.panicked ch/\Q (.panic ch) a Ar:=hR;refine hR'.mono ?_;rintro e Ar (⟨v,rfl,hv⟩|⟨ch,rfl,hv⟩);exact hv;exact hv
theorem TD{h:Fz}{g:Gh}(hg:g.h=h):∀{ds:List DV}{l:List PA}{vs:List Value},rJ ds=some l→RL (rO g) ds vs→RL (oJ h) l vs
  | [],l,vs,h,hr=>by
    simp only[rJ,bV]at h;subst h;cases vs with|nil=>trivial|cons=>exact hr.elim
  | d::ds,l,[],h,hr=>hr.elim
  | .one (.c (.p p))::ds,l,v::vs,h,hr=>by
    simp only[rJ]at h;split at h;rename_i l' Aq;simp only[bV]at h;subst h;refine⟨?_,TD hg Aq hr.2⟩;have:=hr.1;rw[<- hg];exact this;cases h
  | .one (.agg cs)::ds,l,v::vs,h,hr=>by
    simp only[rJ]at h;split at h;rename_i l' m' hc J7;simp only[bV]at h;subst h;refine⟨?_,TD hg J7 hr.2⟩;obtain⟨us,rfl,OT⟩:=hr.1;rw[oO hc]at OT;have:=RL.map_left.1 OT;exact⟨us,rfl,by rw[<- hg];exact this⟩;cases h
  | .one (.c (.ptr _ _))::ds,l,v::vs,h,hr=>by simp[rJ]at h
  | .one (.c (.vptr _ _ _ _))::ds,l,v::vs,h,hr=>by simp[rJ]at h
  | .one (.c (.vec _))::ds,l,v::vs,h,hr=>by simp[rJ]at h
  | .one (.c .undef)::ds,l,v::vs,h,hr=>by simp[rJ]at h
  | .one (.c .junk)::ds,l,v::vs,h,hr=>by simp[rJ]at h
  | .one (.c (.dead _))::ds,l,v::vs,h,hr=>by simp[rJ]at h
  | .tup _::ds,l,v::vs,h,hr=>by simp[rJ]at h
variable(J Jx:List (List PA)->Fz->World->Prop)
def JQ(q:Bool)(ys:List (List PA))(h:Fz)(w:World):Prop :=
 match q with|false=>J ys h w|true=>∃rest,Jx rest h w
structure YI (l : Nat) (a : Act) : Prop where
  d:a.defers=[]
  y:a.tmps.getD 0 undef=.func (.yield l) #[] #[]
theorem YI.put{l:Nat}{a:Act}(h:YI l a){dst:Option Nat}(hd:dst≠some 0){v:Value}{ds:List Deferred}(PR:(({a with defers:=ds}:Act).put dst v).defers=[]):YI l (({a with defers:=ds}:Act).put dst v):=by
 refine⟨PR,?_⟩;cases dst with
 | none=>exact h.y
 | some t =>
  have ht:t≠0:=λe=>hd (by rw[e]);have:=h.y;simpa [Act.put,yA,qdH ht]using this
def zcK(P:Program)(nt l:Nat)(hs:Fz)(Rp:Ending->World->Prop)(K:YK):Exit->Act->World->Prop :=
 λe a' w'=>(∃ys q σ w0 h0 g,K e ys q σ/\bW P nt w0.heap.size w0 h0 g σ a' w'/\kF hs h0/\JQ J Jx q ys h0 w0/\YI l a')\/∃ch,e=.panic ch/\YI l a'/\Rp (.panicked ch) w'
variable {J Jx}
theorem JQ.later{q:Bool}{ys:List (List PA)}{h0:Fz}{w0:World}{g:Gh}{σ:St}{a:Act}{w:World}(hJ:JSt J)(hJx:JSt Jx)(h:JQ J Jx q ys h0 w0)(S:bW P nt w0.heap.size w0 h0 g σ a w):JQ J Jx q ys g.h w:=by
 cases q with
 | false=>exact hJ _ _ _ _ _ h S.le0 S.hw S.hn S.below
 | true=>obtain⟨rest,h⟩:=h;exact⟨rest,hJx _ _ _ _ _ h S.le0 S.hw S.hn S.below⟩
def YH(P:Program)(J Jx:List (List PA)->Fz->World->Prop)(Rp:Ending->World->Prop)(l:Nat):Prop :=
 ∀y rest h W us,J (y::rest) h W->RL (oJ h) y us->Hw h W->∀n,∃fn tmps assign body,(Instr.yield l us.toArray).run P W=.ok (.round l fn tmps assign body) W /\
   RoundIn Fence.wide n P l fn tmps assign body W λe W'=>(∃h',kF h h'/\Hw h' W'/\((e=.returned (.bool true)/\J rest h' W')\/(e=.returned (.bool false)/\Jx rest h' W')))\/((∃ch,e=.panicked ch)/\Rp e W')
theorem rX{kl:List Nat}{l:List (Nat×DV)}:∀{ks:List Nat}{t:Nat}{d:DV},lk (wR kl l ks) t=some d→lk l t=some d∧∀L∈cO d,L∈kl
  | [],t,d,h=>by simp[wR,lk]at h
  | k::ks,t,d,h=>by
    simp only[wR]at h;split at h;rename_i d' gI;split at h;rename_i hl;rw[aX]at h;split at h;rename_i e;simp only[bV]at h;subst h;subst e;refine⟨gI,λL hL=>?_⟩;have:=zQ.1 hl L hL;simpa using this;exact rX h;exact rX h;exact rX h
theorem MS{ob:Nat→Option AO}:∀{ks:List Nat}{x:Nat×AO},x∈P7 ob ks→∃l,ob x.1=some (.fbox l)∧x.2 = .fbox l
  | [],x,h=>by simp[P7]at h
  | k::ks,x,h=>by
    simp only[P7]at h;split at h;rename_i l hk;rcases kS.1 h with rfl|h
    exact⟨l,hk,rfl⟩;exact MS h;exact MS h
theorem D5{σ:St}{L:Nat}{o:AO}(h:lk (KP σ) L=some o):∃l,o=.fbox l/\lk (F6 (lk σ.ay) (σ.ay.map (·.1))++σ.ay) L=some (.fbox l):=by
 unfold KP at h;rw[iC]at h ⊢;cases hb:lk (F6 (lk σ.ay) (σ.ay.map (·.1))) L with
 | some x =>
  rw[hb]at h;simp only[bV]at h;subst h;obtain⟨ty,cells,l,_,h2,_⟩:=DL (fO hb);have h2:x=.fbox l:=h2;subst h2;exact⟨l,rfl,rfl⟩
 | none =>
  rw[hb]at h;simp only at h;obtain⟨l,h1,h2⟩:=MS (fO h);exact⟨l,h2,h1⟩
theorem zu {α : Type} : ∀ {l : List (Nat × α)} {L : Nat}, L ∈ l.map (·.1) → ∃ o, lk l L = some o
  | [],L,h=>by simp at h
  | (k,a)::r,L,h=>by
    rw[aX];split;exact⟨a,rfl⟩;rename_i jk;simp only[nX,kS]at h;rcases h with rfl|h
    exact absurd rfl jk;exact zu h
theorem ziP{σ:St}{o:Oper}{args:Array Operand}{t:Nat}(h:zov σ o=some (args,t)) :
  ∃f ts,o.op=.call {callee:=.value f,args,argTypes:=ts}/\o.dst=some t/\fV σ.env f=.cl (.vec VQ)/\lk σ.env 0=some (.cl (.vec VQ)):=by
 unfold zov at h;split at h;rename_i f az ts t' aZ hd;split at h;rename_i hl;split at h;rename_i h0;simp only[bV,gJ]at h;obtain⟨rfl,rfl⟩:=h;exact⟨f,ts,aZ,hd,hl,h0⟩;cases h;cases h;cases h
theorem zcL{σ:St}{L:Nat}{o:AO}(h:lk ((VQ,AO.gone)::KP σ) L=some o):(L=VQ/\o=.gone)\/lk (KP σ) L=some o:=by
 rw[aX]at h;split at h;rename_i e;simp only[bV]at h;exact .inl ⟨e.symm,h.symm⟩;exact .inr h
theorem TE(gy:jF P Γ){Rp:Ending→World→Prop}{l:Nat}(hJ:JSt J)(hJx:JSt Jx)(hY:YH P J Jx Rp l){hs:Fz}{ops:Array Oper}{K:List (List PA)→Bool→St→Prop}{Q:Exit→Act→World→Prop}(hP:∀ch a w,YI l a→Rp (.panicked ch) w→Q (.panic ch) a w)
    (hQ:∀ys q σ w0 h0 g a w,K ys q σ->bW P nt w0.heap.size w0 h0 g σ a w->kF hs h0->JQ J Jx q ys h0 w0->YI l a->Q .normal a w) :
    ∀(lo:List Oper)(i:Nat)(ys:List (List PA))(q:Bool)(σ:St)(w0:World)(h0:Fz)(g:Gh)(a:Act)(w:World),(∀j,lo[j]? = ops[i+j]?)->(∀o∈lo,o.dst≠some 0)->lX P Γ nt ops lo K ys q σ ->
      bW P nt w0.heap.size w0 h0 g σ a w->kF hs h0->JQ J Jx q ys h0 w0->YI l a->wpOpsIn (FR none) n P ops Q (List.range' i lo.length) a w:=by
  intro lo
  induction lo with
  | nil=>intro i ys q σ w0 h0 g a w _ _ h S hle hj hd;exact hQ ys q σ w0 h0 g a w h S hle hj hd
  | cons o lo ih =>
    intro i ys q σ w0 h0 g a w hl hz h S hle hj FK;have hz0:=hz o kX;have hz':∀o∈lo,o.dst≠some 0:=λo ho=>hz o (jW _ ho);have ho:ops[i]? = some o:=by have:=hl 0;simpa using this.symm
    have Aq:∀j,lo[j]? = ops[i+1+j]?:=λj=>by have:=hl (j+1);rw[ZH]at this;rw[this];congr 1;omega
    simp only[Bo,ZJ,wpOpsIn,ho];have run:∀(σ:St),bW P nt w0.heap.size w0 h0 g σ a w->wS P Γ nt o (lX P Γ nt ops lo K) ys q σ->o.wpIn (FR none) n P a w (wpOpsIn (FR none) n P ops Q (List.range' (i+1) lo.length)) Q:=by
      clear h S;intro σ S h;unfold wS at h;split at h
      · rename_i args t hyl;obtain⟨f,ts,aZ,Hy,hf,hf0⟩:=ziP hyl;split at h
        · rename_i y hy ht;obtain⟨rest,rfl,htr,hfa⟩:=h;have OV:a.eval f=.func (.yield l) #[] #[]:=by
            have h1:rO g _ (a.eval f):=S.ev f;rw[hf]at h1;have h2:=S.env 0 _ hf0;rw[FK.y]at h2;have h1:a.eval f=g.sv VQ/\_:=h1;have h2:Value.func (.yield l) #[] #[]=g.sv VQ/\_:=h2;exact h1.1.trans h2.1.symm
          · obtain ⟨h1, S1, _⟩ := S.freeze (WP (ob := lk σ.ay) (ks := σ.ay.map (·.1)));have hJn:J (y :: rest) h1 w:=hj.later hJ hJx S1;have OT:RL (oJ h1) y (args.toList.map a.eval):=TD (g:=⟨h1,g.bk,g.sv,g.iv⟩) rfl hy (Dz S1 args.toList);obtain⟨fn,tmps,x,c,dh,zyK⟩:=hY y rest h1 w _ hJn OT S1.hw (n - 1);refine ziO (by simp[aZ]) (l:=l) (f:=fn) (tmps:=tmps) (x:=x) (y:=c) (w':=w) ?_ (zyK.mono ?_);simp only [execOp, aZ, resolve, OV, Deferred.ofValue, Sem.run_bind, Sem.run_pure, Result.andThen_ok, invoke];rw[show (#[] ++ Array.map a.eval args)=(args.toList.map a.eval).toArray by cases args;simp];exact dh
            · have hto : dI nt (some t) = true := ht
              have next:∀(b:Bool)(h':Fz)(W':World),kF h1 h'->Hw h' W'->JQ J Jx (!b) rest h' W'->lX P Γ nt ops lo K rest (!b) ((zS σ).setT t (.bool b)) ->
                  wpOpsIn (FR none) n P ops Q (List.range' (i+1) lo.length) (a.put o.dst (.bool b)) W':=by
                intro b h' W' iH IX qH Bj;have S0:bW P nt W'.heap.size W' h' ⟨h',g.bk,g.sv,g.iv⟩ (zS σ) a W':=by
                  refine⟨by rw[FK.d];exact Marks.nil _ _,S.size,?_,λL o ho=>?_,λL o b ho cZ=>?_,λL o b L' o' ho lq cZ iK=>?_,IX,λ_ _ h=>h,λb o h=>.inl h,yh.refl _ _ _,kD _,?_,λL o ho M hM=>?_⟩;intro u d hu;obtain⟨h2,_⟩:=rX hu;exact VZ (g:=⟨h1,g.bk,g.sv,g.iv⟩) (g':=⟨h',g.bk,g.sv,g.iv⟩) (λL hL=>⟨rfl,rfl,rfl⟩) iH (S1.env u d h2);rcases zcL ho with⟨_,rfl⟩|ho
                  trivial;obtain⟨l,rfl,h2⟩:=D5 ho;obtain⟨C,ty,fr,hC,hr⟩:=S1.obj L _ h2;exact⟨C,ty,fr,iH _ _ hC,hr.mono λ_ _=>Rep.mono iH⟩;rcases zcL ho with⟨_,rfl⟩|ho
                  exact cZ.elim;obtain⟨l,rfl,_⟩:=D5 ho;exact cZ.elim;rcases zcL ho with⟨_,rfl⟩|ho
                  exact cZ.elim;obtain⟨l,rfl,_⟩:=D5 ho;exact cZ.elim;intro u d hu L hL;exact zu (l:=(VQ,AO.gone)::KP σ) ((rX hu).2 L hL);rcases zcL ho with⟨_,rfl⟩|ho
                  simp[dW]at hM;obtain⟨l,rfl,_⟩:=D5 ho;simp[dW]at hM
                have S2:=S0.put (dst:=some t) (d:=.bool b) (v:=.bool b) hto (.bool b) (kU _) [];rw[Hy];exact ih (i+1) rest (!b) _ W' h' _ _ W' Aq hz' Bj S2 (λb o hb=>iH b o (S1.le0 b o (hle b o hb))) qH (FK.put (ds:=a.defers) (Hy▸hz0) ((put_defers _ _ _).trans FK.d))
              rintro e W' (⟨h',iH,IX,(⟨rfl,qH⟩|⟨rfl,qH⟩)⟩|⟨⟨ch,rfl⟩,hr⟩)
              · exact .inl ⟨_,rfl,next true h' W' iH IX qH htr⟩
              · exact .inl ⟨_,rfl,next false h' W' iH IX ⟨rest,qH⟩ hfa⟩
              exact .inr ⟨ch,rfl,hP ch _ _ FK hr⟩
        exact h.elim
      split at h;rename_i hd;obtain⟨qi,hk⟩:=F9.1 h;refine JD (zak (Gp (i:=0) (Q:=Q) (r:=none) (n:=n) gy S hd rfl qi)) ?_;rintro a' w' ⟨⟨zR1,g',σ',FT,S'⟩,v,ds,rfl⟩;exact ih (i+1) ys q _ w0 h0 g' _ w' Aq hz' (hk σ' FT) (S'.log _) hle hj (FK.put hz0 (zR1.trans FK.d));exact h.elim
    have skp:∀(σ:St),dI nt o.dst=true->bW P nt w0.heap.size w0 h0 g σ a w->lX P Γ nt ops lo K ys q (σ.skip o.dst)->wpOpsIn (FR none) n P ops Q (List.range' (i+1) lo.length) (a.put o.dst undef) w:=by
      intro σ hd S h;exact ih (i+1) ys q _ w0 h0 g _ w Aq hz' h (S.skip hd) hle hj (FK.put (ds:=a.defers) hz0 ((put_defers _ _ _).trans FK.d))
    simp only[lX]at h;split at h;rename_i hg;rw[eY (by simp[Region.wanted,hg])];exact run σ S h;rename_i j want hg;split at h;rename_i gt hd Vm;split at h
    · rename_i b hb;have hv:a.tmps.getD gt undef=.bool b:=by
        have:=S.env gt _ hb;generalize a.tmps.getD gt undef=v at this;cases this;rfl
      have hy:=wZ Vm hv;have S1:∀c,b=c->bW P nt w0.heap.size w0 h0 g (σ.setT gt (.bool c)) a w:=by
        intro c hc;refine S.env' (t:=gt) (d:=.bool c) ?_ (kU _);rw[hv,hc];exact .bool c
      have h2:=ru.1 h;cases b with
      | true =>
        have h3:=h2.1 rfl;cases want with|true=>rw[eY (by simp[Region.wanted,hg,hy])];exact run _ (S1 true rfl) h3|false=>rw[fH (by simp[Region.wanted,hg,hy])];exact⟨λ_ _=>trivial,skp _ hd (S1 true rfl) h3⟩
      | false =>
        have h3:=h2.2 rfl;cases want with|true=>rw[fH (by simp[Region.wanted,hg,hy])];exact⟨λ_ _=>trivial,skp _ hd (S1 false rfl) h3⟩|false=>rw[eY (by simp[Region.wanted,hg,hy])];exact run _ (S1 false rfl) h3
    rename_i hb;have hv:a.tmps.getD gt undef=undef:=S.env gt _ hb;have hy:=uC Vm hv;rw[fH (by simp[Region.wanted,hg,hy])];exact⟨λ_ _=>trivial,skp _ hd S h⟩;exact h.elim;exact h.elim
theorem zo9:∀{l:List Oper}{o:Oper}{t:Nat},o∈l->o.dst=some t->t∈Jb l:=fun {l} _ _ h e=>by
 obtain⟨j,hj⟩:=ZI h;exact DZ hj e
theorem ze7(gy:jF P Γ)(aQ:dG){Rp:Ending->World->Prop}{l:Nat}(hJ:JSt J)(hJx:JSt Jx)(hY:YH P J Jx Rp l){hs:Fz}:∀(c:Code)(K:YK)(ys:List (List PA))(q:Bool)(σ:St)(w0:World)(h0:Fz)(g:Gh)(a:Act)(w:World),
  Sv P Γ aQ c K ys q σ->bW P aQ.nt w0.heap.size w0 h0 g σ a w->kF hs h0->JQ J Jx q ys h0 w0->YI l a->c.wpIn (FR none) n P (zcK J Jx P aQ.nt l hs Rp K) a w:=by
 intro c
 induction c with
 | skip=>intro K ys q σ w0 h0 g a w h S hle hj hd;exact wpIn_skip (.inl ⟨ys,q,σ,w0,h0,g,h,S,hle,hj,hd⟩)
 | region id ops draw =>
  intro K ys q σ w0 h0 g a w h S hle hj hd;simp only[Sv]at h;split at h;exact h.elim
  ·-- a region that yields
   rename_i hz _;refine wpIn_region ?_;have:=TE (n:=n) gy hJ hJx hY (hs:=hs) (ops:=ops) (Q:=zcK J Jx P aQ.nt l hs Rp K) (λch a w hd hr=>.inr ⟨ch,rfl,hd,hr⟩) (λys q σ w0 h0 g a w h S hle hj hd=>?_) ops.toList 0 ys q _ w0 h0 g a w (λj=>by simp) (λo ho e=>by have:=zo9 ho e;simp at hz;exact hz this) h (S.log _) hle hj hd;rw [dqZ];simpa using this;split at h;split at h;rename_i s qi;obtain⟨g2,S2⟩:=eU qi S;exact .inl ⟨ys,q,s,w0,h0,g2,h,S2,hle,hj,hd⟩;exact h.elim;exact .inl ⟨ys,q,_,w0,h0,g,h,S.log _,hle,hj,hd⟩
  exact h.elim;rename_i hz _;exact rF (QJ (r:=none) (n:=n) gy aQ (D:=Jb ops.toList) (a0:=a) (λ_ h=>h) h S (Kp.refl _ _) λg' σ' a' w' hK S' hk FK=>.inl ⟨ys,q,σ',w0,h0,g',hK,S',hle,hj,FK.trans hd.d,(hk.1 0 (by simpa using hz)).trans hd.y⟩)
 | seq x y ihx ZA =>
  intro K ys q σ w0 h0 g a w h S hle hj hd;refine wpIn_seq (wpIn_mono (ihx _ ys q σ w0 h0 g a w h S hle hj hd) ?_);rintro e a' w' (⟨qG,q',σ',w1,h1,g',hK,S',iH,qH,gI⟩|⟨ch,rfl,gI,ve⟩)
  rotate_left
  exact .inr ⟨ch,rfl,gI,ve⟩;cases e with
  | normal =>
   simp only[zyh,zyj]at hK;split at hK;split at hK;rename_i s hs;obtain⟨g2,S2⟩:=eU hs S';exact ZA K qG q' s w1 h1 g2 a' w' hK S2 iH qH gI;exact hK.elim;exact ZA K qG q' σ' w1 h1 g' a' w' hK S' iH qH gI
  | exit id=>exact .inl ⟨qG,q',σ',w1,h1,g',hK,S',iH,qH,gI⟩
  | goto l=>exact .inl ⟨qG,q',σ',w1,h1,g',hK,S',iH,qH,gI⟩
  | ret=>exact .inl ⟨qG,q',σ',w1,h1,g',hK,S',iH,qH,gI⟩
  | panic ch=>exact .inl ⟨qG,q',σ',w1,h1,g',hK,S',iH,qH,gI⟩
  | outgrown=>exact .inl ⟨qG,q',σ',w1,h1,g',hK,S',iH,qH,gI⟩
 | cond c x y ihx ZA =>
  intro K ys q σ w0 h0 g a w h S hle hj hd;simp only[Sv]at h;split at h
  ·rename_i t ht;have hv:=vJ S ht;have hS:∀b,t=b->bW P aQ.nt w0.heap.size w0 h0 g (yg σ c b) a w:=by
    intro b hb;cases c with
    | tmp q =>
     refine S.env' (t:=q) (d:=.bool b) ?_ (kU _);have:a.tmps.getD q undef=.bool t:=hv;rw[this,hb];exact .bool b
    | _=>exact S
   have h2:=ru.1 h;refine wpIn_cond hv ?_;cases t with|true=>exact ihx K ys q _ w0 h0 g a w (h2.1 rfl) (hS true rfl) hle hj hd|false=>exact ZA K ys q _ w0 h0 g a w (h2.2 rfl) (hS false rfl) hle hj hd
  exact h.elim
 | block id b ih =>
  intro K ys q σ w0 h0 g a w h S hle hj hd;refine wpIn_block (wpIn_mono (ih _ ys q σ w0 h0 g a w h S hle hj hd) ?_);rintro e a' w' (⟨qG,q',σ',w1,h1,g',hK,S',iH,qH,gI⟩|⟨ch,rfl,gI,ve⟩)
  rotate_left
  exact .inr ⟨ch,rfl,gI,ve⟩;cases e with
  | exit j =>
   simp only[ZV]at hK;simp only[Exit.inBlock];split at hK;rename_i hj;rw[eY (lH hj)];exact .inl ⟨qG,q',σ',w1,h1,g',hK,S',iH,qH,gI⟩;rename_i hj;rw[fH (qdz hj)];exact .inl ⟨qG,q',σ',w1,h1,g',hK,S',iH,qH,gI⟩
  | normal=>exact .inl ⟨qG,q',σ',w1,h1,g',hK,S',iH,qH,gI⟩
  | goto l=>exact .inl ⟨qG,q',σ',w1,h1,g',hK,S',iH,qH,gI⟩
  | ret=>exact .inl ⟨qG,q',σ',w1,h1,g',hK,S',iH,qH,gI⟩
  | panic ch=>exact .inl ⟨qG,q',σ',w1,h1,g',hK,S',iH,qH,gI⟩
  | outgrown=>exact .inl ⟨qG,q',σ',w1,h1,g',hK,S',iH,qH,gI⟩
 | loop b ih =>
  intro K ys q σ w0 h0 g a w h S hle hj hd;simp only[Sv]at h;split at h
  ·rename_i k hk;split at h
   ·rename_i s qi;obtain⟨g1,S1⟩:=eU qi S;refine IC ?_;have key:=h (λ ys q s=>∀ w0 h0 g a w,bW P aQ.nt w0.heap.size w0 h0 g s a w->kF hs h0->JQ J Jx q ys h0 w0->YI l a->Xb (FR none) n P b (zcK J Jx P aQ.nt l hs Rp K) a w) ?_;exact key w0 h0 g1 a w S1 hle hj hd
    ·intro ys q s hs2 w0 h0 g a w S hle hj hd;refine IE (wpIn_mono (ih _ ys q s w0 h0 g a w hs2 S hle hj hd) ?_);rintro e a' w' (⟨qG,q',σ',w1,h1,g',hK,S',iH,qH,gI⟩ | ⟨ch,rfl,gI,ve⟩)
     rotate_left
     exact .inr ⟨ch,rfl,gI,ve⟩;cases e with
     | normal =>
      simp only[zhL,hk]at hK;split at hK;rename_i s2 hs2;obtain⟨g2,S2⟩:=eU hs2 S';exact hK w1 h1 g2 a' w' S2 iH qH gI;exact hK.elim
     | exit id=>exact .inl ⟨qG,q',σ',w1,h1,g',hK,S',iH,qH,gI⟩
     | goto l=>exact .inl ⟨qG,q',σ',w1,h1,g',hK,S',iH,qH,gI⟩
     | ret=>exact .inl ⟨qG,q',σ',w1,h1,g',hK,S',iH,qH,gI⟩
     | panic ch=>exact .inl ⟨qG,q',σ',w1,h1,g',hK,S',iH,qH,gI⟩
     | outgrown=>exact .inl ⟨qG,q',σ',w1,h1,g',hK,S',iH,qH,gI⟩
   exact h.elim
  ·split at h
   ·rename_i m k hk
    have key:∀(m:Nat)(ys:List (List PA))(q:Bool)(σ:St)(w0:World)(h0:Fz)(g:Gh)(a:Act)(w:World),P8 P k (Sv P Γ aQ b) m K ys q σ->bW P aQ.nt w0.heap.size w0 h0 g σ a w->kF hs h0->JQ J Jx q ys h0 w0->YI l a ->
      Xb (FR none) n P b (zcK J Jx P aQ.nt l hs Rp K) a w:=by
     intro m
     induction m with
     | zero=>intro ys q σ w0 h0 g a w h;exact h.elim
     | succ m ihm =>
      intro ys q σ w0 h0 g a w h S hle hj hd;simp only[P8]at h;split at h
      ·rename_i s qi;obtain⟨g1,S1⟩:=eU qi S;refine IE (wpIn_mono (ih _ ys q s w0 h0 g1 a w h S1 hle hj hd) ?_);rintro e a' w' (⟨qG,q',σ',w1,h1,g',hK,S',iH,qH,gI⟩ | ⟨ch,rfl,gI,ve⟩)
       rotate_left
       exact .inr ⟨ch,rfl,gI,ve⟩;cases e with|normal=>exact ihm qG q' σ' w1 h1 g' a' w' hK S' iH qH gI|exit id=>exact .inl ⟨qG,q',σ',w1,h1,g',hK,S',iH,qH,gI⟩|goto l=>exact .inl ⟨qG,q',σ',w1,h1,g',hK,S',iH,qH,gI⟩|ret=>exact .inl ⟨qG,q',σ',w1,h1,g',hK,S',iH,qH,gI⟩|panic ch=>exact .inl ⟨qG,q',σ',w1,h1,g',hK,S',iH,qH,gI⟩|outgrown=>exact .inl ⟨qG,q',σ',w1,h1,g',hK,S',iH,qH,gI⟩
      exact h.elim
    exact IC (key m ys q σ w0 h0 g a w h S hle hj hd)
   exact h.elim
 | exit id=>intro K ys q σ w0 h0 g a w h S hle hj hd;exact wpIn_exit (.inl ⟨ys,q,σ,w0,h0,g,h,S,hle,hj,hd⟩)
 | scope b ih =>
  intro K ys q σ w0 h0 g a w h S hle hj hd;refine zaC (wpIn_mono (ih _ ys q σ w0 h0 g a w h S hle hj hd) ?_);rintro e a' w' (⟨qG,q',σ',w1,h1,g',hK,S',iH,qH,gI⟩|⟨ch,rfl,gI,ve⟩)
  rotate_left
  exact .inr ⟨ch,rfl,gI,ve⟩;cases e with|goto l=>exact hK|normal=>exact .inl ⟨qG,q',σ',w1,h1,g',hK,S',iH,qH,gI⟩|exit l=>exact .inl ⟨qG,q',σ',w1,h1,g',hK,S',iH,qH,gI⟩|ret=>exact .inl ⟨qG,q',σ',w1,h1,g',hK,S',iH,qH,gI⟩|panic ch=>exact .inl ⟨qG,q',σ',w1,h1,g',hK,S',iH,qH,gI⟩|outgrown=>exact .inl ⟨qG,q',σ',w1,h1,g',hK,S',iH,qH,gI⟩
 | label l=>intro K ys q σ w0 h0 g a w h S hle hj hd;exact wpIn_label (.inl ⟨ys,q,σ,w0,h0,g,h,S,hle,hj,hd⟩)
 | ret=>intro K ys q σ w0 h0 g a w h S hle hj hd;exact wpIn_ret (.inl ⟨ys,q,σ,w0,h0,g,h,S,hle,hj,hd⟩)
 | rangeFunc f ps x y _ _=>intro K ys q σ w0 h0 g a w h S;exact h.elim
 | goto l=>intro K ys q σ w0 h0 g a w h S;exact h.elim
 | refuse s=>intro K ys q σ w0 h0 g a w h S;exact h.elim
theorem ziQ{v:Value}{vs:List Value}{m:Nat}:((v::vs).toArray++Array.replicate m undef).getD 0 undef=v:=by
 rw[yA,dq5 (by simp)];simp
theorem zyL{nt l:Nat}{args:List PA}{w:World}{h0:Fz}{vs:List Value}{m:Nat}(FD:nt=m)(hlen:args.length+1≤nt)(jS:RL (oJ h0) args vs)(O1:Hw h0 w) :
  bW P nt w.heap.size w h0 ⟨h0,λ_=>0,λ_=>.func (.yield l) #[] #[],λ_ _=>undef⟩ ⟨(0,.cl (.vec VQ))::jB 1 args,[(VQ,.gone)],[]⟩ {tmps:=(.func (.yield l) #[] #[]::vs).toArray++Array.replicate (m-(.func (.yield l) #[] #[]::vs).toArray.size) undef,defers:=[]} w:=by
 have hl:=jS.length;have ho:∀{L:Nat}{o:AO},lk [(VQ,AO.gone)] L=some o->o=.gone:=fun {L o} h=>by
  rw[aX]at h;split at h;simp only[bV]at h;exact h.symm;simp[lk]at h
 refine⟨Marks.nil _ _,by simp;omega,?_,λL o h=>by rw[ho h];trivial,λL o b h hb=>by rw[ho h]at hb;exact hb.elim,λL o b L' o' h h' hb=>by rw[ho h]at hb;exact hb.elim,O1,λ_ _ h=>h,λb o h=>.inl h,yh.refl _ _ _,kD _,?_,λL o h M hM=>by rw[ho h]at hM;simp[dW]at hM⟩;intro t d ht;rw[aX]at ht;split at ht;rename_i e;subst e;simp only[bV]at ht;subst ht;rw[ziQ];exact⟨rfl,rfl⟩;obtain⟨x,hx,hle,rfl⟩:=rG args 1 t d ht;obtain⟨v,hv,yz⟩:=jS.get (t-1) x hx;have iM:=(Bl.1 hv).1;have:((.func (.yield l) #[] #[]::vs).toArray++Array.replicate (m-(.func (.yield l) #[] #[]::vs).toArray.size) undef).getD t undef=v:=by
  rw[yA,dq5 (by simp;omega)];obtain⟨k,rfl⟩:∃k,t=k+1:=⟨t-1,omY⟩;have hv:vs[k]? = some v:=hv;simp[hv]
 rw[this];exact LJ (g:=⟨h0,λ_=>0,λ_=>.func (.yield l) #[] #[],λ_ _=>undef⟩) yz;intro t d ht L hL;rw[aX]at ht;split at ht;simp only [bV]at ht;subst ht;have e:L=VQ:=by simpa [cO,dD,bC]using hL
 subst e;exact⟨.gone,rfl⟩;obtain⟨x,hx,_,rfl⟩:=rG args 1 t d ht;rw[show cO (.one (Jq x))=dD (Jq x)from rfl,wX]at hL;simp at hL
theorem ziR{G:bK}(gy:jF P G){f:FuncId}{C:List PA→ae (List (List PA))}(hc:dA P f)
    (h:∀caps ys,(C caps).o=some ys->∃vv aQ,Sz P {G with vv:=vv} aQ f caps ys):AL P f C:=by
  intro caps ys hC l J Jx Rp w h0 vs hJ hJx hY hj0 jS O1;refine⟨hc,?_⟩;obtain⟨vv,aQ,hv⟩:=h caps ys hC;unfold Sz at hv;split at hv
  · rename_i fn ug;split at hv
    · rename_i c sO;split at hv
      · rename_i FD;simp only[gq,Vs] at FD;obtain⟨⟨FD,hlen⟩,o8⟩:=FD;have S:=zyL (P:=P) (l:=l) (args:=caps) (vs:=vs) (h0:=h0) (w:=w) (lH FD) (by simpa using hlen) jS O1;have hwp:=ze7 (n:=0) (Γ:={ G with vv:=vv }) (J:=J) (Jx:=Jx) (Rp:=Rp) (hs:=h0) ⟨gy.mt,gy.fn,gy.own,gy.it,gy.cmp⟩ aQ (l:=l) hJ hJx hY c _ ys false _ w h0 _ _ w hv S (λ _ _ h=>h) hj0 ⟨rfl,ziQ⟩;refine (callsIn_wide (n:=0)).1 ?_;refine callsIn_of_wp (F:=FR none) ug sO trivial (wpIn_mono hwp ?_);rintro e a' w' (⟨qG,q',σ',w1,h1,g',hK,S',hle,hj,hd⟩ | ⟨ch,rfl,hd,hr⟩)
        rotate_left
        exact⟨hd.d,.inr ⟨⟨ch,rfl⟩,hr⟩⟩;have fin:zhM qG q'->a'.defers=[]/\∃v,(results fn a'.tmps).run P w'=.ok v w'/\((∃v2 h',Ending.returned v=.returned v2/\kF h0 h'/\Hw h' w'/\(J [] h' w'\/∃rest,Jx rest h' w'))\/((∃ch,Ending.returned v=.panicked ch)/\Rp (.returned v) w')):=by
          intro hf;have hr:fn.results = #[]:=by simpa using o8
          refine⟨hd.d,.tuple #[],?_,.inl ⟨_,g'.h,rfl,λb o hb=>S'.le0 b o (hle b o hb),S'.hw,?_⟩⟩;simp[results,hr]
          · have:=hj.later hJ hJx S';cases q' with|false=>simp only[zhM]at hf;subst hf;exact .inl this|true=>exact .inr this
        cases e with|normal=>exact fin hK|ret=>exact fin hK|exit id=>exact hK.elim|goto l=>exact hK.elim|panic ch=>exact hK.elim|outgrown=>exact hK.elim
      exact hv.elim
    exact hv.elim
  exact hv.elim
def zaE(n s:Nat)(get:Nat->List PV)(rs:List PV)(r:List PA):Prop:=r=.one (.sl n s get)::rs.map .one
theorem ze8{G:bK}(gy:jF P G){f:FuncId}{e s b:Nat}{F:List PA→ae (Nat×(Nat→List PV)×List PV)}(hc:dA P f)
    (h:∀az n get rs,(F az).o=some (n,get,rs)->∃vv aQ,zb6 P {G with vv:=vv} aQ f az e s b (zaE n s get rs)):gB P f (.mkv e s b F):=by
  intro w h0 az vs n get rs hF jS O1;refine⟨hc,?_⟩;obtain⟨vv,aQ,Bj⟩:=h az n get rs hF;unfold zb6 at Bj;split at Bj;rename_i fn ug;split at Bj;rename_i c sO;split at Bj
  · rename_i FD;simp only[gq,Vs] at FD;refine QL (G:={ G with vv:=vv }) ⟨gy.mt,gy.fn,gy.own,gy.it,gy.cmp⟩ (Kx:=λ fn=>zhK fn e s b (zaE n s get rs)) (vs:=vs) ug sO (lH FD.1) FD.2 Bj jS O1 ?_;intro ex σ' g' a' w' yc S'
    have fin:P6 fn e s b (zaE n s get rs) σ'->∃v,(results fn a'.tmps).run P w'=.ok v w'/\∃(h':Fz)(v':Value)(xs:List Value),Ending.returned v=.returned (VT v' xs rs)/\RL (Rep h') rs xs/\v'.oneCell'=true/\uo get /\
        AC h' w' w.heap.size e s v' n get/\(∀k,v'.ownBlock=some k->h' k=none)/\yh h0 w.heap.size w w'/\kF h0 h'/\Hw h' w'/\∀b o,h' b=some o->h0 b=some o\/w.heap.size<=b:=by
      intro hf;unfold P6 at hf;split at hf;rename_i t o8;have hr:fn.results = #[.tmp t]:=by rw[<- qdj (xs:=fn.results),o8]
      have dh:(results fn a'.tmps).run P w'=.ok (a'.tmps.getD t undef) w':=by
        simp only[results,hr];simp
      split at hf;rename_i L ht;split at hf;rename_i e' s' b' m get' cZ;split at hf
      · rename_i hb;simp only[gq]at hb;have e1:=lH hb.1;have e2:=lH hb.2.1;subst e1 e2;obtain⟨htv,mf⟩:=S'.env t _ ht;obtain⟨iU,nP,ys,Zv,hrr⟩:=S'.obj L _ cZ;unfold zaE at hf;cases rs with
        | nil =>
          simp only[qdY,FV,PA.one.injEq,PV.sl.injEq,jqm]at hf;obtain⟨rfl,_,rfl⟩:=hf;exact⟨_,dh,g'.h,g'.sv L,[],by rw[htv];rfl,trivial,by rw[<- htv];exact mf,iU.1,⟨ys,Zv,hrr⟩,λk hk=>(S'.own L _ k cZ hk).2,S'.below,S'.le0,S'.hw,S'.hn⟩
        | cons x l=>simp at hf
      exact hf.elim;exact hf.elim;exact hf.elim;rename_i t u o8;have hr:fn.results = #[.tmp t,.tmp u]:=by rw[<- qdj (xs:=fn.results),o8]
      have dh:(results fn a'.tmps).run P w'=.ok (.tuple #[a'.tmps.getD t undef,a'.tmps.getD u undef]) w':=by
        simp only[results,hr];simp
      split at hf;rename_i L ht;split at hf;rename_i x hu;split at hf;rename_i e' s' b' m get' cZ;split at hf
      · rename_i hb;simp only[gq] at hb;have e1:=lH hb.1;have e2:=lH hb.2.1;subst e1 e2;obtain⟨htv,mf⟩:=S'.env t _ ht;have huv:=S'.env u _ hu;obtain⟨iU,nP,ys,Zv,hrr⟩:=S'.obj L _ cZ;unfold zaE at hf
        match rs,hf with
        | [y],hf =>
          simp only[nX,qdY,FV,PA.one.injEq,PV.sl.injEq,jqm]at hf;obtain⟨⟨rfl,_,rfl⟩,rfl⟩:=hf;exact⟨_,dh,g'.h,g'.sv L,[a'.tmps.getD u undef],by rw[<- htv];rfl,⟨huv,trivial⟩,by rw[<- htv];exact mf,iU.1,⟨ys,Zv,hrr⟩,λk hk=>(S'.own L _ k cZ hk).2,S'.below,S'.le0,S'.hw,S'.hn⟩
        | [],hf=>simp at hf
        | _::_::_,hf=>simp at hf
      exact hf.elim;exact hf.elim;exact hf.elim;exact hf.elim;exact hf.elim
    cases ex with|normal=>exact⟨.inl rfl,fin yc⟩|ret=>exact⟨.inr rfl,fin yc⟩|exit id=>exact yc.elim|goto l=>exact yc.elim|panic ch=>exact yc.elim|outgrown=>exact yc.elim
  exact Bj.elim;exact Bj.elim;exact Bj.elim
end
end Go.Pm
namespace Go.Pm
variable [aC]
open Go.RowKit (Below)
def GG(i j:Nat):Nat:=i+4096*(j+1)
def MV:Nat→List XA→List (Nat×DV)|_,[]=>[]|i,.d a::r=>(i,.one (Jq a))::MV (i+1) r|i,.box _ _::r=>(i,.cl (.ptr i 0))::MV (i+1) r
def Aa:Nat→Nat→List uj|_,0=>[]|np,n+1=>.b np::Aa (np+1) n
def qw(i:Nat):Nat→List XC→List Cl|_,[]=>[]|j,.p v::r=>.p v::qw i (j+1) r|j,.vec _ _ _ _ _::r=>.vec (GG i j)::qw i (j+1) r|j,.mo _ _ _ _ _::r=>.mo (GG i j)::qw i (j+1) r|j,.slf f np n::r=>.clo f (Aa np n)::qw i (j+1) r
def nC(i:Nat):Nat→List XC→List (Nat×AO)|_,[]=>[]|j,.p _::r=>nC i (j+1) r|j,.vec e s b n get::r=>(GG i j,.vec e s b n get)::nC i (j+1) r|j,.mo kt vt q n F::r=>(GG i j,.mo kt vt q n F)::nC i (j+1) r|j,.slf _ _ _::r=>nC i (j+1) r
def jd:Nat→List XA→List (Nat×AO)|_,[]=>[]|i,.d _::r=>jd (i+1) r|i,.box ty cs::r=>(i,.box ty (qw i 0 cs))::(nC i 0 cs++jd (i+1) r)
def xh:Nat→List XA→List Nat|_,[]=>[]|i,.d _::r=>xh (i+1) r|i,.box _ _::r=>i::xh (i+1) r
def zcM:List XC→Option (FuncId×Nat×Nat)|[]=>none|.slf f np n::_=>some (f,np,n)|_::r=>zcM r
def Xf:List XA→Option (FuncId×Nat×Nat)
  | []=>none
  | .d _::r=>Xf r
  | .box _ cs::r=>match zcM cs with|some x=>some x|none=>Xf r
def MW(env:List (Nat×DV)):Nat→Nat→Option (List Nat)
  | _,0=>some []
  | np,n+1=>match lk env np,MW env (np+1) n with|some (.one (.c (.ptr L 0))),some l=>some (L::l)|_,_=>none
def BN(env:List (Nat×DV))(xs:List XA):lI:=match Xf xs with
 | some (f,np,n)=>match MW env np n with|some l=>some (f,np,l)|none=>none
 | none=>none
def zx(bx:List Nat):Nat→Nat→Bool|_,0=>true|np,n+1=>bx.contains np&&zx bx (np+1) n
def MX(bx:List Nat):List XC→Bool|[]=>true|.slf _ np n::r=>zx bx np n&&MX bx r|_::r=>MX bx r
def zy(bx:List Nat):List XA→Bool|[]=>true|.d _::r=>zy bx r|.box _ cs::r=>MX bx cs&&zy bx r
section
variable(P:Program)
def D6(σ:St):List ResultVar→Option (List PA×List (Nat×AO))
  | []=>some ([],[])
  | .tmp t::r=>match lk σ.env t with
    | some d=>match Az (lk σ.ay) d,D6 σ r with|some (x,u),some (l,us)=>some (x::l,u++us)|_,_=>none
    | none=>none
  | .cell t ty::r=>match lk σ.env t,jK P ty,qI P ty with
    | some (.one (.c (.ptr L off))),some g,some n=>match lk σ.ay L with
      | some (.box _ cells)=>match oD g n cells off with
        | some d=>match Az (lk σ.ay) (.one d),D6 σ r with|some (x,u),some (l,us)=>some (x::l,u++us)|_,_=>none
        | none=>none
      | _=>none
    | _,_,_=>none
def MZ(sf:lI)(ob:Nat→Option AO)(env:List (Nat×DV)):Nat→List XA→Option (List XA×List Nat)
  | _,[]=>some ([],[])
  | i,.d a::r=>match MZ sf ob env (i+1) r with|some (ys,ls)=>some (.d a::ys,ls)|none=>none
  | i,.box _ _::r=>match lk env i,MZ sf ob env (i+1) r with
    | some (.one (.c (.ptr L 0))),some (ys,ls)=>match AB sf ob (.one (.c (.ptr L 0)))with|some (y,l,_)=>some (y::ys,l++ls)|none=>none
    | _,_=>none
def Wl(fn:Func)(xs:List XA)(K:List PA->List XA->Prop)(σ:St):Prop :=
 match D6 P σ fn.results.toList with
 | some (l,u)=>match MZ (BN σ.env xs) (lk (u++σ.ay)) σ.env 0 xs with
  | some (ys,ls)=>match mQ ls,FZ l with|true,none=>K l ys|_,_=>False
  | none=>False
 | none=>False
def ziS(xs:List XA)(K:List PA->List XA->Prop)(ch:List PanicEntry)(σ:St):Prop :=
 match chR ch with
 | some l=>match MZ (BN σ.env xs) (lk σ.ay) σ.env 0 xs with
  | some (ys,ls)=>match mQ ls with|true=>K l ys|false=>False
  | none=>False
 | none=>False
def zvl(fn:Func)(xs:List XA)(K:List PA→List XA→Prop):Exit→St→Prop|.ret,σ=>Wl P fn xs K σ|.normal,σ=>Wl P fn xs K σ|.panic ch,σ=>ziS xs K ch σ|_,_=>False
def Xg(Γ:bK)(aQ:dG)(f:FuncId)(xs:List XA)(K:List PA->List XA->Prop):Prop :=
 match P.funcs[f]? with
 | some fn=>match fn.body with
  | some c=>match Nat.beq aQ.nt fn.ntmps&&Nat.ble xs.length aQ.nt&&mQ ((jd 0 xs).map (·.1))&&zy (xh 0 xs) xs&&oI (xh 0 xs) (eQ c)with|true=>vc P Γ aQ c (zvl P fn xs K) ⟨MV 0 xs,jd 0 xs,[]⟩|false=>False
  | none=>False
 | none=>False
end
section
variable{P:Program}{Γ:bK}
def JG(w:World)(v:Value):List Value:=match v with
 | .pointer (some a)=>match w.heap[a.block]? with|some (.cells C _ _)=>C.toList|_=>[]
 | _=>[]
def xVV(i:Nat):Nat→List XC→List Value→List (Nat×Value)|j,.p _::r,_::vs=>xVV i (j+1) r vs|j,.vec _ _ _ _ _::r,v::vs=>(GG i j,v)::xVV i (j+1) r vs|j,.mo _ _ _ _ _::r,v::vs=>(GG i j,v)::xVV i (j+1) r vs|j,.slf _ _ _::r,_::vs=>xVV i (j+1) r vs|_,_,_=>[]
def zA(w:World):Nat→List XA→List Value→List (Nat×Value)|i,.d _::r,_::vs=>zA w (i+1) r vs|i,.box _ cs::r,v::vs=>(i,v)::(xVV i 0 cs (JG w v)++zA w (i+1) r vs)|_,_,_=>[]
def ziT:Value→Nat|.pointer (some a)=>a.block|_=>0
theorem IJ:∀(n np:Nat)(bx:List Nat),zx bx np n=true→∀M∈lV (Aa np n),M∈bx
  | 0,_,_,_,M,hM=>by simp[Aa,lV]at hM
  | n+1,np,bx,h,M,hM=>by
    simp only[zx,gq]at h;simp only[Aa,lV,kS]at hM;rcases hM with rfl|hM
    simpa using h.1;exact IJ n (np+1) bx h.2 M hM
theorem BO:∀(n np:Nat)(bx:List Nat),zx bx np n=true→∀k,k<n→np+k∈bx
  | 0,_,_,_,k,h=>absurd h omY
  | n+1,np,bx,h,k,hk=>by
    simp only[zx,gq]at h;cases k with|zero=>simpa using h.1|succ k=>rw[show np+(k+1)=np+1+k by omega];exact BO n (np+1) bx h.2 k omY
theorem QM{g:Gh}:∀(bs:List Nat)(np:Nat),(∀k b,bs[k]? = some b→g.bk (np+k)=b)→RL (Jc g) (Aa np bs.length) (bs.map yB)|[],_,_=>trivial|b::bs,np,h=>⟨by show yB b=_;rw[<- h 0 b rfl];rfl,QM bs (np+1) λk b' hk=>by rw[<- h (k+1) b' (by simpa using hk)];congr 1;omega⟩
section start
variable{h:Fz}{w:World}{B:Nat}{g:Gh}(hle:∀p x,Rep h p x->Rep g.h p x)
include hle
theorem Xh [dE]{i:Nat}{bx:List Nat}(TF:∀k b,(dE.bs)[k]? = some b->dE.np+k∈bx->g.bk (dE.np+k)=b):∀{cs:List XC}{j:Nat}{vs:List Value},RL (xcR P h w B) cs vs->MX bx cs=true->(∀x∈xVV i j cs vs,g.sv x.1=x.2) ->
  RL (jw g) (qw i j cs) vs/\(∀ x∈nC i j cs,Wx x.2/\dW x.2=[]/\OX P g w B x.1 x.2)/\vF cs vs=(nC i j cs).flatMap (λ x=>kO g x.1 x.2)/\(xVV i j cs vs).map (·.1)=(nC i j cs).map (·.1) /\
   ∀M∈(qw i j cs).flatMap bC,M∈(nC i j cs).map (·.1)\/M∈bx
 | [],j,[],_,_,_=>⟨trivial,λx hx=>by simp[nC]at hx,rfl,rfl,λM hM=>by simp[qw]at hM⟩
 | [],_,_::_,hr,_,_=>hr.elim
 | _::_,_,[],hr,_,_=>hr.elim
 | .slf f np n::cs,j,v::vs,hr,hb,hs=>by
  simp only[MX,gq]at hb;obtain⟨i1,i2,i3,i4,i5⟩:=Xh (j:=j+1) TF hr.2 hb.2 hs;obtain⟨rfl,rfl,rfl,rfl⟩:=hr.1;refine⟨⟨⟨_,rfl,QM _ _ λk b hk=>TF k b hk (BO _ _ _ hb.1 k (Bl.1 hk).1)⟩,i1⟩,i2,by simp only[vF,xcK,PT];exact i3,i4,λM hM=>?_⟩;simp only[qw,oC,dX]at hM;rcases hM with hM|hM
  exact .inr (IJ _ _ _ hb.1 M hM);exact i5 M hM
 | .p p::cs,j,v::vs,hr,hb,hs=>by
  obtain⟨i1,i2,i3,i4,i5⟩:=Xh (j:=j+1) TF hr.2 hb hs;exact⟨⟨hle _ _ hr.1,i1⟩,i2,by simp only[vF,xcK,PT];exact i3,i4,λM hM=>i5 M (by simpa [qw,bC]using hM)⟩
 | .vec e s b n get::cs,j,v::vs,hr,hb,hs=>by
  obtain⟨i1,i2,i3,i4,i5⟩:=Xh (j:=j+1) TF hr.2 hb (λx hx=>hs x (jW _ hx));have hv:g.sv (GG i j)=v:=hs (GG i j,v) kX;obtain⟨h1,h2,h3,xs,hx,PO⟩:=hr.1;refine⟨⟨⟨hv.symm,h1⟩,i1⟩,λx hx=>?_,?_,by simp[xVV,nC,i4],λM hM=>?_⟩;rcases kS.1 hx with e1|hx
  subst e1;refine⟨trivial,rfl,h2,h3,xs,?_,λq hq=>(PO q hq).mono hle⟩;show w.ownsRow B e s (g.sv (GG i j)) n xs;rw[hv];assumption;exact i2 x hx;simp only[vF,xcK,nC,oC,kO,hv,i3];simp only [qw,oC,dX,bC,lN]at hM;simp only[nC,nX,kS];rcases hM with hM|hM
  exact .inl (.inl hM);exact(i5 M hM).imp_left .inr
 | .mo kt vt q n F::cs,j,v::vs,hr,FU,hs=>by
  obtain⟨i1,i2,i3,i4,i5⟩:=Xh (j:=j+1) TF hr.2 FU (λx hx=>hs x (jW _ hx));have hv:g.sv (GG i j)=v:=hs (GG i j,v) kX;obtain⟨b,es,clock,rfl,h2,h3⟩:=hr.1;have hb:pM (g.sv (GG i j))=b:=by rw[hv];rfl
  refine⟨⟨by show Value.map (some b)=.map (some (pM (g.sv (GG i j))));rw[hb],i1⟩,λx hx=>?_,?_,by simp[xVV,nC,i4],λM hM=>?_⟩;rcases kS.1 hx with e1|hx
  subst e1;exact⟨trivial,rfl,es,clock,by rw[hb];exact h2,h3⟩;exact i2 x hx;simp only[vF,xcK,nC,oC,kO,hb,i3];rfl;simp only [qw,oC,dX,bC,lN]at hM;simp only[nC,nX,kS];rcases hM with hM|hM
  exact .inl (.inl hM);exact(i5 M hM).imp_left .inr
theorem TG [dE]{bx:List Nat}(TF:∀k b,(dE.bs)[k]? = some b->dE.np+k∈bx->g.bk (dE.np+k)=b):∀{xs:List XA}{i:Nat}{vs:List Value},RL (zU P h w B) xs vs->zy bx xs=true->(∀x∈zA w i xs vs,g.sv x.1=x.2/\g.bk x.1=ziT x.2) ->
  (∀x∈jd i xs,Wx x.2/\(∀M∈dW x.2,M∈(jd i xs).map (·.1)\/M∈bx)/\OX P g w B x.1 x.2)/\oh w xs vs=(jd i xs).flatMap (λx=>kO g x.1 x.2)/\(zA w i xs vs).map (·.1)=(jd i xs).map (·.1)
 | [],i,[],_,_,_=>⟨λx hx=>by simp[jd]at hx,rfl,rfl⟩
 | [],_,_::_,hr,_,_=>hr.elim
 | _::_,_,[],hr,_,_=>hr.elim
 | .d a::xs,i,v::vs,hr,FU,hs=>by
  obtain⟨i1,i2,i3⟩:=TG (i:=i+1) TF hr.2 FU hs;exact⟨i1,by simp only[oh,VU,PT];exact i2,i3⟩
 | .box ty cs::xs,i,v::vs,hr,FU,hs=>by
  simp only[zy,gq]at FU;obtain⟨i1,i2,i3⟩:=TG (i:=i+1) TF hr.2 FU.2 (λx hx=>hs x (jW _ (dX.2 (.inr hx))));obtain⟨k,C,rfl,hC,oz⟩:=hr.1;have hca:JG w (.pointer (some ⟨k,0,none⟩))=C.toList:=by simp only[JG,hC]
  obtain⟨j1,j2,j3,j4,j5⟩:=Xh (i:=i) (j:=0) hle TF oz FU.1 (λx hx=>(hs x (jW _ (dX.2 (.inl (by rw[hca];exact hx))))).1);have hb:g.bk i=k:=(hs (i,_) kX).2;refine⟨λx hx=>?_,?_,?_⟩;simp only [jd]at hx;rcases kS.1 hx with e|hx
  subst e;refine⟨trivial,λM hM=>?_,C,by rw[hb];exact hC,j1⟩;simp only[jd,nX,PU,kS,dX];exact(j5 M hM).imp_left λh=>.inr (.inl h);rcases dX.1 hx with hx|hx
  obtain⟨q1,q2,q3⟩:=j2 x hx;exact⟨q1,λM hM=>by rw[q2]at hM;simp at hM,q3⟩;obtain⟨q1,q2,q3⟩:=i1 x hx;refine⟨q1,λM hM=>?_,q3⟩;simp only[jd,nX,PU,kS,dX];exact(q2 M hM).imp_left λh=>.inr (.inr h);simp only[oh,VU,hC,jd,oC,qdR,kO,hb,j3,i2];simp;simp only[zA,jd,nX,PU,hca,j4,i3]
end start
theorem TI : ∀ (xs : List XA) (i t : Nat) (d : DV), lk (MV i xs) t = some d → ∃ x, xs[t - i]? = some x ∧ i ≤ t ∧ d = match x with | .d a => .one (Jq a) | .box _ _ => .cl (.ptr t 0)
  | [],i,t,d,h=>by simp[MV,lk]at h
  | x::r,i,t,d,h=>by
    have key:lk (MV (i+1) r) t=some d->i≠t->∃y,(x::r)[t-i]? = some y/\i<=t/\d=match y with | .d a=>.one (Jq a) | .box _ _=>.cl (.ptr t 0):=λh jk=>by
      obtain⟨y,h1,h2,h3⟩:=TI r (i+1) t d h;refine⟨y,?_,omY,h3⟩;rw[show t-i=(t-(i+1))+1 by omega,ZH];exact h1
    cases x with
    | d a =>
      simp only[MV]at h;rw[aX]at h;split at h;rename_i e;subst e;simp only[bV]at h;exact⟨.d a,by simp,kD _,h.symm⟩;rename_i e;exact key h e
    | box ty cs =>
      simp only[MV]at h;rw[aX]at h;split at h;rename_i e;subst e;simp only[bV]at h;exact⟨.box ty cs,by simp,kD _,h.symm⟩;rename_i e;exact key h e
theorem GH : ∀ {xs : List XA} {i t : Nat} {ty : Nat} {cs : List XC}, xs[t - i]? = some (.box ty cs) → i ≤ t → t ∈ (jd i xs).map (·.1)
  | [],i,t,ty,cs,h,_=>by simp at h
  | x::xs,i,t,ty,cs,h,hi=>by
    by_cases e:t=i;subst e;simp at h;subst h;simp[jd]
    · rw [show t-i=(t-(i+1))+1 by omega,ZH]at h;have:=GH (i:=i+1) h omY;cases x with
      | d a=>exact this
      | box ZC IZ =>
        simp only[jd,nX,PU,kS,dX];exact .inr (.inr this)
theorem GI{w:World}:∀{xs:List XA}{i t:Nat}{ty:Nat}{cs:List XC}{vs:List Value}{v:Value},xs[t-i]? = some (.box ty cs)→vs[t-i]? = some v→i≤t→(t,v)∈zA w i xs vs
  | [],i,t,ty,cs,vs,v,h,_,_=>by simp at h
  | _::_,i,t,ty,cs,[],v,_,h,_=>by simp at h
  | x::xs,i,t,ty,cs,u::vs,v,h,h2,hi=>by
    by_cases e:t=i;subst e;simp at h h2;subst h h2;simp[zA]
    · rw [show t-i=(t-(i+1))+1 by omega,ZH]at h h2;have:=GI (w:=w) (i:=i+1) h h2 omY;cases x with
      | d a=>exact this
      | box ZC IZ =>
        simp only[zA,kS,dX];exact .inr (.inr this)
def pinned(h:Fz)(K:List Nat)(w:World):Fz:=λb =>
 match h b with
 | some (.fz (.cells C ty fr))=>some (.fz (.cells C ty fr))
 | _=>match K.contains b with|true=>none|false=>(w.heap[b]?).map .pin
theorem Xi{h:Fz}{K:List Nat}{w:World}{b:Nat}{o:VS}(hb:h b=some o)(ho:(∃C ty fr,o=.fz (.cells C ty fr))):pinned h K w b=some o:=by
 obtain⟨C,ty,fr,rfl⟩:=ho;simp only[pinned,hb]
def zHn(h:Fz)(K:List Nat)(w:World)(b:Nat):Prop :=
 (∃o,h b=some o∧pinned h K w b=some o∧((∃C ty fr,o = .fz (.cells C ty fr)))) ∨
  (b∈K/\pinned h K w b=none)\/(b∉K/\pinned h K w b=(w.heap[b]?).map .pin)
theorem zB{h:Fz}{K:List Nat}{w:World}{b:Nat}(e:pinned h K w b=(match K.contains b with|true=>none|false=>(w.heap[b]?).map .pin)):zHn h K w b:=by
 cases hk:K.contains b with|true=>rw[hk]at e;exact .inr (.inl ⟨by simpa using hk,e⟩)|false=>rw[hk]at e;exact .inr (.inr ⟨by simpa using hk,e⟩)
theorem dY{h:Fz}{K:List Nat}{w:World}(b:Nat):zHn h K w b:=by
 cases hb:h b with
 | none=>exact zB (by simp only[pinned,hb])
 | some o =>
  cases o with
  | pin o=>exact zB (by simp only[pinned,hb])
  | fz o =>
   cases o with|cells C ty fr=>exact .inl ⟨_,hb,by simp only[pinned,hb],C,ty,fr,rfl⟩|_=>exact zB (by simp only[pinned,hb])
theorem xk{h:Fz}{K:List Nat}{w:World}{p:PV}{x:Value}(hr:Rep h p x):Rep (pinned h K w) p x:=hr.mono' λ_ _ hb ho=>Xi hb ho
theorem QN{h:Fz}{K:List Nat}{w:World}(H:Hw h w):Hw (pinned h K w) w:=by
 intro b x hb;rcases dY (h:=h) (K:=K) (w:=w) b with⟨o,h1,h2,_⟩|⟨_,h2⟩|⟨_,h2⟩
 rw[h2]at hb;simp only[bV]at hb;subst hb;exact H b _ h1;rw[h2]at hb;cases hb;rw [h2]at hb;obtain⟨o,ho,rfl⟩:=Zw.1 hb;exact⟨o,ho,rfl⟩
theorem xm{h h':Fz}(hle:∀p x,Rep h p x->Rep h' p x){a:PA}{v:Value}(hr:oJ h a v):oJ h' a v:=by
 cases a with
 | one p=>exact hle _ _ hr
 | agg cs=>obtain⟨vs,rfl,hr⟩:=hr;exact⟨vs,rfl,hr.mono hle⟩
theorem ziU{h h':Fz}(hle:∀p x,Rep h p x->Rep h' p x){rs:List PA}{v:Value}(hr:qP h rs v):qP h' rs v:=by
 match rs,hr with|[],⟨vs,e,r⟩=>exact⟨vs,e,r.mono λ_ _=>xm hle⟩|[x],hr=>exact xm hle hr|x::y::l,⟨vs,e,r⟩=>exact⟨vs,e,r.mono λ_ _=>xm hle⟩
theorem zpa [dE]{h h':Fz}{w:World}{B:Nat}(hle:∀p x,Rep h p x->Rep h' p x){c:XC}{v:Value}(hr:xcR P h w B c v):xcR P h' w B c v:=by
 cases c with
 | p v=>exact hle _ _ hr
 | vec e s b n get=>obtain⟨h1,h2,h3,xs,h4,h5⟩:=hr;exact⟨h1,h2,h3,xs,h4,λq hq=>(h5 q hq).mono hle⟩
 | mo kt vt q n F=>exact hr
 | slf f np n=>exact hr
theorem zcN [dE]{h h':Fz}{w:World}{B:Nat}(hle:∀p x,Rep h p x->Rep h' p x){c:XA}{v:Value}(hr:zU P h w B c v):zU P h' w B c v:=by
 cases c with
 | d a=>exact xm hle hr
 | box ty cs=>obtain⟨k,C,h1,h2,h3⟩:=hr;exact⟨k,C,h1,h2,h3.mono λ_ _=>zpa hle⟩
theorem D7:∀{xs:List XA}{i M:Nat},M∈xh i xs→i≤M∧∃ty cs,xs[M-i]? = some (.box ty cs)
  | [],_,_,h=>by simp[xh]at h
  | .d a::xs,i,M,h=>by
    obtain⟨h1,ty,cs,h2⟩:=D7 (i:=i+1) h;exact⟨omY,ty,cs,by rw[show M-i=(M-(i+1))+1 by omega,ZH];exact h2⟩
  | .box ty cs::xs,i,M,h=>by
    rcases kS.1 h with rfl|h
    exact⟨kD _,ty,cs,by simp⟩;obtain⟨h1,ty,cs,h2⟩:=D7 (i:=i+1) h;exact⟨omY,ty,cs,by rw[show M-i=(M-(i+1))+1 by omega,ZH];exact h2⟩
theorem zpb [dE]{nt m:Nat}{xs:List XA}{w:World}{h:Fz}{B:Nat}{vs:List Value}(FD:nt=m)(hlen:xs.length≤nt)(jS:RL (zU P h w B) xs vs)(hn:(oh w xs vs).Nodup)
    (hK:∀b∈oh w xs vs,B<=b/\h b=none) (hw:Hw h w) (hB:B<=w.heap.size) (AU:((jd 0 xs).map (·.1)).Nodup) (FU:zy (xh 0 xs) xs=true) (mG:∀k b,(dE.bs)[k]? = some b->vs[dE.np+k]? = some (yB b)) :
    ∃g,bW P nt B w (pinned h (oh w xs vs) w) g ⟨MV 0 xs,jd 0 xs,[]⟩ {tmps:=vs.toArray++Array.replicate (m-vs.toArray.size) undef,defers:=[]} w:=by
  let nv:=zA w 0 xs vs;let h0:=pinned h (oh w xs vs) w;let g:Gh:=⟨h0,λL=>ziT ((lk nv L).getD undef),λL=>(lk nv L).getD undef,λ_ _=>undef⟩;have hle:∀p x,Rep h p x->Rep g.h p x:=λp x hr=>xk hr;have RG:nv.map (·.1)=(jd 0 xs).map (·.1):=by
    have:∀{xs:List XA}{i:Nat}{vs:List Value},RL (zU P h w B) xs vs->(zA w i xs vs).map (·.1)=(jd i xs).map (·.1):=by
      intro xs
      induction xs with
      | nil=>intro i vs hr;cases vs with|nil=>rfl|cons=>exact hr.elim
      | cons x xs ih =>
        intro i vs hr;cases vs with
        | nil=>exact hr.elim
        | cons v vs =>
          cases x with
          | d a=>exact ih hr.2
          | box ty cs =>
            obtain⟨k,C,rfl,hC,oz⟩:=hr.1;have hv:∀{cs:List XC}{j:Nat}{vs:List Value},RL (xcR P h w B) cs vs->(xVV i j cs vs).map (·.1)=(nC i j cs).map (·.1):=by
              intro cs
              induction cs with
              | nil=>intro j vs hr;cases vs with|nil=>rfl|cons=>exact hr.elim
              | cons c cs ih2 =>
                intro j vs hr;cases vs with
                | nil=>exact hr.elim
                | cons v vs=>cases c with|p q=>exact ih2 hr.2|vec e s b n get=>simp only[xVV,nC,nX];rw[ih2 hr.2]|mo kt vt q n F=>simp only[xVV,nC,nX];rw[ih2 hr.2]|slf f np n=>exact ih2 hr.2
            simp only[zA,jd,nX,PU,JG,hC];rw[hv oz,ih hr.2]
    exact this jS
  have zpc:∀x∈nv,lk nv x.1=some x.2:=λx hx=>Gl (by rw[RG];exact AU) hx;obtain⟨o1,o2,o3⟩:=TG (g:=g) (i:=0) hle (bx:=xh 0 xs) (λk b hk hm=>by
    obtain⟨_,ty,cs,hx⟩:=D7 hm;have:=zpc _ (GI (w:=w) (i:=0) hx (by rw[jqR];exact mG k b hk) (ui _));show ziT ((lk nv (dE.np+k)).getD undef)=b;rw[show lk nv (dE.np+k)=some (yB b)from this];rfl) jS FU (λx hx=>⟨by show(lk nv x.1).getD undef=x.2;rw[zpc x hx];rfl,by show ziT ((lk nv x.1).getD undef)=_;rw[zpc x hx];rfl⟩)
  have sK:∀L o,lk (jd 0 xs) L=some o->(L,o)∈jd 0 xs:=λL o h=>fO h;have hl:=jS.length;have hblk:∀L o b,lk (jd 0 xs) L=some o->iy g L o b->b∈(jd 0 xs).flatMap (λx=>kO g x.1 x.2):=λL o b hL hb=>lU.2 ⟨_,sK L o hL,Gi (o1 _ (sK L o hL)).1 hb⟩;refine⟨g,Marks.nil _ _,by simp;omega,?_,λL o hL=>(o1 _ (sK L o hL)).2.2,?_,?_,QN hw,λ_ _ h=>h,λb o h=>.inl h,yh.refl _ _ _,hB,?_,?_⟩
  · intro t d ht;obtain⟨x,hx,_,rfl⟩:=TI xs 0 t d ht;obtain⟨v,hv,yz⟩:=jS.get t x (by simpa using hx);have iM:=(Bl.1 hv).1;have:(vs.toArray++Array.replicate (m-vs.toArray.size) undef).getD t undef=v:=by
      rw[yA,dq5 (by simpa using iM)];simp[hv]
    rw[this];cases x with
    | d a=>exact LJ (g:=g) (xm hle yz)
    | box ty cs =>
      obtain⟨k,C,rfl,hC,_⟩:=yz;have:=zpc _ (GI (w:=w) (i:=0) hx (by simpa using hv) (ui _));show Value.pointer (some ⟨k,0,none⟩)=.pointer (some ⟨ziT ((lk nv t).getD undef),0,none⟩);rw[show lk nv t=some (.pointer (some ⟨k,0,none⟩))from this];rfl
  intro L o b hL hb;have hbK:b∈oh w xs vs:=by rw[o2];exact hblk L o b hL hb
  refine⟨(hK b hbK).1,?_⟩;show pinned h (oh w xs vs) w b=none;rcases dY (h:=h) (K:=oh w xs vs) (w:=w) b with⟨o,h1,_⟩|⟨_,h2⟩|⟨h2,_⟩
  rw[(hK b hbK).2]at h1;cases h1;exact h2;exact(h2 hbK).elim;intro L o b L' o' hL RI hb mJ;rw[o2]at hn;have:=Gj hn (L,o) (L',o') b (sK L o hL) (sK L' o' RI) (Gi (o1 _ (sK L o hL)).1 hb) (Gi (o1 _ (sK L' o' RI)).1 mJ);exact jX Prod.fst this
  · intro t d ht L hL;obtain⟨x,hx,_,rfl⟩:=TI xs 0 t d ht;cases x with
    | d a=>rw[show cO (.one (Jq a))=dD (Jq a)from rfl,wX]at hL;simp at hL
    | box ty cs =>
      simp[cO,dD,bC]at hL;subst hL;exact zV (GH (i:=0) hx (ui _))
  intro L o hL M hM;rcases(o1 _ (sK L o hL)).2.1 M hM with h|h
  exact zV h;obtain⟨_,ty,cs,hx⟩:=D7 h;exact zV (GH (i:=0) hx (ui _))
theorem GK{nt B:Nat}{w0:World}{h0:Fz}{g:Gh}{σ:St}{a:Act}{w:World}(S:bW P nt B w0 h0 g σ a w):∀(rs:List ResultVar)(l:List PA)(u:mP),D6 P σ rs=some (l,u) ->
  ∃(vs:List Value),fF (lk σ.ay) u/\(rs.mapM (resV a.tmps)).run P w=.ok vs w/\∀(u':mP)(h':Fz),(∀y∈u,y∈u')->fM g (lk σ.ay) u' h'->RL (oJ h') l vs
 | [],l,u,h=>by
  simp[D6]at h;obtain⟨rfl,rfl⟩:=h;exact⟨[],fF.nil _,rfl,λ_ _ _ _=>trivial⟩
 | .tmp t::r,l,u,h=>by
  simp only[D6]at h;split at h;rename_i d hd;split at h;rename_i x u1 l2 u2 h1 h2;simp only[bV,gJ]at h;obtain⟨rfl,rfl⟩:=h;obtain⟨vs,hu2,dh,hr⟩:=GK S r l2 u2 h2;refine⟨a.tmps.getD t undef::vs,(Dt h1).append hu2,?_,λu' h' hu F=>⟨F.repD h1 (λy hy=>hu y (dX.2 (.inl hy))) (S.env t d hd),hr u' h' (λy hy=>hu y (dX.2 (.inr hy))) F⟩⟩;rw[qjE];simp only[resV,Sem.run_bind,Sem.run_pure,Result.andThen_ok];rw[dh];rfl;cases h;cases h
 | .cell t ty::r,l,u,h=>by
  simp only[D6]at h;split at h;rename_i L off ag m ht hg hs;split at h;rename_i ZC cells hL;split at h;rename_i d hd;split at h;rename_i x u1 l2 u2 h1 h2;simp only[bV,gJ]at h;obtain⟨rfl,rfl⟩:=h;obtain⟨vs,hu2,dh,hr⟩:=GK S r l2 u2 h2;obtain⟨C,hC,Vo⟩:=S.obj L _ hL;obtain⟨v,Zt,hv⟩:=KZ (P:=P) hg hs hC 0 (λj y hj=>by obtain⟨v,hv,RD⟩:=Vo.get j y hj;exact⟨v,by simpa using hv,RD⟩) hd;have hp:a.tmps.getD t undef=.pointer (some ⟨g.bk L,off,none⟩):=S.env t _ ht;rw[O3]at Zt;refine⟨v::vs,(Dt h1).append hu2,?_,λu' h' hu F=>⟨F.repD h1 (λy hy=>hu y (dX.2 (.inl hy))) hv,hr u' h' (λy hy=>hu y (dX.2 (.inr hy))) F⟩⟩;have h1:(resV a.tmps (.cell t ty)).run P w=.ok v w:=by
   simp only[resV,Sem.run_bind,hp,MR,Result.andThen_ok,Zt]
  rw[qjE];simp only[Sem.run_bind,h1,Result.andThen_ok];rw[dh];rfl;cases h;cases h;cases h;cases h
theorem TJ{nt B:Nat}{w0:World}{h0:Fz}{g:Gh}{σ:St}{a:Act}{w:World}(S:bW P nt B w0 h0 g σ a w){fn:Func}{l:List PA}{u:mP}(h:D6 P σ fn.results.toList=some (l,u)) :
  ∃(v:Value),fF (lk σ.ay) u/\(results fn a.tmps).run P w=.ok v w/\∀(h':Fz),fM g (lk σ.ay) u h'->qP h' l v:=by
 obtain⟨vs,hu,dh,hr⟩:=GK S fn.results.toList l u h;refine⟨if h:vs.toArray.size=1 then vs.toArray[0]else .tuple vs.toArray,hu,?_,λh' F=>?_⟩;have e:results fn a.tmps=(do let vs ← fn.results.mapM (resV a.tmps);pure (if h:vs.size=1 then vs[0]else .tuple vs)):=rfl;rw[e,qjF];simp only[Sem.run_bind,Sem.run_map];rw[dh];simp only[Result.andThen_ok,Sem.run_pure]
 ·have oz := hr u h' (fun y hy => hy) F
  match l,vs,oz with
  | [],[],_=>exact⟨[],rfl,trivial⟩
  | [x],[v],oz=>exact oz.1
  | x::y::l,v::v2::vs,oz =>
   refine⟨v::v2::vs,?_,oz⟩;rw[dif_neg (by simp)]
  | [],_::_,oz=>exact oz.elim
  | [_],[],oz=>exact oz.elim
  | [_],_::_::_,oz=>exact oz.2.elim
  | _::_::_,[],oz=>exact oz.elim
  | _::_::_,[_],oz=>exact oz.2.elim
theorem Ac [dE]{h:Fz}{B:Nat}{w:World}{bx:List Nat}:∀{cs:List XC}{vs:List Value}{f:FuncId}{np n:Nat},zcM cs=some (f,np,n)→RL (xcR P h w B) cs vs→MX bx cs=true→f=dE.f∧np=dE.np∧n=(dE.bs).length∧zx bx np n=true
  | [],_,_,_,_,h1,_,_=>by cases h1
  | _::_,[],_,_,_,_,hr,_=>hr.elim
  | c::cs,v::vs,f,np,n,h1,hr,hb=>by
    cases c with
    | slf f' np' n' =>
      simp only[zcM,bV,gJ]at h1;obtain⟨rfl,rfl,rfl⟩:=h1;simp only[MX,gq]at hb;obtain⟨q1,q2,q3,_⟩:=hr.1;exact⟨q1,q2,q3,hb.1⟩
    | p q=>exact Ac (cs:=cs) h1 hr.2 hb
    | vec e s b n get=>exact Ac (cs:=cs) h1 hr.2 hb
    | mo kt vt q n F=>exact Ac (cs:=cs) h1 hr.2 hb
theorem GL [dE]{h:Fz}{B:Nat}{w:World}{bx:List Nat}:∀{xs:List XA}{vs:List Value}{f:FuncId}{np n:Nat},Xf xs=some (f,np,n)→RL (zU P h w B) xs vs→zy bx xs=true→f=dE.f∧np=dE.np∧n=(dE.bs).length∧zx bx np n=true
  | [],_,_,_,_,h1,_,_=>by cases h1
  | _::_,[],_,_,_,_,hr,_=>hr.elim
  | .d a::xs,v::vs,f,np,n,h1,hr,hb=>GL (xs:=xs) h1 hr.2 hb
  | .box ty cs::xs,v::vs,f,np,n,h1,hr,hb=>by
    simp only[zy,gq]at hb;simp only[Xf]at h1;split at h1;rename_i y hy;simp only[bV]at h1;subst h1;obtain⟨k,C,_,_,oz⟩:=hr.1;exact Ac hy oz hb.1;exact GL (xs:=xs) h1 hr.2 hb.2
theorem Xj{nt B:Nat}{w0:World}{h0:Fz}{g:Gh}{σ:St}{a:Act}{w:World}(S:bW P nt B w0 h0 g σ a w):∀(bs:List Nat)(np:Nat)(l:List Nat),MW σ.env np bs.length=some l→(∀k b,bs[k]? = some b→a.tmps.getD (np+k) undef=yB b)→bs=l.map g.bk
  | [],_,l,h1,_=>by simp only[RQ,MW,bV]at h1;subst h1;rfl
  | b::bs,np,l,h1,h2=>by
    simp only[Bo,MW]at h1;split at h1;rename_i L l' hL Aq;simp only[bV]at h1;subst h1;have e1:a.tmps.getD np undef=.pointer (some ⟨g.bk L,0,none⟩):=S.env np _ hL;have e2:=h2 0 b rfl;rw[qd3,e1]at e2;have e3:g.bk L=b:=by simpa [yB]using e2
    rw[nX,e3,<- Xj S bs (np+1) l' Aq λk b' hk=>by rw[show np+1+k=np+(k+1)by omega];exact h2 (k+1) b' (by simpa using hk)];cases h1
theorem ziV [dE]{nt B:Nat}{w0:World}{h0 h:Fz}{g:Gh}{σ:St}{a:Act}{w w1:World}(S:bW P nt B w0 h0 g σ a w){xs:List XA}{vs:List Value}(jS:RL (zU P h w1 B) xs vs)(FU:zy (xh 0 xs) xs=true)
    (mG:∀k b,(dE.bs)[k]? = some b->vs[dE.np+k]? = some (yB b)) (zeb:∀t u,vs[t]? = some u->t∈xh 0 xs->a.tmps.getD t undef=u):zad g (BN σ.env xs):=by
  intro f np ls h1;unfold BN at h1;split at h1;rename_i f' np' n hx;split at h1;rename_i l hl;simp only[bV,gJ]at h1;obtain⟨rfl,rfl,rfl⟩:=h1;obtain⟨rfl,rfl,rfl,hbb⟩:=GL hx jS FU;exact⟨rfl,rfl,Xj S _ _ _ hl λk b hk=>zeb _ _ (mG k b hk) (BO _ _ _ hbb k (Bl.1 hk).1)⟩;cases h1;cases h1
theorem zaF [dE]{sf:lI}{nt B:Nat}{w0:World}{h0:Fz}{g:Gh}{σ:St}{a:Act}{w w1:World}{h:Fz}(S:bW P nt B w0 h0 g σ a w)(Vq:zad g sf)(hle:∀p x,Rep h p x→Rep g.h p x) :
  ∀{xs ys:List XA}{ls:List Nat}{i:Nat}{vs:List Value},MZ sf (lk σ.ay) σ.env i xs=some (ys,ls)->RL (zU P h w1 B) xs vs->(∀t v,vs[t]? = some v->i+t∈xh i xs->a.tmps.getD (i+t) undef=v) ->
  RL (zU P g.h w B) ys vs/\oh w ys vs=ls.flatMap (kB g (lk σ.ay))/\∀L∈ls,isB (lk σ.ay) L
 | [],ys,ls,i,[],h1,_,_=>by
  simp only[MZ,bV,gJ]at h1;obtain⟨rfl,rfl⟩:=h1;exact⟨trivial,rfl,λL hL=>by simp at hL⟩
 | [],_,_,_,_::_,_,hr,_=>hr.elim
 | _::_,_,_,_,[],_,hr,_=>hr.elim
 | .d p::xs,ys,ls,i,v::vs,h1,hr,ht=>by
  simp only[MZ]at h1;split at h1;rename_i qG ls' h2;simp only[bV,gJ]at h1;obtain⟨rfl,rfl⟩:=h1;obtain⟨i1,i2,i3⟩:=zaF S Vq hle h2 hr.2 (λt u hu hb=>by
   have:=ht (t+1) u (by simpa using hu) (by rw[show i+(t+1)=i+1+t by omega];exact hb);rw[show i+1+t=i+(t+1)by omega];exact this)
  exact⟨⟨xm hle hr.1,i1⟩,by simp only[oh,VU,PT];exact i2,i3⟩;cases h1
 | .box ty cs::xs,ys,ls,i,v::vs,h1,hr,ht=>by
  simp only[MZ]at h1;split at h1;rename_i L qG ls' hL h2;split at h1;rename_i y l ms hy;simp only[bV,gJ]at h1;obtain⟨rfl,rfl⟩:=h1;obtain⟨i1,i2,i3⟩:=zaF S Vq hle h2 hr.2 (λt u hu hb=>by
   have:=ht (t+1) u (by simpa using hu) (by rw[show i+(t+1)=i+1+t by omega];exact jW _ hb);rw[show i+1+t=i+(t+1)by omega];exact this)
  have hv:a.tmps.getD i undef=v:=ht 0 v rfl (by simp[xh]);obtain⟨j1,j2,j3⟩:=zh9 S Vq hy (S.env i _ hL);rw[hv]at j1 j2;exact⟨⟨j1,i1⟩,by simp only[oh,i2,j2,qdR],λM hM=>(dX.1 hM).elim (j3 M) (i3 M)⟩;cases h1;cases h1
def zcO [dE](P:Program)(h:Fz)(base:Nat)(w:World)(xs:List XA)(vs:List Value)(K:List PA->List XA->Prop)(e:Ending)(w':World):Prop :=
 ∃(h':Fz)(rs:List PA)(ys:List XA),K rs ys/\SA h' rs e/\RL (zU P h' w' base) ys vs/\(oh w' ys vs).Nodup /\
   (∀b∈oh w' ys vs,(b∈oh w xs vs\/w.heap.size<=b)/\h' b=none)/\kF h h'/\Hw h' w'/\(∀b o,h' b=some o->h b=some o\/w.heap.size<=b\/b∈oh w xs vs)/\ZW h (oh w xs vs) w w'
theorem zpd [dE]{G:bK}(gy:jF P G){f:FuncId}{aQ:dG}{xs:List XA}{K:List PA→List XA→Prop}{w:World}{h:Fz}{base:Nat}{vs:List Value}(hv:Xg P G aQ f xs K)(jS:RL (zU P h w base) xs vs)
    (hn:(oh w xs vs).Nodup) (hK:∀b∈oh w xs vs,base<=b/\h b=none) (hw:Hw h w) (hB:base<=w.heap.size) (mG:∀k b,(dE.bs)[k]? = some b->vs[dE.np+k]? = some (yB b)) :
    Calls P f vs.toArray w (zcO P h base w xs vs K):=by
  unfold Xg at hv;split at hv;rename_i fn ug;split at hv;rename_i c sO;split at hv
  · rename_i hc;simp only[gq,Vs]at hc;obtain⟨⟨⟨⟨FD,hlen⟩,AU⟩,FU⟩,zNM⟩:=hc;obtain⟨g0,S⟩:=zpb (P:=P) (lH FD) hlen jS hn hK hw hB (ni AU) FU mG;have hwp:=MP (B:=base) (w0:=w) gy aQ c none 0 (pinned h (oh w xs vs) w) (eQ c) _ (zvl P fn xs K) _ _ _ _ (λ_ h=>h) (Rnd.none _) hv S (Kp.refl _ _);refine(callsIn_wide (n:=0)).1 ?_;refine callsIn_of_wp_marks (F:=FR none) ug sO trivial (wpIn_mono (rF hwp) ?_);have QH:∀b,pinned h (oh w xs vs) w b=some (.fz (.deferred (some [])))->b<base:=λb hb=>by
      rcases dY (h:=h) (K:=oh w xs vs) (w:=w) b with⟨o,h1,h2,h3⟩|⟨_,h2⟩|⟨_,h2⟩
      rw [h2]at hb;simp only [bV]at hb;subst hb;obtain⟨C,ty,fr,e⟩:=h3;cases e;rw[h2]at hb;cases hb;rw [h2]at hb;obtain⟨o,_,e⟩:=Zw.1 hb;cases e
    rintro e a' w' ⟨g',σ',yc,S',lG⟩
    have core:∀(g2:Gh)(a2:Act)(w2:World)(u:mP)(ys:List XA)(ls:List Nat),a2.tmps=a'.tmps->bW P aQ.nt base w (pinned h (oh w xs vs) w) g2 σ' a2 w2->fF (lk σ'.ay) u->MZ (BN σ'.env xs) (lk (u++σ'.ay)) σ'.env 0 xs=some (ys,ls)->mQ ls=true ->
        ∃h':Fz,(∀l v,(∀J8:Fz,fM g2 (lk σ'.ay) u J8->qP J8 l v)->qP h' l v)/\RL (zU P h' w2 base) ys vs/\(oh w2 ys vs).Nodup /\
          (∀b∈oh w2 ys vs,(b∈oh w xs vs\/w.heap.size<=b)/\h' b=none)/\kF h h'/\Hw h' w2/\(∀b o,h' b=some o->h b=some o\/w.heap.size<=b\/b∈oh w xs vs)/\ZW h (oh w xs vs) w w2:=by
      intro g2 a2 w2 u ys ls ht S2 hu ho hnl;obtain⟨J8,S3,F⟩:=S2.freeze hu;have zOh:∀p x,Rep h p x->Rep J8 p x:=λp x hr=>(xk (K:=oh w xs vs) (w:=w) hr).mono S3.le0;have zeb:∀t u,vs[t]? = some u->t∈xh 0 xs->a2.tmps.getD t undef=u:=λt u hu hb=>by
        rw[ht,lG.1 t (λhd=>by
          have:=zQ.1 zNM t hb;simp at this;exact this hd)]
        have iM:=(Bl.1 hu).1;rw[yA,dq5 (by simpa using iM)];simp[hu]
      obtain⟨o1,o2,o3⟩:=zaF S3 (ziV S3 jS FU mG zeb) (w1:=w) zOh ho jS (λt u hu hb=>by
        rw[O3]at hb ⊢;exact zeb t u hu hb)
      let h':Fz:=λb=>match J8 b with|some (.pin _)=>h b|x=>x
      have hnp:∀b o,J8 b=some o->(∀x,o ≠ .pin x)->h' b=some o:=λb o hb hx=>by
        show(match J8 b with|some (.pin _)=>h b|x=>x)=some o;rw[hb];cases o with|pin x=>exact(hx x rfl).elim|_=>rfl
      have hpn:∀b x,J8 b=some (.pin x)->h' b=h b:=λb x hb=>by
        show(match J8 b with|some (.pin _)=>h b|x=>x)=h b;rw[hb]
      have hnn:∀b,J8 b=none->h' b=none:=λb hb=>by
        show(match J8 b with|some (.pin _)=>h b|x=>x)=none;rw[hb]
      have zg4:∀p x,Rep J8 p x->Rep h' p x:=λp x hr=>hr.mono' λb o hb ho=>hnp b o hb λx e=>by
        subst e;obtain⟨C,ty,fr,e⟩:=ho;cases e
      have uD:∀b y,pinned h (oh w xs vs) w b=some y->J8 b=some y:=λb y hb=>S3.le0 b y hb;have iM:∀b,b<w.heap.size->∃o,w.heap[b]? = some o:=λb hb=>⟨_,qdJ hb⟩;have zN:=ni hnl;refine⟨h',λl v o8=>ziU zg4 (o8 J8 F),o1.mono λ_ _=>zcN zg4,by rw[o2];exact Ie S3 zN,λb hb=>?_,λb x hb=>?_,λb x hb=>?_,λb x hb=>?_,⟨S3.below.os,S3.below.tape,S3.below.output,S3.below.size,S3.below.drawn,λk hk hkK=>?_⟩⟩;rw [o2]at hb;obtain⟨L,hL,hb⟩:=lU.1 hb;unfold kB at hb;split at hb;rename_i o' lq;have cZ:base<=b/\J8 b=none:=S3.own L o' b lq (SS hb);refine⟨?_,hnn b cZ.2⟩;by_cases hbs:b<w.heap.size;refine .inl ?_;rcases dY (h:=h) (K:=oh w xs vs) (w:=w) b with⟨o,_,h2,_⟩|⟨h2,_⟩|⟨_,h2⟩
      have:=uD b _ h2;rw[cZ.2]at this;cases this;exact h2;obtain⟨o,ho⟩:=iM b hbs;rw[ho]at h2;have:=uD b _ h2;rw[cZ.2]at this;cases this;exact .inr omY;simp at hb;rcases dY (h:=h) (K:=oh w xs vs) (w:=w) b with⟨o,h1,h2,h3⟩|⟨h2,_⟩|⟨_,h2⟩
      rw [h1]at hb;simp only [bV]at hb;subst hb;exact hnp b _ (uD b _ h2) λx e=>by subst e;obtain⟨C,ty,fr,e⟩:=h3;cases e
      rw[(hK b h2).2]at hb;cases hb;obtain⟨o,ho⟩:=iM b (hw.lt hb);rw[ho]at h2;rw[hpn b _ (uD b _ h2)];exact hb
      · cases h3b:J8 b with
        | none=>rw[hnn b h3b]at hb;cases hb
        | some y =>
          by_cases hy:∃o,y=.pin o;obtain⟨o,rfl⟩:=hy;rw[hpn b _ h3b]at hb;rcases dY (h:=h) (K:=oh w xs vs) (w:=w) b with⟨o',h1,h2,h3⟩|⟨h2,_⟩|⟨_,h2⟩
          have:=uD b _ h2;rw[h3b]at this;simp only[bV]at this;subst this;obtain⟨C,ty,fr,e⟩:=h3;cases e;rw[(hK b h2).2]at hb;cases hb;obtain⟨o1,ho1,hx1⟩:=hw b x hb;rw[ho1]at h2;have:=uD b _ h2;rw[h3b]at this;simp only[bV,VS.pin.injEq]at this;subst this;obtain⟨o2,o9,PO⟩:=S3.hw b _ h3b;simp only[VS.ok]at PO;subst PO;exact⟨_,o9,hx1⟩;rw [hnp b y h3b fun x e=>hy ⟨x,e⟩]at hb;simp only[bV]at hb;subst hb;exact S3.hw b _ h3b
      · cases h3b:J8 b with
        | none=>rw[hnn b h3b]at hb;cases hb
        | some y =>
          by_cases hy:∃o,y=.pin o;obtain⟨o,rfl⟩:=hy;rw[hpn b _ h3b]at hb;exact .inl hb;rw [hnp b y h3b fun x e=>hy ⟨x,e⟩]at hb;simp only[bV]at hb;subst hb;by_cases hbs:b<w.heap.size;rcases dY (h:=h) (K:=oh w xs vs) (w:=w) b with⟨o',h1,h2,h3⟩|⟨h2,_⟩|⟨_,h2⟩
          have:=uD b _ h2;rw[h3b]at this;simp only[bV]at this;subst this;exact .inl h1;exact .inr (.inr h2);obtain⟨o,ho⟩:=iM b hbs;rw[ho]at h2;have:=uD b _ h2;rw[h3b]at this;simp only[bV]at this;exact(hy ⟨_,this⟩).elim;exact .inr (.inl omY)
      rcases dY (h:=h) (K:=oh w xs vs) (w:=w) k with⟨o',h1,h2,h3⟩|⟨h2,_⟩|⟨_,h2⟩
      obtain⟨C,ty,fr,rfl⟩:=h3;rw[S3.hw.fz (uD k _ h2),hw.fz h1];exact(hkK h2).elim;obtain⟨o,ho⟩:=iM k hk;rw[ho]at h2 ⊢;obtain⟨o2,o9,PO⟩:=S3.hw k _ (uD k _ h2);simp only[VS.ok]at PO;subst PO;exact o9
    have fin:Wl P fn xs K σ'->LeavesInM (FR none) 0 P fn a'.tmps (zcO P h base w xs vs K) a'.defers .returning w':=by
      intro hf;obtain⟨Ds,h1,h2,h3,h4⟩:=S'.dfr;refine zZ QH Ds g' a' w' h1 h2 h3 h4 S' λg2 a2 w2 ht S2=>?_;unfold Wl at hf;split at hf;rename_i l u hl;split at hf;rename_i ys ls ho;split at hf;rename_i hnl hpm;obtain⟨v,hu,dh,o8⟩:=TJ S2 hl;obtain⟨h',hr,hx⟩:=core g2 a2 w2 u ys ls ht S2 hu ho hnl;refine⟨v,dh,h',l,ys,hf,?_,hx⟩;unfold SA;rw[hpm];exact⟨v,rfl,hr l v o8⟩;exact hf.elim;exact hf.elim;exact hf.elim
    cases e with
    | normal=>exact fin yc
    | ret=>exact fin yc
    | exit id=>exact yc.elim
    | goto l=>exact yc.elim
    | panic ch =>
      have yc:ziS xs K ch σ':=yc;obtain⟨Ds,h1,h2,h3,h4⟩:=S'.dfr;refine zcJ QH Ds g' a' w' h1 h2 h3 (λd hd=>?_) S' λg2 a2 w2 ht S2=>?_;obtain⟨_,_,_,_,e1,_⟩:=h4 d hd;have hd:d∈a'.defers:=by rw[h2];exact uV.2 ⟨_,hd,rfl⟩
      rcases lG.2.2.2 d hd with hd|⟨b,e2⟩
      cases hd;rw[e1]at e2;cases e2;unfold ziS at yc;split at yc;rename_i l hl;split at yc;rename_i ys ls ho;split at yc;rename_i hnl;obtain⟨h',hr,hx⟩:=core g2 a2 w2 [] ys ls ht S2 (fF.nil _) ho hnl;refine⟨h',l,ys,yc,?_,hx⟩;unfold SA;rw[zGL hl];exact yc.elim;exact yc.elim;exact yc.elim
    | outgrown=>exact yc.elim
  exact hv.elim;exact hv.elim;exact hv.elim
theorem ze9{G:bK}(gy:jF P G){f:FuncId}{C:MK}(hc:dA P f)
    (h:∀xs rs ys,(C xs).o=some (rs,ys)->∃vv aQ,Xg P {G with vv:=vv} aQ f xs λl zs=>l=rs/\zs=ys):rP P f C:=by
  intro _ xs ys rs hC w h0 base vs jS mG hn hK hw hB;obtain⟨vv,aQ,hv⟩:=h xs rs ys hC;refine⟨hc,(zpd (G:={G with vv:=vv}) ⟨gy.mt,gy.fn,gy.own,gy.it,gy.cmp⟩ hv jS hn hK hw hB mG).mono ?_⟩;rintro e w' ⟨h',Rz,qG,⟨rfl,rfl⟩,r⟩;exact⟨h',r⟩
end
end Go.Pm
namespace Go.Pm
section
variable{ρ τ:Type}
theorem ae.ext{c d:ae ρ}(h:∀{A:Type}(k:ρ->Option A),c.T k=d.T k):c=d:=by
 obtain⟨T,n⟩:=c;obtain⟨T',n'⟩:=d;have : @T = @T':=by funext A k;exact h k
 subst this;rfl
def ae.bind(c:ae ρ)(f:ρ->ae τ):ae τ:=⟨λk=>c.T λr=>(f r).T k,λk=>by
 rw[c.nat,c.nat λr=>(f r).T some];cases c.T some with|none=>rfl|some r=>exact(f r).nat k⟩
def ae.mp(f:ρ->τ)(c:ae ρ):ae τ:=⟨λk=>c.T λr=>k (f r),λk=>by
 rw[c.nat,c.nat λr=>some (f r)];cases c.T some<;>rfl⟩
def ae.chk(b:Bool)(c:ae ρ):ae ρ:=⟨λk=>match b with|true=>c.T k|false=>none,λk=>by
 cases b with|true=>exact c.nat k|false=>rfl⟩
def ae.ite(b:Bool)(c d:ae ρ):ae ρ:=⟨λk=>cond b (c.T k) (d.T k),λk=>by
 cases b with|true=>exact c.nat k|false=>exact d.nat k⟩
def ae.opt:Option ρ→ae ρ|some r=>.ok r|none=>.no
theorem ae.bind_o{c:ae ρ}{f:ρ->ae τ}{y:τ}(h:(c.bind f).o=some y):∃r,c.o=some r/\(f r).o=some y:=by
 have h:c.T (λr=>(f r).T some)=some y:=h;rw[c.nat]at h;cases e:c.T some with|none=>rw[e]at h;cases h|some r=>rw[e]at h;exact⟨r,e,h⟩
theorem ae.mp_o{c:ae ρ}{f:ρ->τ}{y:τ}(h:(c.mp f).o=some y):∃r,c.o=some r/\f r=y:=by
 have h:c.T (λr=>some (f r))=some y:=h;rw[c.nat]at h;cases e:c.T some with|none=>rw[e]at h;cases h|some r=>rw[e]at h;exact⟨r,e,PS h⟩
theorem ae.chk_o{b:Bool}{c:ae ρ}{y:ρ}(h:(ae.chk b c).o=some y):b=true/\c.o=some y:=by
 cases b with|true=>exact⟨rfl,h⟩|false=>cases h
theorem ae.ok_o{x y:ρ}(h:(ae.ok x).o=some y):x=y:=PS h
theorem ae.no_o{y:ρ}(h:(ae.no:ae ρ).o=some y):False:=by cases h
theorem ae.opt_o{x:Option ρ}{y:ρ}(h:(ae.opt x).o=some y):x=some y:=by
 cases x with|none=>cases h|some x=>rw[ae.ok_o h]
end
structure Xk where
  ρ:Type
  c:ae ρ
  f:ρ->aH
section
variable(P:Program)(Γ:bK)
def zpe(C:MK)(sf:lI)(args:List DV)(ob:Nat->Option AO):Option Xk :=
 match kK sf ob args with
 | some (xs,ls,ms)=>some ⟨_,C xs,λ(rs,ys)=>match FZ rs with|none=>qJ args ob ls ms rs ys|some _=>.no⟩
 | none=>none
def zyM(o:Oper)(e s b:Nat)(F:List PA->ae (Nat×(Nat->List PV)×List PV))(args:List DV)(ob:Nat->Option AO):Option Xk :=
  match iO ob args,o.dst with
  | some (az,u),some dst=>some ⟨_,F az,λ(n,get,rs)=>match ob dst,P.info? e,iw P e with
    | none,some ie,some _=>if ie.size=s/\ie.bytes=b/\0<s/\zhG get u=true/\rs.all jV=true then
          .val ((dst,true)::rd (args.flatMap (bJ ob)))
            (match rs with|[]=>.cl (.vec dst)|_=>.tup (.c (.vec dst)::rs.map λv=>.c (.p v))) [(dst,.vec e s b n get)] []
        else .no
    | _,_,_=>.no⟩
  | _,_=>none
def ziW(o:Oper)(e s b:Nat)(F:List PA->Nat->(Nat->List PV)->ae (Nat×(Nat->List PV)))(args:List DV)(ob:Nat->Option AO):Option Xk :=
  match KD args with
    | some (ds,.one (.c (.vec L)))=>match iO ob ds,ob L with
      | some (az,[]),some (.vec e' s' b' n get)=>some ⟨_,F az n get,λ(m,get')=>if e'=e/\s'=s/\b'=b then
            .val ((L,true)::rd (ds.flatMap (bJ ob))) (.cl (.vec L)) [(L,.vec e s b m get')] [L]
          else .no⟩
      | _,_=>none
    | some (ds,.one (.c (.p .nils)))=>match iO ob ds,o.dst with
      | some (az,[]),some dst=>match ob dst,P.info? e,iw P e with
        | none,some ie,some z=>match kJ z with
          | some l=>some ⟨_,F az 0 λ_=>l,λ(m,get')=>if ie.size=s/\ie.bytes=b/\0<s then
                .val ((dst,true)::rd (ds.flatMap (bJ ob))) (.cl (.vec dst)) [(dst,.vec e s b m get')] []
              else .no⟩
          | none=>none
        | _,_,_=>none
      | _,_=>none
    | _=>none
def Xl(o:Oper)(ev:Operand->DV)(ob:Nat->Option AO):Option Xk :=
  match o.op with
  | .call {callee:=.value f,args,argTypes:=_}=>match ev f with
    | .one (.c (.clo g caps))=>match Γ.mt g with|some C=>zpe C (zen g args.size caps) (args.toList.map ev++caps.map capD) ob|none=>none
    | .one (.c (.p (.fn g first caps)))=>match Γ.mt g with
     | some C=>zpe C none (first.map (λv=>.p v)++args.toList.map ev++caps.map (λv=>.p v)) ob
     | none=>match Γ.own g with
       | .none=>match iO ob (args.toList.map ev)with
         | some (az,u)=>some ⟨_,Γ.fn g (first.map .one++az++caps.map .one),λr=>lS (args.toList.flatMap λx=>bJ ob (ev x)) u r⟩
         | none=>none
       | .mkv e s b F=>match first,caps with|[],[]=>zyM P o e s b F (args.toList.map ev) ob|_,_=>none
       | .grow e s b F=>match first,caps with|[],[]=>ziW P o e s b F (args.toList.map ev) ob|_,_=>none
       | _=>none
    | .one (.c (.p (.fna g cells)))=>match iO ob (args.toList.map ev)with|some (az,u)=>some ⟨_,Γ.fn g (.agg cells::az),λr=>lS (args.toList.flatMap λx=>bJ ob (ev x)) u r⟩|none=>none
    | _=>none
  | _=>none
def ziX(A:aH)(lg:List (Nat×Bool)->List Nat->List (Nat×Nat×Nat))(i:Nat)(dst:Option Nat)(σ:St):ae St :=
 match A with|.no=>.no|.val fp d u kl=>.ok ((σ.upd i dst fp d u kl).relog (lg fp kl))|.chk fp s d u kl=>.chk s.b (.ok ((σ.upd i dst fp d u kl).relog (lg fp kl)))
def Na(o:Oper)(lg:List (Nat×Bool)->List Nat->List (Nat×Nat×Nat))(i:Nat)(σ:St):ae St :=
 match Xl P Γ o (fV σ.env) (lk σ.ay)with|some p=>p.c.bind λr=>ziX (p.f r) lg i o.dst σ|none=>ziX (act P Γ o (fV σ.env) (lk σ.ay)) lg i o.dst σ
def pV(nt:Nat)(ops:Array Oper):Nat→List Oper→St→ae St
  | _,[],σ=>.ok σ
  | i,o::r,σ =>
    match dI nt o.dst with
    | false=>.no
    | true =>
    match o.guard with
    | none=>(Na P Γ o (pK σ i o) i σ).bind (pV nt ops (i+1) r)
    | some (j,want) =>
      match(ops[j]?).bind (·.dst)with
      | none=>.no
      | some g =>
        match lk σ.env g with
        | some (.one (.c (.p (.bool b)))) =>
          .ite b
            (match want with|true=>(Na P Γ o (pK (σ.setT g (.bool true)) i o) i (σ.setT g (.bool true))).bind (pV nt ops (i+1) r)|false=>pV nt ops (i+1) r ((σ.setT g (.bool true)).skip o.dst))
            (match want with|true=>pV nt ops (i+1) r ((σ.setT g (.bool false)).skip o.dst)|false=>(Na P Γ o (pK (σ.setT g (.bool false)) i o) i (σ.setT g (.bool false))).bind (pV nt ops (i+1) r))
        | some (.one (.c .undef))=>pV nt ops (i+1) r (σ.skip o.dst)
        | _=>.no
def ziY(aQ:dG)(id:Nat)(ops:Array Oper)(draw:Bool)(σ:St):ae St :=
 match draw with
 | false=>(pV P Γ aQ.nt ops 0 ops.toList {σ with log:=[]}).bind λσ'=>match lk aQ.reg id with|some k=>.opt (canon P k σ')|none=>.ok σ'
 | true=>match P.follows .mixedOrders&&KN ops&&Bz ops (masks ops.toList [])with
  | true=>(pV P Γ aQ.nt ops 0 ops.toList {σ with log:=[]}).bind λσ'=>match vk (masks ops.toList []) σ'.log with
   | true=>match lk aQ.reg id with|some k=>.opt (canon P k σ')|none=>.no
   | false=>.no
  | false=>.no
def D8(aQ:dG)(id:Nat)(σ:St):ae St:=match lk aQ.reg id with|some k=>.opt (canon P k σ)|none=>.ok σ
def ziZ(aQ:dG)(id i:Nat)(o:Oper)(σ:St):ae (Exit×St) :=
 match o.guard,dI aQ.nt o.dst with
 | none,true=>match zet Γ o σ with
  | some (C,xs,ds,ls,ms)=>(C xs).bind λr=>match FZ r.1 with
   | none=>match O7 i o.dst σ (qJ ds (lk σ.ay) ls ms r.1 r.2)with|some s=>(D8 P aQ id s).mp λs=>(.normal,s)|none=>.no
   | some ch=>match O7 i none σ (qJ ds (lk σ.ay) ls ms r.1 r.2)with|some s=>.ok (.panic ch,s)|none=>.no
  | none=>.no
 | _,_=>.no
def zi0(ty:TypeId)(x y:Nat)(σ:St):ae (Exit×St):=match lk σ.env x with|some (.one (.agg [.p (.int k n)]))=>.ok (.panic (zon ty k n),⟨(y,.junk)::σ.env,σ.ay,[]⟩)|_=>.no
def Xm(aQ:dG)(id:Nat)(ops:Array Oper)(σ:St):ae (Exit×St) :=
 match qm ops.toList with
 | some (p1,l)=>match qm p1 with
  | some (pre,m)=>match zes P aQ.nt m l with
   | some (ty,x,y)=>(pV P Γ aQ.nt ops 0 pre {σ with log:=[]}).bind (zi0 ty x y)
   | none=>(pV P Γ aQ.nt ops 0 p1 {σ with log:=[]}).bind (ziZ P Γ aQ id p1.length l)
  | none=>.no
 | none=>.no
def zaG(aQ:dG)(r:Nat)(σ:St):ae St :=
 match lk aQ.cut r with|some k=>.opt (canon P k σ)|none=>.ok σ
def lpC(k:Keep)(step:St→ae (Exit×St)):Nat→St→ae (Exit×St)
  | 0,_=>.no
  | n+1,s=>(step s).bind λ(e,s1)=>match e with|.normal=>(ae.opt (canon P k s1)).bind (lpC k step n)|e=>.ok (e,s1)
def unC(k:Keep)(step:St→ae (Exit×St)):Nat→St→ae (Exit×St)
  | 0,_=>.no
  | n+1,σ=>(ae.opt (canon P k σ)).bind λs=>(step s).bind λ(e,s1)=>match e with|.normal=>unC k step n s1|e=>.ok (e,s1)
def rgC(k:Keep)(np:Bool)(ps:List Nat)(ah bd:St→ae (Exit×St)):List (List PA)→St→ae (Exit×St)
  | [],s=>.ok (.normal,s)
  | y::rest,s=>match qK ps y s.env with
    | some env=>(ah ⟨env,s.ay,[]⟩).bind λ(e,s1)=>match e with
      | .normal=>(bd s1).bind λ(e,s2)=>match e with
        | .normal=>(ae.opt (canon P k s2)).bind (rgC k np ps ah bd rest)
        | .ret=>(ae.opt (canon P k s2)).mp λs=>(.ret,s)
        | .exit id=>(ae.opt (canon P k s2)).mp λs=>(.exit id,s)
        | .panic ch=>match np with|true=>(ae.opt (canon P k s2)).mp λs=>(.panic ch,s)|false=>.no
        | _=>.no
      | _=>.no
    | none=>.no
def sqC(go:St→ae (Exit×St)):Exit×St→ae (Exit×St)|(.normal,s)=>go s|r=>.ok r
def bkC(id:Nat):Exit×St→Exit×St
  | (.exit i,s)=>match Nat.beq i id with|true=>(.normal,s)|false=>(.exit i,s)
  | r=>r
def scC:Exit×St→ae (Exit×St)|(.goto _,_)=>.no|r=>.ok r
variable(N:Nat)
def vcC(aQ:dG):Code→St→ae (Exit×St)
  | .skip,σ=>.ok (.normal,σ)
  | .region id ops draw,σ=>match aQ.pan.contains id && !draw with|false=>(ziY P Γ aQ id ops draw σ).mp λs=>(.normal,s)|true=>Xm P Γ aQ id ops σ
  | .seq a b,σ=>(vcC aQ a σ).bind (sqC λs=>(zaG P aQ (jT b) s).bind (vcC aQ b))
  | .cond c a b,σ=>match fV σ.env c with|.one (.c (.p (.bool t)))=>.ite t (vcC aQ a (yg σ c true)) (vcC aQ b (yg σ c false))|_=>.no
  | .block id b,σ=>(vcC aQ b σ).mp (bkC id)
  | .loop b,σ=>match lk aQ.head (jT b)with
    | some k=>(ae.opt (canon P k σ)).bind (lpC P k (vcC aQ b) N)
    | none=>match lk aQ.unr (jT b)with|some (n,k)=>unC P k (vcC aQ b) n σ|none=>.no
  | .rangeFunc f ps assign body,σ=>match lk aQ.head (ZU assign body)with
    | some k=>match canon P k σ,oI k.tmps (ps.toList++(eQ assign++eQ body))&&ps.toList.all (λp=>Nat.blt p aQ.nt)with
      | some s,true=>match fV s.env f with|.one (.c (.p (.fn gf [] caps)))=>(Γ.it gf (caps.map .one)).bind λys=>rgC P k (oI [H7] (eQ assign++eQ body)) ps.toList (vcC aQ assign) (vcC aQ body) ys s|_=>.no
      | _,_=>.no
    | none=>.no
  | .exit id,σ=>.ok (.exit id,σ)
  | .scope b,σ=>(vcC aQ b σ).bind scC
  | .label _,σ=>.ok (.normal,σ)
  | .ret,σ=>.ok (.ret,σ)
  | _,_=>.no
end
section
variable{P:Program}{Γ:bK}
theorem zcP{C:MK}{sf:lI}{args:List DV}{ob:Nat->Option AO}{p:Xk}{r:p.ρ}(h:zpe C sf args ob=some p)(hr:p.c.o=some r):um C sf args ob=p.f r:=by
 unfold zpe at h;unfold um;split at h;rename_i xs ls ms hx;cases h;obtain⟨rs,ys⟩:=r;simp only at hr ⊢;rw[hx];simp only[hr];cases FZ rs<;>rfl;cases h
theorem zpf{o:Oper}{e s b:Nat}{F:List PA→ae (Nat×(Nat→List PV)×List PV)}{args:List DV}{ob:Nat→Option AO}{p:Xk}{r:p.ρ}(h:zyM P o e s b F args ob=some p)(hr:p.c.o=some r) :
  kT P Γ o (.mkv e s b F) args ob=p.f r:=by
 unfold zyM at h;unfold kT;split at h;rename_i az u dst hx hd;cases h;obtain⟨n,get,rs⟩:=r;simp only at hr ⊢;rw[hx,hd];simp only[hr];cases ob dst<;>cases P.info? e<;>cases iw P e<;>rfl;cases h
theorem zi1{o:Oper}{e s b:Nat}{F:List PA→Nat→(Nat→List PV)→ae (Nat×(Nat→List PV))}{args:List DV}{ob:Nat→Option AO}{p:Xk}{r:p.ρ}(h:ziW P o e s b F args ob=some p)(hr:p.c.o=some r) :
  kT P Γ o (.grow e s b F) args ob=p.f r:=by
 unfold ziW at h;unfold kT;split at h;rename_i ds L hl;split at h;rename_i az e' s' b' n get ha hL;cases h;obtain⟨m,get'⟩:=r;simp only at hr ⊢;rw[hl];simp only[ha,hL,hr];cases h;rename_i ds hl;split at h;rename_i az dst ha hd;split at h;rename_i ie z h1 h2 h3;split at h;rename_i l h4;cases h;obtain⟨m,get'⟩:=r;simp only at hr ⊢;rw[hl];simp only[ha,hd,h1,h2,h3,h4,hr];cases h;cases h;cases h;cases h
theorem zpg{o:Oper}{ev:Operand->DV}{ob:Nat->Option AO}{p:Xk}{r:p.ρ}(h:Xl P Γ o ev ob=some p)(hr:p.c.o=some r):act P Γ o ev ob=p.f r:=by
 unfold Xl at h;split at h;rename_i f args ats aZ;simp only[act,aZ,aCl];split at h;rename_i g caps hf;simp only[hf];split at h;rename_i C hC;simp only[hC];exact zcP h hr;cases h;rename_i g first caps hf
 simp only[hf];split at h;rename_i C hC;simp only[hC];exact zcP h hr;rename_i hC;simp only[hC];split at h;rename_i hk;simp only[hk,FW.on];split at h;rename_i az u hz;cases h;simp only at hr ⊢;rw[hz];simp only[hr];cases h;rename_i e s b F hk;simp only[hk,FW.on];split at h;exact zpf h hr;cases h;rename_i e s b F hk;simp only[hk,FW.on];split at h;exact zi1 h hr;cases h;cases h;rename_i g cells hf;simp only[hf];split at h;rename_i az u hz;cases h;simp only at hr ⊢;rw[hz];simp only[hr];cases h;cases h;cases h
theorem zcQ{A:aH}{lg:List (Nat×Bool)->List Nat->List (Nat×Nat×Nat)}{i:Nat}{dst:Option Nat}{σ s:St}{K:St->Prop}(h:(ziX A lg i dst σ).o=some s)(hK:K s):nZ A lg i dst K σ:=by
 cases A with
 | no=>exact(ae.no_o h).elim
 | val fp d u kl=>have:=ae.ok_o h;subst this;exact hK
 | chk fp c d u kl =>
  obtain⟨h1,h2⟩:=ae.chk_o h;have:=ae.ok_o h2;subst this;exact⟨c.h h1,hK⟩
theorem zcR{o:Oper}{lg:List (Nat×Bool)->List Nat->List (Nat×Nat×Nat)}{i:Nat}{σ s:St}{K:St->Prop}(h:(Na P Γ o lg i σ).o=some s)(hK:K s):nZ (act P Γ o (fV σ.env) (lk σ.ay)) lg i o.dst K σ:=by
 unfold Na at h;split at h;rename_i p hp;obtain⟨r,h1,h2⟩:=ae.bind_o h;rw[zpg hp h1];exact zcQ h2 hK;exact zcQ h hK
theorem qU{nt:Nat}{ops:Array Oper}{K:St→Prop}:∀(l:List Oper)(i:Nat)(σ s:St),(pV P Γ nt ops i l σ).o=some s→K s→kL P Γ nt ops i l K σ
  | [],i,σ,s,h,hK=>by have:=ae.ok_o h;subst this;exact hK
  | o::r,i,σ,s,h,hK=>by
    have one:∀(lg:List (Nat×Bool)->List Nat->List (Nat×Nat×Nat))(τ:St),((Na P Γ o lg i τ).bind (pV P Γ nt ops (i+1) r)).o=some s->nZ (act P Γ o (fV τ.env) (lk τ.ay)) lg i o.dst (kL P Γ nt ops (i+1) r K) τ:=by
      intro lg τ h;obtain⟨s1,h1,h2⟩:=ae.bind_o h;exact zcR h1 (qU r _ _ _ h2 hK)
    simp only[pV]at h;simp only[kL];split at h;exact(ae.no_o h).elim;rename_i hd;simp only[hd];split at h;rename_i hg;simp only[hg];exact one _ _ h;rename_i j want hg;simp only[hg];split at h;exact(ae.no_o h).elim;rename_i g hg2;simp only[hg2];split at h;rename_i b hb;simp only[hb];refine Dn (λe=>?_) λe=>?_
    · subst e;cases want with|true=>exact one _ _ h|false=>exact qU r _ _ _ h hK
    · subst e;cases want with|true=>exact qU r _ _ _ h hK|false=>exact one _ _ h
    rename_i hb;simp only[hb];exact qU r _ _ _ h hK;exact(ae.no_o h).elim
theorem zcS{aQ:dG}{id:Nat}{ops:Array Oper}{draw:Bool}{σ s:St}{K:St->Prop}(h:(ziY P Γ aQ id ops draw σ).o=some s)(hK:K s):P5 P Γ aQ id ops draw K σ:=by
 unfold ziY at h;unfold P5;cases draw with
 | false =>
  obtain⟨s1,h1,h2⟩:=ae.bind_o h;refine qU _ _ _ _ h1 ?_;split at h2;rename_i k hk;rw[hk];simp only[ae.opt_o h2];exact hK;rename_i hk;rw[hk];have:=ae.ok_o h2;subst this;exact hK
 | true =>
  simp only at h ⊢;split at h;rename_i hc;rw[hc];obtain⟨s1,h1,h2⟩:=ae.bind_o h;refine qU _ _ _ _ h1 ?_;split at h2;rename_i hl;rw[hl];split at h2;rename_i k hk;rw[hk];simp only[ae.opt_o h2];exact hK;exact(ae.no_o h2).elim;exact(ae.no_o h2).elim;exact(ae.no_o h).elim
theorem Xn{aQ:dG}{id:Nat}{σ s:St}{K:St->Prop}(h:(D8 P aQ id σ).o=some s)(hK:K s):zer P aQ id K σ:=by
 unfold D8 at h;unfold zer;split at h;rename_i k hk;rw[hk];simp only[ae.opt_o h];exact hK;rename_i hk;rw[hk];cases ae.ok_o h;exact hK
theorem zi2{aQ:dG}{id:Nat}{ops:Array Oper}{σ s:St}{e:Exit}{K:Exit->St->Prop}(h:(Xm P Γ aQ id ops σ).o=some (e,s))(hK:K e s):KO P Γ aQ id ops K σ:=by
 unfold Xm at h;unfold KO;split at h
 rotate_left
 exact(ae.no_o h).elim;rename_i p1 l h1;rw[h1];simp only;split at h
 rotate_left
 exact(ae.no_o h).elim;rename_i pre m h2;rw[h2];simp only;split at h;rename_i ty x y h3;rw[h3];simp only;obtain⟨s1,a1,a2⟩:=ae.bind_o h;refine qU _ _ _ _ a1 ?_;unfold zi0 at a2;unfold zyf;split at a2;rename_i k n hx;rw[hx];cases ae.ok_o a2;exact hK;exact(ae.no_o a2).elim
 ·rename_i h3;rw[h3];simp only;obtain⟨s1,a1,a2⟩:=ae.bind_o h;refine qU _ _ _ _ a1 ?_;unfold ziZ at a2;unfold ZR;split at a2
  rotate_left
  exact(ae.no_o a2).elim;rename_i g1 g2;rw[g1,g2];simp only;split at a2
  rotate_left
  exact(ae.no_o a2).elim;rename_i C xs ds ls ms hm;rw[hm];simp only;obtain⟨⟨rs,ys⟩,b1,b2⟩:=ae.bind_o a2;rw[b1];simp only at b2 ⊢;split at b2;rename_i hp;rw[hp];simp only;split at b2;rename_i s2 hu;rw[hu];simp only;obtain⟨s3,c1,c2⟩:=ae.mp_o b2;cases c2;exact Xn c1 hK;exact(ae.no_o b2).elim;rename_i ch hp;rw[hp];simp only;split at b2;rename_i s2 hu;rw[hu];simp only;cases ae.ok_o b2;exact hK;exact(ae.no_o b2).elim
theorem zph{aQ:dG}{r:Nat}{σ s:St}{K:St->Prop}(h:(zaG P aQ r σ).o=some s)(hK:K s):zou P aQ r K σ:=by
 unfold zaG at h;unfold zou;split at h;rename_i k hk;rw[hk];simp only[ae.opt_o h];exact hK;rename_i hk;rw[hk];have:=ae.ok_o h;subst this;exact hK
theorem TK{N:Nat}{aQ:dG}:∀(c:Code)(σ s:St)(e:Exit)(K:Exit->St->Prop),(vcC P Γ N aQ c σ).o=some (e,s)->K e s->vc P Γ aQ c K σ:=by
 intro c
 induction c with
 | skip=>intro σ s e K h hK;cases ae.ok_o h;exact hK
 | region id ops draw =>
  intro σ s e K h hK;simp only[vcC]at h;simp only[vc];split at h;rename_i hp;rw[hp];obtain⟨s1,h1,h2⟩:=ae.mp_o h;cases h2;exact zcS h1 hK;rename_i hp;rw[hp];exact zi2 h hK
 | seq a b iha Vy =>
  intro σ s e K h hK;obtain⟨⟨e1,s1⟩,h1,h2⟩:=ae.bind_o h;refine iha σ s1 e1 _ h1 ?_;cases e1 with
  | normal =>
   obtain⟨s2,h3,h4⟩:=ae.bind_o h2;exact zph h3 (Vy _ _ _ _ h4 hK)
  | _=>cases ae.ok_o h2;exact hK
 | cond c a b iha Vy =>
  intro σ s e K h hK;simp only[vcC]at h;simp only[vc];split at h;rename_i t ht;simp only[ht];refine Dn (λe1=>?_) λe1=>?_;subst e1;exact iha _ _ _ _ h hK;subst e1;exact Vy _ _ _ _ h hK;exact(ae.no_o h).elim
 | block id b ih =>
  intro σ s e K h hK;obtain⟨⟨e1,s1⟩,h1,h2⟩:=ae.mp_o h;refine ih σ s1 e1 _ h1 ?_;cases e1 with
  | exit j =>
   simp only[bkC]at h2;simp only[ZT];split at h2;rename_i hj;rw[hj];cases h2;exact hK;rename_i hj;rw[hj];cases h2;exact hK
  | _=>cases h2;exact hK
 | loop b ih =>
  intro σ s e K h hK;simp only[vcC]at h;simp only[vc];split at h;rename_i k hk;obtain⟨s1,h1,h2⟩:=ae.bind_o h;simp only[hk,ae.opt_o h1];intro X hX;have key:∀(n:Nat)(s1:St),(lpC P k (vcC P Γ N aQ b) n s1).o=some (e,s)->X s1:=by
   intro n
   induction n with
   | zero=>intro s1 h;exact(ae.no_o h).elim
   | succ n ihn =>
    intro s1 h;obtain⟨⟨e1,s2⟩,h1,h2⟩:=ae.bind_o h;refine hX s1 (ih _ _ _ _ h1 ?_);cases e1 with
    | normal =>
     obtain⟨s3,h3,h4⟩:=ae.bind_o h2;simp only[zhI,hk,ae.opt_o h3];exact ihn s3 h4
    | _=>cases ae.ok_o h2;exact hK
  exact key N s1 h2;rename_i hk;split at h;rename_i n k hn;simp only[hk,hn];have key:∀(n:Nat)(σ:St),(unC P k (vcC P Γ N aQ b) n σ).o=some (e,s)->zev P k (vc P Γ aQ b) n K σ:=by
   intro n
   induction n with
   | zero=>intro s1 h;exact(ae.no_o h).elim
   | succ n ihn =>
    intro s1 h;obtain⟨s0,h0,h⟩:=ae.bind_o h;obtain⟨⟨e1,s2⟩,h1,h2⟩:=ae.bind_o h;simp only[zev,ae.opt_o h0];refine ih _ _ _ _ h1 ?_;cases e1 with|normal=>exact ihn _ h2|_=>cases ae.ok_o h2;exact hK
  exact key n σ h;exact(ae.no_o h).elim
 | rangeFunc f ps ah bd iha Vy =>
  intro σ s e K h hK;simp only[vcC]at h;simp only[vc];split at h;rename_i k hk;split at h;rename_i s1 hs hd;simp only[hk,hs,hd];split at h;rename_i gf caps hf;obtain⟨ys,h1,h2⟩:=ae.bind_o h;simp only[hf,h1];intro X hX0 hX1;have key:∀(ys:List (List PA))(s1:St),(rgC P k (oI [H7] (eQ ah++eQ bd)) ps.toList (vcC P Γ N aQ ah) (vcC P Γ N aQ bd) ys s1).o=some (e,s)->X ys s1:=by
   intro ys
   induction ys with
   | nil=>intro s1 h;cases ae.ok_o h;exact hX0 _ hK
   | cons y rest ihr =>
    intro s1 h;simp only[rgC]at h;refine hX1 y rest s1 ?_;split at h
    ·rename_i env zbP;simp only[zbP];obtain⟨⟨e1,s2⟩,h1,h2⟩:=ae.bind_o h;refine iha _ _ _ _ h1 ?_;cases e1 with
     | normal =>
      obtain⟨⟨e2,s3⟩,h3,h4⟩:=ae.bind_o h2;refine Vy _ _ _ _ h3 ?_;cases e2 with
      | normal =>
       obtain⟨s4,h5,h6⟩:=ae.bind_o h4;simp only[uu,ae.opt_o h5];exact ihr _ h6
      | ret =>
       obtain⟨s4,h5,h6⟩:=ae.mp_o h4;cases h6;simp only[uu,ae.opt_o h5];exact hK
      | exit id =>
       obtain⟨s4,h5,h6⟩:=ae.mp_o h4;cases h6;simp only[uu,ae.opt_o h5];exact hK
      | panic ch =>
       simp only at h4;split at h4;rename_i hnp;obtain⟨s4,h5,h6⟩:=ae.mp_o h4;cases h6;simp only[uu,ae.opt_o h5,hnp];exact hK;exact(ae.no_o h4).elim
      | _=>exact(ae.no_o h4).elim
     | _=>exact(ae.no_o h2).elim
    exact(ae.no_o h).elim
  exact key ys s1 h2;exact(ae.no_o h).elim;exact(ae.no_o h).elim;exact(ae.no_o h).elim
 | exit id=>intro σ s e K h hK;cases ae.ok_o h;exact hK
 | scope b ih =>
  intro σ s e K h hK;obtain⟨⟨e1,s1⟩,h1,h2⟩:=ae.bind_o h;refine ih σ s1 e1 _ h1 ?_;cases e1 with|goto l=>exact(ae.no_o h2).elim|_=>cases ae.ok_o h2;exact hK
 | label l=>intro σ s e K h hK;cases ae.ok_o h;exact hK
 | ret=>intro σ s e K h hK;cases ae.ok_o h;exact hK
 | goto l=>intro σ s e K h hK;exact(ae.no_o h).elim
 | refuse s=>intro σ s e K h hK;exact(ae.no_o h).elim
end
end Go.Pm
namespace Go.Pm
section
variable(P:Program)(Γ:bK){A:Type}
def aV(b:Bool)(x:Option A):Option A:=match b with|true=>x|false=>none
def zcT(a:aH)(lg:List (Nat×Bool)->List Nat->List (Nat×Nat×Nat))(i:Nat)(dst:Option Nat)(K:St->Option A)(σ:St):Option A :=
 match a with|.no=>none|.val fp d u kl=>K ((σ.upd i dst fp d u kl).relog (lg fp kl))|.chk fp s d u kl=>aV s.b (K ((σ.upd i dst fp d u kl).relog (lg fp kl)))
def zaH(o:Oper)(lg:List (Nat×Bool)->List Nat->List (Nat×Nat×Nat))(i:Nat)(K:St->Option A)(σ:St):Option A :=
 match Xl P Γ o (fV σ.env) (lk σ.ay)with|some p=>p.c.T λr=>zcT (p.f r) lg i o.dst K σ|none=>zcT (act P Γ o (fV σ.env) (lk σ.ay)) lg i o.dst K σ
def opsT(nt:Nat)(ops:Array Oper)(K:St→Option A):Nat→List Oper→St→Option A
  | _,[],σ=>K σ
  | i,o::r,σ =>
    match dI nt o.dst with
    | false=>none
    | true =>
    match o.guard with
    | none=>zaH P Γ o (pK σ i o) i (opsT nt ops K (i+1) r) σ
    | some (j,want) =>
      match(ops[j]?).bind (·.dst)with
      | none=>none
      | some g =>
        match lk σ.env g with
        | some (.one (.c (.p (.bool b)))) =>
          cond b
            (match want with|true=>zaH P Γ o (pK (σ.setT g (.bool true)) i o) i (opsT nt ops K (i+1) r) (σ.setT g (.bool true))|false=>opsT nt ops K (i+1) r ((σ.setT g (.bool true)).skip o.dst))
            (match want with|true=>opsT nt ops K (i+1) r ((σ.setT g (.bool false)).skip o.dst)|false=>zaH P Γ o (pK (σ.setT g (.bool false)) i o) i (opsT nt ops K (i+1) r) (σ.setT g (.bool false)))
        | some (.one (.c .undef))=>opsT nt ops K (i+1) r (σ.skip o.dst)
        | _=>none
def D9(k:Keep)(K:St->Option A)(σ:St):Option A:=match canon P k σ with|some s=>K s|none=>none
def Xo(aQ:dG)(id:Nat)(ops:Array Oper)(draw:Bool)(K:St->Option A)(σ:St):Option A:=match draw with
 | false=>match lk aQ.reg id with|some k=>D9 P k K σ|none=>K σ
 | true=>match vk (masks ops.toList []) σ.log with
  | true=>match lk aQ.reg id with|some k=>D9 P k K σ|none=>none
  | false=>none
def zpi(aQ:dG)(id:Nat)(ops:Array Oper)(draw:Bool)(K:St->Option A)(σ:St):Option A :=
 match draw with
 | false=>opsT P Γ aQ.nt ops (Xo P aQ id ops false K) 0 ops.toList {σ with log:=[]}
 | true=>match P.follows .mixedOrders&&KN ops&&Bz ops (masks ops.toList [])with
  | true=>opsT P Γ aQ.nt ops (Xo P aQ id ops true K) 0 ops.toList {σ with log:=[]}
  | false=>none
def lastT(aQ:dG)(id i:Nat)(o:Oper)(K:Exit->St->Option A)(σ:St):Option A :=
 match o.guard,dI aQ.nt o.dst with
 | none,true=>match zet Γ o σ with
  | some (C,xs,ds,ls,ms)=>(C xs).T λr=>match FZ r.1 with
   | none=>match O7 i o.dst σ (qJ ds (lk σ.ay) ls ms r.1 r.2)with|some s=>Xo P aQ id #[] false (K .normal) s|none=>none
   | some ch=>match O7 i none σ (qJ ds (lk σ.ay) ls ms r.1 r.2)with|some s=>K (.panic ch) s|none=>none
  | none=>none
 | _,_=>none
def zvm(ty:TypeId)(x y:Nat)(K:Exit->St->Option A)(σ:St):Option A:=match lk σ.env x with|some (.one (.agg [.p (.int k n)]))=>K (.panic (zon ty k n)) ⟨(y,.junk)::σ.env,σ.ay,[]⟩|_=>none
def zi4(aQ:dG)(id:Nat)(ops:Array Oper)(K:Exit->St->Option A)(σ:St):Option A :=
 match qm ops.toList with
 | some (p1,l)=>match qm p1 with
  | some (pre,m)=>match zes P aQ.nt m l with
   | some (ty,x,y)=>opsT P Γ aQ.nt ops (zvm ty x y K) 0 pre {σ with log:=[]}
   | none=>opsT P Γ aQ.nt ops (lastT P Γ aQ id p1.length l K) 0 p1 {σ with log:=[]}
  | none=>none
 | none=>none
def zfa(aQ:dG)(r:Nat)(K:St->Option A)(σ:St):Option A:=match lk aQ.cut r with|some k=>D9 P k K σ|none=>K σ
abbrev EK(A:Type):=Exit->St->Option A
def bkT(id:Nat)(K:EK A):EK A:=λe s=>match e with
 | .exit i=>match Nat.beq i id with|true=>K .normal s|false=>K (.exit i) s
 | e=>K e s
def scT(K:EK A):EK A:=λe s=>match e with|.goto _=>none|e=>K e s
def lpK(k:Keep)(go:St->Option A)(K:EK A):EK A:=λe s=>match e with|.normal=>D9 P k go s|e=>K e s
def lpT(k:Keep)(step:EK A→St→Option A)(K:EK A):Nat→St→Option A|0,_=>none|n+1,s=>step (lpK P k (lpT k step K n) K) s
def unT(k:Keep)(step:EK A→St→Option A)(K:EK A):Nat→St→Option A
  | 0,_=>none
  | n+1,σ=>D9 P k (step λe s=>match e with|.normal=>unT k step K n s|e=>K e s) σ
def rgK(k:Keep)(np:Bool)(go:St->Option A)(K:EK A):EK A:=λe s=>match e with
 | .normal=>D9 P k go s
 | .ret=>D9 P k (K .ret) s
 | .exit id=>D9 P k (K (.exit id)) s
 | .panic ch=>match np with|true=>D9 P k (K (.panic ch)) s|false=>none
 | _=>none
def asK(bd:EK A->St->Option A)(K:EK A):EK A:=λe s=>match e with|.normal=>bd K s|_=>none
def rgT(k:Keep)(np:Bool)(ps:List Nat)(ah bd:EK A→St→Option A)(K:EK A):List (List PA)→St→Option A
  | [],s=>K .normal s
  | y::rest,s=>match qK ps y s.env with|some env=>ah (asK bd (rgK P k np (rgT k np ps ah bd K rest) K)) ⟨env,s.ay,[]⟩|none=>none
def sqT(aQ:dG)(id:Nat)(go:EK A->St->Option A)(K:EK A):EK A:=λe s=>match e with|.normal=>zfa P aQ id (go K) s|e=>K e s
variable(N:Nat)
def yD(aQ:dG):Code→EK A→St→Option A
  | .skip,K,σ=>K .normal σ
  | .region id ops draw,K,σ=>match aQ.pan.contains id && !draw with|false=>zpi P Γ aQ id ops draw (K .normal) σ|true=>zi4 P Γ aQ id ops K σ
  | .seq a b,K,σ=>yD aQ a (sqT P aQ (jT b) (yD aQ b) K) σ
  | .cond c a b,K,σ=>match fV σ.env c with|.one (.c (.p (.bool t)))=>cond t (yD aQ a K (yg σ c true)) (yD aQ b K (yg σ c false))|_=>none
  | .block id b,K,σ=>yD aQ b (bkT id K) σ
  | .loop b,K,σ=>match lk aQ.head (jT b)with
    | some k=>D9 P k (lpT P k (yD aQ b) K N) σ
    | none=>match lk aQ.unr (jT b)with|some (n,k)=>unT P k (yD aQ b) K n σ|none=>none
  | .rangeFunc f ps assign body,K,σ=>match lk aQ.head (ZU assign body)with
    | some k=>match canon P k σ,oI k.tmps (ps.toList++(eQ assign++eQ body))&&ps.toList.all (λp=>Nat.blt p aQ.nt)with
      | some s,true=>match fV s.env f with|.one (.c (.p (.fn gf [] caps)))=>(Γ.it gf (caps.map .one)).T λys=>rgT P k (oI [H7] (eQ assign++eQ body)) ps.toList (yD aQ assign) (yD aQ body) K ys s|_=>none
      | _,_=>none
    | none=>none
  | .exit id,K,σ=>K (.exit id) σ
  | .scope b,K,σ=>yD aQ b (scT K) σ
  | .label _,K,σ=>K .normal σ
  | .ret,K,σ=>K .ret σ
  | _,_,_=>none
end
section
variable{P:Program}{Γ:bK}{A:Type}{N:Nat}
theorem zcU{o:Oper}{lg:List (Nat×Bool)->List Nat->List (Nat×Nat×Nat)}{i:Nat}{K:St->Option A}{σ:St}:zaH P Γ o lg i K σ=(Na P Γ o lg i σ).T K:=by
 have key:∀a:aH,zcT a lg i o.dst K σ=(ziX a lg i o.dst σ).T K:=by
  intro a;cases a with|no=>rfl|val=>rfl|chk fp s d u kl=>unfold zcT ziX aV;cases hs:s.b<;>simp only[hs,ae.chk,ae.ok]
 unfold zaH Na;cases Xl P Γ o (fV σ.env) (lk σ.ay)with
 | none=>exact key _
 | some p =>
  show p.c.T _=p.c.T _;congr 1;funext r;exact key _
theorem xn{nt:Nat}{ops:Array Oper}{K:St→Option A}:∀(l:List Oper)(i:Nat)(σ:St),opsT P Γ nt ops K i l σ=(pV P Γ nt ops i l σ).T K
  | [],_,_=>rfl
  | o::r,i,σ=>by
    have one:∀(lg:List (Nat×Bool)->List Nat->List (Nat×Nat×Nat))(τ:St),zaH P Γ o lg i (opsT P Γ nt ops K (i+1) r) τ=((Na P Γ o lg i τ).bind (pV P Γ nt ops (i+1) r)).T K:=λlg τ=>by
      rw[zcU];show(Na P Γ o lg i τ).T _=(Na P Γ o lg i τ).T _;congr 1;funext s;exact xn r _ s
    have rest:∀σ:St,opsT P Γ nt ops K (i+1) r σ=(pV P Γ nt ops (i+1) r σ).T K:=λσ=>xn r _ σ;simp only[opsT,pV];cases dI nt o.dst with
    | false=>rfl
    | true =>
      simp only;cases o.guard with
      | none=>exact one _ _
      | some x =>
        obtain⟨j,want⟩:=x;simp only;cases(ops[j]?).bind (·.dst)with
        | none=>rfl
        | some g =>
          simp only;cases lk σ.env g with
          | none=>rfl
          | some d=>cases d with
            | tup _=>rfl
            | one d=>cases d with
              | agg _=>rfl
              | c x=>cases x with
                | undef=>exact rest _
                | p v=>cases v with
                  | bool b=>cases b<;>cases want<;>first|exact one _ _|exact rest _
                  | _=>rfl
                | _=>rfl
theorem nD{k:Keep}{K:St->Option A}{σ:St}:D9 P k K σ=(ae.opt (canon P k σ)).T K:=by
 unfold D9;cases canon P k σ<;>rfl
theorem zcV{aQ:dG}{id:Nat}{ops:Array Oper}{draw:Bool}{K:St->Option A}{σ:St}:zpi P Γ aQ id ops draw K σ=(ziY P Γ aQ id ops draw σ).T K:=by
 cases draw with
 | false =>
  show opsT P Γ aQ.nt ops _ 0 ops.toList _=(pV P Γ aQ.nt ops 0 ops.toList _).T _;rw[xn];congr 1;funext s;simp only[Xo];cases lk aQ.reg id with|none=>rfl|some k=>exact nD
 | true =>
  simp only[zpi,ziY];cases P.follows .mixedOrders&&KN ops&&Bz ops (masks ops.toList [])with
  | false=>rfl
  | true =>
   simp only;rw[xn];show _=(pV P Γ aQ.nt ops 0 ops.toList _).T _;congr 1;funext s;show _=((match vk (masks ops.toList []) s.log with|true=>(match lk aQ.reg id with|some k=>ae.opt (canon P k s)|none=>.no)|false=>.no):ae St).T K;simp only[Xo];cases vk (masks ops.toList []) s.log with
   | false=>rfl
   | true =>
    cases lk aQ.reg id with|none=>rfl|some k=>exact nD
theorem zi5{aQ:dG}{id:Nat}{ops:Array Oper}{K:Exit->St->Option A}{σ:St}:zi4 P Γ aQ id ops K σ=(Xm P Γ aQ id ops σ).T λr=>K r.1 r.2:=by
 unfold zi4 Xm;cases qm ops.toList with
 | none=>rfl
 | some x =>
  obtain⟨p1,l⟩:=x;simp only;cases qm p1 with
  | none=>rfl
  | some x =>
   obtain⟨pre,m⟩:=x;simp only;cases zes P aQ.nt m l with
   | some x =>
    obtain⟨ty,x,y⟩:=x;simp only;rw[xn];show(pV P Γ aQ.nt ops 0 pre _).T _=(pV P Γ aQ.nt ops 0 pre _).T _;congr 1;funext s;unfold zvm zi0;cases lk s.env x with
    | none=>rfl
    | some d=>cases d with
     | tup _=>rfl
     | one d=>cases d with
      | c _=>rfl
      | agg l=>match l with
       | []=>rfl
       | [y]=>cases y with|p v=>cases v<;>rfl|_=>rfl
       | y::_::_=>cases y with|p v=>cases v<;>rfl|_=>rfl
   | none =>
    simp only;rw[xn];show(pV P Γ aQ.nt ops 0 p1 _).T _=(pV P Γ aQ.nt ops 0 p1 _).T _;congr 1;funext s;unfold lastT ziZ;cases l.guard with
    | some x=>rfl
    | none =>
    cases dI aQ.nt l.dst with
    | false=>rfl
    | true =>
    simp only;cases zet Γ l s with
    | none=>rfl
    | some x =>
     obtain⟨C,xs,ds,ls,ms⟩:=x;show(C xs).T _=(C xs).T _;congr 1;funext r;simp only;cases FZ r.1 with
     | none =>
      simp only;cases O7 p1.length l.dst s (qJ ds (lk s.ay) ls ms r.1 r.2)with
      | none=>rfl
      | some s2 =>
       show Xo P aQ id #[] false (K .normal) s2=(D8 P aQ id s2).T λs=>K .normal s;simp only[Xo,D8];cases lk aQ.reg id with|none=>rfl|some k=>exact nD
     | some ch =>
      simp only;cases O7 p1.length none s (qJ ds (lk s.ay) ls ms r.1 r.2)<;>rfl
theorem zcW{aQ:dG}{r:Nat}{K:St->Option A}{σ:St}:zfa P aQ r K σ=(zaG P aQ r σ).T K:=by
 unfold zfa zaG;cases lk aQ.cut r with|none=>rfl|some k=>exact nD
theorem Nb{aQ:dG}:∀(c:Code)(K:EK A)(σ:St),yD P Γ N aQ c K σ=(vcC P Γ N aQ c σ).T λr=>K r.1 r.2:=by
 intro c
 induction c with
 | skip=>intro K σ;rfl
 | region id ops draw =>
  intro K σ;simp only[yD,vcC];cases aQ.pan.contains id && !draw with|false=>exact zcV|true=>exact zi5
 | seq a b iha Vy =>
  intro K σ;rw[yD,iha];show(vcC P Γ N aQ a σ).T _=(vcC P Γ N aQ a σ).T _;congr 1;funext r;obtain⟨e,s⟩:=r;cases e with
  | normal =>
   show zfa P aQ (jT b) (yD P Γ N aQ b K) s=(zaG P aQ (jT b) s).T _;rw[zcW];congr 1;funext s;exact Vy _ _
  | _=>rfl
 | cond c a b iha Vy =>
  intro K σ;simp only[yD,vcC];cases fV σ.env c with
  | tup _=>rfl
  | one d=>cases d with
   | agg _=>rfl
   | c x=>cases x with
    | p v=>cases v with
     | bool t=>cases t with|true=>exact iha _ _|false=>exact Vy _ _
     | _=>rfl
    | _=>rfl
 | block id b ih =>
  intro K σ;rw[yD,ih];show(vcC P Γ N aQ b σ).T _=(vcC P Γ N aQ b σ).T _;congr 1;funext r;obtain⟨e,s⟩:=r;cases e with|exit j=>simp only[bkT,bkC];cases Nat.beq j id<;>rfl|_=>rfl
 | loop b ih =>
  intro K σ;simp only[yD,vcC];cases lk aQ.head (jT b)with
  | some k =>
   simp only;rw[nD];show(ae.opt (canon P k σ)).T _=(ae.opt (canon P k σ)).T _;congr 1;funext s;have key:∀(n:Nat)(s:St),lpT P k (yD P Γ N aQ b) K n s=(lpC P k (vcC P Γ N aQ b) n s).T λr=>K r.1 r.2:=by
    intro n
    induction n with
    | zero=>intro s;rfl
    | succ n ihn =>
     intro s;rw[lpT,ih];show(vcC P Γ N aQ b s).T _=(vcC P Γ N aQ b s).T _;congr 1;funext r;obtain⟨e,s1⟩:=r;cases e with
     | normal =>
      show D9 P k _ s1=(ae.opt (canon P k s1)).T _;rw[nD];congr 1;funext s;exact ihn s
     | _=>rfl
   exact key N s
  | none =>
   simp only;cases lk aQ.unr (jT b)with
   | none=>rfl
   | some x =>
    obtain⟨n,k⟩:=x;simp only;have key:∀(n:Nat)(s:St),unT P k (yD P Γ N aQ b) K n s=(unC P k (vcC P Γ N aQ b) n s).T λr=>K r.1 r.2:=by
     intro n
     induction n with
     | zero=>intro s;rfl
     | succ n ihn =>
      intro s;rw[unT,nD];show(ae.opt (canon P k s)).T _=(ae.opt (canon P k s)).T _;congr 1;funext s;rw[ih];show(vcC P Γ N aQ b s).T _=(vcC P Γ N aQ b s).T _;congr 1;funext r;obtain⟨e,s1⟩:=r;cases e with|normal=>exact ihn s1|_=>rfl
    exact key n σ
 | rangeFunc f ps ah bd iha Vy =>
  intro K σ;simp only[yD,vcC];cases lk aQ.head (ZU ah bd)with
  | none=>rfl
  | some k =>
   simp only;have key:∀(ys:List (List PA))(s:St),rgT P k (oI [H7] (eQ ah++eQ bd)) ps.toList (yD P Γ N aQ ah) (yD P Γ N aQ bd) K ys s=(rgC P k (oI [H7] (eQ ah++eQ bd)) ps.toList (vcC P Γ N aQ ah) (vcC P Γ N aQ bd) ys s).T λr=>K r.1 r.2:=by
    intro ys
    induction ys with
    | nil=>intro s;rfl
    | cons y rest ihr =>
     intro s;simp only[rgT,rgC];cases qK ps.toList y s.env with
     | none=>rfl
     | some env =>
      simp only;rw[iha];show(vcC P Γ N aQ ah _).T _=(vcC P Γ N aQ ah _).T _;congr 1;funext r;obtain⟨e,s1⟩:=r;cases e with
      | normal =>
       show yD P Γ N aQ bd _ s1=(vcC P Γ N aQ bd s1).T _;rw[Vy];congr 1;funext r;obtain⟨e,s2⟩:=r;cases e with
       | normal =>
        show D9 P k _ s2=(ae.opt (canon P k s2)).T _;rw[nD];congr 1;funext s;exact ihr s
       | ret=>exact nD
       | exit id=>exact nD
       | panic ch =>
        simp only[rgK];cases oI [H7] (eQ ah++eQ bd)with|true=>exact nD|false=>rfl
       | _=>rfl
      | _=>rfl
   cases canon P k σ with
   | none=>rfl
   | some s =>
    cases oI k.tmps (ps.toList++(eQ ah++eQ bd))&&ps.toList.all (λp=>Nat.blt p aQ.nt)with
    | false=>rfl
    | true =>
     simp only;cases fV s.env f with
     | tup _=>rfl
     | one d=>cases d with
      | agg _=>rfl
      | c x=>cases x with
       | p v=>cases v with
        | fn gf first caps=>cases first with
         | cons _ _=>rfl
         | nil =>
          show(Γ.it gf (caps.map .one)).T _=(Γ.it gf (caps.map .one)).T _;congr 1;funext ys;exact key ys s
        | _=>rfl
       | _=>rfl
 | exit id=>intro K σ;rfl
 | scope b ih =>
  intro K σ;rw[yD,ih];show(vcC P Γ N aQ b σ).T _=(vcC P Γ N aQ b σ).T _;congr 1;funext r;obtain⟨e,s⟩:=r;cases e<;>rfl
 | label l=>intro K σ;rfl
 | ret=>intro K σ;rfl
 | goto l=>intro K σ;rfl
 | refuse s=>intro K σ;rfl
end
end Go.Pm
namespace Go.Pm
abbrev YO:=Option (List (List PA))
section
variable(P:Program)(Γ:bK)
def yT(y:List PA)(a b:YO):YO:=match a with
 | some _=>match b with|some r=>some (y::r)|none=>none
 | none=>none
def Nc(nt:Nat)(o:Oper)(next:Bool->St->YO)(q:Bool)(σ:St):YO :=
 match zov σ o with
 | some (args,t)=>match rJ (args.toList.map (fV σ.env)),Nat.blt t nt,q with
  | some y,true,false=>yT y (next true ((zS σ).setT t (.bool false))) (next false ((zS σ).setT t (.bool true)))
  | _,_,_=>none
 | none=>match dI nt o.dst with
  | true=>zaH P Γ o (λ_ _=>[]) 0 (next q) σ
  | false=>none
def Bf(nt:Nat)(ops:Array Oper):List Oper→(Bool→St→YO)→Bool→St→YO
  | [],K,q,σ=>K q σ
  | o::r,K,q,σ=>match o.guard with
    | none=>Nc P Γ nt o (Bf nt ops r K) q σ
    | some (j,want)=>match dI nt o.dst,(ops[j]?).bind (·.dst)with
      | true,some g=>match lk σ.env g with
        | some (.one (.c (.p (.bool b)))) => cond b
            (match want with|true=>Nc P Γ nt o (Bf nt ops r K) q (σ.setT g (.bool true))|false=>Bf nt ops r K q ((σ.setT g (.bool true)).skip o.dst))
            (match want with|true=>Bf nt ops r K q ((σ.setT g (.bool false)).skip o.dst)|false=>Nc P Γ nt o (Bf nt ops r K) q (σ.setT g (.bool false)))
        | some (.one (.c .undef))=>Bf nt ops r K q (σ.skip o.dst)
        | _=>none
      | _,_=>none
abbrev Vu:=Exit->Bool->St->YO
def zfb(k:Keep)(K:St->YO)(σ:St):YO:=match canon P k σ with|some s=>K s|none=>none
def lkY(k:Keep)(go:Bool->St->YO)(K:Vu):Vu:=λe q s=>match e with|.normal=>zfb P k (go q) s|e=>K e q s
def skY(aQ:dG)(id:Nat)(go:Vu->Bool->St->YO)(K:Vu):Vu:=λe q s=>match e with|.normal=>zfa P aQ id (go K q) s|e=>K e q s
def bkY(id:Nat)(K:Vu):Vu:=λe q s=>match e with
 | .exit i=>match Nat.beq i id with|true=>K .normal q s|false=>K (.exit i) q s
 | e=>K e q s
def zHo(K:Vu):Vu:=λe q s=>match e with|.goto _=>none|e=>K e q s
def zi6(k:Keep)(step:Vu→Bool→St→YO)(K:Vu):Nat→Bool→St→YO|0,_,_=>none|n+1,q,s=>step (lkY P k (zi6 k step K n) K) q s
def zyN(k:Keep)(step:Vu→Bool→St→YO)(K:Vu):Nat→Bool→St→YO
  | 0,_,_=>none
  | n+1,q,σ=>zfb P k (step (λe q s1=>match e with|.normal=>zyN k step K n q s1|e=>K e q s1) q) σ
variable(N:Nat)
def vO(aQ:dG):Code→Vu→Bool→St→YO
  | .skip,K,q,σ=>K .normal q σ
  | .region id ops draw,K,q,σ=>match(Jb ops.toList).contains 0,aQ.yl.contains id,draw with
    | true,_,_=>none
    | false,true,false=>Bf P Γ aQ.nt ops ops.toList (λq' σ'=>match lk aQ.reg id with
      | some k=>zfb P k (K .normal q') σ'
      | none=>K .normal q' {σ' with log:=[]}) q {σ with log:=[]}
    | false,true,true=>none
    | false,false,_=>zpi P Γ aQ id ops draw (K .normal q) σ
  | .seq a b,K,q,σ=>vO aQ a (skY P aQ (jT b) (vO aQ b) K) q σ
  | .cond c a b,K,q,σ=>match fV σ.env c with|.one (.c (.p (.bool t)))=>cond t (vO aQ a K q (yg σ c true)) (vO aQ b K q (yg σ c false))|_=>none
  | .block id b,K,q,σ=>vO aQ b (bkY id K) q σ
  | .loop b,K,q,σ=>match lk aQ.head (jT b)with
    | some k=>zfb P k (zi6 P k (vO aQ b) K N q) σ
    | none=>match lk aQ.unr (jT b)with|some (n,k)=>zyN P k (vO aQ b) K n q σ|none=>none
  | .exit id,K,q,σ=>K (.exit id) q σ
  | .scope b,K,q,σ=>vO aQ b (zHo K) q σ
  | .label _,K,q,σ=>K .normal q σ
  | .ret,K,q,σ=>K .ret q σ
  | _,_,_,_=>none
def zvn:Vu:=λe _ _=>match e with|.normal=>some []|.ret=>some []|_=>none
def aI(aQ:dG)(f:FuncId)(caps:List PA):YO :=
 match P.funcs[f]? with
 | some fn=>match fn.body with
  | some c=>match Nat.beq aQ.nt fn.ntmps&&Nat.ble (caps.length+1) aQ.nt&&fn.results.isEmpty with|true=>vO P Γ N aQ c zvn false ⟨(0,.cl (.vec VQ))::jB 1 caps,[(VQ,.gone)],[]⟩|false=>none
  | none=>none
 | none=>none
end
section
variable [aC]{P:Program}{Γ:bK}{N:Nat}
theorem ae.T_some{ρ A:Type}{c:ae ρ}{k:ρ->Option A}{x:A}(h:c.T k=some x):∃r,c.o=some r/\k r=some x:=by
 rw[c.nat]at h;cases e:c.T some with|none=>rw[e]at h;cases h|some r=>rw[e]at h;exact⟨r,e,h⟩
def TL(K:Bool->St->YO)(K':List (List PA)->Bool->St->Prop):Prop:=∀q s r ys,K q s=some r->(q=false->ys=r)->K' ys q s
theorem GM{nt:Nat}{o:Oper}{next:Bool->St->YO}{next':List (List PA)->Bool->St->Prop}(hn:TL next next'):TL (Nc P Γ nt o next) (wS P Γ nt o next'):=by
 intro q σ r ys h hq;unfold Nc at h;unfold wS;split at h;rename_i args t hy;rw[hy];simp only;split at h;rename_i y h1 h2;unfold yT at h;split at h;rename_i r1 hf;split at h;rename_i r2 ht;cases h;rw[h1,h2];exact⟨r2,hq rfl,hn _ _ _ _ ht λ_=>rfl,hn _ _ _ _ hf λe=>by cases e⟩;cases h;cases h;cases h;rename_i hy;rw[hy];simp only;split at h;rename_i hd;rw[hd];rw[zcU]at h;obtain⟨s,h1,h2⟩:=ae.T_some h;exact zcR h1 (hn _ _ _ _ h2 hq);cases h
theorem Xp{nt:Nat}{ops:Array Oper}{K:Bool→St→YO}{K':List (List PA)→Bool→St→Prop}(hK:TL K K'):∀l:List Oper,TL (Bf P Γ nt ops l K) (lX P Γ nt ops l K')
  | []=>hK
  | o::l=>by
    intro q σ r ys h hq;have ih:TL (Bf P Γ nt ops l K) (lX P Γ nt ops l K'):=Xp hK l;simp only[Bf]at h;simp only[lX];split at h;rename_i hg;simp only[hg];exact GM ih _ _ _ _ h hq;rename_i j want hg;simp only[hg];split at h;rename_i g hd hj;simp only[hd,hj];split at h;rename_i b hb;simp only[hb];refine Dn (λe=>?_) λe=>?_
    · subst e;cases want with|true=>exact GM ih _ _ _ _ h hq|false=>exact ih _ _ _ _ h hq
    · subst e;cases want with|true=>exact ih _ _ _ _ h hq|false=>exact GM ih _ _ _ _ h hq
    rename_i hb;simp only[hb];exact ih _ _ _ _ h hq;cases h;cases h
theorem Ad{k:Keep}{K:St->YO}{σ:St}{r:List (List PA)}(h:zfb P k K σ=some r):∃s,canon P k σ=some s/\K s=some r:=by
 unfold zfb at h;split at h;rename_i s hs;exact⟨s,hs,h⟩;cases h
def zHp(K:Vu)(K':YK):Prop:=∀e,TL (K e) (K' e)
theorem zpj{aQ:dG}:∀(c:Code)(K:Vu)(K':YK),zHp K K'->TL (vO P Γ N aQ c K) (Sv P Γ aQ c K'):=by
 intro c
 induction c with
 | skip=>exact λK K' hK=>hK .normal
 | region id ops draw =>
  intro K K' hK q σ r ys h hq;simp only[vO]at h;simp only[Sv];split at h;cases h;rename_i h1 h2;simp only[h1,h2];refine Xp (λq s r ys h hq=>?_) ops.toList _ _ _ _ h hq;split at h;rename_i k hk;obtain⟨s1,h3,h4⟩:=Ad h;simp only[hk,h3];exact hK _ _ _ _ _ h4 hq;rename_i hk;simp only[hk];exact hK _ _ _ _ _ h hq;cases h;rename_i h1 h2;simp only[h1,h2];rw[zcV]at h;obtain⟨s,h3,h4⟩:=ae.T_some h;exact zcS h3 (hK _ _ _ _ _ h4 hq)
 | seq a b iha Vy =>
  intro K K' hK;refine iha _ _ λe q s r ys h hq=>?_;cases e with
  | normal =>
   have h:zfa P aQ (jT b) (vO P Γ N aQ b K q) s=some r:=h;rw[zcW]at h;obtain⟨s1,h1,h2⟩:=ae.T_some h;simp only[zyh,zyj];have:=Vy K K' hK _ _ _ _ h2 hq;unfold zaG at h1;split at h1;rename_i k hk;simp only[hk,ae.opt_o h1];exact this;rename_i hk;simp only[hk];cases ae.ok_o h1;exact this
  | _=>exact hK _ _ _ _ _ h hq
 | cond c a b iha Vy =>
  intro K K' hK q σ r ys h hq;simp only[vO]at h;simp only[Sv];split at h;rename_i t ht;simp only[ht];refine Dn (λe1=>?_) λe1=>?_;subst e1;exact iha _ _ hK _ _ _ _ h hq;subst e1;exact Vy _ _ hK _ _ _ _ h hq;cases h
 | block id b ih =>
  intro K K' hK;refine ih _ _ λe q s r ys h hq=>?_;cases e with
  | exit j =>
   simp only[bkY]at h;simp only[ZV];split at h;rename_i hj;rw[hj];exact hK _ _ _ _ _ h hq;rename_i hj;rw[hj];exact hK _ _ _ _ _ h hq
  | _=>exact hK _ _ _ _ _ h hq
 | loop b ih =>
  intro K K' hK q σ r ys h hq;simp only[vO]at h;simp only[Sv];split at h;rename_i k hk;obtain⟨s1,h1,h2⟩:=Ad h;simp only[hk,h1];intro X hX;have key:∀n:Nat,TL (zi6 P k (vO P Γ N aQ b) K n) X:=by
   intro n
   induction n with
   | zero=>intro q s r ys h;cases h
   | succ n ihn =>
    intro q s r ys h hq;refine hX _ _ _ (ih _ _ (λe q s r ys h hq=>?_) _ _ _ _ h hq);cases e with
    | normal =>
     obtain⟨s2,h3,h4⟩:=Ad h;simp only[zhL,hk,h3];exact ihn _ _ _ _ h4 hq
    | _=>exact hK _ _ _ _ _ h hq
  exact key N _ _ _ _ h2 hq;rename_i hk;split at h;rename_i n k hn;simp only[hk,hn];have key:∀n:Nat,TL (zyN P k (vO P Γ N aQ b) K n) (P8 P k (Sv P Γ aQ b) n K'):=by
   intro n
   induction n with
   | zero=>intro q s r ys h;cases h
   | succ n ihn =>
    intro q s r ys h hq;obtain⟨s1,h1,h2⟩:=Ad h;simp only[P8,h1];refine ih _ _ (λe q s r ys h hq=>?_) _ _ _ _ h2 hq;cases e with|normal=>exact ihn _ _ _ _ h hq|_=>exact hK _ _ _ _ _ h hq
  exact key n _ _ _ _ h hq;cases h
 | exit id=>exact λK K' hK=>hK _
 | scope b ih =>
  intro K K' hK;refine ih _ _ λe q s r ys h hq=>?_;cases e with|goto l=>cases h|_=>exact hK _ _ _ _ _ h hq
 | label l=>exact λK K' hK=>hK .normal
 | ret=>exact λK K' hK=>hK .ret
 | rangeFunc f ps a b _ _=>intro K K' hK q σ r ys h;cases h
 | goto l=>intro K K' hK q σ r ys h;cases h
 | refuse s=>intro K K' hK q σ r ys h;cases h
theorem zHq{aQ:dG}{f:FuncId}{caps:List PA}{ys:List (List PA)}(h:aI P Γ N aQ f caps=some ys):Sz P Γ aQ f caps ys:=by
 unfold aI at h;unfold Sz;split at h;rename_i fn ug;split at h;rename_i c hb;split at h
 ·rename_i hc;rw[ug];simp only[hb,hc];refine zpj c _ _ (λe q s r ys h hq=>?_) _ _ _ _ h λ_=>rfl;have fin:some []=some r->zhM ys q:=by
   intro e;cases e;cases q with|true=>trivial|false=>exact hq rfl
  cases e with|normal=>exact fin h|ret=>exact fin h|_=>cases h
 cases h;cases h;cases h
end
end Go.Pm
namespace Go.Pm
section
variable [aC]
class je (α : Type) where
  enc:α->PA
  dec:PA->α
  ck:PA->Bool
  up:∀{h:Fz}{a:PA}{v:Value},oJ h a v->ck a=true->oJ h (enc (dec a)) v
  eq:α->α->Bool
  eqk:∀{h:Fz}{a b:α}{v:Value},eq a b=true->oJ h (enc a) v->oJ h (enc b) v
abbrev je.one {α : Type} [bI α] : je α where
  enc x:=match bI.enc x with|[v]=>.one v|l=>.agg l
  dec a:=match a with | .one v=>(bI.dec [v]).1 | .agg l=>(bI.dec l).1
  ck a:=match a with | .one v=>PZ (bI.ck (α:=α) [v]) | .agg _=>false
  up:=by
    intro h a v r hc;cases a with
    | agg l=>cases hc
    | one p =>
      have r:Rep h p v:=r;have h1:=oH (α:=α) (g:=λ_=>[p]) (λ_ _=>⟨r.un,trivial⟩) hc 0;change RL ql [p] (bI.enc (bI.dec (α:=α) [p]).1)at h1;generalize bI.enc (bI.dec (α:=α) [p]).1=m at h1
      match m,h1 with|[q],h1=>exact r.up h1.1|[],h1=>exact h1.elim|_::_::_,h1=>exact h1.2.elim
  eq:=bI.eq
  eqk:=by
    intro h a b v he r;have h1:=bI.eqk he;generalize bI.enc a=l at h1 r;generalize bI.enc b=m at h1;have ag:∀{l m:List PV},RL ql l m->oJ h (.agg l) v->oJ h (.agg m) v:=λe r1=>by
      obtain⟨vs,e1,r2⟩:=r1;exact⟨vs,e1,BC e r2⟩
    match l,m,h1 with|[_],[_],h1=>exact Rep.up h1.1 r|[],[],h1=>exact ag h1 r|_::_::_,_::_::_,h1=>exact ag h1 r|[],_::_,h1=>exact h1.elim|[_],[],h1=>exact h1.elim|[_],_::_::_,h1=>exact h1.2.elim|_::_::_,[],h1=>exact h1.elim|_::_::_,[_],h1=>exact h1.2.elim
abbrev je.agg' {α : Type} [bI α] : je α where
  enc x:=.agg (bI.enc x)
  dec a:=match a with | .one v=>(bI.dec [v]).1 | .agg l=>(bI.dec l).1
  ck a:=match a with | .agg l=>PZ (bI.ck (α:=α) l) | .one _=>false
  up:=by
    intro h a v r hc;cases a with
    | one p=>cases hc
    | agg l =>
      obtain⟨vs,rfl,r⟩:=r;exact⟨vs,rfl,BC (oH (α:=α) (g:=λ_=>l) (λ_ _=>yQ r) hc 0) r⟩
  eq:=bI.eq
  eqk:=by
    intro h a b v he r;obtain⟨vs,rfl,r⟩:=r;exact⟨vs,rfl,BC (bI.eqk he) r⟩
instance:je Int:=.one
instance:je Bool:=.one
instance{α:Type}[bI α][Inhabited α]:je (Sl α):=.one
instance{α:Type}[bI α]:je (Pt α):=.one
class dF (α : Type) where
  enc:α->List PA
  dec:List PA->α
  ck:List PA->Bool
  up:∀{h:Fz}{l:List PA}{vs:List Value},RL (oJ h) l vs->ck l=true->RL (oJ h) (enc (dec l)) vs
  eq:α->α->Bool
  eqk:∀{h:Fz}{a b:α}{vs:List Value},eq a b=true->RL (oJ h) (enc a) vs->RL (oJ h) (enc b) vs
instance : dF Unit where
  enc _:=[]
  dec _:=()
  ck l:=l.isEmpty
  up:=by
    intro h l vs r hc;cases l with|nil=>exact r|cons=>cases hc
  eq _ _:=true
  eqk _ r:=r
instance {α : Type} [je α] : dF α where
  enc x:=[je.enc x]
  dec l:=je.dec (l.headD (.agg []))
  ck l:=match l with|[a]=>je.ck (α:=α) a|_=>false
  up:=by
    intro h l vs r hc
    match l,vs,r,hc with|[a],[v],r,hc=>exact⟨je.up r.1 hc,trivial⟩|[],_,_,hc=>cases hc|_::_::_,_,_,hc=>cases hc|[_],[],r,_=>exact r.elim|[_],_::_::_,r,_=>exact r.2.elim
  eq:=je.eq
  eqk:=by
    intro h a b vs he r
    match vs,r with|[v],r=>exact⟨je.eqk he r.1,trivial⟩|[],r=>exact r.elim|_::_::_,r=>exact r.2.elim
instance {α β : Type} [je α] [dF β] : dF (α × β) where
  enc x:=je.enc x.1::dF.enc x.2
  dec l:=(je.dec (l.headD (.agg [])),dF.dec l.tail)
  ck l:=match l with|a::r=>je.ck (α:=α) a&&dF.ck (α:=β) r|_=>false
  up:=by
    intro h l vs r hc
    match l,vs,r,hc with
    | a::l,v::vs,r,hc =>
      rw[Bool.and_eq_true]at hc;exact⟨je.up r.1 hc.1,dF.up r.2 hc.2⟩
    | [],_,_,hc=>cases hc
    | _::_,[],r,_=>exact r.elim
  eq a b:=je.eq a.1 b.1&&dF.eq a.2 b.2
  eqk:=by
    intro h a b vs he r;rw[Bool.and_eq_true]at he
    match vs,r with|v::vs,r=>exact⟨je.eqk he.1 r.1,dF.eqk he.2 r.2⟩|[],r=>exact r.elim
theorem JH{h:Fz}{l m:List PA}{v:Value}(hm:∀vs,RL (oJ h) l vs->RL (oJ h) m vs)(r:qP h l v):qP h m v:=by
 have go:∀vs,RL (oJ h) m vs->(vs.length=1->vs=[v])->(vs.length≠1->v=.tuple vs.toArray)->qP h m v:=by
  intro vs hr h1 h2
  match m,vs,hr with|[],[],_=>exact⟨[],h2 (by simp),trivial⟩|[x],[u],hr=>cases h1 rfl;exact hr.1|x::y::l,u::u2::vs,hr=>exact⟨_,h2 (by simp),hr⟩|[],_::_,hr=>exact hr.elim|[_],[],hr=>exact hr.elim|[_],_::_::_,hr=>exact hr.2.elim|_::_::_,[],hr=>exact hr.elim|_::_::_,[_],hr=>exact hr.2.elim
 match l,r with|[],⟨vs,e,r⟩=>exact go vs (hm vs r) (λh=>by rw[<- r.length]at h;cases h) λ_=>e|[x],r=>exact go [v] (hm [v] ⟨r,trivial⟩) (λ_=>rfl) λh=>absurd rfl h|x::y::l,⟨vs,e,r⟩=>exact go vs (hm vs r) (λh=>by rw[<- r.length]at h;simp at h) λ_=>e
end
/-! What is wanted later, as a number's bits. -/
def orL(m:Nat):List Nat→Nat
  | []=>m
  | t::r=>orL (m ||| 2^t) r
def clL(m:Nat):List Nat→Nat|[]=>m|t::r=>clL (m ^^^ (m &&& 2^t)) r
def zvo(ops:Array Oper):List Oper→Nat→Nat|[],m=>m|o::r,m=>orL (clL (zvo ops r m) o.dst.toList) (ut ops o)
def lvC:Code→Nat→Nat→List (Nat×Nat)→Nat×List (Nat×Nat×Nat)
  | .skip,o,_,_=>(o,[])
  | .region id ops _,o,_,_=>(zvo ops ops.toList o,[(0,id,o)])
  | .seq a b,o,r,x=>match lvC b o r x with
    | (mb,lb)=>match lvC a mb r x with|(ma,la)=>(ma,la++(2,jT b,mb)::lb)
  | .cond c a b,o,r,x=>match lvC a o r x,lvC b o r x with
    | (ma,la),(mb,lb)=>(orL (ma ||| mb) (ZN c),la++lb)
  | .block id b,o,r,x=>lvC b o r ((id,o)::x)
  | .loop b,_,r,x=>match(lvC b 0 r x).1 with|m=>(m,(1,jT b,m)::(lvC b m r x).2)
  | .rangeFunc f ps a b,o,r,x=>match(lvC b 0 r x).1 with
    | m0=>match orL (clL (o ||| (lvC a m0 r x).1) ps.toList) (ZN f)with
      | m=>match lvC b m r x with|(mb,lb)=>(m,(1,ZU a b,m)::((lvC a mb r x).2++lb))
  | .exit id,_,_,x=>((lk x id).getD 0,[])
  | .scope b,o,r,x=>lvC b o r x
  | .label _,o,_,_=>(o,[])
  | .ret,_,r,_=>(r,[])
  | _,_,_,_=>(0,[])
def zcX(m:Nat):Nat→Nat→List Nat
  | _,0=>[]
  | i,n+1=>match m.testBit i with|true=>i::zcX m (i+1) n|false=>zcX m (i+1) n
structure Ext where
  ks:List (Nat×Nat×Keep):=[]
  cut:List Nat:=[]
  unr:List (Nat×Nat):=[]
  yl:List Nat:=[]
  vv:List Nat:=[]
  clo:List Nat:=[]
  pan:List Nat:=[]
def zcY(x:Ext)(nt k id m:Nat):Keep:=match x.ks.find? λy=>Nat.beq y.1 k&&Nat.beq y.2.1 id with
 | some y=>{y.2.2 with tmps:=zcX m 0 nt}
 | none=>⟨zcX m 0 nt,[],[],[],[],[],[]⟩
def zHs(x:Ext)(nt:Nat):List (Nat×Nat×Nat)→dG→dG
  | [],a=>a
  | (k,id,m)::r,a=>match zHs x nt r a with
    | a=>match k with
      | 0=>{a with reg:=(id,zcY x nt 0 id m)::a.reg}
      | 1=>match lk x.unr id with
        | some n=>{a with unr:=(id,n,zcY x nt 1 id m)::a.unr}
        | none=>{a with head:=(id,zcY x nt 1 id m)::a.head}
      | _=>match x.cut.contains id with
        | true=>{a with cut:=(id,zcY x nt 2 id m)::a.cut}
        | false=>a
def zyO:List ResultVar→List Nat|[]=>[]|.tmp t::r=>t::zyO r|.cell t _::r=>t::zyO r
def bT(P:Program)(f:Nat)(xt:List Nat)(x:Ext):dG:=match P.funcs[f]? with
 | some fn=>match fn.body with
  | some c=>match orL 0 (xt++zyO fn.results.toList)with|m=>zHs x fn.ntmps (lvC c m m []).2 ⟨fn.ntmps,[],[],[],[],x.yl,x.pan⟩
  | none=>⟨0,[],[],[],[],[],[]⟩
 | none=>⟨0,[],[],[],[],[],[]⟩
section
variable(P:Program)(N:Nat)(Γ:bK){ρ:Type}
def Xq(aQ:dG)(f:FuncId)(n:Nat)(g:Code->Bool)(σ:St)(fin:Func->St->Option ρ):ae ρ :=
 match P.funcs[f]? with
 | some fn=>match fn.body with
  | some c=>match Nat.beq aQ.nt fn.ntmps&&Nat.ble n aQ.nt&&g c with
   | true=>(vcC P Γ N aQ c σ).bind λ(e,s)=>match e with|.normal=>.opt (fin fn s)|.ret=>.opt (fin fn s)|_=>.no
   | false=>.no
  | none=>.no
 | none=>.no
def aF(aQ:dG)(f:FuncId)(args:List PA):ae (List PA) :=
 Xq P N Γ aQ f args.length (λ_=>true) ⟨jB 0 args,[],[]⟩ λfn s=>lC P s fn.results.toList
def Xr(fn:Func)(e s b:Nat)(σ:St):Option (Nat×(Nat->List PV)×List PV) :=
 match fn.results.toList with
 | .tmp t::r=>match lk σ.env t with
  | some (.one (.c (.vec L)))=>match lk σ.ay L with
   | some (.vec e' s' b' n get)=>match Nat.beq e e'&&(Nat.beq s s'&&Nat.beq b b'),r with
    | true,[]=>some (n,get,[])
    | true,[.tmp u]=>match lk σ.env u with|some (.one (.c (.p x)))=>some (n,get,[x])|_=>none
    | _,_=>none
   | _=>none
  | _=>none
 | _=>none
def aK(aQ:dG)(f:FuncId)(e s b:Nat)(args:List PA):ae (Nat×(Nat->List PV)×List PV) :=
 Xq P N Γ aQ f args.length (λ_=>true) ⟨jB 0 args,[],[]⟩ λfn σ=>Xr fn e s b σ
def zi7(aQ:dG)(f:FuncId)(n:Nat)(g:Code->Bool)(σ:St)(fin:Func->Exit->St->Option ρ):ae ρ :=
 match P.funcs[f]? with
 | some fn=>match fn.body with
  | some c=>match Nat.beq aQ.nt fn.ntmps&&Nat.ble n aQ.nt&&g c with|true=>(vcC P Γ N aQ c σ).bind λr=>.opt (fin fn r.1 r.2)|false=>.no
  | none=>.no
 | none=>.no
def zcZ(xs:List XA)(fn:Func)(σ:St):Option (List PA×List XA) :=
 match D6 P σ fn.results.toList with
 | some (l,u)=>match MZ (BN σ.env xs) (lk (u++σ.ay)) σ.env 0 xs with
  | some (ys,ls)=>match mQ ls,FZ l with|true,none=>some (l,ys)|_,_=>none
  | none=>none
 | none=>none
def zi8(xs:List XA)(ch:List PanicEntry)(σ:St):Option (List PA×List XA) :=
 match chR ch with
 | some l=>match MZ (BN σ.env xs) (lk σ.ay) σ.env 0 xs with
  | some (ys,ls)=>match mQ ls with|true=>some (l,ys)|false=>none
  | none=>none
 | none=>none
def zyP(xs:List XA)(fn:Func):Exit→St→Option (List PA×List XA)|.normal,σ=>zcZ P xs fn σ|.ret,σ=>zcZ P xs fn σ|.panic ch,σ=>zi8 xs ch σ|_,_=>none
def aM(aQ:dG)(f:FuncId)(xs:List XA):ae (List PA×List XA) :=
 zi7 P N Γ aQ f xs.length (λc=>mQ ((jd 0 xs).map (·.1))&&zy (xh 0 xs) xs&&oI (xh 0 xs) (eQ c)) ⟨MV 0 xs,jd 0 xs,[]⟩ (zyP P xs)
end
section
variable [aC]{P:Program}{N:Nat}{Γ:bK}
theorem TM{ρ:Type}{aQ:dG}{f:FuncId}{n:Nat}{g:Code→Bool}{σ:St}{fin:Func→St→Option ρ}{r:ρ}(h:(Xq P N Γ aQ f n g σ fin).o=some r) :
  ∃fn c,P.funcs[f]? = some fn/\fn.body=some c/\(Nat.beq aQ.nt fn.ntmps&&Nat.ble n aQ.nt)=true/\g c=true/\∀K:Exit->St->Prop,(∀s,fin fn s=some r->K .normal s/\K .ret s)->vc P Γ aQ c K σ:=by
 unfold Xq at h;split at h;rename_i fn ug;split at h;rename_i c hb;split at h
 ·rename_i hc;rw[gq]at hc;obtain⟨⟨e,s⟩,h1,h2⟩:=ae.bind_o h;refine⟨fn,c,ug,hb,hc.1,hc.2,λK hK=>TK c σ s e K h1 ?_⟩;cases e with|normal=>exact(hK s (ae.opt_o h2)).1|ret=>exact(hK s (ae.opt_o h2)).2|_=>exact(ae.no_o h2).elim
 exact(ae.no_o h).elim;exact(ae.no_o h).elim;exact(ae.no_o h).elim
theorem zHt{aQ:dG}{f:FuncId}{args rs:List PA}(h:(aF P N Γ aQ f args).o=some rs):vcFun P Γ aQ f args λRz=>Rz=rs:=by
 obtain⟨fn,c,h1,h2,h3,_,h4⟩:=TM h;unfold vcFun;rw[h1];simp only[h2,h3];refine h4 _ λs hs=>?_;constructor<;>simp only[zhJ,BB,hs]
theorem zHu{aQ:dG}{f:FuncId}{e s b n:Nat}{get:Nat->List PV}{rs:List PV}{args:List PA}(h:(aK P N Γ aQ f e s b args).o=some (n,get,rs)):zb6 P Γ aQ f args e s b (zaE n s get rs):=by
 obtain⟨fn,c,h1,h2,h3,_,h4⟩:=TM h;unfold zb6;rw[h1];simp only[h2,h3];refine h4 _ λσ hs=>?_;have:P6 fn e s b (zaE n s get rs) σ:=by
  unfold Xr at hs;unfold P6;split at hs;rename_i t r hr;split at hs;rename_i L hL;split at hs;rename_i e' s' b' m g hO;split at hs;rename_i hc;cases hs;rw[hr];simp only[hL,hO,hc];rfl;rename_i u hc;split at hs;rename_i x hu;cases hs;rw[hr];simp only[hL,hO,hc,hu];rfl;cases hs;cases hs;cases hs;cases hs;cases hs
 exact⟨this,this⟩
theorem zpk{ρ:Type}{aQ:dG}{f:FuncId}{n:Nat}{g:Code→Bool}{σ:St}{fin:Func→Exit→St→Option ρ}{r:ρ}(h:(zi7 P N Γ aQ f n g σ fin).o=some r) :
  ∃fn c,P.funcs[f]? = some fn/\fn.body=some c/\(Nat.beq aQ.nt fn.ntmps&&Nat.ble n aQ.nt)=true/\g c=true/\∀K:Exit->St->Prop,(∀e s,fin fn e s=some r->K e s)->vc P Γ aQ c K σ:=by
 unfold zi7 at h;split at h;rename_i fn ug;split at h;rename_i c hb;split at h;rename_i hc;rw[gq]at hc;obtain⟨⟨e,s⟩,h1,h2⟩:=ae.bind_o h;exact⟨fn,c,ug,hb,hc.1,hc.2,λK hK=>TK c σ s e K h1 (hK e s (ae.opt_o h2))⟩;exact(ae.no_o h).elim;exact(ae.no_o h).elim;exact(ae.no_o h).elim
theorem zHv{aQ:dG}{f:FuncId}{xs ys:List XA}{rs:List PA}(h:(aM P N Γ aQ f xs).o=some (rs,ys)):Xg P Γ aQ f xs λl zs=>l=rs/\zs=ys:=by
 obtain⟨fn,c,h1,h2,h3,h0,h4⟩:=zpk h;unfold Xg;rw[h1];simp only[gq]at h0 h3;simp only[h2,h3.1,h3.2,h0.1.1,h0.1.2,h0.2,qjN];refine h4 _ λe σ hs=>?_;have nr:zcZ P xs fn σ=some (rs,ys)->Wl P fn xs (λl zs=>l=rs/\zs=ys) σ:=λhs=>by
  unfold zcZ at hs;unfold Wl;split at hs;rename_i l u hr;split at hs;rename_i zs ls ho;split at hs;rename_i hn hp;cases hs;simp only[hr,ho,hn,hp,and_self];cases hs;cases hs;cases hs
 cases e with
 | normal=>exact nr hs
 | ret=>exact nr hs
 | panic ch =>
  have hs:zi8 xs ch σ=some (rs,ys):=hs;show ziS xs (λl zs=>l=rs/\zs=ys) ch σ;unfold zi8 at hs;unfold ziS;split at hs;rename_i l hr;split at hs;rename_i zs ls ho;split at hs;rename_i hn;cases hs;simp only[hr,ho,hn,and_self];cases hs;cases hs;cases hs
 | _=>cases hs
end
structure Tabs where
  fn:List (Nat×(List PA->ae (List PA)))
  own:List (Nat×FW)
  it:List (Nat×(List PA->ae (List (List PA))))
  mt:List (Nat×Option MK)
  cf:List (Nat×(List PA->ae (List PA)))
def Xt{α:Type _}(d:α):List (Nat×α)→Nat→α
  | [],_=>d
  | (k,c)::r,f=>match Nat.beq k f with|true=>c|false=>Xt d r f
def gU(T:Tabs)(vv:List Nat):bK:=⟨Xt (λ_=>.no) T.fn,Xt FW.none T.own,Xt (λ_=>.no) T.it,λt=>vv.contains t,Xt none T.mt,Xt (λ_=>.no) T.cf⟩
def Tabs.nil:Tabs:=⟨[],[],[],[],[]⟩
def Tabs.addF(T:Tabs)(f:Nat)(c:List PA->ae (List PA)):Tabs:=⟨(f,c)::T.fn,T.own,T.it,T.mt,T.cf⟩
def Tabs.addO(T:Tabs)(f:Nat)(c:FW):Tabs:=⟨T.fn,(f,c)::T.own,T.it,T.mt,T.cf⟩
def Tabs.addI(T:Tabs)(f:Nat)(c:List PA->ae (List (List PA))):Tabs:=⟨T.fn,T.own,(f,c)::T.it,T.mt,T.cf⟩
def Tabs.addM(T:Tabs)(f:Nat)(c:MK):Tabs:=⟨T.fn,T.own,T.it,(f,some c)::T.mt,T.cf⟩
def Tabs.addN(T:Tabs):List Nat→Tabs|[]=>T|f::r=>(T.addM f λ_=>.no).addN r
def Tabs.addC(T:Tabs)(f:Nat)(c:List PA->ae (List PA)):Tabs:=⟨T.fn,T.own,T.it,T.mt,(f,c)::T.cf⟩
variable [aC]
structure ax (P : Program) (T : Tabs) : Prop where
  fn:∀x∈T.fn,Ok P x.1 x.2
  own:∀x∈T.own,gB P x.1 x.2
  it:∀x∈T.it,AL P x.1 x.2
  mt:∀x∈T.mt,∀C,x.2=some C->rP P x.1 C
  cf:∀x∈T.cf,@Ok ⟨1⟩ P x.1 x.2
theorem all_cons{α:Type _}{p:α->Prop}{a:α}{l:List α}(h:∀x∈l,p x)(ha:p a):∀x∈a::l,p x:=λx hx=>(kS.1 hx).elim (λe=>e▸ha) (h x)
section
variable{P:Program}{T:Tabs}{f:Nat}
theorem ax.nil:ax P .nil:=⟨λ_ h=>(by cases h),λ_ h=>(by cases h),λ_ h=>(by cases h),λ_ h=>(by cases h),λ_ h=>(by cases h)⟩
theorem ax.addF(h:ax P T){c:List PA->ae (List PA)}(hc:Ok P f c):ax P (T.addF f c):=⟨all_cons h.fn hc,h.own,h.it,h.mt,h.cf⟩
theorem ax.addO(h:ax P T){c:FW}(hc:gB P f c):ax P (T.addO f c):=⟨h.fn,all_cons h.own hc,h.it,h.mt,h.cf⟩
theorem ax.addI(h:ax P T){c:List PA->ae (List (List PA))}(hc:AL P f c):ax P (T.addI f c):=⟨h.fn,h.own,all_cons h.it hc,h.mt,h.cf⟩
theorem ax.addM(h:ax P T){c:MK}(hc:rP P f c):ax P (T.addM f c):=⟨h.fn,h.own,h.it,all_cons h.mt λ_ e=>by cases e;exact hc,h.cf⟩
theorem ax.addC(h:ax P T){c:List PA->ae (List PA)}(hc : @Ok ⟨1⟩ P f c):ax P (T.addC f c):=⟨h.fn,h.own,h.it,h.mt,all_cons h.cf hc⟩
theorem ax.addN:∀{l:List Nat}{T:Tabs},ax P T→ax P (T.addN l)|[],_,h=>h|_::_,_,h=>(h.addM λ_ _ _ h=>(ae.no_o h).elim).addN
theorem Ae{α:Type _}{p:Nat→α→Prop}{d:α}(hd:p f d):∀{l:List (Nat×α)},(∀x∈l,p x.1 x.2)→p f (Xt d l f)
  | [],_=>hd
  | (k,c)::l,h=>by
    simp only[Xt];split;rename_i e;have:=h (k,c) kX;rw[<- lH e];exact this;exact Ae hd λx hx=>h x (jW _ hx)
theorem ax.all(h:ax P T)(vv:List Nat):jF P (gU T vv) :=
 ⟨λf C hC=>Ae (p:=λf o=>∀C,o=some C->rP P f C) (λ_ e=>by cases e) (λx hx C e=>h.mt x hx C e) C hC,λf=>Ae (p:=λf c=>Ok P f c) (λ_ _ h=>(ae.no_o h).elim) λx hx=>h.fn x hx,
  λf=>Ae (p:=λf c=>gB P f c) (d:=.none) trivial λx hx=>h.own x hx,λf=>Ae (p:=λf c=>AL P f c) (λ_ _ h=>(ae.no_o h).elim) λx hx=>h.it x hx,
  λf=>Ae (p:=λf c=>@Ok ⟨1⟩ P f c) (λ_ _ h=>(ae.no_o h).elim) λx hx=>h.cf x hx⟩
theorem xq(h:ax P T)(hc:dA P f){N:Nat}{vv:List Nat}{aQ:dG}:Ok P f (aF P N (gU T vv) aQ f) :=
 ziN (h.all vv) hc λargs rs h=>⟨_,aQ,zHt h⟩
theorem TN(h:ax P T)(hc:dA P f){N e s b:Nat}{vv:List Nat}{aQ:dG}:gB P f (.mkv e s b (aK P N (gU T vv) aQ f e s b)) :=
 ze8 (h.all vv) hc λargs n get rs h=>⟨_,aQ,zHu h⟩
theorem zaI(h:ax P T)(hc:dA P f){N:Nat}{vv:List Nat}{aQ:List XA->dG}:rP P f (λxs=>aM P N (gU T vv) (aQ xs) f xs) :=
 ze9 (h.all vv) hc λxs rs ys h=>⟨_,aQ xs,zHv h⟩
theorem Nh(h:ax P T)(hc:dA P f){N:Nat}{vv:List Nat}{aQ:dG}:AL P f (λcaps=>.opt (aI P (gU T vv) N aQ f caps)) :=
 ziR (h.all vv) hc λcaps ys h=>⟨_,aQ,zHq (ae.opt_o h)⟩
def zyQ(P:Program)(N:Nat)(T:Tabs)(x:Ext)(f:Nat):Nat→MK|0=>λ_=>.no|n+1=>λxs=>aM P N (gU ((T.addM f (zyQ P N T x f n)).addN x.clo) x.vv) (bT P f (xh 0 xs) x) f xs
theorem Xu(h:ax P T)(hc:dA P f){N:Nat}{x:Ext}:∀n,rP P f (zyQ P N T x f n)|0=>λ_ _ _ h=>(ae.no_o h).elim|n+1=>zaI (h.addM (Xu h hc n)).addN hc
def ae.ty{δ ρ:Type}[dF δ][dF ρ](C:List PA->ae (List PA))(x:δ):ae ρ:=(C (dF.enc x)).bind λl=>.chk (dF.ck (α:=ρ) l) (.ok (dF.dec l))
def ae.un{δ ρ:Type}[dF δ][dF ρ](F:δ->ae ρ)(args:List PA):ae (List PA):=.chk (dF.ck (α:=δ) args) ((F (dF.dec args)).mp dF.enc)
theorem zvp{δ ρ:Type}[dF δ][dF ρ]{C:List PA->ae (List PA)}(h:Ok P f C):Ok P f (ae.un (ae.ty C:δ->ae ρ)):=by
 intro args rs hr w h0 vs jS hw;obtain⟨h1,h2⟩:=ae.chk_o hr;obtain⟨r,h3,h4⟩:=ae.mp_o h2;obtain⟨l,h5,h6⟩:=ae.bind_o h3;obtain⟨h7,h8⟩:=ae.chk_o h6;have h8:=ae.ok_o h8;subst h4 h8;obtain⟨hc,h9⟩:=h _ _ h5 w h0 vs (dF.up jS h1) hw;refine⟨hc,h9.mono ?_⟩;rintro e w' ⟨h',v,he,hv,r⟩;exact⟨h',v,he,JH (λvs jS=>dF.up jS h7) hv,r⟩
def zpl{δ ρ:Type}[dF δ][dF ρ](C:List PA->ae (List PA))(y:δ×ρ):Bool:=match(C (dF.enc y.1)).o with|some l=>dF.ck (α:=ρ) l&&dF.eq (dF.dec l) y.2|none=>false
def zi9{δ ρ:Type}[dF δ][dF ρ](y:δ×ρ)(C:List PA->ae (List PA))(args:List PA):ae (List PA):=match dF.ck (α:=δ) args&&dF.eq (dF.dec args) y.1 with|true=>.ok (dF.enc y.2)|false=>C args
theorem zpm{δ ρ:Type}[dF δ][dF ρ]{C:List PA->ae (List PA)}(h:Ok P f C){y:δ×ρ}(hy:zpl C y=true):Ok P f (zi9 y C):=by
 intro args rs hr w h0 vs jS hw;unfold zi9 at hr;split at hr;rename_i hc;rw[gq]at hc;cases ae.ok_o hr;unfold zpl at hy;split at hy;rename_i l hl;rw[gq]at hy;obtain⟨h1,h2⟩:=h _ _ hl w h0 vs (dF.eqk hc.2 (dF.up jS hc.1)) hw;refine⟨h1,h2.mono ?_⟩;rintro e w' ⟨h',v,he,hv,r⟩;exact⟨h',v,he,JH (λvs jS=>dF.eqk hy.2 (dF.up jS hy.1)) hv,r⟩;cases hy;exact h _ _ hr w h0 vs jS hw
def Tabs.memo{δ ρ:Type}[dF δ][dF ρ](T:Tabs)(f:Nat)(y:δ×ρ):Tabs:=T.addF f (zi9 y ((gU T []).fn f))
theorem ax.memo{δ ρ:Type}[dF δ][dF ρ](h:ax P T){y:δ×ρ}(hy:zpl ((gU T []).fn f) y=true):ax P (T.memo f y):=h.addF (zpm ((h.all []).fn f) hy)
def Sl.of{α:Type}[Inhabited α](l:List α):Sl α:=⟨l.length,λi=>l.getD i default⟩
inductive Ent where
  | f (f:Nat) (x:Ext)
  | k (f e s b:Nat) (x:Ext)
  | m (f:Nat) (x:Ext)
  | r (f n:Nat) (x:Ext)
  | i (f:Nat) (x:Ext)
def Ent.fn:Ent→Nat|.f f _=>f|.k f _ _ _ _=>f|.m f _=>f|.r f _ _=>f|.i f _=>f
def zHw(P:Program)(N:Nat)(T:Tabs):Ent→Tabs|.f f x=>T.addF f (aF P N (gU (T.addN x.clo) x.vv) (bT P f [] x) f)|.k f e s b x=>T.addO f (.mkv e s b (aK P N (gU (T.addN x.clo) x.vv) (bT P f [] x) f e s b))|.m f x=>T.addM f λxs=>aM P N (gU (T.addN x.clo) x.vv) (bT P f (xh 0 xs) x) f xs|.r f n x=>T.addM f (zyQ P N T x f n)|.i f x=>T.addI f λcaps=>.opt (aI P (gU (T.addN x.clo) x.vv) N (bT P f [0] x) f caps)
def oP(P:Program)(N:Nat)(T:Tabs)(l:List Ent):Tabs:=l.foldl (zHw P N) T
def Xv(P:Program)(f:Nat):Bool:=match P.funcs[f]? with
 | some fn => fn.body.isSome && !(fn.name == "runtime.NumGoroutine")
 | none=>false
theorem dJ(h:Xv P f=true):dA P f:=by
 unfold Xv at h;split at h;rename_i fn hf;rw[gq,H6]at h;exact⟨fn,hf,h.1,h.2⟩;cases h
theorem zpn{N:Nat}(h:ax P T){e:Ent}(hc:Xv P e.fn=true):ax P (zHw P N T e):=by
 cases e with|f f x=>exact h.addF (xq h.addN (dJ hc))|k f e s b x=>exact h.addO (TN h.addN (dJ hc))|m f x=>exact h.addM (zaI h.addN (dJ hc))|r f n x=>exact h.addM (Xu h (dJ hc) n)|i f x=>exact h.addI (Nh h.addN (dJ hc))
theorem eX {N : Nat} : ∀ {l : List Ent} {T : Tabs}, ax P T → (l.all fun e => Xv P e.fn) = true → ax P (oP P N T l)
  | [],_,h,_=>h
  | e::l,_,h,hc=>by
    rw[qdZ,gq]at hc;exact eX (l:=l) (zpn h hc.1) hc.2
end
theorem zja{P:Program}{T:Tabs}{f:Nat}(h : @ax ⟨1⟩ P T)(hc:dA P f){N:Nat}{vv:List Nat}{aQ:dG} : @Ok ⟨1⟩ P f (aF P N (gU T vv) aQ f):=@xq ⟨1⟩ P T f h hc N vv aQ
end Go.Pm
namespace Go.Pm
section
variable(P:Program)(Γ:bK){A:Type}(N:Nat)
inductive zpo where
  | n (n:Nat)
  | y (l:List (List PA))
  | o (i:Nat)
def atT(aQ:dG):Code→List Nat→List zpo→EK A→St→Option A
  | .seq a b,0::p,r,K=>atT aQ a p r (sqT P aQ (jT b) (yD P Γ N aQ b) K)
  | .seq _ b,_::p,r,K=>atT aQ b p r K
  | .cond _ a _,0::p,r,K=>atT aQ a p r K
  | .cond _ _ b,_::p,r,K=>atT aQ b p r K
  | .block id b,_::p,r,K=>atT aQ b p r (bkT id K)
  | .scope b,_::p,r,K=>atT aQ b p r (scT K)
  | .loop b,_::p,.n n::r,K=>match lk aQ.head (jT b)with|some k=>atT aQ b p r (lpK P k (lpT P k (yD P Γ N aQ b) K n) K)|none=>λ_=>none
  | .loop b,[],.n n::_,K=>match lk aQ.head (jT b)with|some k=>lpT P k (yD P Γ N aQ b) K n|none=>λ_=>none
  | .rangeFunc _ ps ah bd,_::p,.y l::r,K=>match lk aQ.head (ZU ah bd)with|some k=>atT aQ bd p r (rgK P k (oI [H7] (eQ ah++eQ bd)) (rgT P k (oI [H7] (eQ ah++eQ bd)) ps.toList (yD P Γ N aQ ah) (yD P Γ N aQ bd) K l) K)|none=>λ_=>none
  | .rangeFunc _ ps ah bd,[],.y l::_,K=>match lk aQ.head (ZU ah bd)with|some k=>rgT P k (oI [H7] (eQ ah++eQ bd)) ps.toList (yD P Γ N aQ ah) (yD P Γ N aQ bd) K l|none=>λ_=>none
  | .region id ops draw,[],.o i::_,K=>opsT P Γ aQ.nt ops (Xo P aQ id ops draw (K .normal)) i (ops.toList.drop i)
  | c,[],_,K=>yD P Γ N aQ c K
  | _,_,_,_=>λ_=>none
def zpp(fin:St->Option (List PA))(K:List PA->Option A):EK A:=λe s=>match e with
 | .normal=>match fin s with|some r=>K r|none=>none
 | .ret=>match fin s with|some r=>K r|none=>none
 | _=>none
def gV{ρ:Type}[aC][dF ρ](k:ρ->Option A)(l:List PA):Option A:=match dF.ck (α:=ρ) l with|true=>k (dF.dec l)|false=>none
def runT(aQ:dG)(f:FuncId)(K:List PA->Option A)(args:List PA):Option A :=
 match P.funcs[f]? with
 | some fn=>match fn.body with
  | some c=>match Nat.beq aQ.nt fn.ntmps&&Nat.ble args.length aQ.nt&&true with|true=>yD P Γ N aQ c (zpp (λs=>lC P s fn.results.toList) K) ⟨jB 0 args,[],[]⟩|false=>none
  | none=>none
 | none=>none
def gW(aQ:dG)(f:FuncId)(p:List Nat)(r:List zpo)(K:List PA->Option A)(σ:St):Option A :=
 match P.funcs[f]? with
 | some fn=>match fn.body with|some c=>atT P Γ N aQ c p r (zpp (λs=>lC P s fn.results.toList) K) σ|none=>none
 | none=>none
end
section
variable{P:Program}{Γ:bK}{A:Type}{N:Nat}
theorem runT_eq{aQ:dG}{f:FuncId}{K:List PA->Option A}{args:List PA}:(aF P N Γ aQ f args).T K=runT P Γ N aQ f K args:=by
 unfold aF Xq runT;cases P.funcs[f]? with
 | none=>rfl
 | some fn =>
  simp only;cases fn.body with
  | none=>rfl
  | some c =>
   simp only;cases Nat.beq aQ.nt fn.ntmps&&Nat.ble args.length aQ.nt&&true with
   | false=>rfl
   | true =>
    simp only;rw[Nb];show(vcC P Γ N aQ c _).T _=(vcC P Γ N aQ c _).T _;congr 1;funext r;obtain⟨e,s⟩:=r;cases e with|normal=>simp only[zpp,ae.opt];cases lC P s fn.results.toList<;>rfl|ret=>simp only[zpp,ae.opt];cases lC P s fn.results.toList<;>rfl|_=>rfl
theorem zR8 [aC]{δ ρ:Type}[dF δ][dF ρ]{aQ:dG}{f:FuncId}{x:δ}{k:ρ->Option A}:(ae.ty (aF P N Γ aQ f) x:ae ρ).T k=runT P Γ N aQ f (gV k) (dF.enc x):=by
 rw[<- runT_eq];show(aF P N Γ aQ f (dF.enc x)).T _=_;congr 1
end
instance : bI Unit where
  enc _:=[]
  dec l:=((),l)
  ck l:=some l
  le:=by
    intro l r _ h;cases h;exact⟨[],rfl,rfl,trivial⟩
  inv:=by
    intro l m r h hc;cases hc;exact⟨m,rfl,h⟩
  sm _ _:=trivial
  eq _ _:=true
  eqk _:=trivial
structure dZ (f : Nat) (α β : Type) where
  a:α
  v:β
theorem zjc{l m:List PV}(e:RL ql l m)(k:Nat)(x y:PV)(hx:l[k]? = some x)(hy:m[k]? = some y):ql x y:=by
 obtain⟨z,hz,r⟩:=RL.get e k x hx;rw[hy]at hz;cases hz;exact r
theorem zvq{h:Fz}{f:FuncId}{a b l m:List PV}{v:Value}(e0:RL ql a b)(e:RL ql l m)(r:Rep h (.fn f a l) v):Rep h (.fn f b m) v :=
 @Rep.up ⟨0⟩ _ _ _ (.fn f a b l m e0.length (zjc e0) e.length (zjc e)) _ r
theorem zvr{h:Fz}{f:FuncId}{a l:List PV}{v:Value}(r:Rep h (.fn f a l) v):RS a a/\RS l l:=by
 letI:aC:=⟨0⟩;cases r with
 | fn _ _ _ fv cv h1 h2 hf hc =>
  refine⟨RL.of_get rfl λj a b ha hb=>?_,RL.of_get rfl λj a b ha hb=>?_⟩;rw [ha]at hb;cases hb;obtain⟨w,hw⟩:=pz h1 ha;exact(hf j a w ha hw).un;rw [ha]at hb;cases hb;obtain⟨w,hw⟩:=pz h2 ha;exact(hc j a w ha hw).un
instance {f : Nat} {α β : Type} [bI α] [bI β] : je (dZ f α β) where
  enc x:=.one (.fn f (bI.enc x.a) (bI.enc x.v))
  dec a:=match a with | .one (.fn _ k l)=>⟨(bI.dec k).1,(bI.dec l).1⟩|_=>⟨(bI.dec []).1,(bI.dec []).1⟩
  ck a:=match a with | .one (.fn g k l)=>Nat.beq g f&&(PZ (bI.ck (α:=α) k)&&PZ (bI.ck (α:=β) l))|_=>false
  up:=by
    intro h a v r hc
    match a,r,hc with
    | .one (.fn g k l),r,hc =>
      simp only[Bool.and_eq_true]at hc;have e:=Nat.eq_of_beq_eq_true hc.1;subst e;have r:Rep h (.fn g k l) v:=r;exact zvq (oH (α:=α) (g:=λ_=>k) (λ_ _=>(zvr r).1) hc.2.1 0) (oH (α:=β) (g:=λ_=>l) (λ_ _=>(zvr r).2) hc.2.2 0) r
  eq a b:=bI.eq a.a b.a&&bI.eq a.v b.v
  eqk:=by
    intro h a b v he r;rw[Bool.and_eq_true]at he;exact zvq (bI.eqk he.1) (bI.eqk he.2) r
instance {α β : Type} [je α] [je β] : je (α ⊕ β) where
  enc x:=match x with | .inl x=>je.enc x | .inr x=>je.enc x
  dec a:=match je.ck (α:=α) a with|true=>.inl (je.dec a)|false=>.inr (je.dec a)
  ck a:=je.ck (α:=α) a||je.ck (α:=β) a
  up:=by
    intro h a v r hc;cases hb:je.ck (α:=α) a with|true=>exact je.up r hb|false=>rw[hb]at hc;exact je.up r hc
  eq a b:=match a,b with | .inl a,.inl b=>je.eq a b | .inr a,.inr b=>je.eq a b|_,_=>false
  eqk:=by
    intro h a b v he r
    match a,b,he with|.inl a,.inl b,he=>exact je.eqk he r|.inr a,.inr b,he=>exact je.eqk he r
/-! Functions that hand back nothing but an error, or a pointer. -/
section
variable{α β τ A:Type}
def zpq(r:α ⊕ β)(f:α->Option A)(g:β->Option A):Option A:=match r with|.inl a=>f a|.inr b=>g b
def ae.alt(r:α ⊕ β)(f:α->ae τ)(g:β->ae τ):ae τ:=⟨λk=>zpq r (λa=>(f a).T k) (λb=>(g b).T k),λk=>by
 cases r with|inl a=>exact(f a).nat k|inr b=>exact(g b).nat k⟩
variable [aC]{δ ε ρ:Type}[dF δ][dF ε][dF ρ]
def zjd(k:ε ⊕ ρ→Option A):List PA→Option A
  | .one .nilp::r=>match dF.ck (α:=ε) r with|true=>k (.inl (dF.dec r))|false=>none
  | l=>match dF.ck (α:=ρ) l with|true=>k (.inr (dF.dec l))|false=>none
def zyR:List PA→ae (ε ⊕ ρ)|.one .nilp::r=>.chk (dF.ck (α:=ε) r) (.ok (.inl (dF.dec r)))|l=>.chk (dF.ck (α:=ρ) l) (.ok (.inr (dF.dec l)))
def ae.tyA(C:List PA->ae (List PA))(x:δ):ae (ε ⊕ ρ):=(C (dF.enc x)).bind zyR
def ae.unA(F:δ->ae (ε ⊕ ρ))(args:List PA):ae (List PA):=.chk (dF.ck (α:=δ) args) ((F (dF.dec args)).bind λr=>.alt r (λe=>.ok (.one .nilp::dF.enc e)) λp=>.ok (dF.enc p))
theorem zje{P:Program}{f:FuncId}{C:List PA->ae (List PA)}(h:Ok P f C):Ok P f (ae.unA (ae.tyA C:δ->ae (ε ⊕ ρ))):=by
 intro args rs hr w h0 vs jS hw;obtain⟨h1,h2⟩:=ae.chk_o hr;obtain⟨r,h3,h4⟩:=ae.bind_o h2;obtain⟨l,h5,h6⟩:=ae.bind_o h3;obtain⟨hc,h9⟩:=h _ _ h5 w h0 vs (dF.up jS h1) hw;have fin:∀(h':Fz)(v:Value),qP h' l v->qP h' rs v:=by
  intro h' v hv;unfold zyR at h6;split at h6
  ·obtain ⟨h7, h8⟩ := ae.chk_o h6;have h8:=ae.ok_o h8;subst h8;cases ae.ok_o h4;refine JH (λ vs jS=>?_) hv
   match vs,jS with|v::vs,jS=>exact⟨jS.1,dF.up jS.2 h7⟩|[],jS=>exact jS.elim
  obtain⟨h7,h8⟩:=ae.chk_o h6;have h8:=ae.ok_o h8;subst h8;cases ae.ok_o h4;exact JH (λvs jS=>dF.up jS h7) hv
 refine⟨hc,h9.mono ?_⟩;rintro e w' ⟨h',v,he,hv,r⟩;exact⟨h',v,he,fin h' v hv,r⟩
theorem zvs{P:Program}{Γ:bK}{N:Nat}{aQ:dG}{f:FuncId}{x:δ}{k:ε ⊕ ρ->Option A}:(ae.tyA (aF P N Γ aQ f) x:ae (ε ⊕ ρ)).T k=runT P Γ N aQ f (zjd k) (dF.enc x):=by
 rw[<- runT_eq];show(aF P N Γ aQ f (dF.enc x)).T _=_;congr 1;funext l;unfold zyR zjd;split;cases dF.ck (α:=ε) _<;>rfl;cases dF.ck (α:=ρ) l<;>rfl
end
/-! Iterators. -/
def ae.tyI [aC]{δ ε:Type}[dF δ][dF ε](C:List PA->ae (List (List PA)))(x:δ):ae (List ε):=(C (dF.enc x)).bind λl=>.chk (l.all (dF.ck (α:=ε))) (.ok (l.map dF.dec))
def ae.unI [aC]{δ ε:Type}[dF δ][dF ε](I:δ->ae (List ε))(caps:List PA):ae (List (List PA)):=.chk (dF.ck (α:=δ) caps) ((I (dF.dec caps)).mp (List.map dF.enc))
theorem TP [aC]{P:Program}{f:FuncId}{δ ε:Type}[dF δ][dF ε]{C:List PA->ae (List (List PA))}(h:AL P f C):AL P f (ae.unI (ae.tyI C:δ->ae (List ε))):=by
  intro caps ys hr l J Jx Rp w h0 vs sJ sX hy hj jS hw;obtain⟨h1,h2⟩:=ae.chk_o hr;obtain⟨r,h3,h4⟩:=ae.mp_o h2;obtain⟨ls,h5,h6⟩:=ae.bind_o h3;obtain⟨h7,h8⟩:=ae.chk_o h6;have h8:=ae.ok_o h8;subst h8 h4
  obtain ⟨hc, h9⟩ := h _ _ h5 l (fun ys h W => ys.all (dF.ck (α := ε)) = true ∧ J ((ys.map (dF.dec (α := ε))).map dF.enc) h W)
    (λys h W=>Jx ((ys.map (dF.dec (α:=ε))).map dF.enc) h W) Rp w h0 vs
    (λys h W h' W' a b c d e=>⟨a.1,sJ _ _ _ _ _ a.2 b c d e⟩) (λys h W h' W' a b c d e=>sX _ _ _ _ _ a b c d e)
    (λy rest h W us hJ hu hW n=>by
      obtain⟨hk,hJ⟩:=hJ;rw[qdZ,gq]at hk;obtain⟨fn,tmps,ah,bd,e1,e2⟩:=hy _ _ _ _ _ hJ (dF.up hu hk.1) hW n;refine⟨fn,tmps,ah,bd,e1,e2.mono ?_⟩;rintro e W' (⟨h',a,b,c|c⟩|c);exact .inl ⟨h',a,b,.inl ⟨c.1,hk.2,c.2⟩⟩;exact .inl ⟨h',a,b,.inr c⟩;exact .inr c)
    ⟨h7,hj⟩ (dF.up jS h1) hw
  refine⟨hc,h9.mono ?_⟩;rintro e W' (⟨v,h',a,b,c,d⟩|c)
  rotate_left
  exact .inr c;refine .inl ⟨v,h',a,b,c,?_⟩;rcases d with d|⟨rest,d⟩
  exact .inl d.2;exact .inr ⟨_,d⟩
section
variable(P:Program)(Γ:bK)(N:Nat)
def atY(aQ:dG):Code→List Nat→List Nat→Vu→Bool→St→YO
  | .seq a b,0::p,r,K=>atY aQ a p r (skY P aQ (jT b) (vO P Γ N aQ b) K)
  | .seq _ b,_::p,r,K=>atY aQ b p r K
  | .cond _ a _,0::p,r,K=>atY aQ a p r K
  | .cond _ _ b,_::p,r,K=>atY aQ b p r K
  | .block id b,_::p,r,K=>atY aQ b p r (bkY id K)
  | .scope b,_::p,r,K=>atY aQ b p r (zHo K)
  | .loop b,_::p,n::r,K=>match lk aQ.head (jT b)with|some k=>atY aQ b p r (lkY P k (zi6 P k (vO P Γ N aQ b) K n) K)|none=>λ_ _=>none
  | .loop b,[],n::_,K=>match lk aQ.head (jT b)with|some k=>zi6 P k (vO P Γ N aQ b) K n|none=>λ_ _=>none
  | c,[],_,K=>vO P Γ N aQ c K
  | _,_,_,_=>λ_ _=>none
def ptY(aQ:dG)(f:FuncId)(p r:List Nat)(σ:St):YO :=
 match P.funcs[f]? with
 | some fn=>match fn.body with|some c=>atY P Γ N aQ c p r zvn false σ|none=>none
 | none=>none
end
/-! Data in states. -/
def eP [aC]{α:Type}[je α](x:α):DV:=.one (Jq (je.enc x))
def eB{α:Type}[bI α](t:Nat)(x:α):AO:=.box t ((bI.enc x).map .p)
def eV{α:Type}[bI α](e s b:Nat)(w:Sl α):AO:=.vec e s b w.len (λi=>bI.enc (w.get i))
/-! Slices that grow, of typed data. -/
abbrev aJ(n:Int):Int:=IntKind.wrap .i64 n
def room(n b:Nat):Bool:=decide (n*b<=140737488355328/\n<=9223372036854775807)
section
variable{α:Type}[bI α]
def zyS(g:Nat->α)(r:Nat->List PV)(i:Nat):α:=(bI.dec (nzG (bI.enc (g 0)) r i)).1
def jy(n:Nat)(g h:Nat->α):Nat->α:=zyS g (appG n (λi=>bI.enc (g i)) λi=>bI.enc (h i))
def gK(l:List α):Nat->α:=λi=>(bI.dec (nzG (Bq (l.map bI.enc) 0) (Bq (l.map bI.enc)) i)).1
def uY(g:Nat->α)(n i:Nat):α:=g (i+n)
class sU (α : Type) [bI α] : Prop where
  de:∀x:α,(bI.dec (bI.enc x)).1=x
instance [Inhabited α][sU α]:sU (Sl α):=⟨λx=>by
 obtain⟨n,f⟩:=x;show(⟨n,λi=>(bI.dec (bI.enc (f i))).1⟩:Sl α)=⟨n,f⟩;congr 1;funext i;exact sU.de (f i)⟩
variable [sU α]
theorem zpr{g:Nat->α}{r:Nat->List PV}{i:Nat}{x:α}(h:r i=bI.enc x):zyS g r i=x:=by
 unfold zyS nzG;rw[h,mV (uq 8) (bI.sm _ _),sU.de]
theorem jQ(n:Nat)(g h:Nat->α)(i:Nat):jy n g h i=if n<=i then h (i-n)else g i:=by
 refine zpr ?_;unfold appG;cases hb:Nat.ble n i with|true=>rw[eY (qdU hb)]|false=>rw[fH λhh=>by rw[qjU hh]at hb;cases hb]
end
end Go.Pm
namespace Go.Pm
section
variable(P:Program)(Γ:bK){A ρ:Type}(N:Nat)
def zps(fin:St->Option ρ)(K:ρ->Option A):EK A:=λe s=>match e with
 | .normal=>match fin s with|some r=>K r|none=>none
 | .ret=>match fin s with|some r=>K r|none=>none
 | _=>none
def zpt(aQ:dG)(f:FuncId)(n:Nat)(g:Code->Bool)(σ:St)(fin:Func->St->Option ρ)(K:ρ->Option A):Option A :=
 match P.funcs[f]? with
 | some fn=>match fn.body with
  | some c=>match Nat.beq aQ.nt fn.ntmps&&Nat.ble n aQ.nt&&g c with|true=>yD P Γ N aQ c (zps (fin fn) K) σ|false=>none
  | none=>none
 | none=>none
def ptG(aQ:dG)(f:FuncId)(p:List Nat)(r:List zpo)(fin:Func->St->Option ρ)(K:ρ->Option A)(σ:St):Option A :=
 match P.funcs[f]? with
 | some fn=>match fn.body with|some c=>atT P Γ N aQ c p r (zps (fin fn) K) σ|none=>none
 | none=>none
end
theorem zc0{P:Program}{Γ:bK}{A ρ:Type}{N:Nat}{aQ:dG}{f:FuncId}{n:Nat}{g:Code→Bool}{σ:St}{fin:Func→St→Option ρ}{K:ρ→Option A} :
  (Xq P N Γ aQ f n g σ fin).T K=zpt P Γ N aQ f n g σ fin K:=by
 unfold Xq zpt;cases P.funcs[f]? with
 | none=>rfl
 | some fn =>
  simp only;cases fn.body with
  | none=>rfl
  | some c =>
   simp only;cases Nat.beq aQ.nt fn.ntmps&&Nat.ble n aQ.nt&&g c with
   | false=>rfl
   | true =>
    simp only;rw[Nb];show(vcC P Γ N aQ c _).T _=(vcC P Γ N aQ c _).T _;congr 1;funext r;obtain⟨e,s⟩:=r;cases e with|normal=>simp only[zps,ae.opt];cases fin fn s<;>rfl|ret=>simp only[zps,ae.opt];cases fin fn s<;>rfl|_=>rfl
section
variable(P:Program)(Γ:bK){A ρ:Type}(N:Nat)
def zpu(fin:Exit->St->Option ρ)(K:ρ->Option A):EK A:=λe s=>match fin e s with|some r=>K r|none=>none
def zyT(aQ:dG)(f:FuncId)(n:Nat)(g:Code->Bool)(σ:St)(fin:Func->Exit->St->Option ρ)(K:ρ->Option A):Option A :=
 match P.funcs[f]? with
 | some fn=>match fn.body with
  | some c=>match Nat.beq aQ.nt fn.ntmps&&Nat.ble n aQ.nt&&g c with|true=>yD P Γ N aQ c (zpu (fin fn) K) σ|false=>none
  | none=>none
 | none=>none
def ptM(aQ:dG)(f:FuncId)(p:List Nat)(r:List zpo)(fin:Func->Exit->St->Option ρ)(K:ρ->Option A)(σ:St):Option A :=
 match P.funcs[f]? with
 | some fn=>match fn.body with|some c=>atT P Γ N aQ c p r (zpu (fin fn) K) σ|none=>none
 | none=>none
end
theorem zpv{P:Program}{Γ:bK}{A ρ:Type}{N:Nat}{aQ:dG}{f:FuncId}{n:Nat}{g:Code→Bool}{σ:St}{fin:Func→Exit→St→Option ρ}{K:ρ→Option A} :
  (zi7 P N Γ aQ f n g σ fin).T K=zyT P Γ N aQ f n g σ fin K:=by
 unfold zi7 zyT;cases P.funcs[f]? with
 | none=>rfl
 | some fn =>
  simp only;cases fn.body with
  | none=>rfl
  | some c =>
   simp only;cases Nat.beq aQ.nt fn.ntmps&&Nat.ble n aQ.nt&&g c with
   | false=>rfl
   | true =>
    simp only;rw[Nb];show(vcC P Γ N aQ c _).T _=(vcC P Γ N aQ c _).T _;congr 1;funext r;obtain⟨e,s⟩:=r;show(ae.opt (fin fn e s)).T K=zpu (fin fn) K e s;unfold zpu;cases fin fn e s<;>rfl
/-! A slice of one's own. -/
variable [aC]
theorem AC.up{h:Fz}{w:World}{base e s n:Nat}{v:Value}{g g':Nat->List PV}(hg:∀i,RL ql (g i) (g' i))(H:AC h w base e s v n g):AC h w base e s v n g':=by
 obtain⟨xs,h1,h2⟩:=H;exact⟨xs,h1,λi hi=>BC (hg i) (h2 i hi)⟩
section
variable{δ α β A:Type}[dF δ][bI α][bI β]
abbrev VR:=Nat×(Nat->List PV)×List PV
def vrC(r:VR):Bool:=PZ (bI.ck (α:=β) r.2.2)&&PZ (bI.ck (α:=α) (r.2.1 0))
def vrD(r:VR):Sl α×β:=(⟨r.1,λi=>(bI.dec (r.2.1 i)).1⟩,(bI.dec r.2.2).1)
def ae.tyV(C:List PA->ae VR)(x:δ):ae (Sl α×β):=(C (dF.enc x)).bind λr=>.chk (vrC (α:=α) (β:=β) r) (.ok (vrD r))
def ae.unV(F:δ->ae (Sl α×β))(args:List PA):ae VR:=.chk (dF.ck (α:=δ) args) ((F (dF.dec args)).mp λw=>(w.1.len,λi=>bI.enc (w.1.get i),bI.enc w.2))
theorem zjf{v:Value}{xs:List Value}{rs Rz:List PV}(h:rs.length=Rz.length):VT v xs rs=VT v xs Rz:=by
 cases rs with
 | nil=>cases Rz with|nil=>rfl|cons=>cases h
 | cons=>cases Rz with|nil=>cases h|cons=>rfl
theorem zaJ{P:Program}{f:FuncId}{e s b:Nat}{C:List PA->ae VR}(h:gB P f (.mkv e s b C)):gB P f (.mkv e s b (ae.unV (ae.tyV C:δ->ae (Sl α×β)))):=by
 intro w hz az vs n get rs hr ha hw;obtain⟨h1,h2⟩:=ae.chk_o hr;obtain⟨w',h3,h4⟩:=ae.mp_o h2;obtain⟨⟨n',g',Rz⟩,h5,h6⟩:=ae.bind_o h3;obtain⟨h7,h8⟩:=ae.chk_o h6;have h8:=ae.ok_o h8;subst h8;cases h4;have h7:(PZ (bI.ck (α:=β) Rz)&&PZ (bI.ck (α:=α) (g' 0)))=true:=h7;rw[gq]at h7;obtain⟨hc,hk⟩:=h w hz _ vs _ _ _ h5 (dF.up ha h1) hw;refine⟨hc,hk.mono ?_⟩;rintro r w2 ⟨h',v',xs,a1,a2,a3,a4,a5,a6⟩;have e:RL ql Rz (bI.enc (bI.dec (α:=β) Rz).1):=oH (α:=β) (g:=λ_=>Rz) (λ_ _=>yQ a2) h7.1 0;exact⟨h',v',xs,by rw[a1];exact jX _ (zjf e.length),BC e a2,a3,λ_ _=>bI.sm _ _,a5.up (oH a4 h7.2),a6⟩
def zaK(k:Sl α×β->Option A)(r:VR):Option A:=match vrC (α:=α) (β:=β) r with|true=>k (vrD r)|false=>none
abbrev zaL(e s b:Nat)(fn:Func)(σ:St):Option VR:=Xr fn e s b σ
theorem zjg{P:Program}{Γ:bK}{N:Nat}{aQ:dG}{f:FuncId}{e s b:Nat}{x:δ}{k:Sl α×β→Option A} :
  (ae.tyV (aK P N Γ aQ f e s b) x).T k=zpt P Γ N aQ f (dF.enc x).length (λ_=>true) ⟨jB 0 (dF.enc x),[],[]⟩ (zaL e s b) (zaK k):=by
 rw[<- zc0];show(aK P N Γ aQ f e s b (dF.enc x)).T _=_;rfl
end
/-! What is given to be changed, as typed data. -/
class XaC (α : Type) (ε : outParam Type) where
  enc:α->XA
  dec:XA->α
  ck:XA->Bool
  up:∀ [dE] {P:Program} {h:Fz} {w:World} {B:Nat} {x:XA} {v:Value},zU P h w B x v->ck x=true->zU P h w B (enc (dec x)) v/\VU w (enc (dec x)) v=VU w x v
  put:α->ε->XA
  out:XA->ε
  cko:α->XA->Bool
  outk:∀ [dE] {P:Program} {h h':Fz} {w w':World} {B:Nat} {a:α} {y:XA} {v:Value},zU P h w B (enc a) v->(∀p x,Rep h p x->Rep h' p x)->zU P h' w' B y v->cko a y=true ->
    zU P h' w' B (put a (out y)) v/\VU w' (put a (out y)) v=VU w' y v
class tV (δ : Type) (ε : outParam Type) where
  enc:δ->List XA
  dec:List XA->δ
  ck:List XA->Bool
  up:∀ [dE] {P:Program} {h:Fz} {w:World} {B:Nat} {xs:List XA} {vs:List Value},RL (zU P h w B) xs vs->ck xs=true->RL (zU P h w B) (enc (dec xs)) vs/\oh w (enc (dec xs)) vs=oh w xs vs
  put:δ->ε->List XA
  out:List XA->ε
  cko:δ->List XA->Bool
  outk:∀ [dE] {P:Program} {h h':Fz} {w w':World} {B:Nat} {a:δ} {ys:List XA} {vs:List Value},RL (zU P h w B) (enc a) vs->(∀p x,Rep h p x->Rep h' p x)->RL (zU P h' w' B) ys vs->cko a ys=true ->
    RL (zU P h' w' B) (put a (out ys)) vs/\oh w' (put a (out ys)) vs=oh w' ys vs
instance : tV Unit Unit where
  enc _:=[]
  dec _:=()
  ck l:=l.isEmpty
  up:=by
    intro _ P h w B xs vs r hc;cases xs with|nil=>exact⟨r,rfl⟩|cons=>cases hc
  put _ _:=[]
  out _:=()
  cko _ l:=l.isEmpty
  outk:=by
    intro _ P h h' w w' B a ys vs _ _ r hc;cases ys with|nil=>exact⟨r,rfl⟩|cons=>cases hc
instance {α ε δ ζ : Type} [XaC α ε] [tV δ ζ] : tV (α × δ) (ε × ζ) where
  enc x:=XaC.enc x.1::tV.enc x.2
  dec l:=(XaC.dec (l.headD (.d (.agg []))),tV.dec l.tail)
  ck l:=match l with|x::r=>XaC.ck (α:=α) x&&tV.ck (δ:=δ) r|[]=>false
  up:=by
    intro _ P h w B xs vs r hc
    match xs,vs,r,hc with
    | x::xs,v::vs,r,hc =>
      rw[Bool.and_eq_true]at hc;obtain⟨a1,a2⟩:=XaC.up r.1 hc.1;obtain⟨b1,b2⟩:=tV.up r.2 hc.2;refine⟨⟨a1,b1⟩,?_⟩;show _++_=_++_;exact congr (congrArg _ a2) b2
  put x o:=XaC.put x.1 o.1::tV.put x.2 o.2
  out l:=(XaC.out α (l.headD (.d (.agg []))),tV.out δ l.tail)
  cko a l:=match l with|x::r=>XaC.cko a.1 x&&tV.cko a.2 r|[]=>false
  outk:=by
    intro _ P h h' w w' B a ys vs ra hle r hc
    match ys,vs,ra,r,hc with
    | y::ys,v::vs,ra,r,hc =>
      rw[Bool.and_eq_true]at hc;obtain⟨a1,a2⟩:=XaC.outk ra.1 hle r.1 hc.1;obtain⟨b1,b2⟩:=tV.outk ra.2 hle r.2 hc.2;refine⟨⟨a1,b1⟩,?_⟩;show _++_=_++_;exact congr (congrArg _ a2) b2
instance {α : Type} [je α] : XaC α Unit where
  enc x:=.d (je.enc x)
  dec x:=match x with | .d a=>je.dec a|_=>je.dec (.agg [])
  ck x:=match x with | .d a=>je.ck (α:=α) a|_=>false
  up:=by
    intro _ P h w B x v r hc
    match x,r,hc with|.d a,r,hc=>exact⟨je.up r hc,rfl⟩
  put x _:=.d (je.enc x)
  out _:=()
  cko _ y:=match y with | .d _=>true|_=>false
  outk:=by
    intro _ P h h' w w' B a y v ra hle r hc
    match y,r,hc with|.d b,r,hc=>exact⟨zcN hle ra,rfl⟩
structure Bc (ty : Nat) (α : Type) where
  v:α
def xcP:List XC→Option (List PV)
  | []=>some []
  | .p v::r=>match xcP r with|some l=>some (v::l)|none=>none
  | _::_=>none
theorem zji:∀{cs:List XC}{l:List PV},xcP cs=some l->cs=l.map .p:=by
 intro cs
 induction cs with
 | nil=>intro l h;cases h;rfl
 | cons c cs ih =>
  intro l h;cases c with
  | p v =>
   unfold xcP at h;split at h;rename_i l' e;cases h;rw[ih e];rfl;cases h
  | _=>cases h
theorem zc2 [dE]{P:Program}{h:Fz}{w:World}{B:Nat}:∀{l:List PV}{vs:List Value},RL (xcR P h w B) (l.map XC.p) vs↔RL (Rep h) l vs:=by
 intro l
 induction l with
 | nil=>intro vs;cases vs<;>exact VH
 | cons x l ih=>intro vs;cases vs with|nil=>exact VH|cons v vs=>exact and_congr VH ih
theorem zjj:∀{l:List PV}{vs:List Value},vF (l.map XC.p) vs=[]:=by
 intro l
 induction l with
 | nil=>intro vs;cases vs<;>rfl
 | cons x l ih=>intro vs;cases vs with|nil=>rfl|cons v vs=>exact ih
theorem zjk{w:World}{ty ZC:Nat}{cs ds:List XC}{v:Value}(h:∀vs,vF cs vs=vF ds vs):VU w (.box ty cs) v=VU w (.box ZC ds) v:=by
 cases v with
 | pointer a=>cases a with
  | none=>rfl
  | some a =>
   show a.block::_=a.block::_;congr 1;cases w.heap[a.block]? with
   | none=>rfl
   | some o=>cases o with|cells C t l=>exact h C.toList|_=>rfl
 | _=>rfl
theorem zvv{w:World}{ty:Nat}{l m:List PV}{v:Value}:VU w (.box ty (l.map .p)) v=VU w (.box ty (m.map .p)) v:=zjk λ_=>by rw[zjj,zjj]
instance {ty : Nat} {α : Type} [bI α] : XaC (Bc ty α) α where
  enc x:=.box ty ((bI.enc x.v).map .p)
  dec x:=match x with | .box _ cs=>⟨(bI.dec ((xcP cs).getD [])).1⟩|_=>⟨(bI.dec []).1⟩
  ck x:=match x with | .box t cs=>Nat.beq t ty&&(match xcP cs with|some l=>PZ (bI.ck (α:=α) l)|none=>false)|_=>false
  up:=by
    intro _ P h w B x v r hc
    match x,r,hc with
    | .box t cs,r,hc =>
      rw[Bool.and_eq_true]at hc;cases Nat.eq_of_beq_eq_true hc.1;cases e:xcP cs with
      | none=>rw[e]at hc;cases hc.2
      | some l =>
        rw[e]at hc;have e2:=zji e;subst e2;obtain⟨k,C,h1,h2,h3⟩:=r;have h3:=zc2.1 h3;have h4:RL ql l (bI.enc (bI.dec (α:=α) l).1):=oH (α:=α) (g:=λ_=>l) (λ_ _=>yQ h3) hc.2 0;refine⟨⟨k,C,h1,h2,?_⟩,?_⟩;show RL _ ((bI.enc (bI.dec (α:=α) ((xcP (l.map XC.p)).getD [])).1).map XC.p) _;rw[e];exact zc2.2 (BC h4 h3);exact zvv
  put _ o:=.box ty ((bI.enc o).map .p)
  out x:=match x with | .box _ cs=>(bI.dec ((xcP cs).getD [])).1|_=>(bI.dec []).1
  cko _ x:=match x with | .box t cs=>Nat.beq t ty&&(match xcP cs with|some l=>PZ (bI.ck (α:=α) l)|none=>false)|_=>false
  outk:=by
    intro _ P h h' w w' B a y v ra hle r hc
    match y,r,hc with
    | .box t cs,r,hc =>
      rw[Bool.and_eq_true]at hc;cases Nat.eq_of_beq_eq_true hc.1;cases e:xcP cs with
      | none=>rw[e]at hc;cases hc.2
      | some l =>
        rw[e]at hc;have e2:=zji e;subst e2;obtain⟨k,C,h1,h2,h3⟩:=r;have h3:=zc2.1 h3;have h4:RL ql l (bI.enc (bI.dec (α:=α) l).1):=oH (α:=α) (g:=λ_=>l) (λ_ _=>yQ h3) hc.2 0;refine⟨⟨k,C,h1,h2,?_⟩,?_⟩;show RL _ ((bI.enc (bI.dec (α:=α) ((xcP (l.map XC.p)).getD [])).1).map XC.p) _;rw[e];exact zc2.2 (BC h4 h3);exact zvv
structure Bw (ty e s b : Nat) (α : Type) where
  v:Sl α
def bwE{α:Type}[bI α](ty e s b:Nat)(w:Sl α):XA:=.box ty [.vec e s b w.len λi=>bI.enc (w.get i)]
theorem zvw [dE]{P:Program}{h:Fz}{w:World}{B ty e s b n:Nat}{v:Value}{g g':Nat->List PV}(hg:∀i,RL ql (g i) (g' i))(hu:uo g')(r:zU P h w B (.box ty [.vec e s b n g]) v):zU P h w B (.box ty [.vec e s b n g']) v:=by
 obtain⟨k,C,h1,h2,h3⟩:=r;refine⟨k,C,h1,h2,?_⟩
 match C.toList,h3 with
 | [x],h3 =>
  obtain⟨⟨a1,a2,a3,a4⟩,_⟩:=h3;exact⟨⟨a1,⟨hu,a2.2⟩,a3,a4.up hg⟩,trivial⟩
theorem zjl [dE]{P:Program}{h:Fz}{w:World}{B ty e s b n:Nat}{v:Value}{g:Nat->List PV}(r:zU P h w B (.box ty [.vec e s b n g]) v):uo g:=by
 obtain⟨k,C,h1,h2,h3⟩:=r
 match C.toList,h3 with|[x],h3=>exact h3.1.2.1.1
instance {ty e s b : Nat} {α : Type} [Inhabited α] [bI α] : XaC (Bw ty e s b α) (Sl α) where
  enc x:=bwE ty e s b x.v
  dec x:=match x with | .box _ [.vec _ _ _ n g]=>⟨⟨n,λi=>(bI.dec (g i)).1⟩⟩|_=>⟨⟨0,λ_=>default⟩⟩
  ck x:=match x with | .box t [.vec e' s' b' _ g]=>Nat.beq t ty&&(Nat.beq e' e&&(Nat.beq s' s&&(Nat.beq b' b&&PZ (bI.ck (α:=α) (g 0)))))|_=>false
  up:=by
    intro _ P h w B x v r hc
    match x,r,hc with
    | .box t [.vec e' s' b' n g],r,hc =>
      simp only[Bool.and_eq_true]at hc;cases Nat.eq_of_beq_eq_true hc.1;cases Nat.eq_of_beq_eq_true hc.2.1;cases Nat.eq_of_beq_eq_true hc.2.2.1;cases Nat.eq_of_beq_eq_true hc.2.2.2.1;exact⟨zvw (oH (zjl r) hc.2.2.2.2) (λ_ _=>bI.sm _ _) r,zjk λvs=>by cases vs<;>rfl⟩
  put _ w:=bwE ty e s b w
  out x:=match x with | .box _ [.vec _ _ _ n g]=>⟨n,λi=>(bI.dec (g i)).1⟩|_=>⟨0,λ_=>default⟩
  cko _ x:=match x with | .box t [.vec e' s' b' _ g]=>Nat.beq t ty&&(Nat.beq e' e&&(Nat.beq s' s&&(Nat.beq b' b&&PZ (bI.ck (α:=α) (g 0)))))|_=>false
  outk:=by
    intro _ P h h' w w' B a y v ra hle r hc
    match y,r,hc with
    | .box t [.vec e' s' b' n g],r,hc =>
      simp only[Bool.and_eq_true]at hc;cases Nat.eq_of_beq_eq_true hc.1;cases Nat.eq_of_beq_eq_true hc.2.1;cases Nat.eq_of_beq_eq_true hc.2.2.1;cases Nat.eq_of_beq_eq_true hc.2.2.2.1;exact⟨zvw (oH (zjl r) hc.2.2.2.2) (λ_ _=>bI.sm _ _) r,zjk λvs=>by cases vs<;>rfl⟩
structure Bs(ty f np n:Nat) where
instance {ty f np n : Nat} : XaC (Bs ty f np n) Unit where
  enc _:=.box ty [.slf f np n]
  dec _:={}
  ck x:=match x with | .box t [.slf f' np' n']=>Nat.beq t ty&&(Nat.beq f' f&&(Nat.beq np' np&&Nat.beq n' n))|_=>false
  up:=by
    intro _ P h w B x v r hc
    match x,r,hc with
    | .box t [.slf f' np' n'],r,hc =>
      simp only[Bool.and_eq_true]at hc;cases Nat.eq_of_beq_eq_true hc.1;cases Nat.eq_of_beq_eq_true hc.2.1;cases Nat.eq_of_beq_eq_true hc.2.2.1;cases Nat.eq_of_beq_eq_true hc.2.2.2;exact⟨r,rfl⟩
  put _ _:=.box ty [.slf f np n]
  out _:=()
  cko _ x:=match x with | .box t [.slf f' np' n']=>Nat.beq t ty&&(Nat.beq f' f&&(Nat.beq np' np&&Nat.beq n' n))|_=>false
  outk:=by
    intro _ P h h' w w' B a y v ra hle r hc
    match y,r,hc with
    | .box t [.slf f' np' n'],r,hc =>
      simp only[Bool.and_eq_true]at hc;cases Nat.eq_of_beq_eq_true hc.1;cases Nat.eq_of_beq_eq_true hc.2.1;cases Nat.eq_of_beq_eq_true hc.2.2.1;cases Nat.eq_of_beq_eq_true hc.2.2.2;exact⟨r,rfl⟩
structure Bm (ty kt vt : Nat) (q : MQ) where
  n:Nat
  F:List Int->Option (List Int)
instance {ty kt vt : Nat} {q : MQ} [DecidableEq MQ] : XaC (Bm ty kt vt q) (Nat × (List Int → Option (List Int))) where
  enc x:=.box ty [.mo kt vt q x.n x.F]
  dec x:=match x with | .box _ [.mo _ _ _ n F]=>⟨n,F⟩|_=>⟨0,λ_=>none⟩
  ck x:=match x with | .box t [.mo k' v' q' _ _]=>Nat.beq t ty&&(Nat.beq k' kt&&(Nat.beq v' vt&&decide (q'=q)))|_=>false
  up:=by
    intro _ P h w B x v r hc
    match x,r,hc with
    | .box t [.mo k' v' q' n F],r,hc =>
      simp only[Bool.and_eq_true]at hc;cases Nat.eq_of_beq_eq_true hc.1;cases Nat.eq_of_beq_eq_true hc.2.1;cases Nat.eq_of_beq_eq_true hc.2.2.1;cases of_decide_eq_true hc.2.2.2;exact⟨r,rfl⟩
  put _ o:=.box ty [.mo kt vt q o.1 o.2]
  out x:=match x with | .box _ [.mo _ _ _ n F]=>(n,F)|_=>(0,λ_=>none)
  cko _ x:=match x with | .box t [.mo k' v' q' _ _]=>Nat.beq t ty&&(Nat.beq k' kt&&(Nat.beq v' vt&&decide (q'=q)))|_=>false
  outk:=by
    intro _ P h h' w w' B a y v ra hle r hc
    match y,r,hc with
    | .box t [.mo k' v' q' n F],r,hc =>
      simp only[Bool.and_eq_true]at hc;cases Nat.eq_of_beq_eq_true hc.1;cases Nat.eq_of_beq_eq_true hc.2.1;cases Nat.eq_of_beq_eq_true hc.2.2.1;cases of_decide_eq_true hc.2.2.2;exact⟨r,rfl⟩
class NpC (ρ : Type) [dF ρ] : Prop where
  np:∀{l:List PA},dF.ck (α:=ρ) l=true->FZ l=none/\FZ (dF.enc (dF.dec l:ρ))=none
instance:NpC Unit:=⟨fun {l} h=>by cases l with|nil=>exact⟨rfl,rfl⟩|cons=>cases h⟩
instance:NpC Int:=⟨fun {l} h=>by
 match l,h with
 | [.one v],h=>cases v with
  | int k x=>cases k<;>first|exact⟨rfl,rfl⟩|cases h
  | _=>cases h
 | [.agg _],h=>cases h
 | [],h=>cases h
 | _::_::_,h=>cases h⟩
section
variable{δ ε ρ A:Type}[tV δ ε][dF ρ][NpC ρ]
end
/-! A function without results that may panic. -/
section
variable{δ ε A:Type}[tV δ ε]{ty:Nat}
def pnD(ty:Nat):List PA→Option (Bool×Int)
  | []=>some (false,0)
  | [.one (.fna f [.int .i64 t,.int .i64 n])]=>match Nat.beq f 4294967295&&decide (t=ty)with|true=>some (true,n)|false=>none
  | _=>none
theorem zyU{l:List PA}{q:Bool×Int}(h:pnD ty l=some q):l=cond q.1 (zyb ty .i64 q.2) []:=by
 unfold pnD at h;split at h;cases h;rfl;split at h;rename_i f t n hc;cases h;rw[gq]at hc;cases lH hc.1;rw[qdo hc.2];rfl;cases h;cases h
def ae.tyP(ty:Nat)(C:MK)(x:δ):ae ((Bool×Int)×ε):=(C (tV.enc x)).bind λr=>match pnD ty r.1 with|some q=>.chk (tV.cko x r.2) (.ok (q,tV.out δ r.2))|none=>.no
def ae.unP(ty:Nat)(F:δ->ae ((Bool×Int)×ε)):MK:=λxs=>.chk (tV.ck (δ:=δ) xs) ((F (tV.dec xs)).bind λr=>.ite r.1.1 (.ok (zyb ty .i64 r.1.2,tV.put (tV.dec xs:δ) r.2)) (.ok ([],tV.put (tV.dec xs:δ) r.2)))
theorem zyV{P:Program}{f:FuncId}{C:MK}(H:rP P f C):rP P f (ae.unP ty (ae.tyP ty C:δ->ae ((Bool×Int)×ε))):=by
 intro _ xs ys rs hr w h base vs hv hs hn hb hw jU;obtain⟨h1,h2⟩:=ae.chk_o hr;obtain⟨⟨q,o⟩,h3,h4⟩:=ae.bind_o h2;obtain⟨⟨Rz,qG⟩,h5,h6⟩:=ae.bind_o h3;simp only at h6;split at h6
 rotate_left
 exact(ae.no_o h6).elim;rename_i q' hq;obtain⟨h7,h8⟩:=ae.chk_o h6;cases ae.ok_o h8;have h4:rs=Rz/\ys=tV.put (tV.dec xs:δ) (tV.out δ qG):=by
  have e:=zyU hq;obtain⟨b,n⟩:=q;cases b with|true=>cases ae.ok_o h4;exact⟨e.symm,rfl⟩|false=>cases ae.ok_o h4;exact⟨e.symm,rfl⟩
 obtain⟨rfl,rfl⟩:=h4;obtain⟨u1,u2⟩:=tV.up hv h1;have:=H _ _ _ h5 w h base vs u1 hs (by rw[u2];exact hn) (by rw[u2];exact hb) hw jU;refine⟨this.1,this.2.mono ?_⟩;rintro e w' ⟨h',a2,a3,a4,a5,a6,a7,a8,a9⟩;rw[u2]at a5 a8 a9;obtain⟨b1,b2⟩:=tV.outk u1 (λ_ _ r=>Rep.mono a6 r) a3 h7;refine⟨h',a2,b1,?_,?_,a6,a7,a8,a9⟩;show(oh w' (tV.put _ _) vs).Nodup;rw[b2];exact a4;show ∀b∈oh w' (tV.put _ _) vs,_;rw[b2];exact a5
def zpw(ty:Nat)(x:δ)(k:(Bool×Int)×ε->Option A)(r:List PA×List XA):Option A:=match pnD ty r.1 with
 | some q=>match tV.cko x r.2 with|true=>k (q,tV.out δ r.2)|false=>none
 | none=>none
theorem zHx{P:Program}{Γ:bK}{N:Nat}{aQ:dG}{f:FuncId}{x:δ}{k:(Bool×Int)×ε→Option A} :
    (ae.tyP ty (fun xs => aM P N Γ aQ f xs) x).T k = zyT P Γ N aQ f (tV.enc x).length (fun c => mQ ((jd 0 (tV.enc x)).map (·.1)) && zy (xh 0 (tV.enc x)) (tV.enc x) && oI (xh 0 (tV.enc x)) (eQ c))
      ⟨MV 0 (tV.enc x),jd 0 (tV.enc x),[]⟩ (zyP P (tV.enc x)) (zpw ty x k):=by
  rw[<- zpv];show(aM P N Γ aQ f (tV.enc x)).T _=(aM P N Γ aQ f (tV.enc x)).T _;congr 1;funext r;show ae.T (match pnD ty r.1 with|some q=>.chk (tV.cko x r.2) (.ok (q,tV.out δ r.2))|none=>.no) k=zpw ty x k r;unfold zpw;cases pnD ty r.1<;>rfl
end
/-! One function for two closures. -/
section
variable{α β γ ρ:Type}[je α][je β][je γ][dF ρ]
def ae.two(F:α×β->ae ρ)(G:α×γ->ae ρ)(x:α×(β ⊕ γ)):ae ρ:=match x.2 with | .inl b=>F (x.1,b) | .inr c=>G (x.1,c)
theorem zjm{args:List PA}(h:dF.ck (α:=α×(β ⊕ γ)) args=true):(dF.ck (α:=α×β) args=true/\(dF.dec args:α×(β ⊕ γ))=((dF.dec args:α×β).1,.inl (dF.dec args:α×β).2))\/dF.ck (α:=α×γ) args=true/\(dF.dec args:α×(β ⊕ γ))=((dF.dec args:α×γ).1,.inr (dF.dec args:α×γ).2):=by
 match args,h with
 | [a,b],h =>
  have h:(je.ck (α:=α) a&&je.ck (α:=β ⊕ γ) b)=true:=h;rw[gq]at h;have h2:(je.ck (α:=β) b||je.ck (α:=γ) b)=true:=h.2;cases hb:je.ck (α:=β) b with
  | true =>
   refine .inl ⟨gq _ _▸⟨h.1,hb⟩,?_⟩;show(je.dec a,(match je.ck (α:=β) b with|true=>Sum.inl (je.dec b)|false=>Sum.inr (je.dec b):β ⊕ γ))=_;rw[hb];rfl
  | false =>
   rw[hb]at h2;refine .inr ⟨gq _ _▸⟨h.1,h2⟩,?_⟩;show(je.dec a,(match je.ck (α:=β) b with|true=>Sum.inl (je.dec b)|false=>Sum.inr (je.dec b):β ⊕ γ))=_;rw[hb];rfl
 | [a],h=>have h:(je.ck (α:=α) a&&false)=true:=h;rw[ZK]at h;cases h
 | a::b::c::r,h=>have h:(je.ck (α:=α) a&&false)=true:=h;rw[ZK]at h;cases h
theorem zyW{F:α×β->ae ρ}{G:α×γ->ae ρ}{args:List PA}{rs:List PA}(hr:(ae.un (ae.two F G) args).o=some rs):(ae.un F args).o=some rs\/(ae.un G args).o=some rs:=by
 obtain⟨h1,h2⟩:=ae.chk_o hr;rcases zjm h1 with⟨a,b⟩|⟨a,b⟩
 rw[b]at h2;left;unfold ae.un;rw[a];exact h2;rw[b]at h2;right;unfold ae.un;rw[a];exact h2
theorem xu{P:Program}{f:FuncId}{F:α×β->ae ρ}{G:α×γ->ae ρ}(h1:Ok P f (ae.un F))(h2:Ok P f (ae.un G)):Ok P f (ae.un (ae.two F G)):=by
 intro args rs hr;rcases zyW hr with h|h
 exact h1 args rs h;exact h2 args rs h
theorem zpx{τ υ:Type}[bI τ][bI υ]{P:Program}{f:FuncId}{e s b:Nat}{F:α×β->ae (Sl τ×υ)}{G:α×γ->ae (Sl τ×υ)}(h1:gB P f (.mkv e s b (ae.unV F)))(h2:gB P f (.mkv e s b (ae.unV G))):gB P f (.mkv e s b (ae.unV (ae.two F G))):=by
 intro w hz az vs n get rs hr;obtain⟨a1,a2⟩:=ae.chk_o hr;rcases zjm a1 with⟨a,b⟩|⟨a,b⟩
 rw[b]at a2;exact h1 w hz az vs n get rs (by unfold ae.unV;rw[a];exact a2);rw[b]at a2;exact h2 w hz az vs n get rs (by unfold ae.unV;rw[a];exact a2)
end
/-! Sorts of typed data. -/
section
variable{α:Type}[bI α]
def uF(w:Sl α)(i:Nat):List PV:=bI.enc (w.get i)
def soP(C:List PA->ae (List PA))(caps:List PV)(ag:Bool)(w:Sl α):Bool:=(zx8 w.len (λi j=>(KA C caps ag (uF w) i j).isSome) (oG C caps ag (uF w))).b
def soG(C:List PA->ae (List PA))(caps:List PV)(ag:Bool)(w:Sl α):Nat->α:=λi=>(bI.dec (KC w.len (oG C caps ag (uF w)) (uF w) i)).1
end
end Go.Pm
namespace Go.Pm
variable [aC]
open Go.RowKit (Below)
structure qV where
  t1:Nat
  y1:TypeId
  t2:Nat
  y2:TypeId
  e:Bool
  ty:TypeId
def qV.ok(pr:qV):List PanicEntry→Bool|[⟨.iface ty (.agg ⟨[.int _ _]⟩),false,false⟩]=>Nat.beq ty pr.ty|_=>false
def zfd:List PanicEntry→List PanicEntry
  | [x]=>[{x with recovered:=true}]
  | l=>l
def stA (pr : qV) : Oper := { dst := none, op := .store pr.y1 (.tmp pr.t1) (.const (.slice none 0 0)), type := 0, pos := "", after := #[], guard := none }
def stB (pr : qV) : Oper := { dst := none, op := .store pr.y2 (.tmp pr.t2) (.const (.bool pr.e)), type := 0, pos := "", after := #[], guard := none }
def tX(pr:qV):Array Oper:=#[stA pr,stB pr]
section
variable(P:Program)(Γ:bK)
def BP(pr:qV)(fi:FuncId):Code→Option (Nat×Nat)
  | .region id ops false=>match ops.toList with
    | [o1,o2]=>match o1.op,o1.dst,o1.guard,o2.op,o2.dst,o2.guard with
      | .makeFunc (.func f) first caps,some t,none,.defer {callee:=.value (.tmp t'),args,argTypes:=_},none,none=>match caps.toList with
        | [.tmp c1,.tmp c2]=>match Nat.beq f fi&&Nat.beq t t'&&first.isEmpty&&args.isEmpty&&Nat.beq c1 pr.t1&&Nat.beq c2 pr.t2 && !Nat.beq t pr.t1 && !Nat.beq t pr.t2 with|true=>some (id,t)|false=>none
        | _=>none
      | _,_,_,_,_,_=>none
    | _=>none
  | _=>none
def pnK(dn:Bool)(K:Exit->St->Prop)(e:Exit)(s:St):Prop:=match e with
 | .panic ch=>match dn with|true=>K (.panic ch) s|false=>False
 | e=>K e s
def pnC(dn:Bool):Exit×St→ae (Exit×St)
  | (.panic ch,s)=>match dn with|true=>.ok (.panic ch,s)|false=>.no
  | r=>.ok r
def Bg(pr:qV)(fi:FuncId)(aQ:dG):Bool→Code→(Exit→St→Prop)→St→Prop
  | dn,.seq a b,K,σ=>match BP pr fi a with
    | some (id,t)=>match Nat.blt t aQ.nt && !dn&&oI [pr.t1,pr.t2] (eQ b)with|true=>zer P aQ id (Bg pr fi aQ true b K) ⟨(t,.junk)::σ.env,σ.ay,[]⟩|false=>False
    | none=>vc P Γ aQ a (zeu (Bg pr fi aQ dn b K) (pnK dn K)) σ
  | dn,c,K,σ=>vc P Γ aQ c (pnK dn K) σ
def seC(dn:Bool)(go:St→ae (Exit×St)):Exit×St→ae (Exit×St)|(.normal,s)=>go s|r=>pnC dn r
def uG(N:Nat)(pr:qV)(fi:FuncId)(aQ:dG):Bool→Code→St→ae (Exit×St)
  | dn,.seq a b,σ=>match BP pr fi a with
    | some (id,t)=>match Nat.blt t aQ.nt && !dn&&oI [pr.t1,pr.t2] (eQ b)with|true=>(D8 P aQ id ⟨(t,.junk)::σ.env,σ.ay,[]⟩).bind (uG N pr fi aQ true b)|false=>.no
    | none=>(vcC P Γ N aQ a σ).bind (seC dn (uG N pr fi aQ dn b))
  | dn,c,σ=>(vcC P Γ N aQ c σ).bind (pnC dn)
def zjn(pr:qV)(aQ:dG)(fn:Func):Exit×St→ae (List PA)
  | (.normal,s)=>.opt (lC P s fn.results.toList)
  | (.ret,s)=>.opt (lC P s fn.results.toList)
  | (.panic ch,s)=>match pr.ok ch with
    | true=>(pV P Γ aQ.nt (tX pr) 0 (tX pr).toList {s with log:=[]}).bind λs=>.opt (lC P s fn.results.toList)
    | false=>.no
  | _=>.no
def aD(N:Nat)(pr:qV)(fi:FuncId)(aQ:dG)(f:FuncId)(args:List PA):ae (List PA) :=
 match P.funcs[f]? with
 | some fn=>match fn.body with
  | some c=>match Nat.beq aQ.nt fn.ntmps&&Nat.ble args.length aQ.nt&&oI [H7] (eQ c)with|true=>(uG P Γ N pr fi aQ false c ⟨jB 0 args,[],[]⟩).bind (zjn P Γ pr aQ fn)|false=>.no
  | none=>.no
 | none=>.no
def zyX(pr:qV)(aQ:dG)(fn:Func)(K:List PA→Prop):Exit→St→Prop
  | .ret,σ=>BB P fn K σ
  | .normal,σ=>BB P fn K σ
  | .panic ch,σ=>pr.ok ch=true/\kL P Γ aQ.nt (tX pr) 0 (tX pr).toList (BB P fn K) {σ with log:=[]}
  | _,_=>False
def TQ(pr:qV)(fi:FuncId)(aQ:dG)(f:FuncId)(args:List PA)(K:List PA->Prop):Prop :=
 match P.funcs[f]? with
 | some fn=>match fn.body with
  | some c=>match Nat.beq aQ.nt fn.ntmps&&Nat.ble args.length aQ.nt&&oI [H7] (eQ c)with|true=>Bg P Γ pr fi aQ false c (zyX P Γ pr aQ fn K) ⟨jB 0 args,[],[]⟩|false=>False
  | none=>False
 | none=>False
end
section
variable{P:Program}{Γ:bK}{B:Nat}{w0:World}{pr:qV}
abbrev dfD(fi:FuncId)(v1 v2:Value):Deferred:={target:=.fn (.func fi) #[v1,v2],args:=#[]}
theorem Nj{fi:FuncId}{c:Code}{id t:Nat}(h:BP pr fi c=some (id,t)):∃(o1 o2:Oper)(ats:Array TypeId),c=.region id #[o1,o2] false/\t≠pr.t1/\t≠pr.t2/\o1.op=.makeFunc (.func fi) #[] #[.tmp pr.t1,.tmp pr.t2]/\o1.dst=some t/\o1.guard=none /\
  o2.op=.defer {callee:=.value (.tmp t),args:=#[],argTypes:=ats}/\o2.dst=none/\o2.guard=none:=by
 unfold BP at h;split at h;rename_i id' ops;split at h;rename_i o1 o2 zEs;split at h;rename_i f first caps t' t2 args ats e1 e2 e3 e4 e5 e6
 split at h;rename_i c1 c2 zHy;split at h;rename_i hc;simp only[gq]at hc;simp only[bV,gJ]at h;obtain⟨rfl,rfl⟩:=h;obtain⟨⟨⟨⟨⟨⟨⟨h1,h2⟩,h3⟩,h4⟩,h5⟩,h6⟩,h7⟩,h8⟩:=hc;have h1:=lH h1;have h2:=lH h2;have h3:first = #[]:=by simpa using h3
 have h4:args = #[]:=by simpa using h4
 have h5:=lH h5;have h6:=lH h6;have h7:t'≠pr.t1:=qdz (by simpa using h7);have h8:t'≠pr.t2:=qdz (by simpa using h8);have h9:caps = #[.tmp c1,.tmp c2]:=by rw[<- qdj (xs:=caps),zHy]
 subst h1 h2 h3 h4 h9;rw[h5,h6]at e1;refine⟨o1,o2,ats,?_,h7,h8,e1,e2,e3,e4,e5,e6⟩;rw[<- qdj (xs:=ops),zEs];cases h;cases h;cases h;cases h;cases h
theorem zaM{fi:FuncId}(zns:∀caps:Array Value,caps.size=2→H8 P {target := .fn (.func fi) caps,args := #[]}){c:Code}{id t nt n:Nat}{h0:Fz}{a:Act}{σ:St}{g:Gh}{w:World}{Q:Exit→Act→World→Prop}
    (h:BP pr fi c=some (id,t)) (ht:t<nt) (S:bW P nt B w0 h0 g σ a w)
    (hQ:∀a',bW P nt B w0 h0 g ⟨(t,.junk)::σ.env,σ.ay,[]⟩ a' w->a'.defers=dfD fi (a.tmps.getD pr.t1 undef) (a.tmps.getD pr.t2 undef)::a.defers->(∀u,u≠t->a'.tmps.getD u undef=a.tmps.getD u undef)->Q .normal a' w):c.wpIn (FR none) n P Q a w:=by
  obtain⟨o1,o2,ats,rfl,n1,n2,e1,e2,e3,e4,e5,e6⟩:=Nj h;refine wpIn_region ?_;show wpOpsIn (FR none) n P #[o1,o2] Q [0,1] a w;have w1:∀tm,Region.wanted o1 (yielded #[o1,o2] tm)=true:=λtm=>by simp[Region.wanted,e3]
  have w2:∀tm,Region.wanted o2 (yielded #[o1,o2] tm)=true:=λtm=>by simp[Region.wanted,e6]
  have r1:(execOp a.eval o1).run P w=.ok (.value (.func (.func fi) #[] #[a.tmps.getD pr.t1 undef,a.tmps.getD pr.t2 undef])) w:=by
    simp only[execOp,e1,Instr.makeFunc,Sem.run_bind,Sem.run_pure,Result.andThen_ok];simp[Act.eval]
  have ets:t<a.tmps.size:=qdx ht S.size;have ev:(a.put (some t) (.func (.func fi) #[] #[a.tmps.getD pr.t1 undef,a.tmps.getD pr.t2 undef])).eval (.tmp t)=.func (.func fi) #[] #[a.tmps.getD pr.t1 undef,a.tmps.getD pr.t2 undef]:=by
    simp[Act.put,Act.eval,yA,ets]
  have r2:(execOp (a.put (some t) (.func (.func fi) #[] #[a.tmps.getD pr.t1 undef,a.tmps.getD pr.t2 undef])).eval o2).run P w=.ok (.defer (dfD fi (a.tmps.getD pr.t1 undef) (a.tmps.getD pr.t2 undef))) w:=by
    simp only[execOp,e4,resolve,Sem.run_bind,ev,Deferred.ofValue,Sem.run_pure,Result.andThen_ok];simp
  show(if Region.wanted o1 (yielded #[o1,o2] a.tmps)then o1.wpIn (FR none) n P a w (wpOpsIn (FR none) n P #[o1,o2] Q [1]) Q else _);rw[eY (w1 _)];refine⟨λ_ _=>trivial,?_⟩;rw[show o1.semAt (FR none).round a.eval=execOp a.eval o1 from rfl,r1];show wpOpsIn (FR none) n P #[o1,o2] Q [1] (a.put o1.dst _) w;rw[e2];show(if Region.wanted o2 (yielded #[o1,o2] (a.put (some t) _).tmps)then o2.wpIn (FR none) n P (a.put (some t) _) w (wpOpsIn (FR none) n P #[o1,o2] Q []) Q else _);rw[eY (w2 _)];refine⟨λ_ _=>trivial,?_⟩;have r3:Sem.run P (o2.semAt (FR none).round (a.put (some t) (.func (.func fi) #[] #[a.tmps.getD pr.t1 undef,a.tmps.getD pr.t2 undef])).eval) w=.ok (.defer (dfD fi (a.tmps.getD pr.t1 undef) (a.tmps.getD pr.t2 undef))) w:=r2;rw[r3];have S1:=S.put (dst:=some t) (d:=.junk) (v:=.func (.func fi) #[] #[a.tmps.getD pr.t1 undef,a.tmps.getD pr.t2 undef]) (by simpa [dI,qjf]using ht) trivial (λL hL=>by simp[cO,dD,bC]at hL) [];rw[Oper.uponIn_defer,e5];refine hQ _ (S1.act ?_ ?_ ?_) rfl λu hu=>?_;obtain⟨es,m1,m2,m3,m4⟩:=S1.dfr;refine⟨.inr (dfD fi (a.tmps.getD pr.t1 undef) (a.tmps.getD pr.t2 undef))::es,m1,?_,λE hE=>?_,λd hd=>?_⟩;rw[nX,<- m2];rfl;rcases kS.1 hE with e|hE
  cases e;exact m3 E hE;rcases kS.1 hd with e|hd
  cases e;exact zns _ rfl;exact m4 d hd;exact S1.size;exact S1.env;simp[Act.put,yA,qdH (qjO hu)]
def JI(P:Program)(nt B:Nat)(w0:World)(h0:Fz)(pr:qV)(fi:FuncId)(K:Exit->St->Prop):Exit->Act->World->Prop :=
 λe a' w'=>∃g' σ',K e σ'/\bW P nt B w0 h0 g' σ' a' w'/\∀ch,e=.panic ch->a'.defers=[dfD fi (a'.tmps.getD pr.t1 undef) (a'.tmps.getD pr.t2 undef)]
def PhD(pr:qV)(fi:FuncId)(D:List Nat)(a0:Act):Bool→Prop|false=>a0.defers=[]|true=>a0.defers=[dfD fi (a0.tmps.getD pr.t1 undef) (a0.tmps.getD pr.t2 undef)]/\pr.t1∉D/\pr.t2∉D
theorem zc3{a b:List Nat}(h:oI a b=true):∀t∈a,t∉b:=λt ht hb=>by
 have:=zQ.1 h t ht;simp at this;exact this hb
theorem zpy(gy:jF P Γ){fi:FuncId}(zns:∀caps:Array Value,caps.size=2→H8 P {target := .fn (.func fi) caps,args := #[]})
    (aQ:dG):∀(c:Code)(dn:Bool)(n:Nat)(h0:Fz)(D:List Nat)(a0:Act)(K:Exit->St->Prop)(σ:St)(g:Gh)(a:Act)(w:World),
    (∀t∈eQ c,t∈D)->H7∉D->PhD pr fi D a0 dn->Bg P Γ pr fi aQ dn c K σ->bW P aQ.nt B w0 h0 g σ a w->Kp D a0 a->c.wpIn (FR none) n P (JI P aQ.nt B w0 h0 pr fi K) a w:=by
  intro c;have out:∀{dn:Bool}{h0:Fz}{D:List Nat}{a0:Act}{K:Exit->St->Prop}{g':Gh}{σ':St}{a':Act}{w':World}{e:Exit},H7∉D->PhD pr fi D a0 dn->pnK dn K e σ'->bW P aQ.nt B w0 h0 g' σ' a' w'->Kp D a0 a'->JI P aQ.nt B w0 h0 pr fi K e a' w':=by
    intro dn h0 D a0 K g' σ' a' w' e hr hph hK S' hk;cases e with
    | panic ch =>
      cases dn with
      | false=>exact hK.elim
      | true =>
        obtain⟨p1,p2,p3⟩:=hph;exact⟨g',σ',hK,S',λ_ _=>by rw[hk.2.2.1 hr,p1,hk.1 _ p2,hk.1 _ p3]⟩
    | normal=>exact⟨g',σ',hK,S',λ_ e=>by cases e⟩
    | exit id=>exact⟨g',σ',hK,S',λ_ e=>by cases e⟩
    | goto l=>exact⟨g',σ',hK,S',λ_ e=>by cases e⟩
    | ret=>exact⟨g',σ',hK,S',λ_ e=>by cases e⟩
    | outgrown=>exact⟨g',σ',hK,S',λ_ e=>by cases e⟩
  have leaf:∀(c:Code),(∀dn K σ,Bg P Γ pr fi aQ dn c K σ=vc P Γ aQ c (pnK dn K) σ)->∀(dn:Bool)(n:Nat)(h0:Fz)(D:List Nat)(a0:Act)(K:Exit->St->Prop)(σ:St)(g:Gh)(a:Act)(w:World),
      (∀t∈eQ c,t∈D)->H7∉D->PhD pr fi D a0 dn->Bg P Γ pr fi aQ dn c K σ->bW P aQ.nt B w0 h0 g σ a w->Kp D a0 a->c.wpIn (FR none) n P (JI P aQ.nt B w0 h0 pr fi K) a w:=by
    intro c hc dn n h0 D a0 K σ g a w hD hr hph h S lG;rw[hc]at h;exact wpIn_mono (rF (MP gy aQ c none n h0 D a0 _ σ g a w hD (Rnd.none h0) h S lG)) λe a' w' ⟨g',σ',hK,S',hk⟩=>out hr hph hK S' hk
  induction c with
  | seq x y _ ZA =>
    intro dn n h0 D a0 K σ g a w hD hr hph h S lG;have hDx:∀t∈eQ x,t∈D:=λt ht=>hD t (dX.2 (.inl ht));have hDy:∀t∈eQ y,t∈D:=λt ht=>hD t (dX.2 (.inr ht));simp only[Bg]at h;split at h;rename_i id t FK;split at h;rename_i iM;simp only[gq,H6]at iM;obtain⟨⟨ht,hdn⟩,hdj⟩:=iM;subst hdn;have ht:t<aQ.nt:=by simpa [qjf]using ht
    have hph:a0.defers=[]:=hph;refine wpIn_seq (zaM zns FK ht S λa' S' gI htm=>?_);have hd:=zc3 hdj;obtain⟨_,_,_,rfl,n1,n2,_⟩:=Nj FK;have zSb:PhD pr fi (eQ y) a' true:=by
      refine⟨?_,hd _ (by simp),hd _ (by simp)⟩;rw[gI,lG.2.2.1 hr,hph,htm _ (qjO n1),htm _ (qjO n2)]
    have hk:∀s g2,Bg P Γ pr fi aQ true y K s->bW P aQ.nt B w0 h0 g2 s a' w->y.wpIn (FR none) n P (JI P aQ.nt B w0 h0 pr fi K) a' w:=λs g2 hv S2 =>
      ZA true n h0 (eQ y) a' K s g2 a' w (λ_ h=>h) (λh=>hr (hDy _ h)) zSb hv S2 (Kp.refl _ _)
    unfold zer at h;split at h;split at h;rename_i s hs;obtain⟨g2,S2⟩:=eU hs S';exact hk s g2 h S2;exact h.elim;exact hk _ g h S';exact h.elim
    · refine wpIn_seq (wpIn_mono (rF (MP gy aQ x none n h0 D a0 _ σ g a w hDx (Rnd.none h0) h S lG)) ?_);rintro e a' w' ⟨g',σ',hK,S',jR⟩;cases e with|normal=>exact ZA dn n h0 D a0 K σ' g' a' w' hDy hr hph hK S' jR|exit id=>exact out hr hph hK S' jR|goto l=>exact out hr hph hK S' jR|ret=>exact out hr hph hK S' jR|panic ch=>exact out hr hph hK S' jR|outgrown=>exact out hr hph hK S' jR
  | skip=>exact leaf _ λdn K σ=>rfl
  | region i o d=>exact leaf _ λdn K σ=>rfl
  | cond c x y=>exact leaf _ λdn K σ=>rfl
  | block i x=>exact leaf _ λdn K σ=>rfl
  | loop x=>exact leaf _ λdn K σ=>rfl
  | scope x=>exact leaf _ λdn K σ=>rfl
  | exit i=>exact leaf _ λdn K σ=>rfl
  | goto i=>exact leaf _ λdn K σ=>rfl
  | label i=>exact leaf _ λdn K σ=>rfl
  | ret=>exact leaf _ λdn K σ=>rfl
  | rangeFunc f p x y=>exact leaf _ λdn K σ=>rfl
  | refuse x=>exact leaf _ λdn K σ=>rfl
theorem zpz{n:Nat}{a:Act}{w:World}{Q:Exit→Act→World→Prop}(h:wpOpsIn (FR none) n P (tX pr) Q [0,1] a w)(hQ:∀ch a' w',¬Q (.panic ch) a' w') :
  ∃w1 w2,(Instr.storeAt pr.y1 (a.tmps.getD pr.t1 undef) (.slice none 0 0)).run P w=.ok () w1/\(Instr.storeAt pr.y2 (a.tmps.getD pr.t2 undef) (.bool pr.e)).run P w1=.ok () w2/\Q .normal a w2:=by
 have one:∀(o:Oper)(ty:TypeId)(t:Nat)(v:Value)(w:World)(next:Act->World->Prop),o.op=.store ty (.tmp t) (.const v)->o.dst=none->o.wpIn (FR none) n P a w next Q->∃w1,(Instr.storeAt ty (a.tmps.getD t undef) v).run P w=.ok () w1/\next a w1:=by
  intro o ty t v w next ho hd h
  obtain⟨_,h⟩:=h;have e:o.semAt (FR none).round a.eval=(do Instr.storeAt ty (a.tmps.getD t undef) v;pure .skip):=by
   show execOp a.eval o=_;simp only[execOp,ho];rfl
  rw[e]at h;simp only[Sem.run_bind]at h;cases hr:(Instr.storeAt ty (a.tmps.getD t undef) v).run P w with
  | ok u w1 =>
   rw[hr]at h;simp only[Result.andThen_ok,Sem.run_pure,Oper.uponIn_skip,hd]at h;exact⟨w1,rfl,h⟩
  | halt hh w1 =>
   rw[hr]at h;cases hh with|panic v=>exact(hQ _ _ _ h).elim|_=>exact h.elim
 have w1:∀(o:Oper) tm,o.guard=none->Region.wanted o (yielded (tX pr) tm)=true:=λo tm e3=>by simp[Region.wanted,e3]
 have e0:(tX pr)[0]? = some (stA pr):=rfl;have e1:(tX pr)[1]? = some (stB pr):=rfl;simp only[wpOpsIn,e0,e1]at h;rw[eY (w1 _ _ rfl)]at h;obtain⟨wa,hr1,h⟩:=one _ _ _ _ _ _ rfl rfl h;rw[eY (w1 _ _ rfl)]at h;obtain⟨wb,hr2,h⟩:=one _ _ _ _ _ _ rfl rfl h;exact⟨wa,wb,hr1,hr2,h⟩
def zHA(P:Program)(pr:qV)(fi:FuncId):Prop:=∀(ch:List PanicEntry),pr.ok ch=true->∀(v1 v2:Value)(w:World),∃os:Array Obj,∀w1 w2,(Instr.storeAt pr.y1 v1 (.slice none 0 0)).run P {w with heap:=w.heap++os} = .ok () w1->(Instr.storeAt pr.y2 v2 (.bool pr.e)).run P w1=.ok () w2 ->
 (∀w,(invoke (dfD fi v1 v2).target (dfD fi v1 v2).args).run P w=.ok (.enter fi #[v1,v2]) w) /\
 ∀n,CallsDIn (FR none) n P fi #[v1,v2] (.panicking ch) w λe u' w'=>(∃v,e=.returned v)/\u'=.panicking (zfd ch)/\w'=w2
structure zyY (P : Program) (pr : qV) (fi : FuncId) : Prop where
  idle:∀caps:Array Value,caps.size=2->H8 P {target:=.fn (.func fi) caps,args:=#[]}
  pan:zHA P pr fi
theorem zaN{ch:List PanicEntry}(h:pr.ok ch=true):settle (.panicking (zfd ch))=.returning:=by
 unfold qV.ok at h;split at h;rfl;cases h
theorem zjo{G:bK}(gy:jF P G){f fi:FuncId}(H:zyY P pr fi){args:List PA}{K:List PA→Prop}{aQ:dG}(hv:TQ P G pr fi aQ f args K){w:World}{h0:Fz}{vs:List Value}(jS:RL (oJ h0) args vs)(O1:Hw h0 w) :
    Calls P f vs.toArray w λ e w'=>∃ (h':Fz) (rs:List PA) (v:Value),K rs/\e=.returned v/\qP h' rs v/\yh h0 w.heap.size w w' /\
      kF h0 h'/\Hw h' w'/\∀b o,h' b=some o->h0 b=some o\/w.heap.size<=b:=by
  unfold TQ at hv;split at hv;rename_i fn ug;split at hv;rename_i c sO;split at hv;rename_i FD;simp only[gq,Vs]at FD;have S:=QK (P:=P) (lH FD.1.1) FD.1.2 jS O1;have hwp:=zpy (B:=w.heap.size) (w0:=w) gy H.idle aQ c false 0 h0 (eQ c) {tmps:=vs.toArray++Array.replicate (fn.ntmps-vs.toArray.size) undef,defers:=[]} _ _ _ _ _ (λ_ h=>h) (zc3 FD.2 _ (by simp)) rfl hv S (Kp.refl _ _);refine(callsIn_wide (n:=0)).1 ?_;refine callsIn_of_wp_marks (F:=FR none) ug sO trivial (wpIn_mono hwp ?_);have QH:∀b,h0 b=some (.fz (.deferred (some [])))->b<w.heap.size:=λb h=>O1.lt h
  have res:∀σ' g2 a2 w2,BB P fn K σ'->bW P aQ.nt w.heap.size w h0 g2 σ' a2 w2->∃v,(results fn a2.tmps).run P w2=.ok v w2/\∃(h':Fz)(rs:List PA)(v':Value),K rs/\Ending.returned v=.returned v'/\qP h' rs v'/\yh h0 w.heap.size w w2 /\
      kF h0 h'/\Hw h' w2/\∀b o,h' b=some o->h0 b=some o\/w.heap.size<=b:=by
    intro σ' g2 a2 w2 hf S2;unfold BB at hf;split at hf;rename_i l hl;obtain⟨u,v,hu,dh,o8⟩:=II S2 hl;obtain⟨h',S3,F⟩:=S2.freeze hu;exact⟨v,dh,h',l,v,hf,rfl,o8 h' F,S3.below,S3.le0,S3.hw,S3.hn⟩;exact hf.elim
  rintro e a' w' ⟨g',σ',yc,S',FK⟩
  · have fin:BB P fn K σ'->LeavesInM (FR none) 0 P fn a'.tmps (λ e w'=>∃ (h':Fz) (rs:List PA) (v:Value),K rs/\e=.returned v/\qP h' rs v/\yh h0 w.heap.size w w' /\
        kF h0 h'/\Hw h' w'/\∀b o,h' b=some o->h0 b=some o\/w.heap.size<=b) a'.defers .returning w':=by
      intro hf;obtain⟨Ds,h1,h2,h3,h4⟩:=S'.dfr;exact zZ QH Ds g' a' w' h1 h2 h3 h4 S' λg2 a2 w2 _ S2=>res σ' g2 a2 w2 hf S2
    cases e with
    | normal=>exact fin yc
    | ret=>exact fin yc
    | exit id=>exact yc.elim
    | goto l=>exact yc.elim
    | outgrown=>exact yc.elim
    | panic ch =>
    obtain⟨zHB,hvo⟩:=yc;have FK:=FK ch rfl;show LeavesInM (FR none) 0 P fn a'.tmps _ a'.defers (.panicking _) w';rw[FK];obtain⟨os,zyH⟩:=H.pan ch zHB (a'.tmps.getD pr.t1 undef) (a'.tmps.getD pr.t2 undef) w';have fG:∀k,k<w'.heap.size->(w'.heap++os)[k]? = w'.heap[k]?:=λk hk=>dq5 hk
    have S1 : bW P aQ.nt w.heap.size w h0 g' σ' a' { w' with heap := w'.heap ++ os } := S'.world (h' := g'.h) (fun _ _ h => h) (S'.hw.same fun k o hk => fG k (S'.hw.lt hk)) (fun _ _ h => .inl h)
      ⟨rfl,rfl,rfl,by simp,kD _,λk hk=>fG k hk⟩
    have zEs:=Il (r:=none) (n:=0) (D:=[]) (a0:=a') (Q:=λe a2 w2=>e=.normal/\a2.tmps=a'.tmps/\∃g2 σ2,BB P fn K σ2/\bW P aQ.nt w.heap.size w h0 g2 σ2 a2 w2) gy (λj o ho t ht=>by
      match j,ho with|0,ho=>cases ho;cases ht|1,ho=>cases ho;cases ht|_+2,ho=>cases ho) hvo (S1.log []) (Kp.refl _ _) λσ2 hK g2 a2 w2 S2 hk2 _=>⟨rfl,?_,g2,σ2,hK,S2⟩
    obtain⟨w1,w2,hr1,hr2,_,_,g2,σ2,hf,S2⟩:=zpz zEs fun ch a2 w2 h=>by cases h.1
    obtain⟨hinv,fQ⟩:=zyH w1 w2 hr1 hr2;refine⟨by simp,.inr ⟨(λh=>by cases h),.func fi,_,fi,_,rfl,hinv w',(λ_ _=>trivial),?_⟩⟩;refine(fQ _).mono ?_;rintro e u' w3 ⟨⟨v,rfl⟩,rfl,rfl⟩;have FT:settle (.panicking (zfd ch))=.returning:=zaN zHB;show LeavesInM (FR none) 0 P fn a'.tmps _ [] (settle (.panicking (zfd ch))) _;rw[FT];exact res σ2 g2 a' _ hf S2;refine Array.ext (hk2.2.1) fun i h1 h2 => ?_;have:=hk2.1 i (by simp);rw[yA,yA,qdJ h1,qdJ h2]at this;exact this
  exact hv.elim;exact hv.elim;exact hv.elim
theorem GN{dn:Bool}{r:Exit×St}{s:St}{e:Exit}{K:Exit->St->Prop}(h:(pnC dn r).o=some (e,s))(hK:K e s):pnK dn K r.1 r.2:=by
 obtain⟨e1,s1⟩:=r;cases e1 with
 | panic ch =>
  cases dn with|true=>cases ae.ok_o h;exact hK|false=>exact(ae.no_o h).elim
 | _=>cases ae.ok_o h;exact hK
theorem zff{N:Nat}{fi:FuncId}{aQ:dG}{K:Exit->St->Prop}:∀(c:Code)(dn:Bool)(σ s:St)(e:Exit),(uG P Γ N pr fi aQ dn c σ).o=some (e,s)->K e s->Bg P Γ pr fi aQ dn c K σ:=by
 have other:∀(c:Code)(dn:Bool)(σ s:St)(e:Exit),((vcC P Γ N aQ c σ).bind (pnC dn)).o=some (e,s)->K e s->vc P Γ aQ c (pnK dn K) σ:=by
  intro c dn σ s e h hK;obtain⟨⟨e1,s1⟩,h1,h2⟩:=ae.bind_o h;exact TK c _ _ _ _ h1 (GN h2 hK)
 intro c
 induction c with
 | seq a b _ Vy =>
  intro dn σ s e h hK;simp only[uG]at h;simp only[Bg];split at h;split at h;obtain⟨s1,h1,h2⟩:=ae.bind_o h;exact Xn h1 (Vy _ _ _ _ h2 hK);exact(ae.no_o h).elim
  ·obtain⟨⟨e1,s1⟩,h1,h2⟩:=ae.bind_o h;refine TK a _ _ _ _ h1 ?_;cases e1 with|normal=>exact Vy _ _ _ _ h2 hK|exit id=>exact GN (K:=K) (dn:=dn) (r:=(.exit id,s1)) h2 hK|goto id=>exact GN (K:=K) (dn:=dn) (r:=(.goto id,s1)) h2 hK|ret=>exact GN (K:=K) (dn:=dn) (r:=(.ret,s1)) h2 hK|panic ch=>exact GN (K:=K) (dn:=dn) (r:=(.panic ch,s1)) h2 hK|outgrown=>exact GN (K:=K) (dn:=dn) (r:=(.outgrown,s1)) h2 hK
 | skip=>exact other .skip
 | region i o d=>exact other (.region i o d)
 | cond c a b=>exact other (.cond c a b)
 | block i b=>exact other (.block i b)
 | loop b=>exact other (.loop b)
 | rangeFunc f p a b=>exact other (.rangeFunc f p a b)
 | exit i=>exact other (.exit i)
 | scope b=>exact other (.scope b)
 | label l=>exact other (.label l)
 | goto l=>exact other (.goto l)
 | ret=>exact other .ret
 | refuse s=>exact other (.refuse s)
theorem zjq{T:Tabs}(hT:ax P T){f fi:FuncId}(hc:dA P f){N:Nat}{vv:List Nat}{aQ:dG}(H:zyY P pr fi):Ok P f (aD P (gU T vv) N pr fi aQ f):=by
 intro args rs hr w h0 vs jS O1;have hv:TQ P (gU T vv) pr fi aQ f args λRz=>Rz=rs:=by
  unfold aD at hr;unfold TQ;split at hr;rename_i fn ug;split at hr;rename_i c hb;split at hr
  ·obtain⟨⟨e,s⟩,h1,h2⟩:=ae.bind_o hr;refine zff c _ _ _ _ h1 ?_;cases e with
   | normal=>simp only[zyX,BB,ae.opt_o h2]
   | ret=>simp only[zyX,BB,ae.opt_o h2]
   | panic ch =>
    simp only[zjn]at h2;split at h2;rename_i hp;obtain⟨s2,h3,h4⟩:=ae.bind_o h2;exact⟨hp,qU _ _ _ _ h3 (by simp only[BB,ae.opt_o h4])⟩;exact(ae.no_o h2).elim
   | _=>exact(ae.no_o h2).elim
  exact(ae.no_o hr).elim;exact(ae.no_o hr).elim;exact(ae.no_o hr).elim
 refine⟨hc,(zjo (hT.all vv) H hv jS O1).mono ?_⟩;rintro e w' ⟨h',Rz,v,rfl,he⟩;exact⟨h',v,he⟩
end
end Go.Pm
namespace Go.Pm
section
variable(P:Program)(Γ:bK){A:Type}
def pnT(dn:Bool)(K:EK A):EK A:=λe s=>match e with
 | .panic ch=>match dn with|true=>K (.panic ch) s|false=>none
 | e=>K e s
def sqD(dn:Bool)(f:St->Option A)(K:EK A):EK A:=λe s=>match e with | .normal=>f s|e=>pnT dn K e s
def GR(N:Nat)(pr:qV)(fi:FuncId)(aQ:dG):Bool→Code→EK A→St→Option A
  | dn,.seq a b,K,σ=>match BP pr fi a with
    | some (id,t)=>match Nat.blt t aQ.nt && !dn&&oI [pr.t1,pr.t2] (eQ b)with|true=>(D8 P aQ id ⟨(t,.junk)::σ.env,σ.ay,[]⟩).T (GR N pr fi aQ true b K)|false=>none
    | none=>yD P Γ N aQ a (sqD dn (GR N pr fi aQ dn b K) K) σ
  | dn,c,K,σ=>yD P Γ N aQ c (pnT dn K) σ
def zpA(pr:qV)(aQ:dG)(fn:Func)(K:List PA->Option A):EK A:=λe s=>match e with
 | .normal=>match lC P s fn.results.toList with|some r=>K r|none=>none
 | .ret=>match lC P s fn.results.toList with|some r=>K r|none=>none
 | .panic ch=>match pr.ok ch with
  | true=>opsT P Γ aQ.nt (tX pr) (λs=>match lC P s fn.results.toList with|some r=>K r|none=>none) 0 (tX pr).toList {s with log:=[]}
  | false=>none
 | _=>none
def zyZ(N:Nat)(pr:qV)(fi:FuncId)(aQ:dG)(f:FuncId)(K:List PA->Option A)(args:List PA):Option A :=
 match P.funcs[f]? with
 | some fn=>match fn.body with
  | some c=>match Nat.beq aQ.nt fn.ntmps&&Nat.ble args.length aQ.nt&&oI [H7] (eQ c)with|true=>GR P Γ N pr fi aQ false c (zpA P Γ pr aQ fn K) ⟨jB 0 args,[],[]⟩|false=>none
  | none=>none
 | none=>none
end
section
variable{P:Program}{Γ:bK}{A:Type}{N:Nat}{pr:qV}{fi:FuncId}{aQ:dG}
theorem zjr{dn:Bool}{K:EK A}{r:Exit×St}:pnT dn K r.1 r.2=(pnC dn r).T λr=>K r.1 r.2:=by
 obtain⟨e,s⟩:=r;cases e with|panic ch=>cases dn<;>rfl|_=>rfl
theorem zHC{dn:Bool}{K:EK A}{c:ae (Exit×St)}:c.T (λr=>pnT dn K r.1 r.2)=(c.bind (pnC dn)).T λr=>K r.1 r.2:=by
 show c.T _=c.T _;congr 1;funext r;exact zjr
theorem zfg:∀(c:Code)(dn:Bool)(K:EK A)(σ:St),GR P Γ N pr fi aQ dn c K σ=(uG P Γ N pr fi aQ dn c σ).T λr=>K r.1 r.2:=by
 intro c
 induction c with
 | seq a b _ ih =>
  intro dn K σ;simp only[GR,uG];cases BP pr fi a with
  | some x =>
   obtain⟨id,t⟩:=x;simp only;cases Nat.blt t aQ.nt && !dn&&oI [pr.t1,pr.t2] (eQ b)with
   | false=>rfl
   | true =>
    show(D8 P aQ id _).T _=(D8 P aQ id _).T _;congr 1;funext s;exact ih true K s
  | none =>
   simp only;rw[Nb];show(vcC P Γ N aQ a σ).T _=(vcC P Γ N aQ a σ).T _;congr 1;funext r;obtain⟨e,s⟩:=r;cases e with|normal=>exact ih dn K s|panic ch=>exact zjr (r:=(.panic ch,s))|_=>rfl
 | _ =>
  intro dn K σ;unfold GR uG;rw[Nb];exact zHC
theorem zpB{f:FuncId}{K:List PA->Option A}{args:List PA}:(aD P Γ N pr fi aQ f args).T K=zyZ P Γ N pr fi aQ f K args:=by
 unfold aD zyZ;cases P.funcs[f]? with
 | none=>rfl
 | some fn =>
  simp only;cases fn.body with
  | none=>rfl
  | some c =>
   simp only;cases Nat.beq aQ.nt fn.ntmps&&Nat.ble args.length aQ.nt&&oI [H7] (eQ c)with
   | false=>rfl
   | true =>
    simp only;rw[zfg];show(uG P Γ N pr fi aQ false c _).T _=(uG P Γ N pr fi aQ false c _).T _;congr 1;funext r;obtain⟨e,s⟩:=r;cases e with
    | normal=>simp only[zpA,zjn,ae.opt];cases lC P s fn.results.toList<;>rfl
    | ret=>simp only[zpA,zjn,ae.opt];cases lC P s fn.results.toList<;>rfl
    | panic ch =>
     simp only[zpA,zjn];cases pr.ok ch with
     | false=>rfl
     | true =>
      simp only;rw[xn];show(pV P Γ aQ.nt (tX pr) 0 (tX pr).toList _).T _=(pV P Γ aQ.nt (tX pr) 0 (tX pr).toList _).T _;congr 1;funext s;simp only;cases lC P s fn.results.toList<;>rfl
    | _=>rfl
theorem zHD [aC]{δ ρ:Type}[dF δ][dF ρ]{f:FuncId}{x:δ}{k:ρ->Option A}:(ae.ty (aD P Γ N pr fi aQ f) x:ae ρ).T k=zyZ P Γ N pr fi aQ f (gV k) (dF.enc x):=by
 rw[<- zpB];show(aD P Γ N pr fi aQ f (dF.enc x)).T _=_;congr 1
end
end Go.Pm
namespace Go.Pm
variable [aC]
open Go.RowKit (Below)
section
variable{P:Program}
theorem zHE{h h3:Fz}{K:List Nat}{w w2:World}{B:Nat}{hx:Fz}(hK:∀b∈K,h b=none)(hw:Hw h w)(hle:kF (pinned h K w) h3)(hw3:Hw h3 w2)(hb:yh hx B w w2) :
  ∃h':Fz,(∀p x,Rep h3 p x->Rep h' p x)/\(∀b,h3 b=none->h' b=none/\(b∈K\/w.heap.size<=b))/\kF h h'/\Hw h' w2/\(∀b o,h' b=some o->h b=some o\/w.heap.size<=b\/b∈K)/\ZW h K w w2:=by
 let h':Fz:=λb=>match h3 b with|some (.pin _)=>h b|x=>x
 have hnp:∀b o,h3 b=some o->(∀x,o ≠ .pin x)->h' b=some o:=λb o hb hx=>by
  show(match h3 b with|some (.pin _)=>h b|x=>x)=some o;rw[hb];cases o with|pin x=>exact(hx x rfl).elim|_=>rfl
 have hpn:∀b x,h3 b=some (.pin x)->h' b=h b:=λb x hb=>by
  show(match h3 b with|some (.pin _)=>h b|x=>x)=h b;rw[hb]
 have hnn:∀b,h3 b=none->h' b=none:=λb hb=>by
  show(match h3 b with|some (.pin _)=>h b|x=>x)=none;rw[hb]
 have uD:∀b y,pinned h K w b=some y->h3 b=some y:=λb y hb=>hle b y hb;have iM:∀b,b<w.heap.size->∃o,w.heap[b]? = some o:=λb hb=>⟨_,qdJ hb⟩;refine⟨h',(λp x hr=>hr.mono' λb o hb ho=>hnp b o hb λx e=>by subst e;obtain⟨C,ty,fr,e⟩:=ho;cases e),λb hb=>⟨hnn b hb,?_⟩,λb x hb=>?_,λb x hb=>?_,λb x hb=>?_,⟨hb.os,hb.tape,hb.output,hb.size,hb.drawn,λk hk hkK=>?_⟩⟩;by_cases hbs:b<w.heap.size;refine .inl ?_;rcases dY (h:=h) (K:=K) (w:=w) b with⟨o,_,h2,_⟩|⟨h2,_⟩|⟨_,h2⟩
 have:=uD b _ h2;rw[hb]at this;cases this;exact h2;obtain⟨o,ho⟩:=iM b hbs;rw[ho]at h2;have:=uD b _ h2;rw[hb]at this;cases this;exact .inr omY;rcases dY (h:=h) (K:=K) (w:=w) b with⟨o,h1,h2,J8⟩|⟨h2,_⟩|⟨_,h2⟩
 rw [h1]at hb;simp only [bV]at hb;subst hb;exact hnp b _ (uD b _ h2) λx e=>by subst e;obtain⟨C,ty,fr,e⟩:=J8;cases e
 rw[hK b h2]at hb;cases hb;obtain⟨o,ho⟩:=iM b (hw.lt hb);rw[ho]at h2;rw[hpn b _ (uD b _ h2)];exact hb
 ·cases h3b:h3 b with
  | none=>rw[hnn b h3b]at hb;cases hb
  | some y =>
   by_cases hy:∃o,y=.pin o;obtain⟨o,rfl⟩:=hy;rw[hpn b _ h3b]at hb;rcases dY (h:=h) (K:=K) (w:=w) b with⟨o',h1,h2,J8⟩|⟨h2,_⟩|⟨_,h2⟩
   have:=uD b _ h2;rw[h3b]at this;simp only[bV]at this;subst this;obtain⟨C,ty,fr,e⟩:=J8;cases e;rw[hK b h2]at hb;cases hb;obtain⟨o1,ho1,hx1⟩:=hw b x hb;rw[ho1]at h2;have:=uD b _ h2;rw[h3b]at this;simp only[bV,VS.pin.injEq]at this;subst this;obtain⟨o2,o9,PO⟩:=hw3 b _ h3b;simp only[VS.ok]at PO;subst PO;exact⟨_,o9,hx1⟩;rw [hnp b y h3b fun x e=>hy ⟨x,e⟩]at hb;simp only[bV]at hb;subst hb;exact hw3 b _ h3b
 ·cases h3b:h3 b with
  | none=>rw[hnn b h3b]at hb;cases hb
  | some y =>
   by_cases hy:∃o,y=.pin o;obtain⟨o,rfl⟩:=hy;rw[hpn b _ h3b]at hb;exact .inl hb;rw [hnp b y h3b fun x e=>hy ⟨x,e⟩]at hb;simp only[bV]at hb;subst hb;by_cases hbs:b<w.heap.size;rcases dY (h:=h) (K:=K) (w:=w) b with⟨o',h1,h2,J8⟩|⟨h2,_⟩|⟨_,h2⟩
   have:=uD b _ h2;rw[h3b]at this;simp only[bV]at this;subst this;exact .inl h1;exact .inr (.inr h2);obtain⟨o,ho⟩:=iM b hbs;rw[ho]at h2;have:=uD b _ h2;rw[h3b]at this;simp only[bV]at this;exact(hy ⟨_,this⟩).elim;exact .inr (.inl omY)
 rcases dY (h:=h) (K:=K) (w:=w) k with⟨o',h1,h2,J8⟩|⟨h2,_⟩|⟨_,h2⟩
 obtain⟨C,ty,fr,rfl⟩:=J8;rw[hw3.fz (uD k _ h2),hw.fz h1];exact(hkK h2).elim;obtain⟨o,ho⟩:=iM k hk;rw[ho]at h2 ⊢;obtain⟨o2,o9,PO⟩:=hw3 k _ (uD k _ h2);simp only[VS.ok]at PO;subst PO;exact o9
def TR(az:List PA)(e s b n:Nat)(get:Nat->List PV):St:=⟨jB 0 az++[(az.length,.cl (.vec 4095))],[(4095,.vec e s b n get)],[]⟩
theorem zjs{nt m:Nat}{az:List PA}{w:World}{h:Fz}{B:Nat}{vs:List Value}{v:Value}{e s b n:Nat}{get:Nat→List PV}(FD:nt=m)(hlen:az.length+1≤nt)(jS:RL (oJ h) az vs)(mf:v.oneCell'=true)(iU:uo get∧0<s)
    (nP:∃i z,P.info? e=some i/\i.size=s/\i.bytes=b/\i.zero=some z/\z.cells.size=s) (hV:AC h w B e s v n get) (hK:∀k,v.ownBlock=some k->B<=k/\h k=none) (hw:Hw h w) (hB:B<=w.heap.size) :
    bW P nt B w (pinned h v.ownBlock.toList w) ⟨pinned h v.ownBlock.toList w,λ_=>0,λ_=>v,λ_ _=>undef⟩ (TR az e s b n get) {tmps:=(vs++[v]).toArray++Array.replicate (m-(vs++[v]).toArray.size) undef,defers:=[]} w:=by
  have hl:=jS.length;have hlo:∀L o,lk [(4095,AO.vec e s b n get)] L=some o->L=4095/\o=.vec e s b n get:=λL o h=>by
    rw[aX]at h;split at h;rename_i e1;exact⟨e1.symm,(PS h).symm⟩;cases h
  have htm:∀t u,(vs++[v])[t]? = some u->((vs++[v]).toArray++Array.replicate (m-(vs++[v]).toArray.size) undef).getD t undef=u:=λt u hu=>by
    have iM:=(Bl.1 hu).1;rw[yA,dq5 (by simpa using iM)];simp only[qjT,hu,qdM]
  have zbP:∀t d,lk (TR az e s b n get).env t=some d->(∃x,az[t]? = some x/\d=.one (Jq x))\/(t=az.length/\d=.cl (.vec 4095)):=λt d ht=>by
    have ht:lk (jB 0 az++[(az.length,DV.cl (.vec 4095))]) t=some d:=ht;rw[iC]at ht;cases hk:lk (jB 0 az) t with
    | some y =>
      rw[hk]at ht;cases ht;obtain⟨x,hx,_,e1⟩:=rG az 0 t d hk;exact .inl ⟨x,by simpa using hx,e1⟩
    | none =>
      rw[hk]at ht;simp only[aX]at ht;split at ht;rename_i e1;exact .inr ⟨e1.symm,(PS ht).symm⟩;cases ht
  refine⟨Marks.nil _ _,by simp;omega,?_,?_,?_,?_,QN hw,λ_ _ h=>h,λb o h=>.inl h,yh.refl _ _ _,hB,?_,?_⟩;intro t d ht;rcases zbP t d ht with⟨x,hx,rfl⟩|⟨rfl,rfl⟩
  obtain⟨u,hu,Zn⟩:=jS.get t x hx;rw[htm t u (by rw[qjG (Bl.1 hu).1];exact hu)];exact LJ (g:=⟨pinned h v.ownBlock.toList w,λ_=>0,λ_=>v,λ_ _=>undef⟩) (xm (λp x hr=>xk hr) Zn);rw [htm az.length v (by rw [hl];simp)];exact⟨rfl,mf⟩;intro L o ho;obtain⟨rfl,rfl⟩:=hlo L o ho;obtain⟨xs,h1,h2⟩:=hV;exact⟨iU,nP,xs,h1,λi hi=>(h2 i hi).mono λ_ _ hr=>xk hr⟩;intro L o k ho hk;obtain⟨rfl,rfl⟩:=hlo L o ho;have hk:v.ownBlock=some k:=hk;refine⟨(hK k hk).1,?_⟩;show pinned h v.ownBlock.toList w k=none;rcases dY (h:=h) (K:=v.ownBlock.toList) (w:=w) k with⟨o,h1,_⟩|⟨_,h2⟩|⟨h2,_⟩
  rw[(hK k hk).2]at h1;cases h1;exact h2;exact(h2 (by rw[hk];simp)).elim;intro L o k L' o' ho lq _ _;rw[(hlo L o ho).1,(hlo L' o' lq).1];intro t d ht L hL;rcases zbP t d ht with⟨x,hx,rfl⟩|⟨rfl,rfl⟩
  rw[show cO (.one (Jq x))=dD (Jq x)from rfl,wX]at hL;simp at hL;simp [cO,dD,bC]at hL;subst hL;exact⟨_,by show lk [(4095,AO.vec e s b n get)] 4095=_;rw[aX,eY rfl]⟩;intro L o ho M hM;obtain⟨rfl,rfl⟩:=hlo L o ho;simp[dW]at hM
def Nk(e s b:Nat)(fn:Func)(σ:St):Option (Nat×(Nat->List PV)):=match Xr fn e s b σ with|some (n,get,[])=>some (n,get)|_=>none
def aG(P:Program)(N:Nat)(Γ:bK)(aQ:dG)(f:FuncId)(e s b:Nat)(az:List PA)(n:Nat)(get:Nat->List PV):ae (Nat×(Nat->List PV)) :=
 Xq P N Γ aQ f (az.length+1) (λ_=>true) (TR az e s b n get) (Nk e s b)
theorem zjt{e s b m:Nat}{fn:Func}{σ:St}{get:Nat->List PV}(h:Nk e s b fn σ=some (m,get)):∃t L,fn.results = #[.tmp t]/\lk σ.env t=some (.one (.c (.vec L)))/\lk σ.ay L=some (.vec e s b m get):=by
 unfold Nk at h;split at h;rename_i n g hk;cases h;unfold Xr at hk;split at hk;rename_i t r hr;split at hk;rename_i L hL;split at hk;rename_i e' s' b' n' g' hO;split at hk;rename_i hc;cases hk;simp only[gq]at hc;have e1:=lH hc.1;have e2:=lH hc.2.1;have e3:=lH hc.2.2;subst e1 e2 e3;exact⟨t,L,by rw[<- qdj (xs:=fn.results),hr],hL,hO⟩;split at hk;cases hk;cases hk;cases hk;cases hk;cases hk;cases hk;cases h
theorem zy0{G:bK}(gy:jF P G){N:Nat}{aQ:dG}{f:FuncId}{e s b:Nat}(hc:dA P f):gB P f (.grow e s b (aG P N G aQ f e s b)):=by
  intro w h base az vs v n get m get' hF jS mf iU nP hV hK hw hB;refine⟨hc,?_⟩;obtain⟨fn,c,ug,sO,FD,_,hv⟩:=TM hF;simp only[gq,Vs]at FD;have S:=zjs (P:=P) (lH FD.1) FD.2 jS mf iU nP hV hK hw hB;have hv:=hv (λex σ=>(match ex with | .normal=>True | .ret=>True|_=>False)/\Nk e s b fn σ=some (m,get')) (λs hs=>⟨⟨trivial,hs⟩,⟨trivial,hs⟩⟩);have hwp:=MP (B:=base) (w0:=w) gy aQ c none 0 (pinned h v.ownBlock.toList w) (eQ c) _ _ _ _ _ _ (λ_ h=>h) (Rnd.none _) hv S (Kp.refl _ _);refine(callsIn_wide (n:=0)).1 ?_;refine callsIn_of_wp_marks (F:=FR none) ug sO trivial (wpIn_mono (rF hwp) ?_);have QH:∀b,pinned h v.ownBlock.toList w b=some (.fz (.deferred (some [])))->b<base:=λb hb=>by
    rcases dY (h:=h) (K:=v.ownBlock.toList) (w:=w) b with⟨o,h1,h2,h3⟩|⟨_,h2⟩|⟨_,h2⟩
    rw [h2]at hb;simp only [bV]at hb;subst hb;obtain⟨C,ty,fr,e⟩:=h3;cases e;rw[h2]at hb;cases hb;rw [h2]at hb;obtain⟨o,_,e⟩:=Zw.1 hb;cases e
  rintro ex a' w' ⟨g',σ',⟨hex,hf⟩,S',lG⟩;obtain⟨Ds,h1,h2,h3,h4⟩:=S'.dfr
  have fin:=zZ (n:=0) (fn:=fn) (R:=λ r w'=>∃ (h':Fz) (v':Value),r=.returned v'/\v'.oneCell'=true/\uo get'/\AC h' w' base e s v' m get' /\
        (∀k,v'.ownBlock=some k->(k∈v.ownBlock.toList\/w.heap.size<=k)/\h' k=none)/\kF h h'/\Hw h' w'/\(∀b o,h' b=some o->h b=some o\/w.heap.size<=b\/b∈v.ownBlock.toList)/\ZW h v.ownBlock.toList w w')
    QH Ds g' a' w' h1 h2 h3 h4 S' λg2 a2 w2 ht S2=>by
      obtain⟨t,L,hr,hL,hO⟩:=zjt hf;have dh:(results fn a2.tmps).run P w2=.ok (a2.tmps.getD t undef) w2:=by
        simp only[results,hr];simp
      obtain⟨htv,WL⟩:=S2.env t _ hL;obtain⟨zh7,_,ys,Zv,hrr⟩:=S2.obj L _ hO;obtain⟨h',q1,q2,q3,q4,q5,q6⟩:=zHE (h:=h) (K:=v.ownBlock.toList) (w:=w) (λb hb=>(hK b (by simpa using hb)).2) hw S2.le0 S2.hw S2.below;exact⟨_,dh,h',_,rfl,WL,zh7.1,⟨ys,by rw[htv];exact Zv,λi hi=>(hrr i hi).mono λp x hr=>q1 p x hr⟩,λk hk=>(by
        have:=q2 k (S2.own L _ k hO (by rw[htv]at hk;exact hk)).2;exact⟨this.2,this.1⟩),q3,q4,q5,q6⟩
  cases ex with|normal=>exact fin|ret=>exact fin|exit id=>exact hex.elim|goto l=>exact hex.elim|panic ch=>exact hex.elim|outgrown=>exact hex.elim
theorem zy1{T:Tabs}(h:ax P T){f:FuncId}(hc:dA P f){N e s b:Nat}{vv:List Nat}{aQ:dG}:gB P f (.grow e s b (aG P N (gU T vv) aQ f e s b)):=zy0 (h.all vv) hc
end
/-! The same of typed data. -/
section
variable{δ α A:Type}[dF δ][bI α]
def ae.tyW(C:List PA->Nat->(Nat->List PV)->ae (Nat×(Nat->List PV)))(x:δ×Sl α):ae (Sl α):=(C (dF.enc x.1) x.2.len λi=>bI.enc (x.2.get i)).bind λr=>.chk (PZ (bI.ck (α:=α) (r.2 0))) (.ok ⟨r.1,λi=>(bI.dec (r.2 i)).1⟩)
def ae.unW(F:δ×Sl α->ae (Sl α))(az:List PA)(n:Nat)(get:Nat->List PV):ae (Nat×(Nat->List PV)):=.chk (dF.ck (α:=δ) az&&PZ (bI.ck (α:=α) (get 0))) ((F (dF.dec az,⟨n,λi=>(bI.dec (get i)).1⟩)).mp λw=>(w.len,λi=>bI.enc (w.get i)))
theorem zy2{P:Program}{f:FuncId}{e s b:Nat}{C:List PA->Nat->(Nat->List PV)->ae (Nat×(Nat->List PV))}(H:gB P f (.grow e s b C)):gB P f (.grow e s b (ae.unW (ae.tyW C:δ×Sl α->ae (Sl α)))):=by
 intro w h base az vs v n get m get' hr jS mf iU nP hV hK hw hB;obtain⟨h1,h2⟩:=ae.chk_o hr;rw[gq]at h1;obtain⟨w',h3,h4⟩:=ae.mp_o h2;obtain⟨⟨n',g'⟩,h5,h6⟩:=ae.bind_o h3;obtain⟨h7,h8⟩:=ae.chk_o h6;have h8:=ae.ok_o h8;subst h8;cases h4;obtain⟨hc,hk⟩:=H w h base _ vs v n _ _ _ h5 (dF.up jS h1.1) mf ⟨λ_ _=>bI.sm _ _,iU.2⟩ nP (hV.up (oH iU.1 h1.2)) hK hw hB;refine⟨hc,hk.mono ?_⟩;rintro r w2 ⟨h',v',a1,a2,a3,a4,a5⟩;exact⟨h',v',a1,a2,λ_ _=>bI.sm _ _,a4.up (oH a3 h7),a5⟩
def zy3(k:Sl α->Option A)(r:Nat×(Nat->List PV)):Option A:=match PZ (bI.ck (α:=α) (r.2 0))with|true=>k ⟨r.1,λi=>(bI.dec (r.2 i)).1⟩|false=>none
theorem zHF{P:Program}{Γ:bK}{N:Nat}{aQ:dG}{f:FuncId}{e s b:Nat}{x:δ×Sl α}{k:Sl α→Option A} :
  (ae.tyW (aG P N Γ aQ f e s b) x).T k=zpt P Γ N aQ f ((dF.enc x.1).length+1) (λ_=>true) (TR (dF.enc x.1) e s b x.2.len λi=>bI.enc (x.2.get i)) (Nk e s b) (zy3 k):=by
 rw[<- zc0];rfl
end
end Go.Pm
