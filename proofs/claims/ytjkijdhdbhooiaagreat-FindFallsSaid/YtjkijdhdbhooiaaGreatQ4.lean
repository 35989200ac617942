/- Part 4: framework, functions, plain laws. -/
import Derived.Test.YtjkijdhdbhooiaaGreatQ3
import Derived.Test.YtjkijdhdbhooiaaGreatProg
import Derived.Tactics
import Derived.Tactics2
import Derived.Recover
import Derived.RecoverIn
import Derived.TacticsInMore
import Derived.ProofKit
import Derived.Deep.Slices
import Derived.OpenShut
import Derived.Shelf.SlSortCmp.NoneTotal
import Derived.Shelf.SlicesE.Clone
import Derived.Shelf.SlLaysF0
import Derived.Shelf.SlLaysE0
import Derived.Test.YtjkijdhdbhooiaaGreatRows
import Derived.WalkKit
import Derived.ChangeOld
set_option linter.all false
noncomputable section
namespace Go.Pm
variable [aJ]
open Go.RowKit (Below)
section
variable{P:Program}
theorem zFq{h h3:Fz}{K:List Nat}{w w2:World}{B:Nat}{hx:Fz}(hK:∀b∈K,h b=none)(hw:Hw h w)(hle:jV (pinned h K w) h3)(hw3:Hw h3 w2)(hb:xJ hx B w w2) :
  ∃h':Fz,(∀p x,Rep h3 p x->Rep h' p x)/\(∀b,h3 b=none->h' b=none/\(b∈K\/w.heap.size<=b))/\jV h h'/\Hw h' w2/\(∀b o,h' b=some o->h b=some o\/w.heap.size<=b\/b∈K)/\Zl h K w w2:=by
 let h':Fz:=λb=>match h3 b with|some (.pin _)=>h b|x=>x
 have hnp:∀b o,h3 b=some o->(∀x,o ≠ .pin x)->h' b=some o:=λb o hb hx=>by
  show(match h3 b with|some (.pin _)=>h b|x=>x)=some o;rw[hb];cases o with
  | pin x=>exact(hx x rfl).elim
  | _=>rfl
 have hpn:∀b x,h3 b=some (.pin x)->h' b=h b:=λb x hb=>by
  show(match h3 b with|some (.pin _)=>h b|x=>x)=h b;rw[hb]
 have hnn:∀b,h3 b=none->h' b=none:=λb hb=>by
  show(match h3 b with|some (.pin _)=>h b|x=>x)=none;rw[hb]
 have uF:∀b y,pinned h K w b=some y->h3 b=some y:=λb y hb=>hle b y hb;have iC:∀b,b<w.heap.size->∃o,w.heap[b]? = some o:=λb hb=>⟨_,qdT hb⟩;refine⟨h',(λp x hr=>hr.mono' λb o hb ho=>hnp b o hb λx e=>by subst e;obtain⟨C,ty,fr,e⟩:=ho;cases e),λb hb=>⟨hnn b hb,?_⟩,λb x hb=>?_,λb x hb=>?_,λb x hb=>?_,⟨hb.os,hb.tape,hb.output,hb.size,hb.drawn,λk hk hkK=>?_⟩⟩
 ·by_cases hbs : b < w.heap.size
  ·refine .inl ?_;rcases dX (h:=h) (K:=K) (w:=w) b with ⟨o,_,h2,_⟩ | ⟨h2,_⟩ | ⟨_,h2⟩
   ·have:=uF b _ h2;rw[hb]at this;cases this
   ·exact h2
   ·obtain⟨o,ho⟩:=iC b hbs;rw[ho]at h2;have:=uF b _ h2;rw[hb]at this;cases this
  ·exact .inr omY
 ·rcases dX (h := h) (K := K) (w := w) b with ⟨o, h1, h2, Ju⟩ | ⟨h2, _⟩ | ⟨_, h2⟩
  ·rw [h1]at hb;simp only [bW]at hb;subst hb;exact hnp b _ (uF b _ h2) λx e=>by subst e;obtain⟨C,ty,fr,e⟩:=Ju;cases e
  ·rw[hK b h2]at hb;cases hb
  ·obtain⟨o,ho⟩:=iC b (hw.lt hb);rw[ho]at h2;rw[hpn b _ (uF b _ h2)];exact hb
 ·cases h3b:h3 b with
  | none=>rw[hnn b h3b]at hb;cases hb
  | some y =>
   by_cases hy:∃o,y=.pin o
   ·obtain ⟨o, rfl⟩ := hy;rw[hpn b _ h3b] at hb;rcases dX (h:=h) (K:=K) (w:=w) b with ⟨o',h1,h2,Ju⟩ | ⟨h2,_⟩ | ⟨_,h2⟩
    ·have:=uF b _ h2;rw[h3b]at this;simp only[bW]at this;subst this;obtain⟨C,ty,fr,e⟩:=Ju;cases e
    ·rw[hK b h2]at hb;cases hb
    ·obtain⟨o1,ho1,hx1⟩:=hw b x hb;rw[ho1]at h2;have:=uF b _ h2;rw[h3b]at this;simp only[bW,U6.pin.injEq]at this;subst this;obtain⟨o2,nV,OU⟩:=hw3 b _ h3b;simp only[U6.ok]at OU;subst OU;exact⟨_,nV,hx1⟩
   ·rw [hnp b y h3b fun x e=>hy ⟨x,e⟩]at hb;simp only[bW]at hb;subst hb;exact hw3 b _ h3b
 ·cases h3b:h3 b with
  | none=>rw[hnn b h3b]at hb;cases hb
  | some y =>
   by_cases hy:∃o,y=.pin o
   ·obtain⟨o,rfl⟩:=hy;rw[hpn b _ h3b]at hb;exact .inl hb
   ·rw [hnp b y h3b fun x e => hy ⟨x, e⟩] at hb;simp only[bW] at hb;subst hb;by_cases hbs:b < w.heap.size
    ·rcases dX (h := h) (K := K) (w := w) b with ⟨o', h1, h2, Ju⟩ | ⟨h2, _⟩ | ⟨_, h2⟩
     ·have:=uF b _ h2;rw[h3b]at this;simp only[bW]at this;subst this;exact .inl h1
     ·exact .inr (.inr h2)
     ·obtain⟨o,ho⟩:=iC b hbs;rw[ho]at h2;have:=uF b _ h2;rw[h3b]at this;simp only[bW]at this;exact(hy ⟨_,this⟩).elim
    ·exact .inr (.inl omY)
 ·rcases dX (h := h) (K := K) (w := w) k with ⟨o', h1, h2, Ju⟩ | ⟨h2, _⟩ | ⟨_, h2⟩
  ·obtain⟨C,ty,fr,rfl⟩:=Ju;rw[hw3.fz (uF k _ h2),hw.fz h1]
  ·exact(hkK h2).elim
  ·obtain⟨o,ho⟩:=iC k hk;rw[ho]at h2 ⊢;obtain⟨o2,nV,OU⟩:=hw3 k _ (uF k _ h2);simp only[U6.ok]at OU;subst OU;exact nV
def SV(az:List PA)(e s b n:Nat)(get:Nat->List PV):St:=⟨jk 0 az++[(az.length,.cl (.vec 4095))],[(4095,.vec e s b n get)],[]⟩
theorem ziM{nt m:Nat}{az:List PA}{w:World}{h:Fz}{B:Nat}{vs:List Value}{v:Value}{e s b n:Nat}{get:Nat→List PV}(EG:nt=m)(hlen:az.length+1≤nt)(jK:RL (nU h) az vs)(lU:v.oneCell'=true)(iF:ut get∧0<s)
    (nH:∃i z,P.info? e=some i/\i.size=s/\i.bytes=b/\i.zero=some z/\z.cells.size=s) (hV:Ai h w B e s v n get) (hK:∀k,v.ownBlock=some k->B<=k/\h k=none) (hw:Hw h w) (hB:B<=w.heap.size) :
    cO P nt B w (pinned h v.ownBlock.toList w) ⟨pinned h v.ownBlock.toList w,λ_=>0,λ_=>v,λ_ _=>undef⟩ (SV az e s b n get) {tmps:=(vs++[v]).toArray++Array.replicate (m-(vs++[v]).toArray.size) undef,defers:=[]} w:=by
  have hl:=jK.length;have hlo:∀L o,lk [(4095,AO.vec e s b n get)] L=some o->L=4095/\o=.vec e s b n get:=λL o h=>by
    rw[aZ]at h;split at h
    · rename_i e1;exact⟨e1.symm,(YR h).symm⟩
    · cases h
  have htm:∀t u,(vs++[v])[t]? = some u->((vs++[v]).toArray++Array.replicate (m-(vs++[v]).toArray.size) undef).getD t undef=u:=λt u hu=>by
    have iC:=(AY.1 hu).1;rw[xX,qdh (by simpa using iC)];simp only[jqd,hu,qd0]
  have za3:∀t d,lk (SV az e s b n get).env t=some d->(∃x,az[t]? = some x/\d=.one (I5 x))\/(t=az.length/\d=.cl (.vec 4095)):=λt d ht=>by
    have ht:lk (jk 0 az++[(az.length,DV.cl (.vec 4095))]) t=some d:=ht;rw[gX]at ht;cases hk:lk (jk 0 az) t with
    | some y =>
      rw[hk]at ht;cases ht;obtain⟨x,hx,_,e1⟩:=rC az 0 t d hk;exact .inl ⟨x,by simpa using hx,e1⟩
    | none =>
      rw[hk]at ht;simp only[aZ]at ht;split at ht
      · rename_i e1;exact .inr ⟨e1.symm,(YR ht).symm⟩
      · cases ht
  refine⟨Marks.nil _ _,by simp;omega,?_,?_,?_,?_,Qs hw,λ_ _ h=>h,λb o h=>.inl h,xJ.refl _ _ _,hB,?_,?_⟩
  · intro t d ht;rcases za3 t d ht with ⟨x,hx,rfl⟩ | ⟨rfl,rfl⟩
    · obtain⟨u,hu,Yt⟩:=jK.get t x hx;rw[htm t u (by rw[qj5 (AY.1 hu).1];exact hu)];exact KL (g:=⟨pinned h v.ownBlock.toList w,λ_=>0,λ_=>v,λ_ _=>undef⟩) (wS (λp x hr=>wR hr) Yt)
    · rw [htm az.length v (by rw [hl];simp)];exact⟨rfl,lU⟩
  · intro L o ho;obtain⟨rfl,rfl⟩:=hlo L o ho;obtain⟨xs,h1,h2⟩:=hV;exact⟨iF,nH,xs,h1,λi hi=>(h2 i hi).mono λ_ _ hr=>wR hr⟩
  · intro L o k ho hk;obtain⟨rfl,rfl⟩:=hlo L o ho;have hk:v.ownBlock=some k:=hk;refine⟨(hK k hk).1,?_⟩;show pinned h v.ownBlock.toList w k=none;rcases dX (h:=h) (K:=v.ownBlock.toList) (w:=w) k with ⟨o,h1,_⟩ | ⟨_,h2⟩ | ⟨h2,_⟩
    · rw[(hK k hk).2]at h1;cases h1
    · exact h2
    · exact(h2 (by rw[hk];simp)).elim
  · intro L o k L' o' ho kQ _ _;rw[(hlo L o ho).1,(hlo L' o' kQ).1]
  · intro t d ht L hL;rcases za3 t d ht with ⟨x,hx,rfl⟩ | ⟨rfl,rfl⟩
    · rw[show df (.one (I5 x))=dE (I5 x)from rfl,wK]at hL;simp at hL
    · simp [df,dE,bD]at hL;subst hL;exact⟨_,by show lk [(4095,AO.vec e s b n get)] 4095=_;rw[aZ,eX rfl]⟩
  · intro L o ho M hM;obtain⟨rfl,rfl⟩:=hlo L o ho;simp[dR]at hM
def L6(e s b:Nat)(fn:Func)(σ:St):Option (Nat×(Nat->List PV)):=match WB fn e s b σ with|some (n,get,[])=>some (n,get)|_=>none
def aG(P:Program)(N:Nat)(Γ:bU)(aQ:dK)(f:FuncId)(e s b:Nat)(az:List PA)(n:Nat)(get:Nat->List PV):ae (Nat×(Nat->List PV)) :=
 WA P N Γ aQ f (az.length+1) (λ_=>true) (SV az e s b n get) (L6 e s b)
theorem ziN{e s b m:Nat}{fn:Func}{σ:St}{get:Nat->List PV}(h:L6 e s b fn σ=some (m,get)):∃t L,fn.results = #[.tmp t]/\lk σ.env t=some (.one (.c (.vec L)))/\lk σ.aB L=some (.vec e s b m get):=by
 unfold L6 at h;split at h
 ·rename_i n g hk;cases h;unfold WB at hk;split at hk
  ·rename_i t r hr;split at hk
   ·rename_i L hL;split at hk
    ·rename_i e' s' b' n' g' hO;split at hk
     ·rename_i hc;cases hk;simp only[gG]at hc;have e1:=kL hc.1;have e2:=kL hc.2.1;have e3:=kL hc.2.2;subst e1 e2 e3;exact⟨t,L,by rw[<- qdp (xs:=fn.results),hr],hL,hO⟩
     ·split at hk
      ·cases hk
      ·cases hk
     ·cases hk
    ·cases hk
   ·cases hk
  ·cases hk
 ·cases h
theorem zwV{G:bU}(gp:jw P G){N:Nat}{aQ:dK}{f:FuncId}{e s b:Nat}(hc:dD P f):gz P f (.grow e s b (aG P N G aQ f e s b)):=by
  intro w h base az vs v n get m get' hF jK lU iF nH hV hK hw hB;refine⟨hc,?_⟩;obtain⟨fn,c,uh,sG,EG,_,hv⟩:=SL hF;simp only[gG,Uz]at EG;have S:=ziM (P:=P) (kL EG.1) EG.2 jK lU iF nH hV hK hw hB;have hv:=hv (λex σ=>(match ex with | .normal=>True | .ret=>True|_=>False)/\L6 e s b fn σ=some (m,get')) (λs hs=>⟨⟨trivial,hs⟩,⟨trivial,hs⟩⟩);have hwp:=LH (B:=base) (w0:=w) gp aQ c none 0 (pinned h v.ownBlock.toList w) (eH c) _ _ _ _ _ _ (λ_ h=>h) (Rnd.none _) hv S (Kp.refl _ _);refine(callsIn_wide (n:=0)).1 ?_;refine callsIn_of_wp_marks (F:=FR none) uh sG trivial (wpIn_mono (ry hwp) ?_);have Qm:∀b,pinned h v.ownBlock.toList w b=some (.fz (.deferred (some [])))->b<base:=λb hb=>by
    rcases dX (h:=h) (K:=v.ownBlock.toList) (w:=w) b with⟨o,h1,h2,h3⟩|⟨_,h2⟩|⟨_,h2⟩
    · rw [h2]at hb;simp only [bW]at hb;subst hb;obtain⟨C,ty,fr,e⟩:=h3;cases e
    · rw[h2]at hb;cases hb
    · rw [h2]at hb;obtain⟨o,_,e⟩:=YQ.1 hb;cases e
  rintro ex a' w' ⟨g',σ',⟨hex,hf⟩,S',kX⟩;obtain⟨Ds,h1,h2,h3,h4⟩:=S'.dfr
  have fin:=zM (n:=0) (fn:=fn) (R:=λ r w'=>∃ (h':Fz) (v':Value),r=.returned v'/\v'.oneCell'=true/\ut get'/\Ai h' w' base e s v' m get' /\
        (∀k,v'.ownBlock=some k->(k∈v.ownBlock.toList\/w.heap.size<=k)/\h' k=none)/\jV h h'/\Hw h' w'/\(∀b o,h' b=some o->h b=some o\/w.heap.size<=b\/b∈v.ownBlock.toList)/\Zl h v.ownBlock.toList w w')
    Qm Ds g' a' w' h1 h2 h3 h4 S' λg2 a2 w2 ht S2=>by
      obtain⟨t,L,hr,hL,hO⟩:=ziN hf;have dA:(results fn a2.tmps).run P w2=.ok (a2.tmps.getD t undef) w2:=by
        simp only[results,hr];simp
      obtain⟨htv,VM⟩:=S2.env t _ hL;obtain⟨zhq,_,ys,Yz,hrr⟩:=S2.obj L _ hO;obtain⟨h',q1,q2,q3,q4,q5,q6⟩:=zFq (h:=h) (K:=v.ownBlock.toList) (w:=w) (λb hb=>(hK b (by simpa using hb)).2) hw S2.le0 S2.hw S2.below;exact⟨_,dA,h',_,rfl,VM,zhq.1,⟨ys,by rw[htv];exact Yz,λi hi=>(hrr i hi).mono λp x hr=>q1 p x hr⟩,λk hk=>(by
        have:=q2 k (S2.own L _ k hO (by rw[htv]at hk;exact hk)).2;exact⟨this.2,this.1⟩),q3,q4,q5,q6⟩
  cases ex with
  | normal=>exact fin
  | ret=>exact fin
  | exit id=>exact hex.elim
  | goto l=>exact hex.elim
  | panic ch=>exact hex.elim
  | outgrown=>exact hex.elim
theorem zwW{T:Tabs}(h:ax P T){f:FuncId}(hc:dD P f){N e s b:Nat}{vv:List Nat}{aQ:dK}:gz P f (.grow e s b (aG P N (gY T vv) aQ f e s b)):=zwV (h.all vv) hc
end
/-! The same of typed data. -/
section
variable{δ α A:Type}[dG δ][bH α]
def ae.tyW(C:List PA->Nat->(Nat->List PV)->ae (Nat×(Nat->List PV)))(x:δ×Sl α):ae (Sl α):=(C (dG.enc x.1) x.2.len λi=>bH.enc (x.2.get i)).bind λr=>.chk (Pv (bH.ck (α:=α) (r.2 0))) (.ok ⟨r.1,λi=>(bH.dec (r.2 i)).1⟩)
def ae.unW(F:δ×Sl α->ae (Sl α))(az:List PA)(n:Nat)(get:Nat->List PV):ae (Nat×(Nat->List PV)):=.chk (dG.ck (α:=δ) az&&Pv (bH.ck (α:=α) (get 0))) ((F (dG.dec az,⟨n,λi=>(bH.dec (get i)).1⟩)).mp λw=>(w.len,λi=>bH.enc (w.get i)))
theorem zwX{P:Program}{f:FuncId}{e s b:Nat}{C:List PA->Nat->(Nat->List PV)->ae (Nat×(Nat->List PV))}(H:gz P f (.grow e s b C)):gz P f (.grow e s b (ae.unW (ae.tyW C:δ×Sl α->ae (Sl α)))):=by
 intro w h base az vs v n get m get' hr jK lU iF nH hV hK hw hB;obtain⟨h1,h2⟩:=ae.chk_o hr;rw[gG]at h1;obtain⟨w',h3,h4⟩:=ae.mp_o h2;obtain⟨⟨n',g'⟩,h5,h6⟩:=ae.bind_o h3;obtain⟨h7,h8⟩:=ae.chk_o h6;have h8:=ae.ok_o h8;subst h8;cases h4;obtain⟨hc,hk⟩:=H w h base _ vs v n _ _ _ h5 (dG.up jK h1.1) lU ⟨λ_ _=>bH.sm _ _,iF.2⟩ nH (hV.up (nZ iF.1 h1.2)) hK hw hB;refine⟨hc,hk.mono ?_⟩;rintro r w2 ⟨h',v',a1,a2,a3,a4,a5⟩;exact⟨h',v',a1,a2,λ_ _=>bH.sm _ _,a4.up (nZ a3 h7),a5⟩
def zwY(k:Sl α->Option A)(r:Nat×(Nat->List PV)):Option A:=match Pv (bH.ck (α:=α) (r.2 0))with|true=>k ⟨r.1,λi=>(bH.dec (r.2 i)).1⟩|false=>none
theorem zFr{P:Program}{Γ:bU}{N:Nat}{aQ:dK}{f:FuncId}{e s b:Nat}{x:δ×Sl α}{k:Sl α→Option A} :
  (ae.tyW (aG P N Γ aQ f e s b) x).T k=zn8 P Γ N aQ f ((dG.enc x.1).length+1) (λ_=>true) (SV (dG.enc x.1) e s b x.2.len λi=>bH.enc (x.2.get i)) (L6 e s b) (zwY k):=by
 rw[<- zcl];rfl
end
end Go.Pm
namespace Go.Pm
open Go Go.Proofs
variable [aJ]
set_option maxRecDepth 100000
theorem zoh:∀caps:Array Value,caps.size=2->G8 Tryz.prog {target:=.fn (.func 177) caps,args:=#[]}:=λcaps hc=>by
 match caps,hc with
 | ⟨[x,y]⟩,_ =>
 refine⟨.func 177,#[x,y],177,#[x,y],rfl,λw=>?_,λn w=>?_⟩
 ·have h:dD Tryz.prog 177:=⟨_,rfl,rfl,by kernel_rfl⟩;show(callFunc 177 (#[] ++ #[x,y])).run Tryz.prog w=_;exact eG h
 have key:CallsDIn {fn:=λ_=>True,depth:=none,alive:=false,round:=none} n Tryz.prog 177 #[x,y] .returning w λe u' w'=>e=.returned (.tuple #[])/\u'=.returning/\w'=w:=by
  refine callsDIn_of_wpSIn Tryz.func177 rfl trivial λc₀ cs hu=>?_;apply wpSIn_seq;apply wpSIn_region;simp[wpOpsSIn,go_sem,recoverD,hu,Tryz.ntmps177,Exit.thenS];refine wpSIn_of_wpIn rfl (wpIn_block (wpIn_seq (wpIn_region ?_)));simp[wpOpsIn,go_sem,Oper.wpIn];refine wpIn_cond (t:=true) (by simp[Act.eval,Array.replicate]) ?_;simp only[Pn];refine wpIn_region ?_;simp[wpOpsIn,go_sem,Oper.wpIn,Exit.inBlock];cases c₀;simp_all [bodyPostS,results,Tryz.results177]
 exact key.mono λe u' w' h=>⟨⟨_,h.1⟩,h.2⟩
theorem zFs:∃fs,Tryz.prog.underlying 254=some (.struct fs):=by
 have h:(match Tryz.prog.underlying 254 with|some (.struct _)=>true|_=>false)=true:=by kernel_rfl
 split at h
 ·rename_i fs e;exact⟨fs,e⟩
 ·cases h
abbrev zcp:qO:=⟨4,30,5,4,false,254⟩
theorem zFt(v:Value)(w:World):(Instr.typeAssert (.iface 254 v) 20 254 true).run Tryz.prog w=.ok (.tuple #[v,.bool true]) w:=by
 obtain⟨fs,h⟩:=zFs;simp only[Instr.typeAssert,Sem.run_bind,run_underlying h,Result.andThen_ok,Pn,Sem.run_pure]
theorem zwZ:zFm Tryz.prog zcp 177:=λch gp v1 v2 w=>by
 unfold qO.ok at gp;split at gp
 rotate_left
 ·cases gp
 rename_i ty kd nn;have hty:ty=254:=kL gp;subst hty;refine⟨#[.cells #[.int kd nn] 254 (0,0)],λw1 w2 h1 h2=>⟨λw=>?_,λn=>?_⟩⟩
 ·have h:dD Tryz.prog 177:=⟨_,rfl,rfl,by kernel_rfl⟩;show(callFunc 177 (#[] ++ #[v1,v2])).run Tryz.prog w=_;exact eG h
 have key:CallsDIn {fn:=λ_=>True,depth:=none,alive:=false,round:=none} n Tryz.prog 177 #[v1,v2] (.panicking [⟨.iface 254 (.agg #[.int kd nn]),false,false⟩]) w λe u' w'=>e=.returned (.tuple #[])/\u'=.panicking (zeh [⟨.iface 254 (.agg #[.int kd nn]),false,false⟩])/\w'=w2:=by
  refine callsDIn_of_wpSIn Tryz.func177 rfl trivial λc₀ cs hu=>?_;apply wpSIn_seq;apply wpSIn_region;simp[wpOpsSIn,go_sem,recoverD,hu,Tryz.ntmps177,Exit.thenS];refine wpSIn_of_wpIn rfl (wpIn_block (wpIn_seq (wpIn_region ?_)));simp[wpOpsIn,go_sem,Oper.wpIn];refine wpIn_cond (t:=false) (by simp[Act.eval,Array.replicate]) ?_;simp only[qdE,qjr];refine wpIn_seq (wpIn_region ?_);simp[wpOpsIn,go_sem,Oper.wpIn,zFt];refine wpIn_cond (t:=true) (by simp[Act.eval,Array.replicate]) ?_;simp only[Pn];refine wpIn_seq (wpIn_region ?_);simp[wpOpsIn,go_sem,Oper.wpIn];refine wpIn_region ?_;have e:w.alloc (Obj.cells #[.int kd nn] 254)={w with heap:=w.heap ++ #[.cells #[.int kd nn] 254 (0,0)]}:=by
   show({w with heap:=w.heap.push _}:World)=_;rw[Array.push_eq_append]
  rw[<- e]at h1;generalize hA:(Act.mk _ _)=A;have hA0:A.eval (.tmp 0)=v1:=by subst hA;simp[Act.eval]
  have hA1:A.eval (.tmp 1)=v2:=by subst hA;simp[Act.eval]
  have hc:A.eval (.const (.slice none 0 0))=.slice none 0 0:=rfl;have hc':A.eval (.const (.bool false))=.bool false:=rfl;have hAd:A.defers=[]:=by subst hA;rfl
  clear hA;show wpOpsIn _ n Tryz.prog _ _ [0,1] A _;have h1:(Instr.storeAt 30 v1 (.slice none 0 0)).run Tryz.prog (w.alloc (Obj.cells #[.int kd nn] 254))=.ok () w1:=h1;have h2:(Instr.storeAt 4 v2 (.bool false)).run Tryz.prog w1=.ok () w2:=h2;simp[wpOpsIn,Oper.wpIn,Oper.semAt,execOp,hA0,hA1,hc,hc',h1,h2,Region.wanted,Act.put,Oper.about,Exit.inBlock,Oper.uponIn_skip];clear e h1 h2 hA0 hA1 hc hc';cases c₀;simp[bodyPostS,results,Tryz.results177,zeh,hAd]
 exact key.mono λe u' w' h=>⟨⟨_,h.1⟩,h.2⟩
theorem ziO:zwT Tryz.prog zcp 177:=⟨zoh,zwZ⟩
end Go.Pm
namespace Go.Pm
instance dz0:aJ:=⟨0⟩
end Go.Pm
namespace Go.Proofs
open Go Go.Pm
set_option maxRecDepth 100000
abbrev aH:=Tryz.prog
structure bZ where
  Low:Int
  High:Int
deriving Inhabited
instance:bH bZ:=bH.iso (α:=Int×Int) (λ⟨x0,x1⟩=>⟨x0,x1⟩) (λx=>(x.Low,x.High)) (λ_=>rfl)
instance:iT bZ:=.agg'
structure aT where
  Time:Int
  dQ:bZ
deriving Inhabited
instance:bH aT:=bH.iso (α:=Int×bZ) (λ⟨x0,x1⟩=>⟨x0,x1⟩) (λx=>(x.Time,x.dQ)) (λ_=>rfl)
instance:iT aT:=.agg'
structure ak where
  Kind:Int
  View:Int
  Z:Int
  First:Int
  aS:Int
  bM:Int
  dN:Int
  bC:bZ
  Clock:bZ
  dP:Int
  Least:Int
  aT:Sl aT
  Dead:Sl Int
deriving Inhabited
instance:bH ak:=bH.iso (α:=Int×Int×Int×Int×Int×Int×Int×bZ×bZ×Int×Int×Sl aT×Sl Int) (λ⟨x0,x1,x2,x3,x4,x5,x6,x7,x8,x9,x10,NS,x12⟩=>⟨x0,x1,x2,x3,x4,x5,x6,x7,x8,x9,x10,NS,x12⟩) (λx=>(x.Kind,x.View,x.Z,x.First,x.aS,x.bM,x.dN,x.bC,x.Clock,x.dP,x.Least,x.aT,x.Dead)) (λ_=>rfl)
instance:iT ak:=.agg'
structure au where
  aj:Sl ak
deriving Inhabited
instance:bH au:=bH.iso (α:=Sl ak) (λx0=>⟨x0⟩) (λx=>x.aj) (λ_=>rfl)
instance:iT au:=.agg'
structure bJ where
  uS:Int
  zF:Int
deriving Inhabited
instance:bH bJ:=bH.iso (α:=Int×Int) (λ⟨x0,x1⟩=>⟨x0,x1⟩) (λx=>(x.uS,x.zF)) (λ_=>rfl)
instance:iT bJ:=.agg'
structure bF where
  ak:Int
  Channel:Int
  jW:Int
  aT:Int
  BP:Int
  Time:Int
deriving Inhabited
instance:bH bF:=bH.iso (α:=Int×Int×Int×Int×Int×Int) (λ⟨x0,x1,x2,x3,x4,x5⟩=>⟨x0,x1,x2,x3,x4,x5⟩) (λx=>(x.ak,x.Channel,x.jW,x.aT,x.BP,x.Time)) (λ_=>rfl)
instance:iT bF:=.agg'
structure af where
  View:Int
  Hits:Sl Int
  bz:Sl Int
deriving Inhabited
instance:bH af:=bH.iso (α:=Int×Sl Int×Sl Int) (λ⟨x0,x1,x2⟩=>⟨x0,x1,x2⟩) (λx=>(x.View,x.Hits,x.bz)) (λ_=>rfl)
instance:iT af:=.agg'
structure ay where
  Z:Int
  Low:Int
  High:Int
deriving Inhabited
instance:bH ay:=bH.iso (α:=Int×Int×Int) (λ⟨x0,x1,x2⟩=>⟨x0,x1,x2⟩) (λx=>(x.Z,x.Low,x.High)) (λ_=>rfl)
instance:iT ay:=.agg'
structure aU where
  au:au
  hits:Sl bF
  kW:Sl (Sl ay)
  rules:bJ
deriving Inhabited
instance:bH aU:=bH.iso (α:=au×Sl bF×Sl (Sl ay)×bJ) (λ⟨x0,x1,x2,x3⟩=>⟨x0,x1,x2,x3⟩) (λx=>(x.au,x.hits,x.kW,x.rules)) (λ_=>rfl)
instance:iT aU:=.agg'
structure placed where
  ak:ak
  index:Int
deriving Inhabited
instance:bH placed:=bH.iso (α:=ak×Int) (λ⟨x0,x1⟩=>⟨x0,x1⟩) (λx=>(x.ak,x.index)) (λ_=>rfl)
instance:iT placed:=.agg'
structure found where
  aU:Pt aU
  fits:Sl af
  aW:Sl af
deriving Inhabited
instance:bH found:=bH.iso (α:=Pt aU×Sl af×Sl af) (λ⟨x0,x1,x2⟩=>⟨x0,x1,x2⟩) (λx=>(x.aU,x.fits,x.aW)) (λ_=>rfl)
instance:iT found:=.agg'
structure aP where
  Num:Int
  bT:Int
deriving Inhabited
instance:bH aP:=bH.iso (α:=Int×Int) (λ⟨x0,x1⟩=>⟨x0,x1⟩) (λx=>(x.Num,x.bT)) (λ_=>rfl)
instance:iT aP:=.agg'
structure Line where
  dM:aP
  Start:aP
deriving Inhabited
instance:bH Line:=bH.iso (α:=aP×aP) (λ⟨x0,x1⟩=>⟨x0,x1⟩) (λx=>(x.dM,x.Start)) (λ_=>rfl)
instance:iT Line:=.agg'
structure list where
  bQ:Sl ay
deriving Inhabited
instance:bH list:=bH.iso (α:=Sl ay) (λx0=>⟨x0⟩) (λx=>x.bQ) (λ_=>rfl)
instance:iT list:=.agg'
structure straight where
  bI:Int
  start:Int
  den:Int
deriving Inhabited
instance:bH straight:=bH.iso (α:=Int×Int×Int) (λ⟨x0,x1,x2⟩=>⟨x0,x1,x2⟩) (λx=>(x.bI,x.start,x.den)) (λ_=>rfl)
instance:iT straight:=.agg'
structure set where
  list:list
  dm:Sl straight
deriving Inhabited
instance:bH set:=bH.iso (α:=list×Sl straight) (λ⟨x0,x1⟩=>⟨x0,x1⟩) (λx=>(x.list,x.dm)) (λ_=>rfl)
instance:iT set:=.agg'
structure ER where
  Z:Int
  X:Int
  W:Int
  Y:Int
deriving Inhabited
instance:bH ER:=bH.iso (α:=Int×Int×Int×Int) (λ⟨x0,x1,x2,x3⟩=>⟨x0,x1,x2,x3⟩) (λx=>(x.Z,x.X,x.W,x.Y)) (λ_=>rfl)
instance:iT ER:=.agg'
structure qw where
  X:Int
  Y:Int
deriving Inhabited
instance:bH qw:=bH.iso (α:=Int×Int) (λ⟨x0,x1⟩=>⟨x0,x1⟩) (λx=>(x.X,x.Y)) (λ_=>rfl)
instance:iT qw:=.agg'
structure kZ where
  zmU:Int
  Hits:Sl Int
  aj:Sl Int
  Ux:af
deriving Inhabited
instance:bH kZ:=bH.iso (α:=Int×Sl Int×Sl Int×af) (λ⟨x0,x1,x2,x3⟩=>⟨x0,x1,x2,x3⟩) (λx=>(x.zmU,x.Hits,x.aj,x.Ux)) (λ_=>rfl)
instance:iT kZ:=.agg'
structure Bin where
  View:Int
  Low:aP
  High:aP
deriving Inhabited
instance:bH Bin:=bH.iso (α:=Int×aP×aP) (λ⟨x0,x1,x2⟩=>⟨x0,x1,x2⟩) (λx=>(x.View,x.Low,x.High)) (λ_=>rfl)
instance:iT Bin:=.agg'
structure Tally where
  zgk:Int
  sO:Int
deriving Inhabited
instance:bH Tally:=bH.iso (α:=Int×Int) (λ⟨x0,x1⟩=>⟨x0,x1⟩) (λx=>(x.zgk,x.sO)) (λ_=>rfl)
instance:iT Tally:=.agg'
instance:sQ Int:=⟨λ_=>rfl⟩
instance:sQ Bool:=⟨λ_=>rfl⟩
instance:sQ bZ:=⟨λ_=>rfl⟩
instance:sQ aT:=⟨λ_=>rfl⟩
instance:sQ ak:=⟨λ_=>rfl⟩
instance:sQ au:=⟨λ_=>rfl⟩
instance:sQ bJ:=⟨λ_=>rfl⟩
instance:sQ bF:=⟨λ_=>rfl⟩
instance:sQ af:=⟨λ_=>rfl⟩
instance:sQ ay:=⟨λ_=>rfl⟩
instance:sQ aU:=⟨λ_=>rfl⟩
instance:sQ placed:=⟨λ_=>rfl⟩
instance:sQ found:=⟨λ_=>rfl⟩
instance:sQ aP:=⟨λ_=>rfl⟩
instance:sQ Line:=⟨λ_=>rfl⟩
instance:sQ list:=⟨λ_=>rfl⟩
instance:sQ straight:=⟨λ_=>rfl⟩
instance:sQ set:=⟨λ_=>rfl⟩
instance:sQ ER:=⟨λ_=>rfl⟩
instance:sQ qw:=⟨λ_=>rfl⟩
instance:sQ kZ:=⟨λ_=>rfl⟩
instance:sQ Bin:=⟨λ_=>rfl⟩
instance:sQ Tally:=⟨λ_=>rfl⟩
theorem krY{p:Prop}(h:p:=by kernel_rfl):p:=h
theorem dV [aJ]{P:Program}{N:Nat}{Γ:bU}{A δ ρ:Type}[dG δ][dG ρ]{aQ:dK}{f:FuncId}{x:δ}{k:ρ->Option A}{r:Option A}(h:Go.Pm.runT P Γ N aQ f (iO k) (dG.enc x)=r:=by kernel_rfl):(ae.ty (aF P N Γ aQ f) x:ae ρ).T k=r:=zP6.trans h
theorem dW [aJ]{P:Program}{N:Nat}{T:Tabs}{vv:List Nat}{δ ρ:Type}[dG δ][dG ρ]{aQ:dK}{f:FuncId}(h:ax P T)(hb:WF P f=true:=by kernel_rfl):Ok P f (ae.un (ae.ty (aF P N (gY T vv) aQ f):δ->ae ρ)):=ztK (wz h (dL hb))
abbrev iK{δ ρ:Type}[dG δ][dG ρ](N:Nat)(T:Tabs)(f:FuncId):δ->ae ρ:=ae.ty (aF Tryz.prog N (gY T []) (bY Tryz.prog f [] {}) f)
end Go.Proofs
namespace Go.Pm
variable [aJ]
open Go Go.Deep
theorem ziP(b o i j:Nat):((⟨b,o,none⟩:Addr).add i).add j=⟨b,o+i+j,none⟩:=by
 simp only[Addr.add];by_cases h1:i=0
 ·subst h1;by_cases h2:j=0
  ·subst h2;rfl
  ·rw[fB h2];rfl
 ·rw [fB h1];by_cases h2:j=0
  ·subst h2;rfl
  ·rw[fB h2]
def H0(w:World):Fz:=λb=>(w.heap[b]?).map .fz
theorem zFu(w:World):Hw (H0 w) w:=by
 intro b x h;unfold H0 at h;cases e:w.heap[b]? with
 | none=>rw[e]at h;cases h
 | some o=>rw[e]at h;cases h;exact⟨o,rfl,rfl⟩
def wfI(x:Int):Prop:=-9223372036854775808<=x/\x<=9223372036854775807
class sK (α : Type) where
  wf:α->Prop
instance:sK Int:=⟨wfI⟩
instance:sK Bool:=⟨λ_=>True⟩
instance{α:Type}[sK α]:sK (Sl α):=⟨λx=>x.len<=9223372036854775807/\∀i,i<x.len->sK.wf (x.get i)⟩
section
variable{H:Type}{en:TypeId×Value->H}{P:Program}{w:World}{sp:Nat->Bool}{held:Bool}
def Rd(H:Type)(en:TypeId×Value->H)(P:Program)(w:World)(sp:Nat->Bool)(held:Bool)(t:TypeId)(α:Type)[bH α][sK α]:Prop :=
 ∀(fuel:Nat)(cs:List Value)(x:DataW H×List MemPlace),DataW.trod en P w 0 sp held fuel t cs=some x->∃a:α,RL (Rep (H0 w)) (bH.enc a) cs/\sK.wf a
theorem zae{t:TypeId}(ht:P.underlying t=some (.int .i64)):Rd H en P w sp held t Int:=by
 intro fuel cs x h;obtain⟨n,rfl,_,hw⟩:=DataW.trod_int ht h;refine⟨n,⟨.int _ _,trivial⟩,?_⟩;simp only[Lit.wf,gG,pJ]at hw;exact⟨hw.1,hw.2⟩
theorem nK{t:TypeId}{fs:Array Field}(ht:P.underlying t=some (.struct fs)){fuel:Nat}{cs:List Value}{x:DataW H×List MemPlace}(h:DataW.trod en P w 0 sp held fuel t cs=some x) :
  cs.length=P.cellsOf t/\∀(i:Nat)(f:Field),fs[i]? = some f->∃n y,DataW.trod en P w 0 sp held n f.type ((cs.drop f.offset).take (P.cellsOf f.type))=some y:=by
 obtain⟨xs,n,_,_,hl,hx,hf⟩:=DataW.trod_struct ht h;refine⟨hl,λi f hi=>?_⟩;have iC:i<xs.length:=by rw[hx];exact(UV.1 hi).1
 exact⟨n,xs[i],by rw[hf i f hi,BR iC]⟩
theorem BZ{t e:TypeId}{α:Type}[bH α][sK α][Inhabited α]{s:Nat}(ht:P.underlying t=some (.slice e))(hc:P.cellsOf e=s)(he:s=(bH.enc (default:α)).length)(hs:0<s)
    (GR:Rd H en P w sp held e α):Rd H en P w sp held t (Sl α):=by
  have hlen:∀a:α,(bH.enc a).length=s:=λa=>by rw[he];exact(bH.sm a default).length
  intro fuel cs x h;rcases open_slice ht h with⟨rfl,_⟩|⟨a,len,cap,m,n,D,Pl,rfl,_,hl,hm,hmm,_,za9⟩
  · exact⟨⟨0,λ_=>default⟩,⟨.sl0 _ _ (λ_ _=>bH.sm _ _),trivial⟩,Cf _,λi hi=>absurd hi (UW i)⟩
  · by_cases h0 : len = 0
    · subst h0;exact⟨⟨0,λ_=>default⟩,⟨.sle _ _ _ _ (λ_ _=>bH.sm _ _),trivial⟩,Cf _,λi hi=>absurd hi (UW i)⟩
    · have hlm : len ≤ m := by rw [hmm]; split <;> omega
      rw[hc]at za9;have hex:∀i,i<len->∃y:α,(∃Iz,w.cells? 0 (a.add (i*s)) s=some Iz/\RL (Rep (H0 w)) (bH.enc y) Iz)/\sK.wf y:=by
        intro i hi;obtain⟨Iz,h1,h2⟩:=za9 i omY;obtain⟨y,h3,h4⟩:=GR _ _ _ h2;exact⟨y,⟨Iz,h1,h3⟩,h4⟩
      have hch:∃f:Nat->α,∀i,i<len->(∃Iz,w.cells? 0 (a.add (i*s)) s=some Iz/\RL (Rep (H0 w)) (bH.enc (f i)) Iz)/\sK.wf (f i):=by
        refine⟨λi=>if hi:i<len then Classical.choose (hex i hi)else default,λi hi=>?_⟩;simp only[dif_pos hi];exact Classical.choose_spec (hex i hi)
      obtain⟨f,hf⟩:=hch
      -- the block
      have nS:∀i,i<len->∀j,j<s->∃Iz,w.cells? 0 (a.add (i*s)) s=some Iz/\RL (Rep (H0 w)) (bH.enc (f i)) Iz/\w.cell? ((a.add (i*s)).add j)=Iz[j]?/\Iz.length=s:=by
        intro i hi j hj;obtain⟨⟨Iz,h1,h2⟩,_⟩:=hf i hi;obtain⟨_,h3,h4⟩:=World.cells?_some h1;exact⟨Iz,h1,h2,h4 j hj,h3⟩
      obtain⟨cs0,_,_,hc0,hl0⟩:=nS 0 omY 0 hs;have ha0:w.cell? a=cs0[0]?:=by simpa [Addr.add]using hc0
      rw[BR omY]at ha0;obtain⟨C,ty,fr,hblk,zKe⟩:∃C ty fr,w.heap[a.block]? = some (.cells C ty fr)/\a.spot=none:=by
        unfold World.cell? at ha0;split at ha0
        · rename_i C ty fr hb;refine⟨C,ty,fr,hb,?_⟩;cases hsp:a.spot with
          | none=>rfl
          | some k=>rw[hsp]at ha0;simp at ha0
        · cases ha0
      have ea:a=⟨a.block,a.off,none⟩:=by rw[<- zKe]
      have hat:∀i j,i<len->j<s->∃Iz,RL (Rep (H0 w)) (bH.enc (f i)) Iz/\C[a.off+i*s+j]? = Iz[j]?/\Iz.length=s:=by
        intro i j hi hj;obtain⟨Iz,_,h2,h3,h4⟩:=nS i hi j hj;refine⟨Iz,h2,?_,h4⟩;rw[<- h3];have e2:(a.add (i*s)).add j=⟨a.block,a.off+i*s+j,none⟩:=(jX (λz:Addr=>(z.add (i*s)).add j) ea).trans (ziP _ _ _ _);rw[e2];simp[World.cell?,hblk]
      refine⟨⟨len,f⟩,⟨?_,trivial⟩,by simp only[maxLen]at hm;show len<=_;omega,λi hi=>(hf i hi).2⟩;rw[ea];show Rep (H0 w) (.sl len (bH.enc (default:α)).length (λi=>bH.enc (f i))) _;rw[<- he];refine .sl len s _ (λ_ _=>bH.sm _ _) a.block a.off cap C ty fr (λi j=>C.getD (a.off+i*s+j) undef) (by simp[H0,hblk]) hl (λi _=>hlen _) ?_ ?_
      · intro i j x hi hx;have hj:j < s:=by have:=(AY.1 hx).1;rw[hlen] at this;exact this
        obtain⟨Iz,h1,h2,h3⟩:=hat i j hi hj;rw[xX,h2,BR omY];rfl
      · intro i j x hi hx;have hj:j < s:=by have:=(AY.1 hx).1;rw[hlen] at this;exact this
        obtain⟨Iz,h1,h2,h3⟩:=hat i j hi hj;obtain⟨v,hv,hr⟩:=h1.get j x hx;rw[xX,h2,hv];exact hr
theorem dH{α:Type}(l:List α)(o s:Nat):l.drop o=(l.drop o).take s++l.drop (o+s):=by
 rw[<- List.drop_drop];exact(qjI s (l.drop o)).symm
theorem BC{t:TypeId}{fs:Array Field}{r:Reach}{base:Nat}{v:Value}(ht:P.underlying t=some (.struct fs))(h:Value.okWide P w r base t v):∃cs,v=.agg cs:=by
 unfold Value.okWide at h;rw[ht]at h;obtain⟨cs,hv,_⟩:=h;exact⟨cs,hv⟩
def zFv:TypeDesc→Bool
  | .struct _=>false
  | .array _ _=>false
  | _=>true
theorem SX{t:TypeId}{d:TypeDesc}{r:Reach}{base:Nat}{v:Value}(ht:P.underlying t=some d)(hd:zFv d=true)(h:Value.okWide P w r base t v):v.cells.toList=[v]:=by
 unfold Value.okWide at h;rw[ht]at h;cases v with
 | agg cs =>
  exfalso;cases d<;>first|(cases hd;done)|(simp only[Cell.okWide,Cell.ok,ht]at h)
 | _=>rfl
theorem zoi{h:Fz}{p:PV}{v:Value}(hv:v.cells.toList=[v])(r:RL (Rep h) [p] v.cells.toList):nU h (.one p) v:=by
 rw[hv]at r;exact r.1
theorem zaf{h:Fz}{l:List PV}{v:Value}(hv:∃cs,v=.agg cs)(r:RL (Rep h) l v.cells.toList):nU h (.agg l) v:=by
 obtain⟨cs,rfl⟩:=hv;exact⟨cs.toList,by simp,r⟩
theorem ziQ{w':World}(b:xJ (H0 w) w.heap.size w w'):Go.RowKit.Below w.heap.size w w' :=
 ⟨b.os,b.tape,b.output,b.size,λk hk=>b.block k hk⟩
end
end Go.Pm
namespace Go.Pm
section perm
variable{c:Nat->Nat->Int}
theorem zT(x:Nat):∀l:List Nat,(QY c x l).Perm (x::l)
  | []=>.refl _
  | y::r=>by
    unfold QY;split
    · exact .refl _
    · exact((zT x r).cons y).trans (.swap _ _ _)
theorem BD(n:Nat):(yG n c).Perm (List.range n):=by
 unfold yG;generalize List.range n=l
 induction l with
 | nil=>exact .refl _
 | cons x l ih=>exact(zT x _).trans (ih.cons x)
def leB(c:Nat->Nat->Int)(a b:Nat):Prop:=¬c b a<0
theorem zcq{n:Nat}(H:STO n c){x:Nat}(hx:x<n):∀{l:List Nat},(∀y∈l,y<n)→l.Pairwise (leB c)→(QY c x l).Pairwise (leB c)
  | [],_,_=>by simp[QY]
  | y::r,hl,hp=>by
    have hy:=hl y lq;rw[qdy]at hp;unfold QY;split
    · rename_i h;have h:=dqS h;rw[qdy];refine⟨λz hz=>?_,qdy.2 hp⟩;have hxy:leB c x y:=λh2=>by
        have:=H.1 x hx;have:=H.2.2 x y x hx hy hx h h2;omega
      rcases kR.1 hz with rfl|hz
      · exact hxy
      · intro h2;exact hp.1 z hz (H.2.2 z x y (hl z (jU _ hz)) hx hy h2 h)
    · rename_i h;have h:=of_decide_eq_false h;rw[qdy];refine⟨λ z hz=>?_,zcq H hx (λ z hz=>hl z (jU _ hz)) hp.2⟩;rcases kR.1 ((zT x r).mem_iff.1 hz) with rfl | hz
      · exact h
      · exact hp.1 z hz
theorem WG{n:Nat}(H:STO n c):(yG n c).Pairwise (leB c):=by
 have key:∀l:List Nat,(∀y∈l,y<n)->(l.foldr (QY c) []).Pairwise (leB c)/\∀y∈l.foldr (QY c) [],y<n:=by
  intro l
  induction l with
  | nil=>intro _;exact⟨List.Pairwise.nil,λy hy=>by simp at hy⟩
  | cons x l ih =>
   intro h;obtain⟨h1,h2⟩:=ih λy hy=>h y (jU _ hy);have hx:=h x lq;refine⟨zcq H hx h2 h1,λy hy=>?_⟩;rcases kR.1 ((zT x _).mem_iff.1 hy)with rfl|hy
   ·exact hx
   ·exact h2 y hy
 exact(key _ λy hy=>JC.1 hy).1
theorem zah{n:Nat}(H:STO n c){l:List Nat}(hp:l.Perm (List.range n))(hs:l.Pairwise (leB c)):l=yG n c:=by
 refine qj9 (le:=leB c) (λa b ha hb h1 h2=>?_) hs (WG H) (hp.trans (BD n).symm);have ha:=JC.1 (hp.mem_iff.1 ha);have hb:=JC.1 ((BD n).mem_iff.1 hb);by_cases e:a=b
 ·exact e
 ·rcases H.2.1 a b ha hb e with h | h
  ·exact absurd h.1 h2
  ·exact absurd h.1 h1
end perm
end Go.Pm
namespace Go.Pm
variable [aJ]
open Go.Shelf Go.RowKit Go.Lib Go.Sort Go.Proofs
theorem zel{w w':World}(h1:w'.heap=w.heap)(h2:w'.tape=w.tape)(h3:w'.drawn=w.drawn)(h4:w'.os=w.os)(h5:w'.output=w.output):w'=w:=by
 cases w;cases w';simp_all
theorem ziR{w w':World}{h:Fz}(b : @xJ ⟨1⟩ h w.heap.size w w'):∃q os,w'=grow (w.drewN q) os:=by
 obtain⟨bos,zFw,zQa,zZM,zw0,zw1⟩:=b;refine⟨w'.drawn-w.drawn,w'.heap.extract w.heap.size w'.heap.size,zel ?_ zFw ?_ bos zQa⟩
 ·show w'.heap = w.heap ++ w'.heap.extract w.heap.size w'.heap.size;apply Array.ext_getElem?;intro i;rw[Array.getElem?_append];split
  ·rename_i hl;exact zw1 i hl
  ·rename_i hl;rw[Array.getElem?_extract];by_cases iC:i < w'.heap.size
   ·rw[eX omY];congr 1;omega
   ·rw[fB omY,qjE omY]
 ·show w'.drawn=w.drawn+(w'.drawn-w.drawn);have:w.drawn*1<=w'.drawn*1:=zw0;omega
theorem SY{w:World}{g q:Nat}{cur:Array Value}{e:TypeId}{fr:Nat×Nat}{off:Nat}(F:Array Value)(hb:w.heap[g]? = some (.cells cur e fr)) :
  ∃Yy,(putRow id (Sort.ahead w q) g off F).heap[g]? = some (.cells Yy e fr)/\Yy.size=cur.size:=by
 refine⟨putCells id off F cur,?_,by simp[putCells]⟩;simp[putRow,mapBlock,Sort.ahead,jqc,hb,onCells]
theorem Ij{w:World}{g q off:Nat}(F:Array Value){k:Nat}(hk:k≠g):(putRow id (Sort.ahead w q) g off F).heap[k]? = w.heap[k]?:=by
 simp[putRow,mapBlock,Sort.ahead,jqc,jqa hk]
theorem ziS{C:List PA→ae (List PA)}{caps:List PV}{ag:Bool}{get:Nat→List PV}{i j:Nat}(h:(JK C caps ag get i j).isSome=true) :
  ∃rs,(C (elP ag (get i)::elP ag (get j)::caps.map .one)).o=some rs/\rs=[.one (.int .i64 (nY C caps ag get i j))]:=by
 unfold nY;cases e:JK C caps ag get i j with
 | none=>rw[e]at h;cases h
 | some c =>
  unfold JK at e;obtain⟨rs,h1,h2⟩:=ae.T_some e;refine⟨rs,h1,?_⟩;split at h2
  ·cases h2;rfl
  ·cases h2
theorem Qu{P:Program}{ρ:Ren}(L:SlLaysF0.n6 P ρ){e s b:Nat}(he:ρ.t 24=e)(uP:jD P e=some true)(jO:qA P e=some s)(hc:dD P (ρ.f 6)):gz P (ρ.f 6) (.sort e s b):=by
 intro w h base v n get gf caps cv ag C hC hcv uO _ iF ⟨xs,jd,hr⟩ lU hw dh QL ⟨hn,hS,hO⟩;rw[uP]at uO;simp only[bW]at uO;subst uO;refine⟨hc,?_⟩;have hdr:∀(w':World)(k:Nat),w.drawn<=w.drawn+k:=λ_ k=>Nat.le_add_right _ _;have none:∀(p:Option Addr)(cap:Nat),n=0->v=.slice p 0 cap->Calls P (ρ.f 6) #[v,.func (.func gf) #[] cv.toArray] w λr w'=>r=.returned (.tuple #[])/\Ai h w' base e s v n (JL n (nY C caps true get) get)/\GrB w w' v.ownBlock:=by
  rintro p cap rfl rfl;refine(AnyF.slices_SortFunc_none L p cap _ w).mono ?_;rintro r w' ⟨rfl,rfl⟩;exact⟨rfl,⟨xs,jd,λi hi=>absurd hi (UW i)⟩,⟨rfl,rfl,rfl,kC _,λ_ _ _=>rfl⟩,kC _⟩
 rcases jd.2 with⟨h1,h2⟩|⟨OW,cap,cur,rfl,hb,nS,zvi,kE,hcs,htk⟩
 ·exact none _ _ h2 h1
 by_cases hn0:n=0
 ·subst hn0;exact none _ _ rfl rfl
 have:Inhabited (Fin n):=⟨⟨0,omY⟩⟩;let enc:Fin n->List Value:=λi=>(xs.drop (i.val*s)).take s;let c:=nY C caps true get;let cf:Fin n->Fin n->Int:=λx y=>c x.val y.val;let d:Array (Fin n):=Array.ofFn id;have OX:d.size=n:=Array.size_ofFn;have hdi:∀i (hi:i<n),d[i]! = ⟨i,hi⟩:=λi hi=>by
  rw[qj1 d i (by rw[OX];exact hi)];simp[d]
 have iC:OW<w.heap.size:=(UV.1 nS).1;have hbn:h OW=Option.none:=dh OW rfl;have hmul:∀i,i<n->i*s+s<=n*s:=λi hi=>by have:=QX s (qdw hi);rw[Ur]at this;exact this
 have hk:∀x,(enc x).length=s:=λx=>by
  have:=hmul x.val x.isLt;simp only[enc,qdH,Y8,jd.1];omega
 have zQb:∀j,j<n*s->cur[j]? = xs[j]?:=λj hj=>by
  have:(cur.toList.take (n*s))[j]? = xs[j]?:=by rw[htk]
  rw[I4,eX hj]at this;simpa using this
 have hxl:∀j,j<n*s->∃u,xs[j]? = some u:=λj hj=>⟨xs[j]'(by rw[jd.1];exact hj),BR _⟩;have h1:∀x,∀u∈enc x,u.oneCell'=true:=λx u hu=>by
  obtain⟨j,hj⟩:=Za hu;obtain⟨p,_,hp⟩:=(hr x.val x.isLt).get' j u hj;exact hp.one
 have zFx:∀j (hj:j<n*s),(flatK enc s d)[j]! = xs[j]'(by rw[jd.1];exact hj):=λj hj=>by
  have hq:j/s<n:=jqm (by rw[qdV];exact hj);rw[get_flatK _ _ _ _ (by rw[OX];exact hj),hdi _ hq];have hm:=Nat.mod_lt j iF;have hdm:=jqN j s;rw[qj1 _ _ (by rw[hk];exact hm)];simp only[enc,List.getElem_take,List.getElem_drop];congr 1;rw[qdV];exact hdm
 have hH:HoldsK enc s w OW 0 d:=λj hj=>by
  have hj:j<n*s:=by rw[size_flatK,OX]at hj;exact hj
  refine⟨?_,frozen_of_row w OW _ cur e nS⟩;rw[zFx j hj,cell_of nS,NV,zQb j hj];exact BR _
 have eg:∀args w,(callFunc gf args).run P w=.ok (.enter gf args) w:=by
  have hcg:dD P gf:=by
   obtain⟨rs,hwp,_⟩:=ziS (hS 0 0 omY omY);exact(hC _ _ hwp w h (.agg (enc ⟨0,omY⟩).toArray :: .agg (enc ⟨0,omY⟩).toArray::cv) ⟨⟨_,rfl,hr 0 omY⟩,⟨_,rfl,hr 0 omY⟩,RL.map_left.2 hcv⟩ hw).1
  exact λargs w=>eG hcg
 have zXz:CmpLays P gf cv.toArray enc s cf OW 0 d.size w:=by
  intro m os dk hdk x y;obtain⟨rs,hwp,hrs⟩:=ziS (hS x.val y.val x.isLt y.isLt);have hwh:Hw h (sortWorldK enc s w OW 0 m dk os):=hw.same λk o hk=>by
   have hkb:k≠OW:=λe=>by rw[e,hbn]at hk;cases hk
   have hkl:=hw.lt hk;show((putRow id (Sort.ahead w m) OW 0 (flatK enc s dk)).heap++os)[k]? = _;rw[qdh (by simpa [putRow,mapBlock,Sort.ahead]using hkl)];exact Ij _ hkb
  obtain⟨_,dA⟩:=hC _ _ hwp (sortWorldK enc s w OW 0 m dk os) h (.agg (enc x).toArray :: .agg (enc y).toArray::cv) ⟨⟨_,rfl,hr x.val x.isLt⟩,⟨_,rfl,hr y.val y.isLt⟩,RL.map_left.2 hcv⟩ hwh;rw[show(#[Value.agg (enc x).toArray,.agg (enc y).toArray]++cv.toArray)=(Value.agg (enc x).toArray :: .agg (enc y).toArray::cv).toArray by simp];refine dA.mono ?_;rintro e' w' ⟨h',v',rfl,oI,su,_,_,_⟩;subst hrs;have AX:v'=.int .i64 (cf x y):=by
   have:Rep h' (.int .i64 (cf x y)) v':=oI;cases this;rfl
  subst AX;exact⟨rfl,ziR su⟩
 have zQc:SWO (ltOf cf):=by
  refine⟨λx=>?_,λx y z hxy hyz=>?_,λx y z hxy hyz=>?_⟩
  ·have:0≤c x.val x.val:=hO.1 x.val x.isLt;simp only[ltOf,dq2];show ¬c x.val x.val<0;omega
  ·simp only [ltOf,pJ]at hxy hyz ⊢;exact hO.2.2 _ _ _ x.isLt y.isLt z.isLt hxy hyz
  ·simp only [ltOf, dq2] at hxy hyz ⊢;intro hxz;have hxy : ¬ c x.val y.val < 0:=hxy;have hyz : ¬ c y.val z.val < 0:=hyz;have hxz:c x.val z.val < 0:=hxz;by_cases e1:y.val=z.val
   ·rw[e1]at hxy;exact hxy hxz
   ·by_cases e2 : x.val = y.val
    ·rw[e2]at hxz;exact hyz hxz
    ·have a1 : c z.val y.val < 0 := by rcases hO.2.1 y.val z.val y.isLt z.isLt e1 with h | h; exact absurd h.1 hyz; exact h.1
     exact hxy (hO.2.2 _ _ _ x.isLt z.isLt y.isLt hxz a1)
 have aE:∀w,(isAgg (ρ.t 24)).run P w=.ok true w:=λw=>by rw[he];exact oh uP
 have zE:∀w,(Go.sizeOf (ρ.t 24)).run P w=.ok s w:=λw=>by rw[he];exact run_sizeOf jO
 have dA:=AnyQ.slices_SortFunc L s aE zE enc hk h1 cf zQc gf cv.toArray OW 0 cap d w eg zXz hH iC (by rw[OX];omega);rw[OX]at dA;refine dA.mono ?_;rintro r w' ⟨rfl,d',m,os,zKH,Iw,rfl⟩;obtain⟨hps,_,hpp⟩:=zKH;have zai:d'.size=n:=by rw[hps,OX]
 have GN:∀(z:Array (Fin n)),z.size=n->z.extract 0 n=z:=λz hz=>Array.ext (by simp[hz]) (λi h1 h2=>by simp);rw[GN d' zai,GN d OX]at hpp;have hl:d'.toList.map Fin.val=yG n c:=by
  refine zah hO ?_ ?_
  ·refine(hpp.map Fin.val).trans ?_;have:d.toList.map Fin.val=List.range n:=by
    apply qdq;intro i;simp only[d,qdc];by_cases hi:i<n
    ·simp[hi]
    ·rw[qdt (by simp;omega),qdt (by simp;omega)];rfl
   rw[this]
  ·rw [qjc, qdk];intro i j hi hj O5;have kN:i < n:=by simpa [zai] using hi
   have qI:j<n:=by simpa [zai]using hj
   have:=Iw i j (Cf _) O5 qI;rw[qj1 d' j omY,qj1 d' i omY]at this;simp only[ltOf,dq2]at this;exact this
 have za9:∀i (hi:i<n),JL n c get i=get (d'[i]'omY).val:=λi hi=>by
  unfold JL;rw[<- hl];congr 1;rw[jqU,qdc];simp[zai,hi]
 obtain⟨Yy,zBj,zKF⟩:=SY (q:=m) (off:=0) (flatK enc s d') nS;have zdb:(sortWorldK enc s w OW 0 m d' os).heap[OW]? = some (.cells Yy e (0,0)):=by
  show((putRow id (Sort.ahead w m) OW 0 (flatK enc s d')).heap++os)[OW]? = _;rw[qdh (by simpa [putRow,mapBlock,Sort.ahead]using iC)];exact zBj
 have hH':HoldsK enc s (sortWorldK enc s w OW 0 m d' os) OW 0 d':=holdsK_sortWorldK_c enc s w OW 0 d d' m os hH iC (by rw[zai,OX]);have zFy:∀j (hj:j<n*s),Yy[j]? = some ((flatK enc s d')[j]!):=λj hj=>by
  have:=(hH' j (by rw[size_flatK,zai];exact hj)).1;rw[cell_of zdb,NV]at this;exact this
 refine⟨rfl,⟨Yy.toList.take (n*s),⟨by rw[qdH,qju,zKF,hcs];exact Nat.min_eq_left (QX s zvi),.inr ⟨OW,cap,Yy,rfl,hb,zdb,zvi,kE,by rw[zKF,hcs],rfl⟩⟩,λi hi=>?_⟩,?_⟩
 ·have e1:((Yy.toList.take (n*s)).drop (i*s)).take s=enc (d'[i]'omY):=by
   apply qdq;intro j;have hm:=hmul i hi;rw[I4];split
   ·rename_i hj;rw[qdr,I4,eX omY,qze,zFy _ omY];have hdiv:(i * s+j) / s=i:=by rw[qdV,Nat.mul_add_div iF,Nat.div_eq_of_lt hj,qjd]
    have zlI:(i*s+j)%s=j:=by rw[qdV,jqO,jqJ hj]
    rw[get_flatK _ _ _ _ (by rw[zai];omega),hdiv,zlI,qj1 d' i omY,qj1 _ _ (by rw[hk];exact hj)];exact(BR _).symm
   ·rename_i hj;rw[qdt (by rw[hk];omega)]
  rw[e1,za9 i hi];exact hr _ (d'[i]'omY).isLt
 ·refine ⟨⟨rfl, rfl, rfl, ?_, fun k hk ja => ?_⟩, JZ (Nat.le_add_right _ _)⟩
  ·show w.heap.size≤((putRow id (Sort.ahead w m) OW 0 (flatK enc s d')).heap++os).size;simp[putRow,mapBlock,Sort.ahead]
  ·show((putRow id (Sort.ahead w m) OW 0 (flatK enc s d')).heap++os)[k]? = _;rw[qdh (by simpa [putRow,mapBlock,Sort.ahead]using hk)];exact Ij _ λe=>ja (by rw[e];rfl)
end Go.Pm
namespace Go.Pm
open Go.Shelf Go.RowKit Go.Lib Go.Proofs
theorem zaj{P:Program}{ρ:Ren}(L:SlLaysE0.n41 P ρ)(i0:TypeInfo)(z:Value)(size bytes:Nat)(hi:P.info? (ρ.t 23)=some i0)(hz0:i0.zero=some z)(hz1:i0.size=size)(hz2:i0.bytes=bytes)(Ak:z.cells.size=size)(jO:0<size)
    (z23:∀w,(Go.sizeOf (ρ.t 23)).run P w=.ok size w) (a:Addr) (c:Nat) (w:World) :
    Calls P (ρ.f 41) #[.slice (some a) 0 c] w λe w'=>∃v',e=.returned v'/\w'.ownsRow w.heap.size (ρ.t 23) size v' 0 []/\Below w.heap.size w w':=by
  have mixed:=L.mixed;have t4:=L.t4;have a4:=L.a4;have z4:=L.z4;have v4:=L.v4;have t22:=L.t22;have a22:=L.a22;have z22:=L.z22;have v22:=L.v22;have q22:∀(w:World)(a:Option Addr)(n c n' c':Nat),(binOp .eql (ρ.t 22) (.slice a n c) (.slice none n' c')).run P w=.ok (.bool a.isNone) w:=λw a n c n' c'=>Lib.run_eql_slice_nil w _ _ a n c n' c' L.t22;have u22:∀w,Sem.run P (underlying (ρ.t 22)) w=.ok (TypeDesc.slice (ρ.t 23)) w:=λw=>run_underlying t22;obtain⟨_,_,FG⟩:=L.f41
  go_enter FG,SlBodyN.n41_ntmps ρ
  go_wp2_with (at_builtin;refine wpList_append_own _ rfl _ _ (ρ.t 22) rfl w.heap.size (ρ.t 23) i0 z size bytes t22 hi hz0 hz1 hz2 Ak jO _ _ _ rfl (World.ownsRow_made w #[] 0 (kC _) (Cf _) (by simp)) a 0 c [] rfl (by simp) (by intro j u hj;simp at hj) (by intro u hu;cases hu) (by unfold maxLen;omega) omY (by simp) ?_)
  intro v' w1 jd zdb za4
  go_wp2
  go_ret
  exact⟨v',rfl,by simpa using jd,((Below.refl _ w).alloc (kC _) _).grown zdb (by simp) (by intro k hk;simp[Value.ownBlock]at hk;omega)⟩
theorem Qv{P:Program}{ρ:Ren}(L:SlLaysE0.n41 P ρ){e s b:Nat}{i0:TypeInfo}{z:Value}(he:ρ.t 23=e)(hi:P.info? e=some i0)(hz0:i0.zero=some z)(hz1:i0.size=s)(hz2:i0.bytes=b)(Ak:z.cells.size=s)(jO:qA P e=some s)(hs:0<s)
    (hc:dD P (ρ.f 41)):gz P (ρ.f 41) (.clone e s b):=by
  subst he;intro w h v n get hv hw h1 h2;refine⟨hc,?_⟩;have zE:∀w,(Go.sizeOf (ρ.t 23)).run P w=.ok s w:=λw=>run_sizeOf jO
  have fin:∀(v':Value)(w':World)(news:List Value),w'.ownsRow w.heap.size (ρ.t 23) s v' n news->Below w.heap.size w w'->(∀i,i<n->RL (Rep h) (get i) ((news.drop (i*s)).take s)) ->
      ∃(h':Fz)(u:Value),Ending.returned v'=.returned u/\u.oneCell'=true/\Ai h' w' w.heap.size (ρ.t 23) s u n get/\(∀k,u.ownBlock=some k->h' k=none) /\
        xJ h w.heap.size w w'/\jV h h'/\Hw h' w'/\∀b o,h' b=some o->h b=some o\/w.heap.size<=b:=by
    intro v' w' news jd su hr;have hb:xJ h w.heap.size w w':=⟨su.os,su.tape,su.output,su.size,kC _,λk hk=>su.block k hk⟩;refine⟨h,v',rfl,?_,⟨news,jd,hr⟩,λk hk=>?_,hb,λ_ _ h=>h,hw.same λk o hk=>hb.block k (hw.lt hk),λ_ _ h=>.inl h⟩
    · rcases jd.2 with⟨rfl,_⟩|⟨g,cap,cur,rfl,_⟩<;>rfl
    · rcases jd.2 with ⟨rfl, _⟩ | ⟨g, cap, cur, rfl, hg, _⟩
      · cases hk
      · have : g = k := by simpa [Value.ownBlock] using hk
        subst this;cases e:h g with
        | none=>rfl
        | some o=>have:=hw.lt e;omega
  cases hv with
  | sl0 _ _ hu =>
    refine(AnyE.slices_Clone_nil L 0 0 w).mono ?_;rintro r w' ⟨rfl,rfl⟩;exact fin _ _ [] (World.ownsRow_nil _ _ _ _) (Below.refl _ _) λi hi=>absurd hi (UW i)
  | sle _ _ a cap hu =>
    refine(zaj L i0 z s b hi hz0 hz1 hz2 Ak hs zE a cap w).mono ?_;rintro r w' ⟨v',rfl,jd,su⟩;exact fin _ _ [] jd su λi hi=>absurd hi (UW i)
  | sl _ _ _ hu bk off cap C ty fr vs hb kE hlen Aq hr =>
    let news:List Value:=(List.range (n*s)).map λq=>vs (q/s) (q%s);have hl:news.length=n*s:=by simp[news]
    have hq:∀q,q<n*s->q/s<n/\q%s<s:=λq hq=>⟨jqm (by rw[qdV];exact hq),Nat.mod_lt q hs⟩;have hn:∀q,q<n*s->news[q]? = some (vs (q/s) (q%s)):=λq hq=>by simp[news,hq]
    have hx:∀i j,i<n->j<s->∃x,(get i)[j]? = some x:=λi j hi hj=>⟨_,BR (by rw[hlen i hi];exact hj)⟩;have nS:=hw.fz hb;refine(AnyE.slices_Clone L i0 z s b hi hz0 hz1 hz2 Ak hs zE bk off n cap news w hl h2 h1 (λj u hj=>?_) λu hu=>?_).mono ?_
    · have hjl : j < n * s := by have := (AY.1 hj).1; omega
      obtain⟨a1,a2⟩:=hq j hjl;rw[hn j hjl]at hj;cases hj;obtain⟨x,hx⟩:=hx _ _ a1 a2;have hc:=Aq _ _ x a1 hx;have lU:=(hr _ _ x a1 hx).one;rw[show off+j/s*s+j%s=off+j by rw[qjP,qdV];rw[jqN]]at hc;rw[cell_of nS];exact hc
    · obtain ⟨j, hj⟩ := Za hu;have hjl:j < n * s:=by have:=(AY.1 hj).1;omega
      obtain⟨a1,a2⟩:=hq j hjl;rw[hn j hjl]at hj;cases hj;obtain⟨x,hx⟩:=hx _ _ a1 a2;exact(hr _ _ x a1 hx).one
    · rintro r w' ⟨v', rfl, jd, _, su⟩;refine fin _ _ news jd su λ i hi=>RL.of_get ?_ λ j x y hx hy=>?_
      · have hm : i * s + s ≤ n * s := by have := QX s (qdw hi); rw [Ur] at this; exact this
        rw[hlen i hi,qdH,Y8,hl];omega
      · have hj : j < s := by have := (AY.1 hx).1; rw [hlen i hi] at this; exact this
        have hm:i*s+s<=n*s:=by have:=QX s (qdw hi);rw[Ur]at this;exact this
        rw[I4,eX hj,qdr,hn _ omY]at hy;rw[show(i*s+j)/s=i by rw[qdV,Nat.mul_add_div hs,Nat.div_eq_of_lt hj,qjd],show(i*s+j)%s=j by rw[qdV,jqO,jqJ hj]]at hy;cases hy;exact hr i j x hi hx
end Go.Pm
namespace Go.Proofs
open Go.Shelf
open Go.Pm (jX)
def Tryz.laysS253_ren:Go.Shelf.Ren:=⟨fun|6=>253|15=>184|14=>256|28=>220|29=>221|20=>258|21=>259|22=>260|23=>261|24=>262|25=>263|26=>264|27=>265|46=>266|47=>242|48=>243|49=>267|50=>268|57=>269|n=>n,fun|22=>195|24=>204|25=>322|3=>3|39=>260|0=>0|53=>292|55=>294|4=>4|46=>286|45=>285|50=>174|5=>5|9=>9|66=>305|70=>309|76=>317|77=>221|n=>n,fun|n=>n⟩
theorem Tryz.laysS253:Go.Proofs.SlLaysF0.n6 Tryz.prog Tryz.laysS253_ren:={
  mixed:=by kernel_rfl
  f6:=⟨Tryz.f253.name,by decide,Tryz.func253.trans (jX some (by kernel_rfl))⟩
  f14:=⟨Tryz.f256.name,by decide,Tryz.func256.trans (jX some (by kernel_rfl))⟩
  f15:=Tryz.func184.trans (jX some (by kernel_rfl))
  f20:=⟨Tryz.f258.name,by decide,Tryz.func258.trans (jX some (by kernel_rfl))⟩
  f21:=⟨Tryz.f259.name,by decide,Tryz.func259.trans (jX some (by kernel_rfl))⟩
  f22:=⟨Tryz.f260.name,by decide,Tryz.func260.trans (jX some (by kernel_rfl))⟩
  f23:=⟨Tryz.f261.name,by decide,Tryz.func261.trans (jX some (by kernel_rfl))⟩
  f24:=⟨Tryz.f262.name,by decide,Tryz.func262.trans (jX some (by kernel_rfl))⟩
  f25:=⟨Tryz.f263.name,by decide,Tryz.func263.trans (jX some (by kernel_rfl))⟩
  f26:=⟨Tryz.f264.name,by decide,Tryz.func264.trans (jX some (by kernel_rfl))⟩
  f27:=⟨Tryz.f265.name,by decide,Tryz.func265.trans (jX some (by kernel_rfl))⟩
  f28:=Tryz.func220.trans (jX some (by kernel_rfl))
  f29:=Tryz.func221.trans (jX some (by kernel_rfl))
  f46:=⟨Tryz.f266.name,by decide,Tryz.func266.trans (jX some (by kernel_rfl))⟩
  f47:=Tryz.func242.trans (jX some (by kernel_rfl))
  f48:=Tryz.func243.trans (jX some (by kernel_rfl))
  f49:=⟨Tryz.f267.name,by decide,Tryz.func267.trans (jX some (by kernel_rfl))⟩
  f50:=⟨Tryz.f268.name,by decide,Tryz.func268.trans (jX some (by kernel_rfl))⟩
  f57:=⟨Tryz.f269.name,by decide,Tryz.func269.trans (jX some (by kernel_rfl))⟩
  t0:=Tryz.underlying0
  a0:=Tryz.isAgg0
  z0:=Tryz.sizeOf0
  v0:=Tryz.zeroValue0
  t3:=Tryz.underlying3
  a3:=Tryz.isAgg3
  z3:=Tryz.sizeOf3
  v3:=Tryz.zeroValue3
  t4:=Tryz.underlying4
  a4:=Tryz.isAgg4
  z4:=Tryz.sizeOf4
  v4:=Tryz.zeroValue4
  t5:=Tryz.underlying5
  a5:=Tryz.isAgg5
  z5:=Tryz.sizeOf5
  v5:=Tryz.zeroValue5
  t9:=Tryz.underlying9
  a9:=Tryz.isAgg9
  z9:=Tryz.sizeOf9
  v9:=Tryz.zeroValue9
  t22:=Tryz.underlying195
  a22:=Tryz.isAgg195
  z22:=Tryz.sizeOf195
  v22:=Tryz.zeroValue195
  t25:=Tryz.underlying322
  a25:=Tryz.isAgg322
  z25:=Tryz.sizeOf322
  v25:=Tryz.zeroValue322
  t39:=Tryz.underlying260
  a39:=Tryz.isAgg260
  z39:=Tryz.sizeOf260
  v39:=Tryz.zeroValue260
  t45:=Tryz.underlying285
  a45:=Tryz.isAgg285
  z45:=Tryz.sizeOf285
  v45:=Tryz.zeroValue285
  t46:=Tryz.underlying286
  a46:=Tryz.isAgg286
  z46:=Tryz.sizeOf286
  v46:=Tryz.zeroValue286
  t50:=Tryz.underlying174
  a50:=Tryz.isAgg174
  z50:=Tryz.sizeOf174
  v50:=Tryz.zeroValue174
  t53:=Tryz.underlying292
  a53:=Tryz.isAgg292
  z53:=Tryz.sizeOf292
  v53:=Tryz.zeroValue292
  t55:=Tryz.underlying294
  a55:=Tryz.isAgg294
  z55:=Tryz.sizeOf294
  v55:=Tryz.zeroValue294
  t66:=Tryz.underlying305
  a66:=Tryz.isAgg305
  z66:=Tryz.sizeOf305
  v66:=Tryz.zeroValue305
  t70:=Tryz.underlying309
  a70:=Tryz.isAgg309
  z70:=Tryz.sizeOf309
  v70:=Tryz.zeroValue309
  t76:=Tryz.underlying317
  a76:=Tryz.isAgg317
  z76:=Tryz.sizeOf317
  v76:=Tryz.zeroValue317
  t77:=Tryz.underlying221
  a77:=Tryz.isAgg221
  z77:=Tryz.sizeOf221
  v77:=Tryz.zeroValue221}
def Tryz.laysS133_ren:Go.Shelf.Ren:=⟨fun|6=>133|15=>184|14=>183|28=>220|29=>221|20=>212|21=>213|22=>214|23=>215|24=>216|25=>217|26=>218|27=>219|46=>241|47=>242|48=>243|49=>244|50=>245|57=>250|n=>n,fun|22=>30|24=>43|25=>220|3=>3|39=>260|0=>0|53=>292|55=>294|4=>4|46=>286|45=>285|50=>174|5=>5|9=>9|66=>305|70=>309|76=>317|77=>221|n=>n,fun|n=>n⟩
theorem Tryz.laysS133:Go.Proofs.SlLaysF0.n6 Tryz.prog Tryz.laysS133_ren:={
  mixed:=by kernel_rfl
  f6:=⟨Tryz.f133.name,by decide,Tryz.func133.trans (jX some (by kernel_rfl))⟩
  f14:=⟨Tryz.f183.name,by decide,Tryz.func183.trans (jX some (by kernel_rfl))⟩
  f15:=Tryz.func184.trans (jX some (by kernel_rfl))
  f20:=⟨Tryz.f212.name,by decide,Tryz.func212.trans (jX some (by kernel_rfl))⟩
  f21:=⟨Tryz.f213.name,by decide,Tryz.func213.trans (jX some (by kernel_rfl))⟩
  f22:=⟨Tryz.f214.name,by decide,Tryz.func214.trans (jX some (by kernel_rfl))⟩
  f23:=⟨Tryz.f215.name,by decide,Tryz.func215.trans (jX some (by kernel_rfl))⟩
  f24:=⟨Tryz.f216.name,by decide,Tryz.func216.trans (jX some (by kernel_rfl))⟩
  f25:=⟨Tryz.f217.name,by decide,Tryz.func217.trans (jX some (by kernel_rfl))⟩
  f26:=⟨Tryz.f218.name,by decide,Tryz.func218.trans (jX some (by kernel_rfl))⟩
  f27:=⟨Tryz.f219.name,by decide,Tryz.func219.trans (jX some (by kernel_rfl))⟩
  f28:=Tryz.func220.trans (jX some (by kernel_rfl))
  f29:=Tryz.func221.trans (jX some (by kernel_rfl))
  f46:=⟨Tryz.f241.name,by decide,Tryz.func241.trans (jX some (by kernel_rfl))⟩
  f47:=Tryz.func242.trans (jX some (by kernel_rfl))
  f48:=Tryz.func243.trans (jX some (by kernel_rfl))
  f49:=⟨Tryz.f244.name,by decide,Tryz.func244.trans (jX some (by kernel_rfl))⟩
  f50:=⟨Tryz.f245.name,by decide,Tryz.func245.trans (jX some (by kernel_rfl))⟩
  f57:=⟨Tryz.f250.name,by decide,Tryz.func250.trans (jX some (by kernel_rfl))⟩
  t0:=Tryz.underlying0
  a0:=Tryz.isAgg0
  z0:=Tryz.sizeOf0
  v0:=Tryz.zeroValue0
  t3:=Tryz.underlying3
  a3:=Tryz.isAgg3
  z3:=Tryz.sizeOf3
  v3:=Tryz.zeroValue3
  t4:=Tryz.underlying4
  a4:=Tryz.isAgg4
  z4:=Tryz.sizeOf4
  v4:=Tryz.zeroValue4
  t5:=Tryz.underlying5
  a5:=Tryz.isAgg5
  z5:=Tryz.sizeOf5
  v5:=Tryz.zeroValue5
  t9:=Tryz.underlying9
  a9:=Tryz.isAgg9
  z9:=Tryz.sizeOf9
  v9:=Tryz.zeroValue9
  t22:=Tryz.underlying30
  a22:=Tryz.isAgg30
  z22:=Tryz.sizeOf30
  v22:=Tryz.zeroValue30
  t25:=Tryz.underlying220
  a25:=Tryz.isAgg220
  z25:=Tryz.sizeOf220
  v25:=Tryz.zeroValue220
  t39:=Tryz.underlying260
  a39:=Tryz.isAgg260
  z39:=Tryz.sizeOf260
  v39:=Tryz.zeroValue260
  t45:=Tryz.underlying285
  a45:=Tryz.isAgg285
  z45:=Tryz.sizeOf285
  v45:=Tryz.zeroValue285
  t46:=Tryz.underlying286
  a46:=Tryz.isAgg286
  z46:=Tryz.sizeOf286
  v46:=Tryz.zeroValue286
  t50:=Tryz.underlying174
  a50:=Tryz.isAgg174
  z50:=Tryz.sizeOf174
  v50:=Tryz.zeroValue174
  t53:=Tryz.underlying292
  a53:=Tryz.isAgg292
  z53:=Tryz.sizeOf292
  v53:=Tryz.zeroValue292
  t55:=Tryz.underlying294
  a55:=Tryz.isAgg294
  z55:=Tryz.sizeOf294
  v55:=Tryz.zeroValue294
  t66:=Tryz.underlying305
  a66:=Tryz.isAgg305
  z66:=Tryz.sizeOf305
  v66:=Tryz.zeroValue305
  t70:=Tryz.underlying309
  a70:=Tryz.isAgg309
  z70:=Tryz.sizeOf309
  v70:=Tryz.zeroValue309
  t76:=Tryz.underlying317
  a76:=Tryz.isAgg317
  z76:=Tryz.sizeOf317
  v76:=Tryz.zeroValue317
  t77:=Tryz.underlying221
  a77:=Tryz.isAgg221
  z77:=Tryz.sizeOf221
  v77:=Tryz.zeroValue221}
end Go.Proofs
namespace Go.Proofs
open Go.Shelf
open Go.Pm (jX)
def Tryz.laysC181_ren:Go.Shelf.Ren:=⟨fun|41=>181|n=>n,fun|22=>39|23=>3|n=>n,fun|n=>n⟩
theorem Tryz.laysC181:Go.Proofs.SlLaysE0.n41 Tryz.prog Tryz.laysC181_ren:={
  mixed:=by kernel_rfl
  f41:=⟨Tryz.f181.name,by decide,Tryz.func181.trans (jX some (by kernel_rfl))⟩
  t4:=Tryz.underlying4
  a4:=Tryz.isAgg4
  z4:=Tryz.sizeOf4
  v4:=Tryz.zeroValue4
  t22:=Tryz.underlying39
  a22:=Tryz.isAgg39
  z22:=Tryz.sizeOf39
  v22:=Tryz.zeroValue39}
def Tryz.laysC252_ren:Go.Shelf.Ren:=⟨fun|41=>252|n=>n,fun|22=>195|23=>204|n=>n,fun|n=>n⟩
theorem Tryz.laysC252:Go.Proofs.SlLaysE0.n41 Tryz.prog Tryz.laysC252_ren:={
  mixed:=by kernel_rfl
  f41:=⟨Tryz.f252.name,by decide,Tryz.func252.trans (jX some (by kernel_rfl))⟩
  t4:=Tryz.underlying4
  a4:=Tryz.isAgg4
  z4:=Tryz.sizeOf4
  v4:=Tryz.zeroValue4
  t22:=Tryz.underlying195
  a22:=Tryz.isAgg195
  z22:=Tryz.sizeOf195
  v22:=Tryz.zeroValue195}
end Go.Proofs
namespace Go.Proofs
open Go Go.Pm
set_option maxRecDepth 100000
abbrev NK:Nat:=1000
def rD:au:=⟨.of [⟨1,1,0,0,10,10,0,⟨0,0⟩,⟨0,0⟩,2,0,.of [],.of []⟩,⟨1,2,50,0,10,10,0,⟨0,0⟩,⟨0,0⟩,2,0,.of [],.of []⟩,⟨1,1,100,0,10,10,0,⟨0,0⟩,⟨0,0⟩,2,0,.of [],.of []⟩,⟨1,2,150,0,10,10,0,⟨0,0⟩,⟨0,0⟩,2,0,.of [],.of []⟩,⟨1,1,200,0,10,10,0,⟨0,0⟩,⟨0,0⟩,2,0,.of [],.of []⟩]⟩
def zA0:Sl bF:=.of [⟨0,2,1,0,0,0⟩,⟨2,3,1,0,0,1⟩,⟨4,4,1,0,0,2⟩,⟨4,8,1,0,0,0⟩,⟨1,5,1,0,0,1⟩,⟨3,5,1,0,0,1⟩]
def zB0:Sl (Sl ay):=.of [.of [⟨0,20,30⟩],.of [⟨100,30,40⟩],.of [⟨200,40,50⟩],.of [⟨200,80,90⟩],.of [⟨50,50,60⟩],.of [⟨150,50,60⟩]]
def Jo:Pt aU:=⟨⟨rD,zA0,zB0,⟨2,0⟩⟩⟩
abbrev TB:={T:Tabs // ax aH T}
def TB.m{δ ρ:Type}[dG δ][dG ρ](T:TB)(f:FuncId)(y:δ×ρ)(h:zn2 ((gY T.1 []).fn f) y=true):TB:=⟨T.1.memo f y,ax.memo T.2 h⟩
theorem ziT:gz aH 253 (.sort 204 3 24):=Qu Tryz.laysS253 rfl rfl rfl (dL krY)
theorem ziU:gz aH 133 (.sort 43 3 56):=Qu Tryz.laysS133 rfl rfl rfl (dL krY)
theorem zgs:gz aH 181 (.clone 3 1 8):=Qv Tryz.laysC181 rfl rfl rfl rfl rfl rfl rfl (by decide) (dL krY)
theorem ziV:gz aH 252 (.clone 204 3 24):=Qv Tryz.laysC252 rfl rfl rfl rfl rfl rfl rfl (by decide) (dL krY)
def K1:TB:=⟨oC aH NK Tabs.nil
  [.f 161 {},
   .f 232 {},
   .f 233 {},
   .f 234 {},
   .f 164 {},
   .f 235 {},
   .f 201 {},
   .f 160 {}],eY ax.nil krY⟩
def K2:TB:=K1.m 160 (((rD),true):(au)×(Bool)) krY
def K3:TB:=⟨oC aH NK K2.1
  [.f 122 {},
   .f 123 {},
   .f 60 {},
   .f 112 {},
   .f 188 {},
   .f 138 {},
   .f 223 {},
   .i 251 {yl:=[3]},
   .f 246 {},
   .f 224 {},
   .f 189 {},
   .f 139 {}],eY K2.2 krY⟩
def K4:TB:=K3.m 139 (((rD,⟨0,2,1,0,0,0⟩),((.of [⟨0,20,30⟩]),0)):(au×bF)×(Sl ay×Int)) krY
def K5:TB:=K4.m 139 (((rD,⟨2,3,1,0,0,1⟩),((.of [⟨100,30,40⟩]),0)):(au×bF)×(Sl ay×Int)) krY
def K6:TB:=K5.m 139 (((rD,⟨4,4,1,0,0,2⟩),((.of [⟨200,40,50⟩]),0)):(au×bF)×(Sl ay×Int)) krY
def K7:TB:=K6.m 139 (((rD,⟨4,8,1,0,0,0⟩),((.of [⟨200,80,90⟩]),0)):(au×bF)×(Sl ay×Int)) krY
def K8:TB:=K7.m 139 (((rD,⟨1,5,1,0,0,1⟩),((.of [⟨50,50,60⟩]),0)):(au×bF)×(Sl ay×Int)) krY
def K9:TB:=K8.m 139 (((rD,⟨3,5,1,0,0,1⟩),((.of [⟨150,50,60⟩]),0)):(au×bF)×(Sl ay×Int)) krY
def K10:TB:=⟨oC aH NK K9.1
  [.f 78 {}],eY K9.2 krY⟩
def K11:TB:=K10.m 78 (((rD,⟨2,0⟩,zA0),(Jo,0)):(au×bJ×Sl bF)×(Pt aU×Int)) krY
def K12:TB:=⟨oC aH NK K11.1
  [.f 176 {},
   .f 126 {},
   .f 140 {},
   .i 173 {yl:=[7]},
   .f 121 {},
   .f 180 {},
   .f 190 {},
   .f 210 {},
   .f 179 {}],eY K11.2 krY⟩
def K13:TB:=⟨K12.1.addO 181 (.clone 3 1 8),ax.addO K12.2 zgs⟩
def K14:TB:=⟨oC aH NK K13.1
  [.f 111 {}],eY K13.2 krY⟩
def K15:TB:=K14.m 111 (((rD,(.of [⟨0,2,1,0,0,0⟩])),0):(au×Sl bF)×(Int)) krY
def K16:TB:=K15.m 111 (((rD,(.of [⟨0,2,1,0,0,0⟩,⟨2,3,1,0,0,1⟩])),0):(au×Sl bF)×(Int)) krY
def K17:TB:=K16.m 111 (((rD,(.of [⟨0,2,1,0,0,0⟩,⟨2,3,1,0,0,1⟩,⟨4,4,1,0,0,2⟩])),0):(au×Sl bF)×(Int)) krY
def K18:TB:=K17.m 111 (((rD,(.of [⟨0,2,1,0,0,0⟩,⟨2,3,1,0,0,1⟩,⟨4,8,1,0,0,0⟩])),0):(au×Sl bF)×(Int)) krY
def K19:TB:=K18.m 111 (((rD,(.of [⟨0,2,1,0,0,0⟩,⟨4,4,1,0,0,2⟩])),0):(au×Sl bF)×(Int)) krY
def K20:TB:=K19.m 111 (((rD,(.of [⟨0,2,1,0,0,0⟩,⟨4,8,1,0,0,0⟩])),0):(au×Sl bF)×(Int)) krY
def K21:TB:=K20.m 111 (((rD,(.of [⟨2,3,1,0,0,1⟩])),0):(au×Sl bF)×(Int)) krY
def K22:TB:=K21.m 111 (((rD,(.of [⟨2,3,1,0,0,1⟩,⟨4,4,1,0,0,2⟩])),0):(au×Sl bF)×(Int)) krY
def K23:TB:=K22.m 111 (((rD,(.of [⟨2,3,1,0,0,1⟩,⟨4,8,1,0,0,0⟩])),0):(au×Sl bF)×(Int)) krY
def K24:TB:=K23.m 111 (((rD,(.of [⟨4,4,1,0,0,2⟩])),0):(au×Sl bF)×(Int)) krY
def K25:TB:=K24.m 111 (((rD,(.of [⟨4,8,1,0,0,0⟩])),0):(au×Sl bF)×(Int)) krY
def K26:TB:=K25.m 111 (((rD,(.of [⟨1,5,1,0,0,1⟩])),0):(au×Sl bF)×(Int)) krY
def K27:TB:=K26.m 111 (((rD,(.of [⟨1,5,1,0,0,1⟩,⟨3,5,1,0,0,1⟩])),0):(au×Sl bF)×(Int)) krY
def K28:TB:=K27.m 111 (((rD,(.of [⟨3,5,1,0,0,1⟩])),0):(au×Sl bF)×(Int)) krY
def K29:TB:=⟨oC aH NK K28.1
  [.f 113 {},
   .f 50 {}],eY K28.2 krY⟩
def K30:TB:=K29.m 50 (((rD,(.of [⟨0,2,1,0,0,0⟩])),(⟨(-2),2⟩,0)):(au×Sl bF)×(bZ×Int)) krY
def K31:TB:=K30.m 50 (((rD,(.of [⟨0,2,1,0,0,0⟩,⟨2,3,1,0,0,1⟩])),(⟨(-1),2⟩,0)):(au×Sl bF)×(bZ×Int)) krY
def K32:TB:=K31.m 50 (((rD,(.of [⟨0,2,1,0,0,0⟩,⟨2,3,1,0,0,1⟩,⟨4,4,1,0,0,2⟩])),(⟨0,2⟩,0)):(au×Sl bF)×(bZ×Int)) krY
def K33:TB:=K32.m 50 (((rD,(.of [⟨0,2,1,0,0,0⟩,⟨2,3,1,0,0,1⟩,⟨4,8,1,0,0,0⟩])),(⟨(-1),2⟩,0)):(au×Sl bF)×(bZ×Int)) krY
def K34:TB:=K33.m 50 (((rD,(.of [⟨0,2,1,0,0,0⟩,⟨4,4,1,0,0,2⟩])),(⟨0,2⟩,0)):(au×Sl bF)×(bZ×Int)) krY
def K35:TB:=K34.m 50 (((rD,(.of [⟨0,2,1,0,0,0⟩,⟨4,8,1,0,0,0⟩])),(⟨(-2),2⟩,0)):(au×Sl bF)×(bZ×Int)) krY
def K36:TB:=K35.m 50 (((rD,(.of [⟨2,3,1,0,0,1⟩])),(⟨(-1),3⟩,0)):(au×Sl bF)×(bZ×Int)) krY
def K37:TB:=K36.m 50 (((rD,(.of [⟨2,3,1,0,0,1⟩,⟨4,4,1,0,0,2⟩])),(⟨0,3⟩,0)):(au×Sl bF)×(bZ×Int)) krY
def K38:TB:=K37.m 50 (((rD,(.of [⟨2,3,1,0,0,1⟩,⟨4,8,1,0,0,0⟩])),(⟨(-1),2⟩,0)):(au×Sl bF)×(bZ×Int)) krY
def K39:TB:=K38.m 50 (((rD,(.of [⟨4,4,1,0,0,2⟩])),(⟨0,4⟩,0)):(au×Sl bF)×(bZ×Int)) krY
def K40:TB:=K39.m 50 (((rD,(.of [⟨4,8,1,0,0,0⟩])),(⟨(-2),2⟩,0)):(au×Sl bF)×(bZ×Int)) krY
def K41:TB:=K40.m 50 (((rD,(.of [⟨1,5,1,0,0,1⟩])),(⟨(-1),3⟩,0)):(au×Sl bF)×(bZ×Int)) krY
def K42:TB:=K41.m 50 (((rD,(.of [⟨1,5,1,0,0,1⟩,⟨3,5,1,0,0,1⟩])),(⟨(-1),3⟩,0)):(au×Sl bF)×(bZ×Int)) krY
def K43:TB:=K42.m 50 (((rD,(.of [⟨3,5,1,0,0,1⟩])),(⟨(-1),3⟩,0)):(au×Sl bF)×(bZ×Int)) krY
def K44:TB:=⟨oC aH NK K43.1
  [.f 93 {},
   .f 105 {},
   .f 118 {},
   .f 162 {},
   .f 157 {},
   .f 156 {},
   .f 109 {},
   .f 207 {},
   .f 231 {},
   .f 230 {},
   .f 257 {},
   .f 238 {},
   .f 206 {},
   .f 167 {},
   .f 229 {},
   .i 228 {yl:=[13]},
   .f 197 {},
   .f 209 {},
   .f 172 {}],eY K43.2 krY⟩
def K45:TB:=K44.m 172 (((10,100),(⟨1,10⟩)):(Int×Int)×(aP)) krY
def K46:TB:=K45.m 172 (((2000,100),(⟨20,1⟩)):(Int×Int)×(aP)) krY
def K47:TB:=K46.m 172 (((20,100),(⟨1,5⟩)):(Int×Int)×(aP)) krY
def K48:TB:=K47.m 172 (((0,100),(⟨0,1⟩)):(Int×Int)×(aP)) krY
def K49:TB:=K48.m 172 (((3000,100),(⟨30,1⟩)):(Int×Int)×(aP)) krY
def K50:TB:=K49.m 172 (((20,200),(⟨1,10⟩)):(Int×Int)×(aP)) krY
def K51:TB:=K50.m 172 (((4000,200),(⟨20,1⟩)):(Int×Int)×(aP)) krY
def K52:TB:=K51.m 172 (((30,200),(⟨3,20⟩)):(Int×Int)×(aP)) krY
def K53:TB:=K52.m 172 (((10,200),(⟨1,20⟩)):(Int×Int)×(aP)) krY
def K54:TB:=K53.m 172 (((6000,200),(⟨30,1⟩)):(Int×Int)×(aP)) krY
def K55:TB:=K54.m 172 (((1000,100),(⟨10,1⟩)):(Int×Int)×(aP)) krY
def K56:TB:=K55.m 172 (((4000,100),(⟨40,1⟩)):(Int×Int)×(aP)) krY
def K57:TB:=K56.m 172 (((60,200),(⟨3,10⟩)):(Int×Int)×(aP)) krY
def K58:TB:=K57.m 172 (((70,200),(⟨7,20⟩)):(Int×Int)×(aP)) krY
def K59:TB:=K58.m 172 (((50,200),(⟨1,4⟩)):(Int×Int)×(aP)) krY
def K60:TB:=K59.m 172 (((50,100),(⟨1,2⟩)):(Int×Int)×(aP)) krY
def K61:TB:=K60.m 172 ((((-2000),100),(⟨(-20),1⟩)):(Int×Int)×(aP)) krY
def K62:TB:=K61.m 172 (((60,100),(⟨3,5⟩)):(Int×Int)×(aP)) krY
def K63:TB:=K62.m 172 ((((-3000),100),(⟨(-30),1⟩)):(Int×Int)×(aP)) krY
def K64:TB:=K63.m 172 (((40,100),(⟨2,5⟩)):(Int×Int)×(aP)) krY
def K65:TB:=K64.m 172 ((((-1000),100),(⟨(-10),1⟩)):(Int×Int)×(aP)) krY
def K66:TB:=K65.m 172 (((6000,100),(⟨60,1⟩)):(Int×Int)×(aP)) krY
def K67:TB:=K66.m 172 (((8000,200),(⟨40,1⟩)):(Int×Int)×(aP)) krY
def K68:TB:=K67.m 172 (((10000,200),(⟨50,1⟩)):(Int×Int)×(aP)) krY
def K69:TB:=K68.m 172 (((12000,200),(⟨60,1⟩)):(Int×Int)×(aP)) krY
def K70:TB:=K69.m 172 (((5000,100),(⟨50,1⟩)):(Int×Int)×(aP)) krY
def K71:TB:=K70.m 172 (((4500,100),(⟨45,1⟩)):(Int×Int)×(aP)) krY
def K72:TB:=K71.m 172 ((((-10),100),(⟨(-1),10⟩)):(Int×Int)×(aP)) krY
def K73:TB:=K72.m 172 (((6500,100),(⟨65,1⟩)):(Int×Int)×(aP)) krY
def K74:TB:=⟨oC aH NK K73.1
  [.f 198 {}],eY K73.2 krY⟩
def K75:TB:=K74.m 198 (((⟨10,2000,100⟩),(⟨⟨1,10⟩,⟨20,1⟩⟩)):(straight)×(Line)) krY
def K76:TB:=K75.m 198 (((⟨20,2000,100⟩),(⟨⟨1,5⟩,⟨20,1⟩⟩)):(straight)×(Line)) krY
def K77:TB:=K76.m 198 (((⟨0,3000,100⟩),(⟨⟨0,1⟩,⟨30,1⟩⟩)):(straight)×(Line)) krY
def K78:TB:=K77.m 198 (((⟨10,3000,100⟩),(⟨⟨1,10⟩,⟨30,1⟩⟩)):(straight)×(Line)) krY
def K79:TB:=K78.m 198 (((⟨20,4000,200⟩),(⟨⟨1,10⟩,⟨20,1⟩⟩)):(straight)×(Line)) krY
def K80:TB:=K79.m 198 (((⟨30,4000,200⟩),(⟨⟨3,20⟩,⟨20,1⟩⟩)):(straight)×(Line)) krY
def K81:TB:=K80.m 198 (((⟨10,6000,200⟩),(⟨⟨1,20⟩,⟨30,1⟩⟩)):(straight)×(Line)) krY
def K82:TB:=K81.m 198 (((⟨20,6000,200⟩),(⟨⟨1,10⟩,⟨30,1⟩⟩)):(straight)×(Line)) krY
def K83:TB:=K82.m 198 (((⟨20,1000,100⟩),(⟨⟨1,5⟩,⟨10,1⟩⟩)):(straight)×(Line)) krY
def K84:TB:=K83.m 198 (((⟨0,4000,100⟩),(⟨⟨0,1⟩,⟨40,1⟩⟩)):(straight)×(Line)) krY
def K85:TB:=K84.m 198 (((⟨60,4000,200⟩),(⟨⟨3,10⟩,⟨20,1⟩⟩)):(straight)×(Line)) krY
def K86:TB:=K85.m 198 (((⟨70,4000,200⟩),(⟨⟨7,20⟩,⟨20,1⟩⟩)):(straight)×(Line)) krY
def K87:TB:=K86.m 198 (((⟨50,6000,200⟩),(⟨⟨1,4⟩,⟨30,1⟩⟩)):(straight)×(Line)) krY
def K88:TB:=K87.m 198 (((⟨60,6000,200⟩),(⟨⟨3,10⟩,⟨30,1⟩⟩)):(straight)×(Line)) krY
def K89:TB:=K88.m 198 (((⟨50,(-2000),100⟩),(⟨⟨1,2⟩,⟨(-20),1⟩⟩)):(straight)×(Line)) krY
def K90:TB:=K89.m 198 (((⟨60,(-3000),100⟩),(⟨⟨3,5⟩,⟨(-30),1⟩⟩)):(straight)×(Line)) krY
def K91:TB:=K90.m 198 (((⟨40,0,100⟩),(⟨⟨2,5⟩,⟨0,1⟩⟩)):(straight)×(Line)) krY
def K92:TB:=K91.m 198 (((⟨50,(-1000),100⟩),(⟨⟨1,2⟩,⟨(-10),1⟩⟩)):(straight)×(Line)) krY
def K93:TB:=K92.m 198 (((⟨0,5000,100⟩),(⟨⟨0,1⟩,⟨50,1⟩⟩)):(straight)×(Line)) krY
def K94:TB:=K93.m 198 (((⟨10,4500,100⟩),(⟨⟨1,10⟩,⟨45,1⟩⟩)):(straight)×(Line)) krY
def K95:TB:=K94.m 198 (((⟨(-10),6500,100⟩),(⟨⟨(-1),10⟩,⟨65,1⟩⟩)):(straight)×(Line)) krY
def K96:TB:=K95.m 198 (((⟨0,6000,100⟩),(⟨⟨0,1⟩,⟨60,1⟩⟩)):(straight)×(Line)) krY
def K97:TB:=⟨oC aH NK K96.1
  [.f 199 {},
   .f 158 {vv:=[14]}],eY K96.2 krY⟩
def K98:TB:=K97.m 158 ((((.of [⟨0,20,30⟩])),(⟨⟨.of [⟨0,20,30⟩]⟩,.of []⟩)):(Sl ay)×(set)) krY
def K99:TB:=K98.m 158 ((((.of [⟨0,20,30⟩,⟨100,30,40⟩])),(⟨⟨.of [⟨0,20,30⟩,⟨100,30,40⟩]⟩,.of [⟨10,2000,100⟩,⟨20,2000,100⟩,⟨0,3000,100⟩,⟨10,3000,100⟩]⟩)):(Sl ay)×(set)) krY
def zQd:TB:=K99.m 158 ((((.of [⟨0,20,30⟩,⟨100,30,40⟩,⟨200,40,50⟩])),(⟨⟨.of [⟨0,20,30⟩,⟨100,30,40⟩,⟨200,40,50⟩]⟩,.of [⟨10,2000,100⟩,⟨10,3000,100⟩,⟨30,4000,200⟩,⟨10,6000,200⟩]⟩)):(Sl ay)×(set)) krY
def zQe:TB:=zQd.m 158 ((((.of [⟨0,20,30⟩,⟨100,30,40⟩,⟨200,80,90⟩])),(⟨⟨.of [⟨0,20,30⟩,⟨100,30,40⟩,⟨200,80,90⟩]⟩,.of []⟩)):(Sl ay)×(set)) krY
def zQf:TB:=zQe.m 158 ((((.of [⟨0,20,30⟩,⟨200,40,50⟩])),(⟨⟨.of [⟨0,20,30⟩,⟨200,40,50⟩]⟩,.of [⟨20,4000,200⟩,⟨30,4000,200⟩,⟨10,6000,200⟩,⟨20,6000,200⟩]⟩)):(Sl ay)×(set)) krY
def zQg:TB:=zQf.m 158 ((((.of [⟨0,20,30⟩,⟨200,80,90⟩])),(⟨⟨.of [⟨0,20,30⟩,⟨200,80,90⟩]⟩,.of [⟨60,4000,200⟩,⟨70,4000,200⟩,⟨50,6000,200⟩,⟨60,6000,200⟩]⟩)):(Sl ay)×(set)) krY
def zQh:TB:=zQg.m 158 ((((.of [⟨100,30,40⟩])),(⟨⟨.of [⟨100,30,40⟩]⟩,.of []⟩)):(Sl ay)×(set)) krY
def zQi:TB:=zQh.m 158 ((((.of [⟨100,30,40⟩,⟨200,40,50⟩])),(⟨⟨.of [⟨100,30,40⟩,⟨200,40,50⟩]⟩,.of [⟨10,2000,100⟩,⟨20,1000,100⟩,⟨0,4000,100⟩,⟨10,3000,100⟩]⟩)):(Sl ay)×(set)) krY
def zQj:TB:=zQi.m 158 ((((.of [⟨100,30,40⟩,⟨200,80,90⟩])),(⟨⟨.of [⟨100,30,40⟩,⟨200,80,90⟩]⟩,.of [⟨50,(-2000),100⟩,⟨60,(-3000),100⟩,⟨40,0,100⟩,⟨50,(-1000),100⟩]⟩)):(Sl ay)×(set)) krY
def zQk:TB:=zQj.m 158 ((((.of [⟨200,40,50⟩])),(⟨⟨.of [⟨200,40,50⟩]⟩,.of []⟩)):(Sl ay)×(set)) krY
def zQl:TB:=zQk.m 158 ((((.of [⟨200,80,90⟩])),(⟨⟨.of [⟨200,80,90⟩]⟩,.of []⟩)):(Sl ay)×(set)) krY
def zQm:TB:=zQl.m 158 ((((.of [⟨50,50,60⟩])),(⟨⟨.of [⟨50,50,60⟩]⟩,.of []⟩)):(Sl ay)×(set)) krY
def zQn:TB:=zQm.m 158 ((((.of [⟨50,50,60⟩,⟨150,50,60⟩])),(⟨⟨.of [⟨50,50,60⟩,⟨150,50,60⟩]⟩,.of [⟨0,5000,100⟩,⟨10,4500,100⟩,⟨(-10),6500,100⟩,⟨0,6000,100⟩]⟩)):(Sl ay)×(set)) krY
def zFz:TB:=zQn.m 158 ((((.of [⟨150,50,60⟩])),(⟨⟨.of [⟨150,50,60⟩]⟩,.of []⟩)):(Sl ay)×(set)) krY
def zFA:TB:=⟨oC aH NK zFz.1
  [.f 200 {},
   .f 159 {},
   .f 117 {}],eY zFz.2 krY⟩
def zFB:TB:=⟨zFA.1.addO 252 (.clone 204 3 24),ax.addO zFA.2 ziV⟩
def zFC:TB:=⟨zFB.1.addO 253 (.sort 204 3 24),ax.addO zFB.2 ziT⟩
def zFD:TB:=⟨oC aH NK zFC.1
  [.f 239 {},
   .f 208 {},
   .f 170 {},
   .f 255 {},
   .f 254 {}],eY zFC.2 krY⟩
def zQo:Tabs:=oC aH NK Tabs.nil [.f 239 {},.f 208 {},.f 170 {},.f 209 {},.f 172 {},.f 118 {},.f 162 {},.f 207 {},.f 157 {},.f 231 {},.f 230 {},.f 257 {},.f 238 {},.f 206 {},.f 255 {}]
def zFE:TB:=⟨zFD.1.addC 254 (aF aH NK (gY zQo []) (bY aH 254 [] {}) 254),ax.addC zFD.2 (zit (@eY ⟨1⟩ _ _ _ _ (@ax.nil ⟨1⟩ _) krY) (dL krY))⟩
def zQp:TB:=⟨oC aH NK zFE.1
  [.f 249 {},
   .f 240 {},
   .f 211 {}],eY zFE.2 krY⟩
def zQq:TB:=zQp.m 211 ((((.of [⟨0,20,30⟩])),(⟨⟨0,0⟩,⟨0,0⟩⟩,6)):(Sl ay)×(Line×Int)) krY
def zQr:TB:=zQq.m 211 ((((.of [⟨0,20,30⟩,⟨100,30,40⟩])),(⟨⟨0,1⟩,⟨30,1⟩⟩,0)):(Sl ay)×(Line×Int)) krY
def zQs:TB:=zQr.m 211 ((((.of [⟨0,20,30⟩,⟨100,30,40⟩,⟨200,40,50⟩])),(⟨⟨1,20⟩,⟨30,1⟩⟩,0)):(Sl ay)×(Line×Int)) krY
def zQt:TB:=zQs.m 211 ((((.of [⟨0,20,30⟩,⟨100,30,40⟩,⟨200,80,90⟩])),(⟨⟨0,0⟩,⟨0,0⟩⟩,5)):(Sl ay)×(Line×Int)) krY
def zQu:TB:=zQt.m 211 ((((.of [⟨0,20,30⟩,⟨200,40,50⟩])),(⟨⟨1,20⟩,⟨30,1⟩⟩,0)):(Sl ay)×(Line×Int)) krY
def zQv:TB:=zQu.m 211 ((((.of [⟨0,20,30⟩,⟨200,80,90⟩])),(⟨⟨1,4⟩,⟨30,1⟩⟩,0)):(Sl ay)×(Line×Int)) krY
def zQw:TB:=zQv.m 211 ((((.of [⟨100,30,40⟩])),(⟨⟨0,0⟩,⟨0,0⟩⟩,6)):(Sl ay)×(Line×Int)) krY
def zQx:TB:=zQw.m 211 ((((.of [⟨100,30,40⟩,⟨200,40,50⟩])),(⟨⟨0,1⟩,⟨40,1⟩⟩,0)):(Sl ay)×(Line×Int)) krY
def zQy:TB:=zQx.m 211 ((((.of [⟨100,30,40⟩,⟨200,80,90⟩])),(⟨⟨2,5⟩,⟨0,1⟩⟩,0)):(Sl ay)×(Line×Int)) krY
def zQz:TB:=zQy.m 211 ((((.of [⟨200,40,50⟩])),(⟨⟨0,0⟩,⟨0,0⟩⟩,6)):(Sl ay)×(Line×Int)) krY
def zQA:TB:=zQz.m 211 ((((.of [⟨200,80,90⟩])),(⟨⟨0,0⟩,⟨0,0⟩⟩,6)):(Sl ay)×(Line×Int)) krY
def zQB:TB:=zQA.m 211 ((((.of [⟨50,50,60⟩])),(⟨⟨0,0⟩,⟨0,0⟩⟩,6)):(Sl ay)×(Line×Int)) krY
def zQC:TB:=zQB.m 211 ((((.of [⟨50,50,60⟩,⟨150,50,60⟩])),(⟨⟨(-1),10⟩,⟨65,1⟩⟩,0)):(Sl ay)×(Line×Int)) krY
def zFF:TB:=zQC.m 211 ((((.of [⟨150,50,60⟩])),(⟨⟨0,0⟩,⟨0,0⟩⟩,6)):(Sl ay)×(Line×Int)) krY
def zQD:TB:=⟨oC aH NK zFF.1
  [.f 182 {}],eY zFF.2 krY⟩
def zQE:TB:=zQD.m 182 (((Jo,⟨1,.of [0],.of [0]⟩),true):(Pt aU×af)×(Bool)) krY
def zQF:TB:=zQE.m 182 (((Jo,⟨1,.of [0,1],.of [0,0]⟩),true):(Pt aU×af)×(Bool)) krY
def zQG:TB:=zQF.m 182 (((Jo,⟨1,.of [0,1,2],.of [0,0,0]⟩),true):(Pt aU×af)×(Bool)) krY
def zQH:TB:=zQG.m 182 (((Jo,⟨1,.of [0,1,3],.of [0,0,0]⟩),false):(Pt aU×af)×(Bool)) krY
def zQI:TB:=zQH.m 182 (((Jo,⟨1,.of [0,2],.of [0,0]⟩),true):(Pt aU×af)×(Bool)) krY
def zQJ:TB:=zQI.m 182 (((Jo,⟨1,.of [0,3],.of [0,0]⟩),true):(Pt aU×af)×(Bool)) krY
def zQK:TB:=zQJ.m 182 (((Jo,⟨1,.of [1],.of [0]⟩),true):(Pt aU×af)×(Bool)) krY
def zQL:TB:=zQK.m 182 (((Jo,⟨1,.of [1,2],.of [0,0]⟩),true):(Pt aU×af)×(Bool)) krY
def zQM:TB:=zQL.m 182 (((Jo,⟨1,.of [1,3],.of [0,0]⟩),true):(Pt aU×af)×(Bool)) krY
def zQN:TB:=zQM.m 182 (((Jo,⟨1,.of [2],.of [0]⟩),true):(Pt aU×af)×(Bool)) krY
def zQO:TB:=zQN.m 182 (((Jo,⟨1,.of [3],.of [0]⟩),true):(Pt aU×af)×(Bool)) krY
def zQP:TB:=zQO.m 182 (((Jo,⟨2,.of [4],.of [0]⟩),true):(Pt aU×af)×(Bool)) krY
def zQQ:TB:=zQP.m 182 (((Jo,⟨2,.of [4,5],.of [0,0]⟩),true):(Pt aU×af)×(Bool)) krY
def zFG:TB:=zQQ.m 182 (((Jo,⟨2,.of [5],.of [0]⟩),true):(Pt aU×af)×(Bool)) krY
def zoj:TB:=⟨oC aH NK zFG.1
  [.r 178 64 {clo:=[180]}],eY zFG.2 krY⟩
def zFH:TB:=⟨zoj.1.addF 127 (aD aH (gY zoj.1 []) NK zcp 177 (bY aH 127 [] {ks:=[(0,3,⟨[],[],[(4,0,5000,43)],[],[],[],[]⟩)]}) 127),ax.addF zoj.2 (ziK zoj.2 (dL krY) ziO)⟩
def zQR:TB:=⟨oC aH NK zFH.1
  [.f 120 {},
   .f 203 {},
   .f 202 {},
   .f 169 {},
   .f 171 {},
   .f 168 {},
   .f 119 {},
   .f 163 {},
   .f 114 {},
   .f 236 {},
   .f 237 {},
   .f 205 {},
   .i 204 {yl:=[9]},
   .f 165 {},
   .f 115 {}],eY zFH.2 krY⟩
def zQS:TB:=zQR.m 115 (((rD,4,⟨30,60⟩),(true,true,0)):(au×Int×bZ)×(Bool×Bool×Int)) krY
def zQT:TB:=zQS.m 115 (((rD,2,⟨30,40⟩),(true,true,0)):(au×Int×bZ)×(Bool×Bool×Int)) krY
def zQU:TB:=zQT.m 115 (((rD,2,⟨50,60⟩),(true,true,0)):(au×Int×bZ)×(Bool×Bool×Int)) krY
def zQV:TB:=zQU.m 115 (((rD,0,⟨10,40⟩),(true,true,0)):(au×Int×bZ)×(Bool×Bool×Int)) krY
def zFI:TB:=zQV.m 115 (((rD,0,⟨(-30),0⟩),(false,true,0)):(au×Int×bZ)×(Bool×Bool×Int)) krY
def zQW:TB:=⟨oC aH NK zFI.1
  [.f 191 {},
   .f 192 {},
   .f 141 {clo:=[190]}],eY zFI.2 krY⟩
def zQX:TB:=zQW.m 141 (((Jo,⟨1,.of [0,1],.of [0,0]⟩),(.of [4])):(Pt aU×af)×(Sl Int)) krY
def zQY:TB:=zQX.m 141 (((Jo,⟨1,.of [0,1,2],.of [0,0,0]⟩),(.of [])):(Pt aU×af)×(Sl Int)) krY
def zQZ:TB:=zQY.m 141 (((Jo,⟨1,.of [0,2],.of [0,0]⟩),(.of [2])):(Pt aU×af)×(Sl Int)) krY
def zQ0:TB:=zQZ.m 141 (((Jo,⟨1,.of [0,3],.of [0,0]⟩),(.of [2])):(Pt aU×af)×(Sl Int)) krY
def zQ1:TB:=zQ0.m 141 (((Jo,⟨1,.of [1,2],.of [0,0]⟩),(.of [0])):(Pt aU×af)×(Sl Int)) krY
def zQ2:TB:=zQ1.m 141 (((Jo,⟨1,.of [1,3],.of [0,0]⟩),(.of [])):(Pt aU×af)×(Sl Int)) krY
def zFJ:TB:=zQ2.m 141 (((Jo,⟨2,.of [4,5],.of [0,0]⟩),(.of [])):(Pt aU×af)×(Sl Int)) krY
def zFK:TB:=⟨oC aH NK zFJ.1
  [.f 129 {},
   .f 98 {},
   .f 152 {},
   .f 92 {},
   .f 132 {},
   .f 97 {},
   .f 131 {},
   .f 130 {},
   .k 128 43 3 56 {}],eY zFJ.2 krY⟩
def zFL:TB:=⟨zFK.1.addO 133 (.sort 43 3 56),ax.addO zFK.2 ziU⟩
def zFM:TB:=⟨oC aH NK zFL.1
  [.f 185 {},
   .f 222 {},
   .f 186 {},
   .f 187 {},
   .f 134 {}],eY zFL.2 krY⟩
def zQ3:Tabs:=oC aH NK Tabs.nil [.f 185 {},.f 222 {},.f 186 {},.f 239 {},.f 208 {},.f 187 {}]
def zFN:TB:=⟨zFM.1.addC 134 (aF aH NK (gY zQ3 []) (bY aH 134 [] {}) 134),ax.addC zFM.2 (zit (@eY ⟨1⟩ _ _ _ _ (@ax.nil ⟨1⟩ _) krY) (dL krY))⟩
def zQ4:TB:=⟨oC aH NK zFN.1
  [.f 72 {clo:=[130],cut:=[15],ks:=[(0,6,⟨[],[],[(35,2,5001,43)],[],[],[],[]⟩),(2,15,⟨[],[],[],[],[57,5001],[],[]⟩)]}],eY zFN.2 krY⟩
def zQ5:TB:=zQ4.m 72 (((rD,⟨2,0⟩,zA0,(.of [])),(⟨⟨Jo,.of [⟨1,.of [0,1,2],.of [0,0,0]⟩,⟨1,.of [1,3],.of [0,0]⟩,⟨2,.of [4,5],.of [0,0]⟩],.of [⟨1,.of [0,1,2],.of [0,0,0]⟩,⟨1,.of [1,3],.of [0,0]⟩,⟨2,.of [4,5],.of [0,0]⟩]⟩⟩,0)):(au×bJ×Sl bF×Sl Bool)×(Pt found×Int)) krY
def zFO:TB:=zQ5.m 72 (((rD,⟨2,0⟩,zA0,(.of [true])),(⟨⟨Jo,.of [⟨1,.of [0,1,2],.of [0,0,0]⟩,⟨1,.of [1,3],.of [0,0]⟩,⟨2,.of [4,5],.of [0,0]⟩],.of [⟨1,.of [0,1,2],.of [0,0,0]⟩,⟨1,.of [1,3],.of [0,0]⟩,⟨2,.of [4,5],.of [0,0]⟩]⟩⟩,0)):(au×bJ×Sl bF×Sl Bool)×(Pt found×Int)) krY
def zQ6:TB:=⟨oC aH NK zFO.1
  [.f 20 {},
   .f 96 {},
   .f 79 {vv:=[8]},
   .f 110 {},
   .f 49 {},
   .f 80 {},
   .f 81 {},
   .f 82 {},
   .f 83 {},
   .f 142 {},
   .f 84 {},
   .f 25 {}],eY zFO.2 krY⟩
def zFP:TB:=zQ6.m 25 (((rD,⟨2,0⟩,zA0,⟨1,.of [0,1],.of [0,0]⟩),(⟨5,.of [],.of [4],⟨0,.of [],.of []⟩⟩,0)):(au×bJ×Sl bF×af)×(kZ×Int)) krY
def zQ7:TB:=⟨oC aH NK zFP.1
  [.f 38 {},
   .f 52 {},
   .f 29 {},
   .f 31 {ks:=[(0,16,⟨[],[],[],[],[],[10],[]⟩)],vv:=[41]}],eY zFP.2 krY⟩
def zFQ:TB:=zQ7.m 31 (((rD,⟨2,0⟩,zA0),((.of [⟨0,2⟩,⟨1,2⟩]),0)):(au×bJ×Sl bF)×(Sl qw×Int)) krY
def zQ8:TB:=⟨oC aH NK zFQ.1
  [.f 32 {},
   .f 99 {},
   .r 100 64 {},
   .r 101 64 {},
   .f 36 {ks:=[(0,16,⟨[],[],[],[],[1000896],[],[]⟩)],vv:=[73,75]}],eY zFQ.2 krY⟩
def zFR:TB:=zQ8.m 36 (((rD,⟨2,0⟩,zA0,1),((.of [0,1]),(.of [0]),0)):(au×bJ×Sl bF×Int)×(Sl Int×Sl Int×Int)) krY
def zQ9:TB:=⟨oC aH NK zFR.1
  [.f 58 {},
   .f 103 {},
   .f 104 {},
   .f 42 {}],eY zFR.2 krY⟩
def zFS:TB:=zQ9.m 42 (((rD,⟨2,0⟩,zA0,(.of [⟨1,⟨0,1⟩,⟨1,5⟩⟩,⟨1,⟨1,10⟩,⟨1,2⟩⟩])),((.of [⟨1,1⟩,⟨0,2⟩]),0)):(au×bJ×Sl bF×Sl Bin)×(Sl Tally×Int)) krY
def zw2:TB:=⟨oC aH NK zFS.1
  [.f 44 {},
   .f 67 {},
   .f 69 {},
   .f 70 {},
   .f 125 {},
   .f 71 {},
   .f 19 {}],eY zFS.2 krY⟩
theorem k19:((gY zw2.1 []).fn 19 []).o=some [.one (.bool true)]:=krY
theorem zRa:ax aH zw2.1:=zw2.2
end Go.Proofs
namespace Go.Proofs.YtjkijdhdbhooiaaGreat
open Go.Pm (jX)
set_option maxRecDepth 100000
def dc:Nat→Nat→List Char
  | 0,_=>[]
  | k+1,n=>Char.ofNat (n%128)::dc k (n/128)
def ioR:List (List Char):=[dc 2 14945,dc 35 45019731839301669745199096094014757347713743838262223150477152386253683567,dc 34 420377978748125055740877229337914779690535202023532228586777341826005871,dc 36 6550971710285934913754052784167232504664614938228495552548125985273808517999,dc 37 729461727561750118551056160028214191605660185564422184735309847620634057210735,dc 37 830772752598413053766828580736873493486916948856955428203985110704856283839343,dc 37 846039670449084468774387244088358248202427724899131661281249209823569867537263,dc 35 51179294023049743501667742572912222775214732381401055866039370168307121007,dc 35 45009296865569399087797946188323693179256993798839364341239407728733551471,dc 37 830780268438003779521215029671213750534782202343527674838098051362097095867247,dc 38 107331119686939743456630664922862568562027744964707129139922504835010957783169903,dc 36 6550077393460720109370983476171913501904522994409179701070095258754267839343,dc 35 48939868791262458989610581110577656928740303271215203627173391395041409903,dc 37 838349406564167396116242431067385471964016398604997842927764345145510690650991,dc 37 838349393033854787123352198492273111221406595137993776056015629414144918780783]
def ioN:List Char:=dc 599 149771092015852491278000662115128137748269599194581860494294778261301651447965370062645304741743729477171988600934799727326517975522812478602000462062741437383719700469441320225746001460657778919864702789185877727655633384756976915120483667267389003774318074344898749855352565971438052119468579606834274369754786466833197740569138863177439610707078849369185453345527529660045569842755503891534211525146045868530953689090964949867816695296345068916719713389224171554417522039179151544735265211004436216097918169509036553218766076260083794299680425243321104884652801756935939016856612808890681403713245564864003766772582403997404693715256366145143767382394449050497631406600169134111017758420705379181155399036702826495772349138224361597591141153214596847427732622443000331392581117708063194127217598752738628016573330186096707239904130243791293223266344009164320459711360917953739697093488615153066332379337541176729581439867139231308816545570621442575900426155419574959597509166851618974720944858788987333755451277637880095378589630688375170213056367090535571658338605777263539845461211124236505614769845380929544309814139208243656161387198222242061066521483984326294839656717673867435632142724742576645662295495695963786797012817486377421718128934313825440411880
theorem ioS:Tryz.prog.initOrder=String.ofList ioN:=by kernel_rfl
theorem ioL:Tryz.prog.initOrder.toList=ioN:=(jX String.toList ioS).trans String.toList_ofList
theorem ioW:wordsSigns Tryz.prog.initOrder.toList=(dc 7 509754063237352)::(dc 64 572163061260696105970074307196347989822506933787247010369012457204266251338368704666046318255463753418979972205211827874765770452792118)::(dc 3 1915619)::ioR:=(jX wordsSigns ioL).trans (by kernel_rfl)
theorem ioB:behindMainWord (wordsSigns Tryz.prog.initOrder.toList)=(dc 3 1915619)::ioR:=(jX behindMainWord ioW).trans (by kernel_rfl)
theorem Td {P : Program} {l : List (List Char)} (h : behindMainWord (wordsSigns P.initOrder.toList) = l) : P.headLifts = (if (stripLifts liftWords l).2.head? == some "cut".toList then (stripLifts liftWords l).1 else []) := by subst h; rfl
theorem zok{P:Program}{rest:List (List Char)}(h:behindMainWord (wordsSigns P.initOrder.toList)=(dc 3 1915619)::rest):P.make=some .cut:=by unfold Program.make;rw[h];rfl
theorem ziW{P:Program}{rest:List (List Char)}(h:behindMainWord (wordsSigns P.initOrder.toList)=(dc 3 1915619)::rest)(hl:P.headLifts=[]):P.liftsFinal=false:=by unfold Program.liftsFinal;rw[h,hl];rfl
theorem ziX {P : Program} {c : List Char} {rest : List (List Char)} (h : behindMainWord (wordsSigns P.initOrder.toList) = c :: rest) (Fb : (stripLifts liftWords (c :: rest)).2.head? = some "cut".toList)
    (hs1:(stripLifts liftWords (c::rest)).1=[]) (zRb:P.laysLater=false) (hb:P.bearsReflect=false) (hd:P.doorFits []=true):P.mayEnter=true:=by
  unfold Program.mayEnter;rw[h];simp[Fb,hs1,zRb,hb,hd]
theorem ioH:Tryz.prog.headLifts=[]:=(Td ioB).trans (by kernel_rfl)
theorem ioK:Tryz.prog.make=some .cut:=zok ioB
theorem ioF:Tryz.prog.liftsFinal=false:=ziW ioB ioH
theorem ioE:Tryz.prog.mayEnter=true:=ziX ioB (by kernel_rfl) (by kernel_rfl) (by kernel_rfl) (by kernel_rfl) (by kernel_rfl)
end Go.Proofs.YtjkijdhdbhooiaaGreat
