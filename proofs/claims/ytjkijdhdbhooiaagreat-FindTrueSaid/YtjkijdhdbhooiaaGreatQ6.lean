/- Part 6 of what the proof rests on: a machine that runs functions of the program on pure values, proved sound; the functions that the law reaches, what they compute, and plain laws of that. -/
import Derived.Test.YtjkijdhdbhooiaaGreatQ5
import Derived.Shelf.SlSortCmp.NoneTotal
import Derived.Shelf.SlicesE.Clone
import Derived.Shelf.SlLaysF0
import Derived.Test.YtjkijdhdbhooiaaGreatProg
import Derived.Shelf.SlLaysE0
import Derived.Test.YtjkijdhdbhooiaaGreatRows
import Derived.WalkKit
import Derived.OpenShut
import Derived.ChangeOld
import Derived.ProofKit
set_option linter.all false
noncomputable section
namespace Go.Proofs
open Go Go.Pm
set_option maxRecDepth 100000
abbrev Q48 (C:Sl Int×Int->ae Bool):Prop:=∀ (w:Sl Int) x,w.len<=1000->C (w,x)=.ok (hasB w x)
theorem s48 {E:E48}(N:Big E.N):Q48 (F48 E):=λ w x hw=>ae.ext λ k=>by
 rw[e48,bi,loopA (L:=λ n i=>X3 E n w x i k) (p:=λ j=>!decide (w.get j=x)) (m:=w.len) (fin:=k false) (stop:=k true) (by omega) (λ n i hi=>?_) (λ n=>?_) _ (by have:=N;omega)]
 ·unfold hasB;cases dS (λ j=>!decide (w.get j=x)) w.len <;> rfl
 ·rw [zni, decide_eq_true (by omega), cond_true, bC (by omega), Int.toNat_natCast];show cond (w.get i == x) _ _=cond (!(w.get i == x)) _ _;cases w.get i == x <;> rfl
 ·rw[zni,decide_eq_false (by omega)];rfl
def zbi (t:aj) (w:Sl Int):Bool:=dS (λ i=>hasB t.Hits (w.get i)) w.len
abbrev Q22 (C:aj×Sl Int->ae Bool):Prop:=∀ (t:aj) (w:Sl Int),t.Hits.len<=1000->w.len<=1000->C (t,w)=.ok (zbi t w)
theorem s22 {E:E22}(N:Big E.N) (h48:Q48 E.c48):Q22 (F22 E):=λ t w ht hw=>ae.ext λ k=>by
 rw[e22,bi,loopA (L:=λ n i=>YJ E n t w i k) (p:=λ j=>hasB t.Hits (w.get j)) (m:=w.len) (fin:=k true) (stop:=k false) (by omega) (λ n i hi=>?_) (λ n=>?_) _ (by have:=N;omega)]
 ·unfold zbi;cases dS (λ i=>hasB t.Hits (w.get i)) w.len <;> rfl
 ·rw [znJ, decide_eq_true (by omega), cond_true, bC (by omega), Int.toNat_natCast, h48 _ _ ht, bi];cases hasB t.Hits (w.get i) <;> rfl
 ·rw[znJ,decide_eq_false (by omega)];rfl
abbrev Q3 (C:ak×bF×Sl bz×iY×Int×Int->ae Bool):Prop:=∀ s r l t a b,C (s,r,l,t,a,b)=.ok true
theorem s3 {E:E3}(N:Big E.N) (h17:Q17 E.c17) (h19:Q19 E.c19) (h18:Q18 E.c18) (h20:Q20 E.c20) (h21:Q21 E.c21) (h22:Q22 E.c22):Q3 (F3 E):=λ s r l t a b=>ae.ext λ k=>by
 have hN:=N;obtain⟨w,is,h1,h2⟩:=h17 s r l 8;rw[e3,h1,bi,bi];cases is with
 | false=>show (E.c19 ()).T _=_;rw[h19,bi]
 | true =>
  have hf:=h2 rfl;obtain⟨he,qB,hr⟩:=hf.evt;show (E.c18 t).T _=_;rw[h18,bi];by_cases ht:Rt t
  ·obtain ⟨f, f1, f2⟩ := h20 s r l hf.sh hf.le hf.rf hf.n1 hf.n2;have fl:=f2.len hf.n1 hf.n2;rw[decide_eq_true ht,Bool.not_true,cond_false,f1,bi];show TC E E.N s r l t a b f.fZ 1 k=k true;have inc:∀ i,i < f.fZ.len->zgu (f.fZ.get i):=λ i hi=>(f2.chosen he qB (f2.sub (kG.2 ⟨i,hi,rfl⟩))).inc;have XZ:∀ (n:Nat) (v:Int) (w:Sl Int),w.len<=24->∀ (m j n1:Nat) (q:Bool),j+m=f.fZ.len->m < n1->Wp E n n1 s r l t a b f.fZ v w q (j:Int) k=cond (q || (List.range' j m).any λ j=>(f.fZ.get j).View == v && zbi (f.fZ.get j) w) (TC E n s r l t a b f.fZ (aO (v+1)) k) (k false):=by
    intro n v w hw m
    induction m with
    | zero =>
     intro j n1 q hj hn;obtain⟨n1,rfl⟩:∃ n',n1=n'+1:=⟨n1 - 1,by omega⟩;rw[zzV,decide_eq_false (by omega),cond_false];cases q <;> rfl
    | succ m ih =>
     intro j n1 q hj hn;obtain⟨n1,rfl⟩:∃ n',n1=n'+1:=⟨n1 - 1,by omega⟩;rw[zzV,decide_eq_true (by omega),cond_true,bQ (by omega),List.range'_succ,List.any_cons];cases q with
     | true=>rw[cond_true,ih (j+1) n1 true (by omega) (by omega)];rfl
     | false =>
      rw[cond_false,bC (by omega),bC (by omega),Int.toNat_natCast];cases (f.fZ.get j).View == v with
      | false=>rw[cond_false,ih (j+1) n1 false (by omega) (by omega)];rfl
      | true=>rw[cond_true,h22 _ _ (by have:=(inc j (by omega)).le;omega) (by omega),bi,ih (j+1) n1 _ (by omega) (by omega),Bool.false_or,Bool.true_and]
   have step:∀ (n:Nat) (v:Int),(v=1\/v=2)->TC E (n+1) s r l t a b f.fZ v k=TC E n s r l t a b f.fZ (v+1) k:=λ n v hv=>by
    obtain⟨w,is,w1,w2,w3⟩:=h21 s r l v t a b he qB ht;have wv:aO (v+1)=v+1:=aY (by omega) (by omega);rw[zzU,decide_eq_true (show v<=2 by omega),cond_true,w1,bi,wv];cases is with
    | false=>rfl
    | true =>
     obtain⟨o1,o2,o3⟩:=w3 rfl;obtain⟨m,hm,m1,m2⟩:=zbh f2 he qB hr hv (zgB ht) o1 o2 o3;show Wp E n E.N s r l t a b f.fZ v w false ((0:Nat):Int) k=_;rw[XZ n v w w2 f.fZ.len 0 E.N false (by omega) (by omega),wv,Bool.false_or,LC (w:=f.fZ) (p:=λ x:aj=>x.View == v && zbi x w)];have:((ls f.fZ).any λ x=>x.View == v && zbi x w)=true:=by
      rw[List.any_eq_true];refine⟨m,hm,?_⟩;rw[fA];refine⟨beq_iff_eq.2 m1,?_⟩;unfold zbi;rw[dA];intro i hi;exact IE.2 (m2 i hi)
     rw[this];rfl
   obtain⟨n,hn⟩:∃ n,E.N=n+1+1+1:=⟨E.N - 3,by omega⟩;rw[hn,step _ 1 (.inl rfl),show (1:Int)+1=2 from rfl,step _ 2 (.inr rfl),zzU,show decide ((2:Int)+1<=2)=false from rfl,cond_false,h19,bi]
  ·rw[decide_eq_false ht];show (E.c19 ()).T _=_;rw[h19,bi]
end Go.Proofs
namespace Go.Pm
variable [aJ]
open Go.Shelf Go.RowKit Go.Lib Go.Sort Go.Proofs


theorem zbj {w w':World}(h1:w'.heap=w.heap) (h2:w'.tape=w.tape) (h3:w'.drawn=w.drawn) (h4:w'.os=w.os) (h5:w'.output=w.output):w'=w:=by
 cases w;cases w';simp_all
theorem zgC {w w':World}{h:Fz}(b : @uo ⟨1⟩ h w.heap.size w w'):∃ q os,w'=grow (w.drewN q) os:=by
 obtain⟨bos,zzW,zNv,zRI,zth,zti⟩:=b;refine⟨w'.drawn - w.drawn,w'.heap.extract w.heap.size w'.heap.size,zbj ?_ zzW ?_ bos zNv⟩
 ·show w'.heap = w.heap ++ w'.heap.extract w.heap.size w'.heap.size;apply Array.ext_getElem?;intro i;rw[Array.getElem?_append];split
  ·rename_i hl;exact zti i hl
  ·rename_i hl;rw[Array.getElem?_extract];by_cases hlt:i < w'.heap.size
   ·rw[if_pos (by omega)];congr 1;omega
   ·rw[if_neg (by omega),Array.getElem?_eq_none (by omega)]
 ·show w'.drawn = w.drawn + (w'.drawn - w.drawn);have:w.drawn * 1<=w'.drawn * 1:=zth;omega

theorem OM {w : World} {g q : Nat} {cur : Array Value} {e : TypeId} {fr : Nat × Nat} {off : Nat} (F : Array Value) (hb : w.heap[g]? = some (.cells cur e fr)) :
  ∃ cur',(putRow id (Sort.ahead w q) g off F).heap[g]? = some (.cells cur' e fr)/\cur'.size=cur.size:=by
 refine⟨putCells id off F cur,?_,by simp[putCells]⟩;simp[putRow,mapBlock,Sort.ahead,Array.getElem?_modify,hb,onCells]
theorem Dz {w:World}{g q off:Nat}(F:Array Value){k:Nat}(hk:k ≠ g):(putRow id (Sort.ahead w q) g off F).heap[k]? = w.heap[k]?:=by
 simp[putRow,mapBlock,Sort.ahead,Array.getElem?_modify,Ne.symm hk]

theorem zgD {C : List PA → ae (List PA)} {caps : List PV} {ag : Bool} {get : Nat → List PV} {i j : Nat} (h : (EL C caps ag get i j).isSome = true) :
  ∃ rs,(C (elP ag (get i) :: elP ag (get j) :: caps.map .one)).o=some rs/\rs=[.one (.int .i64 (kX C caps ag get i j))]:=by
 unfold kX;cases e:EL C caps ag get i j with
 | none=>rw[e] at h;cases h
 | some c =>
  unfold EL at e;obtain⟨rs,h1,h2⟩:=ae.T_some e;refine⟨rs,h1,?_⟩;split at h2
  ·cases h2;rfl
  ·cases h2
theorem LD {P:Program}{ρ:Ren}(L:SlLaysF0.n6 P ρ){e s b:Nat}(he:ρ.t 24=e) (hag:iF P e=some true) (hsz:mP P e=some s) (hc:dD P (ρ.f 6)):ed P (ρ.f 6) (.sort e s b):=by
 intro w h base v n get gf caps cv ag C hC hcv hag' _ hpos ⟨xs,hown,hr⟩ hone hw hob hbase ⟨hn,hS,hO⟩;rw[hag] at hag';simp only[bP] at hag';subst hag';refine⟨hc,?_⟩;have hdr:∀ (w':World) (k:Nat),w.drawn<=w.drawn+k:=λ _ k=>Nat.le_add_right _ _;have none:∀ (p:Option Addr) (cap:Nat),n=0->v=.slice p 0 cap->Calls P (ρ.f 6) #[v,.func (.func gf) #[] cv.toArray] w λ r w'=>r=.returned (.tuple #[])/\wR h w' base e s v n (EM n (kX C caps true get) get)/\GrB w w' v.ownBlock:=by
  rintro p cap rfl rfl;refine (AnyF.slices_SortFunc_none L p cap _ w).mono ?_;rintro r w' ⟨rfl,rfl⟩;exact⟨rfl,⟨xs,hown,λ i hi=>absurd hi (O0 i)⟩,⟨rfl,rfl,rfl,iM _,λ _ _ _=>rfl⟩,iM _⟩
 rcases hown.2 with ⟨h1,h2⟩ | ⟨blk,cap,cur,rfl,hb,hcell,hncap,hcap,hcs,htk⟩
 ·exact none _ _ h2 h1
 by_cases hn0:n=0
 ·subst hn0;exact none _ _ rfl rfl
 have:Inhabited (Fin n):=⟨⟨0,by omega⟩⟩;let enc:Fin n->List Value:=λ i=>(xs.drop (i.val * s)).take s;let c:=kX C caps true get;let cf:Fin n->Fin n->Int:=λ x y=>c x.val y.val;let d:Array (Fin n):=Array.ofFn id;have hds:d.size=n:=Array.size_ofFn;have hdi:∀ i (hi:i < n),d[i]! = ⟨i,hi⟩:=λ i hi=>by
  rw[getElem!_pos d i (by rw[hds];exact hi)];simp[d]
 have hlt:blk < w.heap.size:=(TI.1 hcell).1;have hbn:h blk=Option.none:=hob blk rfl;have hmul:∀ i,i < n->i * s+s<=n * s:=λ i hi=>by have:=LH s (Nat.succ_le_of_lt hi);rw[OZ] at this;exact this
 have hk:∀ x,(enc x).length=s:=λ x=>by
  have:=hmul x.val x.isLt;simp only[enc,List.length_take,List.length_drop,hown.1];omega
 have zNw:∀ j,j < n * s->cur[j]? = xs[j]?:=λ j hj=>by
  have:(cur.toList.take (n * s))[j]? = xs[j]?:=by rw[htk]
  rw[DW,if_pos hj] at this;simpa using this
 have hxl:∀ j,j < n * s->∃ u,xs[j]? = some u:=λ j hj=>⟨xs[j]'(by rw[hown.1];exact hj),yz _⟩;have h1:∀ x,∀ u∈enc x,u.oneCell'=true:=λ x u hu=>by
  obtain⟨j,hj⟩:=List.getElem?_of_mem hu;obtain⟨p,_,hp⟩:=(hr x.val x.isLt).get' j u hj;exact hp.one
 have zzX:∀ j (hj:j < n * s),(flatK enc s d)[j]! = xs[j]'(by rw[hown.1];exact hj):=λ j hj=>by
  have hq:j / s < n:=Nat.div_lt_of_lt_mul (by rw[Nat.mul_comm];exact hj);rw[get_flatK _ _ _ _ (by rw[hds];exact hj),hdi _ hq];have hm:=Nat.mod_lt j hpos;have hdm:=Nat.div_add_mod j s;rw[getElem!_pos _ _ (by rw[hk];exact hm)];simp only[enc,List.getElem_take,List.getElem_drop];congr 1;rw[Nat.mul_comm];exact hdm
 have hH:HoldsK enc s w blk 0 d:=λ j hj=>by
  have hj:j < n * s:=by rw[size_flatK,hds] at hj;exact hj
  refine⟨?_,frozen_of_row w blk _ cur e hcell⟩;rw[zzX j hj,cell_of hcell,Nat.zero_add,zNw j hj];exact yz _
 have eg:∀ args w,(callFunc gf args).run P w=.ok (.enter gf args) w:=by
  have hcg:dD P gf:=by
   obtain⟨rs,hwp,_⟩:=zgD (hS 0 0 (by omega) (by omega));exact (hC _ _ hwp w h (.agg (enc ⟨0,by omega⟩).toArray :: .agg (enc ⟨0,by omega⟩).toArray :: cv) ⟨⟨_,rfl,hr 0 (by omega)⟩,⟨_,rfl,hr 0 (by omega)⟩,RL.map_left.2 hcv⟩ hw).1
  exact λ args w=>dU hcg
 have hcmp:CmpLays P gf cv.toArray enc s cf blk 0 d.size w:=by
  intro m os dk hdk x y;obtain⟨rs,hwp,hrs⟩:=zgD (hS x.val y.val x.isLt y.isLt);have hwh:Hw h (sortWorldK enc s w blk 0 m dk os):=hw.same λ k o hk=>by
   have hkb:k ≠ blk:=λ e=>by rw[e,hbn] at hk;cases hk
   have hkl:=hw.lt hk;show ((putRow id (Sort.ahead w m) blk 0 (flatK enc s dk)).heap ++ os)[k]? = _;rw[Array.getElem?_append_left (by simpa [putRow,mapBlock,Sort.ahead] using hkl)];exact Dz _ hkb
  obtain⟨_,hrun⟩:=hC _ _ hwp (sortWorldK enc s w blk 0 m dk os) h (.agg (enc x).toArray :: .agg (enc y).toArray :: cv) ⟨⟨_,rfl,hr x.val x.isLt⟩,⟨_,rfl,hr y.val y.isLt⟩,RL.map_left.2 hcv⟩ hwh;rw[show (#[Value.agg (enc x).toArray,.agg (enc y).toArray] ++ cv.toArray)=(Value.agg (enc x).toArray :: .agg (enc y).toArray :: cv).toArray by simp];refine hrun.mono ?_;rintro e' w' ⟨h',v',rfl,hres,hbel,_,_,_⟩;subst hrs;have hv':v'=.int .i64 (cf x y):=by
   have:Rep h' (.int .i64 (cf x y)) v':=hres;cases this;rfl
  subst hv';exact⟨rfl,zgC hbel⟩
 have zNx:SWO (ltOf cf):=by
  refine⟨λ x=>?_,λ x y z hxy hyz=>?_,λ x y z hxy hyz=>?_⟩
  ·have : 0 ≤ c x.val x.val := hO.1 x.val x.isLt;simp only[ltOf,decide_eq_false_iff_not];show ¬ c x.val x.val < 0;omega
  ·simp only [ltOf, decide_eq_true_eq] at hxy hyz ⊢;exact hO.2.2 _ _ _ x.isLt y.isLt z.isLt hxy hyz
  ·simp only [ltOf, decide_eq_false_iff_not] at hxy hyz ⊢;intro hxz;have hxy : ¬ c x.val y.val < 0:=hxy;have hyz : ¬ c y.val z.val < 0:=hyz;have hxz:c x.val z.val < 0:=hxz;by_cases e1:y.val=z.val
   ·rw[e1] at hxy;exact hxy hxz
   ·by_cases e2 : x.val = y.val
    ·rw[e2] at hxz;exact hyz hxz
    ·have a1 : c z.val y.val < 0 := by rcases hO.2.1 y.val z.val y.isLt z.isLt e1 with h | h; exact absurd h.1 hyz; exact h.1
     exact hxy (hO.2.2 _ _ _ x.isLt z.isLt y.isLt hxz a1)
 have aE:∀ w,(isAgg (ρ.t 24)).run P w=.ok true w:=λ w=>by rw[he];exact kZ hag
 have zE:∀ w,(Go.sizeOf (ρ.t 24)).run P w=.ok s w:=λ w=>by rw[he];exact run_sizeOf hsz
 have hrun:=AnyQ.slices_SortFunc L s aE zE enc hk h1 cf zNx gf cv.toArray blk 0 cap d w eg hcmp hH hlt (by rw[hds];omega);rw[hds] at hrun;refine hrun.mono ?_;rintro r w' ⟨rfl,d',m,os,hperm,hsort,rfl⟩;obtain⟨hps,_,hpp⟩:=hperm;have Wq:d'.size=n:=by rw[hps,hds]
 have hall:∀ (z:Array (Fin n)),z.size=n->z.extract 0 n=z:=λ z hz=>Array.ext (by simp[hz]) (λ i h1 h2=>by simp);rw[hall d' Wq,hall d hds] at hpp;have hl:d'.toList.map Fin.val=uJ n c:=by
  refine V9 hO ?_ ?_
  ·refine (hpp.map Fin.val).trans ?_;have:d.toList.map Fin.val=List.range n:=by
    apply List.ext_getElem?;intro i;simp only[d,WA];by_cases hi:i < n
    ·simp[hi]
    ·rw[dqM (by simp;omega),dqM (by simp;omega)];rfl
   rw[this]
  ·rw [List.pairwise_map, List.pairwise_iff_getElem];intro i j hi hj hij;have hi':i < n:=by simpa [Wq] using hi
   have hj':j < n:=by simpa [Wq] using hj
   have:=hsort i j (Nat.zero_le _) hij hj';rw[getElem!_pos d' j (by omega),getElem!_pos d' i (by omega)] at this;simp only[ltOf,decide_eq_false_iff_not] at this;exact this
 have hget:∀ i (hi:i < n),EM n c get i=get (d'[i]'(by omega)).val:=λ i hi=>by
  unfold EM;rw[<- hl];congr 1;rw[List.getD_eq_getElem?_getD,WA];simp[Wq,hi]
 obtain⟨cur',hcell',hsz'⟩:=OM (q:=m) (off:=0) (flatK enc s d') hcell;have hgrow:(sortWorldK enc s w blk 0 m d' os).heap[blk]? = some (.cells cur' e (0,0)):=by
  show ((putRow id (Sort.ahead w m) blk 0 (flatK enc s d')).heap ++ os)[blk]? = _;rw[Array.getElem?_append_left (by simpa [putRow,mapBlock,Sort.ahead] using hlt)];exact hcell'
 have hH':HoldsK enc s (sortWorldK enc s w blk 0 m d' os) blk 0 d':=holdsK_sortWorldK_c enc s w blk 0 d d' m os hH hlt (by rw[Wq,hds]);have zzY:∀ j (hj:j < n * s),cur'[j]? = some ((flatK enc s d')[j]!):=λ j hj=>by
  have:=(hH' j (by rw[size_flatK,Wq];exact hj)).1;rw[cell_of hgrow,Nat.zero_add] at this;exact this
 refine⟨rfl,⟨cur'.toList.take (n * s),⟨by rw[List.length_take,Array.length_toList,hsz',hcs];exact Nat.min_eq_left (LH s hncap),.inr ⟨blk,cap,cur',rfl,hb,hgrow,hncap,hcap,by rw[hsz',hcs],rfl⟩⟩,λ i hi=>?_⟩,?_⟩
 ·have e1:((cur'.toList.take (n * s)).drop (i * s)).take s=enc (d'[i]'(by omega)):=by
   apply List.ext_getElem?;intro j;have hm:=hmul i hi;rw[DW];split
   ·rename_i hj;rw[dqI,DW,if_pos (by omega),Array.getElem?_toList,zzY _ (by omega)];have hdiv:(i * s+j) / s=i:=by rw[Nat.mul_comm,Nat.mul_add_div hpos,Nat.div_eq_of_lt hj,Nat.add_zero]
    have hmod:(i * s+j) % s=j:=by rw[Nat.mul_comm,Nat.mul_add_mod,Nat.mod_eq_of_lt hj]
    rw[get_flatK _ _ _ _ (by rw[Wq];omega),hdiv,hmod,getElem!_pos d' i (by omega),getElem!_pos _ _ (by rw[hk];exact hj)];exact (yz _).symm
   ·rename_i hj;rw[dqM (by rw[hk];omega)]
  rw[e1,hget i hi];exact hr _ (d'[i]'(by omega)).isLt
 ·refine ⟨⟨rfl, rfl, rfl, ?_, fun k hk hne => ?_⟩, EY (Nat.le_add_right _ _)⟩
  ·show w.heap.size ≤ ((putRow id (Sort.ahead w m) blk 0 (flatK enc s d')).heap ++ os).size;simp[putRow,mapBlock,Sort.ahead]
  ·show ((putRow id (Sort.ahead w m) blk 0 (flatK enc s d')).heap ++ os)[k]? = _;rw[Array.getElem?_append_left (by simpa [putRow,mapBlock,Sort.ahead] using hk)];exact Dz _ λ e=>hne (by rw[e];rfl)
end Go.Pm
namespace Go.Pm
open Go.Shelf Go.RowKit Go.Lib Go.Proofs
theorem Ws {P : Program} {ρ : Ren} (L : SlLaysE0.n41 P ρ) (i0 : TypeInfo) (z : Value) (size bytes : Nat) (hi : P.info? (ρ.t 23) = some i0) (hz0 : i0.zero = some z) (hz1 : i0.size = size) (hz2 : i0.bytes = bytes) (hzs : z.cells.size = size) (hsz : 0 < size)
    (z23:∀ w,(Go.sizeOf (ρ.t 23)).run P w=.ok size w) (a:Addr) (c:Nat) (w:World) :
    Calls P (ρ.f 41) #[.slice (some a) 0 c] w λ e w'=>∃ v',e=.returned v'/\w'.ownsRow w.heap.size (ρ.t 23) size v' 0 []/\Below w.heap.size w w':=by
  have mixed:=L.mixed;have t4:=L.t4;have a4:=L.a4;have z4:=L.z4;have v4:=L.v4;have t22:=L.t22;have a22:=L.a22;have z22:=L.z22;have v22:=L.v22;have q22:∀ (w:World) (a:Option Addr) (n c n' c':Nat),(binOp .eql (ρ.t 22) (.slice a n c) (.slice none n' c')).run P w=.ok (.bool a.isNone) w:=λ w a n c n' c'=>Lib.run_eql_slice_nil w _ _ a n c n' c' L.t22;have u22:∀ w,Sem.run P (underlying (ρ.t 22)) w=.ok (TypeDesc.slice (ρ.t 23)) w:=λ w=>run_underlying t22;obtain⟨_,_,FG⟩:=L.f41
  go_enter FG,SlBodyN.n41_ntmps ρ
  go_wp2_with (at_builtin;refine wpList_append_own _ rfl _ _ (ρ.t 22) rfl w.heap.size (ρ.t 23) i0 z size bytes t22 hi hz0 hz1 hz2 hzs hsz _ _ _ rfl (World.ownsRow_made w #[] 0 (iM _) (Nat.zero_le _) (by simp)) a 0 c [] rfl (by simp) (by intro j u hj;simp at hj) (by intro u hu;cases hu) (by unfold maxLen;omega) (by omega) (by simp) ?_)
  intro v' w1 hown hgrow hnil
  go_wp2
  go_ret
  exact⟨v',rfl,by simpa using hown,((Below.refl _ w).alloc (iM _) _).grown hgrow (by simp) (by intro k hk;simp[Value.ownBlock] at hk;omega)⟩
theorem LG {P : Program} {ρ : Ren} (L : SlLaysE0.n41 P ρ) {e s b : Nat} {i0 : TypeInfo} {z : Value} (he : ρ.t 23 = e) (hi : P.info? e = some i0) (hz0 : i0.zero = some z) (hz1 : i0.size = s) (hz2 : i0.bytes = b) (hzs : z.cells.size = s) (hsz : mP P e = some s) (hs : 0 < s)
    (hc:dD P (ρ.f 41)):ed P (ρ.f 41) (.clone e s b):=by
  subst he;intro w h v n get hv hw h1 h2;refine⟨hc,?_⟩;have zE:∀ w,(Go.sizeOf (ρ.t 23)).run P w=.ok s w:=λ w=>run_sizeOf hsz
  have fin:∀ (v':Value) (w':World) (news:List Value),w'.ownsRow w.heap.size (ρ.t 23) s v' n news->Below w.heap.size w w'->(∀ i,i < n->RL (Rep h) (get i) ((news.drop (i * s)).take s)) ->
      ∃ (h':Fz) (u:Value),Ending.returned v'=.returned u/\u.oneCell'=true/\wR h' w' w.heap.size (ρ.t 23) s u n get/\(∀ k,u.ownBlock=some k->h' k=none) /\
        uo h w.heap.size w w'/\iV h h'/\Hw h' w'/\∀ b o,h' b=some o->h b=some o\/w.heap.size<=b:=by
    intro v' w' news hown hbel hr;have hb:uo h w.heap.size w w':=⟨hbel.os,hbel.tape,hbel.output,hbel.size,iM _,λ k hk=>hbel.block k hk⟩;refine⟨h,v',rfl,?_,⟨news,hown,hr⟩,λ k hk=>?_,hb,λ _ _ h=>h,hw.same λ k o hk=>hb.block k (hw.lt hk),λ _ _ h=>.inl h⟩
    · rcases hown.2 with ⟨rfl,_⟩ | ⟨g,cap,cur,rfl,_⟩ <;> rfl
    · rcases hown.2 with ⟨rfl, _⟩ | ⟨g, cap, cur, rfl, hg, _⟩
      · cases hk
      · have : g = k := by simpa [Value.ownBlock] using hk
        subst this;cases e:h g with
        | none=>rfl
        | some o=>have:=hw.lt e;omega
  cases hv with
  | sl0 _ _ hu =>
    refine (AnyE.slices_Clone_nil L 0 0 w).mono ?_;rintro r w' ⟨rfl,rfl⟩;exact fin _ _ [] (World.ownsRow_nil _ _ _ _) (Below.refl _ _) λ i hi=>absurd hi (O0 i)
  | sle _ _ a cap hu =>
    refine (Ws L i0 z s b hi hz0 hz1 hz2 hzs hs zE a cap w).mono ?_;rintro r w' ⟨v',rfl,hown,hbel⟩;exact fin _ _ [] hown hbel λ i hi=>absurd hi (O0 i)
  | sl _ _ _ hu bk off cap C ty fr vs hb hcap hlen hcl hr =>
    let news:List Value:=(List.range (n * s)).map λ q=>vs (q / s) (q % s);have hl:news.length=n * s:=by simp[news]
    have hq:∀ q,q < n * s->q / s < n/\q % s < s:=λ q hq=>⟨Nat.div_lt_of_lt_mul (by rw[Nat.mul_comm];exact hq),Nat.mod_lt q hs⟩;have hn:∀ q,q < n * s->news[q]? = some (vs (q / s) (q % s)):=λ q hq=>by simp[news,hq]
    have hx:∀ i j,i < n->j < s->∃ x,(get i)[j]? = some x:=λ i j hi hj=>⟨_,yz (by rw[hlen i hi];exact hj)⟩;have hcell:=hw.fz hb;refine (AnyE.slices_Clone L i0 z s b hi hz0 hz1 hz2 hzs hs zE bk off n cap news w hl h2 h1 (λ j u hj=>?_) λ u hu=>?_).mono ?_
    · have hjl : j < n * s := by have := (xy.1 hj).1; omega
      obtain⟨a1,a2⟩:=hq j hjl;rw[hn j hjl] at hj;cases hj;obtain⟨x,hx⟩:=hx _ _ a1 a2;have hc:=hcl _ _ x a1 hx;have hone:=(hr _ _ x a1 hx).one;rw[show off+j / s * s+j % s=off+j by rw[Nat.add_assoc,Nat.mul_comm];rw[Nat.div_add_mod]] at hc;rw[cell_of hcell];exact hc
    · obtain ⟨j, hj⟩ := List.getElem?_of_mem hu;have hjl:j < n * s:=by have:=(xy.1 hj).1;omega
      obtain⟨a1,a2⟩:=hq j hjl;rw[hn j hjl] at hj;cases hj;obtain⟨x,hx⟩:=hx _ _ a1 a2;exact (hr _ _ x a1 hx).one
    · rintro r w' ⟨v', rfl, hown, _, hbel⟩;refine fin _ _ news hown hbel λ i hi=>RL.of_get ?_ λ j x y hx hy=>?_
      · have hm : i * s + s ≤ n * s := by have := LH s (Nat.succ_le_of_lt hi); rw [OZ] at this; exact this
        rw[hlen i hi,List.length_take,List.length_drop,hl];omega
      · have hj : j < s := by have := (xy.1 hx).1; rw [hlen i hi] at this; exact this
        have hm:i * s+s<=n * s:=by have:=LH s (Nat.succ_le_of_lt hi);rw[OZ] at this;exact this
        rw[DW,if_pos hj,dqI,hn _ (by omega)] at hy;rw[show (i * s+j) / s=i by rw[Nat.mul_comm,Nat.mul_add_div hs,Nat.div_eq_of_lt hj,Nat.add_zero],show (i * s+j) % s=j by rw[Nat.mul_comm,Nat.mul_add_mod,Nat.mod_eq_of_lt hj]] at hy;cases hy;exact hr i j x hi hx
end Go.Pm
namespace Go.Proofs
open Go.Shelf
def Tryz.laysS253_ren:Go.Shelf.Ren:=⟨fun | 6=>253 | 15=>184 | 14=>256 | 28=>220 | 29=>221 | 20=>258 | 21=>259 | 22=>260 | 23=>261 | 24=>262 | 25=>263 | 26=>264 | 27=>265 | 46=>266 | 47=>242 | 48=>243 | 49=>267 | 50=>268 | 57=>269 | n=>n,fun | 22=>195 | 24=>204 | 25=>322 | 3=>3 | 39=>260 | 0=>0 | 53=>292 | 55=>294 | 4=>4 | 46=>286 | 45=>285 | 50=>174 | 5=>5 | 9=>9 | 66=>305 | 70=>309 | 76=>317 | 77=>221 | n=>n,fun | n=>n⟩
theorem Tryz.laysS253 : Go.Proofs.SlLaysF0.n6 Tryz.prog Tryz.laysS253_ren := {
  mixed:=by kernel_rfl
  f6:=⟨Tryz.f253.name,by decide,Tryz.func253.trans (congrArg some (by kernel_rfl))⟩
  f14:=⟨Tryz.f256.name,by decide,Tryz.func256.trans (congrArg some (by kernel_rfl))⟩
  f15:=Tryz.func184.trans (congrArg some (by kernel_rfl))
  f20:=⟨Tryz.f258.name,by decide,Tryz.func258.trans (congrArg some (by kernel_rfl))⟩
  f21:=⟨Tryz.f259.name,by decide,Tryz.func259.trans (congrArg some (by kernel_rfl))⟩
  f22:=⟨Tryz.f260.name,by decide,Tryz.func260.trans (congrArg some (by kernel_rfl))⟩
  f23:=⟨Tryz.f261.name,by decide,Tryz.func261.trans (congrArg some (by kernel_rfl))⟩
  f24:=⟨Tryz.f262.name,by decide,Tryz.func262.trans (congrArg some (by kernel_rfl))⟩
  f25:=⟨Tryz.f263.name,by decide,Tryz.func263.trans (congrArg some (by kernel_rfl))⟩
  f26:=⟨Tryz.f264.name,by decide,Tryz.func264.trans (congrArg some (by kernel_rfl))⟩
  f27:=⟨Tryz.f265.name,by decide,Tryz.func265.trans (congrArg some (by kernel_rfl))⟩
  f28:=Tryz.func220.trans (congrArg some (by kernel_rfl))
  f29:=Tryz.func221.trans (congrArg some (by kernel_rfl))
  f46:=⟨Tryz.f266.name,by decide,Tryz.func266.trans (congrArg some (by kernel_rfl))⟩
  f47:=Tryz.func242.trans (congrArg some (by kernel_rfl))
  f48:=Tryz.func243.trans (congrArg some (by kernel_rfl))
  f49:=⟨Tryz.f267.name,by decide,Tryz.func267.trans (congrArg some (by kernel_rfl))⟩
  f50:=⟨Tryz.f268.name,by decide,Tryz.func268.trans (congrArg some (by kernel_rfl))⟩
  f57:=⟨Tryz.f269.name,by decide,Tryz.func269.trans (congrArg some (by kernel_rfl))⟩
  t0:=Tryz.underlying0
  a0:=Tryz.isAgg0
  z0:=Tryz.sizeOf0
  v0:=Tryz.zeroValue0
  t3:=Tryz.underlying3
  a3:=Tryz.isAgg3
  z3:=Tryz.sizeOf3
  v3:=Tryz.zeroValue3
  t4:=Tryz.underlying4
  a4:=Tryz.isAgg4
  z4:=Tryz.sizeOf4
  v4:=Tryz.zeroValue4
  t5:=Tryz.underlying5
  a5:=Tryz.isAgg5
  z5:=Tryz.sizeOf5
  v5:=Tryz.zeroValue5
  t9:=Tryz.underlying9
  a9:=Tryz.isAgg9
  z9:=Tryz.sizeOf9
  v9:=Tryz.zeroValue9
  t22:=Tryz.underlying195
  a22:=Tryz.isAgg195
  z22:=Tryz.sizeOf195
  v22:=Tryz.zeroValue195
  t25:=Tryz.underlying322
  a25:=Tryz.isAgg322
  z25:=Tryz.sizeOf322
  v25:=Tryz.zeroValue322
  t39:=Tryz.underlying260
  a39:=Tryz.isAgg260
  z39:=Tryz.sizeOf260
  v39:=Tryz.zeroValue260
  t45:=Tryz.underlying285
  a45:=Tryz.isAgg285
  z45:=Tryz.sizeOf285
  v45:=Tryz.zeroValue285
  t46:=Tryz.underlying286
  a46:=Tryz.isAgg286
  z46:=Tryz.sizeOf286
  v46:=Tryz.zeroValue286
  t50:=Tryz.underlying174
  a50:=Tryz.isAgg174
  z50:=Tryz.sizeOf174
  v50:=Tryz.zeroValue174
  t53:=Tryz.underlying292
  a53:=Tryz.isAgg292
  z53:=Tryz.sizeOf292
  v53:=Tryz.zeroValue292
  t55:=Tryz.underlying294
  a55:=Tryz.isAgg294
  z55:=Tryz.sizeOf294
  v55:=Tryz.zeroValue294
  t66:=Tryz.underlying305
  a66:=Tryz.isAgg305
  z66:=Tryz.sizeOf305
  v66:=Tryz.zeroValue305
  t70:=Tryz.underlying309
  a70:=Tryz.isAgg309
  z70:=Tryz.sizeOf309
  v70:=Tryz.zeroValue309
  t76:=Tryz.underlying317
  a76:=Tryz.isAgg317
  z76:=Tryz.sizeOf317
  v76:=Tryz.zeroValue317
  t77:=Tryz.underlying221
  a77:=Tryz.isAgg221
  z77:=Tryz.sizeOf221
  v77:=Tryz.zeroValue221 }
def Tryz.laysS133_ren:Go.Shelf.Ren:=⟨fun | 6=>133 | 15=>184 | 14=>183 | 28=>220 | 29=>221 | 20=>212 | 21=>213 | 22=>214 | 23=>215 | 24=>216 | 25=>217 | 26=>218 | 27=>219 | 46=>241 | 47=>242 | 48=>243 | 49=>244 | 50=>245 | 57=>250 | n=>n,fun | 22=>30 | 24=>43 | 25=>220 | 3=>3 | 39=>260 | 0=>0 | 53=>292 | 55=>294 | 4=>4 | 46=>286 | 45=>285 | 50=>174 | 5=>5 | 9=>9 | 66=>305 | 70=>309 | 76=>317 | 77=>221 | n=>n,fun | n=>n⟩
theorem Tryz.laysS133 : Go.Proofs.SlLaysF0.n6 Tryz.prog Tryz.laysS133_ren := {
  mixed:=by kernel_rfl
  f6:=⟨Tryz.f133.name,by decide,Tryz.func133.trans (congrArg some (by kernel_rfl))⟩
  f14:=⟨Tryz.f183.name,by decide,Tryz.func183.trans (congrArg some (by kernel_rfl))⟩
  f15:=Tryz.func184.trans (congrArg some (by kernel_rfl))
  f20:=⟨Tryz.f212.name,by decide,Tryz.func212.trans (congrArg some (by kernel_rfl))⟩
  f21:=⟨Tryz.f213.name,by decide,Tryz.func213.trans (congrArg some (by kernel_rfl))⟩
  f22:=⟨Tryz.f214.name,by decide,Tryz.func214.trans (congrArg some (by kernel_rfl))⟩
  f23:=⟨Tryz.f215.name,by decide,Tryz.func215.trans (congrArg some (by kernel_rfl))⟩
  f24:=⟨Tryz.f216.name,by decide,Tryz.func216.trans (congrArg some (by kernel_rfl))⟩
  f25:=⟨Tryz.f217.name,by decide,Tryz.func217.trans (congrArg some (by kernel_rfl))⟩
  f26:=⟨Tryz.f218.name,by decide,Tryz.func218.trans (congrArg some (by kernel_rfl))⟩
  f27:=⟨Tryz.f219.name,by decide,Tryz.func219.trans (congrArg some (by kernel_rfl))⟩
  f28:=Tryz.func220.trans (congrArg some (by kernel_rfl))
  f29:=Tryz.func221.trans (congrArg some (by kernel_rfl))
  f46:=⟨Tryz.f241.name,by decide,Tryz.func241.trans (congrArg some (by kernel_rfl))⟩
  f47:=Tryz.func242.trans (congrArg some (by kernel_rfl))
  f48:=Tryz.func243.trans (congrArg some (by kernel_rfl))
  f49:=⟨Tryz.f244.name,by decide,Tryz.func244.trans (congrArg some (by kernel_rfl))⟩
  f50:=⟨Tryz.f245.name,by decide,Tryz.func245.trans (congrArg some (by kernel_rfl))⟩
  f57:=⟨Tryz.f250.name,by decide,Tryz.func250.trans (congrArg some (by kernel_rfl))⟩
  t0:=Tryz.underlying0
  a0:=Tryz.isAgg0
  z0:=Tryz.sizeOf0
  v0:=Tryz.zeroValue0
  t3:=Tryz.underlying3
  a3:=Tryz.isAgg3
  z3:=Tryz.sizeOf3
  v3:=Tryz.zeroValue3
  t4:=Tryz.underlying4
  a4:=Tryz.isAgg4
  z4:=Tryz.sizeOf4
  v4:=Tryz.zeroValue4
  t5:=Tryz.underlying5
  a5:=Tryz.isAgg5
  z5:=Tryz.sizeOf5
  v5:=Tryz.zeroValue5
  t9:=Tryz.underlying9
  a9:=Tryz.isAgg9
  z9:=Tryz.sizeOf9
  v9:=Tryz.zeroValue9
  t22:=Tryz.underlying30
  a22:=Tryz.isAgg30
  z22:=Tryz.sizeOf30
  v22:=Tryz.zeroValue30
  t25:=Tryz.underlying220
  a25:=Tryz.isAgg220
  z25:=Tryz.sizeOf220
  v25:=Tryz.zeroValue220
  t39:=Tryz.underlying260
  a39:=Tryz.isAgg260
  z39:=Tryz.sizeOf260
  v39:=Tryz.zeroValue260
  t45:=Tryz.underlying285
  a45:=Tryz.isAgg285
  z45:=Tryz.sizeOf285
  v45:=Tryz.zeroValue285
  t46:=Tryz.underlying286
  a46:=Tryz.isAgg286
  z46:=Tryz.sizeOf286
  v46:=Tryz.zeroValue286
  t50:=Tryz.underlying174
  a50:=Tryz.isAgg174
  z50:=Tryz.sizeOf174
  v50:=Tryz.zeroValue174
  t53:=Tryz.underlying292
  a53:=Tryz.isAgg292
  z53:=Tryz.sizeOf292
  v53:=Tryz.zeroValue292
  t55:=Tryz.underlying294
  a55:=Tryz.isAgg294
  z55:=Tryz.sizeOf294
  v55:=Tryz.zeroValue294
  t66:=Tryz.underlying305
  a66:=Tryz.isAgg305
  z66:=Tryz.sizeOf305
  v66:=Tryz.zeroValue305
  t70:=Tryz.underlying309
  a70:=Tryz.isAgg309
  z70:=Tryz.sizeOf309
  v70:=Tryz.zeroValue309
  t76:=Tryz.underlying317
  a76:=Tryz.isAgg317
  z76:=Tryz.sizeOf317
  v76:=Tryz.zeroValue317
  t77:=Tryz.underlying221
  a77:=Tryz.isAgg221
  z77:=Tryz.sizeOf221
  v77:=Tryz.zeroValue221 }
end Go.Proofs
namespace Go.Proofs
open Go.Shelf
def Tryz.laysC181_ren:Go.Shelf.Ren:=⟨fun | 41=>181 | n=>n,fun | 22=>39 | 23=>3 | n=>n,fun | n=>n⟩
theorem Tryz.laysC181 : Go.Proofs.SlLaysE0.n41 Tryz.prog Tryz.laysC181_ren := {
  mixed:=by kernel_rfl
  f41:=⟨Tryz.f181.name,by decide,Tryz.func181.trans (congrArg some (by kernel_rfl))⟩
  t4:=Tryz.underlying4
  a4:=Tryz.isAgg4
  z4:=Tryz.sizeOf4
  v4:=Tryz.zeroValue4
  t22:=Tryz.underlying39
  a22:=Tryz.isAgg39
  z22:=Tryz.sizeOf39
  v22:=Tryz.zeroValue39 }
def Tryz.laysC252_ren:Go.Shelf.Ren:=⟨fun | 41=>252 | n=>n,fun | 22=>195 | 23=>204 | n=>n,fun | n=>n⟩
theorem Tryz.laysC252 : Go.Proofs.SlLaysE0.n41 Tryz.prog Tryz.laysC252_ren := {
  mixed:=by kernel_rfl
  f41:=⟨Tryz.f252.name,by decide,Tryz.func252.trans (congrArg some (by kernel_rfl))⟩
  t4:=Tryz.underlying4
  a4:=Tryz.isAgg4
  z4:=Tryz.sizeOf4
  v4:=Tryz.zeroValue4
  t22:=Tryz.underlying195
  a22:=Tryz.isAgg195
  z22:=Tryz.sizeOf195
  v22:=Tryz.zeroValue195 }
end Go.Proofs
namespace Go.Proofs
open Go Go.Pm
set_option maxRecDepth 100000
abbrev NK:Nat:=1000
def nP:ak:=⟨.of [⟨1,1,0,0,10,10,0,⟨0,0⟩,⟨0,0⟩,2,0,.of [],.of []⟩,⟨1,2,50,0,10,10,0,⟨0,0⟩,⟨0,0⟩,2,0,.of [],.of []⟩,⟨1,1,100,0,10,10,0,⟨0,0⟩,⟨0,0⟩,2,0,.of [],.of []⟩,⟨1,2,150,0,10,10,0,⟨0,0⟩,⟨0,0⟩,2,0,.of [],.of []⟩,⟨1,1,200,0,10,10,0,⟨0,0⟩,⟨0,0⟩,2,0,.of [],.of []⟩]⟩
def zA0:Sl bz:=.of [⟨0,2,1,0,0,0⟩,⟨2,3,1,0,0,1⟩,⟨4,4,1,0,0,2⟩,⟨4,8,1,0,0,0⟩,⟨1,5,1,0,0,1⟩,⟨3,5,1,0,0,1⟩]
def zB0:Sl (Sl aB):=.of [.of [⟨0,20,30⟩],.of [⟨100,30,40⟩],.of [⟨200,40,50⟩],.of [⟨200,80,90⟩],.of [⟨50,50,60⟩],.of [⟨150,50,60⟩]]
def Ew:Pt aX:=⟨⟨nP,zA0,zB0,⟨2,0⟩⟩⟩
abbrev TB:={T:Tabs // ay ax T}
def TB.m {δ ρ:Type} [dC δ] [dC ρ] (T:TB) (f:FuncId) (y:δ×ρ) (h:ziy ((dw T.1 []).fn f) y=true):TB:=⟨T.1.memo f y,ay.memo T.2 h⟩
theorem zgE:ed ax 253 (.sort 204 3 24):=LD Tryz.laysS253 rfl rfl rfl (au (by kernel_rfl))
theorem zgF:ed ax 133 (.sort 43 3 56):=LD Tryz.laysS133 rfl rfl rfl (au (by kernel_rfl))
theorem zgG:ed ax 181 (.clone 3 1 8):=LG Tryz.laysC181 rfl rfl rfl rfl rfl rfl rfl (by decide) (au (by kernel_rfl))
theorem zgH:ed ax 252 (.clone 204 3 24):=LG Tryz.laysC252 rfl rfl rfl rfl rfl rfl rfl (by decide) (au (by kernel_rfl))
def K1 : TB := ⟨lw ax NK Tabs.nil
  [.f 161 {},
   .f 232 {},
   .f 233 {},
   .f 234 {},
   .f 164 {},
   .f 235 {},
   .f 201 {},
   .f 160 {}],dP ay.nil (by kernel_rfl)⟩
def K2:TB:=K1.m 160 (((nP),true):(ak)×(Bool)) (by kernel_rfl)
def K3 : TB := ⟨lw ax NK K2.1
  [.f 122 {},
   .f 123 {},
   .f 60 {},
   .f 112 {},
   .f 188 {},
   .f 138 {},
   .f 223 {},
   .i 251 { yl:=[3] },
   .f 246 {},
   .f 224 {},
   .f 189 {},
   .f 139 {}],dP K2.2 (by kernel_rfl)⟩
def K4:TB:=K3.m 139 (((nP,⟨0,2,1,0,0,0⟩),((.of [⟨0,20,30⟩]),0)):(ak×bz)×(Sl aB×Int)) (by kernel_rfl)
def K5:TB:=K4.m 139 (((nP,⟨2,3,1,0,0,1⟩),((.of [⟨100,30,40⟩]),0)):(ak×bz)×(Sl aB×Int)) (by kernel_rfl)
def K6:TB:=K5.m 139 (((nP,⟨4,4,1,0,0,2⟩),((.of [⟨200,40,50⟩]),0)):(ak×bz)×(Sl aB×Int)) (by kernel_rfl)
def K7:TB:=K6.m 139 (((nP,⟨4,8,1,0,0,0⟩),((.of [⟨200,80,90⟩]),0)):(ak×bz)×(Sl aB×Int)) (by kernel_rfl)
def K8:TB:=K7.m 139 (((nP,⟨1,5,1,0,0,1⟩),((.of [⟨50,50,60⟩]),0)):(ak×bz)×(Sl aB×Int)) (by kernel_rfl)
def K9:TB:=K8.m 139 (((nP,⟨3,5,1,0,0,1⟩),((.of [⟨150,50,60⟩]),0)):(ak×bz)×(Sl aB×Int)) (by kernel_rfl)
def K10 : TB := ⟨lw ax NK K9.1
  [.f 78 {}],dP K9.2 (by kernel_rfl)⟩
def K11:TB:=K10.m 78 (((nP,⟨2,0⟩,zA0),(Ew,0)):(ak×bF×Sl bz)×(Pt aX×Int)) (by kernel_rfl)
def K12 : TB := ⟨lw ax NK K11.1
  [.f 176 {},
   .f 126 {},
   .f 140 {},
   .i 173 { yl:=[7] },
   .f 121 {},
   .f 180 {},
   .f 190 {},
   .f 210 {},
   .f 179 {}],dP K11.2 (by kernel_rfl)⟩
def K13:TB:=⟨K12.1.addO 181 (.clone 3 1 8),ay.addO K12.2 zgG⟩
def K14 : TB := ⟨lw ax NK K13.1
  [.f 111 {}],dP K13.2 (by kernel_rfl)⟩
def K15:TB:=K14.m 111 (((nP,(.of [⟨0,2,1,0,0,0⟩])),0):(ak×Sl bz)×(Int)) (by kernel_rfl)
def K16:TB:=K15.m 111 (((nP,(.of [⟨0,2,1,0,0,0⟩,⟨2,3,1,0,0,1⟩])),0):(ak×Sl bz)×(Int)) (by kernel_rfl)
def K17:TB:=K16.m 111 (((nP,(.of [⟨0,2,1,0,0,0⟩,⟨2,3,1,0,0,1⟩,⟨4,4,1,0,0,2⟩])),0):(ak×Sl bz)×(Int)) (by kernel_rfl)
def K18:TB:=K17.m 111 (((nP,(.of [⟨0,2,1,0,0,0⟩,⟨2,3,1,0,0,1⟩,⟨4,8,1,0,0,0⟩])),0):(ak×Sl bz)×(Int)) (by kernel_rfl)
def K19:TB:=K18.m 111 (((nP,(.of [⟨0,2,1,0,0,0⟩,⟨4,4,1,0,0,2⟩])),0):(ak×Sl bz)×(Int)) (by kernel_rfl)
def K20:TB:=K19.m 111 (((nP,(.of [⟨0,2,1,0,0,0⟩,⟨4,8,1,0,0,0⟩])),0):(ak×Sl bz)×(Int)) (by kernel_rfl)
def K21:TB:=K20.m 111 (((nP,(.of [⟨2,3,1,0,0,1⟩])),0):(ak×Sl bz)×(Int)) (by kernel_rfl)
def K22:TB:=K21.m 111 (((nP,(.of [⟨2,3,1,0,0,1⟩,⟨4,4,1,0,0,2⟩])),0):(ak×Sl bz)×(Int)) (by kernel_rfl)
def K23:TB:=K22.m 111 (((nP,(.of [⟨2,3,1,0,0,1⟩,⟨4,8,1,0,0,0⟩])),0):(ak×Sl bz)×(Int)) (by kernel_rfl)
def K24:TB:=K23.m 111 (((nP,(.of [⟨4,4,1,0,0,2⟩])),0):(ak×Sl bz)×(Int)) (by kernel_rfl)
def K25:TB:=K24.m 111 (((nP,(.of [⟨4,8,1,0,0,0⟩])),0):(ak×Sl bz)×(Int)) (by kernel_rfl)
def K26:TB:=K25.m 111 (((nP,(.of [⟨1,5,1,0,0,1⟩])),0):(ak×Sl bz)×(Int)) (by kernel_rfl)
def K27:TB:=K26.m 111 (((nP,(.of [⟨1,5,1,0,0,1⟩,⟨3,5,1,0,0,1⟩])),0):(ak×Sl bz)×(Int)) (by kernel_rfl)
def K28:TB:=K27.m 111 (((nP,(.of [⟨3,5,1,0,0,1⟩])),0):(ak×Sl bz)×(Int)) (by kernel_rfl)
def K29 : TB := ⟨lw ax NK K28.1
  [.f 113 {},
   .f 50 {}],dP K28.2 (by kernel_rfl)⟩
def K30:TB:=K29.m 50 (((nP,(.of [⟨0,2,1,0,0,0⟩])),(⟨(-2),2⟩,0)):(ak×Sl bz)×(bV×Int)) (by kernel_rfl)
def K31:TB:=K30.m 50 (((nP,(.of [⟨0,2,1,0,0,0⟩,⟨2,3,1,0,0,1⟩])),(⟨(-1),2⟩,0)):(ak×Sl bz)×(bV×Int)) (by kernel_rfl)
def K32:TB:=K31.m 50 (((nP,(.of [⟨0,2,1,0,0,0⟩,⟨2,3,1,0,0,1⟩,⟨4,4,1,0,0,2⟩])),(⟨0,2⟩,0)):(ak×Sl bz)×(bV×Int)) (by kernel_rfl)
def K33:TB:=K32.m 50 (((nP,(.of [⟨0,2,1,0,0,0⟩,⟨2,3,1,0,0,1⟩,⟨4,8,1,0,0,0⟩])),(⟨(-1),2⟩,0)):(ak×Sl bz)×(bV×Int)) (by kernel_rfl)
def K34:TB:=K33.m 50 (((nP,(.of [⟨0,2,1,0,0,0⟩,⟨4,4,1,0,0,2⟩])),(⟨0,2⟩,0)):(ak×Sl bz)×(bV×Int)) (by kernel_rfl)
def K35:TB:=K34.m 50 (((nP,(.of [⟨0,2,1,0,0,0⟩,⟨4,8,1,0,0,0⟩])),(⟨(-2),2⟩,0)):(ak×Sl bz)×(bV×Int)) (by kernel_rfl)
def K36:TB:=K35.m 50 (((nP,(.of [⟨2,3,1,0,0,1⟩])),(⟨(-1),3⟩,0)):(ak×Sl bz)×(bV×Int)) (by kernel_rfl)
def K37:TB:=K36.m 50 (((nP,(.of [⟨2,3,1,0,0,1⟩,⟨4,4,1,0,0,2⟩])),(⟨0,3⟩,0)):(ak×Sl bz)×(bV×Int)) (by kernel_rfl)
def K38:TB:=K37.m 50 (((nP,(.of [⟨2,3,1,0,0,1⟩,⟨4,8,1,0,0,0⟩])),(⟨(-1),2⟩,0)):(ak×Sl bz)×(bV×Int)) (by kernel_rfl)
def K39:TB:=K38.m 50 (((nP,(.of [⟨4,4,1,0,0,2⟩])),(⟨0,4⟩,0)):(ak×Sl bz)×(bV×Int)) (by kernel_rfl)
def K40:TB:=K39.m 50 (((nP,(.of [⟨4,8,1,0,0,0⟩])),(⟨(-2),2⟩,0)):(ak×Sl bz)×(bV×Int)) (by kernel_rfl)
def K41:TB:=K40.m 50 (((nP,(.of [⟨1,5,1,0,0,1⟩])),(⟨(-1),3⟩,0)):(ak×Sl bz)×(bV×Int)) (by kernel_rfl)
def K42:TB:=K41.m 50 (((nP,(.of [⟨1,5,1,0,0,1⟩,⟨3,5,1,0,0,1⟩])),(⟨(-1),3⟩,0)):(ak×Sl bz)×(bV×Int)) (by kernel_rfl)
def K43:TB:=K42.m 50 (((nP,(.of [⟨3,5,1,0,0,1⟩])),(⟨(-1),3⟩,0)):(ak×Sl bz)×(bV×Int)) (by kernel_rfl)
def K44 : TB := ⟨lw ax NK K43.1
  [.f 93 {},
   .f 105 {},
   .f 118 {},
   .f 162 {},
   .f 157 {},
   .f 156 {},
   .f 109 {},
   .f 207 {},
   .f 231 {},
   .f 230 {},
   .f 257 {},
   .f 238 {},
   .f 206 {},
   .f 167 {},
   .f 229 {},
   .i 228 { yl:=[13] },
   .f 197 {},
   .f 209 {},
   .f 172 {}],dP K43.2 (by kernel_rfl)⟩
def K45:TB:=K44.m 172 (((10,100),(⟨1,10⟩)):(Int×Int)×(aQ)) (by kernel_rfl)
def K46:TB:=K45.m 172 (((2000,100),(⟨20,1⟩)):(Int×Int)×(aQ)) (by kernel_rfl)
def K47:TB:=K46.m 172 (((20,100),(⟨1,5⟩)):(Int×Int)×(aQ)) (by kernel_rfl)
def K48:TB:=K47.m 172 (((0,100),(⟨0,1⟩)):(Int×Int)×(aQ)) (by kernel_rfl)
def K49:TB:=K48.m 172 (((3000,100),(⟨30,1⟩)):(Int×Int)×(aQ)) (by kernel_rfl)
def K50:TB:=K49.m 172 (((20,200),(⟨1,10⟩)):(Int×Int)×(aQ)) (by kernel_rfl)
def K51:TB:=K50.m 172 (((4000,200),(⟨20,1⟩)):(Int×Int)×(aQ)) (by kernel_rfl)
def K52:TB:=K51.m 172 (((30,200),(⟨3,20⟩)):(Int×Int)×(aQ)) (by kernel_rfl)
def K53:TB:=K52.m 172 (((10,200),(⟨1,20⟩)):(Int×Int)×(aQ)) (by kernel_rfl)
def K54:TB:=K53.m 172 (((6000,200),(⟨30,1⟩)):(Int×Int)×(aQ)) (by kernel_rfl)
def K55:TB:=K54.m 172 (((1000,100),(⟨10,1⟩)):(Int×Int)×(aQ)) (by kernel_rfl)
def K56:TB:=K55.m 172 (((4000,100),(⟨40,1⟩)):(Int×Int)×(aQ)) (by kernel_rfl)
def K57:TB:=K56.m 172 (((60,200),(⟨3,10⟩)):(Int×Int)×(aQ)) (by kernel_rfl)
def K58:TB:=K57.m 172 (((70,200),(⟨7,20⟩)):(Int×Int)×(aQ)) (by kernel_rfl)
def K59:TB:=K58.m 172 (((50,200),(⟨1,4⟩)):(Int×Int)×(aQ)) (by kernel_rfl)
def K60:TB:=K59.m 172 (((50,100),(⟨1,2⟩)):(Int×Int)×(aQ)) (by kernel_rfl)
def K61:TB:=K60.m 172 ((((-2000),100),(⟨(-20),1⟩)):(Int×Int)×(aQ)) (by kernel_rfl)
def K62:TB:=K61.m 172 (((60,100),(⟨3,5⟩)):(Int×Int)×(aQ)) (by kernel_rfl)
def K63:TB:=K62.m 172 ((((-3000),100),(⟨(-30),1⟩)):(Int×Int)×(aQ)) (by kernel_rfl)
def K64:TB:=K63.m 172 (((40,100),(⟨2,5⟩)):(Int×Int)×(aQ)) (by kernel_rfl)
def K65:TB:=K64.m 172 ((((-1000),100),(⟨(-10),1⟩)):(Int×Int)×(aQ)) (by kernel_rfl)
def K66:TB:=K65.m 172 (((6000,100),(⟨60,1⟩)):(Int×Int)×(aQ)) (by kernel_rfl)
def K67:TB:=K66.m 172 (((8000,200),(⟨40,1⟩)):(Int×Int)×(aQ)) (by kernel_rfl)
def K68:TB:=K67.m 172 (((10000,200),(⟨50,1⟩)):(Int×Int)×(aQ)) (by kernel_rfl)
def K69:TB:=K68.m 172 (((12000,200),(⟨60,1⟩)):(Int×Int)×(aQ)) (by kernel_rfl)
def K70:TB:=K69.m 172 (((5000,100),(⟨50,1⟩)):(Int×Int)×(aQ)) (by kernel_rfl)
def K71:TB:=K70.m 172 (((4500,100),(⟨45,1⟩)):(Int×Int)×(aQ)) (by kernel_rfl)
def K72:TB:=K71.m 172 ((((-10),100),(⟨(-1),10⟩)):(Int×Int)×(aQ)) (by kernel_rfl)
def K73:TB:=K72.m 172 (((6500,100),(⟨65,1⟩)):(Int×Int)×(aQ)) (by kernel_rfl)
def K74 : TB := ⟨lw ax NK K73.1
  [.f 198 {}],dP K73.2 (by kernel_rfl)⟩
def K75:TB:=K74.m 198 (((⟨10,2000,100⟩),(⟨⟨1,10⟩,⟨20,1⟩⟩)):(straight)×(Line)) (by kernel_rfl)
def K76:TB:=K75.m 198 (((⟨20,2000,100⟩),(⟨⟨1,5⟩,⟨20,1⟩⟩)):(straight)×(Line)) (by kernel_rfl)
def K77:TB:=K76.m 198 (((⟨0,3000,100⟩),(⟨⟨0,1⟩,⟨30,1⟩⟩)):(straight)×(Line)) (by kernel_rfl)
def K78:TB:=K77.m 198 (((⟨10,3000,100⟩),(⟨⟨1,10⟩,⟨30,1⟩⟩)):(straight)×(Line)) (by kernel_rfl)
def K79:TB:=K78.m 198 (((⟨20,4000,200⟩),(⟨⟨1,10⟩,⟨20,1⟩⟩)):(straight)×(Line)) (by kernel_rfl)
def K80:TB:=K79.m 198 (((⟨30,4000,200⟩),(⟨⟨3,20⟩,⟨20,1⟩⟩)):(straight)×(Line)) (by kernel_rfl)
def K81:TB:=K80.m 198 (((⟨10,6000,200⟩),(⟨⟨1,20⟩,⟨30,1⟩⟩)):(straight)×(Line)) (by kernel_rfl)
def K82:TB:=K81.m 198 (((⟨20,6000,200⟩),(⟨⟨1,10⟩,⟨30,1⟩⟩)):(straight)×(Line)) (by kernel_rfl)
def K83:TB:=K82.m 198 (((⟨20,1000,100⟩),(⟨⟨1,5⟩,⟨10,1⟩⟩)):(straight)×(Line)) (by kernel_rfl)
def K84:TB:=K83.m 198 (((⟨0,4000,100⟩),(⟨⟨0,1⟩,⟨40,1⟩⟩)):(straight)×(Line)) (by kernel_rfl)
def K85:TB:=K84.m 198 (((⟨60,4000,200⟩),(⟨⟨3,10⟩,⟨20,1⟩⟩)):(straight)×(Line)) (by kernel_rfl)
def K86:TB:=K85.m 198 (((⟨70,4000,200⟩),(⟨⟨7,20⟩,⟨20,1⟩⟩)):(straight)×(Line)) (by kernel_rfl)
def K87:TB:=K86.m 198 (((⟨50,6000,200⟩),(⟨⟨1,4⟩,⟨30,1⟩⟩)):(straight)×(Line)) (by kernel_rfl)
def K88:TB:=K87.m 198 (((⟨60,6000,200⟩),(⟨⟨3,10⟩,⟨30,1⟩⟩)):(straight)×(Line)) (by kernel_rfl)
def K89:TB:=K88.m 198 (((⟨50,(-2000),100⟩),(⟨⟨1,2⟩,⟨(-20),1⟩⟩)):(straight)×(Line)) (by kernel_rfl)
def K90:TB:=K89.m 198 (((⟨60,(-3000),100⟩),(⟨⟨3,5⟩,⟨(-30),1⟩⟩)):(straight)×(Line)) (by kernel_rfl)
def K91:TB:=K90.m 198 (((⟨40,0,100⟩),(⟨⟨2,5⟩,⟨0,1⟩⟩)):(straight)×(Line)) (by kernel_rfl)
def K92:TB:=K91.m 198 (((⟨50,(-1000),100⟩),(⟨⟨1,2⟩,⟨(-10),1⟩⟩)):(straight)×(Line)) (by kernel_rfl)
def K93:TB:=K92.m 198 (((⟨0,5000,100⟩),(⟨⟨0,1⟩,⟨50,1⟩⟩)):(straight)×(Line)) (by kernel_rfl)
def K94:TB:=K93.m 198 (((⟨10,4500,100⟩),(⟨⟨1,10⟩,⟨45,1⟩⟩)):(straight)×(Line)) (by kernel_rfl)
def K95:TB:=K94.m 198 (((⟨(-10),6500,100⟩),(⟨⟨(-1),10⟩,⟨65,1⟩⟩)):(straight)×(Line)) (by kernel_rfl)
def K96:TB:=K95.m 198 (((⟨0,6000,100⟩),(⟨⟨0,1⟩,⟨60,1⟩⟩)):(straight)×(Line)) (by kernel_rfl)
def K97 : TB := ⟨lw ax NK K96.1
  [.f 199 {},
   .f 158 { vv:=[14] }],dP K96.2 (by kernel_rfl)⟩
def K98:TB:=K97.m 158 ((((.of [⟨0,20,30⟩])),(⟨⟨.of [⟨0,20,30⟩]⟩,.of []⟩)):(Sl aB)×(set)) (by kernel_rfl)
def K99:TB:=K98.m 158 ((((.of [⟨0,20,30⟩,⟨100,30,40⟩])),(⟨⟨.of [⟨0,20,30⟩,⟨100,30,40⟩]⟩,.of [⟨10,2000,100⟩,⟨20,2000,100⟩,⟨0,3000,100⟩,⟨10,3000,100⟩]⟩)):(Sl aB)×(set)) (by kernel_rfl)
def zNy:TB:=K99.m 158 ((((.of [⟨0,20,30⟩,⟨100,30,40⟩,⟨200,40,50⟩])),(⟨⟨.of [⟨0,20,30⟩,⟨100,30,40⟩,⟨200,40,50⟩]⟩,.of [⟨10,2000,100⟩,⟨10,3000,100⟩,⟨30,4000,200⟩,⟨10,6000,200⟩]⟩)):(Sl aB)×(set)) (by kernel_rfl)
def zNz:TB:=zNy.m 158 ((((.of [⟨0,20,30⟩,⟨100,30,40⟩,⟨200,80,90⟩])),(⟨⟨.of [⟨0,20,30⟩,⟨100,30,40⟩,⟨200,80,90⟩]⟩,.of []⟩)):(Sl aB)×(set)) (by kernel_rfl)
def zNA:TB:=zNz.m 158 ((((.of [⟨0,20,30⟩,⟨200,40,50⟩])),(⟨⟨.of [⟨0,20,30⟩,⟨200,40,50⟩]⟩,.of [⟨20,4000,200⟩,⟨30,4000,200⟩,⟨10,6000,200⟩,⟨20,6000,200⟩]⟩)):(Sl aB)×(set)) (by kernel_rfl)
def zNB:TB:=zNA.m 158 ((((.of [⟨0,20,30⟩,⟨200,80,90⟩])),(⟨⟨.of [⟨0,20,30⟩,⟨200,80,90⟩]⟩,.of [⟨60,4000,200⟩,⟨70,4000,200⟩,⟨50,6000,200⟩,⟨60,6000,200⟩]⟩)):(Sl aB)×(set)) (by kernel_rfl)
def zNC:TB:=zNB.m 158 ((((.of [⟨100,30,40⟩])),(⟨⟨.of [⟨100,30,40⟩]⟩,.of []⟩)):(Sl aB)×(set)) (by kernel_rfl)
def zND:TB:=zNC.m 158 ((((.of [⟨100,30,40⟩,⟨200,40,50⟩])),(⟨⟨.of [⟨100,30,40⟩,⟨200,40,50⟩]⟩,.of [⟨10,2000,100⟩,⟨20,1000,100⟩,⟨0,4000,100⟩,⟨10,3000,100⟩]⟩)):(Sl aB)×(set)) (by kernel_rfl)
def zNE:TB:=zND.m 158 ((((.of [⟨100,30,40⟩,⟨200,80,90⟩])),(⟨⟨.of [⟨100,30,40⟩,⟨200,80,90⟩]⟩,.of [⟨50,(-2000),100⟩,⟨60,(-3000),100⟩,⟨40,0,100⟩,⟨50,(-1000),100⟩]⟩)):(Sl aB)×(set)) (by kernel_rfl)
def zNF:TB:=zNE.m 158 ((((.of [⟨200,40,50⟩])),(⟨⟨.of [⟨200,40,50⟩]⟩,.of []⟩)):(Sl aB)×(set)) (by kernel_rfl)
def zNG:TB:=zNF.m 158 ((((.of [⟨200,80,90⟩])),(⟨⟨.of [⟨200,80,90⟩]⟩,.of []⟩)):(Sl aB)×(set)) (by kernel_rfl)
def zNH:TB:=zNG.m 158 ((((.of [⟨50,50,60⟩])),(⟨⟨.of [⟨50,50,60⟩]⟩,.of []⟩)):(Sl aB)×(set)) (by kernel_rfl)
def zNI:TB:=zNH.m 158 ((((.of [⟨50,50,60⟩,⟨150,50,60⟩])),(⟨⟨.of [⟨50,50,60⟩,⟨150,50,60⟩]⟩,.of [⟨0,5000,100⟩,⟨10,4500,100⟩,⟨(-10),6500,100⟩,⟨0,6000,100⟩]⟩)):(Sl aB)×(set)) (by kernel_rfl)
def zzZ:TB:=zNI.m 158 ((((.of [⟨150,50,60⟩])),(⟨⟨.of [⟨150,50,60⟩]⟩,.of []⟩)):(Sl aB)×(set)) (by kernel_rfl)
def zz0 : TB := ⟨lw ax NK zzZ.1
  [.f 200 {},
   .f 159 {},
   .f 117 {}],dP zzZ.2 (by kernel_rfl)⟩
def zz1:TB:=⟨zz0.1.addO 252 (.clone 204 3 24),ay.addO zz0.2 zgH⟩
def zz2:TB:=⟨zz1.1.addO 253 (.sort 204 3 24),ay.addO zz1.2 zgE⟩
def zz3 : TB := ⟨lw ax NK zz2.1
  [.f 239 {},
   .f 208 {},
   .f 170 {},
   .f 255 {},
   .f 254 {}],dP zz2.2 (by kernel_rfl)⟩
def zNJ:Tabs:=lw ax NK Tabs.nil [.f 239 {},.f 208 {},.f 170 {},.f 209 {},.f 172 {},.f 118 {},.f 162 {},.f 207 {},.f 157 {},.f 231 {},.f 230 {},.f 257 {},.f 238 {},.f 206 {},.f 255 {}]
def zz4:TB:=⟨zz3.1.addC 254 (aF ax NK (dw zNJ []) (aU ax 254 [] {}) 254),ay.addC zz3.2 (zdD (@dP ⟨1⟩ _ _ _ _ (@ay.nil ⟨1⟩ _) (by kernel_rfl)) (au (by kernel_rfl)))⟩
def zNK : TB := ⟨lw ax NK zz4.1
  [.f 249 {},
   .f 240 {},
   .f 211 {}],dP zz4.2 (by kernel_rfl)⟩
def zNL:TB:=zNK.m 211 ((((.of [⟨0,20,30⟩])),(⟨⟨0,0⟩,⟨0,0⟩⟩,6)):(Sl aB)×(Line×Int)) (by kernel_rfl)
def zNM:TB:=zNL.m 211 ((((.of [⟨0,20,30⟩,⟨100,30,40⟩])),(⟨⟨0,1⟩,⟨30,1⟩⟩,0)):(Sl aB)×(Line×Int)) (by kernel_rfl)
def zNN:TB:=zNM.m 211 ((((.of [⟨0,20,30⟩,⟨100,30,40⟩,⟨200,40,50⟩])),(⟨⟨1,20⟩,⟨30,1⟩⟩,0)):(Sl aB)×(Line×Int)) (by kernel_rfl)
def zNO:TB:=zNN.m 211 ((((.of [⟨0,20,30⟩,⟨100,30,40⟩,⟨200,80,90⟩])),(⟨⟨0,0⟩,⟨0,0⟩⟩,5)):(Sl aB)×(Line×Int)) (by kernel_rfl)
def zNP:TB:=zNO.m 211 ((((.of [⟨0,20,30⟩,⟨200,40,50⟩])),(⟨⟨1,20⟩,⟨30,1⟩⟩,0)):(Sl aB)×(Line×Int)) (by kernel_rfl)
def zNQ:TB:=zNP.m 211 ((((.of [⟨0,20,30⟩,⟨200,80,90⟩])),(⟨⟨1,4⟩,⟨30,1⟩⟩,0)):(Sl aB)×(Line×Int)) (by kernel_rfl)
def zNR:TB:=zNQ.m 211 ((((.of [⟨100,30,40⟩])),(⟨⟨0,0⟩,⟨0,0⟩⟩,6)):(Sl aB)×(Line×Int)) (by kernel_rfl)
def zNS:TB:=zNR.m 211 ((((.of [⟨100,30,40⟩,⟨200,40,50⟩])),(⟨⟨0,1⟩,⟨40,1⟩⟩,0)):(Sl aB)×(Line×Int)) (by kernel_rfl)
def zNT:TB:=zNS.m 211 ((((.of [⟨100,30,40⟩,⟨200,80,90⟩])),(⟨⟨2,5⟩,⟨0,1⟩⟩,0)):(Sl aB)×(Line×Int)) (by kernel_rfl)
def zNU:TB:=zNT.m 211 ((((.of [⟨200,40,50⟩])),(⟨⟨0,0⟩,⟨0,0⟩⟩,6)):(Sl aB)×(Line×Int)) (by kernel_rfl)
def zNV:TB:=zNU.m 211 ((((.of [⟨200,80,90⟩])),(⟨⟨0,0⟩,⟨0,0⟩⟩,6)):(Sl aB)×(Line×Int)) (by kernel_rfl)
def zNW:TB:=zNV.m 211 ((((.of [⟨50,50,60⟩])),(⟨⟨0,0⟩,⟨0,0⟩⟩,6)):(Sl aB)×(Line×Int)) (by kernel_rfl)
def zNX:TB:=zNW.m 211 ((((.of [⟨50,50,60⟩,⟨150,50,60⟩])),(⟨⟨(-1),10⟩,⟨65,1⟩⟩,0)):(Sl aB)×(Line×Int)) (by kernel_rfl)
def zz5:TB:=zNX.m 211 ((((.of [⟨150,50,60⟩])),(⟨⟨0,0⟩,⟨0,0⟩⟩,6)):(Sl aB)×(Line×Int)) (by kernel_rfl)
def zNY : TB := ⟨lw ax NK zz5.1
  [.f 182 {}],dP zz5.2 (by kernel_rfl)⟩
def zNZ:TB:=zNY.m 182 (((Ew,⟨1,.of [0],.of [0]⟩),true):(Pt aX×aj)×(Bool)) (by kernel_rfl)
def zN0:TB:=zNZ.m 182 (((Ew,⟨1,.of [0,1],.of [0,0]⟩),true):(Pt aX×aj)×(Bool)) (by kernel_rfl)
def zN1:TB:=zN0.m 182 (((Ew,⟨1,.of [0,1,2],.of [0,0,0]⟩),true):(Pt aX×aj)×(Bool)) (by kernel_rfl)
def zN2:TB:=zN1.m 182 (((Ew,⟨1,.of [0,1,3],.of [0,0,0]⟩),false):(Pt aX×aj)×(Bool)) (by kernel_rfl)
def zN3:TB:=zN2.m 182 (((Ew,⟨1,.of [0,2],.of [0,0]⟩),true):(Pt aX×aj)×(Bool)) (by kernel_rfl)
def zN4:TB:=zN3.m 182 (((Ew,⟨1,.of [0,3],.of [0,0]⟩),true):(Pt aX×aj)×(Bool)) (by kernel_rfl)
def zN5:TB:=zN4.m 182 (((Ew,⟨1,.of [1],.of [0]⟩),true):(Pt aX×aj)×(Bool)) (by kernel_rfl)
def zN6:TB:=zN5.m 182 (((Ew,⟨1,.of [1,2],.of [0,0]⟩),true):(Pt aX×aj)×(Bool)) (by kernel_rfl)
def zN7:TB:=zN6.m 182 (((Ew,⟨1,.of [1,3],.of [0,0]⟩),true):(Pt aX×aj)×(Bool)) (by kernel_rfl)
def zN8:TB:=zN7.m 182 (((Ew,⟨1,.of [2],.of [0]⟩),true):(Pt aX×aj)×(Bool)) (by kernel_rfl)
def zN9:TB:=zN8.m 182 (((Ew,⟨1,.of [3],.of [0]⟩),true):(Pt aX×aj)×(Bool)) (by kernel_rfl)
def zOa:TB:=zN9.m 182 (((Ew,⟨2,.of [4],.of [0]⟩),true):(Pt aX×aj)×(Bool)) (by kernel_rfl)
def zOb:TB:=zOa.m 182 (((Ew,⟨2,.of [4,5],.of [0,0]⟩),true):(Pt aX×aj)×(Bool)) (by kernel_rfl)
def zz6:TB:=zOb.m 182 (((Ew,⟨2,.of [5],.of [0]⟩),true):(Pt aX×aj)×(Bool)) (by kernel_rfl)
def zlI : TB := ⟨lw ax NK zz6.1
  [.r 178 64 { clo:=[180] }],dP zz6.2 (by kernel_rfl)⟩
def zz7:TB:=⟨zlI.1.addF 127 (aD ax (dw zlI.1 []) NK zdW 177 (aU ax 127 [] { ks:=[(0,3,⟨[],[],[(4,0,5000,43)],[],[],[],[]⟩)] }) 127),ay.addF zlI.2 (zdT zlI.2 (au (by kernel_rfl)) zdX)⟩
def zOc : TB := ⟨lw ax NK zz7.1
  [.f 120 {},
   .f 203 {},
   .f 202 {},
   .f 169 {},
   .f 171 {},
   .f 168 {},
   .f 119 {},
   .f 163 {},
   .f 114 {},
   .f 236 {},
   .f 237 {},
   .f 205 {},
   .i 204 { yl:=[9] },
   .f 165 {},
   .f 115 {}],dP zz7.2 (by kernel_rfl)⟩
def zOd:TB:=zOc.m 115 (((nP,4,⟨30,60⟩),(true,true,0)):(ak×Int×bV)×(Bool×Bool×Int)) (by kernel_rfl)
def zOe:TB:=zOd.m 115 (((nP,2,⟨30,40⟩),(true,true,0)):(ak×Int×bV)×(Bool×Bool×Int)) (by kernel_rfl)
def zOf:TB:=zOe.m 115 (((nP,2,⟨50,60⟩),(true,true,0)):(ak×Int×bV)×(Bool×Bool×Int)) (by kernel_rfl)
def zOg:TB:=zOf.m 115 (((nP,0,⟨10,40⟩),(true,true,0)):(ak×Int×bV)×(Bool×Bool×Int)) (by kernel_rfl)
def zz8:TB:=zOg.m 115 (((nP,0,⟨(-30),0⟩),(false,true,0)):(ak×Int×bV)×(Bool×Bool×Int)) (by kernel_rfl)
def zOh : TB := ⟨lw ax NK zz8.1
  [.f 191 {},
   .f 192 {},
   .f 141 { clo:=[190] }],dP zz8.2 (by kernel_rfl)⟩
def zOi:TB:=zOh.m 141 (((Ew,⟨1,.of [0,1],.of [0,0]⟩),(.of [4])):(Pt aX×aj)×(Sl Int)) (by kernel_rfl)
def zOj:TB:=zOi.m 141 (((Ew,⟨1,.of [0,1,2],.of [0,0,0]⟩),(.of [])):(Pt aX×aj)×(Sl Int)) (by kernel_rfl)
def zOk:TB:=zOj.m 141 (((Ew,⟨1,.of [0,2],.of [0,0]⟩),(.of [2])):(Pt aX×aj)×(Sl Int)) (by kernel_rfl)
def zOl:TB:=zOk.m 141 (((Ew,⟨1,.of [0,3],.of [0,0]⟩),(.of [2])):(Pt aX×aj)×(Sl Int)) (by kernel_rfl)
def zOm:TB:=zOl.m 141 (((Ew,⟨1,.of [1,2],.of [0,0]⟩),(.of [0])):(Pt aX×aj)×(Sl Int)) (by kernel_rfl)
def zOn:TB:=zOm.m 141 (((Ew,⟨1,.of [1,3],.of [0,0]⟩),(.of [])):(Pt aX×aj)×(Sl Int)) (by kernel_rfl)
def zz9:TB:=zOn.m 141 (((Ew,⟨2,.of [4,5],.of [0,0]⟩),(.of [])):(Pt aX×aj)×(Sl Int)) (by kernel_rfl)
def zAa : TB := ⟨lw ax NK zz9.1
  [.f 129 {},
   .f 98 {},
   .f 152 {},
   .f 92 {},
   .f 132 {},
   .f 97 {},
   .f 131 {},
   .f 130 {},
   .k 128 43 3 56 {}],dP zz9.2 (by kernel_rfl)⟩
def zAb:TB:=⟨zAa.1.addO 133 (.sort 43 3 56),ay.addO zAa.2 zgF⟩
def zAc : TB := ⟨lw ax NK zAb.1
  [.f 185 {},
   .f 222 {},
   .f 186 {},
   .f 187 {},
   .f 134 {}],dP zAb.2 (by kernel_rfl)⟩
def zOo:Tabs:=lw ax NK Tabs.nil [.f 185 {},.f 222 {},.f 186 {},.f 239 {},.f 208 {},.f 187 {}]
def zAd:TB:=⟨zAc.1.addC 134 (aF ax NK (dw zOo []) (aU ax 134 [] {}) 134),ay.addC zAc.2 (zdD (@dP ⟨1⟩ _ _ _ _ (@ay.nil ⟨1⟩ _) (by kernel_rfl)) (au (by kernel_rfl)))⟩
def zOp : TB := ⟨lw ax NK zAd.1
  [.f 72 { clo:=[130],cut:=[15],ks:=[(0,6,⟨[],[],[(35,2,5001,43)],[],[],[],[]⟩),(2,15,⟨[],[],[],[],[57,5001],[],[]⟩)] }],dP zAd.2 (by kernel_rfl)⟩
def zOq:TB:=zOp.m 72 (((nP,⟨2,0⟩,zA0,(.of [])),(⟨⟨Ew,.of [⟨1,.of [0,1,2],.of [0,0,0]⟩,⟨1,.of [1,3],.of [0,0]⟩,⟨2,.of [4,5],.of [0,0]⟩],.of [⟨1,.of [0,1,2],.of [0,0,0]⟩,⟨1,.of [1,3],.of [0,0]⟩,⟨2,.of [4,5],.of [0,0]⟩]⟩⟩,0)):(ak×bF×Sl bz×Sl Bool)×(Pt found×Int)) (by kernel_rfl)
def zAe:TB:=zOq.m 72 (((nP,⟨2,0⟩,zA0,(.of [true])),(⟨⟨Ew,.of [⟨1,.of [0,1,2],.of [0,0,0]⟩,⟨1,.of [1,3],.of [0,0]⟩,⟨2,.of [4,5],.of [0,0]⟩],.of [⟨1,.of [0,1,2],.of [0,0,0]⟩,⟨1,.of [1,3],.of [0,0]⟩,⟨2,.of [4,5],.of [0,0]⟩]⟩⟩,0)):(ak×bF×Sl bz×Sl Bool)×(Pt found×Int)) (by kernel_rfl)
def zOr : TB := ⟨lw ax NK zAe.1
  [.f 20 {},
   .f 96 {},
   .f 79 { vv:=[8] },
   .f 110 {},
   .f 49 {},
   .f 80 {},
   .f 81 {},
   .f 82 {},
   .f 83 {},
   .f 142 {},
   .f 84 {},
   .f 25 {}],dP zAe.2 (by kernel_rfl)⟩
def zAf:TB:=zOr.m 25 (((nP,⟨2,0⟩,zA0,⟨1,.of [0,1],.of [0,0]⟩),(⟨5,.of [],.of [4],⟨0,.of [],.of []⟩⟩,0)):(ak×bF×Sl bz×aj)×(Ny×Int)) (by kernel_rfl)
def zOs : TB := ⟨lw ax NK zAf.1
  [.f 38 {},
   .f 52 {},
   .f 29 {},
   .f 31 { ks:=[(0,16,⟨[],[],[],[],[],[10],[]⟩)],vv:=[41] }],dP zAf.2 (by kernel_rfl)⟩
def zAg:TB:=zOs.m 31 (((nP,⟨2,0⟩,zA0),((.of [⟨0,2⟩,⟨1,2⟩]),0)):(ak×bF×Sl bz)×(Sl ziK×Int)) (by kernel_rfl)
def zOt : TB := ⟨lw ax NK zAg.1
  [.f 32 {},
   .f 99 {},
   .r 100 64 {},
   .r 101 64 {},
   .f 36 { ks:=[(0,16,⟨[],[],[],[],[1000896],[],[]⟩)],vv:=[73,75] }],dP zAg.2 (by kernel_rfl)⟩
def zAh:TB:=zOt.m 36 (((nP,⟨2,0⟩,zA0,1),((.of [0,1]),(.of [0]),0)):(ak×bF×Sl bz×Int)×(Sl Int×Sl Int×Int)) (by kernel_rfl)
def zOu : TB := ⟨lw ax NK zAh.1
  [.f 58 {},
   .f 103 {},
   .f 104 {},
   .f 42 {}],dP zAh.2 (by kernel_rfl)⟩
def zAi:TB:=zOu.m 42 (((nP,⟨2,0⟩,zA0,(.of [⟨1,⟨0,1⟩,⟨1,5⟩⟩,⟨1,⟨1,10⟩,⟨1,2⟩⟩])),((.of [⟨1,1⟩,⟨0,2⟩]),0)):(ak×bF×Sl bz×Sl Bin)×(Sl Tally×Int)) (by kernel_rfl)
def ztj : TB := ⟨lw ax NK zAi.1
  [.f 44 {},
   .f 67 {},
   .f 69 {},
   .f 70 {},
   .f 125 {},
   .f 71 {},
   .f 19 {}],dP zAi.2 (by kernel_rfl)⟩
theorem k19:((dw ztj.1 []).fn 19 []).o=some [.one (.bool true)]:=by kernel_rfl
theorem zOv:ay ax ztj.1:=ztj.2
def N0:Nat:=1000000000
theorem bU:100000 < N0:=by decide
abbrev d23:E23:=⟨N0⟩
def D23:=F23 d23
theorem zOy:Ok ax 23 (ae.un D23):=o23 d23
theorem zOz:Q23 D23:=s23 (E:=d23) bU
abbrev d73:E73:=⟨N0⟩
def D73:=F73 d73
theorem zbk:Ok ax 73 (ae.un D73):=o73 d73
theorem zbl:yA D73:=s73 (E:=d73)
abbrev ztk:ZH:=⟨N0,D73⟩
def ztl:=ziP ztk
theorem zAj:Ok ax 174 (ae.un ztl):=zFW ztk zbk
theorem zAk:zp4 ztl:=zG0 (E:=ztk) zbl
abbrev ztm:U7:=⟨N0,D73⟩
def ztn:=ziQ ztm
theorem zAl:Ok ax 175 (ae.un ztn):=zFY ztm zbk
theorem zAm:zp5 ztn:=zG1 (E:=ztm) bU zbl
abbrev zto:JG:=⟨N0,D73,ztl,ztn⟩
def ztp:=ziL zto
theorem zAn:Ok ax 124 (ae.un ztp):=zFO zto zbk zAj zAl
theorem zAo:zp6 ztp:=zG2 (E:=zto) bU zbl zAk zAm
abbrev d61:E61:=⟨N0,D73,ztp⟩
def D61:=F61 d61
theorem zOD:Ok ax 61 (ae.un D61):=o61 d61 zbk zAn
theorem zOE:QSe D61:=s61 (E:=d61) bU zbl zAo
abbrev d86:E86:=⟨N0⟩
def D86:=F86 d86
theorem zAp:Ok ax 86 (ae.un D86):=o86 d86
theorem zAq:yA D86:=s86 (E:=d86)
abbrev d62:E62:=⟨N0,D86⟩
def D62:=F62 d62
theorem zOI:Ok ax 62 (ae.un D62):=o62 d62 zAp
theorem zOJ:Q62 D62:=s62 (E:=d62) zAq
abbrev ztq:U4:=⟨N0⟩
def zlJ:=ziN ztq
theorem znN:Ok ax 137 (ae.un zlJ):=zFR ztq
theorem znO:zjh zlJ:=zHb (E:=ztq) bU
abbrev ztr:U5:=⟨N0,D73,zlJ⟩
def zts:=ziO ztr
theorem zAr:Ok ax 143 (ae.un zts):=zFS ztr zbk znN
theorem zAs:zqb zts:=zHc (E:=ztr) bU zbl znO
abbrev d85:E85:=⟨N0,zts⟩
def D85:=F85 d85
theorem zOM:Ok ax 85 (ae.un D85):=o85 d85 zAr
theorem zON:Q85 D85:=s85 (E:=d85) bU zAs
abbrev d26:E26:=⟨N0,D61,D62,D85⟩
def D26:=F26 d26
theorem zOQ:Ok ax 26 (ae.un D26):=o26 d26 zOD zOI zOM
theorem zOR:Q26 D26:=s26 (E:=d26) zOE zOJ zON
abbrev d87:E87:=⟨N0⟩
def D87:=F87 d87
theorem zAt:Ok ax 87 (ae.un D87):=o87 d87
theorem zAu:Q87 D87:=s87 (E:=d87) bU
abbrev ztt:QS:=⟨N0⟩
def ztu:=ziM ztt
theorem zAv:Ok ax 135 (ae.un ztu):=zFQ ztt
theorem zAw:zqd ztu:=zHg (E:=ztt) bU
abbrev d75:E75:=⟨N0,ztu⟩
def D75:=F75 d75
theorem ztw:Ok ax 75 (ae.un D75):=o75 d75 zAv
theorem ztx:Q75 D75:=s75 (E:=d75) zAw
abbrev zty:zaT:=⟨N0⟩
def zgI:=zkM zty
theorem zAx:Ok ax 227 (ae.un zgI):=zKU zty
theorem zAy:zsA zgI:=zMJ (E:=zty)
abbrev d65:E65:=⟨N0,D75⟩
def D65:=F65 d65
theorem zAz:Ok ax 65 (ae.un D65):=o65 d65 ztw
theorem zAA:Q65 D65:=s65 (E:=d65) bU ztx
abbrev ztz:VE:=⟨N0⟩
def zgJ:=zjU ztz
theorem zgK:Ok ax 149 (ae.un zgJ):=zIG ztz
theorem zgL:zf2 zgJ:=zMa (E:=ztz) bU
abbrev ztA:VS:=⟨N0⟩
def zlK:=zkr ztA
theorem znP:Ok ax 193 (ae.un zlK):=zJ7 ztA
theorem znQ:zld zlK:=zMb (E:=ztA) bU
abbrev ztB:za1:=⟨N0⟩
def ztC:=zkT ztB
theorem zAB:Ok ax 247 (ae.un ztC):=zLk ztB
theorem zAC:zr5 ztC:=zMe (E:=ztB)
abbrev ztD:Vt:=⟨N0⟩
def zlL:=zjE ztD
theorem znR:Ok ax 125 (ae.un zlL):=zHW ztD
theorem znS:V5 zlL:=zLD (E:=ztD) bU
abbrev d71:E71:=⟨N0,zlL⟩
def D71:=F71 d71
theorem ztE:Ok ax 71 (ae.un D71):=o71 d71 znR
theorem ztF:Ij D71:=s71 (E:=d71) znS
abbrev d55:E55:=⟨N0,D71⟩
def D55:=F55 d55
theorem zAE:Ok ax 55 (ae.un D55):=o55 d55 ztE
theorem zAF:Q55 D55:=s55 (E:=d55) ztF
abbrev ztG:N8:=⟨N0,ztC,D55⟩
def ztH:=zkI ztG
theorem zAG:Ok ax 225 (ae.un ztH):=zKO ztG zAB zAE
theorem zAH:zsb ztH:=zMg (E:=ztG) bU zAC zAF
abbrev ztI:zaw:=⟨N0⟩
def zlM:=zj8 ztI
theorem znT:Ok ax 166 (ae.un zlM):=zJi ztI
theorem znU:zle zlM:=zMc (E:=ztI)
abbrev ztJ:Z9:=⟨N0,zlM⟩
def ztK:=zjz ztJ
theorem zAI:Ok ax 116 (ae.un ztK):=zHR ztJ znT
theorem zAJ:zr4 ztK:=zMd (E:=ztJ) znU
abbrev d57:E57:=⟨N0,ztK⟩
def D57:=F57 d57
theorem zAK:Ok ax 57 (ae.un D57):=o57 d57 zAI
theorem zAL:Q57 D57:=s57 (E:=d57) bU zAJ
abbrev ztL:V3:=⟨N0,zlM⟩
def ztM:=zkU ztL
theorem zAM:Ok ax 248 (ae.un ztM):=zLl ztL znT
theorem zAN:zsc ztM:=zMh (E:=ztL) bU znU
abbrev d56:E56:=⟨N0⟩
def D56:=F56 d56
theorem zAO:Ok ax 56 (ae.un D56):=o56 d56
theorem zAP:Q56 D56:=s56 (E:=d56)
abbrev ztN:zaS:=⟨N0,ztM,D56⟩
def ztO:=zkK ztN
theorem zAQ:Ok ax 226 (ae.un ztO):=zKR ztN zAM zAO
theorem zAR:zsd ztO:=zMi (E:=ztN) zAN zAP
abbrev ztP:JI:=⟨N0,ztH,D57,ztO⟩
def zlN:=zks ztP
theorem znV:Ok ax 194 (ae.un zlN):=zJ9 ztP zAG zAK zAQ
theorem znW:zlm zlN:=zMj (E:=ztP) bU zAH zAL zAR
abbrev ztQ:zal:=⟨N0,zgJ,zlK,zlN⟩
def ztR:=zjQ ztQ
theorem zAS:Ok ax 145 (ae.un ztR):=zIA ztQ zgK znP znV
theorem zAT:zse ztR:=zMk (E:=ztQ) zgL znQ znW
abbrev ztS:VD:=⟨N0⟩
def ztT:=zjT ztS
theorem zAU:Ok ax 148 (ae.un ztT):=zIE ztS
theorem zAV:zst ztT:=zMz (E:=ztS) bU
abbrev d74:E74:=⟨N0⟩
def D74:=F74 d74
theorem zAW:Ok ax 74 (ae.un D74):=o74 d74
theorem zAX:Q74 D74:=s74 (E:=d74)
abbrev ztU:VC:=⟨N0,D74⟩
def ztV:=zjR ztU
theorem zAY:Ok ax 147 (ae.un ztV):=zIC ztU zAW
theorem zAZ:zsr ztV:=zMv (E:=ztU) bU zAX
abbrev d90:E90:=⟨N0,ztT,ztV⟩
def D90:=F90 d90
theorem zO2:Ok ax 90 (ae.un D90):=o90 d90 zAU zAY
theorem zO3:Q90 D90:=s90 (E:=d90) zAV zAZ
abbrev ztW:zaJ:=⟨N0,D65,ztR,D90⟩
def zbm:=zku ztW
theorem znX:Ok ax 196 (ae.un zbm):=zKe ztW zAz zAS zO2
theorem znY:zln zbm:=zMC (E:=ztW) zAA zAT zO3
def zbn : Nat → (ak × (Sl bz) × aj × Int) × Sl aj → ae (Sl aj)
  | 0=>λ _=>.no
  | n+1=>zkt ⟨N0,D87,D75,zgI,zbm,(zbn n)⟩
theorem znZ : ∀ n, ed ax 195 (.grow 43 3 56 (ae.unW (zbn n)))
  | 0=>λ w h base az vs v n get m jD hh=>by
    obtain⟨_,h2⟩:=ae.chk_o hh;cases h2
  | n+1=>zKa ⟨N0,D87,D75,zgI,zbm,(zbn n)⟩ zAt ztw zAx znX (znZ n)
theorem zn0 : ∀ n, QW n (zbn n)
  | 0=>λ s l x t c i w he hv hc ht hf=>absurd hf (by have:=hv.le;omega)
  | n+1=>zMK (E:=⟨N0,D87,D75,zgI,zbm,(zbn n)⟩) bU zAu ztx zAy znY (zn0 n)
abbrev ztX:zan:=⟨N0,(zbn 30)⟩
def ztY:=zjZ ztX
theorem zA1:Ok ax 153 (ae.un ztY):=zIP ztX (znZ 30)
theorem zA2:zsB ztY:=zML (E:=ztX) (zn0 30)
abbrev d76:E76:=⟨N0,zlL,D71⟩
def D76:=F76 d76
theorem zA3:Ok ax 76 (ae.un D76):=o76 d76 znR ztE
theorem zA4:Q76 D76:=s76 (E:=d76) znS ztF
abbrev ztZ:Rk:=⟨N0,zgJ,zlK,D71,zlN,D76,D56⟩
def zt0:=zjV ztZ
theorem zA5:Ok ax 150 (ae.un zt0):=zIH ztZ zgK znP ztE znV zA3 zAO
theorem zA6:zs7 zt0:=zNe (E:=ztZ) bU zgL znQ ztF znW zA4 zAP
abbrev zt1:zam:=⟨N0⟩
def zt2:=zjX zt1
theorem zA7:Ok ax 151 (ae.un zt2):=zIL zt1
theorem zA8:zs8 zt2:=zNf (E:=zt1)
abbrev zt3:zaj:=⟨N0⟩
def zt4:=zjN zt3
theorem zA9:Ok ax 136 (ae.un zt4):=zIq zt3
theorem zBa:zs9 zt4:=zNg (E:=zt3)
abbrev d77:E77:=⟨N0,zt4,zlJ⟩
def D77:=F77 d77
theorem zBb:Ok ax 77 (ae.un D77):=o77 d77 zA9 znN
theorem zBc:Q77 D77:=s77 (E:=d77) bU zBa znO
abbrev d91:E91:=⟨N0,D65,D87,zgJ,zt0,zt2,D86,D77⟩
def D91:=F91 d91
theorem zO8:Ok ax 91 (ae.un D91):=o91 d91 zAz zAt zgK zA5 zA7 zAp zBb
theorem zO9:Q91 D91:=s91 (E:=d91) bU zAA zAu zgL zA6 zA8 zAq zBc
abbrev zt5:zao:=⟨N0,zbm,D91⟩
def zt6:=zj0 zt5
theorem zBd:Ok ax 154 (ae.un zt6):=zIS zt5 znX zO8
theorem zBe:zta zt6:=zNi (E:=zt5) znY zO9
abbrev d94:E94:=⟨N0,ztY,zt6⟩
def D94:=F94 d94
theorem zPc:Ok ax 94 (ae.un D94):=o94 d94 zA1 zBd
theorem zPd:Q94 D94:=s94 (E:=d94) bU zA2 zBe
abbrev d53:E53:=⟨N0⟩
def D53:=F53 d53
theorem zPg:Ok ax 53 (ae.un D53):=o53 d53
theorem zPh:Q53 D53:=s53 (E:=d53) bU
abbrev d38:E38:=⟨N0⟩
def D38:=F38 d38
theorem zPk:Ok ax 38 (ae.un D38):=o38 d38
theorem zPl:zbe D38:=s38 (E:=d38) bU
abbrev zt7:zak:=⟨N0,D38⟩
def zt8:=zjP zt7
theorem zBf:Ok ax 144 (ae.un zt8):=zIw zt7 zPk
theorem zBg:ztb zt8:=zNk (E:=zt7) zPl
abbrev d88:E88:=⟨N0,D94,D53,zt8⟩
def D88:=F88 d88
theorem zPo:ed ax 88 (.mkv 43 3 56 (ae.unV D88)):=o88 d88 zPc zPg zBf
theorem zPp:Q88 D88:=s88 (E:=d88) bU zPd zPh zBg
abbrev d28:E28:=⟨N0,D88⟩
def D28:=F28 d28
theorem zPs:Ok ax 28 (ae.un D28):=o28 d28 zPo
theorem zPt:Q28 D28:=s28 (E:=d28) zPp
abbrev d17:E17:=⟨N0,D23,D26,D28⟩
def D17:=F17 d17
theorem zPw:Ok ax 17 (ae.un D17):=o17 d17 zOy zOQ zPs
theorem zPx:Q17 D17:=s17 (E:=d17) zOz zOR zPt
def D19:Unit->ae Bool:=λ _=>.ok true
theorem zPz:Q19 D19:=rfl
theorem zPA:Ok ax 19 (ae.un D19):=λ args rs hr w h0 vs hvs hw=>by
 obtain⟨h1,h2⟩:=ae.chk_o hr;cases args with
 | nil =>
  cases ae.ok_o h2;exact (zOv.all []).fn 19 [] _ k19 w h0 vs hvs hw
 | cons=>cases h1
abbrev d18:E18:=⟨N0⟩
def D18:=F18 d18
theorem zPD:Ok ax 18 (ae.un D18):=o18 d18
theorem zPE:Q18 D18:=s18 (E:=d18)
abbrev zt9:ZN:=⟨N0⟩
def OO:=ziY zt9
theorem II:Ok ax 161 (ae.un OO):=zGs zt9
theorem IJ:yA OO:=zGZ (E:=zt9)
abbrev zua:ZO:=⟨N0,OO⟩
def zlO:=zi0 zua
theorem zn1:Ok ax 164 (ae.un zlO):=zGx zua II
theorem zn2:zjg zlO:=zG3 (E:=zua) IJ
abbrev zue:ZR:=⟨N0,OO,zlO⟩
def zuf:=zi9 zue
theorem zBh:Ok ax 235 (ae.un zuf):=zGK zue II zn1
theorem zBi:zp7 zuf:=zG4 (E:=zue) IJ zn2
abbrev zug:ZP:=⟨N0⟩
def zuh:=zi6 zug
theorem zBj:Ok ax 232 (ae.un zuh):=zGC zug
theorem zBk:ZY zuh:=zG5 (E:=zug)
abbrev zui:Ve:=⟨N0,OO⟩
def zuj:=zi7 zui
theorem zBl:Ok ax 233 (ae.un zuj):=zGD zui II
theorem zBm:zp8 zuj:=zG7 (E:=zui) bU IJ
abbrev zuk:ZQ:=⟨N0⟩
def zul:=zi8 zuk
theorem zBn:Ok ax 234 (ae.un zul):=zGG zuk
theorem zBo:ZY zul:=zG6 (E:=zuk)
abbrev zum:QV:=⟨N0,OO,zuf,zuh,zuj,zul⟩
def zun:=zi1 zum
theorem zBp:Ok ax 201 (ae.un zun):=zGz zum II zBh zBj zBl zBn
theorem zBq:zp9 zun:=zG8 (E:=zum) bU IJ zBi zBk zBm zBo
abbrev zuo:Vb:=⟨N0,zun,OO⟩
def zbo:=ziZ zuo
theorem YM:Ok ax 160 (ae.un zbo):=zGt zuo zBp II
theorem YN:QSe zbo:=zG9 (E:=zuo) bU zBq IJ
abbrev zup:ZJ:=⟨N0,zbo⟩
def zuq:=ziT zup
theorem zBr:Ok ax 122 (ae.un zuq):=zGc zup YM
theorem zBs:zqa zuq:=zHa (E:=zup) YN
abbrev zur:ZK:=⟨N0⟩
def zus:=ziU zur
theorem zBt:Ok ax 123 (ae.un zus):=zGg zur
theorem zBu:yA zus:=zGY (E:=zur)
abbrev d60:E60:=⟨N0,zuq,zus⟩
def D60:=F60 d60
theorem zPH:Ok ax 60 (ae.un D60):=o60 d60 zBr zBt
theorem zPI:Q60 D60:=s60 (E:=d60) zBs zBu
abbrev zut:Va:=⟨N0,OO⟩
def zbp:=ziX zut
theorem YP:Ok ax 112 (ae.un zbp):=zGp zut II
theorem YQ:ZZ zbp:=zHd (E:=zut) bU IJ
abbrev zuu:ZT:=⟨N0,zbo,zbp⟩
def zlP:=zja zuu
theorem zn3:Ok ax 188 (ae.un zlP):=zGO zuu YM YP
theorem zn4:zji zlP:=zHe (E:=zuu) YN YQ
abbrev zuv:ZL:=⟨N0,zlP⟩
def zuw:=ziV zuv
theorem zBv:Ok ax 138 (ae.un zuw):=zGj zuv zn3
theorem zBw:zqc zuw:=zHf (E:=zuv) zn4
abbrev zux:ZV:=⟨N0⟩
def zuy:=zjc zux
theorem zBx:Ok ax 223 (ae.un zuy):=zGU zux
theorem zBy:zqg zuy:=zHk (E:=zux)
abbrev zuz:QZ:=⟨N0⟩
def zuA:=zp3 zuz
theorem zBz:qL ax 251 (ae.unI zuA):=zGX zuz
theorem zBA:zqe zuA:=zHh (E:=zuz) bU
abbrev zuB:QY:=⟨N0,zuA⟩
def zuC:=zjd zuB
theorem zBB:Ok ax 224 (ae.un zuC):=zGV zuB zBz
theorem zBC:zqf zuC:=zHi (E:=zuB) bU zBA
abbrev zuD:ZU:=⟨N0,zuy,zuC⟩
def zuE:=zjb zuD
theorem zBD:Ok ax 189 (ae.un zuE):=zGR zuD zBx zBB
theorem zBE:zqh zuE:=zHl (E:=zuD) zBy zBC
abbrev zuF:ZM:=⟨N0,zlP,zbp,zuE⟩
def zuG:=ziW zuF
theorem zBF:Ok ax 139 (ae.un zuG):=zGn zuF zn3 YP zBD
theorem zBG:zqi zuG:=zHm (E:=zuF) zn4 YQ zBE
abbrev d78:E78:=⟨N0,D60,zuw,zuG⟩
def D78:=F78 d78
theorem zPL:Ok ax 78 (ae.unA D78):=o78 d78 zPH zBv zBF
theorem zPM:Q78 D78:=s78 (E:=d78) bU zPI zBw zBG
abbrev zuH:VN:=⟨N0⟩
def zuI:=zke zuH
theorem zBH:Ok ax 176 (ae.un zuI):=zJB zuH
theorem zBI:zsZ zuI:=zM9 (E:=zuH) bU
abbrev zuJ:zab:=⟨N0,zuI⟩
def zuK:=zjF zuJ
theorem zBJ:Ok ax 126 (ae.un zuK):=zHZ zuJ zBH
theorem zBK:zs3 zuK:=zNa (E:=zuJ) zBI
abbrev zuL:zaD:=⟨N0⟩
def zuM:=zki zuL
theorem zBL:Ok ax 180 (ae.un zuM):=zJJ zuL
theorem zBM:zsv zuM:=zMD (E:=zuL)
abbrev zuN:zaG:=⟨N0⟩
def zuO:=zko zuN
theorem zBN:Ok ax 190 (ae.un zuO):=zJX zuN
theorem zBO:zsw zuO:=zME (E:=zuN)
abbrev IK:oK:=⟨N0,zuM⟩
def IL:=zN IK
theorem zbq:Ok ax 210 (ae.un IL):=zfp IK zBL
theorem zbr:QUx .inl IL:=zgf (E:=IK) bU zBM
abbrev IM:oM:=⟨N0,zuO⟩
def IP:=zO IM
theorem zbs:Ok ax 210 (ae.un IP):=zfr IM zBN
theorem zbt:QUx .inr IP:=zgg (E:=IM) bU zBO
def zlQ:=ae.two IL IP
theorem zn5:Ok ax 210 (ae.un zlQ):=vN zbq zbs
theorem zn6:zlp zlQ:=zMF zbr zbt
abbrev IQ:rC:=⟨N0,zlQ⟩
def IR:=zI IQ
theorem zbu:Ok ax 179 (ae.un IR):=zeW IQ zn5
theorem zbv:QUa .inl IR:=zgh (E:=IQ) zn6
abbrev IU:rD:=⟨N0,zlQ⟩
def IV:=zJ IU
theorem zbw:Ok ax 179 (ae.un IV):=ze0 IU zn5
theorem zbx:QUa .inr IV:=zgi (E:=IU) zn6
def zby:=ae.two IR IV
theorem zn7:Ok ax 179 (ae.un zby):=vN zbu zbw
theorem zn8:zlq zby:=zMG zbv zbx
abbrev zuP:Vk:=⟨N0,zbo,zbp⟩
def zuQ:=zju zuP
theorem zBP:Ok ax 111 (ae.un zuQ):=o111 zuP YM YP
theorem zBQ:zss zuQ:=zMw (E:=zuP) bU YN YQ
abbrev zuR:Z7:=⟨N0⟩
def zuS:=zjv zuR
theorem zBR:Ok ax 113 (ae.un zuS):=zHI zuR
theorem zBS:zsq zuS:=zMu (E:=zuR)
abbrev d50:E50:=⟨N0,zuQ,zbp,zuS⟩
def D50:=F50 d50
theorem zPP:Ok ax 50 (ae.un D50):=o50 d50 zBP YP zBR
theorem zPQ:Q50 D50:=s50 (E:=d50) bU zBQ YQ zBS
abbrev d93:E93:=⟨N0,D50⟩
def D93:=F93 d93
theorem zPT:Ok ax 93 (ae.un D93):=o93 d93 zPP
theorem zPU:Q93 D93:=s93 (E:=d93) bU zPQ
abbrev zuT:U8:=⟨N0⟩
def zlR:=ziR zuT
theorem zn9:Ok ax 105 (ae.un zlR):=zF2 zuT
theorem zoa:zjm zlR:=zHt (E:=zuT) bU
abbrev zuU:zar:=⟨N0⟩
def zbz:=zj2 zuU
theorem YR [aJ]:Ok ax 157 (ae.un zbz):=zI1 zuU
theorem YS:yA zbz:=zLF (E:=zuU)
abbrev zuV:zaq:=⟨N0,zbz⟩
def zuW:=zj1 zuV
theorem zBT:Ok ax 156 (ae.un zuW):=zIX zuV YR
theorem zBU:zrM zuW:=zLI (E:=zuV) YS
abbrev zuX:Vj:=⟨N0,zuW,zbz⟩
def zlS:=zjt zuX
theorem zob:Ok ax 109 (ae.un zlS):=zHD zuX zBT YR
theorem zoc:zk0 zlS:=zLJ (E:=zuX) bU zBU YS
abbrev zuY:zaO:=⟨N0⟩
def zuZ:=zkB zuY
theorem zBV [aJ]:Ok ax 207 (ae.un zuZ):=zKC zuY
theorem zBW:zrQ zuZ:=zLN (E:=zuY)
abbrev zu0:zaX:=⟨N0,zbz⟩
def zu1:=zkP zu0
theorem zBX [aJ]:Ok ax 231 (ae.un zu1):=zK5 zu0 YR
theorem zBY:zrN zu1:=zLK (E:=zu0) YS
abbrev zu3:zaW:=⟨N0,zu1⟩
def zu4:=zkO zu3
theorem zBZ [aJ]:Ok ax 230 (ae.un zu4):=zK2 zu3 zBX
theorem zB1:zrO zu4:=zLL (E:=zu3) zBY
abbrev zu5:za5:=⟨N0⟩
def zu6:=zkZ zu5
theorem zB2 [aJ]:Ok ax 257 (ae.un zu6):=zLB zu5
theorem zB3:zrP zu6:=zLM (E:=zu5)
abbrev IW:oN:=⟨N0,zuZ⟩
def IX:=zQ IW
theorem zbA [aJ]:Ok ax 238 (ae.un IX):=zfx IW zBV
theorem zbB:QIx .inl IX:=zfJ (E:=IW) bU zBW
abbrev IY:oO:=⟨N0,zu4⟩
def IZ:=zS IY
theorem zbC [aJ]:Ok ax 238 (ae.un IZ):=zfz IY zBZ
theorem zbD:QIx (λ c=>.inr (.inl c)) IZ:=zfK (E:=IY) bU zB1
abbrev I4:oP:=⟨N0,zu6⟩
def I5:=zT I4
theorem zbE [aJ]:Ok ax 238 (ae.un I5):=zfB I4 zB2
theorem zbF:QIx (λ c=>.inr (.inr c)) I5:=zfL (E:=I4) bU zB3
def zgM:=ae.two IX (ae.two IZ I5)
theorem zgN [aJ]:Ok ax 238 (ae.un zgM):=vN zbA (vN zbC zbE)
theorem zgO:zfI zgM:=zLO zbB zbD zbF
abbrev I7:rE:=⟨N0,zgM⟩
def I8:=zK I7
theorem zbG [aJ]:Ok ax 206 (ae.un I8):=zff I7 zgN
theorem zbH:JL .inl I8:=zfM (E:=I7) zgO
abbrev I9:rF:=⟨N0,zgM⟩
def Ja:=zL I9
theorem zbI [aJ]:Ok ax 206 (ae.un Ja):=zfj I9 zgN
theorem zbJ:JL (λ c=>.inr (.inl c)) Ja:=zfN (E:=I9) zgO
abbrev Jb:rG:=⟨N0,zgM⟩
def Jc:=zM Jb
theorem zbK [aJ]:Ok ax 206 (ae.un Jc):=zfn Jb zgN
theorem zbL:JL (λ c=>.inr (.inr c)) Jc:=zfO (E:=Jb) zgO
def zgP:=ae.two I8 (ae.two Ja Jc)
theorem zgQ [aJ]:Ok ax 206 (ae.un zgP):=vN zbG (vN zbI zbK)
theorem zgR:RY zgP:=zLP zbH zbJ zbL
abbrev zu7:zax:=⟨N0,zgP⟩
def Wu:=zj9 zu7
theorem TD:Ok ax 167 (ae.un Wu):=zJl zu7 zgQ
theorem TE:V6 Wu:=zLQ (E:=zu7) zgR
abbrev zu8:VX:=⟨N0⟩
def zu9:=zkD zu8
theorem zB4 [aJ]:Ok ax 209 (ae.un zu9):=zKG zu8
theorem zB5:V5 zu9:=zLC (E:=zu8) bU
abbrev zva:zaB:=⟨N0,zu9⟩
def zbM:=zkd zva
theorem YT [aJ]:Ok ax 172 (ae.un zbM):=zJz zva zB4
theorem YU:Ij zbM:=zLE (E:=zva) zB5
abbrev zvb:zaK:=⟨N0,zbM⟩
def zlT:=zkv zvb
theorem zod:Ok ax 198 (ae.un zlT):=zKj zvb YT
theorem zoe:zk3 zlT:=zLU (E:=zvb) YU
abbrev zvc:zaL:=⟨N0,zgP⟩
def zvd:=zkw zvc
theorem zB6:Ok ax 199 (ae.un zvd):=zKm zvc zgQ
theorem zB7:zrR zvd:=zLR (E:=zvc) zgR
abbrev zve:zaV:=⟨N0⟩
def zvf:=zkN zve
theorem zB8:Ok ax 229 (ae.un zvf):=zKY zve
theorem zB9:zrK zvf:=zLG (E:=zve)
abbrev zvg:N9:=⟨N0,zvf⟩
def zvh:=zrE zvg
theorem zCa:qL ax 228 (ae.unI zvh):=zKV zvg zB8
theorem zCb:zrL zvh:=zLH (E:=zvg) bU zB9
abbrev zvi:VJ:=⟨N0,Wu,zlT,zvd,zvh⟩
def zlU:=zj3 zvi
theorem zof:Ok ax 158 (ae.un zlU):=zI3 zvi TD zod zB6 zCa
theorem zog:zk4 zlU:=zLV (E:=zvi) TE zCb zoe zB7
abbrev zvj:VV:=⟨N0⟩
def zlV:=zkx zvj
theorem zoh:Ok ax 200 (ae.un zlV):=zKo zvj
theorem zoi:zk2 zlV:=zLT (E:=zvj) bU
abbrev zvk:zat:=⟨N0,zlV,Wu⟩
def zlW:=zj5 zvk
theorem zoj:Ok ax 159 (ae.un zlW):=zI8 zvk zoh TD
theorem zok:zk6 zlW:=zLW (E:=zvk) zoi TE
abbrev zvl:zaa:=⟨N0⟩
def zvm:=zjA zvl
theorem zCc:Ok ax 118 (ae.un zvm):=zHU zvl
theorem zCd:zrT zvm:=zLX (E:=zvl)
abbrev zvn:zau:=⟨N0⟩
def zvo:=zj6 zvn
theorem zCe:Ok ax 162 (ae.un zvo):=zJb zvn
theorem zCf:zrU zvo:=zLY (E:=zvn)
abbrev Jd:rq:=⟨N0,zlS,zlU,zlW,Wu,zvm⟩
def Je:=zB Jd
theorem zbN:Ok ax 117 (ae.un Je):=zex Jd zob zof zoj TD zCc
theorem zbO:QOp .inl Je:=zfS (E:=Jd) zoc zog zok TE zCd
abbrev Jf:ru:=⟨N0,zlS,zlU,zlW,Wu,zvo⟩
def Jg:=zC Jf
theorem zbP:Ok ax 117 (ae.un Jg):=zeB Jf zob zof zoj TD zCe
theorem zbQ:QOp .inr Jg:=zfT (E:=Jf) zoc zog zok TE zCf
def zlX:=ae.two Je Jg
theorem zol:Ok ax 117 (ae.un zlX):=vN zbN zbP
theorem zom:zk7 zlX:=zL0 zbO zbQ
abbrev zvp:za4:=⟨N0,zgP⟩
def zvq:=zkY zvp
theorem zCg [aJ]:Ok ax 255 (ae.un zvq):=zLy zvp zgQ
theorem zCh:zrS zvq:=zLS (E:=zvp) zgR
abbrev zvr:za0:=⟨N0⟩
def zlY:=zkS zvr
theorem zon [aJ]:Ok ax 239 (ae.un zlY):=zLg zvr
theorem zoo:zla zlY:=zL1 (E:=zvr)
abbrev zvs:zaP:=⟨N0,zlY⟩
def zlZ:=zkC zvs
theorem zop [aJ]:Ok ax 208 (ae.un zlZ):=zKF zvs zon
theorem zoq:V8 zlZ:=zL2 (E:=zvs) zoo
abbrev zvt:zaz:=⟨N0,zlZ⟩
def zgS:=zkb zvt
theorem zgT [aJ]:Ok ax 170 (ae.un zgS):=zJr zvt zop
theorem zgU:zfW zgS:=zL4 (E:=zvt) zoq
abbrev zvu:za3:=⟨N0,zvq,zbM,zgS⟩
def zvv:=zkW zvu
theorem zCi [aJ]:Ok ax 254 (ae.un zvv):=zLu zvu zCg YT zgT
theorem zCj:zrZ zvv:=zL5 (E:=zvu) zCh YU zgU
abbrev zvw:za2:=⟨N0,zvv⟩
def zvx:=zkV zvw
theorem zCk:Ok ax 249 (ae.un zvx):=zLo zvw zgH zgE (@zCi ⟨1⟩)
theorem zCl:zr0 zvx:=zL6 (E:=zvw) zCj
abbrev zvy:VZ:=⟨N0,zlX,zvx,zlT⟩
def zvz:=zfC zvy
theorem zCm:Ok ax 240 (ae.un zvz):=zLh zvy zol zCk zod
theorem zCn:zr1 zvz:=zL8 (E:=zvy) bU zom zCl zoe
abbrev zvA:zaQ:=⟨N0,zvz⟩
def zvB:=zkE zvA
theorem zCo:Ok ax 211 (ae.un zvB):=zKJ zvA zCm
theorem zCp:zr2 zvB:=zL9 (E:=zvA) zCn
abbrev zvC:zaE:=⟨N0,D93,zlR,zvB⟩
def zgV:=zkj zvC
theorem zCq:Ok ax 182 (ae.un zgV):=zJN zvC zPT zn9 zCo
theorem zCr:zsu zgV:=zMB (E:=zvC) zPU zoa zCp
abbrev zvD:ZI:=⟨N0⟩
def zvE:=ziS zvD
theorem zCs:Ok ax 140 (ae.un zvE):=zF8 zvD
theorem zCt:zql zvE:=zHs (E:=zvD)
abbrev zvF:ND:=⟨N0,zvE⟩
def zgW:=zpP zvF
theorem zCu:qL ax 173 (ae.unI zgW):=zF4 zvF zCs
theorem zCv:zqn zgW:=zHw (E:=zvF) bU zCt
def zbR : Nat → aj × Int × Bc 143 (Pt aX) × Bc 38 Int × Bw 30 43 3 56 aj × Bs 255 178 2 4 × Unit → ae ((Unit) × (Unit × Unit × (Pt aX) × Int × Sl aj × Unit × Unit))
  | 0=>λ _=>.no
  | n+1=>zkg ⟨N0,zby,zgV,zgW,(zbR n)⟩
theorem zor : ∀ n, nV ax 178 (ae.unM (zbR n))
  | 0=>λ xs ys rs h=>by
    obtain⟨_,h2⟩:=ae.chk_o h;cases h2
  | n+1=>zJD ⟨N0,zby,zgV,zgW,(zbR n)⟩ zn7 zCq zCu zgG (zor n)
theorem zos : ∀ n, QM n (zbR n)
  | 0=>λ s l r x t c i w he hv hc ht hf=>absurd hf (by have:=hv.le;omega)
  | n+1=>zMH (E:=⟨N0,zby,zgV,zgW,(zbR n)⟩) zn8 zCr zCv (zos n)
abbrev zvG:zac:=⟨N0,(zbR 30)⟩
def zvH:=zjG zvG
theorem zCw:Ok ax 127 (ae.un zvH):=zH2 zvG (zor 30)
theorem zCx:zsz zvH:=zMI (E:=zvG) (zos 30)
abbrev zvI:zaN:=⟨N0⟩
def zvJ:=zkz zvI
theorem zCy:Ok ax 203 (ae.un zvJ):=zKv zvI
theorem zCz:zsf zvJ:=zMl (E:=zvI)
abbrev zvK:zaM:=⟨N0,zvJ⟩
def zvL:=zky zvK
theorem zCA:Ok ax 202 (ae.un zvL):=zKs zvK zCy
theorem zCB:zsg zvL:=zMm (E:=zvK) zCz
abbrev zvM:zay:=⟨N0,zgS⟩
def zvN:=zka zvM
theorem zCC:Ok ax 169 (ae.un zvN):=zJo zvM zgT
theorem zCD:zsh zvN:=zMn (E:=zvM) zgU
abbrev zvO:zaA:=⟨N0,zgS⟩
def zvP:=zkc zvO
theorem zCE:Ok ax 171 (ae.un zvP):=zJv zvO zgT
theorem zCF:zsi zvP:=zMo (E:=zvO) zgU
abbrev Jh:oH:=⟨N0,zvN⟩
def Ji:=zG Jh
theorem zbS:Ok ax 168 (ae.un Ji):=zeO Jh zCC
theorem zbT:QEx .inl Ji:=zgc (E:=Jh) bU zCD
abbrev Jj:oI:=⟨N0,zvP⟩
def Jk:=zH Jj
theorem zbU:Ok ax 168 (ae.un Jk):=zeQ Jj zCE
theorem zbV:QEx .inr Jk:=zgd (E:=Jj) bU zCF
def zvQ:=ae.two Ji Jk
theorem zCG:Ok ax 168 (ae.un zvQ):=vN zbS zbU
theorem zCH:zsl zvQ:=zMp zbT zbV
abbrev zvR:Vs:=⟨N0,zvL,zvQ,zbM⟩
def zvS:=zjB zvR
theorem zCI:Ok ax 119 (ae.un zvS):=zHV zvR zCA zCG YT
theorem zCJ:zsm zvS:=zMq (E:=zvR) bU zCB zCH YU
abbrev zvT:zav:=⟨N0,Wu,zlV,zbM,zvS⟩
def zvU:=zj7 zvT
theorem zCK:Ok ax 163 (ae.un zvU):=zJf zvT TD zoh YT zCI
theorem zCL:zsn zvU:=zMs (E:=zvT) TE zoi YU zCJ
abbrev zvV:Z8:=⟨N0,zbz,zlX,zvU⟩
def zvW:=zjw zvV
theorem zCM:Ok ax 114 (ae.un zvW):=zHM zvV YR zol zCK
theorem zCN:zso zvW:=zMt (E:=zvV) YS zom zCL
abbrev zvX:zaH:=⟨N0⟩
def zl0:=zkp zvX
theorem zot:Ok ax 191 (ae.un zl0):=zJ1 zvX
theorem zou:zlv zl0:=zMS (E:=zvX)
abbrev zvY:zaI:=⟨N0,zl0⟩
def zvZ:=zkq zvY
theorem zCO:Ok ax 192 (ae.un zvZ):=zJ5 zvY zot
theorem zCP:zsJ zvZ:=zMT (E:=zvY) zou
abbrev zv0:zaY:=⟨N0,zlY⟩
def zv1:=zkQ zv0
theorem zCQ:Ok ax 236 (ae.un zv1):=zK9 zv0 zon
theorem zCR:zsD zv1:=zMN (E:=zv0) zoo
abbrev zv3:zaZ:=⟨N0⟩
def zv4:=zkR zv3
theorem zCS:Ok ax 237 (ae.un zv4):=zLc zv3
theorem zCT:zsC zv4:=zMM (E:=zv3)
abbrev zv5:VW:=⟨N0,zv1,zv4⟩
def zv6:=zkA zv5
theorem zCU:Ok ax 205 (ae.un zv6):=zKz zv5 zCQ zCS
theorem zCV:zsF zv6:=zMO (E:=zv5) bU zCR zCT
abbrev zv7:Rx:=⟨N0,zv6⟩
def zv8:=zrr zv7
theorem zCW:qL ax 204 (ae.unI zv8):=zKw zv7 zCU
theorem zCX:zsG zv8:=zMQ (E:=zv7) bU zCV
abbrev zv9:Q9:=⟨N0,zbo,OO,zlO,zv8⟩
def zwa:=zjx zv9
theorem zCY:Ok ax 115 (ae.un zwa):=zHN zv9 YM II zn1 zCW
theorem zCZ:zsH zwa:=zMR (E:=zv9) YN IJ zn2 zCX
abbrev zwb:Vu:=⟨N0,zlR,zby,zvW,zl0,zvZ,zwa⟩
def zwc:=zjO zwb
theorem zC0:Ok ax 141 (ae.un zwc):=zIs zwb zn9 zn7 zCM zot zCO zCY
theorem zC1:zsN zwc:=zMU (E:=zwb) bU zoa zn8 zCN zou zCP zCZ
abbrev zwd:zad:=⟨N0,zwc⟩
def zwe:=zjH zwd
theorem zC2:Ok ax 129 (ae.un zwe):=zH5 zwd zC0
theorem zC3:zsO zwe:=zMV (E:=zwd) zC1
abbrev zwf:VG:=⟨N0⟩
def zwg:=zjY zwf
theorem zC4:Ok ax 152 (ae.un zwg):=zIM zwf
theorem zC5:zsP zwg:=zMW (E:=zwf) bU
abbrev d92:E92:=⟨N0,zwg⟩
def D92:=F92 d92
theorem zPX:Ok ax 92 (ae.un D92):=o92 d92 zC4
theorem zPY:Q92 D92:=s92 (E:=d92) bU zC5
abbrev zwh:zah:=⟨N0,D92⟩
def zwi:=zjK zwh
theorem zC6:Ok ax 132 (ae.un zwi):=zIh zwh zPX
theorem zC7:zsQ zwi:=zMY (E:=zwh) zPY
abbrev d97:E97:=⟨N0,zwi⟩
def D97:=F97 d97
theorem zP1:Ok ax 97 (ae.un D97):=o97 d97 zC6
theorem zP2:Q97 D97:=s97 (E:=d97) bU zC7
abbrev zwj:zaf:=⟨N0,D97⟩
def zwk:=zjJ zwj
theorem zC8:Ok ax 131 (ae.un zwk):=zId zwj zP1
theorem zC9:zsR zwk:=zM0 (E:=zwj) zP2
abbrev zwl:zae:=⟨N0,zwk⟩
def zwm:=zjI zwl
theorem zDa:Ok ax 130 (ae.un zwm):=zH9 zwl zC8
theorem zDb:zsS zwm:=zM1 (E:=zwl) zC9
abbrev Jl:oz:=⟨N0,zwe⟩
def Jm:=zD Jl
theorem zbW:ed ax 128 (.mkv 43 3 56 (ae.unV Jm)):=zeE Jl zC2
theorem zbX:QFi .inl Jm:=zgs (E:=Jl) bU zC3
abbrev Jn:oD:=⟨N0,zwm⟩
def Jo:=zF Jn
theorem zbY:ed ax 128 (.mkv 43 3 56 (ae.unV Jo)):=zeG Jn zDa
theorem zbZ:QFi .inr Jo:=zgt (E:=Jn) bU zDb
def zwn:=ae.two Jm Jo
theorem zDc:ed ax 128 (.mkv 43 3 56 (ae.unV zwn)):=ziE zbW zbY
theorem zDd:zsV zwn:=zM2 zbX zbZ
abbrev zwo:zaR:=⟨N0⟩
def zwp:=zkF zwo
theorem zDe [aJ]:Ok ax 222 (ae.un zwp):=zKM zwo
theorem zDf:zsW zwp:=zM3 (E:=zwo)
abbrev zwq:zaF:=⟨N0,zwp⟩
def zwr:=zkl zwq
theorem zDg [aJ]:Ok ax 186 (ae.un zwr):=zJT zwq zDe
theorem zDh:V8 zwr:=zM4 (E:=zwq) zDf
abbrev zwt:VQ:=⟨N0,zlZ⟩
def zwu:=zkn zwt
theorem zDi [aJ]:Ok ax 187 (ae.un zwu):=zJU zwt zop
theorem zDj:zbe zwu:=zM5 (E:=zwt) bU zoq
abbrev zwv:VP:=⟨N0⟩
def zww:=zkk zwv
theorem zDk [aJ]:Ok ax 185 (ae.un zww):=zJP zwv
theorem zDl:zsX zww:=zM7 (E:=zwv) bU
abbrev zwx:zai:=⟨N0,zwr,zwu,zww⟩
def zwy:=zjL zwx
theorem zDm [aJ]:Ok ax 134 (ae.un zwy):=zIm zwx zDg zDi zDk
theorem zDn:zsY zwy:=zM8 (E:=zwx) zDh zDj zDl
abbrev d72:E72:=⟨N0,D78,zuK,zvH,zwn,zwy⟩
def D72:=F72 d72
theorem zP5:Ok ax 72 (ae.unA D72):=o72 d72 zPL zBJ zCw zDc zgF (@zDm ⟨1⟩)
theorem zP6:Q72 D72:=s72 (E:=d72) zPM zBK zCx zDd zDn
abbrev d20:E20:=⟨N0,D72⟩
def D20:=F20 d20
theorem zP9:Ok ax 20 (ae.un D20):=o20 d20 zP5
theorem zQa:Q20 D20:=s20 (E:=d20) zP6
abbrev d21:YF:=⟨N0,D55,D74,D73,D75,D57,D76,D77⟩
def D21:=F21 d21
theorem zQd:Ok ax 21 (ae.un D21):=o21 d21 zAE zAW zbk ztw zAK zA3 zBb
theorem zQe:Q21 D21:=s21 (E:=d21) bU zAF zAX zbl ztx zAL zA4 zBc
abbrev d48:E48:=⟨N0⟩
def D48:=F48 d48
theorem zQh:Ok ax 48 (ae.un D48):=o48 d48
theorem zQi:Q48 D48:=s48 (E:=d48) bU
abbrev d22:E22:=⟨N0,D48⟩
def D22:=F22 d22
theorem zQl:Ok ax 22 (ae.un D22):=o22 d22 zQh
theorem zQm:Q22 D22:=s22 (E:=d22) bU zQi
abbrev d3:E3:=⟨N0,D17,D19,D18,D20,D21,D22⟩
def D3:=F3 d3
theorem oD3:Ok ax 3 (ae.un D3):=o3 d3 zPw zPA zPD zP9 zQd zQl
theorem qD3:Q3 D3:=s3 (E:=d3) bU zPx zPz zPE zQa zQe zQm
theorem zQn {δ ρ:Type} [dC δ] [dC ρ] {F:δ->ae ρ}{a:δ}{r:ρ}(hc:dC.ck (α:=δ) (dC.enc a)=true) (hd:dC.dec (dC.enc a)=a) (h:F a=.ok r):(ae.un F (dC.enc a)).o=some (dC.enc r):=by
 unfold ae.un;rw[hc,hd,h];rfl
end Go.Proofs
namespace Go.Proofs.YtjkijdhdbhooiaaGreat
set_option maxRecDepth 100000
def dc : Nat → Nat → List Char
  | 0,_=>[]
  | k+1,n=>Char.ofNat (n % 128) :: dc k (n / 128)
def ioR:List (List Char):=[dc 2 14945,dc 35 45019731839301669745199096094014757347713743838262223150477152386253683567,dc 34 420377978748125055740877229337914779690535202023532228586777341826005871,dc 36 6550971710285934913754052784167232504664614938228495552548125985273808517999,dc 37 729461727561750118551056160028214191605660185564422184735309847620634057210735,dc 37 830772752598413053766828580736873493486916948856955428203985110704856283839343,dc 37 846039670449084468774387244088358248202427724899131661281249209823569867537263,dc 35 51179294023049743501667742572912222775214732381401055866039370168307121007,dc 35 45009296865569399087797946188323693179256993798839364341239407728733551471,dc 37 830780268438003779521215029671213750534782202343527674838098051362097095867247,dc 38 107331119686939743456630664922862568562027744964707129139922504835010957783169903,dc 36 6550077393460720109370983476171913501904522994409179701070095258754267839343,dc 35 48939868791262458989610581110577656928740303271215203627173391395041409903,dc 37 838349406564167396116242431067385471964016398604997842927764345145510690650991,dc 37 838349393033854787123352198492273111221406595137993776056015629414144918780783]
def ioN:List Char:=dc 599 149771092015852491278000662115128137748269599194581860494294778261301651447965370062645304741743729477171988600934799727326517975522812478602000462062741437383719700469441320225746001460657778919864702789185877727655633384756976915120483667267389003774318074344898749855352565971438052119468579606834274369754786466833197740569138863177439610707078849369185453345527529660045569842755503891534211525146045868530953689090964949867816695296345068916719713389224171554417522039179151544735265211004436216097918169509036553218766076260083794299680425243321104884652801756935939016856612808890681403713245564864003766772582403997404693715256366145143767382394449050497631406600169134111017758420705379181155399036702826495772349138224361597591141153214596847427732622443000331392581117708063194127217598752738628016573330186096707239904130243791293223266344009164320459711360917953739697093488615153066332379337541176729581439867139231308816545570621442575900426155419574959597509166851618974720944858788987333755451277637880095378589630688375170213056367090535571658338605777263539845461211124236505614769845380929544309814139208243656161387198222242061066521483984326294839656717673867435632142724742576645662295495695963786797012817486377421718128934313825440411880
theorem ioS:Tryz.prog.initOrder=String.ofList ioN:=by kernel_rfl
theorem ioL:Tryz.prog.initOrder.toList=ioN:=(congrArg String.toList ioS).trans String.toList_ofList
theorem ioW:wordsSigns Tryz.prog.initOrder.toList=(dc 7 509754063237352) :: (dc 64 572163061260696105970074307196347989822506933787247010369012457204266251338368704666046318255463753418979972205211827874765770452792118) :: (dc 3 1915619) :: ioR:=(congrArg wordsSigns ioL).trans (by kernel_rfl)
theorem ioB:behindMainWord (wordsSigns Tryz.prog.initOrder.toList)=(dc 3 1915619) :: ioR:=(congrArg behindMainWord ioW).trans (by kernel_rfl)
theorem OQ {P : Program} {l : List (List Char)} (h : behindMainWord (wordsSigns P.initOrder.toList) = l) : P.headLifts = (if (stripLifts liftWords l).2.head? == some "cut".toList then (stripLifts liftWords l).1 else []) := by subst h; rfl
theorem zl1 {P:Program}{rest:List (List Char)}(h:behindMainWord (wordsSigns P.initOrder.toList)=(dc 3 1915619) :: rest):P.make=some .cut:=by unfold Program.make;rw[h];rfl
theorem zgX {P:Program}{rest:List (List Char)}(h:behindMainWord (wordsSigns P.initOrder.toList)=(dc 3 1915619) :: rest) (hl:P.headLifts=[]):P.liftsFinal=false:=by unfold Program.liftsFinal;rw[h,hl];rfl
theorem zgY {P : Program} {c : List Char} {rest : List (List Char)} (h : behindMainWord (wordsSigns P.initOrder.toList) = c :: rest) (hst : (stripLifts liftWords (c :: rest)).2.head? = some "cut".toList)
    (hs1:(stripLifts liftWords (c :: rest)).1=[]) (zQo:P.laysLater=false) (hb:P.bearsReflect=false) (hd:P.doorFits []=true):P.mayEnter=true:=by
  unfold Program.mayEnter;rw[h];simp[hst,hs1,zQo,hb,hd]
theorem ioH:Tryz.prog.headLifts=[]:=(OQ ioB).trans (by kernel_rfl)
theorem ioK:Tryz.prog.make=some .cut:=zl1 ioB
theorem ioF:Tryz.prog.liftsFinal=false:=zgX ioB ioH
theorem ioE:Tryz.prog.mayEnter=true:=zgY ioB (by kernel_rfl) (by kernel_rfl) (by kernel_rfl) (by kernel_rfl) (by kernel_rfl)
end Go.Proofs.YtjkijdhdbhooiaaGreat
