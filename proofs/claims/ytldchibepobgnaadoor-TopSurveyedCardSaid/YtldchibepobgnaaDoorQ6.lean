/- Part 6 of what the proof rests on: a machine that runs functions of the program on pure values, proved sound; the functions that the law reaches, and what they compute. -/
import Derived.Test.YtldchibepobgnaaDoorQ5
set_option linter.all false
namespace Go.Proofs
open Go Go.Pm
set_option maxRecDepth 100000
theorem zDt (v:Sl Frac) (h1:1<=v.len) (h2:v.len<=100000) (hv:∀ i,i < v.len->FOK (v.get i)):zNj v=true/\zjA v (zAa v):=by
  have key:∀ (m k i:Nat) (sl:Sl Frac) (o:Frac),sl.len=v.len - 1->(∀ x,sl.get x=v.get (x+1))->i+m=v.len - 1->m < k->(∃ a,a < v.len/\v.get a=o)->(∀ j,j<=i->¬ ltF o (v.get j)) ->
      zgP v k sl (i:Int) o.Num o.Den=true/\zjA v (zgO v k sl (i:Int) o.Num o.Den):=by
    intro m
    induction m with
    | zero =>
      intro k i sl o hs hg hi hk ho hl
      obtain⟨k,rfl⟩:∃ k',k=k'+1:=⟨k - 1,by omega⟩
      show zgN v (zgP v k) _ _ _ _=_/\zjA v (zgM v (zgO v k) _ _ _ _)
      unfold zgN zgM
      rw[dqF (show ¬ (i:Int) < (((v.len:Int) - (1:Int)).toNat:Int) by omega),dqB,dqB]
      exact⟨rfl,ho,λ j hj=>hl j (by omega)⟩
    | succ m ih =>
      intro k i sl o hs hg hi hk ho hl
      obtain⟨k,rfl⟩:∃ k',k=k'+1:=⟨k - 1,by omega⟩
      have ih:=λ o ho hl=>ih k (i+1) sl o hs hg (by omega) (by omega) ho hl
      show zgN v (zgP v k) _ _ _ _=_/\zjA v (zgM v (zgO v k) _ _ _ _)
      generalize zgP v k=P at ih
      generalize zgO v k=S at ih
      unfold zgN zgM znV znU
      have ho':=ho
      obtain⟨a,ha,ea⟩:=ho'
      have fo:FOK o:=ea ▸ hv a ha
      have fx:=hv (i+1) (by omega)
      rw[dqT (show (i:Int) < (((v.len:Int) - (1:Int)).toNat:Int) by omega),dqT (show 0<=(i:Int)/\(i:Int) < (sl.len:Int) by omega),dqA,dqA,Bool.true_and,dqN,hg,zdn (n:=v.len) (by omega) (by omega)]
      by_cases hlt:ltF o (v.get (i+1))
      · rw [show s99 (v.get (i + 1)) (⟨o.Num, o.Den⟩ : Frac) = true from (zA3 fx fo).2 hlt, dqA, dqA]
        refine ih (v.get (i+1)) ⟨i+1,by omega,rfl⟩ λ j hj=>?_
        by_cases hji:j=i+1
        · rw[hji];unfold ltF;omega
        · have g1 := hl j (by omega)
          have fj:=hv j (by omega)
          refine zgR (b:=o) (by have:=fj.2;omega) (by have:=fo.2;omega) (by have:=fx.2;omega) g1 ?_
          unfold ltF at hlt ⊢;omega
      · have e:s99 (v.get (i+1)) (⟨o.Num,o.Den⟩:Frac)=false:=by
          cases h:s99 (v.get (i+1)) (⟨o.Num,o.Den⟩:Frac)
          · rfl
          · exact absurd ((zA3 fx fo).1 h) hlt
        rw[e,dqB,dqB]
        refine ih o ho λ j hj=>?_
        by_cases hji:j=i+1
        · rw[hji];exact hlt
        · exact hl j (by omega)
  have hk := key (v.len - 1) Fuel 0 (⟨((v.len : Int) - (1:Int)).toNat, (fun i => v.get (i + ((1:Int).toNat)))⟩ : Sl Frac) (v.get 0) (by show ((v.len : Int) - (1:Int)).toNat = _; omega) (fun _ => rfl) (by omega) (by simp only [Fuel]; omega) ⟨0, by omega, rfl⟩
    (fun j hj => by have : j = 0 := by omega
                    rw[this];unfold ltF;omega)
  refine⟨?_,hk.2⟩
  unfold zNj
  rw[dqT (show 0<=(0:Int)/\(0:Int) < (v.len:Int) by omega),dqT (show 0<=(1:Int)/\(1:Int)<=(v.len:Int)/\(v.len:Int)<=(v.len:Int) by omega),Bool.true_and,Bool.true_and]
  exact hk.1
abbrev rd_ (f:Frac):Frac:=red f.Num f.Den
theorem zN9 {f:Frac}(h:0 < f.Den):rd_ (rd_ f)=rd_ f:=by
 have p:=zdP (num:=f.Num) h
 refine (zEZ p h).2 ?_
 have e1:=zeJ (num:=f.Num) h
 have e2:=zd1 (num:=f.Num) h
 show (red f.Num f.Den).Num * f.Den=f.Num * (red f.Num f.Den).Den
 generalize red f.Num f.Den=x at *
 generalize (Int.gcd f.Num f.Den:Int)=G at *
 rw[<- e1,<- e2];ac_rfl
theorem zvf {a b:Frac}(ha:0 < a.Den) (hb:0 < b.Den):ltF (rd_ a) b↔ltF a b:=by
 have p:=zdP (num:=a.Num) ha
 have e:red (rd_ a).Num (rd_ a).Den=red a.Num a.Den:=zN9 ha
 rw[<- zot (a:=rd_ a) (b:=b) p hb,e,zot ha hb]
theorem zvg {a b:Frac}(ha:0 < a.Den) (hb:0 < b.Den):ltF a (rd_ b)↔ltF a b:=by
 have p:=zdP (num:=b.Num) hb
 have e:red (rd_ b).Num (rd_ b).Den=red b.Num b.Den:=zN9 hb
 rw[<- zot (a:=a) (b:=rd_ b) ha p,e,zot ha hb]
def Cor (g:Sl Gate) (s:straight):Prop:=s∈cst g/\zfe g s
def BdL (g:Sl Gate) (F:straight->Frac) (lo hi:Frac):Prop :=
 ((∃ s,Cor g s/\rd_ (F s)=lo)/\∀ s,Cor g s->¬ ltF (F s) lo)/\(∃ s,Cor g s/\rd_ (F s)=hi)/\∀ s,Cor g s->¬ ltF hi (F s)
theorem zRk {g : Sl Gate} {F : straight → Frac} (hF : ∀ s, Cor g s → FOK (F s)) {v : Sl Frac} {lo hi : Frac} (h1 : ∀ i, i < v.len → ∃ s, Cor g s ∧ rd_ (F s) = rd_ (v.get i) ∧ 0 < (v.get i).Den)
    (h2:∀ s,Cor g s->∃ i,i < v.len/\rd_ (F s)=rd_ (v.get i)) (hl:zjz v lo) (hg:zjA v hi):BdL g F (rd_ lo) (rd_ hi):=by
  obtain⟨⟨i,hi1,ei⟩,l⟩:=hl
  obtain⟨⟨j,hj1,ej⟩,r⟩:=hg
  obtain⟨si,ci,ri,pi⟩:=h1 i hi1
  obtain⟨sj,cj,rj,pj⟩:=h1 j hj1
  refine⟨⟨⟨si,ci,by rw[ri,ei]⟩,λ s hs=>?_⟩,⟨sj,cj,by rw[rj,ej]⟩,λ s hs=>?_⟩
  · obtain ⟨k, hk, ek⟩ := h2 s hs
    have ps:=(hF s hs).2
    obtain⟨_,_,_,pk⟩:=h1 k hk
    rw[ei] at pi
    rw[zvg (by omega) pi,<- zvf (by omega) pi,ek,zvf pk pi]
    exact l k hk
  · obtain ⟨k, hk, ek⟩ := h2 s hs
    have ps:=(hF s hs).2
    obtain⟨_,_,_,pk⟩:=h1 k hk
    rw[ej] at pj
    rw[zvf pj (by omega),<- zvg pj (by omega),ek,zvg pj pk]
    exact r k hk
end Go.Proofs
namespace Go.Proofs
open Go Go.Pm
set_option maxRecDepth 100000
abbrev plF (z:Int) (s:straight):Frac:=⟨plc s z,s.den⟩
theorem zA5 {s:straight}(S:SOK s){z:Int}(hz : -200000<=z/\z<=200000):(-400000000000<=s.slope * z/\s.slope * z<=400000000000)/\-600000000000<=plc s z/\plc s z<=600000000000:=by
 have:=zN8 S.1.1 S.1.2 hz.1 hz.2
 have:=S.2.1
 unfold plc
 omega
theorem zvh {s:straight}(S:SOK s){z:Int}(hz : -200000<=z/\z<=200000):FOK (plF z s) :=
 ⟨⟨by show -1000000000000<=plc s z;have:=zA5 S hz;omega,by show plc s z<=1000000000000;have:=zA5 S hz;omega⟩,S.2.2⟩
theorem zJP {s:straight}(S:SOK s){z:Int}(hz : -200000<=z/\z<=200000):s74 z s=plF z s:=by
 obtain⟨a,b⟩:=zA5 S hz
 unfold plc at b
 unfold s74 s75 plF plc
 rw[zay (x:=s.slope * z) (by omega) (by omega),zay (x:=s.start+s.slope * z) (by omega) (by omega)]
theorem zms {g:Sl Gate}(G:zcc g){s:straight}(h:Cor g s):SOK s:=zE1 G h.1
abbrev lst {α:Type} [Inhabited α] (l:List α):Sl α:=l.foldl zhH zlC
theorem zlD {α:Type} [Inhabited α] (l:List α):(lst l).len=l.length:=by
 show (l.foldl zhH zlC).len=_
 rw[zij];simp[zlC]
theorem zou {α:Type} [Inhabited α] {l:List α}{i:Nat}{x:α}(h:l[i]? = some x):(lst l).get i=x:=by
 have:=zos l zlC i x h
 rw[show (zlC:Sl α).len+i=i from Nat.zero_add i] at this;exact this
structure CorL (g : Sl Gate) (C : List straight) : Prop where
  len:C.length<=100000
  mem:∀ s∈C,Cor g s
  all:∀ s,Cor g s->∃ x∈C,toL x=toL s
def ne (C:List straight):Prop:=1<=C.length
theorem zJQ {g:Sl Gate}{C:List straight}(h:CorL g C):(1<=C.length)↔∃ s,Cor g s:=by
 constructor
 ·intro h1
  match C,h1 with
  | x :: C,_=>exact⟨x,h.mem x dqj⟩
 ·intro ⟨s, hs⟩
  obtain⟨x,hx,_⟩:=h.all s hs
  exact List.length_pos_of_mem hx
def frS (F:straight->Frac) (C:List straight):Sl Frac:=lst (C.map F)
theorem zOa {g : Sl Gate} (G : zcc g) {C : List straight} (H : CorL g C) {F : straight → Frac} (hF : ∀ s, Cor g s → FOK (F s)) (hc : ∀ x y, Cor g x → Cor g y → toL x = toL y → rd_ (F x) = rd_ (F y)) {lo hi : Frac}
    (hl:zjz (frS F C) lo) (hg:zjA (frS F C) hi):BdL g F (rd_ lo) (rd_ hi):=by
  have get:∀ (i:Nat) (s:straight),C[i]? = some s->(frS F C).get i=F s:=λ i s h=>zou (by rw[dqH,h];rfl)
  refine zRk hF (λ i hi=>?_) (λ s hs=>?_) hl hg
  · have hi : i < C.length := by have := zlD (C.map F); rw [List.length_map] at this; exact this ▸ hi
    have e:=dqD hi
    have m:=H.mem _ (List.getElem_mem hi)
    rw[get i _ e]
    exact⟨_,m,rfl,by have:=(hF _ m).2;omega⟩
  · obtain ⟨x, hx, ex⟩ := H.all s hs
    obtain⟨i,hi,rfl⟩:=List.getElem_of_mem hx
    refine⟨i,?_,?_⟩
    · have:=zlD (C.map F);rw[List.length_map] at this;exact this.symm ▸ hi
    · rw [get i _ (dqD hi)]
      exact hc _ _ hs (H.mem _ hx) ex.symm
theorem zJR {g:Sl Gate}(G:zcc g){z:Int}(hz : -200000<=z/\z<=200000) (x y:straight) (hx:Cor g x) (hy:Cor g y) (h:toL x=toL y):rd_ (plF z x)=rd_ (plF z y):=by
 have a:=(zA4 (zms G hx) hz).2
 have b:=(zA4 (zms G hy) hz).2
 show red (plc x z) x.den=red (plc y z) y.den
 rw[<- a,<- b,h]
theorem ztk (F:straight->Frac) (C:List straight):(frS F C).len=C.length:=by
 have:=zlD (C.map F);rw[List.length_map] at this;exact this
theorem zJS {g:Sl Gate}{C:List straight}(H:CorL g C){F:straight->Frac}(hF:∀ s,Cor g s->FOK (F s)):∀ i,i < (frS F C).len->FOK ((frS F C).get i):=by
 intro i hi
 have hi:i < C.length:=ztk F C ▸ hi
 have:(frS F C).get i=F C[i]:=zou (by rw[dqH,dqD hi];rfl)
 rw[this]
 exact hF _ (H.mem _ (List.getElem_mem hi))
theorem zJT {g : Sl Gate} (G : zcc g) {C : List straight} (H : CorL g C) (h1 : 1 ≤ C.length) {F : straight → Frac} (hF : ∀ s, Cor g s → FOK (F s)) (hc : ∀ x y, Cor g x → Cor g y → toL x = toL y → rd_ (F x) = rd_ (F y)) :
  znW (frS F C)=true/\BdL g F (zhB (frS F C)).1 (zhB (frS F C)).2:=by
 have hn:=ztk F C
 have hl:=H.len
 have fv:=zJS H hF
 obtain⟨a1,a2⟩:=zJO (frS F C) (by omega) (by omega) fv
 obtain⟨b1,b2⟩:=zDt (frS F C) (by omega) (by omega) fv
 have B:=zOa G H hF hc a2 b2
 have fa:FOK (s96 (frS F C)):=by obtain⟨⟨i,hi,e⟩,_⟩:=a2;exact e ▸ fv i hi
 have fb:FOK (zAa (frS F C)):=by obtain⟨⟨i,hi,e⟩,_⟩:=b2;exact e ▸ fv i hi
 obtain⟨fa1,fa2⟩:=fa
 obtain⟨fb1,fb2⟩:=fb
 obtain⟨c1,c2⟩:=zu8 (num:=(s96 (frS F C)).Num) (den:=(s96 (frS F C)).Den) (by omega) (by omega) (by omega) (by omega)
 obtain⟨d1,d2⟩:=zu8 (num:=(zAa (frS F C)).Num) (den:=(zAa (frS F C)).Den) (by omega) (by omega) (by omega) (by omega)
 unfold znW zhB zsh zsg zsf zse
 rw[a1,b1,c1,d1]
 refine⟨by simp,?_⟩
 show BdL g F (s72 _ _) (s72 _ _)
 rw[c2,d2]
 exact B
theorem zJU {F:straight->Frac}{C:List straight}{i:Nat}(hi:i < C.length):frS F (C.take (i+1))=zhH (frS F (C.take i)) (F ((lst C).get i)):=by
 have e:=zou (dqD hi)
 unfold frS
 rw[List.take_succ_eq_append_getElem hi,List.map_append]
 show (List.map F (C.take i) ++ List.map F [C[i]]).foldl zhH zlC=_
 rw[List.foldl_append]
 show zhH (lst (List.map F (List.take i C))) (F C[i])=_
 rw[e]
theorem zOb {g : Sl Gate} (G : zcc g) {C : List straight} (H : CorL g C) (h1 : 1 ≤ C.length) {z : Int} (hz : -200000 ≤ z ∧ z ≤ 200000) :
  p73 z ⟨⟨g⟩,lst C⟩=true/\BdL g (plF z) (s73 z ⟨⟨g⟩,lst C⟩).1 (s73 z ⟨⟨g⟩,lst C⟩).2:=by
 have hn:=zlD C
 have hl:=H.len
 obtain⟨x1,x2⟩:=zJT G H h1 (F:=plF z) (λ s hs=>zvh (zms G hs) hz) (zJR G hz)
 have key:∀ (m k i:Nat),i+m=C.length->m < k->zjd z ⟨⟨g⟩,lst C⟩ k (i:Int) (frS (plF z) (C.take i))=true/\zjc z ⟨⟨g⟩,lst C⟩ k (i:Int) (frS (plF z) (C.take i))=zhB (frS (plF z) C):=by
  intro m
  induction m with
  | zero =>
   intro k i hi hk
   obtain⟨k,rfl⟩:∃ k',k=k'+1:=⟨k - 1,by omega⟩
   show zjb z ⟨⟨g⟩,lst C⟩ (zjd z ⟨⟨g⟩,lst C⟩ k) (i:Int) _=_/\zja z ⟨⟨g⟩,lst C⟩ (zjc z ⟨⟨g⟩,lst C⟩ k) (i:Int) _=_
   unfold zjb zja
   rw[dqF (show ¬ (i:Int) < (((⟨⟨g⟩,lst C⟩:set).corners.len:Nat):Int) by show ¬ (i:Int) < ((lst C).len:Int);omega),dqB,dqB,List.take_of_length_le (by omega)]
   exact⟨x1,rfl⟩
  | succ m ih =>
   intro k i hi hk
   obtain⟨k,rfl⟩:∃ k',k=k'+1:=⟨k - 1,by omega⟩
   have ih:=ih k (i+1) (by omega) (by omega)
   have hiC:i < C.length:=by omega
   show zjb z ⟨⟨g⟩,lst C⟩ (zjd z ⟨⟨g⟩,lst C⟩ k) (i:Int) _=_/\zja z ⟨⟨g⟩,lst C⟩ (zjc z ⟨⟨g⟩,lst C⟩ k) (i:Int) _=_
   generalize zjd z ⟨⟨g⟩,lst C⟩ k=P at ih
   generalize zjc z ⟨⟨g⟩,lst C⟩ k=S at ih
   have so:s74 z ((lst C).get i)=plF z ((lst C).get i):=by
    rw[zou (dqD hiC)]
    exact zJP (zms G (H.mem _ (List.getElem_mem hiC))) hz
   have hv:=ztk (plF z) (C.take i)
   rw[List.length_take] at hv
   unfold zjb zja
   rw[dqT (show (i:Int) < (((⟨⟨g⟩,lst C⟩:set).corners.len:Nat):Int) by show (i:Int) < ((lst C).len:Int);omega),dqA,dqA,
    dqT (show 0<=(i:Int)/\(i:Int) < (((⟨⟨g⟩,lst C⟩:set).corners.len:Nat):Int) by show 0<=(i:Int)/\(i:Int) < ((lst C).len:Int);omega),Bool.true_and,
    dqT (show ((frS (plF z) (C.take i)).len+1) * 16<=140737488355328/\(frS (plF z) (C.take i)).len+1<=9223372036854775807 by omega),Bool.true_and,zdn (n:=C.length) hiC (by omega),dqN]
   have e:=zJU (F:=plF z) hiC
   rw[e] at ih
   show P ((i+1:Nat):Int) (zhH (frS (plF z) (C.take i)) (s74 z ((lst C).get i)))=true/\S ((i+1:Nat):Int) (zhH (frS (plF z) (C.take i)) (s74 z ((lst C).get i)))=_
   rw[so]
   exact ih
 have h:=key C.length Fuel 0 (by omega) (by simp only[Fuel];omega)
 have h2:s73 z ⟨⟨g⟩,lst C⟩=zhB (frS (plF z) C):=h.2
 exact⟨h.1,by rw[h2];exact x2⟩
end Go.Proofs
namespace Go.Proofs
open Go Go.Pm
set_option maxRecDepth 100000
theorem zmt {α : Type} [DecidableEq α] : ∀ (l m : List α), l.Nodup → (∀ x ∈ l, x ∈ m) → l.length ≤ m.length
  | [],_,_,_=>Nat.zero_le _
  | x :: l,m,hn,h=>by
    have hx:=h x dqj
    rw[List.nodup_cons] at hn
    have:=zmt l (m.erase x) hn.2 λ y hy=>(List.mem_erase_of_ne (λ (e:y=x)=>hn.1 (by rw[<- e];exact hy))).2 (h y (dqf _ hy))
    rw[List.length_erase_of_mem hx] at this
    have:=List.length_pos_of_mem hx
    rw[dqr];omega
theorem zJV (g:Sl Gate) (G:zcc g):p70 ⟨g⟩=true/\p16 g=true/\s70 ⟨g⟩=s16 g :=
 ⟨(zti g G).1,(zvd g G).1,Bool.eq_iff_iff.2 ((zti g G).2.trans (zvd g G).2.symm)⟩
theorem zv7 {g:Sl Gate}(G:zcc g) (h:s16 g=false) : ¬ zor g:=λ k=>by rw[(zvd g G).2.2 k] at h;cases h
end Go.Proofs
namespace Go.Proofs
open Go Go.Pm
set_option maxRecDepth 100000
theorem zE3 {z p y q:Int}(h:z ≠ y):plc (thr z p y q) z=p * (thr z p y q).den/\plc (thr z p y q) y=q * (thr z p y q).den:=by
 unfold thr plc
 split
 ·constructor
  ·show q * z - p * y + (p - q) * z = p * (z - y)
   rw[Int.sub_mul,Int.mul_sub];omega
  ·show q * z - p * y + (p - q) * y = q * (z - y)
   rw[Int.sub_mul,Int.mul_sub];omega
 ·constructor
  ·show p * y - q * z + (q - p) * z = p * (y - z)
   rw[Int.sub_mul,Int.mul_sub];omega
  ·show p * y - q * z + (q - p) * y = q * (y - z)
   rw[Int.sub_mul,Int.mul_sub];omega
theorem zov {g:Sl Gate}{s:straight}(h:zfe g s){i:Nat}(hi:i < g.len):(g.get i).Low * s.den<=plc s (g.get i).Z/\plc s (g.get i).Z<=(g.get i).High * s.den:=of_decide_eq_true (h i hi)
theorem zmu {g : Sl Gate} {i b : Nat} {x : straight} (hx : x ∈ zv6 (g.get i) (g.get b)) : ∀ m k, k ≤ b → b < k + m → x ∈ zu9 g i m k
  | 0,k,h1,h2=>by omega
  | m+1,k,h1,h2=>by
    show x∈zv6 (g.get i) (g.get k) ++ zu9 g i m (k+1)
    by_cases h:k=b
    · rw[h];exact List.mem_append_left _ hx
    · exact List.mem_append_right _ (zmu hx m (k+1) (by omega) (by omega))
theorem zmv {g : Sl Gate} {a : Nat} {x : straight} (hx : x ∈ zu9 g a (g.len - (a + 1)) (a + 1)) : ∀ m i, i ≤ a → a < i + m → x ∈ zDk g m i
  | 0,i,h1,h2=>by omega
  | m+1,i,h1,h2=>by
    show x∈zu9 g i (g.len - (i+1)) (i+1) ++ zDk g m (i+1)
    by_cases h:i=a
    · rw[h];exact List.mem_append_left _ hx
    · exact List.mem_append_right _ (zmv hx m (i+1) (by omega) (by omega))
theorem zDu {z p y q:Int}(h:z ≠ y):thr z p y q=thr y q z p:=by
 unfold thr
 by_cases h1:z > y
 ·rw[dqP h1,dqG (show ¬ y > z by omega)]
 ·rw[dqG h1,dqP (show y > z by omega)]
theorem zSd {g:Sl Gate}{a b:Nat}(ha:a < g.len) (hb:b < g.len) (hz:(g.get a).Z ≠ (g.get b).Z){p q:Int}(hp:p=(g.get a).Low\/p=(g.get a).High) (hq:q=(g.get b).Low\/q=(g.get b).High):thr (g.get a).Z p (g.get b).Z q∈cst g:=by
 have key:∀ {a b:Nat} {p q:Int},a < b->b < g.len->(g.get a).Z ≠ (g.get b).Z->(p=(g.get a).Low\/p=(g.get a).High)->(q=(g.get b).Low\/q=(g.get b).High)->thr (g.get a).Z p (g.get b).Z q∈cst g:=fun {a b p q} h1 h2 hz hp hq=>by
  refine zmv (zmu ?_ _ _ h1 (by omega)) _ 0 (Nat.zero_le _) (by omega)
  unfold zv6
  rw[dqG hz]
  rcases hp with rfl | rfl <;> rcases hq with rfl | rfl <;> simp
 rcases Nat.lt_or_ge a b with h | h
 ·exact key h hb hz hp hq
 ·have : a ≠ b := fun e => hz (by rw [e])
  rw[zDu hz]
  exact key (by omega) ha (Ne.symm hz) hq hp
theorem zlE {Q : Nat → Prop} {le : Nat → Nat → Prop} (tot : ∀ i j, Q i → Q j → le i j ∨ le j i) (tr : ∀ i j k, Q i → Q j → Q k → le i j → le j k → le i k) : ∀ n, (∃ k, k < n ∧ Q k) → ∃ k, k < n ∧ Q k ∧ ∀ j, j < n → Q j → le j k
  | 0,⟨k,h,_⟩=>absurd h (dqW k)
  | n+1,hex=>by
    by_cases h:∃ k,k < n/\Q k
    · obtain ⟨k, hk, qk, hm⟩ := zlE tot tr n h
      by_cases qn:Q n
      · rcases tot n k qn qk with h1 | h1
        · exact⟨k,by omega,qk,λ j hj qj=>by
            by_cases e:j=n
            · rw[e];exact h1
            · exact hm j (by omega) qj⟩
        · exact⟨n,by omega,qn,λ j hj qj=>by
            by_cases e:j=n
            · rw[e];rcases tot n n qn qn with h2 | h2 <;> exact h2
            · exact tr j k n qj qk qn (hm j (by omega) qj) h1⟩
      · exact⟨k,by omega,qk,λ j hj qj=>hm j (by
          have:j ≠ n:=λ e=>qn (e ▸ qj)
          omega) qj⟩
    · obtain ⟨k, hk, qk⟩ := hex
      have e:k=n:=by
        rcases Nat.lt_or_ge k n with h1 | h1
        · exact absurd ⟨k,h1,qk⟩ h
        · omega
      subst e
      exact⟨k,by omega,qk,λ j hj qj=>by
        by_cases e:j=k
        · rw[e];rcases tot k k qk qk with h2 | h2 <;> exact h2
        · exact absurd ⟨j,by omega,qj⟩ h⟩
def leS (a b:straight):Prop:=a.slope * b.den<=b.slope * a.den
theorem zvi {a b c:straight}(ha:0 < a.den) (hb:0 < b.den) (hc:0 < c.den) (h1:leS a b) (h2:leS b c):leS a c:=by
 unfold leS at *
 have y1:=Int.mul_le_mul_of_nonneg_right h1 (Int.le_of_lt hc)
 have y2:=Int.mul_le_mul_of_nonneg_right h2 (Int.le_of_lt ha)
 refine Int.le_of_mul_le_mul_right (a:=b.den) ?_ hb
 grind
def lcS (g:Sl Gate) (i:Nat) (p:Int) (k:Nat):straight:=thr (g.get i).Z p (g.get k).Z (if (g.get k).Z > (g.get i).Z then (g.get k).Low else (g.get k).High)
def ucS (g:Sl Gate) (i:Nat) (p:Int) (k:Nat):straight:=thr (g.get i).Z p (g.get k).Z (if (g.get k).Z > (g.get i).Z then (g.get k).High else (g.get k).Low)
theorem zow {g:Sl Gate}{i k:Nat}{p:Int}{c:straight}(he:plc c (g.get i).Z=p * c.den) (hz:(g.get k).Z ≠ (g.get i).Z):zlU c (g.get k)=true↔leS (lcS g i p k) c/\leS c (ucS g i p k):=by
 unfold zlU leS lcS ucS thr
 rw[decide_eq_true_eq]
 unfold plc at *
 by_cases h:(g.get k).Z > (g.get i).Z
 ·simp only [dqP h, dqG (show ¬ (g.get i).Z > (g.get k).Z by omega)]
  constructor
  ·intro ⟨h1,h2⟩;constructor <;> grind
  ·intro ⟨h1,h2⟩;constructor <;> grind
 ·simp only [dqG h, dqP (show (g.get i).Z > (g.get k).Z by omega)]
  constructor
  ·intro ⟨h1,h2⟩;constructor <;> grind
  ·intro ⟨h1,h2⟩;constructor <;> grind
theorem zA6 {z p y q:Int}(h:z ≠ y):0 < (thr z p y q).den:=by
 unfold thr
 by_cases h1:z > y
 ·rw[dqP h1];show 0 < z - y;omega
 ·rw[dqG h1];show 0 < y - z;omega
theorem zqc {g:Sl Gate}{i k:Nat}{p:Int}{s c:straight}(ps:0 < s.den) (pc:0 < c.den) (he:plc s (g.get i).Z=p * s.den) (hc:plc c (g.get i).Z=p * c.den) (hz:(g.get k).Z=(g.get i).Z) (h:zlU s (g.get k)=true):zlU c (g.get k)=true:=by
 unfold zlU at *
 rw[decide_eq_true_eq] at *
 rw[hz,he] at h
 rw[hz,hc]
 exact⟨Int.mul_le_mul_of_nonneg_right (Int.le_of_mul_le_mul_right h.1 ps) (Int.le_of_lt pc),Int.mul_le_mul_of_nonneg_right (Int.le_of_mul_le_mul_right h.2 ps) (Int.le_of_lt pc)⟩
theorem rot {g : Sl Gate} {s : straight} (hd : 0 < s.den) (ha : zfe g s) {i : Nat} (hi : i < g.len) {p : Int} (hp : p = (g.get i).Low ∨ p = (g.get i).High) (he : plc s (g.get i).Z = p * s.den) (hn : ∃ k, k < g.len ∧ (g.get k).Z ≠ (g.get i).Z) :
  (∃ c,Cor g c/\0 < c.den/\plc c (g.get i).Z=p * c.den/\leS c s)/\∃ c,Cor g c/\0 < c.den/\plc c (g.get i).Z=p * c.den/\leS s c:=by
 have ld:∀ k,(g.get k).Z ≠ (g.get i).Z->0 < (lcS g i p k).den:=λ k h=>zA6 (Ne.symm h)
 have ud:∀ k,(g.get k).Z ≠ (g.get i).Z->0 < (ucS g i p k).den:=λ k h=>zA6 (Ne.symm h)
 have le1:∀ k,(g.get k).Z ≠ (g.get i).Z->plc (lcS g i p k) (g.get i).Z=p * (lcS g i p k).den:=λ k h=>(zE3 (Ne.symm h)).1
 have ue1:∀ k,(g.get k).Z ≠ (g.get i).Z->plc (ucS g i p k) (g.get i).Z=p * (ucS g i p k).den:=λ k h=>(zE3 (Ne.symm h)).1
 have sp:∀ k,k < g.len->(g.get k).Z ≠ (g.get i).Z->leS (lcS g i p k) s/\leS s (ucS g i p k):=λ k hk hz=>(zow he hz).1 (ha k hk)
 constructor
 ·obtain ⟨k, hk, qk, hm⟩ := zlE (Q := fun k => (g.get k).Z ≠ (g.get i).Z) (le := fun a b => leS (lcS g i p a) (lcS g i p b)) (fun a b _ _ => Int.le_total _ _) (fun a b c ha hb hc h1 h2 => zvi (ld a ha) (ld b hb) (ld c hc) h1 h2) g.len hn
  refine⟨lcS g i p k,⟨zSd hi hk (Ne.symm qk) hp (by split <;> simp),λ j hj=>?_⟩,ld k qk,le1 k qk,(sp k hk qk).1⟩
  by_cases hz:(g.get j).Z=(g.get i).Z
  ·exact zqc hd (ld k qk) he (le1 k qk) hz (ha j hj)
  ·exact (zow (le1 k qk) hz).2 ⟨hm j hj hz,zvi (ld k qk) hd (ud j hz) (sp k hk qk).1 (sp j hj hz).2⟩
 ·obtain ⟨k, hk, qk, hm⟩ := zlE (Q := fun k => (g.get k).Z ≠ (g.get i).Z) (le := fun a b => leS (ucS g i p b) (ucS g i p a)) (fun a b _ _ => Int.le_total _ _) (fun a b c ha hb hc h1 h2 => zvi (ud c hc) (ud b hb) (ud a ha) h2 h1) g.len hn
  refine⟨ucS g i p k,⟨zSd hi hk (Ne.symm qk) hp (by split <;> simp),λ j hj=>?_⟩,ud k qk,ue1 k qk,(sp k hk qk).2⟩
  by_cases hz:(g.get j).Z=(g.get i).Z
  ·exact zqc hd (ud k qk) he (ue1 k qk) hz (ha j hj)
  ·exact (zow (ue1 k qk) hz).2 ⟨zvi (ld j hz) hd (ud k qk) (sp j hj hz).1 (sp k hk qk).2,hm j hj hz⟩
theorem zOc {g:Sl Gate}(hl:1<=g.len){s:straight}(ha:zfe g s):∃ d,0<=d/\zfe g ⟨s.slope,s.start - d,s.den⟩/\∃ i,i < g.len/\plc ⟨s.slope,s.start - d,s.den⟩ (g.get i).Z=(g.get i).Low * s.den:=by
 obtain⟨k,hk,_,hm⟩:=zlE (Q:=λ _=>True) (le:=λ a b=>plc s (g.get b).Z - (g.get b).Low * s.den<=plc s (g.get a).Z - (g.get a).Low * s.den) (λ a b _ _=>Int.le_total _ _) (λ a b c _ _ _ h1 h2=>Int.le_trans h2 h1) g.len ⟨0,hl,trivial⟩
 have hk2:=zov ha hk
 refine⟨plc s (g.get k).Z - (g.get k).Low * s.den,by omega,λ j hj=>dqT ?_,k,hk,by unfold plc;simp only;omega⟩
 have h1:=hm j hj trivial
 have h2:=zov ha hj
 unfold plc at *
 simp only
 omega
theorem zOd {g:Sl Gate}(hl:1<=g.len){s:straight}(ha:zfe g s):∃ d,0<=d/\zfe g ⟨s.slope,s.start+d,s.den⟩/\∃ i,i < g.len/\plc ⟨s.slope,s.start+d,s.den⟩ (g.get i).Z=(g.get i).High * s.den:=by
 obtain⟨k,hk,_,hm⟩:=zlE (Q:=λ _=>True) (le:=λ a b=>(g.get b).High * s.den - plc s (g.get b).Z<=(g.get a).High * s.den - plc s (g.get a).Z) (λ a b _ _=>Int.le_total _ _) (λ a b c _ _ _ h1 h2=>Int.le_trans h2 h1) g.len ⟨0,hl,trivial⟩
 have hk2:=zov ha hk
 refine⟨(g.get k).High * s.den - plc s (g.get k).Z,by omega,λ j hj=>dqT ?_,k,hk,by unfold plc;simp only;omega⟩
 have h1:=hm j hj trivial
 have h2:=zov ha hj
 unfold plc at *
 simp only
 omega
theorem zvj {g:Sl Gate}(nf : ¬ zor g) (i:Nat) (hi:i < g.len):∃ k,k < g.len/\(g.get k).Z ≠ (g.get i).Z:=by
 by_cases h:∃ k,k < g.len/\(g.get k).Z ≠ (g.get i).Z
 ·exact h
 ·have all : ∀ k, k < g.len → (g.get k).Z = (g.get i).Z := fun k hk => Classical.byContradiction fun e => h ⟨k, hk, e⟩
  exact absurd (λ k hk=>(all k hk).trans (all 0 (by omega)).symm) nf
theorem zA7 {a b:straight}{z p h:Int}(ha:plc a z=p * a.den) (hb:plc b z=p * b.den) (hs:leS a b) (hh:z<=h):plc a h * b.den<=plc b h * a.den:=by
 have y:=Int.mul_le_mul_of_nonneg_right hs (show 0<=h - z by omega)
 unfold plc at *
 have e1:a.start=p * a.den - a.slope * z:=by omega
 have e2:b.start=p * b.den - b.slope * z:=by omega
 rw[e1,e2]
 clear ha hb hs e1 e2
 grind
theorem zA8 {a b:straight}{z p h:Int}(ha:plc a z=p * a.den) (hb:plc b z=p * b.den) (hs:leS a b) (hh:h<=z):plc b h * a.den<=plc a h * b.den:=by
 have y:=Int.mul_le_mul_of_nonneg_right hs (show 0<=z - h by omega)
 unfold plc at *
 have e1:a.start=p * a.den - a.slope * z:=by omega
 have e2:b.start=p * b.den - b.slope * z:=by omega
 rw[e1,e2]
 clear ha hb hs e1 e2
 grind
theorem lp {g : Sl Gate} (hl : 1 ≤ g.len) (nf : ¬ zor g) {s : straight} (hd : 0 < s.den) (ha : zfe g s) :
  (∀ h,(∃ c,Cor g c/\plc c h * s.den<=plc s h * c.den)/\∃ c,Cor g c/\plc s h * c.den<=plc c h * s.den)/\(∃ c,Cor g c/\leS c s)/\∃ c,Cor g c/\leS s c:=by
 obtain⟨d,d0,da,i,hi,di⟩:=zOc hl ha
 obtain⟨e,e0,ea,j,hj,ej⟩:=zOd hl ha
 obtain⟨⟨c1,c1c,c1d,c1p,c1s⟩,⟨c2,c2c,c2d,c2p,c2s⟩⟩:=rot (s:=⟨s.slope,s.start - d,s.den⟩) hd da hi (.inl rfl) di (zvj nf i hi)
 obtain⟨⟨f1,f1c,f1d,f1p,f1s⟩,⟨f2,f2c,f2d,f2p,f2s⟩⟩:=rot (s:=⟨s.slope,s.start+e,s.den⟩) hd ea hj (.inr rfl) ej (zvj nf j hj)
 have lo:∀ {c:straight} {h:Int},0 < c.den->plc c h * s.den<=plc ⟨s.slope,s.start - d,s.den⟩ h * c.den->plc c h * s.den<=plc s h * c.den:=fun {c h} pc k=>by
  have:=Int.mul_nonneg d0 (Int.le_of_lt pc)
  unfold plc at *
  simp only at k
  grind
 have hi':∀ {c:straight} {h:Int},0 < c.den->plc ⟨s.slope,s.start+e,s.den⟩ h * c.den<=plc c h * s.den->plc s h * c.den<=plc c h * s.den:=fun {c h} pc k=>by
  have:=Int.mul_nonneg e0 (Int.le_of_lt pc)
  unfold plc at *
  simp only at k
  grind
 refine⟨λ h=>⟨?_,?_⟩,⟨c1,c1c,c1s⟩,⟨c2,c2c,c2s⟩⟩
 ·rcases Int.le_total (g.get i).Z h with k | k
  ·exact⟨c1,c1c,lo c1d (zA7 (b:=⟨s.slope,s.start - d,s.den⟩) c1p di c1s k)⟩
  ·exact⟨c2,c2c,lo c2d (zA8 (a:=⟨s.slope,s.start - d,s.den⟩) di c2p c2s k)⟩
 ·rcases Int.le_total (g.get j).Z h with k | k
  ·exact⟨f2,f2c,hi' f2d (zA7 (a:=⟨s.slope,s.start+e,s.den⟩) ej f2p f2s k)⟩
  ·exact⟨f1,f1c,hi' f1d (zA8 (b:=⟨s.slope,s.start+e,s.den⟩) f1p ej f1s k)⟩
end Go.Proofs
namespace Go.Proofs
open Go Go.Pm
set_option maxRecDepth 100000
theorem zE4 {g:Sl Gate}{F:straight->Frac}(hF:∀ s,Cor g s->FOK (F s)) {lo hi:Frac}(h:BdL g F lo hi):FOK lo/\FOK hi:=by
 obtain⟨⟨⟨s,hs,e1⟩,_⟩,⟨t,ht,e2⟩,_⟩:=h
 exact⟨e1 ▸ ztj (hF s hs),e2 ▸ ztj (hF t ht)⟩
theorem zRl {g : Sl Gate} (G : zcc g) (nf : ¬ zor g) {F : straight → Frac} (hF : ∀ s, Cor g s → FOK (F s)) {lo hi : Frac} (B : BdL g F lo hi) {x : Frac} (px : 0 < x.Den)
    (h1:∃ c,Cor g c/\¬ ltF x (F c)) (h2:∃ c,Cor g c/\¬ ltF (F c) x) : ¬ ltF x lo/\¬ ltF hi x:=by
  obtain⟨c,hc,kc⟩:=h1
  obtain⟨d,hd,kd⟩:=h2
  obtain⟨fl,fh⟩:=zE4 hF B
  have pc:=(hF c hc).2;have pd:=(hF d hd).2;have pl:=fl.2;have ph:=fh.2
  exact⟨zgR (b:=F c) (by omega) (by omega) (by omega) (B.1.2 c hc) kc,zgR (b:=F d) (by omega) (by omega) (by omega) kd (B.2.2 d hd)⟩
theorem zRm {g:Sl Gate}(G:zcc g) (nf : ¬ zor g){s:straight}(S:SOK s) (ha:zfe g s){h:Int}(hz : -200000<=h/\h<=200000){lo hi:Frac}(B:BdL g (plF h) lo hi) : ¬ ltF (plF h s) lo/\¬ ltF hi (plF h s):=by
 have hd:0 < s.den:=by have:=S.2.2;omega
 obtain⟨⟨c,hc,kc⟩,d,hd2,kd⟩:=(lp G.2.1 nf hd ha).1 h
 exact zRl G nf (λ s hs=>zvh (zms G hs) hz) B hd ⟨c,hc,by unfold ltF;simp only;omega⟩ ⟨d,hd2,by unfold ltF;simp only;omega⟩
def zE5 (z x w y:Int):Prop:=(0<=z/\z<=100000)/\(0<=w/\w<=100000)/\z ≠ w/\(-1000000<=x/\x<=1000000)/\-1000000<=y/\y<=1000000
theorem zJW {z x w y:Int}(E:zE5 z x w y):p17 z x w y=true/\s17 z x w y=toL (thr z x w y)/\SOK (thr z x w y):=by
 obtain⟨e1,e2,e3,e4,e5⟩:=E
 obtain⟨a,b⟩:=zN3 e1 e2 e4 e5 e3
 exact⟨a,b,zE0 e1 e2 e4 e5 e3⟩
end Go.Proofs
namespace Go.Proofs
open Go Go.Pm
set_option maxRecDepth 100000
end Go.Proofs
namespace Go.Proofs
open Go Go.Pm
set_option maxRecDepth 100000
set_option linter.unusedVariables false
theorem zJX (g:Sl Gate) (G:zcc g):∃ C,p68 g=true/\s68 g=⟨⟨g⟩,lst C⟩/\CorL g C:=by
 obtain⟨C,c1,c2,c3,c4,c5⟩:=zDq g G
 refine⟨C,c1,c2,⟨?_,λ s hs=>c3 s hs,λ s hs=>c4 s hs.1 hs.2⟩⟩
 have key:∀ (l:List straight),l.Pairwise (λ x y=>toL x ≠ toL y)->(∀ s∈l,s∈cst g)->l.length<=((cst g).map toL).length:=by
  intro l hp hs
  have hn:(l.map λ s=>zj0 (toL s)).Nodup:=List.pairwise_map.2 (hp.imp λ h e=>h (zqa e))
  have:=zmt _ ((cst g).map λ s=>zj0 (toL s)) hn (λ x hx=>by
   obtain⟨s,hs1,rfl⟩:=dqz.1 hx
   exact dqz.2 ⟨s,hs s hs1,rfl⟩)
  rw[List.length_map,List.length_map] at this;rw[List.length_map];exact this
 have:=key C c5 (λ s hs=>(c3 s hs).1)
 have:=zA1 G
 rw[List.length_map] at *
 omega
theorem zRn {g : Sl Gate} (G : zcc g) (hf : s16 g = false) {s : straight} (S : SOK s) (ha : zfe g s) {z : Int} (hz : -100000 ≤ z ∧ z ≤ 200000) :
  p21 g z=true/\∃ lo hi,s21 g z=(lo,hi,0)/\FOK lo/\FOK hi/\¬ ltF (plF z s) lo/\¬ ltF hi (plF z s):=by
 have hl:=G.2
 have nf:=zv7 G hf
 obtain⟨v1,v2⟩:=zN1 g (by omega)
 have v2:=v2.2 G
 obtain⟨C,c1,c2,H⟩:=zJX g G
 obtain⟨f1,f2,f3⟩:=zJV g G
 obtain⟨a1,a2⟩:=zN7 g G
 have hd:0 < s.den:=by have:=S.2.2;omega
 have hc:∃ c,Cor g c:=by
  obtain⟨_,⟨c,hc,_⟩,_⟩:=lp G.2.1 nf hd ha
  exact⟨c,hc⟩
 have h1:=(zJQ H).2 hc
 have h1':1<=C.length:=h1
 obtain⟨b1,b2⟩:=zOb G H h1 (z:=z) (by omega)
 have e70:s70 (⟨g⟩:list)=false:=f3.trans hf
 have hlen:(lst C).len=C.length:=zlD C
 have p69':p69 (s68 g)=true:=by
  rw[c2];unfold p69
  show (decide (p71 (⟨g⟩:list)=true) && (decide (p70 (⟨g⟩:list)=true) && true))=true
  rw[a1,f1];rfl
 have s69':s69 (s68 g)=true:=by
  rw[c2];unfold s69
  show cond (s70 (⟨g⟩:list)) _ (decide (((lst C).len:Int) > (0:Int)))=true
  rw[e70,dqB];exact dqT (by omega)
 have p48':p48 z g=true:=by
  unfold p48 zsa
  rw[v1,v2,c1,p69',s69',c2]
  show (true && cond false true (true && (true && cond false true (decide (p70 (⟨g⟩:list)=true) && cond (s70 (⟨g⟩:list)) _ true))))=true
  rw[f1,e70];rfl
 have s48':s48 z g=(s68 g,0):=by
  unfold s48 zr9
  rw[v2,s69',c2]
  show cond false _ (cond false _ (cond (s70 (⟨g⟩:list)) _ ((⟨⟨g⟩,lst C⟩:set),(0:Int))))=_
  rw[e70];rfl
 have p50':p50 (⟨⟨g⟩,lst C⟩:set) z=true:=by
  unfold p50
  show (decide (p70 (⟨g⟩:list)=true) && cond (s70 (⟨g⟩:list)) _ (decide (p73 z ⟨⟨g⟩,lst C⟩=true) && true))=true
  rw[f1,e70,b1];rfl
 have s50':s50 (⟨⟨g⟩,lst C⟩:set) z=s73 z ⟨⟨g⟩,lst C⟩:=by
  unfold s50
  show cond (s70 (⟨g⟩:list)) _ ((s73 z ⟨⟨g⟩,lst C⟩).1,(s73 z ⟨⟨g⟩,lst C⟩).2)=_
  rw[e70];rfl
 obtain⟨i1,i2⟩:=zRm G nf S ha (h:=z) (by omega) b2
 obtain⟨o1,o2⟩:=zE4 (λ s hs=>zvh (zms G hs) (z:=z) (by omega)) b2
 have r:s47 z (-100000:Int) (200000:Int)=true:=by rw[zu7];exact dqT hz
 generalize hB:s73 z ⟨⟨g⟩,lst C⟩=B at *
 refine⟨?_,B.1,B.2,?_,o1,o2,i1,i2⟩
 ·unfold p21 zsr zsp zsn zsl
  rw[r,p48',s48',c2]
  show cond (!true) true (true && cond ((0:Int) != 0) true (decide (p50 (⟨⟨g⟩,lst C⟩:set) z=true) && true))=true
  rw[p50'];rfl
 ·unfold s21 zsq zso zsm zsk zsj
  rw[r,s48',c2]
  show cond (!true) _ (cond ((0:Int) != 0) _ ((s50 (⟨⟨g⟩,lst C⟩:set) z).1,(s50 (⟨⟨g⟩,lst C⟩:set) z).2,(0:Int)))=_
  rw[s50'];rfl
theorem ztl {f:Frac}(h1 : -1000000000000<=f.Num/\f.Num<=1000000000000) (h2:1<=f.Den/\f.Den<=100000):p19 f=true/\s19 f * f.Den<=f.Num/\f.Num < (s19 f+1) * f.Den/\-1000000000001<=s19 f/\s19 f<=1000000000000:=by
 have hq:f.Num.tdiv f.Den=if 0<=f.Num then f.Num / f.Den else -((-f.Num) / f.Den):=by
  split
  ·rename_i h;exact Int.tdiv_eq_ediv_of_nonneg h
  ·rename_i h
   conv=>lhs;rw[show f.Num = -(-f.Num) by omega,Int.neg_tdiv,Int.tdiv_eq_ediv_of_nonneg (show 0<=-f.Num by omega)]
 have key:∀ n:Int,0<=n->n / f.Den * f.Den<=n/\n < (n / f.Den+1) * f.Den/\0<=n / f.Den/\n / f.Den<=n:=λ n hn=>by
  have a:=Int.ediv_mul_le n (show f.Den ≠ 0 by omega)
  have b:=Int.lt_ediv_add_one_mul_self n (show 0 < f.Den by omega)
  have c:0<=n / f.Den:=Int.ediv_nonneg hn (by omega)
  have d:=Int.mul_le_mul_of_nonneg_left (show 1<=f.Den from h2.1) c
  exact⟨a,b,c,by omega⟩
 constructor
 ·unfold p19
  rw[dqT (show f.Den ≠ 0 by omega)];rfl
 ·unfold s19
  by_cases h:0<=f.Num
  ·rw [dqP h] at hq
   obtain⟨a,b,c,d⟩:=key f.Num h
   rw[hq,zay (x:=f.Num / f.Den) (by omega) (by omega),zay (x:=f.Num / f.Den * f.Den) (by have:=Int.mul_nonneg c (show 0<=f.Den by omega);omega) (by omega),dqF (by omega),dqB]
   exact⟨a,b,by omega,by omega⟩
  ·rw [dqG h] at hq
   obtain⟨a,b,c,d⟩:=key (-f.Num) (by omega)
   rw[hq,zay (x:=-(-f.Num / f.Den)) (by omega) (by omega),Int.neg_mul]
   have hm:=Int.mul_nonneg c (show 0<=f.Den by omega)
   rw[Int.add_mul,Int.one_mul] at b
   generalize hk : -f.Num / f.Den * f.Den=k at *
   rw[zay (x:=-k) (by omega) (by omega)]
   by_cases e : -k > f.Num
   ·rw [dqT e, dqA, zay (x := -(-f.Num / f.Den) - 1) (by omega) (by omega), show -(-f.Num / f.Den) - 1 + 1 = -(-f.Num / f.Den) by omega, Int.sub_mul, Int.neg_mul, hk, Int.one_mul]
    exact⟨by omega,by omega,by omega,by omega⟩
   ·rw [dqF e, dqB, Int.add_mul, Int.neg_mul, hk, Int.one_mul]
    exact⟨by omega,by omega,by omega,by omega⟩
end Go.Proofs
namespace Go.Proofs
open Go Go.Pm
set_option maxRecDepth 100000
theorem zqd (n a b:Int):s31 n a b=decide (a<=n/\n<=b):=by
 unfold s31
 by_cases h:a<=n
 ·rw[dqT (show n >= a from h),dqA];exact decide_eq_decide.2 ⟨λ k=>⟨h,k⟩,λ k=>k.2⟩
 ·rw[dqF (show ¬ n >= a from h),dqB];exact (dqF (λ k=>h k.1)).symm
theorem zE6 (n:Net) (hn:n.Ties.len<=9223372036854775807):p32 n=true/\(s32 n=true↔(∀ i,i < n.Ties.len->s59 (n.Ties.get i) n.Nodes=true)/\(1<=n.Nodes/\n.Nodes<=40)/\n.Ties.len<=200):=by
  have := zih (good := fun i => s59 (n.Ties.get i) n.Nodes) (fin := cond (s31 n.Nodes (1:Int) (40:Int)) (decide ((n.Ties.len : Int) ≤ (200:Int))) false) (n := n.Ties.len) (lpS := ziD n) (lpP := ziE n)
    (λ k i hi=>by
      show ziB n (ziD n k) (i:Int)=_
      generalize ziD n k=S
      unfold ziB zrd
      rw[dqT (show (i:Int) < (n.Ties.len:Int) by omega),dqA,dqN]
      cases s59 (n.Ties.get i) n.Nodes <;> rfl)
    (λ k=>by
      show ziB n (ziD n k) (n.Ties.len:Int)=_
      unfold ziB
      rw[dqF (show ¬ (n.Ties.len:Int) < (n.Ties.len:Int) by omega),dqB])
    (λ k i hi=>by
      show ziC n (ziE n k) (i:Int)=_
      generalize ziE n k=S
      unfold ziC zre
      rw[dqT (show (i:Int) < (n.Ties.len:Int) by omega),dqA,dqN,dqT (show 0<=(i:Int)/\(i:Int) < (n.Ties.len:Int) by omega),Bool.true_and]
      cases s59 (n.Ties.get i) n.Nodes <;> rfl)
    (λ k=>by
      show ziC n (ziE n k) (n.Ties.len:Int)=_
      unfold ziC
      rw[dqF (show ¬ (n.Ties.len:Int) < (n.Ties.len:Int) by omega),dqB])
    hn
  refine⟨this.1,this.2.trans ?_⟩
  rw[zqd]
  by_cases h:1<=n.Nodes/\n.Nodes<=40
  · rw[dqT h,dqA,decide_eq_true_eq];exact⟨λ k=>⟨k.1,h,by omega⟩,λ k=>⟨k.1,by omega⟩⟩
  · rw[dqF h,dqB];exact⟨λ k=>absurd k.2 (by decide),λ k=>absurd k.2.1 h⟩
end Go.Proofs
namespace Go.Proofs
open Go Go.Pm
set_option maxRecDepth 100000
set_option linter.unusedVariables false
theorem dlt (x y:Int):decide (x < y) = !decide (x >= y):=by
 by_cases h:x < y
 ·rw[dqT h,dqF (show ¬ x >= y by omega)];rfl
 ·rw[dqF h,dqT (show x >= y by omega)];rfl
theorem dgt (x y:Int):decide (x > y) = !decide (x<=y):=by
 by_cases h:x > y
 ·rw[dqT h,dqF (show ¬ x<=y by omega)];rfl
 ·rw[dqF h,dqT (show x<=y by omega)];rfl
structure TieOk (t : Tie) (nodes : Int) : Prop where
  f0:0<=t.From
  f1:t.From < nodes
  t0:0<=t.To
  t1:t.To < nodes
  ne:t.From ≠ t.To
  lo:t.Low = -1000000000000\/(-1000000000<=t.Low/\t.Low<=1000000000)
  hi:t.High=1000000000000\/(-1000000000<=t.High/\t.High<=1000000000)
  le:t.Low<=t.High
theorem zA9 (t:Tie) (nodes:Int) (h1:1<=nodes) (h2:nodes<=40):s59 t nodes=true↔TieOk t nodes:=by
 have e:s59 t nodes=(decide (0<=t.From/\t.From < nodes) && (decide (0<=t.To/\t.To < nodes) && (!(t.From == t.To) && (((t.Low == (-1000000000000:Int)) || decide (-1000000000<=t.Low/\t.Low<=1000000000)) && (((t.High == (1000000000000:Int)) || decide (-1000000000<=t.High/\t.High<=1000000000)) && decide (t.Low<=t.High)))))):=by
  unfold s59 znq znp
  rw[zay (x:=nodes - 1) (by omega) (by omega)]
  simp only[zqd]
  rw[decide_eq_decide.2 (show (0<=t.From/\t.From<=nodes - 1)↔(0<=t.From/\t.From < nodes) by omega),decide_eq_decide.2 (show (0<=t.To/\t.To<=nodes - 1)↔(0<=t.To/\t.To < nodes) by omega)]
  simp only[bne]
  generalize decide (0<=t.From/\t.From < nodes)=a
  generalize decide (0<=t.To/\t.To < nodes)=b
  generalize (t.From == t.To)=c
  generalize (t.Low == (-1000000000000:Int))=d
  generalize (t.High == (1000000000000:Int))=e
  generalize decide (-1000000000<=t.Low/\t.Low<=1000000000)=f
  generalize decide (-1000000000<=t.High/\t.High<=1000000000)=g
  generalize decide (t.Low<=t.High)=h
  cases a <;> cases b <;> cases c <;> cases d <;> cases e <;> cases f <;> cases g <;> cases h <;> rfl
 rw[e]
 simp only[dqm,Bool.or_eq_true,decide_eq_true_eq,Bool.not_eq_true',dqU,beq_iff_eq]
 constructor
 ·rintro⟨⟨a,b⟩,⟨c,d⟩,e,f,g,h⟩;exact⟨a,b,c,d,e,f,g,h⟩
 ·rintro⟨a,b,c,d,e,f,g,h⟩;exact⟨⟨a,b⟩,⟨c,d⟩,e,f,g,h⟩
structure NetOk (n : Net) : Prop where
  n1:1<=n.Nodes
  n40:n.Nodes<=40
  len:n.Ties.len<=200
  tie:∀ i,i < n.Ties.len->TieOk (n.Ties.get i) n.Nodes
theorem zBa (n:Net) (hn:n.Ties.len<=9223372036854775807):p32 n=true/\(s32 n=true↔NetOk n):=by
 obtain⟨h1,h2⟩:=zE6 n hn
 refine⟨h1,h2.trans ?_⟩
 constructor
 ·rintro⟨a,⟨b,c⟩,d⟩;exact⟨b,c,by omega,λ i hi=>(zA9 _ _ b c).1 (a i hi)⟩
 ·rintro⟨b,c,d,a⟩;exact⟨λ i hi=>(zA9 _ _ b c).2 (a i hi),⟨b,c⟩,by omega⟩
structure ValOk (n : Net) (v : Sl Int) : Prop where
  len:(v.len:Int)=n.Nodes
  zero:v.get 0=0
  b:∀ i,i < v.len->-1000000000000<=v.get i/\v.get i<=1000000000000
def Keep (t:Tie) (v:Sl Int):Prop:=(t.Low = -1000000000000\/t.Low<=v.get t.To.toNat - v.get t.From.toNat)/\(t.High=1000000000000\/v.get t.To.toNat - v.get t.From.toNat<=t.High)
structure AgOk (n : Net) (v : Sl Int) : Prop where
  val:ValOk n v
  keep:∀ i,i < n.Ties.len->Keep (n.Ties.get i) v
def kpB (t:Tie) (zaf:Sl Int):Bool :=
  (cond (t.Low == (-1000000000000:Int))
   (cond (t.High == (1000000000000:Int))
    true
    (decide ((w64 ((zaf.get t.To.toNat) - (zaf.get t.From.toNat)))<=t.High)))
   (cond (decide ((w64 ((zaf.get t.To.toNat) - (zaf.get t.From.toNat))) ≥ t.Low))
    (cond (t.High == (1000000000000:Int))
     true
     (decide ((w64 ((zaf.get t.To.toNat) - (zaf.get t.From.toNat)))<=t.High)))
    false))
theorem zBb (t:Tie) (n:Net) (v:Sl Int) (ht:TieOk t n.Nodes) (hv:ValOk n v):kpB t v=true↔Keep t v:=by
 have h1:=hv.b t.To.toNat (by have:=ht.t0;have:=ht.t1;have:=hv.len;omega)
 have h2:=hv.b t.From.toNat (by have:=ht.f0;have:=ht.f1;have:=hv.len;omega)
 have:=ht.f0;have:=ht.f1;have:=ht.t0;have:=ht.t1;have:=hv.len
 ·unfold kpB Keep
  rw[zay (by omega) (by omega)]
  by_cases a:t.Low = -1000000000000
  ·rw [show (t.Low == (-1000000000000:Int)) = true from beq_iff_eq.2 a, dqA]
   by_cases b:t.High=1000000000000
   ·rw[show (t.High == (1000000000000:Int))=true from beq_iff_eq.2 b,dqA];exact⟨λ _=>⟨.inl a,.inl b⟩,λ _=>rfl⟩
   ·rw[show (t.High == (1000000000000:Int))=false from dqU.2 b,dqB,decide_eq_true_eq];exact⟨λ h=>⟨.inl a,.inr h⟩,λ h=>h.2.resolve_left b⟩
  ·rw [show (t.Low == (-1000000000000:Int)) = false from dqU.2 a, dqB]
   by_cases c:t.Low<=v.get t.To.toNat - v.get t.From.toNat
   ·rw [dqT (show v.get t.To.toNat - v.get t.From.toNat ≥ t.Low from c), dqA]
    by_cases b:t.High=1000000000000
    ·rw[show (t.High == (1000000000000:Int))=true from beq_iff_eq.2 b,dqA];exact⟨λ _=>⟨.inr c,.inl b⟩,λ _=>rfl⟩
    ·rw[show (t.High == (1000000000000:Int))=false from dqU.2 b,dqB,decide_eq_true_eq];exact⟨λ h=>⟨.inr c,.inr h⟩,λ h=>h.2.resolve_left b⟩
   ·rw [dqF (show ¬ v.get t.To.toNat - v.get t.From.toNat ≥ t.Low from c), dqB]
    exact⟨λ h=>absurd h dqk,λ h=>absurd (h.1.resolve_left a) c⟩
theorem zJY (n:Net) (v:Sl Int) (hn:NetOk n) (hg:s32 n=true) (hv:v.len<=9223372036854775807):p12 n v=true/\(s12 n v=true↔AgOk n v):=by
  have hlen:=hn.len
  have h1:=hn.n1
  unfold p12 s12
  rw[hg,(zE6 n (by omega)).1]
  by_cases a:(v.len:Int)=n.Nodes
  · rw [show ((v.len : Int) != n.Nodes) = false by rw [a]; exact bne_self_eq_false _]
    by_cases b:v.get 0=0
    · rw [show (v.get 0 != (0:Int)) = false by rw [b]; rfl, dqT (show 0 ≤ (0:Int) ∧ (0:Int) < (v.len : Int) by omega)]
      have key:(∀ i,i < v.len->-1000000000000<=v.get i/\v.get i<=1000000000000)->znx n v=true/\(zlm n v=true↔∀ i,i < n.Ties.len->Keep (n.Ties.get i) v):=λ hb=>by
        have hV:ValOk n v:=⟨a,b,hb⟩
        have hl := zih (good := fun i => kpB (n.Ties.get i) v) (fin := true) (n := n.Ties.len) (lpS := ziI n v) (lpP := ziJ n v)
          (λ k i hi=>by
            show ziG n v (ziI n v k) (i:Int)=_
            generalize ziI n v k=S
            unfold ziG kpB
            rw[dqT (show (i:Int) < (n.Ties.len:Int) by omega),dqA,dqN]
            simp only[bne,dlt,dgt];cases (n.Ties.get i).Low == (-1000000000000:Int) <;> cases (n.Ties.get i).High == (1000000000000:Int) <;> cases decide (w64 (v.get (n.Ties.get i).To.toNat - v.get (n.Ties.get i).From.toNat) >= (n.Ties.get i).Low) <;> cases decide (w64 (v.get (n.Ties.get i).To.toNat - v.get (n.Ties.get i).From.toNat)<=(n.Ties.get i).High) <;> rfl)
          (λ k=>by
            show ziG n v (ziI n v k) (n.Ties.len:Int)=_
            unfold ziG
            rw[dqF (show ¬ (n.Ties.len:Int) < (n.Ties.len:Int) by omega),dqB])
          (λ k i hi=>by
            show ziH n v (ziJ n v k) (i:Int)=_
            generalize ziJ n v k=S
            unfold ziH kpB
            rw[dqT (show (i:Int) < (n.Ties.len:Int) by omega),dqA,dqN,dqT (show 0<=(i:Int)/\(i:Int) < (n.Ties.len:Int) by omega),Bool.true_and,dqT (show 0<=(n.Ties.get i).To/\(n.Ties.get i).To < (v.len:Int) from ⟨(hn.tie i hi).t0,by rw[a];exact (hn.tie i hi).t1⟩),dqT (show 0<=(n.Ties.get i).From/\(n.Ties.get i).From < (v.len:Int) from ⟨(hn.tie i hi).f0,by rw[a];exact (hn.tie i hi).f1⟩),Bool.true_and,Bool.true_and]
            simp only[bne,dlt,dgt];cases (n.Ties.get i).Low == (-1000000000000:Int) <;> cases (n.Ties.get i).High == (1000000000000:Int) <;> cases decide (w64 (v.get (n.Ties.get i).To.toNat - v.get (n.Ties.get i).From.toNat) >= (n.Ties.get i).Low) <;> cases decide (w64 (v.get (n.Ties.get i).To.toNat - v.get (n.Ties.get i).From.toNat)<=(n.Ties.get i).High) <;> rfl)
          (λ k=>by
            show ziH n v (ziJ n v k) (n.Ties.len:Int)=_
            unfold ziH
            rw[dqF (show ¬ (n.Ties.len:Int) < (n.Ties.len:Int) by omega),dqB])
          (by omega)
        exact⟨hl.1,hl.2.trans ⟨λ h i hi=>(zBb _ n v (hn.tie i hi) hV).1 (h.1 i hi),λ h=>⟨λ i hi=>(zBb _ n v (hn.tie i hi) hV).2 (h i hi),rfl⟩⟩⟩
      by_cases hb:∀ i,i < v.len->-1000000000000<=v.get i/\v.get i<=1000000000000
      · obtain ⟨k1, k2⟩ := key hb
        have hl := zih (good := fun i => s31 (v.get i) (-1000000000000:Int) (1000000000000:Int)) (fin := zlm n v) (n := v.len) (lpS := ze0 n v) (lpP := ze1 n v)
          (λ k i hi=>by
            show zeY n v (ze0 n v k) (i:Int)=_
            generalize ze0 n v k=S
            unfold zeY zny
            rw[dqT (show (i:Int) < (v.len:Int) by omega),dqA,dqN]
            cases s31 (v.get i) (-1000000000000:Int) (1000000000000:Int) <;> rfl)
          (λ k=>by
            show zeY n v (ze0 n v k) (v.len:Int)=_
            unfold zeY
            rw[dqF (show ¬ (v.len:Int) < (v.len:Int) by omega),dqB])
          (λ k i hi=>by
            show zeZ n v (ze1 n v k) (i:Int)=_
            generalize ze1 n v k=S
            unfold zeZ znz
            rw[dqT (show (i:Int) < (v.len:Int) by omega),dqA,dqN,dqT (show 0<=(i:Int)/\(i:Int) < (v.len:Int) by omega),Bool.true_and]
            cases s31 (v.get i) (-1000000000000:Int) (1000000000000:Int) <;> rfl)
          (λ k=>by
            show zeZ n v (ze1 n v k) (v.len:Int)=_
            unfold zeZ
            rw[dqF (show ¬ (v.len:Int) < (v.len:Int) by omega),dqB];exact k1)
          hv
        refine⟨by unfold ziL znD znB;rw[hl.1];rfl,?_⟩
        unfold ziK znC znA
        refine Iff.trans (Iff.trans (by rfl) hl.2) ?_
        rw[k2]
        exact⟨λ h=>⟨⟨a,b,hb⟩,h.2⟩,λ h=>⟨λ i hi=>by rw[zqd];exact dqT (hb i hi),h.keep⟩⟩
      · have hb' : ¬ ∀ i, i < v.len → s31 (v.get i) (-1000000000000:Int) (1000000000000:Int) = true := fun h => hb fun i hi => by have := h i hi; rw [zqd] at this; exact of_decide_eq_true this
        have hl := zAV (good := fun i => s31 (v.get i) (-1000000000000:Int) (1000000000000:Int)) (bad := false) (fin := zlm n v) (finP := znx n v) (n := v.len) (lpS := ze0 n v) (lpP := ze1 n v)
          (λ k i hi=>by
            show zeY n v (ze0 n v k) (i:Int)=_
            generalize ze0 n v k=S
            unfold zeY zny
            rw[dqT (show (i:Int) < (v.len:Int) by omega),dqA,dqN]
            cases s31 (v.get i) (-1000000000000:Int) (1000000000000:Int) <;> rfl)
          (λ k=>by
            show zeY n v (ze0 n v k) (v.len:Int)=_
            unfold zeY
            rw[dqF (show ¬ (v.len:Int) < (v.len:Int) by omega),dqB])
          (λ k i hi=>by
            show zeZ n v (ze1 n v k) (i:Int)=_
            generalize ze1 n v k=S
            unfold zeZ znz
            rw[dqT (show (i:Int) < (v.len:Int) by omega),dqA,dqN,dqT (show 0<=(i:Int)/\(i:Int) < (v.len:Int) by omega),Bool.true_and]
            cases s31 (v.get i) (-1000000000000:Int) (1000000000000:Int) <;> rfl)
          (λ k=>by
            show zeZ n v (ze1 n v k) (v.len:Int)=_
            unfold zeZ
            rw[dqF (show ¬ (v.len:Int) < (v.len:Int) by omega),dqB])
          hv
        obtain⟨k1,k2⟩:=hl.2 hb'
        refine⟨by unfold ziL znD znB;rw[k1];rfl,?_⟩
        unfold ziK znC znA
        rw[k2]
        exact⟨λ h=>absurd h dqk,λ h=>absurd h.val.b hb⟩
    · rw [show (v.get 0 != (0:Int)) = true from bne_iff_ne.2 b, dqT (show 0 ≤ (0:Int) ∧ (0:Int) < (v.len : Int) by omega)]
      exact⟨rfl,λ h=>absurd h dqk,λ h=>absurd h.val.zero b⟩
  · rw [show ((v.len : Int) != n.Nodes) = true from bne_iff_ne.2 a]
    exact⟨rfl,λ h=>absurd h dqk,λ h=>absurd h.val.len a⟩
end Go.Proofs
namespace Go.Pm
structure Ed where
  u:Nat
  v:Nat
  w:Int
def wt : List Ed → Int
  | []=>0
  | e :: l=>e.w+wt l
theorem zmw (c d:List Ed):wt (c ++ d)=wt c+wt d:=by
 induction c with
 | nil=>show wt d=0+wt d;omega
 | cons e l ih=>show e.w+wt (l ++ d)=e.w+wt l+wt d;omega
theorem zqe (e:Ed):wt [e]=e.w:=Int.add_zero _
def zg9 (E : List Ed) : Nat → List Ed → Nat → Prop
  | a,[],b=>a=b
  | a,e :: l,b=>e∈E/\e.u=a/\zg9 E e.v l b
theorem zgS {E:List Ed}{c d:List Ed}{a b:Nat} : zg9 E a (c ++ d) b↔∃ m,zg9 E a c m/\zg9 E m d b:=by
 induction c generalizing a with
 | nil=>exact⟨λ h=>⟨a,rfl,h⟩,λ ⟨m,h1,h2⟩=>by cases h1;exact h2⟩
 | cons e l ih =>
  constructor
  ·rintro ⟨h1, h2, h3⟩
   obtain⟨m,k1,k2⟩:=ih.1 h3
   exact⟨m,⟨h1,h2,k1⟩,k2⟩
  ·rintro ⟨m, ⟨h1, h2, h3⟩, h4⟩
   exact⟨h1,h2,ih.2 ⟨m,h3,h4⟩⟩
theorem zil {E:List Ed}{e:Ed}(h:e∈E):zg9 E e.u [e] e.v:=⟨h,rfl,rfl⟩
def zcA (E:List Ed):Prop:=∀ a c,zg9 E a c a->0<=wt c
abbrev zdQ:=Nat->Option Int
def zvk (d:zdQ) (v:Nat) (x:Int):zdQ:=λ j=>if j=v then some x else d j
def ltO (x : Int) : Option Int → Bool
  | none=>true
  | some y=>decide (x < y)
def rlF (s:zdQ×Bool) (e:Ed):zdQ×Bool :=
 match s.1 e.u with
 | none=>s
 | some x=>cond (ltO (x+e.w) (s.1 e.v)) (zvk s.1 e.v (x+e.w),true) s
def Sat (d:zdQ) (e:Ed):Prop:=∀ x,d e.u=some x->∃ y,d e.v=some y/\y<=x+e.w
theorem zqf {x:Int}{o:Option Int}(h:ltO x o=false):∃ y,o=some y/\y<=x:=by
 cases o with
 | none=>cases h
 | some y=>exact⟨y,rfl,Int.not_lt.1 (of_decide_eq_false h)⟩
theorem zOe {x y:Int}(h:y<=x):ltO x (some y)=false:=dqF (Int.not_lt.2 h)
theorem zBc {d:zdQ}{c:Bool}{e:Ed}(h:Sat d e):rlF (d,c) e=(d,c):=by
 unfold rlF
 cases hu:d e.u with
 | none=>simp only[hu]
 | some x =>
  obtain⟨y,h1,h2⟩:=h x hu
  simp only[hu,h1,zOe h2,dqB]
theorem zJZ {d:zdQ}{c:Bool}{e:Ed}(h : ¬ Sat d e):(rlF (d,c) e).2=true:=by
 unfold rlF
 cases hu:d e.u with
 | none=>exact absurd (λ x hx=>by rw[hu] at hx;cases hx) h
 | some x =>
  simp only[hu]
  cases hl:ltO (x+e.w) (d e.v)
  ·obtain ⟨y, h1, h2⟩ := zqf hl
   exact absurd (λ x' hx'=>⟨y,h1,by rw[hu] at hx';cases hx';exact h2⟩) h
  ·rfl
theorem zDv {s:zdQ×Bool}{e:Ed}(h:s.2=true):(rlF s e).2=true:=by
 unfold rlF
 cases s.1 e.u with
 | none=>exact h
 | some x=>simp only[];cases ltO (x+e.w) (s.1 e.v) <;> first | exact h | rfl
theorem zBd {E:List Ed}{s:zdQ×Bool}(h:s.2=true):(E.foldl rlF s).2=true:=by
 induction E generalizing s with
 | nil=>exact h
 | cons e l ih=>exact ih (zDv h)
theorem zkn {E:List Ed}{d:zdQ}{c:Bool}(h:∀ e∈E,Sat d e):E.foldl rlF (d,c)=(d,c):=by
 induction E with
 | nil=>rfl
 | cons e l ih =>
  show l.foldl rlF (rlF (d,c) e)=_
  rw[zBc (h e (dqj ..))]
  exact ih λ e he=>h e (dqf _ he)
theorem zjB {E:List Ed}{d:zdQ}{c:Bool}(h:(E.foldl rlF (d,c)).2=false):∀ e∈E,Sat d e:=by
 induction E with
 | nil=>intro e he;cases he
 | cons e l ih =>
  have h':(l.foldl rlF (rlF (d,c) e)).2=false:=h
  have hs:Sat d e:=Classical.byContradiction λ hn=>by
   rw[zBd (zJZ hn)] at h';cases h'
  rw[zBc hs] at h'
  intro e' he'
  rcases dqq.1 he' with rfl | hm
  ·exact hs
  ·exact ih h' e' hm
def leO (a b:Option Int):Prop:=∀ y,b=some y->∃ x,a=some x/\x<=y
theorem zgT (a:Option Int):leO a a:=λ y h=>⟨y,h,Int.le_refl _⟩
theorem zgF {a b c:Option Int}(h1:leO a b) (h2:leO b c):leO a c:=λ y h=>by
 obtain⟨x,hx,hxy⟩:=h2 y h
 obtain⟨z,hz,hzx⟩:=h1 x hx
 exact⟨z,hz,Int.le_trans hzx hxy⟩
theorem zBe (s:zdQ×Bool) (e:Ed) (v:Nat):leO ((rlF s e).1 v) (s.1 v):=by
 unfold rlF
 cases hu:s.1 e.u with
 | none=>exact zgT _
 | some x =>
  simp only[]
  cases hl:ltO (x+e.w) (s.1 e.v)
  ·exact zgT _
  ·show leO (zvk s.1 e.v (x + e.w) v) _
   unfold zvk
   by_cases hv:v=e.v
   ·rw [dqP hv]
    intro y hy
    refine⟨_,rfl,?_⟩
    rw[hv] at hy
    rw[hy] at hl
    exact Int.le_of_lt (of_decide_eq_true hl)
   ·rw[dqG hv];exact zgT _
theorem zBf (E:List Ed) (s:zdQ×Bool) (v:Nat):leO ((E.foldl rlF s).1 v) (s.1 v):=by
 induction E generalizing s with
 | nil=>exact zgT _
 | cons e l ih=>exact zgF (ih (rlF s e)) (zBe s e v)
theorem zOf {s:zdQ×Bool}{e:Ed}{x:Int}(h:s.1 e.u=some x):leO ((rlF s e).1 e.v) (some (x+e.w)):=by
 unfold rlF
 simp only[h]
 cases hl:ltO (x+e.w) (s.1 e.v)
 ·obtain ⟨y, h1, h2⟩ := zqf hl
  intro z hz;cases hz
  exact⟨y,h1,h2⟩
 ·intro z hz; cases hz
  exact⟨x+e.w,by show zvk s.1 e.v (x+e.w) e.v=_;unfold zvk;rw[dqP rfl],Int.le_refl _⟩
theorem zDw {E:List Ed}{s:zdQ×Bool}{e:Ed}{x:Int}(he:e∈E) (h:s.1 e.u=some x):leO ((E.foldl rlF s).1 e.v) (some (x+e.w)):=by
 induction E generalizing s x with
 | nil=>cases he
 | cons f l ih =>
  rcases dqq.1 he with rfl | hm
  ·exact zgF (zBf l (rlF s e) e.v) (zOf h)
  ·obtain ⟨x', h1, h2⟩ := zBe s f e.u x h
   intro z hz;cases hz
   obtain⟨y,k1,k2⟩:=ih hm h1 _ rfl
   exact⟨y,k1,by omega⟩
def rnd (E:List Ed) (d:zdQ):zdQ:=(E.foldl rlF (d,false)).1
def rds (E : List Ed) : Nat → zdQ → zdQ
  | 0,d=>d
  | k+1,d=>rds E k (rnd E d)
theorem zvl (E:List Ed) (k:Nat) (d:zdQ) (v:Nat):leO (rds E k d v) (d v):=by
 induction k generalizing d with
 | zero=>exact zgT _
 | succ k ih=>exact zgF (ih (rnd E d)) (zBf E (d,false) v)
theorem zOg {E:List Ed}{c:List Ed} : ∀ {a b k:Nat}{d:zdQ}{y:Int},zg9 E a c b->d a=some y->c.length<=k->leO (rds E k d b) (some (y+wt c)):=by
 induction c with
 | nil =>
  intro a b k d y h hd _
  cases h
  intro z hz;cases hz
  obtain⟨x,h1,h2⟩:=zvl E k d a y hd
  exact⟨x,h1,by show x<=y+0;omega⟩
 | cons e l ih =>
  intro a b k d y h hd hk
  obtain⟨k,rfl⟩:∃ k',k=k'+1:=⟨k - 1,by simp only[dqr] at hk;omega⟩
  obtain⟨h1,h2,h3⟩:=h
  subst h2
  obtain⟨x,k1,k2⟩:=zDw (s:=(d,false)) h1 hd _ rfl
  intro z hz;cases hz
  obtain⟨z,m1,m2⟩:=ih (k:=k) (d:=rnd E d) h3 k1 (by simp only[dqr] at hk;omega) _ rfl
  exact⟨z,m1,by show z<=y+(e.w+wt l);omega⟩
def Fix (E:List Ed) (d:zdQ):Prop:=∀ e∈E,Sat d e
theorem zlF {E:List Ed}{d:zdQ}(h:Fix E d):rnd E d=d:=by unfold rnd;rw[zkn h]
theorem zBg {E:List Ed}{d:zdQ}(h:Fix E d) (k:Nat):rds E k d=d:=by
 induction k with
 | zero=>rfl
 | succ k ih=>show rds E k (rnd E d)=d;rw[zlF h,ih]
theorem zqg (n:Nat):∀ {l:List Nat},l.Nodup->(∀ x∈l,x < n)->l.length<=n:=by
 induction n with
 | zero =>
  intro l _ h
  cases l with
  | nil=>exact dqt _
  | cons x l=>exact absurd (h x (dqj ..)) (dqW _)
 | succ n ih =>
  intro l hd h
  have h1:=ih (l:=l.filter (λ x=>x != n)) (hd.filter _) (λ x hx=>by
   obtain⟨hx1,hx2⟩:=List.mem_filter.1 hx
   have:=h x hx1
   have:x ≠ n:=by simpa using hx2
   omega)
  have h2:l.length<=(l.filter (λ x=>x != n)).length+1:=by
   clear h1 ih h
   induction l with
   | nil=>exact Nat.zero_le _
   | cons x l ihl =>
    rw[List.nodup_cons] at hd
    by_cases hx:x=n
    ·subst hx
     have:l.filter (λ y=>y != x)=l:=List.filter_eq_self.2 λ y hy=>by
      have:y ≠ x:=λ e=>hd.1 (e ▸ hy)
      simpa using this
     rw[List.filter_cons_of_neg (by simp),this]
     exact dqt _
    ·rw [List.filter_cons_of_pos (by simpa using hx)]
     have:=ihl hd.2
     simp only[dqr];omega
  omega
def nodes (a:Nat) (c:List Ed):List Nat:=a :: c.map Ed.v
theorem zqh (a:Nat) (c:List Ed):(nodes a c).length=c.length+1:=by simp[nodes]
theorem zDx {E:List Ed}{c:List Ed} : ∀ {a b m:Nat},zg9 E a c b->m∈nodes a c->∃ c1 c2,c=c1 ++ c2/\zg9 E a c1 m/\zg9 E m c2 b:=by
 induction c with
 | nil =>
  intro a b m h hm
  have:m=a:=by simpa [nodes] using hm
  subst this
  exact⟨[],[],rfl,rfl,h⟩
 | cons e l ih =>
  intro a b m h hm
  rcases dqq.1 hm with rfl | hm'
  ·exact⟨[],e :: l,rfl,rfl,h⟩
  ·obtain ⟨h1, h2, h3⟩ := h
   obtain⟨c1,c2,k1,k2,k3⟩:=ih h3 (m:=m) (by simpa [nodes] using hm')
   exact⟨e :: c1,c2,by rw[k1];rfl,⟨h1,h2,k2⟩,k3⟩
structure Att (E : List Ed) (Src : Nat → Prop) (d : zdQ) (v : Nat) (x : Int) (a : Nat) (c : List Ed) : Prop where
  src:Src a
  ch:zg9 E a c v
  wt:x=wt c
  nd:(nodes a c).Nodup
  pre:∀ c1 c2 m,c=c1 ++ c2->zg9 E a c1 m->leO (d m) (some (Go.Pm.wt c1))
def Inv (E:List Ed) (Src:Nat->Prop) (d:zdQ):Prop:=∀ v x,d v=some x->∃ a c,Att E Src d v x a c
theorem zOh {d d':zdQ}{E:List Ed}{Src:Nat->Prop}{v:Nat}{x:Int}{a:Nat}{c:List Ed}(h:Att E Src d v x a c) (hd:∀ m,leO (d' m) (d m)):Att E Src d' v x a c :=
 ⟨h.src,h.ch,h.wt,h.nd,λ c1 c2 m h1 h2=>zgF (hd m) (h.pre c1 c2 m h1 h2)⟩
theorem zvm {d:zdQ}{E:List Ed}{Src:Nat->Prop}(hn:zcA E){e:Ed}(he:e∈E){x:Int}{a:Nat}{c:List Ed}(h:Att E Src d e.u x a c) (hm:e.v∈nodes a c):leO (d e.v) (some (x+e.w)):=by
 obtain⟨c1,c2,k1,k2,k3⟩:=zDx h.ch hm
 have hc:=hn e.v (c2 ++ [e]) (zgS.2 ⟨e.u,k3,zil he⟩)
 rw[zmw,zqe] at hc
 have hx:=h.wt
 rw[k1,zmw] at hx
 obtain⟨y,m1,m2⟩:=h.pre c1 c2 e.v k1 k2 _ rfl
 intro z hz;cases hz
 exact⟨y,m1,by omega⟩
theorem zDy {E:List Ed}{c:List Ed} : ∀ {a b b':Nat},zg9 E a c b->zg9 E a c b'->b=b':=by
 induction c with
 | nil=>intro a b b' h1 h2;cases h1;cases h2;rfl
 | cons e l ih=>rintro a b b' ⟨_,_,h1⟩ ⟨_,_,h2⟩;exact ih h1 h2
theorem zox {c c1 c2:List Ed}{e:Ed}(h:c ++ [e]=c1 ++ c2):c1=c ++ [e]\/∃ c3,c=c1 ++ c3:=by
 rcases List.append_eq_append_iff.1 h with ⟨a',h1,h2⟩ | ⟨c',h1,_⟩
 ·cases a' with
  | nil=>exact .inr ⟨[],by rw[h1];simp⟩
  | cons f a'' =>
   have:a''=[]/\c2=[]:=by
    cases a'' with
    | nil=>simp at h2;exact⟨rfl,h2.2⟩
    | cons g b=>simp at h2
   obtain⟨rfl,rfl⟩:=this
   simp at h2
   exact .inl (by rw[h1,h2])
 ·exact .inr ⟨c',h1⟩
theorem zlG {E:List Ed}{Src:Nat->Prop}(hn:zcA E){s:zdQ×Bool}{e:Ed}(he:e∈E) (h:Inv E Src s.1):Inv E Src (rlF s e).1:=by
 intro v x hx
 have hle:=zBe s e
 unfold rlF at hx hle ⊢
 cases hu:s.1 e.u with
 | none =>
  simp only[hu] at hx ⊢
  obtain⟨a,c,hc⟩:=h v x hx
  exact⟨a,c,hc⟩
 | some y =>
  simp only[hu] at hx hle ⊢
  cases hl:ltO (y+e.w) (s.1 e.v) with
  | false =>
   simp only[hl,dqB] at hx ⊢
   exact h v x hx
  | true =>
   simp only[hl,dqA] at hx hle ⊢
   by_cases hv:v=e.v
   ·subst hv
    have hx':y+e.w=x:=by
     unfold zvk at hx;rw[dqP rfl] at hx;exact Option.some.inj hx
    obtain⟨a,c,hc⟩:=h e.u y hu
    have hnot:e.v ∉ nodes a c:=λ hm=>by
     obtain⟨z,h1,h2⟩:=zvm hn he hc hm _ rfl
     rw[h1] at hl
     have:=of_decide_eq_true hl
     omega
    refine⟨a,c ++ [e],hc.src,zgS.2 ⟨e.u,hc.ch,zil he⟩,by rw[zmw,zqe,<- hc.wt];omega,?_,?_⟩
    ·show (a :: (c ++ [e]).map Ed.v).Nodup
     rw[List.map_append,<- List.cons_append]
     refine List.nodup_append.2 ⟨hc.nd,by simp,λ p hp q hq=>?_⟩
     have:q=e.v:=by simpa using hq
     subst this
     exact λ e'=>hnot (e' ▸ hp)
    ·intro c1 c2 m h1 h2
     rcases zox h1 with rfl | ⟨c3,h3⟩
     ·have : m = e.v := zDy h2 (zgS.2 ⟨e.u, hc.ch, zil he⟩)
      subst this
      intro z hz;cases hz
      refine⟨x,hx,?_⟩
      rw[zmw,zqe,<- hc.wt];omega
     ·exact zgF (hle m) (hc.pre c1 c3 m h3 h2)
   ·have hx':s.1 v=some x:=by
     unfold zvk at hx;rw[dqG hv] at hx;exact hx
    obtain⟨a,c,hc⟩:=h v x hx'
    exact⟨a,c,zOh hc hle⟩
theorem zoy {E F:List Ed}{Src:Nat->Prop}(hn:zcA E) (hF:∀ e∈F,e∈E){s:zdQ×Bool}(h:Inv E Src s.1):Inv E Src (F.foldl rlF s).1:=by
 induction F generalizing s with
 | nil=>exact h
 | cons e l ih=>exact ih (λ e he=>hF e (dqf _ he)) (zlG hn (hF e (dqj ..)) h)
theorem zBh {E:List Ed}{Src:Nat->Prop}(hn:zcA E) (k:Nat){d:zdQ}(h:Inv E Src d):Inv E Src (rds E k d):=by
 induction k generalizing d with
 | zero=>exact h
 | succ k ih=>exact ih (zoy hn (λ _ h=>h) (s:=(d,false)) h)
structure Start (Src : Nat → Prop) (d : zdQ) : Prop where
  only:∀ v x,d v=Option.some x->Src v/\x=0
  src:∀ v,Src v->d v=Option.some 0
theorem zim {E:List Ed}{Src:Nat->Prop}{d:zdQ}(h:Start Src d):Inv E Src d:=λ v x hx=>by
 obtain⟨h1,h2⟩:=h.only v x hx
 refine⟨v,[],h1,rfl,h2,by simp[nodes],λ c1 c2 m e hc=>?_⟩
 have:c1=[]:=by
  cases c1 with
  | nil=>rfl
  | cons _ _=>cases e
 subst this
 cases hc
 rw[hx,h2]
 exact zgT _
theorem zvn {E:List Ed}{n:Nat}(hE:∀ e∈E,e.u < n/\e.v < n){c:List Ed} : ∀ {a b:Nat},a < n->zg9 E a c b->∀ x∈nodes a c,x < n:=by
  induction c with
  | nil => intro a b ha _ x hx; have : x = a := by simpa [nodes] using hx
           omega
  | cons e l ih =>
    rintro a b ha ⟨h1,h2,h3⟩ x hx
    rcases dqq.1 hx with rfl | hm
    · exact ha
    · exact ih (hE e h1).2 h3 x (by simpa [nodes] using hm)
theorem zJ0 {E:List Ed}{n:Nat}{Src:Nat->Prop}(hE:∀ e∈E,e.u < n/\e.v < n) (hS:∀ a,Src a->a < n){d:zdQ}{v:Nat}{x:Int}{a:Nat}{c:List Ed}(h:Att E Src d v x a c):c.length+1<=n:=by
 have:=zqg n h.nd (zvn hE (hS a h.src) h.ch)
 rwa[zqh] at this
theorem zE7 {E:List Ed}{n:Nat}{Src:Nat->Prop}(hn:zcA E) (hE:∀ e∈E,e.u < n/\e.v < n) (hS:∀ a,Src a->a < n){d:zdQ}(h0:Start Src d):Fix E (rds E (n - 1) d):=by
 intro e he x hx
 obtain⟨a,c,hc⟩:=zBh hn (n - 1) (zim (E:=E) h0) e.u x hx
 by_cases hm:e.v∈nodes a c
 ·exact zvm hn he hc hm _ rfl
 ·have hlen:(c ++ [e]).length<=n - 1:=by
   have hnd:(nodes a (c ++ [e])).Nodup:=by
    show (a :: (c ++ [e]).map Ed.v).Nodup
    rw[List.map_append,<- List.cons_append]
    refine List.nodup_append.2 ⟨hc.nd,by simp,λ p hp q hq=>?_⟩
    have:q=e.v:=by simpa using hq
    subst this
    exact λ e'=>hm (e' ▸ hp)
   have hch:zg9 E a (c ++ [e]) e.v:=zgS.2 ⟨e.u,hc.ch,zil he⟩
   have:=zqg n hnd (zvn hE (hS a hc.src) hch)
   rw[zqh] at this
   omega
  have:=zOg (zgS.2 ⟨e.u,hc.ch,zil he⟩) (h0.src a hc.src) hlen _ rfl
  rw[zmw,zqe,<- hc.wt] at this
  obtain⟨z,h1,h2⟩:=this
  exact⟨z,h1,by omega⟩
theorem zE8 {E:List Ed}{f:Nat->Int}(h:∀ e∈E,f e.v<=f e.u+e.w){c:List Ed} : ∀ {a b:Nat},zg9 E a c b->f b<=f a+wt c:=by
 induction c with
 | nil=>intro a b hc;cases hc;show f a<=f a+0;omega
 | cons e l ih =>
  rintro a b ⟨h1,h2,h3⟩
  subst h2
  have:=ih h3
  have:=h e h1
  show f b<=f e.u+(e.w+wt l);omega
theorem zqi {E:List Ed}{f:Nat->Int}(h:∀ e∈E,f e.v<=f e.u+e.w):zcA E:=λ a c hc=>by
 have:=zE8 h hc;omega
end Go.Pm
namespace Go.Pm
theorem zE9 {E:List Ed}{f:Ed->Ed}(hu:∀ e,(f e).u=e.u) (hv:∀ e,(f e).v=e.v){c:List Ed} : ∀ {a b:Nat},zg9 (E.map f) a c b->∃ c0,c=c0.map f/\zg9 E a c0 b:=by
 induction c with
 | nil=>intro a b h;exact⟨[],rfl,h⟩
 | cons e l ih =>
  rintro a b ⟨h1,h2,h3⟩
  obtain⟨e0,k1,rfl⟩:=dqz.1 h1
  obtain⟨c0,k2,k3⟩:=ih h3
  exact⟨e0 :: c0,by rw[k2];rfl,k1,by rw[<- hu];exact h2,by rw[<- hv];exact k3⟩
def edM (e:Ed):Ed:=⟨e.u,e.v,e.w * 1048576+1⟩
def edR (e:Ed):Ed:=⟨e.v,e.u,e.w⟩
theorem zSe (c:List Ed):wt (c.map edM)=wt c * 1048576+c.length:=by
 induction c with
 | nil=>rfl
 | cons e l ih =>
  show e.w * 1048576+1+wt (l.map edM)=(e.w+wt l) * 1048576+((l.length+1:Nat):Int)
  omega
theorem zSf (c:List Ed):wt (c.reverse.map edR)=wt c:=by
 induction c with
 | nil=>rfl
 | cons e l ih =>
  rw[List.reverse_cons,List.map_append,zmw,ih]
  show wt l+wt [edR e]=e.w+wt l
  rw[zqe]
  show wt l+e.w=_
  omega
theorem zSg {E:List Ed}{c:List Ed} : ∀ {a b:Nat},zg9 E a c b->zg9 (E.map edR) b (c.reverse.map edR) a:=by
 induction c with
 | nil=>intro a b h;exact Eq.symm h
 | cons e l ih =>
  rintro a b ⟨h1,h2,h3⟩
  rw[List.reverse_cons,List.map_append]
  exact zgS.2 ⟨e.v,ih h3,List.mem_map_of_mem h1,rfl,h2⟩
theorem zOi (E:List Ed):(E.map edR).map edR=E:=by
 rw[List.map_map]
 exact (List.map_congr_left λ e _=>rfl).trans (List.map_id E)
theorem zOj {E:List Ed}{c:List Ed}{a b:Nat}(h:zg9 (E.map edR) a c b):∃ c0,zg9 E b c0 a/\wt c0=wt c/\c0.length=c.length:=by
 have:=zSg h
 rw[zOi] at this
 exact⟨_,this,zSf c,by simp⟩
theorem zoz {E:List Ed}(h:zcA E):zcA (E.map edR):=λ a c hc=>by
 obtain⟨c0,h1,h2,_⟩:=zOj hc
 rw[<- h2];exact h a c0 h1
theorem zgG {E:List Ed}(h:zcA E):zcA (E.map edM):=λ a c hc=>by
 obtain⟨c0,rfl,h1⟩:=zE9 (f:=edM) (λ _=>rfl) (λ _=>rfl) hc
 rw[zSe]
 have:=h a c0 h1
 omega
theorem zFa {E F:List Ed}(h:∀ e∈E,e∈F){c:List Ed} : ∀ {a b:Nat},zg9 E a c b->zg9 F a c b:=by
 induction c with
 | nil=>intro a b h;exact h
 | cons e l ih=>rintro a b ⟨h1,h2,h3⟩;exact⟨h e h1,h2,ih h3⟩
theorem zBi {E F:List Ed}(h:∀ e∈E,e∈F) (hF:zcA F):zcA E:=λ a c hc=>hF a c (zFa h hc)
def zOW : Option Int → Int × Int
  | none=>((1000000000000:Int),(0:Int))
  | some x=>(x / 1048576,x % 1048576)
theorem ztm {L U:Int}(h0:0<=U) (h1:U < 1048576):zOW (some (L * 1048576+U))=(L,U):=by
 show ((L * 1048576+U) / 1048576,(L * 1048576+U) % 1048576)=(L,U)
 rw[show (L * 1048576+U) / 1048576=L by omega,show (L * 1048576+U) % 1048576=U by omega]
def zBj (s:Nat):zdQ:=λ v=>if v=s then some 0 else none
theorem zgU (s:Nat):Start (λ v=>v=s) (zBj s) :=
 ⟨λ v x h=>(by
  unfold zBj at h
  by_cases hv:v=s
  ·rw[dqP hv] at h;cases h;exact⟨hv,rfl⟩
  ·rw[dqG hv] at h;cases h),λ v h=>dqP h⟩
structure EdOk (E : List Ed) (n : Nat) : Prop where
  lt:∀ e∈E,e.u < n/\e.v < n
  w:∀ e∈E,-1000000000<=e.w/\e.w<=1000000000
  n1:1<=n
  n40:n<=40
theorem EdOk.R {E:List Ed}{n:Nat}(h:EdOk E n):EdOk (E.map edR) n :=
  ⟨λ e he=>(by obtain⟨f,h1,rfl⟩:=dqz.1 he;exact⟨(h.lt f h1).2,(h.lt f h1).1⟩),
   λ e he=>(by obtain⟨f,h1,rfl⟩:=dqz.1 he;exact h.w f h1),h.n1,h.n40⟩
theorem EdOk.ltM {E:List Ed}{n:Nat}(h:EdOk E n):∀ e∈E.map edM,e.u < n/\e.v < n :=
 λ e he=>by obtain⟨f,h1,rfl⟩:=dqz.1 he;exact h.lt f h1
theorem zvo {E:List Ed}{n:Nat}(h:EdOk E n){c:List Ed} : ∀ {a b:Nat},zg9 E a c b->-1000000000 * (c.length:Int)<=wt c/\wt c<=1000000000 * (c.length:Int):=by
 induction c with
 | nil=>intro a b _;exact⟨(by show _<=(0:Int);simp),(by show (0:Int)<=_;simp)⟩
 | cons e l ih =>
  rintro a b ⟨h1,_,h3⟩
  have:=ih h3
  have:=h.w e h1
  show _<=e.w+wt l/\e.w+wt l<=_
  simp only[dqr]
  omega
structure Ent (E : List Ed) (n s v : Nat) (x L U : Int) (c : List Ed) : Prop where
  ch:zg9 E s c v
  x:x=L * 1048576+U
  L:L=wt c
  U:U=c.length
  len:c.length < n
theorem zFb {E:List Ed}{n:Nat}(hE:EdOk E n){s:Nat}(hs:s < n){d:zdQ}(hd:Inv (E.map edM) (λ v=>v=s) d){v:Nat}{x:Int}(hx:d v=some x):∃ c,Ent E n s v x (wt c) c.length c:=by
 obtain⟨a,c,hc⟩:=hd v x hx
 have hl:=zJ0 hE.ltM (λ a ha=>Nat.lt_of_le_of_lt (Nat.le_of_eq ha) hs) hc
 obtain⟨c0,rfl,h1⟩:=zE9 (f:=edM) (λ _=>rfl) (λ _=>rfl) hc.ch
 obtain rfl:a=s:=hc.src
 exact⟨c0,h1,by rw[hc.wt,zSe],rfl,rfl,by rw[List.length_map] at hl;omega⟩
def dst (E:List Ed) (n s:Nat):zdQ:=rds (E.map edM) (n - 1) (zBj s)
theorem zJ1 {E:List Ed}{n s:Nat}(hn:zcA E):Inv (E.map edM) (λ v=>v=s) (dst E n s):=zBh (zgG hn) _ (zim (zgU s))
theorem ztn {E:List Ed}{n s:Nat}(hE:EdOk E n) (hn:zcA E) (hs:s < n):Fix (E.map edM) (dst E n s):=zE7 (zgG hn) hE.ltM (λ a ha=>Nat.lt_of_le_of_lt (Nat.le_of_eq ha) hs) (zgU s)
theorem dst_at {E:List Ed}{n s v:Nat}(hE:EdOk E n) (hn:zcA E) (hs:s < n){x:Int}(hx:dst E n s v=some x):∃ c,Ent E n s v x (wt c) c.length c:=zFb hE hs (zJ1 hn) hx
theorem zDz {E:List Ed}{n s:Nat} : ∃ x,dst E n s s=some x:=by
 obtain⟨x,h,_⟩:=zvl (E.map edM) (n - 1) (zBj s) s 0 (dqP rfl)
 exact⟨x,h⟩
theorem zBk {E:List Ed}{n s:Nat}(hE:EdOk E n) (hn:zcA E) (hs:s < n){c:List Ed} : ∀ {a v:Nat}{x:Int},dst E n s a=some x->zg9 E a c v->∃ y,dst E n s v=some y/\y / 1048576<=x / 1048576+wt c:=by
 induction c with
 | nil=>intro a v x hx h;cases h;exact⟨x,hx,by show _<=_+(0:Int);omega⟩
 | cons e l ih =>
  rintro a v x hx ⟨h1,h2,h3⟩
  subst h2
  obtain⟨y,k1,k2⟩:=ztn hE hn hs (edM e) (List.mem_map_of_mem h1) x hx
  obtain⟨z,m1,m2⟩:=ih (a:=e.v) k1 h3
  obtain⟨c1,hc1⟩:=dst_at hE hn hs hx
  obtain⟨c2,hc2⟩:=dst_at hE hn hs (show dst E n s e.v=some y from k1)
  refine⟨z,m1,?_⟩
  have k2':y<=x+(e.w * 1048576+1):=k2
  have:=hE.n40
  have:=hc1.len
  have:=hc1.x
  have:=hc2.len
  have:=hc2.x
  show _<=_+(e.w+wt l)
  omega
theorem zJ2 {E:List Ed}{n s v:Nat}(hE:EdOk E n) (hn:zcA E) (hs:s < n){c:List Ed}(hc:zg9 E s c v):∃ x,dst E n s v=some x/\x / 1048576<=wt c:=by
 obtain⟨x0,h1⟩:=zDz (E:=E) (n:=n) (s:=s)
 obtain⟨y,k1,k2⟩:=zBk hE hn hs h1 hc
 have h3:x0<=0:=by
  obtain⟨x',h1',h2'⟩:=zvl (E.map edM) (n - 1) (zBj s) s 0 (dqP rfl)
  have:x'=x0:=Option.some.inj (h1'.symm.trans h1)
  omega
 exact⟨y,k1,by omega⟩
def zBC (o:Option Int):Int:=(zOW o).1
theorem zBl {E:List Ed}{n s v:Nat}(hE:EdOk E n) (hn:zcA E) (hs:s < n){x:Int}(hx:dst E n s v=some x):∃ c,zg9 E s c v/\zBC (dst E n s v)=wt c/\c.length < n:=by
 obtain⟨c,hc⟩:=dst_at hE hn hs hx
 refine⟨c,hc.ch,?_,hc.len⟩
 rw[hx]
 show x / 1048576=_
 have:=hc.x;have:=hc.len;have:=hE.n40
 omega
theorem zto {E:List Ed}{n s v:Nat}(hE:EdOk E n) (hn:zcA E) (hs:s < n){c:List Ed}(hc:zg9 E s c v):zBC (dst E n s v)<=wt c:=by
 obtain⟨x,h1,h2⟩:=zJ2 hE hn hs hc
 rw[h1];exact h2
theorem zdv {E:List Ed}{n s v:Nat}(hE:EdOk E n) (hn:zcA E) (hs:s < n):(dst E n s v=none/\zBC (dst E n s v)=1000000000000)\/∃ c,dst E n s v ≠ none/\zg9 E s c v/\zBC (dst E n s v)=wt c/\c.length < n/\-40000000000<=wt c/\wt c<=40000000000:=by
 cases h:dst E n s v with
 | none=>exact .inl ⟨rfl,rfl⟩
 | some x =>
  obtain⟨c,h1,h2,h3⟩:=zBl hE hn hs h
  have:=zvo hE h1
  have:=hE.n40
  rw[h] at h2
  exact .inr ⟨c,(by intro h;cases h),h1,h2,h3,by omega,by omega⟩
theorem zDA {E:List Ed}{n s v:Nat}(hE:EdOk E n) (hn:zcA E) (hs:s < n){f:Nat->Int}(hf:∀ e∈E,f e.v<=f e.u+e.w) (hd:dst E n s v ≠ none):f v<=f s+zBC (dst E n s v):=by
 rcases zdv (v:=v) hE hn hs with ⟨h,_⟩ | ⟨c,_,h1,h2,_⟩
 ·exact absurd h hd
 ·rw[h2];exact zE8 hf h1
theorem zBm {E F:List Ed}{n s v:Nat}(hE:EdOk E n) (hF:EdOk F n) (hn:zcA F) (hs:s < n) (h:∀ e∈E,e∈F):zBC (dst F n s v)<=zBC (dst E n s v):=by
 rcases zdv (v:=v) hE (zBi h hn) hs with ⟨_,h2⟩ | ⟨c,_,h1,h2,_⟩
 ·rw [h2]
  rcases zdv (v:=v) hF hn hs with ⟨_,h2⟩ | ⟨c,_,_,h2,_,_,_⟩ <;> omega
 ·rw[h2];exact zto hF hn hs (zFa h h1)
end Go.Pm
namespace Go.Pm
def zoA (E : List Ed) : Nat → zdQ → Bool
  | 0,_=>true
  | k+1,d=>cond (E.foldl rlF (d,false)).2 (zoA E k (rnd E d)) false
theorem ztp {E:List Ed}{k:Nat} : ∀ {m:Nat}{d:zdQ},Fix E (rds E k d)->k < m->zoA E m d=false:=by
 induction k with
 | zero =>
  intro m d h hm
  obtain⟨m,rfl⟩:∃ m',m=m'+1:=⟨m - 1,by omega⟩
  show cond (E.foldl rlF (d,false)).2 _ _=false
  rw[zkn (show ∀ e∈E,Sat d e from h)];rfl
 | succ k ih =>
  intro m d h hm
  obtain⟨m,rfl⟩:∃ m',m=m'+1:=⟨m - 1,by omega⟩
  show cond (E.foldl rlF (d,false)).2 (zoA E m (rnd E d)) false=false
  rw[ih (m:=m) (d:=rnd E d) h (by omega)]
  cases (E.foldl rlF (d,false)).2 <;> rfl
theorem zDB {E:List Ed}{m:Nat} : ∀ {d:zdQ},zoA E m d=false->∃ k,Fix E (rds E k d):=by
 induction m with
 | zero=>intro d h;cases h
 | succ m ih =>
  intro d h
  have h':cond (E.foldl rlF (d,false)).2 (zoA E m (rnd E d)) false=false:=h
  cases hc:(E.foldl rlF (d,false)).2
  ·exact⟨0,zjB hc⟩
  ·rw [hc] at h'
   obtain⟨k,hk⟩:=ih h'
   exact⟨k+1,hk⟩
def zBD (n:Nat):zdQ:=λ v=>if v < n then some 0 else none
theorem zv8 (n:Nat):Start (λ v=>v < n) (zBD n) :=
 ⟨λ v x h=>(by
  unfold zBD at h
  by_cases hv:v < n
  ·rw[dqP hv] at h;cases h;exact⟨hv,rfl⟩
  ·rw[dqG hv] at h;cases h),λ v h=>dqP h⟩
theorem zDC {E:List Ed}{n:Nat}(hE:EdOk E n):zoA E n (zBD n)=false↔zcA E:=by
 constructor
 ·intro h
  obtain⟨k,hk⟩:=zDB h
  have hsome:∀ v,v < n->∃ x,rds E k (zBD n) v=some x:=λ v hv=>by
   obtain⟨x,hx,_⟩:=zvl E k (zBD n) v 0 (dqP hv)
   exact⟨x,hx⟩
  refine zqi (f:=λ v=>(rds E k (zBD n) v).getD 0) λ e he=>?_
  obtain⟨x,hx⟩:=hsome e.u (hE.lt e he).1
  obtain⟨y,hy,hxy⟩:=hk e he x hx
  show (rds E k (zBD n) e.v).getD 0<=(rds E k (zBD n) e.u).getD 0+e.w
  rw[hx,hy];exact hxy
 ·intro h
  have:=hE.n1
  exact ztp (zE7 h hE.lt (λ a ha=>ha) (zv8 n)) (by omega)
end Go.Pm
namespace Go.Proofs
open Go Go.Pm
set_option maxRecDepth 100000
set_option linter.unusedVariables false
theorem zg3 {n:Nat}{F:Tab}{k:Nat}(hk:k < n):tg n F k=F k:=by
 unfold tg zql
 have h:(zm (zoF 0 n F))[k]? = some (.p (.int .i64 (F k))):=by
  rw[zm,dqH,zmR n 0 F k hk,Nat.zero_add];rfl
 rw[h]
theorem zFc {n:Nat}{F:Tab}{k:Nat}{v:Int}{j:Nat}(hj:j < n):ts n F k [v] j=if j=k then v else F j:=by
 show (match Nat.beq j k with | true=>v | false=>tg n F j)=_
 by_cases h:j=k
 ·rw[dqP h,show Nat.beq j k=true from by rw[h];exact Nat.beq_refl _]
 ·rw[dqG h,show Nat.beq j k=false from Bool.eq_false_iff.2 λ e=>h (dqc e)];exact zg3 hj
theorem zd6 {n:Nat}{F:Tab}{k:Nat}{v w:Int}{j:Nat}(hj:j < n):ts n F k [v,w] j=if j=k+1 then w else if j=k then v else F j:=by
 show (match Nat.beq j (k+1) with | true=>w | false=>(match Nat.beq j k with | true=>v | false=>tg n F j))=_
 by_cases h:j=k+1
 ·rw[dqP h,show Nat.beq j (k+1)=true from by rw[h];exact Nat.beq_refl _]
 ·rw [dqG h, show Nat.beq j (k + 1) = false from Bool.eq_false_iff.2 fun e => h (dqc e)]
  by_cases h':j=k
  ·rw[dqP h',show Nat.beq j k=true from by rw[h'];exact Nat.beq_refl _]
  ·rw[dqG h',show Nat.beq j k=false from Bool.eq_false_iff.2 λ e=>h' (dqc e)];exact zg3 hj
def fwS (t:Tie) (i:Nat):step:=⟨⟨(i:Int),false⟩,t.From,t.To,t.High⟩
def bwS (t:Tie) (i:Nat):step:=⟨⟨(i:Int),true⟩,t.To,t.From,w64 (0 - t.Low)⟩
def zKj (a:web) (i:Nat):Bool:=(zqm (a.out.F [(i:Int)]) 0) != 0
def stK (a:web) (i:Nat):List step :=
 cond (zKj a i) [] ((cond ((a.Net.Ties.get i).High != (1000000000000:Int)) [fwS (a.Net.Ties.get i) i] []) ++ (cond ((a.Net.Ties.get i).Low != (-1000000000000:Int)) [bwS (a.Net.Ties.get i) i] []))
def stL (a : web) : Nat → Nat → List step
  | 0,_=>[]
  | m+1,i=>stK a i ++ stL a m (i+1)
theorem ztq (a:web) (hn:a.Net.Ties.len<=9223372036854775807):p82 a=true/\s82 a=stL a a.Net.Ties.len 0:=by
 have key:∀ (m k i:Nat),i+m=a.Net.Ties.len->m < k->zgu a k (i:Int)=true/\zgt a k (i:Int)=stL a m i:=by
  intro m
  induction m with
  | zero =>
   intro k i hi hk
   obtain⟨k,rfl⟩:∃ k',k=k'+1:=⟨k - 1,by omega⟩
   constructor
   ·show zhD a (zgu a k) (i : Int) = true
    unfold zhD
    rw[dqF (show ¬ (i:Int) < (a.Net.Ties.len:Int) by omega),dqB]
   ·show zhC a (zgt a k) (i : Int) = []
    unfold zhC
    rw[dqF (show ¬ (i:Int) < (a.Net.Ties.len:Int) by omega),dqB]
  | succ m ih =>
   intro k i hi hk
   obtain⟨k,rfl⟩:∃ k',k=k'+1:=⟨k - 1,by omega⟩
   obtain⟨h1,h2⟩:=ih k (i+1) (by omega) (by omega)
   constructor
   ·show zhD a (zgu a k) (i : Int) = true
    unfold zhD
    rw[dqT (show (i:Int) < (a.Net.Ties.len:Int) by omega),dqA,dqT (show 0<=(i:Int)/\(i:Int) < (a.Net.Ties.len:Int) by omega),Bool.true_and,zdn (n:=a.Net.Ties.len) (by omega) hn,h1]
    generalize (zqm (a.out.F [(i:Int)]) 0 != 0)=b1
    generalize (s83 (⟨(a.Net.Ties.get ((i:Int)).toNat),(i:Int)⟩:tie)).2=b2
    generalize (s84 (⟨(a.Net.Ties.get ((i:Int)).toNat),(i:Int)⟩:tie)).2=b3
    cases b1 <;> cases b2 <;> cases b3 <;> rfl
   ·show zhC a (zgt a k) (i : Int) = stK a i ++ stL a m (i + 1)
    unfold zhC
    rw[dqT (show (i:Int) < (a.Net.Ties.len:Int) by omega),dqA,dqN,zdn (n:=a.Net.Ties.len) (by omega) hn,h2]
    unfold stK zKj s83 s84
    generalize (zqm (a.out.F [(i:Int)]) 0 != 0)=b1
    show cond b1 _ (cond ((a.Net.Ties.get i).High != (1000000000000:Int)) (_ :: cond ((a.Net.Ties.get i).Low != (-1000000000000:Int)) (_ :: _) _) (cond ((a.Net.Ties.get i).Low != (-1000000000000:Int)) (_ :: _) _))=_
    generalize ((a.Net.Ties.get i).High != (1000000000000:Int))=b2
    generalize ((a.Net.Ties.get i).Low != (-1000000000000:Int))=b3
    cases b1 <;> cases b2 <;> cases b3 <;> rfl
 exact key a.Net.Ties.len Fuel 0 (by omega) (by simp only[Fuel];omega)
theorem zoB {a:web}{y:step} : ∀ {m i:Nat},y∈stL a m i↔∃ j,i<=j/\j < i+m/\y∈stK a j:=by
 intro m
 induction m with
 | zero=>intro i;exact⟨λ h=>(by cases h),λ ⟨j,h1,h2,_⟩=>(by omega)⟩
 | succ m ih =>
  intro i
  show y∈stK a i ++ stL a m (i+1)↔_
  rw[dqg,ih]
  constructor
  ·rintro (h | ⟨j, h1, h2, h3⟩)
   ·exact⟨i,dqt _,by omega,h⟩
   ·exact⟨j,by omega,by omega,h3⟩
  ·rintro ⟨j, h1, h2, h3⟩
   by_cases h:j=i
   ·subst h;exact .inl h3
   ·exact .inr ⟨j,by omega,by omega,h3⟩
theorem zoC {a:web}{y:step}{j:Nat} : y∈stK a j↔zKj a j=false/\(((a.Net.Ties.get j).High ≠ 1000000000000/\y=fwS (a.Net.Ties.get j) j)\/((a.Net.Ties.get j).Low ≠ -1000000000000/\y=bwS (a.Net.Ties.get j) j)):=by
 unfold stK
 cases h:zKj a j
 ·rw [dqB, dqg]
  by_cases h1:(a.Net.Ties.get j).High=1000000000000
  ·rw [show ((a.Net.Ties.get j).High != (1000000000000:Int)) = false by rw [h1]; rfl, dqB]
   by_cases h2:(a.Net.Ties.get j).Low = -1000000000000
   ·rw [show ((a.Net.Ties.get j).Low != (-1000000000000:Int)) = false by rw [h2]; rfl, dqB]
    simp[h1,h2]
   ·rw [bne_iff_ne.2 h2, dqA]
    simp[h1,h2]
  ·rw [bne_iff_ne.2 h1, dqA]
   by_cases h2:(a.Net.Ties.get j).Low = -1000000000000
   ·rw [show ((a.Net.Ties.get j).Low != (-1000000000000:Int)) = false by rw [h2]; rfl, dqB]
    simp[h1,h2]
   ·rw [bne_iff_ne.2 h2, dqA]
    simp[h1,h2]
 ·rw[dqA];simp
theorem zJ3 (a:web):∀ m i,(stL a m i).length<=2 * m:=by
 intro m
 induction m with
 | zero=>intro i;exact dqt _
 | succ m ih =>
  intro i
  show (stK a i ++ stL a m (i+1)).length<=_
  rw[dqu]
  have:=ih (i+1)
  have:(stK a i).length<=2:=by
   unfold stK
   cases zKj a i <;> cases ((a.Net.Ties.get i).High != (1000000000000:Int)) <;> cases ((a.Net.Ties.get i).Low != (-1000000000000:Int)) <;> simp
  omega
def edS (y:step):Ed:=⟨y.from_.toNat,y.to.toNat,y.length⟩
structure StOk (y : step) (N : Nat) : Prop where
  f0:0<=y.from_
  f1:y.from_ < N
  t0:0<=y.to
  t1:y.to < N
  l0 : -1000000000<=y.length
  l1:y.length<=1000000000
abbrev Ws (a:web):List step:=stL a a.Net.Ties.len 0
def We (a:web):List Ed:=(Ws a).map edS
theorem zBn {t:Tie}{N:Int}(h:TieOk t N) (h':t.Low ≠ -1000000000000):w64 (0 - t.Low) = -t.Low:=by
 have:=h.lo.resolve_left h'
 rw[zay (by omega) (by omega)];omega
theorem zOk {a:web}(hn:NetOk a.Net){y:step}(hy:y∈Ws a):StOk y a.Net.Nodes.toNat:=by
 obtain⟨j,_,h2,h3⟩:=zoB.1 hy
 have h:=hn.tie j (by omega)
 have:=h.f0;have:=h.f1;have:=h.t0;have:=h.t1
 rcases (zoC.1 h3).2 with ⟨h4,rfl⟩ | ⟨h4,rfl⟩
 ·have := h.hi.resolve_left h4
  exact⟨h.f0,by show (a.Net.Ties.get j).From < _;omega,h.t0,by show (a.Net.Ties.get j).To < _;omega,this.1,this.2⟩
 ·have := h.lo.resolve_left h4
  have e:=zBn h h4
  exact⟨h.t0,by show (a.Net.Ties.get j).To < _;omega,h.f0,by show (a.Net.Ties.get j).From < _;omega,by show _<=w64 (0 - (a.Net.Ties.get j).Low);omega,by show w64 (0 - (a.Net.Ties.get j).Low)<=_;omega⟩
theorem zOl {a:web}(hn:NetOk a.Net):(Ws a).length<=400:=by
 have h1:=zJ3 a a.Net.Ties.len 0
 have h2:=hn.len
 show (stL a a.Net.Ties.len 0).length<=400
 omega
theorem zFd {a:web}(hn:NetOk a.Net):EdOk (We a) a.Net.Nodes.toNat:=by
 have:=hn.n1;have:=hn.n40
 refine⟨λ e he=>?_,λ e he=>?_,by omega,by omega⟩
 ·obtain ⟨y, hy, rfl⟩ := dqz.1 he
  have h:=zOk hn hy
  have:=h.f0;have:=h.f1;have:=h.t0;have:=h.t1
  exact⟨by show y.from_.toNat < _;omega,by show y.to.toNat < _;omega⟩
 ·obtain ⟨y, hy, rfl⟩ := dqz.1 he
  have h:=zOk hn hy
  exact⟨h.l0,h.l1⟩
theorem zBo {a:web}(hn:NetOk a.Net){e:Ed} : e∈We a↔∃ j,j < a.Net.Ties.len/\zKj a j=false/\(((a.Net.Ties.get j).High ≠ 1000000000000/\e=⟨(a.Net.Ties.get j).From.toNat,(a.Net.Ties.get j).To.toNat,(a.Net.Ties.get j).High⟩)\/((a.Net.Ties.get j).Low ≠ -1000000000000/\e=⟨(a.Net.Ties.get j).To.toNat,(a.Net.Ties.get j).From.toNat,-(a.Net.Ties.get j).Low⟩)):=by
 constructor
 ·intro he
  obtain⟨y,hy,rfl⟩:=dqz.1 he
  obtain⟨j,_,h2,h3⟩:=zoB.1 hy
  obtain⟨h4,h5⟩:=zoC.1 h3
  refine⟨j,by omega,h4,?_⟩
  rcases h5 with ⟨h6,rfl⟩ | ⟨h6,rfl⟩
  ·exact .inl ⟨h6,rfl⟩
  ·refine .inr ⟨h6, ?_⟩
   rw[<- zBn (hn.tie j (by omega)) h6];rfl
 ·rintro ⟨j, h1, h2, h3⟩
  rcases h3 with ⟨h6,rfl⟩ | ⟨h6,rfl⟩
  ·exact dqz.2 ⟨fwS (a.Net.Ties.get j) j,zoB.2 ⟨j,by omega,by omega,zoC.2 ⟨h2,.inl ⟨h6,rfl⟩⟩⟩,rfl⟩
  ·exact dqz.2 ⟨bwS (a.Net.Ties.get j) j,zoB.2 ⟨j,by omega,by omega,zoC.2 ⟨h2,.inr ⟨h6,rfl⟩⟩⟩,by rw[<- zBn (hn.tie j h1) h6];rfl⟩
end Go.Proofs
namespace Go.Proofs
open Go Go.Pm
set_option maxRecDepth 100000
set_option linter.unusedVariables false
def Rt (N:Nat) (T:Tab) (d:zdQ):Prop:=∀ v,v < N->d v=some (T v)
def Bd (B:Int) (T:Tab):Prop:=∀ v,v < 40->-B<=T v/\T v<=0
theorem zBp (a:web){N:Nat}(hN:N<=40) (S0:Int->Tab->Bool) (P0:Int->Tab->Bool):∀ (l:List step),(∀ y∈l,StOk y N)->∀ (t:Int) (c:Bool) (T:Tab) (d:zdQ) (B:Int),Rt N T d->Bd B T->0<=B->B+l.length * 1000000000<=100000000000000000 ->
    ∃ T',zgv S0 a l t c T=znZ S0 a t ((l.map edS).foldl rlF (d,c)).2 T'/\zgw P0 a l t c T=zn0 P0 a t ((l.map edS).foldl rlF (d,c)).2 T'/\Rt N T' ((l.map edS).foldl rlF (d,c)).1/\Bd (B+l.length * 1000000000) T':=by
  intro l
  induction l with
  | nil=>intro _ t c T d B h1 h2 _ _;exact⟨T,rfl,rfl,h1,by simpa using h2⟩
  | cons y l ih =>
    intro hl t c T d B h1 h2 h3 h4
    have hy:=hl y (dqj ..)
    have hl':∀ y∈l,StOk y N:=λ z hz=>hl z (dqf _ hz)
    rw[dqr] at h4
    have f0:=hy.f0;have f1:=hy.f1;have t0:=hy.t0;have t1:=hy.t1;have l0:=hy.l0;have l1:=hy.l1
    have hf:=h1 y.from_.toNat (by omega)
    have ht:=h1 y.to.toNat (by omega)
    have bf:=h2 y.from_.toNat (by omega)
    have bt:=h2 y.to.toNat (by omega)
    have e1:0+y.from_.toNat * 1+0=y.from_.toNat:=by omega
    have e2:0+y.to.toNat * 1+0=y.to.toNat:=by omega
    have hr:rlF (d,c) (edS y)=cond (decide (T y.from_.toNat+y.length < T y.to.toNat)) (zvk d y.to.toNat (T y.from_.toNat+y.length),true) (d,c):=by
      unfold rlF edS
      simp only[hf,ht]
      rfl
    have hS:zgv S0 a (y :: l) t c T=cond (decide (T y.from_.toNat+y.length < T y.to.toNat)) (zgv S0 a l t true (ts 40 T y.to.toNat [T y.from_.toNat+y.length])) (zgv S0 a l t c T):=by
      show zn1 S0 a y (zgv S0 a l) t c T=_
      generalize zgv S0 a l=S
      unfold zn1
      rw[e1,e2,zg3 (by omega),zg3 (by omega),zay (by omega) (by omega)]
    have hP:zgw P0 a (y :: l) t c T=cond (decide (T y.from_.toNat+y.length < T y.to.toNat)) (zgw P0 a l t true (ts 40 T y.to.toNat [T y.from_.toNat+y.length])) (zgw P0 a l t c T):=by
      show zn2 P0 a y (zgw P0 a l) t c T=_
      generalize zgw P0 a l=S
      unfold zn2
      rw[e1,e2,zg3 (by omega),zg3 (by omega),zay (by omega) (by omega),dqT (show 0<=y.from_/\y.from_ < (40:Int) by omega),dqT (show 0<=y.to/\y.to < (40:Int) by omega)]
      cases decide (T y.from_.toNat+y.length < T y.to.toNat) <;> rfl
    show ∃ T',_=znZ S0 a t ((l.map edS).foldl rlF (rlF (d,c) (edS y))).2 T'/\_=zn0 P0 a t ((l.map edS).foldl rlF (rlF (d,c) (edS y))).2 T'/\Rt N T' ((l.map edS).foldl rlF (rlF (d,c) (edS y))).1/\_
    rw[hS,hP,hr]
    by_cases hlt:T y.from_.toNat+y.length < T y.to.toNat
    · rw [dqT hlt, dqA, dqA, dqA]
      obtain ⟨T', k1, k2, k3, k4⟩ := ih hl' t true (ts 40 T y.to.toNat [T y.from_.toNat + y.length]) (zvk d y.to.toNat (T y.from_.toNat + y.length)) (B + 1000000000)
        (λ v hv=>by
          rw[zFc (by omega)]
          unfold zvk
          by_cases h:v=y.to.toNat
          · rw[dqP h,dqP h]
          · rw[dqG h,dqG h];exact h1 v hv)
        (λ v hv=>by
          rw[zFc hv]
          by_cases h:v=y.to.toNat
          · rw[dqP h];omega
          · rw[dqG h];have:=h2 v hv;omega) (by omega) (by omega)
      refine⟨T',k1,k2,k3,?_⟩
      rw[dqr,show B+((l.length+1:Nat):Int) * 1000000000=B+1000000000+(l.length:Int) * 1000000000 by omega]
      exact k4
    · rw [dqF hlt, dqB, dqB, dqB]
      obtain⟨T',k1,k2,k3,k4⟩:=ih hl' t c T d B h1 h2 h3 (by omega)
      refine⟨T',k1,k2,k3,λ v hv=>?_⟩
      have:=k4 v hv
      rw[dqr]
      omega
theorem ztr (a:web) (hn:NetOk a.Net):∀ (m k i:Nat) (T:Tab) (d:zdQ) (B:Int),Rt a.Net.Nodes.toNat T d->Bd B T->0<=B->B+m * 400000000000<=100000000000000000->(i:Int)+m=a.Net.Nodes->m < k ->
  zjh a k (i:Int) T=true/\zjg a k (i:Int) T=zoA (We a) m d:=by
 have hn1:=hn.n1;have hn40:=hn.n40;have hlen:=hn.len
 obtain⟨q1,q2⟩:=ztq a (by omega)
 intro m
 induction m with
 | zero =>
  intro k i T d B _ _ _ _ hi hk
  obtain⟨k,rfl⟩:∃ k',k=k'+1:=⟨k - 1,by omega⟩
  constructor
  ·show zjf a (zjh a k) (i : Int) T = true
   unfold zjf
   rw[dqF (show ¬ (i:Int) < a.Net.Nodes by omega),dqB]
  ·show zje a (zjg a k) (i : Int) T = true
   unfold zje
   rw[dqF (show ¬ (i:Int) < a.Net.Nodes by omega),dqB]
 | succ m ih =>
  intro k i T d B h1 h2 h3 h4 hi hk
  obtain⟨k,rfl⟩:∃ k',k=k'+1:=⟨k - 1,by omega⟩
  have hwl:=zOl hn
  obtain⟨T',k1,k2,k3,k4⟩:=zBp a (N:=a.Net.Nodes.toNat) (by omega) (zjg a k) (zjh a k) (Ws a) (λ y hy=>zOk hn hy) (i:Int) false T d B h1 h2 h3 (by omega)
  have hB:Bd (B+400000000000) T':=λ v hv=>by have:=k4 v hv;omega
  have hw:w64 ((i:Int)+(1:Int))=((i+1:Nat):Int):=by rw[zay (by omega) (by omega)];omega
  obtain⟨r1,r2⟩:=ih k (i+1) T' (rnd (We a) d) (B+400000000000) k3 hB (by omega) (by omega) (by omega) (by omega)
  constructor
  ·show zjf a (zjh a k) (i : Int) T = true
   unfold zjf zsu
   rw[dqT (show (i:Int) < a.Net.Nodes by omega),dqA,q1,q2,k2]
   unfold zn0
   rw[hw,r1]
   cases ((Ws a).map edS |>.foldl rlF (d,false)).2 <;> rfl
  ·show zje a (zjg a k) (i : Int) T = cond ((We a).foldl rlF (d, false)).2 (zoA (We a) m (rnd (We a) d)) false
   unfold zje zst
   rw[dqT (show (i:Int) < a.Net.Nodes by omega),dqA,q2,k1]
   unfold znZ
   rw[hw,r2]
   show cond (!((We a).foldl rlF (d,false)).2) false _=_
   cases ((We a).foldl rlF (d,false)).2 <;> rfl
theorem zBq (a:web) (hn:NetOk a.Net):p60 a=true/\s60 a=zoA (We a) a.Net.Nodes.toNat (zBD a.Net.Nodes.toNat):=by
 have hn1:=hn.n1;have hn40:=hn.n40
 have:=ztr a hn a.Net.Nodes.toNat Fuel 0 (λ _=>(0:Int)) (zBD a.Net.Nodes.toNat) 0 (λ v hv=>dqP hv) (λ v hv=>⟨by show -(0:Int)<=(0:Int);omega,Int.le_refl _⟩) (by omega) (by omega) (by omega) (by simp only[Fuel];omega)
 exact this
theorem zBr (a:web) (hn:NetOk a.Net):s60 a=false↔zcA (We a):=by
 rw[(zBq a hn).2];exact zDC (zFd hn)
end Go.Proofs
namespace Go.Proofs
open Go Go.Pm
set_option maxRecDepth 100000
set_option linter.unusedVariables false
theorem zko (a b:far):p62 a ⟨1,λ _=>b⟩=true/\s62 a ⟨1,λ _=>b⟩=cond (s63 b a) b a:=by
 unfold p62 s62 zsJ zsI
 have key:∀ k,zjq (⟨1,λ _=>b⟩:Sl far) (k+2) (0:Int) a.length a.uses=true/\zjo (⟨1,λ _=>b⟩:Sl far) (k+2) (0:Int) a.length a.uses=cond (s63 b a) b a:=by
  intro k
  have hw:w64 ((0:Int)+(1:Int))=(1:Int):=by rw[zay (by omega) (by omega)];rfl
  have e1:∀ x y,zjo (⟨1,λ _=>b⟩:Sl far) (k+1) (1:Int) x y=(⟨x,y⟩:far):=λ x y=>by
   show zjm (⟨1,λ _=>b⟩:Sl far) (zjo (⟨1,λ _=>b⟩:Sl far) k) (1:Int) x y=_
   unfold zjm
   rw[dqF (show ¬ (1:Int) < ((1:Nat):Int) by omega),dqB]
  have e2:∀ x y,zjq (⟨1,λ _=>b⟩:Sl far) (k+1) (1:Int) x y=true:=λ x y=>by
   show zjn (⟨1,λ _=>b⟩:Sl far) (zjq (⟨1,λ _=>b⟩:Sl far) k) (1:Int) x y=_
   unfold zjn
   rw[dqF (show ¬ (1:Int) < ((1:Nat):Int) by omega),dqB]
  constructor
  ·show zjn (⟨1, fun _ => b⟩ : Sl far) (zjq (⟨1, fun _ => b⟩ : Sl far) (k + 1)) (0:Int) a.length a.uses = _
   unfold zjn zsH
   rw[dqT (show (0:Int) < ((1:Nat):Int) by omega),dqA,dqT (show 0<=(0:Int)/\(0:Int) < ((1:Nat):Int) by omega),Bool.true_and,hw,e2,e2]
   cases s63 b (⟨a.length,a.uses⟩:far) <;> rfl
  ·show zjm (⟨1, fun _ => b⟩ : Sl far) (zjo (⟨1, fun _ => b⟩ : Sl far) (k + 1)) (0:Int) a.length a.uses = _
   unfold zjm zsG
   rw[dqT (show (0:Int) < ((1:Nat):Int) by omega),dqA,hw,e1,e1]
 have:=key (Fuel - 2)
 rw[show Fuel - 2+2=Fuel by simp only[Fuel]] at this
 exact this
theorem zBs (a b:far):s63 a b=decide (a.length < b.length\/(a.length=b.length/\a.uses < b.uses)):=by
 unfold s63
 by_cases h1:a.length < b.length
 ·rw[dqT h1,dqA];exact (dqT (.inl h1)).symm
 ·rw [dqF h1, dqB]
  by_cases h2:a.length=b.length
  ·rw [show (a.length == b.length) = true from beq_iff_eq.2 h2, dqA]
   exact decide_eq_decide.2 ⟨λ h=>.inr ⟨h2,h⟩,λ h=>h.elim (λ h=>absurd h h1) (λ h=>h.2)⟩
  ·rw [show (a.length == b.length) = false from dqU.2 h2, dqB]
   exact (dqF (λ h=>h.elim h1 (λ h=>h2 h.1))).symm
def Rp (N:Nat) (T:Tab) (d:zdQ):Prop:=∀ v,v < N->(T (v * 2),T (v * 2+1))=zOW (d v)
def nv (x y:Int):Bool:=match (x == (1000000000000:Int)) with | true=>(match (y == (0:Int)) with | true=>true | false=>false) | false=>false
def sm (x y u v:Int):Bool:=match (x == u) with | true=>(match (y == v) with | true=>true | false=>false) | false=>false
theorem zvp (x y:Int):nv x y=decide ((x,y)=((1000000000000:Int),(0:Int))):=by
 unfold nv
 by_cases h1:x=1000000000000
 ·rw [show (x == (1000000000000:Int)) = true from beq_iff_eq.2 h1]
  by_cases h2:y=0
  ·rw[show (y == (0:Int))=true from beq_iff_eq.2 h2];exact (dqT (by rw[h1,h2])).symm
  ·rw[show (y == (0:Int))=false from dqU.2 h2];exact (dqF (λ h=>h2 (Prod.mk.inj h).2)).symm
 ·rw [show (x == (1000000000000:Int)) = false from dqU.2 h1]
  exact (dqF (λ h=>h1 (Prod.mk.inj h).1)).symm
theorem same_eq (x y u v:Int):sm x y u v=decide ((x,y)=(u,v)):=by
 unfold sm
 by_cases h1:x=u
 ·rw [show (x == u) = true from beq_iff_eq.2 h1]
  by_cases h2:y=v
  ·rw[show (y == v)=true from beq_iff_eq.2 h2];exact (dqT (by rw[h1,h2])).symm
  ·rw[show (y == v)=false from dqU.2 h2];exact (dqF (λ h=>h2 (Prod.mk.inj h).2)).symm
 ·rw [show (x == u) = false from dqU.2 h1]
  exact (dqF (λ h=>h1 (Prod.mk.inj h).1)).symm
theorem zkp {E : List Ed} {n s v : Nat} (hE : EdOk E n) (hs : s < n) {d : zdQ} (hd : Inv (E.map edM) (fun v => v = s) d) {x : Int} (hx : d v = some x) :
  ∃ L U,zOW (d v)=(L,U)/\x=L * 1048576+U/\0<=U/\U < 40/\-40000000000<=L/\L<=40000000000:=by
 obtain⟨c,hc⟩:=zFb hE hs hd hx
 have h1:=zvo hE hc.ch
 have h2:=hc.len
 have h3:=hE.n40
 refine⟨wt c,c.length,?_,hc.x,by omega,by omega,by omega,by omega⟩
 rw[hx,hc.x]
 exact ztm (by omega) (by omega)
end Go.Proofs
namespace Go.Proofs
open Go Go.Pm
set_option maxRecDepth 100000
set_option linter.unusedVariables false
theorem zOm (a : web) {N s : Nat} (E : List Ed) (hE : EdOk E N) (hn : zcA E) (hs : s < N) (S2 : Bool → Tab → Tab → Tab) (P2 : Bool → Tab → Tab → Bool) (y : step) (hy : StOk y N) (hm : edS y ∈ E) (S3 : Bool → Tab → Tab → Tab) (P3 : Bool → Tab → Tab → Bool) (c : Bool) (T4 T : Tab) (d : zdQ) (h1 : Rp N T d) (hi : Inv (E.map edM) (fun v => v = s) d) :
  ∃ T',zoc S2 a y S3 c T4 T=S3 (rlF (d,c) (edM (edS y))).2 T4 T'/\zod P2 a y P3 c T4 T=P3 (rlF (d,c) (edM (edS y))).2 T4 T'/\Rp N T' (rlF (d,c) (edM (edS y))).1:=by
 have hN:=hE.n40
 have f0:=hy.f0;have f1:=hy.f1;have t0:=hy.t0;have t1:=hy.t1;have l0:=hy.l0;have l1:=hy.l1
 have hu:=h1 y.from_.toNat (by omega)
 have hv:=h1 y.to.toNat (by omega)
 have e1:0+y.from_.toNat * 2+0=y.from_.toNat * 2:=by omega
 have e2:0+y.to.toNat * 2+0=y.to.toNat * 2:=by omega
 have e3:0+y.from_.toNat * 2+1=y.from_.toNat * 2+1:=by omega
 have hin:=zlG (Src:=λ v=>v=s) (zgG hn) (s:=(d,c)) (e:=edM (edS y)) (List.mem_map_of_mem hm) hi
 have hS:zoc S2 a y S3 c T4 T=cond (nv (tg 80 T (0+y.from_.toNat * 2+0)) (tg 80 T (0+y.from_.toNat * 2+0+1))) (S3 c T4 T) (cond c (S3 true T4 (ts 80 T (0+y.to.toNat * 2+0) [(s62 (⟨(tg 80 T (0+y.to.toNat * 2+0)),(tg 80 T (0+y.to.toNat * 2+0+1))⟩:far) (⟨1,λ _=>(⟨(w64 ((tg 80 T (0+y.from_.toNat * 2+0))+y.length)),(w64 ((tg 80 T (0+y.from_.toNat * 2+1))+(1:Int)))⟩:far)⟩:(Sl far))).length,(s62 (⟨(tg 80 T (0+y.to.toNat * 2+0)),(tg 80 T (0+y.to.toNat * 2+0+1))⟩:far) (⟨1,λ _=>(⟨(w64 ((tg 80 T (0+y.from_.toNat * 2+0))+y.length)),(w64 ((tg 80 T (0+y.from_.toNat * 2+1))+(1:Int)))⟩:far)⟩:(Sl far))).uses])) (S3 (!(sm (s62 (⟨(tg 80 T (0+y.to.toNat * 2+0)),(tg 80 T (0+y.to.toNat * 2+0+1))⟩:far) (⟨1,λ _=>(⟨(w64 ((tg 80 T (0+y.from_.toNat * 2+0))+y.length)),(w64 ((tg 80 T (0+y.from_.toNat * 2+1))+(1:Int)))⟩:far)⟩:(Sl far))).length (s62 (⟨(tg 80 T (0+y.to.toNat * 2+0)),(tg 80 T (0+y.to.toNat * 2+0+1))⟩:far) (⟨1,λ _=>(⟨(w64 ((tg 80 T (0+y.from_.toNat * 2+0))+y.length)),(w64 ((tg 80 T (0+y.from_.toNat * 2+1))+(1:Int)))⟩:far)⟩:(Sl far))).uses (tg 80 T (0+y.to.toNat * 2+0)) (tg 80 T (0+y.to.toNat * 2+0+1)))) T4 (ts 80 T (0+y.to.toNat * 2+0) [(s62 (⟨(tg 80 T (0+y.to.toNat * 2+0)),(tg 80 T (0+y.to.toNat * 2+0+1))⟩:far) (⟨1,λ _=>(⟨(w64 ((tg 80 T (0+y.from_.toNat * 2+0))+y.length)),(w64 ((tg 80 T (0+y.from_.toNat * 2+1))+(1:Int)))⟩:far)⟩:(Sl far))).length,(s62 (⟨(tg 80 T (0+y.to.toNat * 2+0)),(tg 80 T (0+y.to.toNat * 2+0+1))⟩:far) (⟨1,λ _=>(⟨(w64 ((tg 80 T (0+y.from_.toNat * 2+0))+y.length)),(w64 ((tg 80 T (0+y.from_.toNat * 2+1))+(1:Int)))⟩:far)⟩:(Sl far))).uses]))):=rfl
 have hP:zod P2 a y P3 c T4 T=(decide (0<=y.from_/\y.from_ < (40:Int)) && cond (nv (tg 80 T (0+y.from_.toNat * 2+0)) (tg 80 T (0+y.from_.toNat * 2+0+1))) (P3 c T4 T) (decide (0<=y.to/\y.to < (40:Int)) && (decide (0<=y.from_/\y.from_ < (40:Int)) && (decide (0<=y.from_/\y.from_ < (40:Int)) && (decide (p62 (⟨(tg 80 T (0+y.to.toNat * 2+0)),(tg 80 T (0+y.to.toNat * 2+0+1))⟩:far) (⟨1,λ _=>(⟨(w64 ((tg 80 T (0+y.from_.toNat * 2+0))+y.length)),(w64 ((tg 80 T (0+y.from_.toNat * 2+1))+(1:Int)))⟩:far)⟩:(Sl far))=true) && cond c (decide (0<=y.to/\y.to < (40:Int)) && P3 true T4 (ts 80 T (0+y.to.toNat * 2+0) [(s62 (⟨(tg 80 T (0+y.to.toNat * 2+0)),(tg 80 T (0+y.to.toNat * 2+0+1))⟩:far) (⟨1,λ _=>(⟨(w64 ((tg 80 T (0+y.from_.toNat * 2+0))+y.length)),(w64 ((tg 80 T (0+y.from_.toNat * 2+1))+(1:Int)))⟩:far)⟩:(Sl far))).length,(s62 (⟨(tg 80 T (0+y.to.toNat * 2+0)),(tg 80 T (0+y.to.toNat * 2+0+1))⟩:far) (⟨1,λ _=>(⟨(w64 ((tg 80 T (0+y.from_.toNat * 2+0))+y.length)),(w64 ((tg 80 T (0+y.from_.toNat * 2+1))+(1:Int)))⟩:far)⟩:(Sl far))).uses])) (decide (0<=y.to/\y.to < (40:Int)) && (decide (0<=y.to/\y.to < (40:Int)) && P3 (!(sm (s62 (⟨(tg 80 T (0+y.to.toNat * 2+0)),(tg 80 T (0+y.to.toNat * 2+0+1))⟩:far) (⟨1,λ _=>(⟨(w64 ((tg 80 T (0+y.from_.toNat * 2+0))+y.length)),(w64 ((tg 80 T (0+y.from_.toNat * 2+1))+(1:Int)))⟩:far)⟩:(Sl far))).length (s62 (⟨(tg 80 T (0+y.to.toNat * 2+0)),(tg 80 T (0+y.to.toNat * 2+0+1))⟩:far) (⟨1,λ _=>(⟨(w64 ((tg 80 T (0+y.from_.toNat * 2+0))+y.length)),(w64 ((tg 80 T (0+y.from_.toNat * 2+1))+(1:Int)))⟩:far)⟩:(Sl far))).uses (tg 80 T (0+y.to.toNat * 2+0)) (tg 80 T (0+y.to.toNat * 2+0+1)))) T4 (ts 80 T (0+y.to.toNat * 2+0) [(s62 (⟨(tg 80 T (0+y.to.toNat * 2+0)),(tg 80 T (0+y.to.toNat * 2+0+1))⟩:far) (⟨1,λ _=>(⟨(w64 ((tg 80 T (0+y.from_.toNat * 2+0))+y.length)),(w64 ((tg 80 T (0+y.from_.toNat * 2+1))+(1:Int)))⟩:far)⟩:(Sl far))).length,(s62 (⟨(tg 80 T (0+y.to.toNat * 2+0)),(tg 80 T (0+y.to.toNat * 2+0+1))⟩:far) (⟨1,λ _=>(⟨(w64 ((tg 80 T (0+y.from_.toNat * 2+0))+y.length)),(w64 ((tg 80 T (0+y.from_.toNat * 2+1))+(1:Int)))⟩:far)⟩:(Sl far))).uses])))))))):=rfl
 rw[hS,hP]
 clear hS hP
 rw[e1,e2,e3,zg3 (k:=y.from_.toNat * 2) (by omega),zg3 (k:=y.from_.toNat * 2+1) (by omega),zg3 (k:=y.to.toNat * 2) (by omega),zg3 (k:=y.to.toNat * 2+1) (by omega)]
 rw[dqT (show 0<=y.from_/\y.from_ < (40:Int) by omega),dqT (show 0<=y.to/\y.to < (40:Int) by omega)]
 simp only[zvp,same_eq]
 cases hdu:d y.from_.toNat with
 | none =>
  rw[hdu] at hu
  have hr:rlF (d,c) (edM (edS y))=(d,c):=by
   unfold rlF edM edS
   simp only[hdu]
  rw[hr,dqT (show (T (y.from_.toNat * 2),T (y.from_.toNat * 2+1))=((1000000000000:Int),(0:Int)) from hu)]
  exact⟨T,rfl,rfl,h1⟩
 | some x =>
  obtain⟨L,U,k1,k2,k3,k4,k5,k6⟩:=zkp hE hs hi hdu
  rw[hdu] at hu k1
  rw[k1] at hu
  have hL:T (y.from_.toNat * 2)=L:=(Prod.mk.inj hu).1
  have hU:T (y.from_.toNat * 2+1)=U:=(Prod.mk.inj hu).2
  rw[hL,hU,dqF (show ¬ (L,U)=((1000000000000:Int),(0:Int)) from λ h=>by have:=(Prod.mk.inj h).1;omega),zay (x:=L+y.length) (by omega) (by omega),zay (x:=U+(1:Int)) (by omega) (by omega)]
  rw[(zko _ _).1,(zko _ _).2,zBs]
  have hw:x+(edM (edS y)).w=(L+y.length) * 1048576+(U+1):=by
   show x+(y.length * 1048576+1)=_
   omega
  have hr:rlF (d,c) (edM (edS y))=cond (ltO ((L+y.length) * 1048576+(U+1)) (d y.to.toNat)) (zvk d y.to.toNat ((L+y.length) * 1048576+(U+1)),true) (d,c):=by
   rw[<- hw]
   unfold rlF edM edS
   simp only[hdu] <;> rfl
  have hlt:decide ((L+y.length < T (y.to.toNat * 2))\/(L+y.length=T (y.to.toNat * 2)/\U+1 < T (y.to.toNat * 2+1)))=ltO ((L+y.length) * 1048576+(U+1)) (d y.to.toNat):=by
   cases hdv:d y.to.toNat with
   | none =>
    rw[hdv] at hv
    have hv1:T (y.to.toNat * 2)=1000000000000:=(Prod.mk.inj hv).1
    rw[hv1]
    exact dqT (.inl (by omega))
   | some z =>
    obtain⟨L',U',m1,m2,m3,m4,m5,m6⟩:=zkp hE hs hi hdv
    rw[hdv] at hv m1
    rw[m1] at hv
    rw[(Prod.mk.inj hv).1,(Prod.mk.inj hv).2,m2]
    exact decide_eq_decide.2 (by omega)
  simp only[hlt]
  rw[hr] at hin ⊢
  have hrw:∀ T'',Rp N T d->T''=ts 80 T (y.to.toNat * 2) [T (y.to.toNat * 2),T (y.to.toNat * 2+1)]->Rp N T'' d:=λ T'' h e v hv'=>by
   rw[e,zd6 (by omega),zd6 (by omega),<- h v hv']
   by_cases hq:v=y.to.toNat
   ·subst hq
    rw[dqG (by omega),dqP rfl,dqP rfl]
   ·rw[dqG (by omega),dqG (by omega),dqG (by omega),dqG (by omega)]
  cases hlo:ltO ((L+y.length) * 1048576+(U+1)) (d y.to.toNat) with
  | false =>
   refine⟨ts 80 T (y.to.toNat * 2) [T (y.to.toNat * 2),T (y.to.toNat * 2+1)],?_,?_,hrw _ h1 rfl⟩
   ·simp only [dqB, decide_true]
    cases c <;> rfl
   ·simp only [dqB, Bool.true_and, decide_true]
    cases c <;> rfl
  | true =>
   rw[hlo] at hin
   simp only[dqA,dqB,Bool.true_and,decide_true] at hin ⊢
   refine⟨ts 80 T (y.to.toNat * 2) [L+y.length,U+1],?_,?_,?_⟩
   ·cases c
    ·rw [dqF]
     ·rfl
     ·intro h
      rw[<- hlt] at hlo
      have:=of_decide_eq_true hlo
      have h1':=(Prod.mk.inj h).1
      have h2':=(Prod.mk.inj h).2
      omega
    ·rfl
   ·cases c
    ·rw [dqF]
     ·rfl
     ·intro h
      rw[<- hlt] at hlo
      have:=of_decide_eq_true hlo
      have h1':=(Prod.mk.inj h).1
      have h2':=(Prod.mk.inj h).2
      omega
    ·rfl
   ·intro v hv'
    rw[zd6 (by omega),zd6 (by omega)]
    unfold zvk
    by_cases hq:v=y.to.toNat
    ·subst hq
     rw[dqG (by omega),dqP rfl,dqP rfl,dqP rfl]
     exact (ztm (by omega) (by omega)).symm
    ·rw [dqG (by omega), dqG (by omega), dqG (by omega), dqG (by omega), dqG hq]
     exact h1 v hv'
theorem zOn (a:web){N s:Nat}(E:List Ed) (hE:EdOk E N) (hn:zcA E) (hs:s < N) (S2:Bool->Tab->Tab->Tab) (P2:Bool->Tab->Tab->Bool):∀ (l:List step),(∀ y∈l,StOk y N/\edS y∈E)->∀ (c:Bool) (T4 T:Tab) (d:zdQ),Rp N T d->Inv (E.map edM) (λ v=>v=s) d ->
  ∃ T',zoe S2 a l c T4 T=S2 (((l.map edS).map edM).foldl rlF (d,c)).2 T4 T'/\zof P2 a l c T4 T=P2 (((l.map edS).map edM).foldl rlF (d,c)).2 T4 T'/\Rp N T' (((l.map edS).map edM).foldl rlF (d,c)).1:=by
 intro l
 induction l with
 | nil=>intro _ c T4 T d h1 _;exact⟨T,rfl,rfl,h1⟩
 | cons y l ih =>
  intro hl c T4 T d h1 h2
  obtain⟨hy,hm⟩:=hl y (dqj ..)
  obtain⟨T',k1,k2,k3⟩:=zOm a E hE hn hs S2 P2 y hy hm (zoe S2 a l) (zof P2 a l) c T4 T d h1 h2
  have h3:=zlG (Src:=λ v=>v=s) (zgG hn) (s:=(d,c)) (e:=edM (edS y)) (List.mem_map_of_mem hm) h2
  obtain⟨T'',m1,m2,m3⟩:=ih (λ z hz=>hl z (dqf _ hz)) (rlF (d,c) (edM (edS y))).2 T4 T' (rlF (d,c) (edM (edS y))).1 k3 h3
  exact⟨T'',Eq.trans k1 m1,Eq.trans k2 m2,m3⟩
theorem zDD (a:web) (hnet:NetOk a.Net) (E:List Ed) (hEe:E=(Ws a).map edS){s:Nat}(hE:EdOk E a.Net.Nodes.toNat) (hn:zcA E) (hs:s < a.Net.Nodes.toNat):∀ (m k:Nat) (T4 T:Tab) (d:zdQ),Rp a.Net.Nodes.toNat T d->Inv (E.map edM) (λ v=>v=s) d->Fix (E.map edM) (rds (E.map edM) m d)->m+1 < k ->
  ∃ T',zgA a k true T4 T=true/\zgz a k true T4 T=T'/\Rp a.Net.Nodes.toNat T' (rds (E.map edM) m d):=by
 have hlen:=hnet.len
 obtain⟨q1,q2⟩:=ztq a (by omega)
 have hst:∀ y∈Ws a,StOk y a.Net.Nodes.toNat/\edS y∈E:=λ y hy=>⟨zOk hnet hy,by rw[hEe];exact List.mem_map_of_mem hy⟩
 have one:∀ (k:Nat) (T4 T:Tab) (d:zdQ),Rp a.Net.Nodes.toNat T d->Inv (E.map edM) (λ v=>v=s) d ->
   ∃ T',zgz a (k+1) true T4 T=zgz a k ((E.map edM).foldl rlF (d,false)).2 T4 T'/\zgA a (k+1) true T4 T=zgA a k ((E.map edM).foldl rlF (d,false)).2 T4 T'/\Rp a.Net.Nodes.toNat T' (rnd (E.map edM) d):=by
  intro k T4 T d h1 h2
  obtain⟨T',k1,k2,k3⟩:=zOn a E hE hn hs (zgz a k) (zgA a k) (Ws a) hst false T4 T d h1 h2
  rw[<- hEe] at k1 k2 k3
  refine⟨T',?_,?_,k3⟩
  ·show zog a (zgz a k) true T4 T = _
   unfold zog zsO
   rw[dqA,q2];exact k1
  ·show zoh a (zgA a k) true T4 T = _
   unfold zoh zsP
   rw[dqA,q1,q2,dqT rfl,Bool.true_and];exact k2
 have stop:∀ (k:Nat) (T4 T:Tab),zgz a (k+1) false T4 T=T/\zgA a (k+1) false T4 T=true:=λ k T4 T=>⟨rfl,rfl⟩
 intro m
 induction m with
 | zero =>
  intro k T4 T d h1 h2 h3 hk
  obtain⟨k,rfl⟩:∃ k',k=k'+1+1:=⟨k - 2,by omega⟩
  obtain⟨T',k1,k2,k3⟩:=one (k+1) T4 T d h1 h2
  have h3':Fix (E.map edM) d:=h3
  rw[zkn h3'] at k1 k2
  rw[zlF h3'] at k3
  obtain⟨j1,j2⟩:=stop k T4 T'
  exact⟨T',k2.trans j2,k1.trans j1,k3⟩
 | succ m ih =>
  intro k T4 T d h1 h2 h3 hk
  obtain⟨k,rfl⟩:∃ k',k=k'+1+1:=⟨k - 2,by omega⟩
  obtain⟨T',k1,k2,k3⟩:=one (k+1) T4 T d h1 h2
  cases hf:((E.map edM).foldl rlF (d,false)).2 with
  | false =>
   rw[hf] at k1 k2
   have hx:Fix (E.map edM) d:=zjB hf
   obtain⟨j1,j2⟩:=stop k T4 T'
   refine⟨T',k2.trans j2,k1.trans j1,?_⟩
   rw[zlF hx] at k3
   rw[zBg hx];exact k3
  | true =>
   rw[hf] at k1 k2
   obtain⟨T'',m1,m2,m3⟩:=ih (k+1) T4 T' (rnd (E.map edM) d) k3 (zoy (zgG hn) (λ _ h=>h) (s:=(d,false)) h2) h3 (by omega)
   exact⟨T'',k2.trans m1,k1.trans m2,m3⟩
theorem zJ4 (a:web) (node:Int):∀ (m k i:Nat) (T4 T:Tab),(∀ v,v < i->T (v * 2)=1000000000000/\T (v * 2+1)=0)->i+m=40->m < k ->
  ∃ T',zjx a node k (i:Int) T4 T=zoi a node T4 T'/\zjy a node k (i:Int) T4 T=zoj a node T4 T'/\∀ v,v < 40->T' (v * 2)=1000000000000/\T' (v * 2+1)=0:=by
 intro m
 induction m with
 | zero =>
  intro k i T4 T h hi hk
  obtain⟨k,rfl⟩:∃ k',k=k'+1:=⟨k - 1,by omega⟩
  refine⟨T,?_,?_,λ v hv=>h v (by omega)⟩
  ·show zjv a node (zjx a node k) (i : Int) T4 T = _
   unfold zjv
   rw[dqF (show ¬ (i:Int) < (40:Int) by omega),dqB]
  ·show zjw a node (zjy a node k) (i : Int) T4 T = _
   unfold zjw
   rw[dqF (show ¬ (i:Int) < (40:Int) by omega),dqB]
 | succ m ih =>
  intro k i T4 T h hi hk
  obtain⟨k,rfl⟩:∃ k',k=k'+1:=⟨k - 1,by omega⟩
  have hw:w64 ((i:Int)+(1:Int))=((i+1:Nat):Int):=by rw[zay (by omega) (by omega)];omega
  obtain⟨T',k1,k2,k3⟩:=ih k (i+1) T4 (ts 80 T (i * 2) [(1000000000000:Int),(0:Int)]) (λ v hv=>by
   rw[zd6 (by omega),zd6 (by omega)]
   by_cases hq:v=i
   ·subst hq
    rw[dqG (by omega),dqP rfl,dqP rfl];exact⟨rfl,rfl⟩
   ·rw[dqG (by omega),dqG (by omega),dqG (by omega),dqG (by omega)];exact h v (by omega)) (by omega) (by omega)
  refine⟨T',?_,?_,k3⟩
  ·rw [← k1]
   show zjv a node (zjx a node k) (i:Int) T4 T=_
   unfold zjv
   rw[dqT (show (i:Int) < (40:Int) by omega),dqA,hw,dqN,show 0+i * 2+0=i * 2 by omega]
  ·rw [← k2]
   show zjw a node (zjy a node k) (i:Int) T4 T=_
   unfold zjw
   rw[dqT (show (i:Int) < (40:Int) by omega),dqA,dqT (show 0<=(i:Int)/\(i:Int) < (40:Int) by omega),Bool.true_and,hw,dqN,show 0+i * 2+0=i * 2 by omega]
theorem zOo (a : web) (hnet : NetOk a.Net) (hn : zcA (We a)) (node : Int) (h0 : 0 ≤ node) (h1 : node < a.Net.Nodes) :
  p35 a node=true/\Rp a.Net.Nodes.toNat (s35 a node) (dst (We a) a.Net.Nodes.toNat node.toNat):=by
 have hn40:=hnet.n40
 have hEe:We a=(Ws a).map edS:=rfl
 have hE:EdOk (We a) a.Net.Nodes.toNat:=zFd hnet
 have hN:zcA (We a):=hn
 have hs:node.toNat < a.Net.Nodes.toNat:=by omega
 obtain⟨T1,a1,a2,a3⟩:=zJ4 a node 40 Fuel 0 (λ _=>(0:Int)) (λ _=>(0:Int)) (λ v hv=>absurd hv (dqW _)) rfl (by simp only[Fuel];omega)
 have hr:Rp a.Net.Nodes.toNat (ts 80 T1 (node.toNat * 2) [(0:Int),(0:Int)]) (zBj node.toNat):=λ v hv=>by
  rw[zd6 (by omega),zd6 (by omega)]
  unfold zBj
  by_cases hq:v=node.toNat
  ·subst hq
   rw[dqG (by omega),dqP rfl,dqP rfl,dqP rfl];rfl
  ·rw[dqG (by omega),dqG (by omega),dqG (by omega),dqG (by omega),dqG hq,(a3 v (by omega)).1,(a3 v (by omega)).2];rfl
 obtain⟨T2,b1,b2,b3⟩:=zDD a hnet (We a) hEe hE hN hs (a.Net.Nodes.toNat - 1) Fuel (λ _=>(0:Int)) (ts 80 T1 (node.toNat * 2) [(0:Int),(0:Int)]) (zBj node.toNat) hr (zim (zgU node.toNat)) (ztn hE hN hs) (by simp only[Fuel];omega)
 have e:0+node.toNat * 2+0=node.toNat * 2:=by omega
 constructor
 ·show zjy a node Fuel 0 (fun _ => (0:Int)) (fun _ => (0:Int)) = true
  refine Eq.trans a2 ?_
  unfold zoj zsR
  rw[dqT (show 0<=node/\node < (40:Int) by omega),Bool.true_and,e];exact b1
 ·have:s35 a node=T2:=by
   show zjx a node Fuel 0 (λ _=>(0:Int)) (λ _=>(0:Int))=T2
   refine Eq.trans a1 ?_
   unfold zoi zsQ
   rw[e];exact b2
  rw[this];exact b3
end Go.Proofs
namespace Go.Proofs
open Go Go.Pm
set_option maxRecDepth 100000
set_option linter.unusedVariables false
def edQ (y:step):Ed:=⟨y.to.toNat,y.from_.toNat,y.length⟩
theorem zJ5 (l:List step):l.map edQ=(l.map edS).map edR:=by rw[List.map_map];rfl

theorem zOp (a : web) {N s : Nat} (E : List Ed) (hE : EdOk E N) (hn : zcA E) (hs : s < N) (S2 : Bool → Tab → Tab → Tab) (P2 : Bool → Tab → Tab → Bool) (y : step) (hy : StOk y N) (hm : edQ y ∈ E) (S3 : Bool → Tab → Tab → Tab) (P3 : Bool → Tab → Tab → Bool) (c : Bool) (T4 T : Tab) (d : zdQ) (h1 : Rp N T d) (hi : Inv (E.map edM) (fun v => v = s) d) :
  ∃ T',zn4 S2 a y S3 c T4 T=S3 (rlF (d,c) (edM (edQ y))).2 T4 T'/\zn5 P2 a y P3 c T4 T=P3 (rlF (d,c) (edM (edQ y))).2 T4 T'/\Rp N T' (rlF (d,c) (edM (edQ y))).1:=by
 have hN:=hE.n40
 have f0:=hy.f0;have f1:=hy.f1;have t0:=hy.t0;have t1:=hy.t1;have l0:=hy.l0;have l1:=hy.l1
 have hu:=h1 y.to.toNat (by omega)
 have hv:=h1 y.from_.toNat (by omega)
 have e1:0+y.to.toNat * 2+0=y.to.toNat * 2:=by omega
 have e2:0+y.from_.toNat * 2+0=y.from_.toNat * 2:=by omega
 have e3:0+y.to.toNat * 2+1=y.to.toNat * 2+1:=by omega
 have hin:=zlG (Src:=λ v=>v=s) (zgG hn) (s:=(d,c)) (e:=edM (edQ y)) (List.mem_map_of_mem hm) hi
 have hS:zn4 S2 a y S3 c T4 T=cond (nv (tg 80 T (0+y.to.toNat * 2+0)) (tg 80 T (0+y.to.toNat * 2+0+1))) (S3 c T4 T) (cond c (S3 true T4 (ts 80 T (0+y.from_.toNat * 2+0) [(s62 (⟨(tg 80 T (0+y.from_.toNat * 2+0)),(tg 80 T (0+y.from_.toNat * 2+0+1))⟩:far) (⟨1,λ _=>(⟨(w64 ((tg 80 T (0+y.to.toNat * 2+0))+y.length)),(w64 ((tg 80 T (0+y.to.toNat * 2+1))+(1:Int)))⟩:far)⟩:(Sl far))).length,(s62 (⟨(tg 80 T (0+y.from_.toNat * 2+0)),(tg 80 T (0+y.from_.toNat * 2+0+1))⟩:far) (⟨1,λ _=>(⟨(w64 ((tg 80 T (0+y.to.toNat * 2+0))+y.length)),(w64 ((tg 80 T (0+y.to.toNat * 2+1))+(1:Int)))⟩:far)⟩:(Sl far))).uses])) (S3 (!(sm (s62 (⟨(tg 80 T (0+y.from_.toNat * 2+0)),(tg 80 T (0+y.from_.toNat * 2+0+1))⟩:far) (⟨1,λ _=>(⟨(w64 ((tg 80 T (0+y.to.toNat * 2+0))+y.length)),(w64 ((tg 80 T (0+y.to.toNat * 2+1))+(1:Int)))⟩:far)⟩:(Sl far))).length (s62 (⟨(tg 80 T (0+y.from_.toNat * 2+0)),(tg 80 T (0+y.from_.toNat * 2+0+1))⟩:far) (⟨1,λ _=>(⟨(w64 ((tg 80 T (0+y.to.toNat * 2+0))+y.length)),(w64 ((tg 80 T (0+y.to.toNat * 2+1))+(1:Int)))⟩:far)⟩:(Sl far))).uses (tg 80 T (0+y.from_.toNat * 2+0)) (tg 80 T (0+y.from_.toNat * 2+0+1)))) T4 (ts 80 T (0+y.from_.toNat * 2+0) [(s62 (⟨(tg 80 T (0+y.from_.toNat * 2+0)),(tg 80 T (0+y.from_.toNat * 2+0+1))⟩:far) (⟨1,λ _=>(⟨(w64 ((tg 80 T (0+y.to.toNat * 2+0))+y.length)),(w64 ((tg 80 T (0+y.to.toNat * 2+1))+(1:Int)))⟩:far)⟩:(Sl far))).length,(s62 (⟨(tg 80 T (0+y.from_.toNat * 2+0)),(tg 80 T (0+y.from_.toNat * 2+0+1))⟩:far) (⟨1,λ _=>(⟨(w64 ((tg 80 T (0+y.to.toNat * 2+0))+y.length)),(w64 ((tg 80 T (0+y.to.toNat * 2+1))+(1:Int)))⟩:far)⟩:(Sl far))).uses]))):=rfl
 have hP:zn5 P2 a y P3 c T4 T=(decide (0<=y.to/\y.to < (40:Int)) && cond (nv (tg 80 T (0+y.to.toNat * 2+0)) (tg 80 T (0+y.to.toNat * 2+0+1))) (P3 c T4 T) (decide (0<=y.from_/\y.from_ < (40:Int)) && (decide (0<=y.to/\y.to < (40:Int)) && (decide (0<=y.to/\y.to < (40:Int)) && (decide (p62 (⟨(tg 80 T (0+y.from_.toNat * 2+0)),(tg 80 T (0+y.from_.toNat * 2+0+1))⟩:far) (⟨1,λ _=>(⟨(w64 ((tg 80 T (0+y.to.toNat * 2+0))+y.length)),(w64 ((tg 80 T (0+y.to.toNat * 2+1))+(1:Int)))⟩:far)⟩:(Sl far))=true) && cond c (decide (0<=y.from_/\y.from_ < (40:Int)) && P3 true T4 (ts 80 T (0+y.from_.toNat * 2+0) [(s62 (⟨(tg 80 T (0+y.from_.toNat * 2+0)),(tg 80 T (0+y.from_.toNat * 2+0+1))⟩:far) (⟨1,λ _=>(⟨(w64 ((tg 80 T (0+y.to.toNat * 2+0))+y.length)),(w64 ((tg 80 T (0+y.to.toNat * 2+1))+(1:Int)))⟩:far)⟩:(Sl far))).length,(s62 (⟨(tg 80 T (0+y.from_.toNat * 2+0)),(tg 80 T (0+y.from_.toNat * 2+0+1))⟩:far) (⟨1,λ _=>(⟨(w64 ((tg 80 T (0+y.to.toNat * 2+0))+y.length)),(w64 ((tg 80 T (0+y.to.toNat * 2+1))+(1:Int)))⟩:far)⟩:(Sl far))).uses])) (decide (0<=y.from_/\y.from_ < (40:Int)) && (decide (0<=y.from_/\y.from_ < (40:Int)) && P3 (!(sm (s62 (⟨(tg 80 T (0+y.from_.toNat * 2+0)),(tg 80 T (0+y.from_.toNat * 2+0+1))⟩:far) (⟨1,λ _=>(⟨(w64 ((tg 80 T (0+y.to.toNat * 2+0))+y.length)),(w64 ((tg 80 T (0+y.to.toNat * 2+1))+(1:Int)))⟩:far)⟩:(Sl far))).length (s62 (⟨(tg 80 T (0+y.from_.toNat * 2+0)),(tg 80 T (0+y.from_.toNat * 2+0+1))⟩:far) (⟨1,λ _=>(⟨(w64 ((tg 80 T (0+y.to.toNat * 2+0))+y.length)),(w64 ((tg 80 T (0+y.to.toNat * 2+1))+(1:Int)))⟩:far)⟩:(Sl far))).uses (tg 80 T (0+y.from_.toNat * 2+0)) (tg 80 T (0+y.from_.toNat * 2+0+1)))) T4 (ts 80 T (0+y.from_.toNat * 2+0) [(s62 (⟨(tg 80 T (0+y.from_.toNat * 2+0)),(tg 80 T (0+y.from_.toNat * 2+0+1))⟩:far) (⟨1,λ _=>(⟨(w64 ((tg 80 T (0+y.to.toNat * 2+0))+y.length)),(w64 ((tg 80 T (0+y.to.toNat * 2+1))+(1:Int)))⟩:far)⟩:(Sl far))).length,(s62 (⟨(tg 80 T (0+y.from_.toNat * 2+0)),(tg 80 T (0+y.from_.toNat * 2+0+1))⟩:far) (⟨1,λ _=>(⟨(w64 ((tg 80 T (0+y.to.toNat * 2+0))+y.length)),(w64 ((tg 80 T (0+y.to.toNat * 2+1))+(1:Int)))⟩:far)⟩:(Sl far))).uses])))))))):=rfl
 rw[hS,hP]
 clear hS hP
 rw[e1,e2,e3,zg3 (k:=y.to.toNat * 2) (by omega),zg3 (k:=y.to.toNat * 2+1) (by omega),zg3 (k:=y.from_.toNat * 2) (by omega),zg3 (k:=y.from_.toNat * 2+1) (by omega)]
 rw[dqT (show 0<=y.to/\y.to < (40:Int) by omega),dqT (show 0<=y.from_/\y.from_ < (40:Int) by omega)]
 simp only[zvp,same_eq]
 cases hdu:d y.to.toNat with
 | none =>
  rw[hdu] at hu
  have hr:rlF (d,c) (edM (edQ y))=(d,c):=by
   unfold rlF edM edQ
   simp only[hdu]
  rw[hr,dqT (show (T (y.to.toNat * 2),T (y.to.toNat * 2+1))=((1000000000000:Int),(0:Int)) from hu)]
  exact⟨T,rfl,rfl,h1⟩
 | some x =>
  obtain⟨L,U,k1,k2,k3,k4,k5,k6⟩:=zkp hE hs hi hdu
  rw[hdu] at hu k1
  rw[k1] at hu
  have hL:T (y.to.toNat * 2)=L:=(Prod.mk.inj hu).1
  have hU:T (y.to.toNat * 2+1)=U:=(Prod.mk.inj hu).2
  rw[hL,hU,dqF (show ¬ (L,U)=((1000000000000:Int),(0:Int)) from λ h=>by have:=(Prod.mk.inj h).1;omega),zay (x:=L+y.length) (by omega) (by omega),zay (x:=U+(1:Int)) (by omega) (by omega)]
  rw[(zko _ _).1,(zko _ _).2,zBs]
  have hw:x+(edM (edQ y)).w=(L+y.length) * 1048576+(U+1):=by
   show x+(y.length * 1048576+1)=_
   omega
  have hr:rlF (d,c) (edM (edQ y))=cond (ltO ((L+y.length) * 1048576+(U+1)) (d y.from_.toNat)) (zvk d y.from_.toNat ((L+y.length) * 1048576+(U+1)),true) (d,c):=by
   rw[<- hw]
   unfold rlF edM edQ
   simp only[hdu] <;> rfl
  have hlt:decide ((L+y.length < T (y.from_.toNat * 2))\/(L+y.length=T (y.from_.toNat * 2)/\U+1 < T (y.from_.toNat * 2+1)))=ltO ((L+y.length) * 1048576+(U+1)) (d y.from_.toNat):=by
   cases hdv:d y.from_.toNat with
   | none =>
    rw[hdv] at hv
    have hv1:T (y.from_.toNat * 2)=1000000000000:=(Prod.mk.inj hv).1
    rw[hv1]
    exact dqT (.inl (by omega))
   | some z =>
    obtain⟨L',U',m1,m2,m3,m4,m5,m6⟩:=zkp hE hs hi hdv
    rw[hdv] at hv m1
    rw[m1] at hv
    rw[(Prod.mk.inj hv).1,(Prod.mk.inj hv).2,m2]
    exact decide_eq_decide.2 (by omega)
  simp only[hlt]
  rw[hr] at hin ⊢
  have hrw:∀ T'',Rp N T d->T''=ts 80 T (y.from_.toNat * 2) [T (y.from_.toNat * 2),T (y.from_.toNat * 2+1)]->Rp N T'' d:=λ T'' h e v hv'=>by
   rw[e,zd6 (by omega),zd6 (by omega),<- h v hv']
   by_cases hq:v=y.from_.toNat
   ·subst hq
    rw[dqG (by omega),dqP rfl,dqP rfl]
   ·rw[dqG (by omega),dqG (by omega),dqG (by omega),dqG (by omega)]
  cases hlo:ltO ((L+y.length) * 1048576+(U+1)) (d y.from_.toNat) with
  | false =>
   refine⟨ts 80 T (y.from_.toNat * 2) [T (y.from_.toNat * 2),T (y.from_.toNat * 2+1)],?_,?_,hrw _ h1 rfl⟩
   ·simp only [dqB, decide_true]
    cases c <;> rfl
   ·simp only [dqB, Bool.true_and, decide_true]
    cases c <;> rfl
  | true =>
   rw[hlo] at hin
   simp only[dqA,dqB,Bool.true_and,decide_true] at hin ⊢
   refine⟨ts 80 T (y.from_.toNat * 2) [L+y.length,U+1],?_,?_,?_⟩
   ·cases c
    ·rw [dqF]
     ·rfl
     ·intro h
      rw[<- hlt] at hlo
      have:=of_decide_eq_true hlo
      have h1':=(Prod.mk.inj h).1
      have h2':=(Prod.mk.inj h).2
      omega
    ·rfl
   ·cases c
    ·rw [dqF]
     ·rfl
     ·intro h
      rw[<- hlt] at hlo
      have:=of_decide_eq_true hlo
      have h1':=(Prod.mk.inj h).1
      have h2':=(Prod.mk.inj h).2
      omega
    ·rfl
   ·intro v hv'
    rw[zd6 (by omega),zd6 (by omega)]
    unfold zvk
    by_cases hq:v=y.from_.toNat
    ·subst hq
     rw[dqG (by omega),dqP rfl,dqP rfl,dqP rfl]
     exact (ztm (by omega) (by omega)).symm
    ·rw [dqG (by omega), dqG (by omega), dqG (by omega), dqG (by omega), dqG hq]
     exact h1 v hv'
theorem zOq (a:web){N s:Nat}(E:List Ed) (hE:EdOk E N) (hn:zcA E) (hs:s < N) (S2:Bool->Tab->Tab->Tab) (P2:Bool->Tab->Tab->Bool):∀ (l:List step),(∀ y∈l,StOk y N/\edQ y∈E)->∀ (c:Bool) (T4 T:Tab) (d:zdQ),Rp N T d->Inv (E.map edM) (λ v=>v=s) d ->
  ∃ T',zn6 S2 a l c T4 T=S2 (((l.map edQ).map edM).foldl rlF (d,c)).2 T4 T'/\zn7 P2 a l c T4 T=P2 (((l.map edQ).map edM).foldl rlF (d,c)).2 T4 T'/\Rp N T' (((l.map edQ).map edM).foldl rlF (d,c)).1:=by
 intro l
 induction l with
 | nil=>intro _ c T4 T d h1 _;exact⟨T,rfl,rfl,h1⟩
 | cons y l ih =>
  intro hl c T4 T d h1 h2
  obtain⟨hy,hm⟩:=hl y (dqj ..)
  obtain⟨T',k1,k2,k3⟩:=zOp a E hE hn hs S2 P2 y hy hm (zn6 S2 a l) (zn7 P2 a l) c T4 T d h1 h2
  have h3:=zlG (Src:=λ v=>v=s) (zgG hn) (s:=(d,c)) (e:=edM (edQ y)) (List.mem_map_of_mem hm) h2
  obtain⟨T'',m1,m2,m3⟩:=ih (λ z hz=>hl z (dqf _ hz)) (rlF (d,c) (edM (edQ y))).2 T4 T' (rlF (d,c) (edM (edQ y))).1 k3 h3
  exact⟨T'',Eq.trans k1 m1,Eq.trans k2 m2,m3⟩
theorem zDE (a:web) (hnet:NetOk a.Net) (E:List Ed) (hEe:E=(Ws a).map edQ){s:Nat}(hE:EdOk E a.Net.Nodes.toNat) (hn:zcA E) (hs:s < a.Net.Nodes.toNat):∀ (m k:Nat) (T4 T:Tab) (d:zdQ),Rp a.Net.Nodes.toNat T d->Inv (E.map edM) (λ v=>v=s) d->Fix (E.map edM) (rds (E.map edM) m d)->m+1 < k ->
  ∃ T',zgy a k true T4 T=true/\zgx a k true T4 T=T'/\Rp a.Net.Nodes.toNat T' (rds (E.map edM) m d):=by
 have hlen:=hnet.len
 obtain⟨q1,q2⟩:=ztq a (by omega)
 have hst:∀ y∈Ws a,StOk y a.Net.Nodes.toNat/\edQ y∈E:=λ y hy=>⟨zOk hnet hy,by rw[hEe];exact List.mem_map_of_mem hy⟩
 have one:∀ (k:Nat) (T4 T:Tab) (d:zdQ),Rp a.Net.Nodes.toNat T d->Inv (E.map edM) (λ v=>v=s) d ->
   ∃ T',zgx a (k+1) true T4 T=zgx a k ((E.map edM).foldl rlF (d,false)).2 T4 T'/\zgy a (k+1) true T4 T=zgy a k ((E.map edM).foldl rlF (d,false)).2 T4 T'/\Rp a.Net.Nodes.toNat T' (rnd (E.map edM) d):=by
  intro k T4 T d h1 h2
  obtain⟨T',k1,k2,k3⟩:=zOq a E hE hn hs (zgx a k) (zgy a k) (Ws a) hst false T4 T d h1 h2
  rw[<- hEe] at k1 k2 k3
  refine⟨T',?_,?_,k3⟩
  ·show zn8 a (zgx a k) true T4 T = _
   unfold zn8 zsK
   rw[dqA,q2];exact k1
  ·show zn9 a (zgy a k) true T4 T = _
   unfold zn9 zsL
   rw[dqA,q1,q2,dqT rfl,Bool.true_and];exact k2
 have stop:∀ (k:Nat) (T4 T:Tab),zgx a (k+1) false T4 T=T/\zgy a (k+1) false T4 T=true:=λ k T4 T=>⟨rfl,rfl⟩
 intro m
 induction m with
 | zero =>
  intro k T4 T d h1 h2 h3 hk
  obtain⟨k,rfl⟩:∃ k',k=k'+1+1:=⟨k - 2,by omega⟩
  obtain⟨T',k1,k2,k3⟩:=one (k+1) T4 T d h1 h2
  have h3':Fix (E.map edM) d:=h3
  rw[zkn h3'] at k1 k2
  rw[zlF h3'] at k3
  obtain⟨j1,j2⟩:=stop k T4 T'
  exact⟨T',k2.trans j2,k1.trans j1,k3⟩
 | succ m ih =>
  intro k T4 T d h1 h2 h3 hk
  obtain⟨k,rfl⟩:∃ k',k=k'+1+1:=⟨k - 2,by omega⟩
  obtain⟨T',k1,k2,k3⟩:=one (k+1) T4 T d h1 h2
  cases hf:((E.map edM).foldl rlF (d,false)).2 with
  | false =>
   rw[hf] at k1 k2
   have hx:Fix (E.map edM) d:=zjB hf
   obtain⟨j1,j2⟩:=stop k T4 T'
   refine⟨T',k2.trans j2,k1.trans j1,?_⟩
   rw[zlF hx] at k3
   rw[zBg hx];exact k3
  | true =>
   rw[hf] at k1 k2
   obtain⟨T'',m1,m2,m3⟩:=ih (k+1) T4 T' (rnd (E.map edM) d) k3 (zoy (zgG hn) (λ _ h=>h) (s:=(d,false)) h2) h3 (by omega)
   exact⟨T'',k2.trans m1,k1.trans m2,m3⟩
theorem zJ6 (a:web) (node:Int):∀ (m k i:Nat) (T4 T:Tab),(∀ v,v < i->T (v * 2)=1000000000000/\T (v * 2+1)=0)->i+m=40->m < k ->
  ∃ T',zjt a node k (i:Int) T4 T=zoa a node T4 T'/\zju a node k (i:Int) T4 T=zob a node T4 T'/\∀ v,v < 40->T' (v * 2)=1000000000000/\T' (v * 2+1)=0:=by
 intro m
 induction m with
 | zero =>
  intro k i T4 T h hi hk
  obtain⟨k,rfl⟩:∃ k',k=k'+1:=⟨k - 1,by omega⟩
  refine⟨T,?_,?_,λ v hv=>h v (by omega)⟩
  ·show zjr a node (zjt a node k) (i : Int) T4 T = _
   unfold zjr
   rw[dqF (show ¬ (i:Int) < (40:Int) by omega),dqB]
  ·show zjs a node (zju a node k) (i : Int) T4 T = _
   unfold zjs
   rw[dqF (show ¬ (i:Int) < (40:Int) by omega),dqB]
 | succ m ih =>
  intro k i T4 T h hi hk
  obtain⟨k,rfl⟩:∃ k',k=k'+1:=⟨k - 1,by omega⟩
  have hw:w64 ((i:Int)+(1:Int))=((i+1:Nat):Int):=by rw[zay (by omega) (by omega)];omega
  obtain⟨T',k1,k2,k3⟩:=ih k (i+1) T4 (ts 80 T (i * 2) [(1000000000000:Int),(0:Int)]) (λ v hv=>by
   rw[zd6 (by omega),zd6 (by omega)]
   by_cases hq:v=i
   ·subst hq
    rw[dqG (by omega),dqP rfl,dqP rfl];exact⟨rfl,rfl⟩
   ·rw[dqG (by omega),dqG (by omega),dqG (by omega),dqG (by omega)];exact h v (by omega)) (by omega) (by omega)
  refine⟨T',?_,?_,k3⟩
  ·rw [← k1]
   show zjr a node (zjt a node k) (i:Int) T4 T=_
   unfold zjr
   rw[dqT (show (i:Int) < (40:Int) by omega),dqA,hw,dqN,show 0+i * 2+0=i * 2 by omega]
  ·rw [← k2]
   show zjs a node (zju a node k) (i:Int) T4 T=_
   unfold zjs
   rw[dqT (show (i:Int) < (40:Int) by omega),dqA,dqT (show 0<=(i:Int)/\(i:Int) < (40:Int) by omega),Bool.true_and,hw,dqN,show 0+i * 2+0=i * 2 by omega]
theorem zOr (a : web) (hnet : NetOk a.Net) (hn : zcA (We a)) (node : Int) (h0 : 0 ≤ node) (h1 : node < a.Net.Nodes) :
  p34 a node=true/\Rp a.Net.Nodes.toNat (s34 a node) (dst ((We a).map edR) a.Net.Nodes.toNat node.toNat):=by
 have hn40:=hnet.n40
 have hEe:((We a).map edR)=(Ws a).map edQ:=(zJ5 (Ws a)).symm
 have hE:EdOk ((We a).map edR) a.Net.Nodes.toNat:=(zFd hnet).R
 have hN:zcA ((We a).map edR):=zoz hn
 have hs:node.toNat < a.Net.Nodes.toNat:=by omega
 obtain⟨T1,a1,a2,a3⟩:=zJ6 a node 40 Fuel 0 (λ _=>(0:Int)) (λ _=>(0:Int)) (λ v hv=>absurd hv (dqW _)) rfl (by simp only[Fuel];omega)
 have hr:Rp a.Net.Nodes.toNat (ts 80 T1 (node.toNat * 2) [(0:Int),(0:Int)]) (zBj node.toNat):=λ v hv=>by
  rw[zd6 (by omega),zd6 (by omega)]
  unfold zBj
  by_cases hq:v=node.toNat
  ·subst hq
   rw[dqG (by omega),dqP rfl,dqP rfl,dqP rfl];rfl
  ·rw[dqG (by omega),dqG (by omega),dqG (by omega),dqG (by omega),dqG hq,(a3 v (by omega)).1,(a3 v (by omega)).2];rfl
 obtain⟨T2,b1,b2,b3⟩:=zDE a hnet ((We a).map edR) hEe hE hN hs (a.Net.Nodes.toNat - 1) Fuel (λ _=>(0:Int)) (ts 80 T1 (node.toNat * 2) [(0:Int),(0:Int)]) (zBj node.toNat) hr (zim (zgU node.toNat)) (ztn hE hN hs) (by simp only[Fuel];omega)
 have e:0+node.toNat * 2+0=node.toNat * 2:=by omega
 constructor
 ·show zju a node Fuel 0 (fun _ => (0:Int)) (fun _ => (0:Int)) = true
  refine Eq.trans a2 ?_
  unfold zob zsN
  rw[dqT (show 0<=node/\node < (40:Int) by omega),Bool.true_and,e];exact b1
 ·have:s34 a node=T2:=by
   show zjt a node Fuel 0 (λ _=>(0:Int)) (λ _=>(0:Int))=T2
   refine Eq.trans a1 ?_
   unfold zoa zsM
   rw[e];exact b2
  rw[this];exact b3
end Go.Proofs
namespace Go.Proofs
open Go Go.Pm
set_option maxRecDepth 100000
set_option linter.unusedVariables false
attribute [local irreducible] Go.Pm.vcFun Go.Pm.vc Go.Pm.vcIter
end Go.Proofs
namespace Go.Proofs
open Go Go.Pm
set_option maxRecDepth 100000
set_option linter.unusedVariables false
def W (n:Net):web:=⟨n,⟨0,λ _=>none⟩⟩
abbrev En (n:Net):List Ed:=We (W n)
def fr (n:Net) (i j:Nat):Int:=zBC (dst (En n) n.Nodes.toNat i j)
theorem zOs {E:List Ed}{n s v:Nat}(hE:EdOk E n) (hn:zcA E) (hs:s < n) (hv:v < n):zBC (dst (E.map edR) n s v)=zBC (dst E n v s):=by
 refine Int.le_antisymm ?_ ?_
 ·rcases zdv (v := s) hE hn hv with ⟨_, h⟩ | ⟨c, _, h1, h2, _⟩
  ·rw [h]
   rcases zdv (v:=v) hE.R (zoz hn) hs with ⟨_,h⟩ | ⟨c,_,_,h2,_,_,_⟩ <;> omega
  ·rw[h2,<- zSf c];exact zto hE.R (zoz hn) hs (zSg h1)
 ·rcases zdv (v := v) hE.R (zoz hn) hs with ⟨_, h⟩ | ⟨c, _, h1, h2, _⟩
  ·rw [h]
   rcases zdv (v:=s) hE hn hv with ⟨_,h⟩ | ⟨c,_,_,h2,_,_,_⟩ <;> omega
  ·obtain ⟨c0, k1, k2, _⟩ := zOj h1
   rw[h2,<- k2];exact zto hE hn hv k1
theorem zoD {n:Net}(hn:NetOk n) (hN:zcA (En n)) {i j:Nat}(hi:i < n.Nodes.toNat) : -1000000000000<=fr n i j/\fr n i j<=1000000000000:=by
 have hE:EdOk (En n) n.Nodes.toNat:=zFd (a:=W n) hn
 unfold fr
 rcases zdv (v:=j) hE hN hi with ⟨_,h⟩ | ⟨c,_,_,h2,_,h3,h4⟩
 ·rw[h];omega
 ·rw[h2];omega
theorem zDF (n:Net) (nodes:Sl Int) (hl:nodes.len<=1000) (ht:n.Ties.len<=210):p33 n nodes=true /\
    (s32 n=false->s33 n nodes=(default,2)) /\
    (NetOk n->(¬ ∀ i,i < nodes.len->0<=nodes.get i/\nodes.get i < n.Nodes)->s33 n nodes=(default,2)) /\
    (NetOk n->(∀ i,i < nodes.len->0<=nodes.get i/\nodes.get i < n.Nodes)->¬ zcA (En n)->s33 n nodes=(default,5)) /\
    (NetOk n->(∀ i,i < nodes.len->0<=nodes.get i/\nodes.get i < n.Nodes)->zcA (En n)->s33 n nodes=(W n,0)):=by
  obtain⟨a1,a2⟩:=zBa n (by omega)
  unfold p33 s33
  rw[a1,dqT (show true=true from rfl),Bool.true_and]
  by_cases hs:s32 n=true
  · have hn := a2.1 hs
    have hn1:=hn.n1;have hn40:=hn.n40
    obtain⟨t1,_⟩:=zBq (W n) hn
    rw[hs]
    have hg:∀ i,i < nodes.len->(s31 (nodes.get i) (0:Int) (w64 (n.Nodes - (1:Int)))=true↔0<=nodes.get i/\nodes.get i < n.Nodes):=λ i _=>by
      rw[zqd,decide_eq_true_eq,zay (by omega) (by omega)];omega
    have hloop := zAV (good := fun i => s31 (nodes.get i) (0:Int) (w64 (n.Nodes - (1:Int)))) (bad := ((default : web), (2:Int))) (fin := zsw n (s60 (W n))) (finP := true) (n := nodes.len) (lpS := zjk n nodes) (lpP := zjl n nodes)
      (λ k i hi=>by
        show zji n nodes (zjk n nodes k) (i:Int)=_
        generalize zjk n nodes k=S
        unfold zji zsx
        rw[dqT (show (i:Int) < (nodes.len:Int) by omega),dqA,dqN]
        cases s31 (nodes.get i) (0:Int) (w64 (n.Nodes - (1:Int))) <;> rfl)
      (λ k=>by
        show zji n nodes (zjk n nodes k) (nodes.len:Int)=_
        unfold zji
        rw[dqF (show ¬ (nodes.len:Int) < (nodes.len:Int) by omega),dqB];rfl)
      (λ k i hi=>by
        show zjj n nodes (zjl n nodes k) (i:Int)=_
        generalize zjl n nodes k=S
        unfold zjj zsy
        rw[dqT (show (i:Int) < (nodes.len:Int) by omega),dqA,dqN,dqT (show 0<=(i:Int)/\(i:Int) < (nodes.len:Int) by omega),Bool.true_and]
        cases s31 (nodes.get i) (0:Int) (w64 (n.Nodes - (1:Int))) <;> rfl)
      (λ k=>by
        show zjj n nodes (zjl n nodes k) (nodes.len:Int)=_
        unfold zjj
        rw[dqF (show ¬ (nodes.len:Int) < (nodes.len:Int) by omega),dqB,show p60 (⟨n,(⟨0,(λ _=>none)⟩:Mp)⟩:web)=true from t1];rfl)
      (by omega)
    unfold zsE zsD zsC zsB zsA zsz
    by_cases hr:∀ i,i < nodes.len->0<=nodes.get i/\nodes.get i < n.Nodes
    · obtain ⟨l1, l2⟩ := hloop.1 (fun i hi => (hg i hi).2 (hr i hi))
      rw[l1,l2]
      refine⟨rfl,λ h=>(by cases h),λ _ h=>absurd hr h,λ _ _ h=>?_,λ _ _ h=>?_⟩
      · have:s60 (W n)=true:=by
          cases ht:s60 (W n)
          · exact absurd ((zBr (W n) hn).1 ht) h
          · rfl
        rw[this];rfl
      · rw[(zBr (W n) hn).2 h];rfl
    · obtain ⟨l1, l2⟩ := hloop.2 (fun h => hr fun i hi => (hg i hi).1 (h i hi))
      rw[l1,l2]
      exact⟨rfl,λ h=>(by cases h),λ _ _=>rfl,λ _ h=>absurd h hr,λ _ h=>absurd h hr⟩
  · rw [Bool.eq_false_iff.2 hs]
    have hno:NetOk n->False:=λ h=>hs (a2.2 h)
    exact⟨rfl,λ _=>rfl,λ h=>(hno h).elim,λ h=>(hno h).elim,λ h=>(hno h).elim⟩
theorem zRo {n:Net}(hn:NetOk n) (hN:zcA (En n)) {i:Int}(h0:0<=i) (h1:i < n.Nodes){j:Nat}(hj:j < n.Nodes.toNat):p34 (W n) i=true/\s34 (W n) i (j * 2)=fr n j i.toNat:=by
 have h40:=hn.n40
 obtain⟨a,b⟩:=zOr (W n) hn hN i h0 h1
 refine⟨a,?_⟩
 have:=(Prod.mk.inj (b j hj)).1
 rw[this]
 exact zOs (zFd (a:=W n) hn) hN (show i.toNat < n.Nodes.toNat by omega) hj
theorem zJ7 {n:Net}(hn:NetOk n) (hN:zcA (En n)) {i:Int}(h0:0<=i) (h1:i < n.Nodes){j:Nat}(hj:j < n.Nodes.toNat):p35 (W n) i=true/\s35 (W n) i (j * 2)=fr n i.toNat j:=by
 obtain⟨a,b⟩:=zOo (W n) hn hN i h0 h1
 exact⟨a,(Prod.mk.inj (b j hj)).1⟩
theorem zOt (i j:Int):∀ k,k < 2->zbZ (zfY [(zaL i),(zaL j)]) k=if k=0 then i else j:=by
 intro k hk
 match k,hk with
 | 0,_=>rfl
 | 1,_=>rfl
theorem in2 {n:Net}{i j:Int}(hi:0<=i/\i < n.Nodes) (hj:0<=j/\j < n.Nodes):∀ k,k < (⟨2,zbZ (zfY [(zaL i),(zaL j)])⟩:Sl Int).len->0<=(⟨2,zbZ (zfY [(zaL i),(zaL j)])⟩:Sl Int).get k/\(⟨2,zbZ (zfY [(zaL i),(zaL j)])⟩:Sl Int).get k < n.Nodes:=by
 intro k hk
 match k,hk with
 | 0,_=>exact hi
 | 1,_=>exact hj
theorem zv9 {n:Net}(ht:n.Ties.len<=210) (hn:NetOk n){i j:Int}(hi:0<=i/\i < n.Nodes) (hj:0<=j/\j < n.Nodes) (hN:zcA (En n)):p22 n i j=true/\s22 n i j=((⟨-fr n j.toNat i.toNat,fr n i.toNat j.toNat⟩:Span),(0:Int)):=by
 have hn40:=hn.n40
 obtain⟨w0,_,_,_,w4⟩:=zDF n (⟨2,zbZ (zfY [(zaL i),(zaL j)])⟩:Sl Int) (by show 2<=1000;omega) ht
 have w4':=w4 hn (in2 hi hj) hN
 obtain⟨p1,hT⟩:=zRo hn hN hi.1 hi.2 (j:=j.toNat) (by omega)
 obtain⟨p2,hF⟩:=zJ7 hn hN hi.1 hi.2 (j:=j.toNat) (by omega)
 have hb:=zoD hn hN (i:=j.toNat) (j:=i.toNat) (by omega)
 unfold p22 s22
 rw[w0,w4']
 constructor
 ·show (cond ((0:Int) == 0) (decide (true = true) && cond ((0:Int) != (0:Int)) true (decide (p34 (W n) i = true) && (decide (0 ≤ j ∧ j < (40 : Int)) && (decide (p35 (W n) i = true) && (decide (0 ≤ j ∧ j < (40 : Int)) && true))))) _) = true
  rw[p1,p2,dqT (show 0<=j/\j < (40:Int) by omega)];rfl
 ·show ((⟨(w64 (0 - (tg 80 (s34 (W n) i) (0 + j.toNat * 2 + 0)))), (tg 80 (s35 (W n) i) (0 + j.toNat * 2 + 0))⟩ : Span), (0:Int)) = _
  rw[show 0+j.toNat * 2+0=j.toNat * 2 by omega,zg3 (by omega),zg3 (by omega),hT,hF,zay (by omega) (by omega),show (0:Int) - fr n j.toNat i.toNat = -fr n j.toNat i.toNat by omega]
theorem zmx {n:Net}(hn:NetOk n){v:Sl Int}(hv:AgOk n v):∀ e∈En n,v.get e.v<=v.get e.u+e.w:=by
 intro e he
 obtain⟨j,h1,_,h3⟩:=(zBo (a:=W n) hn).1 he
 have hk:=hv.keep j h1
 rcases h3 with ⟨h4,rfl⟩ | ⟨h4,rfl⟩
 ·have := hk.2.resolve_left h4
  show v.get (n.Ties.get j).To.toNat<=v.get (n.Ties.get j).From.toNat+(n.Ties.get j).High
  omega
 ·have := hk.1.resolve_left h4
  show v.get (n.Ties.get j).From.toNat<=v.get (n.Ties.get j).To.toNat + -(n.Ties.get j).Low
  omega
theorem zgH {n:Net}(hn:NetOk n){v:Sl Int}(hv:AgOk n v):zcA (En n):=zqi (f:=v.get) (zmx hn hv)
theorem zqj {n:Net}(hn:NetOk n){v:Sl Int}(hv:AgOk n v){i j:Nat}(hi:i < n.Nodes.toNat) (hj:fr n i j ≠ 1000000000000):v.get j - v.get i<=fr n i j:=by
 have hE:EdOk (En n) n.Nodes.toNat:=zFd (a:=W n) hn
 have:=zDA (v:=j) hE (zgH hn hv) hi (zmx hn hv) (λ h=>hj (by unfold fr;rw[h];rfl))
 unfold fr
 omega
end Go.Proofs
namespace Go.Proofs
open Go Go.Pm
set_option maxRecDepth 100000
set_option linter.unusedVariables false
theorem zBt {α:Type}(n:Nat) (g:Nat->α) (x:α) (j:Nat):zh3 n g (λ _=>x) j=if n<=j then x else g j:=by
 unfold zh3
 by_cases h:n<=j
 ·rw[dqP h,show Nat.ble n j=true from Nat.ble_eq_true_of_le h]
 ·rw[dqG h,show Nat.ble n j=false from Bool.eq_false_iff.2 λ k=>h (Nat.le_of_ble_eq_true k)]
theorem zBu {n:Net}(hn:NetOk n){v:Sl Int}(hv:AgOk n v){i:Nat}(hi:i < n.Nodes.toNat) : -fr n i 0<=v.get i/\v.get i<=fr n 0 i:=by
 have hn1:=hn.n1
 have h0:=hv.val.zero
 have hb:=hv.val.b i (by have:=hv.val.len;omega)
 constructor
 ·by_cases h : fr n i 0 = 1000000000000
  ·omega
  ·have:=zqj hn hv (i:=i) (j:=0) hi h;omega
 ·by_cases h : fr n 0 i = 1000000000000
  ·omega
  ·have:=zqj hn hv (i:=0) (j:=i) (by omega) h;omega
end Go.Proofs
namespace Go.Proofs
open Go Go.Pm
set_option maxRecDepth 100000
set_option linter.unusedVariables false
theorem zRp {p j:Int}(h1:0<=p) (h2:p<=100 * j):0<=p.tdiv 100/\p.tdiv 100<=j:=by
 rw[Int.tdiv_eq_ediv_of_nonneg h1];omega
theorem zJ8 {a b:Frac}(pa:0 < a.Den) (pb:0 < b.Den) (h : ¬ ltF b a){x y:Int}(hx:x * a.Den<=a.Num) (hy:b.Num < (y+1) * b.Den):x<=y:=by
 unfold ltF at h
 have k1:=Int.mul_le_mul_of_nonneg_right hx (Int.le_of_lt pb)
 have k3:=Int.mul_lt_mul_of_pos_right hy pa
 have k2:a.Num * b.Den<=b.Num * a.Den:=by omega
 by_cases hxy:x<=y
 ·exact hxy
 ·exfalso
  have k4:=Int.mul_le_mul_of_nonneg_right (show y+1<=x by omega) (Int.le_of_lt (Int.mul_pos pa pb))
  have e1:x * (a.Den * b.Den)=x * a.Den * b.Den:=(Int.mul_assoc _ _ _).symm
  have e2:(y+1) * (a.Den * b.Den)=(y+1) * b.Den * a.Den:=by rw[Int.mul_comm a.Den,<- Int.mul_assoc]
  omega
theorem zOu {a b:Frac}(pa:0 < a.Den) (pb:0 < b.Den) (h : ¬ ltF a b){x y:Int}(hx:a.Num < (x+1) * a.Den) (hy : -b.Num < (y+1) * b.Den) : -(x+1)<=y:=by
 unfold ltF at h
 have k1:=Int.mul_lt_mul_of_pos_right hx pb
 have k3:=Int.mul_lt_mul_of_pos_right hy pa
 have k2:b.Num * a.Den<=a.Num * b.Den:=by omega
 by_cases hxy : -(x+1)<=y
 ·exact hxy
 ·exfalso
  have k4:=Int.mul_le_mul_of_nonneg_right (show (y+1)+(x+1)<=0 by omega) (Int.le_of_lt (Int.mul_pos pa pb))
  rw[Int.zero_mul,Int.add_mul] at k4
  have e1:(x+1) * (a.Den * b.Den)=(x+1) * a.Den * b.Den:=(Int.mul_assoc _ _ _).symm
  have e2:(y+1) * (a.Den * b.Den)=(y+1) * b.Den * a.Den:=by rw[Int.mul_comm a.Den,<- Int.mul_assoc]
  have e3 : -b.Num * a.Den = -(b.Num * a.Den):=Int.neg_mul _ _
  omega
abbrev zFe (o:Int):Sl Int:=⟨2,zbZ (zfY [(zaL (0:Int)),(zaL o)])⟩
abbrev NT (v:Sl Tie):Net:=⟨(2:Int),v⟩
abbrev zhF (v:Sl Tie) (t:Tie):Sl Tie:=⟨v.len+1,zh3 v.len v.get (λ _=>t)⟩
structure SvOk (o : Int) (i : Nat) (a b : Int) (v : Sl Tie) : Prop where
  len:v.len=i
  tie:∀ k,k < i->TieOk (v.get k) 2/\Keep (v.get k) (zFe o)
  lo:a<=-fr (NT v) 1 0
  hi:fr (NT v) 0 1<=b
theorem zOX {o:Int}(ho : -1000000<=o/\o<=1000000){v:Sl Tie}(hl:v.len<=8) (h:∀ k,k < v.len->TieOk (v.get k) 2/\Keep (v.get k) (zFe o)):NetOk (NT v)/\AgOk (NT v) (zFe o):=by
 refine⟨⟨by show (1:Int)<=2;omega,by show (2:Int)<=40;omega,by show v.len<=200;omega,λ k hk=>(h k hk).1⟩,⟨rfl,rfl,λ k hk=>?_⟩,λ k hk=>(h k hk).2⟩
 have hk':k < 2:=hk
 have e:(zFe o).get k=if k=0 then 0 else o:=zOt 0 o k hk'
 rw[e];split <;> omega
theorem zFf {v:Sl Tie}{t:Tie}(hn:NetOk (NT v)) (hm:NetOk (NT (zhF v t))) (hN:zcA (En (NT (zhF v t)))) {i j:Nat}(hi:i < 2):fr (NT (zhF v t)) i j<=fr (NT v) i j:=by
 refine zBm (zFd (a:=W (NT v)) hn) (zFd (a:=W (NT (zhF v t))) hm) hN hi λ e he=>?_
 obtain⟨k,hk,_,h3⟩:=(zBo (a:=W (NT v)) hn).1 he
 have hk':k < v.len:=hk
 have e1:(NT (zhF v t)).Ties.get k=(NT v).Ties.get k:=by
  show zh3 v.len v.get (λ _=>t) k=_
  rw[zBt,dqG (by omega)]
 refine (zBo (a:=W (NT (zhF v t))) hm).2 ⟨k,by show k < v.len+1;omega,rfl,?_⟩
 show ((NT (zhF v t)).Ties.get k).High ≠ 1000000000000/\e=⟨((NT (zhF v t)).Ties.get k).From.toNat,((NT (zhF v t)).Ties.get k).To.toNat,((NT (zhF v t)).Ties.get k).High⟩\/((NT (zhF v t)).Ties.get k).Low ≠ -1000000000000/\e=⟨((NT (zhF v t)).Ties.get k).To.toNat,((NT (zhF v t)).Ties.get k).From.toNat,-((NT (zhF v t)).Ties.get k).Low⟩
 rw[e1];exact h3
theorem zJ9 {l : Sl Sight} {h o w : Int} (ho : -1000000 ≤ o ∧ o ≤ 1000000) {i : Nat} (hi : i < 8) {a b : Int} {v : Sl Tie} (I : SvOk o i a b v) {x y : Int} (hx : -1000000000 ≤ x) (hxo : x ≤ o) (hoy : o ≤ y) (hy : y ≤ 1000000000) {P S : Int → Int → Int → Sl Tie → Bool}
    (hk:∀ a b v,SvOk o (i+1) a b v->P (w64 ((i:Int)+(1:Int))) a b v=true/\S (w64 ((i:Int)+(1:Int))) a b v=true) :
    zom P l h o w x y (i:Int) a b v=true/\zol S l h o w x y (i:Int) a b v=true:=by
  obtain⟨i1,i2,i3,i4⟩:=I
  obtain⟨hn,hag⟩:=zOX ho (v:=v) (by omega) (λ k hk=>i2 k (by omega))
  have ht:TieOk (⟨0,1,x,y⟩:Tie) 2/\Keep (⟨0,1,x,y⟩:Tie) (zFe o):=by
    refine⟨⟨by show (0:Int)<=0;omega,by show (0:Int) < 2;omega,by show (0:Int)<=1;omega,by show (1:Int) < 2;omega,by show (0:Int) ≠ 1;omega,.inr ⟨hx,by show x<=1000000000;omega⟩,.inr ⟨by show -1000000000<=y;omega,hy⟩,by show x<=y;omega⟩,?_⟩
    exact⟨.inr (by show x<=o - 0;omega),.inr (by show o - 0<=y;omega)⟩
  have h2:∀ k,k < (zhF v ⟨0,1,x,y⟩).len->TieOk ((zhF v ⟨0,1,x,y⟩).get k) 2/\Keep ((zhF v ⟨0,1,x,y⟩).get k) (zFe o):=λ k hk=>by
    have hk':k < v.len+1:=hk
    show TieOk (zh3 v.len v.get (λ _=>⟨0,1,x,y⟩) k) 2/\Keep (zh3 v.len v.get (λ _=>⟨0,1,x,y⟩) k) (zFe o)
    rw[zBt]
    split
    · exact ht
    · exact i2 k (by omega)
  obtain⟨hm,hag2⟩:=zOX ho (v:=zhF v ⟨0,1,x,y⟩) (by show v.len+1<=8;omega) h2
  have hN:=zgH hm hag2
  obtain⟨b1,b2⟩:=zv9 (n:=NT (zhF v ⟨0,1,x,y⟩)) (by show v.len+1<=210;omega) hm (i:=0) (j:=1) (by show 0<=(0:Int)/\(0:Int) < 2;omega) (by show 0<=(1:Int)/\(1:Int) < 2;omega) hN
  have b2:s22 (NT (zhF v ⟨0,1,x,y⟩)) 0 1=((⟨-fr (NT (zhF v ⟨0,1,x,y⟩)) 1 0,fr (NT (zhF v ⟨0,1,x,y⟩)) 0 1⟩:Span),(0:Int)):=b2
  have m1:=zFf hn hm hN (i:=1) (j:=0) (by omega)
  have m2:=zFf hn hm hN (i:=0) (j:=1) (by omega)
  have c1 : -fr (NT (zhF v ⟨0,1,x,y⟩)) 1 0<=o/\o<=fr (NT (zhF v ⟨0,1,x,y⟩)) 0 1:=by
    have:=zBu hm hag2 (i:=1) (by show 1 < 2;omega)
    exact this
  have e:∀ t:Tie,za6 (appG v.len (λ i=>zao (v.get i)) (λ _=>zao t))=zh3 v.len v.get (λ _=>t):=λ t=>by
    rw[znj (enc:=zao) (f:=v.get) (h:=λ _=>t)]
    exact zaN _
  obtain⟨k1,k2⟩:=hk _ _ _ (show SvOk o (i+1) (-fr (NT (zhF v ⟨0,1,x,y⟩)) 1 0) (fr (NT (zhF v ⟨0,1,x,y⟩)) 0 1) (zhF v ⟨0,1,x,y⟩) from ⟨by show v.len+1=i+1;omega,λ k hk=>h2 k (by show k < v.len+1;omega),Int.le_refl _,Int.le_refl _⟩)
  generalize fr (NT (zhF v ⟨0,1,x,y⟩)) 1 0=f10 at *
  generalize fr (NT (zhF v ⟨0,1,x,y⟩)) 0 1=f01 at *
  unfold zom zol
  rw[e,dqT (show (v.len+1) * 32<=140737488355328/\v.len+1<=9223372036854775807 by omega)]
  rw[show p22 (⟨(2:Int),(⟨v.len+1,zh3 v.len v.get (λ _=>(⟨(0:Int),(1:Int),x,y⟩:Tie))⟩:Sl Tie)⟩:Net) 0 1=true from b1,show s22 (⟨(2:Int),(⟨v.len+1,zh3 v.len v.get (λ _=>(⟨(0:Int),(1:Int),x,y⟩:Tie))⟩:Sl Tie)⟩:Net) 0 1=_ from b2]
  unfold zth ztg
  show (true && (true && cond ((0:Int) != 0) true (cond (decide (o < -f10)) true (cond (decide (o > f01)) true (cond (decide (-f10 < a)) true (cond (decide (f01 > b)) true (P (w64 ((i:Int)+(1:Int))) (-f10) f01 (zhF v ⟨0,1,x,y⟩))))))))=true /\
    cond ((0:Int) != 0) false (cond (decide (o < -f10)) false (cond (decide (o > f01)) false (cond (decide (-f10 < a)) false (cond (decide (f01 > b)) false (S (w64 ((i:Int)+(1:Int))) (-f10) f01 (zhF v ⟨0,1,x,y⟩))))))=true
  rw[dqF (show ¬ o < -f10 by omega),dqF (show ¬ o > f01 by omega),dqF (show ¬ -f10 < a by omega),dqF (show ¬ f01 > b by omega),k1,k2]
  exact⟨rfl,rfl⟩
theorem zOv {l : Sl Sight} {h o w : Int} (hh : 0 ≤ h ∧ h ≤ 100000) (ho : -1000000 ≤ o ∧ o ≤ 1000000) (hw : 1 ≤ w ∧ w ≤ 1000) {g : Sl Gate} (G : zcc g) (hf : s16 g = false) {s : straight} (SS : SOK s) (ha : zfe g s) {q1 q2 q3 q4 wr : Int} (hwr : 0 ≤ wr ∧ wr ≤ 100) {i : Nat} (hi : i < 8) {a b : Int} {v : Sl Tie} (I : SvOk o i a b v) {P S : Int → Int → Int → Sl Tie → Bool}
    (hk:∀ a b v,SvOk o (i+1) a b v->P (w64 ((i:Int)+(1:Int))) a b v=true/\S (w64 ((i:Int)+(1:Int))) a b v=true) :
    zu4 P l h o w g (toL s).Slope.Num (toL s).Slope.Den (toL s).Start.Num (toL s).Start.Den (i:Int) a b q1 q2 q3 q4 wr v=true/\zu3 S l h o w g (toL s).Slope.Num (toL s).Slope.Den (toL s).Start.Num (toL s).Start.Den (i:Int) a b q1 q2 q3 q4 wr v=true:=by
  obtain⟨u1,u2⟩:=zA4 SS (z:=h) (by omega)
  obtain⟨z1,lo,hi',z2,fl,fh,z3,z4⟩:=zRn G hf SS ha (z:=h) (by omega)
  have fr0:=zvh SS (z:=h) (by omega)
  have fr1:FOK (red (plc s h) s.den):=ztj fr0
  have hd:0 < (plF h s).Den:=by have:=fr0.2;omega
  have hld:0 < lo.Den:=by have:=fl.2;omega
  have hhd:0 < hi'.Den:=by have:=fh.2;omega
  have z3 : ¬ ltF (red (plc s h) s.den) lo:=λ k=>z3 ((zvf (a:=plF h s) hd hld).1 k)
  have z4 : ¬ ltF hi' (red (plc s h) s.den):=λ k=>z4 ((zvg (b:=plF h s) hhd hd).1 k)
  obtain⟨r1,r2,r3,r4,r5⟩:=ztl (f:=red (plc s h) s.den) fr1.1 fr1.2
  obtain⟨h1,h2,h3,h4,h5⟩:=ztl (f:=hi') fh.1 fh.2
  have wl:w64 (0 - lo.Num) = -lo.Num:=by have:=fl.1;rw[zay (by omega) (by omega)];omega
  obtain⟨l1,l2,l3,l4,l5⟩:=ztl (f:=⟨-lo.Num,lo.Den⟩) (by have:=fl.1;show -1000000000000<=-lo.Num/\-lo.Num<=1000000000000;omega) fl.2
  have f1:=zJ8 (a:=red (plc s h) s.den) (b:=hi') (by have:=fr1.2;omega) hhd z4 r2 h3
  have f2:=zOu (a:=red (plc s h) s.den) (b:=lo) (by have:=fr1.2;omega) hld z3 r3 l3
  unfold zu4 zu3
  rw[show p20 (⟨(⟨(toL s).Slope.Num,(toL s).Slope.Den⟩:Frac),(⟨(toL s).Start.Num,(toL s).Start.Den⟩:Frac)⟩:Line) h=true from u1,show s20 (⟨(⟨(toL s).Slope.Num,(toL s).Slope.Den⟩:Frac),(⟨(toL s).Start.Num,(toL s).Start.Den⟩:Frac)⟩:Line) h=red (plc s h) s.den from u2,r1,dqT (show (100:Int) ≠ 0 by decide)]
  generalize s19 (red (plc s h) s.den)=R at *
  generalize hH:s19 hi'=H at *
  generalize hL:s19 (⟨-lo.Num,lo.Den⟩:Frac)=L at *
  have q0:0<=(2 * w - 1) * wr:=Int.mul_nonneg (by omega) hwr.1
  have q9:(2 * w - 1) * wr<=(2 * w - 1) * 100:=Int.mul_le_mul_of_nonneg_left hwr.2 (by omega)
  have ee:w64 ((w64 ((w64 ((w64 (R+o))+(1:Int))) - w))+(w64 ((w64 ((w64 ((w64 ((2:Int) * w)) - (1:Int))) * wr)).tdiv (100:Int))))=R+o+1 - w+((2 * w - 1) * wr).tdiv 100/\0<=((2 * w - 1) * wr).tdiv 100/\((2 * w - 1) * wr).tdiv 100<=2 * w - 1:=by
    rw[zay (x:=(2:Int) * w) (by omega) (by omega),zay (x:=2 * w - 1) (by omega) (by omega)]
    generalize (2 * w - 1) * wr=q at *
    have ht:=zRp (p:=q) (j:=2 * w - 1) q0 (by omega)
    rw[zay (x:=q) (by omega) (by omega)]
    generalize q.tdiv 100=t at *
    rw[zay (x:=t) (by omega) (by omega),zay (x:=R+o) (by omega) (by omega),zay (x:=R+o+1) (by omega) (by omega),zay (x:=R+o+1 - w) (by omega) (by omega),zay (by omega) (by omega)]
    exact⟨rfl,ht⟩
  obtain⟨ee,e1,e2⟩:=ee
  rw[ee]
  generalize ((2 * w - 1) * wr).tdiv 100=t at *
  unfold zAK zAJ
  rw[z1,z2]
  unfold zAI zAH
  show (true && (true && (true && (true && cond ((0:Int) != 0) true (cond (decide (lo.Den < (1:Int))) true (cond (decide (hi'.Den < (1:Int))) true (zu1 P l h o w (R+o+1 - w+t) lo.Num lo.Den hi'.Num hi'.Den (i:Int) a b v)))))))=true /\
    cond ((0:Int) != 0) false (cond (decide (lo.Den < (1:Int))) false (cond (decide (hi'.Den < (1:Int))) false (zu0 S l h o w (R+o+1 - w+t) lo.Num lo.Den hi'.Num hi'.Den (i:Int) a b v)))=true
  rw[dqF (show ¬ lo.Den < 1 by omega),dqF (show ¬ hi'.Den < 1 by omega)]
  unfold zu1 zu0
  rw[wl,show p19 (⟨hi'.Num,hi'.Den⟩:Frac)=true from h1,l1,hL]
  rw[show s19 (⟨hi'.Num,hi'.Den⟩:Frac)=H from hH,zay (x:=R+o+1 - w+t - w) (by omega) (by omega),zay (x:=R+o+1 - w+t+w) (by omega) (by omega),zay (x:=R+o+1 - w+t - w - H) (by omega) (by omega),zay (x:=R+o+1 - w+t+w+L) (by omega) (by omega)]
  have x1:R+o+1 - w+t - w - H<=o:=by omega
  have x2:o<=R+o+1 - w+t+w+L:=by omega
  generalize R+o+1 - w+t - w - H=x at *
  generalize R+o+1 - w+t+w+L=y at *
  have fin:zoo P l h o w (i:Int) a b x y v=true/\zon S l h o w (i:Int) a b x y v=true:=by
    unfold zoo zon
    rw[dqT (show x<=y by omega)]
    by_cases c1:x < -1000000000
    · rw[dqT c1];exact⟨rfl,rfl⟩
    rw[dqF c1,dqB,dqB]
    by_cases c2:y > 1000000000
    · rw[dqT c2];exact⟨rfl,rfl⟩
    rw[dqF c2,dqB,dqB,dqF (show ¬ x > y by omega),dqB,dqB]
    exact zJ9 ho hi I (by omega) x1 x2 (by omega) hk
  rw[fin.1,fin.2]
  exact⟨rfl,rfl⟩
theorem zOw {l : Sl Sight} {h o w : Int} (hh : 0 ≤ h ∧ h ≤ 100000) (ho : -1000000 ≤ o ∧ o ≤ 1000000) (hw : 1 ≤ w ∧ w ≤ 1000) {i : Nat} (hi : i < l.len) (hl : l.len ≤ 8) {a b : Int} {v : Sl Tie} (I : SvOk o i a b v) {P S : Int → Int → Int → Sl Tie → Bool}
    (hk:∀ a b v,SvOk o (i+1) a b v->P (w64 ((i:Int)+(1:Int))) a b v=true/\S (w64 ((i:Int)+(1:Int))) a b v=true) :
    zlz l h o w P (i:Int) a b v=true/\zly l h o w S (i:Int) a b v=true:=by
  unfold zlz zly
  rw[dqT (show (i:Int) < (l.len:Int) by omega),dqA,dqA,dqN,dqT (show 0<=(i:Int)/\(i:Int) < (l.len:Int) by omega),Bool.true_and]
  by_cases c0:((l.get i).Gates.len:Int) > 10
  · rw[dqT c0];exact⟨rfl,rfl⟩
  rw[dqF c0,dqB,dqB]
  obtain⟨g1,g2⟩:=zN2 (l.get i).Gates (by omega)
  rw[g1,dqT (rfl:true=true),Bool.true_and]
  by_cases c1:s15 (l.get i).Gates=true
  · have G := g2.1 c1
    rw[c1,Bool.not_true,dqB,dqB]
    rw[(zvd (l.get i).Gates G).1,dqT (rfl:true=true),Bool.true_and]
    cases c2:s16 (l.get i).Gates
    · rw [dqB, dqB]
      by_cases d1:(l.get i).Z < 0
      · rw[dqT d1];exact⟨rfl,rfl⟩
      rw[dqF d1,dqB,dqB]
      by_cases d2:(l.get i).Z > 100000
      · rw[dqT d2];exact⟨rfl,rfl⟩
      rw[dqF d2,dqB,dqB]
      by_cases d3:(l.get i).W < 0
      · rw[dqT d3];exact⟨rfl,rfl⟩
      rw[dqF d3,dqB,dqB]
      by_cases d4:(l.get i).W > 100000
      · rw[dqT d4];exact⟨rfl,rfl⟩
      rw[dqF d4,dqB,dqB]
      by_cases d5:(l.get i).Z=(l.get i).W
      · rw[show ((l.get i).Z == (l.get i).W)=true from beq_iff_eq.2 d5];exact⟨rfl,rfl⟩
      rw[show ((l.get i).Z == (l.get i).W)=false from dqU.2 d5,dqB,dqB]
      by_cases d6:(l.get i).X < -1000000
      · rw[dqT d6];exact⟨rfl,rfl⟩
      rw[dqF d6,dqB,dqB]
      by_cases d7:(l.get i).X > 1000000
      · rw[dqT d7];exact⟨rfl,rfl⟩
      rw[dqF d7,dqB,dqB]
      by_cases d8:(l.get i).Y < -1000000
      · rw[dqT d8];exact⟨rfl,rfl⟩
      rw[dqF d8,dqB,dqB]
      by_cases d9:(l.get i).Y > 1000000
      · rw[dqT d9];exact⟨rfl,rfl⟩
      rw[dqF d9,dqB,dqB]
      by_cases d11:(l.get i).Wrong < 0
      · rw[dqT d11];exact⟨rfl,rfl⟩
      rw[dqF d11,dqB,dqB]
      have E:zE5 (l.get i).Z (l.get i).X (l.get i).W (l.get i).Y:=⟨by omega,by omega,d5,by omega,by omega⟩
      obtain⟨e1,e2,e3⟩:=zJW E
      unfold zd5 zd4
      by_cases d10:(l.get i).Wrong > 100
      · rw[dqT d10];exact⟨rfl,rfl⟩
      rw[dqF d10,dqB,dqB]
      unfold zAQ zAP
      rw[e1,e2]
      obtain⟨n1,n2⟩:=zDs G e3
      unfold zAO zAN
      rw[show p18 (⟨(⟨(toL (thr (l.get i).Z (l.get i).X (l.get i).W (l.get i).Y)).Slope.Num,(toL (thr (l.get i).Z (l.get i).X (l.get i).W (l.get i).Y)).Slope.Den⟩:Frac),(⟨(toL (thr (l.get i).Z (l.get i).X (l.get i).W (l.get i).Y)).Start.Num,(toL (thr (l.get i).Z (l.get i).X (l.get i).W (l.get i).Y)).Start.Den⟩:Frac)⟩:Line) (l.get i).Gates=true from n1,
        show s18 (⟨(⟨(toL (thr (l.get i).Z (l.get i).X (l.get i).W (l.get i).Y)).Slope.Num,(toL (thr (l.get i).Z (l.get i).X (l.get i).W (l.get i).Y)).Slope.Den⟩:Frac),(⟨(toL (thr (l.get i).Z (l.get i).X (l.get i).W (l.get i).Y)).Start.Num,(toL (thr (l.get i).Z (l.get i).X (l.get i).W (l.get i).Y)).Start.Den⟩:Frac)⟩:Line) (l.get i).Gates=s18 (toL (thr (l.get i).Z (l.get i).X (l.get i).W (l.get i).Y)) (l.get i).Gates from rfl]
      unfold zAM zAL
      by_cases c9:((s18 (toL (thr (l.get i).Z (l.get i).X (l.get i).W (l.get i).Y)) (l.get i).Gates).len:Int) < ((l.get i).Gates.len:Int)
      · rw[dqT c9];exact⟨rfl,rfl⟩
      · rw [dqF c9, dqB, dqB]
        have ha:zfe (l.get i).Gates (thr (l.get i).Z (l.get i).X (l.get i).W (l.get i).Y):=Classical.byContradiction λ k=>c9 (n2.2 k)
        obtain⟨f1,f2⟩:=zOv (l:=l) hh ho hw G c2 e3 ha (q1:=(l.get i).Z) (q2:=(l.get i).X) (q3:=(l.get i).W) (q4:=(l.get i).Y) (wr:=(l.get i).Wrong) (by omega) (by omega) I hk
        rw[f1,f2];exact⟨rfl,rfl⟩
    · exact⟨rfl,rfl⟩
  · rw[Bool.eq_false_iff.2 c1];exact⟨rfl,rfl⟩
theorem surveyed_true (l:Sl Sight) (h o w:Int):p4 l h o w=true/\s4 l h o w=true:=by
 unfold p4 s4
 by_cases c1:(l.len:Int) < 1
 ·rw[dqT c1];exact⟨rfl,rfl⟩
 rw[dqF c1,dqB,dqB]
 by_cases c2:(l.len:Int) > 8
 ·rw[dqT c2];exact⟨rfl,rfl⟩
 rw[dqF c2,dqB,dqB]
 by_cases c3:h < 0
 ·rw[dqT c3];exact⟨rfl,rfl⟩
 rw[dqF c3,dqB,dqB]
 by_cases c4:h > 100000
 ·rw[dqT c4];exact⟨rfl,rfl⟩
 rw[dqF c4,dqB,dqB]
 by_cases c5:o < -1000000
 ·rw[dqT c5];exact⟨rfl,rfl⟩
 rw[dqF c5,dqB,dqB]
 by_cases c6:o > 1000000
 ·rw[dqT c6];exact⟨rfl,rfl⟩
 rw[dqF c6,dqB,dqB]
 by_cases c7:w < 1
 ·rw[dqT c7];exact⟨rfl,rfl⟩
 rw[dqF c7,dqB,dqB]
 by_cases c8:w > 1000
 ·rw[dqT c8];exact⟨rfl,rfl⟩
 rw[dqF c8,dqB,dqB]
 have hh:0<=h/\h<=100000:=by omega
 have ho : -1000000<=o/\o<=1000000:=by omega
 have hw:1<=w/\w<=1000:=by omega
 have key:∀ (m k i:Nat) (a b:Int) (v:Sl Tie),i+m=l.len->m < k->SvOk o i a b v->zmr l h o w k (i:Int) a b v=true/\zmq l h o w k (i:Int) a b v=true:=by
  intro m
  induction m with
  | zero =>
   intro k i a b v hi hk I
   obtain⟨k,rfl⟩:∃ k',k=k'+1:=⟨k - 1,by omega⟩
   show zlz l h o w (zmr l h o w k) (i:Int) a b v=true/\zly l h o w (zmq l h o w k) (i:Int) a b v=true
   generalize zmr l h o w k=P
   generalize zmq l h o w k=S
   obtain⟨hn,hag⟩:=zOX ho (v:=v) (by have:=I.len;omega) (λ k hk=>I.tie k (by have:=I.len;omega))
   obtain⟨g1,g2⟩:=zBa (NT v) (by show v.len<=_;have:=I.len;omega)
   obtain⟨c1,c2⟩:=zJY (NT v) (zFe o) hn (g2.2 hn) (by show 2<=9223372036854775807;omega)
   have c3:=c2.2 hag
   unfold zlz zly
   rw[dqF (show ¬ (i:Int) < (l.len:Int) by omega),dqB,dqB,c1,c3]
   exact⟨rfl,rfl⟩
  | succ m ih =>
   intro k i a b v hi hk I
   obtain⟨k,rfl⟩:∃ k',k=k'+1:=⟨k - 1,by omega⟩
   show zlz l h o w (zmr l h o w k) (i:Int) a b v=true/\zly l h o w (zmq l h o w k) (i:Int) a b v=true
   refine zOw hh ho hw (by omega) (by omega) I λ a b v J=>?_
   rw[zdn (n:=l.len) (by omega) (by omega)]
   exact ih k (i+1) a b v (by omega) (by omega) J
 unfold zAU zAT zAS zAR
 obtain⟨hn,hag⟩:=zOX ho (v:=(⟨0,(λ _=>default)⟩:Sl Tie)) (by show 0<=8;omega) (λ k hk=>absurd hk (dqW _))
 have hN:=zgH hn hag
 exact key l.len Fuel 0 _ _ _ (by omega) (by simp only[Fuel];omega) ⟨rfl,λ k hk=>absurd hk (dqW _),by have:=zoD hn hN (i:=1) (j:=0) (by show 1 < 2;omega);omega,by have:=zoD hn hN (i:=0) (j:=1) (by show 0 < 2;omega);omega⟩
end Go.Proofs
