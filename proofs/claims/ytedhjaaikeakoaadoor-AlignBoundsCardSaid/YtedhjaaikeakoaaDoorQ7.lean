/- Part 7 of what the proof rests on: a machine that runs functions of the program on pure values, proved sound; the functions that the law reaches, and what they compute. -/
import Derived.Test.YtedhjaaikeakoaaDoorQ6
set_option linter.all false
namespace Go.Proofs
open Go Go.Pm
set_option maxRecDepth 100000
set_option linter.unusedVariables false
def zfV (y:step):Step:=⟨y.from_,y.to,y.length,y.Use⟩
def IsL (v:Sl Step) (L:List step):Prop:=v.len=L.length/\∀ k (h:k < L.length),v.get k=zfV L[k]
theorem zqg {v:Sl Step}{L:List step}(h:IsL v L) (y:step):IsL ⟨v.len+1,zf2 v.len v.get (λ _=>zfV y)⟩ (L ++ [y]):=by
 refine⟨by show v.len+1=_;rw[List.length_append,h.1];rfl,λ k hk=>?_⟩
 show zf2 v.len v.get (λ _=>zfV y) k=_
 rw[zyD]
 rw[List.length_append] at hk
 have h1:=h.1
 by_cases hv:v.len≤k
 ·rw [if_pos hv]
  have:k=L.length:=by simp only[List.length_cons,List.length_nil] at hk;omega
  subst this
  simp
 ·rw [if_neg hv, h.2 k (by omega)]
  rw[List.getElem_append_left (by omega)]
theorem zIM (n:Net) (hn:n.Ties.len≤210):∀ (m k i:Nat) (v:Sl Step) (L:List step),i+m=n.Ties.len->m < k->IsL v L->L.length≤2 * i->zdv n k (i:Int) v=true/\IsL (zdu n k (i:Int) v) (L ++ stL (W n) m i):=by
  intro m
  induction m with
  | zero =>
    intro k i v L hi hk hv hL
    obtain⟨k,rfl⟩:∃ k',k=k'+1:=⟨k - 1,by omega⟩
    have e1:zdv n (k+1) (i:Int) v=true:=by
      show zh6 n (zdv n k) (i:Int) v=true
      unfold zh6
      rw[dqF (show ¬ (i:Int) < (n.Ties.len:Int) by omega),cond_false]
    have e2:zdu n (k+1) (i:Int) v=v:=by
      show zh5 n (zdu n k) (i:Int) v=v
      unfold zh5
      rw[dqF (show ¬ (i:Int) < (n.Ties.len:Int) by omega),cond_false]
    refine⟨e1,?_⟩
    rw[e2]
    show IsL v (L ++ [])
    rw[List.append_nil];exact hv
  | succ m ih =>
    intro k i v L hi hk hv hL
    obtain⟨k,rfl⟩:∃ k',k=k'+1:=⟨k - 1,by omega⟩
    have hw:w64 ((i:Int)+(1:Int))=((i+1:Nat):Int):=by rw[zbZ (by omega) (by omega)];omega
    have hvl:=hv.1
    have hS : zdu n (k + 1) (i : Int) v = cond ((n.Ties.get i).High != (1000000000000:Int))
        (cond ((n.Ties.get i).Low != (-1000000000000:Int))
          (zdu n k ((i+1:Nat):Int) (⟨v.len+1+1,zf2 (v.len+1) (zf2 v.len v.get (λ _=>zfV (fwS (n.Ties.get i) i))) (λ _=>zfV (bwS (n.Ties.get i) i))⟩:Sl Step))
          (zdu n k ((i+1:Nat):Int) (⟨v.len+1,zf2 v.len v.get (λ _=>zfV (fwS (n.Ties.get i) i))⟩:Sl Step)))
        (cond ((n.Ties.get i).Low != (-1000000000000:Int))
          (zdu n k ((i+1:Nat):Int) (⟨v.len+1,zf2 v.len v.get (λ _=>zfV (bwS (n.Ties.get i) i))⟩:Sl Step))
          (zdu n k ((i+1:Nat):Int) v)):=by
      rw[← hw]
      show zh5 n (zdu n k) (i:Int) v=_
      generalize zdu n k=S
      unfold zh5 zmB
      rw[dqT (show (i:Int) < (n.Ties.len:Int) by omega),cond_true,Int.toNat_natCast]
      rfl
    have hP : zdv n (k + 1) (i : Int) v = cond ((n.Ties.get i).High != (1000000000000:Int))
        (cond ((n.Ties.get i).Low != (-1000000000000:Int))
          (zdv n k ((i+1:Nat):Int) (⟨v.len+1+1,zf2 (v.len+1) (zf2 v.len v.get (λ _=>zfV (fwS (n.Ties.get i) i))) (λ _=>zfV (bwS (n.Ties.get i) i))⟩:Sl Step))
          (zdv n k ((i+1:Nat):Int) (⟨v.len+1,zf2 v.len v.get (λ _=>zfV (fwS (n.Ties.get i) i))⟩:Sl Step)))
        (cond ((n.Ties.get i).Low != (-1000000000000:Int))
          (zdv n k ((i+1:Nat):Int) (⟨v.len+1,zf2 v.len v.get (λ _=>zfV (bwS (n.Ties.get i) i))⟩:Sl Step))
          (zdv n k ((i+1:Nat):Int) v)):=by
      rw[← hw]
      show zh6 n (zdv n k) (i:Int) v=_
      generalize zdv n k=S
      unfold zh6 zmC
      rw[dqT (show (i:Int) < (n.Ties.len:Int) by omega),cond_true,Int.toNat_natCast,dqT (show 0≤(i:Int)/\(i:Int) < (n.Ties.len:Int) by omega),dqT (show (v.len+1) * 40≤140737488355328/\v.len+1≤9223372036854775807 by omega),dqT (show ((⟨v.len+1,zf2 v.len v.get (λ _=>(⟨(n.Ties.get i).From,(n.Ties.get i).To,(n.Ties.get i).High,(⟨(i:Int),false⟩:Use)⟩:Step))⟩:Sl Step).len+1) * 40≤140737488355328/\(⟨v.len+1,zf2 v.len v.get (λ _=>(⟨(n.Ties.get i).From,(n.Ties.get i).To,(n.Ties.get i).High,(⟨(i:Int),false⟩:Use)⟩:Step))⟩:Sl Step).len+1≤9223372036854775807 from by show (v.len+1+1) * 40≤_/\v.len+1+1≤_;omega)]
      rfl
    rw[hS,hP]
    have hK:stL (W n) (m+1) i=((cond ((n.Ties.get i).High != (1000000000000:Int)) [fwS (n.Ties.get i) i] []) ++ (cond ((n.Ties.get i).Low != (-1000000000000:Int)) [bwS (n.Ties.get i) i] [])) ++ stL (W n) m (i+1):=rfl
    rw[hK]
    have hF:=zqg hv (fwS (n.Ties.get i) i)
    have hB:=zqg hv (bwS (n.Ties.get i) i)
    have hFB:=zqg hF (bwS (n.Ties.get i) i)
    cases ((n.Ties.get i).High != (1000000000000:Int)) <;> cases ((n.Ties.get i).Low != (-1000000000000:Int))
    · have := ih k (i + 1) v L (by omega) (by omega) hv (by omega)
      simpa using this
    · have := ih k (i + 1) _ _ (by omega) (by omega) hB (by simp only [List.length_append, List.length_cons, List.length_nil]; omega)
      simpa [List.append_assoc] using this
    · have := ih k (i + 1) _ _ (by omega) (by omega) hF (by simp only [List.length_append, List.length_cons, List.length_nil]; omega)
      simpa [List.append_assoc] using this
    · have := ih k (i + 1) _ _ (by omega) (by omega) hFB (by simp only [List.length_append, List.length_cons, List.length_nil]; omega)
      simpa [List.append_assoc] using this
theorem zr9 (n:Net) (hn:n.Ties.len≤210):p77 n=true/\IsL (s77 n) (Ws (W n)):=by
 have:=zIM n hn n.Ties.len Fuel 0 (⟨0,(λ _=>default)⟩:Sl Step) [] (by omega) (by simp only[Fuel];omega) ⟨rfl,λ k h=>absurd h (Nat.not_lt_zero _)⟩ (Nat.zero_le _)
 exact this
def sb (x:Use) (y:Use):Bool:=match (x.Tie == y.Tie) with | true=>(match (x.Back == y.Back) with | true=>true | false=>false) | false=>false
end Go.Proofs
namespace Go.Pm
def jr (o:zbE) (s:zbE×Bool) (e:Ed):zbE×Bool :=
 match o e.u with
 | none=>s
 | some x=>cond (ltO (x+e.w) (s.1 e.v)) (zii s.1 e.v (x+e.w),true) s
theorem zFE (o:zbE) (s:zbE×Bool) (e:Ed) (v:Nat):leO ((jr o s e).1 v) (s.1 v):=by
 unfold jr
 cases hu:o e.u with
 | none=>exact zcH _
 | some x =>
  simp only[]
  cases hl:ltO (x+e.w) (s.1 e.v)
  ·exact zcH _
  ·show leO (zii s.1 e.v (x + e.w) v) _
   unfold zii
   by_cases hv:v=e.v
   ·rw [if_pos hv]
    intro y hy
    refine⟨_,rfl,?_⟩
    rw[hv] at hy
    rw[hy] at hl
    exact Int.le_of_lt (of_decide_eq_true hl)
   ·rw[if_neg hv];exact zcH _
theorem zIN (o:zbE) (E:List Ed) (s:zbE×Bool) (v:Nat):leO ((E.foldl (jr o) s).1 v) (s.1 v):=by
 induction E generalizing s with
 | nil=>exact zcH _
 | cons e l ih=>exact zch (ih (jr o s e)) (zFE o s e v)
theorem zKK {o:zbE}{s:zbE×Bool}{e:Ed}{x:Int}(h:o e.u=some x):leO ((jr o s e).1 e.v) (some (x+e.w)):=by
 unfold jr
 simp only[h]
 cases hl:ltO (x+e.w) (s.1 e.v)
 ·obtain ⟨y, h1, h2⟩ := zkm hl
  intro z hz;cases hz
  exact⟨y,h1,h2⟩
 ·intro z hz; cases hz
  exact⟨x+e.w,by show zii s.1 e.v (x+e.w) e.v=_;unfold zii;rw[if_pos rfl],Int.le_refl _⟩
theorem zKL {o:zbE}{E:List Ed}{s:zbE×Bool}{e:Ed}{x:Int}(he:e∈E) (h:o e.u=some x):leO ((E.foldl (jr o) s).1 e.v) (some (x+e.w)):=by
 induction E generalizing s with
 | nil=>cases he
 | cons f l ih =>
  rcases List.mem_cons.1 he with rfl | hm
  ·exact zch (zIN o l (jr o s e) e.v) (zKK h)
  ·exact ih hm
theorem zFF {o:zbE}{s:zbE×Bool}{e:Ed}(h:s.2=true):(jr o s e).2=true:=by
 unfold jr
 cases o e.u with
 | none=>exact h
 | some x=>simp only[];cases ltO (x+e.w) (s.1 e.v) <;> first | exact h | rfl
theorem zFG {o:zbE}{E:List Ed}{s:zbE×Bool}(h:s.2=true):(E.foldl (jr o) s).2=true:=by
 induction E generalizing s with
 | nil=>exact h
 | cons e l ih=>exact ih (zFF h)
theorem zB1 {d:zbE}{c:Bool}{e:Ed}(h:Sat d e):jr d (d,c) e=(d,c):=zp6 h
theorem zIO {E:List Ed}{d:zbE}{c:Bool}(h:∀ e∈E,Sat d e):E.foldl (jr d) (d,c)=(d,c):=by
 induction E with
 | nil=>rfl
 | cons e l ih =>
  show l.foldl (jr d) (jr d (d,c) e)=_
  rw[zB1 (h e (List.mem_cons_self ..))]
  exact ih λ e he=>h e (List.mem_cons_of_mem _ he)
theorem zAD {E:List Ed}{d:zbE}{c:Bool}(h:(E.foldl (jr d) (d,c)).2=false):∀ e∈E,Sat d e:=by
 induction E with
 | nil=>intro e he;cases he
 | cons e l ih =>
  have h':(l.foldl (jr d) (jr d (d,c) e)).2=false:=h
  have hs:Sat d e:=Classical.byContradiction λ hn=>by
   have:(jr d (d,c) e).2=true:=zyo hn
   rw[zFG this] at h';cases h'
  rw[zB1 hs] at h'
  intro e' he'
  rcases List.mem_cons.1 he' with rfl | hm
  ·exact hs
  ·exact ih h' e' hm
def zB2 (E:List Ed) (d:zbE):zbE:=(E.foldl (jr d) (d,false)).1
def zyE (E : List Ed) : Nat → zbE → zbE
  | 0,d=>d
  | k+1,d=>zyE E k (zB2 E d)
theorem zyF (E:List Ed) (k:Nat) (d:zbE) (v:Nat):leO (zyE E k d v) (d v):=by
 induction k generalizing d with
 | zero=>exact zcH _
 | succ k ih=>exact zch (ih (zB2 E d)) (zIN d E (d,false) v)
theorem zFH {E:List Ed}{c:List Ed} : ∀ {a b k:Nat}{d:zbE}{y:Int},zfT E a c b->d a=some y->c.length≤k->leO (zyE E k d b) (some (y+wt c)):=by
 induction c with
 | nil =>
  intro a b k d y h hd _
  cases h
  intro z hz;cases hz
  obtain⟨x,h1,h2⟩:=zyF E k d a y hd
  exact⟨x,h1,by show x≤y+0;omega⟩
 | cons e l ih =>
  intro a b k d y h hd hk
  obtain⟨k,rfl⟩:∃ k',k=k'+1:=⟨k - 1,by simp only[List.length_cons] at hk;omega⟩
  obtain⟨h1,h2,h3⟩:=h
  subst h2
  obtain⟨x,k1,k2⟩:=zKL (o:=d) (s:=(d,false)) h1 hd _ rfl
  intro z hz;cases hz
  obtain⟨z,m1,m2⟩:=ih (k:=k) (d:=zB2 E d) h3 k1 (by simp only[List.length_cons] at hk;omega) _ rfl
  exact⟨z,m1,by show z≤y+(e.w+wt l);omega⟩
theorem zIP {E:List Ed}{Src:Nat->Prop}(hn:zbw E){o:zbE}(ho:Inv E Src o){s:zbE×Bool}{e:Ed}(he:e∈E) (hs:∀ m,leO (s.1 m) (o m)) (h:Inv E Src s.1):Inv E Src (jr o s e).1:=by
 intro v x hx
 have hle:=zFE o s e
 unfold jr at hx hle ⊢
 cases hu:o e.u with
 | none =>
  simp only[hu] at hx ⊢
  obtain⟨a,c,hc⟩:=h v x hx
  exact⟨a,c,hc⟩
 | some y =>
  simp only[hu] at hx hle ⊢
  cases hl:ltO (y+e.w) (s.1 e.v) with
  | false =>
   simp only[hl,cond_false] at hx ⊢
   exact h v x hx
  | true =>
   simp only[hl,cond_true] at hx hle ⊢
   by_cases hv:v=e.v
   ·subst hv
    have hx':y+e.w=x:=by
     unfold zii at hx;rw[if_pos rfl] at hx;exact Option.some.inj hx
    obtain⟨a,c,hc⟩:=ho e.u y hu
    have hnot:e.v ∉ nodes a c:=λ hm=>by
     obtain⟨z,h1,h2⟩:=zch (hs e.v) (ziY hn he hc hm) _ rfl
     rw[h1] at hl
     have:=of_decide_eq_true hl
     omega
    refine⟨a,c ++ [e],hc.src,zdh.2 ⟨e.u,hc.ch,zdH he⟩,by rw[zhj,ziE,← hc.wt];omega,?_,?_⟩
    ·show (a :: (c ++ [e]).map Ed.v).Nodup
     rw[List.map_append,← List.cons_append]
     refine List.nodup_append.2 ⟨hc.nd,by simp,λ p hp q hq=>?_⟩
     have:q=e.v:=by simpa using hq
     subst this
     exact λ e'=>hnot (e' ▸ hp)
    ·intro c1 c2 m h1 h2
     rcases zhl h1 with rfl | ⟨c3,h3⟩
     ·have : m = e.v := zr7 h2 (zdh.2 ⟨e.u, hc.ch, zdH he⟩)
      subst this
      intro z hz;cases hz
      refine⟨x,hx,?_⟩
      rw[zhj,ziE,← hc.wt];omega
     ·exact zch (zch (hle m) (hs m)) (hc.pre c1 c3 m h3 h2)
   ·have hx':s.1 v=some x:=by
     unfold zii at hx;rw[if_neg hv] at hx;exact hx
    obtain⟨a,c,hc⟩:=h v x hx'
    exact⟨a,c,zBU hc hle⟩
theorem zIQ {E F:List Ed}{Src:Nat->Prop}(hn:zbw E) (hF:∀ e∈F,e∈E){o:zbE}(ho:Inv E Src o){s:zbE×Bool}(hs:∀ m,leO (s.1 m) (o m)) (h:Inv E Src s.1):Inv E Src (F.foldl (jr o) s).1:=by
 induction F generalizing s with
 | nil=>exact h
 | cons e l ih=>exact ih (λ e he=>hF e (List.mem_cons_of_mem _ he)) (λ m=>zch (zFE o s e m) (hs m)) (zIP hn ho (hF e (List.mem_cons_self ..)) hs h)
theorem zAE {E:List Ed}{Src:Nat->Prop}(hn:zbw E) (k:Nat){d:zbE}(h:Inv E Src d):Inv E Src (zyE E k d):=by
 induction k generalizing d with
 | zero=>exact h
 | succ k ih=>exact ih (zIQ hn (λ _ h=>h) h (s:=(d,false)) (λ _=>zcH _) h)
theorem zIR {E:List Ed}{n:Nat}{Src:Nat->Prop}(hn:zbw E) (hE:∀ e∈E,e.u < n/\e.v < n) (hS:∀ a,Src a->a < n){d:zbE}(h0:Start Src d):Fix E (zyE E (n - 1) d):=by
 intro e he x hx
 obtain⟨a,c,hc⟩:=zAE hn (n - 1) (zd2 (E:=E) h0) e.u x hx
 by_cases hm:e.v∈nodes a c
 ·exact ziY hn he hc hm _ rfl
 ·have hlen:(c ++ [e]).length≤n - 1:=by
   have hnd:(nodes a (c ++ [e])).Nodup:=by
    show (a :: (c ++ [e]).map Ed.v).Nodup
    rw[List.map_append,← List.cons_append]
    refine List.nodup_append.2 ⟨hc.nd,by simp,λ p hp q hq=>?_⟩
    have:q=e.v:=by simpa using hq
    subst this
    exact λ e'=>hm (e' ▸ hp)
   have hch:zfT E a (c ++ [e]) e.v:=zdh.2 ⟨e.u,hc.ch,zdH he⟩
   have:=zkn n hnd (zmH hE (hS a hc.src) hch)
   rw[zko] at this
   omega
  have:=zFH (zdh.2 ⟨e.u,hc.ch,zdH he⟩) (h0.src a hc.src) hlen _ rfl
  rw[zhj,ziE,← hc.wt] at this
  obtain⟨z,h1,h2⟩:=this
  exact⟨z,h1,by omega⟩
def zgn (E : List Ed) : Nat → Bool → zbE → Bool
  | 0,c,_=>!c
  | m+1,c,d=>cond c (zgn E m (E.foldl (jr d) (d,false)).2 (zB2 E d)) (!c)
theorem zsa (E:List Ed) (m:Nat) (d:zbE):zgn E m false d=true:=by cases m <;> rfl
theorem zn7 {E:List Ed}{k:Nat} : ∀ {m:Nat}{d:zbE},Fix E (zyE E k d)->k < m->zgn E m true d=true:=by
 induction k with
 | zero =>
  intro m d h hm
  obtain⟨m,rfl⟩:∃ m',m=m'+1:=⟨m - 1,by omega⟩
  show zgn E m (E.foldl (jr d) (d,false)).2 (zB2 E d)=true
  rw[zIO (show ∀ e∈E,Sat d e from h)]
  exact zsa E m _
 | succ k ih =>
  intro m d h hm
  obtain⟨m,rfl⟩:∃ m',m=m'+1:=⟨m - 1,by omega⟩
  show zgn E m (E.foldl (jr d) (d,false)).2 (zB2 E d)=true
  cases (E.foldl (jr d) (d,false)).2
  ·exact zsa E m _
  ·exact ih (m:=m) (d:=zB2 E d) h (by omega)
theorem zyG {E:List Ed}{m:Nat} : ∀ {d:zbE},zgn E m true d=true->∃ k,Fix E (zyE E k d):=by
 induction m with
 | zero=>intro d h;cases h
 | succ m ih =>
  intro d h
  have h':zgn E m (E.foldl (jr d) (d,false)).2 (zB2 E d)=true:=h
  cases hc:(E.foldl (jr d) (d,false)).2
  ·exact⟨0,zAD hc⟩
  ·rw [hc] at h'
   obtain⟨k,hk⟩:=ih h'
   exact⟨k+1,hk⟩
theorem zyH {E:List Ed}{n:Nat}(hE:EdOk E n):zgn E n true (zmN n)=true↔zbw E:=by
 constructor
 ·intro h
  obtain⟨k,hk⟩:=zyG h
  have hsome:∀ v,v < n->∃ x,zyE E k (zmN n) v=some x:=λ v hv=>by
   obtain⟨x,hx,_⟩:=zyF E k (zmN n) v 0 (if_pos hv)
   exact⟨x,hx⟩
  refine zn4 (f:=λ v=>(zyE E k (zmN n) v).getD 0) λ e he=>?_
  obtain⟨x,hx⟩:=hsome e.u (hE.lt e he).1
  obtain⟨y,hy,hxy⟩:=hk e he x hx
  show (zyE E k (zmN n) e.v).getD 0≤(zyE E k (zmN n) e.u).getD 0+e.w
  rw[hx,hy];exact hxy
 ·intro h
  have:=hE.n1
  exact zn7 (zIR h hE.lt (λ a ha=>ha) (zlg n)) (by omega)
def dsP (E:List Ed) (n s:Nat):zbE:=rds E (n - 1) (zn5 s)
def zJe : Option Int → Int
  | none=>1000000000000
  | some x=>x
theorem zyI {E:List Ed}{n s:Nat}(hn:zbw E):Inv E (λ v=>v=s) (dsP E n s):=zp8 hn _ (zd2 (zda s))
theorem zyJ {E:List Ed}{n s:Nat}(hE:EdOk E n) (hn:zbw E) (hs:s < n):Fix E (dsP E n s):=zyt hn hE.lt (λ a ha=>Nat.lt_of_le_of_lt (Nat.le_of_eq ha) hs) (zda s)
theorem zKM {E:List Ed}{n:Nat}(hE:EdOk E n){s:Nat}(hs:s < n){d:zbE}(hd:Inv E (λ v=>v=s) d){v:Nat}{x:Int}(hx:d v=some x):∃ c,zfT E s c v/\x=wt c/\c.length < n:=by
 obtain⟨a,c,hc⟩:=hd v x hx
 have hl:=zys hE.lt (λ a ha=>Nat.lt_of_le_of_lt (Nat.le_of_eq ha) hs) hc
 obtain rfl:a=s:=hc.src
 exact⟨c,hc.ch,hc.wt,by omega⟩
theorem zB3 {E:List Ed}{n:Nat}(hE:EdOk E n){s:Nat}(hs:s < n){d:zbE}(hd:Inv E (λ v=>v=s) d){v:Nat}{x:Int}(hx:d v=some x) : -40000000000≤x/\x≤40000000000:=by
 obtain⟨c,h1,h2,h3⟩:=zKM hE hs hd hx
 have:=zi0 hE h1
 have:=hE.n40
 omega
theorem zFI {E:List Ed}{n s v:Nat}(hE:EdOk E n) (hn:zbw E) (hs:s < n):zJe (dsP E n s v)=zBX (dst E n s v):=by
 obtain⟨y0,k1,k2⟩:=zn3 E (n - 1) (zn5 s) s 0 (if_pos rfl)
 have up:∀ c,zfT E s c v->∃ y,dsP E n s v=some y/\y≤wt c:=λ c hc=>by
  obtain⟨y,m1,m2⟩:=zIy (zyJ hE hn hs) hc k1
  exact⟨y,m1,by omega⟩
 rcases zdO (v:=v) hE hn hs with ⟨_,h2⟩ | ⟨c,_,h1,h2,_⟩
 ·rw [h2]
  cases hd:dsP E n s v with
  | none=>rfl
  | some x =>
   obtain⟨c,m1,m2,m3⟩:=zKM hE hs (zyI hn) hd
   have:=zmJ hE hn hs m1
   have:=zi0 hE m1
   have:=hE.n40
   omega
 ·obtain ⟨y, m1, m2⟩ := up c h1
  obtain⟨c',q1,q2,_⟩:=zKM hE hs (zyI hn) m1
  have:=zmJ hE hn hs q1
  rw[m1,h2]
  show y=wt c
  omega
end Go.Pm
namespace Go.Proofs
open Go Go.Pm
set_option maxRecDepth 100000
set_option linter.unusedVariables false
theorem zyK {l:Sl Step}{L:List step}(hl:IsL l L){q:Nat}(hq:q < L.length){N:Nat}(hL:∀ y∈L,StOk y N):(l.get q).From=L[q].from_/\(l.get q).To=L[q].to/\(l.get q).Length=L[q].length/\StOk L[q] N:=by
 rw[hl.2 q hq];exact⟨rfl,rfl,rfl,hL _ (List.getElem_mem hq)⟩
structure Rv (N : Nat) (v : Sl Int) (d : zbE) (B : Int) : Prop where
  len:v.len=N
  at_:∀ i,i < N->d i=some (v.get i)
  b:∀ i,i < N->-B≤v.get i/\v.get i≤0
theorem zAF (n : Net) (l : Sl Step) (L : List step) (hl : IsL l L) {N : Nat} (hLN : ∀ y ∈ L, StOk y N) (hL : L.length ≤ 1000) (S1 : Sl Int → Bool → Int → Bool) (P1 : Sl Int → Bool → Int → Bool) (best : Sl Int) (o : zbE) (B : Int) (hB : 0 ≤ B ∧ B ≤ 100000000000000) (ho : Rv N best o B) (r : Int) :
  ∀ (m k q:Nat) (c:Bool) (v:Sl Int) (d:zbE),q+m=L.length->m < k->Rv N v d (B+1000000000) ->
  ∃ v',ze2 S1 n l k best c r (q:Int) v=S1 v' (((L.drop q).map edS).foldl (jr o) (d,c)).2 (w64 (r+(1:Int)))/\ze3 P1 n l k best c r (q:Int) v=P1 v' (((L.drop q).map edS).foldl (jr o) (d,c)).2 (w64 (r+(1:Int)))/\Rv N v' (((L.drop q).map edS).foldl (jr o) (d,c)).1 (B+1000000000):=by
 have hll:=hl.1
 intro m
 induction m with
 | zero =>
  intro k q c v d hq hk hv
  obtain⟨k,rfl⟩:∃ k',k=k'+1:=⟨k - 1,by omega⟩
  rw[List.drop_eq_nil_of_le (by omega)]
  refine⟨v,?_,?_,hv⟩
  ·show zh7 S1 n l (ze2 S1 n l k) best c r (q : Int) v = _
   unfold zh7
   rw[dqF (show ¬ (q:Int) < (l.len:Int) by omega),cond_false];rfl
  ·show zh8 P1 n l (ze3 P1 n l k) best c r (q : Int) v = _
   unfold zh8
   rw[dqF (show ¬ (q:Int) < (l.len:Int) by omega),cond_false];rfl
 | succ m ih =>
  intro k q c v d hq hk hv
  obtain⟨k,rfl⟩:∃ k',k=k'+1:=⟨k - 1,by omega⟩
  have hw:w64 ((q:Int)+(1:Int))=((q+1:Nat):Int):=by rw[zbZ (by omega) (by omega)];omega
  obtain⟨e1,e2,e3,hy⟩:=zyK hl (show q < L.length by omega) hLN
  rw[List.drop_eq_getElem_cons (by omega:q < L.length)]
  generalize L[q]=y at *
  have f0:=hy.f0;have f1:=hy.f1;have t0:=hy.t0;have t1:=hy.t1;have l0:=hy.l0;have l1:=hy.l1
  have hbl:=ho.len;have hvl:=hv.len
  have bf:=ho.b y.from_.toNat (by omega)
  have af:=ho.at_ y.from_.toNat (by omega)
  have at_:=hv.at_ y.to.toNat (by omega)
  have hr:jr o (d,c) (edS y)=cond (decide (best.get y.from_.toNat+y.length < v.get y.to.toNat)) (zii d y.to.toNat (best.get y.from_.toNat+y.length),true) (d,c):=by
   unfold jr edS
   simp only[af,at_] <;> rfl
  have hS:ze2 S1 n l (k+1) best c r (q:Int) v=cond (decide (best.get y.from_.toNat+y.length < v.get y.to.toNat)) (ze2 S1 n l k best true r ((q+1:Nat):Int) (⟨v.len,setT y.to.toNat (best.get y.from_.toNat+y.length) v.get⟩:Sl Int)) (ze2 S1 n l k best c r ((q+1:Nat):Int) v):=by
   rw[← hw]
   show zh7 S1 n l (ze2 S1 n l k) best c r (q:Int) v=_
   generalize ze2 S1 n l k=S
   unfold zh7
   rw[dqT (show (q:Int) < (l.len:Int) by omega),cond_true,Int.toNat_natCast,e1,e2,e3,zbZ (x:=best.get y.from_.toNat+y.length) (by omega) (by omega)]
  have hP:ze3 P1 n l (k+1) best c r (q:Int) v=cond (decide (best.get y.from_.toNat+y.length < v.get y.to.toNat)) (ze3 P1 n l k best true r ((q+1:Nat):Int) (⟨v.len,setT y.to.toNat (best.get y.from_.toNat+y.length) v.get⟩:Sl Int)) (ze3 P1 n l k best c r ((q+1:Nat):Int) v):=by
   rw[← hw]
   show zh8 P1 n l (ze3 P1 n l k) best c r (q:Int) v=_
   generalize ze3 P1 n l k=S
   unfold zh8
   simp only[Int.toNat_natCast,e1,e2,e3]
   rw[dqT (show (q:Int) < (l.len:Int) by omega),cond_true,zbZ (x:=best.get y.from_.toNat+y.length) (by omega) (by omega),dqT (show 0≤(q:Int)/\(q:Int) < (l.len:Int) by omega),dqT (show 0≤y.from_/\y.from_ < (best.len:Int) by omega),dqT (show 0≤y.to/\y.to < (v.len:Int) by omega),dqT (show y.to.toNat < v.len by omega)]
   cases decide (best.get y.from_.toNat+y.length < v.get y.to.toNat) <;> rfl
  rw[hS,hP]
  show ∃ v',_=S1 v' (((L.drop (q+1)).map edS).foldl (jr o) (jr o (d,c) (edS y))).2 _/\_=P1 v' (((L.drop (q+1)).map edS).foldl (jr o) (jr o (d,c) (edS y))).2 _/\Rv N v' (((L.drop (q+1)).map edS).foldl (jr o) (jr o (d,c) (edS y))).1 _
  rw[hr]
  by_cases hlt:best.get y.from_.toNat+y.length < v.get y.to.toNat
  ·rw [dqT hlt]
   simp only[cond_true]
   have vb:=hv.b y.to.toNat (by omega)
   refine ih k (q+1) true _ _ (by omega) (by omega) ⟨hvl,λ i hi=>?_,λ i hi=>?_⟩
   ·show zii d y.to.toNat (best.get y.from_.toNat + y.length) i = some (setT y.to.toNat (best.get y.from_.toNat + y.length) v.get i)
    rw[zik]
    unfold zii
    by_cases h:i=y.to.toNat
    ·rw[if_pos h,if_pos h]
    ·rw[if_neg h,if_neg h];exact hv.at_ i hi
   ·show -(B + 1000000000) ≤ setT y.to.toNat (best.get y.from_.toNat + y.length) v.get i ∧ setT y.to.toNat (best.get y.from_.toNat + y.length) v.get i ≤ 0
    rw[zik]
    by_cases h:i=y.to.toNat
    ·rw[if_pos h];omega
    ·rw[if_neg h];exact hv.b i hi
  ·rw [dqF hlt]
   simp only[cond_false]
   exact ih k (q+1) c v d (by omega) (by omega) hv
theorem zn8 (n:Net) (hn:NetOk n):∀ (m k r:Nat) (c:Bool) (v:Sl Int) (d:zbE) (B:Int),(r:Int)+m=n.Nodes->m < k->Rv n.Nodes.toNat v d B->0≤B->B+m * 1000000000≤100000000000000 ->
  zgH n (s77 n) k v c (r:Int)=true/\zgG n (s77 n) k v c (r:Int)=zgn (En n) m c d:=by
 have hlen:=hn.len;have hn40:=hn.n40
 obtain⟨_,hl⟩:=zr9 n (by omega)
 have hL:(Ws (W n)).length≤400:=zyw (a:=W n) hn
 intro m
 induction m with
 | zero =>
  intro k r c v d B hr hk _ _ _
  obtain⟨k,rfl⟩:∃ k',k=k'+1:=⟨k - 1,by omega⟩
  constructor
  ·show zfR n (s77 n) (zgH n (s77 n) k) v c (r : Int) = true
   unfold zfR
   rw[dqF (show ¬ (r:Int) < n.Nodes by omega),cond_false]
  ·show zfQ n (s77 n) (zgG n (s77 n) k) v c (r : Int) = _
   unfold zfQ
   rw[dqF (show ¬ (r:Int) < n.Nodes by omega),cond_false];rfl
 | succ m ih =>
  intro k r c v d B hr hk hv hB0 hB1
  obtain⟨k,rfl⟩:∃ k',k=k'+1:=⟨k - 1,by omega⟩
  cases c with
  | false =>
   constructor
   ·show zfR n (s77 n) (zgH n (s77 n) k) v false (r : Int) = true
    unfold zfR
    cases decide ((r:Int) < n.Nodes) <;> rfl
   ·show zfQ n (s77 n) (zgG n (s77 n) k) v false (r : Int) = _
    unfold zfQ
    cases decide ((r:Int) < n.Nodes) <;> rfl
  | true =>
   have hw:w64 ((r:Int)+(1:Int))=((r+1:Nat):Int):=by rw[zbZ (by omega) (by omega)];omega
   obtain⟨v',k1,k2,k3⟩:=zAF n (s77 n) (Ws (W n)) hl (λ y hy=>zFz (a:=W n) hn hy) (by omega) (zgG n (s77 n) k) (zgH n (s77 n) k) v d B ⟨hB0,by omega⟩ hv (r:Int) (Ws (W n)).length Fuel 0 false v d (by omega) (by simp only[Fuel];omega) ⟨hv.len,hv.at_,λ i hi=>by have:=hv.b i hi;omega⟩
   rw[List.drop_zero,hw] at k1 k2
   rw[List.drop_zero] at k3
   obtain⟨i1,i2⟩:=ih k (r+1) (((Ws (W n)).map edS).foldl (jr d) (d,false)).2 v' _ (B+1000000000) (by omega) (by omega) k3 (by omega) (by omega)
   constructor
   ·refine Eq.trans ?_ i1
    refine Eq.trans ?_ k2
    show zfR n (s77 n) (zgH n (s77 n) k) v true (r:Int)=_
    unfold zfR
    have hvl:=hv.len
    rw[dqT (show (r:Int) < n.Nodes by omega)]
    first
     | rfl
     | (simp only[cond_true];rw[dqT (show v.len * 8≤140737488355328/\v.len≤9223372036854775807 by omega)];rfl)
   ·refine Eq.trans ?_ i2
    refine Eq.trans ?_ k1
    show zfQ n (s77 n) (zgG n (s77 n) k) v true (r:Int)=_
    unfold zfQ
    rw[dqT (show (r:Int) < n.Nodes by omega)];rfl
theorem zIS (n:Net) (hn:NetOk n):p31 n=true/\(s31 n=true↔zbw (En n)):=by
 have hlen:=hn.len;have hn1:=hn.n1;have hn40:=hn.n40
 obtain⟨a,b⟩:=zn8 n hn n.Nodes.toNat Fuel 0 true (⟨n.Nodes.toNat,(λ _=>(0:Int))⟩:Sl Int) (zmN n.Nodes.toNat) 0 (by omega) (by simp only[Fuel];omega) ⟨rfl,λ i hi=>if_pos hi,λ i hi=>⟨by show -(0:Int)≤(0:Int);omega,Int.le_refl _⟩⟩ (by omega) (by omega)
 have hq:=(zr9 n (by omega)).1
 constructor
 ·unfold p31 zpX
  rw[hq]
  first
   | exact a
   | (rw[dqT (show 0≤n.Nodes/\n.Nodes=n.Nodes/\n.Nodes≤1000000 from ⟨by omega,rfl,by omega⟩)];exact a)
 ·have : s31 n = zgn (En n) n.Nodes.toNat true (zmN n.Nodes.toNat) := b
  rw[this]
  exact zyH (zBZ (a:=W n) hn)
end Go.Proofs
namespace Go.Proofs
open Go Go.Pm
set_option maxRecDepth 100000
set_option linter.unusedVariables false
structure Rq (N : Nat) (v : Sl Int) (d : zbE) : Prop where
  len:v.len=N
  at_:∀ i,i < N->v.get i=zJe (d i)
theorem zFJ (n : Net) {E : List Ed} {N s : Nat} (hE : EdOk E N) (hn : zbw E) (hs : s < N) (l : Sl Step) (L : List step) (hl : IsL l L) (hLN : ∀ y ∈ L, StOk y N ∧ edS y ∈ E) (hL : L.length ≤ 1000) (S3 : Bool → Sl Int → Sl Int) (P3 : Bool → Sl Int → Bool) :
  ∀ (m k q:Nat) (c:Bool) (v:Sl Int) (d:zbE),q+m=L.length->m < k->Rq N v d->Inv E (λ v=>v=s) d ->
  ∃ v',zd0 S3 l k c (q:Int) v=S3 (((L.drop q).map edS).foldl rlF (d,c)).2 v'/\zd1 P3 l k c (q:Int) v=P3 (((L.drop q).map edS).foldl rlF (d,c)).2 v'/\Rq N v' (((L.drop q).map edS).foldl rlF (d,c)).1:=by
 have hll:=hl.1
 have hN40:=hE.n40
 intro m
 induction m with
 | zero =>
  intro k q c v d hq hk hv _
  obtain⟨k,rfl⟩:∃ k',k=k'+1:=⟨k - 1,by omega⟩
  rw[List.drop_eq_nil_of_le (by omega)]
  refine⟨v,?_,?_,hv⟩
  ·show zh9 S3 l (zd0 S3 l k) c (q : Int) v = _
   unfold zh9
   rw[dqF (show ¬ (q:Int) < (l.len:Int) by omega),cond_false];rfl
  ·show zia P3 l (zd1 P3 l k) c (q : Int) v = _
   unfold zia
   rw[dqF (show ¬ (q:Int) < (l.len:Int) by omega),cond_false];rfl
 | succ m ih =>
  intro k q c v d hq hk hv hi
  obtain⟨k,rfl⟩:∃ k',k=k'+1:=⟨k - 1,by omega⟩
  have hw:w64 ((q:Int)+(1:Int))=((q+1:Nat):Int):=by rw[zbZ (by omega) (by omega)];omega
  obtain⟨e1,e2,e3,hy⟩:=zyK hl (show q < L.length by omega) (λ y hy=>(hLN y hy).1)
  have hmE:=(hLN L[q] (List.getElem_mem (by omega))).2
  rw[List.drop_eq_getElem_cons (by omega:q < L.length)]
  generalize L[q]=y at *
  have f0:=hy.f0;have f1:=hy.f1;have t0:=hy.t0;have t1:=hy.t1;have l0:=hy.l0;have l1:=hy.l1
  have hvl:=hv.len
  have af:=hv.at_ y.from_.toNat (by omega)
  have at_:=hv.at_ y.to.toNat (by omega)
  have hin:=zij (Src:=λ v=>v=s) hn (s:=(d,c)) (e:=edS y) hmE hi
  have hbT:∀ x,d y.to.toNat=some x->-40000000000≤x/\x≤40000000000:=λ x hx=>zB3 hE hs hi hx
  have hS:zd0 S3 l (k+1) c (q:Int) v=cond (v.get y.from_.toNat != (1000000000000:Int)) (cond (decide (w64 (v.get y.from_.toNat+y.length) < v.get y.to.toNat)) (zd0 S3 l k true ((q+1:Nat):Int) (⟨v.len,setT y.to.toNat (w64 (v.get y.from_.toNat+y.length)) v.get⟩:Sl Int)) (zd0 S3 l k c ((q+1:Nat):Int) v)) (zd0 S3 l k c ((q+1:Nat):Int) v):=by
   rw[← hw]
   show zh9 S3 l (zd0 S3 l k) c (q:Int) v=_
   generalize zd0 S3 l k=S
   unfold zh9
   rw[dqT (show (q:Int) < (l.len:Int) by omega),cond_true,Int.toNat_natCast,e1,e2,e3]
  have hP:zd1 P3 l (k+1) c (q:Int) v=cond (v.get y.from_.toNat != (1000000000000:Int)) (cond (decide (w64 (v.get y.from_.toNat+y.length) < v.get y.to.toNat)) (zd1 P3 l k true ((q+1:Nat):Int) (⟨v.len,setT y.to.toNat (w64 (v.get y.from_.toNat+y.length)) v.get⟩:Sl Int)) (zd1 P3 l k c ((q+1:Nat):Int) v)) (zd1 P3 l k c ((q+1:Nat):Int) v):=by
   rw[← hw]
   show zia P3 l (zd1 P3 l k) c (q:Int) v=_
   generalize zd1 P3 l k=S
   unfold zia
   simp only[Int.toNat_natCast,e1,e2,e3]
   rw[dqT (show (q:Int) < (l.len:Int) by omega),cond_true,dqT (show 0≤(q:Int)/\(q:Int) < (l.len:Int) by omega),dqT (show 0≤y.from_/\y.from_ < (v.len:Int) by omega),dqT (show y.from_.toNat < v.len by omega),dqT (show 0≤y.to/\y.to < (v.len:Int) by omega),dqT (show y.to.toNat < v.len by omega)]
   cases (v.get y.from_.toNat != (1000000000000:Int)) <;> cases decide (w64 (v.get y.from_.toNat+y.length) < v.get y.to.toNat) <;> rfl
  rw[hS,hP]
  show ∃ v',_=S3 (((L.drop (q+1)).map edS).foldl rlF (rlF (d,c) (edS y))).2 v'/\_=P3 (((L.drop (q+1)).map edS).foldl rlF (rlF (d,c) (edS y))).2 v'/\Rq N v' (((L.drop (q+1)).map edS).foldl rlF (rlF (d,c) (edS y))).1
  cases hdu:d y.from_.toNat with
  | none =>
   rw[hdu] at af
   have hr:rlF (d,c) (edS y)=(d,c):=by
    unfold rlF edS
    simp only[hdu]
   rw[hr,show (v.get y.from_.toNat != (1000000000000:Int))=false by rw[af];rfl]
   simp only[cond_false]
   exact ih k (q+1) c v d (by omega) (by omega) hv hi
  | some x =>
   have hbx:=zB3 hE hs hi hdu
   rw[hdu] at af
   have af':v.get y.from_.toNat=x:=af
   have hne:x ≠ 1000000000000:=by omega
   have hr:rlF (d,c) (edS y)=cond (ltO (x+y.length) (d y.to.toNat)) (zii d y.to.toNat (x+y.length),true) (d,c):=by
    unfold rlF edS
    simp only[hdu] <;> rfl
   have hlt:decide (x+y.length < v.get y.to.toNat)=ltO (x+y.length) (d y.to.toNat):=by
    rw[at_]
    cases hdv:d y.to.toNat with
    | none=>exact dqT (show x+y.length < 1000000000000 by omega)
    | some z=>rfl
   rw[af',bne_iff_ne.2 hne,zbZ (x:=x+y.length) (by omega) (by omega),hlt]
   simp only[cond_true]
   rw[hr] at hin ⊢
   cases hlo:ltO (x+y.length) (d y.to.toNat) with
   | false =>
    simp only[cond_false]
    exact ih k (q+1) c v d (by omega) (by omega) hv hi
   | true =>
    rw[hlo] at hin
    simp only[cond_true] at hin ⊢
    refine ih k (q+1) true _ _ (by omega) (by omega) ⟨hvl,λ i hi'=>?_⟩ hin
    show setT y.to.toNat (x+y.length) v.get i=zJe (zii d y.to.toNat (x+y.length) i)
    rw[zik]
    unfold zii
    by_cases h:i=y.to.toNat
    ·rw[if_pos h,if_pos h];rfl
    ·rw[if_neg h,if_neg h];exact hv.at_ i hi'
end Go.Proofs
namespace Go.Proofs
open Go Go.Pm
set_option maxRecDepth 100000
set_option linter.unusedVariables false
theorem zqh (n:Net) (l:Sl Step) (hl:IsL l (Ws (W n))) (hnet:NetOk n) (hn:zbw (En n)) {s:Nat}(hs:s < n.Nodes.toNat):∀ (m k:Nat) (v:Sl Int) (d:zbE),Rq n.Nodes.toNat v d->Inv (En n) (λ v=>v=s) d->Fix (En n) (rds (En n) m d)->m+1 < k ->
  zc9 l k true v=true/\Rq n.Nodes.toNat (zcX l k true v) (rds (En n) m d):=by
 have hlen:=hnet.len
 have hE:EdOk (En n) n.Nodes.toNat:=zBZ (a:=W n) hnet
 have hL:(Ws (W n)).length≤400:=zyw (a:=W n) hnet
 have one:∀ (k:Nat) (v:Sl Int) (d:zbE),Rq n.Nodes.toNat v d->Inv (En n) (λ v=>v=s) d ->
   ∃ v',zcX l (k+1) true v=zcX l k ((En n).foldl rlF (d,false)).2 v'/\zc9 l (k+1) true v=zc9 l k ((En n).foldl rlF (d,false)).2 v'/\Rq n.Nodes.toNat v' (rnd (En n) d):=by
  intro k v d h1 h2
  obtain⟨v',k1,k2,k3⟩:=zFJ n hE hn hs l (Ws (W n)) hl (λ y hy=>⟨zFz (a:=W n) hnet hy,List.mem_map_of_mem hy⟩) (by omega) (zcX l k) (zc9 l k) (Ws (W n)).length Fuel 0 false v d (by omega) (by simp only[Fuel];omega) h1 h2
  rw[List.drop_zero] at k1 k2 k3
  have e1:zcX l (k+1) true v=zd0 (zcX l k) l Fuel false ((0:Nat):Int) v:=by
   show zkk l (zcX l k) true v=_
   generalize zcX l k=S
   unfold zkk zpY
   rw[cond_true];rfl
  have e2:zc9 l (k+1) true v=zd1 (zc9 l k) l Fuel false ((0:Nat):Int) v:=by
   show zkl l (zc9 l k) true v=_
   generalize zc9 l k=S
   unfold zkl zpZ
   rw[cond_true];rfl
  exact⟨v',e1.trans k1,e2.trans k2,k3⟩
 have stop:∀ (k:Nat) (v:Sl Int),zcX l (k+1) false v=v/\zc9 l (k+1) false v=true:=λ k v=>by
  constructor
  ·show zkk l (zcX l k) false v = v
   generalize zcX l k=S
   rfl
  ·show zkl l (zc9 l k) false v = true
   generalize zc9 l k=S
   rfl
 intro m
 induction m with
 | zero =>
  intro k v d h1 h2 h3 hk
  obtain⟨k,rfl⟩:∃ k',k=k'+1+1:=⟨k - 2,by omega⟩
  obtain⟨v',k1,k2,k3⟩:=one (k+1) v d h1 h2
  have h3':Fix (En n) d:=h3
  rw[zhk h3'] at k1 k2
  rw[zgK h3'] at k3
  obtain⟨j1,j2⟩:=stop k v'
  refine⟨k2.trans j2,?_⟩
  rw[k1.trans j1];exact k3
 | succ m ih =>
  intro k v d h1 h2 h3 hk
  obtain⟨k,rfl⟩:∃ k',k=k'+1+1:=⟨k - 2,by omega⟩
  obtain⟨v',k1,k2,k3⟩:=one (k+1) v d h1 h2
  cases hf:((En n).foldl rlF (d,false)).2 with
  | false =>
   rw[hf] at k1 k2
   have hx:Fix (En n) d:=zf9 hf
   obtain⟨j1,j2⟩:=stop k v'
   refine⟨k2.trans j2,?_⟩
   rw[k1.trans j1,zp7 hx]
   rw[zgK hx] at k3;exact k3
  | true =>
   rw[hf] at k1 k2
   obtain⟨m1,m2⟩:=ih (k+1) v' (rnd (En n) d) k3 (ziZ hn (λ _ h=>h) (s:=(d,false)) h2) h3 (by omega)
   refine⟨k2.trans m1,?_⟩
   rw[k1];exact m2
theorem zyL (n:Net) (a:Int) (l:Sl Step):∀ (m k i:Nat) (v:Sl Int),(v.len:Int)=n.Nodes->n.Nodes≤40->(∀ j,j < i->v.get j=1000000000000)->(i:Int)+m=n.Nodes->m < k ->
  ∃ v',zid n a l k (i:Int) v=zp1 a l v'/\zie n a l k (i:Int) v=zmF a l v'/\v'.len=v.len/\∀ j,j < v.len->v'.get j=1000000000000:=by
 intro m
 induction m with
 | zero =>
  intro k i v hv h40 h hi hk
  obtain⟨k,rfl⟩:∃ k',k=k'+1:=⟨k - 1,by omega⟩
  refine⟨v,?_,?_,rfl,λ j hj=>h j (by omega)⟩
  ·show zib n a l (zid n a l k) (i : Int) v = _
   unfold zib
   rw[dqF (show ¬ (i:Int) < n.Nodes by omega),cond_false]
  ·show zic n a l (zie n a l k) (i : Int) v = _
   unfold zic
   rw[dqF (show ¬ (i:Int) < n.Nodes by omega),cond_false]
 | succ m ih =>
  intro k i v hv h40 h hi hk
  obtain⟨k,rfl⟩:∃ k',k=k'+1:=⟨k - 1,by omega⟩
  have hw:w64 ((i:Int)+(1:Int))=((i+1:Nat):Int):=by rw[zbZ (by omega) (by omega)];omega
  obtain⟨v',k1,k2,k3,k4⟩:=ih k (i+1) (⟨v.len,setT i (1000000000000:Int) v.get⟩:Sl Int) hv h40 (λ j hj=>by
   show setT i (1000000000000:Int) v.get j=_
   rw[zik]
   by_cases hq:j=i
   ·rw[if_pos hq]
   ·rw[if_neg hq];exact h j (by omega)) (by omega) (by omega)
  refine⟨v',?_,?_,k3,k4⟩
  ·rw [← k1]
   show zib n a l (zid n a l k) (i:Int) v=_
   unfold zib
   rw[dqT (show (i:Int) < n.Nodes by omega),cond_true,Int.toNat_natCast,hw]
  ·rw [← k2]
   show zic n a l (zie n a l k) (i:Int) v=_
   unfold zic
   rw[dqT (show (i:Int) < n.Nodes by omega),cond_true,Int.toNat_natCast,hw,dqT (show 0≤(i:Int)/\(i:Int) < (v.len:Int) by omega),dqT (show i < v.len by omega)];rfl
theorem zB4 {n:Net}(hn:NetOk n) (hN:zbw (En n)) {a:Int}(h0:0≤a) (h1:a < n.Nodes):p46 n a=true/\(s46 n a).len=n.Nodes.toNat/\∀ j,j < n.Nodes.toNat->(s46 n a).get j=fr n a.toNat j:=by
 have hlen:=hn.len;have hn1:=hn.n1;have hn40:=hn.n40
 have hE:EdOk (En n) n.Nodes.toNat:=zBZ (a:=W n) hn
 have hs:a.toNat < n.Nodes.toNat:=by omega
 have hq:=(zr9 n (by omega)).1
 obtain⟨v1,a1,a2,a3,a4⟩:=zyL n a (s77 n) n.Nodes.toNat Fuel 0 (⟨n.Nodes.toNat,(λ _=>(0:Int))⟩:Sl Int) (by show ((n.Nodes.toNat:Nat):Int)=_;omega) hn40 (λ j hj=>absurd hj (Nat.not_lt_zero _)) (by omega) (by simp only[Fuel];omega)
 have a3':v1.len=n.Nodes.toNat:=a3
 have hr:Rq n.Nodes.toNat (⟨v1.len,setT a.toNat (0:Int) v1.get⟩:Sl Int) (zn5 a.toNat):=⟨a3',λ i hi=>by
  show setT a.toNat (0:Int) v1.get i=zJe (zn5 a.toNat i)
  rw[zik]
  unfold zn5
  by_cases h:i=a.toNat
  ·rw[if_pos h,if_pos h];rfl
  ·rw[if_neg h,if_neg h];exact a4 i hi⟩
 obtain⟨b1,b2⟩:=zqh n (s77 n) (zr9 n (by omega)).2 hn hN hs (n.Nodes.toNat - 1) Fuel (⟨v1.len,setT a.toNat (0:Int) v1.get⟩:Sl Int) (zn5 a.toNat) hr (zd2 (zda a.toNat)) (zyJ hE hN hs) (by simp only[Fuel];omega)
 have e:s46 n a=zcX (s77 n) Fuel true (⟨v1.len,setT a.toNat (0:Int) v1.get⟩:Sl Int):=by
  show zid n a (s77 n) Fuel 0 (⟨n.Nodes.toNat,(λ _=>(0:Int))⟩:Sl Int)=_
  exact Eq.trans a1 rfl
 refine⟨?_,?_,λ j hj=>?_⟩
 ·unfold p46 zp2
  rw[hq,dqT (show 0≤n.Nodes/\n.Nodes=n.Nodes/\n.Nodes≤1000000 from ⟨by omega,rfl,by omega⟩)]
  show zie n a (s77 n) Fuel 0 (⟨n.Nodes.toNat,(λ _=>(0:Int))⟩:Sl Int)=true
  refine Eq.trans a2 ?_
  unfold zmF zp0
  rw[dqT (show 0≤a/\a < (v1.len:Int) by omega),dqT (show a.toNat < v1.len by omega),Bool.true_and,Bool.true_and]
  exact b1
 ·rw[e];exact b2.len
 ·rw [e, b2.at_ j hj]
  exact zFI hE hN hs
theorem zB5 {n:Net}(hn:NetOk n) (hN:zbw (En n)) {i j:Int}(hi:0≤i/\i < n.Nodes) (hj:0≤j/\j < n.Nodes):p34 n i j=true/\s34 n i j=⟨-fr n j.toNat i.toNat,fr n i.toNat j.toNat⟩:=by
 obtain⟨a1,a2,a3⟩:=zB4 hn hN hj.1 hj.2
 obtain⟨b1,b2,b3⟩:=zB4 hn hN hi.1 hi.2
 have hb:=zi3 hn hN (i:=j.toNat) (j:=i.toNat) (by omega)
 unfold p34 s34
 rw[a1,b1,a2,b2,a3 i.toNat (by omega),b3 j.toNat (by omega),zbZ (by omega) (by omega)]
 constructor
 ·rw[dqT (show 0≤i/\i < (n.Nodes.toNat:Int) by omega),dqT (show 0≤j/\j < (n.Nodes.toNat:Int) by omega)];rfl
 ·rw[show (0:Int) - fr n j.toNat i.toNat = -fr n j.toNat i.toNat by omega]
end Go.Proofs
namespace Go.Proofs
open Go Go.Pm
set_option maxRecDepth 100000
set_option linter.unusedVariables false
def apL {α:Type}(l:Nat->α) (i:Nat) (v:Sl α):Sl α:=⟨v.len+1,zf2 v.len v.get (λ _=>l i)⟩
theorem zIT {α:Type}(l:Nat->α):∀ (m i:Nat) (v:Sl α),v.len=i->(∀ j,j < i->v.get j=l j)->(zkC (apL l) m i v).len=i+m/\∀ j,j < i+m->(zkC (apL l) m i v).get j=l j:=by
 intro m
 induction m with
 | zero=>intro i v h1 h2;exact⟨h1,λ j hj=>h2 j (by omega)⟩
 | succ m ih =>
  intro i v h1 h2
  obtain⟨k1,k2⟩:=ih (i+1) (apL l i v) (by show v.len+1=i+1;omega) (λ j hj=>by
   show zf2 v.len v.get (λ _=>l i) j=_
   rw[zyD]
   by_cases h:v.len≤j
   ·rw[if_pos h,show j=i by omega]
   ·rw[if_neg h];exact h2 j (by omega))
  exact⟨k1.trans (by omega),λ j hj=>k2 j (by omega)⟩
end Go.Proofs
namespace Go.Proofs
open Go Go.Pm
set_option maxRecDepth 100000
set_option linter.unusedVariables false
theorem zIU {n:Net}(hn:NetOk n) (hN:zbw (En n)):p33 n=true/\(s33 n).len=n.Nodes.toNat/\∀ i,i < n.Nodes.toNat->(s33 n).get i=⟨-fr n i 0,fr n 0 i⟩:=by
  have hn1:=hn.n1;have hn40:=hn.n40
  have hs:=λ (i:Nat) (hi:i < n.Nodes.toNat)=>zB5 hn hN (i:=0) (j:=(i:Int)) ⟨Int.le_refl _,by omega⟩ ⟨by omega,by omega⟩
  have hl := zn1 (step := (apL fun i => (⟨-fr n i 0, fr n 0 i⟩ : Span))) (E := fun v => v) (EP := fun _ => true) (Inv := fun i (v : Sl Span) => v.len = i) (a := 0) (n := n.Nodes.toNat) (lpS := fun k v i => zgI n k i v) (lpP := fun k v i => zgJ n k i v)
    (λ k i v hai hi hv=>by
      show zif n (zgI n k) (i:Int) v=zgI n k (w64 ((i:Int)+(1:Int))) ((apL λ i=>(⟨-fr n i 0,fr n 0 i⟩:Span)) i v)
      generalize zgI n k=S
      have hv':v.len=i:=hv
      unfold zif
      rw[dqT (show (i:Int) < n.Nodes by omega),cond_true,(hs i hi).2]
      rfl)
    (λ k v=>by
      show zif n (zgI n k) ((n.Nodes.toNat:Nat):Int) v=_
      unfold zif
      rw[dqF (show ¬ ((n.Nodes.toNat:Nat):Int) < n.Nodes by omega),cond_false]
      )
    (λ k i v hai hi hv=>by
      show zih n (zgJ n k) (i:Int) v=zgJ n k (w64 ((i:Int)+(1:Int))) ((apL λ i=>(⟨-fr n i 0,fr n 0 i⟩:Span)) i v)
      generalize zgJ n k=S
      have hv':v.len=i:=hv
      unfold zih
      rw[dqT (show (i:Int) < n.Nodes by omega),cond_true,(hs i hi).1,(hs i hi).2,dqT (show (v.len+1) * 16≤140737488355328/\v.len+1≤9223372036854775807 by omega)]
      rfl)
    (λ k v=>by
      show zih n (zgJ n k) ((n.Nodes.toNat:Nat):Int) v=_
      unfold zih
      rw[dqF (show ¬ ((n.Nodes.toNat:Nat):Int) < n.Nodes by omega),cond_false]
      )
    (λ i v _ _ hh=>by show v.len+1=i+1;have hh':v.len=i:=hh;omega) (Nat.zero_le _) (by omega) (⟨0,(λ _=>default)⟩:Sl Span) rfl
  obtain⟨k1,k2⟩:=zIT (λ i=>(⟨-fr n i 0,fr n 0 i⟩:Span)) (n.Nodes.toNat - 0) 0 (⟨0,(λ _=>default)⟩:Sl Span) rfl (λ j hj=>absurd hj (Nat.not_lt_zero _))
  refine⟨hl.1,?_⟩
  have e:s33 n=zkC (apL λ i=>(⟨-fr n i 0,fr n 0 i⟩:Span)) (n.Nodes.toNat - 0) 0 (⟨0,(λ _=>default)⟩:Sl Span):=hl.2
  rw[e]
  exact⟨k1.trans (by omega),λ i hi=>k2 i (by omega)⟩
theorem zAG (a b:Sl Span) (h1:a.len=b.len) (hl:a.len≤1000) (h2:∀ i,i < a.len->a.get i=b.get i):p32 a b=true/\s32 a b=true:=by
  have hl := zmG (good := fun _ => true) (fin := true) (n := a.len) (lpS := zhY a b) (lpP := zhZ a b)
    (λ k i hi=>by
      show zhW a b (zhY a b k) (i:Int)=_
      generalize zhY a b k=S
      unfold zhW
      rw[dqT (show (i:Int) < (a.len:Int) by omega),cond_true,Int.toNat_natCast,h2 i hi,beq_self_eq_true,beq_self_eq_true]
      rfl)
    (λ k=>by
      show zhW a b (zhY a b k) (a.len:Int)=_
      unfold zhW
      rw[dqF (show ¬ (a.len:Int) < (a.len:Int) by omega),cond_false])
    (λ k i hi=>by
      show zhX a b (zhZ a b k) (i:Int)=_
      generalize zhZ a b k=S
      unfold zhX
      rw[dqT (show (i:Int) < (a.len:Int) by omega),cond_true,Int.toNat_natCast,dqT (show 0≤(i:Int)/\(i:Int) < (a.len:Int) by omega),Bool.true_and,h2 i hi,beq_self_eq_true,beq_self_eq_true,dqT (show 0≤(i:Int)/\(i:Int) < (b.len:Int) by omega)]
      rfl)
    (λ k=>by
      show zhX a b (zhZ a b k) (a.len:Int)=_
      unfold zhX
      rw[dqF (show ¬ (a.len:Int) < (a.len:Int) by omega),cond_false])
    (by omega)
  unfold p32 s32
  rw[h1,bne_self_eq_false,cond_false,cond_false]
  exact⟨hl.1,hl.2.2 ⟨λ _ _=>rfl,rfl⟩⟩
end Go.Proofs
namespace Go.Proofs
open Go Go.Pm
set_option maxRecDepth 100000
set_option linter.unusedVariables false
theorem zIV {n:Net}{i j:Int}(hi:0≤i/\i < n.Nodes) (hj:0≤j/\j < n.Nodes) (b:Sl Span) (e f x y:Int):zld n i j b e f x y=zfc n i j b e f x y true/\zlc n i j b e f x y=zfb n i j b e f x y true:=by
 unfold zld zlc
 rw[dqT (show i ≥ 0 from hi.1),dqT hi.2,dqT (show j ≥ 0 from hj.1),dqT hj.2]
 exact⟨rfl,rfl⟩
theorem zB6 {n:Net}{i j:Int}(h : ¬ ((0≤i/\i < n.Nodes)/\(0≤j/\j < n.Nodes))) (b:Sl Span) (e:Int):zld n i j b e 2 0 0=zfc n i j b e 2 0 0 false/\zlc n i j b e 2 0 0=zfb n i j b e 2 0 0 false:=by
 unfold zld zlc
 by_cases h1:0≤i
 ·rw [dqT (show i ≥ 0 from h1)]
  by_cases h2:i < n.Nodes
  ·rw [dqT h2]
   by_cases h3:0≤j
   ·rw [dqT (show j ≥ 0 from h3)]
    have h4 : ¬ j < n.Nodes:=λ h4=>h ⟨⟨h1,h2⟩,h3,h4⟩
    rw[dqF h4];exact⟨rfl,rfl⟩
   ·rw[dqF (show ¬ j ≥ 0 from h3)];exact⟨rfl,rfl⟩
  ·rw[dqF h2];exact⟨rfl,rfl⟩
 ·rw[dqF (show ¬ i ≥ 0 from h1)];exact⟨rfl,rfl⟩
theorem zqi (n:Net) (i j:Int) (ht:n.Ties.len≤210):zr6 n i j=true/\zr5 n i j=true:=by
 obtain⟨a1,a2⟩:=zym n (by omega)
 obtain⟨b1,b2⟩:=zIu n (by omega)
 unfold zr6 zr5 zyk zyj zyi zyh
 rw[b1,b2]
 cases hs:s67 n
 ·obtain ⟨c1, c2⟩ := zsV ht hs
  obtain⟨d1,d2⟩:=zqf (i:=i) (j:=j) ht hs
  rw[c1,c2,d1,d2]
  exact⟨rfl,rfl⟩
 have hn:=a2.1 hs
 have hn40:=hn.n40
 obtain⟨g1,g2⟩:=zIS n hn
 by_cases hN:zbw (En n)
 ·obtain ⟨c1, b, c2, c3, c4⟩ := zyC ht hn hN
  obtain⟨r1,r2,r3⟩:=zIU hn hN
  obtain⟨m1,m2⟩:=zAG b (s33 n) (by rw[c3,r2]) (by omega) (λ q hq=>by rw[c4 q (by omega),r3 q (by omega)])
  have hso:=g2.2 hN
  rw[c1,c2]
  by_cases hr:(0≤i/\i < n.Nodes)/\(0≤j/\j < n.Nodes)
  ·obtain ⟨d1, d2⟩ := zsW ht hn hr.1 hr.2 hN
   obtain⟨q1,q2⟩:=zB5 hn hN hr.1 hr.2
   rw[d1,d2]
   unfold zlf zle
   simp only[decide_true,Bool.true_and,Bool.not_true,cond_false]
   obtain⟨v1,v2⟩:=zIV hr.1 hr.2 b 0 0 (-fr n j.toNat i.toNat) (fr n i.toNat j.toNat)
   rw[v1,v2]
   unfold zfc zfb
   rw[g1,hso]
   unfold zr4 zr3 zr2 zr1
   simp only[decide_true,Bool.true_and,Bool.not_true,cond_false,beq_self_eq_true,cond_true,m1,m2,r1,q1,q2,Bool.and_self]
   exact⟨trivial,trivial⟩
  ·obtain ⟨d1, d2⟩ := zkp ht hn hr
   rw[d1,d2]
   unfold zlf zle
   simp only[decide_true,Bool.true_and,Bool.not_true,cond_false]
   obtain⟨v1,v2⟩:=zB6 hr b 0
   rw[v1,v2]
   unfold zfc zfb
   rw[g1,hso]
   unfold zr4 zr3 zr2 zr1
   simp only[decide_true,Bool.true_and,Bool.not_true,Bool.not_false,cond_false,beq_self_eq_true,cond_true,m1,m2,r1,Bool.and_self]
   exact⟨trivial,trivial⟩
 ·obtain ⟨c1, c2⟩ := zqe ht hn hN
  have hso:s31 n=false:=Bool.eq_false_iff.2 λ h=>hN (g2.1 h)
  rw[c1,c2]
  by_cases hr:(0≤i/\i < n.Nodes)/\(0≤j/\j < n.Nodes)
  ·obtain ⟨d1, d2⟩ := zn6 ht hn hr.1 hr.2 hN
   rw[d1,d2]
   unfold zlf zle
   simp only[decide_true,Bool.true_and,Bool.not_true,cond_false]
   obtain⟨v1,v2⟩:=zIV hr.1 hr.2 (⟨0,λ _=>default⟩:Sl Span) 5 5 0 0
   rw[v1,v2]
   unfold zfc zfb
   rw[g1,hso]
   exact⟨rfl,rfl⟩
  ·obtain ⟨d1, d2⟩ := zkp ht hn hr
   rw[d1,d2]
   unfold zlf zle
   simp only[decide_true,Bool.true_and,Bool.not_true,cond_false]
   obtain⟨v1,v2⟩:=zB6 hr (⟨0,λ _=>default⟩:Sl Span) 5
   rw[v1,v2]
   unfold zfc zfb
   rw[g1,hso]
   exact⟨rfl,rfl⟩
theorem bounds_true (n:Net) (i j:Int):p6 n i j=true/\s6 n i j=true:=by
 unfold p6 s6
 by_cases h:s20 n 14=true
 ·rw[h];exact zqi n i j (zyn h (by omega))
 ·rw[Bool.eq_false_iff.2 h];exact⟨rfl,rfl⟩
end Go.Proofs
