/- Part 7 of what the proof rests on: a machine that runs functions of the program on pure values, proved sound; the functions that the law reaches, and what they compute. -/
import Derived.Test.YtedhjaaikeakoaaDoorQ6
set_option linter.all false
namespace Go.Pm
structure Ed where
  u:Nat
  v:Nat
  w:Int
def wt : List Ed → Int
  | []=>0
  | e :: l=>e.w+wt l
theorem zmO (c d:List Ed):wt (c ++ d)=wt c+wt d:=by
 induction c with
 | nil=>show wt d=0+wt d;omega
 | cons e l ih=>show e.w+wt (l ++ d)=e.w+wt l+wt d;omega
theorem zp7 (e:Ed):wt [e]=e.w:=Int.add_zero _
def zgV (E : List Ed) : Nat → List Ed → Nat → Prop
  | a,[],b=>a=b
  | a,e :: l,b=>e∈E∧e.u=a∧zgV E e.v l b
theorem zgF {E:List Ed} {c d:List Ed} {a b:Nat} : zgV E a (c ++ d) b↔∃ m,zgV E a c m∧zgV E m d b:=by
 induction c generalizing a with
 | nil=>exact ⟨fun h=>⟨a,rfl,h⟩,fun ⟨m,h1,h2⟩=>by cases h1;exact h2⟩
 | cons e l ih =>
  constructor
  ·rintro ⟨h1, h2, h3⟩
   obtain ⟨m,k1,k2⟩:=ih.1 h3
   exact ⟨m,⟨h1,h2,k1⟩,k2⟩
  ·rintro ⟨m, ⟨h1, h2, h3⟩, h4⟩
   exact ⟨h1,h2,ih.2 ⟨m,h3,h4⟩⟩
theorem zh9 {E:List Ed} {e:Ed} (h:e∈E):zgV E e.u [e] e.v:=⟨h,rfl,rfl⟩
def zcp (E:List Ed):Prop:=∀ a c,zgV E a c a→0≤wt c
abbrev zdl:=Nat→Option Int
def zuQ (d:zdl) (v:Nat) (x:Int):zdl:=fun j=>if j=v then some x else d j
def ltO (x : Int) : Option Int → Bool
  | none=>true
  | some y=>decide (x < y)
def rlF (s:zdl×Bool) (e:Ed):zdl×Bool :=
 match s.1 e.u with
 | none=>s
 | some x=>cond (ltO (x+e.w) (s.1 e.v)) (zuQ s.1 e.v (x+e.w),true) s
def Sat (d:zdl) (e:Ed):Prop:=∀ x,d e.u=some x→∃ y,d e.v=some y∧y≤x+e.w
theorem zp8 {x:Int} {o:Option Int} (h:ltO x o=false):∃ y,o=some y∧y≤x:=by
 cases o with
 | none=>cases h
 | some y=>exact ⟨y,rfl,Int.not_lt.1 (of_decide_eq_false h)⟩
theorem zJ7 {x y:Int} (h:y≤x):ltO x (some y)=false:=decide_eq_false (Int.not_lt.2 h)
theorem zAG {d:zdl} {c:Bool} {e:Ed} (h:Sat d e):rlF (d,c) e=(d,c):=by
 unfold rlF
 cases hu:d e.u with
 | none=>simp only [hu]
 | some x =>
  obtain ⟨y,h1,h2⟩:=h x hu
  simp only [hu,h1,zJ7 h2,cond_false]
theorem zHm {d:zdl} {c:Bool} {e:Ed} (h : ¬ Sat d e):(rlF (d,c) e).2=true:=by
 unfold rlF
 cases hu:d e.u with
 | none=>exact absurd (fun x hx=>by rw [hu] at hx;cases hx) h
 | some x =>
  simp only [hu]
  cases hl:ltO (x+e.w) (d e.v)
  ·obtain ⟨y, h1, h2⟩ := zp8 hl
   exact absurd (fun x' hx'=>⟨y,h1,by rw [hu] at hx';cases hx';exact h2⟩) h
  ·rfl
theorem zCw {s:zdl×Bool} {e:Ed} (h:s.2=true):(rlF s e).2=true:=by
 unfold rlF
 cases s.1 e.u with
 | none=>exact h
 | some x=>simp only [];cases ltO (x+e.w) (s.1 e.v) <;> first | exact h | rfl
theorem zAH {E:List Ed} {s:zdl×Bool} (h:s.2=true):(E.foldl rlF s).2=true:=by
 induction E generalizing s with
 | nil=>exact h
 | cons e l ih=>exact ih (zCw h)
theorem zjP {E:List Ed} {d:zdl} {c:Bool} (h:∀ e∈E,Sat d e):E.foldl rlF (d,c)=(d,c):=by
 induction E with
 | nil=>rfl
 | cons e l ih =>
  show l.foldl rlF (rlF (d,c) e)=_
  rw [zAG (h e (List.mem_cons_self ..))]
  exact ih fun e he=>h e (List.mem_cons_of_mem _ he)
theorem zi6 {E:List Ed} {d:zdl} {c:Bool} (h:(E.foldl rlF (d,c)).2=false):∀ e∈E,Sat d e:=by
 induction E with
 | nil=>intro e he;cases he
 | cons e l ih =>
  have h':(l.foldl rlF (rlF (d,c) e)).2=false:=h
  have hs:Sat d e:=Classical.byContradiction fun hn=>by
   rw [zAH (zHm hn)] at h';cases h'
  rw [zAG hs] at h'
  intro e' he'
  rcases List.mem_cons.1 he' with rfl | hm
  ·exact hs
  ·exact ih h' e' hm
def leO (a b:Option Int):Prop:=∀ y,b=some y→∃ x,a=some x∧x≤y
theorem zgG (a:Option Int):leO a a:=fun y h=>⟨y,h,Int.le_refl _⟩
theorem zgl {a b c:Option Int} (h1:leO a b) (h2:leO b c):leO a c:=fun y h=>by
 obtain ⟨x,hx,hxy⟩:=h2 y h
 obtain ⟨z,hz,hzx⟩:=h1 x hx
 exact ⟨z,hz,Int.le_trans hzx hxy⟩
theorem zAI (s:zdl×Bool) (e:Ed) (v:Nat):leO ((rlF s e).1 v) (s.1 v):=by
 unfold rlF
 cases hu:s.1 e.u with
 | none=>exact zgG _
 | some x =>
  simp only []
  cases hl:ltO (x+e.w) (s.1 e.v)
  ·exact zgG _
  ·show leO (zuQ s.1 e.v (x + e.w) v) _
   unfold zuQ
   by_cases hv:v=e.v
   ·rw [if_pos hv]
    intro y hy
    refine ⟨_,rfl,?_⟩
    rw [hv] at hy
    rw [hy] at hl
    exact Int.le_of_lt (of_decide_eq_true hl)
   ·rw [if_neg hv];exact zgG _
theorem zAJ (E:List Ed) (s:zdl×Bool) (v:Nat):leO ((E.foldl rlF s).1 v) (s.1 v):=by
 induction E generalizing s with
 | nil=>exact zgG _
 | cons e l ih=>exact zgl (ih (rlF s e)) (zAI s e v)
theorem zJ8 {s:zdl×Bool} {e:Ed} {x:Int} (h:s.1 e.u=some x):leO ((rlF s e).1 e.v) (some (x+e.w)):=by
 unfold rlF
 simp only [h]
 cases hl:ltO (x+e.w) (s.1 e.v)
 ·obtain ⟨y, h1, h2⟩ := zp8 hl
  intro z hz;cases hz
  exact ⟨y,h1,h2⟩
 ·intro z hz; cases hz
  exact ⟨x+e.w,by show zuQ s.1 e.v (x+e.w) e.v=_;unfold zuQ;rw [if_pos rfl],Int.le_refl _⟩
theorem zCx {E:List Ed} {s:zdl×Bool} {e:Ed} {x:Int} (he:e∈E) (h:s.1 e.u=some x):leO ((E.foldl rlF s).1 e.v) (some (x+e.w)):=by
 induction E generalizing s x with
 | nil=>cases he
 | cons f l ih =>
  rcases List.mem_cons.1 he with rfl | hm
  ·exact zgl (zAJ l (rlF s e) e.v) (zJ8 h)
  ·obtain ⟨x', h1, h2⟩ := zAI s f e.u x h
   intro z hz;cases hz
   obtain ⟨y,k1,k2⟩:=ih hm h1 _ rfl
   exact ⟨y,k1,by omega⟩
def rnd (E:List Ed) (d:zdl):zdl:=(E.foldl rlF (d,false)).1
def rds (E : List Ed) : Nat → zdl → zdl
  | 0,d=>d
  | k+1,d=>rds E k (rnd E d)
theorem zuR (E:List Ed) (k:Nat) (d:zdl) (v:Nat):leO (rds E k d v) (d v):=by
 induction k generalizing d with
 | zero=>exact zgG _
 | succ k ih=>exact zgl (ih (rnd E d)) (zAJ E (d,false) v)
theorem zJ9 {E:List Ed} {c:List Ed} : ∀ {a b k:Nat} {d:zdl} {y:Int},zgV E a c b→d a=some y→c.length≤k→leO (rds E k d b) (some (y+wt c)):=by
 induction c with
 | nil =>
  intro a b k d y h hd _
  cases h
  intro z hz;cases hz
  obtain ⟨x,h1,h2⟩:=zuR E k d a y hd
  exact ⟨x,h1,by show x≤y+0;omega⟩
 | cons e l ih =>
  intro a b k d y h hd hk
  obtain ⟨k,rfl⟩:∃ k',k=k'+1:=⟨k - 1,by simp only [List.length_cons] at hk;omega⟩
  obtain ⟨h1,h2,h3⟩:=h
  subst h2
  obtain ⟨x,k1,k2⟩:=zCx (s:=(d,false)) h1 hd _ rfl
  intro z hz;cases hz
  obtain ⟨z,m1,m2⟩:=ih (k:=k) (d:=rnd E d) h3 k1 (by simp only [List.length_cons] at hk;omega) _ rfl
  exact ⟨z,m1,by show z≤y+(e.w+wt l);omega⟩
def Fix (E:List Ed) (d:zdl):Prop:=∀ e∈E,Sat d e
theorem zlW {E:List Ed} {d:zdl} (h:Fix E d):rnd E d=d:=by unfold rnd;rw [zjP h]
theorem zAK {E:List Ed} {d:zdl} (h:Fix E d) (k:Nat):rds E k d=d:=by
 induction k with
 | zero=>rfl
 | succ k ih=>show rds E k (rnd E d)=d;rw [zlW h,ih]
theorem zp9 (n:Nat):∀ {l:List Nat},l.Nodup→(∀ x∈l,x < n)→l.length≤n:=by
 induction n with
 | zero =>
  intro l _ h
  cases l with
  | nil=>exact Nat.le_refl _
  | cons x l=>exact absurd (h x (List.mem_cons_self ..)) (Nat.not_lt_zero _)
 | succ n ih =>
  intro l hd h
  have h1:=ih (l:=l.filter (fun x=>x != n)) (hd.filter _) (fun x hx=>by
   obtain ⟨hx1,hx2⟩:=List.mem_filter.1 hx
   have:=h x hx1
   have:x ≠ n:=by simpa using hx2
   omega)
  have h2:l.length≤(l.filter (fun x=>x != n)).length+1:=by
   clear h1 ih h
   induction l with
   | nil=>exact Nat.zero_le _
   | cons x l ihl =>
    rw [List.nodup_cons] at hd
    by_cases hx:x=n
    ·subst hx
     have:l.filter (fun y=>y != x)=l:=List.filter_eq_self.2 fun y hy=>by
      have:y ≠ x:=fun e=>hd.1 (e ▸ hy)
      simpa using this
     rw [List.filter_cons_of_neg (by simp),this]
     exact Nat.le_refl _
    ·rw [List.filter_cons_of_pos (by simpa using hx)]
     have:=ihl hd.2
     simp only [List.length_cons];omega
  omega
def nodes (a:Nat) (c:List Ed):List Nat:=a :: c.map Ed.v
theorem zqa (a:Nat) (c:List Ed):(nodes a c).length=c.length+1:=by simp [nodes]
theorem zCy {E:List Ed} {c:List Ed} : ∀ {a b m:Nat},zgV E a c b→m∈nodes a c→∃ c1 c2,c=c1 ++ c2∧zgV E a c1 m∧zgV E m c2 b:=by
 induction c with
 | nil =>
  intro a b m h hm
  have:m=a:=by simpa [nodes] using hm
  subst this
  exact ⟨[],[],rfl,rfl,h⟩
 | cons e l ih =>
  intro a b m h hm
  rcases List.mem_cons.1 hm with rfl | hm'
  ·exact ⟨[],e :: l,rfl,rfl,h⟩
  ·obtain ⟨h1, h2, h3⟩ := h
   obtain ⟨c1,c2,k1,k2,k3⟩:=ih h3 (m:=m) (by simpa [nodes] using hm')
   exact ⟨e :: c1,c2,by rw [k1];rfl,⟨h1,h2,k2⟩,k3⟩
structure Att (E : List Ed) (Src : Nat → Prop) (d : zdl) (v : Nat) (x : Int) (a : Nat) (c : List Ed) : Prop where
  src:Src a
  ch:zgV E a c v
  wt:x=wt c
  nd:(nodes a c).Nodup
  pre:∀ c1 c2 m,c=c1 ++ c2→zgV E a c1 m→leO (d m) (some (Go.Pm.wt c1))
def Inv (E:List Ed) (Src:Nat→Prop) (d:zdl):Prop:=∀ v x,d v=some x→∃ a c,Att E Src d v x a c
theorem zKa {d d':zdl} {E:List Ed} {Src:Nat→Prop} {v:Nat} {x:Int} {a:Nat} {c:List Ed} (h:Att E Src d v x a c) (hd:∀ m,leO (d' m) (d m)):Att E Src d' v x a c :=
 ⟨h.src,h.ch,h.wt,h.nd,fun c1 c2 m h1 h2=>zgl (hd m) (h.pre c1 c2 m h1 h2)⟩
theorem zuS {d:zdl} {E:List Ed} {Src:Nat→Prop} (hn:zcp E) {e:Ed} (he:e∈E) {x:Int} {a:Nat} {c:List Ed} (h:Att E Src d e.u x a c) (hm:e.v∈nodes a c):leO (d e.v) (some (x+e.w)):=by
 obtain ⟨c1,c2,k1,k2,k3⟩:=zCy h.ch hm
 have hc:=hn e.v (c2 ++ [e]) (zgF.2 ⟨e.u,k3,zh9 he⟩)
 rw [zmO,zp7] at hc
 have hx:=h.wt
 rw [k1,zmO] at hx
 obtain ⟨y,m1,m2⟩:=h.pre c1 c2 e.v k1 k2 _ rfl
 intro z hz;cases hz
 exact ⟨y,m1,by omega⟩
theorem zCz {E:List Ed} {c:List Ed} : ∀ {a b b':Nat},zgV E a c b→zgV E a c b'→b=b':=by
 induction c with
 | nil=>intro a b b' h1 h2;cases h1;cases h2;rfl
 | cons e l ih=>rintro a b b' ⟨_,_,h1⟩ ⟨_,_,h2⟩;exact ih h1 h2
theorem zor {c c1 c2:List Ed} {e:Ed} (h:c ++ [e]=c1 ++ c2):c1=c ++ [e]∨∃ c3,c=c1 ++ c3:=by
 rcases List.append_eq_append_iff.1 h with ⟨a',h1,h2⟩ | ⟨c',h1,_⟩
 ·cases a' with
  | nil=>exact .inr ⟨[],by rw [h1];simp⟩
  | cons f a'' =>
   have:a''=[]∧c2=[]:=by
    cases a'' with
    | nil=>simp at h2;exact ⟨rfl,h2.2⟩
    | cons g b=>simp at h2
   obtain ⟨rfl,rfl⟩:=this
   simp at h2
   exact .inl (by rw [h1,h2])
 ·exact .inr ⟨c',h1⟩
theorem zlX {E:List Ed} {Src:Nat→Prop} (hn:zcp E) {s:zdl×Bool} {e:Ed} (he:e∈E) (h:Inv E Src s.1):Inv E Src (rlF s e).1:=by
 intro v x hx
 have hle:=zAI s e
 unfold rlF at hx hle ⊢
 cases hu:s.1 e.u with
 | none =>
  simp only [hu] at hx ⊢
  obtain ⟨a,c,hc⟩:=h v x hx
  exact ⟨a,c,hc⟩
 | some y =>
  simp only [hu] at hx hle ⊢
  cases hl:ltO (y+e.w) (s.1 e.v) with
  | false =>
   simp only [hl,cond_false] at hx ⊢
   exact h v x hx
  | true =>
   simp only [hl,cond_true] at hx hle ⊢
   by_cases hv:v=e.v
   ·subst hv
    have hx':y+e.w=x:=by
     unfold zuQ at hx;rw [if_pos rfl] at hx;exact Option.some.inj hx
    obtain ⟨a,c,hc⟩:=h e.u y hu
    have hnot:e.v ∉ nodes a c:=fun hm=>by
     obtain ⟨z,h1,h2⟩:=zuS hn he hc hm _ rfl
     rw [h1] at hl
     have:=of_decide_eq_true hl
     omega
    refine ⟨a,c ++ [e],hc.src,zgF.2 ⟨e.u,hc.ch,zh9 he⟩,by rw [zmO,zp7,← hc.wt];omega,?_,?_⟩
    ·show (a :: (c ++ [e]).map Ed.v).Nodup
     rw [List.map_append,← List.cons_append]
     refine List.nodup_append.2 ⟨hc.nd,by simp,fun p hp q hq=>?_⟩
     have:q=e.v:=by simpa using hq
     subst this
     exact fun e'=>hnot (e' ▸ hp)
    ·intro c1 c2 m h1 h2
     rcases zor h1 with rfl | ⟨c3,h3⟩
     ·have : m = e.v := zCz h2 (zgF.2 ⟨e.u, hc.ch, zh9 he⟩)
      subst this
      intro z hz;cases hz
      refine ⟨x,hx,?_⟩
      rw [zmO,zp7,← hc.wt];omega
     ·exact zgl (hle m) (hc.pre c1 c3 m h3 h2)
   ·have hx':s.1 v=some x:=by
     unfold zuQ at hx;rw [if_neg hv] at hx;exact hx
    obtain ⟨a,c,hc⟩:=h v x hx'
    exact ⟨a,c,zKa hc hle⟩
theorem zos {E F:List Ed} {Src:Nat→Prop} (hn:zcp E) (hF:∀ e∈F,e∈E) {s:zdl×Bool} (h:Inv E Src s.1):Inv E Src (F.foldl rlF s).1:=by
 induction F generalizing s with
 | nil=>exact h
 | cons e l ih=>exact ih (fun e he=>hF e (List.mem_cons_of_mem _ he)) (zlX hn (hF e (List.mem_cons_self ..)) h)
theorem zAL {E:List Ed} {Src:Nat→Prop} (hn:zcp E) (k:Nat) {d:zdl} (h:Inv E Src d):Inv E Src (rds E k d):=by
 induction k generalizing d with
 | zero=>exact h
 | succ k ih=>exact ih (zos hn (fun _ h=>h) (s:=(d,false)) h)
structure Start (Src : Nat → Prop) (d : zdl) : Prop where
  only:∀ v x,d v=Option.some x→Src v∧x=0
  src:∀ v,Src v→d v=Option.some 0
theorem zia {E:List Ed} {Src:Nat→Prop} {d:zdl} (h:Start Src d):Inv E Src d:=fun v x hx=>by
 obtain ⟨h1,h2⟩:=h.only v x hx
 refine ⟨v,[],h1,rfl,h2,by simp [nodes],fun c1 c2 m e hc=>?_⟩
 have:c1=[]:=by
  cases c1 with
  | nil=>rfl
  | cons _ _=>cases e
 subst this
 cases hc
 rw [hx,h2]
 exact zgG _
theorem zuT {E:List Ed} {n:Nat} (hE:∀ e∈E,e.u < n∧e.v < n) {c:List Ed} : ∀ {a b:Nat},a < n→zgV E a c b→∀ x∈nodes a c,x < n:=by
  induction c with
  | nil => intro a b ha _ x hx; have : x = a := by simpa [nodes] using hx
           omega
  | cons e l ih =>
    rintro a b ha ⟨h1,h2,h3⟩ x hx
    rcases List.mem_cons.1 hx with rfl | hm
    · exact ha
    · exact ih (hE e h1).2 h3 x (by simpa [nodes] using hm)
theorem zHn {E:List Ed} {n:Nat} {Src:Nat→Prop} (hE:∀ e∈E,e.u < n∧e.v < n) (hS:∀ a,Src a→a < n) {d:zdl} {v:Nat} {x:Int} {a:Nat} {c:List Ed} (h:Att E Src d v x a c):c.length+1≤n:=by
 have:=zp9 n h.nd (zuT hE (hS a h.src) h.ch)
 rwa [zqa] at this
theorem zDC {E:List Ed} {n:Nat} {Src:Nat→Prop} (hn:zcp E) (hE:∀ e∈E,e.u < n∧e.v < n) (hS:∀ a,Src a→a < n) {d:zdl} (h0:Start Src d):Fix E (rds E (n - 1) d):=by
 intro e he x hx
 obtain ⟨a,c,hc⟩:=zAL hn (n - 1) (zia (E:=E) h0) e.u x hx
 by_cases hm:e.v∈nodes a c
 ·exact zuS hn he hc hm _ rfl
 ·have hlen:(c ++ [e]).length≤n - 1:=by
   have hnd:(nodes a (c ++ [e])).Nodup:=by
    show (a :: (c ++ [e]).map Ed.v).Nodup
    rw [List.map_append,← List.cons_append]
    refine List.nodup_append.2 ⟨hc.nd,by simp,fun p hp q hq=>?_⟩
    have:q=e.v:=by simpa using hq
    subst this
    exact fun e'=>hm (e' ▸ hp)
   have hch:zgV E a (c ++ [e]) e.v:=zgF.2 ⟨e.u,hc.ch,zh9 he⟩
   have:=zp9 n hnd (zuT hE (hS a hc.src) hch)
   rw [zqa] at this
   omega
  have:=zJ9 (zgF.2 ⟨e.u,hc.ch,zh9 he⟩) (h0.src a hc.src) hlen _ rfl
  rw [zmO,zp7,← hc.wt] at this
  obtain ⟨z,h1,h2⟩:=this
  exact ⟨z,h1,by omega⟩
theorem zDD {E:List Ed} {f:Nat→Int} (h:∀ e∈E,f e.v≤f e.u+e.w) {c:List Ed} : ∀ {a b:Nat},zgV E a c b→f b≤f a+wt c:=by
 induction c with
 | nil=>intro a b hc;cases hc;show f a≤f a+0;omega
 | cons e l ih =>
  rintro a b ⟨h1,h2,h3⟩
  subst h2
  have:=ih h3
  have:=h e h1
  show f b≤f e.u+(e.w+wt l);omega
theorem zqb {E:List Ed} {f:Nat→Int} (h:∀ e∈E,f e.v≤f e.u+e.w):zcp E:=fun a c hc=>by
 have:=zDD h hc;omega
end Go.Pm
namespace Go.Pm
theorem zDE {E:List Ed} {f:Ed→Ed} (hu:∀ e,(f e).u=e.u) (hv:∀ e,(f e).v=e.v) {c:List Ed} : ∀ {a b:Nat},zgV (E.map f) a c b→∃ c0,c=c0.map f∧zgV E a c0 b:=by
 induction c with
 | nil=>intro a b h;exact ⟨[],rfl,h⟩
 | cons e l ih =>
  rintro a b ⟨h1,h2,h3⟩
  obtain ⟨e0,k1,rfl⟩:=List.mem_map.1 h1
  obtain ⟨c0,k2,k3⟩:=ih h3
  exact ⟨e0 :: c0,by rw [k2];rfl,k1,by rw [← hu];exact h2,by rw [← hv];exact k3⟩
def edM (e:Ed):Ed:=⟨e.u,e.v,e.w * 1048576+1⟩
def edR (e:Ed):Ed:=⟨e.v,e.u,e.w⟩
theorem zMF (c:List Ed):wt (c.map edM)=wt c * 1048576+c.length:=by
 induction c with
 | nil=>rfl
 | cons e l ih =>
  show e.w * 1048576+1+wt (l.map edM)=(e.w+wt l) * 1048576+((l.length+1:Nat):Int)
  omega
theorem zMG (c:List Ed):wt (c.reverse.map edR)=wt c:=by
 induction c with
 | nil=>rfl
 | cons e l ih =>
  rw [List.reverse_cons,List.map_append,zmO,ih]
  show wt l+wt [edR e]=e.w+wt l
  rw [zp7]
  show wt l+e.w=_
  omega
theorem zMH {E:List Ed} {c:List Ed} : ∀ {a b:Nat},zgV E a c b→zgV (E.map edR) b (c.reverse.map edR) a:=by
 induction c with
 | nil=>intro a b h;exact Eq.symm h
 | cons e l ih =>
  rintro a b ⟨h1,h2,h3⟩
  rw [List.reverse_cons,List.map_append]
  exact zgF.2 ⟨e.v,ih h3,List.mem_map_of_mem h1,rfl,h2⟩
theorem zKb (E:List Ed):(E.map edR).map edR=E:=by
 rw [List.map_map]
 exact (List.map_congr_left fun e _=>rfl).trans (List.map_id E)
theorem zKc {E:List Ed} {c:List Ed} {a b:Nat} (h:zgV (E.map edR) a c b):∃ c0,zgV E b c0 a∧wt c0=wt c∧c0.length=c.length:=by
 have:=zMH h
 rw [zKb] at this
 exact ⟨_,this,zMG c,by simp⟩
theorem zot {E:List Ed} (h:zcp E):zcp (E.map edR):=fun a c hc=>by
 obtain ⟨c0,h1,h2,_⟩:=zKc hc
 rw [← h2];exact h a c0 h1
theorem zgm {E:List Ed} (h:zcp E):zcp (E.map edM):=fun a c hc=>by
 obtain ⟨c0,rfl,h1⟩:=zDE (f:=edM) (fun _=>rfl) (fun _=>rfl) hc
 rw [zMF]
 have:=h a c0 h1
 omega
def zKN : Option Int → Int × Int
  | none=>((1000000000000:Int),(0:Int))
  | some x=>(x / 1048576,x % 1048576)
theorem zty {L U:Int} (h0:0≤U) (h1:U < 1048576):zKN (some (L * 1048576+U))=(L,U):=by
 show ((L * 1048576+U) / 1048576,(L * 1048576+U) % 1048576)=(L,U)
 rw [show (L * 1048576+U) / 1048576=L by omega,show (L * 1048576+U) % 1048576=U by omega]
def zAM (s:Nat):zdl:=fun v=>if v=s then some 0 else none
theorem zgH (s:Nat):Start (fun v=>v=s) (zAM s) :=
 ⟨fun v x h=>(by
  unfold zAM at h
  by_cases hv:v=s
  ·rw [if_pos hv] at h;cases h;exact ⟨hv,rfl⟩
  ·rw [if_neg hv] at h;cases h),fun v h=>if_pos h⟩
structure EdOk (E : List Ed) (n : Nat) : Prop where
  lt:∀ e∈E,e.u < n∧e.v < n
  w:∀ e∈E,-1000000000≤e.w∧e.w≤1000000000
  n1:1≤n
  n40:n≤40
theorem EdOk.R {E:List Ed} {n:Nat} (h:EdOk E n):EdOk (E.map edR) n :=
  ⟨fun e he=>(by obtain ⟨f,h1,rfl⟩:=List.mem_map.1 he;exact ⟨(h.lt f h1).2,(h.lt f h1).1⟩),
   fun e he=>(by obtain ⟨f,h1,rfl⟩:=List.mem_map.1 he;exact h.w f h1),h.n1,h.n40⟩
theorem EdOk.ltM {E:List Ed} {n:Nat} (h:EdOk E n):∀ e∈E.map edM,e.u < n∧e.v < n :=
 fun e he=>by obtain ⟨f,h1,rfl⟩:=List.mem_map.1 he;exact h.lt f h1
theorem zuU {E:List Ed} {n:Nat} (h:EdOk E n) {c:List Ed} : ∀ {a b:Nat},zgV E a c b→-1000000000 * (c.length:Int)≤wt c∧wt c≤1000000000 * (c.length:Int):=by
 induction c with
 | nil=>intro a b _;exact ⟨(by show _≤(0:Int);simp),(by show (0:Int)≤_;simp)⟩
 | cons e l ih =>
  rintro a b ⟨h1,_,h3⟩
  have:=ih h3
  have:=h.w e h1
  show _≤e.w+wt l∧e.w+wt l≤_
  simp only [List.length_cons]
  omega
structure Ent (E : List Ed) (n s v : Nat) (x L U : Int) (c : List Ed) : Prop where
  ch:zgV E s c v
  x:x=L * 1048576+U
  L:L=wt c
  U:U=c.length
  len:c.length < n
theorem zDF {E:List Ed} {n:Nat} (hE:EdOk E n) {s:Nat} (hs:s < n) {d:zdl} (hd:Inv (E.map edM) (fun v=>v=s) d) {v:Nat} {x:Int} (hx:d v=some x):∃ c,Ent E n s v x (wt c) c.length c:=by
 obtain ⟨a,c,hc⟩:=hd v x hx
 have hl:=zHn hE.ltM (fun a ha=>Nat.lt_of_le_of_lt (Nat.le_of_eq ha) hs) hc
 obtain ⟨c0,rfl,h1⟩:=zDE (f:=edM) (fun _=>rfl) (fun _=>rfl) hc.ch
 obtain rfl:a=s:=hc.src
 exact ⟨c0,h1,by rw [hc.wt,zMF],rfl,rfl,by rw [List.length_map] at hl;omega⟩
def dst (E:List Ed) (n s:Nat):zdl:=rds (E.map edM) (n - 1) (zAM s)
theorem zHo {E:List Ed} {n s:Nat} (hn:zcp E):Inv (E.map edM) (fun v=>v=s) (dst E n s):=zAL (zgm hn) _ (zia (zgH s))
theorem ztz {E:List Ed} {n s:Nat} (hE:EdOk E n) (hn:zcp E) (hs:s < n):Fix (E.map edM) (dst E n s):=zDC (zgm hn) hE.ltM (fun a ha=>Nat.lt_of_le_of_lt (Nat.le_of_eq ha) hs) (zgH s)
theorem dst_at {E:List Ed} {n s v:Nat} (hE:EdOk E n) (hn:zcp E) (hs:s < n) {x:Int} (hx:dst E n s v=some x):∃ c,Ent E n s v x (wt c) c.length c:=zDF hE hs (zHo hn) hx
theorem zCA {E:List Ed} {n s:Nat} : ∃ x,dst E n s s=some x:=by
 obtain ⟨x,h,_⟩:=zuR (E.map edM) (n - 1) (zAM s) s 0 (if_pos rfl)
 exact ⟨x,h⟩
theorem zAN {E:List Ed} {n s:Nat} (hE:EdOk E n) (hn:zcp E) (hs:s < n) {c:List Ed} : ∀ {a v:Nat} {x:Int},dst E n s a=some x→zgV E a c v→∃ y,dst E n s v=some y∧y / 1048576≤x / 1048576+wt c:=by
 induction c with
 | nil=>intro a v x hx h;cases h;exact ⟨x,hx,by show _≤_+(0:Int);omega⟩
 | cons e l ih =>
  rintro a v x hx ⟨h1,h2,h3⟩
  subst h2
  obtain ⟨y,k1,k2⟩:=ztz hE hn hs (edM e) (List.mem_map_of_mem h1) x hx
  obtain ⟨z,m1,m2⟩:=ih (a:=e.v) k1 h3
  obtain ⟨c1,hc1⟩:=dst_at hE hn hs hx
  obtain ⟨c2,hc2⟩:=dst_at hE hn hs (show dst E n s e.v=some y from k1)
  refine ⟨z,m1,?_⟩
  have k2':y≤x+(e.w * 1048576+1):=k2
  have:=hE.n40
  have:=hc1.len
  have:=hc1.x
  have:=hc2.len
  have:=hc2.x
  show _≤_+(e.w+wt l)
  omega
theorem zHp {E:List Ed} {n s v:Nat} (hE:EdOk E n) (hn:zcp E) (hs:s < n) {c:List Ed} (hc:zgV E s c v):∃ x,dst E n s v=some x∧x / 1048576≤wt c:=by
 obtain ⟨x0,h1⟩:=zCA (E:=E) (n:=n) (s:=s)
 obtain ⟨y,k1,k2⟩:=zAN hE hn hs h1 hc
 have h3:x0≤0:=by
  obtain ⟨x',h1',h2'⟩:=zuR (E.map edM) (n - 1) (zAM s) s 0 (if_pos rfl)
  have:x'=x0:=Option.some.inj (h1'.symm.trans h1)
  omega
 exact ⟨y,k1,by omega⟩
def zHq (o:Option Int):Int:=(zKN o).1
theorem zAO {E:List Ed} {n s v:Nat} (hE:EdOk E n) (hn:zcp E) (hs:s < n) {x:Int} (hx:dst E n s v=some x):∃ c,zgV E s c v∧zHq (dst E n s v)=wt c∧c.length < n:=by
 obtain ⟨c,hc⟩:=dst_at hE hn hs hx
 refine ⟨c,hc.ch,?_,hc.len⟩
 rw [hx]
 show x / 1048576=_
 have:=hc.x;have:=hc.len;have:=hE.n40
 omega
theorem ztA {E:List Ed} {n s v:Nat} (hE:EdOk E n) (hn:zcp E) (hs:s < n) {c:List Ed} (hc:zgV E s c v):zHq (dst E n s v)≤wt c:=by
 obtain ⟨x,h1,h2⟩:=zHp hE hn hs hc
 rw [h1];exact h2
theorem zeV {E:List Ed} {n s v:Nat} (hE:EdOk E n) (hn:zcp E) (hs:s < n):(dst E n s v=none∧zHq (dst E n s v)=1000000000000)∨∃ c,dst E n s v ≠ none∧zgV E s c v∧zHq (dst E n s v)=wt c∧c.length < n∧-40000000000≤wt c∧wt c≤40000000000:=by
 cases h:dst E n s v with
 | none=>exact .inl ⟨rfl,rfl⟩
 | some x =>
  obtain ⟨c,h1,h2,h3⟩:=zAO hE hn hs h
  have:=zuU hE h1
  have:=hE.n40
  rw [h] at h2
  exact .inr ⟨c,(by intro h;cases h),h1,h2,h3,by omega,by omega⟩
end Go.Pm
namespace Go.Pm
def zou (E : List Ed) : Nat → zdl → Bool
  | 0,_=>true
  | k+1,d=>cond (E.foldl rlF (d,false)).2 (zou E k (rnd E d)) false
theorem ztB {E:List Ed} {k:Nat} : ∀ {m:Nat} {d:zdl},Fix E (rds E k d)→k < m→zou E m d=false:=by
 induction k with
 | zero =>
  intro m d h hm
  obtain ⟨m,rfl⟩:∃ m',m=m'+1:=⟨m - 1,by omega⟩
  show cond (E.foldl rlF (d,false)).2 _ _=false
  rw [zjP (show ∀ e∈E,Sat d e from h)];rfl
 | succ k ih =>
  intro m d h hm
  obtain ⟨m,rfl⟩:∃ m',m=m'+1:=⟨m - 1,by omega⟩
  show cond (E.foldl rlF (d,false)).2 (zou E m (rnd E d)) false=false
  rw [ih (m:=m) (d:=rnd E d) h (by omega)]
  cases (E.foldl rlF (d,false)).2 <;> rfl
theorem zCB {E:List Ed} {m:Nat} : ∀ {d:zdl},zou E m d=false→∃ k,Fix E (rds E k d):=by
 induction m with
 | zero=>intro d h;cases h
 | succ m ih =>
  intro d h
  have h':cond (E.foldl rlF (d,false)).2 (zou E m (rnd E d)) false=false:=h
  cases hc:(E.foldl rlF (d,false)).2
  ·exact ⟨0,zi6 hc⟩
  ·rw [hc] at h'
   obtain ⟨k,hk⟩:=ih h'
   exact ⟨k+1,hk⟩
def zAY (n:Nat):zdl:=fun v=>if v < n then some 0 else none
theorem zvQ (n:Nat):Start (fun v=>v < n) (zAY n) :=
 ⟨fun v x h=>(by
  unfold zAY at h
  by_cases hv:v < n
  ·rw [if_pos hv] at h;cases h;exact ⟨hv,rfl⟩
  ·rw [if_neg hv] at h;cases h),fun v h=>if_pos h⟩
theorem zCC {E:List Ed} {n:Nat} (hE:EdOk E n):zou E n (zAY n)=false↔zcp E:=by
 constructor
 ·intro h
  obtain ⟨k,hk⟩:=zCB h
  have hsome:∀ v,v < n→∃ x,rds E k (zAY n) v=some x:=fun v hv=>by
   obtain ⟨x,hx,_⟩:=zuR E k (zAY n) v 0 (if_pos hv)
   exact ⟨x,hx⟩
  refine zqb (f:=fun v=>(rds E k (zAY n) v).getD 0) fun e he=>?_
  obtain ⟨x,hx⟩:=hsome e.u (hE.lt e he).1
  obtain ⟨y,hy,hxy⟩:=hk e he x hx
  show (rds E k (zAY n) e.v).getD 0≤(rds E k (zAY n) e.u).getD 0+e.w
  rw [hx,hy];exact hxy
 ·intro h
  have:=hE.n1
  exact ztB (zDC h hE.lt (fun a ha=>ha) (zvQ n)) (by omega)
end Go.Pm
namespace Go.Proofs
open Go Go.Pm
set_option maxRecDepth 100000
set_option linter.unusedVariables false
theorem zgK {n:Nat} {F:Tab} {k:Nat} (hk:k < n):tg n F k=F k:=by
 unfold tg zl8
 have h:(zm (zhv 0 n F))[k]? = some (.p (.int .i64 (F k))):=by
  rw [zm,List.getElem?_map,zgo n 0 F k hk,Nat.zero_add];rfl
 rw [h]
theorem zDG {n:Nat} {F:Tab} {k:Nat} {v:Int} {j:Nat} (hj:j < n):ts n F k [v] j=if j=k then v else F j:=by
 show (match Nat.beq j k with | true=>v | false=>tg n F j)=_
 by_cases h:j=k
 ·rw [if_pos h,show Nat.beq j k=true from by rw [h];exact Nat.beq_refl _]
 ·rw [if_neg h,show Nat.beq j k=false from Bool.eq_false_iff.2 fun e=>h (Nat.eq_of_beq_eq_true e)];exact zgK hj
theorem zdN {n:Nat} {F:Tab} {k:Nat} {v w:Int} {j:Nat} (hj:j < n):ts n F k [v,w] j=if j=k+1 then w else if j=k then v else F j:=by
 show (match Nat.beq j (k+1) with | true=>w | false=>(match Nat.beq j k with | true=>v | false=>tg n F j))=_
 by_cases h:j=k+1
 ·rw [if_pos h,show Nat.beq j (k+1)=true from by rw [h];exact Nat.beq_refl _]
 ·rw [if_neg h, show Nat.beq j (k + 1) = false from Bool.eq_false_iff.2 fun e => h (Nat.eq_of_beq_eq_true e)]
  by_cases h':j=k
  ·rw [if_pos h',show Nat.beq j k=true from by rw [h'];exact Nat.beq_refl _]
  ·rw [if_neg h',show Nat.beq j k=false from Bool.eq_false_iff.2 fun e=>h' (Nat.eq_of_beq_eq_true e)];exact zgK hj
def fwS (t:Tie) (i:Nat):step:=⟨⟨(i:Int),false⟩,t.From,t.To,t.High⟩
def bwS (t:Tie) (i:Nat):step:=⟨⟨(i:Int),true⟩,t.To,t.From,w64 (0 - t.Low)⟩
def zHH (a:web) (i:Nat):Bool:=(zu1 (a.out.F [(i:Int)]) 0) != 0
def stK (a:web) (i:Nat):List step :=
 cond (zHH a i) [] ((cond ((a.Net.Ties.get i).High != (1000000000000:Int)) [fwS (a.Net.Ties.get i) i] []) ++ (cond ((a.Net.Ties.get i).Low != (-1000000000000:Int)) [bwS (a.Net.Ties.get i) i] []))
def stL (a : web) : Nat → Nat → List step
  | 0,_=>[]
  | m+1,i=>stK a i ++ stL a m (i+1)
theorem ztC (a:web) (hn:a.Net.Ties.len≤9223372036854775807):zl0 a=true∧zic a=stL a a.Net.Ties.len 0:=by
 have key:∀ (m k i:Nat),i+m=a.Net.Ties.len→m < k→zey a k (i:Int)=true∧zex a k (i:Int)=stL a m i:=by
  intro m
  induction m with
  | zero =>
   intro k i hi hk
   obtain ⟨k,rfl⟩:∃ k',k=k'+1:=⟨k - 1,by omega⟩
   constructor
   ·show zfc a (zey a k) (i : Int) = true
    unfold zfc
    rw [decide_eq_false (show ¬ (i:Int) < (a.Net.Ties.len:Int) by omega),cond_false]
   ·show zfb a (zex a k) (i : Int) = []
    unfold zfb
    rw [decide_eq_false (show ¬ (i:Int) < (a.Net.Ties.len:Int) by omega),cond_false]
  | succ m ih =>
   intro k i hi hk
   obtain ⟨k,rfl⟩:∃ k',k=k'+1:=⟨k - 1,by omega⟩
   obtain ⟨h1,h2⟩:=ih k (i+1) (by omega) (by omega)
   constructor
   ·show zfc a (zey a k) (i : Int) = true
    unfold zfc
    rw [decide_eq_true (show (i:Int) < (a.Net.Ties.len:Int) by omega),cond_true,decide_eq_true (show 0≤(i:Int)∧(i:Int) < (a.Net.Ties.len:Int) by omega),Bool.true_and,zoq (n:=a.Net.Ties.len) (by omega) hn,h1]
    generalize (zu1 (a.out.F [(i:Int)]) 0 != 0)=b1
    generalize (s94 (⟨(a.Net.Ties.get ((i:Int)).toNat),(i:Int)⟩:tie)).2=b2
    generalize (s95 (⟨(a.Net.Ties.get ((i:Int)).toNat),(i:Int)⟩:tie)).2=b3
    cases b1 <;> cases b2 <;> cases b3 <;> rfl
   ·show zfb a (zex a k) (i : Int) = stK a i ++ stL a m (i + 1)
    unfold zfb
    rw [decide_eq_true (show (i:Int) < (a.Net.Ties.len:Int) by omega),cond_true,Int.toNat_natCast,zoq (n:=a.Net.Ties.len) (by omega) hn,h2]
    unfold stK zHH s94 s95
    generalize (zu1 (a.out.F [(i:Int)]) 0 != 0)=b1
    show cond b1 _ (cond ((a.Net.Ties.get i).High != (1000000000000:Int)) (_ :: cond ((a.Net.Ties.get i).Low != (-1000000000000:Int)) (_ :: _) _) (cond ((a.Net.Ties.get i).Low != (-1000000000000:Int)) (_ :: _) _))=_
    generalize ((a.Net.Ties.get i).High != (1000000000000:Int))=b2
    generalize ((a.Net.Ties.get i).Low != (-1000000000000:Int))=b3
    cases b1 <;> cases b2 <;> cases b3 <;> rfl
 exact key a.Net.Ties.len Fuel 0 (by omega) (by simp only [Fuel];omega)
theorem zhq {a:web} {y:step} : ∀ {m i:Nat},y∈stL a m i↔∃ j,i≤j∧j < i+m∧y∈stK a j:=by
 intro m
 induction m with
 | zero=>intro i;exact ⟨fun h=>(by cases h),fun ⟨j,h1,h2,_⟩=>(by omega)⟩
 | succ m ih =>
  intro i
  show y∈stK a i ++ stL a m (i+1)↔_
  rw [List.mem_append,ih]
  constructor
  ·rintro (h | ⟨j, h1, h2, h3⟩)
   ·exact ⟨i,Nat.le_refl _,by omega,h⟩
   ·exact ⟨j,by omega,by omega,h3⟩
  ·rintro ⟨j, h1, h2, h3⟩
   by_cases h:j=i
   ·subst h;exact .inl h3
   ·exact .inr ⟨j,by omega,by omega,h3⟩
theorem zhr {a:web} {y:step} {j:Nat} : y∈stK a j↔zHH a j=false∧(((a.Net.Ties.get j).High ≠ 1000000000000∧y=fwS (a.Net.Ties.get j) j)∨((a.Net.Ties.get j).Low ≠ -1000000000000∧y=bwS (a.Net.Ties.get j) j)):=by
 unfold stK
 cases h:zHH a j
 ·rw [cond_false, List.mem_append]
  by_cases h1:(a.Net.Ties.get j).High=1000000000000
  ·rw [show ((a.Net.Ties.get j).High != (1000000000000:Int)) = false by rw [h1]; rfl, cond_false]
   by_cases h2:(a.Net.Ties.get j).Low = -1000000000000
   ·rw [show ((a.Net.Ties.get j).Low != (-1000000000000:Int)) = false by rw [h2]; rfl, cond_false]
    simp [h1,h2]
   ·rw [bne_iff_ne.2 h2, cond_true]
    simp [h1,h2]
  ·rw [bne_iff_ne.2 h1, cond_true]
   by_cases h2:(a.Net.Ties.get j).Low = -1000000000000
   ·rw [show ((a.Net.Ties.get j).Low != (-1000000000000:Int)) = false by rw [h2]; rfl, cond_false]
    simp [h1,h2]
   ·rw [bne_iff_ne.2 h2, cond_true]
    simp [h1,h2]
 ·rw [cond_true];simp
theorem zHr (a:web):∀ m i,(stL a m i).length≤2 * m:=by
 intro m
 induction m with
 | zero=>intro i;exact Nat.le_refl _
 | succ m ih =>
  intro i
  show (stK a i ++ stL a m (i+1)).length≤_
  rw [List.length_append]
  have:=ih (i+1)
  have:(stK a i).length≤2:=by
   unfold stK
   cases zHH a i <;> cases ((a.Net.Ties.get i).High != (1000000000000:Int)) <;> cases ((a.Net.Ties.get i).Low != (-1000000000000:Int)) <;> simp
  omega
def edS (y:step):Ed:=⟨y.from_.toNat,y.to.toNat,y.length⟩
structure StOk (y : step) (N : Nat) : Prop where
  f0:0≤y.from_
  f1:y.from_ < N
  t0:0≤y.to
  t1:y.to < N
  l0 : -1000000000≤y.length
  l1:y.length≤1000000000
abbrev Ws (a:web):List step:=stL a a.Net.Ties.len 0
def We (a:web):List Ed:=(Ws a).map edS
theorem zuV {t:Tie} {N:Int} (h:TieOk t N) (h':t.Low ≠ -1000000000000):w64 (0 - t.Low) = -t.Low:=by
 have:=h.lo.resolve_left h'
 rw [zcv (by omega) (by omega)];omega
theorem zKd {a:web} (hn:NetOk a.Net) {y:step} (hy:y∈Ws a):StOk y a.Net.Nodes.toNat:=by
 obtain ⟨j,_,h2,h3⟩:=zhq.1 hy
 have h:=hn.tie j (by omega)
 have:=h.f0;have:=h.f1;have:=h.t0;have:=h.t1
 rcases (zhr.1 h3).2 with ⟨h4,rfl⟩ | ⟨h4,rfl⟩
 ·have := h.hi.resolve_left h4
  exact ⟨h.f0,by show (a.Net.Ties.get j).From < _;omega,h.t0,by show (a.Net.Ties.get j).To < _;omega,this.1,this.2⟩
 ·have := h.lo.resolve_left h4
  have e:=zuV h h4
  exact ⟨h.t0,by show (a.Net.Ties.get j).To < _;omega,h.f0,by show (a.Net.Ties.get j).From < _;omega,by show _≤w64 (0 - (a.Net.Ties.get j).Low);omega,by show w64 (0 - (a.Net.Ties.get j).Low)≤_;omega⟩
theorem zDH {a:web} (hn:NetOk a.Net):(Ws a).length≤400:=by
 have h1:=zHr a a.Net.Ties.len 0
 have h2:=hn.len
 show (stL a a.Net.Ties.len 0).length≤400
 omega
theorem zHs {a:web} (hn:NetOk a.Net):EdOk (We a) a.Net.Nodes.toNat:=by
 have:=hn.n1;have:=hn.n40
 refine ⟨fun e he=>?_,fun e he=>?_,by omega,by omega⟩
 ·obtain ⟨y, hy, rfl⟩ := List.mem_map.1 he
  have h:=zKd hn hy
  have:=h.f0;have:=h.f1;have:=h.t0;have:=h.t1
  exact ⟨by show y.from_.toNat < _;omega,by show y.to.toNat < _;omega⟩
 ·obtain ⟨y, hy, rfl⟩ := List.mem_map.1 he
  have h:=zKd hn hy
  exact ⟨h.l0,h.l1⟩
theorem zAP {a:web} (hn:NetOk a.Net) {e:Ed} : e∈We a↔∃ j,j < a.Net.Ties.len∧zHH a j=false∧(((a.Net.Ties.get j).High ≠ 1000000000000∧e=⟨(a.Net.Ties.get j).From.toNat,(a.Net.Ties.get j).To.toNat,(a.Net.Ties.get j).High⟩)∨((a.Net.Ties.get j).Low ≠ -1000000000000∧e=⟨(a.Net.Ties.get j).To.toNat,(a.Net.Ties.get j).From.toNat,-(a.Net.Ties.get j).Low⟩)):=by
 constructor
 ·intro he
  obtain ⟨y,hy,rfl⟩:=List.mem_map.1 he
  obtain ⟨j,_,h2,h3⟩:=zhq.1 hy
  obtain ⟨h4,h5⟩:=zhr.1 h3
  refine ⟨j,by omega,h4,?_⟩
  rcases h5 with ⟨h6,rfl⟩ | ⟨h6,rfl⟩
  ·exact .inl ⟨h6,rfl⟩
  ·refine .inr ⟨h6, ?_⟩
   rw [← zuV (hn.tie j (by omega)) h6];rfl
 ·rintro ⟨j, h1, h2, h3⟩
  rcases h3 with ⟨h6,rfl⟩ | ⟨h6,rfl⟩
  ·exact List.mem_map.2 ⟨fwS (a.Net.Ties.get j) j,zhq.2 ⟨j,by omega,by omega,zhr.2 ⟨h2,.inl ⟨h6,rfl⟩⟩⟩,rfl⟩
  ·exact List.mem_map.2 ⟨bwS (a.Net.Ties.get j) j,zhq.2 ⟨j,by omega,by omega,zhr.2 ⟨h2,.inr ⟨h6,rfl⟩⟩⟩,by rw [← zuV (hn.tie j h1) h6];rfl⟩
end Go.Proofs
namespace Go.Proofs
open Go Go.Pm
set_option maxRecDepth 100000
set_option linter.unusedVariables false
def Rt (N:Nat) (T:Tab) (d:zdl):Prop:=∀ v,v < N→d v=some (T v)
def Bd (B:Int) (T:Tab):Prop:=∀ v,v < 40→-B≤T v∧T v≤0
theorem zAQ (a:web) {N:Nat} (hN:N≤40) (S0:Int→Tab→Bool) (P0:Int→Tab→Bool):∀ (l:List step),(∀ y∈l,StOk y N)→∀ (t:Int) (c:Bool) (T:Tab) (d:zdl) (B:Int),Rt N T d→Bd B T→0≤B→B+l.length * 1000000000≤100000000000000000 →
    ∃ T',zea S0 a l t c T=ziw S0 a t ((l.map edS).foldl rlF (d,c)).2 T'∧zeb P0 a l t c T=zix P0 a t ((l.map edS).foldl rlF (d,c)).2 T'∧Rt N T' ((l.map edS).foldl rlF (d,c)).1∧Bd (B+l.length * 1000000000) T':=by
  intro l
  induction l with
  | nil=>intro _ t c T d B h1 h2 _ _;exact ⟨T,rfl,rfl,h1,by simpa using h2⟩
  | cons y l ih =>
    intro hl t c T d B h1 h2 h3 h4
    have hy:=hl y (List.mem_cons_self ..)
    have hl':∀ y∈l,StOk y N:=fun z hz=>hl z (List.mem_cons_of_mem _ hz)
    rw [List.length_cons] at h4
    have f0:=hy.f0;have f1:=hy.f1;have t0:=hy.t0;have t1:=hy.t1;have l0:=hy.l0;have l1:=hy.l1
    have hf:=h1 y.from_.toNat (by omega)
    have ht:=h1 y.to.toNat (by omega)
    have bf:=h2 y.from_.toNat (by omega)
    have bt:=h2 y.to.toNat (by omega)
    have e1:0+y.from_.toNat * 1+0=y.from_.toNat:=by omega
    have e2:0+y.to.toNat * 1+0=y.to.toNat:=by omega
    have hr:rlF (d,c) (edS y)=cond (decide (T y.from_.toNat+y.length < T y.to.toNat)) (zuQ d y.to.toNat (T y.from_.toNat+y.length),true) (d,c):=by
      unfold rlF edS
      simp only [hf,ht]
      rfl
    have hS:zea S0 a (y :: l) t c T=cond (decide (T y.from_.toNat+y.length < T y.to.toNat)) (zea S0 a l t true (ts 40 T y.to.toNat [T y.from_.toNat+y.length])) (zea S0 a l t c T):=by
      show zkU S0 a y (zea S0 a l) t c T=_
      generalize zea S0 a l=S
      unfold zkU
      rw [e1,e2,zgK (by omega),zgK (by omega),zcv (by omega) (by omega)]
    have hP:zeb P0 a (y :: l) t c T=cond (decide (T y.from_.toNat+y.length < T y.to.toNat)) (zeb P0 a l t true (ts 40 T y.to.toNat [T y.from_.toNat+y.length])) (zeb P0 a l t c T):=by
      show zkV P0 a y (zeb P0 a l) t c T=_
      generalize zeb P0 a l=S
      unfold zkV
      rw [e1,e2,zgK (by omega),zgK (by omega),zcv (by omega) (by omega),decide_eq_true (show 0≤y.from_∧y.from_ < (40:Int) by omega),decide_eq_true (show 0≤y.to∧y.to < (40:Int) by omega)]
      cases decide (T y.from_.toNat+y.length < T y.to.toNat) <;> rfl
    show ∃ T',_=ziw S0 a t ((l.map edS).foldl rlF (rlF (d,c) (edS y))).2 T'∧_=zix P0 a t ((l.map edS).foldl rlF (rlF (d,c) (edS y))).2 T'∧Rt N T' ((l.map edS).foldl rlF (rlF (d,c) (edS y))).1∧_
    rw [hS,hP,hr]
    by_cases hlt:T y.from_.toNat+y.length < T y.to.toNat
    · rw [decide_eq_true hlt, cond_true, cond_true, cond_true]
      obtain ⟨T', k1, k2, k3, k4⟩ := ih hl' t true (ts 40 T y.to.toNat [T y.from_.toNat + y.length]) (zuQ d y.to.toNat (T y.from_.toNat + y.length)) (B + 1000000000)
        (fun v hv=>by
          rw [zDG (by omega)]
          unfold zuQ
          by_cases h:v=y.to.toNat
          · rw [if_pos h,if_pos h]
          · rw [if_neg h,if_neg h];exact h1 v hv)
        (fun v hv=>by
          rw [zDG hv]
          by_cases h:v=y.to.toNat
          · rw [if_pos h];omega
          · rw [if_neg h];have:=h2 v hv;omega) (by omega) (by omega)
      refine ⟨T',k1,k2,k3,?_⟩
      rw [List.length_cons,show B+((l.length+1:Nat):Int) * 1000000000=B+1000000000+(l.length:Int) * 1000000000 by omega]
      exact k4
    · rw [decide_eq_false hlt, cond_false, cond_false, cond_false]
      obtain ⟨T',k1,k2,k3,k4⟩:=ih hl' t c T d B h1 h2 h3 (by omega)
      refine ⟨T',k1,k2,k3,fun v hv=>?_⟩
      have:=k4 v hv
      rw [List.length_cons]
      omega
theorem ztD (a:web) (hn:NetOk a.Net):∀ (m k i:Nat) (T:Tab) (d:zdl) (B:Int),Rt a.Net.Nodes.toNat T d→Bd B T→0≤B→B+m * 400000000000≤100000000000000000→(i:Int)+m=a.Net.Nodes→m < k →
  zfe a k (i:Int) T=true∧zfd a k (i:Int) T=zou (We a) m d:=by
 have hn1:=hn.n1;have hn40:=hn.n40;have hlen:=hn.len
 obtain ⟨q1,q2⟩:=ztC a (by omega)
 intro m
 induction m with
 | zero =>
  intro k i T d B _ _ _ _ hi hk
  obtain ⟨k,rfl⟩:∃ k',k=k'+1:=⟨k - 1,by omega⟩
  constructor
  ·show zha a (zfe a k) (i : Int) T = true
   unfold zha
   rw [decide_eq_false (show ¬ (i:Int) < a.Net.Nodes by omega),cond_false]
  ·show zg9 a (zfd a k) (i : Int) T = true
   unfold zg9
   rw [decide_eq_false (show ¬ (i:Int) < a.Net.Nodes by omega),cond_false]
 | succ m ih =>
  intro k i T d B h1 h2 h3 h4 hi hk
  obtain ⟨k,rfl⟩:∃ k',k=k'+1:=⟨k - 1,by omega⟩
  have hwl:=zDH hn
  obtain ⟨T',k1,k2,k3,k4⟩:=zAQ a (N:=a.Net.Nodes.toNat) (by omega) (zfd a k) (zfe a k) (Ws a) (fun y hy=>zKd hn hy) (i:Int) false T d B h1 h2 h3 (by omega)
  have hB:Bd (B+400000000000) T':=fun v hv=>by have:=k4 v hv;omega
  have hw:w64 ((i:Int)+(1:Int))=((i+1:Nat):Int):=by rw [zcv (by omega) (by omega)];omega
  obtain ⟨r1,r2⟩:=ih k (i+1) T' (rnd (We a) d) (B+400000000000) k3 hB (by omega) (by omega) (by omega) (by omega)
  constructor
  ·show zha a (zfe a k) (i : Int) T = true
   unfold zha znE
   rw [decide_eq_true (show (i:Int) < a.Net.Nodes by omega),cond_true,q1,q2,k2]
   unfold zix
   rw [hw,r1]
   cases ((Ws a).map edS |>.foldl rlF (d,false)).2 <;> rfl
  ·show zg9 a (zfd a k) (i : Int) T = cond ((We a).foldl rlF (d, false)).2 (zou (We a) m (rnd (We a) d)) false
   unfold zg9 zq4
   rw [decide_eq_true (show (i:Int) < a.Net.Nodes by omega),cond_true,q2,k1]
   unfold ziw
   rw [hw,r2]
   show cond (!((We a).foldl rlF (d,false)).2) false _=_
   cases ((We a).foldl rlF (d,false)).2 <;> rfl
theorem zAR (a:web) (hn:NetOk a.Net):p88 a=true∧s88 a=zou (We a) a.Net.Nodes.toNat (zAY a.Net.Nodes.toNat):=by
 have hn1:=hn.n1;have hn40:=hn.n40
 have:=ztD a hn a.Net.Nodes.toNat Fuel 0 (fun _=>(0:Int)) (zAY a.Net.Nodes.toNat) 0 (fun v hv=>if_pos hv) (fun v hv=>⟨by show -(0:Int)≤(0:Int);omega,Int.le_refl _⟩) (by omega) (by omega) (by omega) (by simp only [Fuel];omega)
 exact this
theorem zAS (a:web) (hn:NetOk a.Net):s88 a=false↔zcp (We a):=by
 rw [(zAR a hn).2];exact zCC (zHs hn)
end Go.Proofs
namespace Go.Proofs
open Go Go.Pm
set_option maxRecDepth 100000
set_option linter.unusedVariables false
theorem zjQ (a b:far):zvW a ⟨1,fun _=>b⟩=true∧zcb a ⟨1,fun _=>b⟩=cond (zB0 b a) b a:=by
 unfold zvW zcb znI znH
 have key:∀ k,zgw (⟨1,fun _=>b⟩:Sl far) (k+2) (0:Int) a.length a.uses=true∧zgv (⟨1,fun _=>b⟩:Sl far) (k+2) (0:Int) a.length a.uses=cond (zB0 b a) b a:=by
  intro k
  have hw:w64 ((0:Int)+(1:Int))=(1:Int):=by rw [zcv (by omega) (by omega)];rfl
  have e1:∀ x y,zgv (⟨1,fun _=>b⟩:Sl far) (k+1) (1:Int) x y=(⟨x,y⟩:far):=fun x y=>by
   show zgt (⟨1,fun _=>b⟩:Sl far) (zgv (⟨1,fun _=>b⟩:Sl far) k) (1:Int) x y=_
   unfold zgt
   rw [decide_eq_false (show ¬ (1:Int) < ((1:Nat):Int) by omega),cond_false]
  have e2:∀ x y,zgw (⟨1,fun _=>b⟩:Sl far) (k+1) (1:Int) x y=true:=fun x y=>by
   show zgu (⟨1,fun _=>b⟩:Sl far) (zgw (⟨1,fun _=>b⟩:Sl far) k) (1:Int) x y=_
   unfold zgu
   rw [decide_eq_false (show ¬ (1:Int) < ((1:Nat):Int) by omega),cond_false]
  constructor
  ·show zgu (⟨1, fun _ => b⟩ : Sl far) (zgw (⟨1, fun _ => b⟩ : Sl far) (k + 1)) (0:Int) a.length a.uses = _
   unfold zgu znG
   rw [decide_eq_true (show (0:Int) < ((1:Nat):Int) by omega),cond_true,decide_eq_true (show 0≤(0:Int)∧(0:Int) < ((1:Nat):Int) by omega),Bool.true_and,hw,e2,e2]
   cases zB0 b (⟨a.length,a.uses⟩:far) <;> rfl
  ·show zgt (⟨1, fun _ => b⟩ : Sl far) (zgv (⟨1, fun _ => b⟩ : Sl far) (k + 1)) (0:Int) a.length a.uses = _
   unfold zgt znF
   rw [decide_eq_true (show (0:Int) < ((1:Nat):Int) by omega),cond_true,hw,e1,e1]
 have:=key (Fuel - 2)
 rw [show Fuel - 2+2=Fuel by simp only [Fuel]] at this
 exact this
theorem zAT (a b:far):zB0 a b=decide (a.length < b.length∨(a.length=b.length∧a.uses < b.uses)):=by
 unfold zB0
 by_cases h1:a.length < b.length
 ·rw [decide_eq_true h1,cond_true];exact (decide_eq_true (.inl h1)).symm
 ·rw [decide_eq_false h1, cond_false]
  by_cases h2:a.length=b.length
  ·rw [show (a.length == b.length) = true from beq_iff_eq.2 h2, cond_true]
   exact decide_eq_decide.2 ⟨fun h=>.inr ⟨h2,h⟩,fun h=>h.elim (fun h=>absurd h h1) (fun h=>h.2)⟩
  ·rw [show (a.length == b.length) = false from beq_eq_false_iff_ne.2 h2, cond_false]
   exact (decide_eq_false (fun h=>h.elim h1 (fun h=>h2 h.1))).symm
def Rp (N:Nat) (T:Tab) (d:zdl):Prop:=∀ v,v < N→(T (v * 2),T (v * 2+1))=zKN (d v)
def nv (x y:Int):Bool:=match (x == (1000000000000:Int)) with | true=>(match (y == (0:Int)) with | true=>true | false=>false) | false=>false
def sm (x y u v:Int):Bool:=match (x == u) with | true=>(match (y == v) with | true=>true | false=>false) | false=>false
theorem zuW (x y:Int):nv x y=decide ((x,y)=((1000000000000:Int),(0:Int))):=by
 unfold nv
 by_cases h1:x=1000000000000
 ·rw [show (x == (1000000000000:Int)) = true from beq_iff_eq.2 h1]
  by_cases h2:y=0
  ·rw [show (y == (0:Int))=true from beq_iff_eq.2 h2];exact (decide_eq_true (by rw [h1,h2])).symm
  ·rw [show (y == (0:Int))=false from beq_eq_false_iff_ne.2 h2];exact (decide_eq_false (fun h=>h2 (Prod.mk.inj h).2)).symm
 ·rw [show (x == (1000000000000:Int)) = false from beq_eq_false_iff_ne.2 h1]
  exact (decide_eq_false (fun h=>h1 (Prod.mk.inj h).1)).symm
theorem same_eq (x y u v:Int):sm x y u v=decide ((x,y)=(u,v)):=by
 unfold sm
 by_cases h1:x=u
 ·rw [show (x == u) = true from beq_iff_eq.2 h1]
  by_cases h2:y=v
  ·rw [show (y == v)=true from beq_iff_eq.2 h2];exact (decide_eq_true (by rw [h1,h2])).symm
  ·rw [show (y == v)=false from beq_eq_false_iff_ne.2 h2];exact (decide_eq_false (fun h=>h2 (Prod.mk.inj h).2)).symm
 ·rw [show (x == u) = false from beq_eq_false_iff_ne.2 h1]
  exact (decide_eq_false (fun h=>h1 (Prod.mk.inj h).1)).symm
theorem zjR {E : List Ed} {n s v : Nat} (hE : EdOk E n) (hs : s < n) {d : zdl} (hd : Inv (E.map edM) (fun v => v = s) d) {x : Int} (hx : d v = some x) :
  ∃ L U,zKN (d v)=(L,U)∧x=L * 1048576+U∧0≤U∧U < 40∧-40000000000≤L∧L≤40000000000:=by
 obtain ⟨c,hc⟩:=zDF hE hs hd hx
 have h1:=zuU hE hc.ch
 have h2:=hc.len
 have h3:=hE.n40
 refine ⟨wt c,c.length,?_,hc.x,by omega,by omega,by omega,by omega⟩
 rw [hx,hc.x]
 exact zty (by omega) (by omega)
end Go.Proofs
namespace Go.Proofs
open Go Go.Pm
set_option maxRecDepth 100000
set_option linter.unusedVariables false
theorem zKe (a : web) {N s : Nat} (E : List Ed) (hE : EdOk E N) (hn : zcp E) (hs : s < N) (S2 : Bool → Tab → Tab → Tab) (P2 : Bool → Tab → Tab → Bool) (y : step) (hy : StOk y N) (hm : edS y ∈ E) (S3 : Bool → Tab → Tab → Tab) (P3 : Bool → Tab → Tab → Bool) (c : Bool) (T4 T : Tab) (d : zdl) (h1 : Rp N T d) (hi : Inv (E.map edM) (fun v => v = s) d) :
  ∃ T',zlG S2 a y S3 c T4 T=S3 (rlF (d,c) (edM (edS y))).2 T4 T'∧zlH P2 a y P3 c T4 T=P3 (rlF (d,c) (edM (edS y))).2 T4 T'∧Rp N T' (rlF (d,c) (edM (edS y))).1:=by
 have hN:=hE.n40
 have f0:=hy.f0;have f1:=hy.f1;have t0:=hy.t0;have t1:=hy.t1;have l0:=hy.l0;have l1:=hy.l1
 have hu:=h1 y.from_.toNat (by omega)
 have hv:=h1 y.to.toNat (by omega)
 have e1:0+y.from_.toNat * 2+0=y.from_.toNat * 2:=by omega
 have e2:0+y.to.toNat * 2+0=y.to.toNat * 2:=by omega
 have e3:0+y.from_.toNat * 2+1=y.from_.toNat * 2+1:=by omega
 have hin:=zlX (Src:=fun v=>v=s) (zgm hn) (s:=(d,c)) (e:=edM (edS y)) (List.mem_map_of_mem hm) hi
 have hS:zlG S2 a y S3 c T4 T=cond (nv (tg 80 T (0+y.from_.toNat * 2+0)) (tg 80 T (0+y.from_.toNat * 2+0+1))) (S3 c T4 T) (cond c (S3 true T4 (ts 80 T (0+y.to.toNat * 2+0) [(zcb (⟨(tg 80 T (0+y.to.toNat * 2+0)),(tg 80 T (0+y.to.toNat * 2+0+1))⟩:far) (⟨1,fun _=>(⟨(w64 ((tg 80 T (0+y.from_.toNat * 2+0))+y.length)),(w64 ((tg 80 T (0+y.from_.toNat * 2+1))+(1:Int)))⟩:far)⟩:(Sl far))).length,(zcb (⟨(tg 80 T (0+y.to.toNat * 2+0)),(tg 80 T (0+y.to.toNat * 2+0+1))⟩:far) (⟨1,fun _=>(⟨(w64 ((tg 80 T (0+y.from_.toNat * 2+0))+y.length)),(w64 ((tg 80 T (0+y.from_.toNat * 2+1))+(1:Int)))⟩:far)⟩:(Sl far))).uses])) (S3 (!(sm (zcb (⟨(tg 80 T (0+y.to.toNat * 2+0)),(tg 80 T (0+y.to.toNat * 2+0+1))⟩:far) (⟨1,fun _=>(⟨(w64 ((tg 80 T (0+y.from_.toNat * 2+0))+y.length)),(w64 ((tg 80 T (0+y.from_.toNat * 2+1))+(1:Int)))⟩:far)⟩:(Sl far))).length (zcb (⟨(tg 80 T (0+y.to.toNat * 2+0)),(tg 80 T (0+y.to.toNat * 2+0+1))⟩:far) (⟨1,fun _=>(⟨(w64 ((tg 80 T (0+y.from_.toNat * 2+0))+y.length)),(w64 ((tg 80 T (0+y.from_.toNat * 2+1))+(1:Int)))⟩:far)⟩:(Sl far))).uses (tg 80 T (0+y.to.toNat * 2+0)) (tg 80 T (0+y.to.toNat * 2+0+1)))) T4 (ts 80 T (0+y.to.toNat * 2+0) [(zcb (⟨(tg 80 T (0+y.to.toNat * 2+0)),(tg 80 T (0+y.to.toNat * 2+0+1))⟩:far) (⟨1,fun _=>(⟨(w64 ((tg 80 T (0+y.from_.toNat * 2+0))+y.length)),(w64 ((tg 80 T (0+y.from_.toNat * 2+1))+(1:Int)))⟩:far)⟩:(Sl far))).length,(zcb (⟨(tg 80 T (0+y.to.toNat * 2+0)),(tg 80 T (0+y.to.toNat * 2+0+1))⟩:far) (⟨1,fun _=>(⟨(w64 ((tg 80 T (0+y.from_.toNat * 2+0))+y.length)),(w64 ((tg 80 T (0+y.from_.toNat * 2+1))+(1:Int)))⟩:far)⟩:(Sl far))).uses]))):=rfl
 have hP:zlH P2 a y P3 c T4 T=(decide (0≤y.from_∧y.from_ < (40:Int)) && cond (nv (tg 80 T (0+y.from_.toNat * 2+0)) (tg 80 T (0+y.from_.toNat * 2+0+1))) (P3 c T4 T) (decide (0≤y.to∧y.to < (40:Int)) && (decide (0≤y.from_∧y.from_ < (40:Int)) && (decide (0≤y.from_∧y.from_ < (40:Int)) && (decide (zvW (⟨(tg 80 T (0+y.to.toNat * 2+0)),(tg 80 T (0+y.to.toNat * 2+0+1))⟩:far) (⟨1,fun _=>(⟨(w64 ((tg 80 T (0+y.from_.toNat * 2+0))+y.length)),(w64 ((tg 80 T (0+y.from_.toNat * 2+1))+(1:Int)))⟩:far)⟩:(Sl far))=true) && cond c (decide (0≤y.to∧y.to < (40:Int)) && P3 true T4 (ts 80 T (0+y.to.toNat * 2+0) [(zcb (⟨(tg 80 T (0+y.to.toNat * 2+0)),(tg 80 T (0+y.to.toNat * 2+0+1))⟩:far) (⟨1,fun _=>(⟨(w64 ((tg 80 T (0+y.from_.toNat * 2+0))+y.length)),(w64 ((tg 80 T (0+y.from_.toNat * 2+1))+(1:Int)))⟩:far)⟩:(Sl far))).length,(zcb (⟨(tg 80 T (0+y.to.toNat * 2+0)),(tg 80 T (0+y.to.toNat * 2+0+1))⟩:far) (⟨1,fun _=>(⟨(w64 ((tg 80 T (0+y.from_.toNat * 2+0))+y.length)),(w64 ((tg 80 T (0+y.from_.toNat * 2+1))+(1:Int)))⟩:far)⟩:(Sl far))).uses])) (decide (0≤y.to∧y.to < (40:Int)) && (decide (0≤y.to∧y.to < (40:Int)) && P3 (!(sm (zcb (⟨(tg 80 T (0+y.to.toNat * 2+0)),(tg 80 T (0+y.to.toNat * 2+0+1))⟩:far) (⟨1,fun _=>(⟨(w64 ((tg 80 T (0+y.from_.toNat * 2+0))+y.length)),(w64 ((tg 80 T (0+y.from_.toNat * 2+1))+(1:Int)))⟩:far)⟩:(Sl far))).length (zcb (⟨(tg 80 T (0+y.to.toNat * 2+0)),(tg 80 T (0+y.to.toNat * 2+0+1))⟩:far) (⟨1,fun _=>(⟨(w64 ((tg 80 T (0+y.from_.toNat * 2+0))+y.length)),(w64 ((tg 80 T (0+y.from_.toNat * 2+1))+(1:Int)))⟩:far)⟩:(Sl far))).uses (tg 80 T (0+y.to.toNat * 2+0)) (tg 80 T (0+y.to.toNat * 2+0+1)))) T4 (ts 80 T (0+y.to.toNat * 2+0) [(zcb (⟨(tg 80 T (0+y.to.toNat * 2+0)),(tg 80 T (0+y.to.toNat * 2+0+1))⟩:far) (⟨1,fun _=>(⟨(w64 ((tg 80 T (0+y.from_.toNat * 2+0))+y.length)),(w64 ((tg 80 T (0+y.from_.toNat * 2+1))+(1:Int)))⟩:far)⟩:(Sl far))).length,(zcb (⟨(tg 80 T (0+y.to.toNat * 2+0)),(tg 80 T (0+y.to.toNat * 2+0+1))⟩:far) (⟨1,fun _=>(⟨(w64 ((tg 80 T (0+y.from_.toNat * 2+0))+y.length)),(w64 ((tg 80 T (0+y.from_.toNat * 2+1))+(1:Int)))⟩:far)⟩:(Sl far))).uses])))))))):=rfl
 rw [hS,hP]
 clear hS hP
 rw [e1,e2,e3,zgK (k:=y.from_.toNat * 2) (by omega),zgK (k:=y.from_.toNat * 2+1) (by omega),zgK (k:=y.to.toNat * 2) (by omega),zgK (k:=y.to.toNat * 2+1) (by omega)]
 rw [decide_eq_true (show 0≤y.from_∧y.from_ < (40:Int) by omega),decide_eq_true (show 0≤y.to∧y.to < (40:Int) by omega)]
 simp only [zuW,same_eq]
 cases hdu:d y.from_.toNat with
 | none =>
  rw [hdu] at hu
  have hr:rlF (d,c) (edM (edS y))=(d,c):=by
   unfold rlF edM edS
   simp only [hdu]
  rw [hr,decide_eq_true (show (T (y.from_.toNat * 2),T (y.from_.toNat * 2+1))=((1000000000000:Int),(0:Int)) from hu)]
  exact ⟨T,rfl,rfl,h1⟩
 | some x =>
  obtain ⟨L,U,k1,k2,k3,k4,k5,k6⟩:=zjR hE hs hi hdu
  rw [hdu] at hu k1
  rw [k1] at hu
  have hL:T (y.from_.toNat * 2)=L:=(Prod.mk.inj hu).1
  have hU:T (y.from_.toNat * 2+1)=U:=(Prod.mk.inj hu).2
  rw [hL,hU,decide_eq_false (show ¬ (L,U)=((1000000000000:Int),(0:Int)) from fun h=>by have:=(Prod.mk.inj h).1;omega),zcv (x:=L+y.length) (by omega) (by omega),zcv (x:=U+(1:Int)) (by omega) (by omega)]
  rw [(zjQ _ _).1,(zjQ _ _).2,zAT]
  have hw:x+(edM (edS y)).w=(L+y.length) * 1048576+(U+1):=by
   show x+(y.length * 1048576+1)=_
   omega
  have hr:rlF (d,c) (edM (edS y))=cond (ltO ((L+y.length) * 1048576+(U+1)) (d y.to.toNat)) (zuQ d y.to.toNat ((L+y.length) * 1048576+(U+1)),true) (d,c):=by
   rw [← hw]
   unfold rlF edM edS
   simp only [hdu] <;> rfl
  have hlt:decide ((L+y.length < T (y.to.toNat * 2))∨(L+y.length=T (y.to.toNat * 2)∧U+1 < T (y.to.toNat * 2+1)))=ltO ((L+y.length) * 1048576+(U+1)) (d y.to.toNat):=by
   cases hdv:d y.to.toNat with
   | none =>
    rw [hdv] at hv
    have hv1:T (y.to.toNat * 2)=1000000000000:=(Prod.mk.inj hv).1
    rw [hv1]
    exact decide_eq_true (.inl (by omega))
   | some z =>
    obtain ⟨L',U',m1,m2,m3,m4,m5,m6⟩:=zjR hE hs hi hdv
    rw [hdv] at hv m1
    rw [m1] at hv
    rw [(Prod.mk.inj hv).1,(Prod.mk.inj hv).2,m2]
    exact decide_eq_decide.2 (by omega)
  simp only [hlt]
  rw [hr] at hin ⊢
  have hrw:∀ T'',Rp N T d→T''=ts 80 T (y.to.toNat * 2) [T (y.to.toNat * 2),T (y.to.toNat * 2+1)]→Rp N T'' d:=fun T'' h e v hv'=>by
   rw [e,zdN (by omega),zdN (by omega),← h v hv']
   by_cases hq:v=y.to.toNat
   ·subst hq
    rw [if_neg (by omega),if_pos rfl,if_pos rfl]
   ·rw [if_neg (by omega),if_neg (by omega),if_neg (by omega),if_neg (by omega)]
  cases hlo:ltO ((L+y.length) * 1048576+(U+1)) (d y.to.toNat) with
  | false =>
   refine ⟨ts 80 T (y.to.toNat * 2) [T (y.to.toNat * 2),T (y.to.toNat * 2+1)],?_,?_,hrw _ h1 rfl⟩
   ·simp only [cond_false, decide_true]
    cases c <;> rfl
   ·simp only [cond_false, Bool.true_and, decide_true]
    cases c <;> rfl
  | true =>
   rw [hlo] at hin
   simp only [cond_true,cond_false,Bool.true_and,decide_true] at hin ⊢
   refine ⟨ts 80 T (y.to.toNat * 2) [L+y.length,U+1],?_,?_,?_⟩
   ·cases c
    ·rw [decide_eq_false]
     ·rfl
     ·intro h
      rw [← hlt] at hlo
      have:=of_decide_eq_true hlo
      have h1':=(Prod.mk.inj h).1
      have h2':=(Prod.mk.inj h).2
      omega
    ·rfl
   ·cases c
    ·rw [decide_eq_false]
     ·rfl
     ·intro h
      rw [← hlt] at hlo
      have:=of_decide_eq_true hlo
      have h1':=(Prod.mk.inj h).1
      have h2':=(Prod.mk.inj h).2
      omega
    ·rfl
   ·intro v hv'
    rw [zdN (by omega),zdN (by omega)]
    unfold zuQ
    by_cases hq:v=y.to.toNat
    ·subst hq
     rw [if_neg (by omega),if_pos rfl,if_pos rfl,if_pos rfl]
     exact (zty (by omega) (by omega)).symm
    ·rw [if_neg (by omega), if_neg (by omega), if_neg (by omega), if_neg (by omega), if_neg hq]
     exact h1 v hv'
theorem zKf (a:web) {N s:Nat} (E:List Ed) (hE:EdOk E N) (hn:zcp E) (hs:s < N) (S2:Bool→Tab→Tab→Tab) (P2:Bool→Tab→Tab→Bool):∀ (l:List step),(∀ y∈l,StOk y N∧edS y∈E)→∀ (c:Bool) (T4 T:Tab) (d:zdl),Rp N T d→Inv (E.map edM) (fun v=>v=s) d →
  ∃ T',zhh S2 a l c T4 T=S2 (((l.map edS).map edM).foldl rlF (d,c)).2 T4 T'∧zhi P2 a l c T4 T=P2 (((l.map edS).map edM).foldl rlF (d,c)).2 T4 T'∧Rp N T' (((l.map edS).map edM).foldl rlF (d,c)).1:=by
 intro l
 induction l with
 | nil=>intro _ c T4 T d h1 _;exact ⟨T,rfl,rfl,h1⟩
 | cons y l ih =>
  intro hl c T4 T d h1 h2
  obtain ⟨hy,hm⟩:=hl y (List.mem_cons_self ..)
  obtain ⟨T',k1,k2,k3⟩:=zKe a E hE hn hs S2 P2 y hy hm (zhh S2 a l) (zhi P2 a l) c T4 T d h1 h2
  have h3:=zlX (Src:=fun v=>v=s) (zgm hn) (s:=(d,c)) (e:=edM (edS y)) (List.mem_map_of_mem hm) h2
  obtain ⟨T'',m1,m2,m3⟩:=ih (fun z hz=>hl z (List.mem_cons_of_mem _ hz)) (rlF (d,c) (edM (edS y))).2 T4 T' (rlF (d,c) (edM (edS y))).1 k3 h3
  exact ⟨T'',Eq.trans k1 m1,Eq.trans k2 m2,m3⟩
theorem zCD (a:web) (hnet:NetOk a.Net) (E:List Ed) (hEe:E=(Ws a).map edS) {s:Nat} (hE:EdOk E a.Net.Nodes.toNat) (hn:zcp E) (hs:s < a.Net.Nodes.toNat):∀ (m k:Nat) (T4 T:Tab) (d:zdl),Rp a.Net.Nodes.toNat T d→Inv (E.map edM) (fun v=>v=s) d→Fix (E.map edM) (rds (E.map edM) m d)→m+1 < k →
  ∃ T',zej a k true T4 T=true∧zei a k true T4 T=T'∧Rp a.Net.Nodes.toNat T' (rds (E.map edM) m d):=by
 have hlen:=hnet.len
 obtain ⟨q1,q2⟩:=ztC a (by omega)
 have hst:∀ y∈Ws a,StOk y a.Net.Nodes.toNat∧edS y∈E:=fun y hy=>⟨zKd hnet hy,by rw [hEe];exact List.mem_map_of_mem hy⟩
 have one:∀ (k:Nat) (T4 T:Tab) (d:zdl),Rp a.Net.Nodes.toNat T d→Inv (E.map edM) (fun v=>v=s) d →
   ∃ T',zei a (k+1) true T4 T=zei a k ((E.map edM).foldl rlF (d,false)).2 T4 T'∧zej a (k+1) true T4 T=zej a k ((E.map edM).foldl rlF (d,false)).2 T4 T'∧Rp a.Net.Nodes.toNat T' (rnd (E.map edM) d):=by
  intro k T4 T d h1 h2
  obtain ⟨T',k1,k2,k3⟩:=zKf a E hE hn hs (zei a k) (zej a k) (Ws a) hst false T4 T d h1 h2
  rw [← hEe] at k1 k2 k3
  refine ⟨T',?_,?_,k3⟩
  ·show zlI a (zei a k) true T4 T = _
   unfold zlI zsb
   rw [cond_true,q2];exact k1
  ·show zlJ a (zej a k) true T4 T = _
   unfold zlJ zn8
   rw [cond_true,q1,q2,decide_eq_true rfl,Bool.true_and];exact k2
 have stop:∀ (k:Nat) (T4 T:Tab),zei a (k+1) false T4 T=T∧zej a (k+1) false T4 T=true:=fun k T4 T=>⟨rfl,rfl⟩
 intro m
 induction m with
 | zero =>
  intro k T4 T d h1 h2 h3 hk
  obtain ⟨k,rfl⟩:∃ k',k=k'+1+1:=⟨k - 2,by omega⟩
  obtain ⟨T',k1,k2,k3⟩:=one (k+1) T4 T d h1 h2
  have h3':Fix (E.map edM) d:=h3
  rw [zjP h3'] at k1 k2
  rw [zlW h3'] at k3
  obtain ⟨j1,j2⟩:=stop k T4 T'
  exact ⟨T',k2.trans j2,k1.trans j1,k3⟩
 | succ m ih =>
  intro k T4 T d h1 h2 h3 hk
  obtain ⟨k,rfl⟩:∃ k',k=k'+1+1:=⟨k - 2,by omega⟩
  obtain ⟨T',k1,k2,k3⟩:=one (k+1) T4 T d h1 h2
  cases hf:((E.map edM).foldl rlF (d,false)).2 with
  | false =>
   rw [hf] at k1 k2
   have hx:Fix (E.map edM) d:=zi6 hf
   obtain ⟨j1,j2⟩:=stop k T4 T'
   refine ⟨T',k2.trans j2,k1.trans j1,?_⟩
   rw [zlW hx] at k3
   rw [zAK hx];exact k3
  | true =>
   rw [hf] at k1 k2
   obtain ⟨T'',m1,m2,m3⟩:=ih (k+1) T4 T' (rnd (E.map edM) d) k3 (zos (zgm hn) (fun _ h=>h) (s:=(d,false)) h2) h3 (by omega)
   exact ⟨T'',k2.trans m1,k1.trans m2,m3⟩
theorem zHt (a:web) (node:Int):∀ (m k i:Nat) (T4 T:Tab),(∀ v,v < i→T (v * 2)=1000000000000∧T (v * 2+1)=0)→i+m=40→m < k →
  ∃ T',zfj a node k (i:Int) T4 T=zlK a node T4 T'∧zfk a node k (i:Int) T4 T=zlL a node T4 T'∧∀ v,v < 40→T' (v * 2)=1000000000000∧T' (v * 2+1)=0:=by
 intro m
 induction m with
 | zero =>
  intro k i T4 T h hi hk
  obtain ⟨k,rfl⟩:∃ k',k=k'+1:=⟨k - 1,by omega⟩
  refine ⟨T,?_,?_,fun v hv=>h v (by omega)⟩
  ·show zhj a node (zfj a node k) (i : Int) T4 T = _
   unfold zhj
   rw [decide_eq_false (show ¬ (i:Int) < (40:Int) by omega),cond_false]
  ·show zhk a node (zfk a node k) (i : Int) T4 T = _
   unfold zhk
   rw [decide_eq_false (show ¬ (i:Int) < (40:Int) by omega),cond_false]
 | succ m ih =>
  intro k i T4 T h hi hk
  obtain ⟨k,rfl⟩:∃ k',k=k'+1:=⟨k - 1,by omega⟩
  have hw:w64 ((i:Int)+(1:Int))=((i+1:Nat):Int):=by rw [zcv (by omega) (by omega)];omega
  obtain ⟨T',k1,k2,k3⟩:=ih k (i+1) T4 (ts 80 T (i * 2) [(1000000000000:Int),(0:Int)]) (fun v hv=>by
   rw [zdN (by omega),zdN (by omega)]
   by_cases hq:v=i
   ·subst hq
    rw [if_neg (by omega),if_pos rfl,if_pos rfl];exact ⟨rfl,rfl⟩
   ·rw [if_neg (by omega),if_neg (by omega),if_neg (by omega),if_neg (by omega)];exact h v (by omega)) (by omega) (by omega)
  refine ⟨T',?_,?_,k3⟩
  ·rw [← k1]
   show zhj a node (zfj a node k) (i:Int) T4 T=_
   unfold zhj
   rw [decide_eq_true (show (i:Int) < (40:Int) by omega),cond_true,hw,Int.toNat_natCast,show 0+i * 2+0=i * 2 by omega]
  ·rw [← k2]
   show zhk a node (zfk a node k) (i:Int) T4 T=_
   unfold zhk
   rw [decide_eq_true (show (i:Int) < (40:Int) by omega),cond_true,decide_eq_true (show 0≤(i:Int)∧(i:Int) < (40:Int) by omega),Bool.true_and,hw,Int.toNat_natCast,show 0+i * 2+0=i * 2 by omega]
theorem zKg (a : web) (hnet : NetOk a.Net) (hn : zcp (We a)) (node : Int) (h0 : 0 ≤ node) (h1 : node < a.Net.Nodes) :
  p76 a node=true∧Rp a.Net.Nodes.toNat (s76 a node) (dst (We a) a.Net.Nodes.toNat node.toNat):=by
 have hn40:=hnet.n40
 have hEe:We a=(Ws a).map edS:=rfl
 have hE:EdOk (We a) a.Net.Nodes.toNat:=zHs hnet
 have hN:zcp (We a):=hn
 have hs:node.toNat < a.Net.Nodes.toNat:=by omega
 obtain ⟨T1,a1,a2,a3⟩:=zHt a node 40 Fuel 0 (fun _=>(0:Int)) (fun _=>(0:Int)) (fun v hv=>absurd hv (Nat.not_lt_zero _)) rfl (by simp only [Fuel];omega)
 have hr:Rp a.Net.Nodes.toNat (ts 80 T1 (node.toNat * 2) [(0:Int),(0:Int)]) (zAM node.toNat):=fun v hv=>by
  rw [zdN (by omega),zdN (by omega)]
  unfold zAM
  by_cases hq:v=node.toNat
  ·subst hq
   rw [if_neg (by omega),if_pos rfl,if_pos rfl,if_pos rfl];rfl
  ·rw [if_neg (by omega),if_neg (by omega),if_neg (by omega),if_neg (by omega),if_neg hq,(a3 v (by omega)).1,(a3 v (by omega)).2];rfl
 obtain ⟨T2,b1,b2,b3⟩:=zCD a hnet (We a) hEe hE hN hs (a.Net.Nodes.toNat - 1) Fuel (fun _=>(0:Int)) (ts 80 T1 (node.toNat * 2) [(0:Int),(0:Int)]) (zAM node.toNat) hr (zia (zgH node.toNat)) (ztz hE hN hs) (by simp only [Fuel];omega)
 have e:0+node.toNat * 2+0=node.toNat * 2:=by omega
 constructor
 ·show zfk a node Fuel 0 (fun _ => (0:Int)) (fun _ => (0:Int)) = true
  refine Eq.trans a2 ?_
  unfold zlL zsd
  rw [decide_eq_true (show 0≤node∧node < (40:Int) by omega),Bool.true_and,e];exact b1
 ·have:s76 a node=T2:=by
   show zfj a node Fuel 0 (fun _=>(0:Int)) (fun _=>(0:Int))=T2
   refine Eq.trans a1 ?_
   unfold zlK zsc
   rw [e];exact b2
  rw [this];exact b3
end Go.Proofs
namespace Go.Proofs
open Go Go.Pm
set_option maxRecDepth 100000
set_option linter.unusedVariables false
def edQ (y:step):Ed:=⟨y.to.toNat,y.from_.toNat,y.length⟩
theorem zHu (l:List step):l.map edQ=(l.map edS).map edR:=by rw [List.map_map];rfl

theorem zKh (a : web) {N s : Nat} (E : List Ed) (hE : EdOk E N) (hn : zcp E) (hs : s < N) (S2 : Bool → Tab → Tab → Tab) (P2 : Bool → Tab → Tab → Bool) (y : step) (hy : StOk y N) (hm : edQ y ∈ E) (S3 : Bool → Tab → Tab → Tab) (P3 : Bool → Tab → Tab → Bool) (c : Bool) (T4 T : Tab) (d : zdl) (h1 : Rp N T d) (hi : Inv (E.map edM) (fun v => v = s) d) :
  ∃ T',zlw S2 a y S3 c T4 T=S3 (rlF (d,c) (edM (edQ y))).2 T4 T'∧zlx P2 a y P3 c T4 T=P3 (rlF (d,c) (edM (edQ y))).2 T4 T'∧Rp N T' (rlF (d,c) (edM (edQ y))).1:=by
 have hN:=hE.n40
 have f0:=hy.f0;have f1:=hy.f1;have t0:=hy.t0;have t1:=hy.t1;have l0:=hy.l0;have l1:=hy.l1
 have hu:=h1 y.to.toNat (by omega)
 have hv:=h1 y.from_.toNat (by omega)
 have e1:0+y.to.toNat * 2+0=y.to.toNat * 2:=by omega
 have e2:0+y.from_.toNat * 2+0=y.from_.toNat * 2:=by omega
 have e3:0+y.to.toNat * 2+1=y.to.toNat * 2+1:=by omega
 have hin:=zlX (Src:=fun v=>v=s) (zgm hn) (s:=(d,c)) (e:=edM (edQ y)) (List.mem_map_of_mem hm) hi
 have hS:zlw S2 a y S3 c T4 T=cond (nv (tg 80 T (0+y.to.toNat * 2+0)) (tg 80 T (0+y.to.toNat * 2+0+1))) (S3 c T4 T) (cond c (S3 true T4 (ts 80 T (0+y.from_.toNat * 2+0) [(zcb (⟨(tg 80 T (0+y.from_.toNat * 2+0)),(tg 80 T (0+y.from_.toNat * 2+0+1))⟩:far) (⟨1,fun _=>(⟨(w64 ((tg 80 T (0+y.to.toNat * 2+0))+y.length)),(w64 ((tg 80 T (0+y.to.toNat * 2+1))+(1:Int)))⟩:far)⟩:(Sl far))).length,(zcb (⟨(tg 80 T (0+y.from_.toNat * 2+0)),(tg 80 T (0+y.from_.toNat * 2+0+1))⟩:far) (⟨1,fun _=>(⟨(w64 ((tg 80 T (0+y.to.toNat * 2+0))+y.length)),(w64 ((tg 80 T (0+y.to.toNat * 2+1))+(1:Int)))⟩:far)⟩:(Sl far))).uses])) (S3 (!(sm (zcb (⟨(tg 80 T (0+y.from_.toNat * 2+0)),(tg 80 T (0+y.from_.toNat * 2+0+1))⟩:far) (⟨1,fun _=>(⟨(w64 ((tg 80 T (0+y.to.toNat * 2+0))+y.length)),(w64 ((tg 80 T (0+y.to.toNat * 2+1))+(1:Int)))⟩:far)⟩:(Sl far))).length (zcb (⟨(tg 80 T (0+y.from_.toNat * 2+0)),(tg 80 T (0+y.from_.toNat * 2+0+1))⟩:far) (⟨1,fun _=>(⟨(w64 ((tg 80 T (0+y.to.toNat * 2+0))+y.length)),(w64 ((tg 80 T (0+y.to.toNat * 2+1))+(1:Int)))⟩:far)⟩:(Sl far))).uses (tg 80 T (0+y.from_.toNat * 2+0)) (tg 80 T (0+y.from_.toNat * 2+0+1)))) T4 (ts 80 T (0+y.from_.toNat * 2+0) [(zcb (⟨(tg 80 T (0+y.from_.toNat * 2+0)),(tg 80 T (0+y.from_.toNat * 2+0+1))⟩:far) (⟨1,fun _=>(⟨(w64 ((tg 80 T (0+y.to.toNat * 2+0))+y.length)),(w64 ((tg 80 T (0+y.to.toNat * 2+1))+(1:Int)))⟩:far)⟩:(Sl far))).length,(zcb (⟨(tg 80 T (0+y.from_.toNat * 2+0)),(tg 80 T (0+y.from_.toNat * 2+0+1))⟩:far) (⟨1,fun _=>(⟨(w64 ((tg 80 T (0+y.to.toNat * 2+0))+y.length)),(w64 ((tg 80 T (0+y.to.toNat * 2+1))+(1:Int)))⟩:far)⟩:(Sl far))).uses]))):=rfl
 have hP:zlx P2 a y P3 c T4 T=(decide (0≤y.to∧y.to < (40:Int)) && cond (nv (tg 80 T (0+y.to.toNat * 2+0)) (tg 80 T (0+y.to.toNat * 2+0+1))) (P3 c T4 T) (decide (0≤y.from_∧y.from_ < (40:Int)) && (decide (0≤y.to∧y.to < (40:Int)) && (decide (0≤y.to∧y.to < (40:Int)) && (decide (zvW (⟨(tg 80 T (0+y.from_.toNat * 2+0)),(tg 80 T (0+y.from_.toNat * 2+0+1))⟩:far) (⟨1,fun _=>(⟨(w64 ((tg 80 T (0+y.to.toNat * 2+0))+y.length)),(w64 ((tg 80 T (0+y.to.toNat * 2+1))+(1:Int)))⟩:far)⟩:(Sl far))=true) && cond c (decide (0≤y.from_∧y.from_ < (40:Int)) && P3 true T4 (ts 80 T (0+y.from_.toNat * 2+0) [(zcb (⟨(tg 80 T (0+y.from_.toNat * 2+0)),(tg 80 T (0+y.from_.toNat * 2+0+1))⟩:far) (⟨1,fun _=>(⟨(w64 ((tg 80 T (0+y.to.toNat * 2+0))+y.length)),(w64 ((tg 80 T (0+y.to.toNat * 2+1))+(1:Int)))⟩:far)⟩:(Sl far))).length,(zcb (⟨(tg 80 T (0+y.from_.toNat * 2+0)),(tg 80 T (0+y.from_.toNat * 2+0+1))⟩:far) (⟨1,fun _=>(⟨(w64 ((tg 80 T (0+y.to.toNat * 2+0))+y.length)),(w64 ((tg 80 T (0+y.to.toNat * 2+1))+(1:Int)))⟩:far)⟩:(Sl far))).uses])) (decide (0≤y.from_∧y.from_ < (40:Int)) && (decide (0≤y.from_∧y.from_ < (40:Int)) && P3 (!(sm (zcb (⟨(tg 80 T (0+y.from_.toNat * 2+0)),(tg 80 T (0+y.from_.toNat * 2+0+1))⟩:far) (⟨1,fun _=>(⟨(w64 ((tg 80 T (0+y.to.toNat * 2+0))+y.length)),(w64 ((tg 80 T (0+y.to.toNat * 2+1))+(1:Int)))⟩:far)⟩:(Sl far))).length (zcb (⟨(tg 80 T (0+y.from_.toNat * 2+0)),(tg 80 T (0+y.from_.toNat * 2+0+1))⟩:far) (⟨1,fun _=>(⟨(w64 ((tg 80 T (0+y.to.toNat * 2+0))+y.length)),(w64 ((tg 80 T (0+y.to.toNat * 2+1))+(1:Int)))⟩:far)⟩:(Sl far))).uses (tg 80 T (0+y.from_.toNat * 2+0)) (tg 80 T (0+y.from_.toNat * 2+0+1)))) T4 (ts 80 T (0+y.from_.toNat * 2+0) [(zcb (⟨(tg 80 T (0+y.from_.toNat * 2+0)),(tg 80 T (0+y.from_.toNat * 2+0+1))⟩:far) (⟨1,fun _=>(⟨(w64 ((tg 80 T (0+y.to.toNat * 2+0))+y.length)),(w64 ((tg 80 T (0+y.to.toNat * 2+1))+(1:Int)))⟩:far)⟩:(Sl far))).length,(zcb (⟨(tg 80 T (0+y.from_.toNat * 2+0)),(tg 80 T (0+y.from_.toNat * 2+0+1))⟩:far) (⟨1,fun _=>(⟨(w64 ((tg 80 T (0+y.to.toNat * 2+0))+y.length)),(w64 ((tg 80 T (0+y.to.toNat * 2+1))+(1:Int)))⟩:far)⟩:(Sl far))).uses])))))))):=rfl
 rw [hS,hP]
 clear hS hP
 rw [e1,e2,e3,zgK (k:=y.to.toNat * 2) (by omega),zgK (k:=y.to.toNat * 2+1) (by omega),zgK (k:=y.from_.toNat * 2) (by omega),zgK (k:=y.from_.toNat * 2+1) (by omega)]
 rw [decide_eq_true (show 0≤y.to∧y.to < (40:Int) by omega),decide_eq_true (show 0≤y.from_∧y.from_ < (40:Int) by omega)]
 simp only [zuW,same_eq]
 cases hdu:d y.to.toNat with
 | none =>
  rw [hdu] at hu
  have hr:rlF (d,c) (edM (edQ y))=(d,c):=by
   unfold rlF edM edQ
   simp only [hdu]
  rw [hr,decide_eq_true (show (T (y.to.toNat * 2),T (y.to.toNat * 2+1))=((1000000000000:Int),(0:Int)) from hu)]
  exact ⟨T,rfl,rfl,h1⟩
 | some x =>
  obtain ⟨L,U,k1,k2,k3,k4,k5,k6⟩:=zjR hE hs hi hdu
  rw [hdu] at hu k1
  rw [k1] at hu
  have hL:T (y.to.toNat * 2)=L:=(Prod.mk.inj hu).1
  have hU:T (y.to.toNat * 2+1)=U:=(Prod.mk.inj hu).2
  rw [hL,hU,decide_eq_false (show ¬ (L,U)=((1000000000000:Int),(0:Int)) from fun h=>by have:=(Prod.mk.inj h).1;omega),zcv (x:=L+y.length) (by omega) (by omega),zcv (x:=U+(1:Int)) (by omega) (by omega)]
  rw [(zjQ _ _).1,(zjQ _ _).2,zAT]
  have hw:x+(edM (edQ y)).w=(L+y.length) * 1048576+(U+1):=by
   show x+(y.length * 1048576+1)=_
   omega
  have hr:rlF (d,c) (edM (edQ y))=cond (ltO ((L+y.length) * 1048576+(U+1)) (d y.from_.toNat)) (zuQ d y.from_.toNat ((L+y.length) * 1048576+(U+1)),true) (d,c):=by
   rw [← hw]
   unfold rlF edM edQ
   simp only [hdu] <;> rfl
  have hlt:decide ((L+y.length < T (y.from_.toNat * 2))∨(L+y.length=T (y.from_.toNat * 2)∧U+1 < T (y.from_.toNat * 2+1)))=ltO ((L+y.length) * 1048576+(U+1)) (d y.from_.toNat):=by
   cases hdv:d y.from_.toNat with
   | none =>
    rw [hdv] at hv
    have hv1:T (y.from_.toNat * 2)=1000000000000:=(Prod.mk.inj hv).1
    rw [hv1]
    exact decide_eq_true (.inl (by omega))
   | some z =>
    obtain ⟨L',U',m1,m2,m3,m4,m5,m6⟩:=zjR hE hs hi hdv
    rw [hdv] at hv m1
    rw [m1] at hv
    rw [(Prod.mk.inj hv).1,(Prod.mk.inj hv).2,m2]
    exact decide_eq_decide.2 (by omega)
  simp only [hlt]
  rw [hr] at hin ⊢
  have hrw:∀ T'',Rp N T d→T''=ts 80 T (y.from_.toNat * 2) [T (y.from_.toNat * 2),T (y.from_.toNat * 2+1)]→Rp N T'' d:=fun T'' h e v hv'=>by
   rw [e,zdN (by omega),zdN (by omega),← h v hv']
   by_cases hq:v=y.from_.toNat
   ·subst hq
    rw [if_neg (by omega),if_pos rfl,if_pos rfl]
   ·rw [if_neg (by omega),if_neg (by omega),if_neg (by omega),if_neg (by omega)]
  cases hlo:ltO ((L+y.length) * 1048576+(U+1)) (d y.from_.toNat) with
  | false =>
   refine ⟨ts 80 T (y.from_.toNat * 2) [T (y.from_.toNat * 2),T (y.from_.toNat * 2+1)],?_,?_,hrw _ h1 rfl⟩
   ·simp only [cond_false, decide_true]
    cases c <;> rfl
   ·simp only [cond_false, Bool.true_and, decide_true]
    cases c <;> rfl
  | true =>
   rw [hlo] at hin
   simp only [cond_true,cond_false,Bool.true_and,decide_true] at hin ⊢
   refine ⟨ts 80 T (y.from_.toNat * 2) [L+y.length,U+1],?_,?_,?_⟩
   ·cases c
    ·rw [decide_eq_false]
     ·rfl
     ·intro h
      rw [← hlt] at hlo
      have:=of_decide_eq_true hlo
      have h1':=(Prod.mk.inj h).1
      have h2':=(Prod.mk.inj h).2
      omega
    ·rfl
   ·cases c
    ·rw [decide_eq_false]
     ·rfl
     ·intro h
      rw [← hlt] at hlo
      have:=of_decide_eq_true hlo
      have h1':=(Prod.mk.inj h).1
      have h2':=(Prod.mk.inj h).2
      omega
    ·rfl
   ·intro v hv'
    rw [zdN (by omega),zdN (by omega)]
    unfold zuQ
    by_cases hq:v=y.from_.toNat
    ·subst hq
     rw [if_neg (by omega),if_pos rfl,if_pos rfl,if_pos rfl]
     exact (zty (by omega) (by omega)).symm
    ·rw [if_neg (by omega), if_neg (by omega), if_neg (by omega), if_neg (by omega), if_neg hq]
     exact h1 v hv'
theorem zKi (a:web) {N s:Nat} (E:List Ed) (hE:EdOk E N) (hn:zcp E) (hs:s < N) (S2:Bool→Tab→Tab→Tab) (P2:Bool→Tab→Tab→Bool):∀ (l:List step),(∀ y∈l,StOk y N∧edQ y∈E)→∀ (c:Bool) (T4 T:Tab) (d:zdl),Rp N T d→Inv (E.map edM) (fun v=>v=s) d →
  ∃ T',zhd S2 a l c T4 T=S2 (((l.map edQ).map edM).foldl rlF (d,c)).2 T4 T'∧zhe P2 a l c T4 T=P2 (((l.map edQ).map edM).foldl rlF (d,c)).2 T4 T'∧Rp N T' (((l.map edQ).map edM).foldl rlF (d,c)).1:=by
 intro l
 induction l with
 | nil=>intro _ c T4 T d h1 _;exact ⟨T,rfl,rfl,h1⟩
 | cons y l ih =>
  intro hl c T4 T d h1 h2
  obtain ⟨hy,hm⟩:=hl y (List.mem_cons_self ..)
  obtain ⟨T',k1,k2,k3⟩:=zKh a E hE hn hs S2 P2 y hy hm (zhd S2 a l) (zhe P2 a l) c T4 T d h1 h2
  have h3:=zlX (Src:=fun v=>v=s) (zgm hn) (s:=(d,c)) (e:=edM (edQ y)) (List.mem_map_of_mem hm) h2
  obtain ⟨T'',m1,m2,m3⟩:=ih (fun z hz=>hl z (List.mem_cons_of_mem _ hz)) (rlF (d,c) (edM (edQ y))).2 T4 T' (rlF (d,c) (edM (edQ y))).1 k3 h3
  exact ⟨T'',Eq.trans k1 m1,Eq.trans k2 m2,m3⟩
theorem zCE (a:web) (hnet:NetOk a.Net) (E:List Ed) (hEe:E=(Ws a).map edQ) {s:Nat} (hE:EdOk E a.Net.Nodes.toNat) (hn:zcp E) (hs:s < a.Net.Nodes.toNat):∀ (m k:Nat) (T4 T:Tab) (d:zdl),Rp a.Net.Nodes.toNat T d→Inv (E.map edM) (fun v=>v=s) d→Fix (E.map edM) (rds (E.map edM) m d)→m+1 < k →
  ∃ T',zeh a k true T4 T=true∧zeg a k true T4 T=T'∧Rp a.Net.Nodes.toNat T' (rds (E.map edM) m d):=by
 have hlen:=hnet.len
 obtain ⟨q1,q2⟩:=ztC a (by omega)
 have hst:∀ y∈Ws a,StOk y a.Net.Nodes.toNat∧edQ y∈E:=fun y hy=>⟨zKd hnet hy,by rw [hEe];exact List.mem_map_of_mem hy⟩
 have one:∀ (k:Nat) (T4 T:Tab) (d:zdl),Rp a.Net.Nodes.toNat T d→Inv (E.map edM) (fun v=>v=s) d →
   ∃ T',zeg a (k+1) true T4 T=zeg a k ((E.map edM).foldl rlF (d,false)).2 T4 T'∧zeh a (k+1) true T4 T=zeh a k ((E.map edM).foldl rlF (d,false)).2 T4 T'∧Rp a.Net.Nodes.toNat T' (rnd (E.map edM) d):=by
  intro k T4 T d h1 h2
  obtain ⟨T',k1,k2,k3⟩:=zKi a E hE hn hs (zeg a k) (zeh a k) (Ws a) hst false T4 T d h1 h2
  rw [← hEe] at k1 k2 k3
  refine ⟨T',?_,?_,k3⟩
  ·show zly a (zeg a k) true T4 T = _
   unfold zly zr2
   rw [cond_true,q2];exact k1
  ·show zlz a (zeh a k) true T4 T = _
   unfold zlz zn6
   rw [cond_true,q1,q2,decide_eq_true rfl,Bool.true_and];exact k2
 have stop:∀ (k:Nat) (T4 T:Tab),zeg a (k+1) false T4 T=T∧zeh a (k+1) false T4 T=true:=fun k T4 T=>⟨rfl,rfl⟩
 intro m
 induction m with
 | zero =>
  intro k T4 T d h1 h2 h3 hk
  obtain ⟨k,rfl⟩:∃ k',k=k'+1+1:=⟨k - 2,by omega⟩
  obtain ⟨T',k1,k2,k3⟩:=one (k+1) T4 T d h1 h2
  have h3':Fix (E.map edM) d:=h3
  rw [zjP h3'] at k1 k2
  rw [zlW h3'] at k3
  obtain ⟨j1,j2⟩:=stop k T4 T'
  exact ⟨T',k2.trans j2,k1.trans j1,k3⟩
 | succ m ih =>
  intro k T4 T d h1 h2 h3 hk
  obtain ⟨k,rfl⟩:∃ k',k=k'+1+1:=⟨k - 2,by omega⟩
  obtain ⟨T',k1,k2,k3⟩:=one (k+1) T4 T d h1 h2
  cases hf:((E.map edM).foldl rlF (d,false)).2 with
  | false =>
   rw [hf] at k1 k2
   have hx:Fix (E.map edM) d:=zi6 hf
   obtain ⟨j1,j2⟩:=stop k T4 T'
   refine ⟨T',k2.trans j2,k1.trans j1,?_⟩
   rw [zlW hx] at k3
   rw [zAK hx];exact k3
  | true =>
   rw [hf] at k1 k2
   obtain ⟨T'',m1,m2,m3⟩:=ih (k+1) T4 T' (rnd (E.map edM) d) k3 (zos (zgm hn) (fun _ h=>h) (s:=(d,false)) h2) h3 (by omega)
   exact ⟨T'',k2.trans m1,k1.trans m2,m3⟩
theorem zHv (a:web) (node:Int):∀ (m k i:Nat) (T4 T:Tab),(∀ v,v < i→T (v * 2)=1000000000000∧T (v * 2+1)=0)→i+m=40→m < k →
  ∃ T',zfh a node k (i:Int) T4 T=zlA a node T4 T'∧zfi a node k (i:Int) T4 T=zlB a node T4 T'∧∀ v,v < 40→T' (v * 2)=1000000000000∧T' (v * 2+1)=0:=by
 intro m
 induction m with
 | zero =>
  intro k i T4 T h hi hk
  obtain ⟨k,rfl⟩:∃ k',k=k'+1:=⟨k - 1,by omega⟩
  refine ⟨T,?_,?_,fun v hv=>h v (by omega)⟩
  ·show zhf a node (zfh a node k) (i : Int) T4 T = _
   unfold zhf
   rw [decide_eq_false (show ¬ (i:Int) < (40:Int) by omega),cond_false]
  ·show zhg a node (zfi a node k) (i : Int) T4 T = _
   unfold zhg
   rw [decide_eq_false (show ¬ (i:Int) < (40:Int) by omega),cond_false]
 | succ m ih =>
  intro k i T4 T h hi hk
  obtain ⟨k,rfl⟩:∃ k',k=k'+1:=⟨k - 1,by omega⟩
  have hw:w64 ((i:Int)+(1:Int))=((i+1:Nat):Int):=by rw [zcv (by omega) (by omega)];omega
  obtain ⟨T',k1,k2,k3⟩:=ih k (i+1) T4 (ts 80 T (i * 2) [(1000000000000:Int),(0:Int)]) (fun v hv=>by
   rw [zdN (by omega),zdN (by omega)]
   by_cases hq:v=i
   ·subst hq
    rw [if_neg (by omega),if_pos rfl,if_pos rfl];exact ⟨rfl,rfl⟩
   ·rw [if_neg (by omega),if_neg (by omega),if_neg (by omega),if_neg (by omega)];exact h v (by omega)) (by omega) (by omega)
  refine ⟨T',?_,?_,k3⟩
  ·rw [← k1]
   show zhf a node (zfh a node k) (i:Int) T4 T=_
   unfold zhf
   rw [decide_eq_true (show (i:Int) < (40:Int) by omega),cond_true,hw,Int.toNat_natCast,show 0+i * 2+0=i * 2 by omega]
  ·rw [← k2]
   show zhg a node (zfi a node k) (i:Int) T4 T=_
   unfold zhg
   rw [decide_eq_true (show (i:Int) < (40:Int) by omega),cond_true,decide_eq_true (show 0≤(i:Int)∧(i:Int) < (40:Int) by omega),Bool.true_and,hw,Int.toNat_natCast,show 0+i * 2+0=i * 2 by omega]
theorem zKj (a : web) (hnet : NetOk a.Net) (hn : zcp (We a)) (node : Int) (h0 : 0 ≤ node) (h1 : node < a.Net.Nodes) :
  p75 a node=true∧Rp a.Net.Nodes.toNat (s75 a node) (dst ((We a).map edR) a.Net.Nodes.toNat node.toNat):=by
 have hn40:=hnet.n40
 have hEe:((We a).map edR)=(Ws a).map edQ:=(zHu (Ws a)).symm
 have hE:EdOk ((We a).map edR) a.Net.Nodes.toNat:=(zHs hnet).R
 have hN:zcp ((We a).map edR):=zot hn
 have hs:node.toNat < a.Net.Nodes.toNat:=by omega
 obtain ⟨T1,a1,a2,a3⟩:=zHv a node 40 Fuel 0 (fun _=>(0:Int)) (fun _=>(0:Int)) (fun v hv=>absurd hv (Nat.not_lt_zero _)) rfl (by simp only [Fuel];omega)
 have hr:Rp a.Net.Nodes.toNat (ts 80 T1 (node.toNat * 2) [(0:Int),(0:Int)]) (zAM node.toNat):=fun v hv=>by
  rw [zdN (by omega),zdN (by omega)]
  unfold zAM
  by_cases hq:v=node.toNat
  ·subst hq
   rw [if_neg (by omega),if_pos rfl,if_pos rfl,if_pos rfl];rfl
  ·rw [if_neg (by omega),if_neg (by omega),if_neg (by omega),if_neg (by omega),if_neg hq,(a3 v (by omega)).1,(a3 v (by omega)).2];rfl
 obtain ⟨T2,b1,b2,b3⟩:=zCE a hnet ((We a).map edR) hEe hE hN hs (a.Net.Nodes.toNat - 1) Fuel (fun _=>(0:Int)) (ts 80 T1 (node.toNat * 2) [(0:Int),(0:Int)]) (zAM node.toNat) hr (zia (zgH node.toNat)) (ztz hE hN hs) (by simp only [Fuel];omega)
 have e:0+node.toNat * 2+0=node.toNat * 2:=by omega
 constructor
 ·show zfi a node Fuel 0 (fun _ => (0:Int)) (fun _ => (0:Int)) = true
  refine Eq.trans a2 ?_
  unfold zlB zr4
  rw [decide_eq_true (show 0≤node∧node < (40:Int) by omega),Bool.true_and,e];exact b1
 ·have:s75 a node=T2:=by
   show zfh a node Fuel 0 (fun _=>(0:Int)) (fun _=>(0:Int))=T2
   refine Eq.trans a1 ?_
   unfold zlA zr3
   rw [e];exact b2
  rw [this];exact b3
end Go.Proofs
namespace Go.Proofs
open Go Go.Pm
set_option maxRecDepth 100000
set_option linter.unusedVariables false
def W (n:Net):web:=⟨n,⟨0,fun _=>none⟩⟩
abbrev En (n:Net):List Ed:=We (W n)
def fr (n:Net) (i j:Nat):Int:=zHq (dst (En n) n.Nodes.toNat i j)
theorem zKk {E:List Ed} {n s v:Nat} (hE:EdOk E n) (hn:zcp E) (hs:s < n) (hv:v < n):zHq (dst (E.map edR) n s v)=zHq (dst E n v s):=by
 refine Int.le_antisymm ?_ ?_
 ·rcases zeV (v := s) hE hn hv with ⟨_, h⟩ | ⟨c, _, h1, h2, _⟩
  ·rw [h]
   rcases zeV (v:=v) hE.R (zot hn) hs with ⟨_,h⟩ | ⟨c,_,_,h2,_,_,_⟩ <;> omega
  ·rw [h2,← zMG c];exact ztA hE.R (zot hn) hs (zMH h1)
 ·rcases zeV (v := v) hE.R (zot hn) hs with ⟨_, h⟩ | ⟨c, _, h1, h2, _⟩
  ·rw [h]
   rcases zeV (v:=s) hE hn hv with ⟨_,h⟩ | ⟨c,_,_,h2,_,_,_⟩ <;> omega
  ·obtain ⟨c0, k1, k2, _⟩ := zKc h1
   rw [h2,← k2];exact ztA hE hn hv k1
theorem zCF {n:Net} (hn:NetOk n) (hN:zcp (En n)) {i j:Nat} (hi:i < n.Nodes.toNat) : -1000000000000≤fr n i j∧fr n i j≤1000000000000:=by
 have hE:EdOk (En n) n.Nodes.toNat:=zHs (a:=W n) hn
 unfold fr
 rcases zeV (v:=j) hE hN hi with ⟨_,h⟩ | ⟨c,_,_,h2,_,h3,h4⟩
 ·rw [h];omega
 ·rw [h2];omega
theorem zuX (n:Net) (nodes:Sl Int) (hl:nodes.len≤1000) (ht:n.Ties.len≤210):p74 n nodes=true ∧
    (s67 n=false→s74 n nodes=(default,2)) ∧
    (NetOk n→(¬ ∀ i,i < nodes.len→0≤nodes.get i∧nodes.get i < n.Nodes)→s74 n nodes=(default,2)) ∧
    (NetOk n→(∀ i,i < nodes.len→0≤nodes.get i∧nodes.get i < n.Nodes)→¬ zcp (En n)→s74 n nodes=(default,5)) ∧
    (NetOk n→(∀ i,i < nodes.len→0≤nodes.get i∧nodes.get i < n.Nodes)→zcp (En n)→s74 n nodes=(W n,0)):=by
  obtain ⟨a1,a2⟩:=zAE n (by omega)
  unfold p74 s74
  rw [a1,decide_eq_true (show true=true from rfl),Bool.true_and]
  by_cases hs:s67 n=true
  · have hn := a2.1 hs
    have hn1:=hn.n1;have hn40:=hn.n40
    obtain ⟨t1,_⟩:=zAR (W n) hn
    rw [hs]
    have hg:∀ i,i < nodes.len→(s81 (nodes.get i) (0:Int) (w64 (n.Nodes - (1:Int)))=true↔0≤nodes.get i∧nodes.get i < n.Nodes):=fun i _=>by
      rw [zlV,decide_eq_true_eq,zcv (by omega) (by omega)];omega
    have hloop := zHj (good := fun i => s81 (nodes.get i) (0:Int) (w64 (n.Nodes - (1:Int)))) (bad := ((default : web), (2:Int))) (fin := zrN n (s88 (W n))) (finP := true) (n := nodes.len) (lpS := ziL n nodes) (lpP := ziM n nodes)
      (fun k i hi=>by
        show ziJ n nodes (ziL n nodes k) (i:Int)=_
        generalize ziL n nodes k=S
        unfold ziJ zrO
        rw [decide_eq_true (show (i:Int) < (nodes.len:Int) by omega),cond_true,Int.toNat_natCast]
        cases s81 (nodes.get i) (0:Int) (w64 (n.Nodes - (1:Int))) <;> rfl)
      (fun k=>by
        show ziJ n nodes (ziL n nodes k) (nodes.len:Int)=_
        unfold ziJ
        rw [decide_eq_false (show ¬ (nodes.len:Int) < (nodes.len:Int) by omega),cond_false];rfl)
      (fun k i hi=>by
        show ziK n nodes (ziM n nodes k) (i:Int)=_
        generalize ziM n nodes k=S
        unfold ziK zrP
        rw [decide_eq_true (show (i:Int) < (nodes.len:Int) by omega),cond_true,Int.toNat_natCast,decide_eq_true (show 0≤(i:Int)∧(i:Int) < (nodes.len:Int) by omega),Bool.true_and]
        cases s81 (nodes.get i) (0:Int) (w64 (n.Nodes - (1:Int))) <;> rfl)
      (fun k=>by
        show ziK n nodes (ziM n nodes k) (nodes.len:Int)=_
        unfold ziK
        rw [decide_eq_false (show ¬ (nodes.len:Int) < (nodes.len:Int) by omega),cond_false,show p88 (⟨n,(⟨0,(fun _=>none)⟩:Mp)⟩:web)=true from t1];rfl)
      (by omega)
    unfold zrV zrU zrT zrS zrR zrQ
    by_cases hr:∀ i,i < nodes.len→0≤nodes.get i∧nodes.get i < n.Nodes
    · obtain ⟨l1, l2⟩ := hloop.1 (fun i hi => (hg i hi).2 (hr i hi))
      rw [l1,l2]
      refine ⟨rfl,fun h=>(by cases h),fun _ h=>absurd hr h,fun _ _ h=>?_,fun _ _ h=>?_⟩
      · have:s88 (W n)=true:=by
          cases ht:s88 (W n)
          · exact absurd ((zAS (W n) hn).1 ht) h
          · rfl
        rw [this];rfl
      · rw [(zAS (W n) hn).2 h];rfl
    · obtain ⟨l1, l2⟩ := hloop.2 (fun h => hr fun i hi => (hg i hi).1 (h i hi))
      rw [l1,l2]
      exact ⟨rfl,fun h=>(by cases h),fun _ _=>rfl,fun _ h=>absurd h hr,fun _ h=>absurd h hr⟩
  · rw [Bool.eq_false_iff.2 hs]
    have hno:NetOk n→False:=fun h=>hs (a2.2 h)
    exact ⟨rfl,fun _=>rfl,fun h=>(hno h).elim,fun h=>(hno h).elim,fun h=>(hno h).elim⟩
theorem zL7 {n:Net} (hn:NetOk n) (hN:zcp (En n)) {i:Int} (h0:0≤i) (h1:i < n.Nodes) {j:Nat} (hj:j < n.Nodes.toNat):p75 (W n) i=true∧s75 (W n) i (j * 2)=fr n j i.toNat:=by
 have h40:=hn.n40
 obtain ⟨a,b⟩:=zKj (W n) hn hN i h0 h1
 refine ⟨a,?_⟩
 have:=(Prod.mk.inj (b j hj)).1
 rw [this]
 exact zKk (zHs (a:=W n) hn) hN (show i.toNat < n.Nodes.toNat by omega) hj
theorem zHw {n:Net} (hn:NetOk n) (hN:zcp (En n)) {i:Int} (h0:0≤i) (h1:i < n.Nodes) {j:Nat} (hj:j < n.Nodes.toNat):p76 (W n) i=true∧s76 (W n) i (j * 2)=fr n i.toNat j:=by
 obtain ⟨a,b⟩:=zKg (W n) hn hN i h0 h1
 exact ⟨a,(Prod.mk.inj (b j hj)).1⟩
theorem in2 {n:Net} {i j:Int} (hi:0≤i∧i < n.Nodes) (hj:0≤j∧j < n.Nodes):∀ k,k < (⟨2,zar (zbw [(enc_3 i),(enc_3 j)])⟩:Sl Int).len→0≤(⟨2,zar (zbw [(enc_3 i),(enc_3 j)])⟩:Sl Int).get k∧(⟨2,zar (zbw [(enc_3 i),(enc_3 j)])⟩:Sl Int).get k < n.Nodes:=by
 intro k hk
 match k,hk with
 | 0,_=>exact hi
 | 1,_=>exact hj
theorem zqc {n:Net} (ht:n.Ties.len≤210) (hn:NetOk n) {i j:Int} (hi:0≤i∧i < n.Nodes) (hj:0≤j∧j < n.Nodes) (h : ¬ zcp (En n)):p30 n i j=true∧s30 n i j=((⟨(0:Int),(0:Int)⟩:Span),(5:Int)):=by
 obtain ⟨w0,_,_,w3,_⟩:=zuX n (⟨2,zar (zbw [(enc_3 i),(enc_3 j)])⟩:Sl Int) (by show 2≤1000;omega) ht
 have w3':=w3 hn (in2 hi hj) h
 unfold p30 s30
 rw [w0,w3']
 exact ⟨rfl,rfl⟩
theorem zvR {n:Net} (ht:n.Ties.len≤210) (hn:NetOk n) {i j:Int} (hi:0≤i∧i < n.Nodes) (hj:0≤j∧j < n.Nodes) (hN:zcp (En n)):p30 n i j=true∧s30 n i j=((⟨-fr n j.toNat i.toNat,fr n i.toNat j.toNat⟩:Span),(0:Int)):=by
 have hn40:=hn.n40
 obtain ⟨w0,_,_,_,w4⟩:=zuX n (⟨2,zar (zbw [(enc_3 i),(enc_3 j)])⟩:Sl Int) (by show 2≤1000;omega) ht
 have w4':=w4 hn (in2 hi hj) hN
 obtain ⟨p1,hT⟩:=zL7 hn hN hi.1 hi.2 (j:=j.toNat) (by omega)
 obtain ⟨p2,hF⟩:=zHw hn hN hi.1 hi.2 (j:=j.toNat) (by omega)
 have hb:=zCF hn hN (i:=j.toNat) (j:=i.toNat) (by omega)
 unfold p30 s30
 rw [w0,w4']
 constructor
 ·show (cond ((0:Int) == 0) (decide (true = true) && cond ((0:Int) != (0:Int)) true (decide (p75 (W n) i = true) && (decide (0 ≤ j ∧ j < (40 : Int)) && (decide (p76 (W n) i = true) && (decide (0 ≤ j ∧ j < (40 : Int)) && true))))) _) = true
  rw [p1,p2,decide_eq_true (show 0≤j∧j < (40:Int) by omega)];rfl
 ·show ((⟨(w64 (0 - (tg 80 (s75 (W n) i) (0 + j.toNat * 2 + 0)))), (tg 80 (s76 (W n) i) (0 + j.toNat * 2 + 0))⟩ : Span), (0:Int)) = _
  rw [show 0+j.toNat * 2+0=j.toNat * 2 by omega,zgK (by omega),zgK (by omega),hT,hF,zcv (by omega) (by omega),show (0:Int) - fr n j.toNat i.toNat = -fr n j.toNat i.toNat by omega]
theorem zmP {n:Net} (hn:NetOk n) {v:Sl Int} (hv:AgOk n v):∀ e∈En n,v.get e.v≤v.get e.u+e.w:=by
 intro e he
 obtain ⟨j,h1,_,h3⟩:=(zAP (a:=W n) hn).1 he
 have hk:=hv.keep j h1
 rcases h3 with ⟨h4,rfl⟩ | ⟨h4,rfl⟩
 ·have := hk.2.resolve_left h4
  show v.get (n.Ties.get j).To.toNat≤v.get (n.Ties.get j).From.toNat+(n.Ties.get j).High
  omega
 ·have := hk.1.resolve_left h4
  show v.get (n.Ties.get j).From.toNat≤v.get (n.Ties.get j).To.toNat + -(n.Ties.get j).Low
  omega
theorem zqd {n:Net} (hn:NetOk n) {v:Sl Int} (hv:AgOk n v):zcp (En n):=zqb (f:=v.get) (zmP hn hv)
end Go.Proofs
namespace Go.Proofs
open Go Go.Pm
set_option maxRecDepth 100000
set_option linter.unusedVariables false
attribute [local irreducible] Go.Pm.vcFun Go.Pm.vc Go.Pm.vcIter
section
variable {K:List PA→Prop} {n:Net} {iv0:Int} {zNJ:(Sl Tie)} {zL8:Nat→List PV} {X0:St→Prop} {P0:Int→(Sl Tie)→Bool} {S0:Int→(Sl Tie)→Net}
end
end Go.Proofs
namespace Go.Proofs
open Go Go.Pm
set_option maxRecDepth 100000
set_option linter.unusedVariables false
theorem zHx {α:Type} (n:Nat) (g:Nat→α) (x:α) (j:Nat):zg8 n g (fun _=>x) j=if n≤j then x else g j:=by
 unfold zg8
 by_cases h:n≤j
 ·rw [if_pos h,show Nat.ble n j=true from Nat.ble_eq_true_of_le h]
 ·rw [if_neg h,show Nat.ble n j=false from Bool.eq_false_iff.2 fun k=>h (Nat.le_of_ble_eq_true k)]
def turn (t:Tie):Tie:=⟨t.From,t.To,w64 (0 - t.High),w64 (0 - t.Low)⟩
structure IsTurn (n m : Net) : Prop where
  nodes:m.Nodes=n.Nodes
  len:m.Ties.len=n.Ties.len
  tie:∀ j,j < n.Ties.len→m.Ties.get j=turn (n.Ties.get j)
end Go.Proofs
namespace Go.Proofs
open Go Go.Pm
set_option maxRecDepth 100000
set_option linter.unusedVariables false
def zlY (n:Net) (u:Use) (a:Int):Option (Int×Int) :=
  if 0≤u.Tie∧u.Tie < n.Ties.len then
    (cond u.Back
      (if (n.Ties.get u.Tie.toNat).Low ≠ -1000000000000∧(n.Ties.get u.Tie.toNat).To=a then some ((n.Ties.get u.Tie.toNat).From,w64 (0 - (n.Ties.get u.Tie.toNat).Low)) else none)
      (if (n.Ties.get u.Tie.toNat).High ≠ 1000000000000∧(n.Ties.get u.Tie.toNat).From=a then some ((n.Ties.get u.Tie.toNat).To,(n.Ties.get u.Tie.toNat).High) else none))
  else none
def pvR (n : Net) (c : Sl Use) : Nat → Nat → Int → Int → Int × Int × Bool
  | 0,_,a,l=>(a,l,true)
  | m+1,i,a,l=>match zlY n (c.get i) a with
    | none=>(0,0,false)
    | some (b,w)=>pvR n c m (i+1) b (w64 (l+w))
theorem zKl (n:Net) (hn:NetOk n) (c:Sl Use) (hc:c.len≤50):∀ (m k i:Nat) (a l:Int),i+m=c.len→m < k→ziX n c k a l (i:Int)=true∧zhm n c k a l (i:Int)=pvR n c m i a l:=by
  have hlen:=hn.len
  intro m
  induction m with
  | zero =>
    intro k i a l hi hk
    obtain ⟨k,rfl⟩:∃ k',k=k'+1:=⟨k - 1,by omega⟩
    constructor
    · show ziW n c (ziX n c k) a l (i : Int) = true
      unfold ziW
      rw [decide_eq_false (show ¬ (i:Int) < (c.len:Int) by omega),cond_false]
    · show ziV n c (zhm n c k) a l (i : Int) = _
      unfold ziV
      rw [decide_eq_false (show ¬ (i:Int) < (c.len:Int) by omega),cond_false];rfl
  | succ m ih =>
    intro k i a l hi hk
    obtain ⟨k,rfl⟩:∃ k',k=k'+1:=⟨k - 1,by omega⟩
    have hw:w64 ((i:Int)+(1:Int))=((i+1:Nat):Int):=by rw [zcv (by omega) (by omega)];omega
    have ih':=fun b w=>ih k (i+1) b w (by omega) (by omega)
    have hr:s81 (c.get i).Tie (0:Int) (w64 ((n.Ties.len:Int) - (1:Int)))=decide (0≤(c.get i).Tie∧(c.get i).Tie < n.Ties.len):=by
      rw [zlV,zcv (by omega) (by omega)]
      exact decide_eq_decide.2 (by omega)
    have hS : zhm n c (k + 1) a l (i : Int) = cond (!(decide (0 ≤ (c.get i).Tie ∧ (c.get i).Tie < n.Ties.len))) ((0:Int), (0:Int), false) (cond (c.get i).Back
        (cond (!((n.Ties.get (c.get i).Tie.toNat).Low != (-1000000000000:Int))) ((0:Int),(0:Int),false) (cond ((n.Ties.get (c.get i).Tie.toNat).To != a) ((0:Int),(0:Int),false) (pvR n c m (i+1) (n.Ties.get (c.get i).Tie.toNat).From (w64 (l+w64 (0 - (n.Ties.get (c.get i).Tie.toNat).Low))))))
        (cond (!((n.Ties.get (c.get i).Tie.toNat).High != (1000000000000:Int))) ((0:Int),(0:Int),false) (cond ((n.Ties.get (c.get i).Tie.toNat).From != a) ((0:Int),(0:Int),false) (pvR n c m (i+1) (n.Ties.get (c.get i).Tie.toNat).To (w64 (l+(n.Ties.get (c.get i).Tie.toNat).High)))))):=by
      rw [← (ih' _ _).2,← (ih' _ _).2,← hw]
      show ziV n c (zhm n c k) a l (i:Int)=_
      generalize zhm n c k=S
      unfold ziV zs3 zsY zsW zoa s94 s95
      rw [decide_eq_true (show (i:Int) < (c.len:Int) by omega),cond_true,Int.toNat_natCast,hr]
    have hP:ziX n c (k+1) a l (i:Int)=true:=by
      show ziW n c (ziX n c k) a l (i:Int)=true
      unfold ziW zs4 zsZ zsX zob
      rw [decide_eq_true (show (i:Int) < (c.len:Int) by omega),cond_true,Int.toNat_natCast,hr,decide_eq_true (show 0≤(i:Int)∧(i:Int) < (c.len:Int) by omega),Bool.true_and,hw]
      simp only [(ih' _ _).1]
      by_cases hin:0≤(c.get i).Tie∧(c.get i).Tie < n.Ties.len
      · rw [decide_eq_true hin]
        generalize (c.get i).Back=b0
        simp only [Bool.not_true,cond_false,Bool.true_and]
        cases b0
        · simp only [cond_false]
          generalize (!((s94 (⟨(n.Ties.get (c.get i).Tie.toNat),(c.get i).Tie⟩:tie)).2))=b1
          generalize ((((s94 (⟨(n.Ties.get (c.get i).Tie.toNat),(c.get i).Tie⟩:tie)).1).from_) != a)=b2
          cases b1 <;> cases b2 <;> rfl
        · simp only [cond_true]
          generalize (!((s95 _).2))=b1
          generalize ((((s95 _).1).from_) != a)=b2
          cases b1 <;> cases b2 <;> rfl
      · rw [decide_eq_false hin];rfl
    refine ⟨hP,hS.trans ?_⟩
    show _=(match zlY n (c.get i) a with | none=>(0,0,false) | some (b,w)=>pvR n c m (i+1) b (w64 (l+w)))
    unfold zlY
    by_cases hin:0≤(c.get i).Tie∧(c.get i).Tie < n.Ties.len
    · rw [decide_eq_true hin, if_pos hin, Bool.not_true, cond_false]
      cases hb:(c.get i).Back
      · rw [cond_false, cond_false]
        by_cases h1:(n.Ties.get (c.get i).Tie.toNat).High=1000000000000
        · rw [show ((n.Ties.get (c.get i).Tie.toNat).High != (1000000000000:Int))=false by rw [h1];rfl,if_neg (fun h=>h.1 h1)];rfl
        · rw [bne_iff_ne.2 h1]
          by_cases h2:(n.Ties.get (c.get i).Tie.toNat).From=a
          · rw [show ((n.Ties.get (c.get i).Tie.toNat).From != a)=false by rw [h2];exact bne_self_eq_false _,if_pos ⟨h1,h2⟩];rfl
          · rw [bne_iff_ne.2 h2,if_neg (fun h=>h2 h.2)];rfl
      · rw [cond_true, cond_true]
        by_cases h1:(n.Ties.get (c.get i).Tie.toNat).Low = -1000000000000
        · rw [show ((n.Ties.get (c.get i).Tie.toNat).Low != (-1000000000000:Int))=false by rw [h1];rfl,if_neg (fun h=>h.1 h1)];rfl
        · rw [bne_iff_ne.2 h1]
          by_cases h2:(n.Ties.get (c.get i).Tie.toNat).To=a
          · rw [show ((n.Ties.get (c.get i).Tie.toNat).To != a)=false by rw [h2];exact bne_self_eq_false _,if_pos ⟨h1,h2⟩];rfl
          · rw [bne_iff_ne.2 h2,if_neg (fun h=>h2 h.2)];rfl
    · rw [decide_eq_false hin,if_neg hin];rfl
def pv (n:Net) (a:Int) (c:Sl Use):Int×Int×Bool:=if (0≤a∧a < n.Nodes)∧c.len≤40 then pvR n c c.len 0 a 0 else (0,0,false)
theorem zHy {n:Net} (hn:n.Ties.len≤210) (hs:s67 n=false) (a:Int) (c:Sl Use):p56 n a c=true∧s56 n a c=(0,0,false):=by
 unfold p56 s56
 rw [(zuP n (by omega)).1,hs]
 exact ⟨rfl,rfl⟩
theorem zKm {n:Net} (hn:NetOk n) (hs:s67 n=true) (a:Int) (c:Sl Use):p56 n a c=true∧s56 n a c=pv n a c:=by
 have hlen:=hn.len;have hn1:=hn.n1;have hn40:=hn.n40
 unfold p56 s56 pv
 rw [(zuP n (by omega)).1,hs,zlV,zcv (x:=n.Nodes - (1:Int)) (by omega) (by omega),decide_eq_decide.2 (show (0≤a∧a≤n.Nodes - 1)↔(0≤a∧a < n.Nodes) by omega)]
 by_cases ha:0≤a∧a < n.Nodes
 ·rw [decide_eq_true ha]
  by_cases hc:c.len≤40
  ·rw [decide_eq_false (show ¬ (c.len : Int) > (40:Int) by omega), if_pos ⟨ha, hc⟩]
   obtain ⟨k1,k2⟩:=zKl n hn c (by omega) c.len Fuel 0 a 0 (by omega) (by simp only [Fuel];omega)
   exact ⟨k1,k2⟩
  ·rw [decide_eq_true (show (c.len : Int) > (40:Int) by omega), if_neg (fun h => hc h.2)]
   exact ⟨rfl,rfl⟩
 ·rw [decide_eq_false ha, if_neg (fun h => ha h.1)]
  exact ⟨rfl,rfl⟩
theorem zvS {n:Net} (hn:NetOk n) {u:Use} {a b w:Int} (h:zlY n u a=some (b,w)):(0≤b∧b < n.Nodes)∧∃ e∈En n,e.u=a.toNat∧e.v=b.toNat∧e.w=w:=by
 unfold zlY at h
 by_cases hin:0≤u.Tie∧u.Tie < n.Ties.len
 ·rw [if_pos hin] at h
  have ht:=hn.tie u.Tie.toNat (by omega)
  cases hb:u.Back
  ·rw [hb, cond_false] at h
   by_cases h1:(n.Ties.get u.Tie.toNat).High ≠ 1000000000000∧(n.Ties.get u.Tie.toNat).From=a
   ·rw [if_pos h1] at h
    obtain ⟨rfl,rfl⟩:=Prod.mk.inj (Option.some.inj h)
    exact ⟨⟨ht.t0,ht.t1⟩,⟨(n.Ties.get u.Tie.toNat).From.toNat,(n.Ties.get u.Tie.toNat).To.toNat,(n.Ties.get u.Tie.toNat).High⟩,(zAP (a:=W n) hn).2 ⟨u.Tie.toNat,by show u.Tie.toNat < n.Ties.len;omega,rfl,.inl ⟨h1.1,rfl⟩⟩,by show (n.Ties.get u.Tie.toNat).From.toNat=_;rw [h1.2],rfl,rfl⟩
   ·rw [if_neg h1] at h;cases h
  ·rw [hb, cond_true] at h
   by_cases h1:(n.Ties.get u.Tie.toNat).Low ≠ -1000000000000∧(n.Ties.get u.Tie.toNat).To=a
   ·rw [if_pos h1] at h
    obtain ⟨rfl,rfl⟩:=Prod.mk.inj (Option.some.inj h)
    exact ⟨⟨ht.f0,ht.f1⟩,⟨(n.Ties.get u.Tie.toNat).To.toNat,(n.Ties.get u.Tie.toNat).From.toNat,-(n.Ties.get u.Tie.toNat).Low⟩,(zAP (a:=W n) hn).2 ⟨u.Tie.toNat,by show u.Tie.toNat < n.Ties.len;omega,rfl,.inr ⟨h1.1,rfl⟩⟩,by show (n.Ties.get u.Tie.toNat).To.toNat=_;rw [h1.2],rfl,(zuV ht h1.1).symm⟩
   ·rw [if_neg h1] at h;cases h
 ·rw [if_neg hin] at h;cases h
theorem zKn {n:Net} (hn:NetOk n):∀ e∈En n,-1000000000≤e.w∧e.w≤1000000000:=(zHs (a:=W n) hn).w
theorem zKo {n:Net} (hn:NetOk n) (c:Sl Use):∀ (m i:Nat) (a l:Int),(0≤a∧a < n.Nodes)→-1000000000 * (i:Int)≤l→l≤1000000000 * (i:Int)→i+m≤50→(pvR n c m i a l).2.2=true →
  (0≤(pvR n c m i a l).1∧(pvR n c m i a l).1 < n.Nodes)∧∃ d,zgV (En n) a.toNat d (pvR n c m i a l).1.toNat∧(pvR n c m i a l).2.1=l+wt d:=by
 intro m
 induction m with
 | zero=>intro i a l ha _ _ _ _;exact ⟨ha,[],rfl,(Int.add_zero l).symm⟩
 | succ m ih =>
  intro i a l ha h1 h2 h3 h4
  have e:pvR n c (m+1) i a l=(match zlY n (c.get i) a with | none=>(0,0,false) | some (b,w)=>pvR n c m (i+1) b (w64 (l+w))):=rfl
  cases hu:zlY n (c.get i) a with
  | none=>rw [e,hu] at h4;cases h4
  | some p =>
   obtain ⟨b,w⟩:=p
   rw [e,hu] at h4
   rw [e,hu]
   obtain ⟨hb,f,hf,f1,f2,f3⟩:=zvS hn hu
   have hfw:=zKn hn f hf
   have hlw:w64 (l+w)=l+w:=zcv (by omega) (by omega)
   have h4':(pvR n c m (i+1) b (w64 (l+w))).2.2=true:=h4
   obtain ⟨k1,d,k2,k3⟩:=ih (i+1) b (w64 (l+w)) hb (by rw [hlw];omega) (by rw [hlw];omega) (by omega) h4'
   refine ⟨k1,f :: d,⟨hf,f1,by rw [f2];exact k2⟩,?_⟩
   show (pvR n c m (i+1) b (w64 (l+w))).2.1=l+(f.w+wt d)
   rw [k3,hlw,f3];omega
theorem zL9 {n:Net} (hn:NetOk n) {a:Int} {c:Sl Use} (h:(pv n a c).2.2=true):(0≤a∧a < n.Nodes)∧(0≤(pv n a c).1∧(pv n a c).1 < n.Nodes)∧∃ d,zgV (En n) a.toNat d (pv n a c).1.toNat∧(pv n a c).2.1=wt d:=by
 unfold pv at h ⊢
 by_cases hc:(0≤a∧a < n.Nodes)∧c.len≤40
 ·rw [if_pos hc] at h ⊢
  obtain ⟨k1,d,k2,k3⟩:=zKo hn c c.len 0 a 0 hc.1 (by omega) (by omega) (by omega) h
  exact ⟨hc.1,k1,d,k2,by rw [k3];omega⟩
 ·rw [if_neg hc] at h;cases h
end Go.Proofs
namespace Go.Proofs
open Go Go.Pm
set_option maxRecDepth 100000
set_option linter.unusedVariables false
def zdz (y:step):Step:=⟨y.from_,y.to,y.length,y.Use⟩
def IsL (v:Sl Step) (L:List step):Prop:=v.len=L.length∧∀ k (h:k < L.length),v.get k=zdz L[k]
theorem ztE {v:Sl Step} {L:List step} (h:IsL v L) (y:step):IsL ⟨v.len+1,zg8 v.len v.get (fun _=>zdz y)⟩ (L ++ [y]):=by
 refine ⟨by show v.len+1=_;rw [List.length_append,h.1];rfl,fun k hk=>?_⟩
 show zg8 v.len v.get (fun _=>zdz y) k=_
 rw [zHx]
 rw [List.length_append] at hk
 have h1:=h.1
 by_cases hv:v.len≤k
 ·rw [if_pos hv]
  have:k=L.length:=by simp only [List.length_cons,List.length_nil] at hk;omega
  subst this
  simp
 ·rw [if_neg hv, h.2 k (by omega)]
  rw [List.getElem_append_left (by omega)]
theorem zKp (n:Net) (hn:n.Ties.len≤210):∀ (m k i:Nat) (v:Sl Step) (L:List step),i+m=n.Ties.len→m < k→IsL v L→L.length≤2 * i→zdH n k (i:Int) v=true∧IsL (zdG n k (i:Int) v) (L ++ stL (W n) m i):=by
  intro m
  induction m with
  | zero =>
    intro k i v L hi hk hv hL
    obtain ⟨k,rfl⟩:∃ k',k=k'+1:=⟨k - 1,by omega⟩
    have e1:zdH n (k+1) (i:Int) v=true:=by
      show zi3 n (zdH n k) (i:Int) v=true
      unfold zi3
      rw [decide_eq_false (show ¬ (i:Int) < (n.Ties.len:Int) by omega),cond_false]
    have e2:zdG n (k+1) (i:Int) v=v:=by
      show zi2 n (zdG n k) (i:Int) v=v
      unfold zi2
      rw [decide_eq_false (show ¬ (i:Int) < (n.Ties.len:Int) by omega),cond_false]
    refine ⟨e1,?_⟩
    rw [e2]
    show IsL v (L ++ [])
    rw [List.append_nil];exact hv
  | succ m ih =>
    intro k i v L hi hk hv hL
    obtain ⟨k,rfl⟩:∃ k',k=k'+1:=⟨k - 1,by omega⟩
    have hw:w64 ((i:Int)+(1:Int))=((i+1:Nat):Int):=by rw [zcv (by omega) (by omega)];omega
    have hvl:=hv.1
    have hS : zdG n (k + 1) (i : Int) v = cond ((n.Ties.get i).High != (1000000000000:Int))
        (cond ((n.Ties.get i).Low != (-1000000000000:Int))
          (zdG n k ((i+1:Nat):Int) (⟨v.len+1+1,zg8 (v.len+1) (zg8 v.len v.get (fun _=>zdz (fwS (n.Ties.get i) i))) (fun _=>zdz (bwS (n.Ties.get i) i))⟩:Sl Step))
          (zdG n k ((i+1:Nat):Int) (⟨v.len+1,zg8 v.len v.get (fun _=>zdz (fwS (n.Ties.get i) i))⟩:Sl Step)))
        (cond ((n.Ties.get i).Low != (-1000000000000:Int))
          (zdG n k ((i+1:Nat):Int) (⟨v.len+1,zg8 v.len v.get (fun _=>zdz (bwS (n.Ties.get i) i))⟩:Sl Step))
          (zdG n k ((i+1:Nat):Int) v)):=by
      rw [← hw]
      show zi2 n (zdG n k) (i:Int) v=_
      generalize zdG n k=S
      unfold zi2 zoh
      rw [decide_eq_true (show (i:Int) < (n.Ties.len:Int) by omega),cond_true,Int.toNat_natCast]
      rfl
    have hP : zdH n (k + 1) (i : Int) v = cond ((n.Ties.get i).High != (1000000000000:Int))
        (cond ((n.Ties.get i).Low != (-1000000000000:Int))
          (zdH n k ((i+1:Nat):Int) (⟨v.len+1+1,zg8 (v.len+1) (zg8 v.len v.get (fun _=>zdz (fwS (n.Ties.get i) i))) (fun _=>zdz (bwS (n.Ties.get i) i))⟩:Sl Step))
          (zdH n k ((i+1:Nat):Int) (⟨v.len+1,zg8 v.len v.get (fun _=>zdz (fwS (n.Ties.get i) i))⟩:Sl Step)))
        (cond ((n.Ties.get i).Low != (-1000000000000:Int))
          (zdH n k ((i+1:Nat):Int) (⟨v.len+1,zg8 v.len v.get (fun _=>zdz (bwS (n.Ties.get i) i))⟩:Sl Step))
          (zdH n k ((i+1:Nat):Int) v)):=by
      rw [← hw]
      show zi3 n (zdH n k) (i:Int) v=_
      generalize zdH n k=S
      unfold zi3 zoi
      rw [decide_eq_true (show (i:Int) < (n.Ties.len:Int) by omega),cond_true,Int.toNat_natCast,decide_eq_true (show 0≤(i:Int)∧(i:Int) < (n.Ties.len:Int) by omega),decide_eq_true (show (v.len+1) * 40≤140737488355328∧v.len+1≤9223372036854775807 by omega),decide_eq_true (show ((⟨v.len+1,zg8 v.len v.get (fun _=>(⟨(n.Ties.get i).From,(n.Ties.get i).To,(n.Ties.get i).High,(⟨(i:Int),false⟩:Use)⟩:Step))⟩:Sl Step).len+1) * 40≤140737488355328∧(⟨v.len+1,zg8 v.len v.get (fun _=>(⟨(n.Ties.get i).From,(n.Ties.get i).To,(n.Ties.get i).High,(⟨(i:Int),false⟩:Use)⟩:Step))⟩:Sl Step).len+1≤9223372036854775807 from by show (v.len+1+1) * 40≤_∧v.len+1+1≤_;omega)]
      rfl
    rw [hS,hP]
    have hK:stL (W n) (m+1) i=((cond ((n.Ties.get i).High != (1000000000000:Int)) [fwS (n.Ties.get i) i] []) ++ (cond ((n.Ties.get i).Low != (-1000000000000:Int)) [bwS (n.Ties.get i) i] [])) ++ stL (W n) m (i+1):=rfl
    rw [hK]
    have hF:=ztE hv (fwS (n.Ties.get i) i)
    have hB:=ztE hv (bwS (n.Ties.get i) i)
    have hFB:=ztE hF (bwS (n.Ties.get i) i)
    cases ((n.Ties.get i).High != (1000000000000:Int)) <;> cases ((n.Ties.get i).Low != (-1000000000000:Int))
    · have := ih k (i + 1) v L (by omega) (by omega) hv (by omega)
      simpa using this
    · have := ih k (i + 1) _ _ (by omega) (by omega) hB (by simp only [List.length_append, List.length_cons, List.length_nil]; omega)
      simpa [List.append_assoc] using this
    · have := ih k (i + 1) _ _ (by omega) (by omega) hF (by simp only [List.length_append, List.length_cons, List.length_nil]; omega)
      simpa [List.append_assoc] using this
    · have := ih k (i + 1) _ _ (by omega) (by omega) hFB (by simp only [List.length_append, List.length_cons, List.length_nil]; omega)
      simpa [List.append_assoc] using this
theorem zDI (n:Net) (hn:n.Ties.len≤210):p77 n=true∧IsL (s77 n) (Ws (W n)):=by
 have:=zKp n hn n.Ties.len Fuel 0 (⟨0,(fun _=>default)⟩:Sl Step) [] (by omega) (by simp only [Fuel];omega) ⟨rfl,fun k h=>absurd h (Nat.not_lt_zero _)⟩ (Nat.zero_le _)
 exact this
def isU (u:Use) (a:Int) (y:step):Bool:=(y.Use.Tie == u.Tie) && ((y.Use.Back == u.Back) && (y.from_ == a))
theorem zCG {n:Net} (hn:NetOk n) (u:Use) (a:Int):zlY n u a=((Ws (W n)).find? (isU u a)).map fun y=>(y.to,y.length):=by
 have hlen:=hn.len
 cases hf:(Ws (W n)).find? (isU u a) with
 | some y =>
  have hy:=List.mem_of_find?_eq_some hf
  have hp:=List.find?_some hf
  simp only [isU,Bool.and_eq_true,beq_iff_eq] at hp
  obtain ⟨h1,h2,h3⟩:=hp
  obtain ⟨j,_,h5,h6⟩:=zhq.1 hy
  have hj:j < n.Ties.len:=by have:j < 0+n.Ties.len:=h5;omega
  show _=some (y.to,y.length)
  unfold zlY
  rcases (zhr.1 h6).2 with ⟨h7,rfl⟩ | ⟨h7,rfl⟩
  ·have e1 : u.Tie = (j : Int) := h1.symm
   have e2:u.Back=false:=h2.symm
   rw [e1,e2,if_pos (by omega),cond_false,Int.toNat_natCast,if_pos ⟨h7,h3⟩];rfl
  ·have e1 : u.Tie = (j : Int) := h1.symm
   have e2:u.Back=true:=h2.symm
   rw [e1,e2,if_pos (by omega),cond_true,Int.toNat_natCast,if_pos ⟨h7,h3⟩];rfl
 | none =>
  rw [List.find?_eq_none] at hf
  show _=none
  unfold zlY
  by_cases hin:0≤u.Tie∧u.Tie < n.Ties.len
  ·rw [if_pos hin]
   have e:((u.Tie.toNat:Nat):Int)=u.Tie:=by omega
   cases hb:u.Back
   ·rw [cond_false]
    by_cases h1:(n.Ties.get u.Tie.toNat).High ≠ 1000000000000∧(n.Ties.get u.Tie.toNat).From=a
    ·have := hf (fwS (n.Ties.get u.Tie.toNat) u.Tie.toNat) (zhq.2 ⟨u.Tie.toNat, by omega, by show u.Tie.toNat < 0 + n.Ties.len; omega, zhr.2 ⟨rfl, .inl ⟨h1.1, rfl⟩⟩⟩)
     simp [isU,fwS,e,hb,h1.2] at this
    ·rw [if_neg h1]
   ·rw [cond_true]
    by_cases h1:(n.Ties.get u.Tie.toNat).Low ≠ -1000000000000∧(n.Ties.get u.Tie.toNat).To=a
    ·have := hf (bwS (n.Ties.get u.Tie.toNat) u.Tie.toNat) (zhq.2 ⟨u.Tie.toNat, by omega, by show u.Tie.toNat < 0 + n.Ties.len; omega, zhr.2 ⟨rfl, .inr ⟨h1.1, rfl⟩⟩⟩)
     simp [isU,bwS,e,hb,h1.2] at this
    ·rw [if_neg h1]
  ·rw [if_neg hin]
def sb (x:Use) (y:Use):Bool:=match (x.Tie == y.Tie) with | true=>(match (x.Back == y.Back) with | true=>true | false=>false) | false=>false
theorem zMa (x y:Use):sb x y=((x.Tie == y.Tie) && (x.Back == y.Back)):=by
 unfold sb
 cases (x.Tie == y.Tie) <;> cases (x.Back == y.Back) <;> rfl
theorem zKq (c:Sl Use) (l:Sl Step) (L:List step) (hl:IsL l L) (hL:L.length≤1000) (S3:Int→Int→Int→(Int×Int×Bool)) (P3:Int→Int→Int→Bool) (i:Nat) (hi:i < c.len) (a len:Int):∀ (m k q:Nat),q+m=L.length→m+1 < k →
  zdd S3 c l k a len (i:Int) false (q:Int)=(match (L.drop q).find? (isU (c.get i) a) with | none=>((0:Int),(0:Int),false) | some y=>S3 y.to (w64 (len+y.length)) (w64 ((i:Int)+(1:Int)))) ∧
  zde P3 c l k a len (i:Int) false (q:Int)=(match (L.drop q).find? (isU (c.get i) a) with | none=>true | some y=>P3 y.to (w64 (len+y.length)) (w64 ((i:Int)+(1:Int)))):=by
 have hll:=hl.1
 intro m
 induction m with
 | zero =>
  intro k q hq hk
  obtain ⟨k,rfl⟩:∃ k',k=k'+1:=⟨k - 1,by omega⟩
  rw [List.drop_eq_nil_of_le (by omega)]
  constructor
  ·show zgj S3 c l (zdd S3 c l k) a len (i : Int) false (q : Int) = _
   unfold zgj
   rw [decide_eq_false (show ¬ (q:Int) < (l.len:Int) by omega),cond_false];rfl
  ·show zgk P3 c l (zde P3 c l k) a len (i : Int) false (q : Int) = _
   unfold zgk
   rw [decide_eq_false (show ¬ (q:Int) < (l.len:Int) by omega),cond_false];rfl
 | succ m ih =>
  intro k q hq hk
  obtain ⟨k,rfl⟩:∃ k',k=k'+1:=⟨k - 1,by omega⟩
  have hw:w64 ((q:Int)+(1:Int))=((q+1:Nat):Int):=by rw [zcv (by omega) (by omega)];omega
  obtain ⟨ih1,ih2⟩:=ih k (q+1) (by omega) (by omega)
  have hg:=hl.2 q (by omega)
  -- after the find, the next round leaves
  have out1:∀ (b w:Int),zdd S3 c l k b w (i:Int) true ((q+1:Nat):Int)=S3 b w (w64 ((i:Int)+(1:Int))):=fun b w=>by
   obtain ⟨k,rfl⟩:∃ k',k=k'+1:=⟨k - 1,by omega⟩
   show zgj S3 c l (zdd S3 c l k) b w (i:Int) true ((q+1:Nat):Int)=_
   unfold zgj
   cases decide (((q+1:Nat):Int) < (l.len:Int)) <;> rfl
  have out2:∀ (b w:Int),zde P3 c l k b w (i:Int) true ((q+1:Nat):Int)=P3 b w (w64 ((i:Int)+(1:Int))):=fun b w=>by
   obtain ⟨k,rfl⟩:∃ k',k=k'+1:=⟨k - 1,by omega⟩
   show zgk P3 c l (zde P3 c l k) b w (i:Int) true ((q+1:Nat):Int)=_
   unfold zgk
   cases decide (((q+1:Nat):Int) < (l.len:Int)) <;> rfl
  have hS:zdd S3 c l (k+1) a len (i:Int) false (q:Int)=cond (sb (l.get q).Use (c.get i)) (cond ((l.get q).From == a) (zdd S3 c l k (l.get q).To (w64 (len+(l.get q).Length)) (i:Int) true ((q+1:Nat):Int)) (zdd S3 c l k a len (i:Int) false ((q+1:Nat):Int))) (zdd S3 c l k a len (i:Int) false ((q+1:Nat):Int)):=by
   rw [← hw]
   show zgj S3 c l (zdd S3 c l k) a len (i:Int) false (q:Int)=_
   generalize zdd S3 c l k=S
   unfold zgj
   rw [decide_eq_true (show (q:Int) < (l.len:Int) by omega),cond_true,Int.toNat_natCast,Int.toNat_natCast];rfl
  have hP:zde P3 c l (k+1) a len (i:Int) false (q:Int)=cond (sb (l.get q).Use (c.get i)) (cond ((l.get q).From == a) (zde P3 c l k (l.get q).To (w64 (len+(l.get q).Length)) (i:Int) true ((q+1:Nat):Int)) (zde P3 c l k a len (i:Int) false ((q+1:Nat):Int))) (zde P3 c l k a len (i:Int) false ((q+1:Nat):Int)):=by
   rw [← hw]
   show zgk P3 c l (zde P3 c l k) a len (i:Int) false (q:Int)=_
   generalize zde P3 c l k=S
   unfold zgk
   rw [decide_eq_true (show (q:Int) < (l.len:Int) by omega),cond_true,Int.toNat_natCast,Int.toNat_natCast,decide_eq_true (show 0≤(q:Int)∧(q:Int) < (l.len:Int) by omega),decide_eq_true (show 0≤(i:Int)∧(i:Int) < (c.len:Int) by omega)];rfl
  rw [hS,hP,out1,out2,ih1,ih2,hg,zMa,List.drop_eq_getElem_cons (by omega:q < L.length),List.find?_cons]
  generalize hy:L[q]=y
  have hu:isU (c.get i) a y=(((zdz y).Use.Tie == (c.get i).Tie) && ((zdz y).Use.Back == (c.get i).Back) && ((zdz y).From == a)):=by
   unfold isU
   rw [Bool.and_assoc];rfl
  rw [hu]
  generalize (((zdz y).Use.Tie == (c.get i).Tie) && ((zdz y).Use.Back == (c.get i).Back))=b1
  generalize ((zdz y).From == a)=b2
  cases b1 <;> cases b2 <;> exact ⟨rfl,rfl⟩
theorem zKr (n:Net) (hn:NetOk n) (c:Sl Use) (hc:c.len≤50):∀ (m k i:Nat) (a len:Int),i+m=c.len→m < k→zfm c (s77 n) k a len (i:Int)=true∧zfl c (s77 n) k a len (i:Int)=pvR n c m i a len:=by
 have hlen:=hn.len
 obtain ⟨_,hl⟩:=zDI n (by omega)
 have hL:(Ws (W n)).length≤400:=zDH (a:=W n) hn
 intro m
 induction m with
 | zero =>
  intro k i a l hi hk
  obtain ⟨k,rfl⟩:∃ k',k=k'+1:=⟨k - 1,by omega⟩
  constructor
  ·show zi5 c (s77 n) (zfm c (s77 n) k) a l (i : Int) = true
   unfold zi5
   rw [decide_eq_false (show ¬ (i:Int) < (c.len:Int) by omega),cond_false]
  ·show zi4 c (s77 n) (zfl c (s77 n) k) a l (i : Int) = _
   unfold zi4
   rw [decide_eq_false (show ¬ (i:Int) < (c.len:Int) by omega),cond_false];rfl
 | succ m ih =>
  intro k i a l hi hk
  obtain ⟨k,rfl⟩:∃ k',k=k'+1:=⟨k - 1,by omega⟩
  have hw:w64 ((i:Int)+(1:Int))=((i+1:Nat):Int):=by rw [zcv (by omega) (by omega)];omega
  obtain ⟨k1,k2⟩:=zKq c (s77 n) (Ws (W n)) hl (by omega) (zfl c (s77 n) k) (zfm c (s77 n) k) i (by omega) a l (Ws (W n)).length Fuel 0 (by omega) (by simp only [Fuel];omega)
  rw [List.drop_zero,hw] at k1 k2
  have hf:=zCG hn (c.get i) a
  have e1:zfm c (s77 n) (k+1) a l (i:Int)=zde (zfm c (s77 n) k) c (s77 n) Fuel a l (i:Int) false 0:=by
   show zi5 c (s77 n) (zfm c (s77 n) k) a l (i:Int)=_
   unfold zi5
   rw [decide_eq_true (show (i:Int) < (c.len:Int) by omega),cond_true];rfl
  have e2:zfl c (s77 n) (k+1) a l (i:Int)=zdd (zfl c (s77 n) k) c (s77 n) Fuel a l (i:Int) false 0:=by
   show zi4 c (s77 n) (zfl c (s77 n) k) a l (i:Int)=_
   unfold zi4
   rw [decide_eq_true (show (i:Int) < (c.len:Int) by omega),cond_true];rfl
  have e3:pvR n c (m+1) i a l=(match zlY n (c.get i) a with | none=>(0,0,false) | some (b,w)=>pvR n c m (i+1) b (w64 (l+w))):=rfl
  have k1':zdd (zfl c (s77 n) k) c (s77 n) Fuel a l (i:Int) false 0=_:=k1
  have k2':zde (zfm c (s77 n) k) c (s77 n) Fuel a l (i:Int) false 0=_:=k2
  rw [e1,e2,e3,k1',k2',hf]
  cases (Ws (W n)).find? (isU (c.get i) a) with
  | none=>exact ⟨rfl,rfl⟩
  | some y=>exact ih k (i+1) y.to (w64 (l+y.length)) (by omega) (by omega)
theorem zKs {n:Net} (hn:NetOk n) (hs:s67 n=true) (a:Int) (c:Sl Use):p57 n a c=true∧s57 n a c=pv n a c:=by
 have hlen:=hn.len;have hn1:=hn.n1;have hn40:=hn.n40
 obtain ⟨b1,b2⟩:=zDB n (by omega)
 unfold p57 s57 pv
 rw [b1,b2,hs,zp6,zcv (x:=n.Nodes - (1:Int)) (by omega) (by omega),decide_eq_decide.2 (show (0≤a∧a≤n.Nodes - 1)↔(0≤a∧a < n.Nodes) by omega)]
 by_cases ha:0≤a∧a < n.Nodes
 ·rw [decide_eq_true ha]
  by_cases hc:c.len≤40
  ·rw [decide_eq_false (show ¬ (c.len : Int) > (40:Int) by omega), if_pos ⟨ha, hc⟩]
   obtain ⟨k1,k2⟩:=zKr n hn c (by omega) c.len Fuel 0 a 0 (by omega) (by simp only [Fuel];omega)
   unfold zlR zlQ ztl ztk ztj zti zth ztg
   rw [(zDI n (by omega)).1]
   exact ⟨k1,k2⟩
  ·rw [decide_eq_true (show (c.len : Int) > (40:Int) by omega), if_neg (fun h => hc h.2)]
   exact ⟨rfl,rfl⟩
 ·rw [decide_eq_false ha, if_neg (fun h => ha h.1)]
  exact ⟨rfl,rfl⟩
theorem zHz {n:Net} (hn:n.Ties.len≤210) (hs:s67 n=false) (a:Int) (c:Sl Use):p57 n a c=true∧s57 n a c=(0,0,false):=by
 obtain ⟨b1,b2⟩:=zDB n (by omega)
 unfold p57 s57
 rw [b1,b2,hs]
 exact ⟨rfl,rfl⟩
end Go.Proofs
namespace Go.Proofs
open Go Go.Pm
set_option maxRecDepth 100000
set_option linter.unusedVariables false
theorem zAU (n:Net) (hn:NetOk n) (a:Int) (c:Sl Use) (v:Sl Int) (hv:v.len≤50) (h:(pv n a c).2.2=true):zon n a v (pv n a c).1 (pv n a c).2.1=true∧zom n a v (pv n a c).1 (pv n a c).2.1=true:=by
 have hlen:=hn.len
 obtain ⟨h1,h2,d,h3,h4⟩:=zL9 hn h
 generalize (pv n a c).1=x at *
 generalize (pv n a c).2.1=l at *
 obtain ⟨g1,g2⟩:=zHl n v hn (by omega)
 unfold zon zom
 have last:∀ ev:Int,(AgOk n v→ev=0)→zhp n a v x l ev=true∧zho n a v x l ev=true:=fun ev hev=>by
  unfold zhp zho
  rw [g1]
  cases hA:s38 n v
  ·exact ⟨rfl,rfl⟩
  ·have hag := g2.1 hA
   have e0:=hev hag
   have hvl:=hag.val.len
   have hp:=zDD (zmP hn hag) h3
   have hb1:=hag.val.b x.toNat (by omega)
   have hb2:=hag.val.b a.toNat (by omega)
   rw [e0,beq_self_eq_true,zcv (by omega) (by omega),decide_eq_true (show v.get x.toNat - v.get a.toNat≤l by omega),decide_eq_true (show 0≤x∧x < (v.len:Int) by omega),decide_eq_true (show 0≤a∧a < (v.len:Int) by omega)]
   exact ⟨rfl,rfl⟩
 by_cases hN:zcp (En n)
 ·obtain ⟨b1, b2⟩ := zvR (by omega) hn h1 h2 hN
  rw [b1,b2]
  obtain ⟨l1,l2⟩:=last 0 (fun _=>rfl)
  have hle:fr n a.toNat x.toNat≤l:=by
   rw [h4];exact ztA (zHs (a:=W n) hn) hN (by show a.toNat < n.Nodes.toNat;omega) h3
  unfold zol zok
  simp only [decide_true,Bool.true_and,beq_self_eq_true,cond_true,bne_self_eq_false,cond_false]
  rw [decide_eq_false (show ¬ fr n a.toNat x.toNat > l by omega),cond_false,cond_false]
  exact ⟨l1,l2⟩
 ·obtain ⟨b1, b2⟩ := zqc (by omega) hn h1 h2 hN
  rw [b1,b2]
  obtain ⟨l1,l2⟩:=last 5 (fun hag=>absurd (zqd hn hag) hN)
  unfold zol zok
  simp only [decide_true,Bool.true_and,bne_self_eq_false,cond_false]
  rw [show ((5:Int) == 0)=false from rfl,cond_false,cond_false,show ((5:Int) != 0)=true from rfl,cond_true,cond_true]
  exact ⟨l1,l2⟩
theorem ztF (n:Net) (a:Int) (c:Sl Use) (v:Sl Int) (ht:n.Ties.len≤210) (hv:v.len≤50):zop n a c v=true∧zoo n a c v=true:=by
 obtain ⟨a1,a2⟩:=zAE n (by omega)
 unfold zop zoo ztv ztu
 cases hs:s67 n
 ·obtain ⟨b1, b2⟩ := zHy ht hs a c
  obtain ⟨c1,c2⟩:=zHz ht hs a c
  rw [b1,b2,c1,c2]
  exact ⟨rfl,rfl⟩
 ·have hn := a2.1 hs
  obtain ⟨b1,b2⟩:=zKm hn hs a c
  obtain ⟨c1,c2⟩:=zKs hn hs a c
  rw [b1,b2,c1,c2]
  unfold ztt zts ztr ztq
  simp only [decide_true,Bool.true_and,bne_self_eq_false,cond_false]
  cases h:(pv n a c).2.2
  ·exact ⟨rfl,rfl⟩
  ·exact zAU n hn a c v hv h
theorem proves_true (n:Net) (a:Int) (c:Sl Use) (v:Sl Int):p14 n a c v=true∧s14 n a c v=true:=by
 unfold p14 s14
 by_cases h:s20 n 20=true
 ·rw [h]
  unfold zlU zlT
  by_cases hc:(c.len:Int) > 50
  ·rw [decide_eq_true hc];exact ⟨rfl,rfl⟩
  ·rw [decide_eq_false hc]
   by_cases hv:(v.len:Int) > 50
   ·rw [decide_eq_true hv];exact ⟨rfl,rfl⟩
   ·rw [decide_eq_false hv]
    simp only [Bool.not_true,cond_false]
    exact ztF n a c v (zAF h (by omega)) (by omega)
 ·rw [Bool.eq_false_iff.2 h];exact ⟨rfl,rfl⟩
end Go.Proofs
