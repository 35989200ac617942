/- Part 7 of what the proof rests on: a machine that runs functions of the program on pure values, proved sound; the functions that the law reaches, and what they compute. -/
import Derived.Test.YtedhjaaikeakoaaDoorQ6
set_option linter.all false
namespace Go.Pm
theorem zFf {E:List Ed}{f:Ed->Ed}(hu:∀ e,(f e).u=e.u) (hv:∀ e,(f e).v=e.v){c:List Ed} : ∀ {a b:Nat},zfC (E.map f) a c b->∃ c0,c=c0.map f/\zfC E a c0 b:=by
 induction c with
 | nil=>intro a b h;exact⟨[],rfl,h⟩
 | cons e l ih =>
  rintro a b ⟨h1,h2,h3⟩
  obtain⟨e0,k1,rfl⟩:=dqz.1 h1
  obtain⟨c0,k2,k3⟩:=ih h3
  exact⟨e0 :: c0,by rw[k2];rfl,k1,by rw[<- hu];exact h2,by rw[<- hv];exact k3⟩
def edM (e:Ed):Ed:=⟨e.u,e.v,e.w * 1048576+1⟩
theorem zPH (c:List Ed):wt (c.map edM)=wt c * 1048576+c.length:=by
 induction c with
 | nil=>rfl
 | cons e l ih =>
  show e.w * 1048576+1+wt (l.map edM)=(e.w+wt l) * 1048576+((l.length+1:Nat):Int)
  omega
theorem zln {E:List Ed}(h:zbt E):zbt (E.map edM):=λ a c hc=>by
 obtain⟨c0,rfl,h1⟩:=zFf (f:=edM) (λ _=>rfl) (λ _=>rfl) hc
 rw[zPH]
 have:=h a c0 h1
 omega
theorem zFg {E F:List Ed}(h:∀ e∈E,e∈F){c:List Ed} : ∀ {a b:Nat},zfC E a c b->zfC F a c b:=by
 induction c with
 | nil=>intro a b h;exact h
 | cons e l ih=>rintro a b ⟨h1,h2,h3⟩;exact⟨h e h1,h2,ih h3⟩
theorem ze1 {E F:List Ed}(h:∀ e∈E,e∈F) (hF:zbt F):zbt E:=λ a c hc=>hF a c (zFg h hc)
def zNk : Option Int → Int × Int
  | none=>((1000000000000:Int),(0:Int))
  | some x=>(x / 1048576,x % 1048576)
theorem zBe {L U:Int}(h0:0<=U) (h1:U < 1048576):zNk (some (L * 1048576+U))=(L,U):=by
 show ((L * 1048576+U) / 1048576,(L * 1048576+U) % 1048576)=(L,U)
 rw[show (L * 1048576+U) / 1048576=L by omega,show (L * 1048576+U) % 1048576=U by omega]
def zt4 (s:Nat):zbO:=λ v=>if v=s then some 0 else none
theorem zd2 (s:Nat):Start (λ v=>v=s) (zt4 s) :=
 ⟨λ v x h=>(by
  unfold zt4 at h
  by_cases hv:v=s
  ·rw[dqP hv] at h;cases h;exact⟨hv,rfl⟩
  ·rw[dqG hv] at h;cases h),λ v h=>dqP h⟩
structure EdOk (E : List Ed) (n : Nat) : Prop where
  lt:∀ e∈E,e.u < n/\e.v < n
  w:∀ e∈E,-1000000000<=e.w/\e.w<=1000000000
  n1:1<=n
  n40:n<=40
theorem EdOk.ltM {E:List Ed}{n:Nat}(h:EdOk E n):∀ e∈E.map edM,e.u < n/\e.v < n :=
 λ e he=>by obtain⟨f,h1,rfl⟩:=dqz.1 he;exact h.lt f h1
theorem zjQ {E:List Ed}{n:Nat}(h:EdOk E n){c:List Ed} : ∀ {a b:Nat},zfC E a c b->-1000000000 * (c.length:Int)<=wt c/\wt c<=1000000000 * (c.length:Int):=by
 induction c with
 | nil=>intro a b _;exact⟨(by show _<=(0:Int);simp),(by show (0:Int)<=_;simp)⟩
 | cons e l ih =>
  rintro a b ⟨h1,_,h3⟩
  have:=ih h3
  have:=h.w e h1
  show _<=e.w+wt l/\e.w+wt l<=_
  simp only[dqr]
  omega
structure Ent (E : List Ed) (n s v : Nat) (x L U : Int) (c : List Ed) : Prop where
  ch:zfC E s c v
  x:x=L * 1048576+U
  L:L=wt c
  U:U=c.length
  len:c.length < n
theorem zFh {E:List Ed}{n:Nat}(hE:EdOk E n){s:Nat}(hs:s < n){d:zbO}(hd:Inv (E.map edM) (λ v=>v=s) d){v:Nat}{x:Int}(hx:d v=some x):∃ c,Ent E n s v x (wt c) c.length c:=by
 obtain⟨a,c,hc⟩:=hd v x hx
 have hl:=zBc hE.ltM (λ a ha=>Nat.lt_of_le_of_lt (Nat.le_of_eq ha) hs) hc
 obtain⟨c0,rfl,h1⟩:=zFf (f:=edM) (λ _=>rfl) (λ _=>rfl) hc.ch
 obtain rfl:a=s:=hc.src
 exact⟨c0,h1,by rw[hc.wt,zPH],rfl,rfl,by rw[List.length_map] at hl;omega⟩
def dst (E:List Ed) (n s:Nat):zbO:=rds (E.map edM) (n - 1) (zt4 s)
theorem zJD {E:List Ed}{n s:Nat}(hn:zbt E):Inv (E.map edM) (λ v=>v=s) (dst E n s):=zr1 (zln hn) _ (ze0 (zd2 s))
theorem zBf {E:List Ed}{n s:Nat}(hE:EdOk E n) (hn:zbt E) (hs:s < n):Fix (E.map edM) (dst E n s):=zBd (zln hn) hE.ltM (λ a ha=>Nat.lt_of_le_of_lt (Nat.le_of_eq ha) hs) (zd2 s)
theorem dst_at {E:List Ed}{n s v:Nat}(hE:EdOk E n) (hn:zbt E) (hs:s < n){x:Int}(hx:dst E n s v=some x):∃ c,Ent E n s v x (wt c) c.length c:=zFh hE hs (zJD hn) hx
theorem zDK {E:List Ed}{n s:Nat} : ∃ x,dst E n s s=some x:=by
 obtain⟨x,h,_⟩:=zpw (E.map edM) (n - 1) (zt4 s) s 0 (dqP rfl)
 exact⟨x,h⟩
theorem zBg {E:List Ed}{n s:Nat}(hE:EdOk E n) (hn:zbt E) (hs:s < n){c:List Ed} : ∀ {a v:Nat}{x:Int},dst E n s a=some x->zfC E a c v->∃ y,dst E n s v=some y/\y / 1048576<=x / 1048576+wt c:=by
 induction c with
 | nil=>intro a v x hx h;cases h;exact⟨x,hx,by show _<=_+(0:Int);omega⟩
 | cons e l ih =>
  rintro a v x hx ⟨h1,h2,h3⟩
  subst h2
  obtain⟨y,k1,k2⟩:=zBf hE hn hs (edM e) (List.mem_map_of_mem h1) x hx
  obtain⟨z,m1,m2⟩:=ih (a:=e.v) k1 h3
  obtain⟨c1,hc1⟩:=dst_at hE hn hs hx
  obtain⟨c2,hc2⟩:=dst_at hE hn hs (show dst E n s e.v=some y from k1)
  refine⟨z,m1,?_⟩
  have k2':y<=x+(e.w * 1048576+1):=k2
  have:=hE.n40
  have:=hc1.len
  have:=hc1.x
  have:=hc2.len
  have:=hc2.x
  show _<=_+(e.w+wt l)
  omega
theorem zJE {E:List Ed}{n s v:Nat}(hE:EdOk E n) (hn:zbt E) (hs:s < n){c:List Ed}(hc:zfC E s c v):∃ x,dst E n s v=some x/\x / 1048576<=wt c:=by
 obtain⟨x0,h1⟩:=zDK (E:=E) (n:=n) (s:=s)
 obtain⟨y,k1,k2⟩:=zBg hE hn hs h1 hc
 have h3:x0<=0:=by
  obtain⟨x',h1',h2'⟩:=zpw (E.map edM) (n - 1) (zt4 s) s 0 (dqP rfl)
  have:x'=x0:=Option.some.inj (h1'.symm.trans h1)
  omega
 exact⟨y,k1,by omega⟩
def zpy (o:Option Int):Int:=(zNk o).1
theorem zBh {E:List Ed}{n s v:Nat}(hE:EdOk E n) (hn:zbt E) (hs:s < n){x:Int}(hx:dst E n s v=some x):∃ c,zfC E s c v/\zpy (dst E n s v)=wt c/\c.length < n:=by
 obtain⟨c,hc⟩:=dst_at hE hn hs hx
 refine⟨c,hc.ch,?_,hc.len⟩
 rw[hx]
 show x / 1048576=_
 have:=hc.x;have:=hc.len;have:=hE.n40
 omega
theorem zi5 {E:List Ed}{n s v:Nat}(hE:EdOk E n) (hn:zbt E) (hs:s < n){c:List Ed}(hc:zfC E s c v):zpy (dst E n s v)<=wt c:=by
 obtain⟨x,h1,h2⟩:=zJE hE hn hs hc
 rw[h1];exact h2
theorem zdn {E:List Ed}{n s v:Nat}(hE:EdOk E n) (hn:zbt E) (hs:s < n):(dst E n s v=none/\zpy (dst E n s v)=1000000000000)\/∃ c,dst E n s v ≠ none/\zfC E s c v/\zpy (dst E n s v)=wt c/\c.length < n/\-40000000000<=wt c/\wt c<=40000000000:=by
 cases h:dst E n s v with
 | none=>exact .inl ⟨rfl,rfl⟩
 | some x =>
  obtain⟨c,h1,h2,h3⟩:=zBh hE hn hs h
  have:=zjQ hE h1
  have:=hE.n40
  rw[h] at h2
  exact .inr ⟨c,(by intro h;cases h),h1,h2,h3,by omega,by omega⟩
theorem zlo {E F:List Ed}{n s v:Nat}(hE:EdOk E n) (hF:EdOk F n) (hn:zbt F) (hs:s < n) (h:∀ e∈E,e∈F):zpy (dst F n s v)<=zpy (dst E n s v):=by
 rcases zdn (v:=v) hE (ze1 h hn) hs with ⟨_,h2⟩ | ⟨c,_,h1,h2,_⟩
 ·rw [h2]
  rcases zdn (v:=v) hF hn hs with ⟨_,h2⟩ | ⟨c,_,_,h2,_,_,_⟩ <;> omega
 ·rw[h2];exact zi5 hF hn hs (zFg h h1)
theorem zpz {E F:List Ed}{n s v:Nat}(hE:EdOk E n) (hF:EdOk F n) (hn:zbt F) (hs:s < n) (h:∀ e∈E,e∈F) (h':∀ e∈F,e∈E):zpy (dst F n s v)=zpy (dst E n s v) :=
 Int.le_antisymm (zlo hE hF hn hs h) (zlo hF hE (ze1 h hn) hs h')
end Go.Pm
namespace Go.Pm
def zn8 (E : List Ed) : Nat → zbO → Bool
  | 0,_=>true
  | k+1,d=>cond (E.foldl rlF (d,false)).2 (zn8 E k (rnd E d)) false
theorem zr2 {E:List Ed}{k:Nat} : ∀ {m:Nat}{d:zbO},Fix E (rds E k d)->k < m->zn8 E m d=false:=by
 induction k with
 | zero =>
  intro m d h hm
  obtain⟨m,rfl⟩:∃ m',m=m'+1:=⟨m - 1,by omega⟩
  show cond (E.foldl rlF (d,false)).2 _ _=false
  rw[zjO (show ∀ e∈E,Sat d e from h)];rfl
 | succ k ih =>
  intro m d h hm
  obtain⟨m,rfl⟩:∃ m',m=m'+1:=⟨m - 1,by omega⟩
  show cond (E.foldl rlF (d,false)).2 (zn8 E m (rnd E d)) false=false
  rw[ih (m:=m) (d:=rnd E d) h (by omega)]
  cases (E.foldl rlF (d,false)).2 <;> rfl
theorem zDL {E:List Ed}{m:Nat} : ∀ {d:zbO},zn8 E m d=false->∃ k,Fix E (rds E k d):=by
 induction m with
 | zero=>intro d h;cases h
 | succ m ih =>
  intro d h
  have h':cond (E.foldl rlF (d,false)).2 (zn8 E m (rnd E d)) false=false:=h
  cases hc:(E.foldl rlF (d,false)).2
  ·exact⟨0,zi4 hc⟩
  ·rw [hc] at h'
   obtain⟨k,hk⟩:=ih h'
   exact⟨k+1,hk⟩
def zof (n:Nat):zbO:=λ v=>if v < n then some 0 else none
theorem zmi (n:Nat):Start (λ v=>v < n) (zof n) :=
 ⟨λ v x h=>(by
  unfold zof at h
  by_cases hv:v < n
  ·rw[dqP hv] at h;cases h;exact⟨hv,rfl⟩
  ·rw[dqG hv] at h;cases h),λ v h=>dqP h⟩
theorem zDM {E:List Ed}{n:Nat}(hE:EdOk E n):zn8 E n (zof n)=false↔zbt E:=by
 constructor
 ·intro h
  obtain⟨k,hk⟩:=zDL h
  have hsome:∀ v,v < n->∃ x,rds E k (zof n) v=some x:=λ v hv=>by
   obtain⟨x,hx,_⟩:=zpw E k (zof n) v 0 (dqP hv)
   exact⟨x,hx⟩
  refine zpx (f:=λ v=>(rds E k (zof n) v).getD 0) λ e he=>?_
  obtain⟨x,hx⟩:=hsome e.u (hE.lt e he).1
  obtain⟨y,hy,hxy⟩:=hk e he x hx
  show (rds E k (zof n) e.v).getD 0<=(rds E k (zof n) e.u).getD 0+e.w
  rw[hx,hy];exact hxy
 ·intro h
  have:=hE.n1
  exact zr2 (zBd h hE.lt (λ a ha=>ha) (zmi n)) (by omega)
end Go.Pm
namespace Go.Proofs
open Go Go.Pm
set_option maxRecDepth 100000
set_option linter.unusedVariables false
theorem zh3 {n:Nat}{F:Tab}{k:Nat}(hk:k < n):tg n F k=F k:=by
 unfold tg zlI
 have h:(zm (zhy 0 n F))[k]? = some (.p (.int .i64 (F k))):=by
  rw[zm,dqH,zgs n 0 F k hk,Nat.zero_add];rfl
 rw[h]
theorem zFi {n:Nat}{F:Tab}{k:Nat}{v:Int}{j:Nat}(hj:j < n):ts n F k [v] j=if j=k then v else F j:=by
 show (match Nat.beq j k with | true=>v | false=>tg n F j)=_
 by_cases h:j=k
 ·rw[dqP h,show Nat.beq j k=true from by rw[h];exact Nat.beq_refl _]
 ·rw[dqG h,show Nat.beq j k=false from Bool.eq_false_iff.2 λ e=>h (dqc e)];exact zh3 hj
theorem zjq {n:Nat}{F:Tab}{k:Nat}{v w:Int}{j:Nat}(hj:j < n):ts n F k [v,w] j=if j=k+1 then w else if j=k then v else F j:=by
 show (match Nat.beq j (k+1) with | true=>w | false=>(match Nat.beq j k with | true=>v | false=>tg n F j))=_
 by_cases h:j=k+1
 ·rw[dqP h,show Nat.beq j (k+1)=true from by rw[h];exact Nat.beq_refl _]
 ·rw [dqG h, show Nat.beq j (k + 1) = false from Bool.eq_false_iff.2 fun e => h (dqc e)]
  by_cases h':j=k
  ·rw[dqP h',show Nat.beq j k=true from by rw[h'];exact Nat.beq_refl _]
  ·rw[dqG h',show Nat.beq j k=false from Bool.eq_false_iff.2 λ e=>h' (dqc e)];exact zh3 hj
def fwS (t:Tie) (i:Nat):step:=⟨⟨(i:Int),false⟩,t.From,t.To,t.High⟩
def bwS (t:Tie) (i:Nat):step:=⟨⟨(i:Int),true⟩,t.To,t.From,w64 (0 - t.Low)⟩
def zpA (a:web) (i:Nat):Bool:=(zlw (a.out.F [(i:Int)]) 0) != 0
def stK (a:web) (i:Nat):List step :=
 cond (zpA a i) [] ((cond ((a.Net.Ties.get i).High != (1000000000000:Int)) [fwS (a.Net.Ties.get i) i] []) ++ (cond ((a.Net.Ties.get i).Low != (-1000000000000:Int)) [bwS (a.Net.Ties.get i) i] []))
def stL (a : web) : Nat → Nat → List step
  | 0,_=>[]
  | m+1,i=>stK a i ++ stL a m (i+1)
theorem zBi (a:web) (hn:a.Net.Ties.len<=9223372036854775807):zu3 a=true/\zkS a=stL a a.Net.Ties.len 0:=by
 have key:∀ (m k i:Nat),i+m=a.Net.Ties.len->m < k->zey a k (i:Int)=true/\zex a k (i:Int)=stL a m i:=by
  intro m
  induction m with
  | zero =>
   intro k i hi hk
   obtain⟨k,rfl⟩:∃ k',k=k'+1:=⟨k - 1,by omega⟩
   constructor
   ·show zfl a (zey a k) (i : Int) = true
    unfold zfl
    rw[dqF (show ¬ (i:Int) < (a.Net.Ties.len:Int) by omega),dqB]
   ·show zfk a (zex a k) (i : Int) = []
    unfold zfk
    rw[dqF (show ¬ (i:Int) < (a.Net.Ties.len:Int) by omega),dqB]
  | succ m ih =>
   intro k i hi hk
   obtain⟨k,rfl⟩:∃ k',k=k'+1:=⟨k - 1,by omega⟩
   obtain⟨h1,h2⟩:=ih k (i+1) (by omega) (by omega)
   constructor
   ·show zfl a (zey a k) (i : Int) = true
    unfold zfl
    rw[dqT (show (i:Int) < (a.Net.Ties.len:Int) by omega),dqA,dqT (show 0<=(i:Int)/\(i:Int) < (a.Net.Ties.len:Int) by omega),Bool.true_and,zjN (n:=a.Net.Ties.len) (by omega) hn,h1]
    generalize (zlw (a.out.F [(i:Int)]) 0 != 0)=b1
    generalize (s94 (⟨(a.Net.Ties.get ((i:Int)).toNat),(i:Int)⟩:tie)).2=b2
    generalize (s95 (⟨(a.Net.Ties.get ((i:Int)).toNat),(i:Int)⟩:tie)).2=b3
    cases b1 <;> cases b2 <;> cases b3 <;> rfl
   ·show zfk a (zex a k) (i : Int) = stK a i ++ stL a m (i + 1)
    unfold zfk
    rw[dqT (show (i:Int) < (a.Net.Ties.len:Int) by omega),dqA,dqN,zjN (n:=a.Net.Ties.len) (by omega) hn,h2]
    unfold stK zpA s94 s95
    generalize (zlw (a.out.F [(i:Int)]) 0 != 0)=b1
    show cond b1 _ (cond ((a.Net.Ties.get i).High != (1000000000000:Int)) (_ :: cond ((a.Net.Ties.get i).Low != (-1000000000000:Int)) (_ :: _) _) (cond ((a.Net.Ties.get i).Low != (-1000000000000:Int)) (_ :: _) _))=_
    generalize ((a.Net.Ties.get i).High != (1000000000000:Int))=b2
    generalize ((a.Net.Ties.get i).Low != (-1000000000000:Int))=b3
    cases b1 <;> cases b2 <;> cases b3 <;> rfl
 exact key a.Net.Ties.len Fuel 0 (by omega) (by simp only[Fuel];omega)
theorem zn9 {a:web}{y:step} : ∀ {m i:Nat},y∈stL a m i↔∃ j,i<=j/\j < i+m/\y∈stK a j:=by
 intro m
 induction m with
 | zero=>intro i;exact⟨λ h=>(by cases h),λ ⟨j,h1,h2,_⟩=>(by omega)⟩
 | succ m ih =>
  intro i
  show y∈stK a i ++ stL a m (i+1)↔_
  rw[dqg,ih]
  constructor
  ·rintro (h | ⟨j, h1, h2, h3⟩)
   ·exact⟨i,dqt _,by omega,h⟩
   ·exact⟨j,by omega,by omega,h3⟩
  ·rintro ⟨j, h1, h2, h3⟩
   by_cases h:j=i
   ·subst h;exact .inl h3
   ·exact .inr ⟨j,by omega,by omega,h3⟩
theorem zoa {a:web}{y:step}{j:Nat} : y∈stK a j↔zpA a j=false/\(((a.Net.Ties.get j).High ≠ 1000000000000/\y=fwS (a.Net.Ties.get j) j)\/((a.Net.Ties.get j).Low ≠ -1000000000000/\y=bwS (a.Net.Ties.get j) j)):=by
 unfold stK
 cases h:zpA a j
 ·rw [dqB, dqg]
  by_cases h1:(a.Net.Ties.get j).High=1000000000000
  ·rw [show ((a.Net.Ties.get j).High != (1000000000000:Int)) = false by rw [h1]; rfl, dqB]
   by_cases h2:(a.Net.Ties.get j).Low = -1000000000000
   ·rw [show ((a.Net.Ties.get j).Low != (-1000000000000:Int)) = false by rw [h2]; rfl, dqB]
    simp[h1,h2]
   ·rw [bne_iff_ne.2 h2, dqA]
    simp[h1,h2]
  ·rw [bne_iff_ne.2 h1, dqA]
   by_cases h2:(a.Net.Ties.get j).Low = -1000000000000
   ·rw [show ((a.Net.Ties.get j).Low != (-1000000000000:Int)) = false by rw [h2]; rfl, dqB]
    simp[h1,h2]
   ·rw [bne_iff_ne.2 h2, dqA]
    simp[h1,h2]
 ·rw[dqA];simp
theorem zJF (a:web):∀ m i,(stL a m i).length<=2 * m:=by
 intro m
 induction m with
 | zero=>intro i;exact dqt _
 | succ m ih =>
  intro i
  show (stK a i ++ stL a m (i+1)).length<=_
  rw[dqu]
  have:=ih (i+1)
  have:(stK a i).length<=2:=by
   unfold stK
   cases zpA a i <;> cases ((a.Net.Ties.get i).High != (1000000000000:Int)) <;> cases ((a.Net.Ties.get i).Low != (-1000000000000:Int)) <;> simp
  omega
def edS (y:step):Ed:=⟨y.from_.toNat,y.to.toNat,y.length⟩
structure StOk (y : step) (N : Nat) : Prop where
  f0:0<=y.from_
  f1:y.from_ < N
  t0:0<=y.to
  t1:y.to < N
  l0 : -1000000000<=y.length
  l1:y.length<=1000000000
abbrev Ws (a:web):List step:=stL a a.Net.Ties.len 0
def We (a:web):List Ed:=(Ws a).map edS
theorem zBj {t:Tie}{N:Int}(h:TieOk t N) (h':t.Low ≠ -1000000000000):w64 (0 - t.Low) = -t.Low:=by
 have:=h.lo.resolve_left h'
 rw[zb9 (by omega) (by omega)];omega
theorem zJZ {a:web}(hn:NetOk a.Net){y:step}(hy:y∈Ws a):StOk y a.Net.Nodes.toNat:=by
 obtain⟨j,_,h2,h3⟩:=zn9.1 hy
 have h:=hn.tie j (by omega)
 have:=h.f0;have:=h.f1;have:=h.t0;have:=h.t1
 rcases (zoa.1 h3).2 with ⟨h4,rfl⟩ | ⟨h4,rfl⟩
 ·have := h.hi.resolve_left h4
  exact⟨h.f0,by show (a.Net.Ties.get j).From < _;omega,h.t0,by show (a.Net.Ties.get j).To < _;omega,this.1,this.2⟩
 ·have := h.lo.resolve_left h4
  have e:=zBj h h4
  exact⟨h.t0,by show (a.Net.Ties.get j).To < _;omega,h.f0,by show (a.Net.Ties.get j).From < _;omega,by show _<=w64 (0 - (a.Net.Ties.get j).Low);omega,by show w64 (0 - (a.Net.Ties.get j).Low)<=_;omega⟩
theorem zBk {a:web}(hn:NetOk a.Net):(Ws a).length<=400:=by
 have h1:=zJF a a.Net.Ties.len 0
 have h2:=hn.len
 show (stL a a.Net.Ties.len 0).length<=400
 omega
theorem zr3 {a:web}(hn:NetOk a.Net):EdOk (We a) a.Net.Nodes.toNat:=by
 have:=hn.n1;have:=hn.n40
 refine⟨λ e he=>?_,λ e he=>?_,by omega,by omega⟩
 ·obtain ⟨y, hy, rfl⟩ := dqz.1 he
  have h:=zJZ hn hy
  have:=h.f0;have:=h.f1;have:=h.t0;have:=h.t1
  exact⟨by show y.from_.toNat < _;omega,by show y.to.toNat < _;omega⟩
 ·obtain ⟨y, hy, rfl⟩ := dqz.1 he
  have h:=zJZ hn hy
  exact⟨h.l0,h.l1⟩
theorem zfD {a:web}(hn:NetOk a.Net){e:Ed} : e∈We a↔∃ j,j < a.Net.Ties.len/\zpA a j=false/\(((a.Net.Ties.get j).High ≠ 1000000000000/\e=⟨(a.Net.Ties.get j).From.toNat,(a.Net.Ties.get j).To.toNat,(a.Net.Ties.get j).High⟩)\/((a.Net.Ties.get j).Low ≠ -1000000000000/\e=⟨(a.Net.Ties.get j).To.toNat,(a.Net.Ties.get j).From.toNat,-(a.Net.Ties.get j).Low⟩)):=by
 constructor
 ·intro he
  obtain⟨y,hy,rfl⟩:=dqz.1 he
  obtain⟨j,_,h2,h3⟩:=zn9.1 hy
  obtain⟨h4,h5⟩:=zoa.1 h3
  refine⟨j,by omega,h4,?_⟩
  rcases h5 with ⟨h6,rfl⟩ | ⟨h6,rfl⟩
  ·exact .inl ⟨h6,rfl⟩
  ·refine .inr ⟨h6, ?_⟩
   rw[<- zBj (hn.tie j (by omega)) h6];rfl
 ·rintro ⟨j, h1, h2, h3⟩
  rcases h3 with ⟨h6,rfl⟩ | ⟨h6,rfl⟩
  ·exact dqz.2 ⟨fwS (a.Net.Ties.get j) j,zn9.2 ⟨j,by omega,by omega,zoa.2 ⟨h2,.inl ⟨h6,rfl⟩⟩⟩,rfl⟩
  ·exact dqz.2 ⟨bwS (a.Net.Ties.get j) j,zn9.2 ⟨j,by omega,by omega,zoa.2 ⟨h2,.inr ⟨h6,rfl⟩⟩⟩,by rw[<- zBj (hn.tie j h1) h6];rfl⟩
end Go.Proofs
namespace Go.Proofs
open Go Go.Pm
set_option maxRecDepth 100000
set_option linter.unusedVariables false
def Rt (N:Nat) (T:Tab) (d:zbO):Prop:=∀ v,v < N->d v=some (T v)
def Bd (B:Int) (T:Tab):Prop:=∀ v,v < 40->-B<=T v/\T v<=0
theorem zBl (a:web){N:Nat}(hN:N<=40) (S0:Int->Tab->Bool) (P0:Int->Tab->Bool):∀ (l:List step),(∀ y∈l,StOk y N)->∀ (t:Int) (c:Bool) (T:Tab) (d:zbO) (B:Int),Rt N T d->Bd B T->0<=B->B+l.length * 1000000000<=100000000000000000 ->
    ∃ T',zfV S0 a l t c T=zm8 S0 a t ((l.map edS).foldl rlF (d,c)).2 T'/\zfW P0 a l t c T=zm9 P0 a t ((l.map edS).foldl rlF (d,c)).2 T'/\Rt N T' ((l.map edS).foldl rlF (d,c)).1/\Bd (B+l.length * 1000000000) T':=by
  intro l
  induction l with
  | nil=>intro _ t c T d B h1 h2 _ _;exact⟨T,rfl,rfl,h1,by simpa using h2⟩
  | cons y l ih =>
    intro hl t c T d B h1 h2 h3 h4
    have hy:=hl y (dqj ..)
    have hl':∀ y∈l,StOk y N:=λ z hz=>hl z (dqf _ hz)
    rw[dqr] at h4
    have f0:=hy.f0;have f1:=hy.f1;have t0:=hy.t0;have t1:=hy.t1;have l0:=hy.l0;have l1:=hy.l1
    have hf:=h1 y.from_.toNat (by omega)
    have ht:=h1 y.to.toNat (by omega)
    have bf:=h2 y.from_.toNat (by omega)
    have bt:=h2 y.to.toNat (by omega)
    have e1:0+y.from_.toNat * 1+0=y.from_.toNat:=by omega
    have e2:0+y.to.toNat * 1+0=y.to.toNat:=by omega
    have hr:rlF (d,c) (edS y)=cond (decide (T y.from_.toNat+y.length < T y.to.toNat)) (zjw d y.to.toNat (T y.from_.toNat+y.length),true) (d,c):=by
      unfold rlF edS
      simp only[hf,ht]
      rfl
    have hS:zfV S0 a (y :: l) t c T=cond (decide (T y.from_.toNat+y.length < T y.to.toNat)) (zfV S0 a l t true (ts 40 T y.to.toNat [T y.from_.toNat+y.length])) (zfV S0 a l t c T):=by
      show zna S0 a y (zfV S0 a l) t c T=_
      generalize zfV S0 a l=S
      unfold zna
      rw[e1,e2,zh3 (by omega),zh3 (by omega),zb9 (by omega) (by omega)]
    have hP:zfW P0 a (y :: l) t c T=cond (decide (T y.from_.toNat+y.length < T y.to.toNat)) (zfW P0 a l t true (ts 40 T y.to.toNat [T y.from_.toNat+y.length])) (zfW P0 a l t c T):=by
      show znb P0 a y (zfW P0 a l) t c T=_
      generalize zfW P0 a l=S
      unfold znb
      rw[e1,e2,zh3 (by omega),zh3 (by omega),zb9 (by omega) (by omega),dqT (show 0<=y.from_/\y.from_ < (40:Int) by omega),dqT (show 0<=y.to/\y.to < (40:Int) by omega)]
      cases decide (T y.from_.toNat+y.length < T y.to.toNat) <;> rfl
    show ∃ T',_=zm8 S0 a t ((l.map edS).foldl rlF (rlF (d,c) (edS y))).2 T'/\_=zm9 P0 a t ((l.map edS).foldl rlF (rlF (d,c) (edS y))).2 T'/\Rt N T' ((l.map edS).foldl rlF (rlF (d,c) (edS y))).1/\_
    rw[hS,hP,hr]
    by_cases hlt:T y.from_.toNat+y.length < T y.to.toNat
    · rw [dqT hlt, dqA, dqA, dqA]
      obtain ⟨T', k1, k2, k3, k4⟩ := ih hl' t true (ts 40 T y.to.toNat [T y.from_.toNat + y.length]) (zjw d y.to.toNat (T y.from_.toNat + y.length)) (B + 1000000000)
        (λ v hv=>by
          rw[zFi (by omega)]
          unfold zjw
          by_cases h:v=y.to.toNat
          · rw[dqP h,dqP h]
          · rw[dqG h,dqG h];exact h1 v hv)
        (λ v hv=>by
          rw[zFi hv]
          by_cases h:v=y.to.toNat
          · rw[dqP h];omega
          · rw[dqG h];have:=h2 v hv;omega) (by omega) (by omega)
      refine⟨T',k1,k2,k3,?_⟩
      rw[dqr,show B+((l.length+1:Nat):Int) * 1000000000=B+1000000000+(l.length:Int) * 1000000000 by omega]
      exact k4
    · rw [dqF hlt, dqB, dqB, dqB]
      obtain⟨T',k1,k2,k3,k4⟩:=ih hl' t c T d B h1 h2 h3 (by omega)
      refine⟨T',k1,k2,k3,λ v hv=>?_⟩
      have:=k4 v hv
      rw[dqr]
      omega
theorem zr4 (a:web) (hn:NetOk a.Net):∀ (m k i:Nat) (T:Tab) (d:zbO) (B:Int),Rt a.Net.Nodes.toNat T d->Bd B T->0<=B->B+m * 400000000000<=100000000000000000->(i:Int)+m=a.Net.Nodes->m < k ->
  ziv a k (i:Int) T=true/\ziu a k (i:Int) T=zn8 (We a) m d:=by
 have hn1:=hn.n1;have hn40:=hn.n40;have hlen:=hn.len
 obtain⟨q1,q2⟩:=zBi a (by omega)
 intro m
 induction m with
 | zero =>
  intro k i T d B _ _ _ _ hi hk
  obtain⟨k,rfl⟩:∃ k',k=k'+1:=⟨k - 1,by omega⟩
  constructor
  ·show zit a (ziv a k) (i : Int) T = true
   unfold zit
   rw[dqF (show ¬ (i:Int) < a.Net.Nodes by omega),dqB]
  ·show zis a (ziu a k) (i : Int) T = true
   unfold zis
   rw[dqF (show ¬ (i:Int) < a.Net.Nodes by omega),dqB]
 | succ m ih =>
  intro k i T d B h1 h2 h3 h4 hi hk
  obtain⟨k,rfl⟩:∃ k',k=k'+1:=⟨k - 1,by omega⟩
  have hwl:=zBk hn
  obtain⟨T',k1,k2,k3,k4⟩:=zBl a (N:=a.Net.Nodes.toNat) (by omega) (ziu a k) (ziv a k) (Ws a) (λ y hy=>zJZ hn hy) (i:Int) false T d B h1 h2 h3 (by omega)
  have hB:Bd (B+400000000000) T':=λ v hv=>by have:=k4 v hv;omega
  have hw:w64 ((i:Int)+(1:Int))=((i+1:Nat):Int):=by rw[zb9 (by omega) (by omega)];omega
  obtain⟨r1,r2⟩:=ih k (i+1) T' (rnd (We a) d) (B+400000000000) k3 hB (by omega) (by omega) (by omega) (by omega)
  constructor
  ·show zit a (ziv a k) (i : Int) T = true
   unfold zit zqv
   rw[dqT (show (i:Int) < a.Net.Nodes by omega),dqA,q1,q2,k2]
   unfold zm9
   rw[hw,r1]
   cases ((Ws a).map edS |>.foldl rlF (d,false)).2 <;> rfl
  ·show zis a (ziu a k) (i : Int) T = cond ((We a).foldl rlF (d, false)).2 (zn8 (We a) m (rnd (We a) d)) false
   unfold zis zqu
   rw[dqT (show (i:Int) < a.Net.Nodes by omega),dqA,q2,k1]
   unfold zm8
   rw[hw,r2]
   show cond (!((We a).foldl rlF (d,false)).2) false _=_
   cases ((We a).foldl rlF (d,false)).2 <;> rfl
theorem zBm (a:web) (hn:NetOk a.Net):p88 a=true/\s88 a=zn8 (We a) a.Net.Nodes.toNat (zof a.Net.Nodes.toNat):=by
 have hn1:=hn.n1;have hn40:=hn.n40
 have:=zr4 a hn a.Net.Nodes.toNat Fuel 0 (λ _=>(0:Int)) (zof a.Net.Nodes.toNat) 0 (λ v hv=>dqP hv) (λ v hv=>⟨by show -(0:Int)<=(0:Int);omega,Int.le_refl _⟩) (by omega) (by omega) (by omega) (by simp only[Fuel];omega)
 exact this
theorem zBn (a:web) (hn:NetOk a.Net):s88 a=false↔zbt (We a):=by
 rw[(zBm a hn).2];exact zDM (zr3 hn)
end Go.Proofs
namespace Go.Proofs
open Go Go.Pm
set_option maxRecDepth 100000
set_option linter.unusedVariables false
theorem zt5 (a b:far):zEo a ⟨1,λ _=>b⟩=true/\zdV a ⟨1,λ _=>b⟩=cond (zCQ b a) b a:=by
 unfold zEo zdV znf zne
 have key:∀ k,zgD (⟨1,λ _=>b⟩:Sl far) (k+2) (0:Int) a.length a.uses=true/\zgC (⟨1,λ _=>b⟩:Sl far) (k+2) (0:Int) a.length a.uses=cond (zCQ b a) b a:=by
  intro k
  have hw:w64 ((0:Int)+(1:Int))=(1:Int):=by rw[zb9 (by omega) (by omega)];rfl
  have e1:∀ x y,zgC (⟨1,λ _=>b⟩:Sl far) (k+1) (1:Int) x y=(⟨x,y⟩:far):=λ x y=>by
   show zgA (⟨1,λ _=>b⟩:Sl far) (zgC (⟨1,λ _=>b⟩:Sl far) k) (1:Int) x y=_
   unfold zgA
   rw[dqF (show ¬ (1:Int) < ((1:Nat):Int) by omega),dqB]
  have e2:∀ x y,zgD (⟨1,λ _=>b⟩:Sl far) (k+1) (1:Int) x y=true:=λ x y=>by
   show zgB (⟨1,λ _=>b⟩:Sl far) (zgD (⟨1,λ _=>b⟩:Sl far) k) (1:Int) x y=_
   unfold zgB
   rw[dqF (show ¬ (1:Int) < ((1:Nat):Int) by omega),dqB]
  constructor
  ·show zgB (⟨1, fun _ => b⟩ : Sl far) (zgD (⟨1, fun _ => b⟩ : Sl far) (k + 1)) (0:Int) a.length a.uses = _
   unfold zgB znd
   rw[dqT (show (0:Int) < ((1:Nat):Int) by omega),dqA,dqT (show 0<=(0:Int)/\(0:Int) < ((1:Nat):Int) by omega),Bool.true_and,hw,e2,e2]
   cases zCQ b (⟨a.length,a.uses⟩:far) <;> rfl
  ·show zgA (⟨1, fun _ => b⟩ : Sl far) (zgC (⟨1, fun _ => b⟩ : Sl far) (k + 1)) (0:Int) a.length a.uses = _
   unfold zgA znc
   rw[dqT (show (0:Int) < ((1:Nat):Int) by omega),dqA,hw,e1,e1]
 have:=key (Fuel - 2)
 rw[show Fuel - 2+2=Fuel by simp only[Fuel]] at this
 exact this
theorem zJG (a b:far):zCQ a b=decide (a.length < b.length\/(a.length=b.length/\a.uses < b.uses)):=by
 unfold zCQ
 by_cases h1:a.length < b.length
 ·rw[dqT h1,dqA];exact (dqT (.inl h1)).symm
 ·rw [dqF h1, dqB]
  by_cases h2:a.length=b.length
  ·rw [show (a.length == b.length) = true from beq_iff_eq.2 h2, dqA]
   exact decide_eq_decide.2 ⟨λ h=>.inr ⟨h2,h⟩,λ h=>h.elim (λ h=>absurd h h1) (λ h=>h.2)⟩
  ·rw [show (a.length == b.length) = false from dqU.2 h2, dqB]
   exact (dqF (λ h=>h.elim h1 (λ h=>h2 h.1))).symm
def Rp (N:Nat) (T:Tab) (d:zbO):Prop:=∀ v,v < N->(T (v * 2),T (v * 2+1))=zNk (d v)
def nv (x y:Int):Bool:=match (x == (1000000000000:Int)) with | true=>(match (y == (0:Int)) with | true=>true | false=>false) | false=>false
def sm (x y u v:Int):Bool:=match (x == u) with | true=>(match (y == v) with | true=>true | false=>false) | false=>false
theorem zDN (x y:Int):nv x y=decide ((x,y)=((1000000000000:Int),(0:Int))):=by
 unfold nv
 by_cases h1:x=1000000000000
 ·rw [show (x == (1000000000000:Int)) = true from beq_iff_eq.2 h1]
  by_cases h2:y=0
  ·rw[show (y == (0:Int))=true from beq_iff_eq.2 h2];exact (dqT (by rw[h1,h2])).symm
  ·rw[show (y == (0:Int))=false from dqU.2 h2];exact (dqF (λ h=>h2 (Prod.mk.inj h).2)).symm
 ·rw [show (x == (1000000000000:Int)) = false from dqU.2 h1]
  exact (dqF (λ h=>h1 (Prod.mk.inj h).1)).symm
theorem same_eq (x y u v:Int):sm x y u v=decide ((x,y)=(u,v)):=by
 unfold sm
 by_cases h1:x=u
 ·rw [show (x == u) = true from beq_iff_eq.2 h1]
  by_cases h2:y=v
  ·rw[show (y == v)=true from beq_iff_eq.2 h2];exact (dqT (by rw[h1,h2])).symm
  ·rw[show (y == v)=false from dqU.2 h2];exact (dqF (λ h=>h2 (Prod.mk.inj h).2)).symm
 ·rw [show (x == u) = false from dqU.2 h1]
  exact (dqF (λ h=>h1 (Prod.mk.inj h).1)).symm
theorem zt6 {E : List Ed} {n s v : Nat} (hE : EdOk E n) (hs : s < n) {d : zbO} (hd : Inv (E.map edM) (fun v => v = s) d) {x : Int} (hx : d v = some x) :
  ∃ L U,zNk (d v)=(L,U)/\x=L * 1048576+U/\0<=U/\U < 40/\-40000000000<=L/\L<=40000000000:=by
 obtain⟨c,hc⟩:=zFh hE hs hd hx
 have h1:=zjQ hE hc.ch
 have h2:=hc.len
 have h3:=hE.n40
 refine⟨wt c,c.length,?_,hc.x,by omega,by omega,by omega,by omega⟩
 rw[hx,hc.x]
 exact zBe (by omega) (by omega)
end Go.Proofs
namespace Go.Proofs
open Go Go.Pm
set_option maxRecDepth 100000
set_option linter.unusedVariables false
theorem zMQ (a : web) {N s : Nat} (E : List Ed) (hE : EdOk E N) (hn : zbt E) (hs : s < N) (S2 : Bool → Tab → Tab → Tab) (P2 : Bool → Tab → Tab → Bool) (y : step) (hy : StOk y N) (hm : edS y ∈ E) (S3 : Bool → Tab → Tab → Tab) (P3 : Bool → Tab → Tab → Bool) (c : Bool) (T4 T : Tab) (d : zbO) (h1 : Rp N T d) (hi : Inv (E.map edM) (fun v => v = s) d) :
  ∃ T',znw S2 a y S3 c T4 T=S3 (rlF (d,c) (edM (edS y))).2 T4 T'/\znx P2 a y P3 c T4 T=P3 (rlF (d,c) (edM (edS y))).2 T4 T'/\Rp N T' (rlF (d,c) (edM (edS y))).1:=by
 have hN:=hE.n40
 have f0:=hy.f0;have f1:=hy.f1;have t0:=hy.t0;have t1:=hy.t1;have l0:=hy.l0;have l1:=hy.l1
 have hu:=h1 y.from_.toNat (by omega)
 have hv:=h1 y.to.toNat (by omega)
 have e1:0+y.from_.toNat * 2+0=y.from_.toNat * 2:=by omega
 have e2:0+y.to.toNat * 2+0=y.to.toNat * 2:=by omega
 have e3:0+y.from_.toNat * 2+1=y.from_.toNat * 2+1:=by omega
 have hin:=zn5 (Src:=λ v=>v=s) (zln hn) (s:=(d,c)) (e:=edM (edS y)) (List.mem_map_of_mem hm) hi
 have hS:znw S2 a y S3 c T4 T=cond (nv (tg 80 T (0+y.from_.toNat * 2+0)) (tg 80 T (0+y.from_.toNat * 2+0+1))) (S3 c T4 T) (cond c (S3 true T4 (ts 80 T (0+y.to.toNat * 2+0) [(zdV (⟨(tg 80 T (0+y.to.toNat * 2+0)),(tg 80 T (0+y.to.toNat * 2+0+1))⟩:far) (⟨1,λ _=>(⟨(w64 ((tg 80 T (0+y.from_.toNat * 2+0))+y.length)),(w64 ((tg 80 T (0+y.from_.toNat * 2+1))+(1:Int)))⟩:far)⟩:(Sl far))).length,(zdV (⟨(tg 80 T (0+y.to.toNat * 2+0)),(tg 80 T (0+y.to.toNat * 2+0+1))⟩:far) (⟨1,λ _=>(⟨(w64 ((tg 80 T (0+y.from_.toNat * 2+0))+y.length)),(w64 ((tg 80 T (0+y.from_.toNat * 2+1))+(1:Int)))⟩:far)⟩:(Sl far))).uses])) (S3 (!(sm (zdV (⟨(tg 80 T (0+y.to.toNat * 2+0)),(tg 80 T (0+y.to.toNat * 2+0+1))⟩:far) (⟨1,λ _=>(⟨(w64 ((tg 80 T (0+y.from_.toNat * 2+0))+y.length)),(w64 ((tg 80 T (0+y.from_.toNat * 2+1))+(1:Int)))⟩:far)⟩:(Sl far))).length (zdV (⟨(tg 80 T (0+y.to.toNat * 2+0)),(tg 80 T (0+y.to.toNat * 2+0+1))⟩:far) (⟨1,λ _=>(⟨(w64 ((tg 80 T (0+y.from_.toNat * 2+0))+y.length)),(w64 ((tg 80 T (0+y.from_.toNat * 2+1))+(1:Int)))⟩:far)⟩:(Sl far))).uses (tg 80 T (0+y.to.toNat * 2+0)) (tg 80 T (0+y.to.toNat * 2+0+1)))) T4 (ts 80 T (0+y.to.toNat * 2+0) [(zdV (⟨(tg 80 T (0+y.to.toNat * 2+0)),(tg 80 T (0+y.to.toNat * 2+0+1))⟩:far) (⟨1,λ _=>(⟨(w64 ((tg 80 T (0+y.from_.toNat * 2+0))+y.length)),(w64 ((tg 80 T (0+y.from_.toNat * 2+1))+(1:Int)))⟩:far)⟩:(Sl far))).length,(zdV (⟨(tg 80 T (0+y.to.toNat * 2+0)),(tg 80 T (0+y.to.toNat * 2+0+1))⟩:far) (⟨1,λ _=>(⟨(w64 ((tg 80 T (0+y.from_.toNat * 2+0))+y.length)),(w64 ((tg 80 T (0+y.from_.toNat * 2+1))+(1:Int)))⟩:far)⟩:(Sl far))).uses]))):=rfl
 have hP:znx P2 a y P3 c T4 T=(decide (0<=y.from_/\y.from_ < (40:Int)) && cond (nv (tg 80 T (0+y.from_.toNat * 2+0)) (tg 80 T (0+y.from_.toNat * 2+0+1))) (P3 c T4 T) (decide (0<=y.to/\y.to < (40:Int)) && (decide (0<=y.from_/\y.from_ < (40:Int)) && (decide (0<=y.from_/\y.from_ < (40:Int)) && (decide (zEo (⟨(tg 80 T (0+y.to.toNat * 2+0)),(tg 80 T (0+y.to.toNat * 2+0+1))⟩:far) (⟨1,λ _=>(⟨(w64 ((tg 80 T (0+y.from_.toNat * 2+0))+y.length)),(w64 ((tg 80 T (0+y.from_.toNat * 2+1))+(1:Int)))⟩:far)⟩:(Sl far))=true) && cond c (decide (0<=y.to/\y.to < (40:Int)) && P3 true T4 (ts 80 T (0+y.to.toNat * 2+0) [(zdV (⟨(tg 80 T (0+y.to.toNat * 2+0)),(tg 80 T (0+y.to.toNat * 2+0+1))⟩:far) (⟨1,λ _=>(⟨(w64 ((tg 80 T (0+y.from_.toNat * 2+0))+y.length)),(w64 ((tg 80 T (0+y.from_.toNat * 2+1))+(1:Int)))⟩:far)⟩:(Sl far))).length,(zdV (⟨(tg 80 T (0+y.to.toNat * 2+0)),(tg 80 T (0+y.to.toNat * 2+0+1))⟩:far) (⟨1,λ _=>(⟨(w64 ((tg 80 T (0+y.from_.toNat * 2+0))+y.length)),(w64 ((tg 80 T (0+y.from_.toNat * 2+1))+(1:Int)))⟩:far)⟩:(Sl far))).uses])) (decide (0<=y.to/\y.to < (40:Int)) && (decide (0<=y.to/\y.to < (40:Int)) && P3 (!(sm (zdV (⟨(tg 80 T (0+y.to.toNat * 2+0)),(tg 80 T (0+y.to.toNat * 2+0+1))⟩:far) (⟨1,λ _=>(⟨(w64 ((tg 80 T (0+y.from_.toNat * 2+0))+y.length)),(w64 ((tg 80 T (0+y.from_.toNat * 2+1))+(1:Int)))⟩:far)⟩:(Sl far))).length (zdV (⟨(tg 80 T (0+y.to.toNat * 2+0)),(tg 80 T (0+y.to.toNat * 2+0+1))⟩:far) (⟨1,λ _=>(⟨(w64 ((tg 80 T (0+y.from_.toNat * 2+0))+y.length)),(w64 ((tg 80 T (0+y.from_.toNat * 2+1))+(1:Int)))⟩:far)⟩:(Sl far))).uses (tg 80 T (0+y.to.toNat * 2+0)) (tg 80 T (0+y.to.toNat * 2+0+1)))) T4 (ts 80 T (0+y.to.toNat * 2+0) [(zdV (⟨(tg 80 T (0+y.to.toNat * 2+0)),(tg 80 T (0+y.to.toNat * 2+0+1))⟩:far) (⟨1,λ _=>(⟨(w64 ((tg 80 T (0+y.from_.toNat * 2+0))+y.length)),(w64 ((tg 80 T (0+y.from_.toNat * 2+1))+(1:Int)))⟩:far)⟩:(Sl far))).length,(zdV (⟨(tg 80 T (0+y.to.toNat * 2+0)),(tg 80 T (0+y.to.toNat * 2+0+1))⟩:far) (⟨1,λ _=>(⟨(w64 ((tg 80 T (0+y.from_.toNat * 2+0))+y.length)),(w64 ((tg 80 T (0+y.from_.toNat * 2+1))+(1:Int)))⟩:far)⟩:(Sl far))).uses])))))))):=rfl
 rw[hS,hP]
 clear hS hP
 rw[e1,e2,e3,zh3 (k:=y.from_.toNat * 2) (by omega),zh3 (k:=y.from_.toNat * 2+1) (by omega),zh3 (k:=y.to.toNat * 2) (by omega),zh3 (k:=y.to.toNat * 2+1) (by omega)]
 rw[dqT (show 0<=y.from_/\y.from_ < (40:Int) by omega),dqT (show 0<=y.to/\y.to < (40:Int) by omega)]
 simp only[zDN,same_eq]
 cases hdu:d y.from_.toNat with
 | none =>
  rw[hdu] at hu
  have hr:rlF (d,c) (edM (edS y))=(d,c):=by
   unfold rlF edM edS
   simp only[hdu]
  rw[hr,dqT (show (T (y.from_.toNat * 2),T (y.from_.toNat * 2+1))=((1000000000000:Int),(0:Int)) from hu)]
  exact⟨T,rfl,rfl,h1⟩
 | some x =>
  obtain⟨L,U,k1,k2,k3,k4,k5,k6⟩:=zt6 hE hs hi hdu
  rw[hdu] at hu k1
  rw[k1] at hu
  have hL:T (y.from_.toNat * 2)=L:=(Prod.mk.inj hu).1
  have hU:T (y.from_.toNat * 2+1)=U:=(Prod.mk.inj hu).2
  rw[hL,hU,dqF (show ¬ (L,U)=((1000000000000:Int),(0:Int)) from λ h=>by have:=(Prod.mk.inj h).1;omega),zb9 (x:=L+y.length) (by omega) (by omega),zb9 (x:=U+(1:Int)) (by omega) (by omega)]
  rw[(zt5 _ _).1,(zt5 _ _).2,zJG]
  have hw:x+(edM (edS y)).w=(L+y.length) * 1048576+(U+1):=by
   show x+(y.length * 1048576+1)=_
   omega
  have hr:rlF (d,c) (edM (edS y))=cond (ltO ((L+y.length) * 1048576+(U+1)) (d y.to.toNat)) (zjw d y.to.toNat ((L+y.length) * 1048576+(U+1)),true) (d,c):=by
   rw[<- hw]
   unfold rlF edM edS
   simp only[hdu] <;> rfl
  have hlt:decide ((L+y.length < T (y.to.toNat * 2))\/(L+y.length=T (y.to.toNat * 2)/\U+1 < T (y.to.toNat * 2+1)))=ltO ((L+y.length) * 1048576+(U+1)) (d y.to.toNat):=by
   cases hdv:d y.to.toNat with
   | none =>
    rw[hdv] at hv
    have hv1:T (y.to.toNat * 2)=1000000000000:=(Prod.mk.inj hv).1
    rw[hv1]
    exact dqT (.inl (by omega))
   | some z =>
    obtain⟨L',U',m1,m2,m3,m4,m5,m6⟩:=zt6 hE hs hi hdv
    rw[hdv] at hv m1
    rw[m1] at hv
    rw[(Prod.mk.inj hv).1,(Prod.mk.inj hv).2,m2]
    exact decide_eq_decide.2 (by omega)
  simp only[hlt]
  rw[hr] at hin ⊢
  have hrw:∀ T'',Rp N T d->T''=ts 80 T (y.to.toNat * 2) [T (y.to.toNat * 2),T (y.to.toNat * 2+1)]->Rp N T'' d:=λ T'' h e v hv'=>by
   rw[e,zjq (by omega),zjq (by omega),<- h v hv']
   by_cases hq:v=y.to.toNat
   ·subst hq
    rw[dqG (by omega),dqP rfl,dqP rfl]
   ·rw[dqG (by omega),dqG (by omega),dqG (by omega),dqG (by omega)]
  cases hlo:ltO ((L+y.length) * 1048576+(U+1)) (d y.to.toNat) with
  | false =>
   refine⟨ts 80 T (y.to.toNat * 2) [T (y.to.toNat * 2),T (y.to.toNat * 2+1)],?_,?_,hrw _ h1 rfl⟩
   ·simp only [dqB, decide_true]
    cases c <;> rfl
   ·simp only [dqB, Bool.true_and, decide_true]
    cases c <;> rfl
  | true =>
   rw[hlo] at hin
   simp only[dqA,dqB,Bool.true_and,decide_true] at hin ⊢
   refine⟨ts 80 T (y.to.toNat * 2) [L+y.length,U+1],?_,?_,?_⟩
   ·cases c
    ·rw [dqF]
     ·rfl
     ·intro h
      rw[<- hlt] at hlo
      have:=of_decide_eq_true hlo
      have h1':=(Prod.mk.inj h).1
      have h2':=(Prod.mk.inj h).2
      omega
    ·rfl
   ·cases c
    ·rw [dqF]
     ·rfl
     ·intro h
      rw[<- hlt] at hlo
      have:=of_decide_eq_true hlo
      have h1':=(Prod.mk.inj h).1
      have h2':=(Prod.mk.inj h).2
      omega
    ·rfl
   ·intro v hv'
    rw[zjq (by omega),zjq (by omega)]
    unfold zjw
    by_cases hq:v=y.to.toNat
    ·subst hq
     rw[dqG (by omega),dqP rfl,dqP rfl,dqP rfl]
     exact (zBe (by omega) (by omega)).symm
    ·rw [dqG (by omega), dqG (by omega), dqG (by omega), dqG (by omega), dqG hq]
     exact h1 v hv'
theorem zMR (a:web){N s:Nat}(E:List Ed) (hE:EdOk E N) (hn:zbt E) (hs:s < N) (S2:Bool->Tab->Tab->Tab) (P2:Bool->Tab->Tab->Bool):∀ (l:List step),(∀ y∈l,StOk y N/\edS y∈E)->∀ (c:Bool) (T4 T:Tab) (d:zbO),Rp N T d->Inv (E.map edM) (λ v=>v=s) d ->
  ∃ T',zny S2 a l c T4 T=S2 (((l.map edS).map edM).foldl rlF (d,c)).2 T4 T'/\znz P2 a l c T4 T=P2 (((l.map edS).map edM).foldl rlF (d,c)).2 T4 T'/\Rp N T' (((l.map edS).map edM).foldl rlF (d,c)).1:=by
 intro l
 induction l with
 | nil=>intro _ c T4 T d h1 _;exact⟨T,rfl,rfl,h1⟩
 | cons y l ih =>
  intro hl c T4 T d h1 h2
  obtain⟨hy,hm⟩:=hl y (dqj ..)
  obtain⟨T',k1,k2,k3⟩:=zMQ a E hE hn hs S2 P2 y hy hm (zny S2 a l) (znz P2 a l) c T4 T d h1 h2
  have h3:=zn5 (Src:=λ v=>v=s) (zln hn) (s:=(d,c)) (e:=edM (edS y)) (List.mem_map_of_mem hm) h2
  obtain⟨T'',m1,m2,m3⟩:=ih (λ z hz=>hl z (dqf _ hz)) (rlF (d,c) (edM (edS y))).2 T4 T' (rlF (d,c) (edM (edS y))).1 k3 h3
  exact⟨T'',Eq.trans k1 m1,Eq.trans k2 m2,m3⟩
theorem zDO (a:web) (hnet:NetOk a.Net) (E:List Ed) (hEe:E=(Ws a).map edS){s:Nat}(hE:EdOk E a.Net.Nodes.toNat) (hn:zbt E) (hs:s < a.Net.Nodes.toNat):∀ (m k:Nat) (T4 T:Tab) (d:zbO),Rp a.Net.Nodes.toNat T d->Inv (E.map edM) (λ v=>v=s) d->Fix (E.map edM) (rds (E.map edM) m d)->m+1 < k ->
  ∃ T',zf6 a k true T4 T=true/\zf5 a k true T4 T=T'/\Rp a.Net.Nodes.toNat T' (rds (E.map edM) m d):=by
 have hlen:=hnet.len
 obtain⟨q1,q2⟩:=zBi a (by omega)
 have hst:∀ y∈Ws a,StOk y a.Net.Nodes.toNat/\edS y∈E:=λ y hy=>⟨zJZ hnet hy,by rw[hEe];exact List.mem_map_of_mem hy⟩
 have one:∀ (k:Nat) (T4 T:Tab) (d:zbO),Rp a.Net.Nodes.toNat T d->Inv (E.map edM) (λ v=>v=s) d ->
   ∃ T',zf5 a (k+1) true T4 T=zf5 a k ((E.map edM).foldl rlF (d,false)).2 T4 T'/\zf6 a (k+1) true T4 T=zf6 a k ((E.map edM).foldl rlF (d,false)).2 T4 T'/\Rp a.Net.Nodes.toNat T' (rnd (E.map edM) d):=by
  intro k T4 T d h1 h2
  obtain⟨T',k1,k2,k3⟩:=zMR a E hE hn hs (zf5 a k) (zf6 a k) (Ws a) hst false T4 T d h1 h2
  rw[<- hEe] at k1 k2 k3
  refine⟨T',?_,?_,k3⟩
  ·show znA a (zf5 a k) true T4 T = _
   unfold znA zqR
   rw[dqA,q2];exact k1
  ·show znB a (zf6 a k) true T4 T = _
   unfold znB zqS
   rw[dqA,q1,q2,dqT rfl,Bool.true_and];exact k2
 have stop:∀ (k:Nat) (T4 T:Tab),zf5 a (k+1) false T4 T=T/\zf6 a (k+1) false T4 T=true:=λ k T4 T=>⟨rfl,rfl⟩
 intro m
 induction m with
 | zero =>
  intro k T4 T d h1 h2 h3 hk
  obtain⟨k,rfl⟩:∃ k',k=k'+1+1:=⟨k - 2,by omega⟩
  obtain⟨T',k1,k2,k3⟩:=one (k+1) T4 T d h1 h2
  have h3':Fix (E.map edM) d:=h3
  rw[zjO h3'] at k1 k2
  rw[zlk h3'] at k3
  obtain⟨j1,j2⟩:=stop k T4 T'
  exact⟨T',k2.trans j2,k1.trans j1,k3⟩
 | succ m ih =>
  intro k T4 T d h1 h2 h3 hk
  obtain⟨k,rfl⟩:∃ k',k=k'+1+1:=⟨k - 2,by omega⟩
  obtain⟨T',k1,k2,k3⟩:=one (k+1) T4 T d h1 h2
  cases hf:((E.map edM).foldl rlF (d,false)).2 with
  | false =>
   rw[hf] at k1 k2
   have hx:Fix (E.map edM) d:=zi4 hf
   obtain⟨j1,j2⟩:=stop k T4 T'
   refine⟨T',k2.trans j2,k1.trans j1,?_⟩
   rw[zlk hx] at k3
   rw[zBb hx];exact k3
  | true =>
   rw[hf] at k1 k2
   obtain⟨T'',m1,m2,m3⟩:=ih (k+1) T4 T' (rnd (E.map edM) d) k3 (zn6 (zln hn) (λ _ h=>h) (s:=(d,false)) h2) h3 (by omega)
   exact⟨T'',k2.trans m1,k1.trans m2,m3⟩
theorem zJH (a:web) (node:Int):∀ (m k i:Nat) (T4 T:Tab),(∀ v,v < i->T (v * 2)=1000000000000/\T (v * 2+1)=0)->i+m=40->m < k ->
  ∃ T',ziy a node k (i:Int) T4 T=znC a node T4 T'/\ziz a node k (i:Int) T4 T=znD a node T4 T'/\∀ v,v < 40->T' (v * 2)=1000000000000/\T' (v * 2+1)=0:=by
 intro m
 induction m with
 | zero =>
  intro k i T4 T h hi hk
  obtain⟨k,rfl⟩:∃ k',k=k'+1:=⟨k - 1,by omega⟩
  refine⟨T,?_,?_,λ v hv=>h v (by omega)⟩
  ·show ziw a node (ziy a node k) (i : Int) T4 T = _
   unfold ziw
   rw[dqF (show ¬ (i:Int) < (40:Int) by omega),dqB]
  ·show zix a node (ziz a node k) (i : Int) T4 T = _
   unfold zix
   rw[dqF (show ¬ (i:Int) < (40:Int) by omega),dqB]
 | succ m ih =>
  intro k i T4 T h hi hk
  obtain⟨k,rfl⟩:∃ k',k=k'+1:=⟨k - 1,by omega⟩
  have hw:w64 ((i:Int)+(1:Int))=((i+1:Nat):Int):=by rw[zb9 (by omega) (by omega)];omega
  obtain⟨T',k1,k2,k3⟩:=ih k (i+1) T4 (ts 80 T (i * 2) [(1000000000000:Int),(0:Int)]) (λ v hv=>by
   rw[zjq (by omega),zjq (by omega)]
   by_cases hq:v=i
   ·subst hq
    rw[dqG (by omega),dqP rfl,dqP rfl];exact⟨rfl,rfl⟩
   ·rw[dqG (by omega),dqG (by omega),dqG (by omega),dqG (by omega)];exact h v (by omega)) (by omega) (by omega)
  refine⟨T',?_,?_,k3⟩
  ·rw [← k1]
   show ziw a node (ziy a node k) (i:Int) T4 T=_
   unfold ziw
   rw[dqT (show (i:Int) < (40:Int) by omega),dqA,hw,dqN,show 0+i * 2+0=i * 2 by omega]
  ·rw [← k2]
   show zix a node (ziz a node k) (i:Int) T4 T=_
   unfold zix
   rw[dqT (show (i:Int) < (40:Int) by omega),dqA,dqT (show 0<=(i:Int)/\(i:Int) < (40:Int) by omega),Bool.true_and,hw,dqN,show 0+i * 2+0=i * 2 by omega]
theorem zBo (a : web) (hnet : NetOk a.Net) (hn : zbt (We a)) (node : Int) (h0 : 0 ≤ node) (h1 : node < a.Net.Nodes) :
  p76 a node=true/\Rp a.Net.Nodes.toNat (s76 a node) (dst (We a) a.Net.Nodes.toNat node.toNat):=by
 have hn40:=hnet.n40
 have hEe:We a=(Ws a).map edS:=rfl
 have hE:EdOk (We a) a.Net.Nodes.toNat:=zr3 hnet
 have hN:zbt (We a):=hn
 have hs:node.toNat < a.Net.Nodes.toNat:=by omega
 obtain⟨T1,a1,a2,a3⟩:=zJH a node 40 Fuel 0 (λ _=>(0:Int)) (λ _=>(0:Int)) (λ v hv=>absurd hv (dqW _)) rfl (by simp only[Fuel];omega)
 have hr:Rp a.Net.Nodes.toNat (ts 80 T1 (node.toNat * 2) [(0:Int),(0:Int)]) (zt4 node.toNat):=λ v hv=>by
  rw[zjq (by omega),zjq (by omega)]
  unfold zt4
  by_cases hq:v=node.toNat
  ·subst hq
   rw[dqG (by omega),dqP rfl,dqP rfl,dqP rfl];rfl
  ·rw[dqG (by omega),dqG (by omega),dqG (by omega),dqG (by omega),dqG hq,(a3 v (by omega)).1,(a3 v (by omega)).2];rfl
 obtain⟨T2,b1,b2,b3⟩:=zDO a hnet (We a) hEe hE hN hs (a.Net.Nodes.toNat - 1) Fuel (λ _=>(0:Int)) (ts 80 T1 (node.toNat * 2) [(0:Int),(0:Int)]) (zt4 node.toNat) hr (ze0 (zd2 node.toNat)) (zBf hE hN hs) (by simp only[Fuel];omega)
 have e:0+node.toNat * 2+0=node.toNat * 2:=by omega
 constructor
 ·show ziz a node Fuel 0 (fun _ => (0:Int)) (fun _ => (0:Int)) = true
  refine Eq.trans a2 ?_
  unfold znD zqU
  rw[dqT (show 0<=node/\node < (40:Int) by omega),Bool.true_and,e];exact b1
 ·have:s76 a node=T2:=by
   show ziy a node Fuel 0 (λ _=>(0:Int)) (λ _=>(0:Int))=T2
   refine Eq.trans a1 ?_
   unfold znC zqT
   rw[e];exact b2
  rw[this];exact b3
end Go.Proofs
namespace Go.Proofs
open Go Go.Pm
set_option maxRecDepth 100000
set_option linter.unusedVariables false
end Go.Proofs
namespace Go.Proofs
open Go Go.Pm
set_option maxRecDepth 100000
set_option linter.unusedVariables false
attribute [local irreducible] Go.Pm.vcFun Go.Pm.vc Go.Pm.vcIter
end Go.Proofs
namespace Go.Proofs
open Go Go.Pm
set_option maxRecDepth 100000
set_option linter.unusedVariables false
def W (n:Net):web:=⟨n,⟨0,λ _=>none⟩⟩
abbrev En (n:Net):List Ed:=We (W n)
def fr (n:Net) (i j:Nat):Int:=zpy (dst (En n) n.Nodes.toNat i j)
theorem zDP {n:Net}(hn:NetOk n) (hN:zbt (En n)) {i j:Nat}(hi:i < n.Nodes.toNat) : -1000000000000<=fr n i j/\fr n i j<=1000000000000:=by
 have hE:EdOk (En n) n.Nodes.toNat:=zr3 (a:=W n) hn
 unfold fr
 rcases zdn (v:=j) hE hN hi with ⟨_,h⟩ | ⟨c,_,_,h2,_,h3,h4⟩
 ·rw[h];omega
 ·rw[h2];omega
theorem zob (n:Net) (nodes:Sl Int) (hl:nodes.len<=1000) (ht:n.Ties.len<=210):p74 n nodes=true /\
    (s67 n=false->s74 n nodes=(default,2)) /\
    (NetOk n->(¬ ∀ i,i < nodes.len->0<=nodes.get i/\nodes.get i < n.Nodes)->s74 n nodes=(default,2)) /\
    (NetOk n->(∀ i,i < nodes.len->0<=nodes.get i/\nodes.get i < n.Nodes)->¬ zbt (En n)->s74 n nodes=(default,5)) /\
    (NetOk n->(∀ i,i < nodes.len->0<=nodes.get i/\nodes.get i < n.Nodes)->zbt (En n)->s74 n nodes=(W n,0)):=by
  obtain⟨a1,a2⟩:=zrZ n (by omega)
  unfold p74 s74
  rw[a1,dqT (show true=true from rfl),Bool.true_and]
  by_cases hs:s67 n=true
  · have hn := a2.1 hs
    have hn1:=hn.n1;have hn40:=hn.n40
    obtain⟨t1,_⟩:=zBm (W n) hn
    rw[hs]
    have hg:∀ i,i < nodes.len->(s81 (nodes.get i) (0:Int) (w64 (n.Nodes - (1:Int)))=true↔0<=nodes.get i/\nodes.get i < n.Nodes):=λ i _=>by
      rw[zpv,decide_eq_true_eq,zb9 (by omega) (by omega)];omega
    have hloop := zli (good := fun i => s81 (nodes.get i) (0:Int) (w64 (n.Nodes - (1:Int)))) (bad := ((default : web), (2:Int))) (fin := znn n (s88 (W n))) (finP := true) (n := nodes.len) (lpS := zhg n nodes) (lpP := zhh n nodes)
      (λ k i hi=>by
        show zhe n nodes (zhg n nodes k) (i:Int)=_
        generalize zhg n nodes k=S
        unfold zhe zno
        rw[dqT (show (i:Int) < (nodes.len:Int) by omega),dqA,dqN]
        cases s81 (nodes.get i) (0:Int) (w64 (n.Nodes - (1:Int))) <;> rfl)
      (λ k=>by
        show zhe n nodes (zhg n nodes k) (nodes.len:Int)=_
        unfold zhe
        rw[dqF (show ¬ (nodes.len:Int) < (nodes.len:Int) by omega),dqB];rfl)
      (λ k i hi=>by
        show zhf n nodes (zhh n nodes k) (i:Int)=_
        generalize zhh n nodes k=S
        unfold zhf znp
        rw[dqT (show (i:Int) < (nodes.len:Int) by omega),dqA,dqN,dqT (show 0<=(i:Int)/\(i:Int) < (nodes.len:Int) by omega),Bool.true_and]
        cases s81 (nodes.get i) (0:Int) (w64 (n.Nodes - (1:Int))) <;> rfl)
      (λ k=>by
        show zhf n nodes (zhh n nodes k) (nodes.len:Int)=_
        unfold zhf
        rw[dqF (show ¬ (nodes.len:Int) < (nodes.len:Int) by omega),dqB,show p88 (⟨n,(⟨0,(λ _=>none)⟩:Mp)⟩:web)=true from t1];rfl)
      (by omega)
    unfold znv znu znt zns znr znq
    by_cases hr:∀ i,i < nodes.len->0<=nodes.get i/\nodes.get i < n.Nodes
    · obtain ⟨l1, l2⟩ := hloop.1 (fun i hi => (hg i hi).2 (hr i hi))
      rw[l1,l2]
      refine⟨rfl,λ h=>(by cases h),λ _ h=>absurd hr h,λ _ _ h=>?_,λ _ _ h=>?_⟩
      · have:s88 (W n)=true:=by
          cases ht:s88 (W n)
          · exact absurd ((zBn (W n) hn).1 ht) h
          · rfl
        rw[this];rfl
      · rw[(zBn (W n) hn).2 h];rfl
    · obtain ⟨l1, l2⟩ := hloop.2 (fun h => hr fun i hi => (hg i hi).1 (h i hi))
      rw[l1,l2]
      exact⟨rfl,λ h=>(by cases h),λ _ _=>rfl,λ _ h=>absurd h hr,λ _ h=>absurd h hr⟩
  · rw [Bool.eq_false_iff.2 hs]
    have hno:NetOk n->False:=λ h=>hs (a2.2 h)
    exact⟨rfl,λ _=>rfl,λ h=>(hno h).elim,λ h=>(hno h).elim,λ h=>(hno h).elim⟩
theorem zBp {n:Net}(hn:NetOk n) (hN:zbt (En n)) {i:Int}(h0:0<=i) (h1:i < n.Nodes){j:Nat}(hj:j < n.Nodes.toNat):p76 (W n) i=true/\s76 (W n) i (j * 2)=fr n i.toNat j:=by
 obtain⟨a,b⟩:=zBo (W n) hn hN i h0 h1
 exact⟨a,(Prod.mk.inj (b j hj)).1⟩
theorem zlp {α:Type}(i:Nat) (v:α) (g:Nat->α) (j:Nat):setT i v g j=if j=i then v else g j:=by
 show (match Nat.beq j i with | true=>v | false=>g j)=_
 by_cases h:j=i
 ·rw[dqP h,show Nat.beq j i=true from by rw[h];exact Nat.beq_refl _]
 ·rw[dqG h,show Nat.beq j i=false from Bool.eq_false_iff.2 λ e=>h (dqc e)]
end Go.Proofs
namespace Go.Pm
theorem zJI {E F:List Ed}(h:∀ e∈E,∃ c,zfC F e.u c e.v/\wt c<=e.w){c:List Ed} : ∀ {a b:Nat},zfC E a c b->∃ d,zfC F a d b/\wt d<=wt c:=by
 induction c with
 | nil=>intro a b hc;cases hc;exact⟨[],rfl,Int.le_refl _⟩
 | cons e l ih =>
  rintro a b ⟨h1,h2,h3⟩
  subst h2
  obtain⟨d1,k1,k2⟩:=h e h1
  obtain⟨d2,m1,m2⟩:=ih h3
  refine⟨d1 ++ d2,zdu.2 ⟨_,k1,m1⟩,?_⟩
  rw[zh1]
  show _<=e.w+wt l
  omega
theorem zBq {E F:List Ed}{n s v:Nat}(hE:EdOk E n) (hF:EdOk F n) (hnE:zbt E) (hnF:zbt F) (hs:s < n) (h:∀ e∈E,∃ c,zfC F e.u c e.v/\wt c<=e.w):zpy (dst F n s v)<=zpy (dst E n s v):=by
 rcases zdn (v:=v) hE hnE hs with ⟨_,h2⟩ | ⟨c,_,h1,h2,_⟩
 ·rw [h2]
  rcases zdn (v:=v) hF hnF hs with ⟨_,h2⟩ | ⟨c,_,_,h2,_,_,_⟩ <;> omega
 ·obtain ⟨d, k1, k2⟩ := zJI h h1
  rw[h2];exact Int.le_trans (zi5 hF hnF hs k1) k2
end Go.Pm
namespace Go.Proofs
open Go Go.Pm
set_option maxRecDepth 100000
set_option linter.unusedVariables false
def fa (a:web) (i j:Nat):Int:=zpy (dst (We a) a.Net.Nodes.toNat i j)
def Fo (f:Nat->Nat->Int) (t:Tie):Prop:=(t.Low = -1000000000000\/f t.To.toNat t.From.toNat<=-t.Low)/\(t.High=1000000000000\/f t.From.toNat t.To.toNat<=t.High)
theorem Fo.mono {f f':Nat->Nat->Int}{t:Tie}{N:Nat}(hf:t.From.toNat < N) (ht:t.To.toNat < N) (h:∀ i j,i < N->f i j<=f' i j) (h':Fo f' t):Fo f t :=
 ⟨h'.1.imp id λ k=>Int.le_trans (h _ _ ht) k,h'.2.imp id λ k=>Int.le_trans (h _ _ hf) k⟩
def wg (n:Net) (g:Nat->Bool):web:=⟨n,⟨0,λ l=>cond (g (l.getD 0 0).toNat) (some [1]) none⟩⟩
theorem ze2 (n:Net) (g:Nat->Bool) (j:Nat):zpA (wg n g) j=g j:=by
 show ((zlw (cond (g (((j:Int) :: []).getD 0 0).toNat) (some [1]) none) 0) != 0)=g j
 rw[show (((j:Int) :: []).getD 0 0).toNat=j from rfl]
 cases g j <;> rfl
theorem zlq {a b:web}(ha:NetOk a.Net) (hab:b.Net=a.Net) (h:∀ j,j < a.Net.Ties.len->zpA b j=true->zpA a j=true):∀ e∈We a,e∈We b:=λ e he=>by
 obtain⟨j,h1,h2,h3⟩:=(zfD ha).1 he
 refine (zfD (a:=b) (by rw[hab];exact ha)).2 ⟨j,by rw[hab];exact h1,?_,by rw[hab];exact h3⟩
 cases hb:zpA b j
 ·rfl
 ·rw[h j h1 hb] at h2;cases h2
theorem zr5 {a b:web}(ha:NetOk a.Net) (hab:b.Net=a.Net) (hN:zbt (We b)) (h:∀ j,j < a.Net.Ties.len->zpA b j=true->zpA a j=true){i:Nat}(hi:i < a.Net.Nodes.toNat) (j:Nat):fa b i j<=fa a i j:=by
 unfold fa
 rw[hab]
 have hb:EdOk (We b) a.Net.Nodes.toNat:=by have:=zr3 (a:=b) (by rw[hab];exact ha);rw[hab] at this;exact this
 exact zlo (zr3 ha) hb hN hi (zlq ha hab h)
theorem zBr {a b:web}(ha:NetOk a.Net) (hab:b.Net=a.Net) (hN:zbt (We b)) (h:∀ j,j < a.Net.Ties.len->zpA b j=zpA a j){i:Nat}(hi:i < a.Net.Nodes.toNat) (j:Nat):fa b i j=fa a i j :=
  Int.le_antisymm (zr5 ha hab hN (fun j hj e => by rw [← h j hj]; exact e) hi j)
    (zr5 (by rw[hab];exact ha) hab.symm (ze1 (zlq ha hab λ j hj e=>by rw[<- h j hj];exact e) hN) (λ j hj e=>by rw[h j (by rw[<- hab];exact hj)];exact e) (by rw[hab];exact hi) j)
def setB (g:Nat->Bool) (k:Nat):Nat->Bool:=λ j=>j == k || g j
theorem zBs (g:Nat->Bool) (k:Nat):setB g k k=true:=by simp[setB]
theorem zr6 {g:Nat->Bool}{k j:Nat}(h:g j=true):setB g k j=true:=by simp[setB,h]
noncomputable def stG (n:Net) (g:Nat->Bool) (k:Nat):Nat->Bool:=open Classical in if Fo (fa (wg n (setB g k))) (n.Ties.get k) then setB g k else g
noncomputable def grG (n : Net) : Nat → (Nat → Bool) → Nat → Bool
  | 0,g=>g
  | k+1,g=>grG n k (stG n g k)
section
variable {n:Net}(hn:NetOk n) (hN:zbt (En n))
include hn in
theorem zMS (g:Nat->Bool):∀ e∈We (wg n g),e∈En n:=zlq (a:=wg n g) (b:=W n) hn rfl λ j _ h=>by
 have:zpA (W n) j=false:=rfl
 rw[this] at h;cases h
include hn hN in
theorem zfu (g:Nat->Bool):zbt (We (wg n g)):=ze1 (zMS hn g) hN
include hn hN in
theorem zBt {g g':Nat->Bool}(h:∀ j,g j=true->g' j=true){i:Nat}(hi:i < n.Nodes.toNat) (j:Nat):fa (wg n g) i j<=fa (wg n g') i j :=
 zr5 (a:=wg n g') (b:=wg n g) hn rfl (zfu hn hN g) (λ j _ e=>by rw[ze2] at e ⊢;exact h j e) hi j
include hn hN in
theorem zBu {g:Nat->Bool}{k:Nat}(hk:k < n.Ties.len) (h:Fo (fa (wg n (setB g k))) (n.Ties.get k)) {i:Nat}(hi:i < n.Nodes.toNat) (j:Nat):fa (wg n (setB g k)) i j=fa (wg n g) i j:=by
 refine Int.le_antisymm ?_ (zBt hn hN (λ j e=>zr6 e) hi j)
 have hE:EdOk (We (wg n g)) n.Nodes.toNat:=zr3 (a:=wg n g) hn
 have hF:EdOk (We (wg n (setB g k))) n.Nodes.toNat:=zr3 (a:=wg n (setB g k)) hn
 have hnF:=zfu hn hN (setB g k)
 have ht:=hn.tie k hk
 have f0:=ht.f0;have f1:=ht.f1;have t0:=ht.t0;have t1:=ht.t1;have lo:=ht.lo;have hi':=ht.hi
 refine zBq hE hF (zfu hn hN g) hnF hi λ e he=>?_
 obtain⟨q,h1,h2,h3⟩:=(zfD (a:=wg n g) hn).1 he
 by_cases hq:q=k
 ·subst hq
  have far:∀ {u v:Nat} {w:Int},u < n.Nodes.toNat->w<=1000000000->fa (wg n (setB g q)) u v<=w->∃ c,zfC (We (wg n (setB g q))) u c v/\wt c<=w:=fun {u v w} hu hw hle=>by
   rcases zdn (v:=v) hF hnF hu with ⟨_,e2⟩ | ⟨c,_,c1,c2,_⟩
   ·have : (1000000000000 : Int) ≤ w := by rw [← e2]; exact hle
    omega
   ·exact⟨c,c1,by rw[<- c2];exact hle⟩
  rcases h3 with ⟨h6,rfl⟩ | ⟨h6,rfl⟩
  ·exact far (show (n.Ties.get q).From.toNat < _ by omega) (hi'.resolve_left h6).2 (h.2.resolve_left h6)
  ·exact far (show (n.Ties.get q).To.toNat < _ by omega) (by have:=(lo.resolve_left h6).1;show -(n.Ties.get q).Low<=_;omega) (h.1.resolve_left h6)
 ·refine ⟨[e], zcW ((zfD (a := wg n (setB g k)) hn).2 ⟨q, h1, ?_, h3⟩), by rw [zgX]; exact Int.le_refl _⟩
  rw[ze2] at h2 ⊢
  simp[setB,h2,hq]
theorem zBv : ∀ (k : Nat) (g : Nat → Bool) (j : Nat), g j = true → grG n k g j = true
  | 0,g,j,h=>h
  | k+1,g,j,h=>zBv k _ j (by unfold stG;split;exact zr6 h;exact h)
theorem zFj : ∀ (k : Nat) (g : Nat → Bool) (j : Nat), k ≤ j → grG n k g j = g j
  | 0,g,j,h=>rfl
  | k+1,g,j,h=>(zFj k _ j (by omega)).trans (by
    unfold stG;split
    · simp[setB,show ¬ j=k by omega]
    · rfl)
include hn hN in
theorem zBw : ∀ (k : Nat) (g : Nat → Bool), k ≤ n.Ties.len → ∀ {i : Nat}, i < n.Nodes.toNat → ∀ j, fa (wg n (grG n k g)) i j = fa (wg n g) i j
  | 0,g,hk,i,hi,j=>rfl
  | k+1,g,hk,i,hi,j=>(zBw k _ (by omega) hi j).trans (by
    unfold stG;split
    · rename_i h;exact zBu hn hN (by omega) h hi j
    · rfl)
include hn hN in
theorem zFk : ∀ (k : Nat) (g : Nat → Bool), k ≤ n.Ties.len → ∀ j, j < k → grG n k g j = false → ¬ Fo (fa (wg n (setB (grG n k g) j))) (n.Ties.get j)
  | 0,g,hk,j,hj,h=>absurd hj (dqW _)
  | k+1,g,hk,j,hj,h=>by
    by_cases hjk:j=k
    · subst hjk
      intro hF
      have ht:=hn.tie j (by omega)
      have f0:=ht.f0;have f1:=ht.f1;have t0:=ht.t0;have t1:=ht.t1
      have h2:Fo (fa (wg n (setB g j))) (n.Ties.get j):=hF.mono (N:=n.Nodes.toNat) (by omega) (by omega) λ i i' hi=>zBt hn hN (λ q e=>by
        simp only[setB,Bool.or_eq_true,beq_iff_eq] at e ⊢
        refine e.imp id λ e=>?_
        exact zBv j _ q (by unfold stG;split;exact zr6 e;exact e)) hi i'
      have h3:grG n (j+1) g j=true:=by
        show grG n j (stG n g j) j=true
        rw[zFj j _ j (dqt _)]
        unfold stG;rw[dqP h2];exact zBs g j
      rw[h3] at h;cases h
    · exact zFk k _ (by omega) j (by omega) h
include hn hN in
theorem zMT (k:Nat){j:Nat}(hk:k<=n.Ties.len) (hj:j < n.Ties.len):Fo (fa (wg n (grG n k (λ _=>false)))) (n.Ties.get j):=by
 have ht:=hn.tie j hj
 have f0:=ht.f0;have f1:=ht.f1;have t0:=ht.t0;have t1:=ht.t1
 refine Fo.mono (f':=fa (wg n λ _=>false)) (N:=n.Nodes.toNat) (by omega) (by omega) (λ i i' hi=>Int.le_of_eq (zBw hn hN k _ hk hi i')) ?_
 have hm:∀ e∈En n,e∈We (wg n λ _=>false):=zlq (a:=W n) (b:=wg n λ _=>false) hn rfl λ q _ h=>by rw[ze2] at h;cases h
 have hE:EdOk (We (wg n λ _=>false)) n.Nodes.toNat:=zr3 (a:=wg n λ _=>false) hn
 have hq:=zfu hn hN λ _=>false
 constructor
 ·by_cases h : (n.Ties.get j).Low = -1000000000000
  ·exact .inl h
  ·refine .inr ?_
   have:=zi5 hE hq (show (n.Ties.get j).To.toNat < _ by omega) (zcW (hm _ ((zfD (a:=W n) hn).2 ⟨j,hj,rfl,.inr ⟨h,rfl⟩⟩)))
   rw[zgX] at this;exact this
 ·by_cases h : (n.Ties.get j).High = 1000000000000
  ·exact .inl h
  ·refine .inr ?_
   have:=zi5 hE hq (show (n.Ties.get j).From.toNat < _ by omega) (zcW (hm _ ((zfD (a:=W n) hn).2 ⟨j,hj,rfl,.inl ⟨h,rfl⟩⟩)))
   rw[zgX] at this;exact this
end
end Go.Proofs
namespace Go.Proofs
open Go Go.Pm
set_option maxRecDepth 100000
set_option linter.unusedVariables false
def IsP {α:Type}(v:Sl α) (L:List α):Prop:=v.len=L.length/\∀ k (h:k < L.length),v.get k=L[k]
theorem zMU {α:Type}(n:Nat) (g:Nat->α) (x:α) (j:Nat):zdU n g (λ _=>x) j=if n<=j then x else g j:=by
 show (match Nat.ble n j with | true=>x | false=>g j)=_
 by_cases h:n<=j
 ·rw[dqP h,show Nat.ble n j=true from Nat.ble_eq_true_of_le h]
 ·rw[dqG h,show Nat.ble n j=false from Bool.eq_false_iff.2 λ e=>h (Nat.le_of_ble_eq_true e)]
theorem zBx {α:Type}{v:Sl α}{L:List α}(h:IsP v L) (y:α):IsP ⟨v.len+1,zdU v.len v.get (λ _=>y)⟩ (L ++ [y]):=by
 obtain⟨h1,h2⟩:=h
 refine⟨by show v.len+1=_;simp[h1],λ k hk=>?_⟩
 show zdU v.len v.get (λ _=>y) k=_
 rw[zMU,List.getElem_append]
 simp at hk
 by_cases hq:k < L.length
 ·rw[dqG (by omega),dif_pos hq,h2 k hq]
 ·rw[dqP (by omega),dif_neg hq];simp
def stP {α:Type}(f:Nat->α) (b:Nat->Bool) (i:Nat) (v:Sl α):Sl α:=cond (b i) ⟨v.len+1,zdU v.len v.get (λ _=>f i)⟩ v
theorem zBy {α : Type} (f : Nat → α) (b : Nat → Bool) : ∀ (m i : Nat) (v : Sl α) (L : List α), IsP v L → IsP (zrX (stP f b) m i v) (L ++ ((List.range' i m).filter b).map f)
  | 0,i,v,L,h=>by
    show IsP v _
    simpa using h
  | m+1,i,v,L,h=>by
    rw[List.range'_succ]
    show IsP (zrX (stP f b) m (i+1) (stP f b i v)) _
    cases hb:b i
    · rw [List.filter_cons_of_neg (by simp [hb]), show stP f b i v = v by unfold stP; rw [hb]; rfl]
      exact zBy f b m (i+1) v L h
    · rw [List.filter_cons_of_pos hb, show stP f b i v = ⟨v.len + 1, zdU v.len v.get (fun _ => f i)⟩ by unfold stP; rw [hb]; rfl]
      have:=zBy f b m (i+1) _ _ (zBx h (f i))
      simpa using this
theorem zJJ {α:Type}(f:Nat->α) (b:Nat->Bool){i:Nat}{v:Sl α}(h:v.len<=i):(stP f b i v).len<=i+1:=by
 unfold stP;cases b i
 ·exact Nat.le_succ_of_le h
 ·exact Nat.succ_le_succ h
theorem zh4 {α β : Type} [Inhabited α] (f : Nat → α) (b : Nat → Bool) {n : Nat} {E : Sl α → β} {EP : Sl α → Bool} {lpS : Nat → Sl α → Int → β} {lpP : Nat → Sl α → Int → Bool}
    (hS:∀ (k i:Nat) (v:Sl α),i < n->v.len<=i->lpS (k+1) v (i:Int)=lpS k (stP f b i v) (w64 ((i:Int)+(1:Int))))
    (hE:∀ k v,lpS (k+1) v (n:Int)=E v)
    (hP:∀ (k i:Nat) (v:Sl α),i < n->v.len<=i->lpP (k+1) v (i:Int)=lpP k (stP f b i v) (w64 ((i:Int)+(1:Int))))
    (hPE:∀ k v,lpP (k+1) v (n:Int)=EP v) (hn:n<=1000000) :
    ∃ v,IsP v (((List.range n).filter b).map f)/\lpP Fuel ⟨0,λ _=>default⟩ (0:Int)=EP v/\lpS Fuel ⟨0,λ _=>default⟩ (0:Int)=E v:=by
  have h := zA5 (step := stP f b) (E := E) (EP := EP) (Inv := fun i v => v.len ≤ i) (a := 0) (n := n) (lpS := lpS) (lpP := lpP)
    (λ k i v _ hi hv=>hS k i v hi hv) hE (λ k i v _ hi hv=>hP k i v hi hv) hPE (λ i v _ _ hv=>zJJ f b hv) (Nat.zero_le _) (by omega) ⟨0,λ _=>default⟩ (dqt 0)
  refine⟨_,?_,h.1,h.2⟩
  have:=zBy f b n 0 ⟨0,λ _=>default⟩ [] ⟨rfl,λ k hk=>absurd hk (dqW _)⟩
  rw[List.range_eq_range']
  simpa using this
theorem zlr {l:Sl Int}{L:List Int}(h:IsP l L) (hl:L.length<=1000000) (x:Int):p60 l x=true/\s60 l x=decide (x∈L):=by
  have hl':l.len<=1000000:=by rw[h.1];exact hl
  have key := zli (good := fun i => !(l.get i == x)) (bad := true) (fin := false) (finP := true) (n := l.len) (lpS := ziG l x) (lpP := ziH l x)
    (λ k i hi=>by
      show ziE l x (ziG l x k) (i:Int)=_
      generalize ziG l x k=S
      unfold ziE
      rw[dqT (show (i:Int) < (l.len:Int) by omega),dqA,dqN]
      cases (l.get i == x) <;> rfl)
    (λ k=>by
      show ziE l x (ziG l x k) (l.len:Int)=_
      unfold ziE
      rw[dqF (show ¬ (l.len:Int) < (l.len:Int) by omega),dqB])
    (λ k i hi=>by
      show ziF l x (ziH l x k) (i:Int)=_
      generalize ziH l x k=S
      unfold ziF
      rw[dqT (show (i:Int) < (l.len:Int) by omega),dqA,dqN,dqT (show 0<=(i:Int)/\(i:Int) < (l.len:Int) by omega),Bool.true_and]
      cases (l.get i == x) <;> rfl)
    (λ k=>by
      show ziF l x (ziH l x k) (l.len:Int)=_
      unfold ziF
      rw[dqF (show ¬ (l.len:Int) < (l.len:Int) by omega),dqB])
    (by omega)
  by_cases hx:x∈L
  · obtain ⟨k, hk, e⟩ := List.getElem_of_mem hx
    have hno : ¬ ∀ i,i < l.len->(!(l.get i == x))=true:=λ hq=>by
      have:=hq k (by rw[h.1];exact hk)
      rw[h.2 k hk,e] at this;simp at this
    rw[dqT hx]
    exact key.2 hno
  · have hyes:∀ i,i < l.len->(!(l.get i == x))=true:=λ i hi=>by
      have hi':i < L.length:=by rw[<- h.1];exact hi
      rw[h.2 i hi']
      have : ¬ L[i]=x:=λ e=>hx (e ▸ List.getElem_mem hi')
      simp[this]
    rw[dqF hx]
    exact key.1 hyes
theorem zMV {a b:Sl Int}{L:List Int}(ha:IsP a L) (hb:IsP b L) (hl:L.length<=1000000):p25 a b=true/\s25 a b=true:=by
  have hl':a.len<=1000000:=by rw[ha.1];exact hl
  have e:a.len=b.len:=ha.1.trans hb.1.symm
  unfold p25 s25
  rw[show ((a.len:Int) != (b.len:Int))=false by rw[e];simp]
  have key := zli (good := fun i => !(a.get i != b.get i)) (bad := false) (fin := true) (finP := true) (n := a.len) (lpS := zik a b) (lpP := zil a b)
    (λ k i hi=>by
      show zii a b (zik a b k) (i:Int)=_
      generalize zik a b k=S
      unfold zii
      rw[dqT (show (i:Int) < (a.len:Int) by omega),dqA,dqN]
      cases (a.get i != b.get i) <;> rfl)
    (λ k=>by
      show zii a b (zik a b k) (a.len:Int)=_
      unfold zii
      rw[dqF (show ¬ (a.len:Int) < (a.len:Int) by omega),dqB])
    (λ k i hi=>by
      show zij a b (zil a b k) (i:Int)=_
      generalize zil a b k=S
      unfold zij
      rw[dqT (show (i:Int) < (a.len:Int) by omega),dqA,dqN,dqT (show 0<=(i:Int)/\(i:Int) < (a.len:Int) by omega),Bool.true_and,dqT (show 0<=(i:Int)/\(i:Int) < (b.len:Int) by omega),Bool.true_and]
      cases (a.get i != b.get i) <;> rfl)
    (λ k=>by
      show zij a b (zil a b k) (a.len:Int)=_
      unfold zij
      rw[dqF (show ¬ (a.len:Int) < (a.len:Int) by omega),dqB])
    (by omega)
  exact key.1 λ i hi=>by
    have hi':i < L.length:=by rw[<- ha.1];exact hi
    rw[ha.2 i hi',hb.2 i hi'];simp
structure Pick (n m : Net) (g : Nat → Bool) : Prop where
  nodes:m.Nodes=n.Nodes
  ties:IsP m.Ties (((List.range n.Ties.len).filter λ j=>!g j).map n.Ties.get)
theorem zBz (n:Net) (hn:n.Ties.len<=210){l:Sl Int}{L:List Int}(hl:IsP l L) (hL:L.length<=1000000):p27 n l=true/\Pick n (s27 n l) (λ j=>decide ((j:Int)∈L)):=by
  obtain ⟨v, hv, h1, h2⟩ := zh4 (α := Tie) (β := Net) n.Ties.get (fun j => !decide ((j : Int) ∈ L)) (n := n.Ties.len) (E := fun v => (⟨n.Nodes, v⟩ : Net)) (EP := fun _ => true) (lpS := fun k v i => zhj n l k i v) (lpP := fun k v i => zhk n l k i v)
    (λ k i v hi hv=>by
      show ziI n l (zhj n l k) (i:Int) v=zhj n l k (w64 ((i:Int)+(1:Int))) _
      generalize zhj n l k=S
      unfold ziI zrf stP
      rw[dqT (show (i:Int) < (n.Ties.len:Int) by omega),dqA,dqN,(zlr hl hL (i:Int)).2]
      show cond (!decide ((i:Int)∈L)) _ _=S _ (cond (!decide ((i:Int)∈L)) _ _)
      cases (!decide ((i:Int)∈L)) <;> rfl)
    (λ k v=>by
      show ziI n l (zhj n l k) (n.Ties.len:Int) v=_
      unfold ziI
      rw[dqF (show ¬ (n.Ties.len:Int) < (n.Ties.len:Int) by omega),dqB])
    (λ k i v hi hv=>by
      show ziJ n l (zhk n l k) (i:Int) v=zhk n l k (w64 ((i:Int)+(1:Int))) _
      generalize zhk n l k=S
      unfold ziJ zrg stP
      rw[dqT (show (i:Int) < (n.Ties.len:Int) by omega),dqA,(zlr hl hL (i:Int)).1,(zlr hl hL (i:Int)).2,dqT (show 0<=(i:Int)/\(i:Int) < (n.Ties.len:Int) by omega),dqT (show (v.len+1) * 32<=140737488355328/\v.len+1<=9223372036854775807 by omega),dqN]
      show (_ && cond (!decide ((i:Int)∈L)) _ _)=S _ (cond (!decide ((i:Int)∈L)) _ _)
      cases (!decide ((i:Int)∈L)) <;> rfl)
    (λ k v=>by
      show ziJ n l (zhk n l k) (n.Ties.len:Int) v=_
      unfold ziJ
      rw[dqF (show ¬ (n.Ties.len:Int) < (n.Ties.len:Int) by omega),dqB])
    (by omega)
  have e:s27 n l=⟨n.Nodes,v⟩:=h2
  rw[e]
  exact⟨h1,rfl,hv⟩
section
variable {n m:Net}{g:Nat->Bool}(h:Pick n m g)
include h in
theorem Pick.at {q:Nat}(hq:q < m.Ties.len):∃ hk:q < ((List.range n.Ties.len).filter λ j=>!g j).length,m.Ties.get q=n.Ties.get ((List.range n.Ties.len).filter λ j=>!g j)[q]/\((List.range n.Ties.len).filter λ j=>!g j)[q] < n.Ties.len/\g ((List.range n.Ties.len).filter λ j=>!g j)[q]=false:=by
 have hk:q < ((List.range n.Ties.len).filter λ j=>!g j).length:=by have:=h.ties.1;rw[List.length_map] at this;omega
 have hm:=List.getElem_mem hk
 rw[List.mem_filter,List.mem_range] at hm
 refine⟨hk,?_,hm.1,by simpa using hm.2⟩
 rw[h.ties.2 q (by rw[List.length_map];exact hk),List.getElem_map]
include h in
theorem Pick.of {j:Nat}(hj:j < n.Ties.len) (hg:g j=false):∃ q,q < m.Ties.len/\∃ hk:q < ((List.range n.Ties.len).filter λ j=>!g j).length,((List.range n.Ties.len).filter λ j=>!g j)[q]=j:=by
 have hm:j∈(List.range n.Ties.len).filter λ j=>!g j:=List.mem_filter.2 ⟨List.mem_range.2 hj,by simp[hg]⟩
 obtain⟨q,hq,e⟩:=List.getElem_of_mem hm
 exact⟨q,by rw[h.ties.1,List.length_map];exact hq,hq,e⟩
include h in
theorem Pick.net (hn:NetOk n):NetOk m:=by
 have hlen:m.Ties.len<=n.Ties.len:=by
  have:=h.ties.1
  rw[List.length_map] at this
  have h2:=List.length_filter_le (λ j=>!g j) (List.range n.Ties.len)
  rw[List.length_range] at h2
  omega
 have h1:=hn.n1;have h2:=hn.n40;have h3:=hn.len
 refine⟨by rw[h.nodes];exact h1,by rw[h.nodes];exact h2,by omega,λ q hq=>?_⟩
 obtain⟨hk,e,h4,_⟩:=h.at hq
 rw[e,h.nodes];exact hn.tie _ h4
include h in
theorem Pick.edges (hn:NetOk n) (e:Ed):e∈En m↔e∈We (wg n g):=by
 have hm:=h.net hn
 rw[zfD (a:=W m) hm,zfD (a:=wg n g) hn]
 constructor
 ·rintro ⟨q, h1, _, h3⟩
  obtain⟨hk,e1,h4,h5⟩:=h.at h1
  refine⟨_,h4,by rw[ze2];exact h5,?_⟩
  have h3:((m.Ties.get q).High ≠ 1000000000000/\e=⟨(m.Ties.get q).From.toNat,(m.Ties.get q).To.toNat,(m.Ties.get q).High⟩)\/((m.Ties.get q).Low ≠ -1000000000000/\e=⟨(m.Ties.get q).To.toNat,(m.Ties.get q).From.toNat,-(m.Ties.get q).Low⟩):=h3
  rw[e1] at h3;exact h3
 ·rintro ⟨j, h1, h2, h3⟩
  rw[ze2] at h2
  obtain⟨q,h4,hk,e1⟩:=h.of h1 h2
  obtain⟨_,e2,_⟩:=h.at h4
  refine⟨q,h4,rfl,?_⟩
  show ((m.Ties.get q).High ≠ 1000000000000/\e=⟨(m.Ties.get q).From.toNat,(m.Ties.get q).To.toNat,(m.Ties.get q).High⟩)\/((m.Ties.get q).Low ≠ -1000000000000/\e=⟨(m.Ties.get q).To.toNat,(m.Ties.get q).From.toNat,-(m.Ties.get q).Low⟩)
  rw[e2,e1];exact h3
include h in
theorem Pick.noNeg (hn:NetOk n) (hN:zbt (En n)):zbt (En m):=ze1 (λ e he=>(h.edges hn e).1 he) (zfu hn hN g)
include h in
theorem Pick.fr (hn:NetOk n) (hN:zbt (En n)) {i:Nat}(hi:i < n.Nodes.toNat) (j:Nat):fr m i j=fa (wg n g) i j:=by
 have hE:EdOk (En m) n.Nodes.toNat:=by have:=zr3 (a:=W m) (h.net hn);rw[show (W m).Net.Nodes=n.Nodes from h.nodes] at this;exact this
 show zpy (dst (En m) m.Nodes.toNat i j)=zpy (dst (We (wg n g)) n.Nodes.toNat i j)
 rw[h.nodes]
 exact zpz (zr3 (a:=wg n g) hn) hE (h.noNeg hn hN) hi (λ e he=>(h.edges hn e).2 he) (λ e he=>(h.edges hn e).1 he)
end
end Go.Proofs
namespace Go.Proofs
open Go Go.Pm
set_option maxRecDepth 100000
set_option linter.unusedVariables false
attribute [local irreducible] Go.Pm.vcFun Go.Pm.vc Go.Pm.vcIter
end Go.Proofs
namespace Go.Proofs
open Go Go.Pm
set_option maxRecDepth 100000
set_option linter.unusedVariables false
theorem zJK {α:Type}(n:Nat) (g:Nat->α) (x:α) (j:Nat):zdU n g (λ _=>x) j=if n<=j then x else g j:=by
 unfold zdU
 by_cases h:n<=j
 ·rw[dqP h,show Nat.ble n j=true from Nat.ble_eq_true_of_le h]
 ·rw[dqG h,show Nat.ble n j=false from Bool.eq_false_iff.2 λ k=>h (Nat.le_of_ble_eq_true k)]
def turn (t:Tie):Tie:=⟨t.From,t.To,w64 (0 - t.High),w64 (0 - t.Low)⟩
structure IsTurn (n m : Net) : Prop where
  nodes:m.Nodes=n.Nodes
  len:m.Ties.len=n.Ties.len
  tie:∀ j,j < n.Ties.len->m.Ties.get j=turn (n.Ties.get j)
end Go.Proofs
namespace Go.Proofs
open Go Go.Pm
set_option maxRecDepth 100000
set_option linter.unusedVariables false
attribute [local irreducible] Go.Pm.vcFun Go.Pm.vc Go.Pm.vcIter
end Go.Proofs
namespace Go.Proofs
open Go Go.Pm
set_option maxRecDepth 100000
set_option linter.unusedVariables false
end Go.Proofs
namespace Go.Proofs
open Go Go.Pm
set_option maxRecDepth 100000
set_option linter.unusedVariables false
attribute [local irreducible] Go.Pm.vcFun Go.Pm.vc Go.Pm.vcIter
end Go.Proofs
namespace Go.Proofs
open Go Go.Pm
set_option maxRecDepth 100000
set_option linter.unusedVariables false
def zgq (y:step):Step:=⟨y.from_,y.to,y.length,y.Use⟩
def IsL (v:Sl Step) (L:List step):Prop:=v.len=L.length/\∀ k (h:k < L.length),v.get k=zgq L[k]
theorem zr7 {v:Sl Step}{L:List step}(h:IsL v L) (y:step):IsL ⟨v.len+1,zdU v.len v.get (λ _=>zgq y)⟩ (L ++ [y]):=by
 refine⟨by show v.len+1=_;rw[dqu,h.1];rfl,λ k hk=>?_⟩
 show zdU v.len v.get (λ _=>zgq y) k=_
 rw[zJK]
 rw[dqu] at hk
 have h1:=h.1
 by_cases hv:v.len<=k
 ·rw [dqP hv]
  have:k=L.length:=by simp only[dqr,dqL] at hk;omega
  subst this
  simp
 ·rw [dqG hv, h.2 k (by omega)]
  rw[List.getElem_append_left (by omega)]
theorem zMW (n:Net) (hn:n.Ties.len<=210):∀ (m k i:Nat) (v:Sl Step) (L:List step),i+m=n.Ties.len->m < k->IsL v L->L.length<=2 * i->zdM n k (i:Int) v=true/\IsL (zdL n k (i:Int) v) (L ++ stL (W n) m i):=by
  intro m
  induction m with
  | zero =>
    intro k i v L hi hk hv hL
    obtain⟨k,rfl⟩:∃ k',k=k'+1:=⟨k - 1,by omega⟩
    have e1:zdM n (k+1) (i:Int) v=true:=by
      show ziL n (zdM n k) (i:Int) v=true
      unfold ziL
      rw[dqF (show ¬ (i:Int) < (n.Ties.len:Int) by omega),dqB]
    have e2:zdL n (k+1) (i:Int) v=v:=by
      show ziK n (zdL n k) (i:Int) v=v
      unfold ziK
      rw[dqF (show ¬ (i:Int) < (n.Ties.len:Int) by omega),dqB]
    refine⟨e1,?_⟩
    rw[e2]
    show IsL v (L ++ [])
    rw[List.append_nil];exact hv
  | succ m ih =>
    intro k i v L hi hk hv hL
    obtain⟨k,rfl⟩:∃ k',k=k'+1:=⟨k - 1,by omega⟩
    have hw:w64 ((i:Int)+(1:Int))=((i+1:Nat):Int):=by rw[zb9 (by omega) (by omega)];omega
    have hvl:=hv.1
    have hS : zdL n (k + 1) (i : Int) v = cond ((n.Ties.get i).High != (1000000000000:Int))
        (cond ((n.Ties.get i).Low != (-1000000000000:Int))
          (zdL n k ((i+1:Nat):Int) (⟨v.len+1+1,zdU (v.len+1) (zdU v.len v.get (λ _=>zgq (fwS (n.Ties.get i) i))) (λ _=>zgq (bwS (n.Ties.get i) i))⟩:Sl Step))
          (zdL n k ((i+1:Nat):Int) (⟨v.len+1,zdU v.len v.get (λ _=>zgq (fwS (n.Ties.get i) i))⟩:Sl Step)))
        (cond ((n.Ties.get i).Low != (-1000000000000:Int))
          (zdL n k ((i+1:Nat):Int) (⟨v.len+1,zdU v.len v.get (λ _=>zgq (bwS (n.Ties.get i) i))⟩:Sl Step))
          (zdL n k ((i+1:Nat):Int) v)):=by
      rw[<- hw]
      show ziK n (zdL n k) (i:Int) v=_
      generalize zdL n k=S
      unfold ziK znH
      rw[dqT (show (i:Int) < (n.Ties.len:Int) by omega),dqA,dqN]
      rfl
    have hP : zdM n (k + 1) (i : Int) v = cond ((n.Ties.get i).High != (1000000000000:Int))
        (cond ((n.Ties.get i).Low != (-1000000000000:Int))
          (zdM n k ((i+1:Nat):Int) (⟨v.len+1+1,zdU (v.len+1) (zdU v.len v.get (λ _=>zgq (fwS (n.Ties.get i) i))) (λ _=>zgq (bwS (n.Ties.get i) i))⟩:Sl Step))
          (zdM n k ((i+1:Nat):Int) (⟨v.len+1,zdU v.len v.get (λ _=>zgq (fwS (n.Ties.get i) i))⟩:Sl Step)))
        (cond ((n.Ties.get i).Low != (-1000000000000:Int))
          (zdM n k ((i+1:Nat):Int) (⟨v.len+1,zdU v.len v.get (λ _=>zgq (bwS (n.Ties.get i) i))⟩:Sl Step))
          (zdM n k ((i+1:Nat):Int) v)):=by
      rw[<- hw]
      show ziL n (zdM n k) (i:Int) v=_
      generalize zdM n k=S
      unfold ziL znI
      rw[dqT (show (i:Int) < (n.Ties.len:Int) by omega),dqA,dqN,dqT (show 0<=(i:Int)/\(i:Int) < (n.Ties.len:Int) by omega),dqT (show (v.len+1) * 40<=140737488355328/\v.len+1<=9223372036854775807 by omega),dqT (show ((⟨v.len+1,zdU v.len v.get (λ _=>(⟨(n.Ties.get i).From,(n.Ties.get i).To,(n.Ties.get i).High,(⟨(i:Int),false⟩:Use)⟩:Step))⟩:Sl Step).len+1) * 40<=140737488355328/\(⟨v.len+1,zdU v.len v.get (λ _=>(⟨(n.Ties.get i).From,(n.Ties.get i).To,(n.Ties.get i).High,(⟨(i:Int),false⟩:Use)⟩:Step))⟩:Sl Step).len+1<=9223372036854775807 from by show (v.len+1+1) * 40<=_/\v.len+1+1<=_;omega)]
      rfl
    rw[hS,hP]
    have hK:stL (W n) (m+1) i=((cond ((n.Ties.get i).High != (1000000000000:Int)) [fwS (n.Ties.get i) i] []) ++ (cond ((n.Ties.get i).Low != (-1000000000000:Int)) [bwS (n.Ties.get i) i] [])) ++ stL (W n) m (i+1):=rfl
    rw[hK]
    have hF:=zr7 hv (fwS (n.Ties.get i) i)
    have hB:=zr7 hv (bwS (n.Ties.get i) i)
    have hFB:=zr7 hF (bwS (n.Ties.get i) i)
    cases ((n.Ties.get i).High != (1000000000000:Int)) <;> cases ((n.Ties.get i).Low != (-1000000000000:Int))
    · have := ih k (i + 1) v L (by omega) (by omega) hv (by omega)
      simpa using this
    · have := ih k (i + 1) _ _ (by omega) (by omega) hB (by simp only [dqu, dqr, dqL]; omega)
      simpa [List.append_assoc] using this
    · have := ih k (i + 1) _ _ (by omega) (by omega) hF (by simp only [dqu, dqr, dqL]; omega)
      simpa [List.append_assoc] using this
    · have := ih k (i + 1) _ _ (by omega) (by omega) hFB (by simp only [dqu, dqr, dqL]; omega)
      simpa [List.append_assoc] using this
theorem zt7 (n:Net) (hn:n.Ties.len<=210):p77 n=true/\IsL (s77 n) (Ws (W n)):=by
 have:=zMW n hn n.Ties.len Fuel 0 (⟨0,(λ _=>default)⟩:Sl Step) [] (by omega) (by simp only[Fuel];omega) ⟨rfl,λ k h=>absurd h (dqW _)⟩ (Nat.zero_le _)
 exact this
end Go.Proofs
namespace Go.Pm
def jr (o:zbO) (s:zbO×Bool) (e:Ed):zbO×Bool :=
 match o e.u with
 | none=>s
 | some x=>cond (ltO (x+e.w) (s.1 e.v)) (zjw s.1 e.v (x+e.w),true) s
theorem zJL (o:zbO) (s:zbO×Bool) (e:Ed) (v:Nat):leO ((jr o s e).1 v) (s.1 v):=by
 unfold jr
 cases hu:o e.u with
 | none=>exact zcX _
 | some x =>
  simp only[]
  cases hl:ltO (x+e.w) (s.1 e.v)
  ·exact zcX _
  ·show leO (zjw s.1 e.v (x + e.w) v) _
   unfold zjw
   by_cases hv:v=e.v
   ·rw [dqP hv]
    intro y hy
    refine⟨_,rfl,?_⟩
    rw[hv] at hy
    rw[hy] at hl
    exact Int.le_of_lt (of_decide_eq_true hl)
   ·rw[dqG hv];exact zcX _
theorem zMX (o:zbO) (E:List Ed) (s:zbO×Bool) (v:Nat):leO ((E.foldl (jr o) s).1 v) (s.1 v):=by
 induction E generalizing s with
 | nil=>exact zcX _
 | cons e l ih=>exact zcp (ih (jr o s e)) (zJL o s e v)
theorem zOX {o:zbO}{s:zbO×Bool}{e:Ed}{x:Int}(h:o e.u=some x):leO ((jr o s e).1 e.v) (some (x+e.w)):=by
 unfold jr
 simp only[h]
 cases hl:ltO (x+e.w) (s.1 e.v)
 ·obtain ⟨y, h1, h2⟩ := zlj hl
  intro z hz;cases hz
  exact⟨y,h1,h2⟩
 ·intro z hz; cases hz
  exact⟨x+e.w,by show zjw s.1 e.v (x+e.w) e.v=_;unfold zjw;rw[dqP rfl],Int.le_refl _⟩
theorem zOY {o:zbO}{E:List Ed}{s:zbO×Bool}{e:Ed}{x:Int}(he:e∈E) (h:o e.u=some x):leO ((E.foldl (jr o) s).1 e.v) (some (x+e.w)):=by
 induction E generalizing s with
 | nil=>cases he
 | cons f l ih =>
  rcases dqq.1 he with rfl | hm
  ·exact zcp (zMX o l (jr o s e) e.v) (zOX h)
  ·exact ih hm
theorem zJM {o:zbO}{s:zbO×Bool}{e:Ed}(h:s.2=true):(jr o s e).2=true:=by
 unfold jr
 cases o e.u with
 | none=>exact h
 | some x=>simp only[];cases ltO (x+e.w) (s.1 e.v) <;> first | exact h | rfl
theorem zJN {o:zbO}{E:List Ed}{s:zbO×Bool}(h:s.2=true):(E.foldl (jr o) s).2=true:=by
 induction E generalizing s with
 | nil=>exact h
 | cons e l ih=>exact ih (zJM h)
theorem zFl {d:zbO}{c:Bool}{e:Ed}(h:Sat d e):jr d (d,c) e=(d,c):=zr0 h
theorem zMY {E:List Ed}{d:zbO}{c:Bool}(h:∀ e∈E,Sat d e):E.foldl (jr d) (d,c)=(d,c):=by
 induction E with
 | nil=>rfl
 | cons e l ih =>
  show l.foldl (jr d) (jr d (d,c) e)=_
  rw[zFl (h e (dqj ..))]
  exact ih λ e he=>h e (dqf _ he)
theorem zDQ {E:List Ed}{d:zbO}{c:Bool}(h:(E.foldl (jr d) (d,c)).2=false):∀ e∈E,Sat d e:=by
 induction E with
 | nil=>intro e he;cases he
 | cons e l ih =>
  have h':(l.foldl (jr d) (jr d (d,c) e)).2=false:=h
  have hs:Sat d e:=Classical.byContradiction λ hn=>by
   have:(jr d (d,c) e).2=true:=zA7 hn
   rw[zJN this] at h';cases h'
  rw[zFl hs] at h'
  intro e' he'
  rcases dqq.1 he' with rfl | hm
  ·exact hs
  ·exact ih h' e' hm
def zFm (E:List Ed) (d:zbO):zbO:=(E.foldl (jr d) (d,false)).1
def zBA (E : List Ed) : Nat → zbO → zbO
  | 0,d=>d
  | k+1,d=>zBA E k (zFm E d)
theorem zBB (E:List Ed) (k:Nat) (d:zbO) (v:Nat):leO (zBA E k d v) (d v):=by
 induction k generalizing d with
 | zero=>exact zcX _
 | succ k ih=>exact zcp (ih (zFm E d)) (zMX d E (d,false) v)
theorem zJO {E:List Ed}{c:List Ed} : ∀ {a b k:Nat}{d:zbO}{y:Int},zfC E a c b->d a=some y->c.length<=k->leO (zBA E k d b) (some (y+wt c)):=by
 induction c with
 | nil =>
  intro a b k d y h hd _
  cases h
  intro z hz;cases hz
  obtain⟨x,h1,h2⟩:=zBB E k d a y hd
  exact⟨x,h1,by show x<=y+0;omega⟩
 | cons e l ih =>
  intro a b k d y h hd hk
  obtain⟨k,rfl⟩:∃ k',k=k'+1:=⟨k - 1,by simp only[dqr] at hk;omega⟩
  obtain⟨h1,h2,h3⟩:=h
  subst h2
  obtain⟨x,k1,k2⟩:=zOY (o:=d) (s:=(d,false)) h1 hd _ rfl
  intro z hz;cases hz
  obtain⟨z,m1,m2⟩:=ih (k:=k) (d:=zFm E d) h3 k1 (by simp only[dqr] at hk;omega) _ rfl
  exact⟨z,m1,by show z<=y+(e.w+wt l);omega⟩
theorem zMZ {E:List Ed}{Src:Nat->Prop}(hn:zbt E){o:zbO}(ho:Inv E Src o){s:zbO×Bool}{e:Ed}(he:e∈E) (hs:∀ m,leO (s.1 m) (o m)) (h:Inv E Src s.1):Inv E Src (jr o s e).1:=by
 intro v x hx
 have hle:=zJL o s e
 unfold jr at hx hle ⊢
 cases hu:o e.u with
 | none =>
  simp only[hu] at hx ⊢
  obtain⟨a,c,hc⟩:=h v x hx
  exact⟨a,c,hc⟩
 | some y =>
  simp only[hu] at hx hle ⊢
  cases hl:ltO (y+e.w) (s.1 e.v) with
  | false =>
   simp only[hl,dqB] at hx ⊢
   exact h v x hx
  | true =>
   simp only[hl,dqA] at hx hle ⊢
   by_cases hv:v=e.v
   ·subst hv
    have hx':y+e.w=x:=by
     unfold zjw at hx;rw[dqP rfl] at hx;exact Option.some.inj hx
    obtain⟨a,c,hc⟩:=ho e.u y hu
    have hnot:e.v ∉ nodes a c:=λ hm=>by
     obtain⟨z,h1,h2⟩:=zcp (hs e.v) (zjP hn he hc hm) _ rfl
     rw[h1] at hl
     have:=of_decide_eq_true hl
     omega
    refine⟨a,c ++ [e],hc.src,zdu.2 ⟨e.u,hc.ch,zcW he⟩,by rw[zh1,zgX,<- hc.wt];omega,?_,?_⟩
    ·show (a :: (c ++ [e]).map Ed.v).Nodup
     rw[List.map_append,<- List.cons_append]
     refine List.nodup_append.2 ⟨hc.nd,by simp,λ p hp q hq=>?_⟩
     have:q=e.v:=by simpa using hq
     subst this
     exact λ e'=>hnot (e' ▸ hp)
    ·intro c1 c2 m h1 h2
     rcases zh2 h1 with rfl | ⟨c3,h3⟩
     ·have : m = e.v := zt3 h2 (zdu.2 ⟨e.u, hc.ch, zcW he⟩)
      subst this
      intro z hz;cases hz
      refine⟨x,hx,?_⟩
      rw[zh1,zgX,<- hc.wt];omega
     ·exact zcp (zcp (hle m) (hs m)) (hc.pre c1 c3 m h3 h2)
   ·have hx':s.1 v=some x:=by
     unfold zjw at hx;rw[dqG hv] at hx;exact hx
    obtain⟨a,c,hc⟩:=h v x hx'
    exact⟨a,c,zFe hc hle⟩
theorem zM0 {E F:List Ed}{Src:Nat->Prop}(hn:zbt E) (hF:∀ e∈F,e∈E){o:zbO}(ho:Inv E Src o){s:zbO×Bool}(hs:∀ m,leO (s.1 m) (o m)) (h:Inv E Src s.1):Inv E Src (F.foldl (jr o) s).1:=by
 induction F generalizing s with
 | nil=>exact h
 | cons e l ih=>exact ih (λ e he=>hF e (dqf _ he)) (λ m=>zcp (zJL o s e m) (hs m)) (zMZ hn ho (hF e (dqj ..)) hs h)
theorem zDR {E:List Ed}{Src:Nat->Prop}(hn:zbt E) (k:Nat){d:zbO}(h:Inv E Src d):Inv E Src (zBA E k d):=by
 induction k generalizing d with
 | zero=>exact h
 | succ k ih=>exact ih (zM0 hn (λ _ h=>h) h (s:=(d,false)) (λ _=>zcX _) h)
theorem zM1 {E:List Ed}{n:Nat}{Src:Nat->Prop}(hn:zbt E) (hE:∀ e∈E,e.u < n/\e.v < n) (hS:∀ a,Src a->a < n){d:zbO}(h0:Start Src d):Fix E (zBA E (n - 1) d):=by
 intro e he x hx
 obtain⟨a,c,hc⟩:=zDR hn (n - 1) (ze0 (E:=E) h0) e.u x hx
 by_cases hm:e.v∈nodes a c
 ·exact zjP hn he hc hm _ rfl
 ·have hlen:(c ++ [e]).length<=n - 1:=by
   have hnd:(nodes a (c ++ [e])).Nodup:=by
    show (a :: (c ++ [e]).map Ed.v).Nodup
    rw[List.map_append,<- List.cons_append]
    refine List.nodup_append.2 ⟨hc.nd,by simp,λ p hp q hq=>?_⟩
    have:q=e.v:=by simpa using hq
    subst this
    exact λ e'=>hm (e' ▸ hp)
   have hch:zfC E a (c ++ [e]) e.v:=zdu.2 ⟨e.u,hc.ch,zcW he⟩
   have:=zll n hnd (zn7 hE (hS a hc.src) hch)
   rw[zlm] at this
   omega
  have:=zJO (zdu.2 ⟨e.u,hc.ch,zcW he⟩) (h0.src a hc.src) hlen _ rfl
  rw[zh1,zgX,<- hc.wt] at this
  obtain⟨z,h1,h2⟩:=this
  exact⟨z,h1,by omega⟩
def zgY (E : List Ed) : Nat → Bool → zbO → Bool
  | 0,c,_=>!c
  | m+1,c,d=>cond c (zgY E m (E.foldl (jr d) (d,false)).2 (zFm E d)) (!c)
theorem zt8 (E:List Ed) (m:Nat) (d:zbO):zgY E m false d=true:=by cases m <;> rfl
theorem zpB {E:List Ed}{k:Nat} : ∀ {m:Nat}{d:zbO},Fix E (zBA E k d)->k < m->zgY E m true d=true:=by
 induction k with
 | zero =>
  intro m d h hm
  obtain⟨m,rfl⟩:∃ m',m=m'+1:=⟨m - 1,by omega⟩
  show zgY E m (E.foldl (jr d) (d,false)).2 (zFm E d)=true
  rw[zMY (show ∀ e∈E,Sat d e from h)]
  exact zt8 E m _
 | succ k ih =>
  intro m d h hm
  obtain⟨m,rfl⟩:∃ m',m=m'+1:=⟨m - 1,by omega⟩
  show zgY E m (E.foldl (jr d) (d,false)).2 (zFm E d)=true
  cases (E.foldl (jr d) (d,false)).2
  ·exact zt8 E m _
  ·exact ih (m:=m) (d:=zFm E d) h (by omega)
theorem zBC {E:List Ed}{m:Nat} : ∀ {d:zbO},zgY E m true d=true->∃ k,Fix E (zBA E k d):=by
 induction m with
 | zero=>intro d h;cases h
 | succ m ih =>
  intro d h
  have h':zgY E m (E.foldl (jr d) (d,false)).2 (zFm E d)=true:=h
  cases hc:(E.foldl (jr d) (d,false)).2
  ·exact⟨0,zDQ hc⟩
  ·rw [hc] at h'
   obtain⟨k,hk⟩:=ih h'
   exact⟨k+1,hk⟩
theorem zBD {E:List Ed}{n:Nat}(hE:EdOk E n):zgY E n true (zof n)=true↔zbt E:=by
 constructor
 ·intro h
  obtain⟨k,hk⟩:=zBC h
  have hsome:∀ v,v < n->∃ x,zBA E k (zof n) v=some x:=λ v hv=>by
   obtain⟨x,hx,_⟩:=zBB E k (zof n) v 0 (dqP hv)
   exact⟨x,hx⟩
  refine zpx (f:=λ v=>(zBA E k (zof n) v).getD 0) λ e he=>?_
  obtain⟨x,hx⟩:=hsome e.u (hE.lt e he).1
  obtain⟨y,hy,hxy⟩:=hk e he x hx
  show (zBA E k (zof n) e.v).getD 0<=(zBA E k (zof n) e.u).getD 0+e.w
  rw[hx,hy];exact hxy
 ·intro h
  have:=hE.n1
  exact zpB (zM1 h hE.lt (λ a ha=>ha) (zmi n)) (by omega)
def dsP (E:List Ed) (n s:Nat):zbO:=rds E (n - 1) (zt4 s)
def zNl : Option Int → Int
  | none=>1000000000000
  | some x=>x
theorem zBE {E:List Ed}{n s:Nat}(hn:zbt E):Inv E (λ v=>v=s) (dsP E n s):=zr1 hn _ (ze0 (zd2 s))
theorem zBF {E:List Ed}{n s:Nat}(hE:EdOk E n) (hn:zbt E) (hs:s < n):Fix E (dsP E n s):=zBd hn hE.lt (λ a ha=>Nat.lt_of_le_of_lt (Nat.le_of_eq ha) hs) (zd2 s)
theorem zOZ {E:List Ed}{n:Nat}(hE:EdOk E n){s:Nat}(hs:s < n){d:zbO}(hd:Inv E (λ v=>v=s) d){v:Nat}{x:Int}(hx:d v=some x):∃ c,zfC E s c v/\x=wt c/\c.length < n:=by
 obtain⟨a,c,hc⟩:=hd v x hx
 have hl:=zBc hE.lt (λ a ha=>Nat.lt_of_le_of_lt (Nat.le_of_eq ha) hs) hc
 obtain rfl:a=s:=hc.src
 exact⟨c,hc.ch,hc.wt,by omega⟩
theorem zFn {E:List Ed}{n:Nat}(hE:EdOk E n){s:Nat}(hs:s < n){d:zbO}(hd:Inv E (λ v=>v=s) d){v:Nat}{x:Int}(hx:d v=some x) : -40000000000<=x/\x<=40000000000:=by
 obtain⟨c,h1,h2,h3⟩:=zOZ hE hs hd hx
 have:=zjQ hE h1
 have:=hE.n40
 omega
theorem zJP {E:List Ed}{n s v:Nat}(hE:EdOk E n) (hn:zbt E) (hs:s < n):zNl (dsP E n s v)=zpy (dst E n s v):=by
 obtain⟨y0,k1,k2⟩:=zpw E (n - 1) (zt4 s) s 0 (dqP rfl)
 have up:∀ c,zfC E s c v->∃ y,dsP E n s v=some y/\y<=wt c:=λ c hc=>by
  obtain⟨y,m1,m2⟩:=zMO (zBF hE hn hs) hc k1
  exact⟨y,m1,by omega⟩
 rcases zdn (v:=v) hE hn hs with ⟨_,h2⟩ | ⟨c,_,h1,h2,_⟩
 ·rw [h2]
  cases hd:dsP E n s v with
  | none=>rfl
  | some x =>
   obtain⟨c,m1,m2,m3⟩:=zOZ hE hs (zBE hn) hd
   have:=zi5 hE hn hs m1
   have:=zjQ hE m1
   have:=hE.n40
   omega
 ·obtain ⟨y, m1, m2⟩ := up c h1
  obtain⟨c',q1,q2,_⟩:=zOZ hE hs (zBE hn) m1
  have:=zi5 hE hn hs q1
  rw[m1,h2]
  show y=wt c
  omega
end Go.Pm
namespace Go.Proofs
open Go Go.Pm
set_option maxRecDepth 100000
set_option linter.unusedVariables false
theorem zBG {l:Sl Step}{L:List step}(hl:IsL l L){q:Nat}(hq:q < L.length){N:Nat}(hL:∀ y∈L,StOk y N):(l.get q).From=L[q].from_/\(l.get q).To=L[q].to/\(l.get q).Length=L[q].length/\StOk L[q] N:=by
 rw[hl.2 q hq];exact⟨rfl,rfl,rfl,hL _ (List.getElem_mem hq)⟩
structure Rv (N : Nat) (v : Sl Int) (d : zbO) (B : Int) : Prop where
  len:v.len=N
  at_:∀ i,i < N->d i=some (v.get i)
  b:∀ i,i < N->-B<=v.get i/\v.get i<=0
theorem zDS (n : Net) (l : Sl Step) (L : List step) (hl : IsL l L) {N : Nat} (hLN : ∀ y ∈ L, StOk y N) (hL : L.length ≤ 1000) (S1 : Sl Int → Bool → Int → Bool) (P1 : Sl Int → Bool → Int → Bool) (best : Sl Int) (o : zbO) (B : Int) (hB : 0 ≤ B ∧ B ≤ 100000000000000) (ho : Rv N best o B) (r : Int) :
  ∀ (m k q:Nat) (c:Bool) (v:Sl Int) (d:zbO),q+m=L.length->m < k->Rv N v d (B+1000000000) ->
  ∃ v',zfq S1 n l k best c r (q:Int) v=S1 v' (((L.drop q).map edS).foldl (jr o) (d,c)).2 (w64 (r+(1:Int)))/\zfr P1 n l k best c r (q:Int) v=P1 v' (((L.drop q).map edS).foldl (jr o) (d,c)).2 (w64 (r+(1:Int)))/\Rv N v' (((L.drop q).map edS).foldl (jr o) (d,c)).1 (B+1000000000):=by
 have hll:=hl.1
 intro m
 induction m with
 | zero =>
  intro k q c v d hq hk hv
  obtain⟨k,rfl⟩:∃ k',k=k'+1:=⟨k - 1,by omega⟩
  rw[dqO (by omega)]
  refine⟨v,?_,?_,hv⟩
  ·show ziM S1 n l (zfq S1 n l k) best c r (q : Int) v = _
   unfold ziM
   rw[dqF (show ¬ (q:Int) < (l.len:Int) by omega),dqB];rfl
  ·show ziN P1 n l (zfr P1 n l k) best c r (q : Int) v = _
   unfold ziN
   rw[dqF (show ¬ (q:Int) < (l.len:Int) by omega),dqB];rfl
 | succ m ih =>
  intro k q c v d hq hk hv
  obtain⟨k,rfl⟩:∃ k',k=k'+1:=⟨k - 1,by omega⟩
  have hw:w64 ((q:Int)+(1:Int))=((q+1:Nat):Int):=by rw[zb9 (by omega) (by omega)];omega
  obtain⟨e1,e2,e3,hy⟩:=zBG hl (show q < L.length by omega) hLN
  rw[dqR (by omega:q < L.length)]
  generalize L[q]=y at *
  have f0:=hy.f0;have f1:=hy.f1;have t0:=hy.t0;have t1:=hy.t1;have l0:=hy.l0;have l1:=hy.l1
  have hbl:=ho.len;have hvl:=hv.len
  have bf:=ho.b y.from_.toNat (by omega)
  have af:=ho.at_ y.from_.toNat (by omega)
  have at_:=hv.at_ y.to.toNat (by omega)
  have hr:jr o (d,c) (edS y)=cond (decide (best.get y.from_.toNat+y.length < v.get y.to.toNat)) (zjw d y.to.toNat (best.get y.from_.toNat+y.length),true) (d,c):=by
   unfold jr edS
   simp only[af,at_] <;> rfl
  have hS:zfq S1 n l (k+1) best c r (q:Int) v=cond (decide (best.get y.from_.toNat+y.length < v.get y.to.toNat)) (zfq S1 n l k best true r ((q+1:Nat):Int) (⟨v.len,setT y.to.toNat (best.get y.from_.toNat+y.length) v.get⟩:Sl Int)) (zfq S1 n l k best c r ((q+1:Nat):Int) v):=by
   rw[<- hw]
   show ziM S1 n l (zfq S1 n l k) best c r (q:Int) v=_
   generalize zfq S1 n l k=S
   unfold ziM
   rw[dqT (show (q:Int) < (l.len:Int) by omega),dqA,dqN,e1,e2,e3,zb9 (x:=best.get y.from_.toNat+y.length) (by omega) (by omega)]
  have hP:zfr P1 n l (k+1) best c r (q:Int) v=cond (decide (best.get y.from_.toNat+y.length < v.get y.to.toNat)) (zfr P1 n l k best true r ((q+1:Nat):Int) (⟨v.len,setT y.to.toNat (best.get y.from_.toNat+y.length) v.get⟩:Sl Int)) (zfr P1 n l k best c r ((q+1:Nat):Int) v):=by
   rw[<- hw]
   show ziN P1 n l (zfr P1 n l k) best c r (q:Int) v=_
   generalize zfr P1 n l k=S
   unfold ziN
   simp only[dqN,e1,e2,e3]
   rw[dqT (show (q:Int) < (l.len:Int) by omega),dqA,zb9 (x:=best.get y.from_.toNat+y.length) (by omega) (by omega),dqT (show 0<=(q:Int)/\(q:Int) < (l.len:Int) by omega),dqT (show 0<=y.from_/\y.from_ < (best.len:Int) by omega),dqT (show 0<=y.to/\y.to < (v.len:Int) by omega),dqT (show y.to.toNat < v.len by omega)]
   cases decide (best.get y.from_.toNat+y.length < v.get y.to.toNat) <;> rfl
  rw[hS,hP]
  show ∃ v',_=S1 v' (((L.drop (q+1)).map edS).foldl (jr o) (jr o (d,c) (edS y))).2 _/\_=P1 v' (((L.drop (q+1)).map edS).foldl (jr o) (jr o (d,c) (edS y))).2 _/\Rv N v' (((L.drop (q+1)).map edS).foldl (jr o) (jr o (d,c) (edS y))).1 _
  rw[hr]
  by_cases hlt:best.get y.from_.toNat+y.length < v.get y.to.toNat
  ·rw [dqT hlt]
   simp only[dqA]
   have vb:=hv.b y.to.toNat (by omega)
   refine ih k (q+1) true _ _ (by omega) (by omega) ⟨hvl,λ i hi=>?_,λ i hi=>?_⟩
   ·show zjw d y.to.toNat (best.get y.from_.toNat + y.length) i = some (setT y.to.toNat (best.get y.from_.toNat + y.length) v.get i)
    rw[zlp]
    unfold zjw
    by_cases h:i=y.to.toNat
    ·rw[dqP h,dqP h]
    ·rw[dqG h,dqG h];exact hv.at_ i hi
   ·show -(B + 1000000000) ≤ setT y.to.toNat (best.get y.from_.toNat + y.length) v.get i ∧ setT y.to.toNat (best.get y.from_.toNat + y.length) v.get i ≤ 0
    rw[zlp]
    by_cases h:i=y.to.toNat
    ·rw[dqP h];omega
    ·rw[dqG h];exact hv.b i hi
  ·rw [dqF hlt]
   simp only[dqB]
   exact ih k (q+1) c v d (by omega) (by omega) hv
theorem zpC (n:Net) (hn:NetOk n):∀ (m k r:Nat) (c:Bool) (v:Sl Int) (d:zbO) (B:Int),(r:Int)+m=n.Nodes->m < k->Rv n.Nodes.toNat v d B->0<=B->B+m * 1000000000<=100000000000000 ->
  zhm n (s77 n) k v c (r:Int)=true/\zhl n (s77 n) k v c (r:Int)=zgY (En n) m c d:=by
 have hlen:=hn.len;have hn40:=hn.n40
 obtain⟨_,hl⟩:=zt7 n (by omega)
 have hL:(Ws (W n)).length<=400:=zBk (a:=W n) hn
 intro m
 induction m with
 | zero =>
  intro k r c v d B hr hk _ _ _
  obtain⟨k,rfl⟩:∃ k',k=k'+1:=⟨k - 1,by omega⟩
  constructor
  ·show zgg n (s77 n) (zhm n (s77 n) k) v c (r : Int) = true
   unfold zgg
   rw[dqF (show ¬ (r:Int) < n.Nodes by omega),dqB]
  ·show zgf n (s77 n) (zhl n (s77 n) k) v c (r : Int) = _
   unfold zgf
   rw[dqF (show ¬ (r:Int) < n.Nodes by omega),dqB];rfl
 | succ m ih =>
  intro k r c v d B hr hk hv hB0 hB1
  obtain⟨k,rfl⟩:∃ k',k=k'+1:=⟨k - 1,by omega⟩
  cases c with
  | false =>
   constructor
   ·show zgg n (s77 n) (zhm n (s77 n) k) v false (r : Int) = true
    unfold zgg
    cases decide ((r:Int) < n.Nodes) <;> rfl
   ·show zgf n (s77 n) (zhl n (s77 n) k) v false (r : Int) = _
    unfold zgf
    cases decide ((r:Int) < n.Nodes) <;> rfl
  | true =>
   have hw:w64 ((r:Int)+(1:Int))=((r+1:Nat):Int):=by rw[zb9 (by omega) (by omega)];omega
   obtain⟨v',k1,k2,k3⟩:=zDS n (s77 n) (Ws (W n)) hl (λ y hy=>zJZ (a:=W n) hn hy) (by omega) (zhl n (s77 n) k) (zhm n (s77 n) k) v d B ⟨hB0,by omega⟩ hv (r:Int) (Ws (W n)).length Fuel 0 false v d (by omega) (by simp only[Fuel];omega) ⟨hv.len,hv.at_,λ i hi=>by have:=hv.b i hi;omega⟩
   rw[List.drop_zero,hw] at k1 k2
   rw[List.drop_zero] at k3
   obtain⟨i1,i2⟩:=ih k (r+1) (((Ws (W n)).map edS).foldl (jr d) (d,false)).2 v' _ (B+1000000000) (by omega) (by omega) k3 (by omega) (by omega)
   constructor
   ·refine Eq.trans ?_ i1
    refine Eq.trans ?_ k2
    show zgg n (s77 n) (zhm n (s77 n) k) v true (r:Int)=_
    unfold zgg
    have hvl:=hv.len
    rw[dqT (show (r:Int) < n.Nodes by omega)]
    first
     | rfl
     | (simp only[dqA];rw[dqT (show v.len * 8<=140737488355328/\v.len<=9223372036854775807 by omega)];rfl)
   ·refine Eq.trans ?_ i2
    refine Eq.trans ?_ k1
    show zgf n (s77 n) (zhl n (s77 n) k) v true (r:Int)=_
    unfold zgf
    rw[dqT (show (r:Int) < n.Nodes by omega)];rfl
theorem zM2 (n:Net) (hn:NetOk n):p31 n=true/\(s31 n=true↔zbt (En n)):=by
 have hlen:=hn.len;have hn1:=hn.n1;have hn40:=hn.n40
 obtain⟨a,b⟩:=zpC n hn n.Nodes.toNat Fuel 0 true (⟨n.Nodes.toNat,(λ _=>(0:Int))⟩:Sl Int) (zof n.Nodes.toNat) 0 (by omega) (by simp only[Fuel];omega) ⟨rfl,λ i hi=>dqP hi,λ i hi=>⟨by show -(0:Int)<=(0:Int);omega,Int.le_refl _⟩⟩ (by omega) (by omega)
 have hq:=(zt7 n (by omega)).1
 constructor
 ·unfold p31 zrl
  rw[hq]
  first
   | exact a
   | (rw[dqT (show 0<=n.Nodes/\n.Nodes=n.Nodes/\n.Nodes<=1000000 from ⟨by omega,rfl,by omega⟩)];exact a)
 ·have : s31 n = zgY (En n) n.Nodes.toNat true (zof n.Nodes.toNat) := b
  rw[this]
  exact zBD (zr3 (a:=W n) hn)
end Go.Proofs
namespace Go.Proofs
open Go Go.Pm
set_option maxRecDepth 100000
set_option linter.unusedVariables false
structure Rq (N : Nat) (v : Sl Int) (d : zbO) : Prop where
  len:v.len=N
  at_:∀ i,i < N->v.get i=zNl (d i)
theorem zJQ (n : Net) {E : List Ed} {N s : Nat} (hE : EdOk E N) (hn : zbt E) (hs : s < N) (l : Sl Step) (L : List step) (hl : IsL l L) (hLN : ∀ y ∈ L, StOk y N ∧ edS y ∈ E) (hL : L.length ≤ 1000) (S3 : Bool → Sl Int → Sl Int) (P3 : Bool → Sl Int → Bool) :
  ∀ (m k q:Nat) (c:Bool) (v:Sl Int) (d:zbO),q+m=L.length->m < k->Rq N v d->Inv E (λ v=>v=s) d ->
  ∃ v',zee S3 l k c (q:Int) v=S3 (((L.drop q).map edS).foldl rlF (d,c)).2 v'/\zef P3 l k c (q:Int) v=P3 (((L.drop q).map edS).foldl rlF (d,c)).2 v'/\Rq N v' (((L.drop q).map edS).foldl rlF (d,c)).1:=by
 have hll:=hl.1
 have hN40:=hE.n40
 intro m
 induction m with
 | zero =>
  intro k q c v d hq hk hv _
  obtain⟨k,rfl⟩:∃ k',k=k'+1:=⟨k - 1,by omega⟩
  rw[dqO (by omega)]
  refine⟨v,?_,?_,hv⟩
  ·show ziS S3 l (zee S3 l k) c (q : Int) v = _
   unfold ziS
   rw[dqF (show ¬ (q:Int) < (l.len:Int) by omega),dqB];rfl
  ·show ziT P3 l (zef P3 l k) c (q : Int) v = _
   unfold ziT
   rw[dqF (show ¬ (q:Int) < (l.len:Int) by omega),dqB];rfl
 | succ m ih =>
  intro k q c v d hq hk hv hi
  obtain⟨k,rfl⟩:∃ k',k=k'+1:=⟨k - 1,by omega⟩
  have hw:w64 ((q:Int)+(1:Int))=((q+1:Nat):Int):=by rw[zb9 (by omega) (by omega)];omega
  obtain⟨e1,e2,e3,hy⟩:=zBG hl (show q < L.length by omega) (λ y hy=>(hLN y hy).1)
  have hmE:=(hLN L[q] (List.getElem_mem (by omega))).2
  rw[dqR (by omega:q < L.length)]
  generalize L[q]=y at *
  have f0:=hy.f0;have f1:=hy.f1;have t0:=hy.t0;have t1:=hy.t1;have l0:=hy.l0;have l1:=hy.l1
  have hvl:=hv.len
  have af:=hv.at_ y.from_.toNat (by omega)
  have at_:=hv.at_ y.to.toNat (by omega)
  have hin:=zn5 (Src:=λ v=>v=s) hn (s:=(d,c)) (e:=edS y) hmE hi
  have hbT:∀ x,d y.to.toNat=some x->-40000000000<=x/\x<=40000000000:=λ x hx=>zFn hE hs hi hx
  have hS:zee S3 l (k+1) c (q:Int) v=cond (v.get y.from_.toNat != (1000000000000:Int)) (cond (decide (w64 (v.get y.from_.toNat+y.length) < v.get y.to.toNat)) (zee S3 l k true ((q+1:Nat):Int) (⟨v.len,setT y.to.toNat (w64 (v.get y.from_.toNat+y.length)) v.get⟩:Sl Int)) (zee S3 l k c ((q+1:Nat):Int) v)) (zee S3 l k c ((q+1:Nat):Int) v):=by
   rw[<- hw]
   show ziS S3 l (zee S3 l k) c (q:Int) v=_
   generalize zee S3 l k=S
   unfold ziS
   rw[dqT (show (q:Int) < (l.len:Int) by omega),dqA,dqN,e1,e2,e3]
  have hP:zef P3 l (k+1) c (q:Int) v=cond (v.get y.from_.toNat != (1000000000000:Int)) (cond (decide (w64 (v.get y.from_.toNat+y.length) < v.get y.to.toNat)) (zef P3 l k true ((q+1:Nat):Int) (⟨v.len,setT y.to.toNat (w64 (v.get y.from_.toNat+y.length)) v.get⟩:Sl Int)) (zef P3 l k c ((q+1:Nat):Int) v)) (zef P3 l k c ((q+1:Nat):Int) v):=by
   rw[<- hw]
   show ziT P3 l (zef P3 l k) c (q:Int) v=_
   generalize zef P3 l k=S
   unfold ziT
   simp only[dqN,e1,e2,e3]
   rw[dqT (show (q:Int) < (l.len:Int) by omega),dqA,dqT (show 0<=(q:Int)/\(q:Int) < (l.len:Int) by omega),dqT (show 0<=y.from_/\y.from_ < (v.len:Int) by omega),dqT (show y.from_.toNat < v.len by omega),dqT (show 0<=y.to/\y.to < (v.len:Int) by omega),dqT (show y.to.toNat < v.len by omega)]
   cases (v.get y.from_.toNat != (1000000000000:Int)) <;> cases decide (w64 (v.get y.from_.toNat+y.length) < v.get y.to.toNat) <;> rfl
  rw[hS,hP]
  show ∃ v',_=S3 (((L.drop (q+1)).map edS).foldl rlF (rlF (d,c) (edS y))).2 v'/\_=P3 (((L.drop (q+1)).map edS).foldl rlF (rlF (d,c) (edS y))).2 v'/\Rq N v' (((L.drop (q+1)).map edS).foldl rlF (rlF (d,c) (edS y))).1
  cases hdu:d y.from_.toNat with
  | none =>
   rw[hdu] at af
   have hr:rlF (d,c) (edS y)=(d,c):=by
    unfold rlF edS
    simp only[hdu]
   rw[hr,show (v.get y.from_.toNat != (1000000000000:Int))=false by rw[af];rfl]
   simp only[dqB]
   exact ih k (q+1) c v d (by omega) (by omega) hv hi
  | some x =>
   have hbx:=zFn hE hs hi hdu
   rw[hdu] at af
   have af':v.get y.from_.toNat=x:=af
   have hne:x ≠ 1000000000000:=by omega
   have hr:rlF (d,c) (edS y)=cond (ltO (x+y.length) (d y.to.toNat)) (zjw d y.to.toNat (x+y.length),true) (d,c):=by
    unfold rlF edS
    simp only[hdu] <;> rfl
   have hlt:decide (x+y.length < v.get y.to.toNat)=ltO (x+y.length) (d y.to.toNat):=by
    rw[at_]
    cases hdv:d y.to.toNat with
    | none=>exact dqT (show x+y.length < 1000000000000 by omega)
    | some z=>rfl
   rw[af',bne_iff_ne.2 hne,zb9 (x:=x+y.length) (by omega) (by omega),hlt]
   simp only[dqA]
   rw[hr] at hin ⊢
   cases hlo:ltO (x+y.length) (d y.to.toNat) with
   | false =>
    simp only[dqB]
    exact ih k (q+1) c v d (by omega) (by omega) hv hi
   | true =>
    rw[hlo] at hin
    simp only[dqA] at hin ⊢
    refine ih k (q+1) true _ _ (by omega) (by omega) ⟨hvl,λ i hi'=>?_⟩ hin
    show setT y.to.toNat (x+y.length) v.get i=zNl (zjw d y.to.toNat (x+y.length) i)
    rw[zlp]
    unfold zjw
    by_cases h:i=y.to.toNat
    ·rw[dqP h,dqP h];rfl
    ·rw[dqG h,dqG h];exact hv.at_ i hi'
end Go.Proofs
namespace Go.Proofs
open Go Go.Pm
set_option maxRecDepth 100000
set_option linter.unusedVariables false
theorem zr8 (n:Net) (l:Sl Step) (hl:IsL l (Ws (W n))) (hnet:NetOk n) (hn:zbt (En n)) {s:Nat}(hs:s < n.Nodes.toNat):∀ (m k:Nat) (v:Sl Int) (d:zbO),Rq n.Nodes.toNat v d->Inv (En n) (λ v=>v=s) d->Fix (En n) (rds (En n) m d)->m+1 < k ->
  zdm l k true v=true/\Rq n.Nodes.toNat (zdb l k true v) (rds (En n) m d):=by
 have hlen:=hnet.len
 have hE:EdOk (En n) n.Nodes.toNat:=zr3 (a:=W n) hnet
 have hL:(Ws (W n)).length<=400:=zBk (a:=W n) hnet
 have one:∀ (k:Nat) (v:Sl Int) (d:zbO),Rq n.Nodes.toNat v d->Inv (En n) (λ v=>v=s) d ->
   ∃ v',zdb l (k+1) true v=zdb l k ((En n).foldl rlF (d,false)).2 v'/\zdm l (k+1) true v=zdm l k ((En n).foldl rlF (d,false)).2 v'/\Rq n.Nodes.toNat v' (rnd (En n) d):=by
  intro k v d h1 h2
  obtain⟨v',k1,k2,k3⟩:=zJQ n hE hn hs l (Ws (W n)) hl (λ y hy=>⟨zJZ (a:=W n) hnet hy,List.mem_map_of_mem hy⟩) (by omega) (zdb l k) (zdm l k) (Ws (W n)).length Fuel 0 false v d (by omega) (by simp only[Fuel];omega) h1 h2
  rw[List.drop_zero] at k1 k2 k3
  have e1:zdb l (k+1) true v=zee (zdb l k) l Fuel false ((0:Nat):Int) v:=by
   show zlf l (zdb l k) true v=_
   generalize zdb l k=S
   unfold zlf zrp
   rw[dqA];rfl
  have e2:zdm l (k+1) true v=zef (zdm l k) l Fuel false ((0:Nat):Int) v:=by
   show zlg l (zdm l k) true v=_
   generalize zdm l k=S
   unfold zlg zrq
   rw[dqA];rfl
  exact⟨v',e1.trans k1,e2.trans k2,k3⟩
 have stop:∀ (k:Nat) (v:Sl Int),zdb l (k+1) false v=v/\zdm l (k+1) false v=true:=λ k v=>by
  constructor
  ·show zlf l (zdb l k) false v = v
   generalize zdb l k=S
   rfl
  ·show zlg l (zdm l k) false v = true
   generalize zdm l k=S
   rfl
 intro m
 induction m with
 | zero =>
  intro k v d h1 h2 h3 hk
  obtain⟨k,rfl⟩:∃ k',k=k'+1+1:=⟨k - 2,by omega⟩
  obtain⟨v',k1,k2,k3⟩:=one (k+1) v d h1 h2
  have h3':Fix (En n) d:=h3
  rw[zjO h3'] at k1 k2
  rw[zlk h3'] at k3
  obtain⟨j1,j2⟩:=stop k v'
  refine⟨k2.trans j2,?_⟩
  rw[k1.trans j1];exact k3
 | succ m ih =>
  intro k v d h1 h2 h3 hk
  obtain⟨k,rfl⟩:∃ k',k=k'+1+1:=⟨k - 2,by omega⟩
  obtain⟨v',k1,k2,k3⟩:=one (k+1) v d h1 h2
  cases hf:((En n).foldl rlF (d,false)).2 with
  | false =>
   rw[hf] at k1 k2
   have hx:Fix (En n) d:=zi4 hf
   obtain⟨j1,j2⟩:=stop k v'
   refine⟨k2.trans j2,?_⟩
   rw[k1.trans j1,zBb hx]
   rw[zlk hx] at k3;exact k3
  | true =>
   rw[hf] at k1 k2
   obtain⟨m1,m2⟩:=ih (k+1) v' (rnd (En n) d) k3 (zn6 hn (λ _ h=>h) (s:=(d,false)) h2) h3 (by omega)
   refine⟨k2.trans m1,?_⟩
   rw[k1];exact m2
theorem zBH (n:Net) (a:Int) (l:Sl Step):∀ (m k i:Nat) (v:Sl Int),(v.len:Int)=n.Nodes->n.Nodes<=40->(∀ j,j < i->v.get j=1000000000000)->(i:Int)+m=n.Nodes->m < k ->
  ∃ v',ziW n a l k (i:Int) v=zrt a l v'/\ziX n a l k (i:Int) v=znM a l v'/\v'.len=v.len/\∀ j,j < v.len->v'.get j=1000000000000:=by
 intro m
 induction m with
 | zero =>
  intro k i v hv h40 h hi hk
  obtain⟨k,rfl⟩:∃ k',k=k'+1:=⟨k - 1,by omega⟩
  refine⟨v,?_,?_,rfl,λ j hj=>h j (by omega)⟩
  ·show ziU n a l (ziW n a l k) (i : Int) v = _
   unfold ziU
   rw[dqF (show ¬ (i:Int) < n.Nodes by omega),dqB]
  ·show ziV n a l (ziX n a l k) (i : Int) v = _
   unfold ziV
   rw[dqF (show ¬ (i:Int) < n.Nodes by omega),dqB]
 | succ m ih =>
  intro k i v hv h40 h hi hk
  obtain⟨k,rfl⟩:∃ k',k=k'+1:=⟨k - 1,by omega⟩
  have hw:w64 ((i:Int)+(1:Int))=((i+1:Nat):Int):=by rw[zb9 (by omega) (by omega)];omega
  obtain⟨v',k1,k2,k3,k4⟩:=ih k (i+1) (⟨v.len,setT i (1000000000000:Int) v.get⟩:Sl Int) hv h40 (λ j hj=>by
   show setT i (1000000000000:Int) v.get j=_
   rw[zlp]
   by_cases hq:j=i
   ·rw[dqP hq]
   ·rw[dqG hq];exact h j (by omega)) (by omega) (by omega)
  refine⟨v',?_,?_,k3,k4⟩
  ·rw [← k1]
   show ziU n a l (ziW n a l k) (i:Int) v=_
   unfold ziU
   rw[dqT (show (i:Int) < n.Nodes by omega),dqA,dqN,hw]
  ·rw [← k2]
   show ziV n a l (ziX n a l k) (i:Int) v=_
   unfold ziV
   rw[dqT (show (i:Int) < n.Nodes by omega),dqA,dqN,hw,dqT (show 0<=(i:Int)/\(i:Int) < (v.len:Int) by omega),dqT (show i < v.len by omega)];rfl
theorem zFo {n:Net}(hn:NetOk n) (hN:zbt (En n)) {a:Int}(h0:0<=a) (h1:a < n.Nodes):p46 n a=true/\(s46 n a).len=n.Nodes.toNat/\∀ j,j < n.Nodes.toNat->(s46 n a).get j=fr n a.toNat j:=by
 have hlen:=hn.len;have hn1:=hn.n1;have hn40:=hn.n40
 have hE:EdOk (En n) n.Nodes.toNat:=zr3 (a:=W n) hn
 have hs:a.toNat < n.Nodes.toNat:=by omega
 have hq:=(zt7 n (by omega)).1
 obtain⟨v1,a1,a2,a3,a4⟩:=zBH n a (s77 n) n.Nodes.toNat Fuel 0 (⟨n.Nodes.toNat,(λ _=>(0:Int))⟩:Sl Int) (by show ((n.Nodes.toNat:Nat):Int)=_;omega) hn40 (λ j hj=>absurd hj (dqW _)) (by omega) (by simp only[Fuel];omega)
 have a3':v1.len=n.Nodes.toNat:=a3
 have hr:Rq n.Nodes.toNat (⟨v1.len,setT a.toNat (0:Int) v1.get⟩:Sl Int) (zt4 a.toNat):=⟨a3',λ i hi=>by
  show setT a.toNat (0:Int) v1.get i=zNl (zt4 a.toNat i)
  rw[zlp]
  unfold zt4
  by_cases h:i=a.toNat
  ·rw[dqP h,dqP h];rfl
  ·rw[dqG h,dqG h];exact a4 i hi⟩
 obtain⟨b1,b2⟩:=zr8 n (s77 n) (zt7 n (by omega)).2 hn hN hs (n.Nodes.toNat - 1) Fuel (⟨v1.len,setT a.toNat (0:Int) v1.get⟩:Sl Int) (zt4 a.toNat) hr (ze0 (zd2 a.toNat)) (zBF hE hN hs) (by simp only[Fuel];omega)
 have e:s46 n a=zdb (s77 n) Fuel true (⟨v1.len,setT a.toNat (0:Int) v1.get⟩:Sl Int):=by
  show ziW n a (s77 n) Fuel 0 (⟨n.Nodes.toNat,(λ _=>(0:Int))⟩:Sl Int)=_
  exact Eq.trans a1 rfl
 refine⟨?_,?_,λ j hj=>?_⟩
 ·unfold p46 zru
  rw[hq,dqT (show 0<=n.Nodes/\n.Nodes=n.Nodes/\n.Nodes<=1000000 from ⟨by omega,rfl,by omega⟩)]
  show ziX n a (s77 n) Fuel 0 (⟨n.Nodes.toNat,(λ _=>(0:Int))⟩:Sl Int)=true
  refine Eq.trans a2 ?_
  unfold znM zrr
  rw[dqT (show 0<=a/\a < (v1.len:Int) by omega),dqT (show a.toNat < v1.len by omega),Bool.true_and,Bool.true_and]
  exact b1
 ·rw[e];exact b2.len
 ·rw [e, b2.at_ j hj]
  exact zJP hE hN hs
theorem zM3 {n:Net}(hn:NetOk n) (hN:zbt (En n)) {i j:Int}(hi:0<=i/\i < n.Nodes) (hj:0<=j/\j < n.Nodes):p34 n i j=true/\s34 n i j=⟨-fr n j.toNat i.toNat,fr n i.toNat j.toNat⟩:=by
 obtain⟨a1,a2,a3⟩:=zFo hn hN hj.1 hj.2
 obtain⟨b1,b2,b3⟩:=zFo hn hN hi.1 hi.2
 have hb:=zDP hn hN (i:=j.toNat) (j:=i.toNat) (by omega)
 unfold p34 s34
 rw[a1,b1,a2,b2,a3 i.toNat (by omega),b3 j.toNat (by omega),zb9 (by omega) (by omega)]
 constructor
 ·rw[dqT (show 0<=i/\i < (n.Nodes.toNat:Int) by omega),dqT (show 0<=j/\j < (n.Nodes.toNat:Int) by omega)];rfl
 ·rw[show (0:Int) - fr n j.toNat i.toNat = -fr n j.toNat i.toNat by omega]
end Go.Proofs
namespace Go.Proofs
open Go Go.Pm
set_option maxRecDepth 100000
set_option linter.unusedVariables false
attribute [local irreducible] Go.Pm.vcFun Go.Pm.vc Go.Pm.vcIter
end Go.Proofs
namespace Go.Proofs
open Go Go.Pm
set_option maxRecDepth 100000
set_option linter.unusedVariables false
theorem zuY {n : Net} {t : Tie} (hn : NetOk n) (ht : TieOk t n.Nodes) (hN : zbt (En n)) :
  (p79 (W n) t=true/\p37 n t=true/\s79 (W n) t=s37 n t)/\(s37 n t=true↔(t.Low = -1000000000000\/fr n t.To.toNat t.From.toNat<=-t.Low)/\(t.High=1000000000000\/fr n t.From.toNat t.To.toNat<=t.High)):=by
 have hn40:=hn.n40
 have f0:=ht.f0;have f1:=ht.f1;have t0:=ht.t0;have t1:=ht.t1
 obtain⟨a1,a2⟩:=zBp hn hN f0 f1 (j:=t.To.toNat) (by omega)
 obtain⟨b1,b2⟩:=zBp hn hN t0 t1 (j:=t.From.toNat) (by omega)
 obtain⟨q1,q2⟩:=zM3 hn hN ⟨f0,f1⟩ ⟨t0,t1⟩
 have e1:0+t.From.toNat * 2+0=t.From.toNat * 2:=by omega
 have e2:0+t.To.toNat * 2+0=t.To.toNat * 2:=by omega
 have hlo:=ht.lo
 have hw:w64 (0 - t.Low) = -t.Low:=by rw[zb9 (by omega) (by omega)];omega
 have hd:decide (-fr n t.To.toNat t.From.toNat >= t.Low)=decide (fr n t.To.toNat t.From.toNat<=-t.Low):=decide_eq_decide.2 (by omega)
 unfold p79 s79 p37 s37
 rw[q1,q2,e1,e2,zh3 (by omega),zh3 (by omega),a2,b2,a1,b1,hw,dqT (show 0<=t.From/\t.From < (40:Int) by omega),dqT (show 0<=t.To/\t.To < (40:Int) by omega)]
 show (_/\_/\_=cond _ _ (cond (decide (-fr n t.To.toNat t.From.toNat >= t.Low)) _ _))/\(cond _ _ (cond (decide (-fr n t.To.toNat t.From.toNat >= t.Low)) _ _)=true↔_)
 rw[hd]
 have hR:((t.Low = -1000000000000\/fr n t.To.toNat t.From.toNat<=-t.Low)/\(t.High=1000000000000\/fr n t.From.toNat t.To.toNat<=t.High))↔(((t.Low == (-1000000000000:Int)) || decide (fr n t.To.toNat t.From.toNat<=-t.Low)) && ((t.High == (1000000000000:Int)) || decide (fr n t.From.toNat t.To.toNat<=t.High)))=true:=by
  simp only[dqm,Bool.or_eq_true,beq_iff_eq,decide_eq_true_eq]
 rw[hR]
 show (_/\_/\_=cond _ (cond _ _ (decide (fr n t.From.toNat t.To.toNat<=t.High))) (cond _ (cond _ _ (decide (fr n t.From.toNat t.To.toNat<=t.High))) _))/\(cond _ (cond _ _ (decide (fr n t.From.toNat t.To.toNat<=t.High))) (cond _ (cond _ _ (decide (fr n t.From.toNat t.To.toNat<=t.High))) _)=true↔_)
 generalize decide (fr n t.To.toNat t.From.toNat<=-t.Low)=x1
 generalize decide (fr n t.From.toNat t.To.toNat<=t.High)=x2
 generalize (t.Low == (-1000000000000:Int))=x3
 generalize (t.High == (1000000000000:Int))=x4
 cases x1 <;> cases x2 <;> cases x3 <;> cases x4 <;> simp
end Go.Proofs
namespace Go.Proofs
open Go Go.Pm
set_option maxRecDepth 100000
set_option linter.unusedVariables false
theorem Fo.congr {f f':Nat->Nat->Int}{t:Tie}{N:Nat}(hf:t.From.toNat < N) (ht:t.To.toNat < N) (h:∀ i j,i < N->f i j=f' i j):Fo f t↔Fo f' t :=
 ⟨λ k=>k.mono hf ht λ i j hi=>Int.le_of_eq (h i j hi).symm,λ k=>k.mono hf ht λ i j hi=>Int.le_of_eq (h i j hi)⟩
theorem zFp {a:web}{t:Tie}(ha:NetOk a.Net) (hN:zbt (We a)) (ht:TieOk t a.Net.Nodes):p79 a t=true/\(s79 a t=true↔Fo (fa a) t):=by
 have hn40:=ha.n40
 have f0:=ht.f0;have f1:=ht.f1;have t0:=ht.t0;have t1:=ht.t1;have hlo:=ht.lo
 obtain⟨a1,a2⟩:=zBo a ha hN t.From f0 f1
 obtain⟨b1,b2⟩:=zBo a ha hN t.To t0 t1
 have a2:s76 a t.From (t.To.toNat * 2)=fa a t.From.toNat t.To.toNat:=(Prod.mk.inj (a2 t.To.toNat (by omega))).1
 have b2:s76 a t.To (t.From.toNat * 2)=fa a t.To.toNat t.From.toNat:=(Prod.mk.inj (b2 t.From.toNat (by omega))).1
 have e1:0+t.From.toNat * 2+0=t.From.toNat * 2:=by omega
 have e2:0+t.To.toNat * 2+0=t.To.toNat * 2:=by omega
 have hw:w64 (0 - t.Low) = -t.Low:=by rw[zb9 (by omega) (by omega)];omega
 unfold p79 s79
 rw[e1,e2,zh3 (by omega),zh3 (by omega),a2,b2,a1,b1,hw,dqT (show 0<=t.From/\t.From < (40:Int) by omega),dqT (show 0<=t.To/\t.To < (40:Int) by omega)]
 have hR:Fo (fa a) t↔(((t.Low == (-1000000000000:Int)) || decide (fa a t.To.toNat t.From.toNat<=-t.Low)) && ((t.High == (1000000000000:Int)) || decide (fa a t.From.toNat t.To.toNat<=t.High)))=true:=by
  unfold Fo
  simp only[dqm,Bool.or_eq_true,beq_iff_eq,decide_eq_true_eq]
 rw[hR]
 show _/\(cond _ (cond _ _ (decide (fa a t.To.toNat t.From.toNat<=-t.Low))) (cond (decide (fa a t.From.toNat t.To.toNat<=t.High)) _ _)=true↔_)
 generalize decide (fa a t.To.toNat t.From.toNat<=-t.Low)=x1
 show (cond _ (cond _ _ _) (_ && (_ && cond (decide (fa a t.From.toNat t.To.toNat<=t.High)) _ _)))=true/\_
 generalize decide (fa a t.From.toNat t.To.toNat<=t.High)=x2
 generalize (t.Low == (-1000000000000:Int))=x3
 generalize (t.High == (1000000000000:Int))=x4
 cases x1 <;> cases x2 <;> cases x3 <;> cases x4 <;> simp
theorem zFq {m:Net}{t:Tie}(hm:NetOk m) (hN:zbt (En m)) (ht:TieOk t m.Nodes):p35 m t=true/\∃ b,s35 m t=(b,(0:Int))/\(b=true↔Fo (fr m) t):=by
 have hl:=hm.len
 obtain⟨a1,a2⟩:=zrZ m (by omega)
 obtain⟨w0,_,_,_,w4⟩:=zob m (⟨0,λ _=>default⟩:Sl Int) (by decide) (by omega)
 obtain⟨c1,c2⟩:=zFp (a:=W m) hm hN ht
 unfold p35 s35
 rw[a1,a2.2 hm,(zrY t m.Nodes hm.n1 hm.n40).2 ht]
 simp only[decide_true,Bool.true_and,Bool.not_true,dqB]
 unfold zrn zrm
 rw[w0,w4 hm (λ i hi=>absurd hi (dqW _)) hN]
 refine⟨?_,s79 (W m) t,rfl,c2⟩
 show (true && (cond false true (decide (p79 (W m) t=true) && true)))=true
 rw[c1];rfl
abbrev Kp (n:Net) (g:Nat->Bool):List Nat:=(List.range n.Ties.len).filter λ j=>!g j
noncomputable abbrev G (n:Net):Nat->Bool:=grG n n.Ties.len λ _=>false
theorem zFr (n:Net) (g:Nat->Bool):(Kp n g).length<=n.Ties.len:=by
 have:=List.length_filter_le (λ j=>!g j) (List.range n.Ties.len)
 rw[List.length_range] at this;exact this
theorem zoc {n:Net}{g g':Nat->Bool}(h:∀ j,j < n.Ties.len->g j=g' j):Kp n g=Kp n g' :=
 List.filter_congr λ j hj=>by rw[h j (List.mem_range.1 hj)]
/-! the program -/
def dn (n : Net) : Nat → List (Int × Tie)
  | 0=>[]
  | k+1=>((k:Int),n.Ties.get k) :: dn n k
theorem zJR (n:Net) (hl:n.Ties.len<=1000000):zMt n.Ties=true/\zIS n.Ties=dn n n.Ties.len:=by
 have key:∀ (k fu:Nat) (i:Int),i=(k:Int) - 1->k<=n.Ties.len->k < fu->zeG n.Ties fu i=true/\zeF n.Ties fu i=dn n k:=by
  intro k
  induction k with
  | zero =>
   intro fu i hi _ hf
   obtain⟨fu,rfl⟩:∃ q,fu=q+1:=⟨fu - 1,by omega⟩
   constructor
   ·show zft n.Ties (zeG n.Ties fu) i = true
    unfold zft
    rw[dqF (show ¬ i >= (0:Int) by omega),dqB]
   ·show zfs n.Ties (zeF n.Ties fu) i = []
    unfold zfs
    rw[dqF (show ¬ i >= (0:Int) by omega),dqB]
  | succ k ih =>
   intro fu i hi hk hf
   obtain⟨fu,rfl⟩:∃ q,fu=q+1:=⟨fu - 1,by omega⟩
   obtain⟨h1,h2⟩:=ih fu (i - 1) (by omega) (by omega) (by omega)
   have hw:w64 (i - (1:Int))=i - 1:=zb9 (by omega) (by omega)
   constructor
   ·show zft n.Ties (zeG n.Ties fu) i = true
    unfold zft
    rw[dqT (show i >= (0:Int) by omega),dqA,dqT (show 0<=i/\i < (n.Ties.len:Int) by omega),hw,h1];rfl
   ·show zfs n.Ties (zeF n.Ties fu) i = _
    unfold zfs
    rw[dqT (show i >= (0:Int) by omega),dqA,hw,h2,show i=(k:Int) by omega];rfl
 exact key n.Ties.len Fuel _ (zb9 (by omega) (by omega)) (dqt _) (by simp only[Fuel];omega)
def zr9 (F:List Int->Option (List Int)) (j:Nat):Bool:=(zlw (F [(j:Int)]) 0) != 0
theorem zDT (F:List Int->Option (List Int)) (k j:Nat):zr9 (zcV [(k:Int)] [1] F) j=(j == k || zr9 F j):=by
 show ((zlw (match decide ([(j:Int)]=[(k:Int)]) with | true=>some [1] | false=>F [(j:Int)]) 0) != 0)=_
 by_cases h:j=k
 ·rw[show decide ([(j:Int)]=[(k:Int)])=true by rw[h];simp,h];simp[zlw]
 ·rw[show decide ([(j:Int)]=[(k:Int)])=false by simp;omega,show (j == k)=false by simp[h]];rfl
theorem zDU (F:List Int->Option (List Int)) (k j:Nat):zr9 (zug [(k:Int)] (zcV [(k:Int)] [1] F)) j=(!(j == k) && zr9 F j):=by
 show ((zlw (match decide ([(j:Int)]=[(k:Int)]) with | true=>none | false=>(match decide ([(j:Int)]=[(k:Int)]) with | true=>some [1] | false=>F [(j:Int)])) 0) != 0)=_
 by_cases h:j=k
 ·rw[show decide ([(j:Int)]=[(k:Int)])=true by rw[h];simp,h];simp[zlw]
 ·rw[show decide ([(j:Int)]=[(k:Int)])=false by simp;omega,show (j == k)=false by simp[h]];rfl
section
variable {n:Net}(hn:NetOk n) (hN:zbt (En n))
include hn hN in
theorem zls:∀ (k:Nat) (g:Nat->Bool) (N:Nat) (F:List Int->Option (List Int)),k<=n.Ties.len->(∀ j,j < n.Ties.len->zr9 F j=g j)->(∀ j,j < k->g j=false) ->
  ∃ N' F',(∀ j,j < n.Ties.len->zr9 F' j=grG n k g j)/\zlc n (dn n k) N F=zAM n N' F'/\zld n (dn n k) N F=zAN n N' F'
 | 0,g,N,F,hk,hF,h0=>⟨N,F,hF,rfl,rfl⟩
 | k+1,g,N,F,hk,hF,h0=>by
  have ht:=hn.tie k (by omega)
  let a:web:=⟨n,⟨addN (F [(k:Int)]) N,zcV [(k:Int)] [1] F⟩⟩
  have hout:∀ j,j < n.Ties.len->zpA a j=zpA (wg n (setB g k)) j:=λ j hj=>by
   rw[ze2]
   show zr9 (zcV [(k:Int)] [1] F) j=_
   rw[zDT,hF j hj];rfl
  have hNa:zbt (We a):=ze1 (zlq (a:=a) (b:=wg n (setB g k)) hn rfl λ j hj e=>by rw[hout j hj];exact e) (zfu hn hN _)
  obtain⟨c1,c2⟩:=zFp (a:=a) hn hNa ht
  have f0:=ht.f0;have f1:=ht.f1;have t0:=ht.t0;have t1:=ht.t1
  have c3:Fo (fa a) (n.Ties.get k)↔Fo (fa (wg n (setB g k))) (n.Ties.get k):=Fo.congr (N:=n.Nodes.toNat) (by omega) (by omega) λ i j hi=>(zBr (a:=a) (b:=wg n (setB g k)) hn rfl (zfu hn hN _) (λ j hj=>(hout j hj).symm) hi j).symm
  by_cases hf:Fo (fa (wg n (setB g k))) (n.Ties.get k)
  ·obtain ⟨N', F', h1, h2, h3⟩ := zls k (setB g k) (addN (F [(k : Int)]) N) (zcV [(k : Int)] [1] F) (by omega) (fun j hj => by have := hout j hj; rw [ze2] at this; exact this) (fun j hj => by simp [setB, h0 j (by omega), show ¬ j = k by omega])
   have hs:s79 a (n.Ties.get k)=true:=c2.2 (c3.2 hf)
   refine⟨N',F',λ j hj=>?_,?_,?_⟩
   ·rw [h1 j hj]; show _ = grG n k (stG n g k) j
    unfold stG;rw[dqP hf]
   ·show ziQ n ((k : Int), n.Ties.get k) (zlc n (dn n k)) N F = _
    unfold ziQ
    show cond (!(s79 a (n.Ties.get k))) _ _=_
    rw[hs];exact h2
   ·show ziR n ((k : Int), n.Ties.get k) (zld n (dn n k)) N F = _
    unfold ziR
    show (decide (p79 a (n.Ties.get k)=true) && cond (!(s79 a (n.Ties.get k))) _ _)=_
    rw[hs,c1,dqT (show true=true from rfl),Bool.true_and];exact h3
  ·obtain⟨N',F',h1,h2,h3⟩:=zls k g (zu7 ((zcV [(k:Int)] [1] F) [(k:Int)]) (addN (F [(k:Int)]) N)) (zug [(k:Int)] (zcV [(k:Int)] [1] F)) (by omega) (λ j hj=>by
    rw[zDU,hF j hj]
    by_cases h:j=k
    ·rw[h,h0 k (by omega)];simp
    ·simp[h]) (λ j hj=>h0 j (by omega))
   have hs:s79 a (n.Ties.get k)=false:=Bool.eq_false_iff.2 λ e=>hf (c3.1 (c2.1 e))
   refine⟨N',F',λ j hj=>?_,?_,?_⟩
   ·rw [h1 j hj]; show _ = grG n k (stG n g k) j
    unfold stG;rw[dqG hf]
   ·show ziQ n ((k : Int), n.Ties.get k) (zlc n (dn n k)) N F = _
    unfold ziQ
    show cond (!(s79 a (n.Ties.get k))) _ _=_
    rw[hs];exact h2
   ·show ziR n ((k : Int), n.Ties.get k) (zld n (dn n k)) N F = _
    unfold ziR
    show (decide (p79 a (n.Ties.get k)=true) && cond (!(s79 a (n.Ties.get k))) _ _)=_
    rw[hs,c1,dqT (show true=true from rfl),Bool.true_and];exact h3
include hn hN in
theorem zM4:p58 n=true/\∃ v,IsP v ((Kp n (G n)).map λ (j:Nat)=>(j:Int))/\s58 n=(v,(0:Int)):=by
  have hl:=hn.len
  obtain⟨w0,_,_,_,w4⟩:=zob n (⟨0,λ _=>default⟩:Sl Int) (by decide) (by omega)
  obtain⟨d1,d2⟩:=zJR n (by omega)
  obtain⟨N',F',h1,h2,h3⟩:=zls hn hN n.Ties.len (λ _=>false) 0 (λ _=>none) (dqt _) (λ j _=>rfl) (λ _ _=>rfl)
  obtain ⟨v, hv, k1, k2⟩ := zh4 (α := Int) (β := Sl Int × Int) (fun j => (j : Int)) (fun j => !zr9 F' j) (n := n.Ties.len) (E := fun v => (v, (0:Int))) (EP := fun _ => true) (lpS := fun k v i => zho n k i v N' F') (lpP := fun k v i => zhp n k i v N' F')
    (λ k i v hi hv=>by
      show ziO n (zho n k) (i:Int) v N' F'=zho n k (w64 ((i:Int)+(1:Int))) _ N' F'
      generalize zho n k=S
      unfold ziO stP
      rw[dqT (show (i:Int) < (n.Ties.len:Int) by omega),dqA]
      show cond (!zr9 F' i) _ _=S _ (cond (!zr9 F' i) _ _) _ _
      cases (!zr9 F' i) <;> rfl)
    (λ k v=>by
      show ziO n (zho n k) (n.Ties.len:Int) v N' F'=_
      unfold ziO
      rw[dqF (show ¬ (n.Ties.len:Int) < (n.Ties.len:Int) by omega),dqB])
    (λ k i v hi hv=>by
      show ziP n (zhp n k) (i:Int) v N' F'=zhp n k (w64 ((i:Int)+(1:Int))) _ N' F'
      generalize zhp n k=S
      unfold ziP stP
      rw[dqT (show (i:Int) < (n.Ties.len:Int) by omega),dqA,dqT (show (v.len+1) * 8<=140737488355328/\v.len+1<=9223372036854775807 by omega)]
      show cond (!zr9 F' i) _ _=S _ (cond (!zr9 F' i) _ _) _ _
      cases (!zr9 F' i) <;> rfl)
    (λ k v=>by
      show ziP n (zhp n k) (n.Ties.len:Int) v N' F'=_
      unfold ziP
      rw[dqF (show ¬ (n.Ties.len:Int) < (n.Ties.len:Int) by omega),dqB])
    (by omega)
  have e1:zle n 0 (λ _=>none)=true:=by
    unfold zle
    rw[d1,d2,h3];exact k1
  have e2:znL n 0 (λ _=>none)=(v,0):=by
    unfold znL
    rw[d2,h2];exact k2
  unfold p58 s58
  rw[w0,w4 hn (λ i hi=>absurd hi (dqW _)) hN]
  refine⟨?_,v,?_,e2⟩
  · show (true && cond false true (zle n 0 fun _ => none)) = true
    rw[e1];rfl
  · rw[zoc (g:=G n) (g':=zr9 F') λ j hj=>(h1 j hj).symm];exact hv
/-! the reference -/
include hn hN in
theorem zod:∀ (k fu:Nat) (i:Int) (g:Nat->Bool) (v:Sl Int) (L:List Int),i=(k:Int) - 1->k < fu->k+L.length<=n.Ties.len->IsP v L->(∀ j,j < n.Ties.len->decide ((j:Int)∈L)=g j)->(∀ j,j < k->g j=false) ->
  ∃ v' L',IsP v' L'/\L'.length<=n.Ties.len/\(∀ j,j < n.Ties.len->decide ((j:Int)∈L')=grG n k g j)/\zi0 n fu i v=zrC n v'/\zi1 n fu i v=zrD n v'
 | 0,fu,i,g,v,L,hi,hf,hk,hv,hg,h0=>by
  obtain⟨fu,rfl⟩:∃ q,fu=q+1:=⟨fu - 1,by omega⟩
  refine⟨v,L,hv,by omega,hg,?_,?_⟩
  ·show zgn n (zi0 n fu) i v = _
   unfold zgn
   rw[dqF (show ¬ i >= (0:Int) by omega),dqB]
  ·show zgo n (zi1 n fu) i v = _
   unfold zgo
   rw[dqF (show ¬ i >= (0:Int) by omega),dqB]
 | k+1,fu,i,g,v,L,hi,hf,hk,hv,hg,h0=>by
  obtain⟨fu,rfl⟩:∃ q,fu=q+1:=⟨fu - 1,by omega⟩
  have hl:=hn.len
  obtain rfl:i=(k:Int):=by omega
  have ht:=hn.tie k (by omega)
  have hvl:=hv.1
  have hv2:=zBx hv (k:Int)
  have eap:zaw (appG v.len (λ i=>zae (v.get i)) (λ _=>(zae (k:Int))))=zdU v.len v.get (λ _=>(k:Int)):=by rw[zm4];rfl
  obtain⟨m1,m2⟩:=zBz n (by omega) hv2 (by simp;omega)
  have hset:∀ j,j < n.Ties.len->decide ((j:Int)∈L ++ [(k:Int)])=setB g k j:=λ j hj=>by
   show _=(j == k || g j)
   rw[<- hg j hj]
   by_cases h:j=k
   ·rw[dqT (by rw[h];simp),h];simp
   ·rw [show (j == k) = false by simp [h], Bool.false_or]
    exact decide_eq_decide.2 ⟨λ hm=>(dqg.1 hm).resolve_right λ e=>h (by simp at e;omega),λ hm=>dqg.2 (.inl hm)⟩
  have hNm:=m2.noNeg hn hN
  have htm:TieOk (n.Ties.get k) (s27 n ⟨v.len+1,zdU v.len v.get (λ _=>(k:Int))⟩).Nodes:=by rw[m2.nodes];exact ht
  obtain⟨⟨_,q1,_⟩,q2⟩:=zuY (m2.net hn) htm hNm
  have f0:=ht.f0;have f1:=ht.f1;have t0:=ht.t0;have t1:=ht.t1
  have c3:s37 (s27 n ⟨v.len+1,zdU v.len v.get (λ _=>(k:Int))⟩) (n.Ties.get k)=true↔Fo (fa (wg n (setB g k))) (n.Ties.get k) :=
   q2.trans (Fo.congr (f:=fr (s27 n ⟨v.len+1,zdU v.len v.get (λ _=>(k:Int))⟩)) (N:=n.Nodes.toNat) (by omega) (by omega) λ i j hi=>(m2.fr hn hN hi j).trans (zBr (a:=wg n (setB g k)) (b:=wg n λ j=>decide ((j:Int)∈L ++ [(k:Int)])) hn rfl (zfu hn hN _) (λ j hj=>by rw[ze2,ze2];exact hset j hj) hi j))
  have hw:w64 ((k:Int) - (1:Int))=(k:Int) - 1:=zb9 (by omega) (by omega)
  by_cases hf:Fo (fa (wg n (setB g k))) (n.Ties.get k)
  ·obtain ⟨v', L', h1, h2, h3, h4, h5⟩ := zod k fu ((k : Int) - 1) (setB g k) _ _ rfl (by omega) (by simp; omega) hv2 hset (fun j hj => by simp [setB, h0 j (by omega), show ¬ j = k by omega])
   refine⟨v',L',h1,h2,λ j hj=>?_,?_,?_⟩
   ·rw [h3 j hj]; show _ = grG n k (stG n g k) j
    unfold stG;rw[dqP hf]
   ·show zgn n (zi0 n fu) (k : Int) v = _
    unfold zgn znN
    rw[dqT (show (k:Int) >= (0:Int) by omega),dqA,eap,dqN,c3.2 hf,hw,dqA];exact h4
   ·show zgo n (zi1 n fu) (k : Int) v = _
    unfold zgo znO
    rw[dqT (show (k:Int) >= (0:Int) by omega),dqA,eap,dqN,c3.2 hf,hw,dqA,m1,q1,dqT (show v.len * 8<=140737488355328/\v.len<=9223372036854775807 by omega),dqT (show (v.len+1) * 8<=140737488355328/\v.len+1<=9223372036854775807 by omega),dqT (show 0<=(k:Int)/\(k:Int) < (n.Ties.len:Int) by omega)]
    exact h5
  ·obtain ⟨v', L', h1, h2, h3, h4, h5⟩ := zod k fu ((k : Int) - 1) g v L rfl (by omega) (by omega) hv hg (fun j hj => h0 j (by omega))
   have hs:=Bool.eq_false_iff.2 λ e=>hf (c3.1 e)
   refine⟨v',L',h1,h2,λ j hj=>?_,?_,?_⟩
   ·rw [h3 j hj]; show _ = grG n k (stG n g k) j
    unfold stG;rw[dqG hf]
   ·show zgn n (zi0 n fu) (k : Int) v = _
    unfold zgn znN
    rw[dqT (show (k:Int) >= (0:Int) by omega),dqA,eap,dqN,hs,hw,dqB];exact h4
   ·show zgo n (zi1 n fu) (k : Int) v = _
    unfold zgo znO
    rw[dqT (show (k:Int) >= (0:Int) by omega),dqA,eap,dqN,hs,hw,dqB,m1,q1,dqT (show v.len * 8<=140737488355328/\v.len<=9223372036854775807 by omega),dqT (show (v.len+1) * 8<=140737488355328/\v.len+1<=9223372036854775807 by omega),dqT (show 0<=(k:Int)/\(k:Int) < (n.Ties.len:Int) by omega)]
    exact h5
include hn hN in
theorem zM5:p59 n=true/\IsP (s59 n) ((Kp n (G n)).map λ (j:Nat)=>(j:Int)):=by
  have hl:=hn.len
  obtain⟨v',L',h1,h2,h3,h4,h5⟩:=zod hn hN n.Ties.len Fuel ((n.Ties.len:Int) - 1) (λ _=>false) ⟨0,λ _=>default⟩ [] rfl (by simp only[Fuel];omega) (by simp) ⟨rfl,λ k hk=>absurd hk (dqW _)⟩ (λ j hj=>by simp) (λ _ _=>rfl)
  obtain ⟨v, hv, k1, k2⟩ := zh4 (α := Int) (β := Sl Int) (fun j => (j : Int)) (fun j => !decide ((j : Int) ∈ L')) (n := n.Ties.len) (E := fun v => v) (EP := fun _ => true) (lpS := fun k v i => zhq n k i v' v) (lpP := fun k v i => zhr n k i v' v)
    (λ k i v hi hv=>by
      show ziY n (zhq n k) (i:Int) v' v=zhq n k (w64 ((i:Int)+(1:Int))) v' _
      generalize zhq n k=S
      unfold ziY zry stP
      rw[dqT (show (i:Int) < (n.Ties.len:Int) by omega),dqA,(zlr h1 (by omega) (i:Int)).2]
      show cond (!decide ((i:Int)∈L')) _ _=S _ _ (cond (!decide ((i:Int)∈L')) _ _)
      cases (!decide ((i:Int)∈L')) <;> rfl)
    (λ k v=>by
      show ziY n (zhq n k) (n.Ties.len:Int) v' v=_
      unfold ziY
      rw[dqF (show ¬ (n.Ties.len:Int) < (n.Ties.len:Int) by omega),dqB])
    (λ k i v hi hv=>by
      show ziZ n (zhr n k) (i:Int) v' v=zhr n k (w64 ((i:Int)+(1:Int))) v' _
      generalize zhr n k=S
      unfold ziZ zrz stP
      rw[dqT (show (i:Int) < (n.Ties.len:Int) by omega),dqA,(zlr h1 (by omega) (i:Int)).1,(zlr h1 (by omega) (i:Int)).2,dqT (show (v.len+1) * 8<=140737488355328/\v.len+1<=9223372036854775807 by omega)]
      show (_ && cond (!decide ((i:Int)∈L')) _ _)=S _ _ (cond (!decide ((i:Int)∈L')) _ _)
      cases (!decide ((i:Int)∈L')) <;> rfl)
    (λ k v=>by
      show ziZ n (zhr n k) (n.Ties.len:Int) v' v=_
      unfold ziZ
      rw[dqF (show ¬ (n.Ties.len:Int) < (n.Ties.len:Int) by omega),dqB])
    (by omega)
  have hw:w64 ((n.Ties.len:Int) - (1:Int))=(n.Ties.len:Int) - 1:=zb9 (by omega) (by omega)
  constructor
  · unfold p59 zrF
    rw[hw,h5];exact k1
  · have e:s59 n=v:=by
      unfold s59 zrE
      rw[hw,h4];exact k2
    rw[e,zoc (g:=G n) (g':=λ j=>decide ((j:Int)∈L')) λ j hj=>(h3 j hj).symm];exact hv
end
end Go.Proofs
namespace Go.Proofs
open Go Go.Pm
set_option maxRecDepth 100000
set_option linter.unusedVariables false
theorem Pick.congr {n m:Net}{g g':Nat->Bool}(h:∀ j,j < n.Ties.len->g j=g' j) (P:Pick n m g):Pick n m g' :=
 ⟨P.nodes,by
  show IsP m.Ties ((Kp n g').map n.Ties.get)
  rw[<- zoc h];exact P.ties⟩
theorem zO0 {n m : Net} {g : Nat → Bool} (h : Pick n m g) (hn : NetOk n) (hN : zbt (En n)) {q : Nat} (hq : q < m.Ties.len) (hk : q < (Kp n g).length) {i : Nat} (hi : i < n.Nodes.toNat) (j : Nat) :
  fa (wg m λ x=>decide ((x:Int)∈[(q:Int)])) i j=fa (wg n (setB g (Kp n g)[q])) i j:=by
 have hm:=h.net hn
 have hNm:=h.noNeg hn hN
 have hnd:(Kp n g).Nodup:=List.nodup_range.filter _
 have hE:=zr3 (a:=wg m λ x=>decide ((x:Int)∈[(q:Int)])) hm
 rw[show (wg m λ x=>decide ((x:Int)∈[(q:Int)])).Net.Nodes=n.Nodes from h.nodes] at hE
 show zpy (dst _ m.Nodes.toNat i j)=zpy (dst _ n.Nodes.toNat i j)
 rw[h.nodes]
 have hqq:∀ x:Nat,decide ((x:Int)∈[(q:Int)])=decide (x=q):=λ x=>decide_eq_decide.2 ⟨λ e=>by simp at e;omega,λ e=>by rw[e];simp⟩
 refine zpz (zr3 (a:=wg n (setB g (Kp n g)[q])) hn) hE (zfu hm hNm _) hi (λ e he=>?_) (λ e he=>?_)
 ·obtain ⟨x, h1, h2, h3⟩ := (zfD (a := wg n (setB g (Kp n g)[q])) hn).1 he
  rw[ze2] at h2
  have h2:(x == (Kp n g)[q] || g x)=false:=h2
  rw[Bool.or_eq_false_iff] at h2
  obtain⟨y,k1,k2,k3⟩:=h.of h1 h2.2
  obtain⟨_,k4,_⟩:=h.at k1
  refine (zfD (a:=wg m λ x=>decide ((x:Int)∈[(q:Int)])) hm).2 ⟨y,k1,?_,?_⟩
  ·rw [ze2, hqq]
   refine dqF λ e=>?_
   subst e
   have:=h2.1
   rw[<- k3] at this
   simp at this
  ·show ((m.Ties.get y).High ≠ 1000000000000 ∧ e = ⟨(m.Ties.get y).From.toNat, (m.Ties.get y).To.toNat, (m.Ties.get y).High⟩) ∨ ((m.Ties.get y).Low ≠ -1000000000000 ∧ e = ⟨(m.Ties.get y).To.toNat, (m.Ties.get y).From.toNat, -(m.Ties.get y).Low⟩)
   rw[k4,k3];exact h3
 ·obtain ⟨y, h1, h2, h3⟩ := (zfD (a := wg m fun x => decide ((x : Int) ∈ [(q : Int)])) hm).1 he
  rw[ze2,hqq] at h2
  have h2:=of_decide_eq_false h2
  obtain⟨k1,k2,k3,k4⟩:=h.at h1
  refine (zfD (a:=wg n (setB g (Kp n g)[q])) hn).2 ⟨(Kp n g)[y],k3,?_,?_⟩
  ·rw [ze2]
   show ((Kp n g)[y] == (Kp n g)[q] || g (Kp n g)[y])=false
   rw[k4,Bool.or_false,dqU]
   exact λ e=>h2 ((List.getElem_inj hnd).1 e)
  ·have h3 : ((m.Ties.get y).High ≠ 1000000000000 ∧ e = ⟨(m.Ties.get y).From.toNat, (m.Ties.get y).To.toNat, (m.Ties.get y).High⟩) ∨ ((m.Ties.get y).Low ≠ -1000000000000 ∧ e = ⟨(m.Ties.get y).To.toNat, (m.Ties.get y).From.toNat, -(m.Ties.get y).Low⟩) := h3
   rw[k2] at h3;exact h3
section
variable {n:Net}(hn:NetOk n) (hN:zbt (En n))
include hn hN in
theorem zDV {m:Net}(h:Pick n m (G n)):zjK m.Nodes m.Ties=true/\zjJ m.Nodes m.Ties=true:=by
  have hm:=h.net hn
  have hNm:=h.noNeg hn hN
  have hl:=hm.len
  have step:∀ i,i < m.Ties.len->p27 m ⟨1,λ _=>(i:Int)⟩=true/\p35 (s27 m ⟨1,λ _=>(i:Int)⟩) (m.Ties.get i)=true/\s35 (s27 m ⟨1,λ _=>(i:Int)⟩) (m.Ties.get i)=(false,(0:Int)):=λ i hi=>by
    have hone:IsP (⟨1,λ _=>(i:Int)⟩:Sl Int) [(i:Int)]:=⟨rfl,λ k hk=>by
      obtain rfl:k=0:=by simpa using hk
      rfl⟩
    obtain⟨m1,m2⟩:=zBz m (by omega) hone (by simp)
    have ht:=hm.tie i hi
    obtain⟨c1,b,c2,c3⟩:=zFq (m2.net hm) (m2.noNeg hm hNm) (t:=m.Ties.get i) (by rw[m2.nodes];exact ht)
    refine⟨m1,c1,?_⟩
    rw[c2]
    have:b=false:=Bool.eq_false_iff.2 λ e=>by
      obtain⟨hk,k2,k3,k4⟩:=h.at hi
      have f0:=ht.f0;have f1:=ht.f1;have t0:=ht.t0;have t1:=ht.t1
      have hnod:=h.nodes
      refine zFk hn hN n.Ties.len (λ _=>false) (dqt _) _ k3 k4 ?_
      have hF:=c3.1 e
      rw[<- k2]
      refine (Fo.congr (f:=fr (s27 m ⟨1,λ _=>(i:Int)⟩)) (N:=m.Nodes.toNat) (by omega) (by omega) λ a b ha=>?_).1 hF
      rw[m2.fr hm hNm ha,zO0 h hn hN hi hk (by rw[<- hnod];exact ha)]
    rw[this]
  have key := zli (good := fun _ => true) (bad := true) (fin := true) (finP := true) (n := m.Ties.len) (lpS := zgH m.Nodes m.Ties) (lpP := zgI m.Nodes m.Ties)
    (λ k i hi=>by
      show zgF m.Nodes m.Ties (zgH m.Nodes m.Ties k) (i:Int)=_
      generalize zgH m.Nodes m.Ties k=S
      unfold zgF znP
      rw[dqT (show (i:Int) < (m.Ties.len:Int) by omega),dqA,dqN]
      show cond ((s35 (s27 m ⟨1,λ _=>(i:Int)⟩) (m.Ties.get i)).2 != (0:Int)) false (cond (s35 (s27 m ⟨1,λ _=>(i:Int)⟩) (m.Ties.get i)).1 false _)=_
      rw[(step i hi).2.2];rfl)
    (λ k=>by
      show zgF m.Nodes m.Ties (zgH m.Nodes m.Ties k) (m.Ties.len:Int)=_
      unfold zgF
      rw[dqF (show ¬ (m.Ties.len:Int) < (m.Ties.len:Int) by omega),dqB])
    (λ k i hi=>by
      show zgG m.Nodes m.Ties (zgI m.Nodes m.Ties k) (i:Int)=_
      generalize zgI m.Nodes m.Ties k=S
      unfold zgG znQ
      rw[dqT (show (i:Int) < (m.Ties.len:Int) by omega),dqA,dqN,dqT (show 0<=(i:Int)/\(i:Int) < (m.Ties.len:Int) by omega)]
      show (decide (p27 m ⟨1,λ _=>(i:Int)⟩=true) && (true && (decide (p35 (s27 m ⟨1,λ _=>(i:Int)⟩) (m.Ties.get i)=true) && cond ((s35 (s27 m ⟨1,λ _=>(i:Int)⟩) (m.Ties.get i)).2 != (0:Int)) true (cond (s35 (s27 m ⟨1,λ _=>(i:Int)⟩) (m.Ties.get i)).1 true _))))=_
      rw[(step i hi).2.2,(step i hi).2.1,(step i hi).1];rfl)
    (λ k=>by
      show zgG m.Nodes m.Ties (zgI m.Nodes m.Ties k) (m.Ties.len:Int)=_
      unfold zgG
      rw[dqF (show ¬ (m.Ties.len:Int) < (m.Ties.len:Int) by omega),dqB])
    (by omega)
  exact key.1 λ _ _=>rfl
include hn hN in
theorem zBI {m:Net}(h:Pick n m (G n)) {v:Sl Int}(hv:IsP v (((List.range n.Ties.len).filter (G n)).map λ (j:Nat)=>(j:Int))):znU n v m.Nodes m.Ties=true/\znT n v m.Nodes m.Ties=true:=by
  have hm:=h.net hn
  have hNm:=h.noNeg hn hN
  have hl:=hn.len
  have hvl:v.len<=200:=by
    have:=List.length_filter_le (G n) (List.range n.Ties.len)
    rw[List.length_range] at this
    have h1:=hv.1
    rw[List.length_map] at h1;omega
  obtain⟨q1,q2⟩:=zDV hn hN h
  have step:∀ i,i < v.len->∃ j:Nat,v.get i=(j:Int)/\j < n.Ties.len/\p35 m (n.Ties.get j)=true/\s35 m (n.Ties.get j)=(true,(0:Int)):=λ i hi=>by
    have hi':i < ((List.range n.Ties.len).filter (G n)).length:=by have h1:=hv.1;rw[List.length_map] at h1;omega
    have hmem:=List.getElem_mem hi'
    rw[List.mem_filter,List.mem_range] at hmem
    have ht:=hn.tie _ hmem.1
    have f0:=ht.f0;have f1:=ht.f1;have t0:=ht.t0;have t1:=ht.t1
    obtain⟨c1,b,c2,c3⟩:=zFq hm hNm (t:=n.Ties.get ((List.range n.Ties.len).filter (G n))[i]) (by rw[h.nodes];exact ht)
    refine⟨_,by rw[hv.2 i (by rw[List.length_map];exact hi'),List.getElem_map],hmem.1,c1,?_⟩
    rw[c2,c3.2 ((Fo.congr (f:=fr m) (N:=n.Nodes.toNat) (by omega) (by omega) λ a b ha=>h.fr hn hN ha b).2 (zMT hn hN n.Ties.len (dqt _) hmem.1))]
  have key := zli (good := fun _ => true) (bad := true) (fin := zjJ m.Nodes m.Ties) (finP := zjK m.Nodes m.Ties) (n := v.len) (lpS := zgL n v m.Nodes m.Ties) (lpP := zgM n v m.Nodes m.Ties)
    (λ k i hi=>by
      obtain⟨j,e,hj,c1,c2⟩:=step i hi
      show zgJ n v m.Nodes m.Ties (zgL n v m.Nodes m.Ties k) (i:Int)=_
      generalize zgL n v m.Nodes m.Ties k=S
      unfold zgJ znR
      rw[dqT (show (i:Int) < (v.len:Int) by omega),dqA,dqN,e,dqN]
      show cond ((s35 m (n.Ties.get j)).2 != (0:Int)) false (cond (!(s35 m (n.Ties.get j)).1) false _)=_
      rw[c2];rfl)
    (λ k=>by
      show zgJ n v m.Nodes m.Ties (zgL n v m.Nodes m.Ties k) (v.len:Int)=_
      unfold zgJ
      rw[dqF (show ¬ (v.len:Int) < (v.len:Int) by omega),dqB])
    (λ k i hi=>by
      obtain⟨j,e,hj,c1,c2⟩:=step i hi
      show zgK n v m.Nodes m.Ties (zgM n v m.Nodes m.Ties k) (i:Int)=_
      generalize zgM n v m.Nodes m.Ties k=S
      unfold zgK znS
      rw[dqT (show (i:Int) < (v.len:Int) by omega),dqA,dqN,e,dqN,dqT (show 0<=(i:Int)/\(i:Int) < (v.len:Int) by omega),dqT (show 0<=(j:Int)/\(j:Int) < (n.Ties.len:Int) by omega)]
      show (true && (true && (decide (p35 m (n.Ties.get j)=true) && cond ((s35 m (n.Ties.get j)).2 != (0:Int)) true (cond (!(s35 m (n.Ties.get j)).1) true _))))=_
      rw[c2,c1];rfl)
    (λ k=>by
      show zgK n v m.Nodes m.Ties (zgM n v m.Nodes m.Ties k) (v.len:Int)=_
      unfold zgK
      rw[dqF (show ¬ (v.len:Int) < (v.len:Int) by omega),dqB])
    (by omega)
  have:=key.1 λ _ _=>rfl
  rw[q1,q2] at this
  exact this
include hn hN in
theorem zBJ {v:Sl Int}(hv:IsP v ((Kp n (G n)).map λ (j:Nat)=>(j:Int))):znY n v=true/\znX n v=true:=by
  have hl:=hn.len
  have hk:=zFr n (G n)
  have hs:∀ i,i < n.Ties.len->p60 v (i:Int)=true/\(!(s60 v (i:Int)))=G n i:=λ i hi=>by
    obtain⟨a1,a2⟩:=zlr hv (by rw[List.length_map];omega) (i:Int)
    refine⟨a1,?_⟩
    rw[a2]
    cases hg:G n i
    · rw [dqT]; rfl
      exact dqz.2 ⟨i,List.mem_filter.2 ⟨List.mem_range.2 hi,by rw[hg];rfl⟩,rfl⟩
    · rw [dqF]; rfl
      intro hm
      obtain⟨j,hj,e⟩:=dqz.1 hm
      obtain rfl:j=i:=by omega
      have:=(List.mem_filter.1 hj).2
      rw[hg] at this;cases this
  obtain ⟨w, hw, k1, k2⟩ := zh4 (α := Int) (β := Bool) (fun j => (j : Int)) (G n) (n := n.Ties.len) (E := zjL n) (EP := zjM n) (lpS := fun k w i => zhs n v k i w) (lpP := fun k w i => zht n v k i w)
    (λ k i w hi hw=>by
      show zi2 n v (zhs n v k) (i:Int) w=zhs n v k (w64 ((i:Int)+(1:Int))) _
      generalize zhs n v k=S
      unfold zi2 znV stP
      rw[dqT (show (i:Int) < (n.Ties.len:Int) by omega),dqA,(hs i hi).2]
      cases (G n i) <;> rfl)
    (λ k w=>by
      show zi2 n v (zhs n v k) (n.Ties.len:Int) w=_
      unfold zi2
      rw[dqF (show ¬ (n.Ties.len:Int) < (n.Ties.len:Int) by omega),dqB])
    (λ k i w hi hw=>by
      show zi3 n v (zht n v k) (i:Int) w=zht n v k (w64 ((i:Int)+(1:Int))) _
      generalize zht n v k=S
      unfold zi3 znW stP
      rw[dqT (show (i:Int) < (n.Ties.len:Int) by omega),dqA,(hs i hi).2,(hs i hi).1,dqT (show (w.len+1) * 8<=140737488355328/\w.len+1<=9223372036854775807 by omega)]
      cases (G n i) <;> rfl)
    (λ k w=>by
      show zi3 n v (zht n v k) (n.Ties.len:Int) w=_
      unfold zi3
      rw[dqF (show ¬ (n.Ties.len:Int) < (n.Ties.len:Int) by omega),dqB])
    (by omega)
  have hwl:((List.range n.Ties.len).filter (G n)).length<=n.Ties.len:=by
    have:=List.length_filter_le (G n) (List.range n.Ties.len)
    rw[List.length_range] at this;exact this
  obtain⟨m1,m2⟩:=zBz n (by omega) hw (by rw[List.length_map];omega)
  have m3:Pick n (s27 n w) (G n):=m2.congr λ j hj=>by
    cases hg:G n j
    · refine dqF fun hm => ?_
      obtain⟨i,hi,e⟩:=dqz.1 hm
      obtain rfl:i=j:=by omega
      have:=(List.mem_filter.1 hi).2
      rw[hg] at this;cases this
    · exact dqT (dqz.2 ⟨j,List.mem_filter.2 ⟨List.mem_range.2 hj,hg⟩,rfl⟩)
  obtain⟨r1,r2⟩:=zBI hn hN m3 hw
  constructor
  · refine Eq.trans k1 ?_
    unfold zjM
    rw[m1,r1];rfl
  · refine Eq.trans k2 ?_
    unfold zjL
    exact r2
end
theorem needs_true (n:Net):p16 n=true/\s16 n=true:=by
 unfold p16 s16
 by_cases h:s20 n 10=true
 ·have hl := zA6 h (by omega)
  rw[h]
  obtain⟨a1,a2⟩:=zrZ n (by omega)
  obtain⟨b1,b2⟩:=zMK n (by omega)
  obtain⟨w0,w1,_,w3,_⟩:=zob n (⟨0,λ _=>default⟩:Sl Int) (by decide) hl
  unfold zrW zrV
  rw[show (!true)=false from rfl,dqB,dqB]
  unfold zrU zrT zrS zrR
  rw[b1,b2]
  cases hs:s67 n
  ·have e1:p58 n=true/\s58 n=((⟨0,λ _=>default⟩:Sl Int),(2:Int)):=by
    unfold p58 s58;rw[w0,w1 hs];
    show (cond ((2:Int) == 0) _ _=true)/\cond ((2:Int) == 0) _ _=_
    rw[show ((2:Int) == 0)=false from rfl,dqB,dqB]
    exact⟨rfl,rfl⟩
   rw[e1.1,e1.2]
   unfold zn4 zn3
   rw[show (!false)=true from rfl,dqA,dqA]
   exact⟨rfl,rfl⟩
  ·have hn := a2.1 hs
   obtain⟨g1,g2⟩:=zM2 n hn
   unfold zn4 zn3 zrQ zrP
   rw[g1]
   by_cases hN:zbt (En n)
   ·obtain ⟨c1, v, hv, c2⟩ := zM4 hn hN
    obtain⟨d1,d2⟩:=zM5 hn hN
    have hk:=zFr n (G n)
    obtain⟨f1,f2⟩:=zMV hv d2 (by rw[List.length_map];omega)
    obtain⟨r1,r2⟩:=zBJ hn hN hv
    rw[c1,c2,g2.2 hN]
    have hT:decide (true=true)=true:=rfl
    have h0:(!true)=false:=rfl
    rw[h0,hT,Bool.true_and,dqB,dqB,Bool.true_and]
    unfold zn2 zn1
    rw[dqB,dqB]
    unfold zrO zrN
    rw[show ((0:Int) != 0)=false from rfl,dqB,dqB,d1,f1,f2,h0,hT,Bool.true_and,Bool.true_and]
    have e7:∀ a b:Bool,(cond false a b)=b:=λ _ _=>rfl
    unfold zn0 znZ
    rw[e7,e7]
    generalize znY n v=x at r1 ⊢
    generalize znX n v=y at r2 ⊢
    exact⟨r1,r2⟩
   ·have e1:p58 n=true/\s58 n=((⟨0,λ _=>default⟩:Sl Int),(5:Int)):=by
     unfold p58 s58;rw[w0,w3 hn (λ i hi=>absurd hi (dqW _)) hN]
     show (cond ((5:Int) == 0) _ _=true)/\cond ((5:Int) == 0) _ _=_
     rw[show ((5:Int) == 0)=false from rfl,dqB,dqB]
     exact⟨rfl,rfl⟩
    rw[e1.1,e1.2,Bool.eq_false_iff.2 λ h=>hN (g2.1 h)]
    unfold zn2 zn1
    rw[show (!true)=false from rfl,show (!false)=true from rfl,dqB,dqB,dqA,dqA]
    exact⟨rfl,rfl⟩
 ·rw[Bool.eq_false_iff.2 h];exact⟨rfl,rfl⟩
end Go.Proofs
