/- Part 7 of what the proof rests on: a machine that runs functions of the program on pure values, proved sound; the functions that the law reaches, and what they compute. -/
import Derived.Test.YtedhjaaikeakoaaDoorQ6
set_option linter.all false
namespace Go.Pm
theorem zDA {E:List Ed} {f:Ed→Ed} (hu:∀ e,(f e).u=e.u) (hv:∀ e,(f e).v=e.v) {c:List Ed} : ∀ {a b:Nat},zhz (E.map f) a c b→∃ c0,c=c0.map f∧zhz E a c0 b:=by
 induction c with
 | nil=>intro a b h;exact ⟨[],rfl,h⟩
 | cons e l ih =>
  rintro a b ⟨h1,h2,h3⟩
  obtain ⟨e0,k1,rfl⟩:=List.mem_map.1 h1
  obtain ⟨c0,k2,k3⟩:=ih h3
  exact ⟨e0 :: c0,by rw [k2];rfl,k1,by rw [← hu];exact h2,by rw [← hv];exact k3⟩
def edM (e:Ed):Ed:=⟨e.u,e.v,e.w * 1048576+1⟩
def edR (e:Ed):Ed:=⟨e.v,e.u,e.w⟩
theorem zL9 (c:List Ed):wt (c.map edM)=wt c * 1048576+c.length:=by
 induction c with
 | nil=>rfl
 | cons e l ih =>
  show e.w * 1048576+1+wt (l.map edM)=(e.w+wt l) * 1048576+((l.length+1:Nat):Int)
  omega
theorem zMa (c:List Ed):wt (c.reverse.map edR)=wt c:=by
 induction c with
 | nil=>rfl
 | cons e l ih =>
  rw [List.reverse_cons,List.map_append,zm5,ih]
  show wt l+wt [edR e]=e.w+wt l
  rw [zqq]
  show wt l+e.w=_
  omega
theorem zMb {E:List Ed} {c:List Ed} : ∀ {a b:Nat},zhz E a c b→zhz (E.map edR) b (c.reverse.map edR) a:=by
 induction c with
 | nil=>intro a b h;exact Eq.symm h
 | cons e l ih =>
  rintro a b ⟨h1,h2,h3⟩
  rw [List.reverse_cons,List.map_append]
  exact zgN.2 ⟨e.v,ih h3,List.mem_map_of_mem h1,rfl,h2⟩
theorem zJV (E:List Ed):(E.map edR).map edR=E:=by
 rw [List.map_map]
 exact (List.map_congr_left fun e _=>rfl).trans (List.map_id E)
theorem zJW {E:List Ed} {c:List Ed} {a b:Nat} (h:zhz (E.map edR) a c b):∃ c0,zhz E b c0 a∧wt c0=wt c∧c0.length=c.length:=by
 have:=zMb h
 rw [zJV] at this
 exact ⟨_,this,zMa c,by simp⟩
theorem zoM {E:List Ed} (h:zcw E):zcw (E.map edR):=fun a c hc=>by
 obtain ⟨c0,h1,h2,_⟩:=zJW hc
 rw [← h2];exact h a c0 h1
theorem zgr {E:List Ed} (h:zcw E):zcw (E.map edM):=fun a c hc=>by
 obtain ⟨c0,rfl,h1⟩:=zDA (f:=edM) (fun _=>rfl) (fun _=>rfl) hc
 rw [zL9]
 have:=h a c0 h1
 omega
def zKl : Option Int → Int × Int
  | none=>((1000000000000:Int),(0:Int))
  | some x=>(x / 1048576,x % 1048576)
theorem ztu {L U:Int} (h0:0≤U) (h1:U < 1048576):zKl (some (L * 1048576+U))=(L,U):=by
 show ((L * 1048576+U) / 1048576,(L * 1048576+U) % 1048576)=(L,U)
 rw [show (L * 1048576+U) / 1048576=L by omega,show (L * 1048576+U) % 1048576=U by omega]
def zAx (s:Nat):zdm:=fun v=>if v=s then some 0 else none
theorem zgP (s:Nat):Start (fun v=>v=s) (zAx s) :=
 ⟨fun v x h=>(by
  unfold zAx at h
  by_cases hv:v=s
  ·rw [if_pos hv] at h;cases h;exact ⟨hv,rfl⟩
  ·rw [if_neg hv] at h;cases h),fun v h=>if_pos h⟩
structure EdOk (E : List Ed) (n : Nat) : Prop where
  lt:∀ e∈E,e.u < n∧e.v < n
  w:∀ e∈E,-1000000000≤e.w∧e.w≤1000000000
  n1:1≤n
  n40:n≤40
theorem EdOk.R {E:List Ed} {n:Nat} (h:EdOk E n):EdOk (E.map edR) n :=
  ⟨fun e he=>(by obtain ⟨f,h1,rfl⟩:=List.mem_map.1 he;exact ⟨(h.lt f h1).2,(h.lt f h1).1⟩),
   fun e he=>(by obtain ⟨f,h1,rfl⟩:=List.mem_map.1 he;exact h.w f h1),h.n1,h.n40⟩
theorem EdOk.ltM {E:List Ed} {n:Nat} (h:EdOk E n):∀ e∈E.map edM,e.u < n∧e.v < n :=
 fun e he=>by obtain ⟨f,h1,rfl⟩:=List.mem_map.1 he;exact h.lt f h1
theorem zuP {E:List Ed} {n:Nat} (h:EdOk E n) {c:List Ed} : ∀ {a b:Nat},zhz E a c b→-1000000000 * (c.length:Int)≤wt c∧wt c≤1000000000 * (c.length:Int):=by
 induction c with
 | nil=>intro a b _;exact ⟨(by show _≤(0:Int);simp),(by show (0:Int)≤_;simp)⟩
 | cons e l ih =>
  rintro a b ⟨h1,_,h3⟩
  have:=ih h3
  have:=h.w e h1
  show _≤e.w+wt l∧e.w+wt l≤_
  simp only [List.length_cons]
  omega
structure Ent (E : List Ed) (n s v : Nat) (x L U : Int) (c : List Ed) : Prop where
  ch:zhz E s c v
  x:x=L * 1048576+U
  L:L=wt c
  U:U=c.length
  len:c.length < n
theorem zDB {E:List Ed} {n:Nat} (hE:EdOk E n) {s:Nat} (hs:s < n) {d:zdm} (hd:Inv (E.map edM) (fun v=>v=s) d) {v:Nat} {x:Int} (hx:d v=some x):∃ c,Ent E n s v x (wt c) c.length c:=by
 obtain ⟨a,c,hc⟩:=hd v x hx
 have hl:=zG9 hE.ltM (fun a ha=>Nat.lt_of_le_of_lt (Nat.le_of_eq ha) hs) hc
 obtain ⟨c0,rfl,h1⟩:=zDA (f:=edM) (fun _=>rfl) (fun _=>rfl) hc.ch
 obtain rfl:a=s:=hc.src
 exact ⟨c0,h1,by rw [hc.wt,zL9],rfl,rfl,by rw [List.length_map] at hl;omega⟩
def dst (E:List Ed) (n s:Nat):zdm:=rds (E.map edM) (n - 1) (zAx s)
theorem zHa {E:List Ed} {n s:Nat} (hn:zcw E):Inv (E.map edM) (fun v=>v=s) (dst E n s):=zAw (zgr hn) _ (zij (zgP s))
theorem ztv {E:List Ed} {n s:Nat} (hE:EdOk E n) (hn:zcw E) (hs:s < n):Fix (E.map edM) (dst E n s):=zDy (zgr hn) hE.ltM (fun a ha=>Nat.lt_of_le_of_lt (Nat.le_of_eq ha) hs) (zgP s)
theorem dst_at {E:List Ed} {n s v:Nat} (hE:EdOk E n) (hn:zcw E) (hs:s < n) {x:Int} (hx:dst E n s v=some x):∃ c,Ent E n s v x (wt c) c.length c:=zDB hE hs (zHa hn) hx
theorem zCt {E:List Ed} {n s:Nat} : ∃ x,dst E n s s=some x:=by
 obtain ⟨x,h,_⟩:=zuM (E.map edM) (n - 1) (zAx s) s 0 (if_pos rfl)
 exact ⟨x,h⟩
theorem zAy {E:List Ed} {n s:Nat} (hE:EdOk E n) (hn:zcw E) (hs:s < n) {c:List Ed} : ∀ {a v:Nat} {x:Int},dst E n s a=some x→zhz E a c v→∃ y,dst E n s v=some y∧y / 1048576≤x / 1048576+wt c:=by
 induction c with
 | nil=>intro a v x hx h;cases h;exact ⟨x,hx,by show _≤_+(0:Int);omega⟩
 | cons e l ih =>
  rintro a v x hx ⟨h1,h2,h3⟩
  subst h2
  obtain ⟨y,k1,k2⟩:=ztv hE hn hs (edM e) (List.mem_map_of_mem h1) x hx
  obtain ⟨z,m1,m2⟩:=ih (a:=e.v) k1 h3
  obtain ⟨c1,hc1⟩:=dst_at hE hn hs hx
  obtain ⟨c2,hc2⟩:=dst_at hE hn hs (show dst E n s e.v=some y from k1)
  refine ⟨z,m1,?_⟩
  have k2':y≤x+(e.w * 1048576+1):=k2
  have:=hE.n40
  have:=hc1.len
  have:=hc1.x
  have:=hc2.len
  have:=hc2.x
  show _≤_+(e.w+wt l)
  omega
theorem zHb {E:List Ed} {n s v:Nat} (hE:EdOk E n) (hn:zcw E) (hs:s < n) {c:List Ed} (hc:zhz E s c v):∃ x,dst E n s v=some x∧x / 1048576≤wt c:=by
 obtain ⟨x0,h1⟩:=zCt (E:=E) (n:=n) (s:=s)
 obtain ⟨y,k1,k2⟩:=zAy hE hn hs h1 hc
 have h3:x0≤0:=by
  obtain ⟨x',h1',h2'⟩:=zuM (E.map edM) (n - 1) (zAx s) s 0 (if_pos rfl)
  have:x'=x0:=Option.some.inj (h1'.symm.trans h1)
  omega
 exact ⟨y,k1,by omega⟩
def zDC (o:Option Int):Int:=(zKl o).1
theorem zAz {E:List Ed} {n s v:Nat} (hE:EdOk E n) (hn:zcw E) (hs:s < n) {x:Int} (hx:dst E n s v=some x):∃ c,zhz E s c v∧zDC (dst E n s v)=wt c∧c.length < n:=by
 obtain ⟨c,hc⟩:=dst_at hE hn hs hx
 refine ⟨c,hc.ch,?_,hc.len⟩
 rw [hx]
 show x / 1048576=_
 have:=hc.x;have:=hc.len;have:=hE.n40
 omega
theorem zAA {E:List Ed} {n s v:Nat} (hE:EdOk E n) (hn:zcw E) (hs:s < n) {c:List Ed} (hc:zhz E s c v):zDC (dst E n s v)≤wt c:=by
 obtain ⟨x,h1,h2⟩:=zHb hE hn hs hc
 rw [h1];exact h2
theorem zdV {E:List Ed} {n s v:Nat} (hE:EdOk E n) (hn:zcw E) (hs:s < n):(dst E n s v=none∧zDC (dst E n s v)=1000000000000)∨∃ c,dst E n s v ≠ none∧zhz E s c v∧zDC (dst E n s v)=wt c∧c.length < n∧-40000000000≤wt c∧wt c≤40000000000:=by
 cases h:dst E n s v with
 | none=>exact .inl ⟨rfl,rfl⟩
 | some x =>
  obtain ⟨c,h1,h2,h3⟩:=zAz hE hn hs h
  have:=zuP hE h1
  have:=hE.n40
  rw [h] at h2
  exact .inr ⟨c,(by intro h;cases h),h1,h2,h3,by omega,by omega⟩
theorem zCu {E:List Ed} {n s v:Nat} (hE:EdOk E n) (hn:zcw E) (hs:s < n) {f:Nat→Int} (hf:∀ e∈E,f e.v≤f e.u+e.w) (hd:dst E n s v ≠ none):f v≤f s+zDC (dst E n s v):=by
 rcases zdV (v:=v) hE hn hs with ⟨h,_⟩ | ⟨c,_,h1,h2,_⟩
 ·exact absurd h hd
 ·rw [h2];exact zDz hf h1
end Go.Pm
namespace Go.Pm
def zoN (E : List Ed) : Nat → zdm → Bool
  | 0,_=>true
  | k+1,d=>cond (E.foldl rlF (d,false)).2 (zoN E k (rnd E d)) false
theorem ztw {E:List Ed} {k:Nat} : ∀ {m:Nat} {d:zdm},Fix E (rds E k d)→k < m→zoN E m d=false:=by
 induction k with
 | zero =>
  intro m d h hm
  obtain ⟨m,rfl⟩:∃ m',m=m'+1:=⟨m - 1,by omega⟩
  show cond (E.foldl rlF (d,false)).2 _ _=false
  rw [zj4 (show ∀ e∈E,Sat d e from h)];rfl
 | succ k ih =>
  intro m d h hm
  obtain ⟨m,rfl⟩:∃ m',m=m'+1:=⟨m - 1,by omega⟩
  show cond (E.foldl rlF (d,false)).2 (zoN E m (rnd E d)) false=false
  rw [ih (m:=m) (d:=rnd E d) h (by omega)]
  cases (E.foldl rlF (d,false)).2 <;> rfl
theorem zCv {E:List Ed} {m:Nat} : ∀ {d:zdm},zoN E m d=false→∃ k,Fix E (rds E k d):=by
 induction m with
 | zero=>intro d h;cases h
 | succ m ih =>
  intro d h
  have h':cond (E.foldl rlF (d,false)).2 (zoN E m (rnd E d)) false=false:=h
  cases hc:(E.foldl rlF (d,false)).2
  ·exact ⟨0,zjj hc⟩
  ·rw [hc] at h'
   obtain ⟨k,hk⟩:=ih h'
   exact ⟨k+1,hk⟩
def zAN (n:Nat):zdm:=fun v=>if v < n then some 0 else none
theorem zvF (n:Nat):Start (fun v=>v < n) (zAN n) :=
 ⟨fun v x h=>(by
  unfold zAN at h
  by_cases hv:v < n
  ·rw [if_pos hv] at h;cases h;exact ⟨hv,rfl⟩
  ·rw [if_neg hv] at h;cases h),fun v h=>if_pos h⟩
theorem zCw {E:List Ed} {n:Nat} (hE:EdOk E n):zoN E n (zAN n)=false↔zcw E:=by
 constructor
 ·intro h
  obtain ⟨k,hk⟩:=zCv h
  have hsome:∀ v,v < n→∃ x,rds E k (zAN n) v=some x:=fun v hv=>by
   obtain ⟨x,hx,_⟩:=zuM E k (zAN n) v 0 (if_pos hv)
   exact ⟨x,hx⟩
  refine zqv (f:=fun v=>(rds E k (zAN n) v).getD 0) fun e he=>?_
  obtain ⟨x,hx⟩:=hsome e.u (hE.lt e he).1
  obtain ⟨y,hy,hxy⟩:=hk e he x hx
  show (rds E k (zAN n) e.v).getD 0≤(rds E k (zAN n) e.u).getD 0+e.w
  rw [hx,hy];exact hxy
 ·intro h
  have:=hE.n1
  exact ztw (zDy h hE.lt (fun a ha=>ha) (zvF n)) (by omega)
end Go.Pm
namespace Go.Proofs
open Go Go.Pm
set_option maxRecDepth 100000
set_option linter.unusedVariables false
theorem zfJ {n:Nat} {F:Tab} {k:Nat} (hk:k < n):tg n F k=F k:=by
 unfold tg zmp
 have h:(zm (zhC 0 n F))[k]? = some (.p (.int .i64 (F k))):=by
  rw [zm,List.getElem?_map,zgt n 0 F k hk,Nat.zero_add];rfl
 rw [h]
theorem zDD {n:Nat} {F:Tab} {k:Nat} {v:Int} {j:Nat} (hj:j < n):ts n F k [v] j=if j=k then v else F j:=by
 show (match Nat.beq j k with | true=>v | false=>tg n F j)=_
 by_cases h:j=k
 ·rw [if_pos h,show Nat.beq j k=true from by rw [h];exact Nat.beq_refl _]
 ·rw [if_neg h,show Nat.beq j k=false from Bool.eq_false_iff.2 fun e=>h (Nat.eq_of_beq_eq_true e)];exact zfJ hj
theorem zdI {n:Nat} {F:Tab} {k:Nat} {v w:Int} {j:Nat} (hj:j < n):ts n F k [v,w] j=if j=k+1 then w else if j=k then v else F j:=by
 show (match Nat.beq j (k+1) with | true=>w | false=>(match Nat.beq j k with | true=>v | false=>tg n F j))=_
 by_cases h:j=k+1
 ·rw [if_pos h,show Nat.beq j (k+1)=true from by rw [h];exact Nat.beq_refl _]
 ·rw [if_neg h, show Nat.beq j (k + 1) = false from Bool.eq_false_iff.2 fun e => h (Nat.eq_of_beq_eq_true e)]
  by_cases h':j=k
  ·rw [if_pos h',show Nat.beq j k=true from by rw [h'];exact Nat.beq_refl _]
  ·rw [if_neg h',show Nat.beq j k=false from Bool.eq_false_iff.2 fun e=>h' (Nat.eq_of_beq_eq_true e)];exact zfJ hj
def fwS (t:Tie) (i:Nat):step:=⟨⟨(i:Int),false⟩,t.From,t.To,t.High⟩
def bwS (t:Tie) (i:Nat):step:=⟨⟨(i:Int),true⟩,t.To,t.From,w64 (0 - t.Low)⟩
def zHs (a:web) (i:Nat):Bool:=(zuW (a.out.F [(i:Int)]) 0) != 0
def stK (a:web) (i:Nat):List step :=
 cond (zHs a i) [] ((cond ((a.Net.Ties.get i).High != (1000000000000:Int)) [fwS (a.Net.Ties.get i) i] []) ++ (cond ((a.Net.Ties.get i).Low != (-1000000000000:Int)) [bwS (a.Net.Ties.get i) i] []))
def stL (a : web) : Nat → Nat → List step
  | 0,_=>[]
  | m+1,i=>stK a i ++ stL a m (i+1)
theorem ztx (a:web) (hn:a.Net.Ties.len≤9223372036854775807):zmi a=true∧zik a=stL a a.Net.Ties.len 0:=by
 have key:∀ (m k i:Nat),i+m=a.Net.Ties.len→m < k→zew a k (i:Int)=true∧zev a k (i:Int)=stL a m i:=by
  intro m
  induction m with
  | zero =>
   intro k i hi hk
   obtain ⟨k,rfl⟩:∃ k',k=k'+1:=⟨k - 1,by omega⟩
   constructor
   ·show zfl a (zew a k) (i : Int) = true
    unfold zfl
    rw [decide_eq_false (show ¬ (i:Int) < (a.Net.Ties.len:Int) by omega),cond_false]
   ·show zfk a (zev a k) (i : Int) = []
    unfold zfk
    rw [decide_eq_false (show ¬ (i:Int) < (a.Net.Ties.len:Int) by omega),cond_false]
  | succ m ih =>
   intro k i hi hk
   obtain ⟨k,rfl⟩:∃ k',k=k'+1:=⟨k - 1,by omega⟩
   obtain ⟨h1,h2⟩:=ih k (i+1) (by omega) (by omega)
   constructor
   ·show zfl a (zew a k) (i : Int) = true
    unfold zfl
    rw [decide_eq_true (show (i:Int) < (a.Net.Ties.len:Int) by omega),cond_true,decide_eq_true (show 0≤(i:Int)∧(i:Int) < (a.Net.Ties.len:Int) by omega),Bool.true_and,zih (n:=a.Net.Ties.len) (by omega) hn,h1]
    generalize (zuW (a.out.F [(i:Int)]) 0 != 0)=b1
    generalize (s94 (⟨(a.Net.Ties.get ((i:Int)).toNat),(i:Int)⟩:tie)).2=b2
    generalize (s95 (⟨(a.Net.Ties.get ((i:Int)).toNat),(i:Int)⟩:tie)).2=b3
    cases b1 <;> cases b2 <;> cases b3 <;> rfl
   ·show zfk a (zev a k) (i : Int) = stK a i ++ stL a m (i + 1)
    unfold zfk
    rw [decide_eq_true (show (i:Int) < (a.Net.Ties.len:Int) by omega),cond_true,Int.toNat_natCast,zih (n:=a.Net.Ties.len) (by omega) hn,h2]
    unfold stK zHs s94 s95
    generalize (zuW (a.out.F [(i:Int)]) 0 != 0)=b1
    show cond b1 _ (cond ((a.Net.Ties.get i).High != (1000000000000:Int)) (_ :: cond ((a.Net.Ties.get i).Low != (-1000000000000:Int)) (_ :: _) _) (cond ((a.Net.Ties.get i).Low != (-1000000000000:Int)) (_ :: _) _))=_
    generalize ((a.Net.Ties.get i).High != (1000000000000:Int))=b2
    generalize ((a.Net.Ties.get i).Low != (-1000000000000:Int))=b3
    cases b1 <;> cases b2 <;> cases b3 <;> rfl
 exact key a.Net.Ties.len Fuel 0 (by omega) (by simp only [Fuel];omega)
theorem zoO {a:web} {y:step} : ∀ {m i:Nat},y∈stL a m i↔∃ j,i≤j∧j < i+m∧y∈stK a j:=by
 intro m
 induction m with
 | zero=>intro i;exact ⟨fun h=>(by cases h),fun ⟨j,h1,h2,_⟩=>(by omega)⟩
 | succ m ih =>
  intro i
  show y∈stK a i ++ stL a m (i+1)↔_
  rw [List.mem_append,ih]
  constructor
  ·rintro (h | ⟨j, h1, h2, h3⟩)
   ·exact ⟨i,Nat.le_refl _,by omega,h⟩
   ·exact ⟨j,by omega,by omega,h3⟩
  ·rintro ⟨j, h1, h2, h3⟩
   by_cases h:j=i
   ·subst h;exact .inl h3
   ·exact .inr ⟨j,by omega,by omega,h3⟩
theorem zoP {a:web} {y:step} {j:Nat} : y∈stK a j↔zHs a j=false∧(((a.Net.Ties.get j).High ≠ 1000000000000∧y=fwS (a.Net.Ties.get j) j)∨((a.Net.Ties.get j).Low ≠ -1000000000000∧y=bwS (a.Net.Ties.get j) j)):=by
 unfold stK
 cases h:zHs a j
 ·rw [cond_false, List.mem_append]
  by_cases h1:(a.Net.Ties.get j).High=1000000000000
  ·rw [show ((a.Net.Ties.get j).High != (1000000000000:Int)) = false by rw [h1]; rfl, cond_false]
   by_cases h2:(a.Net.Ties.get j).Low = -1000000000000
   ·rw [show ((a.Net.Ties.get j).Low != (-1000000000000:Int)) = false by rw [h2]; rfl, cond_false]
    simp [h1,h2]
   ·rw [bne_iff_ne.2 h2, cond_true]
    simp [h1,h2]
  ·rw [bne_iff_ne.2 h1, cond_true]
   by_cases h2:(a.Net.Ties.get j).Low = -1000000000000
   ·rw [show ((a.Net.Ties.get j).Low != (-1000000000000:Int)) = false by rw [h2]; rfl, cond_false]
    simp [h1,h2]
   ·rw [bne_iff_ne.2 h2, cond_true]
    simp [h1,h2]
 ·rw [cond_true];simp
theorem zHc (a:web):∀ m i,(stL a m i).length≤2 * m:=by
 intro m
 induction m with
 | zero=>intro i;exact Nat.le_refl _
 | succ m ih =>
  intro i
  show (stK a i ++ stL a m (i+1)).length≤_
  rw [List.length_append]
  have:=ih (i+1)
  have:(stK a i).length≤2:=by
   unfold stK
   cases zHs a i <;> cases ((a.Net.Ties.get i).High != (1000000000000:Int)) <;> cases ((a.Net.Ties.get i).Low != (-1000000000000:Int)) <;> simp
  omega
def edS (y:step):Ed:=⟨y.from_.toNat,y.to.toNat,y.length⟩
structure StOk (y : step) (N : Nat) : Prop where
  f0:0≤y.from_
  f1:y.from_ < N
  t0:0≤y.to
  t1:y.to < N
  l0 : -1000000000≤y.length
  l1:y.length≤1000000000
abbrev Ws (a:web):List step:=stL a a.Net.Ties.len 0
def We (a:web):List Ed:=(Ws a).map edS
theorem zAB {t:Tie} {N:Int} (h:TieOk t N) (h':t.Low ≠ -1000000000000):w64 (0 - t.Low) = -t.Low:=by
 have:=h.lo.resolve_left h'
 rw [zb7 (by omega) (by omega)];omega
theorem zJX {a:web} (hn:NetOk a.Net) {y:step} (hy:y∈Ws a):StOk y a.Net.Nodes.toNat:=by
 obtain ⟨j,_,h2,h3⟩:=zoO.1 hy
 have h:=hn.tie j (by omega)
 have:=h.f0;have:=h.f1;have:=h.t0;have:=h.t1
 rcases (zoP.1 h3).2 with ⟨h4,rfl⟩ | ⟨h4,rfl⟩
 ·have := h.hi.resolve_left h4
  exact ⟨h.f0,by show (a.Net.Ties.get j).From < _;omega,h.t0,by show (a.Net.Ties.get j).To < _;omega,this.1,this.2⟩
 ·have := h.lo.resolve_left h4
  have e:=zAB h h4
  exact ⟨h.t0,by show (a.Net.Ties.get j).To < _;omega,h.f0,by show (a.Net.Ties.get j).From < _;omega,by show _≤w64 (0 - (a.Net.Ties.get j).Low);omega,by show w64 (0 - (a.Net.Ties.get j).Low)≤_;omega⟩
theorem zJY {a:web} (hn:NetOk a.Net):(Ws a).length≤400:=by
 have h1:=zHc a a.Net.Ties.len 0
 have h2:=hn.len
 show (stL a a.Net.Ties.len 0).length≤400
 omega
theorem zHt {a:web} (hn:NetOk a.Net):EdOk (We a) a.Net.Nodes.toNat:=by
 have:=hn.n1;have:=hn.n40
 refine ⟨fun e he=>?_,fun e he=>?_,by omega,by omega⟩
 ·obtain ⟨y, hy, rfl⟩ := List.mem_map.1 he
  have h:=zJX hn hy
  have:=h.f0;have:=h.f1;have:=h.t0;have:=h.t1
  exact ⟨by show y.from_.toNat < _;omega,by show y.to.toNat < _;omega⟩
 ·obtain ⟨y, hy, rfl⟩ := List.mem_map.1 he
  have h:=zJX hn hy
  exact ⟨h.l0,h.l1⟩
theorem zJZ {a:web} (hn:NetOk a.Net) {e:Ed} : e∈We a↔∃ j,j < a.Net.Ties.len∧zHs a j=false∧(((a.Net.Ties.get j).High ≠ 1000000000000∧e=⟨(a.Net.Ties.get j).From.toNat,(a.Net.Ties.get j).To.toNat,(a.Net.Ties.get j).High⟩)∨((a.Net.Ties.get j).Low ≠ -1000000000000∧e=⟨(a.Net.Ties.get j).To.toNat,(a.Net.Ties.get j).From.toNat,-(a.Net.Ties.get j).Low⟩)):=by
 constructor
 ·intro he
  obtain ⟨y,hy,rfl⟩:=List.mem_map.1 he
  obtain ⟨j,_,h2,h3⟩:=zoO.1 hy
  obtain ⟨h4,h5⟩:=zoP.1 h3
  refine ⟨j,by omega,h4,?_⟩
  rcases h5 with ⟨h6,rfl⟩ | ⟨h6,rfl⟩
  ·exact .inl ⟨h6,rfl⟩
  ·refine .inr ⟨h6, ?_⟩
   rw [← zAB (hn.tie j (by omega)) h6];rfl
 ·rintro ⟨j, h1, h2, h3⟩
  rcases h3 with ⟨h6,rfl⟩ | ⟨h6,rfl⟩
  ·exact List.mem_map.2 ⟨fwS (a.Net.Ties.get j) j,zoO.2 ⟨j,by omega,by omega,zoP.2 ⟨h2,.inl ⟨h6,rfl⟩⟩⟩,rfl⟩
  ·exact List.mem_map.2 ⟨bwS (a.Net.Ties.get j) j,zoO.2 ⟨j,by omega,by omega,zoP.2 ⟨h2,.inr ⟨h6,rfl⟩⟩⟩,by rw [← zAB (hn.tie j h1) h6];rfl⟩
end Go.Proofs
namespace Go.Proofs
open Go Go.Pm
set_option maxRecDepth 100000
set_option linter.unusedVariables false
def Rt (N:Nat) (T:Tab) (d:zdm):Prop:=∀ v,v < N→d v=some (T v)
def Bd (B:Int) (T:Tab):Prop:=∀ v,v < 40→-B≤T v∧T v≤0
theorem zAC (a:web) {N:Nat} (hN:N≤40) (S0:Int→Tab→Bool) (P0:Int→Tab→Bool):∀ (l:List step),(∀ y∈l,StOk y N)→∀ (t:Int) (c:Bool) (T:Tab) (d:zdm) (B:Int),Rt N T d→Bd B T→0≤B→B+l.length * 1000000000≤100000000000000000 →
    ∃ T',zd3 S0 a l t c T=ziD S0 a t ((l.map edS).foldl rlF (d,c)).2 T'∧zd4 P0 a l t c T=ziE P0 a t ((l.map edS).foldl rlF (d,c)).2 T'∧Rt N T' ((l.map edS).foldl rlF (d,c)).1∧Bd (B+l.length * 1000000000) T':=by
  intro l
  induction l with
  | nil=>intro _ t c T d B h1 h2 _ _;exact ⟨T,rfl,rfl,h1,by simpa using h2⟩
  | cons y l ih =>
    intro hl t c T d B h1 h2 h3 h4
    have hy:=hl y (List.mem_cons_self ..)
    have hl':∀ y∈l,StOk y N:=fun z hz=>hl z (List.mem_cons_of_mem _ hz)
    rw [List.length_cons] at h4
    have f0:=hy.f0;have f1:=hy.f1;have t0:=hy.t0;have t1:=hy.t1;have l0:=hy.l0;have l1:=hy.l1
    have hf:=h1 y.from_.toNat (by omega)
    have ht:=h1 y.to.toNat (by omega)
    have bf:=h2 y.from_.toNat (by omega)
    have bt:=h2 y.to.toNat (by omega)
    have e1:0+y.from_.toNat * 1+0=y.from_.toNat:=by omega
    have e2:0+y.to.toNat * 1+0=y.to.toNat:=by omega
    have hr:rlF (d,c) (edS y)=cond (decide (T y.from_.toNat+y.length < T y.to.toNat)) (zuL d y.to.toNat (T y.from_.toNat+y.length),true) (d,c):=by
      unfold rlF edS
      simp only [hf,ht]
      rfl
    have hS:zd3 S0 a (y :: l) t c T=cond (decide (T y.from_.toNat+y.length < T y.to.toNat)) (zd3 S0 a l t true (ts 40 T y.to.toNat [T y.from_.toNat+y.length])) (zd3 S0 a l t c T):=by
      show zk8 S0 a y (zd3 S0 a l) t c T=_
      generalize zd3 S0 a l=S
      unfold zk8
      rw [e1,e2,zfJ (by omega),zfJ (by omega),zb7 (by omega) (by omega)]
    have hP:zd4 P0 a (y :: l) t c T=cond (decide (T y.from_.toNat+y.length < T y.to.toNat)) (zd4 P0 a l t true (ts 40 T y.to.toNat [T y.from_.toNat+y.length])) (zd4 P0 a l t c T):=by
      show zk9 P0 a y (zd4 P0 a l) t c T=_
      generalize zd4 P0 a l=S
      unfold zk9
      rw [e1,e2,zfJ (by omega),zfJ (by omega),zb7 (by omega) (by omega),decide_eq_true (show 0≤y.from_∧y.from_ < (40:Int) by omega),decide_eq_true (show 0≤y.to∧y.to < (40:Int) by omega)]
      cases decide (T y.from_.toNat+y.length < T y.to.toNat) <;> rfl
    show ∃ T',_=ziD S0 a t ((l.map edS).foldl rlF (rlF (d,c) (edS y))).2 T'∧_=ziE P0 a t ((l.map edS).foldl rlF (rlF (d,c) (edS y))).2 T'∧Rt N T' ((l.map edS).foldl rlF (rlF (d,c) (edS y))).1∧_
    rw [hS,hP,hr]
    by_cases hlt:T y.from_.toNat+y.length < T y.to.toNat
    · rw [decide_eq_true hlt, cond_true, cond_true, cond_true]
      obtain ⟨T', k1, k2, k3, k4⟩ := ih hl' t true (ts 40 T y.to.toNat [T y.from_.toNat + y.length]) (zuL d y.to.toNat (T y.from_.toNat + y.length)) (B + 1000000000)
        (fun v hv=>by
          rw [zDD (by omega)]
          unfold zuL
          by_cases h:v=y.to.toNat
          · rw [if_pos h,if_pos h]
          · rw [if_neg h,if_neg h];exact h1 v hv)
        (fun v hv=>by
          rw [zDD hv]
          by_cases h:v=y.to.toNat
          · rw [if_pos h];omega
          · rw [if_neg h];have:=h2 v hv;omega) (by omega) (by omega)
      refine ⟨T',k1,k2,k3,?_⟩
      rw [List.length_cons,show B+((l.length+1:Nat):Int) * 1000000000=B+1000000000+(l.length:Int) * 1000000000 by omega]
      exact k4
    · rw [decide_eq_false hlt, cond_false, cond_false, cond_false]
      obtain ⟨T',k1,k2,k3,k4⟩:=ih hl' t c T d B h1 h2 h3 (by omega)
      refine ⟨T',k1,k2,k3,fun v hv=>?_⟩
      have:=k4 v hv
      rw [List.length_cons]
      omega
theorem zty (a:web) (hn:NetOk a.Net):∀ (m k i:Nat) (T:Tab) (d:zdm) (B:Int),Rt a.Net.Nodes.toNat T d→Bd B T→0≤B→B+m * 400000000000≤100000000000000000→(i:Int)+m=a.Net.Nodes→m < k →
  zfn a k (i:Int) T=true∧zfm a k (i:Int) T=zoN (We a) m d:=by
 have hn1:=hn.n1;have hn40:=hn.n40;have hlen:=hn.len
 obtain ⟨q1,q2⟩:=ztx a (by omega)
 intro m
 induction m with
 | zero =>
  intro k i T d B _ _ _ _ hi hk
  obtain ⟨k,rfl⟩:∃ k',k=k'+1:=⟨k - 1,by omega⟩
  constructor
  ·show zhe a (zfn a k) (i : Int) T = true
   unfold zhe
   rw [decide_eq_false (show ¬ (i:Int) < a.Net.Nodes by omega),cond_false]
  ·show zhd a (zfm a k) (i : Int) T = true
   unfold zhd
   rw [decide_eq_false (show ¬ (i:Int) < a.Net.Nodes by omega),cond_false]
 | succ m ih =>
  intro k i T d B h1 h2 h3 h4 hi hk
  obtain ⟨k,rfl⟩:∃ k',k=k'+1:=⟨k - 1,by omega⟩
  have hwl:=zJY hn
  obtain ⟨T',k1,k2,k3,k4⟩:=zAC a (N:=a.Net.Nodes.toNat) (by omega) (zfm a k) (zfn a k) (Ws a) (fun y hy=>zJX hn hy) (i:Int) false T d B h1 h2 h3 (by omega)
  have hB:Bd (B+400000000000) T':=fun v hv=>by have:=k4 v hv;omega
  have hw:w64 ((i:Int)+(1:Int))=((i+1:Nat):Int):=by rw [zb7 (by omega) (by omega)];omega
  obtain ⟨r1,r2⟩:=ih k (i+1) T' (rnd (We a) d) (B+400000000000) k3 hB (by omega) (by omega) (by omega) (by omega)
  constructor
  ·show zhe a (zfn a k) (i : Int) T = true
   unfold zhe znW
   rw [decide_eq_true (show (i:Int) < a.Net.Nodes by omega),cond_true,q1,q2,k2]
   unfold ziE
   rw [hw,r1]
   cases ((Ws a).map edS |>.foldl rlF (d,false)).2 <;> rfl
  ·show zhd a (zfm a k) (i : Int) T = cond ((We a).foldl rlF (d, false)).2 (zoN (We a) m (rnd (We a) d)) false
   unfold zhd zro
   rw [decide_eq_true (show (i:Int) < a.Net.Nodes by omega),cond_true,q2,k1]
   unfold ziD
   rw [hw,r2]
   show cond (!((We a).foldl rlF (d,false)).2) false _=_
   cases ((We a).foldl rlF (d,false)).2 <;> rfl
theorem zAD (a:web) (hn:NetOk a.Net):p88 a=true∧s88 a=zoN (We a) a.Net.Nodes.toNat (zAN a.Net.Nodes.toNat):=by
 have hn1:=hn.n1;have hn40:=hn.n40
 have:=zty a hn a.Net.Nodes.toNat Fuel 0 (fun _=>(0:Int)) (zAN a.Net.Nodes.toNat) 0 (fun v hv=>if_pos hv) (fun v hv=>⟨by show -(0:Int)≤(0:Int);omega,Int.le_refl _⟩) (by omega) (by omega) (by omega) (by simp only [Fuel];omega)
 exact this
theorem zAE (a:web) (hn:NetOk a.Net):s88 a=false↔zcw (We a):=by
 rw [(zAD a hn).2];exact zCw (zHt hn)
end Go.Proofs
namespace Go.Proofs
open Go Go.Pm
set_option maxRecDepth 100000
set_option linter.unusedVariables false
theorem zj5 (a b:far):zvM a ⟨1,fun _=>b⟩=true∧zcb a ⟨1,fun _=>b⟩=cond (zBP b a) b a:=by
 unfold zvM zcb zn0 znZ
 have key:∀ k,zgB (⟨1,fun _=>b⟩:Sl far) (k+2) (0:Int) a.length a.uses=true∧zgA (⟨1,fun _=>b⟩:Sl far) (k+2) (0:Int) a.length a.uses=cond (zBP b a) b a:=by
  intro k
  have hw:w64 ((0:Int)+(1:Int))=(1:Int):=by rw [zb7 (by omega) (by omega)];rfl
  have e1:∀ x y,zgA (⟨1,fun _=>b⟩:Sl far) (k+1) (1:Int) x y=(⟨x,y⟩:far):=fun x y=>by
   show zgy (⟨1,fun _=>b⟩:Sl far) (zgA (⟨1,fun _=>b⟩:Sl far) k) (1:Int) x y=_
   unfold zgy
   rw [decide_eq_false (show ¬ (1:Int) < ((1:Nat):Int) by omega),cond_false]
  have e2:∀ x y,zgB (⟨1,fun _=>b⟩:Sl far) (k+1) (1:Int) x y=true:=fun x y=>by
   show zgz (⟨1,fun _=>b⟩:Sl far) (zgB (⟨1,fun _=>b⟩:Sl far) k) (1:Int) x y=_
   unfold zgz
   rw [decide_eq_false (show ¬ (1:Int) < ((1:Nat):Int) by omega),cond_false]
  constructor
  ·show zgz (⟨1, fun _ => b⟩ : Sl far) (zgB (⟨1, fun _ => b⟩ : Sl far) (k + 1)) (0:Int) a.length a.uses = _
   unfold zgz znY
   rw [decide_eq_true (show (0:Int) < ((1:Nat):Int) by omega),cond_true,decide_eq_true (show 0≤(0:Int)∧(0:Int) < ((1:Nat):Int) by omega),Bool.true_and,hw,e2,e2]
   cases zBP b (⟨a.length,a.uses⟩:far) <;> rfl
  ·show zgy (⟨1, fun _ => b⟩ : Sl far) (zgA (⟨1, fun _ => b⟩ : Sl far) (k + 1)) (0:Int) a.length a.uses = _
   unfold zgy znX
   rw [decide_eq_true (show (0:Int) < ((1:Nat):Int) by omega),cond_true,hw,e1,e1]
 have:=key (Fuel - 2)
 rw [show Fuel - 2+2=Fuel by simp only [Fuel]] at this
 exact this
theorem zAF (a b:far):zBP a b=decide (a.length < b.length∨(a.length=b.length∧a.uses < b.uses)):=by
 unfold zBP
 by_cases h1:a.length < b.length
 ·rw [decide_eq_true h1,cond_true];exact (decide_eq_true (.inl h1)).symm
 ·rw [decide_eq_false h1, cond_false]
  by_cases h2:a.length=b.length
  ·rw [show (a.length == b.length) = true from beq_iff_eq.2 h2, cond_true]
   exact decide_eq_decide.2 ⟨fun h=>.inr ⟨h2,h⟩,fun h=>h.elim (fun h=>absurd h h1) (fun h=>h.2)⟩
  ·rw [show (a.length == b.length) = false from beq_eq_false_iff_ne.2 h2, cond_false]
   exact (decide_eq_false (fun h=>h.elim h1 (fun h=>h2 h.1))).symm
def Rp (N:Nat) (T:Tab) (d:zdm):Prop:=∀ v,v < N→(T (v * 2),T (v * 2+1))=zKl (d v)
def nv (x y:Int):Bool:=match (x == (1000000000000:Int)) with | true=>(match (y == (0:Int)) with | true=>true | false=>false) | false=>false
def sm (x y u v:Int):Bool:=match (x == u) with | true=>(match (y == v) with | true=>true | false=>false) | false=>false
theorem zuQ (x y:Int):nv x y=decide ((x,y)=((1000000000000:Int),(0:Int))):=by
 unfold nv
 by_cases h1:x=1000000000000
 ·rw [show (x == (1000000000000:Int)) = true from beq_iff_eq.2 h1]
  by_cases h2:y=0
  ·rw [show (y == (0:Int))=true from beq_iff_eq.2 h2];exact (decide_eq_true (by rw [h1,h2])).symm
  ·rw [show (y == (0:Int))=false from beq_eq_false_iff_ne.2 h2];exact (decide_eq_false (fun h=>h2 (Prod.mk.inj h).2)).symm
 ·rw [show (x == (1000000000000:Int)) = false from beq_eq_false_iff_ne.2 h1]
  exact (decide_eq_false (fun h=>h1 (Prod.mk.inj h).1)).symm
theorem same_eq (x y u v:Int):sm x y u v=decide ((x,y)=(u,v)):=by
 unfold sm
 by_cases h1:x=u
 ·rw [show (x == u) = true from beq_iff_eq.2 h1]
  by_cases h2:y=v
  ·rw [show (y == v)=true from beq_iff_eq.2 h2];exact (decide_eq_true (by rw [h1,h2])).symm
  ·rw [show (y == v)=false from beq_eq_false_iff_ne.2 h2];exact (decide_eq_false (fun h=>h2 (Prod.mk.inj h).2)).symm
 ·rw [show (x == u) = false from beq_eq_false_iff_ne.2 h1]
  exact (decide_eq_false (fun h=>h1 (Prod.mk.inj h).1)).symm
theorem zj6 {E : List Ed} {n s v : Nat} (hE : EdOk E n) (hs : s < n) {d : zdm} (hd : Inv (E.map edM) (fun v => v = s) d) {x : Int} (hx : d v = some x) :
  ∃ L U,zKl (d v)=(L,U)∧x=L * 1048576+U∧0≤U∧U < 40∧-40000000000≤L∧L≤40000000000:=by
 obtain ⟨c,hc⟩:=zDB hE hs hd hx
 have h1:=zuP hE hc.ch
 have h2:=hc.len
 have h3:=hE.n40
 refine ⟨wt c,c.length,?_,hc.x,by omega,by omega,by omega,by omega⟩
 rw [hx,hc.x]
 exact ztu (by omega) (by omega)
end Go.Proofs
namespace Go.Proofs
open Go Go.Pm
set_option maxRecDepth 100000
set_option linter.unusedVariables false
theorem zJ0 (a : web) {N s : Nat} (E : List Ed) (hE : EdOk E N) (hn : zcw E) (hs : s < N) (S2 : Bool → Tab → Tab → Tab) (P2 : Bool → Tab → Tab → Bool) (y : step) (hy : StOk y N) (hm : edS y ∈ E) (S3 : Bool → Tab → Tab → Tab) (P3 : Bool → Tab → Tab → Bool) (c : Bool) (T4 T : Tab) (d : zdm) (h1 : Rp N T d) (hi : Inv (E.map edM) (fun v => v = s) d) :
  ∃ T',zlo S2 a y S3 c T4 T=S3 (rlF (d,c) (edM (edS y))).2 T4 T'∧zlp P2 a y P3 c T4 T=P3 (rlF (d,c) (edM (edS y))).2 T4 T'∧Rp N T' (rlF (d,c) (edM (edS y))).1:=by
 have hN:=hE.n40
 have f0:=hy.f0;have f1:=hy.f1;have t0:=hy.t0;have t1:=hy.t1;have l0:=hy.l0;have l1:=hy.l1
 have hu:=h1 y.from_.toNat (by omega)
 have hv:=h1 y.to.toNat (by omega)
 have e1:0+y.from_.toNat * 2+0=y.from_.toNat * 2:=by omega
 have e2:0+y.to.toNat * 2+0=y.to.toNat * 2:=by omega
 have e3:0+y.from_.toNat * 2+1=y.from_.toNat * 2+1:=by omega
 have hin:=zme (Src:=fun v=>v=s) (zgr hn) (s:=(d,c)) (e:=edM (edS y)) (List.mem_map_of_mem hm) hi
 have hS:zlo S2 a y S3 c T4 T=cond (nv (tg 80 T (0+y.from_.toNat * 2+0)) (tg 80 T (0+y.from_.toNat * 2+0+1))) (S3 c T4 T) (cond c (S3 true T4 (ts 80 T (0+y.to.toNat * 2+0) [(zcb (⟨(tg 80 T (0+y.to.toNat * 2+0)),(tg 80 T (0+y.to.toNat * 2+0+1))⟩:far) (⟨1,fun _=>(⟨(w64 ((tg 80 T (0+y.from_.toNat * 2+0))+y.length)),(w64 ((tg 80 T (0+y.from_.toNat * 2+1))+(1:Int)))⟩:far)⟩:(Sl far))).length,(zcb (⟨(tg 80 T (0+y.to.toNat * 2+0)),(tg 80 T (0+y.to.toNat * 2+0+1))⟩:far) (⟨1,fun _=>(⟨(w64 ((tg 80 T (0+y.from_.toNat * 2+0))+y.length)),(w64 ((tg 80 T (0+y.from_.toNat * 2+1))+(1:Int)))⟩:far)⟩:(Sl far))).uses])) (S3 (!(sm (zcb (⟨(tg 80 T (0+y.to.toNat * 2+0)),(tg 80 T (0+y.to.toNat * 2+0+1))⟩:far) (⟨1,fun _=>(⟨(w64 ((tg 80 T (0+y.from_.toNat * 2+0))+y.length)),(w64 ((tg 80 T (0+y.from_.toNat * 2+1))+(1:Int)))⟩:far)⟩:(Sl far))).length (zcb (⟨(tg 80 T (0+y.to.toNat * 2+0)),(tg 80 T (0+y.to.toNat * 2+0+1))⟩:far) (⟨1,fun _=>(⟨(w64 ((tg 80 T (0+y.from_.toNat * 2+0))+y.length)),(w64 ((tg 80 T (0+y.from_.toNat * 2+1))+(1:Int)))⟩:far)⟩:(Sl far))).uses (tg 80 T (0+y.to.toNat * 2+0)) (tg 80 T (0+y.to.toNat * 2+0+1)))) T4 (ts 80 T (0+y.to.toNat * 2+0) [(zcb (⟨(tg 80 T (0+y.to.toNat * 2+0)),(tg 80 T (0+y.to.toNat * 2+0+1))⟩:far) (⟨1,fun _=>(⟨(w64 ((tg 80 T (0+y.from_.toNat * 2+0))+y.length)),(w64 ((tg 80 T (0+y.from_.toNat * 2+1))+(1:Int)))⟩:far)⟩:(Sl far))).length,(zcb (⟨(tg 80 T (0+y.to.toNat * 2+0)),(tg 80 T (0+y.to.toNat * 2+0+1))⟩:far) (⟨1,fun _=>(⟨(w64 ((tg 80 T (0+y.from_.toNat * 2+0))+y.length)),(w64 ((tg 80 T (0+y.from_.toNat * 2+1))+(1:Int)))⟩:far)⟩:(Sl far))).uses]))):=rfl
 have hP:zlp P2 a y P3 c T4 T=(decide (0≤y.from_∧y.from_ < (40:Int)) && cond (nv (tg 80 T (0+y.from_.toNat * 2+0)) (tg 80 T (0+y.from_.toNat * 2+0+1))) (P3 c T4 T) (decide (0≤y.to∧y.to < (40:Int)) && (decide (0≤y.from_∧y.from_ < (40:Int)) && (decide (0≤y.from_∧y.from_ < (40:Int)) && (decide (zvM (⟨(tg 80 T (0+y.to.toNat * 2+0)),(tg 80 T (0+y.to.toNat * 2+0+1))⟩:far) (⟨1,fun _=>(⟨(w64 ((tg 80 T (0+y.from_.toNat * 2+0))+y.length)),(w64 ((tg 80 T (0+y.from_.toNat * 2+1))+(1:Int)))⟩:far)⟩:(Sl far))=true) && cond c (decide (0≤y.to∧y.to < (40:Int)) && P3 true T4 (ts 80 T (0+y.to.toNat * 2+0) [(zcb (⟨(tg 80 T (0+y.to.toNat * 2+0)),(tg 80 T (0+y.to.toNat * 2+0+1))⟩:far) (⟨1,fun _=>(⟨(w64 ((tg 80 T (0+y.from_.toNat * 2+0))+y.length)),(w64 ((tg 80 T (0+y.from_.toNat * 2+1))+(1:Int)))⟩:far)⟩:(Sl far))).length,(zcb (⟨(tg 80 T (0+y.to.toNat * 2+0)),(tg 80 T (0+y.to.toNat * 2+0+1))⟩:far) (⟨1,fun _=>(⟨(w64 ((tg 80 T (0+y.from_.toNat * 2+0))+y.length)),(w64 ((tg 80 T (0+y.from_.toNat * 2+1))+(1:Int)))⟩:far)⟩:(Sl far))).uses])) (decide (0≤y.to∧y.to < (40:Int)) && (decide (0≤y.to∧y.to < (40:Int)) && P3 (!(sm (zcb (⟨(tg 80 T (0+y.to.toNat * 2+0)),(tg 80 T (0+y.to.toNat * 2+0+1))⟩:far) (⟨1,fun _=>(⟨(w64 ((tg 80 T (0+y.from_.toNat * 2+0))+y.length)),(w64 ((tg 80 T (0+y.from_.toNat * 2+1))+(1:Int)))⟩:far)⟩:(Sl far))).length (zcb (⟨(tg 80 T (0+y.to.toNat * 2+0)),(tg 80 T (0+y.to.toNat * 2+0+1))⟩:far) (⟨1,fun _=>(⟨(w64 ((tg 80 T (0+y.from_.toNat * 2+0))+y.length)),(w64 ((tg 80 T (0+y.from_.toNat * 2+1))+(1:Int)))⟩:far)⟩:(Sl far))).uses (tg 80 T (0+y.to.toNat * 2+0)) (tg 80 T (0+y.to.toNat * 2+0+1)))) T4 (ts 80 T (0+y.to.toNat * 2+0) [(zcb (⟨(tg 80 T (0+y.to.toNat * 2+0)),(tg 80 T (0+y.to.toNat * 2+0+1))⟩:far) (⟨1,fun _=>(⟨(w64 ((tg 80 T (0+y.from_.toNat * 2+0))+y.length)),(w64 ((tg 80 T (0+y.from_.toNat * 2+1))+(1:Int)))⟩:far)⟩:(Sl far))).length,(zcb (⟨(tg 80 T (0+y.to.toNat * 2+0)),(tg 80 T (0+y.to.toNat * 2+0+1))⟩:far) (⟨1,fun _=>(⟨(w64 ((tg 80 T (0+y.from_.toNat * 2+0))+y.length)),(w64 ((tg 80 T (0+y.from_.toNat * 2+1))+(1:Int)))⟩:far)⟩:(Sl far))).uses])))))))):=rfl
 rw [hS,hP]
 clear hS hP
 rw [e1,e2,e3,zfJ (k:=y.from_.toNat * 2) (by omega),zfJ (k:=y.from_.toNat * 2+1) (by omega),zfJ (k:=y.to.toNat * 2) (by omega),zfJ (k:=y.to.toNat * 2+1) (by omega)]
 rw [decide_eq_true (show 0≤y.from_∧y.from_ < (40:Int) by omega),decide_eq_true (show 0≤y.to∧y.to < (40:Int) by omega)]
 simp only [zuQ,same_eq]
 cases hdu:d y.from_.toNat with
 | none =>
  rw [hdu] at hu
  have hr:rlF (d,c) (edM (edS y))=(d,c):=by
   unfold rlF edM edS
   simp only [hdu]
  rw [hr,decide_eq_true (show (T (y.from_.toNat * 2),T (y.from_.toNat * 2+1))=((1000000000000:Int),(0:Int)) from hu)]
  exact ⟨T,rfl,rfl,h1⟩
 | some x =>
  obtain ⟨L,U,k1,k2,k3,k4,k5,k6⟩:=zj6 hE hs hi hdu
  rw [hdu] at hu k1
  rw [k1] at hu
  have hL:T (y.from_.toNat * 2)=L:=(Prod.mk.inj hu).1
  have hU:T (y.from_.toNat * 2+1)=U:=(Prod.mk.inj hu).2
  rw [hL,hU,decide_eq_false (show ¬ (L,U)=((1000000000000:Int),(0:Int)) from fun h=>by have:=(Prod.mk.inj h).1;omega),zb7 (x:=L+y.length) (by omega) (by omega),zb7 (x:=U+(1:Int)) (by omega) (by omega)]
  rw [(zj5 _ _).1,(zj5 _ _).2,zAF]
  have hw:x+(edM (edS y)).w=(L+y.length) * 1048576+(U+1):=by
   show x+(y.length * 1048576+1)=_
   omega
  have hr:rlF (d,c) (edM (edS y))=cond (ltO ((L+y.length) * 1048576+(U+1)) (d y.to.toNat)) (zuL d y.to.toNat ((L+y.length) * 1048576+(U+1)),true) (d,c):=by
   rw [← hw]
   unfold rlF edM edS
   simp only [hdu] <;> rfl
  have hlt:decide ((L+y.length < T (y.to.toNat * 2))∨(L+y.length=T (y.to.toNat * 2)∧U+1 < T (y.to.toNat * 2+1)))=ltO ((L+y.length) * 1048576+(U+1)) (d y.to.toNat):=by
   cases hdv:d y.to.toNat with
   | none =>
    rw [hdv] at hv
    have hv1:T (y.to.toNat * 2)=1000000000000:=(Prod.mk.inj hv).1
    rw [hv1]
    exact decide_eq_true (.inl (by omega))
   | some z =>
    obtain ⟨L',U',m1,m2,m3,m4,m5,m6⟩:=zj6 hE hs hi hdv
    rw [hdv] at hv m1
    rw [m1] at hv
    rw [(Prod.mk.inj hv).1,(Prod.mk.inj hv).2,m2]
    exact decide_eq_decide.2 (by omega)
  simp only [hlt]
  rw [hr] at hin ⊢
  have hrw:∀ T'',Rp N T d→T''=ts 80 T (y.to.toNat * 2) [T (y.to.toNat * 2),T (y.to.toNat * 2+1)]→Rp N T'' d:=fun T'' h e v hv'=>by
   rw [e,zdI (by omega),zdI (by omega),← h v hv']
   by_cases hq:v=y.to.toNat
   ·subst hq
    rw [if_neg (by omega),if_pos rfl,if_pos rfl]
   ·rw [if_neg (by omega),if_neg (by omega),if_neg (by omega),if_neg (by omega)]
  cases hlo:ltO ((L+y.length) * 1048576+(U+1)) (d y.to.toNat) with
  | false =>
   refine ⟨ts 80 T (y.to.toNat * 2) [T (y.to.toNat * 2),T (y.to.toNat * 2+1)],?_,?_,hrw _ h1 rfl⟩
   ·simp only [cond_false, decide_true]
    cases c <;> rfl
   ·simp only [cond_false, Bool.true_and, decide_true]
    cases c <;> rfl
  | true =>
   rw [hlo] at hin
   simp only [cond_true,cond_false,Bool.true_and,decide_true] at hin ⊢
   refine ⟨ts 80 T (y.to.toNat * 2) [L+y.length,U+1],?_,?_,?_⟩
   ·cases c
    ·rw [decide_eq_false]
     ·rfl
     ·intro h
      rw [← hlt] at hlo
      have:=of_decide_eq_true hlo
      have h1':=(Prod.mk.inj h).1
      have h2':=(Prod.mk.inj h).2
      omega
    ·rfl
   ·cases c
    ·rw [decide_eq_false]
     ·rfl
     ·intro h
      rw [← hlt] at hlo
      have:=of_decide_eq_true hlo
      have h1':=(Prod.mk.inj h).1
      have h2':=(Prod.mk.inj h).2
      omega
    ·rfl
   ·intro v hv'
    rw [zdI (by omega),zdI (by omega)]
    unfold zuL
    by_cases hq:v=y.to.toNat
    ·subst hq
     rw [if_neg (by omega),if_pos rfl,if_pos rfl,if_pos rfl]
     exact (ztu (by omega) (by omega)).symm
    ·rw [if_neg (by omega), if_neg (by omega), if_neg (by omega), if_neg (by omega), if_neg hq]
     exact h1 v hv'
theorem zJ1 (a:web) {N s:Nat} (E:List Ed) (hE:EdOk E N) (hn:zcw E) (hs:s < N) (S2:Bool→Tab→Tab→Tab) (P2:Bool→Tab→Tab→Bool):∀ (l:List step),(∀ y∈l,StOk y N∧edS y∈E)→∀ (c:Bool) (T4 T:Tab) (d:zdm),Rp N T d→Inv (E.map edM) (fun v=>v=s) d →
  ∃ T',zhj S2 a l c T4 T=S2 (((l.map edS).map edM).foldl rlF (d,c)).2 T4 T'∧zhk P2 a l c T4 T=P2 (((l.map edS).map edM).foldl rlF (d,c)).2 T4 T'∧Rp N T' (((l.map edS).map edM).foldl rlF (d,c)).1:=by
 intro l
 induction l with
 | nil=>intro _ c T4 T d h1 _;exact ⟨T,rfl,rfl,h1⟩
 | cons y l ih =>
  intro hl c T4 T d h1 h2
  obtain ⟨hy,hm⟩:=hl y (List.mem_cons_self ..)
  obtain ⟨T',k1,k2,k3⟩:=zJ0 a E hE hn hs S2 P2 y hy hm (zhj S2 a l) (zhk P2 a l) c T4 T d h1 h2
  have h3:=zme (Src:=fun v=>v=s) (zgr hn) (s:=(d,c)) (e:=edM (edS y)) (List.mem_map_of_mem hm) h2
  obtain ⟨T'',m1,m2,m3⟩:=ih (fun z hz=>hl z (List.mem_cons_of_mem _ hz)) (rlF (d,c) (edM (edS y))).2 T4 T' (rlF (d,c) (edM (edS y))).1 k3 h3
  exact ⟨T'',Eq.trans k1 m1,Eq.trans k2 m2,m3⟩
theorem zCx (a:web) (hnet:NetOk a.Net) (E:List Ed) (hEe:E=(Ws a).map edS) {s:Nat} (hE:EdOk E a.Net.Nodes.toNat) (hn:zcw E) (hs:s < a.Net.Nodes.toNat):∀ (m k:Nat) (T4 T:Tab) (d:zdm),Rp a.Net.Nodes.toNat T d→Inv (E.map edM) (fun v=>v=s) d→Fix (E.map edM) (rds (E.map edM) m d)→m+1 < k →
  ∃ T',zeb a k true T4 T=true∧zea a k true T4 T=T'∧Rp a.Net.Nodes.toNat T' (rds (E.map edM) m d):=by
 have hlen:=hnet.len
 obtain ⟨q1,q2⟩:=ztx a (by omega)
 have hst:∀ y∈Ws a,StOk y a.Net.Nodes.toNat∧edS y∈E:=fun y hy=>⟨zJX hnet hy,by rw [hEe];exact List.mem_map_of_mem hy⟩
 have one:∀ (k:Nat) (T4 T:Tab) (d:zdm),Rp a.Net.Nodes.toNat T d→Inv (E.map edM) (fun v=>v=s) d →
   ∃ T',zea a (k+1) true T4 T=zea a k ((E.map edM).foldl rlF (d,false)).2 T4 T'∧zeb a (k+1) true T4 T=zeb a k ((E.map edM).foldl rlF (d,false)).2 T4 T'∧Rp a.Net.Nodes.toNat T' (rnd (E.map edM) d):=by
  intro k T4 T d h1 h2
  obtain ⟨T',k1,k2,k3⟩:=zJ1 a E hE hn hs (zea a k) (zeb a k) (Ws a) hst false T4 T d h1 h2
  rw [← hEe] at k1 k2 k3
  refine ⟨T',?_,?_,k3⟩
  ·show zlq a (zea a k) true T4 T = _
   unfold zlq zrV
   rw [cond_true,q2];exact k1
  ·show zlr a (zeb a k) true T4 T = _
   unfold zlr zn4
   rw [cond_true,q1,q2,decide_eq_true rfl,Bool.true_and];exact k2
 have stop:∀ (k:Nat) (T4 T:Tab),zea a (k+1) false T4 T=T∧zeb a (k+1) false T4 T=true:=fun k T4 T=>⟨rfl,rfl⟩
 intro m
 induction m with
 | zero =>
  intro k T4 T d h1 h2 h3 hk
  obtain ⟨k,rfl⟩:∃ k',k=k'+1+1:=⟨k - 2,by omega⟩
  obtain ⟨T',k1,k2,k3⟩:=one (k+1) T4 T d h1 h2
  have h3':Fix (E.map edM) d:=h3
  rw [zj4 h3'] at k1 k2
  rw [zmd h3'] at k3
  obtain ⟨j1,j2⟩:=stop k T4 T'
  exact ⟨T',k2.trans j2,k1.trans j1,k3⟩
 | succ m ih =>
  intro k T4 T d h1 h2 h3 hk
  obtain ⟨k,rfl⟩:∃ k',k=k'+1+1:=⟨k - 2,by omega⟩
  obtain ⟨T',k1,k2,k3⟩:=one (k+1) T4 T d h1 h2
  cases hf:((E.map edM).foldl rlF (d,false)).2 with
  | false =>
   rw [hf] at k1 k2
   have hx:Fix (E.map edM) d:=zjj hf
   obtain ⟨j1,j2⟩:=stop k T4 T'
   refine ⟨T',k2.trans j2,k1.trans j1,?_⟩
   rw [zmd hx] at k3
   rw [zAv hx];exact k3
  | true =>
   rw [hf] at k1 k2
   obtain ⟨T'',m1,m2,m3⟩:=ih (k+1) T4 T' (rnd (E.map edM) d) k3 (zoL (zgr hn) (fun _ h=>h) (s:=(d,false)) h2) h3 (by omega)
   exact ⟨T'',k2.trans m1,k1.trans m2,m3⟩
theorem zHd (a:web) (node:Int):∀ (m k i:Nat) (T4 T:Tab),(∀ v,v < i→T (v * 2)=1000000000000∧T (v * 2+1)=0)→i+m=40→m < k →
  ∃ T',zfr a node k (i:Int) T4 T=zls a node T4 T'∧zfs a node k (i:Int) T4 T=zlt a node T4 T'∧∀ v,v < 40→T' (v * 2)=1000000000000∧T' (v * 2+1)=0:=by
 intro m
 induction m with
 | zero =>
  intro k i T4 T h hi hk
  obtain ⟨k,rfl⟩:∃ k',k=k'+1:=⟨k - 1,by omega⟩
  refine ⟨T,?_,?_,fun v hv=>h v (by omega)⟩
  ·show zhl a node (zfr a node k) (i : Int) T4 T = _
   unfold zhl
   rw [decide_eq_false (show ¬ (i:Int) < (40:Int) by omega),cond_false]
  ·show zhm a node (zfs a node k) (i : Int) T4 T = _
   unfold zhm
   rw [decide_eq_false (show ¬ (i:Int) < (40:Int) by omega),cond_false]
 | succ m ih =>
  intro k i T4 T h hi hk
  obtain ⟨k,rfl⟩:∃ k',k=k'+1:=⟨k - 1,by omega⟩
  have hw:w64 ((i:Int)+(1:Int))=((i+1:Nat):Int):=by rw [zb7 (by omega) (by omega)];omega
  obtain ⟨T',k1,k2,k3⟩:=ih k (i+1) T4 (ts 80 T (i * 2) [(1000000000000:Int),(0:Int)]) (fun v hv=>by
   rw [zdI (by omega),zdI (by omega)]
   by_cases hq:v=i
   ·subst hq
    rw [if_neg (by omega),if_pos rfl,if_pos rfl];exact ⟨rfl,rfl⟩
   ·rw [if_neg (by omega),if_neg (by omega),if_neg (by omega),if_neg (by omega)];exact h v (by omega)) (by omega) (by omega)
  refine ⟨T',?_,?_,k3⟩
  ·rw [← k1]
   show zhl a node (zfr a node k) (i:Int) T4 T=_
   unfold zhl
   rw [decide_eq_true (show (i:Int) < (40:Int) by omega),cond_true,hw,Int.toNat_natCast,show 0+i * 2+0=i * 2 by omega]
  ·rw [← k2]
   show zhm a node (zfs a node k) (i:Int) T4 T=_
   unfold zhm
   rw [decide_eq_true (show (i:Int) < (40:Int) by omega),cond_true,decide_eq_true (show 0≤(i:Int)∧(i:Int) < (40:Int) by omega),Bool.true_and,hw,Int.toNat_natCast,show 0+i * 2+0=i * 2 by omega]
theorem zJ2 (a : web) (hnet : NetOk a.Net) (hn : zcw (We a)) (node : Int) (h0 : 0 ≤ node) (h1 : node < a.Net.Nodes) :
  p76 a node=true∧Rp a.Net.Nodes.toNat (s76 a node) (dst (We a) a.Net.Nodes.toNat node.toNat):=by
 have hn40:=hnet.n40
 have hEe:We a=(Ws a).map edS:=rfl
 have hE:EdOk (We a) a.Net.Nodes.toNat:=zHt hnet
 have hN:zcw (We a):=hn
 have hs:node.toNat < a.Net.Nodes.toNat:=by omega
 obtain ⟨T1,a1,a2,a3⟩:=zHd a node 40 Fuel 0 (fun _=>(0:Int)) (fun _=>(0:Int)) (fun v hv=>absurd hv (Nat.not_lt_zero _)) rfl (by simp only [Fuel];omega)
 have hr:Rp a.Net.Nodes.toNat (ts 80 T1 (node.toNat * 2) [(0:Int),(0:Int)]) (zAx node.toNat):=fun v hv=>by
  rw [zdI (by omega),zdI (by omega)]
  unfold zAx
  by_cases hq:v=node.toNat
  ·subst hq
   rw [if_neg (by omega),if_pos rfl,if_pos rfl,if_pos rfl];rfl
  ·rw [if_neg (by omega),if_neg (by omega),if_neg (by omega),if_neg (by omega),if_neg hq,(a3 v (by omega)).1,(a3 v (by omega)).2];rfl
 obtain ⟨T2,b1,b2,b3⟩:=zCx a hnet (We a) hEe hE hN hs (a.Net.Nodes.toNat - 1) Fuel (fun _=>(0:Int)) (ts 80 T1 (node.toNat * 2) [(0:Int),(0:Int)]) (zAx node.toNat) hr (zij (zgP node.toNat)) (ztv hE hN hs) (by simp only [Fuel];omega)
 have e:0+node.toNat * 2+0=node.toNat * 2:=by omega
 constructor
 ·show zfs a node Fuel 0 (fun _ => (0:Int)) (fun _ => (0:Int)) = true
  refine Eq.trans a2 ?_
  unfold zlt zrX
  rw [decide_eq_true (show 0≤node∧node < (40:Int) by omega),Bool.true_and,e];exact b1
 ·have:s76 a node=T2:=by
   show zfr a node Fuel 0 (fun _=>(0:Int)) (fun _=>(0:Int))=T2
   refine Eq.trans a1 ?_
   unfold zls zrW
   rw [e];exact b2
  rw [this];exact b3
end Go.Proofs
namespace Go.Proofs
open Go Go.Pm
set_option maxRecDepth 100000
set_option linter.unusedVariables false
def edQ (y:step):Ed:=⟨y.to.toNat,y.from_.toNat,y.length⟩
theorem zHe (l:List step):l.map edQ=(l.map edS).map edR:=by rw [List.map_map];rfl

theorem zJ3 (a : web) {N s : Nat} (E : List Ed) (hE : EdOk E N) (hn : zcw E) (hs : s < N) (S2 : Bool → Tab → Tab → Tab) (P2 : Bool → Tab → Tab → Bool) (y : step) (hy : StOk y N) (hm : edQ y ∈ E) (S3 : Bool → Tab → Tab → Tab) (P3 : Bool → Tab → Tab → Bool) (c : Bool) (T4 T : Tab) (d : zdm) (h1 : Rp N T d) (hi : Inv (E.map edM) (fun v => v = s) d) :
  ∃ T',zle S2 a y S3 c T4 T=S3 (rlF (d,c) (edM (edQ y))).2 T4 T'∧zlf P2 a y P3 c T4 T=P3 (rlF (d,c) (edM (edQ y))).2 T4 T'∧Rp N T' (rlF (d,c) (edM (edQ y))).1:=by
 have hN:=hE.n40
 have f0:=hy.f0;have f1:=hy.f1;have t0:=hy.t0;have t1:=hy.t1;have l0:=hy.l0;have l1:=hy.l1
 have hu:=h1 y.to.toNat (by omega)
 have hv:=h1 y.from_.toNat (by omega)
 have e1:0+y.to.toNat * 2+0=y.to.toNat * 2:=by omega
 have e2:0+y.from_.toNat * 2+0=y.from_.toNat * 2:=by omega
 have e3:0+y.to.toNat * 2+1=y.to.toNat * 2+1:=by omega
 have hin:=zme (Src:=fun v=>v=s) (zgr hn) (s:=(d,c)) (e:=edM (edQ y)) (List.mem_map_of_mem hm) hi
 have hS:zle S2 a y S3 c T4 T=cond (nv (tg 80 T (0+y.to.toNat * 2+0)) (tg 80 T (0+y.to.toNat * 2+0+1))) (S3 c T4 T) (cond c (S3 true T4 (ts 80 T (0+y.from_.toNat * 2+0) [(zcb (⟨(tg 80 T (0+y.from_.toNat * 2+0)),(tg 80 T (0+y.from_.toNat * 2+0+1))⟩:far) (⟨1,fun _=>(⟨(w64 ((tg 80 T (0+y.to.toNat * 2+0))+y.length)),(w64 ((tg 80 T (0+y.to.toNat * 2+1))+(1:Int)))⟩:far)⟩:(Sl far))).length,(zcb (⟨(tg 80 T (0+y.from_.toNat * 2+0)),(tg 80 T (0+y.from_.toNat * 2+0+1))⟩:far) (⟨1,fun _=>(⟨(w64 ((tg 80 T (0+y.to.toNat * 2+0))+y.length)),(w64 ((tg 80 T (0+y.to.toNat * 2+1))+(1:Int)))⟩:far)⟩:(Sl far))).uses])) (S3 (!(sm (zcb (⟨(tg 80 T (0+y.from_.toNat * 2+0)),(tg 80 T (0+y.from_.toNat * 2+0+1))⟩:far) (⟨1,fun _=>(⟨(w64 ((tg 80 T (0+y.to.toNat * 2+0))+y.length)),(w64 ((tg 80 T (0+y.to.toNat * 2+1))+(1:Int)))⟩:far)⟩:(Sl far))).length (zcb (⟨(tg 80 T (0+y.from_.toNat * 2+0)),(tg 80 T (0+y.from_.toNat * 2+0+1))⟩:far) (⟨1,fun _=>(⟨(w64 ((tg 80 T (0+y.to.toNat * 2+0))+y.length)),(w64 ((tg 80 T (0+y.to.toNat * 2+1))+(1:Int)))⟩:far)⟩:(Sl far))).uses (tg 80 T (0+y.from_.toNat * 2+0)) (tg 80 T (0+y.from_.toNat * 2+0+1)))) T4 (ts 80 T (0+y.from_.toNat * 2+0) [(zcb (⟨(tg 80 T (0+y.from_.toNat * 2+0)),(tg 80 T (0+y.from_.toNat * 2+0+1))⟩:far) (⟨1,fun _=>(⟨(w64 ((tg 80 T (0+y.to.toNat * 2+0))+y.length)),(w64 ((tg 80 T (0+y.to.toNat * 2+1))+(1:Int)))⟩:far)⟩:(Sl far))).length,(zcb (⟨(tg 80 T (0+y.from_.toNat * 2+0)),(tg 80 T (0+y.from_.toNat * 2+0+1))⟩:far) (⟨1,fun _=>(⟨(w64 ((tg 80 T (0+y.to.toNat * 2+0))+y.length)),(w64 ((tg 80 T (0+y.to.toNat * 2+1))+(1:Int)))⟩:far)⟩:(Sl far))).uses]))):=rfl
 have hP:zlf P2 a y P3 c T4 T=(decide (0≤y.to∧y.to < (40:Int)) && cond (nv (tg 80 T (0+y.to.toNat * 2+0)) (tg 80 T (0+y.to.toNat * 2+0+1))) (P3 c T4 T) (decide (0≤y.from_∧y.from_ < (40:Int)) && (decide (0≤y.to∧y.to < (40:Int)) && (decide (0≤y.to∧y.to < (40:Int)) && (decide (zvM (⟨(tg 80 T (0+y.from_.toNat * 2+0)),(tg 80 T (0+y.from_.toNat * 2+0+1))⟩:far) (⟨1,fun _=>(⟨(w64 ((tg 80 T (0+y.to.toNat * 2+0))+y.length)),(w64 ((tg 80 T (0+y.to.toNat * 2+1))+(1:Int)))⟩:far)⟩:(Sl far))=true) && cond c (decide (0≤y.from_∧y.from_ < (40:Int)) && P3 true T4 (ts 80 T (0+y.from_.toNat * 2+0) [(zcb (⟨(tg 80 T (0+y.from_.toNat * 2+0)),(tg 80 T (0+y.from_.toNat * 2+0+1))⟩:far) (⟨1,fun _=>(⟨(w64 ((tg 80 T (0+y.to.toNat * 2+0))+y.length)),(w64 ((tg 80 T (0+y.to.toNat * 2+1))+(1:Int)))⟩:far)⟩:(Sl far))).length,(zcb (⟨(tg 80 T (0+y.from_.toNat * 2+0)),(tg 80 T (0+y.from_.toNat * 2+0+1))⟩:far) (⟨1,fun _=>(⟨(w64 ((tg 80 T (0+y.to.toNat * 2+0))+y.length)),(w64 ((tg 80 T (0+y.to.toNat * 2+1))+(1:Int)))⟩:far)⟩:(Sl far))).uses])) (decide (0≤y.from_∧y.from_ < (40:Int)) && (decide (0≤y.from_∧y.from_ < (40:Int)) && P3 (!(sm (zcb (⟨(tg 80 T (0+y.from_.toNat * 2+0)),(tg 80 T (0+y.from_.toNat * 2+0+1))⟩:far) (⟨1,fun _=>(⟨(w64 ((tg 80 T (0+y.to.toNat * 2+0))+y.length)),(w64 ((tg 80 T (0+y.to.toNat * 2+1))+(1:Int)))⟩:far)⟩:(Sl far))).length (zcb (⟨(tg 80 T (0+y.from_.toNat * 2+0)),(tg 80 T (0+y.from_.toNat * 2+0+1))⟩:far) (⟨1,fun _=>(⟨(w64 ((tg 80 T (0+y.to.toNat * 2+0))+y.length)),(w64 ((tg 80 T (0+y.to.toNat * 2+1))+(1:Int)))⟩:far)⟩:(Sl far))).uses (tg 80 T (0+y.from_.toNat * 2+0)) (tg 80 T (0+y.from_.toNat * 2+0+1)))) T4 (ts 80 T (0+y.from_.toNat * 2+0) [(zcb (⟨(tg 80 T (0+y.from_.toNat * 2+0)),(tg 80 T (0+y.from_.toNat * 2+0+1))⟩:far) (⟨1,fun _=>(⟨(w64 ((tg 80 T (0+y.to.toNat * 2+0))+y.length)),(w64 ((tg 80 T (0+y.to.toNat * 2+1))+(1:Int)))⟩:far)⟩:(Sl far))).length,(zcb (⟨(tg 80 T (0+y.from_.toNat * 2+0)),(tg 80 T (0+y.from_.toNat * 2+0+1))⟩:far) (⟨1,fun _=>(⟨(w64 ((tg 80 T (0+y.to.toNat * 2+0))+y.length)),(w64 ((tg 80 T (0+y.to.toNat * 2+1))+(1:Int)))⟩:far)⟩:(Sl far))).uses])))))))):=rfl
 rw [hS,hP]
 clear hS hP
 rw [e1,e2,e3,zfJ (k:=y.to.toNat * 2) (by omega),zfJ (k:=y.to.toNat * 2+1) (by omega),zfJ (k:=y.from_.toNat * 2) (by omega),zfJ (k:=y.from_.toNat * 2+1) (by omega)]
 rw [decide_eq_true (show 0≤y.to∧y.to < (40:Int) by omega),decide_eq_true (show 0≤y.from_∧y.from_ < (40:Int) by omega)]
 simp only [zuQ,same_eq]
 cases hdu:d y.to.toNat with
 | none =>
  rw [hdu] at hu
  have hr:rlF (d,c) (edM (edQ y))=(d,c):=by
   unfold rlF edM edQ
   simp only [hdu]
  rw [hr,decide_eq_true (show (T (y.to.toNat * 2),T (y.to.toNat * 2+1))=((1000000000000:Int),(0:Int)) from hu)]
  exact ⟨T,rfl,rfl,h1⟩
 | some x =>
  obtain ⟨L,U,k1,k2,k3,k4,k5,k6⟩:=zj6 hE hs hi hdu
  rw [hdu] at hu k1
  rw [k1] at hu
  have hL:T (y.to.toNat * 2)=L:=(Prod.mk.inj hu).1
  have hU:T (y.to.toNat * 2+1)=U:=(Prod.mk.inj hu).2
  rw [hL,hU,decide_eq_false (show ¬ (L,U)=((1000000000000:Int),(0:Int)) from fun h=>by have:=(Prod.mk.inj h).1;omega),zb7 (x:=L+y.length) (by omega) (by omega),zb7 (x:=U+(1:Int)) (by omega) (by omega)]
  rw [(zj5 _ _).1,(zj5 _ _).2,zAF]
  have hw:x+(edM (edQ y)).w=(L+y.length) * 1048576+(U+1):=by
   show x+(y.length * 1048576+1)=_
   omega
  have hr:rlF (d,c) (edM (edQ y))=cond (ltO ((L+y.length) * 1048576+(U+1)) (d y.from_.toNat)) (zuL d y.from_.toNat ((L+y.length) * 1048576+(U+1)),true) (d,c):=by
   rw [← hw]
   unfold rlF edM edQ
   simp only [hdu] <;> rfl
  have hlt:decide ((L+y.length < T (y.from_.toNat * 2))∨(L+y.length=T (y.from_.toNat * 2)∧U+1 < T (y.from_.toNat * 2+1)))=ltO ((L+y.length) * 1048576+(U+1)) (d y.from_.toNat):=by
   cases hdv:d y.from_.toNat with
   | none =>
    rw [hdv] at hv
    have hv1:T (y.from_.toNat * 2)=1000000000000:=(Prod.mk.inj hv).1
    rw [hv1]
    exact decide_eq_true (.inl (by omega))
   | some z =>
    obtain ⟨L',U',m1,m2,m3,m4,m5,m6⟩:=zj6 hE hs hi hdv
    rw [hdv] at hv m1
    rw [m1] at hv
    rw [(Prod.mk.inj hv).1,(Prod.mk.inj hv).2,m2]
    exact decide_eq_decide.2 (by omega)
  simp only [hlt]
  rw [hr] at hin ⊢
  have hrw:∀ T'',Rp N T d→T''=ts 80 T (y.from_.toNat * 2) [T (y.from_.toNat * 2),T (y.from_.toNat * 2+1)]→Rp N T'' d:=fun T'' h e v hv'=>by
   rw [e,zdI (by omega),zdI (by omega),← h v hv']
   by_cases hq:v=y.from_.toNat
   ·subst hq
    rw [if_neg (by omega),if_pos rfl,if_pos rfl]
   ·rw [if_neg (by omega),if_neg (by omega),if_neg (by omega),if_neg (by omega)]
  cases hlo:ltO ((L+y.length) * 1048576+(U+1)) (d y.from_.toNat) with
  | false =>
   refine ⟨ts 80 T (y.from_.toNat * 2) [T (y.from_.toNat * 2),T (y.from_.toNat * 2+1)],?_,?_,hrw _ h1 rfl⟩
   ·simp only [cond_false, decide_true]
    cases c <;> rfl
   ·simp only [cond_false, Bool.true_and, decide_true]
    cases c <;> rfl
  | true =>
   rw [hlo] at hin
   simp only [cond_true,cond_false,Bool.true_and,decide_true] at hin ⊢
   refine ⟨ts 80 T (y.from_.toNat * 2) [L+y.length,U+1],?_,?_,?_⟩
   ·cases c
    ·rw [decide_eq_false]
     ·rfl
     ·intro h
      rw [← hlt] at hlo
      have:=of_decide_eq_true hlo
      have h1':=(Prod.mk.inj h).1
      have h2':=(Prod.mk.inj h).2
      omega
    ·rfl
   ·cases c
    ·rw [decide_eq_false]
     ·rfl
     ·intro h
      rw [← hlt] at hlo
      have:=of_decide_eq_true hlo
      have h1':=(Prod.mk.inj h).1
      have h2':=(Prod.mk.inj h).2
      omega
    ·rfl
   ·intro v hv'
    rw [zdI (by omega),zdI (by omega)]
    unfold zuL
    by_cases hq:v=y.from_.toNat
    ·subst hq
     rw [if_neg (by omega),if_pos rfl,if_pos rfl,if_pos rfl]
     exact (ztu (by omega) (by omega)).symm
    ·rw [if_neg (by omega), if_neg (by omega), if_neg (by omega), if_neg (by omega), if_neg hq]
     exact h1 v hv'
theorem zJ4 (a:web) {N s:Nat} (E:List Ed) (hE:EdOk E N) (hn:zcw E) (hs:s < N) (S2:Bool→Tab→Tab→Tab) (P2:Bool→Tab→Tab→Bool):∀ (l:List step),(∀ y∈l,StOk y N∧edQ y∈E)→∀ (c:Bool) (T4 T:Tab) (d:zdm),Rp N T d→Inv (E.map edM) (fun v=>v=s) d →
  ∃ T',zhf S2 a l c T4 T=S2 (((l.map edQ).map edM).foldl rlF (d,c)).2 T4 T'∧zhg P2 a l c T4 T=P2 (((l.map edQ).map edM).foldl rlF (d,c)).2 T4 T'∧Rp N T' (((l.map edQ).map edM).foldl rlF (d,c)).1:=by
 intro l
 induction l with
 | nil=>intro _ c T4 T d h1 _;exact ⟨T,rfl,rfl,h1⟩
 | cons y l ih =>
  intro hl c T4 T d h1 h2
  obtain ⟨hy,hm⟩:=hl y (List.mem_cons_self ..)
  obtain ⟨T',k1,k2,k3⟩:=zJ3 a E hE hn hs S2 P2 y hy hm (zhf S2 a l) (zhg P2 a l) c T4 T d h1 h2
  have h3:=zme (Src:=fun v=>v=s) (zgr hn) (s:=(d,c)) (e:=edM (edQ y)) (List.mem_map_of_mem hm) h2
  obtain ⟨T'',m1,m2,m3⟩:=ih (fun z hz=>hl z (List.mem_cons_of_mem _ hz)) (rlF (d,c) (edM (edQ y))).2 T4 T' (rlF (d,c) (edM (edQ y))).1 k3 h3
  exact ⟨T'',Eq.trans k1 m1,Eq.trans k2 m2,m3⟩
theorem zCy (a:web) (hnet:NetOk a.Net) (E:List Ed) (hEe:E=(Ws a).map edQ) {s:Nat} (hE:EdOk E a.Net.Nodes.toNat) (hn:zcw E) (hs:s < a.Net.Nodes.toNat):∀ (m k:Nat) (T4 T:Tab) (d:zdm),Rp a.Net.Nodes.toNat T d→Inv (E.map edM) (fun v=>v=s) d→Fix (E.map edM) (rds (E.map edM) m d)→m+1 < k →
  ∃ T',zd9 a k true T4 T=true∧zd8 a k true T4 T=T'∧Rp a.Net.Nodes.toNat T' (rds (E.map edM) m d):=by
 have hlen:=hnet.len
 obtain ⟨q1,q2⟩:=ztx a (by omega)
 have hst:∀ y∈Ws a,StOk y a.Net.Nodes.toNat∧edQ y∈E:=fun y hy=>⟨zJX hnet hy,by rw [hEe];exact List.mem_map_of_mem hy⟩
 have one:∀ (k:Nat) (T4 T:Tab) (d:zdm),Rp a.Net.Nodes.toNat T d→Inv (E.map edM) (fun v=>v=s) d →
   ∃ T',zd8 a (k+1) true T4 T=zd8 a k ((E.map edM).foldl rlF (d,false)).2 T4 T'∧zd9 a (k+1) true T4 T=zd9 a k ((E.map edM).foldl rlF (d,false)).2 T4 T'∧Rp a.Net.Nodes.toNat T' (rnd (E.map edM) d):=by
  intro k T4 T d h1 h2
  obtain ⟨T',k1,k2,k3⟩:=zJ4 a E hE hn hs (zd8 a k) (zd9 a k) (Ws a) hst false T4 T d h1 h2
  rw [← hEe] at k1 k2 k3
  refine ⟨T',?_,?_,k3⟩
  ·show zlg a (zd8 a k) true T4 T = _
   unfold zlg zrM
   rw [cond_true,q2];exact k1
  ·show zlh a (zd9 a k) true T4 T = _
   unfold zlh zn2
   rw [cond_true,q1,q2,decide_eq_true rfl,Bool.true_and];exact k2
 have stop:∀ (k:Nat) (T4 T:Tab),zd8 a (k+1) false T4 T=T∧zd9 a (k+1) false T4 T=true:=fun k T4 T=>⟨rfl,rfl⟩
 intro m
 induction m with
 | zero =>
  intro k T4 T d h1 h2 h3 hk
  obtain ⟨k,rfl⟩:∃ k',k=k'+1+1:=⟨k - 2,by omega⟩
  obtain ⟨T',k1,k2,k3⟩:=one (k+1) T4 T d h1 h2
  have h3':Fix (E.map edM) d:=h3
  rw [zj4 h3'] at k1 k2
  rw [zmd h3'] at k3
  obtain ⟨j1,j2⟩:=stop k T4 T'
  exact ⟨T',k2.trans j2,k1.trans j1,k3⟩
 | succ m ih =>
  intro k T4 T d h1 h2 h3 hk
  obtain ⟨k,rfl⟩:∃ k',k=k'+1+1:=⟨k - 2,by omega⟩
  obtain ⟨T',k1,k2,k3⟩:=one (k+1) T4 T d h1 h2
  cases hf:((E.map edM).foldl rlF (d,false)).2 with
  | false =>
   rw [hf] at k1 k2
   have hx:Fix (E.map edM) d:=zjj hf
   obtain ⟨j1,j2⟩:=stop k T4 T'
   refine ⟨T',k2.trans j2,k1.trans j1,?_⟩
   rw [zmd hx] at k3
   rw [zAv hx];exact k3
  | true =>
   rw [hf] at k1 k2
   obtain ⟨T'',m1,m2,m3⟩:=ih (k+1) T4 T' (rnd (E.map edM) d) k3 (zoL (zgr hn) (fun _ h=>h) (s:=(d,false)) h2) h3 (by omega)
   exact ⟨T'',k2.trans m1,k1.trans m2,m3⟩
theorem zHf (a:web) (node:Int):∀ (m k i:Nat) (T4 T:Tab),(∀ v,v < i→T (v * 2)=1000000000000∧T (v * 2+1)=0)→i+m=40→m < k →
  ∃ T',zfp a node k (i:Int) T4 T=zli a node T4 T'∧zfq a node k (i:Int) T4 T=zlj a node T4 T'∧∀ v,v < 40→T' (v * 2)=1000000000000∧T' (v * 2+1)=0:=by
 intro m
 induction m with
 | zero =>
  intro k i T4 T h hi hk
  obtain ⟨k,rfl⟩:∃ k',k=k'+1:=⟨k - 1,by omega⟩
  refine ⟨T,?_,?_,fun v hv=>h v (by omega)⟩
  ·show zhh a node (zfp a node k) (i : Int) T4 T = _
   unfold zhh
   rw [decide_eq_false (show ¬ (i:Int) < (40:Int) by omega),cond_false]
  ·show zhi a node (zfq a node k) (i : Int) T4 T = _
   unfold zhi
   rw [decide_eq_false (show ¬ (i:Int) < (40:Int) by omega),cond_false]
 | succ m ih =>
  intro k i T4 T h hi hk
  obtain ⟨k,rfl⟩:∃ k',k=k'+1:=⟨k - 1,by omega⟩
  have hw:w64 ((i:Int)+(1:Int))=((i+1:Nat):Int):=by rw [zb7 (by omega) (by omega)];omega
  obtain ⟨T',k1,k2,k3⟩:=ih k (i+1) T4 (ts 80 T (i * 2) [(1000000000000:Int),(0:Int)]) (fun v hv=>by
   rw [zdI (by omega),zdI (by omega)]
   by_cases hq:v=i
   ·subst hq
    rw [if_neg (by omega),if_pos rfl,if_pos rfl];exact ⟨rfl,rfl⟩
   ·rw [if_neg (by omega),if_neg (by omega),if_neg (by omega),if_neg (by omega)];exact h v (by omega)) (by omega) (by omega)
  refine ⟨T',?_,?_,k3⟩
  ·rw [← k1]
   show zhh a node (zfp a node k) (i:Int) T4 T=_
   unfold zhh
   rw [decide_eq_true (show (i:Int) < (40:Int) by omega),cond_true,hw,Int.toNat_natCast,show 0+i * 2+0=i * 2 by omega]
  ·rw [← k2]
   show zhi a node (zfq a node k) (i:Int) T4 T=_
   unfold zhi
   rw [decide_eq_true (show (i:Int) < (40:Int) by omega),cond_true,decide_eq_true (show 0≤(i:Int)∧(i:Int) < (40:Int) by omega),Bool.true_and,hw,Int.toNat_natCast,show 0+i * 2+0=i * 2 by omega]
theorem zJ5 (a : web) (hnet : NetOk a.Net) (hn : zcw (We a)) (node : Int) (h0 : 0 ≤ node) (h1 : node < a.Net.Nodes) :
  p75 a node=true∧Rp a.Net.Nodes.toNat (s75 a node) (dst ((We a).map edR) a.Net.Nodes.toNat node.toNat):=by
 have hn40:=hnet.n40
 have hEe:((We a).map edR)=(Ws a).map edQ:=(zHe (Ws a)).symm
 have hE:EdOk ((We a).map edR) a.Net.Nodes.toNat:=(zHt hnet).R
 have hN:zcw ((We a).map edR):=zoM hn
 have hs:node.toNat < a.Net.Nodes.toNat:=by omega
 obtain ⟨T1,a1,a2,a3⟩:=zHf a node 40 Fuel 0 (fun _=>(0:Int)) (fun _=>(0:Int)) (fun v hv=>absurd hv (Nat.not_lt_zero _)) rfl (by simp only [Fuel];omega)
 have hr:Rp a.Net.Nodes.toNat (ts 80 T1 (node.toNat * 2) [(0:Int),(0:Int)]) (zAx node.toNat):=fun v hv=>by
  rw [zdI (by omega),zdI (by omega)]
  unfold zAx
  by_cases hq:v=node.toNat
  ·subst hq
   rw [if_neg (by omega),if_pos rfl,if_pos rfl,if_pos rfl];rfl
  ·rw [if_neg (by omega),if_neg (by omega),if_neg (by omega),if_neg (by omega),if_neg hq,(a3 v (by omega)).1,(a3 v (by omega)).2];rfl
 obtain ⟨T2,b1,b2,b3⟩:=zCy a hnet ((We a).map edR) hEe hE hN hs (a.Net.Nodes.toNat - 1) Fuel (fun _=>(0:Int)) (ts 80 T1 (node.toNat * 2) [(0:Int),(0:Int)]) (zAx node.toNat) hr (zij (zgP node.toNat)) (ztv hE hN hs) (by simp only [Fuel];omega)
 have e:0+node.toNat * 2+0=node.toNat * 2:=by omega
 constructor
 ·show zfq a node Fuel 0 (fun _ => (0:Int)) (fun _ => (0:Int)) = true
  refine Eq.trans a2 ?_
  unfold zlj zrO
  rw [decide_eq_true (show 0≤node∧node < (40:Int) by omega),Bool.true_and,e];exact b1
 ·have:s75 a node=T2:=by
   show zfp a node Fuel 0 (fun _=>(0:Int)) (fun _=>(0:Int))=T2
   refine Eq.trans a1 ?_
   unfold zli zrN
   rw [e];exact b2
  rw [this];exact b3
end Go.Proofs
namespace Go.Proofs
open Go Go.Pm
set_option maxRecDepth 100000
set_option linter.unusedVariables false
attribute [local irreducible] Go.Pm.vcFun Go.Pm.vc Go.Pm.vcIter
section
variable {K:List PA→Prop} {n:Net} {from_a1:Int} {to:Int}
end
end Go.Proofs
namespace Go.Proofs
open Go Go.Pm
set_option maxRecDepth 100000
set_option linter.unusedVariables false
def W (n:Net):web:=⟨n,⟨0,fun _=>none⟩⟩
abbrev En (n:Net):List Ed:=We (W n)
def fr (n:Net) (i j:Nat):Int:=zDC (dst (En n) n.Nodes.toNat i j)
theorem zJ6 {E:List Ed} {n s v:Nat} (hE:EdOk E n) (hn:zcw E) (hs:s < n) (hv:v < n):zDC (dst (E.map edR) n s v)=zDC (dst E n v s):=by
 refine Int.le_antisymm ?_ ?_
 ·rcases zdV (v := s) hE hn hv with ⟨_, h⟩ | ⟨c, _, h1, h2, _⟩
  ·rw [h]
   rcases zdV (v:=v) hE.R (zoM hn) hs with ⟨_,h⟩ | ⟨c,_,_,h2,_,_,_⟩ <;> omega
  ·rw [h2,← zMa c];exact zAA hE.R (zoM hn) hs (zMb h1)
 ·rcases zdV (v := v) hE.R (zoM hn) hs with ⟨_, h⟩ | ⟨c, _, h1, h2, _⟩
  ·rw [h]
   rcases zdV (v:=s) hE hn hv with ⟨_,h⟩ | ⟨c,_,_,h2,_,_,_⟩ <;> omega
  ·obtain ⟨c0, k1, k2, _⟩ := zJW h1
   rw [h2,← k2];exact zAA hE hn hv k1
theorem zuR {n:Net} (hn:NetOk n) (hN:zcw (En n)) {i j:Nat} (hi:i < n.Nodes.toNat) : -1000000000000≤fr n i j∧fr n i j≤1000000000000:=by
 have hE:EdOk (En n) n.Nodes.toNat:=zHt (a:=W n) hn
 unfold fr
 rcases zdV (v:=j) hE hN hi with ⟨_,h⟩ | ⟨c,_,_,h2,_,h3,h4⟩
 ·rw [h];omega
 ·rw [h2];omega
theorem zCz (n:Net) (nodes:Sl Int) (hl:nodes.len≤1000) (ht:n.Ties.len≤210):p74 n nodes=true ∧
    (s67 n=false→s74 n nodes=(default,2)) ∧
    (NetOk n→(¬ ∀ i,i < nodes.len→0≤nodes.get i∧nodes.get i < n.Nodes)→s74 n nodes=(default,2)) ∧
    (NetOk n→(∀ i,i < nodes.len→0≤nodes.get i∧nodes.get i < n.Nodes)→¬ zcw (En n)→s74 n nodes=(default,5)) ∧
    (NetOk n→(∀ i,i < nodes.len→0≤nodes.get i∧nodes.get i < n.Nodes)→zcw (En n)→s74 n nodes=(W n,0)):=by
  obtain ⟨a1,a2⟩:=zAq n (by omega)
  unfold p74 s74
  rw [a1,decide_eq_true (show true=true from rfl),Bool.true_and]
  by_cases hs:s67 n=true
  · have hn := a2.1 hs
    have hn1:=hn.n1;have hn40:=hn.n40
    obtain ⟨t1,_⟩:=zAD (W n) hn
    rw [hs]
    have hg:∀ i,i < nodes.len→(s81 (nodes.get i) (0:Int) (w64 (n.Nodes - (1:Int)))=true↔0≤nodes.get i∧nodes.get i < n.Nodes):=fun i _=>by
      rw [zmb,decide_eq_true_eq,zb7 (by omega) (by omega)];omega
    have hloop := ztt (good := fun i => s81 (nodes.get i) (0:Int) (w64 (n.Nodes - (1:Int)))) (bad := ((default : web), (2:Int))) (fin := zrt n (s88 (W n))) (finP := true) (n := nodes.len) (lpS := ziH n nodes) (lpP := ziI n nodes)
      (fun k i hi=>by
        show ziF n nodes (ziH n nodes k) (i:Int)=_
        generalize ziH n nodes k=S
        unfold ziF zru
        rw [decide_eq_true (show (i:Int) < (nodes.len:Int) by omega),cond_true,Int.toNat_natCast]
        cases s81 (nodes.get i) (0:Int) (w64 (n.Nodes - (1:Int))) <;> rfl)
      (fun k=>by
        show ziF n nodes (ziH n nodes k) (nodes.len:Int)=_
        unfold ziF
        rw [decide_eq_false (show ¬ (nodes.len:Int) < (nodes.len:Int) by omega),cond_false];rfl)
      (fun k i hi=>by
        show ziG n nodes (ziI n nodes k) (i:Int)=_
        generalize ziI n nodes k=S
        unfold ziG zrv
        rw [decide_eq_true (show (i:Int) < (nodes.len:Int) by omega),cond_true,Int.toNat_natCast,decide_eq_true (show 0≤(i:Int)∧(i:Int) < (nodes.len:Int) by omega),Bool.true_and]
        cases s81 (nodes.get i) (0:Int) (w64 (n.Nodes - (1:Int))) <;> rfl)
      (fun k=>by
        show ziG n nodes (ziI n nodes k) (nodes.len:Int)=_
        unfold ziG
        rw [decide_eq_false (show ¬ (nodes.len:Int) < (nodes.len:Int) by omega),cond_false,show p88 (⟨n,(⟨0,(fun _=>none)⟩:Mp)⟩:web)=true from t1];rfl)
      (by omega)
    unfold zrC zrB zrA zrz zry zrx
    by_cases hr:∀ i,i < nodes.len→0≤nodes.get i∧nodes.get i < n.Nodes
    · obtain ⟨l1, l2⟩ := hloop.1 (fun i hi => (hg i hi).2 (hr i hi))
      rw [l1,l2]
      refine ⟨rfl,fun h=>(by cases h),fun _ h=>absurd hr h,fun _ _ h=>?_,fun _ _ h=>?_⟩
      · have:s88 (W n)=true:=by
          cases ht:s88 (W n)
          · exact absurd ((zAE (W n) hn).1 ht) h
          · rfl
        rw [this];rfl
      · rw [(zAE (W n) hn).2 h];rfl
    · obtain ⟨l1, l2⟩ := hloop.2 (fun h => hr fun i hi => (hg i hi).1 (h i hi))
      rw [l1,l2]
      exact ⟨rfl,fun h=>(by cases h),fun _ _=>rfl,fun _ h=>absurd h hr,fun _ h=>absurd h hr⟩
  · rw [Bool.eq_false_iff.2 hs]
    have hno:NetOk n→False:=fun h=>hs (a2.2 h)
    exact ⟨rfl,fun _=>rfl,fun h=>(hno h).elim,fun h=>(hno h).elim,fun h=>(hno h).elim⟩
theorem zLC {n:Net} (hn:NetOk n) (hN:zcw (En n)) {i:Int} (h0:0≤i) (h1:i < n.Nodes) {j:Nat} (hj:j < n.Nodes.toNat):p75 (W n) i=true∧s75 (W n) i (j * 2)=fr n j i.toNat:=by
 have h40:=hn.n40
 obtain ⟨a,b⟩:=zJ5 (W n) hn hN i h0 h1
 refine ⟨a,?_⟩
 have:=(Prod.mk.inj (b j hj)).1
 rw [this]
 exact zJ6 (zHt (a:=W n) hn) hN (show i.toNat < n.Nodes.toNat by omega) hj
theorem zHg {n:Net} (hn:NetOk n) (hN:zcw (En n)) {i:Int} (h0:0≤i) (h1:i < n.Nodes) {j:Nat} (hj:j < n.Nodes.toNat):p76 (W n) i=true∧s76 (W n) i (j * 2)=fr n i.toNat j:=by
 obtain ⟨a,b⟩:=zJ2 (W n) hn hN i h0 h1
 exact ⟨a,(Prod.mk.inj (b j hj)).1⟩
theorem zHh {α:Type} (i:Nat) (v:α) (g:Nat→α) (j:Nat):setT i v g j=if j=i then v else g j:=by
 show (match Nat.beq j i with | true=>v | false=>g j)=_
 by_cases h:j=i
 ·rw [if_pos h,show Nat.beq j i=true from by rw [h];exact Nat.beq_refl _]
 ·rw [if_neg h,show Nat.beq j i=false from Bool.eq_false_iff.2 fun e=>h (Nat.eq_of_beq_eq_true e)]
def zDE (n:Net) (i:Nat) (v:Sl Span):Sl Span:=⟨v.len,setT i (⟨-fr n i 0,fr n 0 i⟩:Span) v.get⟩
theorem zHi (n:Net):∀ (m i:Nat) (v:Sl Span),(∀ j,j < i→v.get j=⟨-fr n j 0,fr n 0 j⟩)→(zgS (zDE n) m i v).len=v.len∧∀ j,j < i+m→(zgS (zDE n) m i v).get j=⟨-fr n j 0,fr n 0 j⟩:=by
 intro m
 induction m with
 | zero=>intro i v h;exact ⟨rfl,fun j hj=>h j (by omega)⟩
 | succ m ih =>
  intro i v h
  obtain ⟨k1,k2⟩:=ih (i+1) (zDE n i v) (fun j hj=>by
   show setT i _ v.get j=_
   rw [zHh]
   by_cases hji:j=i
   ·rw [if_pos hji,hji]
   ·rw [if_neg hji];exact h j (by omega))
  exact ⟨k1,fun j hj=>k2 j (by omega)⟩
theorem zAG {n:Net} (ht:n.Ties.len≤210) (hn:NetOk n) (hN:zcw (En n)):p26 n=true∧∃ l,s26 n=(l,0)∧l.len=n.Nodes.toNat∧∀ i,i < n.Nodes.toNat→l.get i=⟨-fr n i 0,fr n 0 i⟩:=by
  have hn1:=hn.n1;have hn40:=hn.n40
  obtain ⟨w0,_,_,_,w4⟩:=zCz n (⟨0,fun _=>default⟩:Sl Int) (by decide) ht
  have w4':=w4 hn (fun i hi=>absurd hi (Nat.not_lt_zero _)) hN
  have hT:=fun (j:Nat) (hj:j < n.Nodes.toNat)=>zLC hn hN (i:=0) (Int.le_refl _) (by omega) hj
  have hF:=fun (j:Nat) (hj:j < n.Nodes.toNat)=>zHg hn hN (i:=0) (Int.le_refl _) (by omega) hj
  have p1:=(hT 0 (by omega)).1
  have p2:=(hF 0 (by omega)).1
  have hloop := zAo (step := zDE n) (E := fun v => (v, (0:Int))) (EP := fun _ => true) (Inv := fun _ v => v.len = n.Nodes.toNat) (a := 0) (n := n.Nodes.toNat) (lpS := fun k v i => zhn n k i v (s75 (W n) 0) (s76 (W n) 0)) (lpP := fun k v i => zho n k i v (s75 (W n) 0) (s76 (W n) 0))
    (fun k i v _ hi hv=>by
      show ziJ n (zhn n k) (i:Int) v (s75 (W n) 0) (s76 (W n) 0)=zhn n k (w64 ((i:Int)+(1:Int))) (zDE n i v) (s75 (W n) 0) (s76 (W n) 0)
      generalize zhn n k=S
      unfold ziJ zDE
      have hb:=zuR hn hN (i:=i) (j:=0) hi
      rw [decide_eq_true (show (i:Int) < (n.Nodes.toNat:Int) by omega),cond_true,Int.toNat_natCast,show 0+i * 2+0=i * 2 by omega,zfJ (by omega),zfJ (by omega),(hT i hi).2,(hF i hi).2,show (0:Int).toNat=0 from rfl,zb7 (x:=0 - fr n i 0) (by omega) (by omega),show (0:Int) - fr n i 0 = -fr n i 0 by omega])
    (fun k v=>by
      show ziJ n (zhn n k) (n.Nodes.toNat:Int) v (s75 (W n) 0) (s76 (W n) 0)=_
      unfold ziJ
      rw [decide_eq_false (show ¬ (n.Nodes.toNat:Int) < (n.Nodes.toNat:Int) by omega),cond_false])
    (fun k i v _ hi hv=>by
      show ziK n (zho n k) (i:Int) v (s75 (W n) 0) (s76 (W n) 0)=zho n k (w64 ((i:Int)+(1:Int))) (zDE n i v) (s75 (W n) 0) (s76 (W n) 0)
      generalize zho n k=S
      unfold ziK zDE
      have hb:=zuR hn hN (i:=i) (j:=0) hi
      have hv':v.len=n.Nodes.toNat:=hv
      rw [decide_eq_true (show (i:Int) < (n.Nodes.toNat:Int) by omega),cond_true,Int.toNat_natCast,show 0+i * 2+0=i * 2 by omega,zfJ (by omega),zfJ (by omega),(hT i hi).2,(hF i hi).2,show (0:Int).toNat=0 from rfl,zb7 (x:=0 - fr n i 0) (by omega) (by omega),show (0:Int) - fr n i 0 = -fr n i 0 by omega,
        decide_eq_true (show 0≤(i:Int)∧(i:Int) < (40:Int) by omega),decide_eq_true (show 0≤(i:Int)∧(i:Int) < (v.len:Int) by omega),decide_eq_true (show i < v.len by omega)]
      rfl)
    (fun k v=>by
      show ziK n (zho n k) (n.Nodes.toNat:Int) v (s75 (W n) 0) (s76 (W n) 0)=_
      unfold ziK
      rw [decide_eq_false (show ¬ (n.Nodes.toNat:Int) < (n.Nodes.toNat:Int) by omega),cond_false])
    (fun i v _ _ h=>h) (Nat.zero_le _) (by omega) (⟨n.Nodes.toNat,(fun _=>(⟨(0:Int),(0:Int)⟩:Span))⟩:Sl Span) rfl
  obtain ⟨l1,l2⟩:=hloop
  obtain ⟨f1,f2⟩:=zHi n (n.Nodes.toNat - 0) 0 (⟨n.Nodes.toNat,(fun _=>(⟨(0:Int),(0:Int)⟩:Span))⟩:Sl Span) (fun j hj=>absurd hj (Nat.not_lt_zero _))
  constructor
  · unfold p26
    rw [w0,w4']
    show (cond ((0:Int) == 0) (decide (true=true) && cond ((0:Int) != (0:Int)) true (decide (p75 (W n) 0=true) && (decide (p76 (W n) 0=true) && (decide (0≤n.Nodes∧n.Nodes=n.Nodes∧n.Nodes≤1000000) && zrY n (0:Int) (⟨n.Nodes.toNat,(fun _=>(⟨(0:Int),(0:Int)⟩:Span))⟩:Sl Span) (s75 (W n) 0) (s76 (W n) 0))))) _)=true
    rw [p1,p2,decide_eq_true (show 0≤n.Nodes∧n.Nodes=n.Nodes∧n.Nodes≤1000000 from ⟨by omega,rfl,by omega⟩)]
    exact l1
  · refine ⟨_, ?_, f1, fun i hi => f2 i (by omega)⟩
    unfold s26
    rw [w4']
    exact l2
theorem zm6 {n:Net} (hn:NetOk n) {v:Sl Int} (hv:AgOk n v):∀ e∈En n,v.get e.v≤v.get e.u+e.w:=by
 intro e he
 obtain ⟨j,h1,_,h3⟩:=(zJZ (a:=W n) hn).1 he
 have hk:=hv.keep j h1
 rcases h3 with ⟨h4,rfl⟩ | ⟨h4,rfl⟩
 ·have := hk.2.resolve_left h4
  show v.get (n.Ties.get j).To.toNat≤v.get (n.Ties.get j).From.toNat+(n.Ties.get j).High
  omega
 ·have := hk.1.resolve_left h4
  show v.get (n.Ties.get j).From.toNat≤v.get (n.Ties.get j).To.toNat + -(n.Ties.get j).Low
  omega
theorem zjF {n:Net} (hn:NetOk n) {v:Sl Int} (hv:AgOk n v):zcw (En n):=zqv (f:=v.get) (zm6 hn hv)
theorem zqw {n:Net} (hn:NetOk n) {v:Sl Int} (hv:AgOk n v) {i j:Nat} (hi:i < n.Nodes.toNat) (hj:fr n i j ≠ 1000000000000):v.get j - v.get i≤fr n i j:=by
 have hE:EdOk (En n) n.Nodes.toNat:=zHt (a:=W n) hn
 have:=zCu (v:=j) hE (zjF hn hv) hi (zm6 hn hv) (fun h=>hj (by unfold fr;rw [h];rfl))
 unfold fr
 omega
end Go.Proofs
namespace Go.Proofs
open Go Go.Pm
set_option maxRecDepth 100000
set_option linter.unusedVariables false
attribute [local irreducible] Go.Pm.vcFun Go.Pm.vc Go.Pm.vcIter
section
variable {K:List PA→Prop} {n:Net} {iv0:Int} {zM5:(Sl Tie)} {zLD:Nat→List PV} {X0:St→Prop} {P0:Int→(Sl Tie)→Bool} {S0:Int→(Sl Tie)→Net}
end
end Go.Proofs
namespace Go.Proofs
open Go Go.Pm
set_option maxRecDepth 100000
set_option linter.unusedVariables false
theorem zHj {α:Type} (n:Nat) (g:Nat→α) (x:α) (j:Nat):zjZ n g (fun _=>x) j=if n≤j then x else g j:=by
 unfold zjZ
 by_cases h:n≤j
 ·rw [if_pos h,show Nat.ble n j=true from Nat.ble_eq_true_of_le h]
 ·rw [if_neg h,show Nat.ble n j=false from Bool.eq_false_iff.2 fun k=>h (Nat.le_of_ble_eq_true k)]
def turn (t:Tie):Tie:=⟨t.From,t.To,w64 (0 - t.High),w64 (0 - t.Low)⟩
structure IsTurn (n m : Net) : Prop where
  nodes:m.Nodes=n.Nodes
  len:m.Ties.len=n.Ties.len
  tie:∀ j,j < n.Ties.len→m.Ties.get j=turn (n.Ties.get j)
end Go.Proofs
namespace Go.Proofs
open Go Go.Pm
set_option maxRecDepth 100000
set_option linter.unusedVariables false
def apL {α:Type} (l:Nat→α) (i:Nat) (v:Sl α):Sl α:=⟨v.len+1,zjZ v.len v.get (fun _=>l i)⟩
theorem zJ7 {α:Type} (l:Nat→α):∀ (m i:Nat) (v:Sl α),v.len=i→(∀ j,j < i→v.get j=l j)→(zgS (apL l) m i v).len=i+m∧∀ j,j < i+m→(zgS (apL l) m i v).get j=l j:=by
 intro m
 induction m with
 | zero=>intro i v h1 h2;exact ⟨h1,fun j hj=>h2 j (by omega)⟩
 | succ m ih =>
  intro i v h1 h2
  obtain ⟨k1,k2⟩:=ih (i+1) (apL l i v) (by show v.len+1=i+1;omega) (fun j hj=>by
   show zjZ v.len v.get (fun _=>l i) j=_
   rw [zHj]
   by_cases h:v.len≤j
   ·rw [if_pos h,show j=i by omega]
   ·rw [if_neg h];exact h2 j (by omega))
  exact ⟨k1.trans (by omega),fun j hj=>k2 j (by omega)⟩
theorem zAH {n:Net} (hn:NetOk n) {v:Sl Int} (hv:AgOk n v) {i:Nat} (hi:i < n.Nodes.toNat) : -fr n i 0≤v.get i∧v.get i≤fr n 0 i:=by
 have hn1:=hn.n1
 have h0:=hv.val.zero
 have hb:=hv.val.b i (by have:=hv.val.len;omega)
 constructor
 ·by_cases h : fr n i 0 = 1000000000000
  ·omega
  ·have:=zqw hn hv (i:=i) (j:=0) hi h;omega
 ·by_cases h : fr n 0 i = 1000000000000
  ·omega
  ·have:=zqw hn hv (i:=0) (j:=i) (by omega) h;omega
end Go.Proofs
namespace Go.Pm
open Go
theorem zuS {σ β : Type} {good : Nat → Bool} {step : Nat → σ → σ} {bad : β} {E : σ → β} {EP : σ → Bool} {Inv : Nat → σ → Prop} {n : Nat} {lpS : Nat → σ → Int → β} {lpP : Nat → σ → Int → Bool}
    (hS:∀ (k i:Nat) (s:σ),i < n→Inv i s→lpS (k+1) s (i:Int)=cond (good i) (lpS k (step i s) (w64 ((i:Int)+(1:Int)))) bad)
    (hE:∀ k s,lpS (k+1) s (n:Int)=E s)
    (hP:∀ (k i:Nat) (s:σ),i < n→Inv i s→lpP (k+1) s (i:Int)=cond (good i) (lpP k (step i s) (w64 ((i:Int)+(1:Int)))) true)
    (hPE:∀ k s,lpP (k+1) s (n:Int)=EP s)
    (hI:∀ i s,i < n→Inv i s→Inv (i+1) (step i s)) (hn:n≤9223372036854775807) (s:σ) (h0:Inv 0 s) :
    ((∀ i,i < n→good i=true)→lpP Fuel s 0=EP (zgS step n 0 s)∧lpS Fuel s 0=E (zgS step n 0 s))∧((¬ ∀ i,i < n→good i=true)→lpP Fuel s 0=true∧lpS Fuel s 0=bad):=by
  have key:∀ (m k i:Nat) (s:σ),i+m=n→m < k→Inv i s→((∀ j,i≤j→j < n→good j=true)→lpP k s (i:Int)=EP (zgS step m i s)∧lpS k s (i:Int)=E (zgS step m i s))∧((¬ ∀ j,i≤j→j < n→good j=true)→lpP k s (i:Int)=true∧lpS k s (i:Int)=bad):=by
    intro m
    induction m with
    | zero =>
      intro k i s hi hk _
      obtain ⟨k,rfl⟩:∃ k',k=k'+1:=⟨k - 1,by omega⟩
      have:i=n:=by omega
      subst this
      rw [hE,hPE]
      exact ⟨fun _=>⟨rfl,rfl⟩,fun h=>absurd (fun j h1 h2=>absurd h2 (by omega)) h⟩
    | succ m ih =>
      intro k i s hi hk hs
      obtain ⟨k,rfl⟩:∃ k',k=k'+1:=⟨k - 1,by omega⟩
      rw [hS k i s (by omega) hs,hP k i s (by omega) hs,zih (n:=n) (by omega) hn]
      obtain ⟨h1,h2⟩:=ih k (i+1) (step i s) (by omega) (by omega) (hI i s (by omega) hs)
      cases hg:good i
      · refine ⟨fun h => ?_, fun _ => ⟨rfl, rfl⟩⟩
        have:=h i (Nat.le_refl _) (by omega)
        rw [hg] at this;cases this
      · refine ⟨fun h => h1 fun j a b => h j (by omega) b, fun h => h2 fun h' => h fun j a b => ?_⟩
        by_cases hji:j=i
        · rw [hji];exact hg
        · exact h' j (by omega) b
  have:=key n Fuel 0 s (by omega) (by simp only [Fuel];omega) h0
  simpa using this
end Go.Pm
namespace Go.Proofs
open Go Go.Pm
set_option maxRecDepth 100000
set_option linter.unusedVariables false
attribute [local irreducible] Go.Pm.vcFun Go.Pm.vc Go.Pm.vcIter
section
variable {K:List PA→Prop} {nodes:Int} {p:Pulse}
end
section
variable {K:List PA→Prop} {nodes:Int} {l_a1:(Sl Pulse)} {zpH:Bool} {iv3:Int} {zM6:(Sl Tie)} {zLE:Nat→List PV} {X3:St→Prop} {P3:Int→(Sl Tie)→Bool} {S3:Int→(Sl Tie)→(Net×Int)} {iv4:Int} {zM7:Bool} {zor:Int} {zos:Int} {zjM:Int} {zjN:Int} {zot:Int} {zou:Int} {zjO:Int} {zM8:(Sl Tie)} {zLF:Nat→List PV} {iv5:Int} {zM9:Int} {zNa:Int} {zNb:Int} {zNc:Int} {zNd:Int} {zNe:Int} {zNf:Int} {zNg:(Sl Tie)} {zLG:Nat→List PV}
end
end Go.Proofs
namespace Go.Proofs
open Go Go.Pm
set_option maxRecDepth 100000
def zmf (p:Pulse):Bool:=!(p.A == p.B) && (s81 p.TimeA (-100000000:Int) (100000000:Int) && (s81 p.TimeB (-100000000:Int) (100000000:Int) && (s81 p.Flight.Low (0:Int) p.Flight.High && (!(decide (p.Flight.High > (100000000:Int))) && s81 p.Jitter (0:Int) (100000000:Int)))))
def tieP (p:Pulse):Tie:=⟨p.A,p.B,(w64 ((w64 ((w64 (p.TimeB - p.TimeA)) - p.Flight.High)) - p.Jitter)),(w64 ((w64 ((w64 (p.TimeB - p.TimeA)) - p.Flight.Low))+p.Jitter))⟩
def zHk (l:Sl Pulse) (i:Nat) (v:Sl Tie):Sl Tie:=⟨v.len+1,zjZ v.len v.get (fun _=>tieP (l.get i))⟩
def zek (l:Sl Pulse):Sl Tie:=zgS (zHk l) l.len 0 (⟨0,fun _=>default⟩:Sl Tie)
theorem zCA (l:Sl Pulse) (i:Nat) (v:Sl Tie) (h:v.len≤i):(zHk l i v).len≤i+1:=Nat.succ_le_succ h
abbrev zLH:Net×Int:=((⟨(0:Int),(⟨0,fun _=>default⟩:(Sl Tie))⟩:Net),(2:Int))
theorem zJ8 (nodes : Int) (l : Sl Pulse) (hn : l.len ≤ 210) :
    ((∀ i,i < l.len→zmf (l.get i)=true)→zox nodes l=(decide (p67 (⟨nodes,zek l⟩:Net)=true) && true)∧zow nodes l=zov nodes (!(s67 (⟨nodes,zek l⟩:Net))) (zek l)) ∧
    ((¬ ∀ i,i < l.len→zmf (l.get i)=true)→zox nodes l=true∧zow nodes l=zLH):=by
  have := zuS (good := fun i => zmf (l.get i)) (step := zHk l) (bad := zLH) (E := fun v => zov nodes (!(s67 (⟨nodes, v⟩ : Net))) v) (EP := fun v => decide (p67 (⟨nodes, v⟩ : Net) = true) && true) (Inv := fun i v => v.len ≤ i) (n := l.len)
    (lpS:=fun k v i=>zht nodes l k i v) (lpP:=fun k v i=>zhu nodes l k i v)
    (fun k i v hi hv=>by
      show ziX nodes l (zht nodes l k) (i:Int) v=cond (zmf (l.get i)) (zht nodes l k (w64 ((i:Int)+(1:Int))) (zHk l i v)) zLH
      generalize zht nodes l k=S
      unfold ziX zgn zsS zmf zHk tieP
      rw [decide_eq_true (show (i:Int) < (l.len:Int) by omega),cond_true,Int.toNat_natCast]
      cases (l.get i).A == (l.get i).B <;> cases s81 (l.get i).TimeA (-100000000) 100000000 <;> cases s81 (l.get i).TimeB (-100000000) 100000000 <;> cases s81 (l.get i).Flight.Low 0 (l.get i).Flight.High <;> cases decide ((l.get i).Flight.High > (100000000:Int)) <;> cases s81 (l.get i).Jitter 0 100000000 <;> rfl)
    (fun k v=>by
      show ziX nodes l (zht nodes l k) (l.len:Int) v=_
      unfold ziX
      rw [decide_eq_false (show ¬ (l.len:Int) < (l.len:Int) by omega),cond_false])
    (fun k i v hi hv=>by
      show ziY nodes l (zhu nodes l k) (i:Int) v=cond (zmf (l.get i)) (zhu nodes l k (w64 ((i:Int)+(1:Int))) (zHk l i v)) true
      generalize zhu nodes l k=S
      unfold ziY zgo zsU zmf zHk tieP
      rw [decide_eq_true (show (i:Int) < (l.len:Int) by omega),cond_true,Int.toNat_natCast,decide_eq_true (show 0≤(i:Int)∧(i:Int) < (l.len:Int) by omega),decide_eq_true (show (v.len+1) * 32≤140737488355328∧v.len+1≤9223372036854775807 by omega)]
      cases (l.get i).A == (l.get i).B <;> cases s81 (l.get i).TimeA (-100000000) 100000000 <;> cases s81 (l.get i).TimeB (-100000000) 100000000 <;> cases s81 (l.get i).Flight.Low 0 (l.get i).Flight.High <;> cases decide ((l.get i).Flight.High > (100000000:Int)) <;> cases s81 (l.get i).Jitter 0 100000000 <;> rfl)
    (fun k v=>by
      show ziY nodes l (zhu nodes l k) (l.len:Int) v=_
      unfold ziY
      rw [decide_eq_false (show ¬ (l.len:Int) < (l.len:Int) by omega),cond_false])
    (fun i v _ h=>zCA l i v h) (by omega) (⟨0,fun _=>default⟩:Sl Tie) (Nat.le_refl _)
  exact this
theorem zAI (p:Pulse):zmf p=true↔p.A ≠ p.B∧(-100000000≤p.TimeA∧p.TimeA≤100000000)∧(-100000000≤p.TimeB∧p.TimeB≤100000000)∧(0≤p.Flight.Low∧p.Flight.Low≤p.Flight.High)∧p.Flight.High≤100000000∧(0≤p.Jitter∧p.Jitter≤100000000):=by
 unfold zmf
 simp only [zmb,Bool.and_eq_true,decide_eq_true_eq,Bool.not_eq_true',beq_eq_false_iff_ne,decide_eq_false_iff_not,Int.not_lt,ne_eq,gt_iff_lt]
theorem zvG {σ : Type} {step : Nat → σ → σ} {Inv : Nat → σ → Prop} {n : Nat} (hI : ∀ i s, i < n → Inv i s → Inv (i + 1) (step i s)) :
    ∀ (m i:Nat) (s:σ),i+m=n→Inv i s→Inv n (zgS step m i s):=by
  intro m
  induction m with
  | zero => intro i s h hs; have : i = n := by omega
            subst this;exact hs
  | succ m ih=>intro i s h hs;exact ih (i+1) (step i s) (by omega) (hI i s (by omega) hs)
theorem zCB (l:Sl Pulse):(zek l).len=l.len∧∀ j,j < l.len→(zek l).get j=tieP (l.get j) :=
  zvG (Inv := fun i (v : Sl Tie) => v.len = i ∧ ∀ j, j < i → v.get j = tieP (l.get j)) (n := l.len)
    (fun i v hi h=>⟨by show v.len+1=i+1;rw [h.1],fun j hj=>by
      show zjZ v.len v.get (fun _=>tieP (l.get i)) j=_
      unfold zjZ
      by_cases hji:j < v.len
      · rw [show Nat.ble v.len j=false from Bool.eq_false_iff.2 fun k=>by have:=Nat.le_of_ble_eq_true k;omega];exact h.2 j (by have:=h.1;omega)
      · rw [show Nat.ble v.len j=true from Nat.ble_eq_true_of_le (by omega)];show tieP (l.get i)=_;have:=h.1;rw [show j=i by omega]⟩) l.len 0 _ (by omega) ⟨rfl,fun j hj=>absurd hj (Nat.not_lt_zero _)⟩
end Go.Proofs
namespace Go.Proofs
open Go Go.Pm
set_option maxRecDepth 100000
set_option linter.unusedVariables false
def zmo (c:Sl Int) (x:Flash):Bool:=!decide ((x).A < (0:Int)) && (!decide ((x).A ≥ (c.len:Int)) && (!decide ((x).B < (0:Int)) && (!decide ((x).B ≥ (c.len:Int)) && (!((x).A == (x).B) && (!decide ((x).Time < (-1000000:Int)) && (!decide ((x).Time > (1000000:Int)) && (!decide ((x).Flight < (0:Int)) && (!decide ((x).Flight > (1000000:Int)) && (!decide ((x).Wrong < (-100:Int)) && (!decide ((x).Wrong > (100:Int))))))))))))
def puF (c:Sl Int) (play jit:Int) (x:Flash):Pulse:=⟨x.A,x.B,(w64 (x.Time+(c.get x.A.toNat))),(w64 ((w64 ((w64 (x.Time+x.Flight))+(c.get x.B.toNat)))+(w64 ((w64 (jit * x.Wrong)).tdiv (100:Int))))),(⟨(if (w64 (x.Flight - play)) > (0:Int) then (w64 (x.Flight - play)) else (0:Int)),(w64 (x.Flight+play))⟩:Span),jit⟩
theorem zJ9 {p j:Int} (h1 : -(100 * j)≤p) (h2:p≤100 * j) : -j≤p.tdiv 100∧p.tdiv 100≤j:=by
 by_cases hp:0≤p
 ·rw [Int.tdiv_eq_ediv_of_nonneg hp];omega
 ·have : p = -(-p) := by omega
  rw [this,Int.neg_tdiv,Int.tdiv_eq_ediv_of_nonneg (show 0≤-p by omega)];omega
structure CkOk (c : Sl Int) : Prop where
  l1:1≤c.len
  l7:c.len≤7
  z:c.get 0=0
  b:∀ i,i < c.len→-1000000≤c.get i∧c.get i≤1000000
theorem zvH {c : Sl Int} {play jit : Int} (hc : CkOk c) (hp : 0 ≤ play ∧ play ≤ 1000000) (hj : 0 ≤ jit ∧ jit ≤ 1000000) {x : Flash} (hx : zmo c x = true) :
  zmf (puF c play jit x)=true∧TieOk (tieP (puF c play jit x)) c.len∧Keep (tieP (puF c play jit x)) c:=by
 simp only [zmo,Bool.and_eq_true,Bool.not_eq_true',decide_eq_false_iff_not,beq_eq_false_iff_ne,Int.not_lt,ge_iff_le,gt_iff_lt,Int.not_le] at hx
 obtain ⟨a0,a1,b0,b1,ne,t0,t1,f0,f1,w0,w1⟩:=hx
 have ca:=hc.b x.A.toNat (by omega)
 have cb:=hc.b x.B.toNat (by omega)
 have hm1:jit * x.Wrong≤jit * 100:=Int.mul_le_mul_of_nonneg_left w1 hj.1
 have hm2:jit * (-100)≤jit * x.Wrong:=Int.mul_le_mul_of_nonneg_left w0 hj.1
 have hq:=zJ9 (p:=jit * x.Wrong) (j:=jit) (by omega) (by omega)
 have e1:w64 (x.Time+c.get x.A.toNat)=x.Time+c.get x.A.toNat:=zb7 (by omega) (by omega)
 have e2:w64 (jit * x.Wrong)=jit * x.Wrong:=zb7 (by omega) (by omega)
 generalize hpq:jit * x.Wrong=p at *
 generalize hqq:p.tdiv 100=q at *
 have e3:w64 ((w64 p).tdiv (100:Int))=q:=by rw [e2,hqq];exact zb7 (by omega) (by omega)
 have e4:w64 ((w64 ((w64 (x.Time+x.Flight))+(c.get x.B.toNat)))+q)=x.Time+x.Flight+c.get x.B.toNat+q:=by
  rw [zb7 (x:=x.Time+x.Flight) (by omega) (by omega),zb7 (x:=x.Time+x.Flight+c.get x.B.toNat) (by omega) (by omega),zb7 (by omega) (by omega)]
 have e5:w64 (x.Flight - play)=x.Flight - play:=zb7 (by omega) (by omega)
 have e6:w64 (x.Flight+play)=x.Flight+play:=zb7 (by omega) (by omega)
 have hP:puF c play jit x=⟨x.A,x.B,x.Time+c.get x.A.toNat,x.Time+x.Flight+c.get x.B.toNat+q,⟨if x.Flight - play > 0 then x.Flight - play else 0,x.Flight+play⟩,jit⟩:=by
  unfold puF
  rw [hpq,e1,e3,e4,e5,e6]
 have hm:0≤(if x.Flight - play > 0 then x.Flight - play else 0)∧(if x.Flight - play > 0 then x.Flight - play else 0)≤x.Flight:=by split <;> omega
 generalize hmm:(if x.Flight - play > 0 then x.Flight - play else 0)=fl at *
 rw [hP]
 have hT:tieP ⟨x.A,x.B,x.Time+c.get x.A.toNat,x.Time+x.Flight+c.get x.B.toNat+q,⟨fl,x.Flight+play⟩,jit⟩=⟨x.A,x.B,x.Flight+c.get x.B.toNat+q - c.get x.A.toNat - (x.Flight+play) - jit,x.Flight+c.get x.B.toNat+q - c.get x.A.toNat - fl+jit⟩:=by
  show (⟨x.A,x.B,w64 (w64 (w64 (x.Time+x.Flight+c.get x.B.toNat+q - (x.Time+c.get x.A.toNat)) - (x.Flight+play)) - jit),w64 (w64 (w64 (x.Time+x.Flight+c.get x.B.toNat+q - (x.Time+c.get x.A.toNat)) - fl)+jit)⟩:Tie)=_
  rw [zb7 (x:=x.Time+x.Flight+c.get x.B.toNat+q - (x.Time+c.get x.A.toNat)) (by omega) (by omega),show x.Time+x.Flight+c.get x.B.toNat+q - (x.Time+c.get x.A.toNat)=x.Flight+c.get x.B.toNat+q - c.get x.A.toNat by omega,
   zb7 (x:=x.Flight+c.get x.B.toNat+q - c.get x.A.toNat - (x.Flight+play)) (by omega) (by omega),zb7 (x:=x.Flight+c.get x.B.toNat+q - c.get x.A.toNat - fl) (by omega) (by omega),zb7 (by omega) (by omega),zb7 (by omega) (by omega)]
 refine ⟨(zAI _).2 ⟨ne,?_,?_,?_,?_,?_⟩,?_,?_⟩
 ·exact ⟨by show -100000000≤x.Time+c.get x.A.toNat;omega,by show x.Time+c.get x.A.toNat≤100000000;omega⟩
 ·exact ⟨by show -100000000≤x.Time+x.Flight+c.get x.B.toNat+q;omega,by show x.Time+x.Flight+c.get x.B.toNat+q≤100000000;omega⟩
 ·exact ⟨hm.1,by show fl≤x.Flight+play;omega⟩
 ·show x.Flight+play≤100000000;omega
 ·exact ⟨hj.1,by show jit≤100000000;omega⟩
 ·rw [hT]
  exact ⟨a0,a1,b0,b1,ne,.inr ⟨by show -1000000000≤x.Flight+c.get x.B.toNat+q - c.get x.A.toNat - (x.Flight+play) - jit;omega,by show x.Flight+c.get x.B.toNat+q - c.get x.A.toNat - (x.Flight+play) - jit≤1000000000;omega⟩,.inr ⟨by show -1000000000≤x.Flight+c.get x.B.toNat+q - c.get x.A.toNat - fl+jit;omega,by show x.Flight+c.get x.B.toNat+q - c.get x.A.toNat - fl+jit≤1000000000;omega⟩,by show x.Flight+c.get x.B.toNat+q - c.get x.A.toNat - (x.Flight+play) - jit≤x.Flight+c.get x.B.toNat+q - c.get x.A.toNat - fl+jit;omega⟩
 ·rw [hT]
  exact ⟨.inr (by show x.Flight+c.get x.B.toNat+q - c.get x.A.toNat - (x.Flight+play) - jit≤c.get x.B.toNat - c.get x.A.toNat;omega),.inr (by show c.get x.B.toNat - c.get x.A.toNat≤x.Flight+c.get x.B.toNat+q - c.get x.A.toNat - fl+jit;omega)⟩
theorem zvI (c:Sl Int) (hc:CkOk c) (v:Sl Pulse) (hv:v.len≤20) (h:∀ i,i < v.len→zmf (v.get i)=true∧TieOk (tieP (v.get i)) c.len∧Keep (tieP (v.get i)) c):zl9 c v=true∧zl8 c v=true:=by
  have l1:=hc.l1;have l7:=hc.l7
  obtain ⟨t1,t2⟩:=zCB v
  obtain ⟨a1,_⟩:=zJ8 (c.len:Int) v (by omega)
  obtain ⟨a1,a2⟩:=a1 (fun i hi=>(h i hi).1)
  have hn:NetOk (⟨(c.len:Int),zek v⟩:Net):=⟨by show 1≤(c.len:Int);omega,by show (c.len:Int)≤40;omega,by show (zek v).len≤200;omega,fun i hi=>by
    have hi':i < v.len:=t1 ▸ hi
    show TieOk ((zek v).get i) c.len
    rw [t2 i hi'];exact (h i hi').2.1⟩
  obtain ⟨g1,g2⟩:=zAq (⟨(c.len:Int),zek v⟩:Net) (by show (zek v).len≤_;omega)
  have hs:=g2.2 hn
  have hag:AgOk (⟨(c.len:Int),zek v⟩:Net) c:=⟨⟨rfl,hc.z,fun i hi=>by have:=hc.b i hi;omega⟩,fun i hi=>by
    have hi':i < v.len:=t1 ▸ hi
    show Keep ((zek v).get i) c
    rw [t2 i hi'];exact (h i hi').2.2⟩
  obtain ⟨c1,c2⟩:=zG7 _ c hn hs (by omega)
  obtain ⟨d1,d2⟩:=zG6 _ c hn (by omega)
  have c3:=c2.2 hag
  have d3:=d2.2 hag
  have e1:p40 (c.len:Int) v=true:=by
    unfold p40
    rw [decide_eq_false (show ¬ (v.len:Int) > (200:Int) by omega),cond_false,a1,g1];rfl
  have e2:s40 (c.len:Int) v=((⟨(c.len:Int),zek v⟩:Net),0):=by
    unfold s40
    rw [decide_eq_false (show ¬ (v.len:Int) > (200:Int) by omega),cond_false,a2,hs];rfl
  obtain ⟨b1,b,b2,b3,b4⟩:=zAG (by show (zek v).len≤210;omega) hn (zjF hn hag)
  have b3':b.len=c.len:=b3
  have hgood:∀ i,i < b.len→(b.get i).Low≤c.get i∧c.get i≤(b.get i).High:=fun i hi=>by
    have:=zAH hn hag (i:=i) (by show i < (c.len:Int).toNat;omega)
    rw [b4 i (by show i < (c.len:Int).toNat;omega)]
    exact this
  have hl := zfu (good := fun _ => true) (fin := true) (n := b.len) (lpS := zgL c b) (lpP := zgM c b)
    (fun k i hi=>by
      show zgJ c b (zgL c b k) (i:Int)=_
      generalize zgL c b k=S
      unfold zgJ
      rw [decide_eq_true (show (i:Int) < (b.len:Int) by omega),cond_true,Int.toNat_natCast,decide_eq_false (show ¬ c.get i < (b.get i).Low from Int.not_lt.2 (hgood i hi).1),decide_eq_false (show ¬ c.get i > (b.get i).High from Int.not_lt.2 (hgood i hi).2)]
      rfl)
    (fun k=>by
      show zgJ c b (zgL c b k) (b.len:Int)=_
      unfold zgJ
      rw [decide_eq_false (show ¬ (b.len:Int) < (b.len:Int) by omega),cond_false])
    (fun k i hi=>by
      show zgK c b (zgM c b k) (i:Int)=_
      generalize zgM c b k=S
      unfold zgK
      rw [decide_eq_true (show (i:Int) < (b.len:Int) by omega),cond_true,Int.toNat_natCast,decide_eq_true (show 0≤(i:Int)∧(i:Int) < (b.len:Int) by omega),Bool.true_and,decide_eq_false (show ¬ c.get i < (b.get i).Low from Int.not_lt.2 (hgood i hi).1),decide_eq_false (show ¬ c.get i > (b.get i).High from Int.not_lt.2 (hgood i hi).2),decide_eq_true (show 0≤(i:Int)∧(i:Int) < (c.len:Int) by omega)]
      rfl)
    (fun k=>by
      show zgK c b (zgM c b k) (b.len:Int)=_
      unfold zgK
      rw [decide_eq_false (show ¬ (b.len:Int) < (b.len:Int) by omega),cond_false])
    (by omega)
  unfold zl9 zl8
  rw [e1,e2]
  unfold zto ztn
  show (decide (true=true) && cond ((0:Int) != 0) _ (decide (p48 (⟨(c.len:Int),zek v⟩:Net) c=true) && cond (!(s48 (⟨(c.len:Int),zek v⟩:Net) c)) _ (decide (p38 (⟨(c.len:Int),zek v⟩:Net) c=true) && zjf c (c.len:Int) (zek v) (!(s38 (⟨(c.len:Int),zek v⟩:Net) c)))))=true∧cond ((0:Int) != 0) _ (cond (!(s48 (⟨(c.len:Int),zek v⟩:Net) c)) _ (zje c (c.len:Int) (zek v) (!(s38 (⟨(c.len:Int),zek v⟩:Net) c))))=true
  rw [c1,c3,d1,d3]
  unfold zjf zje ztl ztk
  simp only [decide_true,Bool.true_and,bne_self_eq_false,cond_false,Bool.not_true]
  rw [b1,b2]
  unfold ztj zti
  simp only [decide_true,Bool.true_and,bne_self_eq_false,cond_false,b3']
  unfold zoI zoH zoG zoF
  exact ⟨hl.1,hl.2.2 ⟨fun _ _=>rfl,rfl⟩⟩
theorem zAJ (c:Sl Int) (hc:CkOk c) (l:Sl Flash) (hl:l.len≤20) (play jit:Int) (hp:0≤play∧play≤1000000) (hj:0≤jit∧jit≤1000000):zma c l play jit=true∧zji c l play jit=true:=by
  have h := zuS (good := fun i => zmo c (l.get i)) (step := apL fun i => puF c play jit (l.get i)) (bad := true) (E := fun v => zl8 c v) (EP := fun v => zl9 c v) (Inv := fun i v => v.len = i) (n := l.len)
    (lpS:=fun k v i=>zhw c l play jit k i v) (lpP:=fun k v i=>zhx c l play jit k i v)
    (fun k i v hi hv=>by
      show zjg c l play jit (zhw c l play jit k) (i:Int) v=cond (zmo c (l.get i)) (zhw c l play jit k (w64 ((i:Int)+(1:Int))) (apL (fun i=>puF c play jit (l.get i)) i v)) true
      generalize zhw c l play jit k=S
      unfold zjg ztp zmo apL puF
      rw [decide_eq_true (show (i:Int) < (l.len:Int) by omega),cond_true,Int.toNat_natCast]
      generalize decide ((l.get i).A < (0:Int))=b0
      generalize decide ((l.get i).A ≥ (c.len:Int))=b1
      generalize decide ((l.get i).B < (0:Int))=b2
      generalize decide ((l.get i).B ≥ (c.len:Int))=b3
      generalize ((l.get i).A == (l.get i).B)=b4
      generalize decide ((l.get i).Time < (-1000000:Int))=b5
      generalize decide ((l.get i).Time > (1000000:Int))=b6
      generalize decide ((l.get i).Flight < (0:Int))=b7
      generalize decide ((l.get i).Flight > (1000000:Int))=b8
      generalize decide ((l.get i).Wrong < (-100:Int))=b9
      generalize decide ((l.get i).Wrong > (100:Int))=b10
      cases b0 <;> try rfl
      cases b1 <;> try rfl
      cases b2 <;> try rfl
      cases b3 <;> try rfl
      cases b4 <;> try rfl
      cases b5 <;> try rfl
      cases b6 <;> try rfl
      cases b7 <;> try rfl
      cases b8 <;> try rfl
      cases b9 <;> try rfl
      cases b10 <;> try rfl
      )
    (fun k v=>by
      show zjg c l play jit (zhw c l play jit k) (l.len:Int) v=_
      unfold zjg
      rw [decide_eq_false (show ¬ (l.len:Int) < (l.len:Int) by omega),cond_false])
    (fun k i v hi hv=>by
      show zjh c l play jit (zhx c l play jit k) (i:Int) v=cond (zmo c (l.get i)) (zhx c l play jit k (w64 ((i:Int)+(1:Int))) (apL (fun i=>puF c play jit (l.get i)) i v)) true
      generalize zhx c l play jit k=S
      have hv':v.len=i:=hv
      unfold zjh ztq
      rw [decide_eq_true (show (i:Int) < (l.len:Int) by omega),cond_true,Int.toNat_natCast,decide_eq_true (show 0≤(i:Int)∧(i:Int) < (l.len:Int) by omega),Bool.true_and,decide_eq_true (show (100:Int) ≠ 0 by decide),decide_eq_true (show (v.len+1) * 56≤140737488355328∧v.len+1≤9223372036854775807 by omega)]
      cases hg:zmo c (l.get i)
      · unfold zmo at hg
        generalize decide ((l.get i).A < (0:Int))=b0 at hg ⊢
        generalize decide ((l.get i).A ≥ (c.len:Int))=b1 at hg ⊢
        generalize decide ((l.get i).B < (0:Int))=b2 at hg ⊢
        generalize decide ((l.get i).B ≥ (c.len:Int))=b3 at hg ⊢
        generalize ((l.get i).A == (l.get i).B)=b4 at hg ⊢
        generalize decide ((l.get i).Time < (-1000000:Int))=b5 at hg ⊢
        generalize decide ((l.get i).Time > (1000000:Int))=b6 at hg ⊢
        generalize decide ((l.get i).Flight < (0:Int))=b7 at hg ⊢
        generalize decide ((l.get i).Flight > (1000000:Int))=b8 at hg ⊢
        generalize decide ((l.get i).Wrong < (-100:Int))=b9 at hg ⊢
        generalize decide ((l.get i).Wrong > (100:Int))=b10 at hg ⊢
        cases b0 <;> try rfl
        cases b1 <;> try rfl
        cases b2 <;> try rfl
        cases b3 <;> try rfl
        cases b4 <;> try rfl
        cases b5 <;> try rfl
        cases b6 <;> try rfl
        cases b7 <;> try rfl
        cases b8 <;> try rfl
        cases b9 <;> try rfl
        cases b10 <;> try rfl
        cases hg
      · have hx := hg
        unfold zmo at hg
        simp only [Bool.and_eq_true,Bool.not_eq_true'] at hg
        obtain ⟨g0,g1,g2,g3,g4,g5,g6,g7,g8,g9,g10⟩:=hg
        have a0:=of_decide_eq_false g0;have a1:=of_decide_eq_false g1;have b0:=of_decide_eq_false g2;have b1:=of_decide_eq_false g3
        rw [g0,g1,g2,g3,g4,g5,g6,g7,g8,g9,g10,decide_eq_true (show 0≤(l.get i).A∧(l.get i).A < (c.len:Int) by omega),decide_eq_true (show 0≤(l.get i).B∧(l.get i).B < (c.len:Int) by omega)]
        rfl)
    (fun k v=>by
      show zjh c l play jit (zhx c l play jit k) (l.len:Int) v=_
      unfold zjh
      rw [decide_eq_false (show ¬ (l.len:Int) < (l.len:Int) by omega),cond_false])
    (fun i v _ h=>by show v.len+1=i+1;have h':v.len=i:=h;omega) (by omega) (⟨0,fun _=>default⟩:Sl Pulse) rfl
  unfold zma zji zts ztr
  by_cases hg:∀ i,i < l.len→zmo c (l.get i)=true
  · obtain ⟨k1, k2⟩ := h.1 hg
    obtain ⟨m1,m2⟩:=zJ7 (fun i=>puF c play jit (l.get i)) l.len 0 (⟨0,fun _=>default⟩:Sl Pulse) rfl (fun j hj=>absurd hj (Nat.not_lt_zero _))
    obtain ⟨e1,e2⟩:=zvI c hc (zgS (apL fun i=>puF c play jit (l.get i)) l.len 0 (⟨0,fun _=>default⟩:Sl Pulse)) (by omega) (fun i hi=>by
      rw [m2 i (by omega)];exact zvH hc hp hj (hg i (by omega)))
    exact ⟨k1.trans e1,k2.trans e2⟩
  · exact h.2 hg
theorem clocks_true (c:Sl Int) (l:Sl Flash) (play jit:Int):p15 c l play jit=true∧s15 c l play jit=true:=by
  unfold p15 s15
  by_cases h1:(c.len:Int) < 1
  · rw [decide_eq_true h1];exact ⟨rfl,rfl⟩
  rw [decide_eq_false h1,cond_false,cond_false]
  by_cases h2:(c.len:Int) > 7
  · rw [decide_eq_true h2];exact ⟨rfl,rfl⟩
  rw [decide_eq_false h2,cond_false,cond_false,decide_eq_true (show 0≤(0:Int)∧(0:Int) < (c.len:Int) by omega),Bool.true_and]
  by_cases h3:c.get 0=0
  · rw [show (c.get 0 != (0:Int)) = false by rw [h3]; rfl, cond_false, cond_false]
    by_cases h4:(l.len:Int) > 20
    · rw [decide_eq_true h4];exact ⟨rfl,rfl⟩
    rw [decide_eq_false h4,cond_false,cond_false]
    by_cases h5:play < 0
    · rw [decide_eq_true h5];exact ⟨rfl,rfl⟩
    rw [decide_eq_false h5,cond_false,cond_false]
    by_cases h6:play > 1000000
    · rw [decide_eq_true h6];exact ⟨rfl,rfl⟩
    rw [decide_eq_false h6,cond_false,cond_false]
    by_cases h7:jit < 0
    · rw [decide_eq_true h7];exact ⟨rfl,rfl⟩
    rw [decide_eq_false h7,cond_false,cond_false]
    by_cases h8:jit > 1000000
    · rw [decide_eq_true h8];exact ⟨rfl,rfl⟩
    rw [decide_eq_false h8,cond_false,cond_false]
    by_cases hb:∀ i,i < c.len→-1000000≤c.get i∧c.get i≤1000000
    · obtain ⟨m1, m2⟩ := zAJ c ⟨by omega, by omega, h3, hb⟩ l (by omega) play jit ⟨by omega, by omega⟩ ⟨by omega, by omega⟩
      have hl := zfu (good := fun _ => true) (fin := zji c l play jit) (n := c.len) (lpS := zeP c l play jit) (lpP := zeQ c l play jit)
          (fun k i hi=>by
            show zeN c l play jit (zeP c l play jit k) (i:Int)=_
            generalize zeP c l play jit k=S
            unfold zeN
            rw [decide_eq_true (show (i:Int) < (c.len:Int) by omega),cond_true,Int.toNat_natCast,decide_eq_false (show ¬ c.get i < (-1000000:Int) from Int.not_lt.2 (hb i hi).1),decide_eq_false (show ¬ c.get i > (1000000:Int) from Int.not_lt.2 (hb i hi).2)]
            rfl)
          (fun k=>by
            show zeN c l play jit (zeP c l play jit k) (c.len:Int)=_
            unfold zeN
            rw [decide_eq_false (show ¬ (c.len:Int) < (c.len:Int) by omega),cond_false])
          (fun k i hi=>by
            show zeO c l play jit (zeQ c l play jit k) (i:Int)=_
            generalize zeQ c l play jit k=S
            unfold zeO
            rw [decide_eq_true (show (i:Int) < (c.len:Int) by omega),cond_true,Int.toNat_natCast,decide_eq_true (show 0≤(i:Int)∧(i:Int) < (c.len:Int) by omega),Bool.true_and,decide_eq_false (show ¬ c.get i < (-1000000:Int) from Int.not_lt.2 (hb i hi).1),decide_eq_false (show ¬ c.get i > (1000000:Int) from Int.not_lt.2 (hb i hi).2)]
            rfl)
          (fun k=>by
            show zeO c l play jit (zeQ c l play jit k) (c.len:Int)=_
            unfold zeO
            rw [decide_eq_false (show ¬ (c.len:Int) < (c.len:Int) by omega),cond_false];exact m1)
          (by omega)
      exact ⟨hl.1,hl.2.2 ⟨fun _ _=>rfl,m2⟩⟩
    · have hl := ztt (good := fun i => decide (-1000000 ≤ c.get i) && decide (c.get i ≤ 1000000)) (bad := true) (fin := zji c l play jit) (finP := zma c l play jit) (n := c.len) (lpS := zeP c l play jit) (lpP := zeQ c l play jit)
        (fun k i hi=>by
          show zeN c l play jit (zeP c l play jit k) (i:Int)=_
          generalize zeP c l play jit k=S
          unfold zeN
          rw [decide_eq_true (show (i:Int) < (c.len:Int) by omega),cond_true,Int.toNat_natCast,dlt,dgt]
          show cond (!decide (-1000000≤c.get i)) _ _=_
          cases decide (-1000000≤c.get i) <;> cases decide (c.get i≤1000000) <;> rfl)
        (fun k=>by
          show zeN c l play jit (zeP c l play jit k) (c.len:Int)=_
          unfold zeN
          rw [decide_eq_false (show ¬ (c.len:Int) < (c.len:Int) by omega),cond_false])
        (fun k i hi=>by
          show zeO c l play jit (zeQ c l play jit k) (i:Int)=_
          generalize zeQ c l play jit k=S
          unfold zeO
          rw [decide_eq_true (show (i:Int) < (c.len:Int) by omega),cond_true,Int.toNat_natCast,dlt,dgt,decide_eq_true (show 0≤(i:Int)∧(i:Int) < (c.len:Int) by omega)]
          show (true && cond (!decide (-1000000≤c.get i)) _ _)=_
          cases decide (-1000000≤c.get i) <;> cases decide (c.get i≤1000000) <;> rfl)
        (fun k=>by
          show zeO c l play jit (zeQ c l play jit k) (c.len:Int)=_
          unfold zeO
          rw [decide_eq_false (show ¬ (c.len:Int) < (c.len:Int) by omega),cond_false])
        (by omega)
      exact hl.2 (fun h=>hb fun i hi=>by have:=h i hi;simpa using this)
  · rw [bne_iff_ne.2 h3];exact ⟨rfl,rfl⟩
end Go.Proofs
