/- Part 7 of what the proof rests on: a machine that runs functions of the program on pure values, proved sound; the functions that the law reaches, and what they compute. -/
import Derived.Test.YtedhjaaikeakoaaDoorQ6
set_option linter.all false
namespace Go.Proofs
open Go Go.Pm
set_option maxRecDepth 100000
set_option linter.unusedVariables false
theorem dgt (x y:Int):decide (x > y) = !decide (x≤y):=by
 by_cases h:x > y
 ·rw [decide_eq_true h,decide_eq_false (show ¬ x≤y by omega)];rfl
 ·rw [decide_eq_false h,decide_eq_true (show x≤y by omega)];rfl
theorem zAr (nodes:Int) (t:Tie):s36 nodes t=s78 t nodes:=by
 unfold s36 ziD zsf s78 zkK zkJ
 simp only [zuu,zpS,bne,dgt]
 generalize decide (0≤t.From∧t.From≤w64 (nodes - (1:Int)))=a
 generalize decide (0≤t.To∧t.To≤w64 (nodes - (1:Int)))=b
 generalize (t.From == t.To)=c
 generalize (t.Low == (-1000000000000:Int))=d
 generalize (t.High == (1000000000000:Int))=e
 generalize decide (-1000000000≤t.Low∧t.Low≤1000000000)=f
 generalize decide (-1000000000≤t.High∧t.High≤1000000000)=g
 generalize decide (t.Low≤t.High)=h
 cases a <;> cases b <;> cases c <;> cases d <;> cases e <;> cases f <;> cases g <;> cases h <;> rfl
structure TieOk (t : Tie) (nodes : Int) : Prop where
  f0:0≤t.From
  f1:t.From < nodes
  t0:0≤t.To
  t1:t.To < nodes
  ne:t.From ≠ t.To
  lo:t.Low = -1000000000000∨(-1000000000≤t.Low∧t.Low≤1000000000)
  hi:t.High=1000000000000∨(-1000000000≤t.High∧t.High≤1000000000)
  le:t.Low≤t.High
theorem zsP (t:Tie) (nodes:Int) (h1:1≤nodes) (h2:nodes≤40):s78 t nodes=true↔TieOk t nodes:=by
 have e:s78 t nodes=(decide (0≤t.From∧t.From < nodes) && (decide (0≤t.To∧t.To < nodes) && (!(t.From == t.To) && (((t.Low == (-1000000000000:Int)) || decide (-1000000000≤t.Low∧t.Low≤1000000000)) && (((t.High == (1000000000000:Int)) || decide (-1000000000≤t.High∧t.High≤1000000000)) && decide (t.Low≤t.High)))))):=by
  unfold s78 zkK zkJ
  rw [zcZ (x:=nodes - 1) (by omega) (by omega)]
  simp only [zpS]
  rw [decide_eq_decide.2 (show (0≤t.From∧t.From≤nodes - 1)↔(0≤t.From∧t.From < nodes) by omega),decide_eq_decide.2 (show (0≤t.To∧t.To≤nodes - 1)↔(0≤t.To∧t.To < nodes) by omega)]
  simp only [bne]
  generalize decide (0≤t.From∧t.From < nodes)=a
  generalize decide (0≤t.To∧t.To < nodes)=b
  generalize (t.From == t.To)=c
  generalize (t.Low == (-1000000000000:Int))=d
  generalize (t.High == (1000000000000:Int))=e
  generalize decide (-1000000000≤t.Low∧t.Low≤1000000000)=f
  generalize decide (-1000000000≤t.High∧t.High≤1000000000)=g
  generalize decide (t.Low≤t.High)=h
  cases a <;> cases b <;> cases c <;> cases d <;> cases e <;> cases f <;> cases g <;> cases h <;> rfl
 rw [e]
 simp only [Bool.and_eq_true,Bool.or_eq_true,decide_eq_true_eq,Bool.not_eq_true',beq_eq_false_iff_ne,beq_iff_eq]
 constructor
 ·rintro ⟨⟨a,b⟩,⟨c,d⟩,e,f,g,h⟩;exact ⟨a,b,c,d,e,f,g,h⟩
 ·rintro ⟨a,b,c,d,e,f,g,h⟩;exact ⟨⟨a,b⟩,⟨c,d⟩,e,f,g,h⟩
structure NetOk (n : Net) : Prop where
  n1:1≤n.Nodes
  n40:n.Nodes≤40
  len:n.Ties.len≤200
  tie:∀ i,i < n.Ties.len→TieOk (n.Ties.get i) n.Nodes
theorem zAs (n:Net) (hn:n.Ties.len≤9223372036854775807):p67 n=true∧(s67 n=true↔NetOk n):=by
 obtain ⟨h1,h2⟩:=zDQ n hn
 refine ⟨h1,h2.trans ?_⟩
 constructor
 ·rintro ⟨a,⟨b,c⟩,d⟩;exact ⟨b,c,by omega,fun i hi=>(zsP _ _ b c).1 (a i hi)⟩
 ·rintro ⟨b,c,d,a⟩;exact ⟨fun i hi=>(zsP _ _ b c).2 (a i hi),⟨b,c⟩,by omega⟩
theorem zKB (n:Net) (hn:n.Ties.len≤9223372036854775807):p23 n=true∧s23 n=s67 n:=by
  have hl := zjI (good := fun i => s36 n.Nodes (n.Ties.get i)) (fin := true) (n := n.Ties.len) (lpS := zhf n) (lpP := ziG n)
    (fun k i hi=>by
      show ziE n (zhf n k) (i:Int)=_
      generalize zhf n k=S
      unfold ziE zsh
      rw [decide_eq_true (show (i:Int) < (n.Ties.len:Int) by omega),cond_true,Int.toNat_natCast]
      cases s36 n.Nodes (n.Ties.get i) <;> rfl)
    (fun k=>by
      show ziE n (zhf n k) (n.Ties.len:Int)=_
      unfold ziE
      rw [decide_eq_false (show ¬ (n.Ties.len:Int) < (n.Ties.len:Int) by omega),cond_false])
    (fun k i hi=>by
      show ziF n (ziG n k) (i:Int)=_
      generalize ziG n k=S
      unfold ziF zsi
      rw [decide_eq_true (show (i:Int) < (n.Ties.len:Int) by omega),cond_true,Int.toNat_natCast,decide_eq_true (show 0≤(i:Int)∧(i:Int) < (n.Ties.len:Int) by omega),Bool.true_and]
      cases s36 n.Nodes (n.Ties.get i) <;> rfl)
    (fun k=>by
      show ziF n (ziG n k) (n.Ties.len:Int)=_
      unfold ziF
      rw [decide_eq_false (show ¬ (n.Ties.len:Int) < (n.Ties.len:Int) by omega),cond_false])
    hn
  obtain ⟨h1,h2⟩:=zDQ n hn
  unfold p23 s23 znZ znY zsm zsl zsk zsj
  rw [hl.1,zuu,dgt]
  refine ⟨by cases decide (1≤n.Nodes∧n.Nodes≤40) <;> cases decide ((n.Ties.len:Int)≤200) <;> rfl,?_⟩
  have h3:=hl.2
  have h4:zhf n Fuel 0=true↔∀ i,i < n.Ties.len→s78 (n.Ties.get i) n.Nodes=true:=h3.trans ⟨fun h i hi=>by rw [← zAr];exact h.1 i hi,fun h=>⟨fun i hi=>by rw [zAr];exact h i hi,rfl⟩⟩
  rw [Bool.eq_iff_iff,h2]
  by_cases a:1≤n.Nodes∧n.Nodes≤40
  · rw [decide_eq_true a]
    by_cases b:(n.Ties.len:Int)≤200
    · rw [decide_eq_true b];exact h4.trans ⟨fun h=>⟨h,a,by omega⟩,fun h=>h.1⟩
    · rw [decide_eq_false b];exact ⟨fun h=>absurd h Bool.false_ne_true,fun h=>absurd h.2.2 (by omega)⟩
  · rw [decide_eq_false a];exact ⟨fun h=>absurd h Bool.false_ne_true,fun h=>absurd h.2.1 a⟩
structure ValOk (n : Net) (v : Sl Int) : Prop where
  len:(v.len:Int)=n.Nodes
  zero:v.get 0=0
  b:∀ i,i < v.len→-1000000000000≤v.get i∧v.get i≤1000000000000
def Keep (t:Tie) (v:Sl Int):Prop:=(t.Low = -1000000000000∨t.Low≤v.get t.To.toNat - v.get t.From.toNat)∧(t.High=1000000000000∨v.get t.To.toNat - v.get t.From.toNat≤t.High)
structure AgOk (n : Net) (v : Sl Int) : Prop where
  val:ValOk n v
  keep:∀ i,i < n.Ties.len→Keep (n.Ties.get i) v
theorem zHy (n:Net) (h1:1≤n.Nodes) (v:Sl Int) (hv:v.len≤9223372036854775807):p80 n v=true∧(s80 n v=true↔ValOk n v):=by
  have hl := zjI (good := fun i => s72 (v.get i) (-1000000000000:Int) (1000000000000:Int)) (fin := true) (n := v.len) (lpS := zhi v) (lpP := ziT v)
    (fun k i hi=>by
      show ziR v (zhi v k) (i:Int)=_
      generalize zhi v k=S
      unfold ziR zsx
      rw [decide_eq_true (show (i:Int) < (v.len:Int) by omega),cond_true,Int.toNat_natCast]
      cases s72 (v.get i) (-1000000000000:Int) (1000000000000:Int) <;> rfl)
    (fun k=>by
      show ziR v (zhi v k) (v.len:Int)=_
      unfold ziR
      rw [decide_eq_false (show ¬ (v.len:Int) < (v.len:Int) by omega),cond_false])
    (fun k i hi=>by
      show ziS v (ziT v k) (i:Int)=_
      generalize ziT v k=S
      unfold ziS zsy
      rw [decide_eq_true (show (i:Int) < (v.len:Int) by omega),cond_true,Int.toNat_natCast,decide_eq_true (show 0≤(i:Int)∧(i:Int) < (v.len:Int) by omega),Bool.true_and]
      cases s72 (v.get i) (-1000000000000:Int) (1000000000000:Int) <;> rfl)
    (fun k=>by
      show ziS v (ziT v k) (v.len:Int)=_
      unfold ziS
      rw [decide_eq_false (show ¬ (v.len:Int) < (v.len:Int) by omega),cond_false])
    hv
  have h3:zhi v Fuel 0=true↔∀ i,i < v.len→-1000000000000≤v.get i∧v.get i≤1000000000000:=hl.2.trans ⟨fun h i hi=>by have:=h.1 i hi;rw [zuu] at this;exact of_decide_eq_true this,fun h=>⟨fun i hi=>by rw [zuu];exact decide_eq_true (h i hi),rfl⟩⟩
  unfold p80 s80 zsC zsB zsA zsz
  rw [hl.1]
  by_cases a:(v.len:Int)=n.Nodes
  · rw [show ((v.len : Int) != n.Nodes) = false by rw [a]; exact bne_self_eq_false _, cond_false, cond_false]
    by_cases b:v.get 0=0
    · rw [show (v.get 0 != (0:Int)) = false by rw [b]; rfl, cond_false, cond_false]
      exact ⟨by rw [decide_eq_true (show 0≤(0:Int)∧(0:Int) < (v.len:Int) by omega)];rfl,h3.trans ⟨fun h=>⟨a,b,h⟩,fun h=>h.b⟩⟩
    · rw [show (v.get 0 != (0:Int)) = true from bne_iff_ne.2 b, cond_true, cond_true]
      exact ⟨by rw [decide_eq_true (show 0≤(0:Int)∧(0:Int) < (v.len:Int) by omega)];rfl,fun h=>absurd h Bool.false_ne_true,fun h=>absurd h.zero b⟩
  · rw [show ((v.len : Int) != n.Nodes) = true from bne_iff_ne.2 a, cond_true, cond_true]
    exact ⟨rfl,fun h=>absurd h Bool.false_ne_true,fun h=>absurd h.len a⟩
theorem zn6 (t:Tie) (n:Net) (v:Sl Int) (ht:TieOk t n.Nodes) (hv:ValOk n v):p39 t v=true∧(s39 t v=true↔Keep t v):=by
 have h1:=hv.b t.To.toNat (by have:=ht.t0;have:=ht.t1;have:=hv.len;omega)
 have h2:=hv.b t.From.toNat (by have:=ht.f0;have:=ht.f1;have:=hv.len;omega)
 have:=ht.f0;have:=ht.f1;have:=ht.t0;have:=ht.t1;have:=hv.len
 constructor
 ·unfold p39
  rw [decide_eq_true (show 0≤t.To∧t.To < (v.len:Int) by omega),decide_eq_true (show 0≤t.From∧t.From < (v.len:Int) by omega)];rfl
 ·unfold s39 Keep
  rw [zcZ (by omega) (by omega)]
  by_cases a:t.Low = -1000000000000
  ·rw [show (t.Low == (-1000000000000:Int)) = true from beq_iff_eq.2 a, cond_true]
   by_cases b:t.High=1000000000000
   ·rw [show (t.High == (1000000000000:Int))=true from beq_iff_eq.2 b,cond_true];exact ⟨fun _=>⟨.inl a,.inl b⟩,fun _=>rfl⟩
   ·rw [show (t.High == (1000000000000:Int))=false from beq_eq_false_iff_ne.2 b,cond_false,decide_eq_true_eq];exact ⟨fun h=>⟨.inl a,.inr h⟩,fun h=>h.2.resolve_left b⟩
  ·rw [show (t.Low == (-1000000000000:Int)) = false from beq_eq_false_iff_ne.2 a, cond_false]
   by_cases c:t.Low≤v.get t.To.toNat - v.get t.From.toNat
   ·rw [decide_eq_true (show v.get t.To.toNat - v.get t.From.toNat ≥ t.Low from c), cond_true]
    by_cases b:t.High=1000000000000
    ·rw [show (t.High == (1000000000000:Int))=true from beq_iff_eq.2 b,cond_true];exact ⟨fun _=>⟨.inr c,.inl b⟩,fun _=>rfl⟩
    ·rw [show (t.High == (1000000000000:Int))=false from beq_eq_false_iff_ne.2 b,cond_false,decide_eq_true_eq];exact ⟨fun h=>⟨.inr c,.inr h⟩,fun h=>h.2.resolve_left b⟩
   ·rw [decide_eq_false (show ¬ v.get t.To.toNat - v.get t.From.toNat ≥ t.Low from c), cond_false]
    exact ⟨fun h=>absurd h Bool.false_ne_true,fun h=>absurd (h.1.resolve_left a) c⟩
theorem zHz (n:Net) (v:Sl Int) (hn:NetOk n) (hv:v.len≤9223372036854775807):p38 n v=true∧(s38 n v=true↔AgOk n v):=by
  obtain ⟨h1,h2⟩:=zHy n hn.n1 v hv
  unfold p38 s38
  rw [h1]
  by_cases hV:s80 n v=true
  · have hV' := h2.1 hV
    have hlen:=hn.len
    have hl := zjI (good := fun i => s39 (n.Ties.get i) v) (fin := true) (n := n.Ties.len) (lpS := ziW n v) (lpP := ziX n v)
      (fun k i hi=>by
        show ziU n v (ziW n v k) (i:Int)=_
        generalize ziW n v k=S
        unfold ziU zsE
        rw [decide_eq_true (show (i:Int) < (n.Ties.len:Int) by omega),cond_true,Int.toNat_natCast]
        cases s39 (n.Ties.get i) v <;> rfl)
      (fun k=>by
        show ziU n v (ziW n v k) (n.Ties.len:Int)=_
        unfold ziU
        rw [decide_eq_false (show ¬ (n.Ties.len:Int) < (n.Ties.len:Int) by omega),cond_false])
      (fun k i hi=>by
        show ziV n v (ziX n v k) (i:Int)=_
        generalize ziX n v k=S
        unfold ziV zsF
        rw [decide_eq_true (show (i:Int) < (n.Ties.len:Int) by omega),cond_true,Int.toNat_natCast,decide_eq_true (show 0≤(i:Int)∧(i:Int) < (n.Ties.len:Int) by omega),Bool.true_and,decide_eq_true (zn6 _ n v (hn.tie i hi) hV').1,Bool.true_and]
        cases s39 (n.Ties.get i) v <;> rfl)
      (fun k=>by
        show ziV n v (ziX n v k) (n.Ties.len:Int)=_
        unfold ziV
        rw [decide_eq_false (show ¬ (n.Ties.len:Int) < (n.Ties.len:Int) by omega),cond_false])
      (by omega)
    rw [hV]
    unfold zsL zsK zsJ zsI zsH zsG
    refine ⟨by rw [hl.1];rfl,Iff.trans (Iff.trans (by rfl) hl.2) ?_⟩
    exact ⟨fun h=>⟨hV',fun i hi=>(zn6 _ n v (hn.tie i hi) hV').2.1 (h.1 i hi)⟩,fun h=>⟨fun i hi=>(zn6 _ n v (hn.tie i hi) hV').2.2 (h.keep i hi),rfl⟩⟩
  · have hV0 : s80 n v = false := Bool.eq_false_iff.2 hV
    rw [hV0]
    exact ⟨rfl,fun h=>absurd h Bool.false_ne_true,fun h=>absurd (h2.2 h.val) hV⟩
theorem zAt {n:Net} {t:Int} (h:s20 n t=true) (ht:t≤210):n.Ties.len≤210:=by
 unfold s20 at h
 by_cases h1:(n.Ties.len:Int)≤t
 ·omega
 ·by_cases h2 : (n.Ties.len : Int) ≤ 210
  ·omega
  ·rw [decide_eq_false h1, decide_eq_false h2] at h
   exact absurd h (by cases decide (n.Nodes≤7) <;> cases decide (n.Nodes > 40) <;> cases decide ((n.Ties.len:Int) > 200) <;> decide)
end Go.Proofs
namespace Go.Pm
structure Ed where
  u:Nat
  v:Nat
  w:Int
def wt : List Ed → Int
  | []=>0
  | e :: l=>e.w+wt l
theorem zjk (c d:List Ed):wt (c ++ d)=wt c+wt d:=by
 induction c with
 | nil=>show wt d=0+wt d;omega
 | cons e l ih=>show e.w+wt (l ++ d)=e.w+wt l+wt d;omega
theorem zlK (e:Ed):wt [e]=e.w:=Int.add_zero _
def zhj (E : List Ed) : Nat → List Ed → Nat → Prop
  | a,[],b=>a=b
  | a,e :: l,b=>e∈E∧e.u=a∧zhj E e.v l b
theorem zdX {E:List Ed} {c d:List Ed} {a b:Nat} : zhj E a (c ++ d) b↔∃ m,zhj E a c m∧zhj E m d b:=by
 induction c generalizing a with
 | nil=>exact ⟨fun h=>⟨a,rfl,h⟩,fun ⟨m,h1,h2⟩=>by cases h1;exact h2⟩
 | cons e l ih =>
  constructor
  ·rintro ⟨h1, h2, h3⟩
   obtain ⟨m,k1,k2⟩:=ih.1 h3
   exact ⟨m,⟨h1,h2,k1⟩,k2⟩
  ·rintro ⟨m, ⟨h1, h2, h3⟩, h4⟩
   exact ⟨h1,h2,ih.2 ⟨m,h3,h4⟩⟩
theorem zdY {E:List Ed} {e:Ed} (h:e∈E):zhj E e.u [e] e.v:=⟨h,rfl,rfl⟩
def zcn (E:List Ed):Prop:=∀ a c,zhj E a c a→0≤wt c
abbrev zcb:=Nat→Option Int
def zjs (d:zcb) (v:Nat) (x:Int):zcb:=fun j=>if j=v then some x else d j
def ltO (x : Int) : Option Int → Bool
  | none=>true
  | some y=>decide (x < y)
def rlF (s:zcb×Bool) (e:Ed):zcb×Bool :=
 match s.1 e.u with
 | none=>s
 | some x=>cond (ltO (x+e.w) (s.1 e.v)) (zjs s.1 e.v (x+e.w),true) s
def Sat (d:zcb) (e:Ed):Prop:=∀ x,d e.u=some x→∃ y,d e.v=some y∧y≤x+e.w
theorem zlL {x:Int} {o:Option Int} (h:ltO x o=false):∃ y,o=some y∧y≤x:=by
 cases o with
 | none=>cases h
 | some y=>exact ⟨y,rfl,Int.not_lt.1 (of_decide_eq_false h)⟩
theorem zKC {x y:Int} (h:y≤x):ltO x (some y)=false:=decide_eq_false (Int.not_lt.2 h)
theorem zsQ {d:zcb} {c:Bool} {e:Ed} (h:Sat d e):rlF (d,c) e=(d,c):=by
 unfold rlF
 cases hu:d e.u with
 | none=>simp only [hu]
 | some x =>
  obtain ⟨y,h1,h2⟩:=h x hu
  simp only [hu,h1,zKC h2,cond_false]
theorem zAu {d:zcb} {c:Bool} {e:Ed} (h : ¬ Sat d e):(rlF (d,c) e).2=true:=by
 unfold rlF
 cases hu:d e.u with
 | none=>exact absurd (fun x hx=>by rw [hu] at hx;cases hx) h
 | some x =>
  simp only [hu]
  cases hl:ltO (x+e.w) (d e.v)
  ·obtain ⟨y, h1, h2⟩ := zlL hl
   exact absurd (fun x' hx'=>⟨y,h1,by rw [hu] at hx';cases hx';exact h2⟩) h
  ·rfl
theorem zCA {s:zcb×Bool} {e:Ed} (h:s.2=true):(rlF s e).2=true:=by
 unfold rlF
 cases s.1 e.u with
 | none=>exact h
 | some x=>simp only [];cases ltO (x+e.w) (s.1 e.v) <;> first | exact h | rfl
theorem zAv {E:List Ed} {s:zcb×Bool} (h:s.2=true):(E.foldl rlF s).2=true:=by
 induction E generalizing s with
 | nil=>exact h
 | cons e l ih=>exact ih (zCA h)
theorem zjJ {E:List Ed} {d:zcb} {c:Bool} (h:∀ e∈E,Sat d e):E.foldl rlF (d,c)=(d,c):=by
 induction E with
 | nil=>rfl
 | cons e l ih =>
  show l.foldl rlF (rlF (d,c) e)=_
  rw [zsQ (h e (List.mem_cons_self ..))]
  exact ih fun e he=>h e (List.mem_cons_of_mem _ he)
theorem ziY {E:List Ed} {d:zcb} {c:Bool} (h:(E.foldl rlF (d,c)).2=false):∀ e∈E,Sat d e:=by
 induction E with
 | nil=>intro e he;cases he
 | cons e l ih =>
  have h':(l.foldl rlF (rlF (d,c) e)).2=false:=h
  have hs:Sat d e:=Classical.byContradiction fun hn=>by
   rw [zAv (zAu hn)] at h';cases h'
  rw [zsQ hs] at h'
  intro e' he'
  rcases List.mem_cons.1 he' with rfl | hm
  ·exact hs
  ·exact ih h' e' hm
def leO (a b:Option Int):Prop:=∀ y,b=some y→∃ x,a=some x∧x≤y
theorem zc8 (a:Option Int):leO a a:=fun y h=>⟨y,h,Int.le_refl _⟩
theorem zcK {a b c:Option Int} (h1:leO a b) (h2:leO b c):leO a c:=fun y h=>by
 obtain ⟨x,hx,hxy⟩:=h2 y h
 obtain ⟨z,hz,hzx⟩:=h1 x hx
 exact ⟨z,hz,Int.le_trans hzx hxy⟩
theorem zAw (s:zcb×Bool) (e:Ed) (v:Nat):leO ((rlF s e).1 v) (s.1 v):=by
 unfold rlF
 cases hu:s.1 e.u with
 | none=>exact zc8 _
 | some x =>
  simp only []
  cases hl:ltO (x+e.w) (s.1 e.v)
  ·exact zc8 _
  ·show leO (zjs s.1 e.v (x + e.w) v) _
   unfold zjs
   by_cases hv:v=e.v
   ·rw [if_pos hv]
    intro y hy
    refine ⟨_,rfl,?_⟩
    rw [hv] at hy
    rw [hy] at hl
    exact Int.le_of_lt (of_decide_eq_true hl)
   ·rw [if_neg hv];exact zc8 _
theorem zAx (E:List Ed) (s:zcb×Bool) (v:Nat):leO ((E.foldl rlF s).1 v) (s.1 v):=by
 induction E generalizing s with
 | nil=>exact zc8 _
 | cons e l ih=>exact zcK (ih (rlF s e)) (zAw s e v)
theorem zKD {s:zcb×Bool} {e:Ed} {x:Int} (h:s.1 e.u=some x):leO ((rlF s e).1 e.v) (some (x+e.w)):=by
 unfold rlF
 simp only [h]
 cases hl:ltO (x+e.w) (s.1 e.v)
 ·obtain ⟨y, h1, h2⟩ := zlL hl
  intro z hz;cases hz
  exact ⟨y,h1,h2⟩
 ·intro z hz; cases hz
  exact ⟨x+e.w,by show zjs s.1 e.v (x+e.w) e.v=_;unfold zjs;rw [if_pos rfl],Int.le_refl _⟩
theorem zCB {E:List Ed} {s:zcb×Bool} {e:Ed} {x:Int} (he:e∈E) (h:s.1 e.u=some x):leO ((E.foldl rlF s).1 e.v) (some (x+e.w)):=by
 induction E generalizing s x with
 | nil=>cases he
 | cons f l ih =>
  rcases List.mem_cons.1 he with rfl | hm
  ·exact zcK (zAx l (rlF s e) e.v) (zKD h)
  ·obtain ⟨x', h1, h2⟩ := zAw s f e.u x h
   intro z hz;cases hz
   obtain ⟨y,k1,k2⟩:=ih hm h1 _ rfl
   exact ⟨y,k1,by omega⟩
def rnd (E:List Ed) (d:zcb):zcb:=(E.foldl rlF (d,false)).1
def rds (E : List Ed) : Nat → zcb → zcb
  | 0,d=>d
  | k+1,d=>rds E k (rnd E d)
theorem zpT (E:List Ed) (k:Nat) (d:zcb) (v:Nat):leO (rds E k d v) (d v):=by
 induction k generalizing d with
 | zero=>exact zc8 _
 | succ k ih=>exact zcK (ih (rnd E d)) (zAx E (d,false) v)
theorem zKE {E:List Ed} {c:List Ed} : ∀ {a b k:Nat} {d:zcb} {y:Int},zhj E a c b→d a=some y→c.length≤k→leO (rds E k d b) (some (y+wt c)):=by
 induction c with
 | nil =>
  intro a b k d y h hd _
  cases h
  intro z hz;cases hz
  obtain ⟨x,h1,h2⟩:=zpT E k d a y hd
  exact ⟨x,h1,by show x≤y+0;omega⟩
 | cons e l ih =>
  intro a b k d y h hd hk
  obtain ⟨k,rfl⟩:∃ k',k=k'+1:=⟨k - 1,by simp only [List.length_cons] at hk;omega⟩
  obtain ⟨h1,h2,h3⟩:=h
  subst h2
  obtain ⟨x,k1,k2⟩:=zCB (s:=(d,false)) h1 hd _ rfl
  intro z hz;cases hz
  obtain ⟨z,m1,m2⟩:=ih (k:=k) (d:=rnd E d) h3 k1 (by simp only [List.length_cons] at hk;omega) _ rfl
  exact ⟨z,m1,by show z≤y+(e.w+wt l);omega⟩
def Fix (E:List Ed) (d:zcb):Prop:=∀ e∈E,Sat d e
theorem zlM {E:List Ed} {d:zcb} (h:Fix E d):rnd E d=d:=by unfold rnd;rw [zjJ h]
theorem zAy {E:List Ed} {d:zcb} (h:Fix E d) (k:Nat):rds E k d=d:=by
 induction k with
 | zero=>rfl
 | succ k ih=>show rds E k (rnd E d)=d;rw [zlM h,ih]
theorem zKF {E:List Ed} {d:zcb} (h:Fix E d) {c:List Ed} : ∀ {a b:Nat} {x:Int},zhj E a c b→d a=some x→∃ y,d b=some y∧y≤x+wt c:=by
 induction c with
 | nil=>intro a b x hc hx;cases hc;exact ⟨x,hx,by show x≤x+0;omega⟩
 | cons e l ih =>
  rintro a b x ⟨h1,h2,h3⟩ hx
  subst h2
  obtain ⟨y,k1,k2⟩:=h e h1 x hx
  obtain ⟨z,m1,m2⟩:=ih h3 k1
  exact ⟨z,m1,by show z≤x+(e.w+wt l);omega⟩
theorem zlN (n:Nat):∀ {l:List Nat},l.Nodup→(∀ x∈l,x < n)→l.length≤n:=by
 induction n with
 | zero =>
  intro l _ h
  cases l with
  | nil=>exact Nat.le_refl _
  | cons x l=>exact absurd (h x (List.mem_cons_self ..)) (Nat.not_lt_zero _)
 | succ n ih =>
  intro l hd h
  have h1:=ih (l:=l.filter (fun x=>x != n)) (hd.filter _) (fun x hx=>by
   obtain ⟨hx1,hx2⟩:=List.mem_filter.1 hx
   have:=h x hx1
   have:x ≠ n:=by simpa using hx2
   omega)
  have h2:l.length≤(l.filter (fun x=>x != n)).length+1:=by
   clear h1 ih h
   induction l with
   | nil=>exact Nat.zero_le _
   | cons x l ihl =>
    rw [List.nodup_cons] at hd
    by_cases hx:x=n
    ·subst hx
     have:l.filter (fun y=>y != x)=l:=List.filter_eq_self.2 fun y hy=>by
      have:y ≠ x:=fun e=>hd.1 (e ▸ hy)
      simpa using this
     rw [List.filter_cons_of_neg (by simp),this]
     exact Nat.le_refl _
    ·rw [List.filter_cons_of_pos (by simpa using hx)]
     have:=ihl hd.2
     simp only [List.length_cons];omega
  omega
def nodes (a:Nat) (c:List Ed):List Nat:=a :: c.map Ed.v
theorem zlO (a:Nat) (c:List Ed):(nodes a c).length=c.length+1:=by simp [nodes]
theorem zCC {E:List Ed} {c:List Ed} : ∀ {a b m:Nat},zhj E a c b→m∈nodes a c→∃ c1 c2,c=c1 ++ c2∧zhj E a c1 m∧zhj E m c2 b:=by
 induction c with
 | nil =>
  intro a b m h hm
  have:m=a:=by simpa [nodes] using hm
  subst this
  exact ⟨[],[],rfl,rfl,h⟩
 | cons e l ih =>
  intro a b m h hm
  rcases List.mem_cons.1 hm with rfl | hm'
  ·exact ⟨[],e :: l,rfl,rfl,h⟩
  ·obtain ⟨h1, h2, h3⟩ := h
   obtain ⟨c1,c2,k1,k2,k3⟩:=ih h3 (m:=m) (by simpa [nodes] using hm')
   exact ⟨e :: c1,c2,by rw [k1];rfl,⟨h1,h2,k2⟩,k3⟩
structure Att (E : List Ed) (Src : Nat → Prop) (d : zcb) (v : Nat) (x : Int) (a : Nat) (c : List Ed) : Prop where
  src:Src a
  ch:zhj E a c v
  wt:x=wt c
  nd:(nodes a c).Nodup
  pre:∀ c1 c2 m,c=c1 ++ c2→zhj E a c1 m→leO (d m) (some (Go.Pm.wt c1))
def Inv (E:List Ed) (Src:Nat→Prop) (d:zcb):Prop:=∀ v x,d v=some x→∃ a c,Att E Src d v x a c
theorem zDR {d d':zcb} {E:List Ed} {Src:Nat→Prop} {v:Nat} {x:Int} {a:Nat} {c:List Ed} (h:Att E Src d v x a c) (hd:∀ m,leO (d' m) (d m)):Att E Src d' v x a c :=
 ⟨h.src,h.ch,h.wt,h.nd,fun c1 c2 m h1 h2=>zcK (hd m) (h.pre c1 c2 m h1 h2)⟩
theorem zjK {d:zcb} {E:List Ed} {Src:Nat→Prop} (hn:zcn E) {e:Ed} (he:e∈E) {x:Int} {a:Nat} {c:List Ed} (h:Att E Src d e.u x a c) (hm:e.v∈nodes a c):leO (d e.v) (some (x+e.w)):=by
 obtain ⟨c1,c2,k1,k2,k3⟩:=zCC h.ch hm
 have hc:=hn e.v (c2 ++ [e]) (zdX.2 ⟨e.u,k3,zdY he⟩)
 rw [zjk,zlK] at hc
 have hx:=h.wt
 rw [k1,zjk] at hx
 obtain ⟨y,m1,m2⟩:=h.pre c1 c2 e.v k1 k2 _ rfl
 intro z hz;cases hz
 exact ⟨y,m1,by omega⟩
theorem zuv {E:List Ed} {c:List Ed} : ∀ {a b b':Nat},zhj E a c b→zhj E a c b'→b=b':=by
 induction c with
 | nil=>intro a b b' h1 h2;cases h1;cases h2;rfl
 | cons e l ih=>rintro a b b' ⟨_,_,h1⟩ ⟨_,_,h2⟩;exact ih h1 h2
theorem zh2 {c c1 c2:List Ed} {e:Ed} (h:c ++ [e]=c1 ++ c2):c1=c ++ [e]∨∃ c3,c=c1 ++ c3:=by
 rcases List.append_eq_append_iff.1 h with ⟨a',h1,h2⟩ | ⟨c',h1,_⟩
 ·cases a' with
  | nil=>exact .inr ⟨[],by rw [h1];simp⟩
  | cons f a'' =>
   have:a''=[]∧c2=[]:=by
    cases a'' with
    | nil=>simp at h2;exact ⟨rfl,h2.2⟩
    | cons g b=>simp at h2
   obtain ⟨rfl,rfl⟩:=this
   simp at h2
   exact .inl (by rw [h1,h2])
 ·exact .inr ⟨c',h1⟩
theorem zn7 {E:List Ed} {Src:Nat→Prop} (hn:zcn E) {s:zcb×Bool} {e:Ed} (he:e∈E) (h:Inv E Src s.1):Inv E Src (rlF s e).1:=by
 intro v x hx
 have hle:=zAw s e
 unfold rlF at hx hle ⊢
 cases hu:s.1 e.u with
 | none =>
  simp only [hu] at hx ⊢
  obtain ⟨a,c,hc⟩:=h v x hx
  exact ⟨a,c,hc⟩
 | some y =>
  simp only [hu] at hx hle ⊢
  cases hl:ltO (y+e.w) (s.1 e.v) with
  | false =>
   simp only [hl,cond_false] at hx ⊢
   exact h v x hx
  | true =>
   simp only [hl,cond_true] at hx hle ⊢
   by_cases hv:v=e.v
   ·subst hv
    have hx':y+e.w=x:=by
     unfold zjs at hx;rw [if_pos rfl] at hx;exact Option.some.inj hx
    obtain ⟨a,c,hc⟩:=h e.u y hu
    have hnot:e.v ∉ nodes a c:=fun hm=>by
     obtain ⟨z,h1,h2⟩:=zjK hn he hc hm _ rfl
     rw [h1] at hl
     have:=of_decide_eq_true hl
     omega
    refine ⟨a,c ++ [e],hc.src,zdX.2 ⟨e.u,hc.ch,zdY he⟩,by rw [zjk,zlK,← hc.wt];omega,?_,?_⟩
    ·show (a :: (c ++ [e]).map Ed.v).Nodup
     rw [List.map_append,← List.cons_append]
     refine List.nodup_append.2 ⟨hc.nd,by simp,fun p hp q hq=>?_⟩
     have:q=e.v:=by simpa using hq
     subst this
     exact fun e'=>hnot (e' ▸ hp)
    ·intro c1 c2 m h1 h2
     rcases zh2 h1 with rfl | ⟨c3,h3⟩
     ·have : m = e.v := zuv h2 (zdX.2 ⟨e.u, hc.ch, zdY he⟩)
      subst this
      intro z hz;cases hz
      refine ⟨x,hx,?_⟩
      rw [zjk,zlK,← hc.wt];omega
     ·exact zcK (hle m) (hc.pre c1 c3 m h3 h2)
   ·have hx':s.1 v=some x:=by
     unfold zjs at hx;rw [if_neg hv] at hx;exact hx
    obtain ⟨a,c,hc⟩:=h v x hx'
    exact ⟨a,c,zDR hc hle⟩
theorem zn8 {E F:List Ed} {Src:Nat→Prop} (hn:zcn E) (hF:∀ e∈F,e∈E) {s:zcb×Bool} (h:Inv E Src s.1):Inv E Src (F.foldl rlF s).1:=by
 induction F generalizing s with
 | nil=>exact h
 | cons e l ih=>exact ih (fun e he=>hF e (List.mem_cons_of_mem _ he)) (zn7 hn (hF e (List.mem_cons_self ..)) h)
theorem zsR {E:List Ed} {Src:Nat→Prop} (hn:zcn E) (k:Nat) {d:zcb} (h:Inv E Src d):Inv E Src (rds E k d):=by
 induction k generalizing d with
 | zero=>exact h
 | succ k ih=>exact ih (zn8 hn (fun _ h=>h) (s:=(d,false)) h)
structure Start (Src : Nat → Prop) (d : zcb) : Prop where
  only:∀ v x,d v=Option.some x→Src v∧x=0
  src:∀ v,Src v→d v=Option.some 0
theorem ze4 {E:List Ed} {Src:Nat→Prop} {d:zcb} (h:Start Src d):Inv E Src d:=fun v x hx=>by
 obtain ⟨h1,h2⟩:=h.only v x hx
 refine ⟨v,[],h1,rfl,h2,by simp [nodes],fun c1 c2 m e hc=>?_⟩
 have:c1=[]:=by
  cases c1 with
  | nil=>rfl
  | cons _ _=>cases e
 subst this
 cases hc
 rw [hx,h2]
 exact zc8 _
theorem zn9 {E:List Ed} {n:Nat} (hE:∀ e∈E,e.u < n∧e.v < n) {c:List Ed} : ∀ {a b:Nat},a < n→zhj E a c b→∀ x∈nodes a c,x < n:=by
  induction c with
  | nil => intro a b ha _ x hx; have : x = a := by simpa [nodes] using hx
           omega
  | cons e l ih =>
    rintro a b ha ⟨h1,h2,h3⟩ x hx
    rcases List.mem_cons.1 hx with rfl | hm
    · exact ha
    · exact ih (hE e h1).2 h3 x (by simpa [nodes] using hm)
theorem zAz {E:List Ed} {n:Nat} {Src:Nat→Prop} (hE:∀ e∈E,e.u < n∧e.v < n) (hS:∀ a,Src a→a < n) {d:zcb} {v:Nat} {x:Int} {a:Nat} {c:List Ed} (h:Att E Src d v x a c):c.length+1≤n:=by
 have:=zlN n h.nd (zn9 hE (hS a h.src) h.ch)
 rwa [zlO] at this
theorem zAA {E:List Ed} {n:Nat} {Src:Nat→Prop} (hn:zcn E) (hE:∀ e∈E,e.u < n∧e.v < n) (hS:∀ a,Src a→a < n) {d:zcb} (h0:Start Src d):Fix E (rds E (n - 1) d):=by
 intro e he x hx
 obtain ⟨a,c,hc⟩:=zsR hn (n - 1) (ze4 (E:=E) h0) e.u x hx
 by_cases hm:e.v∈nodes a c
 ·exact zjK hn he hc hm _ rfl
 ·have hlen:(c ++ [e]).length≤n - 1:=by
   have hnd:(nodes a (c ++ [e])).Nodup:=by
    show (a :: (c ++ [e]).map Ed.v).Nodup
    rw [List.map_append,← List.cons_append]
    refine List.nodup_append.2 ⟨hc.nd,by simp,fun p hp q hq=>?_⟩
    have:q=e.v:=by simpa using hq
    subst this
    exact fun e'=>hm (e' ▸ hp)
   have hch:zhj E a (c ++ [e]) e.v:=zdX.2 ⟨e.u,hc.ch,zdY he⟩
   have:=zlN n hnd (zn9 hE (hS a hc.src) hch)
   rw [zlO] at this
   omega
  have:=zKE (zdX.2 ⟨e.u,hc.ch,zdY he⟩) (h0.src a hc.src) hlen _ rfl
  rw [zjk,zlK,← hc.wt] at this
  obtain ⟨z,h1,h2⟩:=this
  exact ⟨z,h1,by omega⟩
theorem zDS {E:List Ed} {f:Nat→Int} (h:∀ e∈E,f e.v≤f e.u+e.w) {c:List Ed} : ∀ {a b:Nat},zhj E a c b→f b≤f a+wt c:=by
 induction c with
 | nil=>intro a b hc;cases hc;show f a≤f a+0;omega
 | cons e l ih =>
  rintro a b ⟨h1,h2,h3⟩
  subst h2
  have:=ih h3
  have:=h e h1
  show f b≤f e.u+(e.w+wt l);omega
theorem zlP {E:List Ed} {f:Nat→Int} (h:∀ e∈E,f e.v≤f e.u+e.w):zcn E:=fun a c hc=>by
 have:=zDS h hc;omega
end Go.Pm
namespace Go.Pm
theorem zDT {E:List Ed} {f:Ed→Ed} (hu:∀ e,(f e).u=e.u) (hv:∀ e,(f e).v=e.v) {c:List Ed} : ∀ {a b:Nat},zhj (E.map f) a c b→∃ c0,c=c0.map f∧zhj E a c0 b:=by
 induction c with
 | nil=>intro a b h;exact ⟨[],rfl,h⟩
 | cons e l ih =>
  rintro a b ⟨h1,h2,h3⟩
  obtain ⟨e0,k1,rfl⟩:=List.mem_map.1 h1
  obtain ⟨c0,k2,k3⟩:=ih h3
  exact ⟨e0 :: c0,by rw [k2];rfl,k1,by rw [← hu];exact h2,by rw [← hv];exact k3⟩
def edM (e:Ed):Ed:=⟨e.u,e.v,e.w * 1048576+1⟩
def edR (e:Ed):Ed:=⟨e.v,e.u,e.w⟩
theorem zNd (c:List Ed):wt (c.map edM)=wt c * 1048576+c.length:=by
 induction c with
 | nil=>rfl
 | cons e l ih =>
  show e.w * 1048576+1+wt (l.map edM)=(e.w+wt l) * 1048576+((l.length+1:Nat):Int)
  omega
theorem zlQ {E:List Ed} (h:zcn E):zcn (E.map edM):=fun a c hc=>by
 obtain ⟨c0,rfl,h1⟩:=zDT (f:=edM) (fun _=>rfl) (fun _=>rfl) hc
 rw [zNd]
 have:=h a c0 h1
 omega
def zK7 : Option Int → Int × Int
  | none=>((1000000000000:Int),(0:Int))
  | some x=>(x / 1048576,x % 1048576)
theorem zAB {L U:Int} (h0:0≤U) (h1:U < 1048576):zK7 (some (L * 1048576+U))=(L,U):=by
 show ((L * 1048576+U) / 1048576,(L * 1048576+U) % 1048576)=(L,U)
 rw [show (L * 1048576+U) / 1048576=L by omega,show (L * 1048576+U) % 1048576=U by omega]
def zuw (s:Nat):zcb:=fun v=>if v=s then some 0 else none
theorem zd6 (s:Nat):Start (fun v=>v=s) (zuw s) :=
 ⟨fun v x h=>(by
  unfold zuw at h
  by_cases hv:v=s
  ·rw [if_pos hv] at h;cases h;exact ⟨hv,rfl⟩
  ·rw [if_neg hv] at h;cases h),fun v h=>if_pos h⟩
structure EdOk (E : List Ed) (n : Nat) : Prop where
  lt:∀ e∈E,e.u < n∧e.v < n
  w:∀ e∈E,-1000000000≤e.w∧e.w≤1000000000
  n1:1≤n
  n40:n≤40
theorem EdOk.R {E:List Ed} {n:Nat} (h:EdOk E n):EdOk (E.map edR) n :=
  ⟨fun e he=>(by obtain ⟨f,h1,rfl⟩:=List.mem_map.1 he;exact ⟨(h.lt f h1).2,(h.lt f h1).1⟩),
   fun e he=>(by obtain ⟨f,h1,rfl⟩:=List.mem_map.1 he;exact h.w f h1),h.n1,h.n40⟩
theorem EdOk.ltM {E:List Ed} {n:Nat} (h:EdOk E n):∀ e∈E.map edM,e.u < n∧e.v < n :=
 fun e he=>by obtain ⟨f,h1,rfl⟩:=List.mem_map.1 he;exact h.lt f h1
theorem zjL {E:List Ed} {n:Nat} (h:EdOk E n) {c:List Ed} : ∀ {a b:Nat},zhj E a c b→-1000000000 * (c.length:Int)≤wt c∧wt c≤1000000000 * (c.length:Int):=by
 induction c with
 | nil=>intro a b _;exact ⟨(by show _≤(0:Int);simp),(by show (0:Int)≤_;simp)⟩
 | cons e l ih =>
  rintro a b ⟨h1,_,h3⟩
  have:=ih h3
  have:=h.w e h1
  show _≤e.w+wt l∧e.w+wt l≤_
  simp only [List.length_cons]
  omega
structure Ent (E : List Ed) (n s v : Nat) (x L U : Int) (c : List Ed) : Prop where
  ch:zhj E s c v
  x:x=L * 1048576+U
  L:L=wt c
  U:U=c.length
  len:c.length < n
theorem zDU {E:List Ed} {n:Nat} (hE:EdOk E n) {s:Nat} (hs:s < n) {d:zcb} (hd:Inv (E.map edM) (fun v=>v=s) d) {v:Nat} {x:Int} (hx:d v=some x):∃ c,Ent E n s v x (wt c) c.length c:=by
 obtain ⟨a,c,hc⟩:=hd v x hx
 have hl:=zAz hE.ltM (fun a ha=>Nat.lt_of_le_of_lt (Nat.le_of_eq ha) hs) hc
 obtain ⟨c0,rfl,h1⟩:=zDT (f:=edM) (fun _=>rfl) (fun _=>rfl) hc.ch
 obtain rfl:a=s:=hc.src
 exact ⟨c0,h1,by rw [hc.wt,zNd],rfl,rfl,by rw [List.length_map] at hl;omega⟩
def dst (E:List Ed) (n s:Nat):zcb:=rds (E.map edM) (n - 1) (zuw s)
theorem zHA {E:List Ed} {n s:Nat} (hn:zcn E):Inv (E.map edM) (fun v=>v=s) (dst E n s):=zsR (zlQ hn) _ (ze4 (zd6 s))
theorem zAC {E:List Ed} {n s:Nat} (hE:EdOk E n) (hn:zcn E) (hs:s < n):Fix (E.map edM) (dst E n s):=zAA (zlQ hn) hE.ltM (fun a ha=>Nat.lt_of_le_of_lt (Nat.le_of_eq ha) hs) (zd6 s)
theorem dst_at {E:List Ed} {n s v:Nat} (hE:EdOk E n) (hn:zcn E) (hs:s < n) {x:Int} (hx:dst E n s v=some x):∃ c,Ent E n s v x (wt c) c.length c:=zDU hE hs (zHA hn) hx
theorem zCD {E:List Ed} {n s:Nat} : ∃ x,dst E n s s=some x:=by
 obtain ⟨x,h,_⟩:=zpT (E.map edM) (n - 1) (zuw s) s 0 (if_pos rfl)
 exact ⟨x,h⟩
theorem zAD {E:List Ed} {n s:Nat} (hE:EdOk E n) (hn:zcn E) (hs:s < n) {c:List Ed} : ∀ {a v:Nat} {x:Int},dst E n s a=some x→zhj E a c v→∃ y,dst E n s v=some y∧y / 1048576≤x / 1048576+wt c:=by
 induction c with
 | nil=>intro a v x hx h;cases h;exact ⟨x,hx,by show _≤_+(0:Int);omega⟩
 | cons e l ih =>
  rintro a v x hx ⟨h1,h2,h3⟩
  subst h2
  obtain ⟨y,k1,k2⟩:=zAC hE hn hs (edM e) (List.mem_map_of_mem h1) x hx
  obtain ⟨z,m1,m2⟩:=ih (a:=e.v) k1 h3
  obtain ⟨c1,hc1⟩:=dst_at hE hn hs hx
  obtain ⟨c2,hc2⟩:=dst_at hE hn hs (show dst E n s e.v=some y from k1)
  refine ⟨z,m1,?_⟩
  have k2':y≤x+(e.w * 1048576+1):=k2
  have:=hE.n40
  have:=hc1.len
  have:=hc1.x
  have:=hc2.len
  have:=hc2.x
  show _≤_+(e.w+wt l)
  omega
theorem zHB {E:List Ed} {n s v:Nat} (hE:EdOk E n) (hn:zcn E) (hs:s < n) {c:List Ed} (hc:zhj E s c v):∃ x,dst E n s v=some x∧x / 1048576≤wt c:=by
 obtain ⟨x0,h1⟩:=zCD (E:=E) (n:=n) (s:=s)
 obtain ⟨y,k1,k2⟩:=zAD hE hn hs h1 hc
 have h3:x0≤0:=by
  obtain ⟨x',h1',h2'⟩:=zpT (E.map edM) (n - 1) (zuw s) s 0 (if_pos rfl)
  have:x'=x0:=Option.some.inj (h1'.symm.trans h1)
  omega
 exact ⟨y,k1,by omega⟩
def zHC (o:Option Int):Int:=(zK7 o).1
theorem zAE {E:List Ed} {n s v:Nat} (hE:EdOk E n) (hn:zcn E) (hs:s < n) {x:Int} (hx:dst E n s v=some x):∃ c,zhj E s c v∧zHC (dst E n s v)=wt c∧c.length < n:=by
 obtain ⟨c,hc⟩:=dst_at hE hn hs hx
 refine ⟨c,hc.ch,?_,hc.len⟩
 rw [hx]
 show x / 1048576=_
 have:=hc.x;have:=hc.len;have:=hE.n40
 omega
theorem zAF {E:List Ed} {n s v:Nat} (hE:EdOk E n) (hn:zcn E) (hs:s < n) {c:List Ed} (hc:zhj E s c v):zHC (dst E n s v)≤wt c:=by
 obtain ⟨x,h1,h2⟩:=zHB hE hn hs hc
 rw [h1];exact h2
theorem ziZ {E:List Ed} {n s v:Nat} (hE:EdOk E n) (hn:zcn E) (hs:s < n):(dst E n s v=none∧zHC (dst E n s v)=1000000000000)∨∃ c,dst E n s v ≠ none∧zhj E s c v∧zHC (dst E n s v)=wt c∧c.length < n∧-40000000000≤wt c∧wt c≤40000000000:=by
 cases h:dst E n s v with
 | none=>exact .inl ⟨rfl,rfl⟩
 | some x =>
  obtain ⟨c,h1,h2,h3⟩:=zAE hE hn hs h
  have:=zjL hE h1
  have:=hE.n40
  rw [h] at h2
  exact .inr ⟨c,(by intro h;cases h),h1,h2,h3,by omega,by omega⟩
theorem zCE {E:List Ed} {n s v:Nat} (hE:EdOk E n) (hn:zcn E) (hs:s < n) {f:Nat→Int} (hf:∀ e∈E,f e.v≤f e.u+e.w) (hd:dst E n s v ≠ none):f v≤f s+zHC (dst E n s v):=by
 rcases ziZ (v:=v) hE hn hs with ⟨h,_⟩ | ⟨c,_,h1,h2,_⟩
 ·exact absurd h hd
 ·rw [h2];exact zDS hf h1
end Go.Pm
namespace Go.Pm
def zoa (E : List Ed) : Nat → zcb → Bool
  | 0,_=>true
  | k+1,d=>cond (E.foldl rlF (d,false)).2 (zoa E k (rnd E d)) false
theorem zsS {E:List Ed} {k:Nat} : ∀ {m:Nat} {d:zcb},Fix E (rds E k d)→k < m→zoa E m d=false:=by
 induction k with
 | zero =>
  intro m d h hm
  obtain ⟨m,rfl⟩:∃ m',m=m'+1:=⟨m - 1,by omega⟩
  show cond (E.foldl rlF (d,false)).2 _ _=false
  rw [zjJ (show ∀ e∈E,Sat d e from h)];rfl
 | succ k ih =>
  intro m d h hm
  obtain ⟨m,rfl⟩:∃ m',m=m'+1:=⟨m - 1,by omega⟩
  show cond (E.foldl rlF (d,false)).2 (zoa E m (rnd E d)) false=false
  rw [ih (m:=m) (d:=rnd E d) h (by omega)]
  cases (E.foldl rlF (d,false)).2 <;> rfl
theorem zCF {E:List Ed} {m:Nat} : ∀ {d:zcb},zoa E m d=false→∃ k,Fix E (rds E k d):=by
 induction m with
 | zero=>intro d h;cases h
 | succ m ih =>
  intro d h
  have h':cond (E.foldl rlF (d,false)).2 (zoa E m (rnd E d)) false=false:=h
  cases hc:(E.foldl rlF (d,false)).2
  ·exact ⟨0,ziY hc⟩
  ·rw [hc] at h'
   obtain ⟨k,hk⟩:=ih h'
   exact ⟨k+1,hk⟩
def zoe (n:Nat):zcb:=fun v=>if v < n then some 0 else none
theorem zmF (n:Nat):Start (fun v=>v < n) (zoe n) :=
 ⟨fun v x h=>(by
  unfold zoe at h
  by_cases hv:v < n
  ·rw [if_pos hv] at h;cases h;exact ⟨hv,rfl⟩
  ·rw [if_neg hv] at h;cases h),fun v h=>if_pos h⟩
theorem zCG {E:List Ed} {n:Nat} (hE:EdOk E n):zoa E n (zoe n)=false↔zcn E:=by
 constructor
 ·intro h
  obtain ⟨k,hk⟩:=zCF h
  have hsome:∀ v,v < n→∃ x,rds E k (zoe n) v=some x:=fun v hv=>by
   obtain ⟨x,hx,_⟩:=zpT E k (zoe n) v 0 (if_pos hv)
   exact ⟨x,hx⟩
  refine zlP (f:=fun v=>(rds E k (zoe n) v).getD 0) fun e he=>?_
  obtain ⟨x,hx⟩:=hsome e.u (hE.lt e he).1
  obtain ⟨y,hy,hxy⟩:=hk e he x hx
  show (rds E k (zoe n) e.v).getD 0≤(rds E k (zoe n) e.u).getD 0+e.w
  rw [hx,hy];exact hxy
 ·intro h
  have:=hE.n1
  exact zsS (zAA h hE.lt (fun a ha=>ha) (zmF n)) (by omega)
end Go.Pm
namespace Go.Proofs
open Go Go.Pm
set_option maxRecDepth 100000
set_option linter.unusedVariables false
theorem zjt {n:Nat} {F:Tab} {k:Nat} (hk:k < n):tg n F k=F k:=by
 unfold tg zl0
 have h:(zm (zhn 0 n F))[k]? = some (.p (.int .i64 (F k))):=by
  rw [zm,List.getElem?_map,zgs n 0 F k hk,Nat.zero_add];rfl
 rw [h]
theorem zDV {n:Nat} {F:Tab} {k:Nat} {v:Int} {j:Nat} (hj:j < n):ts n F k [v] j=if j=k then v else F j:=by
 show (match Nat.beq j k with | true=>v | false=>tg n F j)=_
 by_cases h:j=k
 ·rw [if_pos h,show Nat.beq j k=true from by rw [h];exact Nat.beq_refl _]
 ·rw [if_neg h,show Nat.beq j k=false from Bool.eq_false_iff.2 fun e=>h (Nat.eq_of_beq_eq_true e)];exact zjt hj
theorem zjl {n:Nat} {F:Tab} {k:Nat} {v w:Int} {j:Nat} (hj:j < n):ts n F k [v,w] j=if j=k+1 then w else if j=k then v else F j:=by
 show (match Nat.beq j (k+1) with | true=>w | false=>(match Nat.beq j k with | true=>v | false=>tg n F j))=_
 by_cases h:j=k+1
 ·rw [if_pos h,show Nat.beq j (k+1)=true from by rw [h];exact Nat.beq_refl _]
 ·rw [if_neg h, show Nat.beq j (k + 1) = false from Bool.eq_false_iff.2 fun e => h (Nat.eq_of_beq_eq_true e)]
  by_cases h':j=k
  ·rw [if_pos h',show Nat.beq j k=true from by rw [h'];exact Nat.beq_refl _]
  ·rw [if_neg h',show Nat.beq j k=false from Bool.eq_false_iff.2 fun e=>h' (Nat.eq_of_beq_eq_true e)];exact zjt hj
def fwS (t:Tie) (i:Nat):step:=⟨⟨(i:Int),false⟩,t.From,t.To,t.High⟩
def bwS (t:Tie) (i:Nat):step:=⟨⟨(i:Int),true⟩,t.To,t.From,w64 (0 - t.Low)⟩
def zHW (a:web) (i:Nat):Bool:=(zuE (a.out.F [(i:Int)]) 0) != 0
def stK (a:web) (i:Nat):List step :=
 cond (zHW a i) [] ((cond ((a.Net.Ties.get i).High != (1000000000000:Int)) [fwS (a.Net.Ties.get i) i] []) ++ (cond ((a.Net.Ties.get i).Low != (-1000000000000:Int)) [bwS (a.Net.Ties.get i) i] []))
def stL (a : web) : Nat → Nat → List step
  | 0,_=>[]
  | m+1,i=>stK a i ++ stL a m (i+1)
theorem zAG (a:web) (hn:a.Net.Ties.len≤9223372036854775807):zlT a=true∧zh5 a=stL a a.Net.Ties.len 0:=by
 have key:∀ (m k i:Nat),i+m=a.Net.Ties.len→m < k→zeF a k (i:Int)=true∧zeE a k (i:Int)=stL a m i:=by
  intro m
  induction m with
  | zero =>
   intro k i hi hk
   obtain ⟨k,rfl⟩:∃ k',k=k'+1:=⟨k - 1,by omega⟩
   constructor
   ·show zfl a (zeF a k) (i : Int) = true
    unfold zfl
    rw [decide_eq_false (show ¬ (i:Int) < (a.Net.Ties.len:Int) by omega),cond_false]
   ·show zfk a (zeE a k) (i : Int) = []
    unfold zfk
    rw [decide_eq_false (show ¬ (i:Int) < (a.Net.Ties.len:Int) by omega),cond_false]
  | succ m ih =>
   intro k i hi hk
   obtain ⟨k,rfl⟩:∃ k',k=k'+1:=⟨k - 1,by omega⟩
   obtain ⟨h1,h2⟩:=ih k (i+1) (by omega) (by omega)
   constructor
   ·show zfl a (zeF a k) (i : Int) = true
    unfold zfl
    rw [decide_eq_true (show (i:Int) < (a.Net.Ties.len:Int) by omega),cond_true,decide_eq_true (show 0≤(i:Int)∧(i:Int) < (a.Net.Ties.len:Int) by omega),Bool.true_and,zn5 (n:=a.Net.Ties.len) (by omega) hn,h1]
    generalize (zuE (a.out.F [(i:Int)]) 0 != 0)=b1
    generalize (s94 (⟨(a.Net.Ties.get ((i:Int)).toNat),(i:Int)⟩:tie)).2=b2
    generalize (s95 (⟨(a.Net.Ties.get ((i:Int)).toNat),(i:Int)⟩:tie)).2=b3
    cases b1 <;> cases b2 <;> cases b3 <;> rfl
   ·show zfk a (zeE a k) (i : Int) = stK a i ++ stL a m (i + 1)
    unfold zfk
    rw [decide_eq_true (show (i:Int) < (a.Net.Ties.len:Int) by omega),cond_true,Int.toNat_natCast,zn5 (n:=a.Net.Ties.len) (by omega) hn,h2]
    unfold stK zHW s94 s95
    generalize (zuE (a.out.F [(i:Int)]) 0 != 0)=b1
    show cond b1 _ (cond ((a.Net.Ties.get i).High != (1000000000000:Int)) (_ :: cond ((a.Net.Ties.get i).Low != (-1000000000000:Int)) (_ :: _) _) (cond ((a.Net.Ties.get i).Low != (-1000000000000:Int)) (_ :: _) _))=_
    generalize ((a.Net.Ties.get i).High != (1000000000000:Int))=b2
    generalize ((a.Net.Ties.get i).Low != (-1000000000000:Int))=b3
    cases b1 <;> cases b2 <;> cases b3 <;> rfl
 exact key a.Net.Ties.len Fuel 0 (by omega) (by simp only [Fuel];omega)
theorem zob {a:web} {y:step} : ∀ {m i:Nat},y∈stL a m i↔∃ j,i≤j∧j < i+m∧y∈stK a j:=by
 intro m
 induction m with
 | zero=>intro i;exact ⟨fun h=>(by cases h),fun ⟨j,h1,h2,_⟩=>(by omega)⟩
 | succ m ih =>
  intro i
  show y∈stK a i ++ stL a m (i+1)↔_
  rw [List.mem_append,ih]
  constructor
  ·rintro (h | ⟨j, h1, h2, h3⟩)
   ·exact ⟨i,Nat.le_refl _,by omega,h⟩
   ·exact ⟨j,by omega,by omega,h3⟩
  ·rintro ⟨j, h1, h2, h3⟩
   by_cases h:j=i
   ·subst h;exact .inl h3
   ·exact .inr ⟨j,by omega,by omega,h3⟩
theorem zoc {a:web} {y:step} {j:Nat} : y∈stK a j↔zHW a j=false∧(((a.Net.Ties.get j).High ≠ 1000000000000∧y=fwS (a.Net.Ties.get j) j)∨((a.Net.Ties.get j).Low ≠ -1000000000000∧y=bwS (a.Net.Ties.get j) j)):=by
 unfold stK
 cases h:zHW a j
 ·rw [cond_false, List.mem_append]
  by_cases h1:(a.Net.Ties.get j).High=1000000000000
  ·rw [show ((a.Net.Ties.get j).High != (1000000000000:Int)) = false by rw [h1]; rfl, cond_false]
   by_cases h2:(a.Net.Ties.get j).Low = -1000000000000
   ·rw [show ((a.Net.Ties.get j).Low != (-1000000000000:Int)) = false by rw [h2]; rfl, cond_false]
    simp [h1,h2]
   ·rw [bne_iff_ne.2 h2, cond_true]
    simp [h1,h2]
  ·rw [bne_iff_ne.2 h1, cond_true]
   by_cases h2:(a.Net.Ties.get j).Low = -1000000000000
   ·rw [show ((a.Net.Ties.get j).Low != (-1000000000000:Int)) = false by rw [h2]; rfl, cond_false]
    simp [h1,h2]
   ·rw [bne_iff_ne.2 h2, cond_true]
    simp [h1,h2]
 ·rw [cond_true];simp
theorem zHD (a:web):∀ m i,(stL a m i).length≤2 * m:=by
 intro m
 induction m with
 | zero=>intro i;exact Nat.le_refl _
 | succ m ih =>
  intro i
  show (stK a i ++ stL a m (i+1)).length≤_
  rw [List.length_append]
  have:=ih (i+1)
  have:(stK a i).length≤2:=by
   unfold stK
   cases zHW a i <;> cases ((a.Net.Ties.get i).High != (1000000000000:Int)) <;> cases ((a.Net.Ties.get i).Low != (-1000000000000:Int)) <;> simp
  omega
def edS (y:step):Ed:=⟨y.from_.toNat,y.to.toNat,y.length⟩
structure StOk (y : step) (N : Nat) : Prop where
  f0:0≤y.from_
  f1:y.from_ < N
  t0:0≤y.to
  t1:y.to < N
  l0 : -1000000000≤y.length
  l1:y.length≤1000000000
abbrev Ws (a:web):List step:=stL a a.Net.Ties.len 0
def We (a:web):List Ed:=(Ws a).map edS
theorem zAH {t:Tie} {N:Int} (h:TieOk t N) (h':t.Low ≠ -1000000000000):w64 (0 - t.Low) = -t.Low:=by
 have:=h.lo.resolve_left h'
 rw [zcZ (by omega) (by omega)];omega
theorem zHX {a:web} (hn:NetOk a.Net) {y:step} (hy:y∈Ws a):StOk y a.Net.Nodes.toNat:=by
 obtain ⟨j,_,h2,h3⟩:=zob.1 hy
 have h:=hn.tie j (by omega)
 have:=h.f0;have:=h.f1;have:=h.t0;have:=h.t1
 rcases (zoc.1 h3).2 with ⟨h4,rfl⟩ | ⟨h4,rfl⟩
 ·have := h.hi.resolve_left h4
  exact ⟨h.f0,by show (a.Net.Ties.get j).From < _;omega,h.t0,by show (a.Net.Ties.get j).To < _;omega,this.1,this.2⟩
 ·have := h.lo.resolve_left h4
  have e:=zAH h h4
  exact ⟨h.t0,by show (a.Net.Ties.get j).To < _;omega,h.f0,by show (a.Net.Ties.get j).From < _;omega,by show _≤w64 (0 - (a.Net.Ties.get j).Low);omega,by show w64 (0 - (a.Net.Ties.get j).Low)≤_;omega⟩
theorem zAI {a:web} (hn:NetOk a.Net):(Ws a).length≤400:=by
 have h1:=zHD a a.Net.Ties.len 0
 have h2:=hn.len
 show (stL a a.Net.Ties.len 0).length≤400
 omega
theorem zHE {a:web} (hn:NetOk a.Net):EdOk (We a) a.Net.Nodes.toNat:=by
 have:=hn.n1;have:=hn.n40
 refine ⟨fun e he=>?_,fun e he=>?_,by omega,by omega⟩
 ·obtain ⟨y, hy, rfl⟩ := List.mem_map.1 he
  have h:=zHX hn hy
  have:=h.f0;have:=h.f1;have:=h.t0;have:=h.t1
  exact ⟨by show y.from_.toNat < _;omega,by show y.to.toNat < _;omega⟩
 ·obtain ⟨y, hy, rfl⟩ := List.mem_map.1 he
  have h:=zHX hn hy
  exact ⟨h.l0,h.l1⟩
theorem zKG {a:web} (hn:NetOk a.Net) {e:Ed} : e∈We a↔∃ j,j < a.Net.Ties.len∧zHW a j=false∧(((a.Net.Ties.get j).High ≠ 1000000000000∧e=⟨(a.Net.Ties.get j).From.toNat,(a.Net.Ties.get j).To.toNat,(a.Net.Ties.get j).High⟩)∨((a.Net.Ties.get j).Low ≠ -1000000000000∧e=⟨(a.Net.Ties.get j).To.toNat,(a.Net.Ties.get j).From.toNat,-(a.Net.Ties.get j).Low⟩)):=by
 constructor
 ·intro he
  obtain ⟨y,hy,rfl⟩:=List.mem_map.1 he
  obtain ⟨j,_,h2,h3⟩:=zob.1 hy
  obtain ⟨h4,h5⟩:=zoc.1 h3
  refine ⟨j,by omega,h4,?_⟩
  rcases h5 with ⟨h6,rfl⟩ | ⟨h6,rfl⟩
  ·exact .inl ⟨h6,rfl⟩
  ·refine .inr ⟨h6, ?_⟩
   rw [← zAH (hn.tie j (by omega)) h6];rfl
 ·rintro ⟨j, h1, h2, h3⟩
  rcases h3 with ⟨h6,rfl⟩ | ⟨h6,rfl⟩
  ·exact List.mem_map.2 ⟨fwS (a.Net.Ties.get j) j,zob.2 ⟨j,by omega,by omega,zoc.2 ⟨h2,.inl ⟨h6,rfl⟩⟩⟩,rfl⟩
  ·exact List.mem_map.2 ⟨bwS (a.Net.Ties.get j) j,zob.2 ⟨j,by omega,by omega,zoc.2 ⟨h2,.inr ⟨h6,rfl⟩⟩⟩,by rw [← zAH (hn.tie j h1) h6];rfl⟩
end Go.Proofs
namespace Go.Proofs
open Go Go.Pm
set_option maxRecDepth 100000
set_option linter.unusedVariables false
def Rt (N:Nat) (T:Tab) (d:zcb):Prop:=∀ v,v < N→d v=some (T v)
def Bd (B:Int) (T:Tab):Prop:=∀ v,v < 40→-B≤T v∧T v≤0
theorem zAJ (a:web) {N:Nat} (hN:N≤40) (S0:Int→Tab→Bool) (P0:Int→Tab→Bool):∀ (l:List step),(∀ y∈l,StOk y N)→∀ (t:Int) (c:Bool) (T:Tab) (d:zcb) (B:Int),Rt N T d→Bd B T→0≤B→B+l.length * 1000000000≤100000000000000000 →
    ∃ T',zee S0 a l t c T=zio S0 a t ((l.map edS).foldl rlF (d,c)).2 T'∧zef P0 a l t c T=ziq P0 a t ((l.map edS).foldl rlF (d,c)).2 T'∧Rt N T' ((l.map edS).foldl rlF (d,c)).1∧Bd (B+l.length * 1000000000) T':=by
  intro l
  induction l with
  | nil=>intro _ t c T d B h1 h2 _ _;exact ⟨T,rfl,rfl,h1,by simpa using h2⟩
  | cons y l ih =>
    intro hl t c T d B h1 h2 h3 h4
    have hy:=hl y (List.mem_cons_self ..)
    have hl':∀ y∈l,StOk y N:=fun z hz=>hl z (List.mem_cons_of_mem _ hz)
    rw [List.length_cons] at h4
    have f0:=hy.f0;have f1:=hy.f1;have t0:=hy.t0;have t1:=hy.t1;have l0:=hy.l0;have l1:=hy.l1
    have hf:=h1 y.from_.toNat (by omega)
    have ht:=h1 y.to.toNat (by omega)
    have bf:=h2 y.from_.toNat (by omega)
    have bt:=h2 y.to.toNat (by omega)
    have e1:0+y.from_.toNat * 1+0=y.from_.toNat:=by omega
    have e2:0+y.to.toNat * 1+0=y.to.toNat:=by omega
    have hr:rlF (d,c) (edS y)=cond (decide (T y.from_.toNat+y.length < T y.to.toNat)) (zjs d y.to.toNat (T y.from_.toNat+y.length),true) (d,c):=by
      unfold rlF edS
      simp only [hf,ht]
      rfl
    have hS:zee S0 a (y :: l) t c T=cond (decide (T y.from_.toNat+y.length < T y.to.toNat)) (zee S0 a l t true (ts 40 T y.to.toNat [T y.from_.toNat+y.length])) (zee S0 a l t c T):=by
      show zkN S0 a y (zee S0 a l) t c T=_
      generalize zee S0 a l=S
      unfold zkN
      rw [e1,e2,zjt (by omega),zjt (by omega),zcZ (by omega) (by omega)]
    have hP:zef P0 a (y :: l) t c T=cond (decide (T y.from_.toNat+y.length < T y.to.toNat)) (zef P0 a l t true (ts 40 T y.to.toNat [T y.from_.toNat+y.length])) (zef P0 a l t c T):=by
      show zkO P0 a y (zef P0 a l) t c T=_
      generalize zef P0 a l=S
      unfold zkO
      rw [e1,e2,zjt (by omega),zjt (by omega),zcZ (by omega) (by omega),decide_eq_true (show 0≤y.from_∧y.from_ < (40:Int) by omega),decide_eq_true (show 0≤y.to∧y.to < (40:Int) by omega)]
      cases decide (T y.from_.toNat+y.length < T y.to.toNat) <;> rfl
    show ∃ T',_=zio S0 a t ((l.map edS).foldl rlF (rlF (d,c) (edS y))).2 T'∧_=ziq P0 a t ((l.map edS).foldl rlF (rlF (d,c) (edS y))).2 T'∧Rt N T' ((l.map edS).foldl rlF (rlF (d,c) (edS y))).1∧_
    rw [hS,hP,hr]
    by_cases hlt:T y.from_.toNat+y.length < T y.to.toNat
    · rw [decide_eq_true hlt, cond_true, cond_true, cond_true]
      obtain ⟨T', k1, k2, k3, k4⟩ := ih hl' t true (ts 40 T y.to.toNat [T y.from_.toNat + y.length]) (zjs d y.to.toNat (T y.from_.toNat + y.length)) (B + 1000000000)
        (fun v hv=>by
          rw [zDV (by omega)]
          unfold zjs
          by_cases h:v=y.to.toNat
          · rw [if_pos h,if_pos h]
          · rw [if_neg h,if_neg h];exact h1 v hv)
        (fun v hv=>by
          rw [zDV hv]
          by_cases h:v=y.to.toNat
          · rw [if_pos h];omega
          · rw [if_neg h];have:=h2 v hv;omega) (by omega) (by omega)
      refine ⟨T',k1,k2,k3,?_⟩
      rw [List.length_cons,show B+((l.length+1:Nat):Int) * 1000000000=B+1000000000+(l.length:Int) * 1000000000 by omega]
      exact k4
    · rw [decide_eq_false hlt, cond_false, cond_false, cond_false]
      obtain ⟨T',k1,k2,k3,k4⟩:=ih hl' t c T d B h1 h2 h3 (by omega)
      refine ⟨T',k1,k2,k3,fun v hv=>?_⟩
      have:=k4 v hv
      rw [List.length_cons]
      omega
theorem zsU (a:web) (hn:NetOk a.Net):∀ (m k i:Nat) (T:Tab) (d:zcb) (B:Int),Rt a.Net.Nodes.toNat T d→Bd B T→0≤B→B+m * 400000000000≤100000000000000000→(i:Int)+m=a.Net.Nodes→m < k →
  zfn a k (i:Int) T=true∧zfm a k (i:Int) T=zoa (We a) m d:=by
 have hn1:=hn.n1;have hn40:=hn.n40;have hlen:=hn.len
 obtain ⟨q1,q2⟩:=zAG a (by omega)
 intro m
 induction m with
 | zero =>
  intro k i T d B _ _ _ _ hi hk
  obtain ⟨k,rfl⟩:∃ k',k=k'+1:=⟨k - 1,by omega⟩
  constructor
  ·show zg8 a (zfn a k) (i : Int) T = true
   unfold zg8
   rw [decide_eq_false (show ¬ (i:Int) < a.Net.Nodes by omega),cond_false]
  ·show zg7 a (zfm a k) (i : Int) T = true
   unfold zg7
   rw [decide_eq_false (show ¬ (i:Int) < a.Net.Nodes by omega),cond_false]
 | succ m ih =>
  intro k i T d B h1 h2 h3 h4 hi hk
  obtain ⟨k,rfl⟩:∃ k',k=k'+1:=⟨k - 1,by omega⟩
  have hwl:=zAI hn
  obtain ⟨T',k1,k2,k3,k4⟩:=zAJ a (N:=a.Net.Nodes.toNat) (by omega) (zfm a k) (zfn a k) (Ws a) (fun y hy=>zHX hn hy) (i:Int) false T d B h1 h2 h3 (by omega)
  have hB:Bd (B+400000000000) T':=fun v hv=>by have:=k4 v hv;omega
  have hw:w64 ((i:Int)+(1:Int))=((i+1:Nat):Int):=by rw [zcZ (by omega) (by omega)];omega
  obtain ⟨r1,r2⟩:=ih k (i+1) T' (rnd (We a) d) (B+400000000000) k3 hB (by omega) (by omega) (by omega) (by omega)
  constructor
  ·show zg8 a (zfn a k) (i : Int) T = true
   unfold zg8 znt
   rw [decide_eq_true (show (i:Int) < a.Net.Nodes by omega),cond_true,q1,q2,k2]
   unfold ziq
   rw [hw,r1]
   cases ((Ws a).map edS |>.foldl rlF (d,false)).2 <;> rfl
  ·show zg7 a (zfm a k) (i : Int) T = cond ((We a).foldl rlF (d, false)).2 (zoa (We a) m (rnd (We a) d)) false
   unfold zg7 zqP
   rw [decide_eq_true (show (i:Int) < a.Net.Nodes by omega),cond_true,q2,k1]
   unfold zio
   rw [hw,r2]
   show cond (!((We a).foldl rlF (d,false)).2) false _=_
   cases ((We a).foldl rlF (d,false)).2 <;> rfl
theorem zAK (a:web) (hn:NetOk a.Net):p88 a=true∧s88 a=zoa (We a) a.Net.Nodes.toNat (zoe a.Net.Nodes.toNat):=by
 have hn1:=hn.n1;have hn40:=hn.n40
 have:=zsU a hn a.Net.Nodes.toNat Fuel 0 (fun _=>(0:Int)) (zoe a.Net.Nodes.toNat) 0 (fun v hv=>if_pos hv) (fun v hv=>⟨by show -(0:Int)≤(0:Int);omega,Int.le_refl _⟩) (by omega) (by omega) (by omega) (by simp only [Fuel];omega)
 exact this
theorem zAL (a:web) (hn:NetOk a.Net):s88 a=false↔zcn (We a):=by
 rw [(zAK a hn).2];exact zCG (zHE hn)
end Go.Proofs
namespace Go.Proofs
open Go Go.Pm
set_option maxRecDepth 100000
set_option linter.unusedVariables false
theorem zux (a b:far):zxl a ⟨1,fun _=>b⟩=true∧zcD a ⟨1,fun _=>b⟩=cond (zB0 b a) b a:=by
 unfold zxl zcD znx znw
 have key:∀ k,zgA (⟨1,fun _=>b⟩:Sl far) (k+2) (0:Int) a.length a.uses=true∧zgz (⟨1,fun _=>b⟩:Sl far) (k+2) (0:Int) a.length a.uses=cond (zB0 b a) b a:=by
  intro k
  have hw:w64 ((0:Int)+(1:Int))=(1:Int):=by rw [zcZ (by omega) (by omega)];rfl
  have e1:∀ x y,zgz (⟨1,fun _=>b⟩:Sl far) (k+1) (1:Int) x y=(⟨x,y⟩:far):=fun x y=>by
   show zgx (⟨1,fun _=>b⟩:Sl far) (zgz (⟨1,fun _=>b⟩:Sl far) k) (1:Int) x y=_
   unfold zgx
   rw [decide_eq_false (show ¬ (1:Int) < ((1:Nat):Int) by omega),cond_false]
  have e2:∀ x y,zgA (⟨1,fun _=>b⟩:Sl far) (k+1) (1:Int) x y=true:=fun x y=>by
   show zgy (⟨1,fun _=>b⟩:Sl far) (zgA (⟨1,fun _=>b⟩:Sl far) k) (1:Int) x y=_
   unfold zgy
   rw [decide_eq_false (show ¬ (1:Int) < ((1:Nat):Int) by omega),cond_false]
  constructor
  ·show zgy (⟨1, fun _ => b⟩ : Sl far) (zgA (⟨1, fun _ => b⟩ : Sl far) (k + 1)) (0:Int) a.length a.uses = _
   unfold zgy znv
   rw [decide_eq_true (show (0:Int) < ((1:Nat):Int) by omega),cond_true,decide_eq_true (show 0≤(0:Int)∧(0:Int) < ((1:Nat):Int) by omega),Bool.true_and,hw,e2,e2]
   cases zB0 b (⟨a.length,a.uses⟩:far) <;> rfl
  ·show zgx (⟨1, fun _ => b⟩ : Sl far) (zgz (⟨1, fun _ => b⟩ : Sl far) (k + 1)) (0:Int) a.length a.uses = _
   unfold zgx znu
   rw [decide_eq_true (show (0:Int) < ((1:Nat):Int) by omega),cond_true,hw,e1,e1]
 have:=key (Fuel - 2)
 rw [show Fuel - 2+2=Fuel by simp only [Fuel]] at this
 exact this
theorem zHF (a b:far):zB0 a b=decide (a.length < b.length∨(a.length=b.length∧a.uses < b.uses)):=by
 unfold zB0
 by_cases h1:a.length < b.length
 ·rw [decide_eq_true h1,cond_true];exact (decide_eq_true (.inl h1)).symm
 ·rw [decide_eq_false h1, cond_false]
  by_cases h2:a.length=b.length
  ·rw [show (a.length == b.length) = true from beq_iff_eq.2 h2, cond_true]
   exact decide_eq_decide.2 ⟨fun h=>.inr ⟨h2,h⟩,fun h=>h.elim (fun h=>absurd h h1) (fun h=>h.2)⟩
  ·rw [show (a.length == b.length) = false from beq_eq_false_iff_ne.2 h2, cond_false]
   exact (decide_eq_false (fun h=>h.elim h1 (fun h=>h2 h.1))).symm
def Rp (N:Nat) (T:Tab) (d:zcb):Prop:=∀ v,v < N→(T (v * 2),T (v * 2+1))=zK7 (d v)
def nv (x y:Int):Bool:=match (x == (1000000000000:Int)) with | true=>(match (y == (0:Int)) with | true=>true | false=>false) | false=>false
def sm (x y u v:Int):Bool:=match (x == u) with | true=>(match (y == v) with | true=>true | false=>false) | false=>false
theorem zCH (x y:Int):nv x y=decide ((x,y)=((1000000000000:Int),(0:Int))):=by
 unfold nv
 by_cases h1:x=1000000000000
 ·rw [show (x == (1000000000000:Int)) = true from beq_iff_eq.2 h1]
  by_cases h2:y=0
  ·rw [show (y == (0:Int))=true from beq_iff_eq.2 h2];exact (decide_eq_true (by rw [h1,h2])).symm
  ·rw [show (y == (0:Int))=false from beq_eq_false_iff_ne.2 h2];exact (decide_eq_false (fun h=>h2 (Prod.mk.inj h).2)).symm
 ·rw [show (x == (1000000000000:Int)) = false from beq_eq_false_iff_ne.2 h1]
  exact (decide_eq_false (fun h=>h1 (Prod.mk.inj h).1)).symm
theorem same_eq (x y u v:Int):sm x y u v=decide ((x,y)=(u,v)):=by
 unfold sm
 by_cases h1:x=u
 ·rw [show (x == u) = true from beq_iff_eq.2 h1]
  by_cases h2:y=v
  ·rw [show (y == v)=true from beq_iff_eq.2 h2];exact (decide_eq_true (by rw [h1,h2])).symm
  ·rw [show (y == v)=false from beq_eq_false_iff_ne.2 h2];exact (decide_eq_false (fun h=>h2 (Prod.mk.inj h).2)).symm
 ·rw [show (x == u) = false from beq_eq_false_iff_ne.2 h1]
  exact (decide_eq_false (fun h=>h1 (Prod.mk.inj h).1)).symm
theorem zuy {E : List Ed} {n s v : Nat} (hE : EdOk E n) (hs : s < n) {d : zcb} (hd : Inv (E.map edM) (fun v => v = s) d) {x : Int} (hx : d v = some x) :
  ∃ L U,zK7 (d v)=(L,U)∧x=L * 1048576+U∧0≤U∧U < 40∧-40000000000≤L∧L≤40000000000:=by
 obtain ⟨c,hc⟩:=zDU hE hs hd hx
 have h1:=zjL hE hc.ch
 have h2:=hc.len
 have h3:=hE.n40
 refine ⟨wt c,c.length,?_,hc.x,by omega,by omega,by omega,by omega⟩
 rw [hx,hc.x]
 exact zAB (by omega) (by omega)
end Go.Proofs
namespace Go.Proofs
open Go Go.Pm
set_option maxRecDepth 100000
set_option linter.unusedVariables false
theorem zKH (a : web) {N s : Nat} (E : List Ed) (hE : EdOk E N) (hn : zcn E) (hs : s < N) (S2 : Bool → Tab → Tab → Tab) (P2 : Bool → Tab → Tab → Bool) (y : step) (hy : StOk y N) (hm : edS y ∈ E) (S3 : Bool → Tab → Tab → Tab) (P3 : Bool → Tab → Tab → Bool) (c : Bool) (T4 T : Tab) (d : zcb) (h1 : Rp N T d) (hi : Inv (E.map edM) (fun v => v = s) d) :
  ∃ T',zly S2 a y S3 c T4 T=S3 (rlF (d,c) (edM (edS y))).2 T4 T'∧zlz P2 a y P3 c T4 T=P3 (rlF (d,c) (edM (edS y))).2 T4 T'∧Rp N T' (rlF (d,c) (edM (edS y))).1:=by
 have hN:=hE.n40
 have f0:=hy.f0;have f1:=hy.f1;have t0:=hy.t0;have t1:=hy.t1;have l0:=hy.l0;have l1:=hy.l1
 have hu:=h1 y.from_.toNat (by omega)
 have hv:=h1 y.to.toNat (by omega)
 have e1:0+y.from_.toNat * 2+0=y.from_.toNat * 2:=by omega
 have e2:0+y.to.toNat * 2+0=y.to.toNat * 2:=by omega
 have e3:0+y.from_.toNat * 2+1=y.from_.toNat * 2+1:=by omega
 have hin:=zn7 (Src:=fun v=>v=s) (zlQ hn) (s:=(d,c)) (e:=edM (edS y)) (List.mem_map_of_mem hm) hi
 have hS:zly S2 a y S3 c T4 T=cond (nv (tg 80 T (0+y.from_.toNat * 2+0)) (tg 80 T (0+y.from_.toNat * 2+0+1))) (S3 c T4 T) (cond c (S3 true T4 (ts 80 T (0+y.to.toNat * 2+0) [(zcD (⟨(tg 80 T (0+y.to.toNat * 2+0)),(tg 80 T (0+y.to.toNat * 2+0+1))⟩:far) (⟨1,fun _=>(⟨(w64 ((tg 80 T (0+y.from_.toNat * 2+0))+y.length)),(w64 ((tg 80 T (0+y.from_.toNat * 2+1))+(1:Int)))⟩:far)⟩:(Sl far))).length,(zcD (⟨(tg 80 T (0+y.to.toNat * 2+0)),(tg 80 T (0+y.to.toNat * 2+0+1))⟩:far) (⟨1,fun _=>(⟨(w64 ((tg 80 T (0+y.from_.toNat * 2+0))+y.length)),(w64 ((tg 80 T (0+y.from_.toNat * 2+1))+(1:Int)))⟩:far)⟩:(Sl far))).uses])) (S3 (!(sm (zcD (⟨(tg 80 T (0+y.to.toNat * 2+0)),(tg 80 T (0+y.to.toNat * 2+0+1))⟩:far) (⟨1,fun _=>(⟨(w64 ((tg 80 T (0+y.from_.toNat * 2+0))+y.length)),(w64 ((tg 80 T (0+y.from_.toNat * 2+1))+(1:Int)))⟩:far)⟩:(Sl far))).length (zcD (⟨(tg 80 T (0+y.to.toNat * 2+0)),(tg 80 T (0+y.to.toNat * 2+0+1))⟩:far) (⟨1,fun _=>(⟨(w64 ((tg 80 T (0+y.from_.toNat * 2+0))+y.length)),(w64 ((tg 80 T (0+y.from_.toNat * 2+1))+(1:Int)))⟩:far)⟩:(Sl far))).uses (tg 80 T (0+y.to.toNat * 2+0)) (tg 80 T (0+y.to.toNat * 2+0+1)))) T4 (ts 80 T (0+y.to.toNat * 2+0) [(zcD (⟨(tg 80 T (0+y.to.toNat * 2+0)),(tg 80 T (0+y.to.toNat * 2+0+1))⟩:far) (⟨1,fun _=>(⟨(w64 ((tg 80 T (0+y.from_.toNat * 2+0))+y.length)),(w64 ((tg 80 T (0+y.from_.toNat * 2+1))+(1:Int)))⟩:far)⟩:(Sl far))).length,(zcD (⟨(tg 80 T (0+y.to.toNat * 2+0)),(tg 80 T (0+y.to.toNat * 2+0+1))⟩:far) (⟨1,fun _=>(⟨(w64 ((tg 80 T (0+y.from_.toNat * 2+0))+y.length)),(w64 ((tg 80 T (0+y.from_.toNat * 2+1))+(1:Int)))⟩:far)⟩:(Sl far))).uses]))):=rfl
 have hP:zlz P2 a y P3 c T4 T=(decide (0≤y.from_∧y.from_ < (40:Int)) && cond (nv (tg 80 T (0+y.from_.toNat * 2+0)) (tg 80 T (0+y.from_.toNat * 2+0+1))) (P3 c T4 T) (decide (0≤y.to∧y.to < (40:Int)) && (decide (0≤y.from_∧y.from_ < (40:Int)) && (decide (0≤y.from_∧y.from_ < (40:Int)) && (decide (zxl (⟨(tg 80 T (0+y.to.toNat * 2+0)),(tg 80 T (0+y.to.toNat * 2+0+1))⟩:far) (⟨1,fun _=>(⟨(w64 ((tg 80 T (0+y.from_.toNat * 2+0))+y.length)),(w64 ((tg 80 T (0+y.from_.toNat * 2+1))+(1:Int)))⟩:far)⟩:(Sl far))=true) && cond c (decide (0≤y.to∧y.to < (40:Int)) && P3 true T4 (ts 80 T (0+y.to.toNat * 2+0) [(zcD (⟨(tg 80 T (0+y.to.toNat * 2+0)),(tg 80 T (0+y.to.toNat * 2+0+1))⟩:far) (⟨1,fun _=>(⟨(w64 ((tg 80 T (0+y.from_.toNat * 2+0))+y.length)),(w64 ((tg 80 T (0+y.from_.toNat * 2+1))+(1:Int)))⟩:far)⟩:(Sl far))).length,(zcD (⟨(tg 80 T (0+y.to.toNat * 2+0)),(tg 80 T (0+y.to.toNat * 2+0+1))⟩:far) (⟨1,fun _=>(⟨(w64 ((tg 80 T (0+y.from_.toNat * 2+0))+y.length)),(w64 ((tg 80 T (0+y.from_.toNat * 2+1))+(1:Int)))⟩:far)⟩:(Sl far))).uses])) (decide (0≤y.to∧y.to < (40:Int)) && (decide (0≤y.to∧y.to < (40:Int)) && P3 (!(sm (zcD (⟨(tg 80 T (0+y.to.toNat * 2+0)),(tg 80 T (0+y.to.toNat * 2+0+1))⟩:far) (⟨1,fun _=>(⟨(w64 ((tg 80 T (0+y.from_.toNat * 2+0))+y.length)),(w64 ((tg 80 T (0+y.from_.toNat * 2+1))+(1:Int)))⟩:far)⟩:(Sl far))).length (zcD (⟨(tg 80 T (0+y.to.toNat * 2+0)),(tg 80 T (0+y.to.toNat * 2+0+1))⟩:far) (⟨1,fun _=>(⟨(w64 ((tg 80 T (0+y.from_.toNat * 2+0))+y.length)),(w64 ((tg 80 T (0+y.from_.toNat * 2+1))+(1:Int)))⟩:far)⟩:(Sl far))).uses (tg 80 T (0+y.to.toNat * 2+0)) (tg 80 T (0+y.to.toNat * 2+0+1)))) T4 (ts 80 T (0+y.to.toNat * 2+0) [(zcD (⟨(tg 80 T (0+y.to.toNat * 2+0)),(tg 80 T (0+y.to.toNat * 2+0+1))⟩:far) (⟨1,fun _=>(⟨(w64 ((tg 80 T (0+y.from_.toNat * 2+0))+y.length)),(w64 ((tg 80 T (0+y.from_.toNat * 2+1))+(1:Int)))⟩:far)⟩:(Sl far))).length,(zcD (⟨(tg 80 T (0+y.to.toNat * 2+0)),(tg 80 T (0+y.to.toNat * 2+0+1))⟩:far) (⟨1,fun _=>(⟨(w64 ((tg 80 T (0+y.from_.toNat * 2+0))+y.length)),(w64 ((tg 80 T (0+y.from_.toNat * 2+1))+(1:Int)))⟩:far)⟩:(Sl far))).uses])))))))):=rfl
 rw [hS,hP]
 clear hS hP
 rw [e1,e2,e3,zjt (k:=y.from_.toNat * 2) (by omega),zjt (k:=y.from_.toNat * 2+1) (by omega),zjt (k:=y.to.toNat * 2) (by omega),zjt (k:=y.to.toNat * 2+1) (by omega)]
 rw [decide_eq_true (show 0≤y.from_∧y.from_ < (40:Int) by omega),decide_eq_true (show 0≤y.to∧y.to < (40:Int) by omega)]
 simp only [zCH,same_eq]
 cases hdu:d y.from_.toNat with
 | none =>
  rw [hdu] at hu
  have hr:rlF (d,c) (edM (edS y))=(d,c):=by
   unfold rlF edM edS
   simp only [hdu]
  rw [hr,decide_eq_true (show (T (y.from_.toNat * 2),T (y.from_.toNat * 2+1))=((1000000000000:Int),(0:Int)) from hu)]
  exact ⟨T,rfl,rfl,h1⟩
 | some x =>
  obtain ⟨L,U,k1,k2,k3,k4,k5,k6⟩:=zuy hE hs hi hdu
  rw [hdu] at hu k1
  rw [k1] at hu
  have hL:T (y.from_.toNat * 2)=L:=(Prod.mk.inj hu).1
  have hU:T (y.from_.toNat * 2+1)=U:=(Prod.mk.inj hu).2
  rw [hL,hU,decide_eq_false (show ¬ (L,U)=((1000000000000:Int),(0:Int)) from fun h=>by have:=(Prod.mk.inj h).1;omega),zcZ (x:=L+y.length) (by omega) (by omega),zcZ (x:=U+(1:Int)) (by omega) (by omega)]
  rw [(zux _ _).1,(zux _ _).2,zHF]
  have hw:x+(edM (edS y)).w=(L+y.length) * 1048576+(U+1):=by
   show x+(y.length * 1048576+1)=_
   omega
  have hr:rlF (d,c) (edM (edS y))=cond (ltO ((L+y.length) * 1048576+(U+1)) (d y.to.toNat)) (zjs d y.to.toNat ((L+y.length) * 1048576+(U+1)),true) (d,c):=by
   rw [← hw]
   unfold rlF edM edS
   simp only [hdu] <;> rfl
  have hlt:decide ((L+y.length < T (y.to.toNat * 2))∨(L+y.length=T (y.to.toNat * 2)∧U+1 < T (y.to.toNat * 2+1)))=ltO ((L+y.length) * 1048576+(U+1)) (d y.to.toNat):=by
   cases hdv:d y.to.toNat with
   | none =>
    rw [hdv] at hv
    have hv1:T (y.to.toNat * 2)=1000000000000:=(Prod.mk.inj hv).1
    rw [hv1]
    exact decide_eq_true (.inl (by omega))
   | some z =>
    obtain ⟨L',U',m1,m2,m3,m4,m5,m6⟩:=zuy hE hs hi hdv
    rw [hdv] at hv m1
    rw [m1] at hv
    rw [(Prod.mk.inj hv).1,(Prod.mk.inj hv).2,m2]
    exact decide_eq_decide.2 (by omega)
  simp only [hlt]
  rw [hr] at hin ⊢
  have hrw:∀ T'',Rp N T d→T''=ts 80 T (y.to.toNat * 2) [T (y.to.toNat * 2),T (y.to.toNat * 2+1)]→Rp N T'' d:=fun T'' h e v hv'=>by
   rw [e,zjl (by omega),zjl (by omega),← h v hv']
   by_cases hq:v=y.to.toNat
   ·subst hq
    rw [if_neg (by omega),if_pos rfl,if_pos rfl]
   ·rw [if_neg (by omega),if_neg (by omega),if_neg (by omega),if_neg (by omega)]
  cases hlo:ltO ((L+y.length) * 1048576+(U+1)) (d y.to.toNat) with
  | false =>
   refine ⟨ts 80 T (y.to.toNat * 2) [T (y.to.toNat * 2),T (y.to.toNat * 2+1)],?_,?_,hrw _ h1 rfl⟩
   ·simp only [cond_false, decide_true]
    cases c <;> rfl
   ·simp only [cond_false, Bool.true_and, decide_true]
    cases c <;> rfl
  | true =>
   rw [hlo] at hin
   simp only [cond_true,cond_false,Bool.true_and,decide_true] at hin ⊢
   refine ⟨ts 80 T (y.to.toNat * 2) [L+y.length,U+1],?_,?_,?_⟩
   ·cases c
    ·rw [decide_eq_false]
     ·rfl
     ·intro h
      rw [← hlt] at hlo
      have:=of_decide_eq_true hlo
      have h1':=(Prod.mk.inj h).1
      have h2':=(Prod.mk.inj h).2
      omega
    ·rfl
   ·cases c
    ·rw [decide_eq_false]
     ·rfl
     ·intro h
      rw [← hlt] at hlo
      have:=of_decide_eq_true hlo
      have h1':=(Prod.mk.inj h).1
      have h2':=(Prod.mk.inj h).2
      omega
    ·rfl
   ·intro v hv'
    rw [zjl (by omega),zjl (by omega)]
    unfold zjs
    by_cases hq:v=y.to.toNat
    ·subst hq
     rw [if_neg (by omega),if_pos rfl,if_pos rfl,if_pos rfl]
     exact (zAB (by omega) (by omega)).symm
    ·rw [if_neg (by omega), if_neg (by omega), if_neg (by omega), if_neg (by omega), if_neg hq]
     exact h1 v hv'
theorem zKI (a:web) {N s:Nat} (E:List Ed) (hE:EdOk E N) (hn:zcn E) (hs:s < N) (S2:Bool→Tab→Tab→Tab) (P2:Bool→Tab→Tab→Bool):∀ (l:List step),(∀ y∈l,StOk y N∧edS y∈E)→∀ (c:Bool) (T4 T:Tab) (d:zcb),Rp N T d→Inv (E.map edM) (fun v=>v=s) d →
  ∃ T',zhb S2 a l c T4 T=S2 (((l.map edS).map edM).foldl rlF (d,c)).2 T4 T'∧zhc P2 a l c T4 T=P2 (((l.map edS).map edM).foldl rlF (d,c)).2 T4 T'∧Rp N T' (((l.map edS).map edM).foldl rlF (d,c)).1:=by
 intro l
 induction l with
 | nil=>intro _ c T4 T d h1 _;exact ⟨T,rfl,rfl,h1⟩
 | cons y l ih =>
  intro hl c T4 T d h1 h2
  obtain ⟨hy,hm⟩:=hl y (List.mem_cons_self ..)
  obtain ⟨T',k1,k2,k3⟩:=zKH a E hE hn hs S2 P2 y hy hm (zhb S2 a l) (zhc P2 a l) c T4 T d h1 h2
  have h3:=zn7 (Src:=fun v=>v=s) (zlQ hn) (s:=(d,c)) (e:=edM (edS y)) (List.mem_map_of_mem hm) h2
  obtain ⟨T'',m1,m2,m3⟩:=ih (fun z hz=>hl z (List.mem_cons_of_mem _ hz)) (rlF (d,c) (edM (edS y))).2 T4 T' (rlF (d,c) (edM (edS y))).1 k3 h3
  exact ⟨T'',Eq.trans k1 m1,Eq.trans k2 m2,m3⟩
theorem zCI (a:web) (hnet:NetOk a.Net) (E:List Ed) (hEe:E=(Ws a).map edS) {s:Nat} (hE:EdOk E a.Net.Nodes.toNat) (hn:zcn E) (hs:s < a.Net.Nodes.toNat):∀ (m k:Nat) (T4 T:Tab) (d:zcb),Rp a.Net.Nodes.toNat T d→Inv (E.map edM) (fun v=>v=s) d→Fix (E.map edM) (rds (E.map edM) m d)→m+1 < k →
  ∃ T',zem a k true T4 T=true∧zel a k true T4 T=T'∧Rp a.Net.Nodes.toNat T' (rds (E.map edM) m d):=by
 have hlen:=hnet.len
 obtain ⟨q1,q2⟩:=zAG a (by omega)
 have hst:∀ y∈Ws a,StOk y a.Net.Nodes.toNat∧edS y∈E:=fun y hy=>⟨zHX hnet hy,by rw [hEe];exact List.mem_map_of_mem hy⟩
 have one:∀ (k:Nat) (T4 T:Tab) (d:zcb),Rp a.Net.Nodes.toNat T d→Inv (E.map edM) (fun v=>v=s) d →
   ∃ T',zel a (k+1) true T4 T=zel a k ((E.map edM).foldl rlF (d,false)).2 T4 T'∧zem a (k+1) true T4 T=zem a k ((E.map edM).foldl rlF (d,false)).2 T4 T'∧Rp a.Net.Nodes.toNat T' (rnd (E.map edM) d):=by
  intro k T4 T d h1 h2
  obtain ⟨T',k1,k2,k3⟩:=zKI a E hE hn hs (zel a k) (zem a k) (Ws a) hst false T4 T d h1 h2
  rw [← hEe] at k1 k2 k3
  refine ⟨T',?_,?_,k3⟩
  ·show zlA a (zel a k) true T4 T = _
   unfold zlA zr2
   rw [cond_true,q2];exact k1
  ·show zlB a (zem a k) true T4 T = _
   unfold zlB znW
   rw [cond_true,q1,q2,decide_eq_true rfl,Bool.true_and];exact k2
 have stop:∀ (k:Nat) (T4 T:Tab),zel a (k+1) false T4 T=T∧zem a (k+1) false T4 T=true:=fun k T4 T=>⟨rfl,rfl⟩
 intro m
 induction m with
 | zero =>
  intro k T4 T d h1 h2 h3 hk
  obtain ⟨k,rfl⟩:∃ k',k=k'+1+1:=⟨k - 2,by omega⟩
  obtain ⟨T',k1,k2,k3⟩:=one (k+1) T4 T d h1 h2
  have h3':Fix (E.map edM) d:=h3
  rw [zjJ h3'] at k1 k2
  rw [zlM h3'] at k3
  obtain ⟨j1,j2⟩:=stop k T4 T'
  exact ⟨T',k2.trans j2,k1.trans j1,k3⟩
 | succ m ih =>
  intro k T4 T d h1 h2 h3 hk
  obtain ⟨k,rfl⟩:∃ k',k=k'+1+1:=⟨k - 2,by omega⟩
  obtain ⟨T',k1,k2,k3⟩:=one (k+1) T4 T d h1 h2
  cases hf:((E.map edM).foldl rlF (d,false)).2 with
  | false =>
   rw [hf] at k1 k2
   have hx:Fix (E.map edM) d:=ziY hf
   obtain ⟨j1,j2⟩:=stop k T4 T'
   refine ⟨T',k2.trans j2,k1.trans j1,?_⟩
   rw [zlM hx] at k3
   rw [zAy hx];exact k3
  | true =>
   rw [hf] at k1 k2
   obtain ⟨T'',m1,m2,m3⟩:=ih (k+1) T4 T' (rnd (E.map edM) d) k3 (zn8 (zlQ hn) (fun _ h=>h) (s:=(d,false)) h2) h3 (by omega)
   exact ⟨T'',k2.trans m1,k1.trans m2,m3⟩
theorem zHG (a:web) (node:Int):∀ (m k i:Nat) (T4 T:Tab),(∀ v,v < i→T (v * 2)=1000000000000∧T (v * 2+1)=0)→i+m=40→m < k →
  ∃ T',zfs a node k (i:Int) T4 T=zlC a node T4 T'∧zft a node k (i:Int) T4 T=zlD a node T4 T'∧∀ v,v < 40→T' (v * 2)=1000000000000∧T' (v * 2+1)=0:=by
 intro m
 induction m with
 | zero =>
  intro k i T4 T h hi hk
  obtain ⟨k,rfl⟩:∃ k',k=k'+1:=⟨k - 1,by omega⟩
  refine ⟨T,?_,?_,fun v hv=>h v (by omega)⟩
  ·show zhd a node (zfs a node k) (i : Int) T4 T = _
   unfold zhd
   rw [decide_eq_false (show ¬ (i:Int) < (40:Int) by omega),cond_false]
  ·show zhe a node (zft a node k) (i : Int) T4 T = _
   unfold zhe
   rw [decide_eq_false (show ¬ (i:Int) < (40:Int) by omega),cond_false]
 | succ m ih =>
  intro k i T4 T h hi hk
  obtain ⟨k,rfl⟩:∃ k',k=k'+1:=⟨k - 1,by omega⟩
  have hw:w64 ((i:Int)+(1:Int))=((i+1:Nat):Int):=by rw [zcZ (by omega) (by omega)];omega
  obtain ⟨T',k1,k2,k3⟩:=ih k (i+1) T4 (ts 80 T (i * 2) [(1000000000000:Int),(0:Int)]) (fun v hv=>by
   rw [zjl (by omega),zjl (by omega)]
   by_cases hq:v=i
   ·subst hq
    rw [if_neg (by omega),if_pos rfl,if_pos rfl];exact ⟨rfl,rfl⟩
   ·rw [if_neg (by omega),if_neg (by omega),if_neg (by omega),if_neg (by omega)];exact h v (by omega)) (by omega) (by omega)
  refine ⟨T',?_,?_,k3⟩
  ·rw [← k1]
   show zhd a node (zfs a node k) (i:Int) T4 T=_
   unfold zhd
   rw [decide_eq_true (show (i:Int) < (40:Int) by omega),cond_true,hw,Int.toNat_natCast,show 0+i * 2+0=i * 2 by omega]
  ·rw [← k2]
   show zhe a node (zft a node k) (i:Int) T4 T=_
   unfold zhe
   rw [decide_eq_true (show (i:Int) < (40:Int) by omega),cond_true,decide_eq_true (show 0≤(i:Int)∧(i:Int) < (40:Int) by omega),Bool.true_and,hw,Int.toNat_natCast,show 0+i * 2+0=i * 2 by omega]
theorem zKJ (a : web) (hnet : NetOk a.Net) (hn : zcn (We a)) (node : Int) (h0 : 0 ≤ node) (h1 : node < a.Net.Nodes) :
  p76 a node=true∧Rp a.Net.Nodes.toNat (s76 a node) (dst (We a) a.Net.Nodes.toNat node.toNat):=by
 have hn40:=hnet.n40
 have hEe:We a=(Ws a).map edS:=rfl
 have hE:EdOk (We a) a.Net.Nodes.toNat:=zHE hnet
 have hN:zcn (We a):=hn
 have hs:node.toNat < a.Net.Nodes.toNat:=by omega
 obtain ⟨T1,a1,a2,a3⟩:=zHG a node 40 Fuel 0 (fun _=>(0:Int)) (fun _=>(0:Int)) (fun v hv=>absurd hv (Nat.not_lt_zero _)) rfl (by simp only [Fuel];omega)
 have hr:Rp a.Net.Nodes.toNat (ts 80 T1 (node.toNat * 2) [(0:Int),(0:Int)]) (zuw node.toNat):=fun v hv=>by
  rw [zjl (by omega),zjl (by omega)]
  unfold zuw
  by_cases hq:v=node.toNat
  ·subst hq
   rw [if_neg (by omega),if_pos rfl,if_pos rfl,if_pos rfl];rfl
  ·rw [if_neg (by omega),if_neg (by omega),if_neg (by omega),if_neg (by omega),if_neg hq,(a3 v (by omega)).1,(a3 v (by omega)).2];rfl
 obtain ⟨T2,b1,b2,b3⟩:=zCI a hnet (We a) hEe hE hN hs (a.Net.Nodes.toNat - 1) Fuel (fun _=>(0:Int)) (ts 80 T1 (node.toNat * 2) [(0:Int),(0:Int)]) (zuw node.toNat) hr (ze4 (zd6 node.toNat)) (zAC hE hN hs) (by simp only [Fuel];omega)
 have e:0+node.toNat * 2+0=node.toNat * 2:=by omega
 constructor
 ·show zft a node Fuel 0 (fun _ => (0:Int)) (fun _ => (0:Int)) = true
  refine Eq.trans a2 ?_
  unfold zlD zr4
  rw [decide_eq_true (show 0≤node∧node < (40:Int) by omega),Bool.true_and,e];exact b1
 ·have:s76 a node=T2:=by
   show zfs a node Fuel 0 (fun _=>(0:Int)) (fun _=>(0:Int))=T2
   refine Eq.trans a1 ?_
   unfold zlC zr3
   rw [e];exact b2
  rw [this];exact b3
end Go.Proofs
namespace Go.Proofs
open Go Go.Pm
set_option maxRecDepth 100000
set_option linter.unusedVariables false
end Go.Proofs
namespace Go.Proofs
open Go Go.Pm
set_option maxRecDepth 100000
set_option linter.unusedVariables false
attribute [local irreducible] Go.Pm.vcFun Go.Pm.vc Go.Pm.vcIter
section
variable {K:List PA→Prop} {n:Net} {from_a1:Int} {to:Int}
end
end Go.Proofs
namespace Go.Proofs
open Go Go.Pm
set_option maxRecDepth 100000
set_option linter.unusedVariables false
def W (n:Net):web:=⟨n,⟨0,fun _=>none⟩⟩
abbrev En (n:Net):List Ed:=We (W n)
def fr (n:Net) (i j:Nat):Int:=zHC (dst (En n) n.Nodes.toNat i j)
theorem zCJ {n:Net} (hn:NetOk n) (hN:zcn (En n)) {i j:Nat} (hi:i < n.Nodes.toNat) : -1000000000000≤fr n i j∧fr n i j≤1000000000000:=by
 have hE:EdOk (En n) n.Nodes.toNat:=zHE (a:=W n) hn
 unfold fr
 rcases ziZ (v:=j) hE hN hi with ⟨_,h⟩ | ⟨c,_,_,h2,_,h3,h4⟩
 ·rw [h];omega
 ·rw [h2];omega
theorem zCK (n:Net) (nodes:Sl Int) (hl:nodes.len≤1000) (ht:n.Ties.len≤210):p74 n nodes=true ∧
    (s67 n=false→s74 n nodes=(default,2)) ∧
    (NetOk n→(¬ ∀ i,i < nodes.len→0≤nodes.get i∧nodes.get i < n.Nodes)→s74 n nodes=(default,2)) ∧
    (NetOk n→(∀ i,i < nodes.len→0≤nodes.get i∧nodes.get i < n.Nodes)→¬ zcn (En n)→s74 n nodes=(default,5)) ∧
    (NetOk n→(∀ i,i < nodes.len→0≤nodes.get i∧nodes.get i < n.Nodes)→zcn (En n)→s74 n nodes=(W n,0)):=by
  obtain ⟨a1,a2⟩:=zAs n (by omega)
  unfold p74 s74
  rw [a1,decide_eq_true (show true=true from rfl),Bool.true_and]
  by_cases hs:s67 n=true
  · have hn := a2.1 hs
    have hn1:=hn.n1;have hn40:=hn.n40
    obtain ⟨t1,_⟩:=zAK (W n) hn
    rw [hs]
    have hg:∀ i,i < nodes.len→(s81 (nodes.get i) (0:Int) (w64 (n.Nodes - (1:Int)))=true↔0≤nodes.get i∧nodes.get i < n.Nodes):=fun i _=>by
      rw [zpS,decide_eq_true_eq,zcZ (by omega) (by omega)];omega
    have hloop := zHx (good := fun i => s81 (nodes.get i) (0:Int) (w64 (n.Nodes - (1:Int)))) (bad := ((default : web), (2:Int))) (fin := zry n (s88 (W n))) (finP := true) (n := nodes.len) (lpS := ziB n nodes) (lpP := ziC n nodes)
      (fun k i hi=>by
        show ziz n nodes (ziB n nodes k) (i:Int)=_
        generalize ziB n nodes k=S
        unfold ziz zrz
        rw [decide_eq_true (show (i:Int) < (nodes.len:Int) by omega),cond_true,Int.toNat_natCast]
        cases s81 (nodes.get i) (0:Int) (w64 (n.Nodes - (1:Int))) <;> rfl)
      (fun k=>by
        show ziz n nodes (ziB n nodes k) (nodes.len:Int)=_
        unfold ziz
        rw [decide_eq_false (show ¬ (nodes.len:Int) < (nodes.len:Int) by omega),cond_false];rfl)
      (fun k i hi=>by
        show ziA n nodes (ziC n nodes k) (i:Int)=_
        generalize ziC n nodes k=S
        unfold ziA zrA
        rw [decide_eq_true (show (i:Int) < (nodes.len:Int) by omega),cond_true,Int.toNat_natCast,decide_eq_true (show 0≤(i:Int)∧(i:Int) < (nodes.len:Int) by omega),Bool.true_and]
        cases s81 (nodes.get i) (0:Int) (w64 (n.Nodes - (1:Int))) <;> rfl)
      (fun k=>by
        show ziA n nodes (ziC n nodes k) (nodes.len:Int)=_
        unfold ziA
        rw [decide_eq_false (show ¬ (nodes.len:Int) < (nodes.len:Int) by omega),cond_false,show p88 (⟨n,(⟨0,(fun _=>none)⟩:Mp)⟩:web)=true from t1];rfl)
      (by omega)
    unfold zrG zrF zrE zrD zrC zrB
    by_cases hr:∀ i,i < nodes.len→0≤nodes.get i∧nodes.get i < n.Nodes
    · obtain ⟨l1, l2⟩ := hloop.1 (fun i hi => (hg i hi).2 (hr i hi))
      rw [l1,l2]
      refine ⟨rfl,fun h=>(by cases h),fun _ h=>absurd hr h,fun _ _ h=>?_,fun _ _ h=>?_⟩
      · have:s88 (W n)=true:=by
          cases ht:s88 (W n)
          · exact absurd ((zAL (W n) hn).1 ht) h
          · rfl
        rw [this];rfl
      · rw [(zAL (W n) hn).2 h];rfl
    · obtain ⟨l1, l2⟩ := hloop.2 (fun h => hr fun i hi => (hg i hi).1 (h i hi))
      rw [l1,l2]
      exact ⟨rfl,fun h=>(by cases h),fun _ _=>rfl,fun _ h=>absurd h hr,fun _ h=>absurd h hr⟩
  · rw [Bool.eq_false_iff.2 hs]
    have hno:NetOk n→False:=fun h=>hs (a2.2 h)
    exact ⟨rfl,fun _=>rfl,fun h=>(hno h).elim,fun h=>(hno h).elim,fun h=>(hno h).elim⟩
theorem zAM {n:Net} (hn:NetOk n) (hN:zcn (En n)) {i:Int} (h0:0≤i) (h1:i < n.Nodes) {j:Nat} (hj:j < n.Nodes.toNat):p76 (W n) i=true∧s76 (W n) i (j * 2)=fr n i.toNat j:=by
 obtain ⟨a,b⟩:=zKJ (W n) hn hN i h0 h1
 exact ⟨a,(Prod.mk.inj (b j hj)).1⟩
theorem zlR {α:Type} (i:Nat) (v:α) (g:Nat→α) (j:Nat):setT i v g j=if j=i then v else g j:=by
 show (match Nat.beq j i with | true=>v | false=>g j)=_
 by_cases h:j=i
 ·rw [if_pos h,show Nat.beq j i=true from by rw [h];exact Nat.beq_refl _]
 ·rw [if_neg h,show Nat.beq j i=false from Bool.eq_false_iff.2 fun e=>h (Nat.eq_of_beq_eq_true e)]
theorem zmG {n:Net} (hn:NetOk n) {v:Sl Int} (hv:AgOk n v):∀ e∈En n,v.get e.v≤v.get e.u+e.w:=by
 intro e he
 obtain ⟨j,h1,_,h3⟩:=(zKG (a:=W n) hn).1 he
 have hk:=hv.keep j h1
 rcases h3 with ⟨h4,rfl⟩ | ⟨h4,rfl⟩
 ·have := hk.2.resolve_left h4
  show v.get (n.Ties.get j).To.toNat≤v.get (n.Ties.get j).From.toNat+(n.Ties.get j).High
  omega
 ·have := hk.1.resolve_left h4
  show v.get (n.Ties.get j).From.toNat≤v.get (n.Ties.get j).To.toNat + -(n.Ties.get j).Low
  omega
theorem zpU {n:Net} (hn:NetOk n) {v:Sl Int} (hv:AgOk n v):zcn (En n):=zlP (f:=v.get) (zmG hn hv)
theorem zpV {n:Net} (hn:NetOk n) {v:Sl Int} (hv:AgOk n v) {i j:Nat} (hi:i < n.Nodes.toNat) (hj:fr n i j ≠ 1000000000000):v.get j - v.get i≤fr n i j:=by
 have hE:EdOk (En n) n.Nodes.toNat:=zHE (a:=W n) hn
 have:=zCE (v:=j) hE (zpU hn hv) hi (zmG hn hv) (fun h=>hj (by unfold fr;rw [h];rfl))
 unfold fr
 omega
end Go.Proofs
namespace Go.Proofs
open Go Go.Pm
set_option maxRecDepth 100000
set_option linter.unusedVariables false
attribute [local irreducible] Go.Pm.vcFun Go.Pm.vc Go.Pm.vcIter
section
variable {K:List PA→Prop} {n:Net} {iv0:Int} {zOm:(Sl Tie)} {zMA:Nat→List PV} {X0:St→Prop} {P0:Int→(Sl Tie)→Bool} {S0:Int→(Sl Tie)→Net}
end
end Go.Proofs
namespace Go.Proofs
open Go Go.Pm
set_option maxRecDepth 100000
set_option linter.unusedVariables false
theorem zHH {α:Type} (n:Nat) (g:Nat→α) (x:α) (j:Nat):zg6 n g (fun _=>x) j=if n≤j then x else g j:=by
 unfold zg6
 by_cases h:n≤j
 ·rw [if_pos h,show Nat.ble n j=true from Nat.ble_eq_true_of_le h]
 ·rw [if_neg h,show Nat.ble n j=false from Bool.eq_false_iff.2 fun k=>h (Nat.le_of_ble_eq_true k)]
def turn (t:Tie):Tie:=⟨t.From,t.To,w64 (0 - t.High),w64 (0 - t.Low)⟩
structure IsTurn (n m : Net) : Prop where
  nodes:m.Nodes=n.Nodes
  len:m.Ties.len=n.Ties.len
  tie:∀ j,j < n.Ties.len→m.Ties.get j=turn (n.Ties.get j)
end Go.Proofs
namespace Go.Proofs
open Go Go.Pm
set_option maxRecDepth 100000
set_option linter.unusedVariables false
attribute [local irreducible] Go.Pm.vcFun Go.Pm.vc Go.Pm.vcIter
section
variable {K:List PA→Prop} {n:Net} {from_a1:Int} {chain:(Sl Use)} {zOn:Bool} {zOU:Int} {zK8:Int} {zOo:Int} {X2:St→Prop} {P2:Int→Int→Int→Bool} {S2:Int→Int→Int→(Int×Int×Bool)} {zOp:Int} {zCL:Int} {zOq:Int} {zOr:Bool} {zOs:Int} {zOt:Bool} {zOu:Int} {zCM:Int} {zOv:Int} {zOw:Int} {zOx:Bool} {zOV:Int} {zK9:Int} {zOW:Bool} {zOy:Int} {zOz:Int} {zOA:Bool} {zOB:Int} {zOC:Int} {zOD:Int} {zOE:Int} {zOF:Int} {zOG:Int} {zOH:Bool} {zOI:Int} {zOJ:Int} {zOK:Int} {zej:Int} {zaS:Int} {zOX:Bool} {zOL:Int} {zOM:Int} {zON:Bool} {zOO:Int} {zOP:Int} {zOQ:Int}
end
end Go.Proofs
namespace Go.Proofs
open Go Go.Pm
set_option maxRecDepth 100000
set_option linter.unusedVariables false
def zMB (n:Net) (u:Use) (a:Int):Option (Int×Int) :=
  if 0≤u.Tie∧u.Tie < n.Ties.len then
    (cond u.Back
      (if (n.Ties.get u.Tie.toNat).Low ≠ -1000000000000∧(n.Ties.get u.Tie.toNat).To=a then some ((n.Ties.get u.Tie.toNat).From,w64 (0 - (n.Ties.get u.Tie.toNat).Low)) else none)
      (if (n.Ties.get u.Tie.toNat).High ≠ 1000000000000∧(n.Ties.get u.Tie.toNat).From=a then some ((n.Ties.get u.Tie.toNat).To,(n.Ties.get u.Tie.toNat).High) else none))
  else none
def pvR (n : Net) (c : Sl Use) : Nat → Nat → Int → Int → Int × Int × Bool
  | 0,_,a,l=>(a,l,true)
  | m+1,i,a,l=>match zMB n (c.get i) a with
    | none=>(0,0,false)
    | some (b,w)=>pvR n c m (i+1) b (w64 (l+w))
def pv (n:Net) (a:Int) (c:Sl Use):Int×Int×Bool:=if (0≤a∧a < n.Nodes)∧c.len≤40 then pvR n c c.len 0 a 0 else (0,0,false)
end Go.Proofs
namespace Go.Proofs
open Go Go.Pm
set_option maxRecDepth 100000
set_option linter.unusedVariables false
attribute [local irreducible] Go.Pm.vcFun Go.Pm.vc Go.Pm.vcIter
section
variable {K:List PA→Prop} {n:Net} {from_a1:Int} {chain:(Sl Use)} {zOR:Bool} {lv2:(Sl Step)} {zOS:Nat→List PV} {zOp:Int} {zCL:Int} {iv3:Int} {X3:St→Prop} {P3:Int→Int→Int→Bool} {S3:Int→Int→Int→(Int×Int×Bool)} {zOu:Int} {zCM:Int} {iv4:Int} {zOT:Bool} {kv4:Int} {X4:St→Prop} {P4:Int→Int→Int→Bool→Int→Bool} {S4:Int→Int→Int→Bool→Int→(Int×Int×Bool)}
end
end Go.Proofs
namespace Go.Proofs
open Go Go.Pm
set_option maxRecDepth 100000
set_option linter.unusedVariables false
def zgq (y:step):Step:=⟨y.from_,y.to,y.length,y.Use⟩
def IsL (v:Sl Step) (L:List step):Prop:=v.len=L.length∧∀ k (h:k < L.length),v.get k=zgq L[k]
theorem zsV {v:Sl Step} {L:List step} (h:IsL v L) (y:step):IsL ⟨v.len+1,zg6 v.len v.get (fun _=>zgq y)⟩ (L ++ [y]):=by
 refine ⟨by show v.len+1=_;rw [List.length_append,h.1];rfl,fun k hk=>?_⟩
 show zg6 v.len v.get (fun _=>zgq y) k=_
 rw [zHH]
 rw [List.length_append] at hk
 have h1:=h.1
 by_cases hv:v.len≤k
 ·rw [if_pos hv]
  have:k=L.length:=by simp only [List.length_cons,List.length_nil] at hk;omega
  subst this
  simp
 ·rw [if_neg hv, h.2 k (by omega)]
  rw [List.getElem_append_left (by omega)]
theorem zKK (n:Net) (hn:n.Ties.len≤210):∀ (m k i:Nat) (v:Sl Step) (L:List step),i+m=n.Ties.len→m < k→IsL v L→L.length≤2 * i→zdJ n k (i:Int) v=true∧IsL (zdI n k (i:Int) v) (L ++ stL (W n) m i):=by
  intro m
  induction m with
  | zero =>
    intro k i v L hi hk hv hL
    obtain ⟨k,rfl⟩:∃ k',k=k'+1:=⟨k - 1,by omega⟩
    have e1:zdJ n (k+1) (i:Int) v=true:=by
      show ziI n (zdJ n k) (i:Int) v=true
      unfold ziI
      rw [decide_eq_false (show ¬ (i:Int) < (n.Ties.len:Int) by omega),cond_false]
    have e2:zdI n (k+1) (i:Int) v=v:=by
      show ziH n (zdI n k) (i:Int) v=v
      unfold ziH
      rw [decide_eq_false (show ¬ (i:Int) < (n.Ties.len:Int) by omega),cond_false]
    refine ⟨e1,?_⟩
    rw [e2]
    show IsL v (L ++ [])
    rw [List.append_nil];exact hv
  | succ m ih =>
    intro k i v L hi hk hv hL
    obtain ⟨k,rfl⟩:∃ k',k=k'+1:=⟨k - 1,by omega⟩
    have hw:w64 ((i:Int)+(1:Int))=((i+1:Nat):Int):=by rw [zcZ (by omega) (by omega)];omega
    have hvl:=hv.1
    have hS : zdI n (k + 1) (i : Int) v = cond ((n.Ties.get i).High != (1000000000000:Int))
        (cond ((n.Ties.get i).Low != (-1000000000000:Int))
          (zdI n k ((i+1:Nat):Int) (⟨v.len+1+1,zg6 (v.len+1) (zg6 v.len v.get (fun _=>zgq (fwS (n.Ties.get i) i))) (fun _=>zgq (bwS (n.Ties.get i) i))⟩:Sl Step))
          (zdI n k ((i+1:Nat):Int) (⟨v.len+1,zg6 v.len v.get (fun _=>zgq (fwS (n.Ties.get i) i))⟩:Sl Step)))
        (cond ((n.Ties.get i).Low != (-1000000000000:Int))
          (zdI n k ((i+1:Nat):Int) (⟨v.len+1,zg6 v.len v.get (fun _=>zgq (bwS (n.Ties.get i) i))⟩:Sl Step))
          (zdI n k ((i+1:Nat):Int) v)):=by
      rw [← hw]
      show ziH n (zdI n k) (i:Int) v=_
      generalize zdI n k=S
      unfold ziH zn0
      rw [decide_eq_true (show (i:Int) < (n.Ties.len:Int) by omega),cond_true,Int.toNat_natCast]
      rfl
    have hP : zdJ n (k + 1) (i : Int) v = cond ((n.Ties.get i).High != (1000000000000:Int))
        (cond ((n.Ties.get i).Low != (-1000000000000:Int))
          (zdJ n k ((i+1:Nat):Int) (⟨v.len+1+1,zg6 (v.len+1) (zg6 v.len v.get (fun _=>zgq (fwS (n.Ties.get i) i))) (fun _=>zgq (bwS (n.Ties.get i) i))⟩:Sl Step))
          (zdJ n k ((i+1:Nat):Int) (⟨v.len+1,zg6 v.len v.get (fun _=>zgq (fwS (n.Ties.get i) i))⟩:Sl Step)))
        (cond ((n.Ties.get i).Low != (-1000000000000:Int))
          (zdJ n k ((i+1:Nat):Int) (⟨v.len+1,zg6 v.len v.get (fun _=>zgq (bwS (n.Ties.get i) i))⟩:Sl Step))
          (zdJ n k ((i+1:Nat):Int) v)):=by
      rw [← hw]
      show ziI n (zdJ n k) (i:Int) v=_
      generalize zdJ n k=S
      unfold ziI zn1
      rw [decide_eq_true (show (i:Int) < (n.Ties.len:Int) by omega),cond_true,Int.toNat_natCast,decide_eq_true (show 0≤(i:Int)∧(i:Int) < (n.Ties.len:Int) by omega),decide_eq_true (show (v.len+1) * 40≤140737488355328∧v.len+1≤9223372036854775807 by omega),decide_eq_true (show ((⟨v.len+1,zg6 v.len v.get (fun _=>(⟨(n.Ties.get i).From,(n.Ties.get i).To,(n.Ties.get i).High,(⟨(i:Int),false⟩:Use)⟩:Step))⟩:Sl Step).len+1) * 40≤140737488355328∧(⟨v.len+1,zg6 v.len v.get (fun _=>(⟨(n.Ties.get i).From,(n.Ties.get i).To,(n.Ties.get i).High,(⟨(i:Int),false⟩:Use)⟩:Step))⟩:Sl Step).len+1≤9223372036854775807 from by show (v.len+1+1) * 40≤_∧v.len+1+1≤_;omega)]
      rfl
    rw [hS,hP]
    have hK:stL (W n) (m+1) i=((cond ((n.Ties.get i).High != (1000000000000:Int)) [fwS (n.Ties.get i) i] []) ++ (cond ((n.Ties.get i).Low != (-1000000000000:Int)) [bwS (n.Ties.get i) i] [])) ++ stL (W n) m (i+1):=rfl
    rw [hK]
    have hF:=zsV hv (fwS (n.Ties.get i) i)
    have hB:=zsV hv (bwS (n.Ties.get i) i)
    have hFB:=zsV hF (bwS (n.Ties.get i) i)
    cases ((n.Ties.get i).High != (1000000000000:Int)) <;> cases ((n.Ties.get i).Low != (-1000000000000:Int))
    · have := ih k (i + 1) v L (by omega) (by omega) hv (by omega)
      simpa using this
    · have := ih k (i + 1) _ _ (by omega) (by omega) hB (by simp only [List.length_append, List.length_cons, List.length_nil]; omega)
      simpa [List.append_assoc] using this
    · have := ih k (i + 1) _ _ (by omega) (by omega) hF (by simp only [List.length_append, List.length_cons, List.length_nil]; omega)
      simpa [List.append_assoc] using this
    · have := ih k (i + 1) _ _ (by omega) (by omega) hFB (by simp only [List.length_append, List.length_cons, List.length_nil]; omega)
      simpa [List.append_assoc] using this
theorem zuz (n:Net) (hn:n.Ties.len≤210):p77 n=true∧IsL (s77 n) (Ws (W n)):=by
 have:=zKK n hn n.Ties.len Fuel 0 (⟨0,(fun _=>default)⟩:Sl Step) [] (by omega) (by simp only [Fuel];omega) ⟨rfl,fun k h=>absurd h (Nat.not_lt_zero _)⟩ (Nat.zero_le _)
 exact this
def sb (x:Use) (y:Use):Bool:=match (x.Tie == y.Tie) with | true=>(match (x.Back == y.Back) with | true=>true | false=>false) | false=>false
end Go.Proofs
namespace Go.Pm
def jr (o:zcb) (s:zcb×Bool) (e:Ed):zcb×Bool :=
 match o e.u with
 | none=>s
 | some x=>cond (ltO (x+e.w) (s.1 e.v)) (zjs s.1 e.v (x+e.w),true) s
theorem zHI (o:zcb) (s:zcb×Bool) (e:Ed) (v:Nat):leO ((jr o s e).1 v) (s.1 v):=by
 unfold jr
 cases hu:o e.u with
 | none=>exact zc8 _
 | some x =>
  simp only []
  cases hl:ltO (x+e.w) (s.1 e.v)
  ·exact zc8 _
  ·show leO (zjs s.1 e.v (x + e.w) v) _
   unfold zjs
   by_cases hv:v=e.v
   ·rw [if_pos hv]
    intro y hy
    refine ⟨_,rfl,?_⟩
    rw [hv] at hy
    rw [hy] at hl
    exact Int.le_of_lt (of_decide_eq_true hl)
   ·rw [if_neg hv];exact zc8 _
theorem zKL (o:zcb) (E:List Ed) (s:zcb×Bool) (v:Nat):leO ((E.foldl (jr o) s).1 v) (s.1 v):=by
 induction E generalizing s with
 | nil=>exact zc8 _
 | cons e l ih=>exact zcK (ih (jr o s e)) (zHI o s e v)
theorem zMC {o:zcb} {s:zcb×Bool} {e:Ed} {x:Int} (h:o e.u=some x):leO ((jr o s e).1 e.v) (some (x+e.w)):=by
 unfold jr
 simp only [h]
 cases hl:ltO (x+e.w) (s.1 e.v)
 ·obtain ⟨y, h1, h2⟩ := zlL hl
  intro z hz;cases hz
  exact ⟨y,h1,h2⟩
 ·intro z hz; cases hz
  exact ⟨x+e.w,by show zjs s.1 e.v (x+e.w) e.v=_;unfold zjs;rw [if_pos rfl],Int.le_refl _⟩
theorem zMD {o:zcb} {E:List Ed} {s:zcb×Bool} {e:Ed} {x:Int} (he:e∈E) (h:o e.u=some x):leO ((E.foldl (jr o) s).1 e.v) (some (x+e.w)):=by
 induction E generalizing s with
 | nil=>cases he
 | cons f l ih =>
  rcases List.mem_cons.1 he with rfl | hm
  ·exact zcK (zKL o l (jr o s e) e.v) (zMC h)
  ·exact ih hm
theorem zHJ {o:zcb} {s:zcb×Bool} {e:Ed} (h:s.2=true):(jr o s e).2=true:=by
 unfold jr
 cases o e.u with
 | none=>exact h
 | some x=>simp only [];cases ltO (x+e.w) (s.1 e.v) <;> first | exact h | rfl
theorem zHK {o:zcb} {E:List Ed} {s:zcb×Bool} (h:s.2=true):(E.foldl (jr o) s).2=true:=by
 induction E generalizing s with
 | nil=>exact h
 | cons e l ih=>exact ih (zHJ h)
theorem zDW {d:zcb} {c:Bool} {e:Ed} (h:Sat d e):jr d (d,c) e=(d,c):=zsQ h
theorem zKM {E:List Ed} {d:zcb} {c:Bool} (h:∀ e∈E,Sat d e):E.foldl (jr d) (d,c)=(d,c):=by
 induction E with
 | nil=>rfl
 | cons e l ih =>
  show l.foldl (jr d) (jr d (d,c) e)=_
  rw [zDW (h e (List.mem_cons_self ..))]
  exact ih fun e he=>h e (List.mem_cons_of_mem _ he)
theorem zCN {E:List Ed} {d:zcb} {c:Bool} (h:(E.foldl (jr d) (d,c)).2=false):∀ e∈E,Sat d e:=by
 induction E with
 | nil=>intro e he;cases he
 | cons e l ih =>
  have h':(l.foldl (jr d) (jr d (d,c) e)).2=false:=h
  have hs:Sat d e:=Classical.byContradiction fun hn=>by
   have:(jr d (d,c) e).2=true:=zAu hn
   rw [zHK this] at h';cases h'
  rw [zDW hs] at h'
  intro e' he'
  rcases List.mem_cons.1 he' with rfl | hm
  ·exact hs
  ·exact ih h' e' hm
def zDX (E:List Ed) (d:zcb):zcb:=(E.foldl (jr d) (d,false)).1
def zAN (E : List Ed) : Nat → zcb → zcb
  | 0,d=>d
  | k+1,d=>zAN E k (zDX E d)
theorem zAO (E:List Ed) (k:Nat) (d:zcb) (v:Nat):leO (zAN E k d v) (d v):=by
 induction k generalizing d with
 | zero=>exact zc8 _
 | succ k ih=>exact zcK (ih (zDX E d)) (zKL d E (d,false) v)
theorem zHL {E:List Ed} {c:List Ed} : ∀ {a b k:Nat} {d:zcb} {y:Int},zhj E a c b→d a=some y→c.length≤k→leO (zAN E k d b) (some (y+wt c)):=by
 induction c with
 | nil =>
  intro a b k d y h hd _
  cases h
  intro z hz;cases hz
  obtain ⟨x,h1,h2⟩:=zAO E k d a y hd
  exact ⟨x,h1,by show x≤y+0;omega⟩
 | cons e l ih =>
  intro a b k d y h hd hk
  obtain ⟨k,rfl⟩:∃ k',k=k'+1:=⟨k - 1,by simp only [List.length_cons] at hk;omega⟩
  obtain ⟨h1,h2,h3⟩:=h
  subst h2
  obtain ⟨x,k1,k2⟩:=zMD (o:=d) (s:=(d,false)) h1 hd _ rfl
  intro z hz;cases hz
  obtain ⟨z,m1,m2⟩:=ih (k:=k) (d:=zDX E d) h3 k1 (by simp only [List.length_cons] at hk;omega) _ rfl
  exact ⟨z,m1,by show z≤y+(e.w+wt l);omega⟩
theorem zKN {E:List Ed} {Src:Nat→Prop} (hn:zcn E) {o:zcb} (ho:Inv E Src o) {s:zcb×Bool} {e:Ed} (he:e∈E) (hs:∀ m,leO (s.1 m) (o m)) (h:Inv E Src s.1):Inv E Src (jr o s e).1:=by
 intro v x hx
 have hle:=zHI o s e
 unfold jr at hx hle ⊢
 cases hu:o e.u with
 | none =>
  simp only [hu] at hx ⊢
  obtain ⟨a,c,hc⟩:=h v x hx
  exact ⟨a,c,hc⟩
 | some y =>
  simp only [hu] at hx hle ⊢
  cases hl:ltO (y+e.w) (s.1 e.v) with
  | false =>
   simp only [hl,cond_false] at hx ⊢
   exact h v x hx
  | true =>
   simp only [hl,cond_true] at hx hle ⊢
   by_cases hv:v=e.v
   ·subst hv
    have hx':y+e.w=x:=by
     unfold zjs at hx;rw [if_pos rfl] at hx;exact Option.some.inj hx
    obtain ⟨a,c,hc⟩:=ho e.u y hu
    have hnot:e.v ∉ nodes a c:=fun hm=>by
     obtain ⟨z,h1,h2⟩:=zcK (hs e.v) (zjK hn he hc hm) _ rfl
     rw [h1] at hl
     have:=of_decide_eq_true hl
     omega
    refine ⟨a,c ++ [e],hc.src,zdX.2 ⟨e.u,hc.ch,zdY he⟩,by rw [zjk,zlK,← hc.wt];omega,?_,?_⟩
    ·show (a :: (c ++ [e]).map Ed.v).Nodup
     rw [List.map_append,← List.cons_append]
     refine List.nodup_append.2 ⟨hc.nd,by simp,fun p hp q hq=>?_⟩
     have:q=e.v:=by simpa using hq
     subst this
     exact fun e'=>hnot (e' ▸ hp)
    ·intro c1 c2 m h1 h2
     rcases zh2 h1 with rfl | ⟨c3,h3⟩
     ·have : m = e.v := zuv h2 (zdX.2 ⟨e.u, hc.ch, zdY he⟩)
      subst this
      intro z hz;cases hz
      refine ⟨x,hx,?_⟩
      rw [zjk,zlK,← hc.wt];omega
     ·exact zcK (zcK (hle m) (hs m)) (hc.pre c1 c3 m h3 h2)
   ·have hx':s.1 v=some x:=by
     unfold zjs at hx;rw [if_neg hv] at hx;exact hx
    obtain ⟨a,c,hc⟩:=h v x hx'
    exact ⟨a,c,zDR hc hle⟩
theorem zKO {E F:List Ed} {Src:Nat→Prop} (hn:zcn E) (hF:∀ e∈F,e∈E) {o:zcb} (ho:Inv E Src o) {s:zcb×Bool} (hs:∀ m,leO (s.1 m) (o m)) (h:Inv E Src s.1):Inv E Src (F.foldl (jr o) s).1:=by
 induction F generalizing s with
 | nil=>exact h
 | cons e l ih=>exact ih (fun e he=>hF e (List.mem_cons_of_mem _ he)) (fun m=>zcK (zHI o s e m) (hs m)) (zKN hn ho (hF e (List.mem_cons_self ..)) hs h)
theorem zCO {E:List Ed} {Src:Nat→Prop} (hn:zcn E) (k:Nat) {d:zcb} (h:Inv E Src d):Inv E Src (zAN E k d):=by
 induction k generalizing d with
 | zero=>exact h
 | succ k ih=>exact ih (zKO hn (fun _ h=>h) h (s:=(d,false)) (fun _=>zc8 _) h)
theorem zKP {E:List Ed} {n:Nat} {Src:Nat→Prop} (hn:zcn E) (hE:∀ e∈E,e.u < n∧e.v < n) (hS:∀ a,Src a→a < n) {d:zcb} (h0:Start Src d):Fix E (zAN E (n - 1) d):=by
 intro e he x hx
 obtain ⟨a,c,hc⟩:=zCO hn (n - 1) (ze4 (E:=E) h0) e.u x hx
 by_cases hm:e.v∈nodes a c
 ·exact zjK hn he hc hm _ rfl
 ·have hlen:(c ++ [e]).length≤n - 1:=by
   have hnd:(nodes a (c ++ [e])).Nodup:=by
    show (a :: (c ++ [e]).map Ed.v).Nodup
    rw [List.map_append,← List.cons_append]
    refine List.nodup_append.2 ⟨hc.nd,by simp,fun p hp q hq=>?_⟩
    have:q=e.v:=by simpa using hq
    subst this
    exact fun e'=>hm (e' ▸ hp)
   have hch:zhj E a (c ++ [e]) e.v:=zdX.2 ⟨e.u,hc.ch,zdY he⟩
   have:=zlN n hnd (zn9 hE (hS a hc.src) hch)
   rw [zlO] at this
   omega
  have:=zHL (zdX.2 ⟨e.u,hc.ch,zdY he⟩) (h0.src a hc.src) hlen _ rfl
  rw [zjk,zlK,← hc.wt] at this
  obtain ⟨z,h1,h2⟩:=this
  exact ⟨z,h1,by omega⟩
def zgT (E : List Ed) : Nat → Bool → zcb → Bool
  | 0,c,_=>!c
  | m+1,c,d=>cond c (zgT E m (E.foldl (jr d) (d,false)).2 (zDX E d)) (!c)
theorem zuA (E:List Ed) (m:Nat) (d:zcb):zgT E m false d=true:=by cases m <;> rfl
theorem zpW {E:List Ed} {k:Nat} : ∀ {m:Nat} {d:zcb},Fix E (zAN E k d)→k < m→zgT E m true d=true:=by
 induction k with
 | zero =>
  intro m d h hm
  obtain ⟨m,rfl⟩:∃ m',m=m'+1:=⟨m - 1,by omega⟩
  show zgT E m (E.foldl (jr d) (d,false)).2 (zDX E d)=true
  rw [zKM (show ∀ e∈E,Sat d e from h)]
  exact zuA E m _
 | succ k ih =>
  intro m d h hm
  obtain ⟨m,rfl⟩:∃ m',m=m'+1:=⟨m - 1,by omega⟩
  show zgT E m (E.foldl (jr d) (d,false)).2 (zDX E d)=true
  cases (E.foldl (jr d) (d,false)).2
  ·exact zuA E m _
  ·exact ih (m:=m) (d:=zDX E d) h (by omega)
theorem zAP {E:List Ed} {m:Nat} : ∀ {d:zcb},zgT E m true d=true→∃ k,Fix E (zAN E k d):=by
 induction m with
 | zero=>intro d h;cases h
 | succ m ih =>
  intro d h
  have h':zgT E m (E.foldl (jr d) (d,false)).2 (zDX E d)=true:=h
  cases hc:(E.foldl (jr d) (d,false)).2
  ·exact ⟨0,zCN hc⟩
  ·rw [hc] at h'
   obtain ⟨k,hk⟩:=ih h'
   exact ⟨k+1,hk⟩
theorem zAQ {E:List Ed} {n:Nat} (hE:EdOk E n):zgT E n true (zoe n)=true↔zcn E:=by
 constructor
 ·intro h
  obtain ⟨k,hk⟩:=zAP h
  have hsome:∀ v,v < n→∃ x,zAN E k (zoe n) v=some x:=fun v hv=>by
   obtain ⟨x,hx,_⟩:=zAO E k (zoe n) v 0 (if_pos hv)
   exact ⟨x,hx⟩
  refine zlP (f:=fun v=>(zAN E k (zoe n) v).getD 0) fun e he=>?_
  obtain ⟨x,hx⟩:=hsome e.u (hE.lt e he).1
  obtain ⟨y,hy,hxy⟩:=hk e he x hx
  show (zAN E k (zoe n) e.v).getD 0≤(zAN E k (zoe n) e.u).getD 0+e.w
  rw [hx,hy];exact hxy
 ·intro h
  have:=hE.n1
  exact zpW (zKP h hE.lt (fun a ha=>ha) (zmF n)) (by omega)
def dsP (E:List Ed) (n s:Nat):zcb:=rds E (n - 1) (zuw s)
def zLa : Option Int → Int
  | none=>1000000000000
  | some x=>x
theorem zAR {E:List Ed} {n s:Nat} (hn:zcn E):Inv E (fun v=>v=s) (dsP E n s):=zsR hn _ (ze4 (zd6 s))
theorem zAS {E:List Ed} {n s:Nat} (hE:EdOk E n) (hn:zcn E) (hs:s < n):Fix E (dsP E n s):=zAA hn hE.lt (fun a ha=>Nat.lt_of_le_of_lt (Nat.le_of_eq ha) hs) (zd6 s)
theorem zME {E:List Ed} {n:Nat} (hE:EdOk E n) {s:Nat} (hs:s < n) {d:zcb} (hd:Inv E (fun v=>v=s) d) {v:Nat} {x:Int} (hx:d v=some x):∃ c,zhj E s c v∧x=wt c∧c.length < n:=by
 obtain ⟨a,c,hc⟩:=hd v x hx
 have hl:=zAz hE.lt (fun a ha=>Nat.lt_of_le_of_lt (Nat.le_of_eq ha) hs) hc
 obtain rfl:a=s:=hc.src
 exact ⟨c,hc.ch,hc.wt,by omega⟩
theorem zDY {E:List Ed} {n:Nat} (hE:EdOk E n) {s:Nat} (hs:s < n) {d:zcb} (hd:Inv E (fun v=>v=s) d) {v:Nat} {x:Int} (hx:d v=some x) : -40000000000≤x∧x≤40000000000:=by
 obtain ⟨c,h1,h2,h3⟩:=zME hE hs hd hx
 have:=zjL hE h1
 have:=hE.n40
 omega
theorem zHM {E:List Ed} {n s v:Nat} (hE:EdOk E n) (hn:zcn E) (hs:s < n):zLa (dsP E n s v)=zHC (dst E n s v):=by
 obtain ⟨y0,k1,k2⟩:=zpT E (n - 1) (zuw s) s 0 (if_pos rfl)
 have up:∀ c,zhj E s c v→∃ y,dsP E n s v=some y∧y≤wt c:=fun c hc=>by
  obtain ⟨y,m1,m2⟩:=zKF (zAS hE hn hs) hc k1
  exact ⟨y,m1,by omega⟩
 rcases ziZ (v:=v) hE hn hs with ⟨_,h2⟩ | ⟨c,_,h1,h2,_⟩
 ·rw [h2]
  cases hd:dsP E n s v with
  | none=>rfl
  | some x =>
   obtain ⟨c,m1,m2,m3⟩:=zME hE hs (zAR hn) hd
   have:=zAF hE hn hs m1
   have:=zjL hE m1
   have:=hE.n40
   omega
 ·obtain ⟨y, m1, m2⟩ := up c h1
  obtain ⟨c',q1,q2,_⟩:=zME hE hs (zAR hn) m1
  have:=zAF hE hn hs q1
  rw [m1,h2]
  show y=wt c
  omega
end Go.Pm
namespace Go.Proofs
open Go Go.Pm
set_option maxRecDepth 100000
set_option linter.unusedVariables false
theorem zAT {l:Sl Step} {L:List step} (hl:IsL l L) {q:Nat} (hq:q < L.length) {N:Nat} (hL:∀ y∈L,StOk y N):(l.get q).From=L[q].from_∧(l.get q).To=L[q].to∧(l.get q).Length=L[q].length∧StOk L[q] N:=by
 rw [hl.2 q hq];exact ⟨rfl,rfl,rfl,hL _ (List.getElem_mem hq)⟩
structure Rv (N : Nat) (v : Sl Int) (d : zcb) (B : Int) : Prop where
  len:v.len=N
  at_:∀ i,i < N→d i=some (v.get i)
  b:∀ i,i < N→-B≤v.get i∧v.get i≤0
theorem zCP (n : Net) (l : Sl Step) (L : List step) (hl : IsL l L) {N : Nat} (hLN : ∀ y ∈ L, StOk y N) (hL : L.length ≤ 1000) (S1 : Sl Int → Bool → Int → Bool) (P1 : Sl Int → Bool → Int → Bool) (best : Sl Int) (o : zcb) (B : Int) (hB : 0 ≤ B ∧ B ≤ 100000000000000) (ho : Rv N best o B) (r : Int) :
  ∀ (m k q:Nat) (c:Bool) (v:Sl Int) (d:zcb),q+m=L.length→m < k→Rv N v d (B+1000000000) →
  ∃ v',zfu S1 n l k best c r (q:Int) v=S1 v' (((L.drop q).map edS).foldl (jr o) (d,c)).2 (w64 (r+(1:Int)))∧zfv P1 n l k best c r (q:Int) v=P1 v' (((L.drop q).map edS).foldl (jr o) (d,c)).2 (w64 (r+(1:Int)))∧Rv N v' (((L.drop q).map edS).foldl (jr o) (d,c)).1 (B+1000000000):=by
 have hll:=hl.1
 intro m
 induction m with
 | zero =>
  intro k q c v d hq hk hv
  obtain ⟨k,rfl⟩:∃ k',k=k'+1:=⟨k - 1,by omega⟩
  rw [List.drop_eq_nil_of_le (by omega)]
  refine ⟨v,?_,?_,hv⟩
  ·show ziJ S1 n l (zfu S1 n l k) best c r (q : Int) v = _
   unfold ziJ
   rw [decide_eq_false (show ¬ (q:Int) < (l.len:Int) by omega),cond_false];rfl
  ·show ziK P1 n l (zfv P1 n l k) best c r (q : Int) v = _
   unfold ziK
   rw [decide_eq_false (show ¬ (q:Int) < (l.len:Int) by omega),cond_false];rfl
 | succ m ih =>
  intro k q c v d hq hk hv
  obtain ⟨k,rfl⟩:∃ k',k=k'+1:=⟨k - 1,by omega⟩
  have hw:w64 ((q:Int)+(1:Int))=((q+1:Nat):Int):=by rw [zcZ (by omega) (by omega)];omega
  obtain ⟨e1,e2,e3,hy⟩:=zAT hl (show q < L.length by omega) hLN
  rw [List.drop_eq_getElem_cons (by omega:q < L.length)]
  generalize L[q]=y at *
  have f0:=hy.f0;have f1:=hy.f1;have t0:=hy.t0;have t1:=hy.t1;have l0:=hy.l0;have l1:=hy.l1
  have hbl:=ho.len;have hvl:=hv.len
  have bf:=ho.b y.from_.toNat (by omega)
  have af:=ho.at_ y.from_.toNat (by omega)
  have at_:=hv.at_ y.to.toNat (by omega)
  have hr:jr o (d,c) (edS y)=cond (decide (best.get y.from_.toNat+y.length < v.get y.to.toNat)) (zjs d y.to.toNat (best.get y.from_.toNat+y.length),true) (d,c):=by
   unfold jr edS
   simp only [af,at_] <;> rfl
  have hS:zfu S1 n l (k+1) best c r (q:Int) v=cond (decide (best.get y.from_.toNat+y.length < v.get y.to.toNat)) (zfu S1 n l k best true r ((q+1:Nat):Int) (⟨v.len,setT y.to.toNat (best.get y.from_.toNat+y.length) v.get⟩:Sl Int)) (zfu S1 n l k best c r ((q+1:Nat):Int) v):=by
   rw [← hw]
   show ziJ S1 n l (zfu S1 n l k) best c r (q:Int) v=_
   generalize zfu S1 n l k=S
   unfold ziJ
   rw [decide_eq_true (show (q:Int) < (l.len:Int) by omega),cond_true,Int.toNat_natCast,e1,e2,e3,zcZ (x:=best.get y.from_.toNat+y.length) (by omega) (by omega)]
  have hP:zfv P1 n l (k+1) best c r (q:Int) v=cond (decide (best.get y.from_.toNat+y.length < v.get y.to.toNat)) (zfv P1 n l k best true r ((q+1:Nat):Int) (⟨v.len,setT y.to.toNat (best.get y.from_.toNat+y.length) v.get⟩:Sl Int)) (zfv P1 n l k best c r ((q+1:Nat):Int) v):=by
   rw [← hw]
   show ziK P1 n l (zfv P1 n l k) best c r (q:Int) v=_
   generalize zfv P1 n l k=S
   unfold ziK
   simp only [Int.toNat_natCast,e1,e2,e3]
   rw [decide_eq_true (show (q:Int) < (l.len:Int) by omega),cond_true,zcZ (x:=best.get y.from_.toNat+y.length) (by omega) (by omega),decide_eq_true (show 0≤(q:Int)∧(q:Int) < (l.len:Int) by omega),decide_eq_true (show 0≤y.from_∧y.from_ < (best.len:Int) by omega),decide_eq_true (show 0≤y.to∧y.to < (v.len:Int) by omega),decide_eq_true (show y.to.toNat < v.len by omega)]
   cases decide (best.get y.from_.toNat+y.length < v.get y.to.toNat) <;> rfl
  rw [hS,hP]
  show ∃ v',_=S1 v' (((L.drop (q+1)).map edS).foldl (jr o) (jr o (d,c) (edS y))).2 _∧_=P1 v' (((L.drop (q+1)).map edS).foldl (jr o) (jr o (d,c) (edS y))).2 _∧Rv N v' (((L.drop (q+1)).map edS).foldl (jr o) (jr o (d,c) (edS y))).1 _
  rw [hr]
  by_cases hlt:best.get y.from_.toNat+y.length < v.get y.to.toNat
  ·rw [decide_eq_true hlt]
   simp only [cond_true]
   have vb:=hv.b y.to.toNat (by omega)
   refine ih k (q+1) true _ _ (by omega) (by omega) ⟨hvl,fun i hi=>?_,fun i hi=>?_⟩
   ·show zjs d y.to.toNat (best.get y.from_.toNat + y.length) i = some (setT y.to.toNat (best.get y.from_.toNat + y.length) v.get i)
    rw [zlR]
    unfold zjs
    by_cases h:i=y.to.toNat
    ·rw [if_pos h,if_pos h]
    ·rw [if_neg h,if_neg h];exact hv.at_ i hi
   ·show -(B + 1000000000) ≤ setT y.to.toNat (best.get y.from_.toNat + y.length) v.get i ∧ setT y.to.toNat (best.get y.from_.toNat + y.length) v.get i ≤ 0
    rw [zlR]
    by_cases h:i=y.to.toNat
    ·rw [if_pos h];omega
    ·rw [if_neg h];exact hv.b i hi
  ·rw [decide_eq_false hlt]
   simp only [cond_false]
   exact ih k (q+1) c v d (by omega) (by omega) hv
theorem zpX (n:Net) (hn:NetOk n):∀ (m k r:Nat) (c:Bool) (v:Sl Int) (d:zcb) (B:Int),(r:Int)+m=n.Nodes→m < k→Rv n.Nodes.toNat v d B→0≤B→B+m * 1000000000≤100000000000000 →
  zhh n (s77 n) k v c (r:Int)=true∧zhg n (s77 n) k v c (r:Int)=zgT (En n) m c d:=by
 have hlen:=hn.len;have hn40:=hn.n40
 obtain ⟨_,hl⟩:=zuz n (by omega)
 have hL:(Ws (W n)).length≤400:=zAI (a:=W n) hn
 intro m
 induction m with
 | zero =>
  intro k r c v d B hr hk _ _ _
  obtain ⟨k,rfl⟩:∃ k',k=k'+1:=⟨k - 1,by omega⟩
  constructor
  ·show zgp n (s77 n) (zhh n (s77 n) k) v c (r : Int) = true
   unfold zgp
   rw [decide_eq_false (show ¬ (r:Int) < n.Nodes by omega),cond_false]
  ·show zgo n (s77 n) (zhg n (s77 n) k) v c (r : Int) = _
   unfold zgo
   rw [decide_eq_false (show ¬ (r:Int) < n.Nodes by omega),cond_false];rfl
 | succ m ih =>
  intro k r c v d B hr hk hv hB0 hB1
  obtain ⟨k,rfl⟩:∃ k',k=k'+1:=⟨k - 1,by omega⟩
  cases c with
  | false =>
   constructor
   ·show zgp n (s77 n) (zhh n (s77 n) k) v false (r : Int) = true
    unfold zgp
    cases decide ((r:Int) < n.Nodes) <;> rfl
   ·show zgo n (s77 n) (zhg n (s77 n) k) v false (r : Int) = _
    unfold zgo
    cases decide ((r:Int) < n.Nodes) <;> rfl
  | true =>
   have hw:w64 ((r:Int)+(1:Int))=((r+1:Nat):Int):=by rw [zcZ (by omega) (by omega)];omega
   obtain ⟨v',k1,k2,k3⟩:=zCP n (s77 n) (Ws (W n)) hl (fun y hy=>zHX (a:=W n) hn hy) (by omega) (zhg n (s77 n) k) (zhh n (s77 n) k) v d B ⟨hB0,by omega⟩ hv (r:Int) (Ws (W n)).length Fuel 0 false v d (by omega) (by simp only [Fuel];omega) ⟨hv.len,hv.at_,fun i hi=>by have:=hv.b i hi;omega⟩
   rw [List.drop_zero,hw] at k1 k2
   rw [List.drop_zero] at k3
   obtain ⟨i1,i2⟩:=ih k (r+1) (((Ws (W n)).map edS).foldl (jr d) (d,false)).2 v' _ (B+1000000000) (by omega) (by omega) k3 (by omega) (by omega)
   constructor
   ·refine Eq.trans ?_ i1
    refine Eq.trans ?_ k2
    show zgp n (s77 n) (zhh n (s77 n) k) v true (r:Int)=_
    unfold zgp
    have hvl:=hv.len
    rw [decide_eq_true (show (r:Int) < n.Nodes by omega)]
    first
     | rfl
     | (simp only [cond_true];rw [decide_eq_true (show v.len * 8≤140737488355328∧v.len≤9223372036854775807 by omega)];rfl)
   ·refine Eq.trans ?_ i2
    refine Eq.trans ?_ k1
    show zgo n (s77 n) (zhg n (s77 n) k) v true (r:Int)=_
    unfold zgo
    rw [decide_eq_true (show (r:Int) < n.Nodes by omega)];rfl
theorem zKQ (n:Net) (hn:NetOk n):p31 n=true∧(s31 n=true↔zcn (En n)):=by
 have hlen:=hn.len;have hn1:=hn.n1;have hn40:=hn.n40
 obtain ⟨a,b⟩:=zpX n hn n.Nodes.toNat Fuel 0 true (⟨n.Nodes.toNat,(fun _=>(0:Int))⟩:Sl Int) (zoe n.Nodes.toNat) 0 (by omega) (by simp only [Fuel];omega) ⟨rfl,fun i hi=>if_pos hi,fun i hi=>⟨by show -(0:Int)≤(0:Int);omega,Int.le_refl _⟩⟩ (by omega) (by omega)
 have hq:=(zuz n (by omega)).1
 constructor
 ·unfold p31 zsp
  rw [hq]
  first
   | exact a
   | (rw [decide_eq_true (show 0≤n.Nodes∧n.Nodes=n.Nodes∧n.Nodes≤1000000 from ⟨by omega,rfl,by omega⟩)];exact a)
 ·have : s31 n = zgT (En n) n.Nodes.toNat true (zoe n.Nodes.toNat) := b
  rw [this]
  exact zAQ (zHE (a:=W n) hn)
end Go.Proofs
namespace Go.Proofs
open Go Go.Pm
set_option maxRecDepth 100000
set_option linter.unusedVariables false
structure Rq (N : Nat) (v : Sl Int) (d : zcb) : Prop where
  len:v.len=N
  at_:∀ i,i < N→v.get i=zLa (d i)
theorem zHN (n : Net) {E : List Ed} {N s : Nat} (hE : EdOk E N) (hn : zcn E) (hs : s < N) (l : Sl Step) (L : List step) (hl : IsL l L) (hLN : ∀ y ∈ L, StOk y N ∧ edS y ∈ E) (hL : L.length ≤ 1000) (S3 : Bool → Sl Int → Sl Int) (P3 : Bool → Sl Int → Bool) :
  ∀ (m k q:Nat) (c:Bool) (v:Sl Int) (d:zcb),q+m=L.length→m < k→Rq N v d→Inv E (fun v=>v=s) d →
  ∃ v',zeo S3 l k c (q:Int) v=S3 (((L.drop q).map edS).foldl rlF (d,c)).2 v'∧zep P3 l k c (q:Int) v=P3 (((L.drop q).map edS).foldl rlF (d,c)).2 v'∧Rq N v' (((L.drop q).map edS).foldl rlF (d,c)).1:=by
 have hll:=hl.1
 have hN40:=hE.n40
 intro m
 induction m with
 | zero =>
  intro k q c v d hq hk hv _
  obtain ⟨k,rfl⟩:∃ k',k=k'+1:=⟨k - 1,by omega⟩
  rw [List.drop_eq_nil_of_le (by omega)]
  refine ⟨v,?_,?_,hv⟩
  ·show ziL S3 l (zeo S3 l k) c (q : Int) v = _
   unfold ziL
   rw [decide_eq_false (show ¬ (q:Int) < (l.len:Int) by omega),cond_false];rfl
  ·show ziM P3 l (zep P3 l k) c (q : Int) v = _
   unfold ziM
   rw [decide_eq_false (show ¬ (q:Int) < (l.len:Int) by omega),cond_false];rfl
 | succ m ih =>
  intro k q c v d hq hk hv hi
  obtain ⟨k,rfl⟩:∃ k',k=k'+1:=⟨k - 1,by omega⟩
  have hw:w64 ((q:Int)+(1:Int))=((q+1:Nat):Int):=by rw [zcZ (by omega) (by omega)];omega
  obtain ⟨e1,e2,e3,hy⟩:=zAT hl (show q < L.length by omega) (fun y hy=>(hLN y hy).1)
  have hmE:=(hLN L[q] (List.getElem_mem (by omega))).2
  rw [List.drop_eq_getElem_cons (by omega:q < L.length)]
  generalize L[q]=y at *
  have f0:=hy.f0;have f1:=hy.f1;have t0:=hy.t0;have t1:=hy.t1;have l0:=hy.l0;have l1:=hy.l1
  have hvl:=hv.len
  have af:=hv.at_ y.from_.toNat (by omega)
  have at_:=hv.at_ y.to.toNat (by omega)
  have hin:=zn7 (Src:=fun v=>v=s) hn (s:=(d,c)) (e:=edS y) hmE hi
  have hbT:∀ x,d y.to.toNat=some x→-40000000000≤x∧x≤40000000000:=fun x hx=>zDY hE hs hi hx
  have hS:zeo S3 l (k+1) c (q:Int) v=cond (v.get y.from_.toNat != (1000000000000:Int)) (cond (decide (w64 (v.get y.from_.toNat+y.length) < v.get y.to.toNat)) (zeo S3 l k true ((q+1:Nat):Int) (⟨v.len,setT y.to.toNat (w64 (v.get y.from_.toNat+y.length)) v.get⟩:Sl Int)) (zeo S3 l k c ((q+1:Nat):Int) v)) (zeo S3 l k c ((q+1:Nat):Int) v):=by
   rw [← hw]
   show ziL S3 l (zeo S3 l k) c (q:Int) v=_
   generalize zeo S3 l k=S
   unfold ziL
   rw [decide_eq_true (show (q:Int) < (l.len:Int) by omega),cond_true,Int.toNat_natCast,e1,e2,e3]
  have hP:zep P3 l (k+1) c (q:Int) v=cond (v.get y.from_.toNat != (1000000000000:Int)) (cond (decide (w64 (v.get y.from_.toNat+y.length) < v.get y.to.toNat)) (zep P3 l k true ((q+1:Nat):Int) (⟨v.len,setT y.to.toNat (w64 (v.get y.from_.toNat+y.length)) v.get⟩:Sl Int)) (zep P3 l k c ((q+1:Nat):Int) v)) (zep P3 l k c ((q+1:Nat):Int) v):=by
   rw [← hw]
   show ziM P3 l (zep P3 l k) c (q:Int) v=_
   generalize zep P3 l k=S
   unfold ziM
   simp only [Int.toNat_natCast,e1,e2,e3]
   rw [decide_eq_true (show (q:Int) < (l.len:Int) by omega),cond_true,decide_eq_true (show 0≤(q:Int)∧(q:Int) < (l.len:Int) by omega),decide_eq_true (show 0≤y.from_∧y.from_ < (v.len:Int) by omega),decide_eq_true (show y.from_.toNat < v.len by omega),decide_eq_true (show 0≤y.to∧y.to < (v.len:Int) by omega),decide_eq_true (show y.to.toNat < v.len by omega)]
   cases (v.get y.from_.toNat != (1000000000000:Int)) <;> cases decide (w64 (v.get y.from_.toNat+y.length) < v.get y.to.toNat) <;> rfl
  rw [hS,hP]
  show ∃ v',_=S3 (((L.drop (q+1)).map edS).foldl rlF (rlF (d,c) (edS y))).2 v'∧_=P3 (((L.drop (q+1)).map edS).foldl rlF (rlF (d,c) (edS y))).2 v'∧Rq N v' (((L.drop (q+1)).map edS).foldl rlF (rlF (d,c) (edS y))).1
  cases hdu:d y.from_.toNat with
  | none =>
   rw [hdu] at af
   have hr:rlF (d,c) (edS y)=(d,c):=by
    unfold rlF edS
    simp only [hdu]
   rw [hr,show (v.get y.from_.toNat != (1000000000000:Int))=false by rw [af];rfl]
   simp only [cond_false]
   exact ih k (q+1) c v d (by omega) (by omega) hv hi
  | some x =>
   have hbx:=zDY hE hs hi hdu
   rw [hdu] at af
   have af':v.get y.from_.toNat=x:=af
   have hne:x ≠ 1000000000000:=by omega
   have hr:rlF (d,c) (edS y)=cond (ltO (x+y.length) (d y.to.toNat)) (zjs d y.to.toNat (x+y.length),true) (d,c):=by
    unfold rlF edS
    simp only [hdu] <;> rfl
   have hlt:decide (x+y.length < v.get y.to.toNat)=ltO (x+y.length) (d y.to.toNat):=by
    rw [at_]
    cases hdv:d y.to.toNat with
    | none=>exact decide_eq_true (show x+y.length < 1000000000000 by omega)
    | some z=>rfl
   rw [af',bne_iff_ne.2 hne,zcZ (x:=x+y.length) (by omega) (by omega),hlt]
   simp only [cond_true]
   rw [hr] at hin ⊢
   cases hlo:ltO (x+y.length) (d y.to.toNat) with
   | false =>
    simp only [cond_false]
    exact ih k (q+1) c v d (by omega) (by omega) hv hi
   | true =>
    rw [hlo] at hin
    simp only [cond_true] at hin ⊢
    refine ih k (q+1) true _ _ (by omega) (by omega) ⟨hvl,fun i hi'=>?_⟩ hin
    show setT y.to.toNat (x+y.length) v.get i=zLa (zjs d y.to.toNat (x+y.length) i)
    rw [zlR]
    unfold zjs
    by_cases h:i=y.to.toNat
    ·rw [if_pos h,if_pos h];rfl
    ·rw [if_neg h,if_neg h];exact hv.at_ i hi'
end Go.Proofs
namespace Go.Proofs
open Go Go.Pm
set_option maxRecDepth 100000
set_option linter.unusedVariables false
theorem zsW (n:Net) (l:Sl Step) (hl:IsL l (Ws (W n))) (hnet:NetOk n) (hn:zcn (En n)) {s:Nat} (hs:s < n.Nodes.toNat):∀ (m k:Nat) (v:Sl Int) (d:zcb),Rq n.Nodes.toNat v d→Inv (En n) (fun v=>v=s) d→Fix (En n) (rds (En n) m d)→m+1 < k →
  zdt l k true v=true∧Rq n.Nodes.toNat (zdk l k true v) (rds (En n) m d):=by
 have hlen:=hnet.len
 have hE:EdOk (En n) n.Nodes.toNat:=zHE (a:=W n) hnet
 have hL:(Ws (W n)).length≤400:=zAI (a:=W n) hnet
 have one:∀ (k:Nat) (v:Sl Int) (d:zcb),Rq n.Nodes.toNat v d→Inv (En n) (fun v=>v=s) d →
   ∃ v',zdk l (k+1) true v=zdk l k ((En n).foldl rlF (d,false)).2 v'∧zdt l (k+1) true v=zdt l k ((En n).foldl rlF (d,false)).2 v'∧Rq n.Nodes.toNat v' (rnd (En n) d):=by
  intro k v d h1 h2
  obtain ⟨v',k1,k2,k3⟩:=zHN n hE hn hs l (Ws (W n)) hl (fun y hy=>⟨zHX (a:=W n) hnet hy,List.mem_map_of_mem hy⟩) (by omega) (zdk l k) (zdt l k) (Ws (W n)).length Fuel 0 false v d (by omega) (by simp only [Fuel];omega) h1 h2
  rw [List.drop_zero] at k1 k2 k3
  have e1:zdk l (k+1) true v=zeo (zdk l k) l Fuel false ((0:Nat):Int) v:=by
   show zlI l (zdk l k) true v=_
   generalize zdk l k=S
   unfold zlI zss
   rw [cond_true];rfl
  have e2:zdt l (k+1) true v=zep (zdt l k) l Fuel false ((0:Nat):Int) v:=by
   show zlJ l (zdt l k) true v=_
   generalize zdt l k=S
   unfold zlJ zst
   rw [cond_true];rfl
  exact ⟨v',e1.trans k1,e2.trans k2,k3⟩
 have stop:∀ (k:Nat) (v:Sl Int),zdk l (k+1) false v=v∧zdt l (k+1) false v=true:=fun k v=>by
  constructor
  ·show zlI l (zdk l k) false v = v
   generalize zdk l k=S
   rfl
  ·show zlJ l (zdt l k) false v = true
   generalize zdt l k=S
   rfl
 intro m
 induction m with
 | zero =>
  intro k v d h1 h2 h3 hk
  obtain ⟨k,rfl⟩:∃ k',k=k'+1+1:=⟨k - 2,by omega⟩
  obtain ⟨v',k1,k2,k3⟩:=one (k+1) v d h1 h2
  have h3':Fix (En n) d:=h3
  rw [zjJ h3'] at k1 k2
  rw [zlM h3'] at k3
  obtain ⟨j1,j2⟩:=stop k v'
  refine ⟨k2.trans j2,?_⟩
  rw [k1.trans j1];exact k3
 | succ m ih =>
  intro k v d h1 h2 h3 hk
  obtain ⟨k,rfl⟩:∃ k',k=k'+1+1:=⟨k - 2,by omega⟩
  obtain ⟨v',k1,k2,k3⟩:=one (k+1) v d h1 h2
  cases hf:((En n).foldl rlF (d,false)).2 with
  | false =>
   rw [hf] at k1 k2
   have hx:Fix (En n) d:=ziY hf
   obtain ⟨j1,j2⟩:=stop k v'
   refine ⟨k2.trans j2,?_⟩
   rw [k1.trans j1,zAy hx]
   rw [zlM hx] at k3;exact k3
  | true =>
   rw [hf] at k1 k2
   obtain ⟨m1,m2⟩:=ih (k+1) v' (rnd (En n) d) k3 (zn8 hn (fun _ h=>h) (s:=(d,false)) h2) h3 (by omega)
   refine ⟨k2.trans m1,?_⟩
   rw [k1];exact m2
theorem zAU (n:Net) (a:Int) (l:Sl Step):∀ (m k i:Nat) (v:Sl Int),(v.len:Int)=n.Nodes→n.Nodes≤40→(∀ j,j < i→v.get j=1000000000000)→(i:Int)+m=n.Nodes→m < k →
  ∃ v',ziP n a l k (i:Int) v=zsv a l v'∧ziQ n a l k (i:Int) v=zn4 a l v'∧v'.len=v.len∧∀ j,j < v.len→v'.get j=1000000000000:=by
 intro m
 induction m with
 | zero =>
  intro k i v hv h40 h hi hk
  obtain ⟨k,rfl⟩:∃ k',k=k'+1:=⟨k - 1,by omega⟩
  refine ⟨v,?_,?_,rfl,fun j hj=>h j (by omega)⟩
  ·show ziN n a l (ziP n a l k) (i : Int) v = _
   unfold ziN
   rw [decide_eq_false (show ¬ (i:Int) < n.Nodes by omega),cond_false]
  ·show ziO n a l (ziQ n a l k) (i : Int) v = _
   unfold ziO
   rw [decide_eq_false (show ¬ (i:Int) < n.Nodes by omega),cond_false]
 | succ m ih =>
  intro k i v hv h40 h hi hk
  obtain ⟨k,rfl⟩:∃ k',k=k'+1:=⟨k - 1,by omega⟩
  have hw:w64 ((i:Int)+(1:Int))=((i+1:Nat):Int):=by rw [zcZ (by omega) (by omega)];omega
  obtain ⟨v',k1,k2,k3,k4⟩:=ih k (i+1) (⟨v.len,setT i (1000000000000:Int) v.get⟩:Sl Int) hv h40 (fun j hj=>by
   show setT i (1000000000000:Int) v.get j=_
   rw [zlR]
   by_cases hq:j=i
   ·rw [if_pos hq]
   ·rw [if_neg hq];exact h j (by omega)) (by omega) (by omega)
  refine ⟨v',?_,?_,k3,k4⟩
  ·rw [← k1]
   show ziN n a l (ziP n a l k) (i:Int) v=_
   unfold ziN
   rw [decide_eq_true (show (i:Int) < n.Nodes by omega),cond_true,Int.toNat_natCast,hw]
  ·rw [← k2]
   show ziO n a l (ziQ n a l k) (i:Int) v=_
   unfold ziO
   rw [decide_eq_true (show (i:Int) < n.Nodes by omega),cond_true,Int.toNat_natCast,hw,decide_eq_true (show 0≤(i:Int)∧(i:Int) < (v.len:Int) by omega),decide_eq_true (show i < v.len by omega)];rfl
theorem zDZ {n:Net} (hn:NetOk n) (hN:zcn (En n)) {a:Int} (h0:0≤a) (h1:a < n.Nodes):p46 n a=true∧(s46 n a).len=n.Nodes.toNat∧∀ j,j < n.Nodes.toNat→(s46 n a).get j=fr n a.toNat j:=by
 have hlen:=hn.len;have hn1:=hn.n1;have hn40:=hn.n40
 have hE:EdOk (En n) n.Nodes.toNat:=zHE (a:=W n) hn
 have hs:a.toNat < n.Nodes.toNat:=by omega
 have hq:=(zuz n (by omega)).1
 obtain ⟨v1,a1,a2,a3,a4⟩:=zAU n a (s77 n) n.Nodes.toNat Fuel 0 (⟨n.Nodes.toNat,(fun _=>(0:Int))⟩:Sl Int) (by show ((n.Nodes.toNat:Nat):Int)=_;omega) hn40 (fun j hj=>absurd hj (Nat.not_lt_zero _)) (by omega) (by simp only [Fuel];omega)
 have a3':v1.len=n.Nodes.toNat:=a3
 have hr:Rq n.Nodes.toNat (⟨v1.len,setT a.toNat (0:Int) v1.get⟩:Sl Int) (zuw a.toNat):=⟨a3',fun i hi=>by
  show setT a.toNat (0:Int) v1.get i=zLa (zuw a.toNat i)
  rw [zlR]
  unfold zuw
  by_cases h:i=a.toNat
  ·rw [if_pos h,if_pos h];rfl
  ·rw [if_neg h,if_neg h];exact a4 i hi⟩
 obtain ⟨b1,b2⟩:=zsW n (s77 n) (zuz n (by omega)).2 hn hN hs (n.Nodes.toNat - 1) Fuel (⟨v1.len,setT a.toNat (0:Int) v1.get⟩:Sl Int) (zuw a.toNat) hr (ze4 (zd6 a.toNat)) (zAS hE hN hs) (by simp only [Fuel];omega)
 have e:s46 n a=zdk (s77 n) Fuel true (⟨v1.len,setT a.toNat (0:Int) v1.get⟩:Sl Int):=by
  show ziP n a (s77 n) Fuel 0 (⟨n.Nodes.toNat,(fun _=>(0:Int))⟩:Sl Int)=_
  exact Eq.trans a1 rfl
 refine ⟨?_,?_,fun j hj=>?_⟩
 ·unfold p46 zsw
  rw [hq,decide_eq_true (show 0≤n.Nodes∧n.Nodes=n.Nodes∧n.Nodes≤1000000 from ⟨by omega,rfl,by omega⟩)]
  show ziQ n a (s77 n) Fuel 0 (⟨n.Nodes.toNat,(fun _=>(0:Int))⟩:Sl Int)=true
  refine Eq.trans a2 ?_
  unfold zn4 zsu
  rw [decide_eq_true (show 0≤a∧a < (v1.len:Int) by omega),decide_eq_true (show a.toNat < v1.len by omega),Bool.true_and,Bool.true_and]
  exact b1
 ·rw [e];exact b2.len
 ·rw [e, b2.at_ j hj]
  exact zHM hE hN hs
theorem zKR {n:Net} (hn:NetOk n) (hN:zcn (En n)) {i j:Int} (hi:0≤i∧i < n.Nodes) (hj:0≤j∧j < n.Nodes):p34 n i j=true∧s34 n i j=⟨-fr n j.toNat i.toNat,fr n i.toNat j.toNat⟩:=by
 obtain ⟨a1,a2,a3⟩:=zDZ hn hN hj.1 hj.2
 obtain ⟨b1,b2,b3⟩:=zDZ hn hN hi.1 hi.2
 have hb:=zCJ hn hN (i:=j.toNat) (j:=i.toNat) (by omega)
 unfold p34 s34
 rw [a1,b1,a2,b2,a3 i.toNat (by omega),b3 j.toNat (by omega),zcZ (by omega) (by omega)]
 constructor
 ·rw [decide_eq_true (show 0≤i∧i < (n.Nodes.toNat:Int) by omega),decide_eq_true (show 0≤j∧j < (n.Nodes.toNat:Int) by omega)];rfl
 ·rw [show (0:Int) - fr n j.toNat i.toNat = -fr n j.toNat i.toNat by omega]
end Go.Proofs
namespace Go.Proofs
open Go Go.Pm
set_option maxRecDepth 100000
set_option linter.unusedVariables false
theorem zvp {n : Net} {t : Tie} (hn : NetOk n) (ht : TieOk t n.Nodes) (hN : zcn (En n)) :
  (p79 (W n) t=true∧p37 n t=true∧s79 (W n) t=s37 n t)∧(s37 n t=true↔(t.Low = -1000000000000∨fr n t.To.toNat t.From.toNat≤-t.Low)∧(t.High=1000000000000∨fr n t.From.toNat t.To.toNat≤t.High)):=by
 have hn40:=hn.n40
 have f0:=ht.f0;have f1:=ht.f1;have t0:=ht.t0;have t1:=ht.t1
 obtain ⟨a1,a2⟩:=zAM hn hN f0 f1 (j:=t.To.toNat) (by omega)
 obtain ⟨b1,b2⟩:=zAM hn hN t0 t1 (j:=t.From.toNat) (by omega)
 obtain ⟨q1,q2⟩:=zKR hn hN ⟨f0,f1⟩ ⟨t0,t1⟩
 have e1:0+t.From.toNat * 2+0=t.From.toNat * 2:=by omega
 have e2:0+t.To.toNat * 2+0=t.To.toNat * 2:=by omega
 have hlo:=ht.lo
 have hw:w64 (0 - t.Low) = -t.Low:=by rw [zcZ (by omega) (by omega)];omega
 have hd:decide (-fr n t.To.toNat t.From.toNat ≥ t.Low)=decide (fr n t.To.toNat t.From.toNat≤-t.Low):=decide_eq_decide.2 (by omega)
 unfold p79 s79 p37 s37
 rw [q1,q2,e1,e2,zjt (by omega),zjt (by omega),a2,b2,a1,b1,hw,decide_eq_true (show 0≤t.From∧t.From < (40:Int) by omega),decide_eq_true (show 0≤t.To∧t.To < (40:Int) by omega)]
 show (_∧_∧_=cond _ _ (cond (decide (-fr n t.To.toNat t.From.toNat ≥ t.Low)) _ _))∧(cond _ _ (cond (decide (-fr n t.To.toNat t.From.toNat ≥ t.Low)) _ _)=true↔_)
 rw [hd]
 have hR:((t.Low = -1000000000000∨fr n t.To.toNat t.From.toNat≤-t.Low)∧(t.High=1000000000000∨fr n t.From.toNat t.To.toNat≤t.High))↔(((t.Low == (-1000000000000:Int)) || decide (fr n t.To.toNat t.From.toNat≤-t.Low)) && ((t.High == (1000000000000:Int)) || decide (fr n t.From.toNat t.To.toNat≤t.High)))=true:=by
  simp only [Bool.and_eq_true,Bool.or_eq_true,beq_iff_eq,decide_eq_true_eq]
 rw [hR]
 show (_∧_∧_=cond _ (cond _ _ (decide (fr n t.From.toNat t.To.toNat≤t.High))) (cond _ (cond _ _ (decide (fr n t.From.toNat t.To.toNat≤t.High))) _))∧(cond _ (cond _ _ (decide (fr n t.From.toNat t.To.toNat≤t.High))) (cond _ (cond _ _ (decide (fr n t.From.toNat t.To.toNat≤t.High))) _)=true↔_)
 generalize decide (fr n t.To.toNat t.From.toNat≤-t.Low)=x1
 generalize decide (fr n t.From.toNat t.To.toNat≤t.High)=x2
 generalize (t.Low == (-1000000000000:Int))=x3
 generalize (t.High == (1000000000000:Int))=x4
 cases x1 <;> cases x2 <;> cases x3 <;> cases x4 <;> simp
theorem zpY {n:Net} {t:Tie} (hn:NetOk n) (ht:TieOk t n.Nodes) (h:(t.Low = -1000000000000∨fr n t.To.toNat t.From.toNat≤-t.Low)∧(t.High=1000000000000∨fr n t.From.toNat t.To.toNat≤t.High)) {v:Sl Int} (hv:AgOk n v):Keep t v:=by
 have f0:=ht.f0;have f1:=ht.f1;have t0:=ht.t0;have t1:=ht.t1;have lo:=ht.lo;have hi:=ht.hi
 constructor
 ·rcases h.1 with h1 | h1
  ·exact .inl h1
  ·by_cases hf : fr n t.To.toNat t.From.toNat = 1000000000000
   ·exact .inl (by omega)
   ·have := zpV hn hv (i := t.To.toNat) (j := t.From.toNat) (by omega) hf
    exact .inr (by omega)
 ·rcases h.2 with h1 | h1
  ·exact .inl h1
  ·by_cases hf : fr n t.From.toNat t.To.toNat = 1000000000000
   ·exact .inl (by omega)
   ·have := zpV hn hv (i := t.From.toNat) (j := t.To.toNat) (by omega) hf
    exact .inr (by omega)
theorem zpZ (n:Net) (t:Tie) (v:Sl Int) (hl:n.Ties.len≤210) (hv:v.len≤50):zur n t v=true∧zuq n t v=true:=by
 obtain ⟨a1,a2⟩:=zAs n (by omega)
 obtain ⟨b1,b2⟩:=zKB n (by omega)
 unfold zur zuq zAq zAp p35 s35
 rw [a1,b1,b2,zAr]
 cases hs:s67 n
 ·exact ⟨rfl,rfl⟩
 cases ht:s78 t n.Nodes
 ·exact ⟨rfl,rfl⟩
 have hn:=a2.1 hs
 have hT:=(zsP t n.Nodes hn.n1 hn.n40).1 ht
 obtain ⟨g1,g2⟩:=zKQ n hn
 obtain ⟨w0,_,_,w3,w4⟩:=zCK n (⟨0,fun _=>default⟩:Sl Int) (by decide) hl
 simp only [decide_true,Bool.true_and,Bool.not_true,cond_false]
 unfold zup zuo zsr zsq
 simp only [cond_false]
 unfold zAo zAn
 rw [w0,g1]
 by_cases hN:zcn (En n)
 ·have w4' := w4 hn (fun i hi => absurd hi (Nat.not_lt_zero _)) hN
  obtain ⟨⟨k1,k2,k3⟩,k4⟩:=zvp hn hT hN
  rw [w4',g2.2 hN]
  show (_ && (_ && zpQ n t v (s79 (W n) t) 0 (!true)))=true∧zpP n t v (s79 (W n) t) 0 (!true)=true
  have e1:(cond ((0:Int) == 0) (decide (true=true) && cond ((0:Int) != (0:Int)) true (decide (p79 (W n) t=true) && true)) (decide (true=true) && cond ((0:Int) != (0:Int)) true false))=true:=by rw [k1];rfl
  rw [k3]
  have main:zpQ n t v (s37 n t) 0 (!true)=true∧zpP n t v (s37 n t) 0 (!true)=true:=by
   unfold zpQ zpP zAm zAl zun zum zAk zAj
   rw [k2]
   simp only [Bool.not_true,cond_false,bne_self_eq_false,decide_true,Bool.true_and]
   cases hk:s37 n t
   ·exact ⟨rfl,rfl⟩
   ·obtain ⟨m1, m2⟩ := zHz n v hn (by omega)
    rw [m1]
    cases hA:s38 n v
    ·exact ⟨rfl,rfl⟩
    ·have hag := m2.1 hA
     obtain ⟨r1,r2⟩:=zn6 t n v hT hag.val
     rw [r1,r2.2 (zpY hn hT (k4.1 hk) hag)];exact ⟨rfl,rfl⟩
  refine ⟨?_,main.2⟩
  rw [main.1]
  show (decide ((cond ((0:Int) == 0) (decide (true=true) && cond ((0:Int) != (0:Int)) true (decide (p79 (W n) t=true) && true)) (decide (true=true) && cond ((0:Int) != (0:Int)) true false))=true) && _)=true
  rw [e1];rfl
 ·have w3' := w3 hn (fun i hi => absurd hi (Nat.not_lt_zero _)) hN
  rw [w3',Bool.eq_false_iff.2 fun h=>hN (g2.1 h)]
  exact ⟨rfl,rfl⟩
theorem follows_true (n:Net) (t:Tie) (v:Sl Int):p7 n t v=true∧s7 n t v=true:=by
 unfold p7 s7
 by_cases h:s20 n 14=true
 ·rw [h]
  unfold zut zus
  by_cases hv:(v.len:Int) > 50
  ·rw [decide_eq_true hv];exact ⟨rfl,rfl⟩
  ·rw [decide_eq_false hv]
   simp only [Bool.not_true,cond_false]
   exact zpZ n t v (zAt h (by omega)) (by omega)
 ·rw [Bool.eq_false_iff.2 h];exact ⟨rfl,rfl⟩
end Go.Proofs
