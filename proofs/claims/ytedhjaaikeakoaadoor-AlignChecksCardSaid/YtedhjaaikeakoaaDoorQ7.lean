/- Part 7 of what the proof rests on: a machine that runs functions of the program on pure values, proved sound; the functions that the law reaches, and what they compute. -/
import Derived.Test.YtedhjaaikeakoaaDoorQ6
set_option linter.all false
namespace Go.Pm
open Go
theorem zze {i n:Nat} (h:i < n) (hn:n≤9223372036854775807):w64 ((i:Int)+(1:Int))=((i+1:Nat):Int):=by
 rw [zrO (by omega) (by omega)];omega
theorem zDv {β : Type} {good : Nat → Bool} {bad fin : β} {finP : Bool} {n : Nat} {lpS : Nat → Int → β} {lpP : Nat → Int → Bool}
    (hS:∀ (k i:Nat),i < n→lpS (k+1) (i:Int)=cond (good i) (lpS k (w64 ((i:Int)+(1:Int)))) bad)
    (hE:∀ k,lpS (k+1) (n:Int)=fin)
    (hP:∀ (k i:Nat),i < n→lpP (k+1) (i:Int)=cond (good i) (lpP k (w64 ((i:Int)+(1:Int)))) true)
    (hPE:∀ k,lpP (k+1) (n:Int)=finP) (hn:n≤9223372036854775807) :
    ((∀ i,i < n→good i=true)→lpP Fuel 0=finP∧lpS Fuel 0=fin)∧((¬ ∀ i,i < n→good i=true)→lpP Fuel 0=true∧lpS Fuel 0=bad):=by
  have key:∀ (m k i:Nat),i+m=n→m < k→((∀ j,i≤j→j < n→good j=true)→lpP k (i:Int)=finP∧lpS k (i:Int)=fin)∧((¬ ∀ j,i≤j→j < n→good j=true)→lpP k (i:Int)=true∧lpS k (i:Int)=bad):=by
    intro m
    induction m with
    | zero =>
      intro k i hi hk
      obtain ⟨k,rfl⟩:∃ k',k=k'+1:=⟨k - 1,by omega⟩
      have:i=n:=by omega
      subst this
      rw [hE,hPE]
      exact ⟨fun _=>⟨rfl,rfl⟩,fun h=>absurd (fun j h1 h2=>absurd h2 (by omega)) h⟩
    | succ m ih =>
      intro k i hi hk
      obtain ⟨k,rfl⟩:∃ k',k=k'+1:=⟨k - 1,by omega⟩
      rw [hS k i (by omega),hP k i (by omega),zze (n:=n) (by omega) hn]
      obtain ⟨h1,h2⟩:=ih k (i+1) (by omega) (by omega)
      cases hg:good i
      · refine ⟨fun h => ?_, fun _ => ⟨rfl, rfl⟩⟩
        have:=h i (Nat.le_refl _) (by omega)
        rw [hg] at this;cases this
      · refine ⟨fun h => h1 fun j a b => h j (by omega) b, fun h => h2 fun h' => h fun j a b => ?_⟩
        by_cases hji:j=i
        · rw [hji];exact hg
        · exact h' j (by omega) b
  have:=key n Fuel 0 (by omega) (by simp only [Fuel];omega)
  simpa using this
end Go.Pm
namespace Go.Proofs
open Go Go.Pm
set_option maxRecDepth 100000
set_option linter.unusedVariables false
attribute [local irreducible] Go.Pm.vcFun Go.Pm.vc Go.Pm.vcIter
end Go.Proofs
namespace Go.Proofs
open Go Go.Pm
set_option maxRecDepth 100000
theorem zkH (n a b:Int):s81 n a b=decide (a≤n∧n≤b):=by
 unfold s81
 by_cases h:a≤n
 ·rw [decide_eq_true (show n ≥ a from h),cond_true];exact decide_eq_decide.2 ⟨fun k=>⟨h,k⟩,fun k=>k.2⟩
 ·rw [decide_eq_false (show ¬ n ≥ a from h),cond_false];exact (decide_eq_false (fun k=>h k.1)).symm
theorem zrP (n a b:Int):s72 n a b=decide (a≤n∧n≤b):=zkH n a b
theorem znI (n:Net) (hn:n.Ties.len≤9223372036854775807):p67 n=true∧(s67 n=true↔(∀ i,i < n.Ties.len→s78 (n.Ties.get i) n.Nodes=true)∧(1≤n.Nodes∧n.Nodes≤40)∧n.Ties.len≤200):=by
  have := zfk (good := fun i => s78 (n.Ties.get i) n.Nodes) (fin := cond (s81 n.Nodes (1:Int) (40:Int)) (decide ((n.Ties.len : Int) ≤ (200:Int))) false) (n := n.Ties.len) (lpS := zgN n) (lpP := zgO n)
    (fun k i hi=>by
      show zgL n (zgN n k) (i:Int)=_
      generalize zgN n k=S
      unfold zgL zos
      rw [decide_eq_true (show (i:Int) < (n.Ties.len:Int) by omega),cond_true,Int.toNat_natCast]
      cases s78 (n.Ties.get i) n.Nodes <;> rfl)
    (fun k=>by
      show zgL n (zgN n k) (n.Ties.len:Int)=_
      unfold zgL
      rw [decide_eq_false (show ¬ (n.Ties.len:Int) < (n.Ties.len:Int) by omega),cond_false])
    (fun k i hi=>by
      show zgM n (zgO n k) (i:Int)=_
      generalize zgO n k=S
      unfold zgM zot
      rw [decide_eq_true (show (i:Int) < (n.Ties.len:Int) by omega),cond_true,Int.toNat_natCast,decide_eq_true (show 0≤(i:Int)∧(i:Int) < (n.Ties.len:Int) by omega),Bool.true_and]
      cases s78 (n.Ties.get i) n.Nodes <;> rfl)
    (fun k=>by
      show zgM n (zgO n k) (n.Ties.len:Int)=_
      unfold zgM
      rw [decide_eq_false (show ¬ (n.Ties.len:Int) < (n.Ties.len:Int) by omega),cond_false])
    hn
  refine ⟨this.1,this.2.trans ?_⟩
  rw [zkH]
  by_cases h:1≤n.Nodes∧n.Nodes≤40
  · rw [decide_eq_true h,cond_true,decide_eq_true_eq];exact ⟨fun k=>⟨k.1,h,by omega⟩,fun k=>⟨k.1,by omega⟩⟩
  · rw [decide_eq_false h,cond_false];exact ⟨fun k=>absurd k.2 (by decide),fun k=>absurd k.2.1 h⟩
end Go.Proofs
namespace Go.Proofs
open Go Go.Pm
set_option maxRecDepth 100000
set_option linter.unusedVariables false
theorem dlt (x y:Int):decide (x < y) = !decide (x ≥ y):=by
 by_cases h:x < y
 ·rw [decide_eq_true h,decide_eq_false (show ¬ x ≥ y by omega)];rfl
 ·rw [decide_eq_false h,decide_eq_true (show x ≥ y by omega)];rfl
theorem dgt (x y:Int):decide (x > y) = !decide (x≤y):=by
 by_cases h:x > y
 ·rw [decide_eq_true h,decide_eq_false (show ¬ x≤y by omega)];rfl
 ·rw [decide_eq_false h,decide_eq_true (show x≤y by omega)];rfl
theorem zz7 (nodes:Int) (t:Tie):s36 nodes t=s78 t nodes:=by
 unfold s36 zgZ zpW s78 ziQ ziP
 simp only [zrP,zkH,bne,dgt]
 generalize decide (0≤t.From∧t.From≤w64 (nodes - (1:Int)))=a
 generalize decide (0≤t.To∧t.To≤w64 (nodes - (1:Int)))=b
 generalize (t.From == t.To)=c
 generalize (t.Low == (-1000000000000:Int))=d
 generalize (t.High == (1000000000000:Int))=e
 generalize decide (-1000000000≤t.Low∧t.Low≤1000000000)=f
 generalize decide (-1000000000≤t.High∧t.High≤1000000000)=g
 generalize decide (t.Low≤t.High)=h
 cases a <;> cases b <;> cases c <;> cases d <;> cases e <;> cases f <;> cases g <;> cases h <;> rfl
structure TieOk (t : Tie) (nodes : Int) : Prop where
  f0:0≤t.From
  f1:t.From < nodes
  t0:0≤t.To
  t1:t.To < nodes
  ne:t.From ≠ t.To
  lo:t.Low = -1000000000000∨(-1000000000≤t.Low∧t.Low≤1000000000)
  hi:t.High=1000000000000∨(-1000000000≤t.High∧t.High≤1000000000)
  le:t.Low≤t.High
theorem zxD (t:Tie) (nodes:Int) (h1:1≤nodes) (h2:nodes≤40):s78 t nodes=true↔TieOk t nodes:=by
 have e:s78 t nodes=(decide (0≤t.From∧t.From < nodes) && (decide (0≤t.To∧t.To < nodes) && (!(t.From == t.To) && (((t.Low == (-1000000000000:Int)) || decide (-1000000000≤t.Low∧t.Low≤1000000000)) && (((t.High == (1000000000000:Int)) || decide (-1000000000≤t.High∧t.High≤1000000000)) && decide (t.Low≤t.High)))))):=by
  unfold s78 ziQ ziP
  rw [zrO (x:=nodes - 1) (by omega) (by omega)]
  simp only [zkH]
  rw [decide_eq_decide.2 (show (0≤t.From∧t.From≤nodes - 1)↔(0≤t.From∧t.From < nodes) by omega),decide_eq_decide.2 (show (0≤t.To∧t.To≤nodes - 1)↔(0≤t.To∧t.To < nodes) by omega)]
  simp only [bne]
  generalize decide (0≤t.From∧t.From < nodes)=a
  generalize decide (0≤t.To∧t.To < nodes)=b
  generalize (t.From == t.To)=c
  generalize (t.Low == (-1000000000000:Int))=d
  generalize (t.High == (1000000000000:Int))=e
  generalize decide (-1000000000≤t.Low∧t.Low≤1000000000)=f
  generalize decide (-1000000000≤t.High∧t.High≤1000000000)=g
  generalize decide (t.Low≤t.High)=h
  cases a <;> cases b <;> cases c <;> cases d <;> cases e <;> cases f <;> cases g <;> cases h <;> rfl
 rw [e]
 simp only [Bool.and_eq_true,Bool.or_eq_true,decide_eq_true_eq,Bool.not_eq_true',beq_eq_false_iff_ne,beq_iff_eq]
 constructor
 ·rintro ⟨⟨a,b⟩,⟨c,d⟩,e,f,g,h⟩;exact ⟨a,b,c,d,e,f,g,h⟩
 ·rintro ⟨a,b,c,d,e,f,g,h⟩;exact ⟨⟨a,b⟩,⟨c,d⟩,e,f,g,h⟩
structure NetOk (n : Net) : Prop where
  n1:1≤n.Nodes
  n40:n.Nodes≤40
  len:n.Ties.len≤200
  tie:∀ i,i < n.Ties.len→TieOk (n.Ties.get i) n.Nodes
theorem zDw (n:Net) (hn:n.Ties.len≤9223372036854775807):p67 n=true∧(s67 n=true↔NetOk n):=by
 obtain ⟨h1,h2⟩:=znI n hn
 refine ⟨h1,h2.trans ?_⟩
 constructor
 ·rintro ⟨a,⟨b,c⟩,d⟩;exact ⟨b,c,by omega,fun i hi=>(zxD _ _ b c).1 (a i hi)⟩
 ·rintro ⟨b,c,d,a⟩;exact ⟨fun i hi=>(zxD _ _ b c).2 (a i hi),⟨b,c⟩,by omega⟩
theorem zF2 (n:Net) (hn:n.Ties.len≤9223372036854775807):p23 n=true∧s23 n=s67 n:=by
  have hl := zfk (good := fun i => s36 n.Nodes (n.Ties.get i)) (fin := true) (n := n.Ties.len) (lpS := zfL n) (lpP := zg2 n)
    (fun k i hi=>by
      show zg0 n (zfL n k) (i:Int)=_
      generalize zfL n k=S
      unfold zg0 zpY
      rw [decide_eq_true (show (i:Int) < (n.Ties.len:Int) by omega),cond_true,Int.toNat_natCast]
      cases s36 n.Nodes (n.Ties.get i) <;> rfl)
    (fun k=>by
      show zg0 n (zfL n k) (n.Ties.len:Int)=_
      unfold zg0
      rw [decide_eq_false (show ¬ (n.Ties.len:Int) < (n.Ties.len:Int) by omega),cond_false])
    (fun k i hi=>by
      show zg1 n (zg2 n k) (i:Int)=_
      generalize zg2 n k=S
      unfold zg1 zpZ
      rw [decide_eq_true (show (i:Int) < (n.Ties.len:Int) by omega),cond_true,Int.toNat_natCast,decide_eq_true (show 0≤(i:Int)∧(i:Int) < (n.Ties.len:Int) by omega),Bool.true_and]
      cases s36 n.Nodes (n.Ties.get i) <;> rfl)
    (fun k=>by
      show zg1 n (zg2 n k) (n.Ties.len:Int)=_
      unfold zg1
      rw [decide_eq_false (show ¬ (n.Ties.len:Int) < (n.Ties.len:Int) by omega),cond_false])
    hn
  obtain ⟨h1,h2⟩:=znI n hn
  unfold p23 s23 zlY zlX zp3 zp2 zp1 zp0
  rw [hl.1,zrP,dgt]
  refine ⟨by cases decide (1≤n.Nodes∧n.Nodes≤40) <;> cases decide ((n.Ties.len:Int)≤200) <;> rfl,?_⟩
  have h3:=hl.2
  have h4:zfL n Fuel 0=true↔∀ i,i < n.Ties.len→s78 (n.Ties.get i) n.Nodes=true:=h3.trans ⟨fun h i hi=>by rw [← zz7];exact h.1 i hi,fun h=>⟨fun i hi=>by rw [zz7];exact h i hi,rfl⟩⟩
  rw [Bool.eq_iff_iff,h2]
  by_cases a:1≤n.Nodes∧n.Nodes≤40
  · rw [decide_eq_true a]
    by_cases b:(n.Ties.len:Int)≤200
    · rw [decide_eq_true b];exact h4.trans ⟨fun h=>⟨h,a,by omega⟩,fun h=>h.1⟩
    · rw [decide_eq_false b];exact ⟨fun h=>absurd h Bool.false_ne_true,fun h=>absurd h.2.2 (by omega)⟩
  · rw [decide_eq_false a];exact ⟨fun h=>absurd h Bool.false_ne_true,fun h=>absurd h.2.1 a⟩
theorem zF3 (n:Net) (hn:n.Ties.len≤9223372036854775807):p47 n=true:=by
 unfold p47;rw [(znI n hn).1];rfl
structure ValOk (n : Net) (v : Sl Int) : Prop where
  len:(v.len:Int)=n.Nodes
  zero:v.get 0=0
  b:∀ i,i < v.len→-1000000000000≤v.get i∧v.get i≤1000000000000
def Keep (t:Tie) (v:Sl Int):Prop:=(t.Low = -1000000000000∨t.Low≤v.get t.To.toNat - v.get t.From.toNat)∧(t.High=1000000000000∨v.get t.To.toNat - v.get t.From.toNat≤t.High)
structure AgOk (n : Net) (v : Sl Int) : Prop where
  val:ValOk n v
  keep:∀ i,i < n.Ties.len→Keep (n.Ties.get i) v
theorem zDx (n:Net) (h1:1≤n.Nodes) (v:Sl Int) (hv:v.len≤9223372036854775807):p80 n v=true∧(s80 n v=true↔ValOk n v):=by
  have hl := zfk (good := fun i => s72 (v.get i) (-1000000000000:Int) (1000000000000:Int)) (fin := true) (n := v.len) (lpS := zfM v) (lpP := zg5 v)
    (fun k i hi=>by
      show zg3 v (zfM v k) (i:Int)=_
      generalize zfM v k=S
      unfold zg3 zp4
      rw [decide_eq_true (show (i:Int) < (v.len:Int) by omega),cond_true,Int.toNat_natCast]
      cases s72 (v.get i) (-1000000000000:Int) (1000000000000:Int) <;> rfl)
    (fun k=>by
      show zg3 v (zfM v k) (v.len:Int)=_
      unfold zg3
      rw [decide_eq_false (show ¬ (v.len:Int) < (v.len:Int) by omega),cond_false])
    (fun k i hi=>by
      show zg4 v (zg5 v k) (i:Int)=_
      generalize zg5 v k=S
      unfold zg4 zp5
      rw [decide_eq_true (show (i:Int) < (v.len:Int) by omega),cond_true,Int.toNat_natCast,decide_eq_true (show 0≤(i:Int)∧(i:Int) < (v.len:Int) by omega),Bool.true_and]
      cases s72 (v.get i) (-1000000000000:Int) (1000000000000:Int) <;> rfl)
    (fun k=>by
      show zg4 v (zg5 v k) (v.len:Int)=_
      unfold zg4
      rw [decide_eq_false (show ¬ (v.len:Int) < (v.len:Int) by omega),cond_false])
    hv
  have h3:zfM v Fuel 0=true↔∀ i,i < v.len→-1000000000000≤v.get i∧v.get i≤1000000000000:=hl.2.trans ⟨fun h i hi=>by have:=h.1 i hi;rw [zrP] at this;exact of_decide_eq_true this,fun h=>⟨fun i hi=>by rw [zrP];exact decide_eq_true (h i hi),rfl⟩⟩
  unfold p80 s80 zp9 zp8 zp7 zp6
  rw [hl.1]
  by_cases a:(v.len:Int)=n.Nodes
  · rw [show ((v.len : Int) != n.Nodes) = false by rw [a]; exact bne_self_eq_false _, cond_false, cond_false]
    by_cases b:v.get 0=0
    · rw [show (v.get 0 != (0:Int)) = false by rw [b]; rfl, cond_false, cond_false]
      exact ⟨by rw [decide_eq_true (show 0≤(0:Int)∧(0:Int) < (v.len:Int) by omega)];rfl,h3.trans ⟨fun h=>⟨a,b,h⟩,fun h=>h.b⟩⟩
    · rw [show (v.get 0 != (0:Int)) = true from bne_iff_ne.2 b, cond_true, cond_true]
      exact ⟨by rw [decide_eq_true (show 0≤(0:Int)∧(0:Int) < (v.len:Int) by omega)];rfl,fun h=>absurd h Bool.false_ne_true,fun h=>absurd h.zero b⟩
  · rw [show ((v.len : Int) != n.Nodes) = true from bne_iff_ne.2 a, cond_true, cond_true]
    exact ⟨rfl,fun h=>absurd h Bool.false_ne_true,fun h=>absurd h.len a⟩
theorem zjT (t:Tie) (n:Net) (v:Sl Int) (ht:TieOk t n.Nodes) (hv:ValOk n v):p39 t v=true∧(s39 t v=true↔Keep t v):=by
 have h1:=hv.b t.To.toNat (by have:=ht.t0;have:=ht.t1;have:=hv.len;omega)
 have h2:=hv.b t.From.toNat (by have:=ht.f0;have:=ht.f1;have:=hv.len;omega)
 have:=ht.f0;have:=ht.f1;have:=ht.t0;have:=ht.t1;have:=hv.len
 constructor
 ·unfold p39
  rw [decide_eq_true (show 0≤t.To∧t.To < (v.len:Int) by omega),decide_eq_true (show 0≤t.From∧t.From < (v.len:Int) by omega)];rfl
 ·unfold s39 Keep
  rw [zrO (by omega) (by omega)]
  by_cases a:t.Low = -1000000000000
  ·rw [show (t.Low == (-1000000000000:Int)) = true from beq_iff_eq.2 a, cond_true]
   by_cases b:t.High=1000000000000
   ·rw [show (t.High == (1000000000000:Int))=true from beq_iff_eq.2 b,cond_true];exact ⟨fun _=>⟨.inl a,.inl b⟩,fun _=>rfl⟩
   ·rw [show (t.High == (1000000000000:Int))=false from beq_eq_false_iff_ne.2 b,cond_false,decide_eq_true_eq];exact ⟨fun h=>⟨.inl a,.inr h⟩,fun h=>h.2.resolve_left b⟩
  ·rw [show (t.Low == (-1000000000000:Int)) = false from beq_eq_false_iff_ne.2 a, cond_false]
   by_cases c:t.Low≤v.get t.To.toNat - v.get t.From.toNat
   ·rw [decide_eq_true (show v.get t.To.toNat - v.get t.From.toNat ≥ t.Low from c), cond_true]
    by_cases b:t.High=1000000000000
    ·rw [show (t.High == (1000000000000:Int))=true from beq_iff_eq.2 b,cond_true];exact ⟨fun _=>⟨.inr c,.inl b⟩,fun _=>rfl⟩
    ·rw [show (t.High == (1000000000000:Int))=false from beq_eq_false_iff_ne.2 b,cond_false,decide_eq_true_eq];exact ⟨fun h=>⟨.inr c,.inr h⟩,fun h=>h.2.resolve_left b⟩
   ·rw [decide_eq_false (show ¬ v.get t.To.toNat - v.get t.From.toNat ≥ t.Low from c), cond_false]
    exact ⟨fun h=>absurd h Bool.false_ne_true,fun h=>absurd (h.1.resolve_left a) c⟩
theorem zxE (n:Net) (v:Sl Int) (hn:NetOk n) (hv:v.len≤9223372036854775807):p38 n v=true∧(s38 n v=true↔AgOk n v):=by
  obtain ⟨h1,h2⟩:=zDx n hn.n1 v hv
  unfold p38 s38
  rw [h1]
  by_cases hV:s80 n v=true
  · have hV' := h2.1 hV
    have hlen:=hn.len
    have hl := zfk (good := fun i => s39 (n.Ties.get i) v) (fin := true) (n := n.Ties.len) (lpS := zg8 n v) (lpP := zg9 n v)
      (fun k i hi=>by
        show zg6 n v (zg8 n v k) (i:Int)=_
        generalize zg8 n v k=S
        unfold zg6 zqb
        rw [decide_eq_true (show (i:Int) < (n.Ties.len:Int) by omega),cond_true,Int.toNat_natCast]
        cases s39 (n.Ties.get i) v <;> rfl)
      (fun k=>by
        show zg6 n v (zg8 n v k) (n.Ties.len:Int)=_
        unfold zg6
        rw [decide_eq_false (show ¬ (n.Ties.len:Int) < (n.Ties.len:Int) by omega),cond_false])
      (fun k i hi=>by
        show zg7 n v (zg9 n v k) (i:Int)=_
        generalize zg9 n v k=S
        unfold zg7 zqc
        rw [decide_eq_true (show (i:Int) < (n.Ties.len:Int) by omega),cond_true,Int.toNat_natCast,decide_eq_true (show 0≤(i:Int)∧(i:Int) < (n.Ties.len:Int) by omega),Bool.true_and,decide_eq_true (zjT _ n v (hn.tie i hi) hV').1,Bool.true_and]
        cases s39 (n.Ties.get i) v <;> rfl)
      (fun k=>by
        show zg7 n v (zg9 n v k) (n.Ties.len:Int)=_
        unfold zg7
        rw [decide_eq_false (show ¬ (n.Ties.len:Int) < (n.Ties.len:Int) by omega),cond_false])
      (by omega)
    rw [hV]
    unfold zqi zqh zqg zqf zqe zqd
    refine ⟨by rw [hl.1];rfl,Iff.trans (Iff.trans (by rfl) hl.2) ?_⟩
    exact ⟨fun h=>⟨hV',fun i hi=>(zjT _ n v (hn.tie i hi) hV').2.1 (h.1 i hi)⟩,fun h=>⟨fun i hi=>(zjT _ n v (hn.tie i hi) hV').2.2 (h.keep i hi),rfl⟩⟩
  · have hV0 : s80 n v = false := Bool.eq_false_iff.2 hV
    rw [hV0]
    exact ⟨rfl,fun h=>absurd h Bool.false_ne_true,fun h=>absurd (h2.2 h.val) hV⟩
theorem zxF (n:Net) (v:Sl Int) (hn:NetOk n) (hg:s67 n=true) (hv:v.len≤9223372036854775807):p48 n v=true∧(s48 n v=true↔AgOk n v):=by
  have hlen:=hn.len
  have h1:=hn.n1
  unfold p48 s48
  rw [hg,(znI n (by omega)).1]
  by_cases a:(v.len:Int)=n.Nodes
  · rw [show ((v.len : Int) != n.Nodes) = false by rw [a]; exact bne_self_eq_false _]
    by_cases b:v.get 0=0
    · rw [show (v.get 0 != (0:Int)) = false by rw [b]; rfl, decide_eq_true (show 0 ≤ (0:Int) ∧ (0:Int) < (v.len : Int) by omega)]
      have key:(∀ i,i < v.len→-1000000000000≤v.get i∧v.get i≤1000000000000)→zlZ n v=true∧(zjS n v=true↔∀ i,i < n.Ties.len→Keep (n.Ties.get i) v):=fun hb=>by
        have hV:ValOk n v:=⟨a,b,hb⟩
        have hl := zfk (good := fun i => s39 (n.Ties.get i) v) (fin := true) (n := n.Ties.len) (lpS := zhc n v) (lpP := zhd n v)
          (fun k i hi=>by
            show zha n v (zhc n v k) (i:Int)=_
            generalize zhc n v k=S
            unfold zha s39
            rw [decide_eq_true (show (i:Int) < (n.Ties.len:Int) by omega),cond_true,Int.toNat_natCast]
            simp only [bne,dlt,dgt];cases (n.Ties.get i).Low == (-1000000000000:Int) <;> cases (n.Ties.get i).High == (1000000000000:Int) <;> cases decide (w64 (v.get (n.Ties.get i).To.toNat - v.get (n.Ties.get i).From.toNat) ≥ (n.Ties.get i).Low) <;> cases decide (w64 (v.get (n.Ties.get i).To.toNat - v.get (n.Ties.get i).From.toNat)≤(n.Ties.get i).High) <;> rfl)
          (fun k=>by
            show zha n v (zhc n v k) (n.Ties.len:Int)=_
            unfold zha
            rw [decide_eq_false (show ¬ (n.Ties.len:Int) < (n.Ties.len:Int) by omega),cond_false])
          (fun k i hi=>by
            show zhb n v (zhd n v k) (i:Int)=_
            generalize zhd n v k=S
            unfold zhb s39
            rw [decide_eq_true (show (i:Int) < (n.Ties.len:Int) by omega),cond_true,Int.toNat_natCast,decide_eq_true (show 0≤(i:Int)∧(i:Int) < (n.Ties.len:Int) by omega),Bool.true_and,decide_eq_true (show 0≤(n.Ties.get i).To∧(n.Ties.get i).To < (v.len:Int) from ⟨(hn.tie i hi).t0,by rw [a];exact (hn.tie i hi).t1⟩),decide_eq_true (show 0≤(n.Ties.get i).From∧(n.Ties.get i).From < (v.len:Int) from ⟨(hn.tie i hi).f0,by rw [a];exact (hn.tie i hi).f1⟩),Bool.true_and,Bool.true_and]
            simp only [bne,dlt,dgt];cases (n.Ties.get i).Low == (-1000000000000:Int) <;> cases (n.Ties.get i).High == (1000000000000:Int) <;> cases decide (w64 (v.get (n.Ties.get i).To.toNat - v.get (n.Ties.get i).From.toNat) ≥ (n.Ties.get i).Low) <;> cases decide (w64 (v.get (n.Ties.get i).To.toNat - v.get (n.Ties.get i).From.toNat)≤(n.Ties.get i).High) <;> rfl)
          (fun k=>by
            show zhb n v (zhd n v k) (n.Ties.len:Int)=_
            unfold zhb
            rw [decide_eq_false (show ¬ (n.Ties.len:Int) < (n.Ties.len:Int) by omega),cond_false])
          (by omega)
        exact ⟨hl.1,hl.2.trans ⟨fun h i hi=>(zjT _ n v (hn.tie i hi) hV).2.1 (h.1 i hi),fun h=>⟨fun i hi=>(zjT _ n v (hn.tie i hi) hV).2.2 (h i hi),rfl⟩⟩⟩
      by_cases hb:∀ i,i < v.len→-1000000000000≤v.get i∧v.get i≤1000000000000
      · obtain ⟨k1, k2⟩ := key hb
        have hl := zfk (good := fun i => s81 (v.get i) (-1000000000000:Int) (1000000000000:Int)) (fin := zjS n v) (n := v.len) (lpS := zdY n v) (lpP := zdZ n v)
          (fun k i hi=>by
            show zdW n v (zdY n v k) (i:Int)=_
            generalize zdY n v k=S
            unfold zdW zl0
            rw [decide_eq_true (show (i:Int) < (v.len:Int) by omega),cond_true,Int.toNat_natCast]
            cases s81 (v.get i) (-1000000000000:Int) (1000000000000:Int) <;> rfl)
          (fun k=>by
            show zdW n v (zdY n v k) (v.len:Int)=_
            unfold zdW
            rw [decide_eq_false (show ¬ (v.len:Int) < (v.len:Int) by omega),cond_false])
          (fun k i hi=>by
            show zdX n v (zdZ n v k) (i:Int)=_
            generalize zdZ n v k=S
            unfold zdX zl1
            rw [decide_eq_true (show (i:Int) < (v.len:Int) by omega),cond_true,Int.toNat_natCast,decide_eq_true (show 0≤(i:Int)∧(i:Int) < (v.len:Int) by omega),Bool.true_and]
            cases s81 (v.get i) (-1000000000000:Int) (1000000000000:Int) <;> rfl)
          (fun k=>by
            show zdX n v (zdZ n v k) (v.len:Int)=_
            unfold zdX
            rw [decide_eq_false (show ¬ (v.len:Int) < (v.len:Int) by omega),cond_false];exact k1)
          hv
        refine ⟨by unfold zhf zl5 zl3;rw [hl.1];rfl,?_⟩
        unfold zhe zl4 zl2
        refine Iff.trans (Iff.trans (by rfl) hl.2) ?_
        rw [k2]
        exact ⟨fun h=>⟨⟨a,b,hb⟩,h.2⟩,fun h=>⟨fun i hi=>by rw [zkH];exact decide_eq_true (hb i hi),h.keep⟩⟩
      · have hb' : ¬ ∀ i, i < v.len → s81 (v.get i) (-1000000000000:Int) (1000000000000:Int) = true := fun h => hb fun i hi => by have := h i hi; rw [zkH] at this; exact of_decide_eq_true this
        have hl := zDv (good := fun i => s81 (v.get i) (-1000000000000:Int) (1000000000000:Int)) (bad := false) (fin := zjS n v) (finP := zlZ n v) (n := v.len) (lpS := zdY n v) (lpP := zdZ n v)
          (fun k i hi=>by
            show zdW n v (zdY n v k) (i:Int)=_
            generalize zdY n v k=S
            unfold zdW zl0
            rw [decide_eq_true (show (i:Int) < (v.len:Int) by omega),cond_true,Int.toNat_natCast]
            cases s81 (v.get i) (-1000000000000:Int) (1000000000000:Int) <;> rfl)
          (fun k=>by
            show zdW n v (zdY n v k) (v.len:Int)=_
            unfold zdW
            rw [decide_eq_false (show ¬ (v.len:Int) < (v.len:Int) by omega),cond_false])
          (fun k i hi=>by
            show zdX n v (zdZ n v k) (i:Int)=_
            generalize zdZ n v k=S
            unfold zdX zl1
            rw [decide_eq_true (show (i:Int) < (v.len:Int) by omega),cond_true,Int.toNat_natCast,decide_eq_true (show 0≤(i:Int)∧(i:Int) < (v.len:Int) by omega),Bool.true_and]
            cases s81 (v.get i) (-1000000000000:Int) (1000000000000:Int) <;> rfl)
          (fun k=>by
            show zdX n v (zdZ n v k) (v.len:Int)=_
            unfold zdX
            rw [decide_eq_false (show ¬ (v.len:Int) < (v.len:Int) by omega),cond_false])
          hv
        obtain ⟨k1,k2⟩:=hl.2 hb'
        refine ⟨by unfold zhf zl5 zl3;rw [k1];rfl,?_⟩
        unfold zhe zl4 zl2
        rw [k2]
        exact ⟨fun h=>absurd h Bool.false_ne_true,fun h=>absurd h.val.b hb⟩
    · rw [show (v.get 0 != (0:Int)) = true from bne_iff_ne.2 b, decide_eq_true (show 0 ≤ (0:Int) ∧ (0:Int) < (v.len : Int) by omega)]
      exact ⟨rfl,fun h=>absurd h Bool.false_ne_true,fun h=>absurd h.val.zero b⟩
  · rw [show ((v.len : Int) != n.Nodes) = true from bne_iff_ne.2 a]
    exact ⟨rfl,fun h=>absurd h Bool.false_ne_true,fun h=>absurd h.val.len a⟩
theorem zDy (n:Net) (v:Sl Int) (hl:n.Ties.len≤9223372036854775807) (hg:s67 n=false):p48 n v=true∧s48 n v=false:=by
 unfold p48 s48
 rw [hg,(znI n hl).1]
 exact ⟨rfl,rfl⟩
theorem zxG (n:Net) (v:Sl Int) (hn:NetOk n) (hg:s67 n=true) (hv:v.len≤9223372036854775807):s48 n v=s38 n v:=by
 rw [Bool.eq_iff_iff,(zxF n v hn hg hv).2,(zxE n v hn hv).2]
theorem zxH {n:Net} {t:Int} (h:s20 n t=true) (ht:t≤210):n.Ties.len≤210:=by
 unfold s20 at h
 by_cases h1:(n.Ties.len:Int)≤t
 ·omega
 ·by_cases h2 : (n.Ties.len : Int) ≤ 210
  ·omega
  ·rw [decide_eq_false h1, decide_eq_false h2] at h
   exact absurd h (by cases decide (n.Nodes≤7) <;> cases decide (n.Nodes > 40) <;> cases decide ((n.Ties.len:Int) > 200) <;> decide)
end Go.Proofs
namespace Go.Proofs
open Go Go.Pm
set_option maxRecDepth 100000
set_option linter.unusedVariables false
theorem zqv (n:Net) (v:Sl Int) (hl:n.Ties.len≤210) (hv:v.len≤50):zl7 n v=true∧zl6 n v=true:=by
 obtain ⟨a1,a2⟩:=zDw n (by omega)
 obtain ⟨b1,b2⟩:=zF2 n (by omega)
 unfold zl7 zl6 zqu zqs zqr zqq zqp zqo
 rw [zF3 n (by omega),b1,b2]
 unfold s47
 by_cases h:s67 n=true
 ·obtain ⟨c1, c2⟩ := zxE n v (a2.1 h) (by omega)
  rw [h,c1,(zxF n v (a2.1 h) h (by omega)).1,zxG n v (a2.1 h) h (by omega),beq_self_eq_true]
  exact ⟨rfl,rfl⟩
 ·have h0 := Bool.eq_false_iff.2 h
  obtain ⟨c1,c2⟩:=zDy n v (by omega) h0
  rw [h0,c1,c2]
  exact ⟨rfl,rfl⟩
theorem checks_true (n:Net) (v:Sl Int):p10 n v=true∧s10 n v=true:=by
 unfold p10 s10
 by_cases h:s20 n 20=true
 ·rw [h]
  unfold zl9 zl8
  by_cases hv:(v.len:Int) > 50
  ·rw [decide_eq_true hv];exact ⟨rfl,rfl⟩
  ·rw [decide_eq_false hv];exact zqv n v (zxH h (by omega)) (by omega)
 ·rw [Bool.eq_false_iff.2 h];exact ⟨rfl,rfl⟩
end Go.Proofs
