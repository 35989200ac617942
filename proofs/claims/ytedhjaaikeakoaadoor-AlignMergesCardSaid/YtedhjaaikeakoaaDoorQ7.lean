/- Part 7 of what the proof rests on: a machine that runs functions of the program on pure values, proved sound; the functions that the law reaches, and what they compute. -/
import Derived.Test.YtedhjaaikeakoaaDoorQ6
set_option linter.all false
namespace Go.Proofs
open Go Go.Pm
set_option maxRecDepth 100000
set_option linter.unusedVariables false
theorem dlt (x y:Int):decide (x < y) = !decide (x >= y):=by
 by_cases h:x < y
 ·rw[dqT h,dqF (show ¬ x >= y by omega)];rfl
 ·rw[dqF h,dqT (show x >= y by omega)];rfl
theorem dgt (x y:Int):decide (x > y) = !decide (x<=y):=by
 by_cases h:x > y
 ·rw[dqT h,dqF (show ¬ x<=y by omega)];rfl
 ·rw[dqF h,dqT (show x<=y by omega)];rfl
theorem zDl (nodes:Int) (t:Tie):s36 nodes t=s78 t nodes:=by
 unfold s36 zij zqa s78 zkr zkq
 simp only[zsU,zlW,bne,dgt]
 generalize decide (0<=t.From/\t.From<=w64 (nodes - (1:Int)))=a
 generalize decide (0<=t.To/\t.To<=w64 (nodes - (1:Int)))=b
 generalize (t.From == t.To)=c
 generalize (t.Low == (-1000000000000:Int))=d
 generalize (t.High == (1000000000000:Int))=e
 generalize decide (-1000000000<=t.Low/\t.Low<=1000000000)=f
 generalize decide (-1000000000<=t.High/\t.High<=1000000000)=g
 generalize decide (t.Low<=t.High)=h
 cases a <;> cases b <;> cases c <;> cases d <;> cases e <;> cases f <;> cases g <;> cases h <;> rfl
structure TieOk (t : Tie) (nodes : Int) : Prop where
  f0:0<=t.From
  f1:t.From < nodes
  t0:0<=t.To
  t1:t.To < nodes
  ne:t.From ≠ t.To
  lo:t.Low = -1000000000000\/(-1000000000<=t.Low/\t.Low<=1000000000)
  hi:t.High=1000000000000\/(-1000000000<=t.High/\t.High<=1000000000)
  le:t.Low<=t.High
theorem zAf (t:Tie) (nodes:Int) (h1:1<=nodes) (h2:nodes<=40):s78 t nodes=true↔TieOk t nodes:=by
 have e:s78 t nodes=(decide (0<=t.From/\t.From < nodes) && (decide (0<=t.To/\t.To < nodes) && (!(t.From == t.To) && (((t.Low == (-1000000000000:Int)) || decide (-1000000000<=t.Low/\t.Low<=1000000000)) && (((t.High == (1000000000000:Int)) || decide (-1000000000<=t.High/\t.High<=1000000000)) && decide (t.Low<=t.High)))))):=by
  unfold s78 zkr zkq
  rw[zdL (x:=nodes - 1) (by omega) (by omega)]
  simp only[zlW]
  rw[decide_eq_decide.2 (show (0<=t.From/\t.From<=nodes - 1)↔(0<=t.From/\t.From < nodes) by omega),decide_eq_decide.2 (show (0<=t.To/\t.To<=nodes - 1)↔(0<=t.To/\t.To < nodes) by omega)]
  simp only[bne]
  generalize decide (0<=t.From/\t.From < nodes)=a
  generalize decide (0<=t.To/\t.To < nodes)=b
  generalize (t.From == t.To)=c
  generalize (t.Low == (-1000000000000:Int))=d
  generalize (t.High == (1000000000000:Int))=e
  generalize decide (-1000000000<=t.Low/\t.Low<=1000000000)=f
  generalize decide (-1000000000<=t.High/\t.High<=1000000000)=g
  generalize decide (t.Low<=t.High)=h
  cases a <;> cases b <;> cases c <;> cases d <;> cases e <;> cases f <;> cases g <;> cases h <;> rfl
 rw[e]
 simp only[dqm,Bool.or_eq_true,decide_eq_true_eq,Bool.not_eq_true',dqU,beq_iff_eq]
 constructor
 ·rintro⟨⟨a,b⟩,⟨c,d⟩,e,f,g,h⟩;exact⟨a,b,c,d,e,f,g,h⟩
 ·rintro⟨a,b,c,d,e,f,g,h⟩;exact⟨⟨a,b⟩,⟨c,d⟩,e,f,g,h⟩
structure NetOk (n : Net) : Prop where
  n1:1<=n.Nodes
  n40:n.Nodes<=40
  len:n.Ties.len<=200
  tie:∀ i,i < n.Ties.len->TieOk (n.Ties.get i) n.Nodes
theorem zAg (n:Net) (hn:n.Ties.len<=9223372036854775807):p67 n=true/\(s67 n=true↔NetOk n):=by
 obtain⟨h1,h2⟩:=zAe n hn
 refine⟨h1,h2.trans ?_⟩
 constructor
 ·rintro⟨a,⟨b,c⟩,d⟩;exact⟨b,c,by omega,λ i hi=>(zAf _ _ b c).1 (a i hi)⟩
 ·rintro⟨b,c,d,a⟩;exact⟨λ i hi=>(zAf _ _ b c).2 (a i hi),⟨b,c⟩,by omega⟩
theorem zKH (n:Net) (hn:n.Ties.len<=9223372036854775807):p23 n=true/\s23 n=s67 n:=by
  have hl := zfJ (good := fun i => s36 n.Nodes (n.Ties.get i)) (fin := true) (n := n.Ties.len) (lpS := zgZ n) (lpP := zim n)
    (λ k i hi=>by
      show zik n (zgZ n k) (i:Int)=_
      generalize zgZ n k=S
      unfold zik zqc
      rw[dqT (show (i:Int) < (n.Ties.len:Int) by omega),dqA,dqN]
      cases s36 n.Nodes (n.Ties.get i) <;> rfl)
    (λ k=>by
      show zik n (zgZ n k) (n.Ties.len:Int)=_
      unfold zik
      rw[dqF (show ¬ (n.Ties.len:Int) < (n.Ties.len:Int) by omega),dqB])
    (λ k i hi=>by
      show zil n (zim n k) (i:Int)=_
      generalize zim n k=S
      unfold zil zqd
      rw[dqT (show (i:Int) < (n.Ties.len:Int) by omega),dqA,dqN,dqT (show 0<=(i:Int)/\(i:Int) < (n.Ties.len:Int) by omega),Bool.true_and]
      cases s36 n.Nodes (n.Ties.get i) <;> rfl)
    (λ k=>by
      show zil n (zim n k) (n.Ties.len:Int)=_
      unfold zil
      rw[dqF (show ¬ (n.Ties.len:Int) < (n.Ties.len:Int) by omega),dqB])
    hn
  obtain⟨h1,h2⟩:=zAe n hn
  unfold p23 s23 zmW zmV zqh zqg zqf zqe
  rw[hl.1,zsU,dgt]
  refine⟨by cases decide (1<=n.Nodes/\n.Nodes<=40) <;> cases decide ((n.Ties.len:Int)<=200) <;> rfl,?_⟩
  have h3:=hl.2
  have h4:zgZ n Fuel 0=true↔∀ i,i < n.Ties.len->s78 (n.Ties.get i) n.Nodes=true:=h3.trans ⟨λ h i hi=>by rw[<- zDl];exact h.1 i hi,λ h=>⟨λ i hi=>by rw[zDl];exact h i hi,rfl⟩⟩
  rw[Bool.eq_iff_iff,h2]
  by_cases a:1<=n.Nodes/\n.Nodes<=40
  · rw [dqT a]
    by_cases b:(n.Ties.len:Int)<=200
    · rw[dqT b];exact h4.trans ⟨λ h=>⟨h,a,by omega⟩,λ h=>h.1⟩
    · rw[dqF b];exact⟨λ h=>absurd h dqk,λ h=>absurd h.2.2 (by omega)⟩
  · rw[dqF a];exact⟨λ h=>absurd h dqk,λ h=>absurd h.2.1 a⟩
structure ValOk (n : Net) (v : Sl Int) : Prop where
  len:(v.len:Int)=n.Nodes
  zero:v.get 0=0
  b:∀ i,i < v.len->-1000000000000<=v.get i/\v.get i<=1000000000000
def Keep (t:Tie) (v:Sl Int):Prop:=(t.Low = -1000000000000\/t.Low<=v.get t.To.toNat - v.get t.From.toNat)/\(t.High=1000000000000\/v.get t.To.toNat - v.get t.From.toNat<=t.High)
structure AgOk (n : Net) (v : Sl Int) : Prop where
  val:ValOk n v
  keep:∀ i,i < n.Ties.len->Keep (n.Ties.get i) v
theorem zHy (n:Net) (h1:1<=n.Nodes) (v:Sl Int) (hv:v.len<=9223372036854775807):p80 n v=true/\(s80 n v=true↔ValOk n v):=by
  have hl := zfJ (good := fun i => s72 (v.get i) (-1000000000000:Int) (1000000000000:Int)) (fin := true) (n := v.len) (lpS := zg0 v) (lpP := ziq v)
    (λ k i hi=>by
      show zin v (zg0 v k) (i:Int)=_
      generalize zg0 v k=S
      unfold zin zqi
      rw[dqT (show (i:Int) < (v.len:Int) by omega),dqA,dqN]
      cases s72 (v.get i) (-1000000000000:Int) (1000000000000:Int) <;> rfl)
    (λ k=>by
      show zin v (zg0 v k) (v.len:Int)=_
      unfold zin
      rw[dqF (show ¬ (v.len:Int) < (v.len:Int) by omega),dqB])
    (λ k i hi=>by
      show zio v (ziq v k) (i:Int)=_
      generalize ziq v k=S
      unfold zio zqj
      rw[dqT (show (i:Int) < (v.len:Int) by omega),dqA,dqN,dqT (show 0<=(i:Int)/\(i:Int) < (v.len:Int) by omega),Bool.true_and]
      cases s72 (v.get i) (-1000000000000:Int) (1000000000000:Int) <;> rfl)
    (λ k=>by
      show zio v (ziq v k) (v.len:Int)=_
      unfold zio
      rw[dqF (show ¬ (v.len:Int) < (v.len:Int) by omega),dqB])
    hv
  have h3:zg0 v Fuel 0=true↔∀ i,i < v.len->-1000000000000<=v.get i/\v.get i<=1000000000000:=hl.2.trans ⟨λ h i hi=>by have:=h.1 i hi;rw[zsU] at this;exact of_decide_eq_true this,λ h=>⟨λ i hi=>by rw[zsU];exact dqT (h i hi),rfl⟩⟩
  unfold p80 s80 zqn zqm zql zqk
  rw[hl.1]
  by_cases a:(v.len:Int)=n.Nodes
  · rw [show ((v.len : Int) != n.Nodes) = false by rw [a]; exact bne_self_eq_false _, dqB, dqB]
    by_cases b:v.get 0=0
    · rw [show (v.get 0 != (0:Int)) = false by rw [b]; rfl, dqB, dqB]
      exact⟨by rw[dqT (show 0<=(0:Int)/\(0:Int) < (v.len:Int) by omega)];rfl,h3.trans ⟨λ h=>⟨a,b,h⟩,λ h=>h.b⟩⟩
    · rw [show (v.get 0 != (0:Int)) = true from bne_iff_ne.2 b, dqA, dqA]
      exact⟨by rw[dqT (show 0<=(0:Int)/\(0:Int) < (v.len:Int) by omega)];rfl,λ h=>absurd h dqk,λ h=>absurd h.zero b⟩
  · rw [show ((v.len : Int) != n.Nodes) = true from bne_iff_ne.2 a, dqA, dqA]
    exact⟨rfl,λ h=>absurd h dqk,λ h=>absurd h.len a⟩
theorem zk6 (t:Tie) (n:Net) (v:Sl Int) (ht:TieOk t n.Nodes) (hv:ValOk n v):p39 t v=true/\(s39 t v=true↔Keep t v):=by
 have h1:=hv.b t.To.toNat (by have:=ht.t0;have:=ht.t1;have:=hv.len;omega)
 have h2:=hv.b t.From.toNat (by have:=ht.f0;have:=ht.f1;have:=hv.len;omega)
 have:=ht.f0;have:=ht.f1;have:=ht.t0;have:=ht.t1;have:=hv.len
 constructor
 ·unfold p39
  rw[dqT (show 0<=t.To/\t.To < (v.len:Int) by omega),dqT (show 0<=t.From/\t.From < (v.len:Int) by omega)];rfl
 ·unfold s39 Keep
  rw[zdL (by omega) (by omega)]
  by_cases a:t.Low = -1000000000000
  ·rw [show (t.Low == (-1000000000000:Int)) = true from beq_iff_eq.2 a, dqA]
   by_cases b:t.High=1000000000000
   ·rw[show (t.High == (1000000000000:Int))=true from beq_iff_eq.2 b,dqA];exact⟨λ _=>⟨.inl a,.inl b⟩,λ _=>rfl⟩
   ·rw[show (t.High == (1000000000000:Int))=false from dqU.2 b,dqB,decide_eq_true_eq];exact⟨λ h=>⟨.inl a,.inr h⟩,λ h=>h.2.resolve_left b⟩
  ·rw [show (t.Low == (-1000000000000:Int)) = false from dqU.2 a, dqB]
   by_cases c:t.Low<=v.get t.To.toNat - v.get t.From.toNat
   ·rw [dqT (show v.get t.To.toNat - v.get t.From.toNat ≥ t.Low from c), dqA]
    by_cases b:t.High=1000000000000
    ·rw[show (t.High == (1000000000000:Int))=true from beq_iff_eq.2 b,dqA];exact⟨λ _=>⟨.inr c,.inl b⟩,λ _=>rfl⟩
    ·rw[show (t.High == (1000000000000:Int))=false from dqU.2 b,dqB,decide_eq_true_eq];exact⟨λ h=>⟨.inr c,.inr h⟩,λ h=>h.2.resolve_left b⟩
   ·rw [dqF (show ¬ v.get t.To.toNat - v.get t.From.toNat ≥ t.Low from c), dqB]
    exact⟨λ h=>absurd h dqk,λ h=>absurd (h.1.resolve_left a) c⟩
theorem zHz (n:Net) (v:Sl Int) (hn:NetOk n) (hv:v.len<=9223372036854775807):p38 n v=true/\(s38 n v=true↔AgOk n v):=by
  obtain⟨h1,h2⟩:=zHy n hn.n1 v hv
  unfold p38 s38
  rw[h1]
  by_cases hV:s80 n v=true
  · have hV' := h2.1 hV
    have hlen:=hn.len
    have hl := zfJ (good := fun i => s39 (n.Ties.get i) v) (fin := true) (n := n.Ties.len) (lpS := zit n v) (lpP := ziu n v)
      (λ k i hi=>by
        show zir n v (zit n v k) (i:Int)=_
        generalize zit n v k=S
        unfold zir zqp
        rw[dqT (show (i:Int) < (n.Ties.len:Int) by omega),dqA,dqN]
        cases s39 (n.Ties.get i) v <;> rfl)
      (λ k=>by
        show zir n v (zit n v k) (n.Ties.len:Int)=_
        unfold zir
        rw[dqF (show ¬ (n.Ties.len:Int) < (n.Ties.len:Int) by omega),dqB])
      (λ k i hi=>by
        show zis n v (ziu n v k) (i:Int)=_
        generalize ziu n v k=S
        unfold zis zqq
        rw[dqT (show (i:Int) < (n.Ties.len:Int) by omega),dqA,dqN,dqT (show 0<=(i:Int)/\(i:Int) < (n.Ties.len:Int) by omega),Bool.true_and,dqT (zk6 _ n v (hn.tie i hi) hV').1,Bool.true_and]
        cases s39 (n.Ties.get i) v <;> rfl)
      (λ k=>by
        show zis n v (ziu n v k) (n.Ties.len:Int)=_
        unfold zis
        rw[dqF (show ¬ (n.Ties.len:Int) < (n.Ties.len:Int) by omega),dqB])
      (by omega)
    rw[hV]
    unfold zqx zqw zqv zqu zqs zqr
    refine⟨by rw[hl.1];rfl,Iff.trans (Iff.trans (by rfl) hl.2) ?_⟩
    exact⟨λ h=>⟨hV',λ i hi=>(zk6 _ n v (hn.tie i hi) hV').2.1 (h.1 i hi)⟩,λ h=>⟨λ i hi=>(zk6 _ n v (hn.tie i hi) hV').2.2 (h.keep i hi),rfl⟩⟩
  · have hV0 : s80 n v = false := Bool.eq_false_iff.2 hV
    rw[hV0]
    exact⟨rfl,λ h=>absurd h dqk,λ h=>absurd (h2.2 h.val) hV⟩
theorem zHA (n:Net) (v:Sl Int) (hn:NetOk n) (hg:s67 n=true) (hv:v.len<=9223372036854775807):p48 n v=true/\(s48 n v=true↔AgOk n v):=by
  have hlen:=hn.len
  have h1:=hn.n1
  unfold p48 s48
  rw[hg,(zAe n (by omega)).1]
  by_cases a:(v.len:Int)=n.Nodes
  · rw [show ((v.len : Int) != n.Nodes) = false by rw [a]; exact bne_self_eq_false _]
    by_cases b:v.get 0=0
    · rw [show (v.get 0 != (0:Int)) = false by rw [b]; rfl, dqT (show 0 ≤ (0:Int) ∧ (0:Int) < (v.len : Int) by omega)]
      have key:(∀ i,i < v.len->-1000000000000<=v.get i/\v.get i<=1000000000000)->zmX n v=true/\(zkL n v=true↔∀ i,i < n.Ties.len->Keep (n.Ties.get i) v):=λ hb=>by
        have hV:ValOk n v:=⟨a,b,hb⟩
        have hl := zfJ (good := fun i => s39 (n.Ties.get i) v) (fin := true) (n := n.Ties.len) (lpS := ziB n v) (lpP := ziC n v)
          (λ k i hi=>by
            show ziz n v (ziB n v k) (i:Int)=_
            generalize ziB n v k=S
            unfold ziz s39
            rw[dqT (show (i:Int) < (n.Ties.len:Int) by omega),dqA,dqN]
            simp only[bne,dlt,dgt];cases (n.Ties.get i).Low == (-1000000000000:Int) <;> cases (n.Ties.get i).High == (1000000000000:Int) <;> cases decide (w64 (v.get (n.Ties.get i).To.toNat - v.get (n.Ties.get i).From.toNat) >= (n.Ties.get i).Low) <;> cases decide (w64 (v.get (n.Ties.get i).To.toNat - v.get (n.Ties.get i).From.toNat)<=(n.Ties.get i).High) <;> rfl)
          (λ k=>by
            show ziz n v (ziB n v k) (n.Ties.len:Int)=_
            unfold ziz
            rw[dqF (show ¬ (n.Ties.len:Int) < (n.Ties.len:Int) by omega),dqB])
          (λ k i hi=>by
            show ziA n v (ziC n v k) (i:Int)=_
            generalize ziC n v k=S
            unfold ziA s39
            rw[dqT (show (i:Int) < (n.Ties.len:Int) by omega),dqA,dqN,dqT (show 0<=(i:Int)/\(i:Int) < (n.Ties.len:Int) by omega),Bool.true_and,dqT (show 0<=(n.Ties.get i).To/\(n.Ties.get i).To < (v.len:Int) from ⟨(hn.tie i hi).t0,by rw[a];exact (hn.tie i hi).t1⟩),dqT (show 0<=(n.Ties.get i).From/\(n.Ties.get i).From < (v.len:Int) from ⟨(hn.tie i hi).f0,by rw[a];exact (hn.tie i hi).f1⟩),Bool.true_and,Bool.true_and]
            simp only[bne,dlt,dgt];cases (n.Ties.get i).Low == (-1000000000000:Int) <;> cases (n.Ties.get i).High == (1000000000000:Int) <;> cases decide (w64 (v.get (n.Ties.get i).To.toNat - v.get (n.Ties.get i).From.toNat) >= (n.Ties.get i).Low) <;> cases decide (w64 (v.get (n.Ties.get i).To.toNat - v.get (n.Ties.get i).From.toNat)<=(n.Ties.get i).High) <;> rfl)
          (λ k=>by
            show ziA n v (ziC n v k) (n.Ties.len:Int)=_
            unfold ziA
            rw[dqF (show ¬ (n.Ties.len:Int) < (n.Ties.len:Int) by omega),dqB])
          (by omega)
        exact⟨hl.1,hl.2.trans ⟨λ h i hi=>(zk6 _ n v (hn.tie i hi) hV).2.1 (h.1 i hi),λ h=>⟨λ i hi=>(zk6 _ n v (hn.tie i hi) hV).2.2 (h i hi),rfl⟩⟩⟩
      by_cases hb:∀ i,i < v.len->-1000000000000<=v.get i/\v.get i<=1000000000000
      · obtain ⟨k1, k2⟩ := key hb
        have hl := zfJ (good := fun i => s81 (v.get i) (-1000000000000:Int) (1000000000000:Int)) (fin := zkL n v) (n := v.len) (lpS := ze5 n v) (lpP := ze6 n v)
          (λ k i hi=>by
            show ze3 n v (ze5 n v k) (i:Int)=_
            generalize ze5 n v k=S
            unfold ze3 zmY
            rw[dqT (show (i:Int) < (v.len:Int) by omega),dqA,dqN]
            cases s81 (v.get i) (-1000000000000:Int) (1000000000000:Int) <;> rfl)
          (λ k=>by
            show ze3 n v (ze5 n v k) (v.len:Int)=_
            unfold ze3
            rw[dqF (show ¬ (v.len:Int) < (v.len:Int) by omega),dqB])
          (λ k i hi=>by
            show ze4 n v (ze6 n v k) (i:Int)=_
            generalize ze6 n v k=S
            unfold ze4 zmZ
            rw[dqT (show (i:Int) < (v.len:Int) by omega),dqA,dqN,dqT (show 0<=(i:Int)/\(i:Int) < (v.len:Int) by omega),Bool.true_and]
            cases s81 (v.get i) (-1000000000000:Int) (1000000000000:Int) <;> rfl)
          (λ k=>by
            show ze4 n v (ze6 n v k) (v.len:Int)=_
            unfold ze4
            rw[dqF (show ¬ (v.len:Int) < (v.len:Int) by omega),dqB];exact k1)
          hv
        refine⟨by unfold ziE zm3 zm1;rw[hl.1];rfl,?_⟩
        unfold ziD zm2 zm0
        refine Iff.trans (Iff.trans (by rfl) hl.2) ?_
        rw[k2]
        exact⟨λ h=>⟨⟨a,b,hb⟩,h.2⟩,λ h=>⟨λ i hi=>by rw[zlW];exact dqT (hb i hi),h.keep⟩⟩
      · have hb' : ¬ ∀ i, i < v.len → s81 (v.get i) (-1000000000000:Int) (1000000000000:Int) = true := fun h => hb fun i hi => by have := h i hi; rw [zlW] at this; exact of_decide_eq_true this
        have hl := zHx (good := fun i => s81 (v.get i) (-1000000000000:Int) (1000000000000:Int)) (bad := false) (fin := zkL n v) (zHW := zmX n v) (n := v.len) (lpS := ze5 n v) (lpP := ze6 n v)
          (λ k i hi=>by
            show ze3 n v (ze5 n v k) (i:Int)=_
            generalize ze5 n v k=S
            unfold ze3 zmY
            rw[dqT (show (i:Int) < (v.len:Int) by omega),dqA,dqN]
            cases s81 (v.get i) (-1000000000000:Int) (1000000000000:Int) <;> rfl)
          (λ k=>by
            show ze3 n v (ze5 n v k) (v.len:Int)=_
            unfold ze3
            rw[dqF (show ¬ (v.len:Int) < (v.len:Int) by omega),dqB])
          (λ k i hi=>by
            show ze4 n v (ze6 n v k) (i:Int)=_
            generalize ze6 n v k=S
            unfold ze4 zmZ
            rw[dqT (show (i:Int) < (v.len:Int) by omega),dqA,dqN,dqT (show 0<=(i:Int)/\(i:Int) < (v.len:Int) by omega),Bool.true_and]
            cases s81 (v.get i) (-1000000000000:Int) (1000000000000:Int) <;> rfl)
          (λ k=>by
            show ze4 n v (ze6 n v k) (v.len:Int)=_
            unfold ze4
            rw[dqF (show ¬ (v.len:Int) < (v.len:Int) by omega),dqB])
          hv
        obtain⟨k1,k2⟩:=hl.2 hb'
        refine⟨by unfold ziE zm3 zm1;rw[k1];rfl,?_⟩
        unfold ziD zm2 zm0
        rw[k2]
        exact⟨λ h=>absurd h dqk,λ h=>absurd h.val.b hb⟩
    · rw [show (v.get 0 != (0:Int)) = true from bne_iff_ne.2 b, dqT (show 0 ≤ (0:Int) ∧ (0:Int) < (v.len : Int) by omega)]
      exact⟨rfl,λ h=>absurd h dqk,λ h=>absurd h.val.zero b⟩
  · rw [show ((v.len : Int) != n.Nodes) = true from bne_iff_ne.2 a]
    exact⟨rfl,λ h=>absurd h dqk,λ h=>absurd h.val.len a⟩
theorem zAh {n:Net}{t:Int}(h:s20 n t=true) (ht:t<=210):n.Ties.len<=210:=by
 unfold s20 at h
 by_cases h1:(n.Ties.len:Int)<=t
 ·omega
 ·by_cases h2 : (n.Ties.len : Int) ≤ 210
  ·omega
  ·rw [dqF h1, dqF h2] at h
   exact absurd h (by cases decide (n.Nodes<=7) <;> cases decide (n.Nodes > 40) <;> cases decide ((n.Ties.len:Int) > 200) <;> decide)
end Go.Proofs
namespace Go.Pm
structure Ed where
  u:Nat
  v:Nat
  w:Int
def wt : List Ed → Int
  | []=>0
  | e :: l=>e.w+wt l
def zLa (E : List Ed) : Nat → List Ed → Nat → Prop
  | a,[],b=>a=b
  | a,e :: l,b=>e∈E/\e.u=a/\zLa E e.v l b
abbrev zi3:=Nat->Option Int
def zME (d:zi3) (v:Nat) (x:Int):zi3:=λ j=>if j=v then some x else d j
def ltO (x : Int) : Option Int → Bool
  | none=>true
  | some y=>decide (x < y)
def rlF (s:zi3×Bool) (e:Ed):zi3×Bool :=
 match s.1 e.u with
 | none=>s
 | some x=>cond (ltO (x+e.w) (s.1 e.v)) (zME s.1 e.v (x+e.w),true) s
def leO (a b:Option Int):Prop:=∀ y,b=some y->∃ x,a=some x/\x<=y
def rnd (E:List Ed) (d:zi3):zi3:=(E.foldl rlF (d,false)).1
def rds (E : List Ed) : Nat → zi3 → zi3
  | 0,d=>d
  | k+1,d=>rds E k (rnd E d)
def nodes (a:Nat) (c:List Ed):List Nat:=a :: c.map Ed.v
structure Att (E : List Ed) (Src : Nat → Prop) (d : zi3) (v : Nat) (x : Int) (a : Nat) (c : List Ed) : Prop where
  src:Src a
  ch:zLa E a c v
  wt:x=wt c
  nd:(nodes a c).Nodup
  pre:∀ c1 c2 m,c=c1 ++ c2->zLa E a c1 m->leO (d m) (some (Go.Pm.wt c1))
structure Start (Src : Nat → Prop) (d : zi3) : Prop where
  only:∀ v x,d v=Option.some x->Src v/\x=0
  src:∀ v,Src v->d v=Option.some 0
end Go.Pm
namespace Go.Pm
def edM (e:Ed):Ed:=⟨e.u,e.v,e.w * 1048576+1⟩
def zOp : Option Int → Int × Int
  | none=>((1000000000000:Int),(0:Int))
  | some x=>(x / 1048576,x % 1048576)
def zLb (s:Nat):zi3:=λ v=>if v=s then some 0 else none
structure EdOk (E : List Ed) (n : Nat) : Prop where
  lt:∀ e∈E,e.u < n/\e.v < n
  w:∀ e∈E,-1000000000<=e.w/\e.w<=1000000000
  n1:1<=n
  n40:n<=40
structure Ent (E : List Ed) (n s v : Nat) (x L U : Int) (c : List Ed) : Prop where
  ch:zLa E s c v
  x:x=L * 1048576+U
  L:L=wt c
  U:U=c.length
  len:c.length < n
def dst (E:List Ed) (n s:Nat):zi3:=rds (E.map edM) (n - 1) (zLb s)
def zOq (o:Option Int):Int:=(zOp o).1
end Go.Pm
namespace Go.Pm
end Go.Pm
namespace Go.Proofs
open Go Go.Pm
set_option maxRecDepth 100000
set_option linter.unusedVariables false
theorem zKI {n:Nat}{F:Tab}{k:Nat}(hk:k < n):tg n F k=F k:=by
 unfold tg zll
 have h:(zm (zhj 0 n F))[k]? = some (.p (.int .i64 (F k))):=by
  rw[zm,dqH,zgs n 0 F k hk,Nat.zero_add];rfl
 rw[h]
def fwS (t:Tie) (i:Nat):step:=⟨⟨(i:Int),false⟩,t.From,t.To,t.High⟩
def bwS (t:Tie) (i:Nat):step:=⟨⟨(i:Int),true⟩,t.To,t.From,w64 (0 - t.Low)⟩
def zLc (a:web) (i:Nat):Bool:=(zdU (a.out.F [(i:Int)]) 0) != 0
def stK (a:web) (i:Nat):List step :=
 cond (zLc a i) [] ((cond ((a.Net.Ties.get i).High != (1000000000000:Int)) [fwS (a.Net.Ties.get i) i] []) ++ (cond ((a.Net.Ties.get i).Low != (-1000000000000:Int)) [bwS (a.Net.Ties.get i) i] []))
def stL (a : web) : Nat → Nat → List step
  | 0,_=>[]
  | m+1,i=>stK a i ++ stL a m (i+1)
theorem zHB (a:web) (hn:a.Net.Ties.len<=9223372036854775807):ztP a=true/\zks a=stL a a.Net.Ties.len 0:=by
 have key:∀ (m k i:Nat),i+m=a.Net.Ties.len->m < k->zeN a k (i:Int)=true/\zeM a k (i:Int)=stL a m i:=by
  intro m
  induction m with
  | zero =>
   intro k i hi hk
   obtain⟨k,rfl⟩:∃ k',k=k'+1:=⟨k - 1,by omega⟩
   constructor
   ·show zfF a (zeN a k) (i : Int) = true
    unfold zfF
    rw[dqF (show ¬ (i:Int) < (a.Net.Ties.len:Int) by omega),dqB]
   ·show zfE a (zeM a k) (i : Int) = []
    unfold zfE
    rw[dqF (show ¬ (i:Int) < (a.Net.Ties.len:Int) by omega),dqB]
  | succ m ih =>
   intro k i hi hk
   obtain⟨k,rfl⟩:∃ k',k=k'+1:=⟨k - 1,by omega⟩
   obtain⟨h1,h2⟩:=ih k (i+1) (by omega) (by omega)
   constructor
   ·show zfF a (zeN a k) (i : Int) = true
    unfold zfF
    rw[dqT (show (i:Int) < (a.Net.Ties.len:Int) by omega),dqA,dqT (show 0<=(i:Int)/\(i:Int) < (a.Net.Ties.len:Int) by omega),Bool.true_and,zjo (n:=a.Net.Ties.len) (by omega) hn,h1]
    generalize (zdU (a.out.F [(i:Int)]) 0 != 0)=b1
    generalize (s94 (⟨(a.Net.Ties.get ((i:Int)).toNat),(i:Int)⟩:tie)).2=b2
    generalize (s95 (⟨(a.Net.Ties.get ((i:Int)).toNat),(i:Int)⟩:tie)).2=b3
    cases b1 <;> cases b2 <;> cases b3 <;> rfl
   ·show zfE a (zeM a k) (i : Int) = stK a i ++ stL a m (i + 1)
    unfold zfE
    rw[dqT (show (i:Int) < (a.Net.Ties.len:Int) by omega),dqA,dqN,zjo (n:=a.Net.Ties.len) (by omega) hn,h2]
    unfold stK zLc s94 s95
    generalize (zdU (a.out.F [(i:Int)]) 0 != 0)=b1
    show cond b1 _ (cond ((a.Net.Ties.get i).High != (1000000000000:Int)) (_ :: cond ((a.Net.Ties.get i).Low != (-1000000000000:Int)) (_ :: _) _) (cond ((a.Net.Ties.get i).Low != (-1000000000000:Int)) (_ :: _) _))=_
    generalize ((a.Net.Ties.get i).High != (1000000000000:Int))=b2
    generalize ((a.Net.Ties.get i).Low != (-1000000000000:Int))=b3
    cases b1 <;> cases b2 <;> cases b3 <;> rfl
 exact key a.Net.Ties.len Fuel 0 (by omega) (by simp only[Fuel];omega)
theorem zHC {a:web}{y:step} : ∀ {m i:Nat},y∈stL a m i↔∃ j,i<=j/\j < i+m/\y∈stK a j:=by
 intro m
 induction m with
 | zero=>intro i;exact⟨λ h=>(by cases h),λ ⟨j,h1,h2,_⟩=>(by omega)⟩
 | succ m ih =>
  intro i
  show y∈stK a i ++ stL a m (i+1)↔_
  rw[dqg,ih]
  constructor
  ·rintro (h | ⟨j, h1, h2, h3⟩)
   ·exact⟨i,dqt _,by omega,h⟩
   ·exact⟨j,by omega,by omega,h3⟩
  ·rintro ⟨j, h1, h2, h3⟩
   by_cases h:j=i
   ·subst h;exact .inl h3
   ·exact .inr ⟨j,by omega,by omega,h3⟩
theorem zHD {a:web}{y:step}{j:Nat} : y∈stK a j↔zLc a j=false/\(((a.Net.Ties.get j).High ≠ 1000000000000/\y=fwS (a.Net.Ties.get j) j)\/((a.Net.Ties.get j).Low ≠ -1000000000000/\y=bwS (a.Net.Ties.get j) j)):=by
 unfold stK
 cases h:zLc a j
 ·rw [dqB, dqg]
  by_cases h1:(a.Net.Ties.get j).High=1000000000000
  ·rw [show ((a.Net.Ties.get j).High != (1000000000000:Int)) = false by rw [h1]; rfl, dqB]
   by_cases h2:(a.Net.Ties.get j).Low = -1000000000000
   ·rw [show ((a.Net.Ties.get j).Low != (-1000000000000:Int)) = false by rw [h2]; rfl, dqB]
    simp[h1,h2]
   ·rw [bne_iff_ne.2 h2, dqA]
    simp[h1,h2]
  ·rw [bne_iff_ne.2 h1, dqA]
   by_cases h2:(a.Net.Ties.get j).Low = -1000000000000
   ·rw [show ((a.Net.Ties.get j).Low != (-1000000000000:Int)) = false by rw [h2]; rfl, dqB]
    simp[h1,h2]
   ·rw [bne_iff_ne.2 h2, dqA]
    simp[h1,h2]
 ·rw[dqA];simp
def edS (y:step):Ed:=⟨y.from_.toNat,y.to.toNat,y.length⟩
structure StOk (y : step) (N : Nat) : Prop where
  f0:0<=y.from_
  f1:y.from_ < N
  t0:0<=y.to
  t1:y.to < N
  l0 : -1000000000<=y.length
  l1:y.length<=1000000000
abbrev Ws (a:web):List step:=stL a a.Net.Ties.len 0
def We (a:web):List Ed:=(Ws a).map edS
theorem zKJ {t:Tie}{N:Int}(h:TieOk t N) (h':t.Low ≠ -1000000000000):w64 (0 - t.Low) = -t.Low:=by
 have:=h.lo.resolve_left h'
 rw[zdL (by omega) (by omega)];omega
theorem zMF {a:web}(hn:NetOk a.Net){y:step}(hy:y∈Ws a):StOk y a.Net.Nodes.toNat:=by
 obtain⟨j,_,h2,h3⟩:=zHC.1 hy
 have h:=hn.tie j (by omega)
 have:=h.f0;have:=h.f1;have:=h.t0;have:=h.t1
 rcases (zHD.1 h3).2 with ⟨h4,rfl⟩ | ⟨h4,rfl⟩
 ·have := h.hi.resolve_left h4
  exact⟨h.f0,by show (a.Net.Ties.get j).From < _;omega,h.t0,by show (a.Net.Ties.get j).To < _;omega,this.1,this.2⟩
 ·have := h.lo.resolve_left h4
  have e:=zKJ h h4
  exact⟨h.t0,by show (a.Net.Ties.get j).To < _;omega,h.f0,by show (a.Net.Ties.get j).From < _;omega,by show _<=w64 (0 - (a.Net.Ties.get j).Low);omega,by show w64 (0 - (a.Net.Ties.get j).Low)<=_;omega⟩
end Go.Proofs
namespace Go.Proofs
open Go Go.Pm
set_option maxRecDepth 100000
set_option linter.unusedVariables false
end Go.Proofs
namespace Go.Proofs
open Go Go.Pm
set_option maxRecDepth 100000
set_option linter.unusedVariables false
def nv (x y:Int):Bool:=match (x == (1000000000000:Int)) with | true=>(match (y == (0:Int)) with | true=>true | false=>false) | false=>false
theorem zB1 (x y:Int):nv x y=decide ((x,y)=((1000000000000:Int),(0:Int))):=by
 unfold nv
 by_cases h1:x=1000000000000
 ·rw [show (x == (1000000000000:Int)) = true from beq_iff_eq.2 h1]
  by_cases h2:y=0
  ·rw[show (y == (0:Int))=true from beq_iff_eq.2 h2];exact (dqT (by rw[h1,h2])).symm
  ·rw[show (y == (0:Int))=false from dqU.2 h2];exact (dqF (λ h=>h2 (Prod.mk.inj h).2)).symm
 ·rw [show (x == (1000000000000:Int)) = false from dqU.2 h1]
  exact (dqF (λ h=>h1 (Prod.mk.inj h).1)).symm
end Go.Proofs
namespace Go.Proofs
open Go Go.Pm
set_option maxRecDepth 100000
set_option linter.unusedVariables false
end Go.Proofs
namespace Go.Proofs
open Go Go.Pm
set_option maxRecDepth 100000
set_option linter.unusedVariables false
def edQ (y:step):Ed:=⟨y.to.toNat,y.from_.toNat,y.length⟩
end Go.Proofs
namespace Go.Proofs
open Go Go.Pm
set_option maxRecDepth 100000
set_option linter.unusedVariables false
attribute [local irreducible] Go.Pm.vcFun Go.Pm.vc Go.Pm.vcIter
end Go.Proofs
namespace Go.Proofs
open Go Go.Pm
set_option maxRecDepth 100000
set_option linter.unusedVariables false
def W (n:Net):web:=⟨n,⟨0,λ _=>none⟩⟩
abbrev En (n:Net):List Ed:=We (W n)
def fr (n:Net) (i j:Nat):Int:=zOq (dst (En n) n.Nodes.toNat i j)
end Go.Proofs
namespace Go.Pm
def jr (o:zi3) (s:zi3×Bool) (e:Ed):zi3×Bool :=
 match o e.u with
 | none=>s
 | some x=>cond (ltO (x+e.w) (s.1 e.v)) (zME s.1 e.v (x+e.w),true) s
def zOr : Option Int → Int
  | none=>1000000000000
  | some x=>x
end Go.Pm
namespace Go.Pm
def zHE:zi3:=λ _=>none
def hop (F:List Ed) (o:zi3):zi3:=(F.foldl (jr o) (zHE,false)).1
def hops (F : List Ed) (s : Nat) : Nat → zi3
  | 0=>zLb s
  | k+1=>hop F (hops F s k)
theorem zKK {F:List Ed}{o:zi3}{v:Nat}{x:Int}(h:hop F o v=some x):∃ e∈F,e.v=v/\∃ y,o e.u=some y/\x=y+e.w:=by
 have key:∀ (l:List Ed) (s:zi3×Bool),(∀ e∈l,e∈F)->(∀ v x,s.1 v=some x->∃ e∈F,e.v=v/\∃ y,o e.u=some y/\x=y+e.w)->∀ v x,(l.foldl (jr o) s).1 v=some x->∃ e∈F,e.v=v/\∃ y,o e.u=some y/\x=y+e.w:=by
  intro l
  induction l with
  | nil=>intro s _ h;exact h
  | cons e l ih =>
   intro s hl h
   refine ih (jr o s e) (λ e he=>hl e (dqf _ he)) ?_
   intro v x hx
   unfold jr at hx
   cases hu:o e.u with
   | none=>simp only[hu] at hx;exact h v x hx
   | some y =>
    simp only[hu] at hx
    cases hlt:ltO (y+e.w) (s.1 e.v) with
    | false=>simp only[hlt,dqB] at hx;exact h v x hx
    | true =>
     simp only[hlt,dqA] at hx
     unfold zME at hx
     by_cases hv:v=e.v
     ·rw [dqP hv] at hx
      exact⟨e,hl e (dqj ..),hv.symm,y,hu,(Option.some.inj hx).symm⟩
     ·rw[dqG hv] at hx;exact h v x hx
 exact key F (zHE,false) (λ _ h=>h) (λ v x h=>by cases h) v x h
end Go.Pm
namespace Go.Proofs
open Go Go.Pm
set_option maxRecDepth 100000
set_option linter.unusedVariables false
def Rh (N:Nat) (T:Tab) (d:zi3) (B:Int):Prop:=∀ v,v < N->(T (v * 2)=zOr (d v)/\T (v * 2+1)=0)/\∀ x,d v=some x->-B<=x/\x<=B
def okY (node:Int) (y:step):Bool:=decide (node<=y.from_) && decide (node<=y.to)
def hF (w:web) (node:Int):List Ed:=((Ws w).filter (okY node)).map edQ
theorem zKL (x y:Int):nvr x y=decide ((x,y)=((1000000000000:Int),(0:Int))):=zB1 x y
theorem zKM {N:Nat}{T:Tab}{d:zi3}{B:Int}(h:Rh N T d B) (hB:B<=100000000000){v:Nat}(hv:v < N):nvr (T (v * 2)) (T (v * 2+1))=(d v).isNone:=by
 obtain⟨⟨h1,h2⟩,h3⟩:=h v hv
 rw[zKL,h1,h2]
 cases hd:d v with
 | none=>exact dqT rfl
 | some x =>
  have:=h3 x hd
  exact dqF (λ e=>by have:=(Prod.mk.inj e).1;have e':x=1000000000000:=this;omega)
structure Hm (w : web) (N : Nat) (node : Int) (U k : Nat) (v : Sl Tab) : Prop where
  len:v.len=U+1
  done:∀ j,j < k->j<=U->Rh N (v.get j) (hops (hF w node) node.toNat j) (j * 1000000000)
  rest:∀ j,k<=j->j<=U->Rh N (v.get j) zHE 0
theorem Rh.mono {N:Nat}{T:Tab}{d:zi3}{B B':Int}(h:Rh N T d B) (hb:B<=B'):Rh N T d B':=λ v hv=>⟨(h v hv).1,λ x hx=>by have:=(h v hv).2 x hx;omega⟩
end Go.Proofs
namespace Go.Proofs
open Go Go.Pm
set_option maxRecDepth 100000
set_option linter.unusedVariables false
attribute [local irreducible] Go.Pm.vcFun Go.Pm.vc Go.Pm.vcIter
end Go.Proofs
namespace Go.Proofs
open Go Go.Pm
set_option maxRecDepth 100000
set_option linter.unusedVariables false
theorem zHF {α:Type}(n:Nat) (g:Nat->α) (x:α) (j:Nat):zgB n g (λ _=>x) j=if n<=j then x else g j:=by
 unfold zgB
 by_cases h:n<=j
 ·rw[dqP h,show Nat.ble n j=true from Nat.ble_eq_true_of_le h]
 ·rw[dqG h,show Nat.ble n j=false from Bool.eq_false_iff.2 λ k=>h (Nat.le_of_ble_eq_true k)]
def turn (t:Tie):Tie:=⟨t.From,t.To,w64 (0 - t.High),w64 (0 - t.Low)⟩
structure IsTurn (n m : Net) : Prop where
  nodes:m.Nodes=n.Nodes
  len:m.Ties.len=n.Ties.len
  tie:∀ j,j < n.Ties.len->m.Ties.get j=turn (n.Ties.get j)
end Go.Proofs
namespace Go.Proofs
open Go Go.Pm
set_option maxRecDepth 100000
set_option linter.unusedVariables false
attribute [local irreducible] Go.Pm.vcFun Go.Pm.vc Go.Pm.vcIter
end Go.Proofs
namespace Go.Proofs
open Go Go.Pm
set_option maxRecDepth 100000
set_option linter.unusedVariables false
end Go.Proofs
namespace Go.Proofs
open Go Go.Pm
set_option maxRecDepth 100000
set_option linter.unusedVariables false
theorem zAi (v:Sl Int) (hv:v.len<=1000):zI5 v=true:=by
 have key:∀ (m k i:Nat),i+m=v.len->m < k->zhG v k (i:Int)=true:=by
  intro m
  induction m with
  | zero =>
   intro k i hi hk
   obtain⟨k,rfl⟩:∃ k',k=k'+1:=⟨k - 1,by omega⟩
   show zgw v (zhG v k) (i:Int)=true
   unfold zgw
   rw[dqF (show ¬ (i:Int) < (v.len:Int) by omega),dqB]
  | succ m ih =>
   intro k i hi hk
   obtain⟨k,rfl⟩:∃ k',k=k'+1:=⟨k - 1,by omega⟩
   show zgw v (zhG v k) (i:Int)=true
   unfold zgw
   rw[dqT (show (i:Int) < (v.len:Int) by omega),dqA,dqT (show 0<=(i:Int)/\(i:Int) < (v.len:Int) by omega),Bool.true_and,zjo (n:=v.len) (by omega) (by omega),ih k (i+1) (by omega) (by omega)]
   cases (v.get ((i:Int)).toNat != (0:Int)) <;> rfl
 exact key v.len Fuel 0 (by omega) (by simp only[Fuel];omega)
def IsS (v:Sl step) (L:List step):Prop:=v.len=L.length/\∀ q (h:q < L.length),v.get q=L[q]
theorem zHG {v:Sl step}{L:List step}(h:IsS v L) (y:step):IsS ⟨v.len+1,zgB v.len v.get (λ _=>y)⟩ (L ++ [y]):=by
 refine⟨by show v.len+1=_;rw[dqu,h.1];rfl,λ k hk=>?_⟩
 show zgB v.len v.get (λ _=>y) k=_
 rw[zHF]
 rw[dqu] at hk
 have h1:=h.1
 by_cases hv:v.len<=k
 ·rw [dqP hv]
  have:k=L.length:=by simp only[dqr,dqL] at hk;omega
  subst this
  simp
 ·rw [dqG hv, h.2 k (by omega)]
  rw[List.getElem_append_left (by omega)]
def ChS (S : List step) : Int → List step → Int → Prop
  | a,[],b=>a=b
  | a,y :: l,b=>y∈S/\y.from_=a/\ChS S y.to l b
theorem zHH {S:List step}{L:List step}{y:step} : ∀ {a b:Int},ChS S a L b->y∈S->y.from_=b->ChS S a (L ++ [y]) y.to:=by
 induction L with
 | nil=>intro a b h hy hf;exact⟨hy,hf.trans h.symm,rfl⟩
 | cons z l ih=>rintro a b ⟨h1,h2,h3⟩ hy hf;exact⟨h1,h2,ih h3 hy hf⟩
def wtS : List step → Int
  | []=>0
  | y :: l=>y.length+wtS l
theorem zHI (L:List step) (y:step):wtS (L ++ [y])=wtS L+y.length:=by
 induction L with
 | nil=>show y.length+0=0+y.length;omega
 | cons z l ih=>show z.length+wtS (l ++ [y])=z.length+wtS l+y.length;rw[ih];omega
theorem zB2 {w:web}{node:Int}{d:zi3}{v:Nat}{x:Int}(hn:NetOk w.Net) (h:hop (hF w node) d v=some x):∃ y∈Ws w,node<=y.from_/\node<=y.to/\y.from_.toNat=v/\∃ z,d y.to.toNat=some z/\x=z+y.length:=by
 obtain⟨e,he,h1,z,h2,h3⟩:=zKK h
 obtain⟨y,hy,rfl⟩:=dqz.1 he
 obtain⟨hy1,hy2⟩:=List.mem_filter.1 hy
 unfold okY at hy2
 rw[dqm] at hy2
 exact⟨y,hy1,of_decide_eq_true hy2.1,of_decide_eq_true hy2.2,h1,z,h2,h3⟩
end Go.Proofs
namespace Go.Proofs
open Go Go.Pm
set_option maxRecDepth 100000
set_option linter.unusedVariables false
abbrev PS7:=Int->Bool->Sl step->Int->Int->Sl Tab->Int->Int->Int->Sl (Sl Tab)->Sl step->Sl step
theorem zB3 (w : web) {N : Nat} (hN : N ≤ 40) (S5 : Int → Bool → Sl step → Int → Sl (Sl Tab) → Sl step) (P5 : Int → Bool → Sl step → Int → Sl (Sl Tab) → Bool) (S6 : PS7) (P6 : Int → Bool → Sl step → Int → Int → Sl Tab → Int → Int → Int → Sl (Sl Tab) → Sl step → Bool) (v4 : Sl (Sl Tab)) (u : Int) (bb : Bool) (best : Sl step) (t i : Int) (h : Sl Tab) (at_ len : Int) (k : Nat) (hk : k < h.len) (d : zi3) {B : Int} (hB : B ≤ 90000000000) (hd : Rh N (h.get k) d B) (hl0 : -90000000000 ≤ len) (hl1 : len ≤ 90000000000) (v21 : Sl (Sl Tab)) (now : Sl step) (hnow : now.len ≤ 1000) :
  ∀ (l:List step),(∀ y∈l,StOk y N)->(∃ y∈l,y.from_=at_/\i<=y.to/\∃ x,d y.to.toNat=some x/\len+y.length+x < 0) ->
  ∃ y∈l,(y.from_=at_/\i<=y.to/\∃ x,d y.to.toNat=some x/\len+y.length+x < 0) /\
   zdo S5 S6 w v4 l u bb best t i h at_ len (k:Int) v21 now=S6 u bb best t i h y.to (len+y.length) (w64 ((k:Int) - (1:Int))) v21 (⟨(now.len+1),(zgB now.len now.get (λ _=>y))⟩:Sl step) /\
   zdp P5 P6 w v4 l u bb best t i h at_ len (k:Int) v21 now=P6 u bb best t i h y.to (len+y.length) (w64 ((k:Int) - (1:Int))) v21 (⟨(now.len+1),(zgB now.len now.get (λ _=>y))⟩:Sl step):=by
 intro l
 induction l with
 | nil=>rintro _ ⟨y,hy,_⟩;cases hy
 | cons y l ih =>
  intro hl hex
  have hy:=hl y (dqj ..)
  have f0:=hy.f0;have f1:=hy.f1;have t0:=hy.t0;have t1:=hy.t1;have l0:=hy.l0;have l1:=hy.l1
  obtain⟨⟨d1,d2⟩,d3⟩:=hd y.to.toNat (by omega)
  have e1:0+y.to.toNat * 2+0=y.to.toNat * 2:=by omega
  have hS:zdo S5 S6 w v4 (y :: l) u bb best t i h at_ len (k:Int) v21 now=cond (y.from_ == at_) (cond (decide (i<=y.to)) (cond (!(nvr (tg 80 (h.get ((k:Int)).toNat) (0+y.to.toNat * 2+0)) (tg 80 (h.get ((k:Int)).toNat) (0+y.to.toNat * 2+0+1)))) (cond (decide (w64 (w64 (len+y.length)+tg 80 (h.get ((k:Int)).toNat) (0+y.to.toNat * 2+0)) < (0:Int))) (S6 u bb best t i h y.to (w64 (len+y.length)) (w64 ((k:Int) - (1:Int))) v21 (⟨(now.len+1),(zgB now.len now.get (λ _=>y))⟩:Sl step)) (zdo S5 S6 w v4 l u bb best t i h at_ len (k:Int) v21 now)) (zdo S5 S6 w v4 l u bb best t i h at_ len (k:Int) v21 now)) (zdo S5 S6 w v4 l u bb best t i h at_ len (k:Int) v21 now)) (zdo S5 S6 w v4 l u bb best t i h at_ len (k:Int) v21 now):=by
   show zpK S5 S6 w v4 y (zdo S5 S6 w v4 l) u bb best t i h at_ len (k:Int) v21 now=_
   generalize zdo S5 S6 w v4 l=S
   rfl
  have hP:zdp P5 P6 w v4 (y :: l) u bb best t i h at_ len (k:Int) v21 now=cond (y.from_ == at_) (cond (decide (i<=y.to)) (decide (0<=(k:Int)/\(k:Int) < (h.len:Int)) && (decide (0<=y.to/\y.to < (40:Int)) && cond (!(nvr (tg 80 (h.get ((k:Int)).toNat) (0+y.to.toNat * 2+0)) (tg 80 (h.get ((k:Int)).toNat) (0+y.to.toNat * 2+0+1)))) (decide (0<=(k:Int)/\(k:Int) < (h.len:Int)) && (decide (0<=y.to/\y.to < (40:Int)) && cond (decide (w64 (w64 (len+y.length)+tg 80 (h.get ((k:Int)).toNat) (0+y.to.toNat * 2+0)) < (0:Int))) (decide ((now.len+1) * 40<=140737488355328/\now.len+1<=9223372036854775807) && P6 u bb best t i h y.to (w64 (len+y.length)) (w64 ((k:Int) - (1:Int))) v21 (⟨(now.len+1),(zgB now.len now.get (λ _=>y))⟩:Sl step)) (zdp P5 P6 w v4 l u bb best t i h at_ len (k:Int) v21 now))) (zdp P5 P6 w v4 l u bb best t i h at_ len (k:Int) v21 now))) (zdp P5 P6 w v4 l u bb best t i h at_ len (k:Int) v21 now)) (zdp P5 P6 w v4 l u bb best t i h at_ len (k:Int) v21 now):=by
   show zpL P5 P6 w v4 y (zdp P5 P6 w v4 l) u bb best t i h at_ len (k:Int) v21 now=_
   generalize zdp P5 P6 w v4 l=S
   rfl
  rw[dqN,e1,zKI (by omega),zKI (by omega),zKM hd (by omega) (show y.to.toNat < N by omega),zdL (x:=len+y.length) (by omega) (by omega)] at hS hP
  rw[dqT (show 0<=(k:Int)/\(k:Int) < (h.len:Int) by omega),dqT (show 0<=y.to/\y.to < (40:Int) by omega),dqT (show (now.len+1) * 40<=140737488355328/\now.len+1<=9223372036854775807 by omega)] at hP
  simp only[Bool.true_and] at hP
  have next : ¬ (y.from_=at_/\i<=y.to/\∃ x,d y.to.toNat=some x/\len+y.length+x < 0) ->
    zdo S5 S6 w v4 (y :: l) u bb best t i h at_ len (k:Int) v21 now=zdo S5 S6 w v4 l u bb best t i h at_ len (k:Int) v21 now->zdp P5 P6 w v4 (y :: l) u bb best t i h at_ len (k:Int) v21 now=zdp P5 P6 w v4 l u bb best t i h at_ len (k:Int) v21 now->∃ y'∈y :: l,(y'.from_=at_/\i<=y'.to/\∃ x,d y'.to.toNat=some x/\len+y'.length+x < 0) /\
   zdo S5 S6 w v4 (y :: l) u bb best t i h at_ len (k:Int) v21 now=S6 u bb best t i h y'.to (len+y'.length) (w64 ((k:Int) - (1:Int))) v21 (⟨(now.len+1),(zgB now.len now.get (λ _=>y'))⟩:Sl step) /\
   zdp P5 P6 w v4 (y :: l) u bb best t i h at_ len (k:Int) v21 now=P6 u bb best t i h y'.to (len+y'.length) (w64 ((k:Int) - (1:Int))) v21 (⟨(now.len+1),(zgB now.len now.get (λ _=>y'))⟩:Sl step):=λ hno hs hp=>by
   obtain⟨z,hz,hc⟩:=hex
   have hzl:z∈l:=(dqq.1 hz).resolve_left (λ e=>hno (e ▸ hc))
   obtain⟨y',a1,a2,a3,a4⟩:=ih (λ q hq=>hl q (dqf _ hq)) ⟨z,hzl,hc⟩
   exact⟨y',dqf _ a1,a2,hs.trans a3,hp.trans a4⟩
  by_cases c1:y.from_=at_
  ·rw [show (y.from_ == at_) = true from beq_iff_eq.2 c1] at hS hP
   by_cases c2:i<=y.to
   ·rw [dqT c2] at hS hP
    cases hdu:d y.to.toNat with
    | none =>
     rw[hdu] at hS hP
     exact next (λ ⟨_,_,x,hx,_⟩=>by rw[hdu] at hx;cases hx) hS hP
    | some x =>
     have hbx:=d3 x hdu
     rw[hdu] at hS hP d1
     have d1':h.get k (y.to.toNat * 2)=x:=d1
     rw[d1',zdL (x:=len+y.length+x) (by omega) (by omega)] at hS hP
     by_cases c3:len+y.length+x < 0
     ·rw [dqT c3] at hS hP
      exact⟨y,dqj ..,⟨c1,c2,x,hdu,c3⟩,hS,hP⟩
     ·rw [dqF c3] at hS hP
      exact next (λ ⟨_,_,x',hx',hx''⟩=>by rw[hdu] at hx';cases hx';exact c3 hx'') hS hP
   ·rw [dqF c2] at hS hP
    exact next (λ hh=>c2 hh.2.1) hS hP
  ·rw [show (y.from_ == at_) = false from dqU.2 c1] at hS hP
   exact next (λ hh=>c1 hh.1) hS hP
end Go.Proofs
namespace Go.Proofs
open Go Go.Pm
set_option maxRecDepth 100000
set_option linter.unusedVariables false
structure HsOk (w : web) (hs : Sl (Sl Tab)) : Prop where
  len:hs.len=w.Net.Nodes.toNat
  at_:∀ i,i < w.Net.Nodes.toNat->(hs.get i).len=w.Net.Nodes.toNat+1/\∀ j,j<=w.Net.Nodes.toNat->Rh w.Net.Nodes.toNat ((hs.get i).get j) (hops (hF w (i:Int)) i j) (j * 1000000000)
def zOs (S5:Int->Bool->Sl step->Int->Sl (Sl Tab)->Sl step) (w:web) (v4:Sl (Sl Tab)) (u:Int) (bb:Bool) (best:Sl step) (t:Int) (v21:Sl (Sl Tab)) (now:Sl step):Sl step :=
 cond bb (zky S5 w v4 u bb best t true v21 now) (zky S5 w v4 u bb best t (decide ((zHU now best) < (0:Int))) v21 now)
def zHW (P5:Int->Bool->Sl step->Int->Sl (Sl Tab)->Bool) (w:web) (v4:Sl (Sl Tab)) (u:Int) (bb:Bool) (best:Sl step) (t:Int) (v21:Sl (Sl Tab)) (now:Sl step):Bool :=
 decide (bb=true\/best.len ≠ 0) && cond bb (zkz P5 w v4 u bb best t true v21 now) (decide (zK8 now best=true) && zkz P5 w v4 u bb best t (decide ((zHU now best) < (0:Int))) v21 now)
theorem walk (w : web) (hn : NetOk w.Net) (hs : Sl (Sl Tab)) (hh : HsOk w hs) (S5 : Int → Bool → Sl step → Int → Sl (Sl Tab) → Sl step) (P5 : Int → Bool → Sl step → Int → Sl (Sl Tab) → Bool) (v4 : Sl (Sl Tab)) (u : Int) (bb : Bool) (best : Sl step) (t : Int) (i : Nat) (hi : i < w.Net.Nodes.toNat) (v21 : Sl (Sl Tab)) :
  ∀ (m fu:Nat) (a len:Int) (now:Sl step) (L:List step),m < fu->(0<=a/\a < w.Net.Nodes)->L.length+m<=40->m<=w.Net.Nodes.toNat->-1000000000 * (L.length:Int)<=len->len<=1000000000 * (L.length:Int) ->
   (∃ x,hops (hF w (i:Int)) i m a.toNat=some x/\len+x < 0)->IsS now L->ChS (Ws w) (i:Int) L a->wtS L=len ->
   ∃ now' L',zih S5 w v4 fu u bb best t (i:Int) (hs.get i) a len ((m:Int) - 1) v21 now=zOs S5 w v4 u bb best t v21 now'/\zii P5 w v4 fu u bb best t (i:Int) (hs.get i) a len ((m:Int) - 1) v21 now=zHW P5 w v4 u bb best t v21 now' /\
    IsS now' L'/\ChS (Ws w) (i:Int) L' (i:Int)/\wtS L' < 0/\L'.length=L.length+m:=by
 have hn40:=hn.n40;have hlen:=hn.len
 obtain⟨q1,q2⟩:=zHB w (by omega)
 obtain⟨hl1,hat⟩:=hh.at_ i hi
 intro m
 induction m with
 | zero =>
  intro fu a len now L hf ha hL hm hl0 hl1' hx hnow hch hwt
  obtain⟨fu,rfl⟩:∃ k',fu=k'+1:=⟨fu - 1,by omega⟩
  obtain⟨x,hx1,hx2⟩:=hx
  have hx1':zLb i a.toNat=some x:=hx1
  unfold zLb at hx1'
  have hai:a.toNat=i:=by
   by_cases hq:a.toNat=i
   ·exact hq
   ·rw[dqG hq] at hx1';cases hx1'
  rw[dqP hai] at hx1'
  have hx0:(0:Int)=x:=Option.some.inj hx1'
  have hae:a=(i:Int):=by omega
  subst hae
  refine⟨now,L,?_,?_,hnow,hch,by omega,rfl⟩
  ·show zie S5 w v4 (zih S5 w v4 fu) u bb best t (i : Int) (hs.get i) (i : Int) len (((0 : Nat) : Int) - 1) v21 now = _
   unfold zie
   rw[dqF (show ¬ ((0:Nat):Int) - 1 >= 0 by omega),dqB];rfl
  ·show zif P5 w v4 (zii P5 w v4 fu) u bb best t (i : Int) (hs.get i) (i : Int) len (((0 : Nat) : Int) - 1) v21 now = _
   unfold zif
   rw[dqF (show ¬ ((0:Nat):Int) - 1 >= 0 by omega),dqB];rfl
 | succ m ih =>
  intro fu a len now L hf ha hL hm hl0 hl1' hx hnow hch hwt
  obtain⟨fu,rfl⟩:∃ k',fu=k'+1:=⟨fu - 1,by omega⟩
  obtain⟨x,hx1,hx2⟩:=hx
  obtain⟨y,hy,hy1,hy2,hy3,z,hz1,hz2⟩:=zB2 hn (show hop (hF w (i:Int)) (hops (hF w (i:Int)) i m) a.toNat=some x from hx1)
  have hyo:=zMF hn hy
  have f0:=hyo.f0
  have hya:y.from_=a:=by omega
  have hnl:=hnow.1
  obtain⟨y',b1,⟨b2,b3,x',b4,b5⟩,b6,b7⟩:=zB3 w (N:=w.Net.Nodes.toNat) (by omega) S5 P5 (zih S5 w v4 fu) (zii P5 w v4 fu) v4 u bb best t (i:Int) (hs.get i) a len m (by omega) (hops (hF w (i:Int)) i m) (B:=m * 1000000000) (by omega) (hat m (by omega)) (by omega) (by omega) v21 now (by omega) (Ws w) (λ y hy=>zMF hn hy) ⟨y,hy,hya,hy2,z,hz1,by omega⟩
  have hyo':=zMF hn b1
  have t0:=hyo'.t0;have t1:=hyo'.t1;have l0:=hyo'.l0;have l1:=hyo'.l1
  have hw:w64 ((m:Int) - (1:Int))=(m:Int) - 1:=zdL (by omega) (by omega)
  rw[hw] at b6 b7
  obtain⟨now',L',c1,c2,c3,c4,c5,c6⟩:=ih fu y'.to (len+y'.length) (⟨(now.len+1),(zgB now.len now.get (λ _=>y'))⟩:Sl step) (L ++ [y']) (by omega) ⟨t0,by omega⟩ (by simp only[dqu,dqr,dqL];omega) (by omega) (by simp only[dqu,dqr,dqL];omega) (by simp only[dqu,dqr,dqL];omega) ⟨x',b4,b5⟩ (zHG hnow y') (zHH hch b1 b2) (by rw[zHI,hwt])
  refine⟨now',L',?_,?_,c3,c4,c5,by rw[c6];simp only[dqu,dqr,dqL];omega⟩
  ·rw [← c1, ← b6]
   show zie S5 w v4 (zih S5 w v4 fu) u bb best t (i:Int) (hs.get i) a len (((m+1:Nat):Int) - 1) v21 now=_
   rw[show ((m+1:Nat):Int) - 1=(m:Int) by omega]
   unfold zie zpM
   rw[dqT (show (m:Int) >= 0 by omega),dqA,q2]
  ·rw [← c2, ← b7]
   show zif P5 w v4 (zii P5 w v4 fu) u bb best t (i:Int) (hs.get i) a len (((m+1:Nat):Int) - 1) v21 now=_
   rw[show ((m+1:Nat):Int) - 1=(m:Int) by omega]
   unfold zif zpN
   rw[dqT (show (m:Int) >= 0 by omega),dqA,q1,q2];rfl
end Go.Proofs
namespace Go.Proofs
open Go Go.Pm
set_option maxRecDepth 100000
set_option linter.unusedVariables false
theorem zAj (x y:Int):znp x y=if x < y then -1 else if y < x then 1 else 0:=by
 have e1:zBC x=false:=by unfold zBC;exact bne_self_eq_false _
 have e2:zBC y=false:=by unfold zBC;exact bne_self_eq_false _
 unfold znp
 rw[e1,e2]
 simp only[dqB]
 by_cases h:x < y
 ·rw[dqT h,dqP h,dqA]
 ·rw [dqF h, dqG h, dqB]
  by_cases h2:y < x
  ·rw[dqT (show x > y from h2),dqP h2,dqA]
  ·rw[dqF (show ¬ x > y from h2),dqG h2,dqB]
theorem zB4 (a b:Int):zHT (⟨2,zav (zbB [(enc_3 a),(enc_3 b)])⟩:Sl Int)=if a ≠ 0 then a else b:=by
 have key:∀ (v:Sl Int),v.len=2->v.get 0=a->v.get 1=b->zHT v=if a ≠ 0 then a else b:=by
  intro v h1 h2 h3
  obtain⟨k,hk⟩:∃ k,Fuel=k+3:=⟨Fuel - 3,by simp only[Fuel]⟩
  show zgx v Fuel (0:Int)=_
  rw[hk]
  show zeO v (zgx v (k+2)) (0:Int)=_
  unfold zeO
  rw[dqT (show (0:Int) < (v.len:Int) by omega),dqA,show ((0:Int)).toNat=0 from rfl,h2]
  by_cases ha:a ≠ 0
  ·rw[show (a != (0:Int))=true from bne_iff_ne.2 ha,dqA,dqP ha]
  ·rw [show (a != (0:Int)) = false by simpa using ha, dqB, dqG ha, show w64 ((0:Int) + (1:Int)) = ((1 : Nat) : Int) from rfl]
   show zeO v (zgx v (k+1)) ((1:Nat):Int)=_
   unfold zeO
   rw[dqT (show ((1:Nat):Int) < (v.len:Int) by omega),dqA,dqN,h3]
   by_cases hb:b ≠ 0
   ·rw[show (b != (0:Int))=true from bne_iff_ne.2 hb,dqA]
   ·have hb0 : b = 0 := Classical.not_not.1 hb
    rw[show (b != (0:Int))=false by simpa using hb0,dqB,show w64 (((1:Nat):Int)+(1:Int))=((2:Nat):Int) from rfl]
    show zeO v (zgx v k) ((2:Nat):Int)=_
    unfold zeO
    rw[dqF (show ¬ ((2:Nat):Int) < (v.len:Int) by omega),dqB,hb0]
 exact key _ rfl rfl rfl
end Go.Proofs
namespace Go.Proofs
open Go Go.Pm
set_option maxRecDepth 100000
set_option linter.unusedVariables false
/-! one pair of nodes -/
def zq3 (t:Tie) (a b:Nat):Bool:=(t.From == (a:Int) && t.To == (b:Int)) || (t.From == (b:Int) && t.To == (a:Int))
def loT (t:Tie):Int:=if t.From > t.To then -t.High else t.Low
def hiT (t:Tie):Int:=if t.From > t.To then -t.Low else t.High
abbrev bsS:Int×Int:=(-1000000000000,1000000000000)
def mxS (s:Int×Int) (t:Tie):Int×Int:=(if loT t > s.1 then loT t else s.1,if hiT t < s.2 then hiT t else s.2)
def mgS (n : Net) (a b : Nat) : Nat → Option (Int × Int)
  | 0=>none
  | i+1=>if zq3 (n.Ties.get i) a b then some (mxS ((mgS n a b i).getD bsS) (n.Ties.get i)) else mgS n a b i
theorem zdz {t:Tie}{a b:Nat} : zq3 t a b=true↔(t.From=a/\t.To=b)\/(t.From=b/\t.To=a):=by
 unfold zq3;simp
theorem zsV {t:Tie}{N:Int}(h:TieOk t N){a b:Nat}(hab:a < b):zq3 t a b=true↔[(a:Int),(b:Int)]=[if t.From > t.To then t.To else t.From,if t.From > t.To then t.From else t.To]:=by
 rw[zdz]
 have:=h.ne
 simp only[dqy,and_true]
 split <;> omega
theorem zKN {t:Tie}{N:Int}(h:TieOk t N):(loT t = -1000000000000\/(-1000000000<=loT t/\loT t<=1000000000))/\(hiT t=1000000000000\/(-1000000000<=hiT t/\hiT t<=1000000000)):=by
 have:=h.lo;have:=h.hi
 unfold loT hiT
 split <;> omega
def SpB (s:Int×Int):Prop:=(s.1 = -1000000000000\/(-1000000000<=s.1/\s.1<=1000000000))/\(s.2=1000000000000\/(-1000000000<=s.2/\s.2<=1000000000))
theorem zMG {s:Int×Int}{t:Tie}{N:Int}(hs:SpB s) (h:TieOk t N):SpB (mxS s t):=by
 obtain⟨h1,h2⟩:=zKN h
 obtain⟨h3,h4⟩:=hs
 unfold SpB mxS
 constructor
 ·show (if loT t > s.1 then loT t else s.1) = _ ∨ _
  split <;> omega
 ·show (if hiT t < s.2 then hiT t else s.2) = _ ∨ _
  split <;> omega
def KpS (s:Int×Int) (d:Int):Prop:=(s.1 = -1000000000000\/s.1<=d)/\(s.2=1000000000000\/d<=s.2)
theorem zKO {s:Int×Int}{t:Tie}{N:Int}(hs:SpB s) (h:TieOk t N) (d:Int):KpS (mxS s t) d↔KpS s d/\KpS (loT t,hiT t) d:=by
 obtain⟨h1,h2⟩:=zKN h
 obtain⟨h3,h4⟩:=hs
 have e1:((mxS s t).1 = -1000000000000\/(mxS s t).1<=d)↔(s.1 = -1000000000000\/s.1<=d)/\(loT t = -1000000000000\/loT t<=d):=by
  show ((if loT t > s.1 then loT t else s.1)=_\/(if loT t > s.1 then loT t else s.1)<=d)↔_
  split <;> omega
 have e2:((mxS s t).2=1000000000000\/d<=(mxS s t).2)↔(s.2=1000000000000\/d<=s.2)/\(hiT t=1000000000000\/d<=hiT t):=by
  show ((if hiT t < s.2 then hiT t else s.2)=_\/d<=(if hiT t < s.2 then hiT t else s.2))↔_
  split <;> omega
 unfold KpS
 rw[e1,e2]
 exact⟨λ ⟨⟨a,b⟩,c,d⟩=>⟨⟨a,c⟩,b,d⟩,λ ⟨⟨a,c⟩,b,d⟩=>⟨⟨a,b⟩,c,d⟩⟩
section
variable {n:Net}(hn:NetOk n)
include hn
theorem zB5 (a b : Nat) : ∀ i, i ≤ n.Ties.len → SpB ((mgS n a b i).getD bsS)
  | 0,_=>⟨.inl rfl,.inl rfl⟩
  | i+1,h=>by
    have ih:=zB5 a b i (by omega)
    unfold mgS
    split
    · exact zMG ih (hn.tie i (by omega))
    · exact ih
theorem zAk (a b : Nat) (d : Int) : ∀ i, i ≤ n.Ties.len → (KpS ((mgS n a b i).getD bsS) d ↔ ∀ j, j < i → zq3 (n.Ties.get j) a b = true → KpS (loT (n.Ties.get j), hiT (n.Ties.get j)) d)
  | 0,_=>⟨λ _ j hj=>absurd hj (dqW _),λ _=>⟨.inl rfl,.inl rfl⟩⟩
  | i+1,h=>by
    have ih:=zAk a b d i (by omega)
    unfold mgS
    split
    · rename_i hh
      show KpS (mxS ((mgS n a b i).getD bsS) (n.Ties.get i)) d↔_
      rw[zKO (zB5 hn a b i (by omega)) (hn.tie i (by omega)),ih]
      constructor
      · rintro ⟨h1, h2⟩ j hj hjh
        by_cases e:j=i
        · subst e;exact h2
        · exact h1 j (by omega) hjh
      · exact λ h1=>⟨λ j hj=>h1 j (by omega),h1 i (by omega) hh⟩
    · rename_i hh
      rw[ih]
      constructor
      · intro h1 j hj hjh
        by_cases e:j=i
        · subst e;exact absurd hjh hh
        · exact h1 j (by omega) hjh
      · exact λ h1 j hj=>h1 j (by omega)
theorem zno (a b : Nat) : ∀ i, i ≤ n.Ties.len → ((mgS n a b i).isSome = true ↔ ∃ j, j < i ∧ zq3 (n.Ties.get j) a b = true)
  | 0,_=>⟨λ h=>(by cases h),λ ⟨j,h,_⟩=>absurd h (dqW _)⟩
  | i+1,h=>by
    have ih:=zno a b i (by omega)
    unfold mgS
    split
    · rename_i hh;exact⟨λ _=>⟨i,by omega,hh⟩,λ _=>rfl⟩
    · rename_i hh
      rw[ih]
      constructor
      · rintro⟨j,h1,h2⟩;exact⟨j,by omega,h2⟩
      · rintro ⟨j, h1, h2⟩
        by_cases e:j=i
        · subst e;exact absurd h2 hh
        · exact⟨j,by omega,h2⟩
omit hn in
theorem zsW {i:Nat}(hi:i < n.Ties.len) (v:Sl Int){a b:Nat}(hab:a < b) (hh:zq3 (n.Ties.get i) a b=true):Keep (n.Ties.get i) v↔KpS (loT (n.Ties.get i),hiT (n.Ties.get i)) (v.get b - v.get a):=by
 unfold Keep KpS loT hiT
 rcases zdz.1 hh with ⟨h1,h2⟩ | ⟨h1,h2⟩
 ·rw [dqG (by omega), dqG (by omega), h1, h2]
  show (_\/_<=v.get b - v.get a)/\(_\/v.get b - v.get a<=_)↔_
  exact Iff.rfl
 ·rw [dqP (by omega), dqP (by omega), h1, h2]
  show (_\/_<=v.get a - v.get b)/\(_\/v.get a - v.get b<=_)↔_
  simp only
  omega
theorem zDm {i:Nat}(hi:i < n.Ties.len):∃ a b:Nat,a < b/\b < n.Nodes.toNat/\zq3 (n.Ties.get i) a b=true:=by
 have h:=hn.tie i hi
 have:=h.f0;have:=h.f1;have:=h.t0;have:=h.t1;have:=h.ne
 by_cases hl:(n.Ties.get i).From < (n.Ties.get i).To
 ·exact⟨(n.Ties.get i).From.toNat,(n.Ties.get i).To.toNat,by omega,by omega,zdz.2 (.inl ⟨by omega,by omega⟩)⟩
 ·exact⟨(n.Ties.get i).To.toNat,(n.Ties.get i).From.toNat,by omega,by omega,zdz.2 (.inr ⟨by omega,by omega⟩)⟩
theorem zKP {i a b:Nat}(hi:i < n.Ties.len) (hh:zq3 (n.Ties.get i) a b=true):a < n.Nodes.toNat/\b < n.Nodes.toNat:=by
 have h:=hn.tie i hi
 have:=h.f0;have:=h.f1;have:=h.t0;have:=h.t1
 rcases zdz.1 hh with ⟨h1,h2⟩ | ⟨h1,h2⟩ <;> omega
end
/-! all pairs -/
abbrev P40:List (List Int):=(List.range 40).flatMap λ (a:Nat)=>(List.range 40).map λ (b:Nat)=>[(a:Int),(b:Int)]
theorem zAl {y:List Int} : y∈P40↔∃ a b:Nat,a < 40/\b < 40/\y=[(a:Int),(b:Int)]:=by
 simp only[dqo,dqz,List.mem_range]
 constructor
 ·rintro⟨a,ha,b,hb,rfl⟩;exact⟨a,b,ha,hb,rfl⟩
 ·rintro⟨a,b,ha,hb,rfl⟩;exact⟨a,ha,b,hb,rfl⟩
theorem zoJ:P40.Nodup:=by
 unfold List.Nodup
 rw[List.pairwise_flatMap]
 refine⟨λ a _=>?_,List.pairwise_lt_range.imp fun {a b} h x hx y hy e=>?_⟩
 ·rw [List.pairwise_map]
  exact List.pairwise_lt_range.imp fun {b c} h e=>by
   simp only[dqy,and_true,true_and] at e;omega
 ·obtain ⟨c, _, rfl⟩ := dqz.1 hx
  obtain⟨d,_,rfl⟩:=dqz.1 hy
  simp only[dqy,and_true] at e;omega
theorem zoK {F : List Int → Option (List Int)} {x v : List Int} (hF : F x = none) : ∀ {P : List (List Int)}, P.Nodup → x ∈ P → (P.filter fun y => (zc5 x v F y).isSome).length = (P.filter fun y => (F y).isSome).length + 1
  | y :: P,hnd,hx=>by
    have hs:∀ y,zc5 x v F y=if y=x then some v else F y:=λ y=>by
      unfold zc5
      by_cases e:y=x
      · rw[dqT e,dqP e]
      · rw[dqF e,dqG e]
    obtain⟨hy,hnd⟩:=List.nodup_cons.1 hnd
    rw[List.filter_cons,List.filter_cons]
    by_cases e:y=x
    · subst e
      have h1:(P.filter λ z=>(zc5 y v F z).isSome)=P.filter λ z=>(F z).isSome:=List.filter_congr λ z hz=>by
        rw[hs,dqG (λ e=>hy (by rw[<- e];exact hz))]
      rw[h1,hs,dqP rfl,hF]
      simp
    · have ih := zoK (v := v) hF hnd ((dqq.1 hx).resolve_left (Ne.symm e))
      rw[hs y,dqG e]
      cases hy:(F y).isSome
      · rw[dqG (by simp),dqG (by simp)];exact ih
      · rw[dqP rfl,dqP rfl,dqr,dqr,ih]
structure MgOk (n : Net) (i N : Nat) (F : List Int → Option (List Int)) : Prop where
  val:∀ a b:Nat,F [(a:Int),(b:Int)]=if a < b then (mgS n a b i).map (λ s=>[s.1,s.2]) else none
  num:N=(zeq F).length
  few:N<=i
theorem zds (F:List Int->Option (List Int)):zeq F=P40.filter λ y=>(F y).isSome:=rfl
section
variable {n:Net}(hn:NetOk n)
include hn
theorem zHJ {i N : Nat} {F : List Int → Option (List Int)} (hi : i < n.Ties.len) (h : MgOk n i N F) :
    MgOk n (i + 1) (addN (F [if (n.Ties.get i).From > (n.Ties.get i).To then (n.Ties.get i).To else (n.Ties.get i).From, if (n.Ties.get i).From > (n.Ties.get i).To then (n.Ties.get i).From else (n.Ties.get i).To]) N)
      (zc5 [if (n.Ties.get i).From > (n.Ties.get i).To then (n.Ties.get i).To else (n.Ties.get i).From, if (n.Ties.get i).From > (n.Ties.get i).To then (n.Ties.get i).From else (n.Ties.get i).To]
        [(mxS (((F [if (n.Ties.get i).From > (n.Ties.get i).To then (n.Ties.get i).To else (n.Ties.get i).From,if (n.Ties.get i).From > (n.Ties.get i).To then (n.Ties.get i).From else (n.Ties.get i).To]).map λ l=>(l.getD 0 0,l.getD 1 0)).getD bsS) (n.Ties.get i)).1,
         (mxS (((F [if (n.Ties.get i).From > (n.Ties.get i).To then (n.Ties.get i).To else (n.Ties.get i).From,if (n.Ties.get i).From > (n.Ties.get i).To then (n.Ties.get i).From else (n.Ties.get i).To]).map λ l=>(l.getD 0 0,l.getD 1 0)).getD bsS) (n.Ties.get i)).2] F):=by
  have ht:=hn.tie i hi
  obtain⟨a,b,hab,hbn,hh⟩:=zDm hn hi
  have hk:=(zsV ht hab).1 hh
  rw[<- hk]
  have hv:=h.val a b
  rw[dqP hab] at hv
  have hb40:b < 40:=by have:=hn.n40;omega
  refine⟨λ c d=>?_,?_,?_⟩
  · have hs:∀ v y,zc5 [(a:Int),(b:Int)] v F y=if y=[(a:Int),(b:Int)] then some v else F y:=λ v y=>by
      unfold zc5
      by_cases e:y=[(a:Int),(b:Int)]
      · rw[dqT e,dqP e]
      · rw[dqF e,dqG e]
    rw[hs,h.val c d]
    by_cases e:[(c:Int),(d:Int)]=[(a:Int),(b:Int)]
    · rw [dqP e]
      simp only[dqy,and_true] at e
      have e1:c=a:=by omega
      have e2:d=b:=by omega
      subst e1 e2
      rw[dqP hab,mgS,dqP hh,hv]
      cases mgS n c d i <;> rfl
    · rw [dqG e]
      by_cases hcd:c < d
      · rw[dqP hcd,dqP hcd,mgS,dqG (λ h=>e (by rw[hk];exact (zsV ht hcd).1 h))]
      · rw[dqG hcd,dqG hcd]
  · have hm : [(a : Int), (b : Int)] ∈ P40 := zAl.2 ⟨a, b, by omega, hb40, rfl⟩
    rw[zds]
    cases hF:F [(a:Int),(b:Int)] with
    | none=>rw[zoK hF zoJ hm,<- zds,<- h.num];rfl
    | some l =>
      show N=_
      rw[h.num,zds]
      congr 1
      refine List.filter_congr λ y _=>?_
      unfold zc5
      by_cases e:y=[(a:Int),(b:Int)]
      · rw[dqT e,e,hF];rfl
      · rw[dqF e]
  · have := h.few
    cases F [(a:Int),(b:Int)] with
    | none=>show N+1<=i+1;omega
    | some l=>show N<=i+1;omega
theorem zB6:MgOk n 0 0 (λ _=>none):=⟨λ a b=>by split <;> rfl,by rw[zds,List.filter_eq_nil_iff.2 (λ y _=>by simp)];rfl,dqt _⟩
theorem zsX:∀ (m i k N:Nat) (F:List Int->Option (List Int)),i+m=n.Ties.len->m < k->MgOk n i N F ->
  ∃ N' F',MgOk n n.Ties.len N' F'/\zgm n k (i:Int) N F=zg7 n N' F'/\zgl n k (i:Int) N F=zdR n N' F'
 | _,_,0,_,_,_,h,_=>absurd h (dqW _)
 | 0,i,k+1,N,F,hi,_,hM=>by
  have hd:decide ((i:Int) < (n.Ties.len:Int))=false:=dqF (by omega)
  have e:i=n.Ties.len:=by omega
  refine⟨N,F,by rw[<- e];exact hM,?_,?_⟩
  ·show zg9 n _ (i : Int) N F = _
   unfold zg9;rw[hd];rfl
  ·show zg8 n _ (i : Int) N F = _
   unfold zg8;rw[hd];rfl
 | m+1,i,k+1,N,F,hi,hk,hM=>by
  have hil:i < n.Ties.len:=by omega
  have hlen:=hn.len
  have hd:decide ((i:Int) < (n.Ties.len:Int))=true:=dqT (by omega)
  have b1:decide ((0:Int)<=(i:Int)/\(i:Int) < (n.Ties.len:Int))=true:=dqT ⟨by omega,by omega⟩
  have ei:w64 ((i:Int)+(1:Int))=((i+1:Nat):Int):=by rw[zdL (by omega) (by omega)];omega
  have ht:=hn.tie i hil
  have hlo:=ht.lo
  have hhi:=ht.hi
  have w1:w64 (0 - (n.Ties.get i).High) = -(n.Ties.get i).High:=by rw[zdL (by omega) (by omega)];omega
  have w2:w64 (0 - (n.Ties.get i).Low) = -(n.Ties.get i).Low:=by rw[zdL (by omega) (by omega)];omega
  obtain⟨N',F',h1,h2,h3⟩:=zsX m (i+1) k _ _ (by omega) (by omega) (zHJ hn hil hM)
  refine⟨N',F',h1,?_,?_⟩
  ·rw [← h2]
   show zg9 n (zgm n k) (i:Int) N F=_
   generalize zgm n k=P2
   unfold zg9 zkZ zkX
   rw[hd,b1,show ((i:Int)).toNat=i from rfl,ei,w1,w2]
   simp only[dqA,Bool.true_and]
   unfold mxS loT hiT
   by_cases hft:(n.Ties.get i).From > (n.Ties.get i).To
   ·rw [dqT hft, dqA]
    simp only[dqP hft]
    cases F [(n.Ties.get i).To,(n.Ties.get i).From] <;> rfl
   ·rw [dqF hft, dqB]
    simp only[dqG hft]
    cases F [(n.Ties.get i).From,(n.Ties.get i).To] <;> rfl
  ·rw [← h3]
   show zg8 n (zgl n k) (i:Int) N F=_
   generalize zgl n k=S2
   unfold zg8 zkY zkW
   rw[hd,show ((i:Int)).toNat=i from rfl,ei,w1,w2]
   simp only[dqA]
   unfold mxS loT hiT
   by_cases hft:(n.Ties.get i).From > (n.Ties.get i).To
   ·rw [dqT hft, dqA]
    simp only[dqP hft]
    cases F [(n.Ties.get i).To,(n.Ties.get i).From] <;> rfl
   ·rw [dqF hft, dqB]
    simp only[dqG hft]
    cases F [(n.Ties.get i).From,(n.Ties.get i).To] <;> rfl
end
end Go.Proofs
namespace Go.Proofs
open Go Go.Pm
set_option maxRecDepth 100000
set_option linter.unusedVariables false
def ztL (x y:Tie):Prop:=x.From < y.From\/x.From=y.From/\x.To < y.To
theorem zoL (x y:Tie):s99 x y < 0↔ztL x y:=by
 unfold s99 ztL
 rw[zB4,zAj,zAj]
 repeat' split
 all_goals omega
theorem zB7 (x y:Tie):p99 x y=true:=by
 unfold p99
 rw[zAi _ (show (2:Nat)<=1000 by omega)]
 rfl
abbrev spR (n:Net) (a b:Nat):Int×Int:=(mgS n a b n.Ties.len).getD bsS
abbrev isR (n:Net) (a b:Nat):Bool:=(mgS n a b n.Ties.len).isSome
abbrev zq4 (n:Net) (a b:Nat):Tie:=⟨(a:Int),(b:Int),(spR n a b).1,(spR n a b).2⟩
abbrev badR (n:Net) (a b:Nat):Prop:=(spR n a b).1 > (spR n a b).2
theorem zDn {n:Net}{a b:Nat}(h:badR n a b):isR n a b=true:=by
 have h:(spR n a b).1 > (spR n a b).2:=h
 unfold spR isR at *
 cases hm:mgS n a b n.Ties.len with
 | none=>rw[hm] at h;exact absurd h (by decide)
 | some s=>rfl
section
variable {n:Net}(hn:NetOk n)
section
variable {N:Nat}{F:List Int->Option (List Int)}(hM:MgOk n n.Ties.len N F)
include hn hM
theorem zhe {y:List Int} : y∈zeq F↔∃ a b:Nat,a < b/\b < n.Nodes.toNat/\isR n a b=true/\y=[(a:Int),(b:Int)]:=by
 rw[zds,List.mem_filter,zAl]
 constructor
 ·rintro ⟨⟨a, b, ha, hb, rfl⟩, h⟩
  rw[hM.val] at h
  by_cases hab:a < b
  ·rw [dqP hab] at h
   have h:isR n a b=true:=by unfold isR;cases hm:mgS n a b n.Ties.len with
    | none=>rw[hm] at h;cases h
    | some s=>rfl
   obtain⟨j,h1,h2⟩:=(zno hn a b n.Ties.len (dqt _)).1 h
   exact⟨a,b,hab,(zKP hn h1 h2).2,h,rfl⟩
  ·rw[dqG hab] at h;cases h
 ·rintro ⟨a, b, hab, hb, h, rfl⟩
  have:=hn.n40
  refine⟨⟨a,b,by omega,by omega,rfl⟩,?_⟩
  rw[hM.val,dqP hab]
  unfold isR at h
  cases hm:mgS n a b n.Ties.len with
  | none=>rw[hm] at h;cases h
  | some s=>rfl
theorem ziJ {a b:Nat}(hab:a < b) (h:isR n a b=true):zg6 F [(a:Int),(b:Int)]=zq4 n a b/\(zkV F [(a:Int),(b:Int)]=true↔badR n a b):=by
 have e:F [(a:Int),(b:Int)]=some [(spR n a b).1,(spR n a b).2]:=by
  rw[hM.val,dqP hab]
  unfold isR at h
  unfold spR
  cases hm:mgS n a b n.Ties.len with
  | none=>rw[hm] at h;cases h
  | some s=>rfl
 unfold zg6 zkV
 rw[show ([(a:Int),(b:Int)].getD 0 0)=(a:Int) from rfl,show ([(a:Int),(b:Int)].getD 1 0)=(b:Int) from rfl,e]
 exact⟨rfl,by rw[decide_eq_true_eq];exact Iff.rfl⟩
theorem zoM:(zeq F).Nodup:=by rw[zds];exact zoJ.sublist List.filter_sublist
theorem zKQ:SoL s99 (λ x y=>decide (p99 x y=true)) ((zeq F).map (zg6 F)):=by
 refine⟨λ x _=>?_,?_,λ x _ y _ z _ h1 h2=>?_,λ x _ y _=>by rw[zB7];rfl⟩
 ·have:=mt (zoL x x).1 (by unfold ztL;omega);omega
 ·rw [List.pairwise_map]
  refine List.Pairwise.imp_of_mem (fun {y z} hy hz hne=>?_) (zoM hn hM)
  obtain⟨a,b,hab,_,h1,rfl⟩:=(zhe hn hM).1 hy
  obtain⟨c,d,hcd,_,h2,rfl⟩:=(zhe hn hM).1 hz
  rw[(ziJ hn hM hab h1).1,(ziJ hn hM hcd h2).1]
  have l1:=zoL (zq4 n a b) (zq4 n c d)
  have l2:=zoL (zq4 n c d) (zq4 n a b)
  have hne : ¬ (a=c/\b=d):=λ ⟨e1,e2⟩=>hne (by rw[e1,e2])
  have e1:ztL (zq4 n a b) (zq4 n c d)↔a < c\/a=c/\b < d:=by
   show ((a:Int) < (c:Int)\/(a:Int)=(c:Int)/\(b:Int) < (d:Int))↔_
   omega
  have e2:ztL (zq4 n c d) (zq4 n a b)↔c < a\/c=a/\d < b:=by
   show ((c:Int) < (a:Int)\/(c:Int)=(a:Int)/\(d:Int) < (b:Int))↔_
   omega
  unfold SyL
  rw[e1] at l1
  rw[e2] at l2
  omega
 ·rw [zoL] at h1 h2 ⊢
  unfold ztL at *
  omega
theorem zHK:Go.Pm.keysB 2 N F (zeq F)=true:=by
 unfold Go.Pm.keysB
 rw[dqm,dqm,List.all_eq_true]
 refine⟨⟨by rw[<- hM.num];exact Nat.beq_refl _,λ y hy=>?_⟩,zh7.2 (zoM hn hM)⟩
 obtain⟨a,b,_,_,_,e⟩:=(zhe hn hM).1 hy
 rw[zds,List.mem_filter] at hy
 rw[hy.2,e];rfl
theorem zHL:zg7 n N F=true /\
    (((∃ a b, a < b ∧ b < n.Nodes.toNat ∧ badR n a b) ∧ zdR n N F = zBY) ∨
     ((∀ a b,a < b->b < n.Nodes.toNat->¬ badR n a b)/\(zdR n N F).2=0/\(zdR n N F).1.Nodes=n.Nodes/\∃ W,IsL (zdR n N F).1.Ties.len (zdR n N F).1.Ties.get W/\W.Perm ((zeq F).map (zg6 F))/\W.Pairwise ztL)):=by
  have hlen:=hn.len
  have hfew:=hM.few
  have hnum:=hM.num
  have hl:(⟨0,λ _=>default⟩:Sl Tie).len+(zeq F).length<=2000000:=by
    show 0+(zeq F).length<=2000000
    omega
  unfold zg7 zdR znc znb
  rw[zHK hn hM,Bool.true_and,show zg5 n N F (zeq F)=true from rfl,Bool.true_and]
  by_cases hb:∃ y∈zeq F,zkV F y=true
  · obtain ⟨h1, h2⟩ := zjn n N F (zeq F) ⟨0, fun _ => default⟩ hb hl
    obtain⟨y,hy,hyb⟩:=hb
    obtain⟨a,b,hab,hbn,h,rfl⟩:=(zhe hn hM).1 hy
    exact⟨h1,.inl ⟨⟨a,b,hab,hbn,(ziJ hn hM hab h).2.1 hyb⟩,h2⟩⟩
  · have hb' : ∀ y ∈ zeq F, zkV F y = false := fun y hy => Bool.eq_false_iff.2 fun e => hb ⟨y, hy, e⟩
    obtain⟨h1,h2⟩:=zhT n N F (zeq F) ⟨0,λ _=>default⟩ hb' hl
    have hi:=zna F (zeq F) ⟨0,λ _=>default⟩ [] ⟨rfl,λ k hk=>absurd hk (dqW _)⟩
    rw[List.nil_append] at hi
    rw[h1,h2]
    have hso:=zKQ hn hM
    generalize ztQ F (zeq F) ⟨0,λ _=>default⟩=v at hi ⊢
    obtain⟨m,g⟩:=v
    have hml:m=((zeq F).map (zg6 F)).length:=hi.1
    rw[List.length_map] at hml
    unfold zg3 zg2 zm9
    refine⟨?_,.inr ⟨λ a b hab hbn h=>?_,rfl,rfl,(zfU m (λ i j=>s99 (g i) (g j))).map g,?_,(zhR hi hso).1,?_⟩⟩
    · rw [Bool.and_true]
      exact dqT ⟨by show m<=_;omega,zsS hi hso⟩
    · exact hb ⟨_,(zhe hn hM).2 ⟨a,b,hab,hbn,zDn h,rfl⟩,(ziJ hn hM hab (zDn h)).2.2 h⟩
    · have l1 : (zfU m (fun i j => s99 (g i) (g j))).length = m := by rw [(zec m).length_eq, List.length_range]
      refine⟨by show m=_;rw[List.length_map,l1],λ k hk=>?_⟩
      rw[List.length_map] at hk
      show g ((zfU m (λ i j=>s99 (g i) (g j))).getD k _)=_
      rw[List.getElem_map,List.getD_eq_getElem?_getD,dqD hk];rfl
    · have w := (zhR hi hso).2
      have pw:=(hso.perm (zhR hi hso).1.symm).pw
      refine (pw.and w).imp fun {x y} ⟨h1,h2⟩=>?_
      rcases h1 with h1 | h1
      · exact (zoL x y).1 h1.1
      · exact absurd h1.1 h2
end
/-! the document -/
abbrev zsY (n:Net) (a b m:Nat):List Tie:=((List.range' b m).filter λ c=>isR n a c).map λ c=>zq4 n a c
def zHM:Net×Bool:=((⟨(0:Int),(⟨0,λ _=>default⟩:(Sl Tie))⟩:Net),false)
include hn
theorem zDo (S0:Int->Sl Tie->Net×Bool) (P0:Int->Sl Tie->Bool) (S1:Int->Int->Sl Tie->Net×Bool) (P1:Int->Int->Sl Tie->Bool){a b:Nat}(hab:a < b) (v:Sl Tie):∀ (m i k:Nat),i+m=n.Ties.len->m < k ->
  zk5 P0 P1 n k (a:Int) (b:Int) (mgS n a b i).isSome (i:Int) (a:Int) (b:Int) ((mgS n a b i).getD bsS).1 ((mgS n a b i).getD bsS).2 v=znh P0 P1 n (a:Int) (b:Int) (isR n a b) (a:Int) (b:Int) (spR n a b).1 (spR n a b).2 v /\
  zk4 S0 S1 n k (a:Int) (b:Int) (mgS n a b i).isSome (i:Int) (a:Int) (b:Int) ((mgS n a b i).getD bsS).1 ((mgS n a b i).getD bsS).2 v=zng S0 S1 n (a:Int) (b:Int) (isR n a b) (a:Int) (b:Int) (spR n a b).1 (spR n a b).2 v
 | _,_,0,_,h=>absurd h (dqW _)
 | 0,i,k+1,hi,_=>by
  have hd:decide ((i:Int) < (n.Ties.len:Int))=false:=dqF (by omega)
  have e:i=n.Ties.len:=by omega
  constructor
  ·show ziI P0 P1 n _ (a : Int) (b : Int) _ (i : Int) (a : Int) (b : Int) _ _ v = _
   unfold ziI;rw[hd,e];rfl
  ·show ziH S0 S1 n _ (a : Int) (b : Int) _ (i : Int) (a : Int) (b : Int) _ _ v = _
   unfold ziH;rw[hd,e];rfl
 | m+1,i,k+1,hi,hk=>by
  have hil:i < n.Ties.len:=by omega
  have hlen:=hn.len
  have ht:=hn.tie i hil
  have hlo:=ht.lo
  have hhi:=ht.hi
  have hd:decide ((i:Int) < (n.Ties.len:Int))=true:=dqT (by omega)
  have b1:decide ((0:Int)<=(i:Int)/\(i:Int) < (n.Ties.len:Int))=true:=dqT ⟨by omega,by omega⟩
  have ei:w64 ((i:Int)+(1:Int))=((i+1:Nat):Int):=by rw[zdL (by omega) (by omega)];omega
  have w1:w64 (0 - (n.Ties.get i).High) = -(n.Ties.get i).High:=by rw[zdL (by omega) (by omega)];omega
  have w2:w64 (0 - (n.Ties.get i).Low) = -(n.Ties.get i).Low:=by rw[zdL (by omega) (by omega)];omega
  obtain⟨r1,r2⟩:=zDo S0 P0 S1 P1 hab v m (i+1) k (by omega) (by omega)
  rw[<- r1,<- r2]
  have haa:((a:Int) == (a:Int))=true:=beq_self_eq_true _
  have hbb:((b:Int) == (b:Int))=true:=beq_self_eq_true _
  have hba:((b:Int) == (a:Int))=false:=dqU.2 (by omega)
  show ziI P0 P1 n (zk5 P0 P1 n k) (a:Int) (b:Int) _ (i:Int) (a:Int) (b:Int) _ _ v=_/\ziH S0 S1 n (zk4 S0 S1 n k) (a:Int) (b:Int) _ (i:Int) (a:Int) (b:Int) _ _ v=_
  generalize zk5 P0 P1 n k=P2
  generalize zk4 S0 S1 n k=S2
  unfold ziI ziH zk3 zk2
  rw[hd,b1,show ((i:Int)).toNat=i from rfl,ei,w1,w2]
  rw[show mgS n a b (i+1)=if zq3 (n.Ties.get i) a b then some (mxS ((mgS n a b i).getD bsS) (n.Ties.get i)) else mgS n a b i from rfl]
  simp only[dqA,Bool.true_and]
  by_cases c1:(n.Ties.get i).From=(b:Int)
  ·rw [show ((n.Ties.get i).From == (b : Int)) = true from beq_iff_eq.2 c1]
   by_cases c2:(n.Ties.get i).To=(a:Int)
   ·have hh : zq3 (n.Ties.get i) a b = true := zdz.2 (.inr ⟨c1, c2⟩)
    rw[show ((n.Ties.get i).To == (a:Int))=true from beq_iff_eq.2 c2,hh,haa,hbb]
    simp only[dqA,if_true,Option.isSome_some,Option.getD_some]
    unfold mxS loT hiT
    rw[dqP (show (n.Ties.get i).From > (n.Ties.get i).To by omega),dqP (show (n.Ties.get i).From > (n.Ties.get i).To by omega)]
    exact⟨rfl,rfl⟩
   ·have hh : zq3 (n.Ties.get i) a b = false := Bool.eq_false_iff.2 fun h => by rcases zdz.1 h with ⟨h1, h2⟩ | ⟨h1, h2⟩ <;> omega
    rw[show ((n.Ties.get i).To == (a:Int))=false from dqU.2 c2,hh,show ((n.Ties.get i).From == (a:Int))=false from dqU.2 (by omega)]
    exact⟨rfl,rfl⟩
  ·rw [show ((n.Ties.get i).From == (b : Int)) = false from dqU.2 c1]
   by_cases c3:(n.Ties.get i).From=(a:Int)
   ·rw [show ((n.Ties.get i).From == (a : Int)) = true from beq_iff_eq.2 c3]
    by_cases c4:(n.Ties.get i).To=(b:Int)
    ·have hh : zq3 (n.Ties.get i) a b = true := zdz.2 (.inl ⟨c3, c4⟩)
     rw[show ((n.Ties.get i).To == (b:Int))=true from beq_iff_eq.2 c4,hh]
     simp only[dqA,dqB,if_true,Option.isSome_some,Option.getD_some]
     unfold mxS loT hiT
     rw[dqG (show ¬ (n.Ties.get i).From > (n.Ties.get i).To by omega),dqG (show ¬ (n.Ties.get i).From > (n.Ties.get i).To by omega)]
     exact⟨rfl,rfl⟩
    ·have hh : zq3 (n.Ties.get i) a b = false := Bool.eq_false_iff.2 fun h => by rcases zdz.1 h with ⟨h1, h2⟩ | ⟨h1, h2⟩ <;> omega
     rw[show ((n.Ties.get i).To == (b:Int))=false from dqU.2 c4,hh]
     exact⟨rfl,rfl⟩
   ·have hh : zq3 (n.Ties.get i) a b = false := Bool.eq_false_iff.2 fun h => by rcases zdz.1 h with ⟨h1, h2⟩ | ⟨h1, h2⟩ <;> omega
    rw[show ((n.Ties.get i).From == (a:Int))=false from dqU.2 c3,hh]
    exact⟨rfl,rfl⟩
theorem zKR (S0:Int->Sl Tie->Net×Bool) (P0:Int->Sl Tie->Bool) (a:Nat):∀ (m b k:Nat) (v:Sl Tie) (A:List Tie),b+m=n.Nodes.toNat\/m=0/\n.Nodes.toNat<=b->a < b->b<=41->m < k->IsL v.len v.get A->A.length+m<=5000 ->
  ((∃ c,b<=c/\c < b+m/\badR n a c)/\ze8 P0 n k (a:Int) (b:Int) v=true/\ze7 S0 n k (a:Int) (b:Int) v=zHM) \/
  ((∀ c,b<=c->c < b+m->¬ badR n a c)/\∃ v',IsL v'.len v'.get (A ++ zsY n a b m)/\ze8 P0 n k (a:Int) (b:Int) v=P0 ((a+1:Nat):Int) v'/\ze7 S0 n k (a:Int) (b:Int) v=S0 ((a+1:Nat):Int) v')
 | _,_,0,_,_,_,_,_,h,_,_=>absurd h (dqW _)
 | 0,b,k+1,v,A,hb,hab,hb41,_,hv,_=>by
  have hn1:=hn.n1
  have hd:decide ((b:Int) < n.Nodes)=false:=dqF (by omega)
  have ea:w64 ((a:Int)+(1:Int))=((a+1:Nat):Int):=by rw[zdL (by omega) (by omega)];omega
  refine .inr ⟨λ c h1 h2=>by omega,v,by simpa [zsY] using hv,?_,?_⟩
  ·show zhb P0 n _ (a : Int) (b : Int) v = _
   unfold zhb;rw[hd,ea];rfl
  ·show zha S0 n _ (a : Int) (b : Int) v = _
   unfold zha;rw[hd,ea];rfl
 | m+1,b,k+1,v,A,hb,hab,hb41,hk,hv,hA=>by
  have hn1:=hn.n1
  have hd:decide ((b:Int) < n.Nodes)=true:=dqT (by omega)
  have hn40:=hn.n40
  have eb:w64 ((b:Int)+(1:Int))=((b+1:Nat):Int):=by rw[zdL (by omega) (by omega)];omega
  have hlen:=hn.len
  obtain⟨r1,r2⟩:=zDo hn S0 P0 (ze7 S0 n k) (ze8 P0 n k) hab v n.Ties.len 0 Fuel (by omega) (by unfold Fuel;omega)
  have r1:zqO P0 (ze8 P0 n k) n (a:Int) (b:Int) false (0:Int) (a:Int) (b:Int) (-1000000000000:Int) (1000000000000:Int) v=_:=r1
  have r2:zqN S0 (ze7 S0 n k) n (a:Int) (b:Int) false (0:Int) (a:Int) (b:Int) (-1000000000000:Int) (1000000000000:Int) v=_:=r2
  show (_/\zhb P0 n (ze8 P0 n k) (a:Int) (b:Int) v=true/\zha S0 n (ze7 S0 n k) (a:Int) (b:Int) v=zHM)\/(_/\∃ v',_/\zhb P0 n (ze8 P0 n k) (a:Int) (b:Int) v=_/\zha S0 n (ze7 S0 n k) (a:Int) (b:Int) v=_)
  unfold zhb zha
  rw[hd,r1,r2]
  unfold znh zng
  rw[eb]
  have hrow:zsY n a b (m+1)=(if isR n a b then [zq4 n a b] else []) ++ zsY n a (b+1) m:=by
   unfold zsY
   rw[List.range'_succ,List.filter_cons]
   split <;> rfl
  by_cases hbad:badR n a b
  ·rw [dqT (show (spR n a b).1 > (spR n a b).2 from hbad)]
   exact .inl ⟨⟨b,dqt _,by omega,hbad⟩,rfl,rfl⟩
  ·rw [dqF (show ¬ (spR n a b).1 > (spR n a b).2 from hbad)]
   have hvl:=hv.1
   have step:∀ (v':Sl Tie) (A':List Tie),IsL v'.len v'.get A'->A'.length+m<=5000->A ++ zsY n a b (m+1)=A' ++ zsY n a (b+1) m ->
     ((∃ c,b<=c/\c < b+(m+1)/\badR n a c)/\ze8 P0 n k (a:Int) ((b+1:Nat):Int) v'=true/\ze7 S0 n k (a:Int) ((b+1:Nat):Int) v'=zHM) \/
     ((∀ c,b<=c->c < b+(m+1)->¬ badR n a c)/\∃ v'',IsL v''.len v''.get (A ++ zsY n a b (m+1))/\ze8 P0 n k (a:Int) ((b+1:Nat):Int) v'=P0 ((a+1:Nat):Int) v''/\ze7 S0 n k (a:Int) ((b+1:Nat):Int) v'=S0 ((a+1:Nat):Int) v''):=by
    intro v' A' hv' hA' he
    rcases zKR S0 P0 a m (b+1) k v' A' (by omega) (by omega) (by omega) (by omega) hv' hA' with ⟨⟨c,h1,h2,h3⟩,h4,h5⟩ | ⟨h1,v'',h2,h3,h4⟩
    ·exact .inl ⟨⟨c,by omega,by omega,h3⟩,h4,h5⟩
    ·refine .inr ⟨fun c h5 h6 => ?_, v'', by rw [he]; exact h2, h3, h4⟩
     by_cases e:c=b
     ·subst e;exact hbad
     ·exact h1 c (by omega) (by omega)
   cases hr:isR n a b
   ·exact step v A hv (by omega) (by rw[hrow,hr];rfl)
   ·rw [dqT (show (v.len + 1) * 32 ≤ 140737488355328 ∧ v.len + 1 ≤ 9223372036854775807 by omega)]
    refine step ⟨v.len+1,zgB v.len v.get (λ _=>zq4 n a b)⟩ (A ++ [zq4 n a b]) ⟨by show v.len+1=_;simp[hvl],λ q hq=>?_⟩ (by simp;omega) (by rw[hrow,hr,List.append_assoc];rfl)
    show (match Nat.ble v.len q with | true=>zq4 n a b | false=>v.get q)=_
    rw[dqu,List.length_singleton] at hq
    by_cases h:q < A.length
    ·rw [show Nat.ble v.len q = false from Bool.eq_false_iff.2 fun e => by have := Nat.le_of_ble_eq_true e; omega, List.getElem_append_left h]
     exact hv.2 q h
    ·rw [show Nat.ble v.len q = true from Nat.ble_eq_true_of_le (by omega), List.getElem_append_right (by omega)]
     simp
abbrev allL (n:Net) (a m:Nat):List Tie:=(List.range' a m).flatMap λ c=>zsY n c (c+1) (n.Nodes.toNat - (c+1))
theorem zB8 (a b m:Nat):(zsY n a b m).length<=m:=by
 unfold zsY
 rw[List.length_map]
 have:=List.length_filter_le (λ c=>isR n a c) (List.range' b m)
 rw[List.length_range'] at this;exact this
theorem zKS:∀ (m a k:Nat) (v:Sl Tie) (A:List Tie),a+m=n.Nodes.toNat->m < k->IsL v.len v.get A->A.length+m * 40<=4000 ->
  ((∃ c d,c < d/\d < n.Nodes.toNat/\badR n c d)/\zhd n k (a:Int) v=true/\zdr n k (a:Int) v=zHM) \/
  ((∀ c d,a<=c->c < d->d < n.Nodes.toNat->¬ badR n c d)/\zhd n k (a:Int) v=true/\(zdr n k (a:Int) v).2=true/\(zdr n k (a:Int) v).1.Nodes=n.Nodes/\IsL (zdr n k (a:Int) v).1.Ties.len (zdr n k (a:Int) v).1.Ties.get (A ++ allL n a m))
 | _,_,0,_,_,_,h,_,_=>absurd h (dqW _)
 | 0,a,k+1,v,A,ha,_,hv,_=>by
  have hn1:=hn.n1
  have hd:decide ((a:Int) < n.Nodes)=false:=dqF (by omega)
  show _\/(_/\zhc n _ (a:Int) v=true/\(zdq n _ (a:Int) v).2=true/\(zdq n _ (a:Int) v).1.Nodes=n.Nodes/\IsL (zdq n _ (a:Int) v).1.Ties.len (zdq n _ (a:Int) v).1.Ties.get _)
  unfold zhc zdq
  rw[hd]
  refine .inr ⟨λ c d h1 h2 h3=>by omega,rfl,rfl,rfl,?_⟩
  simpa [allL] using hv
 | m+1,a,k+1,v,A,ha,hk,hv,hA=>by
  have hn1:=hn.n1
  have hn40:=hn.n40
  have hd:decide ((a:Int) < n.Nodes)=true:=dqT (by omega)
  have ea:w64 ((a:Int)+(1:Int))=((a+1:Nat):Int):=by rw[zdL (by omega) (by omega)];omega
  show (_/\zhc n (zhd n k) (a:Int) v=true/\zdq n (zdr n k) (a:Int) v=zHM)\/(_/\zhc n (zhd n k) (a:Int) v=true/\(zdq n (zdr n k) (a:Int) v).2=true/\(zdq n (zdr n k) (a:Int) v).1.Nodes=n.Nodes/\IsL (zdq n (zdr n k) (a:Int) v).1.Ties.len (zdq n (zdr n k) (a:Int) v).1.Ties.get _)
  unfold zhc zdq zqR zqQ
  rw[hd,ea]
  simp only[dqA]
  rcases zKR hn (zdr n k) (zhd n k) a (n.Nodes.toNat - (a+1)) (a+1) Fuel v A (by omega) (by omega) (by omega) (by unfold Fuel;omega) hv (by omega) with ⟨⟨c,h1,h2,h3⟩,h4,h5⟩ | ⟨h1,v',h2,h3,h4⟩
  ·rw [h4, h5]
   exact .inl ⟨⟨a,c,by omega,by omega,h3⟩,rfl,rfl⟩
  ·rw [h3, h4]
   have hl:=zB8 hn a (a+1) (n.Nodes.toNat - (a+1))
   have he:A ++ allL n a (m+1)=(A ++ zsY n a (a+1) (n.Nodes.toNat - (a+1))) ++ allL n (a+1) m:=by
    unfold allL
    rw[List.range'_succ,dqJ,List.append_assoc]
   rcases zKS m (a+1) k v' _ (by omega) (by omega) h2 (by rw[dqu];omega) with ⟨h5,h6,h7⟩ | ⟨h5,h6,h7,h8,h9⟩
   ·exact .inl ⟨h5,h6,h7⟩
   ·refine .inr ⟨fun c d hc hcd hd => ?_, h6, h7, h8, by rw [he]; exact h9⟩
    by_cases e:c=a
    ·subst e;exact h1 d (by omega) (by omega)
    ·exact h5 c d (by omega) hcd hd
theorem zKT : p65 n = true ∧ (((∃ c d, c < d ∧ d < n.Nodes.toNat ∧ badR n c d) ∧ s65 n = zHM) ∨
  ((∀ c d,c < d->d < n.Nodes.toNat->¬ badR n c d)/\(s65 n).2=true/\(s65 n).1.Nodes=n.Nodes/\IsL (s65 n).1.Ties.len (s65 n).1.Ties.get (allL n 0 n.Nodes.toNat))):=by
 have hn40:=hn.n40
 rcases zKS hn n.Nodes.toNat 0 Fuel ⟨0,λ _=>default⟩ [] (by omega) (by unfold Fuel;omega) ⟨rfl,λ k hk=>absurd hk (dqW _)⟩ (by show 0+_<=_;omega) with ⟨h1,h2,h3⟩ | ⟨h1,h2,h3,h4,h5⟩
 ·exact⟨h2,.inl ⟨h1,h3⟩⟩
 ·exact⟨h2,.inr ⟨λ c d=>h1 c d (Nat.zero_le _),h3,h4,by rw[List.nil_append] at h5;exact h5⟩⟩
end
end Go.Proofs
namespace Go.Proofs
open Go Go.Pm
set_option maxRecDepth 100000
set_option linter.unusedVariables false
theorem zDp {x y:Net}{L:List Tie}(hx:IsL x.Ties.len x.Ties.get L) (hy:IsL y.Ties.len y.Ties.get L) (hN:x.Nodes=y.Nodes) (hl:L.length<=1000000):p42 x y=true/\s42 x y=true:=by
  have e:x.Ties.len=y.Ties.len:=hx.1.trans hy.1.symm
  have hxl:=hx.1
  have eg:∀ i,i < x.Ties.len->y.Ties.get i=x.Ties.get i:=λ i hi=>by rw[hx.2 i (by omega),hy.2 i (by omega)]
  have := zfJ (good := fun _ => true) (fin := true) (n := x.Ties.len) (lpS := zix x y) (lpP := ziy x y)
    (λ k i hi=>by
      show ziv x y (zix x y k) (i:Int)=_
      generalize zix x y k=S
      unfold ziv
      rw[dqT (show (i:Int) < (x.Ties.len:Int) by omega),dqA,show y.Ties.get ((i:Int)).toNat=x.Ties.get ((i:Int)).toNat from eg i hi,beq_self_eq_true,beq_self_eq_true,beq_self_eq_true,beq_self_eq_true];rfl)
    (λ k=>by
      show ziv x y (zix x y k) (x.Ties.len:Int)=_
      unfold ziv
      rw[dqF (show ¬ (x.Ties.len:Int) < (x.Ties.len:Int) by omega),dqB])
    (λ k i hi=>by
      show ziw x y (ziy x y k) (i:Int)=_
      generalize ziy x y k=S
      unfold ziw
      rw[dqT (show (i:Int) < (x.Ties.len:Int) by omega),dqA,dqT (show 0<=(i:Int)/\(i:Int) < (x.Ties.len:Int) by omega),dqT (show 0<=(i:Int)/\(i:Int) < (y.Ties.len:Int) by omega),Bool.true_and,Bool.true_and,show y.Ties.get ((i:Int)).toNat=x.Ties.get ((i:Int)).toNat from eg i hi,beq_self_eq_true,beq_self_eq_true,beq_self_eq_true,beq_self_eq_true];rfl)
    (λ k=>by
      show ziw x y (ziy x y k) (x.Ties.len:Int)=_
      unfold ziw
      rw[dqF (show ¬ (x.Ties.len:Int) < (x.Ties.len:Int) by omega),dqB])
    (by omega)
  have h1:zqy x y=true:=this.2.2 ⟨λ _ _=>rfl,rfl⟩
  unfold p42 s42
  rw[hN,e,bne_self_eq_false,dqB,dqB,bne_self_eq_false,dqB,dqB,h1]
  exact⟨this.1,rfl⟩
section
variable {n:Net}(hn:NetOk n)
include hn
omit hn in
theorem zjq {x:Tie} : x∈allL n 0 n.Nodes.toNat↔∃ a b:Nat,a < b/\b < n.Nodes.toNat/\isR n a b=true/\x=zq4 n a b:=by
 unfold allL zsY
 simp only[dqo,dqz,List.mem_filter,List.mem_range'_1]
 constructor
 ·rintro⟨a,ha,b,⟨hb,h⟩,rfl⟩;exact⟨a,b,by omega,by omega,h,rfl⟩
 ·rintro⟨a,b,hab,hb,h,rfl⟩;exact⟨a,by omega,b,⟨by omega,h⟩,rfl⟩
omit hn in
theorem zsZ:(allL n 0 n.Nodes.toNat).Pairwise ztL:=by
 unfold allL zsY
 rw[List.pairwise_flatMap]
 refine⟨λ a _=>?_,(List.pairwise_lt_range' (s:=0) (n:=n.Nodes.toNat)).imp fun {a b} h x hx y hy=>?_⟩
 ·rw [List.pairwise_map]
  exact (List.Pairwise.filter _ (List.pairwise_lt_range' (s:=a+1) (n:=n.Nodes.toNat - (a+1)))).imp fun {c d} h=>.inr ⟨rfl,by show (c:Int) < (d:Int);omega⟩
 ·obtain ⟨c, _, rfl⟩ := dqz.1 hx
  obtain⟨d,_,rfl⟩:=dqz.1 hy
  exact .inl (by show (a:Int) < (b:Int);omega)
omit hn in
theorem zlX {L:List Tie}(h:L.Pairwise ztL):L.Nodup:=h.imp fun {x y} h e=>by subst e;unfold ztL at h;omega
theorem zOt {N:Nat}{F:List Int->Option (List Int)}(hM:MgOk n n.Ties.len N F){W:List Tie}(hp:W.Perm ((zeq F).map (zg6 F))) (hw:W.Pairwise ztL):W=allL n 0 n.Nodes.toNat:=by
 refine List.Perm.eq_of_pairwise (le:=ztL) (λ x y _ _ h1 h2=>?_) hw zsZ ((List.perm_ext_iff_of_nodup (zlX hw) (zlX zsZ)).2 λ x=>?_)
 ·unfold ztL at h1 h2;omega
 ·rw [hp.mem_iff, dqz, zjq]
  constructor
  ·rintro ⟨y, hy, rfl⟩
   obtain⟨a,b,hab,hb,h,rfl⟩:=(zhe hn hM).1 hy
   exact⟨a,b,hab,hb,h,(ziJ hn hM hab h).1⟩
  ·rintro ⟨a, b, hab, hb, h, rfl⟩
   exact⟨_,(zhe hn hM).2 ⟨a,b,hab,hb,h,rfl⟩,(ziJ hn hM hab h).1⟩
theorem zKU {v:Sl Int}(h:AgOk n v){a b:Nat}(hab:a < b):KpS (spR n a b) (v.get b - v.get a) :=
 (zAk hn a b _ n.Ties.len (dqt _)).2 λ j hj hh=>(zsW hj v hab hh).1 (h.keep j hj)
theorem zMH {a b:Nat}(hab:a < b) (hb:badR n a b) (v:Sl Int) : ¬ AgOk n v:=λ h=>by
 have h1:=zKU hn h hab
 have h2:SpB (spR n a b):=zB5 hn a b n.Ties.len (dqt _)
 have hb:(spR n a b).1 > (spR n a b).2:=hb
 unfold KpS at h1
 unfold SpB at h2
 omega
section
variable {m:Net}(hm:IsL m.Ties.len m.Ties.get (allL n 0 n.Nodes.toNat)) (hN:m.Nodes=n.Nodes) (hgood:∀ a b,a < b->b < n.Nodes.toNat->¬ badR n a b)
include hm hN hgood
theorem zMI (hl:(allL n 0 n.Nodes.toNat).length<=200):NetOk m:=by
 have hn1:=hn.n1
 refine⟨by rw[hN];exact hn.n1,by rw[hN];exact hn.n40,by rw[hm.1];exact hl,λ i hi=>?_⟩
 have hil:i < (allL n 0 n.Nodes.toNat).length:=by rw[<- hm.1];exact hi
 rw[hm.2 i hil]
 obtain⟨a,b,hab,hb,h,e⟩:=zjq.1 (List.getElem_mem hil)
 rw[e,hN]
 have hs:=zB5 hn a b n.Ties.len (dqt _)
 have hg : ¬ (spR n a b).1 > (spR n a b).2:=hgood a b hab hb
 exact⟨by show (0:Int)<=(a:Int);omega,by show (a:Int) < _;omega,by show (0:Int)<=(b:Int);omega,by show (b:Int) < _;omega,by show (a:Int) ≠ (b:Int);omega,hs.1,hs.2,by show (spR n a b).1<=(spR n a b).2;omega⟩
theorem zKV (v:Sl Int):AgOk m v↔AgOk n v:=by
 constructor
 ·intro h
  refine⟨⟨by rw[<- hN];exact h.val.len,h.val.zero,h.val.b⟩,λ i hi=>?_⟩
  obtain⟨a,b,hab,hb,hh⟩:=zDm hn hi
  have hr:isR n a b=true:=(zno hn a b n.Ties.len (dqt _)).2 ⟨i,hi,hh⟩
  obtain⟨k,hk,e⟩:=List.getElem_of_mem (zjq.2 ⟨a,b,hab,hb,hr,rfl⟩)
  have hkp:=h.keep k (by rw[hm.1];exact hk)
  rw[hm.2 k hk,e] at hkp
  have hkp:KpS (spR n a b) (v.get b - v.get a):=hkp
  exact (zsW hi v hab hh).2 ((zAk hn a b _ n.Ties.len (dqt _)).1 hkp i hi hh)
 ·intro h
  refine⟨⟨by rw[hN];exact h.val.len,h.val.zero,h.val.b⟩,λ i hi=>?_⟩
  have hil:i < (allL n 0 n.Nodes.toNat).length:=by rw[<- hm.1];exact hi
  rw[hm.2 i hil]
  obtain⟨a,b,hab,hb,hr,e⟩:=zjq.1 (List.getElem_mem hil)
  rw[e]
  exact zKU hn h hab
end
end
theorem zAm {n:Net}(hl:n.Ties.len<=210) (v:Sl Int) (hv:v.len<=50):znl n v=true/\znk n v=true:=by
 obtain⟨a1,a2⟩:=zAg n (by omega)
 obtain⟨b1,b2⟩:=zKH n (by omega)
 have hemp:p42 (⟨(0:Int),(⟨0,λ _=>default⟩:(Sl Tie))⟩:Net) (⟨(0:Int),(⟨0,λ _=>default⟩:(Sl Tie))⟩:Net)=true/\s42 (⟨(0:Int),(⟨0,λ _=>default⟩:(Sl Tie))⟩:Net) (⟨(0:Int),(⟨0,λ _=>default⟩:(Sl Tie))⟩:Net)=true :=
  zDp (L:=[]) ⟨rfl,λ k h=>absurd h (dqW _)⟩ ⟨rfl,λ k h=>absurd h (dqW _)⟩ rfl (Nat.zero_le _)
 unfold znl znk zq2 zq1
 cases hs:s67 n
 ·have e:p64 n=true/\s64 n=((⟨(0:Int),(⟨0,λ _=>default⟩:(Sl Tie))⟩:Net),(2:Int)):=by
   unfold p64 s64
   rw[a1,hs]
   exact⟨rfl,rfl⟩
  rw[e.1,e.2,b1,b2,hs]
  unfold znj zni
  rw[show ((((⟨(0:Int),(⟨0,λ _=>default⟩:(Sl Tie))⟩:Net),(2:Int)).2 == (2:Int)))=true from rfl,hemp.1,hemp.2]
  exact⟨rfl,rfl⟩
 ·have hn := a2.1 hs
  obtain⟨N,F,hM,l1,l2⟩:=zsX hn n.Ties.len 0 Fuel 0 (λ _=>none) (by omega) (by unfold Fuel;omega) (zB6 hn)
  have e1:p64 n=zg7 n N F/\s64 n=zdR n N F:=by
   unfold p64 s64
   rw[a1,hs,dqT (show true=true from rfl),Bool.true_and]
   exact⟨l1,l2⟩
  obtain⟨c1,c2⟩:=zHL hn hM
  obtain⟨d1,d2⟩:=zKT hn
  obtain⟨f1,f2⟩:=zHz n v hn (by omega)
  rw[e1.1,e1.2,c1,b1,b2,hs]
  unfold znj zni zq0 zqZ zqY zqX
  rw[d1]
  rcases c2 with ⟨⟨a,b,hab,hb,hbad⟩,g1⟩ | ⟨g0,g1,g2,W,g3,g4,g5⟩
  ·rcases d2 with ⟨_, g2⟩ | ⟨g2, _⟩
   ·have h38 : s38 n v = false := Bool.eq_false_iff.2 fun e => zMH hn hab hbad v (f2.1 e)
    rw[g1,g2]
    unfold zBY zHM
    rw[show ((((⟨(0:Int),(⟨0,λ _=>default⟩:(Sl Tie))⟩:Net),(5:Int)).2 == (5:Int)))=true from rfl,hemp.1,hemp.2,f1,h38]
    exact⟨rfl,rfl⟩
   ·exact absurd hbad (g2 a b hab hb)
  ·rcases d2 with ⟨⟨a, b, hab, hb, hbad⟩, _⟩ | ⟨_, k1, k2, k3⟩
   ·exact absurd hbad (g0 a b hab hb)
   ·have hW := zOt hn hM g4 g5
    have hWl:W.length<=200:=by
     rw[g4.length_eq,List.length_map,<- hM.num]
     exact dqE hM.few hn.len
    rw[hW] at g3 hWl
    generalize zdR n N F=x at g1 g2 g3 ⊢
    generalize s65 n=y at k1 k2 k3 ⊢
    obtain⟨h1,h2⟩:=zDp g3 k3 (g2.trans k2.symm) (by omega)
    have hnm:=zMI hn g3 g2 g0 hWl
    have hml:=hnm.len
    have h67:=(zAg x.1 (by omega)).2.2 hnm
    obtain⟨m1,m2⟩:=zHA x.1 v hnm h67 (by omega)
    have heq:s48 x.1 v=s38 n v:=by rw[Bool.eq_iff_iff,m2,f2];exact zKV hn g3 g2 g0 v
    have h1:p42 (⟨x.1.Nodes,x.1.Ties⟩:Net) (⟨y.1.Nodes,y.1.Ties⟩:Net)=true:=h1
    have h2:s42 (⟨x.1.Nodes,x.1.Ties⟩:Net) (⟨y.1.Nodes,y.1.Ties⟩:Net)=true:=h2
    have m1:p48 (⟨x.1.Nodes,x.1.Ties⟩:Net) v=true:=m1
    have heq:s48 (⟨x.1.Nodes,x.1.Ties⟩:Net) v=s38 n v:=heq
    unfold zqW zqV
    rw[g1,k1,h1,h2,m1,f1,heq]
    cases s38 n v <;> exact⟨rfl,rfl⟩
theorem merges_true (n:Net) (v:Sl Int):p19 n v=true/\s19 n v=true:=by
 unfold p19 s19
 by_cases h:s20 n 20=true
 ·have hl := zAh h (by omega)
  rw[h,show (!true)=false from rfl,dqB,dqB]
  by_cases hv:(v.len:Int) > (50:Int)
  ·rw [dqT hv]
   exact⟨rfl,rfl⟩
  ·rw [dqF hv]
   unfold znn znm
   exact zAm hl v (by omega)
 ·rw [Bool.eq_false_iff.2 h]
  exact⟨rfl,rfl⟩
end Go.Proofs
