/- Part 7 of what the proof rests on: a machine that runs functions of the program on pure values, proved sound; the functions that the law reaches, and what they compute. -/
import Derived.Test.YtldchibepobgnaaQ6
set_option linter.all false
namespace Go.Pm
open Go

theorem zcQ {x:Int}(h1 : -9223372036854775808<=x) (h2:x<=9223372036854775807):w64 x=x:=by
 have hb:IntKind.i64.bits=64:=rfl
 have hs:IntKind.i64.signed=true:=rfl
 unfold w64 IntKind.wrap
 rw[hb,hs]
 simp only[Bool.true_and,decide_eq_true_eq]
 split <;> omega
theorem dqT {p:Prop} [Decidable p] (h:p):decide p=true:=decide_eq_true h
theorem dqF {p:Prop} [Decidable p] (h : ¬ p):decide p=false:=decide_eq_false h
theorem dqA {α:Type}(a b:α):cond true a b=a:=rfl
theorem dqB {α:Type}(a b:α):cond false a b=b:=rfl
theorem dqN (n:Nat):((n:Nat):Int).toNat=n:=Int.toNat_natCast n
theorem dqP {c:Prop}{h:Decidable c}(hc:c){α:Type}{t e:α} : ite c t e=t:=if_pos hc
theorem dqG {c:Prop}{h:Decidable c}(hc : ¬ c){α:Type}{t e:α} : ite c t e=e:=if_neg hc
def zQD (c : Nat → Bool) : Nat → Nat → Nat
  | 0,i=>i
  | m+1,i=>match c i with | true=>i | false=>zQD c m (i+1)
def fst (c:Nat->Bool) (n:Nat):Nat:=zQD c n 0
theorem zgj {good : Nat → Bool} {fin : Bool} {n : Nat} {lpS lpP : Nat → Int → Bool}
    (hS:∀ (k i:Nat),i < n->lpS (k+1) (i:Int)=cond (good i) (lpS k (w64 ((i:Int)+(1:Int)))) false)
    (hE:∀ k,lpS (k+1) (n:Int)=fin)
    (hP:∀ (k i:Nat),i < n->lpP (k+1) (i:Int)=cond (good i) (lpP k (w64 ((i:Int)+(1:Int)))) true)
    (hPE:∀ k,lpP (k+1) (n:Int)=true) (hn:n<=9223372036854775807) :
    lpP Fuel 0=true/\(lpS Fuel 0=true↔(∀ i,i < n->good i=true)/\fin=true):=by
  have key:∀ (m k i:Nat),i+m=n->m < k->lpP k (i:Int)=true/\(lpS k (i:Int)=true↔(∀ j,i<=j->j < n->good j=true)/\fin=true):=by
    intro m
    induction m with
    | zero =>
      intro k i hi hk
      obtain⟨k,rfl⟩:∃ k',k=k'+1:=⟨k - 1,by omega⟩
      have:i=n:=by omega
      subst this
      rw[hE,hPE]
      exact⟨rfl,⟨λ h=>⟨λ j h1 h2=>absurd h2 (by omega),h⟩,λ h=>h.2⟩⟩
    | succ m ih =>
      intro k i hi hk
      obtain⟨k,rfl⟩:∃ k',k=k'+1:=⟨k - 1,by omega⟩
      rw[hS k i (by omega),hP k i (by omega)]
      have e3:w64 ((i:Int)+1)=((i+1:Nat):Int):=by rw[zcQ (by omega) (by omega)];omega
      rw[e3]
      obtain⟨h1,h2⟩:=ih k (i+1) (by omega) (by omega)
      cases hg:good i
      · refine ⟨rfl, ⟨fun h => (by cases h), fun h => ?_⟩⟩
        have:=h.1 i (dqt _) (by omega)
        rw[hg] at this;cases this
      · refine ⟨h1, h2.trans ⟨fun h => ⟨fun j hj1 hj2 => ?_, h.2⟩, fun h => ⟨fun j hj1 hj2 => h.1 j (by omega) hj2, h.2⟩⟩⟩
        by_cases hji:j=i
        · rw[hji];exact hg
        · exact h.1 j (by omega) hj2
  have:=key n Fuel 0 (by omega) (by simp only[Fuel];omega)
  simpa using this

end Go.Pm
namespace Go.Pm
open Go
theorem zuX {i n:Nat}(h:i < n) (hn:n<=9223372036854775807):w64 ((i:Int)+(1:Int))=((i+1:Nat):Int):=by
 rw[zcQ (by omega) (by omega)];omega
theorem zCl {β : Type} {good : Nat → Bool} {bad fin : β} {finP : Bool} {n : Nat} {lpS : Nat → Int → β} {lpP : Nat → Int → Bool}
    (hS:∀ (k i:Nat),i < n->lpS (k+1) (i:Int)=cond (good i) (lpS k (w64 ((i:Int)+(1:Int)))) bad)
    (hE:∀ k,lpS (k+1) (n:Int)=fin)
    (hP:∀ (k i:Nat),i < n->lpP (k+1) (i:Int)=cond (good i) (lpP k (w64 ((i:Int)+(1:Int)))) true)
    (hPE:∀ k,lpP (k+1) (n:Int)=finP) (hn:n<=9223372036854775807) :
    ((∀ i,i < n->good i=true)->lpP Fuel 0=finP/\lpS Fuel 0=fin)/\((¬ ∀ i,i < n->good i=true)->lpP Fuel 0=true/\lpS Fuel 0=bad):=by
  have key:∀ (m k i:Nat),i+m=n->m < k->((∀ j,i<=j->j < n->good j=true)->lpP k (i:Int)=finP/\lpS k (i:Int)=fin)/\((¬ ∀ j,i<=j->j < n->good j=true)->lpP k (i:Int)=true/\lpS k (i:Int)=bad):=by
    intro m
    induction m with
    | zero =>
      intro k i hi hk
      obtain⟨k,rfl⟩:∃ k',k=k'+1:=⟨k - 1,by omega⟩
      have:i=n:=by omega
      subst this
      rw[hE,hPE]
      exact⟨λ _=>⟨rfl,rfl⟩,λ h=>absurd (λ j h1 h2=>absurd h2 (by omega)) h⟩
    | succ m ih =>
      intro k i hi hk
      obtain⟨k,rfl⟩:∃ k',k=k'+1:=⟨k - 1,by omega⟩
      rw[hS k i (by omega),hP k i (by omega),zuX (n:=n) (by omega) hn]
      obtain⟨h1,h2⟩:=ih k (i+1) (by omega) (by omega)
      cases hg:good i
      · refine ⟨fun h => ?_, fun _ => ⟨rfl, rfl⟩⟩
        have:=h i (dqt _) (by omega)
        rw[hg] at this;cases this
      · refine ⟨fun h => h1 fun j a b => h j (by omega) b, fun h => h2 fun h' => h fun j a b => ?_⟩
        by_cases hji:j=i
        · rw[hji];exact hg
        · exact h' j (by omega) b
  have:=key n Fuel 0 (by omega) (by simp only[Fuel];omega)
  simpa using this
end Go.Pm
namespace Go.Proofs
open Go Go.Pm
set_option maxRecDepth 100000
set_option linter.unusedVariables false
structure TrOk (n : Nat) (T : Scanner) : Prop where
  nl:T.Next.len=n
  ol:T.Out.len=n
  nx:∀ i,i < n->T.Next.get i=((0:Int),((min (i+1) (n - 1):Nat):Int))
  ot:∀ i,i < n->T.Out.get i=(false,decide (i+1=n))
theorem tr1:p7 1 0=true/\(s7 1 0).2=0/\TrOk 1 (s7 1 0).1 :=
 ⟨by kernel_rfl,by kernel_rfl,by kernel_rfl,by kernel_rfl,λ i h=>match i,h with
  | 0,_=>by kernel_rfl
  | _+1,h=>absurd h (by omega),λ i h=>match i,h with
  | 0,_=>by kernel_rfl
  | _+1,h=>absurd h (by omega)⟩
theorem tr2:p7 2 0=true/\(s7 2 0).2=0/\TrOk 2 (s7 2 0).1 :=
 ⟨by kernel_rfl,by kernel_rfl,by kernel_rfl,by kernel_rfl,λ i h=>match i,h with
  | 0,_=>by kernel_rfl
  | 1,_=>by kernel_rfl
  | _+2,h=>absurd h (by omega),λ i h=>match i,h with
  | 0,_=>by kernel_rfl
  | 1,_=>by kernel_rfl
  | _+2,h=>absurd h (by omega)⟩
theorem tr3:p7 3 0=true/\(s7 3 0).2=0/\TrOk 3 (s7 3 0).1 :=
 ⟨by kernel_rfl,by kernel_rfl,by kernel_rfl,by kernel_rfl,λ i h=>match i,h with
  | 0,_=>by kernel_rfl
  | 1,_=>by kernel_rfl
  | 2,_=>by kernel_rfl
  | _+3,h=>absurd h (by omega),λ i h=>match i,h with
  | 0,_=>by kernel_rfl
  | 1,_=>by kernel_rfl
  | 2,_=>by kernel_rfl
  | _+3,h=>absurd h (by omega)⟩
theorem tr4:p7 4 0=true/\(s7 4 0).2=0/\TrOk 4 (s7 4 0).1 :=
 ⟨by kernel_rfl,by kernel_rfl,by kernel_rfl,by kernel_rfl,λ i h=>match i,h with
  | 0,_=>by kernel_rfl
  | 1,_=>by kernel_rfl
  | 2,_=>by kernel_rfl
  | 3,_=>by kernel_rfl
  | _+4,h=>absurd h (by omega),λ i h=>match i,h with
  | 0,_=>by kernel_rfl
  | 1,_=>by kernel_rfl
  | 2,_=>by kernel_rfl
  | 3,_=>by kernel_rfl
  | _+4,h=>absurd h (by omega)⟩
theorem tr5:p7 5 0=true/\(s7 5 0).2=0/\TrOk 5 (s7 5 0).1 :=
 ⟨by kernel_rfl,by kernel_rfl,by kernel_rfl,by kernel_rfl,λ i h=>match i,h with
  | 0,_=>by kernel_rfl
  | 1,_=>by kernel_rfl
  | 2,_=>by kernel_rfl
  | 3,_=>by kernel_rfl
  | 4,_=>by kernel_rfl
  | _+5,h=>absurd h (by omega),λ i h=>match i,h with
  | 0,_=>by kernel_rfl
  | 1,_=>by kernel_rfl
  | 2,_=>by kernel_rfl
  | 3,_=>by kernel_rfl
  | 4,_=>by kernel_rfl
  | _+5,h=>absurd h (by omega)⟩
theorem zP6 {n:Int}(h1:1<=n) (h5:n<=5):p7 n 0=true/\(s7 n 0).2=0/\TrOk n.toNat (s7 n 0).1:=by
 obtain rfl | rfl | rfl | rfl | rfl:n=1\/n=2\/n=3\/n=4\/n=5:=by omega
 ·exact tr1
 ·exact tr2
 ·exact tr3
 ·exact tr4
 ·exact tr5
end Go.Proofs
namespace Go.Proofs
open Go Go.Pm
set_option maxRecDepth 100000
set_option linter.unusedVariables false
theorem go_loop {σ β : Type} {Inv : Nat → σ → Prop} {Q : β → Bool → Prop} {a n : Nat} {lpS : Nat → σ → Int → β} {lpP : Nat → σ → Int → Bool}
    (h:∀ (k i:Nat) (s:σ),a<=i->i < n->Inv i s->Q (lpS (k+1) s (i:Int)) (lpP (k+1) s (i:Int))\/∃ s',Inv (i+1) s'/\lpS (k+1) s (i:Int)=lpS k s' (w64 ((i:Int)+(1:Int)))/\lpP (k+1) s (i:Int)=lpP k s' (w64 ((i:Int)+(1:Int))))
    (hE:∀ k s,Inv n s->Q (lpS (k+1) s (n:Int)) (lpP (k+1) s (n:Int))) (ha:a<=n) (hn:n<=9223372036854775807) (s:σ) (h0:Inv a s) :
    Q (lpS Fuel s (a:Int)) (lpP Fuel s (a:Int)):=by
  have key:∀ (m k i:Nat) (s:σ),a<=i->i+m=n->m < k->Inv i s->Q (lpS k s (i:Int)) (lpP k s (i:Int)):=by
    intro m
    induction m with
    | zero =>
      intro k i s h1 hi hk h2
      obtain⟨k,rfl⟩:∃ k',k=k'+1:=⟨k - 1,by omega⟩
      have:i=n:=by omega
      subst this
      exact hE k s h2
    | succ m ih =>
      intro k i s h1 hi hk h2
      obtain⟨k,rfl⟩:∃ k',k=k'+1:=⟨k - 1,by omega⟩
      rcases h k i s h1 (by omega) h2 with q | ⟨s',h3,h4,h5⟩
      · exact q
      · rw [h4, h5, zuX (n := n) (by omega) hn]
        exact ih k (i+1) s' (by omega) (by omega) (by omega) h3
  exact key (n - a) Fuel a s (dqt _) (by omega) (by simp only[Fuel];omega) h0
def gr (f : Nat → Bool) : Nat → Nat
  | 0=>0
  | i+1=>cond (f i) (gr f i+1) 0
theorem zFy (f:Nat->Bool) (n i:Nat):n<=gr f i↔n<=i/\∀ k,i<=k+n->k < i->f k=true:=by
 induction i generalizing n with
 | zero=>exact⟨λ h=>⟨h,λ k _ h=>absurd h (by omega)⟩,λ h=>h.1⟩
 | succ i ih =>
  rw[gr]
  cases n with
  | zero=>exact⟨λ _=>⟨by omega,λ k a b=>absurd a (by omega)⟩,λ _=>by omega⟩
  | succ n =>
   cases hf:f i
   ·refine ⟨fun h => absurd h (by rw [dqB]; omega), fun h => ?_⟩
    have:=h.2 i (by omega) (by omega);rw[hf] at this;cases this
   ·rw [dqA, Nat.add_le_add_iff_right, ih]
    refine⟨λ h=>⟨by omega,λ k a b=>?_⟩,λ h=>⟨by omega,λ k a b=>h.2 k (by omega) (by omega)⟩⟩
    by_cases e:k=i
    ·rw[e];exact hf
    ·exact h.2 k (by omega) (by omega)
theorem zCm (n a b:Int):s21 n a b=decide (a<=n/\n<=b):=by
 unfold s21
 by_cases h:a<=n
 ·rw[dqT (show n >= a from h),dqA];exact decide_eq_decide.2 ⟨λ k=>⟨h,k⟩,λ k=>k.2⟩
 ·rw[dqF (show ¬ n >= a from h),dqB];exact (dqF (λ k=>h k.1)).symm
theorem zNG {n:Nat}{T:Scanner}(h1:1<=n) (h5:n<=5) (h:TrOk n T):p24 T=true/\s24 T=true:=by
  have hn:=h.nl
  have hl := zgj (good := fun i => s21 (T.Next.get i).1 (0:Int) (w64 ((T.Next.len : Int) - (1:Int))) && s21 (T.Next.get i).2 (0:Int) (w64 ((T.Next.len : Int) - (1:Int)))) (fin := zpl T.Next T.Out) (n := T.Next.len) (lpS := fun k i => zjt k T.Next (T.Next.len : Int) i T.Next T.Out) (lpP := fun k i => zju k T.Next (T.Next.len : Int) i T.Next T.Out)
    (λ k i hi=>by
      show zkX (zjt k) T.Next (T.Next.len:Int) (i:Int) T.Next T.Out=cond _ (zjt k T.Next (T.Next.len:Int) (w64 ((i:Int)+(1:Int))) T.Next T.Out) false
      generalize zjt k=S
      unfold zkX zpm
      rw[dqT (show (i:Int) < (T.Next.len:Int) by omega),dqA,dqN]
      cases s21 (T.Next.get i).1 (0:Int) (w64 ((T.Next.len:Int) - (1:Int))) <;> cases s21 (T.Next.get i).2 (0:Int) (w64 ((T.Next.len:Int) - (1:Int))) <;> rfl)
    (λ k=>by
      show zkX (zjt k) T.Next (T.Next.len:Int) (T.Next.len:Int) T.Next T.Out=_
      unfold zkX
      rw[dqF (show ¬ (T.Next.len:Int) < (T.Next.len:Int) by omega),dqB])
    (λ k i hi=>by
      show zkY (zju k) T.Next (T.Next.len:Int) (i:Int) T.Next T.Out=cond _ (zju k T.Next (T.Next.len:Int) (w64 ((i:Int)+(1:Int))) T.Next T.Out) true
      generalize zju k=S
      unfold zkY zpn
      rw[dqT (show (i:Int) < (T.Next.len:Int) by omega),dqA,dqN,dqT (show 0<=(i:Int)/\(i:Int) < (T.Next.len:Int) by omega),Bool.true_and]
      cases s21 (T.Next.get i).1 (0:Int) (w64 ((T.Next.len:Int) - (1:Int))) <;> cases s21 (T.Next.get i).2 (0:Int) (w64 ((T.Next.len:Int) - (1:Int))) <;> rfl)
    (λ k=>by
      show zkY (zju k) T.Next (T.Next.len:Int) (T.Next.len:Int) T.Next T.Out=_
      unfold zkY
      rw[dqF (show ¬ (T.Next.len:Int) < (T.Next.len:Int) by omega),dqB])
    (by omega)
  refine⟨hl.1,hl.2.2 ⟨λ i hi=>?_,?_⟩⟩
  · rw [h.nx i (by omega), zCm, zCm, zcQ (by omega) (by omega), dqm, decide_eq_true_eq, decide_eq_true_eq]
    have:=Nat.min_le_right (i+1) (n - 1)
    exact⟨by show (0:Int)<=0/\(0:Int)<=_;omega,by show (0:Int)<=((min (i+1) (n - 1):Nat):Int)/\((min (i+1) (n - 1):Nat):Int)<=_;omega⟩
  · unfold zpl
    rw[zCm,hn,h.ol,dqT (by omega),dqA,beq_self_eq_true]
def Told (n:Nat) (cells:Sl Bool) (r:Sl Bool×Int):Prop:=r.2=0/\r.1.len=cells.len/\∀ i,i < cells.len->r.1.get i=decide (n<=gr cells.get (i+1))
theorem zP7 {n:Nat}{T:Scanner}(h1:1<=n) (h5:n<=5) (h:TrOk n T) (cells:Sl Bool) (hc:cells.len<=100):p8 T cells=true/\Told n cells (s8 T cells):=by
  obtain⟨g1,g2⟩:=zNG h1 h5 h
  have hl := go_loop (σ := Int × Sl Bool) (β := Sl Bool × Int) (Inv := fun i s => s.1 = ((min (gr cells.get i) (n - 1) : Nat) : Int) ∧ s.2.len = i ∧ ∀ j, j < i → s.2.get j = decide (n ≤ gr cells.get (j + 1)))
    (Q:=λ r b=>b=true/\Told n cells r) (a:=0) (n:=cells.len) (lpS:=λ k s i=>zm6 cells k s.1 i T.Next T.Out s.2) (lpP:=λ k s i=>zm7 cells k s.1 i T.Next T.Out s.2)
    (λ k i s _ hi hI=>by
      obtain⟨c,v⟩:=s
      obtain⟨e1,e2,e3⟩:=hI
      have e1:c=((min (gr cells.get i) (n - 1):Nat):Int):=e1
      have e2:v.len=i:=e2
      have e3:∀ j,j < i->v.get j=decide (n<=gr cells.get (j+1)):=e3
      have m1:=Nat.min_le_left (gr cells.get i) (n - 1)
      have m2:=Nat.min_le_right (gr cells.get i) (n - 1)
      have hm:min (gr cells.get i) (n - 1) < n:=by omega
      have bO:0<=c/\c < (T.Out.len:Int):=by rw[h.ol];omega
      have bN:0<=c/\c < (T.Next.len:Int):=by rw[h.nl];omega
      have bL:(v.len+1) * 1<=140737488355328/\v.len+1<=9223372036854775807:=by omega
      have hc':c.toNat=min (gr cells.get i) (n - 1):=by omega
      have hO:=h.ot _ hm
      have hN:=h.nx _ hm
      refine .inr ?_
      show ∃ s':Int×Sl Bool,_/\zoh cells (zm6 cells k) c (i:Int) T.Next T.Out v=zm6 cells k s'.1 (w64 ((i:Int)+(1:Int))) T.Next T.Out s'.2/\zoi cells (zm7 cells k) c (i:Int) T.Next T.Out v=zm7 cells k s'.1 (w64 ((i:Int)+(1:Int))) T.Next T.Out s'.2
      generalize zm6 cells k=S
      generalize zm7 cells k=P
      unfold zoh zoi zuy zuz
      rw[dqT (show (i:Int) < (cells.len:Int) by omega),dqA,dqA,dqN,dqT (show 0<=(i:Int)/\(i:Int) < (cells.len:Int) by omega),Bool.true_and,dqT bO,dqT bN,dqT bL]
      simp only[Bool.true_and]
      rw[hc',hO,hN]
      have key:∀ (b:Bool),b=decide (n<=gr cells.get (i+1))->∀ j,j < i+1->zo8 v.len v.get (λ _=>b) j=decide (n<=gr cells.get (j+1)):=λ b hb j hj=>by
        unfold zo8
        by_cases e:j=i
        · rw[show Nat.ble v.len j=true from Nat.ble_eq_true_of_le (by omega),e];exact hb
        · rw[show Nat.ble v.len j=false from by rw[<- Bool.not_eq_true,Nat.ble_eq];omega];exact e3 j (by omega)
      cases hf:cells.get i
      · have hg : gr cells.get (i + 1) = 0 := by show cond (cells.get i) _ 0 = 0; rw [hf]; rfl
        refine⟨⟨0,⟨v.len+1,zo8 v.len v.get λ _=>false⟩⟩,⟨?_,?_,?_⟩,rfl,rfl⟩
        · show (0:Int)=((min (gr cells.get (i+1)) (n - 1):Nat):Int);rw[hg,Nat.zero_min];rfl
        · show v.len+1=i+1;omega
        · exact key false (by rw[hg];exact (dqF (by omega)).symm)
      · have hg : gr cells.get (i + 1) = gr cells.get i + 1 := by show cond (cells.get i) (gr cells.get i + 1) 0 = _; rw [hf]; rfl
        refine⟨⟨((min (min (gr cells.get i) (n - 1)+1) (n - 1):Nat):Int),⟨v.len+1,zo8 v.len v.get λ _=>decide (min (gr cells.get i) (n - 1)+1=n)⟩⟩,⟨?_,?_,?_⟩,rfl,rfl⟩
        · show ((min (min (gr cells.get i) (n - 1)+1) (n - 1):Nat):Int)=((min (gr cells.get (i+1)) (n - 1):Nat):Int);rw[hg];omega
        · show v.len+1=i+1;omega
        · exact key _ (by rw[hg];exact decide_eq_decide.2 (by omega)))
    (λ k s hI=>by
      obtain⟨c,v⟩:=s
      obtain⟨e1,e2,e3⟩:=hI
      show zoi cells (zm7 cells k) c (cells.len:Int) T.Next T.Out v=true/\Told n cells (zoh cells (zm6 cells k) c (cells.len:Int) T.Next T.Out v)
      unfold zoh zoi
      rw[dqF (show ¬ (cells.len:Int) < (cells.len:Int) by omega),dqB,dqB]
      exact⟨rfl,rfl,e2,e3⟩) (by omega) (by omega) (⟨0,⟨0,λ _=>default⟩⟩:Int×Sl Bool) ⟨by show (0:Int)=((min 0 (n - 1):Nat):Int);rw[Nat.zero_min];rfl,rfl,λ j hj=>absurd hj (by omega)⟩
  unfold p8 s8 zBp zBo zBn zBm zBl zBk zBj zBi
  rw[g1,g2,dqF (show ¬ (cells.len:Int) > 10000 by omega)]
  exact hl
end Go.Proofs
namespace Go.Pm
open Go
end Go.Pm
namespace Go.Proofs
open Go Go.Pm
set_option maxRecDepth 100000
set_option linter.unusedVariables false
theorem zCn (n a b:Int):s31 n a b=decide (a<=n/\n<=b):=by
 unfold s31
 by_cases h:a<=n
 ·rw[dqT (show n >= a from h),dqA];exact decide_eq_decide.2 ⟨λ k=>⟨h,k⟩,λ k=>k.2⟩
 ·rw[dqF (show ¬ n >= a from h),dqB];exact (dqF (λ k=>h k.1)).symm
theorem cT (b y:Bool):cond (!b) false y=(b && y):=by cases b <;> rfl
theorem cF (b y:Bool):cond b false y=(!b && y):=by cases b <;> rfl
theorem zCo (n a b:Int):s13 n a b=decide (a<=n/\n<=b):=zCn n a b
theorem zkq (n a b:Int):s45 n a b=decide (a<=n/\n<=b):=zCn n a b
theorem zNH (n:Int):s29 n=decide (-1000000<=n/\n<=1000000):=zCn n _ _
theorem zCp (x y:Int):s45 x (0:Int) y=(!decide (x < (0:Int)) && !decide (x > y)):=by
 rw[zkq]
 by_cases a:x < 0
 ·rw[dqT a,dqF (show ¬ (0<=x/\x<=y) by omega)];rfl
 ·rw [dqF a]
  by_cases b:x > y
  ·rw[dqT b,dqF (show ¬ (0<=x/\x<=y) by omega)];rfl
  ·rw[dqF b,dqT (show 0<=x/\x<=y by omega)];rfl
def drG (l:Sl Drift) (pt:Int) (i:Nat):Bool:=s13 (l.get i).Time (0:Int) (1000000:Int) && (!decide ((l.get i).Radius.Low < (0:Int)) && (!decide ((l.get i).Radius.Low > (l.get i).Radius.High) && (!decide ((l.get i).Radius.High > (w64 (pt.tdiv (2:Int)))) && cond (decide ((i:Int) > (0:Int))) (!decide ((l.get i).Time<=(l.get (w64 ((i:Int) - (1:Int))).toNat).Time) && (!decide ((l.get i).Radius.Low < (l.get (w64 ((i:Int) - (1:Int))).toNat).Radius.Low) && !decide ((l.get i).Radius.High < (l.get (w64 ((i:Int) - (1:Int))).toNat).Radius.High))) true)))
def ddG (l:Sl Int) (st:Int) (i:Nat):Bool:=s13 (l.get i) (0:Int) (w64 (st - (1:Int))) && cond (decide ((i:Int) > (0:Int))) (!decide (l.get i<=l.get (w64 ((i:Int) - (1:Int))).toNat)) true
def zN7 (l:Sl Drift) (pt:Int):Prop:=(∀ i,i < l.len->drG l pt i=true)/\s13 (l.len:Int) (1:Int) (50:Int)=true
theorem zQE (l:Sl Drift) (pt:Int) (h:l.len<=9223372036854775807):p30 l pt=true/\(s30 l pt=true↔zN7 l pt) :=
  zgj (good := (fun i => drG l pt i)) (fin := s13 (l.len : Int) (1:Int) (50:Int)) (n := l.len) (lpS := fun k i => zjb l pt k i) (lpP := fun k i => zjc l pt k i)
    (λ k i hi=>by
      show zkN l pt (zjb l pt k) (i:Int)=cond (drG l pt i) (zjb l pt k (w64 ((i:Int)+(1:Int)))) false
      generalize zjb l pt k=S
      unfold zkN
      rw[dqT (show (i:Int) < (l.len:Int) by omega),dqA,dqN]
      unfold zkL zsk drG
      cases s13 (l.get i).Time (0:Int) (1000000:Int) <;> cases decide ((l.get i).Radius.Low < (0:Int)) <;> cases decide ((l.get i).Radius.Low > (l.get i).Radius.High) <;> cases decide ((l.get i).Radius.High > (w64 (pt.tdiv (2:Int)))) <;> cases decide ((i:Int) > (0:Int)) <;> try rfl
      all_goals cases decide ((l.get i).Time<=(l.get (w64 ((i:Int) - (1:Int))).toNat).Time) <;> cases decide ((l.get i).Radius.Low < (l.get (w64 ((i:Int) - (1:Int))).toNat).Radius.Low) <;> cases decide ((l.get i).Radius.High < (l.get (w64 ((i:Int) - (1:Int))).toNat).Radius.High) <;> rfl)
    (λ k=>by
      show zkN l pt (zjb l pt k) (l.len:Int)=_
      unfold zkN
      rw[dqF (show ¬ (l.len:Int) < (l.len:Int) by omega),dqB])
    (λ k i hi=>by
      show zkO l pt (zjc l pt k) (i:Int)=cond (drG l pt i) (zjc l pt k (w64 ((i:Int)+(1:Int)))) true
      generalize zjc l pt k=S
      unfold zkO
      rw[dqT (show (i:Int) < (l.len:Int) by omega),dqA,dqN,dqT (show 0<=(i:Int)/\(i:Int) < (l.len:Int) by omega),Bool.true_and]
      unfold zkM zsl drG
      rw[dqT (show (2:Int) ≠ 0 by decide),Bool.true_and]
      by_cases h0:(i:Int) > 0
      · rw [dqT (show 0 ≤ w64 ((i : Int) - (1:Int)) ∧ w64 ((i : Int) - (1:Int)) < (l.len : Int) by rw [zcQ (by omega) (by omega)]; omega), dqT h0]
        cases s13 (l.get i).Time (0:Int) (1000000:Int) <;> cases decide ((l.get i).Radius.Low < (0:Int)) <;> cases decide ((l.get i).Radius.Low > (l.get i).Radius.High) <;> cases decide ((l.get i).Radius.High > (w64 (pt.tdiv (2:Int)))) <;> try rfl
        all_goals cases decide ((l.get i).Time<=(l.get (w64 ((i:Int) - (1:Int))).toNat).Time) <;> cases decide ((l.get i).Radius.Low < (l.get (w64 ((i:Int) - (1:Int))).toNat).Radius.Low) <;> cases decide ((l.get i).Radius.High < (l.get (w64 ((i:Int) - (1:Int))).toNat).Radius.High) <;> rfl
      · rw [dqF h0]
        cases s13 (l.get i).Time (0:Int) (1000000:Int) <;> cases decide ((l.get i).Radius.Low < (0:Int)) <;> cases decide ((l.get i).Radius.Low > (l.get i).Radius.High) <;> cases decide ((l.get i).Radius.High > (w64 (pt.tdiv (2:Int)))) <;> rfl)
    (λ k=>by
      show zkO l pt (zjc l pt k) (l.len:Int)=_
      unfold zkO
      rw[dqF (show ¬ (l.len:Int) < (l.len:Int) by omega),dqB])
    h
theorem zSa (p:placed) (h:p.Plane.Drift.len<=9223372036854775807):p73 p=true/\(s73 p=true↔zN7 p.Plane.Drift p.Plane.Pitch) :=
  zgj (good := (fun i => drG p.Plane.Drift p.Plane.Pitch i)) (fin := s45 (p.Plane.Drift.len : Int) (1:Int) (50:Int)) (n := p.Plane.Drift.len) (lpS := fun k i => zjy p k i) (lpP := fun k i => zjz p k i)
    (λ k i hi=>by
      show zk5 p (zjy p k) (i:Int)=cond (drG p.Plane.Drift p.Plane.Pitch i) (zjy p k (w64 ((i:Int)+(1:Int)))) false
      generalize zjy p k=S
      unfold zk5
      rw[dqT (show (i:Int) < (p.Plane.Drift.len:Int) by omega),dqA,dqN]
      unfold zm8 ztc drG
      rw[show s45 (p.Plane.Drift.get i).Time (0:Int) (1000000:Int)=s13 (p.Plane.Drift.get i).Time (0:Int) (1000000:Int) from rfl]
      rw[show s45 (p.Plane.Drift.get i).Radius.Low (0:Int) (p.Plane.Drift.get i).Radius.High=(!decide ((p.Plane.Drift.get i).Radius.Low < (0:Int)) && !decide ((p.Plane.Drift.get i).Radius.Low > (p.Plane.Drift.get i).Radius.High)) from zCp _ _]
      cases s13 (p.Plane.Drift.get i).Time (0:Int) (1000000:Int) <;> cases decide ((p.Plane.Drift.get i).Radius.Low < (0:Int)) <;> cases decide ((p.Plane.Drift.get i).Radius.Low > (p.Plane.Drift.get i).Radius.High) <;> cases decide ((p.Plane.Drift.get i).Radius.High > (w64 (p.Plane.Pitch.tdiv (2:Int)))) <;> cases decide ((i:Int) > (0:Int)) <;> try rfl
      all_goals cases decide ((p.Plane.Drift.get i).Time<=(p.Plane.Drift.get (w64 ((i:Int) - (1:Int))).toNat).Time) <;> cases decide ((p.Plane.Drift.get i).Radius.Low < (p.Plane.Drift.get (w64 ((i:Int) - (1:Int))).toNat).Radius.Low) <;> cases decide ((p.Plane.Drift.get i).Radius.High < (p.Plane.Drift.get (w64 ((i:Int) - (1:Int))).toNat).Radius.High) <;> rfl)
    (λ k=>by
      show zk5 p (zjy p k) (p.Plane.Drift.len:Int)=_
      unfold zk5
      rw[dqF (show ¬ (p.Plane.Drift.len:Int) < (p.Plane.Drift.len:Int) by omega),dqB])
    (λ k i hi=>by
      show zk6 p (zjz p k) (i:Int)=cond (drG p.Plane.Drift p.Plane.Pitch i) (zjz p k (w64 ((i:Int)+(1:Int)))) true
      generalize zjz p k=S
      unfold zk6
      rw[dqT (show (i:Int) < (p.Plane.Drift.len:Int) by omega),dqA,dqN,dqT (show 0<=(i:Int)/\(i:Int) < (p.Plane.Drift.len:Int) by omega),Bool.true_and]
      unfold zm9 ztd drG
      rw[dqT (show (2:Int) ≠ 0 by decide),Bool.true_and]
      by_cases h0:(i:Int) > 0
      · rw [dqT (show 0 ≤ w64 ((i : Int) - (1:Int)) ∧ w64 ((i : Int) - (1:Int)) < (p.Plane.Drift.len : Int) by rw [zcQ (by omega) (by omega)]; omega), dqT h0]
        rw[show s45 (p.Plane.Drift.get i).Time (0:Int) (1000000:Int)=s13 (p.Plane.Drift.get i).Time (0:Int) (1000000:Int) from rfl]
        rw[show s45 (p.Plane.Drift.get i).Radius.Low (0:Int) (p.Plane.Drift.get i).Radius.High=(!decide ((p.Plane.Drift.get i).Radius.Low < (0:Int)) && !decide ((p.Plane.Drift.get i).Radius.Low > (p.Plane.Drift.get i).Radius.High)) from zCp _ _]
        cases s13 (p.Plane.Drift.get i).Time (0:Int) (1000000:Int) <;> cases decide ((p.Plane.Drift.get i).Radius.Low < (0:Int)) <;> cases decide ((p.Plane.Drift.get i).Radius.Low > (p.Plane.Drift.get i).Radius.High) <;> cases decide ((p.Plane.Drift.get i).Radius.High > (w64 (p.Plane.Pitch.tdiv (2:Int)))) <;> try rfl
        all_goals cases decide ((p.Plane.Drift.get i).Time<=(p.Plane.Drift.get (w64 ((i:Int) - (1:Int))).toNat).Time) <;> cases decide ((p.Plane.Drift.get i).Radius.Low < (p.Plane.Drift.get (w64 ((i:Int) - (1:Int))).toNat).Radius.Low) <;> cases decide ((p.Plane.Drift.get i).Radius.High < (p.Plane.Drift.get (w64 ((i:Int) - (1:Int))).toNat).Radius.High) <;> rfl
      · rw [dqF h0]
        rw[show s45 (p.Plane.Drift.get i).Time (0:Int) (1000000:Int)=s13 (p.Plane.Drift.get i).Time (0:Int) (1000000:Int) from rfl]
        rw[show s45 (p.Plane.Drift.get i).Radius.Low (0:Int) (p.Plane.Drift.get i).Radius.High=(!decide ((p.Plane.Drift.get i).Radius.Low < (0:Int)) && !decide ((p.Plane.Drift.get i).Radius.Low > (p.Plane.Drift.get i).Radius.High)) from zCp _ _]
        cases s13 (p.Plane.Drift.get i).Time (0:Int) (1000000:Int) <;> cases decide ((p.Plane.Drift.get i).Radius.Low < (0:Int)) <;> cases decide ((p.Plane.Drift.get i).Radius.Low > (p.Plane.Drift.get i).Radius.High) <;> cases decide ((p.Plane.Drift.get i).Radius.High > (w64 (p.Plane.Pitch.tdiv (2:Int)))) <;> rfl)
    (λ k=>by
      show zk6 p (zjz p k) (p.Plane.Drift.len:Int)=_
      unfold zk6
      rw[dqF (show ¬ (p.Plane.Drift.len:Int) < (p.Plane.Drift.len:Int) by omega),dqB])
    h
theorem zFz (p:Plane) (h:p.Dead.len<=9223372036854775807):zso p=true/\(zpg p=true↔(∀ i,i < p.Dead.len->ddG p.Dead p.Strips i=true)/\true=true) :=
  zgj (good := (fun i => ddG p.Dead p.Strips i)) (fin := true) (n := p.Dead.len) (lpS := fun k i => zje p k i) (lpP := fun k i => zjf p k i)
    (λ k i hi=>by
      show zkP p (zje p k) (i:Int)=cond (ddG p.Dead p.Strips i) (zje p k (w64 ((i:Int)+(1:Int)))) false
      generalize zje p k=S
      unfold zkP
      rw[dqT (show (i:Int) < (p.Dead.len:Int) by omega),dqA,dqN]
      unfold zka ddG
      cases s13 (p.Dead.get i) (0:Int) (w64 (p.Strips - (1:Int))) <;> cases decide ((i:Int) > (0:Int)) <;> cases decide (p.Dead.get i<=(p.Dead.get (w64 ((i:Int) - (1:Int))).toNat)) <;> rfl)
    (λ k=>by
      show zkP p (zje p k) (p.Dead.len:Int)=_
      unfold zkP
      rw[dqF (show ¬ (p.Dead.len:Int) < (p.Dead.len:Int) by omega),dqB])
    (λ k i hi=>by
      show zkQ p (zjf p k) (i:Int)=cond (ddG p.Dead p.Strips i) (zjf p k (w64 ((i:Int)+(1:Int)))) true
      generalize zjf p k=S
      unfold zkQ
      rw[dqT (show (i:Int) < (p.Dead.len:Int) by omega),dqA,dqN,dqT (show 0<=(i:Int)/\(i:Int) < (p.Dead.len:Int) by omega),Bool.true_and]
      unfold zkb ddG
      by_cases h0:(i:Int) > 0
      · rw [dqT (show 0 ≤ w64 ((i : Int) - (1:Int)) ∧ w64 ((i : Int) - (1:Int)) < (p.Dead.len : Int) by rw [zcQ (by omega) (by omega)]; omega), dqT h0]
        cases s13 (p.Dead.get i) (0:Int) (w64 (p.Strips - (1:Int))) <;> cases decide (p.Dead.get i<=(p.Dead.get (w64 ((i:Int) - (1:Int))).toNat)) <;> rfl
      · rw [dqF h0]
        cases s13 (p.Dead.get i) (0:Int) (w64 (p.Strips - (1:Int))) <;> rfl)
    (λ k=>by
      show zkQ p (zjf p k) (p.Dead.len:Int)=_
      unfold zkQ
      rw[dqF (show ¬ (p.Dead.len:Int) < (p.Dead.len:Int) by omega),dqB])
    h
theorem zty (a:placed) (h:a.Plane.Dead.len<=9223372036854775807):zki a=true/\(zkh a=true↔(∀ i,i < a.Plane.Dead.len->ddG a.Plane.Dead a.Plane.Strips i=true)/\decide ((a.Plane.Dead.len:Int)<=(100:Int))=true) :=
  zgj (good := (fun i => ddG a.Plane.Dead a.Plane.Strips i)) (fin := decide ((a.Plane.Dead.len : Int) ≤ (100:Int))) (n := a.Plane.Dead.len) (lpS := fun k i => zhf a k i) (lpP := fun k i => zhg a k i)
    (λ k i hi=>by
      show ziw a (zhf a k) (i:Int)=cond (ddG a.Plane.Dead a.Plane.Strips i) (zhf a k (w64 ((i:Int)+(1:Int)))) false
      generalize zhf a k=S
      unfold ziw
      rw[dqT (show (i:Int) < (a.Plane.Dead.len:Int) by omega),dqA,dqN]
      unfold zkf ddG
      rw[show s45 (a.Plane.Dead.get i) (0:Int) (w64 (a.Plane.Strips - (1:Int)))=s13 (a.Plane.Dead.get i) (0:Int) (w64 (a.Plane.Strips - (1:Int))) from rfl]
      cases s13 (a.Plane.Dead.get i) (0:Int) (w64 (a.Plane.Strips - (1:Int))) <;> cases decide ((i:Int) > (0:Int)) <;> cases decide (a.Plane.Dead.get i<=(a.Plane.Dead.get (w64 ((i:Int) - (1:Int))).toNat)) <;> rfl)
    (λ k=>by
      show ziw a (zhf a k) (a.Plane.Dead.len:Int)=_
      unfold ziw
      rw[dqF (show ¬ (a.Plane.Dead.len:Int) < (a.Plane.Dead.len:Int) by omega),dqB])
    (λ k i hi=>by
      show zix a (zhg a k) (i:Int)=cond (ddG a.Plane.Dead a.Plane.Strips i) (zhg a k (w64 ((i:Int)+(1:Int)))) true
      generalize zhg a k=S
      unfold zix
      rw[dqT (show (i:Int) < (a.Plane.Dead.len:Int) by omega),dqA,dqN,dqT (show 0<=(i:Int)/\(i:Int) < (a.Plane.Dead.len:Int) by omega),Bool.true_and]
      unfold zkg ddG
      rw[show s45 (a.Plane.Dead.get i) (0:Int) (w64 (a.Plane.Strips - (1:Int)))=s13 (a.Plane.Dead.get i) (0:Int) (w64 (a.Plane.Strips - (1:Int))) from rfl]
      by_cases h0:(i:Int) > 0
      · rw [dqT (show 0 ≤ w64 ((i : Int) - (1:Int)) ∧ w64 ((i : Int) - (1:Int)) < (a.Plane.Dead.len : Int) by rw [zcQ (by omega) (by omega)]; omega), dqT h0]
        cases s13 (a.Plane.Dead.get i) (0:Int) (w64 (a.Plane.Strips - (1:Int))) <;> cases decide (a.Plane.Dead.get i<=(a.Plane.Dead.get (w64 ((i:Int) - (1:Int))).toNat)) <;> rfl
      · rw [dqF h0]
        cases s13 (a.Plane.Dead.get i) (0:Int) (w64 (a.Plane.Strips - (1:Int))) <;> rfl)
    (λ k=>by
      show zix a (zhg a k) (a.Plane.Dead.len:Int)=_
      unfold zix
      rw[dqF (show ¬ (a.Plane.Dead.len:Int) < (a.Plane.Dead.len:Int) by omega),dqB])
    h
theorem zJR (a:placed) (h:a.Plane.Dead.len<=9223372036854775807):zlW a=true/\(zlV a=true↔(∀ i,i < a.Plane.Dead.len->ddG a.Plane.Dead a.Plane.Strips i=true)/\decide ((a.Plane.Dead.len:Int)<=(100:Int))=true):=by
 rw[show zlW a=zki a by kernel_rfl,show zlV a=zkh a by kernel_rfl];exact zty a h
theorem zJS (a:placed) (h:a.Plane.Dead.len<=9223372036854775807):zl0 a=true/\(zlZ a=true↔(∀ i,i < a.Plane.Dead.len->ddG a.Plane.Dead a.Plane.Strips i=true)/\decide ((a.Plane.Dead.len:Int)<=(100:Int))=true):=by
 rw[show zl0 a=zki a by kernel_rfl,show zlZ a=zkh a by kernel_rfl];exact zty a h
structure PlOk (p : Plane) : Prop where
  k:1<=p.Kind/\p.Kind<=3
  v:1<=p.View/\p.View<=2
  z:0<=p.Z/\p.Z<=100000
  f : -1000000<=p.First/\p.First<=1000000
  pt:2<=p.Pitch/\p.Pitch<=100000
  st:1<=p.Strips/\p.Strips<=2000
  sp:0<=p.Spill/\p.Spill<=100000
  o : -1000000<=p.Offset.Low/\p.Offset.Low<=p.Offset.High/\p.Offset.High<=1000000
  c : -1000000000<=p.Clock.Low/\p.Clock.Low<=p.Clock.High/\p.Clock.High<=1000000000
  j:0<=p.Jitter/\p.Jitter<=1000000
  l:0<=p.Least/\p.Least<=1000000
  e1 : -1000000<=w64 ((w64 ((w64 (p.First - p.Pitch)) - p.Spill))+p.Offset.Low)
  e2:w64 ((w64 ((w64 (p.First+(w64 ((w64 (p.Strips+(1:Int))) * p.Pitch))))+p.Spill))+p.Offset.High)<=1000000
  dr:p.Kind=2->zN7 p.Drift p.Pitch
  nd:p.Kind ≠ 2->p.Drift.len=0
  dl:p.Dead.len<=100
  dd:∀ i,i < p.Dead.len->ddG p.Dead p.Strips i=true
theorem zNI (p:Plane) (h1:p.Drift.len<=9223372036854775807) (h2:p.Dead.len<=9223372036854775807):p14 p=true:=by
 have h7:=(zFz p h2).1
 have h6:∀ b,zgm p b=true:=λ b=>by unfold zgm;rw[h7];cases b <;> rfl
 have h5:zph p=true:=by
  unfold zph
  simp only[h6,(zQE p.Drift p.Pitch h1).1,decide_true,Bool.true_and,Bool.cond_self]
 have h4:∀ b,zjh p b=true:=λ b=>by unfold zjh;rw[h5];cases b <;> rfl
 have h3:zpj p=true:=by unfold zpj;simp only[h4,Bool.cond_self]
 have h2:∀ b,zha p b=true:=λ b=>by unfold zha;rw[h3];cases b <;> rfl
 have h1:zpk p=true:=by unfold zpk;simp only[h2,Bool.cond_self]
 have h0:∀ b,zdW p b=true:=λ b=>by unfold zdW;rw[h1];cases b <;> rfl
 unfold p14 zst
 simp only[h0,Bool.cond_self]
theorem zNJ (p:Plane) (h1:p.Drift.len<=9223372036854775807) (h2:p.Dead.len<=9223372036854775807) (h:s14 p=true):PlOk p:=by
 have hd:=(zFz p h2).2
 have hr:=(zQE p.Drift p.Pitch h1).2
 unfold s14 zss at h
 have a1 : ¬ p.Kind < 1:=λ k=>by rw[dqT k] at h;cases h
 rw[dqF a1,dqB] at h
 have a2 : ¬ p.Kind > 3:=λ k=>by rw[dqT k] at h;cases h
 rw[dqF a2,dqB] at h
 have hv:(1<=p.View/\p.View<=2)/\(cond (!(s13 p.Z (0:Int) (100000:Int))) (zc9 p true) (cond (!(s29 p.First)) (zc9 p true) (cond (!(s13 p.Pitch (2:Int) (100000:Int))) (zc9 p true) (cond (!(s13 p.Strips (1:Int) (2000:Int))) (zc9 p true) (zc9 p (!(s13 p.Spill (0:Int) (100000:Int))))))))=true:=by
  by_cases v1:p.View=1
  ·rw [show (p.View != (1:Int)) = false by rw [v1]; rfl] at h
   exact⟨by omega,h⟩
  ·rw [show (p.View != (1:Int)) = true from bne_iff_ne.2 v1, dqA] at h
   by_cases v2:p.View=2
   ·rw [show (p.View != (2:Int)) = false by rw [v2]; rfl] at h
    exact⟨by omega,h⟩
   ·rw [show (p.View != (2:Int)) = true from bne_iff_ne.2 v2] at h
    cases h
 obtain⟨hv,h⟩:=hv
 unfold zc9 zsr zh3 zsq zkR at h
 simp only[dqA,cF,Bool.not_not,zCo,zNH,dqm,decide_eq_true_eq,Bool.not_eq_true',decide_eq_false_iff_not] at h
 obtain⟨b1,b2,b3,b4,b5,b6,b7,b8,b9,b10,b11,b12,b13,b14,b15,h⟩:=h
 have hk:(p.Kind=2->zN7 p.Drift p.Pitch)/\(p.Kind ≠ 2->p.Drift.len=0)/\p.Dead.len<=100/\zpg p=true:=by
  unfold zsp zg9 at h
  simp only[dqA,cF,Bool.not_not] at h
  by_cases k2:p.Kind=2
  ·rw [show (p.Kind == (2:Int)) = true from beq_iff_eq.2 k2, show (p.Kind != (2:Int)) = false by rw [k2]; rfl, dqA, dqB] at h
   simp only[dqm,Bool.not_eq_true',decide_eq_false_iff_not] at h
   exact⟨λ _=>hr.1 h.1,λ k=>absurd k2 k,by omega,h.2.2⟩
  ·rw [show (p.Kind == (2:Int)) = false from dqU.2 k2, show (p.Kind != (2:Int)) = true from bne_iff_ne.2 k2, dqA, dqB] at h
   simp only[dqm,Bool.not_eq_true',decide_eq_false_iff_not] at h
   exact⟨λ k=>absurd k k2,λ _=>by omega,by omega,h.2.2⟩
 obtain⟨k1,k2,k3,k4⟩:=hk
 exact⟨by omega,hv,b1,b2,b3,b4,b5,⟨b6.1,by omega,b7.2⟩,⟨b9.1,by omega,b10.2⟩,b12,b13,b14.1,b15.2,k1,k2,k3,(hd.1 k4).1⟩
theorem zCq {p:Plane}(h:PlOk p) (i:Int):s75 ⟨p,i⟩=true:=by
 obtain⟨h1,h2,h3,h4,h5,h6,h7,h8,h9,h10,h11,h12,h13,_,_,_,_⟩:=h
 unfold s75 ztk znb zti zna ztg zk7 ztf s79
 simp only[dqA,cF,Bool.not_not,zkq]
 rw[dqT (show 1<=p.View/\p.View<=2 from h2),dqT (show 0<=p.Z/\p.Z<=100000 from h3),dqT (show -1000000<=p.First/\p.First<=1000000 from h4),
  dqT (show 2<=p.Pitch/\p.Pitch<=100000 from h5),dqT (show 1<=p.Strips/\p.Strips<=2000 from h6),dqT (show 0<=p.Spill/\p.Spill<=100000 from h7),
  dqT (show w64 (0 - (1000000:Int))<=p.Offset.Low/\p.Offset.Low<=p.Offset.High from ⟨h8.1,h8.2.1⟩),dqT (show p.Offset.High<=(1000000:Int) from h8.2.2),
  dqT (show w64 (0 - (1000000000:Int))<=p.Clock.Low/\p.Clock.Low<=p.Clock.High from ⟨h9.1,h9.2.1⟩),dqT (show p.Clock.High<=(1000000000:Int) from h9.2.2),
  dqT (show 0<=p.Jitter/\p.Jitter<=1000000 from h10),dqT (show 0<=p.Least/\p.Least<=1000000 from h11),dqT h12,dqT h13]
 rfl
theorem zFA {p:Plane}(h:PlOk p) (i:Int):p55 ⟨p,i⟩=true/\s55 ⟨p,i⟩=true:=by
 have hs:=zCq h i
 have hk:=h.k
 have hdl:=h.dl
 have hlen:(⟨p,i⟩:placed).Plane.Dead.len<=9223372036854775807:=by show p.Dead.len<=_;omega
 have keya:p.Kind=1->zN0 ⟨p,i⟩=true/\zNZ ⟨p,i⟩=true:=λ hk=>by
  obtain⟨d1,d2⟩:=zty ⟨p,i⟩ hlen
  have d3:=d2.2 ⟨h.dd,dqT (by show (p.Dead.len:Int)<=100;omega)⟩
  have e:(⟨(⟨(1:Int),p.View,p.Z,p.First,p.Pitch,p.Strips,p.Spill,p.Offset,p.Clock,p.Jitter,p.Least,p.Drift,p.Dead⟩:Plane),i⟩:placed)=⟨p,i⟩:=by rw[<- hk]
  have f3:s72 ⟨p,i⟩=true:=beq_iff_eq.2 (by show (p.Drift.len:Int)=0;have:=h.nd (by omega);omega)
  unfold zN0 zNZ
  show cond (!(s45 (1:Int) (1:Int) (3:Int))) _ (cond (!(s75 ⟨(⟨(1:Int),p.View,p.Z,p.First,p.Pitch,p.Strips,p.Spill,p.Offset,p.Clock,p.Jitter,p.Least,p.Drift,p.Dead⟩:Plane),i⟩)) _ (zkk ⟨p,i⟩ (!(s72 ⟨(⟨(1:Int),p.View,p.Z,p.First,p.Pitch,p.Strips,p.Spill,p.Offset,p.Clock,p.Jitter,p.Least,p.Drift,p.Dead⟩:Plane),i⟩))))=true/\cond (!(s45 (1:Int) (1:Int) (3:Int))) _ (cond (!(s75 ⟨(⟨(1:Int),p.View,p.Z,p.First,p.Pitch,p.Strips,p.Spill,p.Offset,p.Clock,p.Jitter,p.Least,p.Drift,p.Dead⟩:Plane),i⟩)) _ (zkj ⟨p,i⟩ (!(s72 ⟨(⟨(1:Int),p.View,p.Z,p.First,p.Pitch,p.Strips,p.Spill,p.Offset,p.Clock,p.Jitter,p.Least,p.Drift,p.Dead⟩:Plane),i⟩))))=true
  rw[e,hs,show s45 (1:Int) (1:Int) (3:Int)=true from rfl,f3]
  exact⟨d1,d3⟩
 have keyb:p.Kind=2->zN2 ⟨p,i⟩=true/\zN1 ⟨p,i⟩=true:=λ hk=>by
  obtain⟨d1,d2⟩:=zJR ⟨p,i⟩ hlen
  have d3:=d2.2 ⟨h.dd,dqT (by show (p.Dead.len:Int)<=100;omega)⟩
  have e:(⟨(⟨(2:Int),p.View,p.Z,p.First,p.Pitch,p.Strips,p.Spill,p.Offset,p.Clock,p.Jitter,p.Least,p.Drift,p.Dead⟩:Plane),i⟩:placed)=⟨p,i⟩:=by rw[<- hk]
  obtain⟨f1,f2⟩:=zSa ⟨p,i⟩ (by show p.Drift.len<=_;have:=(h.dr hk).2;rw[zCo,decide_eq_true_eq] at this;omega)
  have f3:=f2.2 (h.dr hk)
  unfold zN2 zN1
  show cond (!(s45 (2:Int) (1:Int) (3:Int))) _ (cond (!(s75 ⟨(⟨(2:Int),p.View,p.Z,p.First,p.Pitch,p.Strips,p.Spill,p.Offset,p.Clock,p.Jitter,p.Least,p.Drift,p.Dead⟩:Plane),i⟩)) _ (decide (p73 ⟨(⟨(2:Int),p.View,p.Z,p.First,p.Pitch,p.Strips,p.Spill,p.Offset,p.Clock,p.Jitter,p.Least,p.Drift,p.Dead⟩:Plane),i⟩=true) && zkm ⟨p,i⟩ (!(s73 ⟨(⟨(2:Int),p.View,p.Z,p.First,p.Pitch,p.Strips,p.Spill,p.Offset,p.Clock,p.Jitter,p.Least,p.Drift,p.Dead⟩:Plane),i⟩))))=true/\cond (!(s45 (2:Int) (1:Int) (3:Int))) _ (cond (!(s75 ⟨(⟨(2:Int),p.View,p.Z,p.First,p.Pitch,p.Strips,p.Spill,p.Offset,p.Clock,p.Jitter,p.Least,p.Drift,p.Dead⟩:Plane),i⟩)) _ (zkl ⟨p,i⟩ (!(s73 ⟨(⟨(2:Int),p.View,p.Z,p.First,p.Pitch,p.Strips,p.Spill,p.Offset,p.Clock,p.Jitter,p.Least,p.Drift,p.Dead⟩:Plane),i⟩))))=true
  rw[e,hs,show s45 (2:Int) (1:Int) (3:Int)=true from rfl,f3,f1]
  exact⟨d1,d3⟩
 have keyc:p.Kind=3->zN4 ⟨p,i⟩=true/\zN3 ⟨p,i⟩=true:=λ hk=>by
  obtain⟨d1,d2⟩:=zJS ⟨p,i⟩ hlen
  have d3:=d2.2 ⟨h.dd,dqT (by show (p.Dead.len:Int)<=100;omega)⟩
  have e:(⟨(⟨(3:Int),p.View,p.Z,p.First,p.Pitch,p.Strips,p.Spill,p.Offset,p.Clock,p.Jitter,p.Least,p.Drift,p.Dead⟩:Plane),i⟩:placed)=⟨p,i⟩:=by rw[<- hk]
  have f3:s74 ⟨p,i⟩=true:=beq_iff_eq.2 (by show (p.Drift.len:Int)=0;have:=h.nd (by omega);omega)
  unfold zN4 zN3
  show cond (!(s45 (3:Int) (1:Int) (3:Int))) _ (cond (!(s75 ⟨(⟨(3:Int),p.View,p.Z,p.First,p.Pitch,p.Strips,p.Spill,p.Offset,p.Clock,p.Jitter,p.Least,p.Drift,p.Dead⟩:Plane),i⟩)) _ (zko ⟨p,i⟩ (!(s74 ⟨(⟨(3:Int),p.View,p.Z,p.First,p.Pitch,p.Strips,p.Spill,p.Offset,p.Clock,p.Jitter,p.Least,p.Drift,p.Dead⟩:Plane),i⟩))))=true/\cond (!(s45 (3:Int) (1:Int) (3:Int))) _ (cond (!(s75 ⟨(⟨(3:Int),p.View,p.Z,p.First,p.Pitch,p.Strips,p.Spill,p.Offset,p.Clock,p.Jitter,p.Least,p.Drift,p.Dead⟩:Plane),i⟩)) _ (zkn ⟨p,i⟩ (!(s74 ⟨(⟨(3:Int),p.View,p.Z,p.First,p.Pitch,p.Strips,p.Spill,p.Offset,p.Clock,p.Jitter,p.Least,p.Drift,p.Dead⟩:Plane),i⟩))))=true
  rw[e,hs,show s45 (3:Int) (1:Int) (3:Int)=true from rfl,f3]
  exact⟨d1,d3⟩
 unfold p55 s55
 by_cases k1:p.Kind=1
 ·rw[show ((⟨p,i⟩:placed).Plane.Kind == 1)=true from beq_iff_eq.2 k1];exact keya k1
 rw[show ((⟨p,i⟩:placed).Plane.Kind == 1)=false from dqU.2 k1]
 by_cases k2:p.Kind=2
 ·rw[show ((⟨p,i⟩:placed).Plane.Kind == 2)=true from beq_iff_eq.2 k2];exact keyb k2
 rw[show ((⟨p,i⟩:placed).Plane.Kind == 2)=false from dqU.2 k2]
 have k3:p.Kind=3:=by omega
 rw[show ((⟨p,i⟩:placed).Plane.Kind == 3)=true from beq_iff_eq.2 k3];exact keyc k3
def zG (l:Sl Plane) (i:Nat):Bool:=cond (decide ((i:Int) > (0:Int))) (!decide ((l.get i).Z<=(l.get (w64 ((i:Int) - (1:Int))).toNat).Z)) true
structure SetOk (l : Sl Plane) : Prop where
  n1:1<=l.len
  n16:l.len<=16
  pl:∀ i,i < l.len->PlOk (l.get i)
  z:∀ i,i < l.len->zG l i=true
theorem zP8 (s:Setup) (h:s.Planes.len<=9223372036854775807):p4 s=true:=by
  have hl := zgj (good := fun i => !decide (((s.Planes.get i).Drift.len : Int) > (60:Int)) && !decide (((s.Planes.get i).Dead.len : Int) > (110:Int))) (fin := decide ((s.Planes.len : Int) ≤ (20:Int))) (n := s.Planes.len) (lpS := zn7 s) (lpP := zn8 s)
    (λ k i hi=>by
      show zn5 s (zn7 s k) (i:Int)=_
      generalize zn7 s k=S
      unfold zn5
      rw[dqT (show (i:Int) < (s.Planes.len:Int) by omega),dqA,dqN]
      cases decide (((s.Planes.get i).Drift.len:Int) > (60:Int)) <;> cases decide (((s.Planes.get i).Dead.len:Int) > (110:Int)) <;> rfl)
    (λ k=>by
      show zn5 s (zn7 s k) (s.Planes.len:Int)=_
      unfold zn5
      rw[dqF (show ¬ (s.Planes.len:Int) < (s.Planes.len:Int) by omega),dqB])
    (λ k i hi=>by
      show zn6 s (zn8 s k) (i:Int)=_
      generalize zn8 s k=S
      unfold zn6
      rw[dqT (show (i:Int) < (s.Planes.len:Int) by omega),dqA,dqN,dqT (show 0<=(i:Int)/\(i:Int) < (s.Planes.len:Int) by omega)]
      cases decide (((s.Planes.get i).Drift.len:Int) > (60:Int)) <;> cases decide (((s.Planes.get i).Dead.len:Int) > (110:Int)) <;> rfl)
    (λ k=>by
      show zn6 s (zn8 s k) (s.Planes.len:Int)=_
      unfold zn6
      rw[dqF (show ¬ (s.Planes.len:Int) < (s.Planes.len:Int) by omega),dqB]) h
  exact hl.1
theorem zP9 (l:Sl Plane) (hn:l.len<=9223372036854775807) (hw:∀ i,i < l.len->(l.get i).Drift.len<=9223372036854775807/\(l.get i).Dead.len<=9223372036854775807):p5 ⟨l⟩=true/\(s5 ⟨l⟩=true->SetOk l):=by
  have hl := zgj (good := (fun i => s14 (l.get i) && zG l i)) (fin := true) (n := l.len) (lpS := fun k i => zli  k i l) (lpP := fun k i => zlj  k i l)
    (λ k i hi=>by
      show zn9  (zli  k) (i:Int) l=cond (s14 (l.get i) && zG l i) (zli  k (w64 ((i:Int)+(1:Int))) l) false
      generalize zli  k=S
      unfold zn9
      rw[dqT (show (i:Int) < (l.len:Int) by omega),dqA,dqN]
      unfold zqK zG
      cases s14 (l.get i) <;> cases decide ((i:Int) > (0:Int)) <;> cases decide ((l.get i).Z<=(l.get (w64 ((i:Int) - (1:Int))).toNat).Z) <;> rfl)
    (λ k=>by
      show zn9  (zli  k) ((l.len:Nat):Int) l=_
      unfold zn9
      rw[dqF (show ¬ ((l.len:Nat):Int) < (l.len:Int) by omega),dqB])
    (λ k i hi=>by
      show zoa  (zlj  k) (i:Int) l=cond (s14 (l.get i) && zG l i) (zlj  k (w64 ((i:Int)+(1:Int))) l) true
      generalize zlj  k=S
      unfold zoa
      rw[dqT (show (i:Int) < (l.len:Int) by omega),dqA,dqN]
      unfold zqL zG
      rw[dqT (show 0<=(i:Int)/\(i:Int) < (l.len:Int) by omega),dqT (show p14 (l.get i)=true from zNI _ (hw i hi).1 (hw i hi).2)]
      by_cases h0:(i:Int) > 0
      · rw [dqT (show 0 ≤ w64 ((i : Int) - (1:Int)) ∧ w64 ((i : Int) - (1:Int)) < (l.len : Int) by rw [zcQ (by omega) (by omega)]; omega), dqT h0]
        cases s14 (l.get i) <;> cases decide ((l.get i).Z<=(l.get (w64 ((i:Int) - (1:Int))).toNat).Z) <;> rfl
      · rw [dqF h0]
        cases s14 (l.get i) <;> rfl)
    (λ k=>by
      show zoa  (zlj  k) ((l.len:Nat):Int) l=_
      unfold zoa
      rw[dqF (show ¬ ((l.len:Nat):Int) < (l.len:Int) by omega),dqB])
    hn
  unfold p5 s5 zzL zzK zzJ zzI zzG zzF
  show cond (!(s13 (l.len:Int) (1:Int) (16:Int))) true (zlj Fuel 0 l)=true/\(cond (!(s13 (l.len:Int) (1:Int) (16:Int))) false (zli Fuel 0 l)=true->SetOk l)
  rw[hl.1,cT]
  refine⟨by cases s13 (l.len:Int) (1:Int) (16:Int) <;> rfl,λ h=>?_⟩
  rw[dqm,zCo,decide_eq_true_eq] at h
  have hg:=(hl.2.1 h.2).1
  exact⟨by omega,by omega,λ i hi=>zNJ _ (hw i hi).1 (hw i hi).2 (by have:=hg i hi;rw[dqm] at this;exact this.1),λ i hi=>by have:=hg i hi;rw[dqm] at this;exact this.2⟩
theorem zNK {l:Sl Plane}(h:SetOk l):p44 ⟨l⟩=true/\s44 ⟨l⟩=true:=by
  have n1:=h.n1;have n16:=h.n16
  have hl := zgj (good := (fun i => s55 ⟨l.get i, (i : Int)⟩ && zG l i)) (fin := s45 (l.len : Int) (1:Int) (16:Int)) (n := l.len) (lpS := fun k i => zjA  k l (l.len : Int) i l) (lpP := fun k i => zjB  k l (l.len : Int) i l)
    (λ k i hi=>by
      show zk8  (zjA  k) l (l.len:Int) (i:Int) l=cond (s55 ⟨l.get i,(i:Int)⟩ && zG l i) (zjA  k l (l.len:Int) (w64 ((i:Int)+(1:Int))) l) false
      generalize zjA  k=S
      unfold zk8
      rw[dqT (show (i:Int) < (l.len:Int) by omega),dqA,dqN]
      unfold znc zG
      cases s55 ⟨l.get i,(i:Int)⟩ <;> cases decide ((i:Int) > (0:Int)) <;> cases decide ((l.get i).Z<=(l.get (w64 ((i:Int) - (1:Int))).toNat).Z) <;> rfl)
    (λ k=>by
      show zk8  (zjA  k) l (l.len:Int) ((l.len:Nat):Int) l=_
      unfold zk8
      rw[dqF (show ¬ ((l.len:Nat):Int) < (l.len:Int) by omega),dqB])
    (λ k i hi=>by
      show zk9  (zjB  k) l (l.len:Int) (i:Int) l=cond (s55 ⟨l.get i,(i:Int)⟩ && zG l i) (zjB  k l (l.len:Int) (w64 ((i:Int)+(1:Int))) l) true
      generalize zjB  k=S
      unfold zk9
      rw[dqT (show (i:Int) < (l.len:Int) by omega),dqA,dqN]
      unfold znd zG
      rw[dqT (show 0<=(i:Int)/\(i:Int) < (l.len:Int) by omega),dqT (show p55 ⟨l.get i,(i:Int)⟩=true from (zFA (h.pl i hi) _).1)]
      by_cases h0:(i:Int) > 0
      · rw [dqT (show 0 ≤ w64 ((i : Int) - (1:Int)) ∧ w64 ((i : Int) - (1:Int)) < (l.len : Int) by rw [zcQ (by omega) (by omega)]; omega), dqT h0]
        cases s55 ⟨l.get i,(i:Int)⟩ <;> cases decide ((l.get i).Z<=(l.get (w64 ((i:Int) - (1:Int))).toNat).Z) <;> rfl
      · rw [dqF h0]
        cases s55 ⟨l.get i,(i:Int)⟩ <;> rfl)
    (λ k=>by
      show zk9  (zjB  k) l (l.len:Int) ((l.len:Nat):Int) l=_
      unfold zk9
      rw[dqF (show ¬ ((l.len:Nat):Int) < (l.len:Int) by omega),dqB])
    (by omega)
  exact⟨hl.1,hl.2.2 ⟨λ i hi=>by rw[(zFA (h.pl i hi) _).2,h.z i hi];rfl,by rw[zkq];exact dqT (by omega)⟩⟩
theorem zCr (p:Plane) (c:Int) (hn:p.Dead.len<=100):p10 p c=true/\(s10 p c=true↔∃ i,i < p.Dead.len/\p.Dead.get i=c):=by
  have hl := zCl (good := (fun i => !(p.Dead.get i == c))) (bad := true) (fin := false) (finP := true) (n := p.Dead.len) (lpS := fun k i => zjv p c k i) (lpP := fun k i => zjw p c k i)
    (λ k i hi=>by
      show zkZ p c (zjv p c k) (i:Int)=cond (!(p.Dead.get i == c)) (zjv p c k (w64 ((i:Int)+(1:Int)))) true
      generalize zjv p c k=S
      unfold zkZ
      rw[dqT (show (i:Int) < (p.Dead.len:Int) by omega),dqA,dqN]
      cases p.Dead.get i == c <;> rfl)
    (λ k=>by
      show zkZ p c (zjv p c k) ((p.Dead.len:Nat):Int)=_
      unfold zkZ
      rw[dqF (show ¬ ((p.Dead.len:Nat):Int) < (p.Dead.len:Int) by omega),dqB])
    (λ k i hi=>by
      show zk0 p c (zjw p c k) (i:Int)=cond (!(p.Dead.get i == c)) (zjw p c k (w64 ((i:Int)+(1:Int)))) true
      generalize zjw p c k=S
      unfold zk0
      rw[dqT (show (i:Int) < (p.Dead.len:Int) by omega),dqA,dqN]
      rw[dqT (show 0<=(i:Int)/\(i:Int) < (p.Dead.len:Int) by omega)]
      cases p.Dead.get i == c <;> rfl)
    (λ k=>by
      show zk0 p c (zjw p c k) ((p.Dead.len:Nat):Int)=_
      unfold zk0
      rw[dqF (show ¬ ((p.Dead.len:Nat):Int) < (p.Dead.len:Int) by omega),dqB])
    (by omega)
  unfold p10 s10 zsQ zsP
  by_cases hg:∀ i,i < p.Dead.len->(!(p.Dead.get i == c))=true
  · exact⟨(hl.1 hg).1,λ k=>absurd ((hl.1 hg).2.symm.trans k) (by decide),λ ⟨i,hi,e⟩=>by have:=hg i hi;rw[e,beq_self_eq_true] at this;cases this⟩
  · refine ⟨(hl.2 hg).1, fun _ => Classical.byContradiction fun k => hg fun i hi => ?_, fun _ => (hl.2 hg).2⟩
    rw[Bool.not_eq_true',dqU];exact λ e=>k ⟨i,hi,e⟩
end Go.Proofs
namespace Go.Proofs
open Go Go.Pm
set_option maxRecDepth 100000
set_option linter.unusedVariables false
structure HitF (l : Sl Plane) (h : Hit) : Prop where
  p0:0<=h.Plane
  p1:h.Plane < (l.len:Int)
  k:(l.get h.Plane.toNat).Kind=3
  c0:0<=h.Channel
  m1:1<=h.Many
  cm:h.Channel+h.Many<=(l.get h.Plane.toNat).Strips
  d:h.Drift=0
  q:(l.get h.Plane.toNat).Least<=h.Charge/\h.Charge<=1000000
  t:h.Time=0
def ziG (p:Plane) (a b:Int):Prop:=∃ i,i < p.Dead.len/\a<=p.Dead.get i/\p.Dead.get i < b
theorem zpF {l:Sl Plane}(hs:SetOk l){h:Hit}(ha:HitF l h):p27 ⟨l⟩ h=true/\(ziG (l.get h.Plane.toNat) h.Channel (h.Channel+h.Many)->(s27 ⟨l⟩ h).2=false)/\(¬ ziG (l.get h.Plane.toNat) h.Channel (h.Channel+h.Many)->s27 ⟨l⟩ h=(⟨(l.get h.Plane.toNat),h.Plane⟩,true)):=by
  have n1:=hs.n1;have n16:=hs.n16
  obtain⟨a0,a1,k3,ac,am,acm,ad,aq,aT⟩:=ha
  have hp:=hs.pl h.Plane.toNat (by omega)
  have hdl:=hp.dl
  have hst:=hp.st
  have hle:=hp.l
  have hl := zCl (good := (fun i => (!(s45 ((l.get h.Plane.toNat).Dead.get i) h.Channel (w64 ((w64 (h.Channel + h.Many)) - (1:Int))))))) (bad := ((⟨(l.get h.Plane.toNat), h.Plane⟩ : placed), false)) (finP := true) (n := (l.get h.Plane.toNat).Dead.len) (lpS := fun k i => zio h (l.get h.Plane.toNat).Kind (l.get h.Plane.toNat).View (l.get h.Plane.toNat).Z (l.get h.Plane.toNat).First (l.get h.Plane.toNat).Pitch (l.get h.Plane.toNat).Strips (l.get h.Plane.toNat).Spill (l.get h.Plane.toNat).Offset.Low (l.get h.Plane.toNat).Offset.High (l.get h.Plane.toNat).Clock.Low (l.get h.Plane.toNat).Clock.High (l.get h.Plane.toNat).Jitter (l.get h.Plane.toNat).Least (l.get h.Plane.toNat).Drift (l.get h.Plane.toNat).Dead k i) (lpP := fun k i => zjx h (l.get h.Plane.toNat).Kind (l.get h.Plane.toNat).View (l.get h.Plane.toNat).Z (l.get h.Plane.toNat).First (l.get h.Plane.toNat).Pitch (l.get h.Plane.toNat).Strips (l.get h.Plane.toNat).Spill (l.get h.Plane.toNat).Offset.Low (l.get h.Plane.toNat).Offset.High (l.get h.Plane.toNat).Clock.Low (l.get h.Plane.toNat).Clock.High (l.get h.Plane.toNat).Jitter (l.get h.Plane.toNat).Least (l.get h.Plane.toNat).Drift (l.get h.Plane.toNat).Dead k i)
    (λ k i hi=>by
      show zk1 h _ _ _ _ _ _ _ _ _ _ _ _ _ _ _ (zio h _ _ _ _ _ _ _ _ _ _ _ _ _ _ _ k) (i:Int)=cond (!(s45 ((l.get h.Plane.toNat).Dead.get i) h.Channel (w64 ((w64 (h.Channel+h.Many)) - (1:Int))))) (zio h _ _ _ _ _ _ _ _ _ _ _ _ _ _ _ k (w64 ((i:Int)+(1:Int)))) ((⟨(l.get h.Plane.toNat),h.Plane⟩:placed),false)
      unfold zk1
      rw[dqT (show (i:Int) < ((l.get h.Plane.toNat).Dead.len:Int) by omega),dqA,dqN]
      unfold zsX
      cases s45 ((l.get h.Plane.toNat).Dead.get i) h.Channel (w64 ((w64 (h.Channel+h.Many)) - (1:Int))) <;> rfl)
    (λ k=>by
      show zk1 h _ _ _ _ _ _ _ _ _ _ _ _ _ _ _ (zio h _ _ _ _ _ _ _ _ _ _ _ _ _ _ _ k) ((l.get h.Plane.toNat).Dead.len:Int)=_
      unfold zk1
      rw[dqF (show ¬ ((l.get h.Plane.toNat).Dead.len:Int) < ((l.get h.Plane.toNat).Dead.len:Int) by omega),dqB])
    (λ k i hi=>by
      show zk2 h _ _ _ _ _ _ _ _ _ _ _ _ _ _ _ (zjx h _ _ _ _ _ _ _ _ _ _ _ _ _ _ _ k) (i:Int)=cond (!(s45 ((l.get h.Plane.toNat).Dead.get i) h.Channel (w64 ((w64 (h.Channel+h.Many)) - (1:Int))))) (zjx h _ _ _ _ _ _ _ _ _ _ _ _ _ _ _ k (w64 ((i:Int)+(1:Int)))) true
      unfold zk2
      rw[dqT (show (i:Int) < ((l.get h.Plane.toNat).Dead.len:Int) by omega),dqA,dqN]
      unfold zsY
      rw[dqT (show 0<=(i:Int)/\(i:Int) < ((l.get h.Plane.toNat).Dead.len:Int) by omega)]
      cases s45 ((l.get h.Plane.toNat).Dead.get i) h.Channel (w64 ((w64 (h.Channel+h.Many)) - (1:Int))) <;> rfl)
    (λ k=>by
      show zk2 h _ _ _ _ _ _ _ _ _ _ _ _ _ _ _ (zjx h _ _ _ _ _ _ _ _ _ _ _ _ _ _ _ k) ((l.get h.Plane.toNat).Dead.len:Int)=_
      unfold zk2
      rw[dqF (show ¬ ((l.get h.Plane.toNat).Dead.len:Int) < ((l.get h.Plane.toNat).Dead.len:Int) by omega),dqB])
    (by omega)
  have r1:s45 h.Plane (0:Int) (w64 ((l.len:Int) - (1:Int)))=true:=by rw[zkq,zcQ (by omega) (by omega)];exact dqT (by omega)
  have r2:s45 h.Channel (0:Int) (w64 ((l.get h.Plane.toNat).Strips - (1:Int)))=true:=by rw[zkq,zcQ (by omega) (by omega)];exact dqT (by omega)
  have r3:s45 h.Many (1:Int) (w64 ((l.get h.Plane.toNat).Strips - h.Channel))=true:=by rw[zkq,zcQ (by omega) (by omega)];exact dqT (by omega)
  have r4:s45 h.Charge (l.get h.Plane.toNat).Least (1000000:Int)=true:=by rw[zkq];exact dqT aq
  have r5:s45 h.Time (-1000000000:Int) (1000000000:Int)=true:=by rw[zkq,aT];exact dqT (by omega)
  have r6:zpo h (l.get h.Plane.toNat).Kind (l.get h.Plane.toNat).View (l.get h.Plane.toNat).Z (l.get h.Plane.toNat).First (l.get h.Plane.toNat).Pitch (l.get h.Plane.toNat).Strips (l.get h.Plane.toNat).Spill (l.get h.Plane.toNat).Offset.Low (l.get h.Plane.toNat).Offset.High (l.get h.Plane.toNat).Clock.Low (l.get h.Plane.toNat).Clock.High (l.get h.Plane.toNat).Jitter (l.get h.Plane.toNat).Least (l.get h.Plane.toNat).Drift (l.get h.Plane.toNat).Dead=(⟨(l.get h.Plane.toNat),h.Plane⟩,true):=by
    unfold zpo zsW
    rw[show ((l.get h.Plane.toNat).Kind == (2:Int))=false by rw[k3];rfl,show (h.Drift == (0:Int))=true from beq_iff_eq.2 ad,show ((l.get h.Plane.toNat).Kind != (3:Int))=false by rw[k3];rfl,show (h.Time == (0:Int))=true from beq_iff_eq.2 aT];rfl
  have hw:w64 ((w64 (h.Channel+h.Many)) - (1:Int))=h.Channel+h.Many - 1:=by rw[zcQ (x:=h.Channel+h.Many) (by omega) (by omega),zcQ (by omega) (by omega)]
  have hin:∀ i,(!(s45 ((l.get h.Plane.toNat).Dead.get i) h.Channel (w64 ((w64 (h.Channel+h.Many)) - (1:Int))))) = !decide (h.Channel<=(l.get h.Plane.toNat).Dead.get i/\(l.get h.Plane.toNat).Dead.get i < h.Channel+h.Many):=λ i=>by
    rw[hw,zkq];congr 1;exact decide_eq_decide.2 (by omega)
  have e:s27 ⟨l⟩ h=zio h (l.get h.Plane.toNat).Kind (l.get h.Plane.toNat).View (l.get h.Plane.toNat).Z (l.get h.Plane.toNat).First (l.get h.Plane.toNat).Pitch (l.get h.Plane.toNat).Strips (l.get h.Plane.toNat).Spill (l.get h.Plane.toNat).Offset.Low (l.get h.Plane.toNat).Offset.High (l.get h.Plane.toNat).Clock.Low (l.get h.Plane.toNat).Clock.High (l.get h.Plane.toNat).Jitter (l.get h.Plane.toNat).Least (l.get h.Plane.toNat).Drift (l.get h.Plane.toNat).Dead Fuel 0/\p27 ⟨l⟩ h=zjx h (l.get h.Plane.toNat).Kind (l.get h.Plane.toNat).View (l.get h.Plane.toNat).Z (l.get h.Plane.toNat).First (l.get h.Plane.toNat).Pitch (l.get h.Plane.toNat).Strips (l.get h.Plane.toNat).Spill (l.get h.Plane.toNat).Offset.Low (l.get h.Plane.toNat).Offset.High (l.get h.Plane.toNat).Clock.Low (l.get h.Plane.toNat).Clock.High (l.get h.Plane.toNat).Jitter (l.get h.Plane.toNat).Least (l.get h.Plane.toNat).Drift (l.get h.Plane.toNat).Dead Fuel 0:=by
    unfold p27 s27 zs9 zs8 zs7 zs6
    show cond (!(s45 h.Plane (0:Int) (w64 ((l.len:Int) - (1:Int))))) _ _=_/\cond (!(s45 h.Plane (0:Int) (w64 ((l.len:Int) - (1:Int))))) true _=_
    rw[r1,r2,r3,r4,r5,dqT (show 0<=h.Plane/\h.Plane < (l.len:Int) from ⟨a0,a1⟩)]
    simp only[Bool.not_true,dqB,Bool.true_and]
    unfold zk4 zk3 zs5 zs4 zs3 zsZ
    rw[dqB,dqB]
    exact⟨Eq.refl _,Eq.refl _⟩
  rw[e.1,e.2]
  by_cases hg:∀ i,i < (l.get h.Plane.toNat).Dead.len->(!(s45 ((l.get h.Plane.toNat).Dead.get i) h.Channel (w64 ((w64 (h.Channel+h.Many)) - (1:Int)))))=true
  · have hnd : ¬ ziG (l.get h.Plane.toNat) h.Channel (h.Channel+h.Many):=λ ⟨i,hi,b1,b2⟩=>by
      have:=hg i hi
      rw[hin,dqT ⟨b1,b2⟩] at this;cases this
    exact⟨(hl.1 hg).1,λ k=>absurd k hnd,λ _=>(hl.1 hg).2.trans r6⟩
  · refine ⟨(hl.2 hg).1, fun _ => by rw [show zio h (l.get h.Plane.toNat).Kind (l.get h.Plane.toNat).View (l.get h.Plane.toNat).Z (l.get h.Plane.toNat).First (l.get h.Plane.toNat).Pitch (l.get h.Plane.toNat).Strips (l.get h.Plane.toNat).Spill (l.get h.Plane.toNat).Offset.Low (l.get h.Plane.toNat).Offset.High (l.get h.Plane.toNat).Clock.Low (l.get h.Plane.toNat).Clock.High (l.get h.Plane.toNat).Jitter (l.get h.Plane.toNat).Least (l.get h.Plane.toNat).Drift (l.get h.Plane.toNat).Dead Fuel 0 = _ from (hl.2 hg).2], fun k => absurd (fun i hi => ?_) hg⟩
    rw[hin,dqF λ b=>k ⟨i,hi,b.1,b.2⟩];rfl
theorem zuY {l:Sl Plane}(hs:SetOk l){h:Hit}(ha:HitF l h):p26 ⟨l⟩ h=true/\s26 ⟨l⟩ h=(s27 ⟨l⟩ h).2:=by
 obtain⟨a1,a2⟩:=zNK hs
 have b1:=(zpF hs ha).1
 unfold p26 s26
 rw[a1,a2,b1]
 exact⟨rfl,rfl⟩
theorem zD6 {l:Sl Plane}(hs:SetOk l){h:Hit}(ha:HitF l h):p11 ⟨l⟩ h=true/\(ziG (l.get h.Plane.toNat) h.Channel (h.Channel+h.Many)->s11 ⟨l⟩ h=2)/\(¬ ziG (l.get h.Plane.toNat) h.Channel (h.Channel+h.Many)->s11 ⟨l⟩ h=0):=by
 obtain⟨a1,a2⟩:=zuY hs ha
 obtain⟨_,b2,b3⟩:=zpF hs ha
 unfold p11 s11
 rw[a1,a2]
 exact⟨rfl,λ k=>by rw[b2 k];rfl,λ k=>by rw[b3 k];rfl⟩
theorem zD7 {l:Sl Plane}(hs:SetOk l){h:Hit}(ha:HitF l h):p28 ⟨(l.get h.Plane.toNat),h.Plane⟩ h=true/\(s28 ⟨(l.get h.Plane.toNat),h.Plane⟩ h).len=if (h.Many - 2) * (l.get h.Plane.toNat).Pitch<=2 * (l.get h.Plane.toNat).Spill then 1 else 0:=by
 obtain⟨a0,a1,k3,ac,am,acm,ad,aq,aT⟩:=ha
 have hp:=hs.pl h.Plane.toNat (by omega)
 have hst:=hp.st;have hpt:=hp.pt;have hsp:=hp.sp;have hf:=hp.f
 unfold p28 s28
 show cond ((l.get h.Plane.toNat).Kind != (2:Int)) true _=true/\(cond ((l.get h.Plane.toNat).Kind != (2:Int)) (cond (decide ((w64 ((w64 ((l.get h.Plane.toNat).First+(w64 ((w64 ((w64 (h.Channel+h.Many)) - (1:Int))) * (l.get h.Plane.toNat).Pitch)))) - (l.get h.Plane.toNat).Spill)) > (w64 ((w64 ((l.get h.Plane.toNat).First+(w64 ((w64 (h.Channel+(1:Int))) * (l.get h.Plane.toNat).Pitch))))+(l.get h.Plane.toNat).Spill)))) (⟨0,λ _=>default⟩:Sl Gate) (⟨1,_⟩:Sl Gate)) _).len=_
 rw[show ((l.get h.Plane.toNat).Kind != (2:Int))=true by rw[k3];rfl,dqA,dqA]
 refine⟨rfl,?_⟩
 have u1:∀ x:Int,0<=x->x<=2000->0<=x * (l.get h.Plane.toNat).Pitch/\x * (l.get h.Plane.toNat).Pitch<=200000000:=λ x h0 h1=>⟨Int.mul_nonneg h0 (by omega),by have:=Int.mul_le_mul h1 hpt.2 (by omega) (by omega:(0:Int)<=2000);omega⟩
 have v1:=u1 (h.Channel+h.Many - 1) (by omega) (by omega)
 have v2:=u1 (h.Channel+1) (by omega) (by omega)
 have v3:(h.Channel+h.Many - 1) * (l.get h.Plane.toNat).Pitch=(h.Channel+1) * (l.get h.Plane.toNat).Pitch+(h.Many - 2) * (l.get h.Plane.toNat).Pitch:=by rw[<- Int.add_mul];congr 1;omega
 rw[zcQ (x:=h.Channel+h.Many) (by omega) (by omega),zcQ (x:=h.Channel+h.Many - 1) (by omega) (by omega),zcQ (x:=h.Channel+1) (by omega) (by omega),zcQ (x:=(h.Channel+h.Many - 1) * (l.get h.Plane.toNat).Pitch) (by omega) (by omega),zcQ (x:=(h.Channel+1) * (l.get h.Plane.toNat).Pitch) (by omega) (by omega),
  zcQ (x:=(l.get h.Plane.toNat).First+(h.Channel+h.Many - 1) * (l.get h.Plane.toNat).Pitch) (by omega) (by omega),zcQ (x:=(l.get h.Plane.toNat).First+(h.Channel+1) * (l.get h.Plane.toNat).Pitch) (by omega) (by omega),zcQ (x:=(l.get h.Plane.toNat).First+(h.Channel+h.Many - 1) * (l.get h.Plane.toNat).Pitch - (l.get h.Plane.toNat).Spill) (by omega) (by omega),zcQ (x:=(l.get h.Plane.toNat).First+(h.Channel+1) * (l.get h.Plane.toNat).Pitch+(l.get h.Plane.toNat).Spill) (by omega) (by omega)]
 by_cases g:(h.Many - 2) * (l.get h.Plane.toNat).Pitch<=2 * (l.get h.Plane.toNat).Spill
 ·rw[dqP g,dqF (by omega)];rfl
 ·rw[dqG g,dqT (by omega)];rfl
theorem zD8 {l:Sl Plane}(hs:SetOk l){h:Hit}(ha:HitF l h) (hd : ¬ ziG (l.get h.Plane.toNat) h.Channel (h.Channel+h.Many)):p12 ⟨l⟩ h=true /\
  ((h.Many - 2) * (l.get h.Plane.toNat).Pitch<=2 * (l.get h.Plane.toNat).Spill->(s12 ⟨l⟩ h).2=0/\(s12 ⟨l⟩ h).1.len=1)/\(¬ (h.Many - 2) * (l.get h.Plane.toNat).Pitch<=2 * (l.get h.Plane.toNat).Spill->(s12 ⟨l⟩ h).2=5/\(s12 ⟨l⟩ h).1.len=0):=by
 obtain⟨a1,a2⟩:=zuY hs ha
 obtain⟨b1,_,b3⟩:=zpF hs ha
 have b3:=b3 hd
 obtain⟨c1,c2⟩:=zD7 hs ha
 have e1:s12 ⟨l⟩ h=cond (((s28 ⟨(l.get h.Plane.toNat),h.Plane⟩ h).len:Int) == (0:Int)) ((⟨0,λ _=>default⟩:Sl Gate),(5:Int)) ((⟨(s28 ⟨(l.get h.Plane.toNat),h.Plane⟩ h).len,(s28 ⟨(l.get h.Plane.toNat),h.Plane⟩ h).get⟩:Sl Gate),(0:Int)):=by
  unfold s12 ztr
  rw[a2,b3];rfl
 have e2:p12 ⟨l⟩ h=true:=by
  unfold p12 zts
  rw[a1,a2,b1,b3]
  show (decide (p28 ⟨(l.get h.Plane.toNat),h.Plane⟩ h=true) && true)=true
  rw[c1];rfl
 rw[e1,e2,c2]
 refine⟨rfl,λ g=>?_,λ g=>?_⟩
 ·rw[dqP g];exact⟨rfl,rfl⟩
 ·rw[dqG g];exact⟨rfl,rfl⟩
end Go.Proofs
namespace Go.Proofs
open Go Go.Pm
set_option maxRecDepth 100000
set_option linter.unusedVariables false
def cnt (f : Nat → Bool) (a : Nat) : Nat → Int
  | 0=>0
  | m+1=>cnt f a m+cond (f (a+m)) 1 0
def zvP (f : Nat → Bool) (a : Nat) : Nat → Bool
  | 0=>false
  | m+1=>zvP f a m || f (a+m)
theorem cnt_le (f:Nat->Bool) (a m:Nat):0<=cnt f a m/\cnt f a m<=m/\(cnt f a m=m↔∀ k,a<=k->k < a+m->f k=true):=by
 induction m with
 | zero=>exact⟨Int.le_refl _,Int.le_refl _,λ _ k h1 h2=>absurd h2 (by omega),λ _=>rfl⟩
 | succ m ih =>
  obtain⟨h1,h2,h3⟩:=ih
  rw[cnt]
  cases hf:f (a+m)
  ·rw [dqB]
   refine⟨by omega,by omega,λ h=>absurd h (by omega),λ h=>?_⟩
   have:=h (a+m) (by omega) (by omega);rw[hf] at this;cases this
  ·rw [dqA]
   refine⟨by omega,by omega,λ h k a1 a2=>?_,λ h=>?_⟩
   ·by_cases e : k = a + m
    ·rw[e];exact hf
    ·exact h3.1 (by omega) k a1 (by omega)
   ·have := h3.2 fun k a1 a2 => h k a1 (by omega)
    omega
theorem zD9 (f:Nat->Bool) (a m:Nat):zvP f a m=true↔∃ k,a<=k/\k < a+m/\f k=true:=by
 induction m with
 | zero=>exact⟨λ h=>absurd (show false=true from h) (by decide),λ ⟨k,h1,h2,_⟩=>absurd h2 (by omega)⟩
 | succ m ih =>
  rw[zvP,Bool.or_eq_true,ih]
  refine⟨λ h=>h.elim (λ ⟨k,h1,h2,h3⟩=>⟨k,h1,by omega,h3⟩) λ h=>⟨a+m,by omega,by omega,h⟩,λ ⟨k,h1,h2,h3⟩=>?_⟩
  by_cases e:k=a+m
  ·rw[<- e];exact .inr h3
  ·exact .inl ⟨k,h1,by omega,h3⟩
theorem zJT {l : Sl Plane} {at_a : Int} {cells : Sl Bool} {need charge : Int} {lv : Sl Bool} {S6 : Int → (Sl Plane) → Int → Int → Int → Int → Int → Int → Int → Int → Int → Int → Int → Int → Int → (Sl Drift) → (Sl Int) → Bool} {P6 : Int → (Sl Plane) → Int → Int → Int → Int → Int → Int → Int → Int → Int → Int → Int → Int → Int → (Sl Drift) → (Sl Int) → Bool} {c a : Nat} (hc : c < cells.len) (hn : cells.len ≤ 100) (ha : a ≤ c + 1) (hd : (l.get at_a.toNat).Dead.len ≤ 100) :
    zln S6 at_a cells need charge lv Fuel (c:Int) 0 false (a:Int) l (l.get at_a.toNat).Kind (l.get at_a.toNat).View (l.get at_a.toNat).Z (l.get at_a.toNat).First (l.get at_a.toNat).Pitch (l.get at_a.toNat).Strips (l.get at_a.toNat).Spill (l.get at_a.toNat).Offset.Low (l.get at_a.toNat).Offset.High (l.get at_a.toNat).Clock.Low (l.get at_a.toNat).Clock.High (l.get at_a.toNat).Jitter (l.get at_a.toNat).Least (l.get at_a.toNat).Drift (l.get at_a.toNat).Dead=zq0 S6 at_a cells need charge lv (c:Int) (cnt cells.get a (c+1 - a)) (zvP (λ k=>s10 (l.get at_a.toNat) (k:Int)) a (c+1 - a)) l (l.get at_a.toNat).Kind (l.get at_a.toNat).View (l.get at_a.toNat).Z (l.get at_a.toNat).First (l.get at_a.toNat).Pitch (l.get at_a.toNat).Strips (l.get at_a.toNat).Spill (l.get at_a.toNat).Offset.Low (l.get at_a.toNat).Offset.High (l.get at_a.toNat).Clock.Low (l.get at_a.toNat).Clock.High (l.get at_a.toNat).Jitter (l.get at_a.toNat).Least (l.get at_a.toNat).Drift (l.get at_a.toNat).Dead /\
    zlo P6 at_a cells need charge lv Fuel (c:Int) 0 false (a:Int) l (l.get at_a.toNat).Kind (l.get at_a.toNat).View (l.get at_a.toNat).Z (l.get at_a.toNat).First (l.get at_a.toNat).Pitch (l.get at_a.toNat).Strips (l.get at_a.toNat).Spill (l.get at_a.toNat).Offset.Low (l.get at_a.toNat).Offset.High (l.get at_a.toNat).Clock.Low (l.get at_a.toNat).Clock.High (l.get at_a.toNat).Jitter (l.get at_a.toNat).Least (l.get at_a.toNat).Drift (l.get at_a.toNat).Dead=zq1 P6 at_a cells need charge lv (c:Int) (cnt cells.get a (c+1 - a)) (zvP (λ k=>s10 (l.get at_a.toNat) (k:Int)) a (c+1 - a)) l (l.get at_a.toNat).Kind (l.get at_a.toNat).View (l.get at_a.toNat).Z (l.get at_a.toNat).First (l.get at_a.toNat).Pitch (l.get at_a.toNat).Strips (l.get at_a.toNat).Spill (l.get at_a.toNat).Offset.Low (l.get at_a.toNat).Offset.High (l.get at_a.toNat).Clock.Low (l.get at_a.toNat).Clock.High (l.get at_a.toNat).Jitter (l.get at_a.toNat).Least (l.get at_a.toNat).Drift (l.get at_a.toNat).Dead:=by
  refine go_loop (σ := Int × Bool) (β := Bool) (Inv := fun i s => s.1 = cnt cells.get a (i - a) ∧ s.2 = zvP (fun k => s10 (l.get at_a.toNat) (k : Int)) a (i - a))
    (Q:=λ r b=>r=zq0 S6 at_a cells need charge lv (c:Int) (cnt cells.get a (c+1 - a)) (zvP (λ k=>s10 (l.get at_a.toNat) (k:Int)) a (c+1 - a)) l (l.get at_a.toNat).Kind (l.get at_a.toNat).View (l.get at_a.toNat).Z (l.get at_a.toNat).First (l.get at_a.toNat).Pitch (l.get at_a.toNat).Strips (l.get at_a.toNat).Spill (l.get at_a.toNat).Offset.Low (l.get at_a.toNat).Offset.High (l.get at_a.toNat).Clock.Low (l.get at_a.toNat).Clock.High (l.get at_a.toNat).Jitter (l.get at_a.toNat).Least (l.get at_a.toNat).Drift (l.get at_a.toNat).Dead/\b=zq1 P6 at_a cells need charge lv (c:Int) (cnt cells.get a (c+1 - a)) (zvP (λ k=>s10 (l.get at_a.toNat) (k:Int)) a (c+1 - a)) l (l.get at_a.toNat).Kind (l.get at_a.toNat).View (l.get at_a.toNat).Z (l.get at_a.toNat).First (l.get at_a.toNat).Pitch (l.get at_a.toNat).Strips (l.get at_a.toNat).Spill (l.get at_a.toNat).Offset.Low (l.get at_a.toNat).Offset.High (l.get at_a.toNat).Clock.Low (l.get at_a.toNat).Clock.High (l.get at_a.toNat).Jitter (l.get at_a.toNat).Least (l.get at_a.toNat).Drift (l.get at_a.toNat).Dead)
    (a:=a) (n:=c+1) (lpS:=λ k s i=>zln S6 at_a cells need charge lv k (c:Int) s.1 s.2 i l (l.get at_a.toNat).Kind (l.get at_a.toNat).View (l.get at_a.toNat).Z (l.get at_a.toNat).First (l.get at_a.toNat).Pitch (l.get at_a.toNat).Strips (l.get at_a.toNat).Spill (l.get at_a.toNat).Offset.Low (l.get at_a.toNat).Offset.High (l.get at_a.toNat).Clock.Low (l.get at_a.toNat).Clock.High (l.get at_a.toNat).Jitter (l.get at_a.toNat).Least (l.get at_a.toNat).Drift (l.get at_a.toNat).Dead) (lpP:=λ k s i=>zlo P6 at_a cells need charge lv k (c:Int) s.1 s.2 i l (l.get at_a.toNat).Kind (l.get at_a.toNat).View (l.get at_a.toNat).Z (l.get at_a.toNat).First (l.get at_a.toNat).Pitch (l.get at_a.toNat).Strips (l.get at_a.toNat).Spill (l.get at_a.toNat).Offset.Low (l.get at_a.toNat).Offset.High (l.get at_a.toNat).Clock.Low (l.get at_a.toNat).Clock.High (l.get at_a.toNat).Jitter (l.get at_a.toNat).Least (l.get at_a.toNat).Drift (l.get at_a.toNat).Dead)
    (λ k i s hi1 hi2 hI=>?_) (λ k s hI=>?_) ha (by omega) ((0,false):Int×Bool) ⟨by rw[Nat.sub_self];rfl,by rw[Nat.sub_self];rfl⟩
  · obtain ⟨g, d⟩ := s
    obtain⟨e1,e2⟩:=hI
    have e1:g=cnt cells.get a (i - a):=e1
    have e2:d=zvP (λ k=>s10 (l.get at_a.toNat) (k:Int)) a (i - a):=e2
    refine .inr ⟨(g+cond (cells.get i) 1 0,d || s10 (l.get at_a.toNat) (i:Int)),⟨?_,?_⟩,?_⟩
    · show g + cond (cells.get i) 1 0 = cnt cells.get a (i + 1 - a)
      rw[show i+1 - a=(i - a)+1 by omega,cnt,e1,show a+(i - a)=i by omega]
    · show (d || s10 (l.get at_a.toNat) (i : Int)) = zvP (fun k => s10 (l.get at_a.toNat) (k : Int)) a (i + 1 - a)
      rw[show i+1 - a=(i - a)+1 by omega,zvP,e2,show a+(i - a)=i by omega]
    · show zoj S6 at_a cells need charge lv (zln S6 at_a cells need charge lv k) (c:Int) g d (i:Int) l (l.get at_a.toNat).Kind (l.get at_a.toNat).View (l.get at_a.toNat).Z (l.get at_a.toNat).First (l.get at_a.toNat).Pitch (l.get at_a.toNat).Strips (l.get at_a.toNat).Spill (l.get at_a.toNat).Offset.Low (l.get at_a.toNat).Offset.High (l.get at_a.toNat).Clock.Low (l.get at_a.toNat).Clock.High (l.get at_a.toNat).Jitter (l.get at_a.toNat).Least (l.get at_a.toNat).Drift (l.get at_a.toNat).Dead=zln S6 at_a cells need charge lv k (c:Int) (g+cond (cells.get i) 1 0) (d || s10 (l.get at_a.toNat) (i:Int)) (w64 ((i:Int)+(1:Int))) l (l.get at_a.toNat).Kind (l.get at_a.toNat).View (l.get at_a.toNat).Z (l.get at_a.toNat).First (l.get at_a.toNat).Pitch (l.get at_a.toNat).Strips (l.get at_a.toNat).Spill (l.get at_a.toNat).Offset.Low (l.get at_a.toNat).Offset.High (l.get at_a.toNat).Clock.Low (l.get at_a.toNat).Clock.High (l.get at_a.toNat).Jitter (l.get at_a.toNat).Least (l.get at_a.toNat).Drift (l.get at_a.toNat).Dead /\
        zok P6 at_a cells need charge lv (zlo P6 at_a cells need charge lv k) (c:Int) g d (i:Int) l (l.get at_a.toNat).Kind (l.get at_a.toNat).View (l.get at_a.toNat).Z (l.get at_a.toNat).First (l.get at_a.toNat).Pitch (l.get at_a.toNat).Strips (l.get at_a.toNat).Spill (l.get at_a.toNat).Offset.Low (l.get at_a.toNat).Offset.High (l.get at_a.toNat).Clock.Low (l.get at_a.toNat).Clock.High (l.get at_a.toNat).Jitter (l.get at_a.toNat).Least (l.get at_a.toNat).Drift (l.get at_a.toNat).Dead=zlo P6 at_a cells need charge lv k (c:Int) (g+cond (cells.get i) 1 0) (d || s10 (l.get at_a.toNat) (i:Int)) (w64 ((i:Int)+(1:Int))) l (l.get at_a.toNat).Kind (l.get at_a.toNat).View (l.get at_a.toNat).Z (l.get at_a.toNat).First (l.get at_a.toNat).Pitch (l.get at_a.toNat).Strips (l.get at_a.toNat).Spill (l.get at_a.toNat).Offset.Low (l.get at_a.toNat).Offset.High (l.get at_a.toNat).Clock.Low (l.get at_a.toNat).Clock.High (l.get at_a.toNat).Jitter (l.get at_a.toNat).Least (l.get at_a.toNat).Drift (l.get at_a.toNat).Dead
      generalize zln S6 at_a cells need charge lv k=S
      generalize zlo P6 at_a cells need charge lv k=P
      have hg:=cnt_le cells.get a (i - a)
      have hw:w64 (g+s9 (cells.get i))=g+cond (cells.get i) 1 0:=by
        unfold s9
        cases cells.get i
        · rw[dqB];exact zcQ (by omega) (by omega)
        · rw[dqA];exact zcQ (by omega) (by omega)
      unfold zoj zok
      rw[dqT (show (i:Int)<=(c:Int) by omega),dqA,dqA,dqT (show 0<=(i:Int)/\(i:Int) < (cells.len:Int) by omega),Bool.true_and,dqN,hw]
      unfold zB5 zB6
      rw[show (⟨(l.get at_a.toNat).Kind,(l.get at_a.toNat).View,(l.get at_a.toNat).Z,(l.get at_a.toNat).First,(l.get at_a.toNat).Pitch,(l.get at_a.toNat).Strips,(l.get at_a.toNat).Spill,(⟨(l.get at_a.toNat).Offset.Low,(l.get at_a.toNat).Offset.High⟩:Span),(⟨(l.get at_a.toNat).Clock.Low,(l.get at_a.toNat).Clock.High⟩:Span),(l.get at_a.toNat).Jitter,(l.get at_a.toNat).Least,(l.get at_a.toNat).Drift,(l.get at_a.toNat).Dead⟩:Plane)=(l.get at_a.toNat) from rfl,(zCr (l.get at_a.toNat) (i:Int) hd).1]
      cases d
      · exact⟨rfl,rfl⟩
      · exact⟨rfl,rfl⟩
  · obtain ⟨g, d⟩ := s
    obtain⟨e1,e2⟩:=hI
    have e1:g=cnt cells.get a (c+1 - a):=e1
    have e2:d=zvP (λ k=>s10 (l.get at_a.toNat) (k:Int)) a (c+1 - a):=e2
    rw[<- e1,<- e2]
    show zoj S6 at_a cells need charge lv (zln S6 at_a cells need charge lv k) (c:Int) g d ((c+1:Nat):Int) l (l.get at_a.toNat).Kind (l.get at_a.toNat).View (l.get at_a.toNat).Z (l.get at_a.toNat).First (l.get at_a.toNat).Pitch (l.get at_a.toNat).Strips (l.get at_a.toNat).Spill (l.get at_a.toNat).Offset.Low (l.get at_a.toNat).Offset.High (l.get at_a.toNat).Clock.Low (l.get at_a.toNat).Clock.High (l.get at_a.toNat).Jitter (l.get at_a.toNat).Least (l.get at_a.toNat).Drift (l.get at_a.toNat).Dead=_/\zok P6 at_a cells need charge lv (zlo P6 at_a cells need charge lv k) (c:Int) g d ((c+1:Nat):Int) l (l.get at_a.toNat).Kind (l.get at_a.toNat).View (l.get at_a.toNat).Z (l.get at_a.toNat).First (l.get at_a.toNat).Pitch (l.get at_a.toNat).Strips (l.get at_a.toNat).Spill (l.get at_a.toNat).Offset.Low (l.get at_a.toNat).Offset.High (l.get at_a.toNat).Clock.Low (l.get at_a.toNat).Clock.High (l.get at_a.toNat).Jitter (l.get at_a.toNat).Least (l.get at_a.toNat).Drift (l.get at_a.toNat).Dead=_
    unfold zoj zok
    rw[dqF (show ¬ ((c+1:Nat):Int)<=(c:Int) by omega),dqB,dqB]
    exact⟨Eq.refl _,Eq.refl _⟩
theorem zEa {l : Sl Plane} {at_a : Int} {cells : Sl Bool} {need charge : Int} {lv : Sl Bool} {n : Nat} (hs : SetOk l) (h0 : 0 ≤ at_a) (h1 : at_a < (l.len : Int)) (hk : (l.get at_a.toNat).Kind = 3) (hst : (l.get at_a.toNat).Strips ≤ 100) (hcl : (cells.len : Int) = (l.get at_a.toNat).Strips) (hn : need = (n : Int)) (n1 : 1 ≤ n) (n5 : n ≤ 5)
    (hq:(l.get at_a.toNat).Least<=charge/\charge<=1000000) (hl1:lv.len=cells.len) (hlv:∀ i,i < cells.len->lv.get i=decide (n<=gr cells.get (i+1))) :
    zlp at_a cells need charge lv Fuel 0 l (l.get at_a.toNat).Kind (l.get at_a.toNat).View (l.get at_a.toNat).Z (l.get at_a.toNat).First (l.get at_a.toNat).Pitch (l.get at_a.toNat).Strips (l.get at_a.toNat).Spill (l.get at_a.toNat).Offset.Low (l.get at_a.toNat).Offset.High (l.get at_a.toNat).Clock.Low (l.get at_a.toNat).Clock.High (l.get at_a.toNat).Jitter (l.get at_a.toNat).Least (l.get at_a.toNat).Drift (l.get at_a.toNat).Dead=true/\zlq at_a cells need charge lv Fuel 0 l (l.get at_a.toNat).Kind (l.get at_a.toNat).View (l.get at_a.toNat).Z (l.get at_a.toNat).First (l.get at_a.toNat).Pitch (l.get at_a.toNat).Strips (l.get at_a.toNat).Spill (l.get at_a.toNat).Offset.Low (l.get at_a.toNat).Offset.High (l.get at_a.toNat).Clock.Low (l.get at_a.toNat).Clock.High (l.get at_a.toNat).Jitter (l.get at_a.toNat).Least (l.get at_a.toNat).Drift (l.get at_a.toNat).Dead=true:=by
  have hp:=hs.pl at_a.toNat (by omega)
  have hd:=hp.dl
  have hpt:=hp.pt;have hsp:=hp.sp
  refine go_loop (σ := Unit) (β := Bool) (Inv := fun _ _ => True) (Q := fun r b => r = true ∧ b = true) (a := 0) (n := cells.len) (lpS := fun k _ i => zlp at_a cells need charge lv k i l (l.get at_a.toNat).Kind (l.get at_a.toNat).View (l.get at_a.toNat).Z (l.get at_a.toNat).First (l.get at_a.toNat).Pitch (l.get at_a.toNat).Strips (l.get at_a.toNat).Spill (l.get at_a.toNat).Offset.Low (l.get at_a.toNat).Offset.High (l.get at_a.toNat).Clock.Low (l.get at_a.toNat).Clock.High (l.get at_a.toNat).Jitter (l.get at_a.toNat).Least (l.get at_a.toNat).Drift (l.get at_a.toNat).Dead) (lpP := fun k _ i => zlq at_a cells need charge lv k i l (l.get at_a.toNat).Kind (l.get at_a.toNat).View (l.get at_a.toNat).Z (l.get at_a.toNat).First (l.get at_a.toNat).Pitch (l.get at_a.toNat).Strips (l.get at_a.toNat).Spill (l.get at_a.toNat).Offset.Low (l.get at_a.toNat).Offset.High (l.get at_a.toNat).Clock.Low (l.get at_a.toNat).Clock.High (l.get at_a.toNat).Jitter (l.get at_a.toNat).Least (l.get at_a.toNat).Drift (l.get at_a.toNat).Dead)
    (λ k c s _ hc _=>.inr ⟨(),trivial,?_⟩) (λ k s _=>?_) (by omega) (by omega) () trivial
  · show zol at_a cells need charge lv (zlp at_a cells need charge lv k) (c : Int) l (l.get at_a.toNat).Kind (l.get at_a.toNat).View (l.get at_a.toNat).Z (l.get at_a.toNat).First (l.get at_a.toNat).Pitch (l.get at_a.toNat).Strips (l.get at_a.toNat).Spill (l.get at_a.toNat).Offset.Low (l.get at_a.toNat).Offset.High (l.get at_a.toNat).Clock.Low (l.get at_a.toNat).Clock.High (l.get at_a.toNat).Jitter (l.get at_a.toNat).Least (l.get at_a.toNat).Drift (l.get at_a.toNat).Dead = zlp at_a cells need charge lv k (w64 ((c : Int) + (1:Int))) l (l.get at_a.toNat).Kind (l.get at_a.toNat).View (l.get at_a.toNat).Z (l.get at_a.toNat).First (l.get at_a.toNat).Pitch (l.get at_a.toNat).Strips (l.get at_a.toNat).Spill (l.get at_a.toNat).Offset.Low (l.get at_a.toNat).Offset.High (l.get at_a.toNat).Clock.Low (l.get at_a.toNat).Clock.High (l.get at_a.toNat).Jitter (l.get at_a.toNat).Least (l.get at_a.toNat).Drift (l.get at_a.toNat).Dead ∧ zom at_a cells need charge lv (zlq at_a cells need charge lv k) (c : Int) l (l.get at_a.toNat).Kind (l.get at_a.toNat).View (l.get at_a.toNat).Z (l.get at_a.toNat).First (l.get at_a.toNat).Pitch (l.get at_a.toNat).Strips (l.get at_a.toNat).Spill (l.get at_a.toNat).Offset.Low (l.get at_a.toNat).Offset.High (l.get at_a.toNat).Clock.Low (l.get at_a.toNat).Clock.High (l.get at_a.toNat).Jitter (l.get at_a.toNat).Least (l.get at_a.toNat).Drift (l.get at_a.toNat).Dead = zlq at_a cells need charge lv k (w64 ((c : Int) + (1:Int))) l (l.get at_a.toNat).Kind (l.get at_a.toNat).View (l.get at_a.toNat).Z (l.get at_a.toNat).First (l.get at_a.toNat).Pitch (l.get at_a.toNat).Strips (l.get at_a.toNat).Spill (l.get at_a.toNat).Offset.Low (l.get at_a.toNat).Offset.High (l.get at_a.toNat).Clock.Low (l.get at_a.toNat).Clock.High (l.get at_a.toNat).Jitter (l.get at_a.toNat).Least (l.get at_a.toNat).Drift (l.get at_a.toNat).Dead
    generalize zlp at_a cells need charge lv k=S
    generalize zlq at_a cells need charge lv k=P
    have hw:w64 (w64 ((c:Int) - need)+(1:Int))=(c:Int) - need+1:=by rw[zcQ (x:=(c:Int) - need) (by omega) (by omega),zcQ (by omega) (by omega)]
    have hif:(if w64 (w64 ((c:Int) - need)+(1:Int)) > (0:Int) then w64 (w64 ((c:Int) - need)+(1:Int)) else (0:Int))=((c+1 - n:Nat):Int):=by
      rw[hw]
      by_cases g:(c:Int) - need+1 > 0
      · rw[dqP g];omega
      · rw[dqG g];omega
    unfold zol zom
    rw[dqT (show (c:Int) < (cells.len:Int) by omega),dqA,dqA,hif]
    unfold zB7 zB8
    obtain⟨i1,i2⟩:=zJT (l:=l) (at_a:=at_a) (cells:=cells) (need:=need) (charge:=charge) (lv:=lv) (S6:=S) (P6:=P) (c:=c) (a:=c+1 - n) hc (by omega) (by omega) hd
    rw[i1,i2]
    have hcnt:=cnt_le cells.get (c+1 - n) (c+1 - (c+1 - n))
    have hany:=zD9 (λ k=>s10 (l.get at_a.toNat) (k:Int)) (c+1 - n) (c+1 - (c+1 - n))
    generalize (cnt cells.get (c+1 - n) (c+1 - (c+1 - n)))=g at hcnt ⊢
    generalize (zvP (λ k=>s10 (l.get at_a.toNat) (k:Int)) (c+1 - n) (c+1 - (c+1 - n)))=d at hany ⊢
    have hg:(g == need)=lv.get c:=by
      rw[hlv c hc,Bool.eq_iff_iff,decide_eq_true_eq,beq_iff_eq,zFy]
      obtain⟨w1,w2,w3⟩:=hcnt
      clear hany hlv
      refine⟨λ e=>⟨by omega,λ k a1 a2=>w3.1 (by omega) k (by omega) (by omega)⟩,λ ⟨e1,e2⟩=>?_⟩
      have w4:=w3.2 λ k a1 a2=>e2 k (by omega) (by omega)
      clear w3 hif hw
      omega
    unfold zq0 zq1
    rw[dqT (show 0<=(c:Int)/\(c:Int) < (lv.len:Int) by omega),dqN,hg,bne_self_eq_false,dqB,dqB,Bool.true_and]
    unfold ztw ztx
    rw[dqT (show 0<=(c:Int)/\(c:Int) < (lv.len:Int) by omega),dqN,Bool.true_and]
    cases hv:lv.get c
    · exact⟨rfl,rfl⟩
    have hnc:n<=c+1:=by
      rw[hlv c hc,decide_eq_true_eq,zFy] at hv;exact hv.1
    rw[hw]
    have hF:HitF l (⟨at_a,(c:Int) - need+1,need,0,charge,0⟩:Hit):=⟨h0,h1,hk,by show 0<=(c:Int) - need+1;omega,by show 1<=need;omega,by show (c:Int) - need+1+need<=(l.get at_a.toNat).Strips;omega,rfl,hq,rfl⟩
    obtain⟨f1,f2,f3⟩:=zD6 hs hF
    have f4:=zD8 hs hF
    have hdd:d=true↔ziG (l.get at_a.toNat) ((c:Int) - need+1) ((c:Int) - need+1+need):=by
      rw[hany]
      refine⟨λ ⟨k,a1,a2,a3⟩=>?_,λ ⟨i,a1,a2,a3⟩=>?_⟩
      · obtain ⟨i, b1, b2⟩ := (zCr (l.get at_a.toNat) (k : Int) hd).2.1 a3
        exact⟨i,b1,by omega,by omega⟩
      · obtain ⟨k, hk⟩ : ∃ k : Nat, (l.get at_a.toNat).Dead.get i = (k : Int) := ⟨((l.get at_a.toNat).Dead.get i).toNat, by omega⟩
        exact⟨k,by omega,by omega,(zCr (l.get at_a.toNat) _ hd).2.2 ⟨i,a1,hk⟩⟩
    have f2:ziG (l.get at_a.toNat) ((c:Int) - need+1) ((c:Int) - need+1+need)->s11 ⟨l⟩ (⟨at_a,(c:Int) - need+1,need,0,charge,0⟩:Hit)=2:=f2
    have f3 : ¬ ziG (l.get at_a.toNat) ((c:Int) - need+1) ((c:Int) - need+1+need)->s11 ⟨l⟩ (⟨at_a,(c:Int) - need+1,need,0,charge,0⟩:Hit)=0:=f3
    have f4 : ¬ ziG (l.get at_a.toNat) ((c:Int) - need+1) ((c:Int) - need+1+need)->p12 ⟨l⟩ (⟨at_a,(c:Int) - need+1,need,0,charge,0⟩:Hit)=true /\
      ((need - 2) * (l.get at_a.toNat).Pitch<=2 * (l.get at_a.toNat).Spill->(s12 ⟨l⟩ (⟨at_a,(c:Int) - need+1,need,0,charge,0⟩:Hit)).2=0/\(s12 ⟨l⟩ (⟨at_a,(c:Int) - need+1,need,0,charge,0⟩:Hit)).1.len=1)/\(¬ (need - 2) * (l.get at_a.toNat).Pitch<=2 * (l.get at_a.toNat).Spill->(s12 ⟨l⟩ (⟨at_a,(c:Int) - need+1,need,0,charge,0⟩:Hit)).2=5/\(s12 ⟨l⟩ (⟨at_a,(c:Int) - need+1,need,0,charge,0⟩:Hit)).1.len=0):=f4
    simp only[Bool.not_true,dqB]
    rw[f1]
    generalize s11 ⟨l⟩ (⟨at_a,(c:Int) - need+1,need,0,charge,0⟩:Hit)=ev at f2 f3 ⊢
    by_cases hD:d=true
    · rw [hD, f2 (hdd.1 hD)]
      unfold zpz zpA zjE zjF
      exact⟨rfl,rfl⟩
    · have hD' : d = false := by cases d; rfl; exact absurd rfl hD
      have hnd:=λ k=>hD (hdd.2 k)
      obtain⟨g1,g2,g3⟩:=f4 hnd
      rw[hD',f3 hnd]
      unfold zpz zpA zjE zjF
      rw[g1]
      generalize s12 ⟨l⟩ (⟨at_a,(c:Int) - need+1,need,0,charge,0⟩:Hit)=R at g2 g3 ⊢
      simp only[decide_true,Bool.true_and,dqB,dqA,Bool.not_false,bne_self_eq_false]
      unfold ztu ztv
      have u1 : -200000<=(need - 2) * (l.get at_a.toNat).Pitch/\(need - 2) * (l.get at_a.toNat).Pitch<=400000:=by
        obtain e | e | e | e | e:need=1\/need=2\/need=3\/need=4\/need=5:=by omega
        all_goals rw[e];omega
      rw[zcQ (x:=need - 2) (by omega) (by omega),zcQ (x:=(need - 2) * (l.get at_a.toNat).Pitch) (by omega) (by omega),zcQ (x:=2 * (l.get at_a.toNat).Spill) (by omega) (by omega)]
      by_cases far:(need - 2) * (l.get at_a.toNat).Pitch<=2 * (l.get at_a.toNat).Spill
      · obtain ⟨r1, r2⟩ := g2 far
        rw[dqT far,r1,r2]
        exact⟨rfl,rfl⟩
      · obtain ⟨r1, r2⟩ := g3 far
        rw[dqF far,r1,r2]
        exact⟨rfl,rfl⟩
  · show zol at_a cells need charge lv (zlp at_a cells need charge lv k) (cells.len : Int) l (l.get at_a.toNat).Kind (l.get at_a.toNat).View (l.get at_a.toNat).Z (l.get at_a.toNat).First (l.get at_a.toNat).Pitch (l.get at_a.toNat).Strips (l.get at_a.toNat).Spill (l.get at_a.toNat).Offset.Low (l.get at_a.toNat).Offset.High (l.get at_a.toNat).Clock.Low (l.get at_a.toNat).Clock.High (l.get at_a.toNat).Jitter (l.get at_a.toNat).Least (l.get at_a.toNat).Drift (l.get at_a.toNat).Dead = true ∧ zom at_a cells need charge lv (zlq at_a cells need charge lv k) (cells.len : Int) l (l.get at_a.toNat).Kind (l.get at_a.toNat).View (l.get at_a.toNat).Z (l.get at_a.toNat).First (l.get at_a.toNat).Pitch (l.get at_a.toNat).Strips (l.get at_a.toNat).Spill (l.get at_a.toNat).Offset.Low (l.get at_a.toNat).Offset.High (l.get at_a.toNat).Clock.Low (l.get at_a.toNat).Clock.High (l.get at_a.toNat).Jitter (l.get at_a.toNat).Least (l.get at_a.toNat).Drift (l.get at_a.toNat).Dead = true
    unfold zol zom
    rw[dqF (show ¬ (cells.len:Int) < (cells.len:Int) by omega)]
    exact⟨rfl,rfl⟩
theorem grains_true (a0:Setup) (a1:Int) (a2:Sl Bool) (a3 a4:Int) (w0:wf_24 a0):p3 a0 a1 a2 a3 a4=true/\s3 a0 a1 a2 a3 a4=true:=by
 obtain⟨l⟩:=a0
 have hp4:=zP8 ⟨l⟩ w0.1
 obtain⟨hp5,hs5⟩:=zP9 l w0.1 (λ i hi=>⟨(w0.2 i hi).2.2.2.2.2.2.2.2.2.2.2.1.1,(w0.2 i hi).2.2.2.2.2.2.2.2.2.2.2.2.1⟩)
 unfold p3 s3
 rw[hp4,hp5]
 simp only[decide_true,Bool.true_and]
 cases g4:s4 ⟨l⟩
 ·exact⟨rfl,rfl⟩
 cases g5:s5 ⟨l⟩
 ·exact⟨rfl,rfl⟩
 have hs:=hs5 g5
 simp only[Bool.not_true,dqB]
 by_cases c1:a1 < 0
 ·rw[dqT c1];exact⟨rfl,rfl⟩
 by_cases c2:a1 >= (l.len:Int)
 ·rw[dqF c1,dqT c2];exact⟨rfl,rfl⟩
 rw[dqF c1,dqF c2,dqT (show 0<=a1/\a1 < (l.len:Int) by omega)]
 simp only[dqB,Bool.true_and]
 by_cases c3:(l.get a1.toNat).Kind=3
 case neg=>rw[show ((l.get a1.toNat).Kind != (3:Int))=true from bne_iff_ne.2 c3];exact⟨rfl,rfl⟩
 rw[show ((l.get a1.toNat).Kind != (3:Int))=false by rw[c3];rfl]
 by_cases c4:(l.get a1.toNat).Strips > 100
 ·rw[dqT c4];exact⟨rfl,rfl⟩
 rw[dqF c4]
 by_cases c5:(a2.len:Int)=(l.get a1.toNat).Strips
 case neg=>rw[show ((a2.len:Int) != (l.get a1.toNat).Strips)=true from bne_iff_ne.2 c5];exact⟨rfl,rfl⟩
 rw[show ((a2.len:Int) != (l.get a1.toNat).Strips)=false by rw[c5];exact bne_self_eq_false _]
 by_cases c6:a3 < 1
 ·rw[dqT c6];exact⟨rfl,rfl⟩
 rw[dqF c6]
 by_cases c7:a3 > 5
 ·rw[dqT c7];exact⟨rfl,rfl⟩
 rw[dqF c7]
 by_cases c8:a4 < (l.get a1.toNat).Least
 ·rw[dqT c8];exact⟨rfl,rfl⟩
 rw[dqF c8]
 by_cases c9:a4 > 1000000
 ·rw[dqT c9];exact⟨rfl,rfl⟩
 rw[dqF c9]
 simp only[dqB]
 obtain⟨t1,t2,t3⟩:=zP6 (n:=a3) (by omega) (by omega)
 unfold zgO zgN zCk zCj
 rw[t1,t2]
 generalize s7 a3 0=T at t3
 obtain⟨⟨nx,ot⟩,te⟩:=T
 unfold zCi zCh
 simp only[bne_self_eq_false,dqB,decide_true,Bool.true_and]
 unfold zCg zCf
 obtain⟨q1,q2,q3,q4⟩:=zP7 (by omega) (by omega) t3 a2 (by omega)
 have q1:p8 ⟨nx,ot⟩ a2=true:=q1
 have q2:(s8 ⟨nx,ot⟩ a2).2=0:=q2
 have q3:(s8 ⟨nx,ot⟩ a2).1.len=a2.len:=q3
 have q4:∀ i,i < a2.len->(s8 ⟨nx,ot⟩ a2).1.get i=decide (a3.toNat<=gr a2.get (i+1)):=q4
 rw[q1,q2]
 generalize s8 ⟨nx,ot⟩ a2=R at q3 q4
 unfold zCe zCd
 rw[q3]
 simp only[bne_self_eq_false,dqB,decide_true,Bool.true_and]
 unfold zCc zCb
 rw[dqT (show 0<=a1/\a1 < (l.len:Int) by omega)]
 unfold zCa zB9
 obtain⟨z1,z2⟩:=zEa (l:=l) (at_a:=a1) (cells:=a2) (need:=a3) (charge:=a4) (lv:=R.1) (n:=a3.toNat) hs (by omega) (by omega) c3 (by omega) c5 (by omega) (by omega) (by omega) ⟨by omega,by omega⟩ q3 q4
 rw[z1,z2]
 exact⟨rfl,rfl⟩
end Go.Proofs
