/- Part 6 of what the proof rests on: a machine that runs functions of the program on pure values, proved sound; the functions that the law reaches, and what they compute. -/
import Derived.Test.YtpjoicpmbdaniaaQ5
set_option linter.all false
namespace Go.Proofs
open Go Go.Pm
set_option linter.unusedVariables false
theorem last_fst {β : Type} {c d : Nat → Bool} {v : Nat → β} {n : Nat} {a : β} (hcd : ∀ i, i < n → d i = !c i) (hup : ∀ i j, i ≤ j → j < n → d i = true → d j = true) :
    lastF c v n a=if 0 < fst d n then v (fst d n - 1) else a:=by
  have hl:=fst_le d n
  have hhi:∀ j,fst d n≤j→j < n→c j=false:=by
    intro j h1 h2
    have:=hup _ _ h1 h2 (fst_hi (by omega))
    rw [hcd j h2] at this
    simpa using this
  by_cases h:0 < fst d n
  · rw [if_pos h]
    refine last_at (by omega) ?_ (fun j h1 h2=>hhi j (by omega) h2)
    have:=fst_lo (c:=d) (n:=n) (j:=fst d n - 1) (by omega)
    rw [hcd _ (by omega)] at this
    simpa using this
  · rw [if_neg h]
    exact last_none fun j hj=>hhi j (by omega) hj
def SL (s:Sky):Prop:=s.Bins.len≤9223372036854775807∧∀ i,i < s.Bins.len→(s.Bins.get i).len≤9223372036854775807
theorem s75_ok (s:Sky) (hs:SL s):p75 s=true∧(s75 s=true↔SOk s):=by
  have h:p75 s=true∧(s75 s=true↔(∀ i,i < s.Bins.len→(s101 (s.Bins.get i) 1 1000000 s.Parts && ((s.Bins.get i).get 0).Energy == 1)=true)∧s75_at2 s s.Bins=true):=by
    refine all_loop (n:=s.Bins.len) (good:=fun i=>s101 (s.Bins.get i) 1 1000000 s.Parts && ((s.Bins.get i).get 0).Energy == 1) (lpS:=fun k i=>s75_lp0 s k s.Bins (s.Bins.len:Int) i s.Bins) (lpP:=fun k i=>p75_lp0 s k s.Bins (s.Bins.len:Int) i s.Bins) ?_ ?_ ?_ ?_ hs.1
    · intro k i hi
      show s75_st0 s (s75_lp0 s k) s.Bins (s.Bins.len:Int) i s.Bins=cond _ (s75_lp0 s k s.Bins (s.Bins.len:Int) (w64 ((i:Int)+1)) s.Bins) false
      generalize s75_lp0 s k=S
      unfold s75_st0 s75_at1
      rw [decide_eq_true (by omega),Int.toNat_natCast]
      cases s101 (s.Bins.get i) 1 1000000 s.Parts
      · rfl
      · cases h:((s.Bins.get i).get 0).Energy == 1 <;> simp [bne,h]
    · intro k
      show s75_st0 s (s75_lp0 s k) s.Bins (s.Bins.len:Int) _ s.Bins=_
      unfold s75_st0
      rw [decide_eq_false (by omega),cond_false]
    · intro k i hi
      show p75_st0 s (p75_lp0 s k) s.Bins (s.Bins.len:Int) i s.Bins=cond _ (p75_lp0 s k s.Bins (s.Bins.len:Int) (w64 ((i:Int)+1)) s.Bins) true
      generalize p75_lp0 s k=S
      unfold p75_st0 p75_at1
      obtain ⟨h1,_,h3⟩:=s101_ok s.Parts (s.Bins.get i) (hs.2 i hi)
      rw [decide_eq_true (by omega),Int.toNat_natCast,h1,decide_eq_true (show 0≤(i:Int)∧(i:Int) < (s.Bins.len:Int) by omega)]
      cases h:s101 (s.Bins.get i) 1 1000000 s.Parts
      · rfl
      · have h4 := h3 h
        rw [decide_eq_true (show (0:Int)≤0∧(0:Int) < ((s.Bins.get i).len:Int) by omega)]
        cases h:((s.Bins.get i).get 0).Energy == 1 <;> simp [bne,h]
    · intro k
      show p75_st0 s (p75_lp0 s k) s.Bins (s.Bins.len:Int) _ s.Bins=_
      unfold p75_st0
      rw [decide_eq_false (by omega),cond_false]
  refine ⟨h.1,h.2.trans ?_⟩
  have e:s75_at2 s s.Bins=true↔((2≤s.Parts∧s.Parts≤1000000)∧(1≤(s.Bins.len:Int)∧(s.Bins.len:Int)≤20)∧(-100≤s.Beta.Low∧s.Beta.Low≤s.Beta.High∧s.Beta.High≤100)∧(-100≤s.Alpha.Low∧s.Alpha.Low≤s.Alpha.High∧s.Alpha.High≤100)):=by
    unfold s75_at2
    rw [s63_eq,s63_eq,s69_eq,s69_eq]
    simp only [Bool.cond_decide,Bool.if_false_right,Bool.and_eq_true,decide_eq_true_eq]
  rw [e]
  unfold SOk
  exact ⟨fun h=>⟨h.2,fun i hi=>(s101_ok s.Parts (s.Bins.get i) (hs.2 i hi)).2.1.1 (h.1 i hi)⟩,fun h=>⟨fun i hi=>(s101_ok s.Parts (s.Bins.get i) (hs.2 i hi)).2.1.2 (h.2 i hi),h.1⟩⟩
theorem s16_ok (s:Sky) (hs:SL s):p16 s=true∧s16 s=s75 s:=by
  have h:p16_at1 s s.Bins=true∧(s16_at1 s s.Bins=true↔(∀ i,i < s.Bins.len→s59 s.Parts (s.Bins.get i)=true)∧true=true):=by
    refine all_loop (n:=s.Bins.len) (good:=fun i=>s59 s.Parts (s.Bins.get i)) (lpS:=fun k i=>s16_lp2 s k i s.Bins) (lpP:=fun k i=>p16_lp2 s k i s.Bins) ?_ ?_ ?_ ?_ hs.1
    · intro k i hi
      show s16_st2 s (s16_lp2 s k) i s.Bins=cond _ (s16_lp2 s k (w64 ((i:Int)+1)) s.Bins) false
      generalize s16_lp2 s k=S
      unfold s16_st2 s16_at3
      rw [decide_eq_true (by omega),Int.toNat_natCast]
      cases s59 s.Parts (s.Bins.get i) <;> rfl
    · intro k
      show s16_st2 s (s16_lp2 s k) _ s.Bins=_
      unfold s16_st2
      rw [decide_eq_false (by omega),cond_false]
    · intro k i hi
      show p16_st2 s (p16_lp2 s k) i s.Bins=cond _ (p16_lp2 s k (w64 ((i:Int)+1)) s.Bins) true
      generalize p16_lp2 s k=S
      unfold p16_st2 p16_at3
      rw [decide_eq_true (by omega),Int.toNat_natCast,(s59_ok s.Parts (s.Bins.get i) (hs.2 i hi)).1,decide_eq_true (show 0≤(i:Int)∧(i:Int) < (s.Bins.len:Int) by omega)]
      cases s59 s.Parts (s.Bins.get i) <;> rfl
    · intro k
      show p16_st2 s (p16_lp2 s k) _ s.Bins=_
      unfold p16_st2
      rw [decide_eq_false (by omega),cond_false]
  have h2:s16 s=true↔SOk s:=by
    unfold s16 s16_at0
    rw [s58_eq,s58_eq,s29_eq,s29_eq]
    unfold SOk
    by_cases a:2≤s.Parts∧s.Parts≤1000000
    · by_cases b : 1 ≤ (s.Bins.len : Int) ∧ (s.Bins.len : Int) ≤ 20
      · by_cases c : -100 ≤ s.Beta.Low ∧ s.Beta.Low ≤ s.Beta.High ∧ s.Beta.High ≤ 100
        · by_cases d : -100 ≤ s.Alpha.Low ∧ s.Alpha.Low ≤ s.Alpha.High ∧ s.Alpha.High ≤ 100
          · rw [decide_eq_true a, decide_eq_true b, decide_eq_true c, decide_eq_true d]
            refine h.2.trans ?_
            exact ⟨fun h=>⟨⟨a,b,c,d⟩,fun i hi=>(s59_ok s.Parts (s.Bins.get i) (hs.2 i hi)).2.1 (h.1 i hi)⟩,fun h=>⟨fun i hi=>(s59_ok s.Parts (s.Bins.get i) (hs.2 i hi)).2.2 (h.2 i hi),rfl⟩⟩
          · rw [decide_eq_true a, decide_eq_true b, decide_eq_true c, decide_eq_false d]
            exact ⟨fun h=>absurd h Bool.false_ne_true,fun h=>absurd h.1.2.2.2 d⟩
        · rw [decide_eq_true a, decide_eq_true b, decide_eq_false c]
          exact ⟨fun h=>absurd h Bool.false_ne_true,fun h=>absurd h.1.2.2.1 c⟩
      · rw [decide_eq_true a, decide_eq_false b]
        exact ⟨fun h=>absurd h Bool.false_ne_true,fun h=>absurd h.1.2.1 b⟩
    · rw [decide_eq_false a]
      exact ⟨fun h=>absurd h Bool.false_ne_true,fun h=>absurd h.1.1 a⟩
  refine ⟨?_,Bool.eq_iff_iff.2 (h2.trans (s75_ok s hs).2.symm)⟩
  unfold p16 p16_at0
  rw [h.1]
  cases s58 s.Parts 2 1000000 <;> cases s58 (s.Bins.len:Int) 1 20 <;> cases s29 s.Beta (-100) 100 <;> cases s29 s.Alpha (-100) 100 <;> rfl
theorem s15_p (s:Sky) (t:Sl RangeRow) (hs:SL s):p15 s t=true:=by
  have h:p15 s t=true∧(s15 s t=true↔(∀ i,i < s.Bins.len→(!decide (((s.Bins.get i).len:Int) > 50))=true)∧(cond (decide ((s.Bins.len:Int)≤(25:Int))) (decide ((t.len:Int)≤(50:Int))) false)=true):=by
    refine all_loop (n:=s.Bins.len) (good:=fun i=>!decide (((s.Bins.get i).len:Int) > 50)) (lpS:=s15_lp0 s t) (lpP:=p15_lp0 s t) ?_ ?_ ?_ ?_ hs.1
    · intro k i hi
      show s15_st0 s t (s15_lp0 s t k) i=_
      generalize s15_lp0 s t k=S
      unfold s15_st0
      rw [decide_eq_true (by omega),Int.toNat_natCast]
      cases decide (((s.Bins.get i).len:Int) > 50) <;> rfl
    · intro k
      show s15_st0 s t (s15_lp0 s t k) _=_
      unfold s15_st0
      rw [decide_eq_false (by omega),cond_false]
    · intro k i hi
      show p15_st0 s t (p15_lp0 s t k) i=_
      generalize p15_lp0 s t k=S
      unfold p15_st0
      rw [decide_eq_true (by omega),Int.toNat_natCast,decide_eq_true (show 0≤(i:Int)∧(i:Int) < (s.Bins.len:Int) by omega)]
      cases decide (((s.Bins.get i).len:Int) > 50) <;> rfl
    · intro k
      show p15_st0 s t (p15_lp0 s t k) _=_
      unfold p15_st0
      rw [decide_eq_false (by omega),cond_false]
  exact h.1
theorem s81_eq (c0:Int) (t:Sl RangeRow) (hn:t.len≤9223372036854775807):p81 c0 t=true∧s81 c0 t=((fst (fun i=>s95 c0 (t.get i)) t.len:Nat):Int):=by
  have h:=idx_loop (c:=s95 c0) (lpS:=s106_lp0 c0) (lpP:=p106_lp0 c0) (fun _ _ _ _=>rfl) (fun _ _ _ _=>rfl) t hn
  have h1:p106 c0 t=true:=h.1
  have h2:s106 c0 t=_:=h.2
  have hl:=fst_le (fun i=>s95 c0 (t.get i)) t.len
  unfold p81 s81
  rw [h1,h2]
  refine ⟨rfl,?_⟩
  by_cases h:fst (fun i=>s95 c0 (t.get i)) t.len < t.len
  · rw [if_pos h,decide_eq_true (by omega)];rfl
  · rw [if_neg h, decide_eq_false (by omega)]
    show (t.len:Int)=_
    omega
theorem s81a_eq (c0:Int) (t:Sl RangeRow) (hn:t.len≤9223372036854775807):p81a c0 t=true∧s81a c0 t=((fst (fun i=>s96 c0 (t.get i)) t.len:Nat):Int):=by
  have h:=idx_loop (c:=s96 c0) (lpS:=s106a_lp0 c0) (lpP:=p106a_lp0 c0) (fun _ _ _ _=>rfl) (fun _ _ _ _=>rfl) t hn
  have h1:p106a c0 t=true:=h.1
  have h2:s106a c0 t=_:=h.2
  have hl:=fst_le (fun i=>s96 c0 (t.get i)) t.len
  unfold p81a s81a
  rw [h1,h2]
  refine ⟨rfl,?_⟩
  by_cases h:fst (fun i=>s96 c0 (t.get i)) t.len < t.len
  · rw [if_pos h,decide_eq_true (by omega)];rfl
  · rw [if_neg h, decide_eq_false (by omega)]
    show (t.len:Int)=_
    omega
theorem s107_eq (c0:Span) (t:Sl FluxRow) (hn:t.len≤9223372036854775807):p107 c0 t=true∧s107 c0 t=((fst (fun i=>s108 c0 (t.get i)) t.len:Nat):Int):=by
  have h:=idx_loop (c:=s108 c0) (lpS:=s118_lp0 c0) (lpP:=p118_lp0 c0) (fun _ _ _ _=>rfl) (fun _ _ _ _=>rfl) t hn
  have h1:p118 c0 t=true:=h.1
  have h2:s118 c0 t=_:=h.2
  have hl:=fst_le (fun i=>s108 c0 (t.get i)) t.len
  unfold p107 s107
  rw [h1,h2]
  refine ⟨rfl,?_⟩
  by_cases h:fst (fun i=>s108 c0 (t.get i)) t.len < t.len
  · rw [if_pos h,decide_eq_true (by omega)];rfl
  · rw [if_neg h, decide_eq_false (by omega)]
    show (t.len:Int)=_
    omega
theorem s107a_eq (c0:Span) (t:Sl FluxRow) (hn:t.len≤9223372036854775807):p107a c0 t=true∧s107a c0 t=((fst (fun i=>s109 c0 (t.get i)) t.len:Nat):Int):=by
  have h:=idx_loop (c:=s109 c0) (lpS:=s118a_lp0 c0) (lpP:=p118a_lp0 c0) (fun _ _ _ _=>rfl) (fun _ _ _ _=>rfl) t hn
  have h1:p118a c0 t=true:=h.1
  have h2:s118a c0 t=_:=h.2
  have hl:=fst_le (fun i=>s109 c0 (t.get i)) t.len
  unfold p107a s107a
  rw [h1,h2]
  refine ⟨rfl,?_⟩
  by_cases h:fst (fun i=>s109 c0 (t.get i)) t.len < t.len
  · rw [if_pos h,decide_eq_true (by omega)];rfl
  · rw [if_neg h, decide_eq_false (by omega)]
    show (t.len:Int)=_
    omega
def kH (t:Sl RangeRow) (x:Int):Nat:=fst (fun i=>decide ((t.get i).Range.High ≥ x)) t.len
def kL (t:Sl RangeRow) (x:Int):Nat:=fst (fun i=>decide ((t.get i).Range.Low ≥ x)) t.len
def thrL (t:Sl RangeRow) (x:Int):Int:=if 0 < kH t x then (t.get (kH t x - 1)).Energy+1 else 1
def thrH (t:Sl RangeRow) (x:Int):Int:=if kL t x < t.len then (t.get (kL t x)).Energy else -1
def thr (t:Sl RangeRow) (x:Int):Span:=if x=0 then ⟨1,1⟩ else ⟨thrL t x,thrH t x⟩
def jL (l:Sl FluxRow) (y:Int):Nat:=fst (fun i=>decide ((l.get i).Energy > y)) l.len
def jH (l:Sl FluxRow) (y:Int):Nat:=fst (fun i=>decide ((l.get i).Energy ≥ y)) l.len
def abvH (l:Sl FluxRow) (y:Int):Int:=if 0 < jL l y then (l.get (jL l y - 1)).Rate.High else (l.get 0).Rate.High
def abvL (l:Sl FluxRow) (y:Int):Int:=if y = -1 then 0 else if jH l y < l.len then (l.get (jH l y)).Rate.Low else 0
def abv (l:Sl FluxRow) (x:Span):Span:=⟨abvL l x.High,abvH l x.Low⟩
def expd (s:Sky) (t:Sl RangeRow) (bin x:Int):Span:=abv (s.Bins.get bin.toNat) (thr t x)
theorem s64_eq (t:Sl RangeRow) (x:Int) (hk:TOk t):p64 t x=true∧s64 t x=thr t x:=by
  have hn:t.len≤9223372036854775807:=by have:=hk.1.2;omega
  have e1:p81 x t=true∧s81 x t=((kH t x:Nat):Int):=s81_eq x t hn
  have e2:p81a x t=true∧s81a x t=((kL t x:Nat):Int):=s81a_eq x t hn
  have b1:kH t x≤t.len:=fst_le _ _
  have b2:kL t x≤t.len:=fst_le _ _
  unfold p64 s64 thr
  by_cases h0:x=0
  · rw [if_pos h0,beq_iff_eq.2 h0];exact ⟨rfl,rfl⟩
  have h00:(x == 0)=false:=by simpa using h0
  rw [if_neg h0,h00,cond_false,cond_false]
  unfold p64_at0 s64_at0
  rw [e1.1,e1.2]
  have h3:∀ a,p64_at2 t x a=true∧s64_at2 t x a=⟨a,thrH t x⟩:=by
    intro a
    unfold p64_at2 s64_at2 p64_at3 s64_at3 thrH
    rw [e2.1,e2.2]
    by_cases h:kL t x < t.len
    · rw [if_pos h, decide_eq_true (show ((kL t x : Nat) : Int) < (t.len : Int) by omega), decide_eq_true (show 0 ≤ ((kL t x : Nat) : Int) ∧ ((kL t x : Nat) : Int) < (t.len : Int) by omega), Int.toNat_natCast]
      exact ⟨rfl,rfl⟩
    · rw [if_neg h, decide_eq_false (show ¬ ((kL t x : Nat) : Int) < (t.len : Int) by omega)]
      exact ⟨rfl,rfl⟩
  unfold p64_at1 s64_at1 thrL
  by_cases h:0 < kH t x
  · have hr := hk.2 (kH t x - 1) (by omega)
    unfold TRow at hr
    have e3:w64 (((kH t x:Nat):Int) - 1)=((kH t x - 1:Nat):Int):=by rw [w64_id (by omega) (by omega)];omega
    rw [if_pos h,decide_eq_true (show ((kH t x:Nat):Int) > 0 by omega),e3,Int.toNat_natCast,decide_eq_true (show 0≤((kH t x - 1:Nat):Int)∧((kH t x - 1:Nat):Int) < (t.len:Int) by omega),(h3 _).1,cond_true,(h3 _).2,w64_id (by omega) (by omega)]
    exact ⟨rfl,rfl⟩
  · rw [if_neg h, decide_eq_false (show ¬ ((kH t x : Nat) : Int) > 0 by omega), cond_false, cond_false, (h3 _).1, (h3 _).2]
    exact ⟨rfl,rfl⟩
theorem s84_eq (l:Sl FluxRow) (y:Span) (h0:0 < l.len) (hn:l.len≤9223372036854775807):p84 l y=true∧s84 l y=abv l y:=by
  have e1:p107 y l=true∧s107 y l=((jL l y.Low:Nat):Int):=s107_eq y l hn
  have e2:p107a y l=true∧s107a y l=((jH l y.High:Nat):Int):=s107a_eq y l hn
  have b1:jL l y.Low≤l.len:=fst_le _ _
  have b2:jH l y.High≤l.len:=fst_le _ _
  have h3:∀ a,p84_at1 l y a=true∧s84_at1 l y a=⟨abvL l y.High,a⟩:=by
    intro a
    unfold p84_at1 s84_at1 abvL
    by_cases h:y.High = -1
    · rw [if_pos h,beq_iff_eq.2 h];exact ⟨rfl,rfl⟩
    have h00:(y.High == -1)=false:=by simpa using h
    rw [if_neg h,h00,cond_false,cond_false]
    unfold p84_at2 s84_at2 p84_at3 s84_at3
    rw [e2.1,e2.2]
    by_cases h:jH l y.High < l.len
    · rw [if_pos h, decide_eq_true (show ((jH l y.High : Nat) : Int) < (l.len : Int) by omega), decide_eq_true (show 0 ≤ ((jH l y.High : Nat) : Int) ∧ ((jH l y.High : Nat) : Int) < (l.len : Int) by omega), Int.toNat_natCast]
      exact ⟨rfl,rfl⟩
    · rw [if_neg h, decide_eq_false (show ¬ ((jH l y.High : Nat) : Int) < (l.len : Int) by omega)]
      exact ⟨rfl,rfl⟩
  unfold p84 s84 abv
  rw [e1.1,e1.2,decide_eq_true (show 0≤(0:Int)∧(0:Int) < (l.len:Int) by omega)]
  unfold p84_at0 s84_at0 abvH
  by_cases h:0 < jL l y.Low
  · have e3 : w64 (((jL l y.Low : Nat) : Int) - 1) = ((jL l y.Low - 1 : Nat) : Int) := by rw [w64_id (by omega) (by omega)]; omega
    rw [if_pos h,decide_eq_true (show ((jL l y.Low:Nat):Int) > 0 by omega),e3,Int.toNat_natCast,decide_eq_true (show 0≤((jL l y.Low - 1:Nat):Int)∧((jL l y.Low - 1:Nat):Int) < (l.len:Int) by omega),(h3 _).1,cond_true,(h3 _).2]
    exact ⟨rfl,rfl⟩
  · rw [if_neg h, decide_eq_false (show ¬ ((jL l y.Low : Nat) : Int) > 0 by omega), cond_false, cond_false, (h3 _).1, (h3 _).2]
    exact ⟨rfl,rfl⟩
def Fine (s:Sky) (t:Sl RangeRow) (bin x:Int):Prop:=SOk s∧TOk t∧(0≤bin∧bin < (s.Bins.len:Int))∧(0≤x∧x≤1000000)
theorem Fine.b {s:Sky} {t:Sl RangeRow} {bin x:Int} (h:Fine s t bin x):BOk s.Parts (s.Bins.get bin.toNat):=h.1.2 _ (by have:=h.2.2.1;omega)
theorem s65_g (s:Sky) (t:Sl RangeRow) (bin x:Int):(s65 s t bin x).1.Sky=s∧(s65 s t bin x).1.table=t:=by
  unfold s65
  cases s75 s <;> cases s62 t <;> cases s63 bin 0 (w64 ((s.Bins.len:Int) - 1)) <;> exact ⟨rfl,rfl⟩
theorem s65_ok (s:Sky) (t:Sl RangeRow) (bin x:Int) (hs:SL s) (ht:t.len≤9223372036854775807):p65 s t bin x=true∧((s65 s t bin x).2=true↔Fine s t bin x):=by
  obtain ⟨h1,h2⟩:=s75_ok s hs
  obtain ⟨h3,h4⟩:=s62_ok t ht
  have h5:=hs.1
  unfold p65 s65 Fine
  rw [h1,h3,s63_eq,s63_eq,w64_id (by omega) (by omega),← h2,← h4]
  cases s75 s
  · exact ⟨rfl,⟨fun h=>absurd h Bool.false_ne_true,fun h=>absurd h.1 Bool.false_ne_true⟩⟩
  cases s62 t
  · exact ⟨rfl,⟨fun h=>absurd h Bool.false_ne_true,fun h=>absurd h.2.1 Bool.false_ne_true⟩⟩
  refine ⟨rfl,?_⟩
  by_cases h:0≤bin∧bin≤(s.Bins.len:Int) - 1
  · rw [decide_eq_true h]
    simp only [cond_true,decide_eq_true_eq]
    exact ⟨fun h6=>⟨trivial,trivial,by omega,h6⟩,fun h6=>h6.2.2.2⟩
  · rw [decide_eq_false h]
    exact ⟨fun h=>absurd h Bool.false_ne_true,fun h6=>absurd (show 0≤bin∧bin≤(s.Bins.len:Int) - 1 by have:=h6.2.2.1;omega) h⟩
theorem s66_eq {s:Sky} {t:Sl RangeRow} {bin x:Int} (h:Fine s t bin x):p66 s t bin x=true∧s66 s t bin x=expd s t bin x:=by
  obtain ⟨h1,h2⟩:=s64_eq t x h.2.1
  have hb:=h.b
  obtain ⟨h3,h4⟩:=s84_eq (s.Bins.get bin.toNat) (thr t x) (by have:=hb.1;omega) (by have:=hb.1;omega)
  unfold p66 s66 expd
  rw [h1,h2,h3,h4,decide_eq_true h.2.2.1]
  exact ⟨rfl,rfl⟩
theorem t_mono {t:Sl RangeRow} (h:∀ i,i < t.len→TRow t i):∀ d i,i+d < t.len→(0 < d→(t.get i).Energy < (t.get (i+d)).Energy)∧(t.get i).Range.Low≤(t.get (i+d)).Range.Low∧(t.get i).Range.High≤(t.get (i+d)).Range.High:=by
  intro d
  induction d with
  | zero=>intro i hi;exact ⟨fun h=>absurd h (by omega),Int.le_refl _,Int.le_refl _⟩
  | succ d ih =>
    intro i hi
    obtain ⟨h1,h2,h3⟩:=ih i (by omega)
    obtain ⟨_,_,h4⟩:=h (i+(d+1)) hi
    have e:i+(d+1) - 1=i+d:=by omega
    rw [e] at h4
    have h4:=h4.resolve_left (by omega)
    refine ⟨fun _=>?_,by omega,by omega⟩
    by_cases hd:0 < d
    · have:=h1 hd;omega
    · have : d = 0 := by omega
      subst this;exact h4.1
theorem t_e {t:Sl RangeRow} (h:TOk t) {i j:Nat} (hij:i < j) (hj:j < t.len):(t.get i).Energy < (t.get j).Energy:=by
  have:=(t_mono h.2 (j - i) i (by omega)).1 (by omega)
  rwa [show i+(j - i)=j by omega] at this
theorem t_high {t:Sl RangeRow} (h:TOk t) {i j:Nat} (hij:i≤j) (hj:j < t.len):(t.get i).Range.High≤(t.get j).Range.High:=by
  have:=(t_mono h.2 (j - i) i (by omega)).2.2
  rwa [show i+(j - i)=j by omega] at this
theorem b_mono {parts:Int} {t:Sl FluxRow} (h:∀ i,i < t.len→BRow parts t i):∀ d i,i+d < t.len→(0 < d→(t.get i).Energy < (t.get (i+d)).Energy)∧(t.get (i+d)).Rate.Low≤(t.get i).Rate.Low∧(t.get (i+d)).Rate.High≤(t.get i).Rate.High:=by
  intro d
  induction d with
  | zero=>intro i hi;exact ⟨fun h=>absurd h (by omega),Int.le_refl _,Int.le_refl _⟩
  | succ d ih =>
    intro i hi
    obtain ⟨h1,h2,h3⟩:=ih i (by omega)
    obtain ⟨_,_,h4⟩:=h (i+(d+1)) hi
    have e:i+(d+1) - 1=i+d:=by omega
    rw [e] at h4
    have h4:=h4.resolve_left (by omega)
    refine ⟨fun _=>?_,by omega,by omega⟩
    by_cases hd:0 < d
    · have:=h1 hd;omega
    · have : d = 0 := by omega
      subst this;exact h4.1
theorem b_e {parts:Int} {t:Sl FluxRow} (h:BOk parts t) {i j:Nat} (hij:i < j) (hj:j < t.len):(t.get i).Energy < (t.get j).Energy:=by
  have:=(b_mono h.2.2 (j - i) i (by omega)).1 (by omega)
  rwa [show i+(j - i)=j by omega] at this
theorem b_low {parts:Int} {t:Sl FluxRow} (h:BOk parts t) {i j:Nat} (hij:i≤j) (hj:j < t.len):(t.get j).Rate.Low≤(t.get i).Rate.Low:=by
  have:=(b_mono h.2.2 (j - i) i (by omega)).2.1
  rwa [show i+(j - i)=j by omega] at this
theorem b_high {parts:Int} {t:Sl FluxRow} (h:BOk parts t) {i j:Nat} (hij:i≤j) (hj:j < t.len):(t.get j).Rate.High≤(t.get i).Rate.High:=by
  have:=(b_mono h.2.2 (j - i) i (by omega)).2.2
  rwa [show i+(j - i)=j by omega] at this
end Go.Proofs
namespace Go.Proofs
open Go Go.Pm
set_option linter.unusedVariables false
theorem s49_eq (t:Sl RangeRow) (x:Int) (hk:TOk t):p49 t x=true∧s49 t x=thr t x:=by
  have hn:t.len≤9223372036854775807:=by have:=hk.1.2;omega
  unfold p49 s49 thr
  by_cases h0:x=0
  · rw [if_pos h0,beq_iff_eq.2 h0];exact ⟨rfl,rfl⟩
  have h00:(x == 0)=false:=by simpa using h0
  rw [if_neg h0,h00,cond_false,cond_false]
  have hb:∀ a,p49_at2 t x a=true∧s49_at2 t x a=⟨a,thrH t x⟩:=by
    intro a
    refine bwd_loop (γ:=Span) (c:=fun i=>decide ((t.get i).Range.Low ≥ x)) (v:=fun i=>(t.get i).Energy) (E:=fun b=>⟨a,b⟩) (EP:=fun _=>true) (n:=t.len) (lpS:=fun k i b=>s49_lp3 t x k i a b) (lpP:=fun k i b=>p49_lp3 t x k i a b) ?_ ?_ ?_ ?_ hn (-1)
    · intro k i b hi
      show s49_st3 t x (s49_lp3 t x k) i a b=_
      unfold s49_st3
      rw [decide_eq_true (by omega),Int.toNat_natCast];rfl
    · intro k b
      show s49_st3 t x (s49_lp3 t x k) (-1) a b=_
      unfold s49_st3
      rw [decide_eq_false (by omega)];rfl
    · intro k i b hi
      show p49_st3 t x (p49_lp3 t x k) i a b=_
      unfold p49_st3
      have e4:decide (0≤(i:Int)∧(i:Int) < (t.len:Int))=true:=decide_eq_true (by omega)
      rw [decide_eq_true (by omega),e4,Int.toNat_natCast]
      simp only [Bool.true_and,cond_true]
    · intro k b
      show p49_st3 t x (p49_lp3 t x k) (-1) a b=_
      unfold p49_st3
      rw [decide_eq_false (by omega)];rfl
  have hf := fwd_loop (c := fun i => decide ((t.get i).Range.High < x)) (v := fun i => w64 ((t.get i).Energy + 1)) (E := fun a => s49_at2 t x a) (EP := fun a => p49_at2 t x a) (n := t.len) (lpS := s49_lp1 t x) (lpP := p49_lp1 t x)
    (by
      intro k i b hi
      show s49_st1 t x (s49_lp1 t x k) i b=_
      unfold s49_st1
      rw [decide_eq_true (by omega),Int.toNat_natCast];rfl)
    (by
      intro k b
      show s49_st1 t x (s49_lp1 t x k) _ b=_
      unfold s49_st1
      rw [decide_eq_false (by omega)];rfl)
    (by
      intro k i b hi
      show p49_st1 t x (p49_lp1 t x k) i b=_
      unfold p49_st1
      have e4:decide (0≤(i:Int)∧(i:Int) < (t.len:Int))=true:=decide_eq_true (by omega)
      rw [decide_eq_true (by omega),e4,Int.toNat_natCast]
      simp only [Bool.true_and,cond_true])
    (by
      intro k b
      show p49_st1 t x (p49_lp1 t x k) _ b=_
      unfold p49_st1
      rw [decide_eq_false (by omega)];rfl) hn 1
  have hl:lastF (fun i=>decide ((t.get i).Range.High < x)) (fun i=>w64 ((t.get i).Energy+1)) t.len 1=thrL t x:=by
    rw [last_fst (d:=fun i=>decide ((t.get i).Range.High ≥ x)) (fun i hi=>by
        show decide ((t.get i).Range.High ≥ x) = !decide ((t.get i).Range.High < x)
        rw [← decide_not];exact decide_eq_decide.2 (by omega)) (fun i j h1 h2 h3=>by
        have:=t_high hk h1 h2
        have:=of_decide_eq_true h3
        exact decide_eq_true (by omega))]
    unfold thrL
    show (if 0 < kH t x then w64 ((t.get (kH t x - 1)).Energy+1) else 1)=_
    by_cases h:0 < kH t x
    · have b1 : kH t x ≤ t.len := fst_le _ _
      have hr:=hk.2 (kH t x - 1) (by omega)
      unfold TRow at hr
      rw [if_pos h,if_pos h]
      exact w64_id (by omega) (by omega)
    · rw [if_neg h,if_neg h]
  have r1:=hf.1.trans (hb _).1
  have r2:=hf.2.trans (hb _).2
  rw [hl] at r2
  exact ⟨r1,r2⟩
theorem s46_eq {parts:Int} (l:Sl FluxRow) (y:Span) (hk:BOk parts l) (hy:1≤y.Low):p46 l y=true∧s46 l y=abv l y:=by
  have hn:l.len≤9223372036854775807:=by have:=hk.1.2;omega
  have hb:∀ a,p46_at1 l y a=true∧s46_at1 l y a=⟨abvL l y.High,a⟩:=by
    intro a
    unfold abvL
    by_cases hh:y.High = -1
    · rw [if_pos hh]
      obtain ⟨k,hkk⟩:∃ k,Fuel=k+1:=⟨Fuel - 1,by simp only [Fuel]⟩
      unfold p46_at1 s46_at1 p46_at2 s46_at2
      rw [hkk]
      show p46_st2 l y (p46_lp2 l y k) _ _ _=true∧s46_st2 l y (s46_lp2 l y k) _ _ _=_
      have hne:(y.High != -1)=false:=by simp [hh]
      unfold p46_st2 s46_st2
      rw [hne]
      cases decide (w64 ((l.len:Int) - 1) ≥ 0) <;> exact ⟨rfl,rfl⟩
    · rw [if_neg hh]
      have hne:(y.High != -1)=true:=by simp [hh]
      refine bwd_loop (γ:=Span) (c:=fun i=>decide ((l.get i).Energy ≥ y.High)) (v:=fun i=>(l.get i).Rate.Low) (E:=fun b=>⟨b,a⟩) (EP:=fun _=>true) (n:=l.len) (lpS:=fun k i b=>s46_lp2 l y k i b a) (lpP:=fun k i b=>p46_lp2 l y k i b a) ?_ ?_ ?_ ?_ hn 0
      · intro k i b hi
        show s46_st2 l y (s46_lp2 l y k) i b a=_
        unfold s46_st2
        rw [decide_eq_true (by omega),Int.toNat_natCast,hne];rfl
      · intro k b
        show s46_st2 l y (s46_lp2 l y k) (-1) b a=_
        unfold s46_st2
        rw [decide_eq_false (by omega)];rfl
      · intro k i b hi
        show p46_st2 l y (p46_lp2 l y k) i b a=_
        unfold p46_st2
        have e4:decide (0≤(i:Int)∧(i:Int) < (l.len:Int))=true:=decide_eq_true (by omega)
        rw [decide_eq_true (by omega),e4,Int.toNat_natCast,hne]
        simp only [Bool.true_and,cond_true]
      · intro k b
        show p46_st2 l y (p46_lp2 l y k) (-1) b a=_
        unfold p46_st2
        rw [decide_eq_false (by omega)];rfl
  have hf := fwd_loop (c := fun i => decide ((l.get i).Energy ≤ y.Low)) (v := fun i => (l.get i).Rate.High) (E := fun a => s46_at1 l y a) (EP := fun a => p46_at1 l y a) (n := l.len) (lpS := s46_lp0 l y) (lpP := p46_lp0 l y)
    (by
      intro k i b hi
      show s46_st0 l y (s46_lp0 l y k) i b=_
      unfold s46_st0
      rw [decide_eq_true (by omega),Int.toNat_natCast];rfl)
    (by
      intro k b
      show s46_st0 l y (s46_lp0 l y k) _ b=_
      unfold s46_st0
      rw [decide_eq_false (by omega)];rfl)
    (by
      intro k i b hi
      show p46_st0 l y (p46_lp0 l y k) i b=_
      unfold p46_st0
      have e4:decide (0≤(i:Int)∧(i:Int) < (l.len:Int))=true:=decide_eq_true (by omega)
      rw [decide_eq_true (by omega),e4,Int.toNat_natCast]
      simp only [Bool.true_and,cond_true])
    (by
      intro k b
      show p46_st0 l y (p46_lp0 l y k) _ b=_
      unfold p46_st0
      rw [decide_eq_false (by omega)];rfl) hn 0
  have hl:lastF (fun i=>decide ((l.get i).Energy≤y.Low)) (fun i=>(l.get i).Rate.High) l.len 0=abvH l y.Low:=by
    rw [last_fst (d:=fun i=>decide ((l.get i).Energy > y.Low)) (fun i hi=>by
        show decide ((l.get i).Energy > y.Low) = !decide ((l.get i).Energy≤y.Low)
        rw [← decide_not];exact decide_eq_decide.2 (by omega)) (fun i j h1 h2 h3=>by
        have:=of_decide_eq_true h3
        by_cases e:i=j
        · exact decide_eq_true (by rw [← e];omega)
        · have := b_e hk (show i < j by omega) h2
          exact decide_eq_true (by omega))]
    unfold abvH
    show (if 0 < jL l y.Low then (l.get (jL l y.Low - 1)).Rate.High else 0)=_
    have h:0 < jL l y.Low:=by
      have b1:jL l y.Low≤l.len:=fst_le _ _
      have:=hk.1.1
      rcases Nat.eq_zero_or_pos (jL l y.Low) with h | h
      · have := of_decide_eq_true (fst_hi (c := fun i => decide ((l.get i).Energy > y.Low)) (n := l.len) (show jL l y.Low < l.len by omega))
        have h2:fst (fun i=>decide ((l.get i).Energy > y.Low)) l.len=0:=h
        rw [h2,hk.2.1] at this
        omega
      · exact h
    rw [if_pos h,if_pos h]
  have r1:=hf.1.trans (hb _).1
  have r2:=hf.2.trans (hb _).2
  rw [hl] at r2
  exact ⟨r1,r2⟩
theorem thr_low {t:Sl RangeRow} (x:Int) (hk:TOk t):1≤(thr t x).Low:=by
  unfold thr
  by_cases h0:x=0
  · rw [if_pos h0];exact Int.le_refl _
  rw [if_neg h0]
  show 1≤thrL t x
  unfold thrL
  by_cases h:0 < kH t x
  · have b1 : kH t x ≤ t.len := fst_le _ _
    have hr:=hk.2 (kH t x - 1) (by omega)
    unfold TRow at hr
    rw [if_pos h];omega
  · rw [if_neg h];exact Int.le_refl _
theorem s47_eq {s:Sky} {t:Sl RangeRow} {bin x:Int} (h:Fine s t bin x):p47 s t bin x=true∧s47 s t bin x=expd s t bin x:=by
  obtain ⟨h1,h2⟩:=s49_eq t x h.2.1
  obtain ⟨h3,h4⟩:=s46_eq (s.Bins.get bin.toNat) (thr t x) h.b (thr_low x h.2.1)
  unfold p47 s47 expd
  rw [h1,h2,h3,h4,decide_eq_true h.2.2.1]
  exact ⟨rfl,rfl⟩
end Go.Proofs
namespace Go.Proofs
open Go Go.Pm
set_option linter.unusedVariables false
def mz (z:Int):Int:=if z > 0 then z else 0
def mn2 (a b:Int):Int:=if b < a then b else a
def mx2 (a b:Int):Int:=if b > a then b else a
def mn4 (a b c d:Int):Int:=mn2 (mn2 (mn2 a b) c) d
def mx4 (a b c d:Int):Int:=mx2 (mx2 (mx2 a b) c) d
theorem mn4_spec (a b c d:Int):(mn4 a b c d≤a∧mn4 a b c d≤b∧mn4 a b c d≤c∧mn4 a b c d≤d)∧(mn4 a b c d=a∨mn4 a b c d=b∨mn4 a b c d=c∨mn4 a b c d=d):=by
  unfold mn4 mn2
  repeat' split
  all_goals omega
theorem mx4_spec (a b c d:Int):(a≤mx4 a b c d∧b≤mx4 a b c d∧c≤mx4 a b c d∧d≤mx4 a b c d)∧(mx4 a b c d=a∨mx4 a b c d=b∨mx4 a b c d=c∨mx4 a b c d=d):=by
  unfold mx4 mx2
  repeat' split
  all_goals omega
theorem mul_line {a b c x:Int} (h1:a≤x) (h2:x≤b):(a * c≤x * c∨b * c≤x * c)∧(x * c≤a * c∨x * c≤b * c):=by
  rcases Int.le_total 0 c with h | h
  · exact ⟨Or.inl (Int.mul_le_mul_of_nonneg_right h1 h),Or.inr (Int.mul_le_mul_of_nonneg_right h2 h)⟩
  · exact ⟨Or.inr (Int.mul_le_mul_of_nonpos_right h2 h),Or.inl (Int.mul_le_mul_of_nonpos_right h1 h)⟩
theorem mul_in {a b c d x y:Int} (h1:a≤x∧x≤b) (h2:c≤y∧y≤d):mn4 (a * c) (a * d) (b * c) (b * d)≤x * y∧x * y≤mx4 (a * c) (a * d) (b * c) (b * d):=by
  have k1:=mul_line (c:=y) h1.1 h1.2
  have k2:=mul_line (c:=a) h2.1 h2.2
  have k3:=mul_line (c:=b) h2.1 h2.2
  rw [Int.mul_comm c a,Int.mul_comm y a,Int.mul_comm d a] at k2
  rw [Int.mul_comm c b,Int.mul_comm y b,Int.mul_comm d b] at k3
  have m:=(mn4_spec (a * c) (a * d) (b * c) (b * d)).1
  have n:=(mx4_spec (a * c) (a * d) (b * c) (b * d)).1
  omega
theorem mul_b {x y p q:Int} (hp:0≤p) (hq:0≤q) (h1 : -p≤x∧x≤p) (h2 : -q≤y∧y≤q) : -(p * q)≤x * y∧x * y≤p * q:=by
  have h:=mul_in h1 h2
  have e1 : -p * -q=p * q:=Int.neg_mul_neg p q
  have e2 : -p * q = -(p * q):=Int.neg_mul p q
  have e3:p * -q = -(p * q):=Int.mul_neg p q
  rw [e1,e2,e3] at h
  have m:=(mn4_spec (p * q) (-(p * q)) (-(p * q)) (p * q)).2
  have n:=(mx4_spec (p * q) (-(p * q)) (-(p * q)) (p * q)).2
  have:=Int.mul_nonneg hp hq
  omega
def WOk (w:Weather):Prop:=(-1000≤w.Pressure.Low∧w.Pressure.Low≤w.Pressure.High∧w.Pressure.High≤1000)∧(-1000≤w.Warm.Low∧w.Warm.Low≤w.Warm.High∧w.Warm.High≤1000)
theorem s76_eq (w:Weather):s76 w=true↔WOk w:=by
  unfold s76 WOk
  rw [s69_eq,s69_eq]
  simp only [Bool.cond_decide,Bool.if_false_right,Bool.and_eq_true,decide_eq_true_eq]
theorem s36_eq (w:Weather):s36 w=s76 w:=by
  unfold s36 s76
  rw [s69_eq,s69_eq,s29_eq,s29_eq]
def y117 (b p a x:Int):Int:=if w64 (w64 (1000 - w64 (b * p))+w64 (a * x)) > 0 then w64 (w64 (1000 - w64 (b * p))+w64 (a * x)) else 0
theorem y117_eq {b p a x:Int} (hb : -100≤b∧b≤100) (hp : -1000≤p∧p≤1000) (ha : -100≤a∧a≤100) (hx : -1000≤x∧x≤1000):y117 b p a x=mz (1000 - b * p+a * x):=by
  have h1:=mul_b (p:=100) (q:=1000) (by omega) (by omega) hb hp
  have h2:=mul_b (p:=100) (q:=1000) (by omega) (by omega) ha hx
  unfold y117 mz
  rw [w64_id (x:=b * p) (by omega) (by omega),w64_id (x:=a * x) (by omega) (by omega),w64_id (x:=1000 - b * p) (by omega) (by omega),w64_id (by omega) (by omega)]
theorem ys117_y (s:Sky) (w:Weather):ys117 s w=[y117 s.Beta.Low w.Pressure.Low s.Alpha.Low w.Warm.Low,y117 s.Beta.Low w.Pressure.Low s.Alpha.Low w.Warm.High,y117 s.Beta.Low w.Pressure.Low s.Alpha.High w.Warm.Low,y117 s.Beta.Low w.Pressure.Low s.Alpha.High w.Warm.High,
    y117 s.Beta.Low w.Pressure.High s.Alpha.Low w.Warm.Low,y117 s.Beta.Low w.Pressure.High s.Alpha.Low w.Warm.High,y117 s.Beta.Low w.Pressure.High s.Alpha.High w.Warm.Low,y117 s.Beta.Low w.Pressure.High s.Alpha.High w.Warm.High,
    y117 s.Beta.High w.Pressure.Low s.Alpha.Low w.Warm.Low,y117 s.Beta.High w.Pressure.Low s.Alpha.Low w.Warm.High,y117 s.Beta.High w.Pressure.Low s.Alpha.High w.Warm.Low,y117 s.Beta.High w.Pressure.Low s.Alpha.High w.Warm.High,
    y117 s.Beta.High w.Pressure.High s.Alpha.Low w.Warm.Low,y117 s.Beta.High w.Pressure.High s.Alpha.Low w.Warm.High,y117 s.Beta.High w.Pressure.High s.Alpha.High w.Warm.Low,y117 s.Beta.High w.Pressure.High s.Alpha.High w.Warm.High]:=rfl
def lmin : Int → List Int → Int
  | a,[]=>a
  | a,y :: r=>lmin (if y < a then y else a) r
def lmax : Int → List Int → Int
  | a,[]=>a
  | a,y :: r=>lmax (if y > a then y else a) r
theorem lmin_spec : ∀ (l : List Int) (a : Int), (lmin a l ≤ a ∧ ∀ y, y ∈ l → lmin a l ≤ y) ∧ (lmin a l = a ∨ lmin a l ∈ l)
  | [],a=>⟨⟨Int.le_refl _,fun y h=>absurd h (by simp)⟩,Or.inl rfl⟩
  | y :: r,a=>by
    obtain ⟨⟨h1,h2⟩,h3⟩:=lmin_spec r (if y < a then y else a)
    have e:lmin a (y :: r)=lmin (if y < a then y else a) r:=rfl
    rw [e]
    have hq:(if y < a then y else a)≤a∧(if y < a then y else a)≤y∧((if y < a then y else a)=a∨(if y < a then y else a)=y):=by split <;> omega
    generalize (if y < a then y else a)=q at h1 h2 h3 hq ⊢
    refine ⟨⟨by omega,fun z hz=>?_⟩,?_⟩
    · rcases List.mem_cons.1 hz with e | e
      · omega
      · exact h2 z e
    · rcases h3 with e | e
      · rcases hq.2.2 with f | f
        · exact Or.inl (e.trans f)
        · exact Or.inr (by rw [e,f];exact List.mem_cons_self)
      · exact Or.inr (List.mem_cons_of_mem _ e)
theorem lmax_spec : ∀ (l : List Int) (a : Int), (a ≤ lmax a l ∧ ∀ y, y ∈ l → y ≤ lmax a l) ∧ (lmax a l = a ∨ lmax a l ∈ l)
  | [],a=>⟨⟨Int.le_refl _,fun y h=>absurd h (by simp)⟩,Or.inl rfl⟩
  | y :: r,a=>by
    obtain ⟨⟨h1,h2⟩,h3⟩:=lmax_spec r (if y > a then y else a)
    have e:lmax a (y :: r)=lmax (if y > a then y else a) r:=rfl
    rw [e]
    have hq:a≤(if y > a then y else a)∧y≤(if y > a then y else a)∧((if y > a then y else a)=a∨(if y > a then y else a)=y):=by split <;> omega
    generalize (if y > a then y else a)=q at h1 h2 h3 hq ⊢
    refine ⟨⟨by omega,fun z hz=>?_⟩,?_⟩
    · rcases List.mem_cons.1 hz with e | e
      · omega
      · exact h2 z e
    · rcases h3 with e | e
      · rcases hq.2.2 with f | f
        · exact Or.inl (e.trans f)
        · exact Or.inr (by rw [e,f];exact List.mem_cons_self)
      · exact Or.inr (List.mem_cons_of_mem _ e)
theorem s77_lp (s : Sky) (w : Weather) : ∀ (l : List Int) (a b : Int), p77_lp0 s w l false a b = true ∧ s77_lp0 s w l false a b = ⟨lmin a l, lmax b l⟩
  | [],a,b=>⟨rfl,rfl⟩
  | y :: r,a,b=>by
    obtain ⟨h1,h2⟩:=s77_lp s w r (if y < a then y else a) (if y > b then y else b)
    exact ⟨h1,h2⟩
theorem s77_cons (s:Sky) (w:Weather) (y:Int) (r:List Int):p77_lp0 s w (y :: r) true 0 0=true∧s77_lp0 s w (y :: r) true 0 0=⟨lmin y r,lmax y r⟩:=by
  have h:=s77_lp s w r (if y < y then y else y) (if y > y then y else y)
  have e1:(if y < y then y else y)=y:=by split <;> rfl
  have e2:(if y > y then y else y)=y:=by split <;> rfl
  have h1:p77_lp0 s w (y :: r) true 0 0=p77_lp0 s w r false (if y < y then y else y) (if y > y then y else y):=rfl
  have h2:s77_lp0 s w (y :: r) true 0 0=s77_lp0 s w r false (if y < y then y else y) (if y > y then y else y):=rfl
  rw [h1,h2,h.1,h.2,e1]
  exact ⟨rfl,rfl⟩
def fcL (s:Sky) (w:Weather):Int:=mz (1000 - mx4 (s.Beta.Low * w.Pressure.Low) (s.Beta.Low * w.Pressure.High) (s.Beta.High * w.Pressure.Low) (s.Beta.High * w.Pressure.High)+mn4 (s.Alpha.Low * w.Warm.Low) (s.Alpha.Low * w.Warm.High) (s.Alpha.High * w.Warm.Low) (s.Alpha.High * w.Warm.High))
def fcH (s:Sky) (w:Weather):Int:=mz (1000 - mn4 (s.Beta.Low * w.Pressure.Low) (s.Beta.Low * w.Pressure.High) (s.Beta.High * w.Pressure.Low) (s.Beta.High * w.Pressure.High)+mx4 (s.Alpha.Low * w.Warm.Low) (s.Alpha.Low * w.Warm.High) (s.Alpha.High * w.Warm.Low) (s.Alpha.High * w.Warm.High))
theorem mz_mono {a b:Int} (h:a≤b):mz a≤mz b:=by
  unfold mz;split <;> split <;> omega
theorem all16 (b1 b2 b3 b4 a1 a2 a3 a4 : Int) :
    lmin (mz (1000 - b1+a1)) [mz (1000 - b1+a2),mz (1000 - b1+a3),mz (1000 - b1+a4),mz (1000 - b2+a1),mz (1000 - b2+a2),mz (1000 - b2+a3),mz (1000 - b2+a4),mz (1000 - b3+a1),mz (1000 - b3+a2),mz (1000 - b3+a3),mz (1000 - b3+a4),mz (1000 - b4+a1),mz (1000 - b4+a2),mz (1000 - b4+a3),mz (1000 - b4+a4)]=mz (1000 - mx4 b1 b2 b3 b4+mn4 a1 a2 a3 a4) ∧
    lmax (mz (1000 - b1+a1)) [mz (1000 - b1+a2),mz (1000 - b1+a3),mz (1000 - b1+a4),mz (1000 - b2+a1),mz (1000 - b2+a2),mz (1000 - b2+a3),mz (1000 - b2+a4),mz (1000 - b3+a1),mz (1000 - b3+a2),mz (1000 - b3+a3),mz (1000 - b3+a4),mz (1000 - b4+a1),mz (1000 - b4+a2),mz (1000 - b4+a3),mz (1000 - b4+a4)]=mz (1000 - mn4 b1 b2 b3 b4+mx4 a1 a2 a3 a4):=by
  obtain ⟨mb,eb⟩:=mx4_spec b1 b2 b3 b4
  obtain ⟨nb,fb⟩:=mn4_spec b1 b2 b3 b4
  obtain ⟨ma,ea⟩:=mx4_spec a1 a2 a3 a4
  obtain ⟨na,fa⟩:=mn4_spec a1 a2 a3 a4
  generalize mx4 b1 b2 b3 b4=B at mb eb ⊢
  generalize mn4 b1 b2 b3 b4=C at nb fb ⊢
  generalize mx4 a1 a2 a3 a4=A at ma ea ⊢
  generalize mn4 a1 a2 a3 a4=D at na fa ⊢
  constructor
  · generalize hl : [mz (1000 - b1 + a2), mz (1000 - b1 + a3), mz (1000 - b1 + a4), mz (1000 - b2 + a1), mz (1000 - b2 + a2), mz (1000 - b2 + a3), mz (1000 - b2 + a4), mz (1000 - b3 + a1), mz (1000 - b3 + a2), mz (1000 - b3 + a3), mz (1000 - b3 + a4), mz (1000 - b4 + a1), mz (1000 - b4 + a2), mz (1000 - b4 + a3), mz (1000 - b4 + a4)] = l
    obtain ⟨⟨g1,g2⟩,g3⟩:=lmin_spec l (mz (1000 - b1+a1))
    refine Int.le_antisymm ?_ ?_
    · have hm:mz (1000 - B+D)=mz (1000 - b1+a1)∨mz (1000 - B+D)∈l:=by
        rw [← hl]
        rcases eb with e | e | e | e <;> rcases fa with f | f | f | f <;> rw [e,f] <;> simp
      rcases hm with e | e
      · rw [e];exact g1
      · exact g2 _ e
    · have hle:∀ y,y=mz (1000 - b1+a1)∨y∈l→mz (1000 - B+D)≤y:=by
        intro y hy
        rw [← hl] at hy
        simp only [List.mem_cons,List.not_mem_nil,or_false] at hy
        rcases hy with e | e | e | e | e | e | e | e | e | e | e | e | e | e | e | e <;> (rw [e];exact mz_mono (by omega))
      rcases g3 with e | e
      · exact hle _ (Or.inl e)
      · exact hle _ (Or.inr e)
  · generalize hl : [mz (1000 - b1 + a2), mz (1000 - b1 + a3), mz (1000 - b1 + a4), mz (1000 - b2 + a1), mz (1000 - b2 + a2), mz (1000 - b2 + a3), mz (1000 - b2 + a4), mz (1000 - b3 + a1), mz (1000 - b3 + a2), mz (1000 - b3 + a3), mz (1000 - b3 + a4), mz (1000 - b4 + a1), mz (1000 - b4 + a2), mz (1000 - b4 + a3), mz (1000 - b4 + a4)] = l
    obtain ⟨⟨g1,g2⟩,g3⟩:=lmax_spec l (mz (1000 - b1+a1))
    refine Int.le_antisymm ?_ ?_
    · have hle:∀ y,y=mz (1000 - b1+a1)∨y∈l→y≤mz (1000 - C+A):=by
        intro y hy
        rw [← hl] at hy
        simp only [List.mem_cons,List.not_mem_nil,or_false] at hy
        rcases hy with e | e | e | e | e | e | e | e | e | e | e | e | e | e | e | e <;> (rw [e];exact mz_mono (by omega))
      rcases g3 with e | e
      · exact hle _ (Or.inl e)
      · exact hle _ (Or.inr e)
    · have hm:mz (1000 - C+A)=mz (1000 - b1+a1)∨mz (1000 - C+A)∈l:=by
        rw [← hl]
        rcases fb with e | e | e | e <;> rcases ea with f | f | f | f <;> rw [e,f] <;> simp
      rcases hm with e | e
      · rw [e];exact g1
      · exact g2 _ e
def SB (s:Sky):Prop:=(-100≤s.Beta.Low∧s.Beta.Low≤s.Beta.High∧s.Beta.High≤100)∧(-100≤s.Alpha.Low∧s.Alpha.Low≤s.Alpha.High∧s.Alpha.High≤100)
theorem SOk.sb {s:Sky} (h:SOk s):SB s:=⟨h.1.2.2.1,h.1.2.2.2⟩
theorem s77_eq {s:Sky} {w:Weather} (hs:SB s) (hw:WOk w):p77 s w=true∧s77 s w=⟨fcL s w,fcH s w⟩:=by
  obtain ⟨⟨b1,b2,b3⟩,a1,a2,a3⟩:=hs
  obtain ⟨⟨p1,p2,p3⟩,x1,x2,x3⟩:=hw
  have hbl : -100≤s.Beta.Low∧s.Beta.Low≤100:=by omega
  have hbh : -100≤s.Beta.High∧s.Beta.High≤100:=by omega
  have hal : -100≤s.Alpha.Low∧s.Alpha.Low≤100:=by omega
  have hah : -100≤s.Alpha.High∧s.Alpha.High≤100:=by omega
  have hpl : -1000≤w.Pressure.Low∧w.Pressure.Low≤1000:=by omega
  have hph : -1000≤w.Pressure.High∧w.Pressure.High≤1000:=by omega
  have hxl : -1000≤w.Warm.Low∧w.Warm.Low≤1000:=by omega
  have hxh : -1000≤w.Warm.High∧w.Warm.High≤1000:=by omega
  unfold p77 s77 p77_at0 s77_at0
  rw [ys117_y]
  rw [(s77_cons s w _ _).1,(s77_cons s w _ _).2]
  refine ⟨rfl,?_⟩
  rw [y117_eq hbl hpl hal hxl,y117_eq hbl hpl hal hxh,y117_eq hbl hpl hah hxl,y117_eq hbl hpl hah hxh,y117_eq hbl hph hal hxl,y117_eq hbl hph hal hxh,y117_eq hbl hph hah hxl,y117_eq hbl hph hah hxh,
    y117_eq hbh hpl hal hxl,y117_eq hbh hpl hal hxh,y117_eq hbh hpl hah hxl,y117_eq hbh hpl hah hxh,y117_eq hbh hph hal hxl,y117_eq hbh hph hal hxh,y117_eq hbh hph hah hxl,y117_eq hbh hph hah hxh]
  obtain ⟨e1,e2⟩:=all16 (s.Beta.Low * w.Pressure.Low) (s.Beta.Low * w.Pressure.High) (s.Beta.High * w.Pressure.Low) (s.Beta.High * w.Pressure.High) (s.Alpha.Low * w.Warm.Low) (s.Alpha.Low * w.Warm.High) (s.Alpha.High * w.Warm.Low) (s.Alpha.High * w.Warm.High)
  rw [e1,e2]
  rfl
theorem fc_in {s : Sky} {w : Weather} {b p a x : Int} (hb : s.Beta.Low ≤ b ∧ b ≤ s.Beta.High) (hp : w.Pressure.Low ≤ p ∧ p ≤ w.Pressure.High) (ha : s.Alpha.Low ≤ a ∧ a ≤ s.Alpha.High) (hx : w.Warm.Low ≤ x ∧ x ≤ w.Warm.High) :
    fcL s w≤mz (1000 - b * p+a * x)∧mz (1000 - b * p+a * x)≤fcH s w:=by
  have h1:=mul_in hb hp
  have h2:=mul_in ha hx
  exact ⟨mz_mono (by omega),mz_mono (by omega)⟩
theorem fc_b {s:Sky} {w:Weather} (hs:SB s) (hw:WOk w):0≤fcL s w∧fcL s w≤fcH s w∧fcH s w≤201000:=by
  obtain ⟨⟨b1,b2,b3⟩,a1,a2,a3⟩:=hs
  obtain ⟨⟨p1,p2,p3⟩,x1,x2,x3⟩:=hw
  have h:=fc_in (s:=s) (w:=w) ⟨Int.le_refl _,b2⟩ ⟨Int.le_refl _,p2⟩ ⟨Int.le_refl _,a2⟩ ⟨Int.le_refl _,x2⟩
  have c1:=mul_b (p:=100) (q:=1000) (x:=s.Beta.Low) (y:=w.Pressure.Low) (by omega) (by omega) (by omega) (by omega)
  have c2:=mul_b (p:=100) (q:=1000) (x:=s.Beta.Low) (y:=w.Pressure.High) (by omega) (by omega) (by omega) (by omega)
  have c3:=mul_b (p:=100) (q:=1000) (x:=s.Beta.High) (y:=w.Pressure.Low) (by omega) (by omega) (by omega) (by omega)
  have c4:=mul_b (p:=100) (q:=1000) (x:=s.Beta.High) (y:=w.Pressure.High) (by omega) (by omega) (by omega) (by omega)
  have d1:=mul_b (p:=100) (q:=1000) (x:=s.Alpha.Low) (y:=w.Warm.Low) (by omega) (by omega) (by omega) (by omega)
  have d2:=mul_b (p:=100) (q:=1000) (x:=s.Alpha.Low) (y:=w.Warm.High) (by omega) (by omega) (by omega) (by omega)
  have d3:=mul_b (p:=100) (q:=1000) (x:=s.Alpha.High) (y:=w.Warm.Low) (by omega) (by omega) (by omega) (by omega)
  have d4:=mul_b (p:=100) (q:=1000) (x:=s.Alpha.High) (y:=w.Warm.High) (by omega) (by omega) (by omega) (by omega)
  have m:=(mn4_spec (s.Beta.Low * w.Pressure.Low) (s.Beta.Low * w.Pressure.High) (s.Beta.High * w.Pressure.Low) (s.Beta.High * w.Pressure.High)).2
  have n:=(mx4_spec (s.Alpha.Low * w.Warm.Low) (s.Alpha.Low * w.Warm.High) (s.Alpha.High * w.Warm.Low) (s.Alpha.High * w.Warm.High)).2
  refine ⟨by unfold fcL mz;split <;> omega,by omega,?_⟩
  unfold fcH mz
  split <;> omega
def LOk (l:Sl Spell):Prop:=(1≤(l.len:Int)∧(l.len:Int)≤50)∧∀ i,i < l.len→(1≤(l.get i).Slots∧(l.get i).Slots≤1000000)∧WOk (l.get i).Weather
theorem s67_ok (l:Sl Spell) (hn:l.len≤9223372036854775807):p67 l=true∧(s67 l=true↔LOk l):=by
  have h:p67 l=true∧(s67 l=true↔(∀ i,i < l.len→(decide (1≤(l.get i).Slots∧(l.get i).Slots≤1000000) && s76 (l.get i).Weather)=true)∧s63 (l.len:Int) 1 50=true):=by
    refine all_loop (n:=l.len) (good:=fun i=>decide (1≤(l.get i).Slots∧(l.get i).Slots≤1000000) && s76 (l.get i).Weather) (lpS:=s67_lp0 l) (lpP:=p67_lp0 l) ?_ ?_ ?_ ?_ hn
    · intro k i hi
      show s67_st0 l (s67_lp0 l k) i=_
      generalize s67_lp0 l k=S
      unfold s67_st0 s67_at1
      rw [decide_eq_true (by omega),Int.toNat_natCast,s63_eq]
      cases decide (1≤(l.get i).Slots∧(l.get i).Slots≤1000000) <;> cases s76 (l.get i).Weather <;> rfl
    · intro k
      show s67_st0 l (s67_lp0 l k) _=_
      unfold s67_st0
      rw [decide_eq_false (by omega),cond_false]
    · intro k i hi
      show p67_st0 l (p67_lp0 l k) i=_
      generalize p67_lp0 l k=S
      unfold p67_st0 p67_at1
      rw [decide_eq_true (show (i:Int) < (l.len:Int) by omega),Int.toNat_natCast,s63_eq,decide_eq_true (show 0≤(i:Int)∧(i:Int) < (l.len:Int) by omega)]
      cases decide (1≤(l.get i).Slots∧(l.get i).Slots≤1000000) <;> cases s76 (l.get i).Weather <;> rfl
    · intro k
      show p67_st0 l (p67_lp0 l k) _=_
      unfold p67_st0
      rw [decide_eq_false (by omega),cond_false]
  refine ⟨h.1,h.2.trans ?_⟩
  unfold LOk
  rw [s63_eq]
  simp only [Bool.and_eq_true,decide_eq_true_eq,s76_eq]
  exact And.comm
theorem s22_ok (l:Sl Spell) (hn:l.len≤9223372036854775807):p22 l=true∧s22 l=s67 l:=by
  have h:p22 l=true∧(s22 l=true↔(∀ i,i < l.len→(decide (1≤(l.get i).Slots∧(l.get i).Slots≤1000000) && s76 (l.get i).Weather)=true)∧s58 (l.len:Int) 1 50=true):=by
    refine all_loop (n:=l.len) (good:=fun i=>decide (1≤(l.get i).Slots∧(l.get i).Slots≤1000000) && s76 (l.get i).Weather) (lpS:=s22_lp0 l) (lpP:=p22_lp0 l) ?_ ?_ ?_ ?_ hn
    · intro k i hi
      show s22_st0 l (s22_lp0 l k) i=_
      generalize s22_lp0 l k=S
      unfold s22_st0 s22_at1
      rw [decide_eq_true (by omega),Int.toNat_natCast,s58_eq,s36_eq]
      cases decide (1≤(l.get i).Slots∧(l.get i).Slots≤1000000) <;> cases s76 (l.get i).Weather <;> rfl
    · intro k
      show s22_st0 l (s22_lp0 l k) _=_
      unfold s22_st0
      rw [decide_eq_false (by omega),cond_false]
    · intro k i hi
      show p22_st0 l (p22_lp0 l k) i=_
      generalize p22_lp0 l k=S
      unfold p22_st0 p22_at1
      rw [decide_eq_true (show (i:Int) < (l.len:Int) by omega),Int.toNat_natCast,s58_eq,s36_eq,decide_eq_true (show 0≤(i:Int)∧(i:Int) < (l.len:Int) by omega)]
      cases decide (1≤(l.get i).Slots∧(l.get i).Slots≤1000000) <;> cases s76 (l.get i).Weather <;> rfl
    · intro k
      show p22_st0 l (p22_lp0 l k) _=_
      unfold p22_st0
      rw [decide_eq_false (by omega),cond_false]
  refine ⟨h.1,Bool.eq_iff_iff.2 (h.2.trans ((s67_ok l hn).2.trans ?_).symm)⟩
  unfold LOk
  rw [s58_eq]
  simp only [Bool.and_eq_true,decide_eq_true_eq,s76_eq]
  exact And.comm
def sumF (f : Nat → Int) : Nat → Int
  | 0=>0
  | i+1=>sumF f i+f i
theorem sumF_le {f g:Nat→Int} {n:Nat} (h:∀ i,i < n→f i≤g i):sumF f n≤sumF g n:=by
  induction n with
  | zero=>exact Int.le_refl _
  | succ n ih =>
    have:=ih fun i hi=>h i (by omega)
    have:=h n (by omega)
    show sumF f n+f n≤sumF g n+g n
    omega
theorem sumF_b {f:Nat→Int} {n:Nat} {b:Int} (h:∀ i,i < n→0≤f i∧f i≤b):0≤sumF f n∧sumF f n≤n * b:=by
  induction n with
  | zero=>exact ⟨Int.le_refl _,by show (0:Int)≤_;simp⟩
  | succ n ih =>
    have h1:=ih fun i hi=>h i (by omega)
    have h2:=h n (by omega)
    have e:((n+1:Nat):Int) * b=n * b+b:=by rw [Int.natCast_add,Int.add_mul];simp
    show 0≤sumF f n+f n∧sumF f n+f n≤_
    rw [e]
    omega
theorem sumF_pos {f:Nat→Int} {n:Nat} (hn:0 < n) (h:∀ i,i < n→1≤f i):1≤sumF f n:=by
  cases n with
  | zero=>omega
  | succ n =>
    have h1:0≤sumF f n:=by
      clear hn
      induction n with
      | zero=>exact Int.le_refl _
      | succ n ih =>
        have:=ih fun i hi=>h i (by omega)
        have:=h n (by omega)
        show 0≤sumF f n+f n
        omega
    have:=h n (by omega)
    show 1≤sumF f n+f n
    omega
def rlo (parts r f:Int):Int:=if r * f / 1000 < parts then r * f / 1000 else parts
def rhi (parts r f:Int):Int:=if (r * f+999) / 1000 < parts then (r * f+999) / 1000 else parts
theorem mulN {r f a b:Int} (hr:0≤r∧r≤a) (hf:0≤f∧f≤b):0≤r * f∧r * f≤a * b:=by
  refine ⟨Int.mul_nonneg hr.1 hf.1,?_⟩
  have h1:=Int.mul_le_mul_of_nonneg_right hr.2 hf.1
  have h2:=Int.mul_le_mul_of_nonneg_left hf.2 (show 0≤a by omega)
  omega
theorem s97_eq (g:ground) {r f:Int} (hr:0≤r∧r≤1000000) (hf:0≤f∧f≤201000):s97 g r f=rlo g.Sky.Parts r f:=by
  have h:=mulN hr hf
  unfold s97 rlo
  rw [w64_id (x:=r * f) (by omega) (by omega),Int.tdiv_eq_ediv_of_nonneg h.1]
  generalize r * f=m at h
  rw [w64_id (by omega) (by omega)]
theorem s98_eq (g:ground) {r f:Int} (hr:0≤r∧r≤1000000) (hf:0≤f∧f≤201000):s98 g r f=rhi g.Sky.Parts r f:=by
  have h:=mulN hr hf
  unfold s98 rhi
  generalize r * f=m at h
  rw [w64_id (x:=m) (by omega) (by omega),w64_id (x:=m+999) (by omega) (by omega),Int.tdiv_eq_ediv_of_nonneg (by omega),w64_id (by omega) (by omega)]
def slF (l:Sl Spell) (i:Nat):Int:=(l.get i).Slots
def loF (s:Sky) (x:Span) (l:Sl Spell) (i:Nat):Int:=(l.get i).Slots * rlo s.Parts x.Low (fcL s (l.get i).Weather)
def hiF (s:Sky) (x:Span) (l:Sl Spell) (i:Nat):Int:=(l.get i).Slots * rhi s.Parts x.High (fcH s (l.get i).Weather)
def meanV (s:Sky) (x:Span) (l:Sl Spell):Span:=⟨sumF (loF s x l) l.len / sumF (slF l) l.len,(sumF (hiF s x l) l.len+sumF (slF l) l.len - 1) / sumF (slF l) l.len⟩
def XOk (s:Sky) (x:Span):Prop:=0≤x.Low∧x.Low≤x.High∧x.High≤s.Parts
theorem lo_b {s:Sky} {x:Span} {l:Sl Spell} (hs:SOk s) (hx:XOk s x) (hl:LOk l):∀ i,i < l.len→(0≤rlo s.Parts x.Low (fcL s (l.get i).Weather)∧rlo s.Parts x.Low (fcL s (l.get i).Weather)≤1000000)∧(0≤rhi s.Parts x.High (fcH s (l.get i).Weather)∧rhi s.Parts x.High (fcH s (l.get i).Weather)≤1000000)∧(0≤loF s x l i∧loF s x l i≤1000000000000)∧(0≤hiF s x l i∧hiF s x l i≤1000000000000):=by
  intro i hi
  obtain ⟨h1,h2⟩:=hl.2 i hi
  have hp:=hs.1.1
  obtain ⟨f0,f1,f2⟩:=fc_b hs.sb h2
  obtain ⟨x0,x1,x2⟩:=hx
  have m1:=mulN (r:=x.Low) (f:=fcL s (l.get i).Weather) (a:=1000000) (b:=201000) (by omega) (by omega)
  have m2:=mulN (r:=x.High) (f:=fcH s (l.get i).Weather) (a:=1000000) (b:=201000) (by omega) (by omega)
  have r1:0≤rlo s.Parts x.Low (fcL s (l.get i).Weather)∧rlo s.Parts x.Low (fcL s (l.get i).Weather)≤1000000:=by
    unfold rlo
    generalize x.Low * fcL s (l.get i).Weather=m at m1
    split <;> omega
  have r2:0≤rhi s.Parts x.High (fcH s (l.get i).Weather)∧rhi s.Parts x.High (fcH s (l.get i).Weather)≤1000000:=by
    unfold rhi
    generalize x.High * fcH s (l.get i).Weather=m at m2
    split <;> omega
  have q1:=mulN (r:=(l.get i).Slots) (a:=1000000) (by omega) r1
  have q2:=mulN (r:=(l.get i).Slots) (a:=1000000) (by omega) r2
  exact ⟨r1,r2,by unfold loF;omega,by unfold hiF;omega⟩
theorem sums_b {s:Sky} {x:Span} {l:Sl Spell} (hs:SOk s) (hx:XOk s x) (hl:LOk l):∀ i,i≤l.len→(0≤sumF (slF l) i∧sumF (slF l) i≤50000000)∧(0≤sumF (loF s x l) i∧sumF (loF s x l) i≤50000000000000)∧(0≤sumF (hiF s x l) i∧sumF (hiF s x l) i≤50000000000000):=by
  intro i hi
  have hlen:=hl.1
  have a:=sumF_b (f:=slF l) (n:=i) (b:=1000000) (fun j hj=>by have:=(hl.2 j (by omega)).1;unfold slF;omega)
  have b:=sumF_b (f:=loF s x l) (n:=i) (b:=1000000000000) (fun j hj=>(lo_b hs hx hl j (by omega)).2.2.1)
  have c:=sumF_b (f:=hiF s x l) (n:=i) (b:=1000000000000) (fun j hj=>(lo_b hs hx hl j (by omega)).2.2.2)
  omega
theorem s68_eq {g:ground} {x:Span} {l:Sl Spell} (hs:SOk g.Sky) (hx:XOk g.Sky x) (hl:LOk l):p68 g x l=true∧s68 g x l=meanV g.Sky x l:=by
  have hlen:=hl.1
  have hp:=hs.1.1
  have key:∀ m k i:Nat,i+m=l.len→m < k→p68_lp0 g x l k (sumF (slF l) i) i (sumF (loF g.Sky x l) i) (sumF (hiF g.Sky x l) i)=true∧s68_lp0 g x l k (sumF (slF l) i) i (sumF (loF g.Sky x l) i) (sumF (hiF g.Sky x l) i)=meanV g.Sky x l:=by
    intro m
    induction m with
    | zero =>
      intro k i hi hm
      obtain ⟨k,rfl⟩:∃ k',k=k'+1:=⟨k - 1,by omega⟩
      show p68_st0 g x l (p68_lp0 g x l k) _ _ _ _=true∧s68_st0 g x l (s68_lp0 g x l k) _ _ _ _=_
      unfold p68_st0 s68_st0
      rw [decide_eq_false (by omega)]
      have e:i=l.len:=by omega
      subst e
      obtain ⟨c1,c2,c3⟩:=sums_b hs hx hl l.len (Nat.le_refl _)
      have c0:=sumF_pos (f:=slF l) (n:=l.len) (by omega) (fun i hi=>(hl.2 i hi).1.1)
      unfold p68_at1 s68_at1 meanV
      rw [cond_false,cond_false,decide_eq_true (show sumF (slF l) l.len ≠ 0 by omega)]
      refine ⟨rfl,?_⟩
      generalize sumF (slF l) l.len=S at *
      generalize sumF (loF g.Sky x l) l.len=A at *
      generalize sumF (hiF g.Sky x l) l.len=B at *
      rw [w64_id (x:=B+S) (by omega) (by omega),w64_id (x:=B+S - 1) (by omega) (by omega),Int.tdiv_eq_ediv_of_nonneg (by omega),Int.tdiv_eq_ediv_of_nonneg (by omega)]
      have d1:0≤A / S:=Int.ediv_nonneg (by omega) (by omega)
      have d2:A / S≤A:=Int.ediv_le_self _ (by omega)
      have d3:0≤(B+S - 1) / S:=Int.ediv_nonneg (by omega) (by omega)
      have d4:(B+S - 1) / S≤B+S - 1:=Int.ediv_le_self _ (by omega)
      rw [w64_id (x:=A / S) (by omega) (by omega),w64_id (x:=(B+S - 1) / S) (by omega) (by omega)]
    | succ m ih =>
      intro k i hi hm
      obtain ⟨k,rfl⟩:∃ k',k=k'+1:=⟨k - 1,by omega⟩
      show p68_st0 g x l (p68_lp0 g x l k) _ _ _ _=true∧s68_st0 g x l (s68_lp0 g x l k) _ _ _ _=_
      have hil:i < l.len:=by omega
      obtain ⟨hw1,hw2⟩:=hl.2 i hil
      obtain ⟨f0,f1,f2⟩:=fc_b hs.sb hw2
      obtain ⟨x0,x1,x2⟩:=hx
      obtain ⟨q1,q2,q3,q4⟩:=lo_b hs ⟨x0,x1,x2⟩ hl i hil
      obtain ⟨c1,c2,c3⟩:=sums_b hs ⟨x0,x1,x2⟩ hl i (by omega)
      unfold p68_st0 s68_st0
      have e3:w64 ((i:Int)+1)=((i+1:Nat):Int):=by rw [w64_id (by omega) (by omega)];omega
      rw [decide_eq_true (show (i:Int) < (l.len:Int) by omega),decide_eq_true (show 0≤(i:Int)∧(i:Int) < (l.len:Int) by omega),Int.toNat_natCast,(s77_eq hs.sb hw2).1,(s77_eq hs.sb hw2).2,e3]
      rw [s97_eq g (r:=x.Low) (f:=fcL g.Sky (l.get i).Weather) (by omega) (by omega),s98_eq g (r:=x.High) (f:=fcH g.Sky (l.get i).Weather) (by omega) (by omega)]
      have u1:p97 g x.Low (fcL g.Sky (l.get i).Weather)=true:=rfl
      have u2:p98 g x.High (fcH g.Sky (l.get i).Weather)=true:=rfl
      rw [u1,u2]
      have v1:w64 ((l.get i).Slots * rlo g.Sky.Parts x.Low (fcL g.Sky (l.get i).Weather))=loF g.Sky x l i:=by
        show w64 (loF g.Sky x l i)=_
        exact w64_id (by omega) (by omega)
      have v2:w64 ((l.get i).Slots * rhi g.Sky.Parts x.High (fcH g.Sky (l.get i).Weather))=hiF g.Sky x l i:=by
        show w64 (hiF g.Sky x l i)=_
        exact w64_id (by omega) (by omega)
      rw [v1,v2,w64_id (x:=sumF (slF l) i+(l.get i).Slots) (by omega) (by omega),w64_id (x:=sumF (loF g.Sky x l) i+loF g.Sky x l i) (by omega) (by omega),w64_id (x:=sumF (hiF g.Sky x l) i+hiF g.Sky x l i) (by omega) (by omega)]
      have:=ih k (i+1) (by omega) (by omega)
      simpa [sumF,slF] using this
  exact key l.len Fuel 0 (by omega) (by simp only [Fuel];omega)
theorem abv_ok {parts:Int} {l:Sl FluxRow} {y:Span} (hb:BOk parts l) (hp:0≤parts) (hy:1≤y.Low) (hyy:y.High = -1∨y.Low≤y.High):0≤(abv l y).Low∧(abv l y).Low≤(abv l y).High∧(abv l y).High≤parts:=by
  have hlen:=hb.1
  have hr:∀ i,i < l.len→0≤(l.get i).Rate.Low∧(l.get i).Rate.Low≤(l.get i).Rate.High∧(l.get i).Rate.High≤parts:=fun i hi=>(hb.2.2 i hi).2.1
  have b1:jL l y.Low≤l.len:=fst_le _ _
  have hj:0 < jL l y.Low:=by
    rcases Nat.eq_zero_or_pos (jL l y.Low) with h | h
    · have := of_decide_eq_true (fst_hi (c := fun i => decide ((l.get i).Energy > y.Low)) (n := l.len) (show jL l y.Low < l.len by omega))
      have h2:fst (fun i=>decide ((l.get i).Energy > y.Low)) l.len=0:=h
      rw [h2,hb.2.1] at this
      omega
    · exact h
  have eH:(abv l y).High=(l.get (jL l y.Low - 1)).Rate.High:=by
    show abvH l y.Low=_
    unfold abvH
    rw [if_pos hj]
  have h1:=hr (jL l y.Low - 1) (by omega)
  rw [eH]
  show 0≤abvL l y.High∧abvL l y.High≤_∧_
  unfold abvL
  by_cases hn:y.High = -1
  · rw [if_pos hn];omega
  rw [if_neg hn]
  by_cases hl:jH l y.High < l.len
  · rw [if_pos hl]
    have h2:=hr _ hl
    have h3:jL l y.Low - 1≤jH l y.High:=by
      rcases Nat.lt_or_ge (jH l y.High) (jL l y.Low - 1) with h | h
      · have h4 : (l.get (jH l y.High)).Energy ≥ y.High := of_decide_eq_true (fst_hi (c := fun i => decide ((l.get i).Energy ≥ y.High)) hl)
        have h5:=of_decide_eq_false (fst_lo (c:=fun i=>decide ((l.get i).Energy > y.Low)) (n:=l.len) (j:=jL l y.Low - 1) (by show _ < jL l y.Low;omega))
        have:=b_e hb h (by omega)
        rcases hyy with e | e <;> omega
      · exact h
    have:=b_low hb h3 hl
    omega
  · rw [if_neg hl];omega
theorem thr_ok {t:Sl RangeRow} {x:Int} (hk:TOk t) (hx:0≤x):1≤(thr t x).Low∧((thr t x).High = -1∨(thr t x).Low≤(thr t x).High):=by
  have hE:∀ i,i < t.len→1≤(t.get i).Energy∧(t.get i).Energy≤1000000:=fun i hi=>(hk.2 i hi).1
  have b1:kH t x≤t.len:=fst_le _ _
  unfold thr
  by_cases h0:x=0
  · rw [if_pos h0];exact ⟨Int.le_refl _,Or.inr (Int.le_refl _)⟩
  rw [if_neg h0]
  show 1≤thrL t x∧(thrH t x = -1∨thrL t x≤thrH t x)
  have h1:1≤thrL t x:=by
    unfold thrL
    by_cases h:0 < kH t x
    · rw [if_pos h];have:=hE (kH t x - 1) (by omega);omega
    · rw [if_neg h];exact Int.le_refl _
  refine ⟨h1,?_⟩
  unfold thrH
  by_cases hl:kL t x < t.len
  · rw [if_pos hl]
    refine Or.inr ?_
    unfold thrL
    by_cases h:0 < kH t x
    · rw [if_pos h]
      have h2:kH t x≤kL t x:=fst_mono' fun i hi hd=>by
        have:=of_decide_eq_true hd
        have:=(hk.2 i hi).2.1
        exact decide_eq_true (by omega)
      have:=t_e hk (show kH t x - 1 < kL t x by omega) hl
      omega
    · rw [if_neg h];exact (hE _ hl).1
  · rw [if_neg hl];exact Or.inl rfl
where
  fst_mono' {c d:Nat→Bool} {n:Nat} (h:∀ i,i < n→d i=true→c i=true):fst c n≤fst d n:=by
    rcases Nat.lt_or_ge (fst d n) (fst c n) with h1 | h1
    · have h2 := fst_lo h1
      have:=fst_le c n
      rw [h _ (by omega) (fst_hi (by omega))] at h2
      cases h2
    · exact h1
theorem expd_ok {s:Sky} {t:Sl RangeRow} {bin x:Int} (h:Fine s t bin x):XOk s (expd s t bin x):=by
  obtain ⟨h1,h2⟩:=thr_ok h.2.1 h.2.2.2.1
  exact abv_ok h.b (by have:=h.1.1.1;omega) h1 h2
theorem s23_ok (s:Sky) (t:Sl RangeRow) (bin x:Int) (l:Sl Spell) (hs:SL s) (ht:t.len≤9223372036854775807) (hl:l.len≤9223372036854775807):p23 s t bin x l=true∧(Fine s t bin x∧LOk l→s23 s t bin x l=(meanV s (expd s t bin x) l,0))∧(¬ (Fine s t bin x∧LOk l)→s23 s t bin x l=(⟨0,0⟩,2)):=by
  obtain ⟨h1,h2⟩:=s65_ok s t bin x hs ht
  obtain ⟨e1,e2⟩:=s65_g s t bin x
  obtain ⟨l1,l2⟩:=s67_ok l hl
  unfold p23 s23
  rw [h1,e1,e2,l1]
  by_cases h:Fine s t bin x
  · rw [h2.2 h, (s66_eq h).1, (s66_eq h).2]
    by_cases hk:LOk l
    · have hg : SOk (s65 s t bin x).1.Sky := by rw [e1]; exact h.1
      have hx:XOk (s65 s t bin x).1.Sky (expd s t bin x):=by rw [e1];exact expd_ok h
      have h8:=s68_eq hg hx hk
      rw [h8.1,h8.2,l2.2 hk,e1]
      exact ⟨rfl,fun _=>rfl,fun h3=>absurd ⟨h,hk⟩ h3⟩
    · have h3:s67 l=false:=by
        cases e:s67 l
        · rfl
        · exact absurd (l2.1 e) hk
      rw [h3]
      exact ⟨rfl,fun h3=>absurd h3.2 hk,fun _=>rfl⟩
  · have h3:(s65 s t bin x).2=false:=by
      cases e:(s65 s t bin x).2
      · rfl
      · exact absurd (h2.1 e) h
    rw [h3]
    exact ⟨rfl,fun h3=>absurd h3.1 h,fun _=>rfl⟩
end Go.Proofs
namespace Go.Proofs
open Go Go.Pm
set_option linter.unusedVariables false
theorem s78_eq (a b : Span) (hLL : w64 (a.Low * b.Low) = a.Low * b.Low) (hLH : w64 (a.Low * b.High) = a.Low * b.High) (hHL : w64 (a.High * b.Low) = a.High * b.Low) (hHH : w64 (a.High * b.High) = a.High * b.High) :
    p78 a b=true∧s78 a b=(mn4 (a.Low * b.Low) (a.Low * b.High) (a.High * b.Low) (a.High * b.High),mx4 (a.Low * b.Low) (a.Low * b.High) (a.High * b.Low) (a.High * b.High)):=by
  obtain ⟨k,hk⟩:∃ k,Fuel=k+4:=⟨Fuel - 4,by simp only [Fuel]⟩
  unfold p78 s78 p78_at0 s78_at0
  rw [hk,hLL,hLH,hHL,hHH]
  generalize a.Low * b.Low=A
  generalize a.Low * b.High=B
  generalize a.High * b.Low=C
  generalize a.High * b.High=D
  have st:∀ k l h i v,s78_lp0 (k+1) l h i v=s78_st0 (s78_lp0 k) l h i v:=fun _ _ _ _ _=>rfl
  have pt:∀ k l h i v,p78_lp0 (k+1) l h i v=p78_st0 (p78_lp0 k) l h i v:=fun _ _ _ _ _=>rfl
  have g1:(getT A [A,B,C,D]) (1:Int).toNat=B:=rfl
  have g2:(getT A [A,B,C,D]) (2:Int).toNat=C:=rfl
  have g3:(getT A [A,B,C,D]) (3:Int).toNat=D:=rfl
  have w1:w64 (1+1)=2:=rfl
  have w2:w64 (2+1)=3:=rfl
  have w3:w64 (3+1)=4:=rfl
  have d1:decide ((1:Int) < 4)=true:=rfl
  have d2:decide ((2:Int) < 4)=true:=rfl
  have d3:decide ((3:Int) < 4)=true:=rfl
  have d4:decide ((4:Int) < 4)=false:=rfl
  have s1:∀ l h,s78_lp0 (k+4) l h 1 ⟨4,getT A [A,B,C,D]⟩=(mn2 (mn2 (mn2 l B) C) D,mx2 (mx2 (mx2 h B) C) D):=by
    intro l h
    rw [st];unfold s78_st0;rw [d1,cond_true]
    show s78_lp0 (k+3) (if (getT A [A,B,C,D]) (1:Int).toNat < l then (getT A [A,B,C,D]) (1:Int).toNat else l) (if (getT A [A,B,C,D]) (1:Int).toNat > h then (getT A [A,B,C,D]) (1:Int).toNat else h) (w64 (1+1)) _=_
    rw [g1,w1,st];unfold s78_st0;rw [d2,cond_true]
    show s78_lp0 (k+2) (if (getT A [A,B,C,D]) (2:Int).toNat < _ then (getT A [A,B,C,D]) (2:Int).toNat else _) (if (getT A [A,B,C,D]) (2:Int).toNat > _ then (getT A [A,B,C,D]) (2:Int).toNat else _) (w64 (2+1)) _=_
    rw [g2,w2,st];unfold s78_st0;rw [d3,cond_true]
    show s78_lp0 (k+1) (if (getT A [A,B,C,D]) (3:Int).toNat < _ then (getT A [A,B,C,D]) (3:Int).toNat else _) (if (getT A [A,B,C,D]) (3:Int).toNat > _ then (getT A [A,B,C,D]) (3:Int).toNat else _) (w64 (3+1)) _=_
    rw [g3,w3,st];unfold s78_st0;rw [d4,cond_false]
    rfl
  have p1:∀ l h,p78_lp0 (k+4) l h 1 ⟨4,getT A [A,B,C,D]⟩=true:=by
    intro l h
    have c1:(decide ((0:Int)≤1∧(1:Int) < ((4:Nat):Int)))=true:=rfl
    have c2:(decide ((0:Int)≤2∧(2:Int) < ((4:Nat):Int)))=true:=rfl
    have c3:(decide ((0:Int)≤3∧(3:Int) < ((4:Nat):Int)))=true:=rfl
    have q1:(decide ((1:Int).toNat < 4))=true:=rfl
    have q2:(decide ((2:Int).toNat < 4))=true:=rfl
    have q3:(decide ((3:Int).toNat < 4))=true:=rfl
    rw [pt];unfold p78_st0
    rw [d1,c1,q1,w1]
    simp only [cond_true,Bool.true_and]
    rw [pt];unfold p78_st0
    rw [d2,c2,q2,w2]
    simp only [cond_true,Bool.true_and]
    rw [pt];unfold p78_st0
    rw [d3,c3,q3,w3]
    simp only [cond_true,Bool.true_and]
    rw [pt];unfold p78_st0
    rw [d4,cond_false]
  rw [s1,p1]
  exact ⟨rfl,rfl⟩
theorem s37_eq {s:Sky} {w:Weather} (hs:SB s) (hw:WOk w):p37 s w=true∧s37 s w=⟨fcL s w,fcH s w⟩:=by
  obtain ⟨⟨b1,b2,b3⟩,a1,a2,a3⟩:=hs
  obtain ⟨⟨p1,p2,p3⟩,x1,x2,x3⟩:=hw
  have c1:=mul_b (p:=100) (q:=1000) (x:=s.Beta.Low) (y:=w.Pressure.Low) (by omega) (by omega) (by omega) (by omega)
  have c2:=mul_b (p:=100) (q:=1000) (x:=s.Beta.Low) (y:=w.Pressure.High) (by omega) (by omega) (by omega) (by omega)
  have c3:=mul_b (p:=100) (q:=1000) (x:=s.Beta.High) (y:=w.Pressure.Low) (by omega) (by omega) (by omega) (by omega)
  have c4:=mul_b (p:=100) (q:=1000) (x:=s.Beta.High) (y:=w.Pressure.High) (by omega) (by omega) (by omega) (by omega)
  have d1:=mul_b (p:=100) (q:=1000) (x:=s.Alpha.Low) (y:=w.Warm.Low) (by omega) (by omega) (by omega) (by omega)
  have d2:=mul_b (p:=100) (q:=1000) (x:=s.Alpha.Low) (y:=w.Warm.High) (by omega) (by omega) (by omega) (by omega)
  have d3:=mul_b (p:=100) (q:=1000) (x:=s.Alpha.High) (y:=w.Warm.Low) (by omega) (by omega) (by omega) (by omega)
  have d4:=mul_b (p:=100) (q:=1000) (x:=s.Alpha.High) (y:=w.Warm.High) (by omega) (by omega) (by omega) (by omega)
  obtain ⟨e1,e2⟩:=s78_eq s.Beta w.Pressure (w64_id (by omega) (by omega)) (w64_id (by omega) (by omega)) (w64_id (by omega) (by omega)) (w64_id (by omega) (by omega))
  obtain ⟨f1,f2⟩:=s78_eq s.Alpha w.Warm (w64_id (by omega) (by omega)) (w64_id (by omega) (by omega)) (w64_id (by omega) (by omega)) (w64_id (by omega) (by omega))
  unfold p37 s37
  rw [e1,f1,e2,f2]
  refine ⟨rfl,?_⟩
  have m:=(mn4_spec (s.Beta.Low * w.Pressure.Low) (s.Beta.Low * w.Pressure.High) (s.Beta.High * w.Pressure.Low) (s.Beta.High * w.Pressure.High)).2
  have n:=(mx4_spec (s.Alpha.Low * w.Warm.Low) (s.Alpha.Low * w.Warm.High) (s.Alpha.High * w.Warm.Low) (s.Alpha.High * w.Warm.High)).2
  have m':=(mx4_spec (s.Beta.Low * w.Pressure.Low) (s.Beta.Low * w.Pressure.High) (s.Beta.High * w.Pressure.Low) (s.Beta.High * w.Pressure.High)).2
  have n':=(mn4_spec (s.Alpha.Low * w.Warm.Low) (s.Alpha.Low * w.Warm.High) (s.Alpha.High * w.Warm.Low) (s.Alpha.High * w.Warm.High)).2
  unfold fcL fcH mz
  generalize mn4 (s.Beta.Low * w.Pressure.Low) (s.Beta.Low * w.Pressure.High) (s.Beta.High * w.Pressure.Low) (s.Beta.High * w.Pressure.High)=M at m ⊢
  generalize mx4 (s.Alpha.Low * w.Warm.Low) (s.Alpha.Low * w.Warm.High) (s.Alpha.High * w.Warm.Low) (s.Alpha.High * w.Warm.High)=N at n ⊢
  generalize mx4 (s.Beta.Low * w.Pressure.Low) (s.Beta.Low * w.Pressure.High) (s.Beta.High * w.Pressure.Low) (s.Beta.High * w.Pressure.High)=M' at m' ⊢
  generalize mn4 (s.Alpha.Low * w.Warm.Low) (s.Alpha.Low * w.Warm.High) (s.Alpha.High * w.Warm.Low) (s.Alpha.High * w.Warm.High)=N' at n' ⊢
  show (⟨(if w64 (w64 (1000 - M')+N') > 0 then w64 (w64 (1000 - M')+N') else 0),(if w64 (w64 (1000 - M)+N) > 0 then w64 (w64 (1000 - M)+N) else 0)⟩:Span)=_
  rw [w64_id (x:=1000 - M) (by omega) (by omega),w64_id (x:=1000 - M') (by omega) (by omega),w64_id (x:=1000 - M+N) (by omega) (by omega),w64_id (x:=1000 - M'+N') (by omega) (by omega)]
theorem s79_eq {s:Sky} {x:Span} {w:Weather} (hs:SOk s) (hx:XOk s x) (hw:WOk w):p79 s x w=true∧s79 s x w=⟨rlo s.Parts x.Low (fcL s w),rhi s.Parts x.High (fcH s w)⟩:=by
  obtain ⟨f0,f1,f2⟩:=fc_b hs.sb hw
  obtain ⟨x0,x1,x2⟩:=hx
  have hp:=hs.1.1
  have m1:=mulN (r:=x.Low) (f:=fcL s w) (a:=1000000) (b:=201000) (by omega) (by omega)
  have m2:=mulN (r:=x.High) (f:=fcH s w) (a:=1000000) (b:=201000) (by omega) (by omega)
  unfold p79 s79 rlo rhi
  rw [(s37_eq hs.sb hw).1,(s37_eq hs.sb hw).2]
  refine ⟨rfl,?_⟩
  show (⟨(if w64 ((w64 (x.Low * fcL s w)).tdiv 1000) < s.Parts then w64 ((w64 (x.Low * fcL s w)).tdiv 1000) else s.Parts),(if w64 ((w64 (w64 (x.High * fcH s w)+999)).tdiv 1000) < s.Parts then w64 ((w64 (w64 (x.High * fcH s w)+999)).tdiv 1000) else s.Parts)⟩:Span)=_
  generalize x.Low * fcL s w=m at m1 ⊢
  generalize x.High * fcH s w=n at m2 ⊢
  rw [w64_id (x:=m) (by omega) (by omega),Int.tdiv_eq_ediv_of_nonneg m1.1,w64_id (x:=m / 1000) (by omega) (by omega),w64_id (x:=n) (by omega) (by omega),w64_id (x:=n+999) (by omega) (by omega),Int.tdiv_eq_ediv_of_nonneg (by omega),w64_id (x:=(n+999) / 1000) (by omega) (by omega)]
theorem s38_eq {s:Sky} {t:Sl RangeRow} {bin y:Int} {l:Sl Spell} (hf:Fine s t bin y) (hl:LOk l):p38 s t bin y l=true∧s38 s t bin y l=meanV s (expd s t bin y) l:=by
  have hx:=expd_ok hf
  have hs:=hf.1
  have hlen:=hl.1
  have hp:=hs.1.1
  obtain ⟨g1,g2⟩:=s47_eq hf
  unfold p38 s38 p38_at0 s38_at0
  rw [g1,g2]
  generalize expd s t bin y=x at hx
  have key:∀ m k i:Nat,i+m=l.len→m < k→p38_lp1 s l x.Low x.High k (sumF (loF s x l) i) (sumF (hiF s x l) i) (sumF (slF l) i) i s.Bins=true∧s38_lp1 s l x.Low x.High k (sumF (loF s x l) i) (sumF (hiF s x l) i) (sumF (slF l) i) i s.Bins=meanV s x l:=by
    intro m
    induction m with
    | zero =>
      intro k i hi hm
      obtain ⟨k,rfl⟩:∃ k',k=k'+1:=⟨k - 1,by omega⟩
      show p38_st1 s l x.Low x.High (p38_lp1 s l x.Low x.High k) _ _ _ _ _=true∧s38_st1 s l x.Low x.High (s38_lp1 s l x.Low x.High k) _ _ _ _ _=_
      unfold p38_st1 s38_st1
      rw [decide_eq_false (by omega)]
      have e:i=l.len:=by omega
      subst e
      obtain ⟨c1,c2,c3⟩:=sums_b hs hx hl l.len (Nat.le_refl _)
      have c0:=sumF_pos (f:=slF l) (n:=l.len) (by omega) (fun i hi=>(hl.2 i hi).1.1)
      unfold meanV
      rw [cond_false,cond_false,decide_eq_true (show sumF (slF l) l.len ≠ 0 by omega)]
      refine ⟨rfl,?_⟩
      generalize sumF (slF l) l.len=S at *
      generalize sumF (loF s x l) l.len=A at *
      generalize sumF (hiF s x l) l.len=B at *
      rw [w64_id (x:=B+S) (by omega) (by omega),w64_id (x:=B+S - 1) (by omega) (by omega),Int.tdiv_eq_ediv_of_nonneg (by omega),Int.tdiv_eq_ediv_of_nonneg (by omega)]
      have d1:0≤A / S:=Int.ediv_nonneg (by omega) (by omega)
      have d2:A / S≤A:=Int.ediv_le_self _ (by omega)
      have d3:0≤(B+S - 1) / S:=Int.ediv_nonneg (by omega) (by omega)
      have d4:(B+S - 1) / S≤B+S - 1:=Int.ediv_le_self _ (by omega)
      rw [w64_id (x:=A / S) (by omega) (by omega),w64_id (x:=(B+S - 1) / S) (by omega) (by omega)]
    | succ m ih =>
      intro k i hi hm
      obtain ⟨k,rfl⟩:∃ k',k=k'+1:=⟨k - 1,by omega⟩
      show p38_st1 s l x.Low x.High (p38_lp1 s l x.Low x.High k) _ _ _ _ _=true∧s38_st1 s l x.Low x.High (s38_lp1 s l x.Low x.High k) _ _ _ _ _=_
      have hil:i < l.len:=by omega
      obtain ⟨hw1,hw2⟩:=hl.2 i hil
      obtain ⟨q1,q2,q3,q4⟩:=lo_b hs hx hl i hil
      obtain ⟨c1,c2,c3⟩:=sums_b hs hx hl i (by omega)
      unfold p38_st1 s38_st1 p38_at2 s38_at2
      have e3:w64 ((i:Int)+1)=((i+1:Nat):Int):=by rw [w64_id (by omega) (by omega)];omega
      rw [show (⟨s.Parts,s.Bins,s.Beta,s.Alpha⟩:Sky)=s from rfl,show (⟨x.Low,x.High⟩:Span)=x from rfl,decide_eq_true (show (i:Int) < (l.len:Int) by omega),decide_eq_true (show 0≤(i:Int)∧(i:Int) < (l.len:Int) by omega),Int.toNat_natCast,(s79_eq hs hx hw2).1,(s79_eq hs hx hw2).2,e3]
      have v1:w64 ((l.get i).Slots * rlo s.Parts x.Low (fcL s (l.get i).Weather))=loF s x l i:=by
        show w64 (loF s x l i)=_
        exact w64_id (by omega) (by omega)
      have v2:w64 ((l.get i).Slots * rhi s.Parts x.High (fcH s (l.get i).Weather))=hiF s x l i:=by
        show w64 (hiF s x l i)=_
        exact w64_id (by omega) (by omega)
      rw [v1,v2,w64_id (x:=sumF (slF l) i+(l.get i).Slots) (by omega) (by omega),w64_id (x:=sumF (loF s x l) i+loF s x l i) (by omega) (by omega),w64_id (x:=sumF (hiF s x l) i+hiF s x l i) (by omega) (by omega)]
      have:=ih k (i+1) (by omega) (by omega)
      simpa [sumF,slF] using this
  have r:=key l.len Fuel 0 (by omega) (by simp only [Fuel];omega)
  exact ⟨r.1,r.2⟩
end Go.Proofs
namespace Go.Proofs
open Go Go.Pm
set_option linter.unusedVariables false
theorem mem_tabI (n:Nat):∀ (f:Nat→Int) (x:Int),x∈tabI n f↔∃ i,i < n∧f i=x:=by
  induction n with
  | zero=>intro f x;simp [tabI]
  | succ n ih =>
    intro f x
    rw [show tabI (n+1) f=f 0 :: tabI n (fun i=>f (i+1)) from rfl,List.mem_cons,ih]
    constructor
    · rintro (h | ⟨i, h1, h2⟩)
      · exact ⟨0,by omega,h.symm⟩
      · exact ⟨i+1,by omega,h2⟩
    · rintro ⟨i, h1, h2⟩
      cases i with
      | zero=>exact Or.inl h2.symm
      | succ i=>exact Or.inr ⟨i,by omega,h2⟩
theorem len_tabI (n:Nat):∀ (f:Nat→Int),(tabI n f).length=n:=by
  induction n with
  | zero=>intro f;rfl
  | succ n ih=>intro f;show (tabI n _).length+1=n+1;rw [ih]
theorem getT_get {d : Int} : ∀ (l : List Int) (k : Nat) (h : k < l.length), getT d l k = l[k]
  | _ :: _,0,_=>rfl
  | _ :: r,k+1,h=>getT_get r k (by simpa using h)
theorem tabI_getT : ∀ (l : List Int), tabI l.length (getT 0 l) = l
  | []=>rfl
  | x :: r=>by
    show getT 0 (x :: r) 0 :: tabI r.length (fun i=>getT 0 (x :: r) (i+1))=x :: r
    have:(fun i=>getT 0 (x :: r) (i+1))=getT 0 r:=rfl
    rw [this,tabI_getT r]
    rfl
theorem mem_getT (l:List Int) (x:Int):x∈l↔∃ k,k < l.length∧getT 0 l k=x:=by
  have:=mem_tabI l.length (getT 0 l) x
  rwa [tabI_getT] at this
theorem comp_ok (zs:List Int) (hz:zs.Pairwise (·≤·)):∀ m,m≤zs.length→((Lib.compactUpTo zs.toArray m).Pairwise (· < ·)∧(∀ x,x∈Lib.compactUpTo zs.toArray m↔∃ j,j < m∧getT 0 zs j=x))∧(Lib.compactUpTo zs.toArray m).length≤m:=by
  have hg:∀ j,j < zs.length→zs.toArray[j]! = getT 0 zs j:=fun j hj=>by
    rw [getT_get zs j hj]
    simp [hj]
  have hs:∀ i j,i < j→j < zs.length→getT 0 zs i≤getT 0 zs j:=fun i j hij hj=>by
    rw [getT_get zs i (by omega),getT_get zs j hj]
    exact List.pairwise_iff_getElem.1 hz i j (by omega) hj hij
  intro m
  induction m with
  | zero =>
    intro _
    have:Lib.compactUpTo zs.toArray 0=[]:=rfl
    rw [this]
    exact ⟨⟨.nil,fun x=>⟨fun h=>absurd h (by simp),fun ⟨j,h,_⟩=>absurd h (by omega)⟩⟩,Nat.le_refl _⟩
  | succ m ih =>
    intro hm
    obtain ⟨⟨h1,h2⟩,h3⟩:=ih (by omega)
    rw [Lib.compactUpTo_succ]
    by_cases hk:Lib.keeps zs.toArray m=true
    · rw [if_pos hk, hg m (by omega)]
      refine ⟨⟨?_,fun x=>?_⟩,by simp;omega⟩
      · refine List.pairwise_append.2 ⟨h1, List.pairwise_singleton _ _, fun a ha b hb => ?_⟩
        rw [List.mem_singleton] at hb
        obtain ⟨j,hj,e⟩:=(h2 a).1 ha
        have hk2:m=0∨zs.toArray[m]! ≠ zs.toArray[m - 1]!:=of_decide_eq_true hk
        rcases hk2 with e0 | hne
        · omega
        · rw [hg m (by omega), hg (m - 1) (by omega)] at hne
          have a1:=hs (m - 1) m (by omega) (by omega)
          by_cases e1:j=m - 1
          · rw [← e,hb,e1];omega
          · have := hs j (m - 1) (by omega) (by omega)
            rw [← e,hb];omega
      · rw [List.mem_append, h2, List.mem_singleton]
        constructor
        · rintro (⟨j, hj, e⟩ | e)
          · exact ⟨j,by omega,e⟩
          · exact ⟨m,by omega,e.symm⟩
        · rintro ⟨j, hj, e⟩
          by_cases e1:j=m
          · rw [e1] at e;exact Or.inr e.symm
          · exact Or.inl ⟨j,by omega,e⟩
    · rw [if_neg hk, List.append_nil]
      refine ⟨⟨h1,fun x=>?_⟩,by omega⟩
      rw [h2]
      have hm0 : ¬ (m=0∨zs.toArray[m]! ≠ zs.toArray[m - 1]!):=fun h=>hk (decide_eq_true h)
      have hm1:m ≠ 0:=fun h=>hm0 (Or.inl h)
      have heq:zs.toArray[m]! = zs.toArray[m - 1]!:=Decidable.of_not_not fun h=>hm0 (Or.inr h)
      rw [hg m (by omega),hg (m - 1) (by omega)] at heq
      constructor
      · rintro ⟨j,hj,e⟩;exact ⟨j,by omega,e⟩
      · rintro ⟨j, hj, e⟩
        by_cases e1:j=m
        · exact ⟨m - 1,by omega,by rw [← heq,← e1];exact e⟩
        · exact ⟨j,by omega,e⟩
theorem sc_ok (n : Nat) (g : Nat → Int) :
    cmpN n (sortT n g)≤n∧(∀ i j,i < j→j < cmpN n (sortT n g)→cmpT n (sortT n g) i < cmpT n (sortT n g) j)∧(∀ x,(∃ k,k < cmpN n (sortT n g)∧cmpT n (sortT n g) k=x)↔∃ j,j < n∧g j=x):=by
  have hl:(isort (tabI n g)).length=n:=by rw [isort_len,len_tabI]
  have ht:tabI n (sortT n g)=isort (tabI n g):=by
    have:=tabI_getT (isort (tabI n g))
    rw [hl] at this
    exact this
  unfold cmpN cmpT
  rw [ht]
  obtain ⟨⟨h1,h2⟩,h3⟩:=comp_ok (isort (tabI n g)) (isort_sorted _) n (by rw [hl];exact Nat.le_refl _)
  have hc:Lib.compact (isort (tabI n g))=Lib.compactUpTo (isort (tabI n g)).toArray n:=by unfold Lib.compact;rw [hl]
  rw [hc]
  refine ⟨h3,fun i j hij hj=>?_,fun x=>?_⟩
  · rw [getT_get _ i (by omega), getT_get _ j hj]
    exact List.pairwise_iff_getElem.1 h1 i j (by omega) hj hij
  · rw [← mem_getT,h2,← mem_tabI n g,← (isort_perm (tabI n g)).mem_iff,mem_getT,hl]
def Ed (t:Sl RangeRow) (x:Int):Prop:=x=0∨x=1∨∃ a,a < t.len∧(x=(t.get a).Range.Low+1∨x=(t.get a).Range.High+1)
theorem thr_const {t:Sl RangeRow} {x y:Int} (hx:0≤x) (hxy:x≤y) (h:∀ e,Ed t e→x < e→y < e):thr t x=thr t y:=by
  have h1:kH t x=kH t y:=by
    unfold kH
    refine fst_eqc fun i hi=>decide_eq_decide.2 ⟨fun a=>?_,fun a=>by omega⟩
    have:=h ((t.get i).Range.High+1) (Or.inr (Or.inr ⟨i,hi,Or.inr rfl⟩)) (by omega)
    omega
  have h2:kL t x=kL t y:=by
    unfold kL
    refine fst_eqc fun i hi=>decide_eq_decide.2 ⟨fun a=>?_,fun a=>by omega⟩
    have:=h ((t.get i).Range.Low+1) (Or.inr (Or.inr ⟨i,hi,Or.inl rfl⟩)) (by omega)
    omega
  unfold thr thrL thrH
  rw [h1,h2]
  by_cases h0:x=0
  · have:y=0:=by
      have:=h 1 (Or.inr (Or.inl rfl))
      omega
    rw [if_pos h0,if_pos this]
  · rw [if_neg h0,if_neg (show ¬ y=0 by omega)]
where
  fst_eqc {c d:Nat→Bool} {n:Nat} (h:∀ i,i < n→c i=d i):fst c n=fst d n:=by
    have hl:=fst_le d n
    exact fst_uniq hl (fun j hj=>by rw [h j (by omega)];exact fst_lo hj) (fun hh=>by rw [h _ hh];exact fst_hi hh)
theorem fst_mon {c d:Nat→Bool} {n:Nat} (h:∀ i,i < n→d i=true→c i=true):fst c n≤fst d n:=by
  rcases Nat.lt_or_ge (fst d n) (fst c n) with h1 | h1
  · have h2 := fst_lo h1
    have:=fst_le c n
    rw [h _ (by omega) (fst_hi (by omega))] at h2
    cases h2
  · exact h1
theorem thr_mono {t:Sl RangeRow} {x y:Int} (hk:TOk t) (hx:0≤x) (hxy:x≤y):(thr t x).Low≤(thr t y).Low∧((thr t y).High ≠ -1→(thr t x).High ≠ -1∧(thr t x).High≤(thr t y).High):=by
  have hE:∀ i,i < t.len→1≤(t.get i).Energy∧(t.get i).Energy≤1000000:=fun i hi=>(hk.2 i hi).1
  have b1:kH t y≤t.len:=fst_le _ _
  have h1:kH t x≤kH t y:=fst_mon fun i hi hd=>decide_eq_true (by have:=of_decide_eq_true hd;omega)
  have h2:kL t x≤kL t y:=fst_mon fun i hi hd=>decide_eq_true (by have:=of_decide_eq_true hd;omega)
  have ok:=thr_ok hk (show 0≤y by omega)
  unfold thr at ok ⊢
  by_cases h0:x=0
  · rw [if_pos h0]
    refine ⟨ok.1,fun hne=>⟨by show (1:Int) ≠ -1;omega,?_⟩⟩
    show 1≤_
    rcases ok.2 with e | e
    · exact absurd e hne
    · omega
  rw [if_neg h0,if_neg (by omega)]
  constructor
  · show thrL t x ≤ thrL t y
    unfold thrL
    by_cases c:0 < kH t x
    · rw [if_pos c, if_pos (by omega)]
      by_cases e:kH t x=kH t y
      · rw [e];exact Int.le_refl _
      · have:=t_e hk (show kH t x - 1 < kH t y - 1 by omega) (by omega);omega
    · rw [if_neg c]
      split
      · have:=hE (kH t y - 1) (by omega);omega
      · exact Int.le_refl _
  · show thrH t y ≠ -1 → thrH t x ≠ -1 ∧ thrH t x ≤ thrH t y
    unfold thrH
    by_cases c:kL t y < t.len
    · rw [if_pos c, if_pos (by omega)]
      intro _
      have:=hE (kL t x) (by omega)
      refine ⟨by omega,?_⟩
      by_cases e:kL t x=kL t y
      · rw [e];exact Int.le_refl _
      · have:=t_e hk (show kL t x < kL t y by omega) c;omega
    · rw [if_neg c];intro h;exact absurd rfl h
theorem abv_mono {parts:Int} {l:Sl FluxRow} {y z:Span} (hb:BOk parts l) (hl:y.Low≤z.Low) (hh:z.High ≠ -1→y.High ≠ -1∧y.High≤z.High):(abv l z).Low≤(abv l y).Low∧(abv l z).High≤(abv l y).High:=by
  have hlen:=hb.1
  have hr:∀ i,i < l.len→0≤(l.get i).Rate.Low:=fun i hi=>(hb.2.2 i hi).2.1.1
  have b1:jL l z.Low≤l.len:=fst_le _ _
  have h1:jL l y.Low≤jL l z.Low:=fst_mon fun i hi hd=>decide_eq_true (by have:=of_decide_eq_true hd;omega)
  constructor
  · show abvL l z.High ≤ abvL l y.High
    unfold abvL
    by_cases hz:z.High = -1
    · rw [if_pos hz]
      split
      · exact Int.le_refl _
      · split
        · rename_i h;exact hr _ h
        · exact Int.le_refl _
    · obtain ⟨g1, g2⟩ := hh hz
      rw [if_neg hz,if_neg g1]
      have h2:jH l y.High≤jH l z.High:=fst_mon fun i hi hd=>decide_eq_true (by have:=of_decide_eq_true hd;omega)
      by_cases c:jH l z.High < l.len
      · rw [if_pos c,if_pos (by omega)];exact b_low hb h2 c
      · rw [if_neg c]
        split
        · rename_i h;exact hr _ h
        · exact Int.le_refl _
  · show abvH l z.Low ≤ abvH l y.Low
    unfold abvH
    by_cases c:0 < jL l y.Low
    · rw [if_pos c,if_pos (by omega)];exact b_high hb (by omega) (by omega)
    · rw [if_neg c]
      split
      · exact b_high hb (Nat.zero_le _) (by omega)
      · exact Int.le_refl _
theorem expd_mono {s:Sky} {t:Sl RangeRow} {bin x y:Int} (hf:Fine s t bin x) (hxy:x≤y):(expd s t bin y).Low≤(expd s t bin x).Low∧(expd s t bin y).High≤(expd s t bin x).High:=by
  obtain ⟨h1,h2⟩:=thr_mono hf.2.1 hf.2.2.2.1 hxy
  exact abv_mono hf.b h1 h2
theorem ediv_mono {a b c:Int} (hc:0 < c) (h:a≤b):a / c≤b / c:=Int.ediv_le_ediv hc h
theorem mean_mono {s:Sky} {x y:Span} {l:Sl Spell} (hs:SOk s) (hl:LOk l) (h1:y.Low≤x.Low) (h2:y.High≤x.High):(meanV s y l).Low≤(meanV s x l).Low∧(meanV s y l).High≤(meanV s x l).High:=by
  have hlen:=hl.1
  have c0:=sumF_pos (f:=slF l) (n:=l.len) (by omega) (fun i hi=>(hl.2 i hi).1.1)
  have a1:sumF (loF s y l) l.len≤sumF (loF s x l) l.len:=sumF_le fun i hi=>by
    obtain ⟨w1,w2⟩:=hl.2 i hi
    have f:=fc_b hs.sb w2
    have:=Int.mul_le_mul_of_nonneg_right h1 f.1
    refine Int.mul_le_mul_of_nonneg_left ?_ (by omega)
    unfold rlo
    generalize y.Low * fcL s (l.get i).Weather=u at *
    generalize x.Low * fcL s (l.get i).Weather=v at *
    split <;> split <;> omega
  have a2:sumF (hiF s y l) l.len≤sumF (hiF s x l) l.len:=sumF_le fun i hi=>by
    obtain ⟨w1,w2⟩:=hl.2 i hi
    have f:=fc_b hs.sb w2
    have:=Int.mul_le_mul_of_nonneg_right h2 (show 0≤fcH s (l.get i).Weather by omega)
    refine Int.mul_le_mul_of_nonneg_left ?_ (by omega)
    unfold rhi
    generalize y.High * fcH s (l.get i).Weather=u at *
    generalize x.High * fcH s (l.get i).Weather=v at *
    split <;> split <;> omega
  exact ⟨ediv_mono (by omega) a1,ediv_mono (by omega) (by omega)⟩
def CUp (C:Sl FluxStep) (R:Int→Span) (b:Int):Prop :=
  0 < C.len∧(C.get 0).From=0∧(∀ i,i < C.len→(C.get i).From < b)∧(∀ i,i+1 < C.len→(C.get i).From < (C.get (i+1)).From∧(C.get i).Rate ≠ (C.get (i+1)).Rate) ∧
  (∀ x,0≤x→x < b→∀ i,i < C.len→(C.get i).From≤x→(i+1 < C.len→x < (C.get (i+1)).From)→(C.get i).Rate=R x)
theorem cup_init {R:Int→Span} {C:Sl FluxStep} {b':Int} (hb:0 < b') (h:∀ x,0≤x→x < b'→R x=R 0) (hC:C.len=1∧C.get 0=⟨0,R 0⟩):CUp C R b':=by
  refine ⟨by omega,by rw [hC.2],fun i hi=>?_,fun i hi=>absurd hi (by omega),fun x h0 hx i hi _ _=>?_⟩
  · rw [show i=0 by omega,hC.2];exact hb
  · rw [show i=0 by omega,hC.2,h x h0 hx]
theorem cup_keep {R:Int→Span} {C:Sl FluxStep} {b b':Int} (hC:CUp C R b) (h:∀ x,b≤x→x < b'→R x=R b) (hbb:b≤b') (hl:(C.get (C.len - 1)).Rate=R b):CUp C R b':=by
  obtain ⟨h0,h1,h2,h3,h4⟩:=hC
  refine ⟨h0,h1,fun i hi=>by have:=h2 i hi;omega,h3,fun x hx0 hx i hi hf hn=>?_⟩
  by_cases hxb:x < b
  · exact h4 x hx0 hxb i hi hf hn
  · have:i=C.len - 1:=by
      rcases Nat.lt_or_ge (i+1) C.len with c | c
      · have := hn c
        have:=h2 (i+1) c
        omega
      · omega
    rw [this,hl,h x (by omega) hx]
theorem cup_push {R:Int→Span} {C D:Sl FluxStep} {b b':Int} (hC:CUp C R b) (h:∀ x,b≤x→x < b'→R x=R b) (hb0:0≤b) (hbb:b < b') (hl:(C.get (C.len - 1)).Rate ≠ R b) (hD:D.len=C.len+1∧(∀ i,i < C.len→D.get i=C.get i)∧D.get C.len=⟨b,R b⟩):CUp D R b':=by
  obtain ⟨h0,h1,h2,h3,h4⟩:=hC
  obtain ⟨d1,d2,d3⟩:=hD
  refine ⟨by omega,by rw [d2 0 h0];exact h1,fun i hi=>?_,fun i hi=>?_,fun x hx0 hx i hi hf hn=>?_⟩
  · by_cases e : i = C.len
    · rw [e,d3];exact hbb
    · rw [d2 i (by omega)];have:=h2 i (by omega);omega
  · by_cases e : i + 1 = C.len
    · rw [e, d3, d2 i (by omega)]
      refine ⟨h2 i (by omega),?_⟩
      rw [show i=C.len - 1 by omega];exact hl
    · rw [d2 i (by omega),d2 (i+1) (by omega)];exact h3 i (by omega)
  · by_cases e : i = C.len
    · rw [e, d3] at hf ⊢
      exact (h x hf hx).symm
    · rw [d2 i (by omega)] at hf ⊢
      by_cases hxb:x < b
      · refine h4 x hx0 hxb i (by omega) hf fun hi1 => ?_
        have:=hn (by omega)
        rwa [d2 (i+1) hi1] at this
      · exfalso
        have:=hn (by omega)
        by_cases e2:i+1=C.len
        · rw [e2, d3] at this
          have:x < b:=this
          omega
        · rw [d2 (i + 1) (by omega)] at this
          have:=h2 (i+1) (by omega)
          omega
theorem span_eq {a b:Span} : a=b↔a.Low=b.Low∧a.High=b.High:=by
  cases a;cases b;simp
def rtV (s:Sky) (t:Sl RangeRow) (bin:Int) (l:Sl Spell) (x:Int):Span:=meanV s (expd s t bin x) l
theorem rt_const {s:Sky} {t:Sl RangeRow} {bin:Int} {l:Sl Spell} {x y:Int} (hx:0≤x) (hxy:x≤y) (h:∀ e,Ed t e→x < e→y < e):rtV s t bin l x=rtV s t bin l y:=by
  unfold rtV expd
  rw [thr_const hx hxy h]
theorem appL {α:Type} {d:Sl α} {v:α} {j:Nat} (hj:j < d.len+1):appT d.len d.get (fun _=>v) j=if j=d.len then v else d.get j:=by
  unfold appT
  cases e:Nat.ble d.len j
  · have : ¬ d.len ≤ j := fun h => by rw [Nat.ble_eq_true_of_le h] at e; cases e
    rw [if_neg (by omega)]
  · have := Nat.le_of_ble_eq_true e
    rw [if_pos (by omega)]
def EdO (t:Sl RangeRow) (N:Nat) (E:Nat→Int):Prop:=N≤82∧(∀ i j,i < j→j < N→E i < E j)∧(∀ x,(∃ k,k < N∧E k=x)↔Ed t x)
theorem ed0 {t:Sl RangeRow} {N:Nat} {E:Nat→Int} (hk:TOk t) (h:EdO t N E):0 < N∧E 0=0:=by
  obtain ⟨k,hk1,hk2⟩:=(h.2.2 0).2 (Or.inl rfl)
  have h0:0≤E 0:=by
    have:=(h.2.2 (E 0)).1 ⟨0,by omega,rfl⟩
    rcases this with e | e | ⟨a,ha,e | e⟩
    · omega
    · omega
    · have:=(hk.2 a ha).2.1;omega
    · have:=(hk.2 a ha).2.1;omega
  refine ⟨by omega,?_⟩
  by_cases e:k=0
  · rw [e] at hk2;exact hk2
  · have:=h.2.1 0 k (by omega) hk1;omega
def bnd (N:Nat) (E:Nat→Int) (k:Nat):Int:=if k < N then (if E k > 1000000 then 1000001 else E k) else 1000001
theorem bnd_rt {s : Sky} {t : Sl RangeRow} {bin : Int} {l : Sl Spell} {N : Nat} {E : Nat → Int} (h : EdO t N E) {k : Nat} (hkN : k < N) (h0 : 0 ≤ E k) (hE : ¬ E k > 1000000) :
    E k < bnd N E (k+1)∧∀ x,E k≤x→x < bnd N E (k+1)→rtV s t bin l x=rtV s t bin l (E k):=by
  constructor
  · unfold bnd
    by_cases c:k+1 < N
    · rw [if_pos c]
      have:=h.2.1 k (k+1) (by omega) c
      split <;> omega
    · rw [if_neg c];omega
  · intro x h1 h2
    refine (rt_const h0 h1 fun e he hlt=>?_).symm
    obtain ⟨j,hj,e1⟩:=(h.2.2 e).2 he
    rcases Nat.lt_or_ge k j with c | c
    · unfold bnd at h2
      rw [if_pos (by omega)] at h2
      by_cases e2:j=k+1
      · rw [e2] at e1; rw [e1] at h2
        split at h2 <;> omega
      · have := h.2.1 (k + 1) j (by omega) hj
        split at h2 <;> omega
    · exfalso
      by_cases e2:j=k
      · rw [e2] at e1;omega
      · have:=h.2.1 j k (by omega) hkN;omega
theorem s70_ok {s:Sky} {t:Sl RangeRow} {bin:Int} {l:Sl Spell} (hf:Fine s t bin 0) (hl:LOk l):p70 s t bin l=true∧CUp (s70 s t bin l) (rtV s t bin l) 1000001∧(s70 s t bin l).len≤82:=by
  have hk:=hf.2.1
  have htl:=hk.1
  have hfx:∀ x,0≤x→x≤1000000→Fine s t bin x:=fun x h1 h2=>⟨hf.1,hf.2.1,hf.2.2.1,h1,h2⟩
  have l4:∀ (N:Nat) (v2:Sl Int) (E:Nat→Int),EdO t N E→N=cmpN v2.len v2.get→∀ (m q k:Nat) (w:Sl Int) (C:Sl FluxStep),k+m=N→m < q→w.len=N→(∀ j,j < N→w.get j=E j) →
      ((k=0∧C.len=0)∨(CUp C (rtV s t bin l) (bnd N E k)∧C.len≤k)) →
      p70_lp4 s t bin v2 q l (k:Int) w C=true∧CUp (s70_lp4 s t bin v2 q l (k:Int) w C) (rtV s t bin l) 1000001∧(s70_lp4 s t bin v2 q l (k:Int) w C).len≤82:=by
    intro N v2 E hE hN m
    have hN82:=hE.1
    obtain ⟨hN0,hE0⟩:=ed0 hk hE
    have hEpos:∀ k,k < N→0≤E k:=fun k hk1=>by
      by_cases e:k=0
      · rw [e];omega
      · have:=hE.2.1 0 k (by omega) hk1;omega
    induction m with
    | zero =>
      intro q k w C hkm hq hw hwE hC
      obtain ⟨q,rfl⟩:∃ k',q=k'+1:=⟨q - 1,by omega⟩
      show p70_st4 s t bin v2 (p70_lp4 s t bin v2 q) _ _ _ _=true∧CUp (s70_st4 s t bin v2 (s70_lp4 s t bin v2 q) _ _ _ _) _ _∧(s70_st4 s t bin v2 (s70_lp4 s t bin v2 q) _ _ _ _).len≤82
      unfold p70_st4 s70_st4
      rw [← hN,decide_eq_false (show ¬ (k:Int) < (N:Int) by omega),cond_false,cond_false]
      rcases hC with ⟨h1,_⟩ | ⟨h1,h2⟩
      · omega
      · have : bnd N E k = 1000001 := by unfold bnd; rw [if_neg (by omega)]
        rw [this] at h1
        exact ⟨rfl,h1,by omega⟩
    | succ m ih =>
      intro q k w C hkm hq hw hwE hC
      obtain ⟨q,rfl⟩:∃ k',q=k'+1:=⟨q - 1,by omega⟩
      show p70_st4 s t bin v2 (p70_lp4 s t bin v2 q) _ _ _ _=true∧CUp (s70_st4 s t bin v2 (s70_lp4 s t bin v2 q) _ _ _ _) _ _∧(s70_st4 s t bin v2 (s70_lp4 s t bin v2 q) _ _ _ _).len≤82
      have hkN:k < N:=by omega
      have e3:w64 ((k:Int)+1)=((k+1:Nat):Int):=by rw [w64_id (by omega) (by omega)];omega
      unfold p70_st4 s70_st4
      rw [← hN,decide_eq_true (show (k:Int) < (N:Int) by omega),decide_eq_true (show 0≤(k:Int)∧(k:Int) < (w.len:Int) by omega),Int.toNat_natCast,decide_eq_true (show k < w.len by omega),hwE k hkN]
      by_cases hE1:E k > 1000000
      · rw [decide_eq_true hE1]
        rcases hC with ⟨h1,_⟩ | ⟨h1,h2⟩
        · rw [h1,hE0] at hE1;omega
        · have : bnd N E k = 1000001 := by unfold bnd; rw [if_pos hkN, if_pos hE1]
          rw [this] at h1
          exact ⟨rfl,h1,by show C.len≤82;omega⟩
      · have hfe := hfx (E k) (hEpos k hkN) (by omega)
        have hx:=expd_ok hfe
        have h8:=s68_eq (g:=⟨s,t,memoF s t bin⟩) (x:=expd s t bin (E k)) (l:=l) hf.1 hx hl
        rw [decide_eq_false hE1,(s66_eq hfe).1,(s66_eq hfe).2,h8.1,h8.2]
        have em:meanV (⟨s,t,memoF s t bin⟩:ground).Sky (expd s t bin (E k)) l=rtV s t bin l (E k):=rfl
        rw [em]
        obtain ⟨hb1,hb2⟩:=bnd_rt (s:=s) (bin:=bin) (l:=l) hE hkN (hEpos k hkN) hE1
        have hbk:bnd N E k=E k:=by unfold bnd;rw [if_pos hkN,if_neg hE1]
        simp only [cond_true,cond_false,decide_true,Bool.true_and]
        unfold p70_at5 s70_at5
        rw [e3]
        rcases hC with ⟨h1,h2⟩ | ⟨h1,h2⟩
        · rw [show ((C.len : Int) == 0) = true by simp [h2], decide_eq_true (show (C.len + 1) * 24 ≤ 140737488355328 ∧ C.len + 1 ≤ 9223372036854775807 by omega)]
          have r:=ih q (k+1) w ⟨C.len+1,appT C.len C.get (fun _=>(⟨E k,⟨(rtV s t bin l (E k)).Low,(rtV s t bin l (E k)).High⟩⟩:FluxStep))⟩ (by omega) (by omega) hw hwE (Or.inr ⟨cup_init (by rw [h1,hE0] at hb1;rw [h1];omega) (fun x a b=>by rw [h1,hE0] at hb2;rw [h1] at b;exact hb2 x a b) ⟨by show C.len+1=1;omega,by
            have e:=appL (d:=C) (v:=(⟨E k,⟨(rtV s t bin l (E k)).Low,(rtV s t bin l (E k)).High⟩⟩:FluxStep)) (j:=0) (by omega)
            rw [if_pos (by omega)] at e
            exact e.trans (by rw [h1,hE0])⟩,by show C.len+1≤k+1;omega⟩)
          exact r
        · have hCl := h1.1
          have e7:w64 ((C.len:Int) - 1)=((C.len - 1:Nat):Int):=by rw [w64_id (by omega) (by omega)];omega
          rw [show ((C.len:Int) == 0)=false by simp;omega,e7,decide_eq_true (show 0≤((C.len - 1:Nat):Int)∧((C.len - 1:Nat):Int) < (C.len:Int) by omega),Int.toNat_natCast,decide_eq_true (show C.len - 1 < C.len by omega),decide_eq_true (show (C.len+1) * 24≤140737488355328∧C.len+1≤9223372036854775807 by omega)]
          rw [hbk] at h1
          have rk:=fun (hr:(C.get (C.len - 1)).Rate=rtV s t bin l (E k))=>ih q (k+1) w C (by omega) (by omega) hw hwE (Or.inr ⟨cup_keep h1 hb2 (by omega) hr,by omega⟩)
          have rp:=fun (hr:(C.get (C.len - 1)).Rate ≠ rtV s t bin l (E k))=>ih q (k+1) w ⟨C.len+1,appT C.len C.get (fun _=>(⟨E k,⟨(rtV s t bin l (E k)).Low,(rtV s t bin l (E k)).High⟩⟩:FluxStep))⟩ (by omega) (by omega) hw hwE (Or.inr ⟨cup_push h1 hb2 (hEpos k hkN) hb1 hr ⟨rfl,fun i hi=>by
            have e:=appL (d:=C) (v:=(⟨E k,⟨(rtV s t bin l (E k)).Low,(rtV s t bin l (E k)).High⟩⟩:FluxStep)) (j:=i) (by omega)
            rw [if_neg (by omega)] at e
            exact e,by
            have e:=appL (d:=C) (v:=(⟨E k,⟨(rtV s t bin l (E k)).Low,(rtV s t bin l (E k)).High⟩⟩:FluxStep)) (j:=C.len) (by omega)
            rw [if_pos rfl] at e
            exact e⟩,by show C.len+1≤k+1;omega⟩)
          by_cases a:(C.get (C.len - 1)).Rate.Low=(rtV s t bin l (E k)).Low
          · by_cases b : (C.get (C.len - 1)).Rate.High = (rtV s t bin l (E k)).High
            · have r := rk (span_eq.2 ⟨a, b⟩)
              rw [show ((C.get (C.len - 1)).Rate.Low == (rtV s t bin l (E k)).Low)=true by simp [a],show ((C.get (C.len - 1)).Rate.High == (rtV s t bin l (E k)).High)=true by simp [b]]
              exact r
            · have r := rp fun h => b (span_eq.1 h).2
              rw [show ((C.get (C.len - 1)).Rate.Low == (rtV s t bin l (E k)).Low)=true by simp [a],show ((C.get (C.len - 1)).Rate.High == (rtV s t bin l (E k)).High)=false by simp [b]]
              exact r
          · have r := rp fun h => a (span_eq.1 h).1
            rw [show ((C.get (C.len - 1)).Rate.Low == (rtV s t bin l (E k)).Low)=false by simp [a]]
            exact r
  have l1:∀ v:Sl Int,v.len≤82→(∀ x,(∃ j,j < v.len∧v.get j=x)↔Ed t x)→p70_at1 s t bin l v=true∧CUp (s70_at1 s t bin l v) (rtV s t bin l) 1000001∧(s70_at1 s t bin l v).len≤82:=by
    intro v hv hx
    obtain ⟨s1,s2,s3⟩:=sc_ok v.len v.get
    have hE:EdO t (cmpN v.len (sortT v.len v.get)) (cmpT v.len (sortT v.len v.get)):=⟨by omega,s2,fun x=>(s3 x).trans (hx x)⟩
    have r:=l4 _ ⟨v.len,sortT v.len v.get⟩ _ hE rfl (cmpN v.len (sortT v.len v.get)) Fuel 0 ⟨cmpN v.len (sortT v.len v.get),cmpT v.len (sortT v.len v.get)⟩ ⟨0,fun _=>default⟩ (by omega) (by simp only [Fuel];omega) rfl (fun _ _=>rfl) (Or.inl ⟨rfl,rfl⟩)
    unfold p70_at1 s70_at1 p70_at2 s70_at2 p70_at3 s70_at3 p70_at4 s70_at4
    rw [decide_eq_true (show v.len≤4611686018427387 by omega)]
    simp only [Bool.true_and]
    exact r
  have l0:∀ (m q i:Nat) (v:Sl Int),i+m=t.len→m < q→v.len=2+2 * i→(∀ x,(∃ j,j < v.len∧v.get j=x)↔(x=0∨x=1∨∃ a,a < i∧(x=(t.get a).Range.Low+1∨x=(t.get a).Range.High+1))) →
      p70_lp0 s t bin l q (i:Int) v=true∧CUp (s70_lp0 s t bin l q (i:Int) v) (rtV s t bin l) 1000001∧(s70_lp0 s t bin l q (i:Int) v).len≤82:=by
    intro m
    induction m with
    | zero =>
      intro q i v hi hq hv hx
      obtain ⟨q,rfl⟩:∃ k',q=k'+1:=⟨q - 1,by omega⟩
      show p70_st0 s t bin l (p70_lp0 s t bin l q) _ _=true∧CUp (s70_st0 s t bin l (s70_lp0 s t bin l q) _ _) _ _∧(s70_st0 s t bin l (s70_lp0 s t bin l q) _ _).len≤82
      unfold p70_st0 s70_st0
      rw [decide_eq_false (show ¬ (i:Int) < (t.len:Int) by omega),cond_false,cond_false]
      refine l1 v (by omega) fun x=>?_
      rw [hx x,show i=t.len by omega]
      rfl
    | succ m ih =>
      intro q i v hi hq hv hx
      obtain ⟨q,rfl⟩:∃ k',q=k'+1:=⟨q - 1,by omega⟩
      show p70_st0 s t bin l (p70_lp0 s t bin l q) _ _=true∧CUp (s70_st0 s t bin l (s70_lp0 s t bin l q) _ _) _ _∧(s70_st0 s t bin l (s70_lp0 s t bin l q) _ _).len≤82
      have e3:w64 ((i:Int)+1)=((i+1:Nat):Int):=by rw [w64_id (by omega) (by omega)];omega
      have hr:=(hk.2 i (by omega)).2.1
      unfold p70_st0 s70_st0
      rw [decide_eq_true (show (i:Int) < (t.len:Int) by omega),decide_eq_true (show 0≤(i:Int)∧(i:Int) < (t.len:Int) by omega),Int.toNat_natCast,e3,decide_eq_true (show (v.len+2) * 8≤140737488355328∧v.len+2≤9223372036854775807 by omega),w64_id (x:=(t.get i).Range.Low+1) (by omega) (by omega),w64_id (x:=(t.get i).Range.High+1) (by omega) (by omega)]
      simp only [cond_true,Bool.true_and]
      refine ih q (i+1) _ (by omega) (by omega) (by show v.len+2=_;omega) fun x=>?_
      have g:∀ j,j < v.len+2→appT v.len v.get (getT ((t.get i).Range.Low+1) [(t.get i).Range.Low+1,(t.get i).Range.High+1]) j=if j=v.len then (t.get i).Range.Low+1 else if j=v.len+1 then (t.get i).Range.High+1 else v.get j:=by
        intro j hj
        unfold appT
        cases e:Nat.ble v.len j
        · have : ¬ v.len ≤ j := fun h => by rw [Nat.ble_eq_true_of_le h] at e; cases e
          rw [if_neg (by omega),if_neg (by omega)]
        · have := Nat.le_of_ble_eq_true e
          by_cases e1:j=v.len
          · rw [if_pos e1,e1,Nat.sub_self];rfl
          · rw [if_neg e1,if_pos (by omega),show j - v.len=1 by omega];rfl
      show (∃ j,j < v.len+2∧appT v.len v.get (getT ((t.get i).Range.Low+1) [(t.get i).Range.Low+1,(t.get i).Range.High+1]) j=x)↔_
      constructor
      · rintro ⟨j, hj, e⟩
        rw [g j hj] at e
        by_cases e1:j=v.len
        · rw [if_pos e1] at e;exact Or.inr (Or.inr ⟨i,by omega,Or.inl e.symm⟩)
        · rw [if_neg e1] at e
          by_cases e2:j=v.len+1
          · rw [if_pos e2] at e;exact Or.inr (Or.inr ⟨i,by omega,Or.inr e.symm⟩)
          · rw [if_neg e2] at e
            rcases (hx x).1 ⟨j,by omega,e⟩ with a | a | ⟨a,b,c⟩
            · exact Or.inl a
            · exact Or.inr (Or.inl a)
            · exact Or.inr (Or.inr ⟨a,by omega,c⟩)
      · intro h
        have hold:(x=0∨x=1∨∃ a,a < i∧(x=(t.get a).Range.Low+1∨x=(t.get a).Range.High+1))→∃ j,j < v.len+2∧appT v.len v.get (getT ((t.get i).Range.Low+1) [(t.get i).Range.Low+1,(t.get i).Range.High+1]) j=x:=by
          intro h
          obtain ⟨j,hj,e⟩:=(hx x).2 h
          exact ⟨j,by omega,by rw [g j (by omega),if_neg (by omega),if_neg (by omega)];exact e⟩
        rcases h with a | a | ⟨a,b,c⟩
        · exact hold (Or.inl a)
        · exact hold (Or.inr (Or.inl a))
        · by_cases e : a = i
          · subst e
            rcases c with c | c
            · exact ⟨v.len,by omega,by rw [g _ (by omega),if_pos rfl];exact c.symm⟩
            · exact ⟨v.len+1,by omega,by rw [g _ (by omega),if_neg (by omega),if_pos rfl];exact c.symm⟩
          · exact hold (Or.inr (Or.inr ⟨a,by omega,c⟩))
  refine l0 t.len Fuel 0 ⟨2,getT 0 [0,1]⟩ (by omega) (by simp only [Fuel];omega) rfl fun x=>?_
  constructor
  · rintro ⟨j, hj, e⟩
    have hj:j < 2:=hj
    have:j=0∨j=1:=by omega
    rcases this with h | h
    · subst h;exact Or.inl e.symm
    · subst h;exact Or.inr (Or.inl e.symm)
  · rintro (h | h | ⟨a, ha, _⟩)
    · exact ⟨0,by show 0 < 2;omega,h.symm⟩
    · exact ⟨1,by show 1 < 2;omega,h.symm⟩
    · omega
end Go.Proofs
namespace Go.Proofs
open Go Go.Pm
set_option linter.unusedVariables false
theorem s26_ok (s:Sky) (t:Sl RangeRow) (bin:Int) (l:Sl Spell) (hs:SL s) (ht:t.len≤9223372036854775807) (hl:l.len≤9223372036854775807):p26 s t bin l=true∧(Fine s t bin 0∧LOk l→s26 s t bin l=(s70 s t bin l,0))∧(¬ (Fine s t bin 0∧LOk l)→s26 s t bin l=(⟨0,fun _=>default⟩,2)):=by
  obtain ⟨h1,h2⟩:=s65_ok s t bin 0 hs ht
  obtain ⟨e1,e2⟩:=s65_g s t bin 0
  obtain ⟨l1,l2⟩:=s67_ok l hl
  unfold p26 s26
  rw [h1,e1,e2,l1]
  by_cases h:Fine s t bin 0
  · rw [h2.2 h]
    by_cases hk:LOk l
    · rw [l2.2 hk, (s70_ok h hk).1]
      exact ⟨rfl,fun _=>rfl,fun h3=>absurd ⟨h,hk⟩ h3⟩
    · have h3:s67 l=false:=by
        cases e:s67 l
        · rfl
        · exact absurd (l2.1 e) hk
      rw [h3]
      exact ⟨rfl,fun h3=>absurd h3.2 hk,fun _=>rfl⟩
  · have h3:(s65 s t bin 0).2=false:=by
      cases e:(s65 s t bin 0).2
      · rfl
      · exact absurd (h2.1 e) h
    rw [h3]
    exact ⟨rfl,fun h3=>absurd h3.1 h,fun _=>rfl⟩
def Agr (rates r:Span):Prop:=r.Low≤rates.High∧r.High ≥ rates.Low
theorem s71_eq (rates:Span) (x:FluxStep):s71 rates x=true↔Agr rates x.Rate:=by
  unfold s71 Agr
  simp only [Bool.cond_decide,Bool.if_false_right,Bool.and_eq_true,decide_eq_true_eq]
theorem cup_at {C:Sl FluxStep} {R:Int→Span} {b:Int} (hC:CUp C R b) {x:Int} (h0:0≤x):∃ i,i < C.len∧(C.get i).From≤x∧(i+1 < C.len→x < (C.get (i+1)).From):=by
  obtain ⟨c0,c1,c2,c3,c4⟩:=hC
  have b1:fst (fun i=>decide ((C.get i).From > x)) C.len≤C.len:=fst_le _ _
  have hlo:∀ j,j < fst (fun i=>decide ((C.get i).From > x)) C.len→(C.get j).From≤x:=fun j hj=>by have:=of_decide_eq_false (fst_lo hj);omega
  have hhi:fst (fun i=>decide ((C.get i).From > x)) C.len < C.len→(C.get (fst (fun i=>decide ((C.get i).From > x)) C.len)).From > x:=fun h=>of_decide_eq_true (fst_hi (c:=fun i=>decide ((C.get i).From > x)) h)
  generalize fst (fun i=>decide ((C.get i).From > x)) C.len=q at *
  have hq:0 < q:=by
    rcases Nat.eq_zero_or_pos q with h | h
    · have := hhi (by omega)
      rw [h,c1] at this;omega
    · exact h
  refine ⟨q - 1,by omega,hlo _ (by omega),fun h=>?_⟩
  rw [show q - 1+1=q by omega] at h ⊢
  have:=hhi h;omega
theorem cup_inc {C:Sl FluxStep} {R:Int→Span} {b:Int} (hC:CUp C R b):∀ d i,i+d < C.len→(C.get i).From+d≤(C.get (i+d)).From:=by
  intro d
  induction d with
  | zero=>intro i hi;show (C.get i).From+0≤_;simp
  | succ d ih =>
    intro i hi
    have h1:=ih i (by omega)
    have h2:=(hC.2.2.2.1 (i+d) (by omega)).1
    rw [show i+d+1=i+(d+1) by omega] at h2
    omega
theorem cup_lt {C:Sl FluxStep} {R:Int→Span} {b:Int} (hC:CUp C R b) {i j:Nat} (hij:i < j) (hj:j < C.len):(C.get i).From < (C.get j).From:=by
  have:=cup_inc hC (j - i) i (by omega)
  rw [show i+(j - i)=j by omega] at this
  omega
def OpOk (R:Int→Span) (rates:Span) (d:Span×Int):Prop :=
  (d.2=0∧(0≤d.1.Low∧d.1.Low≤d.1.High∧d.1.High≤1000000)∧∀ x,0≤x→x≤1000000→(Agr rates (R x)↔d.1.Low≤x∧x≤d.1.High))∨(d=(⟨0,0⟩,5)∧∀ x,0≤x→x≤1000000→¬ Agr rates (R x))
theorem s25_loop {C : Sl FluxStep} {R : Int → Span} (hC : CUp C R 1000001) (hl : C.len ≤ 82) (rates : Span) (i0 : Nat) (hi0 : i0 < C.len) (ha : Agr rates (C.get i0).Rate) :
    p25_at5 rates C (i0:Int)=true∧∃ k1,i0≤k1∧k1 < C.len∧(∀ k,i0≤k→k≤k1→Agr rates (C.get k).Rate)∧(k1+1 < C.len→¬ Agr rates (C.get (k1+1)).Rate) ∧
      s25_at5 rates C (i0:Int)=(⟨(C.get i0).From,if k1+1 < C.len then (C.get (k1+1)).From - 1 else 1000000⟩,0):=by
  have hF:∀ i,i < C.len→0≤(C.get i).From∧(C.get i).From≤1000000:=fun i hi=>by
    have h1:=hC.2.2.1 i hi
    have h2:=cup_inc hC i 0 (by omega)
    rw [Nat.zero_add,hC.2.1] at h2
    omega
  have key:∀ (m q k:Nat) (o:Int),k+m=C.len→m < q→i0 < k→(∀ j,i0≤j→j < k→Agr rates (C.get j).Rate)→o=(if k < C.len then (C.get k).From - 1 else 1000000) →
      p25_lp6 rates C (i0:Int) q (k:Int) o=true∧∃ k1,i0≤k1∧k1 < C.len∧(∀ k,i0≤k→k≤k1→Agr rates (C.get k).Rate)∧(k1+1 < C.len→¬ Agr rates (C.get (k1+1)).Rate) ∧
        s25_lp6 rates C (i0:Int) q (k:Int) o=(⟨(C.get i0).From,if k1+1 < C.len then (C.get (k1+1)).From - 1 else 1000000⟩,0):=by
    intro m
    induction m with
    | zero =>
      intro q k o hk hq h0 hag ho
      obtain ⟨q,rfl⟩:∃ k',q=k'+1:=⟨q - 1,by omega⟩
      show p25_st6 rates C (i0:Int) (p25_lp6 rates C (i0:Int) q) _ _=true∧∃ k1,_∧_∧_∧_∧s25_st6 rates C (i0:Int) (s25_lp6 rates C (i0:Int) q) _ _=_
      unfold p25_st6 s25_st6
      rw [decide_eq_false (show ¬ (k:Int) < (C.len:Int) by omega),Int.toNat_natCast]
      refine ⟨rfl,k - 1,by omega,by omega,fun j h1 h2=>hag j h1 (by omega),fun h=>absurd h (by omega),?_⟩
      rw [if_neg (by omega)] at ho
      rw [if_neg (show ¬ k - 1+1 < C.len by omega),ho]
      rfl
    | succ m ih =>
      intro q k o hk hq h0 hag ho
      obtain ⟨q,rfl⟩:∃ k',q=k'+1:=⟨q - 1,by omega⟩
      show p25_st6 rates C (i0:Int) (p25_lp6 rates C (i0:Int) q) _ _=true∧∃ k1,_∧_∧_∧_∧s25_st6 rates C (i0:Int) (s25_lp6 rates C (i0:Int) q) _ _=_
      have hkl:k < C.len:=by omega
      have e3:w64 ((k:Int)+1)=((k+1:Nat):Int):=by rw [w64_id (by omega) (by omega)];omega
      unfold p25_st6 s25_st6
      rw [decide_eq_true (show (k:Int) < (C.len:Int) by omega),decide_eq_true (show 0≤(k:Int)∧(k:Int) < (C.len:Int) by omega),Int.toNat_natCast,Int.toNat_natCast,e3,Int.toNat_natCast]
      cases hs:s71 rates (C.get k)
      · have hno : ¬ Agr rates (C.get k).Rate := fun h => absurd ((s71_eq rates _).2 h) (by rw [hs]; exact Bool.false_ne_true)
        refine ⟨rfl,k - 1,by omega,by omega,fun j h1 h2=>hag j h1 (by omega),fun _=>by rw [show k - 1+1=k by omega];exact hno,?_⟩
        rw [if_pos hkl] at ho
        rw [if_pos (show k - 1+1 < C.len by omega),show k - 1+1=k by omega,ho]
        rfl
      · have hyes := (s71_eq rates _).1 hs
        have hag2:∀ j,i0≤j→j < k+1→Agr rates (C.get j).Rate:=fun j h1 h2=>by
          by_cases e:j=k
          · rw [e];exact hyes
          · exact hag j h1 (by omega)
        by_cases hn:k+1 < C.len
        · have := hF (k + 1) hn
          have r:=ih q (k+1) ((C.get (k+1)).From - 1) (by omega) (by omega) (by omega) hag2 (by rw [if_pos hn])
          rw [decide_eq_true (show ((k+1:Nat):Int) < (C.len:Int) by omega),decide_eq_true (show 0≤((k+1:Nat):Int)∧((k+1:Nat):Int) < (C.len:Int) by omega),w64_id (x:=(C.get (k+1)).From - 1) (by omega) (by omega)]
          exact r
        · have r := ih q (k + 1) 1000000 (by omega) (by omega) (by omega) hag2 (by rw [if_neg hn])
          rw [decide_eq_false (show ¬ ((k+1:Nat):Int) < (C.len:Int) by omega)]
          exact r
  -- the first round
  obtain ⟨q,hq⟩:∃ k,Fuel=k+1:=⟨Fuel - 1,by simp only [Fuel]⟩
  have hq2 : 1000 < q := by have : Fuel = 1000000 + (Fuel - 1000000) := by simp only [Fuel]
                            omega
  have e3:w64 ((i0:Int)+1)=((i0+1:Nat):Int):=by rw [w64_id (by omega) (by omega)];omega
  have hs:s71 rates (C.get i0)=true:=(s71_eq rates _).2 ha
  have one:∀ j,i0≤j→j < i0+1→Agr rates (C.get j).Rate:=fun j h1 h2=>by rw [show j=i0 by omega];exact ha
  unfold p25_at5 s25_at5 p25_at6 s25_at6
  rw [hq,decide_eq_true (show 0≤(i0:Int)∧(i0:Int) < (C.len:Int) by omega)]
  show (true && p25_st6 rates C (i0:Int) (p25_lp6 rates C (i0:Int) q) _ _)=true∧∃ k1,_∧_∧_∧_∧s25_st6 rates C (i0:Int) (s25_lp6 rates C (i0:Int) q) _ _=_
  unfold p25_st6 s25_st6
  rw [decide_eq_true (show (i0:Int) < (C.len:Int) by omega),decide_eq_true (show 0≤(i0:Int)∧(i0:Int) < (C.len:Int) by omega),Int.toNat_natCast,hs,e3,Int.toNat_natCast]
  by_cases hn:i0+1 < C.len
  · have := hF (i0 + 1) hn
    have r:=key (C.len - (i0+1)) q (i0+1) ((C.get (i0+1)).From - 1) (by omega) (by omega) (by omega) one (by rw [if_pos hn])
    rw [decide_eq_true (show ((i0+1:Nat):Int) < (C.len:Int) by omega),decide_eq_true (show 0≤((i0+1:Nat):Int)∧((i0+1:Nat):Int) < (C.len:Int) by omega),w64_id (x:=(C.get (i0+1)).From - 1) (by omega) (by omega)]
    exact r
  · have r := key (C.len - (i0 + 1)) q (i0 + 1) 1000000 (by omega) (by omega) (by omega) one (by rw [if_neg hn])
    rw [decide_eq_false (show ¬ ((i0+1:Nat):Int) < (C.len:Int) by omega)]
    exact r
theorem s72_eq (rates:Span) (C:Sl FluxStep) (hl:C.len≤82):p72 rates C=true∧s72 rates C=if fst (fun i=>s71 rates (C.get i)) C.len < C.len then ((fst (fun i=>s71 rates (C.get i)) C.len:Nat):Int) else -1:=by
  have h:=idx_loop (c:=s71 rates) (lpS:=s72_lp0 rates) (lpP:=p72_lp0 rates) (fun _ _ _ _=>rfl) (fun _ _ _ _=>rfl) C (by omega)
  exact ⟨h.1,h.2⟩
theorem s25_curve {C : Sl FluxStep} {R : Int → Span} (hC : CUp C R 1000001) (hl : C.len ≤ 82) (rates : Span) (hm : ∀ x y, 0 ≤ x → x ≤ y → y ≤ 1000000 → (R y).Low ≤ (R x).Low ∧ (R y).High ≤ (R x).High) :
    p25_at3 rates C=true∧OpOk R rates (s25_at3 rates C):=by
  obtain ⟨i1,i2⟩:=s72_eq rates C hl
  have hF:∀ i,i < C.len→0≤(C.get i).From∧(C.get i).From≤1000000:=fun i hi=>by
    have h1:=hC.2.2.1 i hi
    have h2:=cup_inc hC i 0 (by omega)
    rw [Nat.zero_add,hC.2.1] at h2
    omega
  have hR:∀ i,i < C.len→(C.get i).Rate=R (C.get i).From:=fun i hi=>hC.2.2.2.2 _ (hF i hi).1 (by have:=hF i hi;omega) i hi (Int.le_refl _) fun h=>(hC.2.2.2.1 i h).1
  have hlo:∀ j,j < fst (fun i=>s71 rates (C.get i)) C.len→¬ Agr rates (C.get j).Rate:=fun j hj h=>by
    have:=fst_lo hj
    rw [(s71_eq rates _).2 h] at this;cases this
  have hhi:fst (fun i=>s71 rates (C.get i)) C.len < C.len→Agr rates (C.get (fst (fun i=>s71 rates (C.get i)) C.len)).Rate:=fun h=>(s71_eq rates _).1 (fst_hi (c:=fun i=>s71 rates (C.get i)) h)
  have b1:fst (fun i=>s71 rates (C.get i)) C.len≤C.len:=fst_le _ _
  unfold p25_at3 s25_at3 p25_at4 s25_at4
  rw [i1,i2]
  generalize fst (fun i=>s71 rates (C.get i)) C.len=i0 at *
  by_cases hi0:i0 < C.len
  · rw [if_pos hi0, decide_eq_false (show ¬ (i0 : Int) < 0 by omega)]
    obtain ⟨r1,k1,r2,r3,r4,r5,r6⟩:=s25_loop hC hl rates i0 hi0 (hhi hi0)
    rw [r1,cond_false,r6]
    have hsp:0≤(C.get i0).From∧(C.get i0).From≤(if k1+1 < C.len then (C.get (k1+1)).From - 1 else 1000000)∧(if k1+1 < C.len then (C.get (k1+1)).From - 1 else 1000000)≤1000000:=by
      have f0:=hF i0 hi0
      by_cases hn:k1+1 < C.len
      · rw [if_pos hn]
        have f1:=hF (k1+1) hn
        have:=cup_lt hC (show i0 < k1+1 by omega) hn
        omega
      · rw [if_neg hn];omega
    refine ⟨rfl,Or.inl ⟨rfl,hsp,fun x x0 x1=>?_⟩⟩
    obtain ⟨i,h1,h2,h3⟩:=cup_at hC x0
    have e:=hC.2.2.2.2 x x0 (by omega) i h1 h2 h3
    show Agr rates (R x)↔(C.get i0).From≤x∧x≤(if k1+1 < C.len then (C.get (k1+1)).From - 1 else 1000000)
    rw [← e]
    constructor
    · intro ha
      have a1:i0≤i:=by
        rcases Nat.lt_or_ge i i0 with h | h
        · exact absurd ha (hlo i h)
        · exact h
      have a2:i≤k1:=by
        rcases Nat.lt_or_ge k1 i with h | h
        · have c := r5 (by omega)
          refine absurd ?_ c
          have hk:=hR (k1+1) (by omega)
          have hi:=hR i h1
          have h0:=hR i0 hi0
          have ha0:=r4 i0 (Nat.le_refl _) r2
          have f0:=hF i0 hi0
          have f1:=hF (k1+1) (by omega)
          have f2:=hF i h1
          have l1:=cup_lt hC (show i0 < k1+1 by omega) (by omega)
          have l2:(C.get (k1+1)).From≤(C.get i).From:=by
            by_cases ee:k1+1=i
            · rw [ee];exact Int.le_refl _
            · have:=cup_lt hC (show k1+1 < i by omega) h1;omega
          have m1:=hm _ _ f0.1 (show (C.get i0).From≤(C.get (k1+1)).From by omega) f1.2
          have m2:=hm _ _ f1.1 l2 f2.2
          unfold Agr at *
          rw [hk];rw [hi] at ha;rw [h0] at ha0
          omega
        · exact h
      constructor
      · by_cases ee : i0 = i
        · rw [ee];exact h2
        · have:=cup_lt hC (show i0 < i by omega) h1;omega
      · by_cases hn : k1 + 1 < C.len
        · rw [if_pos hn]
          by_cases ee:i=k1
          · have:=h3 (by omega);rw [ee] at this;omega
          · have a := h3 (by omega)
            have:(C.get (i+1)).From≤(C.get (k1+1)).From:=by
              have:=cup_lt hC (show i+1 < k1+1 by omega) hn;omega
            omega
        · rw [if_neg hn];exact x1
    · intro ⟨g1, g2⟩
      have a1:i0≤i:=by
        rcases Nat.lt_or_ge i i0 with h | h
        · have a := h3 (by omega)
          have:(C.get (i+1)).From≤(C.get i0).From:=by
            by_cases ee:i+1=i0
            · rw [ee];exact Int.le_refl _
            · have:=cup_lt hC (show i+1 < i0 by omega) hi0;omega
          omega
        · exact h
      have a2:i≤k1:=by
        rcases Nat.lt_or_ge k1 i with h | h
        · rw [if_pos (by omega)] at g2
          have:(C.get (k1+1)).From≤(C.get i).From:=by
            by_cases ee:k1+1=i
            · rw [ee];exact Int.le_refl _
            · have:=cup_lt hC (show k1+1 < i by omega) h1;omega
          omega
        · exact h
      exact r4 i a1 a2
  · rw [if_neg hi0]
    refine ⟨rfl,Or.inr ⟨rfl,fun x x0 x1 ha=>?_⟩⟩
    obtain ⟨i,h1,h2,h3⟩:=cup_at hC x0
    rw [← hC.2.2.2.2 x x0 (by omega) i h1 h2 h3] at ha
    exact hlo i (by omega) ha
theorem rt_mono {s:Sky} {t:Sl RangeRow} {bin:Int} {l:Sl Spell} (hf:Fine s t bin 0) (hl:LOk l):∀ x y,0≤x→x≤y→y≤1000000→(rtV s t bin l y).Low≤(rtV s t bin l x).Low∧(rtV s t bin l y).High≤(rtV s t bin l x).High:=by
  intro x y h1 h2 h3
  have hx:Fine s t bin x:=⟨hf.1,hf.2.1,hf.2.2.1,h1,by omega⟩
  obtain ⟨a,b⟩:=expd_mono hx h2
  exact mean_mono hf.1 hl a b
theorem s25_ok (s:Sky) (t:Sl RangeRow) (bin:Int) (rates:Span) (l:Sl Spell) (hs:SL s) (ht:t.len≤9223372036854775807) (hl:l.len≤9223372036854775807):p25 s t bin rates l=true ∧
    ((Fine s t bin 0∧LOk l)∧(0≤rates.Low∧rates.Low≤rates.High∧rates.High≤s.Parts)→OpOk (rtV s t bin l) rates (s25 s t bin rates l)) ∧
    (¬ ((Fine s t bin 0∧LOk l)∧(0≤rates.Low∧rates.Low≤rates.High∧rates.High≤s.Parts))→s25 s t bin rates l=(⟨0,0⟩,2)):=by
  obtain ⟨h1,h2⟩:=s65_ok s t bin 0 hs ht
  obtain ⟨e1,e2⟩:=s65_g s t bin 0
  obtain ⟨l1,l2⟩:=s67_ok l hl
  unfold p25 s25 p25_at0 s25_at0 p25_at1 s25_at1 p25_at2 s25_at2
  rw [h1,e1,e2,l1,s69_eq]
  by_cases h:Fine s t bin 0
  · rw [h2.2 h]
    by_cases hk:LOk l
    · obtain ⟨k1, k2, k3⟩ := s70_ok h hk
      rw [l2.2 hk,k1]
      by_cases hr:0≤rates.Low∧rates.Low≤rates.High∧rates.High≤s.Parts
      · rw [decide_eq_true hr]
        obtain ⟨c1,c2⟩:=s25_curve k2 k3 rates (rt_mono h hk)
        refine ⟨?_,fun _=>c2,fun h3=>absurd ⟨⟨h,hk⟩,hr⟩ h3⟩
        rw [c1];rfl
      · rw [decide_eq_false hr]
        exact ⟨rfl,fun h3=>absurd h3.2 hr,fun _=>rfl⟩
    · have h3:s67 l=false:=by
        cases e:s67 l
        · rfl
        · exact absurd (l2.1 e) hk
      rw [h3]
      exact ⟨rfl,fun h3=>absurd h3.1.2 hk,fun _=>rfl⟩
  · have h3:(s65 s t bin 0).2=false:=by
      cases e:(s65 s t bin 0).2
      · rfl
      · exact absurd (h2.1 e) h
    rw [h3]
    exact ⟨rfl,fun h3=>absurd h3.1.1 h,fun _=>rfl⟩
end Go.Proofs
namespace Go.Proofs
open Go Go.Pm
set_option linter.unusedVariables false
def EdS (t:Sl RangeRow) (v:Sl Int):Prop:=(∀ i,i+1 < v.len→v.get i < v.get (i+1))∧(∀ i,i < v.len→Ed t (v.get i)∧v.get i≤1000000)∧(∀ x,Ed t x→(∃ k,k < v.len∧x≤v.get k)→∃ k,k < v.len∧v.get k=x)
theorem ed_pos {t:Sl RangeRow} (hk:TOk t) {x:Int} (h:Ed t x):0≤x:=by
  rcases h with e | e | ⟨a,ha,e | e⟩
  · omega
  · omega
  · have:=(hk.2 a ha).2.1;omega
  · have:=(hk.2 a ha).2.1;omega
theorem eds_inc {t:Sl RangeRow} {v:Sl Int} (hk:TOk t) (h:EdS t v):∀ d i,i+d < v.len→v.get i+d≤v.get (i+d):=by
  intro d
  induction d with
  | zero=>intro i hi;show v.get i+0≤_;simp
  | succ d ih =>
    intro i hi
    have h1:=ih i (by omega)
    have h2:=h.1 (i+d) (by omega)
    rw [show i+d+1=i+(d+1) by omega] at h2
    omega
theorem eds_len {t:Sl RangeRow} {v:Sl Int} (hk:TOk t) (h:EdS t v):v.len≤1000001:=by
  rcases Nat.lt_or_ge 1000001 v.len with c | c
  · have h1 := eds_inc hk h (v.len - 1) 0 (by omega)
    rw [Nat.zero_add] at h1
    have h2:=(h.2.1 (v.len - 1) (by omega)).2
    have h3:=ed_pos hk (h.2.1 0 (by omega)).1
    omega
  · exact c
def Qual (v:Sl Int) (x:Int):Prop:=x≤1000000∧(0 < v.len→v.get (v.len - 1) < x)
theorem lp3_73 {t : Sl RangeRow} (hk : TOk t) (a v : Sl Int) (ha : a.len ≤ 1000 ∧ ∀ j, j < a.len → 0 ≤ a.get j) (hv : v.len ≤ 1000001) (S2 : Sl Int → Sl Int) (P2 : Sl Int → Bool) :
    ∀ (m q i:Nat) (c:Int),i+m=a.len→m < q→((c = -1∧∀ j,j < i→¬ Qual v (a.get j))∨((∃ j,j < i∧a.get j=c)∧Qual v c∧∀ j,j < i→Qual v (a.get j)→c≤a.get j)) →
      ((∀ j,j < a.len→¬ Qual v (a.get j))∧s73_lp3 S2 a q c (i:Int) v=v∧p73_lp3 P2 a q c (i:Int) v=true) ∨
      (∃ e,((∃ j,j < a.len∧a.get j=e)∧Qual v e∧∀ j,j < a.len→Qual v (a.get j)→e≤a.get j)∧s73_lp3 S2 a q c (i:Int) v=S2 ⟨v.len+1,appT v.len v.get (fun _=>e)⟩∧p73_lp3 P2 a q c (i:Int) v=P2 ⟨v.len+1,appT v.len v.get (fun _=>e)⟩):=by
  intro m
  induction m with
  | zero =>
    intro q i c hi hq hc
    obtain ⟨q,rfl⟩:∃ k',q=k'+1:=⟨q - 1,by omega⟩
    have es:s73_lp3 S2 a (q+1) c (i:Int) v=s73_st3 S2 a (s73_lp3 S2 a q) c (i:Int) v:=rfl
    have ep:p73_lp3 P2 a (q+1) c (i:Int) v=p73_st3 P2 a (p73_lp3 P2 a q) c (i:Int) v:=rfl
    rw [es,ep]
    unfold s73_st3 p73_st3
    rw [decide_eq_false (show ¬ (i:Int) < (a.len:Int) by omega)]
    have ei:i=a.len:=by omega
    subst ei
    rcases hc with ⟨h1,h2⟩ | ⟨⟨j,hj,e⟩,h2,h3⟩
    · rw [decide_eq_true (show c < 0 by omega)]
      exact Or.inl ⟨h2,rfl,rfl⟩
    · have := ha.2 j hj
      rw [decide_eq_false (show ¬ c < 0 by omega),decide_eq_true (show (v.len+1) * 8≤140737488355328∧v.len+1≤9223372036854775807 by omega)]
      exact Or.inr ⟨c,⟨⟨j,hj,e⟩,h2,h3⟩,rfl,rfl⟩
  | succ m ih =>
    intro q i c hi hq hc
    obtain ⟨q,rfl⟩:∃ k',q=k'+1:=⟨q - 1,by omega⟩
    have es:s73_lp3 S2 a (q+1) c (i:Int) v=s73_st3 S2 a (s73_lp3 S2 a q) c (i:Int) v:=rfl
    have ep:p73_lp3 P2 a (q+1) c (i:Int) v=p73_st3 P2 a (p73_lp3 P2 a q) c (i:Int) v:=rfl
    rw [es,ep]
    have hil:i < a.len:=by omega
    have hpos:=ha.2 i hil
    have e3:w64 ((i:Int)+1)=((i+1:Nat):Int):=by rw [w64_id (by omega) (by omega)];omega
    -- the number is taken, or left
    have take:Qual v (a.get i)→(c < 0∨a.get i < c)→_:=fun h1 h2=>ih q (i+1) (a.get i) (by omega) (by omega) (Or.inr ⟨⟨i,by omega,rfl⟩,h1,fun j hj hq=>by
      by_cases e:j=i
      · rw [e];exact Int.le_refl _
      · rcases hc with ⟨g1, g2⟩ | ⟨⟨j', hj', e'⟩, g2, g3⟩
        · exact absurd hq (g2 j (by omega))
        · have := g3 j (by omega) hq
          have:=ha.2 j' (by omega)
          omega⟩)
    have leave:(¬ Qual v (a.get i)∨(¬ c < 0∧¬ a.get i < c))→_:=fun h1=>ih q (i+1) c (by omega) (by omega) (by
      rcases hc with ⟨g1,g2⟩ | ⟨⟨j',hj',e'⟩,g2,g3⟩
      · refine Or.inl ⟨g1, fun j hj => ?_⟩
        by_cases e:j=i
        · rw [e]; rcases h1 with h | ⟨h, _⟩
          · exact h
          · omega
        · exact g2 j (by omega)
      · refine Or.inr ⟨⟨j', by omega, e'⟩, g2, fun j hj hq => ?_⟩
        by_cases e:j=i
        · rw [e] at hq ⊢
          rcases h1 with h | ⟨_,h⟩
          · exact absurd hq h
          · omega
        · exact g3 j (by omega) hq)
    unfold s73_st3 p73_st3
    rw [decide_eq_true (show (i:Int) < (a.len:Int) by omega),decide_eq_true (show 0≤(i:Int)∧(i:Int) < (a.len:Int) by omega),Int.toNat_natCast,decide_eq_true hil,e3]
    by_cases h1:a.get i≤1000000
    · rw [decide_eq_true h1]
      by_cases h2:v.len=0
      · have hQ : Qual v (a.get i) := ⟨h1, fun h => absurd h (by omega)⟩
        rw [show ((v.len:Int) == 0)=true by simp [h2]]
        by_cases h3:c < 0
        · rw [decide_eq_true h3];exact take hQ (Or.inl h3)
        · by_cases h4 : a.get i < c
          · rw [decide_eq_false h3,decide_eq_true h4];exact take hQ (Or.inr h4)
          · rw [decide_eq_false h3,decide_eq_false h4];exact leave (Or.inr ⟨h3,h4⟩)
      · have e7 : w64 ((v.len : Int) - 1) = ((v.len - 1 : Nat) : Int) := by rw [w64_id (by omega) (by omega)]; omega
        rw [show ((v.len:Int) == 0)=false by simp [h2],e7,decide_eq_true (show 0≤((v.len - 1:Nat):Int)∧((v.len - 1:Nat):Int) < (v.len:Int) by omega),Int.toNat_natCast,decide_eq_true (show v.len - 1 < v.len by omega)]
        by_cases h5:a.get i > v.get (v.len - 1)
        · have hQ : Qual v (a.get i) := ⟨h1, fun _ => h5⟩
          rw [decide_eq_true h5]
          by_cases h3:c < 0
          · rw [decide_eq_true h3];exact take hQ (Or.inl h3)
          · by_cases h4 : a.get i < c
            · rw [decide_eq_false h3,decide_eq_true h4];exact take hQ (Or.inr h4)
            · rw [decide_eq_false h3,decide_eq_false h4];exact leave (Or.inr ⟨h3,h4⟩)
        · rw [decide_eq_false h5]
          exact leave (Or.inl fun h=>h5 (h.2 (by omega)))
    · rw [decide_eq_false h1]
      exact leave (Or.inl fun h=>h1 h.1)
theorem lp2_73 {t : Sl RangeRow} (hk : TOk t) (a : Sl Int) (hal : a.len ≤ 1000) (hae : ∀ x, (∃ j, j < a.len ∧ a.get j = x) ↔ Ed t x) :
    ∀ (m q:Nat) (v:Sl Int),1000001 - v.len≤m→m < q→EdS t v→p73_lp2 a q v=true∧EdS t (s73_lp2 a q v)∧(∀ x,Ed t x→x≤1000000→∃ k,k < (s73_lp2 a q v).len∧(s73_lp2 a q v).get k=x):=by
  have ha:a.len≤1000∧∀ j,j < a.len→0≤a.get j:=⟨hal,fun j hj=>ed_pos hk ((hae _).1 ⟨j,hj,rfl⟩)⟩
  intro m
  induction m with
  | zero =>
    intro q v hv hq hE
    have hl:=eds_len hk hE
    obtain ⟨q,rfl⟩:∃ k',q=k'+1:=⟨q - 1,by omega⟩
    have es:s73_lp2 a (q+1) v=s73_st2 a (s73_lp2 a q) v:=rfl
    have ep:p73_lp2 a (q+1) v=p73_st2 a (p73_lp2 a q) v:=rfl
    rw [es,ep]
    unfold s73_st2 p73_st2 s73_at3 p73_at3
    have r:=lp3_73 hk a v ha hl (s73_lp2 a q) (p73_lp2 a q) a.len Fuel 0 (-1) (by omega) (by simp only [Fuel];omega) (Or.inl ⟨rfl,fun j hj=>absurd hj (by omega)⟩)
    rcases r with ⟨r1,r2,r3⟩ | ⟨e,⟨⟨j,hj,ej⟩,hQ,_⟩,_⟩
    · rw [show ((0 : Nat) : Int) = 0 from rfl] at r2 r3
      rw [r2,r3]
      refine ⟨rfl,hE,fun x hx hx1=>?_⟩
      obtain ⟨j,hj,ej⟩:=(hae x).2 hx
      have hn:=r1 j hj
      rw [ej] at hn
      have h0:0 < v.len:=by omega
      refine hE.2.2 x hx ⟨v.len - 1,by omega,?_⟩
      rcases Int.lt_or_le (v.get (v.len - 1)) x with h | h
      · exact absurd ⟨hx1,fun _=>h⟩ hn
      · exact h
    · exfalso
      have hlen:v.len=1000001:=by omega
      have h1:=eds_inc hk hE 1000000 0 (by omega)
      rw [Nat.zero_add] at h1
      have h3:=ed_pos hk (hE.2.1 0 (by omega)).1
      have h4:=hQ.2 (by omega)
      rw [show v.len - 1=1000000 by omega] at h4
      have:=hQ.1
      omega
  | succ m ih =>
    intro q v hv hq hE
    have hl:=eds_len hk hE
    obtain ⟨q,rfl⟩:∃ k',q=k'+1:=⟨q - 1,by omega⟩
    have es:s73_lp2 a (q+1) v=s73_st2 a (s73_lp2 a q) v:=rfl
    have ep:p73_lp2 a (q+1) v=p73_st2 a (p73_lp2 a q) v:=rfl
    rw [es,ep]
    unfold s73_st2 p73_st2 s73_at3 p73_at3
    have r:=lp3_73 hk a v ha hl (s73_lp2 a q) (p73_lp2 a q) a.len Fuel 0 (-1) (by omega) (by simp only [Fuel];omega) (Or.inl ⟨rfl,fun j hj=>absurd hj (by omega)⟩)
    rcases r with ⟨r1,r2,r3⟩ | ⟨e,⟨⟨j,hj,ej⟩,hQ,hmin⟩,r2,r3⟩
    · rw [show ((0 : Nat) : Int) = 0 from rfl] at r2 r3
      rw [r2,r3]
      refine ⟨rfl,hE,fun x hx hx1=>?_⟩
      obtain ⟨j,hj,ej⟩:=(hae x).2 hx
      have hn:=r1 j hj
      rw [ej] at hn
      have h0:0 < v.len:=by
        rcases Nat.eq_zero_or_pos v.len with h | h
        · exact absurd ⟨hx1,fun h'=>absurd h' (by omega)⟩ hn
        · exact h
      refine hE.2.2 x hx ⟨v.len - 1,by omega,?_⟩
      rcases Int.lt_or_le (v.get (v.len - 1)) x with h | h
      · exact absurd ⟨hx1,fun _=>h⟩ hn
      · exact h
    · rw [show ((0 : Nat) : Int) = 0 from rfl] at r2 r3
      rw [r2,r3]
      have g:∀ j,j < v.len+1→appT v.len v.get (fun _=>e) j=if j=v.len then e else v.get j:=fun j hj=>appL hj
      refine ih q ⟨v.len+1,appT v.len v.get (fun _=>e)⟩ (by show 1000001 - (v.len+1)≤m;omega) (by omega) ⟨fun i hi=>?_,fun i hi=>?_,fun x hx ⟨k,hk1,hk2⟩=>?_⟩
      · have hi : i + 1 < v.len + 1 := hi
        show appT v.len v.get (fun _=>e) i < appT v.len v.get (fun _=>e) (i+1)
        rw [g i (by omega),g (i+1) hi,if_neg (show ¬ i=v.len by omega)]
        by_cases c:i+1=v.len
        · rw [if_pos c]
          have:=hQ.2 (by omega)
          rwa [show v.len - 1=i by omega] at this
        · rw [if_neg c];exact hE.1 i (by omega)
      · have hi : i < v.len + 1 := hi
        show Ed t (appT v.len v.get (fun _=>e) i)∧appT v.len v.get (fun _=>e) i≤1000000
        rw [g i hi]
        by_cases c:i=v.len
        · rw [if_pos c];exact ⟨(hae e).1 ⟨j,hj,ej⟩,hQ.1⟩
        · rw [if_neg c];exact hE.2.1 i (by omega)
      · have hk1 : k < v.len + 1 := hk1
        have hk2:x≤appT v.len v.get (fun _=>e) k:=hk2
        rw [g k hk1] at hk2
        have old:(∃ k,k < v.len∧x≤v.get k)→∃ k,k < v.len+1∧appT v.len v.get (fun _=>e) k=x:=fun h=>by
          obtain ⟨k',h1,h2⟩:=hE.2.2 x hx h
          exact ⟨k',by omega,by rw [g k' (by omega),if_neg (by omega)];exact h2⟩
        by_cases c:k=v.len
        · rw [if_pos c] at hk2
          by_cases c2:x=e
          · exact ⟨v.len,by show v.len < v.len+1;omega,by show appT v.len v.get (fun _=>e) v.len=x;rw [g v.len (by omega),if_pos rfl];exact c2.symm⟩
          · obtain ⟨j', hj', ej'⟩ := (hae x).2 hx
            have hn : ¬ Qual v x:=fun hqx=>by
              have:=hmin j' hj' (by rw [ej'];exact hqx)
              rw [ej'] at this;omega
            have h0:0 < v.len:=by
              rcases Nat.eq_zero_or_pos v.len with h | h
              · exact absurd ⟨by have:=hQ.1;omega,fun h'=>absurd h' (by omega)⟩ hn
              · exact h
            refine old ⟨v.len - 1,by omega,?_⟩
            rcases Int.lt_or_le (v.get (v.len - 1)) x with h | h
            · exact absurd ⟨by have:=hQ.1;omega,fun _=>h⟩ hn
            · exact h
        · rw [if_neg c] at hk2
          exact old ⟨k,by omega,hk2⟩
theorem s73_ok {t:Sl RangeRow} (hk:TOk t):p73 t=true∧EdS t (s73 t)∧(∀ x,Ed t x→x≤1000000→∃ k,k < (s73 t).len∧(s73 t).get k=x):=by
  have htl:=hk.1
  have l0:∀ (m q i:Nat) (v:Sl Int),i+m=t.len→m < q→v.len=2+2 * i→(∀ x,(∃ j,j < v.len∧v.get j=x)↔(x=0∨x=1∨∃ a,a < i∧(x=(t.get a).Range.Low+1∨x=(t.get a).Range.High+1))) →
      p73_lp0 t q (i:Int) v=true∧EdS t (s73_lp0 t q (i:Int) v)∧(∀ x,Ed t x→x≤1000000→∃ k,k < (s73_lp0 t q (i:Int) v).len∧(s73_lp0 t q (i:Int) v).get k=x):=by
    intro m
    induction m with
    | zero =>
      intro q i v hi hq hv hx
      obtain ⟨q,rfl⟩:∃ k',q=k'+1:=⟨q - 1,by omega⟩
      have es:s73_lp0 t (q+1) (i:Int) v=s73_st0 t (s73_lp0 t q) (i:Int) v:=rfl
      have ep:p73_lp0 t (q+1) (i:Int) v=p73_st0 t (p73_lp0 t q) (i:Int) v:=rfl
      rw [es,ep]
      unfold p73_st0 s73_st0
      rw [decide_eq_false (show ¬ (i:Int) < (t.len:Int) by omega),cond_false,cond_false]
      unfold p73_at1 s73_at1 p73_at2 s73_at2
      exact lp2_73 hk v (by omega) (fun x=>by rw [hx x,show i=t.len by omega];rfl) 1000001 Fuel ⟨0,fun _=>default⟩ (Nat.sub_le _ _) (by simp only [Fuel];omega) ⟨fun i h=>absurd h (by show ¬ i+1 < 0;omega),fun i h=>absurd h (by show ¬ i < 0;omega),fun x _ ⟨k,h,_⟩=>absurd h (by show ¬ k < 0;omega)⟩
    | succ m ih =>
      intro q i v hi hq hv hx
      obtain ⟨q,rfl⟩:∃ k',q=k'+1:=⟨q - 1,by omega⟩
      have es:s73_lp0 t (q+1) (i:Int) v=s73_st0 t (s73_lp0 t q) (i:Int) v:=rfl
      have ep:p73_lp0 t (q+1) (i:Int) v=p73_st0 t (p73_lp0 t q) (i:Int) v:=rfl
      rw [es,ep]
      have e3:w64 ((i:Int)+1)=((i+1:Nat):Int):=by rw [w64_id (by omega) (by omega)];omega
      have hr:=(hk.2 i (by omega)).2.1
      unfold p73_st0 s73_st0
      rw [decide_eq_true (show (i:Int) < (t.len:Int) by omega),decide_eq_true (show 0≤(i:Int)∧(i:Int) < (t.len:Int) by omega),Int.toNat_natCast,e3,decide_eq_true (show (v.len+2) * 8≤140737488355328∧v.len+2≤9223372036854775807 by omega),w64_id (x:=(t.get i).Range.Low+1) (by omega) (by omega),w64_id (x:=(t.get i).Range.High+1) (by omega) (by omega)]
      simp only [cond_true,Bool.true_and]
      refine ih q (i+1) _ (by omega) (by omega) (by show v.len+2=_;omega) fun x=>?_
      have g:∀ j,j < v.len+2→appT v.len v.get (getT ((t.get i).Range.Low+1) [(t.get i).Range.Low+1,(t.get i).Range.High+1]) j=if j=v.len then (t.get i).Range.Low+1 else if j=v.len+1 then (t.get i).Range.High+1 else v.get j:=by
        intro j hj
        unfold appT
        cases e:Nat.ble v.len j
        · have : ¬ v.len ≤ j := fun h => by rw [Nat.ble_eq_true_of_le h] at e; cases e
          rw [if_neg (by omega),if_neg (by omega)]
        · have := Nat.le_of_ble_eq_true e
          by_cases e1:j=v.len
          · rw [if_pos e1,e1,Nat.sub_self];rfl
          · rw [if_neg e1,if_pos (by omega),show j - v.len=1 by omega];rfl
      show (∃ j,j < v.len+2∧appT v.len v.get (getT ((t.get i).Range.Low+1) [(t.get i).Range.Low+1,(t.get i).Range.High+1]) j=x)↔_
      constructor
      · rintro ⟨j, hj, e⟩
        rw [g j hj] at e
        by_cases e1:j=v.len
        · rw [if_pos e1] at e;exact Or.inr (Or.inr ⟨i,by omega,Or.inl e.symm⟩)
        · rw [if_neg e1] at e
          by_cases e2:j=v.len+1
          · rw [if_pos e2] at e;exact Or.inr (Or.inr ⟨i,by omega,Or.inr e.symm⟩)
          · rw [if_neg e2] at e
            rcases (hx x).1 ⟨j,by omega,e⟩ with a | a | ⟨a,b,c⟩
            · exact Or.inl a
            · exact Or.inr (Or.inl a)
            · exact Or.inr (Or.inr ⟨a,by omega,c⟩)
      · intro h
        have hold:(x=0∨x=1∨∃ a,a < i∧(x=(t.get a).Range.Low+1∨x=(t.get a).Range.High+1))→∃ j,j < v.len+2∧appT v.len v.get (getT ((t.get i).Range.Low+1) [(t.get i).Range.Low+1,(t.get i).Range.High+1]) j=x:=by
          intro h
          obtain ⟨j,hj,e⟩:=(hx x).2 h
          exact ⟨j,by omega,by rw [g j (by omega),if_neg (by omega),if_neg (by omega)];exact e⟩
        rcases h with a | a | ⟨a,b,c⟩
        · exact hold (Or.inl a)
        · exact hold (Or.inr (Or.inl a))
        · by_cases e : a = i
          · subst e
            rcases c with c | c
            · exact ⟨v.len,by omega,by rw [g _ (by omega),if_pos rfl];exact c.symm⟩
            · exact ⟨v.len+1,by omega,by rw [g _ (by omega),if_neg (by omega),if_pos rfl];exact c.symm⟩
          · exact hold (Or.inr (Or.inr ⟨a,by omega,c⟩))
  refine l0 t.len Fuel 0 ⟨2,getT 0 [0,1]⟩ (by omega) (by simp only [Fuel];omega) rfl fun x=>?_
  constructor
  · rintro ⟨j, hj, e⟩
    have hj:j < 2:=hj
    have:j=0∨j=1:=by omega
    rcases this with h | h
    · subst h;exact Or.inl e.symm
    · subst h;exact Or.inr (Or.inl e.symm)
  · rintro (h | h | ⟨a, ha, _⟩)
    · exact ⟨0,by show 0 < 2;omega,h.symm⟩
    · exact ⟨1,by show 1 < 2;omega,h.symm⟩
    · omega
theorem s28_ok {s:Sky} {t:Sl RangeRow} {bin:Int} {l:Sl Spell} (hf:Fine s t bin 0) (hl:LOk l):p28 s t bin l=true∧CUp (s28 s t bin l) (rtV s t bin l) 1000001:=by
  have hk:=hf.2.1
  obtain ⟨z1,z2,z3⟩:=s73_ok hk
  unfold p28 s28 p28_at0 s28_at0 p28_at1 s28_at1
  rw [z1]
  generalize s73 t=v at z2 z3
  have hvl:=eds_len hk z2
  have hv0:0 < v.len∧v.get 0=0:=by
    obtain ⟨k,hk1,hk2⟩:=z3 0 (Or.inl rfl) (by omega)
    refine ⟨by omega,?_⟩
    have h1:=eds_inc hk z2 k 0 (by omega)
    rw [Nat.zero_add] at h1
    have h2:=ed_pos hk (z2.2.1 0 (by omega)).1
    omega
  have hlt:∀ i j,i < j→j < v.len→v.get i < v.get j:=fun i j hij hj=>by
    have:=eds_inc hk z2 (j - i) i (by omega)
    rw [show i+(j - i)=j by omega] at this
    omega
  have hbd:∀ k,k < v.len→v.get k < (if k+1 < v.len then v.get (k+1) else 1000001)∧∀ x,v.get k≤x→x < (if k+1 < v.len then v.get (k+1) else 1000001)→rtV s t bin l x=rtV s t bin l (v.get k):=by
    intro k hkv
    have h0:=z2.2.1 k hkv
    constructor
    · by_cases c : k + 1 < v.len
      · rw [if_pos c];exact z2.1 k c
      · rw [if_neg c];omega
    · intro x h1 h2
      refine (rt_const (ed_pos hk h0.1) h1 fun e he hlt2=>?_).symm
      rcases Int.lt_or_le x e with c | c
      · exact c
      · exfalso
        have he1:e≤1000000:=by
          by_cases c2:k+1 < v.len
          · rw [if_pos c2] at h2;have:=(z2.2.1 (k+1) c2).2;omega
          · rw [if_neg c2] at h2;omega
        obtain ⟨j,hj,ej⟩:=z3 e he he1
        rcases Nat.lt_or_ge k j with c3 | c3
        · rw [if_pos (by omega)] at h2
          by_cases c4:j=k+1
          · rw [c4] at ej;omega
          · have:=hlt (k+1) j (by omega) hj;omega
        · by_cases c4 : j = k
          · rw [c4] at ej;omega
          · have:=hlt j k (by omega) hkv;omega
  have key:∀ (m q k:Nat) (C:Sl FluxStep),k+m=v.len→m < q→((k=0∧C.len=0)∨(0 < k∧CUp C (rtV s t bin l) (if k < v.len then v.get k else 1000001)∧C.len≤k)) →
      p28_lp1 s t bin l v q (k:Int) s.Bins C=true∧CUp (s28_lp1 s t bin l v q (k:Int) s.Bins C) (rtV s t bin l) 1000001:=by
    intro m
    induction m with
    | zero =>
      intro q k C hkm hq hC
      obtain ⟨q,rfl⟩:∃ k',q=k'+1:=⟨q - 1,by omega⟩
      have es:s28_lp1 s t bin l v (q+1) (k:Int) s.Bins C=s28_st1 s t bin l v (s28_lp1 s t bin l v q) (k:Int) s.Bins C:=rfl
      have ep:p28_lp1 s t bin l v (q+1) (k:Int) s.Bins C=p28_st1 s t bin l v (p28_lp1 s t bin l v q) (k:Int) s.Bins C:=rfl
      rw [es,ep]
      unfold p28_st1 s28_st1
      rw [decide_eq_false (show ¬ (k:Int) < (v.len:Int) by omega),cond_false,cond_false]
      rcases hC with ⟨h1,_⟩ | ⟨_,h1,h2⟩
      · omega
      · rw [if_neg (by omega)] at h1
        exact ⟨rfl,h1⟩
    | succ m ih =>
      intro q k C hkm hq hC
      obtain ⟨q,rfl⟩:∃ k',q=k'+1:=⟨q - 1,by omega⟩
      have es:s28_lp1 s t bin l v (q+1) (k:Int) s.Bins C=s28_st1 s t bin l v (s28_lp1 s t bin l v q) (k:Int) s.Bins C:=rfl
      have ep:p28_lp1 s t bin l v (q+1) (k:Int) s.Bins C=p28_st1 s t bin l v (p28_lp1 s t bin l v q) (k:Int) s.Bins C:=rfl
      rw [es,ep]
      have hkv:k < v.len:=by omega
      have h0:=z2.2.1 k hkv
      have hfe:Fine s t bin (v.get k):=⟨hf.1,hf.2.1,hf.2.2.1,ed_pos hk h0.1,h0.2⟩
      obtain ⟨m1,m2⟩:=s38_eq hfe hl
      have m2:s38 s t bin (v.get k) l=rtV s t bin l (v.get k):=m2
      obtain ⟨hb1,hb2⟩:=hbd k hkv
      have e3:w64 ((k:Int)+1)=((k+1:Nat):Int):=by rw [w64_id (by omega) (by omega)];omega
      unfold p28_st1 s28_st1 p28_at2 s28_at2
      rw [show (⟨s.Parts,s.Bins,s.Beta,s.Alpha⟩:Sky)=s from rfl,decide_eq_true (show (k:Int) < (v.len:Int) by omega),decide_eq_true (show 0≤(k:Int)∧(k:Int) < (v.len:Int) by omega),Int.toNat_natCast,m1,m2,e3]
      simp only [cond_true,decide_true,Bool.true_and]
      rcases hC with ⟨h1,h2⟩ | ⟨hk0,h1,h2⟩
      · rw [show ((k : Int) == 0) = true by simp [h1], decide_eq_true (show (C.len + 1) * 24 ≤ 140737488355328 ∧ C.len + 1 ≤ 9223372036854775807 by omega)]
        rw [h1,hv0.2] at hb1 hb2
        have r:=ih q (k+1) ⟨C.len+1,appT C.len C.get (fun _=>(⟨v.get k,⟨(rtV s t bin l (v.get k)).Low,(rtV s t bin l (v.get k)).High⟩⟩:FluxStep))⟩ (by omega) (by omega) (Or.inr ⟨by omega,cup_init (by rw [h1];exact hb1) (fun x a b=>by rw [h1] at b;exact hb2 x a b) ⟨by show C.len+1=1;omega,by
          have e:=appL (d:=C) (v:=(⟨v.get k,⟨(rtV s t bin l (v.get k)).Low,(rtV s t bin l (v.get k)).High⟩⟩:FluxStep)) (j:=0) (by omega)
          rw [if_pos (by omega)] at e
          exact e.trans (by rw [h1,hv0.2])⟩,by show C.len+1≤k+1;omega⟩)
        simp only [cond_true,Bool.true_and]
        exact r
      · have hCl := h1.1
        have e7:w64 ((C.len:Int) - 1)=((C.len - 1:Nat):Int):=by rw [w64_id (by omega) (by omega)];omega
        rw [show ((k:Int) == 0)=false by simp;omega,e7,decide_eq_true (show 0≤((C.len - 1:Nat):Int)∧((C.len - 1:Nat):Int) < (C.len:Int) by omega),Int.toNat_natCast,decide_eq_true (show C.len - 1 < C.len by omega),decide_eq_true (show (C.len+1) * 24≤140737488355328∧C.len+1≤9223372036854775807 by omega)]
        rw [if_pos hkv] at h1
        have rk:=fun (hr:(C.get (C.len - 1)).Rate=rtV s t bin l (v.get k))=>ih q (k+1) C (by omega) (by omega) (Or.inr ⟨by omega,cup_keep h1 hb2 (by omega) hr,by omega⟩)
        have rp:=fun (hr:(C.get (C.len - 1)).Rate ≠ rtV s t bin l (v.get k))=>ih q (k+1) ⟨C.len+1,appT C.len C.get (fun _=>(⟨v.get k,⟨(rtV s t bin l (v.get k)).Low,(rtV s t bin l (v.get k)).High⟩⟩:FluxStep))⟩ (by omega) (by omega) (Or.inr ⟨by omega,cup_push h1 hb2 (ed_pos hk h0.1) hb1 hr ⟨rfl,fun i hi=>by
            have e:=appL (d:=C) (v:=(⟨v.get k,⟨(rtV s t bin l (v.get k)).Low,(rtV s t bin l (v.get k)).High⟩⟩:FluxStep)) (j:=i) (by omega)
            rw [if_neg (by omega)] at e
            exact e,by
            have e:=appL (d:=C) (v:=(⟨v.get k,⟨(rtV s t bin l (v.get k)).Low,(rtV s t bin l (v.get k)).High⟩⟩:FluxStep)) (j:=C.len) (by omega)
            rw [if_pos rfl] at e
            exact e⟩,by show C.len+1≤k+1;omega⟩)
        by_cases a:(C.get (C.len - 1)).Rate.Low=(rtV s t bin l (v.get k)).Low
        · by_cases b : (C.get (C.len - 1)).Rate.High = (rtV s t bin l (v.get k)).High
          · have r := rk (span_eq.2 ⟨a, b⟩)
            rw [show ((C.get (C.len - 1)).Rate.Low == (rtV s t bin l (v.get k)).Low)=true by simp [a],show ((C.get (C.len - 1)).Rate.High == (rtV s t bin l (v.get k)).High)=true by simp [b]]
            simp only [cond_true,cond_false,Bool.true_and,Bool.not_true]
            exact r
          · have r := rp fun h => b (span_eq.1 h).2
            rw [show ((C.get (C.len - 1)).Rate.Low == (rtV s t bin l (v.get k)).Low)=true by simp [a],show ((C.get (C.len - 1)).Rate.High == (rtV s t bin l (v.get k)).High)=false by simp [b]]
            simp only [cond_true,cond_false,Bool.true_and,Bool.not_false]
            exact r
        · have r := rp fun h => a (span_eq.1 h).1
          rw [show ((C.get (C.len - 1)).Rate.Low == (rtV s t bin l (v.get k)).Low)=false by simp [a]]
          simp only [cond_true,cond_false,Bool.true_and,Bool.not_false]
          exact r
  have r:=key v.len Fuel 0 ⟨0,fun _=>default⟩ (by omega) (by simp only [Fuel];omega) (Or.inl ⟨rfl,rfl⟩)
  simp only [decide_true,Bool.true_and]
  exact r
theorem cup_uniq {C D:Sl FluxStep} {R:Int→Span} (hC:CUp C R 1000001) (hD:CUp D R 1000001):∀ i,i < C.len→i < D.len∧(C.get i).From=(D.get i).From∧(C.get i).Rate=(D.get i).Rate:=by
  have hF:∀ {C:Sl FluxStep},CUp C R 1000001→∀ i,i < C.len→0≤(C.get i).From:=fun hC i hi=>by
    have h2:=cup_inc hC i 0 (by omega)
    rw [Nat.zero_add,hC.2.1] at h2
    omega
  have hR:∀ {C:Sl FluxStep},CUp C R 1000001→∀ i,i < C.len→(C.get i).Rate=R (C.get i).From:=fun hC i hi=>hC.2.2.2.2 _ (hF hC i hi) (by have:=hC.2.2.1 i hi;omega) i hi (Int.le_refl _) fun h=>(hC.2.2.2.1 i h).1
  intro i
  induction i with
  | zero =>
    intro hi
    refine ⟨hD.1,by rw [hC.2.1,hD.2.1],?_⟩
    rw [hR hC 0 hi,hR hD 0 hD.1,hC.2.1,hD.2.1]
  | succ i ih =>
    intro hi
    obtain ⟨h1,h2,h3⟩:=ih (by omega)
    have c:=hC.2.2.2.1 i hi
    have cb:=hC.2.2.1 (i+1) hi
    have cR:=hR hC (i+1) hi
    have c0:=hF hC (i+1) hi
    -- the other curve has a step there
    have d1:i+1 < D.len∧(D.get (i+1)).From≤(C.get (i+1)).From:=by
      rcases Nat.lt_or_ge (i+1) D.len with h | h
      · refine ⟨h, ?_⟩
        rcases Int.lt_or_le (C.get (i+1)).From (D.get (i+1)).From with g | g
        · have := hD.2.2.2.2 _ c0 cb i h1 (by omega) (fun _ => g)
          rw [← h3] at this
          exact absurd (this.trans cR.symm) c.2
        · exact g
      · have := hD.2.2.2.2 _ c0 cb i h1 (by omega) (fun g => absurd g (by omega))
        rw [← h3] at this
        exact absurd (this.trans cR.symm) c.2
    have d:=hD.2.2.2.1 i d1.1
    have dR:=hR hD (i+1) d1.1
    have e1:(C.get (i+1)).From=(D.get (i+1)).From:=by
      rcases Int.lt_or_le (D.get (i+1)).From (C.get (i+1)).From with g | g
      · have := hC.2.2.2.2 _ (hF hD (i + 1) d1.1) (hD.2.2.1 _ d1.1) i (by omega) (by omega) (fun _ => g)
        rw [h3] at this
        exact absurd (this.trans dR.symm) d.2
      · have:=d1.2;omega
    exact ⟨d1.1,e1,by rw [cR,dR,e1]⟩
theorem cup_len {C D:Sl FluxStep} {R:Int→Span} (hC:CUp C R 1000001) (hD:CUp D R 1000001):C.len=D.len:=by
  have h1:=(cup_uniq hC hD (C.len - 1) (by have:=hC.1;omega)).1
  have h2:=(cup_uniq hD hC (D.len - 1) (by have:=hD.1;omega)).1
  omega
theorem s27_ok {C D:Sl FluxStep} {R:Int→Span} (hC:CUp C R 1000001) (hD:CUp D R 1000001) (hl:C.len≤82):p27 C D=true∧s27 C D=true:=by
  have e:=cup_len hC hD
  have key:∀ m q i:Nat,i+m=C.len→m < q→p27_lp1 C D q (i:Int)=true∧s27_lp1 C D q (i:Int)=true:=by
    intro m
    induction m with
    | zero =>
      intro q i hi hq
      obtain ⟨q,rfl⟩:∃ k',q=k'+1:=⟨q - 1,by omega⟩
      show p27_st1 C D (p27_lp1 C D q) _=true∧s27_st1 C D (s27_lp1 C D q) _=true
      unfold p27_st1 s27_st1
      rw [decide_eq_false (by omega)]
      exact ⟨rfl,rfl⟩
    | succ m ih =>
      intro q i hi hq
      obtain ⟨q,rfl⟩:∃ k',q=k'+1:=⟨q - 1,by omega⟩
      show p27_st1 C D (p27_lp1 C D q) _=true∧s27_st1 C D (s27_lp1 C D q) _=true
      have e3:w64 ((i:Int)+1)=((i+1:Nat):Int):=by rw [w64_id (by omega) (by omega)];omega
      obtain ⟨_,h2,h3⟩:=cup_uniq hC hD i (by omega)
      unfold p27_st1 s27_st1
      rw [decide_eq_true (show (i:Int) < (C.len:Int) by omega),decide_eq_true (show 0≤(i:Int)∧(i:Int) < (C.len:Int) by omega),decide_eq_true (show 0≤(i:Int)∧(i:Int) < (D.len:Int) by omega),Int.toNat_natCast,h2,h3,e3]
      simp only [beq_self_eq_true,Bool.not_true,cond_false,cond_true,Bool.true_and]
      exact ih q (i+1) (by omega) (by omega)
  have r:=key C.len Fuel 0 (by omega) (by simp only [Fuel];omega)
  unfold p27 s27
  rw [e,bne_self_eq_false]
  exact ⟨r.1,r.2⟩
def enD (C:Sl FluxStep) (k:Nat):Int:=if k+1 < C.len then (C.get (k+1)).From - 1 else 1000000
theorem agr_iff {C : Sl FluxStep} {R : Int → Span} (hC : CUp C R 1000001) {rates : Span} (hm : ∀ x y, 0 ≤ x → x ≤ y → y ≤ 1000000 → (R y).Low ≤ (R x).Low ∧ (R y).High ≤ (R x).High) {f k : Nat} (hfk : f ≤ k) (hk : k < C.len)
    (h1:Agr rates (C.get f).Rate) (h2:Agr rates (C.get k).Rate) (h3:∀ j,j < f→¬ Agr rates (C.get j).Rate) (h4:∀ j,k < j→j < C.len→¬ Agr rates (C.get j).Rate) :
    (0≤(C.get f).From∧(C.get f).From≤enD C k∧enD C k≤1000000)∧∀ x,0≤x→x≤1000000→(Agr rates (R x)↔(C.get f).From≤x∧x≤enD C k):=by
  have hF:∀ i,i < C.len→0≤(C.get i).From∧(C.get i).From≤1000000:=fun i hi=>by
    have h1:=hC.2.2.1 i hi
    have h2:=cup_inc hC i 0 (by omega)
    rw [Nat.zero_add,hC.2.1] at h2
    omega
  have hR:∀ i,i < C.len→(C.get i).Rate=R (C.get i).From:=fun i hi=>hC.2.2.2.2 _ (hF i hi).1 (by have:=hF i hi;omega) i hi (Int.le_refl _) fun h=>(hC.2.2.2.1 i h).1
  have hle:∀ i j,i≤j→j < C.len→(C.get i).From≤(C.get j).From:=fun i j hij hj=>by
    by_cases e:i=j
    · rw [e];exact Int.le_refl _
    · have:=cup_lt hC (show i < j by omega) hj;omega
  constructor
  · have f0 := hF f (by omega)
    unfold enD
    by_cases hn:k+1 < C.len
    · rw [if_pos hn]
      have f1:=hF (k+1) hn
      have:=cup_lt hC (show f < k+1 by omega) hn
      omega
    · rw [if_neg hn];omega
  · intro x x0 x1
    obtain ⟨i,g1,g2,g3⟩:=cup_at hC x0
    rw [← hC.2.2.2.2 x x0 (by omega) i g1 g2 g3]
    constructor
    · intro ha
      have a1:f≤i:=by
        rcases Nat.lt_or_ge i f with h | h
        · exact absurd ha (h3 i h)
        · exact h
      have a2:i≤k:=by
        rcases Nat.lt_or_ge k i with h | h
        · exact absurd ha (h4 i h g1)
        · exact h
      refine ⟨by have:=hle f i a1 g1;omega,?_⟩
      unfold enD
      by_cases hn:k+1 < C.len
      · rw [if_pos hn]
        have:=g3 (by omega)
        have:=hle (i+1) (k+1) (by omega) hn
        omega
      · rw [if_neg hn];exact x1
    · intro ⟨b1, b2⟩
      have a1:f≤i:=by
        rcases Nat.lt_or_ge i f with h | h
        · have := g3 (by omega)
          have:=hle (i+1) f (by omega) (by omega)
          omega
        · exact h
      have a2:i≤k:=by
        rcases Nat.lt_or_ge k i with h | h
        · unfold enD at b2
          rw [if_pos (by omega)] at b2
          have:=hle (k+1) i (by omega) g1
          omega
        · exact h
      have f0:=hF f (by omega)
      have fi:=hF i g1
      have fk:=hF k hk
      have m1:=hm _ _ f0.1 (hle f i a1 g1) fi.2
      have m2:=hm _ _ fi.1 (hle i k a2 hk) fk.2
      rw [hR f (by omega)] at h1
      rw [hR k hk] at h2
      rw [hR i g1]
      unfold Agr at *
      omega
theorem s30_curve {C : Sl FluxStep} {R : Int → Span} (hC : CUp C R 1000001) (hl : C.len ≤ 82) (rates : Span) (hm : ∀ x y, 0 ≤ x → x ≤ y → y ≤ 1000000 → (R y).Low ≤ (R x).Low ∧ (R y).High ≤ (R x).High) :
    p30_at0 rates C = true ∧ (((s30_at0 rates C).2 = true ∧ (0 ≤ (s30_at0 rates C).1.Low ∧ (s30_at0 rates C).1.Low ≤ (s30_at0 rates C).1.High ∧ (s30_at0 rates C).1.High ≤ 1000000) ∧ ∀ x, 0 ≤ x → x ≤ 1000000 → (Agr rates (R x) ↔ (s30_at0 rates C).1.Low ≤ x ∧ x ≤ (s30_at0 rates C).1.High)) ∨
      ((s30_at0 rates C).2=false∧∀ x,0≤x→x≤1000000→¬ Agr rates (R x))):=by
  have hF:∀ i,i < C.len→0≤(C.get i).From∧(C.get i).From≤1000000:=fun i hi=>by
    have h1:=hC.2.2.1 i hi
    have h2:=cup_inc hC i 0 (by omega)
    rw [Nat.zero_add,hC.2.1] at h2
    omega
  have key:∀ (m q i:Nat) (a b:Int),i+m=C.len→m < q →
      ((a = -1∧∀ j,j < i→¬ Agr rates (C.get j).Rate)∨(∃ f k,f≤k∧k < i∧a=(C.get f).From∧b=enD C k∧Agr rates (C.get f).Rate∧Agr rates (C.get k).Rate∧(∀ j,j < f→¬ Agr rates (C.get j).Rate)∧(∀ j,k < j→j < i→¬ Agr rates (C.get j).Rate))) →
      p30_lp1 rates C q (i:Int) a b=true∧∀ d,d=s30_lp1 rates C q (i:Int) a b→((d.2=true∧(0≤d.1.Low∧d.1.Low≤d.1.High∧d.1.High≤1000000)∧∀ x,0≤x→x≤1000000→(Agr rates (R x)↔d.1.Low≤x∧x≤d.1.High))∨(d.2=false∧∀ x,0≤x→x≤1000000→¬ Agr rates (R x))):=by
    intro m
    induction m with
    | zero =>
      intro q i a b hi hq hab
      obtain ⟨q,rfl⟩:∃ k',q=k'+1:=⟨q - 1,by omega⟩
      have es:s30_lp1 rates C (q+1) (i:Int) a b=s30_st1 rates C (s30_lp1 rates C q) (i:Int) a b:=rfl
      have ep:p30_lp1 rates C (q+1) (i:Int) a b=p30_st1 rates C (p30_lp1 rates C q) (i:Int) a b:=rfl
      rw [es,ep]
      unfold p30_st1 s30_st1
      rw [decide_eq_false (show ¬ (i:Int) < (C.len:Int) by omega),cond_false,cond_false]
      refine ⟨rfl,fun d hd=>?_⟩
      rcases hab with ⟨h1,h2⟩ | ⟨f,k,h1,h2,h3,h4,h5,h6,h7,h8⟩
      · rw [decide_eq_true (show a < 0 by omega), cond_true] at hd
        subst hd
        refine Or.inr ⟨rfl,fun x x0 x1 ha=>?_⟩
        obtain ⟨j,g1,g2,g3⟩:=cup_at hC x0
        rw [← hC.2.2.2.2 x x0 (by omega) j g1 g2 g3] at ha
        exact h2 j (by omega) ha
      · have := hF f (by omega)
        rw [decide_eq_false (show ¬ a < 0 by omega),cond_false] at hd
        subst hd
        have r:=agr_iff hC hm h1 (by omega) h5 h6 h7 (fun j a b=>h8 j a (by omega))
        rw [← h3,← h4] at r
        exact Or.inl ⟨rfl,r.1,r.2⟩
    | succ m ih =>
      intro q i a b hi hq hab
      obtain ⟨q,rfl⟩:∃ k',q=k'+1:=⟨q - 1,by omega⟩
      have es:s30_lp1 rates C (q+1) (i:Int) a b=s30_st1 rates C (s30_lp1 rates C q) (i:Int) a b:=rfl
      have ep:p30_lp1 rates C (q+1) (i:Int) a b=p30_st1 rates C (p30_lp1 rates C q) (i:Int) a b:=rfl
      rw [es,ep]
      have hil:i < C.len:=by omega
      have e3:w64 ((i:Int)+1)=((i+1:Nat):Int):=by rw [w64_id (by omega) (by omega)];omega
      have body:p30_at2 (p30_lp1 rates C q) rates C (i:Int) (enD C i) a b=true∧∀ d,d=s30_at2 (s30_lp1 rates C q) rates C (i:Int) (enD C i) a b→((d.2=true∧(0≤d.1.Low∧d.1.Low≤d.1.High∧d.1.High≤1000000)∧∀ x,0≤x→x≤1000000→(Agr rates (R x)↔d.1.Low≤x∧x≤d.1.High))∨(d.2=false∧∀ x,0≤x→x≤1000000→¬ Agr rates (R x))):=by
        unfold p30_at2 s30_at2
        rw [decide_eq_true (show 0≤(i:Int)∧(i:Int) < (C.len:Int) by omega),Int.toNat_natCast,e3]
        have no : ¬ Agr rates (C.get i).Rate→_:=fun hno=>ih q (i+1) a b (by omega) (by omega) (by
          rcases hab with ⟨h1,h2⟩ | ⟨f,k,h1,h2,h3,h4,h5,h6,h7,h8⟩
          · exact Or.inl ⟨h1,fun j hj=>by
              by_cases e:j=i
              · rw [e];exact hno
              · exact h2 j (by omega)⟩
          · exact Or.inr ⟨f,k,h1,by omega,h3,h4,h5,h6,h7,fun j g1 g2=>by
              by_cases e:j=i
              · rw [e];exact hno
              · exact h8 j g1 (by omega)⟩)
        by_cases c1:(C.get i).Rate.Low≤rates.High
        · rw [decide_eq_true c1]
          by_cases c2:(C.get i).Rate.High ≥ rates.Low
          · rw [decide_eq_true c2]
            have hyes:Agr rates (C.get i).Rate:=⟨c1,c2⟩
            rcases hab with ⟨h1,h2⟩ | ⟨f,k,h1,h2,h3,h4,h5,h6,h7,h8⟩
            · rw [decide_eq_true (show a < 0 by omega)]
              have r:=ih q (i+1) (C.get i).From (enD C i) (by omega) (by omega) (Or.inr ⟨i,i,Nat.le_refl _,by omega,rfl,rfl,hyes,hyes,h2,fun j g1 g2=>by omega⟩)
              simp only [cond_true,Bool.true_and]
              exact r
            · have := hF f (by omega)
              rw [decide_eq_false (show ¬ a < 0 by omega)]
              have r:=ih q (i+1) a (enD C i) (by omega) (by omega) (Or.inr ⟨f,i,by omega,by omega,h3,rfl,h5,hyes,h7,fun j g1 g2=>by omega⟩)
              simp only [cond_true,cond_false,Bool.true_and]
              exact r
          · rw [decide_eq_false c2]
            have r:=no fun h=>c2 h.2
            simp only [cond_true,cond_false,Bool.true_and]
            exact r
        · rw [decide_eq_false c1]
          have r:=no fun h=>c1 h.1
          simp only [cond_false,Bool.true_and]
          exact r
      unfold p30_st1 s30_st1
      rw [decide_eq_true (show (i:Int) < (C.len:Int) by omega),e3]
      by_cases hn:i+1 < C.len
      · have hE : enD C i = (C.get (i + 1)).From - 1 := by unfold enD; rw [if_pos hn]
        have:=hF (i+1) hn
        rw [decide_eq_true (show ((i+1:Nat):Int) < (C.len:Int) by omega),decide_eq_true (show 0≤((i+1:Nat):Int)∧((i+1:Nat):Int) < (C.len:Int) by omega),Int.toNat_natCast,w64_id (x:=(C.get (i+1)).From - 1) (by omega) (by omega),← hE]
        simp only [cond_true,Bool.true_and]
        exact body
      · have hE : enD C i = 1000000 := by unfold enD; rw [if_neg hn]
        rw [hE] at body
        rw [decide_eq_false (show ¬ ((i+1:Nat):Int) < (C.len:Int) by omega)]
        simp only [cond_true,cond_false]
        exact body
  have r:=key C.len Fuel 0 (-1) 0 (by omega) (by simp only [Fuel];omega) (Or.inl ⟨rfl,fun j h=>absurd h (by omega)⟩)
  exact ⟨r.1,r.2 _ rfl⟩
end Go.Proofs
namespace Go.Proofs
open Go Go.Pm
set_option linter.unusedVariables false
instance (rates r:Span):Decidable (Agr rates r):=by unfold Agr;infer_instance
theorem sl_eta {α:Type} (x:Sl α):(⟨x.len,x.get⟩:Sl α)=x:=rfl
theorem s30_ok {s:Sky} {t:Sl RangeRow} {bin:Int} {l:Sl Spell} (rates:Span) (hf:Fine s t bin 0) (hl:LOk l):p30 s t bin rates l=true ∧
    (((s30 s t bin rates l).2 = true ∧ (0 ≤ (s30 s t bin rates l).1.Low ∧ (s30 s t bin rates l).1.Low ≤ (s30 s t bin rates l).1.High ∧ (s30 s t bin rates l).1.High ≤ 1000000) ∧ ∀ x, 0 ≤ x → x ≤ 1000000 → (Agr rates (rtV s t bin l x) ↔ (s30 s t bin rates l).1.Low ≤ x ∧ x ≤ (s30 s t bin rates l).1.High)) ∨
      ((s30 s t bin rates l).2=false∧∀ x,0≤x→x≤1000000→¬ Agr rates (rtV s t bin l x))):=by
  obtain ⟨h1,h2⟩:=s28_ok hf hl
  obtain ⟨k1,k2,k3⟩:=s70_ok hf hl
  have h3:(s28 s t bin l).len≤82:=by rw [← cup_len k2 h2];exact k3
  obtain ⟨r1,r2⟩:=s30_curve h2 h3 rates (rt_mono hf hl)
  unfold p30 s30
  rw [h1,r1]
  exact ⟨rfl,r2⟩
theorem at9_5 {s : Sky} {t : Sl RangeRow} {bin x : Int} {rates : Span} {l : Sl Spell} (hs : SL s) (ht : t.len ≤ 9223372036854775807) (hll : l.len ≤ 9223372036854775807) (hf : Fine s t bin 0) (hl : LOk l) (d : Span × Int) (hd : OpOk (rtV s t bin l) rates d) :
    p5_at9 s t bin rates l x d.2 d.1.Low d.1.High s.Bins=true∧s5_at9 s t bin rates l x d.2 d.1.Low d.1.High s.Bins=true:=by
  obtain ⟨g1,g2⟩:=s30_ok rates hf hl
  -- whatever opacity somebody proposes
  have at11:p5_at11 s t bin rates l x d.2 d.1.Low d.1.High s.Bins=true∧s5_at11 s t bin rates l x d.2 d.1.Low d.1.High s.Bins=true:=by
    unfold p5_at11 s5_at11
    by_cases h0:x < 0
    · rw [decide_eq_true h0];exact ⟨rfl,rfl⟩
    by_cases h1:x > 1000000
    · rw [decide_eq_false h0,decide_eq_true h1];exact ⟨rfl,rfl⟩
    rw [decide_eq_false h0,decide_eq_false h1,cond_false,cond_false,cond_false,cond_false]
    have hfx:Fine s t bin x:=⟨hf.1,hf.2.1,hf.2.2.1,by omega,by omega⟩
    obtain ⟨b1,b2,_⟩:=s23_ok s t bin x l hs ht hll
    unfold p5_at12 s5_at12
    rw [show (⟨s.Parts,s.Bins,s.Beta,s.Alpha⟩:Sky)=s from rfl,b1,b2 ⟨hfx,hl⟩]
    refine ⟨rfl,?_⟩
    have em:meanV s (expd s t bin x) l=rtV s t bin l x:=rfl
    rw [em]
    have key:decide (Agr rates (rtV s t bin l x))=(d.2 == 0 && (decide (x ≥ d.1.Low) && decide (x≤d.1.High))):=by
      rcases hd with ⟨d0,_,d2⟩ | ⟨d0,d1⟩
      · have h := d2 x (by omega) (by omega)
        rw [d0,show decide (Agr rates (rtV s t bin l x))=decide (d.1.Low≤x∧x≤d.1.High) from decide_eq_decide.2 h]
        by_cases a:d.1.Low≤x <;> by_cases b:x≤d.1.High <;> simp [a,b]
      · rw [decide_eq_false (d1 x (by omega) (by omega)), d0]
        rfl
    show s5_at13 rates x d.2 d.1.Low d.1.High 0 (rtV s t bin l x).Low (rtV s t bin l x).High=true
    unfold s5_at13
    have eA:decide (Agr rates (rtV s t bin l x))=(decide ((rtV s t bin l x).Low≤rates.High) && decide ((rtV s t bin l x).High ≥ rates.Low)):=by
      by_cases a:(rtV s t bin l x).Low≤rates.High
      · by_cases b : (rtV s t bin l x).High ≥ rates.Low
        · rw [decide_eq_true (show Agr rates (rtV s t bin l x) from ⟨a,b⟩),decide_eq_true a,decide_eq_true b];rfl
        · rw [decide_eq_false (show ¬ Agr rates (rtV s t bin l x) from fun h=>b h.2),decide_eq_true a,decide_eq_false b];rfl
      · rw [decide_eq_false (show ¬ Agr rates (rtV s t bin l x) from fun h=>a h.1),decide_eq_false a];rfl
    rw [eA] at key
    revert key
    cases decide ((rtV s t bin l x).Low≤rates.High) <;> cases decide ((rtV s t bin l x).High ≥ rates.Low) <;> cases d.2 == 0 <;> cases decide (x ≥ d.1.Low) <;> cases decide (x≤d.1.High) <;> intro key <;> first | rfl | exact absurd key (by decide)
  unfold p5_at9 s5_at9
  rw [show (⟨s.Parts,s.Bins,s.Beta,s.Alpha⟩:Sky)=s from rfl,g1]
  generalize s30 s t bin rates l=w at g2
  unfold p5_at10 s5_at10
  rcases g2 with ⟨w0,w1,w2⟩ | ⟨w0,w1⟩
  · rcases hd with ⟨d0, d1, d2⟩ | ⟨_, d1⟩
    · have e1:d.1.Low=w.1.Low:=by
        have a:=(w2 d.1.Low d1.1 (by omega)).1 ((d2 d.1.Low d1.1 (by omega)).2 ⟨Int.le_refl _,d1.2.1⟩)
        have b:=(d2 w.1.Low w1.1 (by omega)).1 ((w2 w.1.Low w1.1 (by omega)).2 ⟨Int.le_refl _,w1.2.1⟩)
        omega
      have e2:d.1.High=w.1.High:=by
        have a:=(w2 d.1.High (by omega) d1.2.2).1 ((d2 d.1.High (by omega) d1.2.2).2 ⟨d1.2.1,Int.le_refl _⟩)
        have b:=(d2 w.1.High (by omega) w1.2.2).1 ((w2 w.1.High (by omega) w1.2.2).2 ⟨w1.2.1,Int.le_refl _⟩)
        omega
      rw [w0,show (d.2 != 0)=false by simp [d0],show (d.1.Low == w.1.Low)=true by simp [e1],show (d.1.High == w.1.High)=true by simp [e2]]
      simp only [decide_true,Bool.true_and,Bool.not_true,cond_true,cond_false]
      exact at11
    · exact absurd ((w2 w.1.Low w1.1 (by omega)).2 ⟨Int.le_refl _,w1.2.1⟩) (d1 _ w1.1 (by omega))
  · rcases hd with ⟨d0, d1, d2⟩ | ⟨d0, _⟩
    · exact absurd ((d2 d.1.Low d1.1 (by omega)).2 ⟨Int.le_refl _,d1.2.1⟩) (w1 _ d1.1 (by omega))
    · have e1 : d.2 = 5 := by rw [d0]
      have e2:d.1.Low=0:=by rw [d0]
      have e3:d.1.High=0:=by rw [d0]
      rw [w0,show (d.2 != 5)=false by simp [e1],show (d.1.Low == 0)=true by simp [e2],show (d.1.High == 0)=true by simp [e3]]
      simp only [decide_true,Bool.true_and,Bool.not_true,Bool.not_false,cond_true,cond_false]
      exact at11
theorem law5 (s:Sky) (t:Sl RangeRow) (bin:Int) (rates:Span) (l:Sl Spell) (x:Int) (hs:SL s) (ht:t.len≤9223372036854775807) (hl:l.len≤9223372036854775807):p5 s t bin rates l x=true∧s5 s t bin rates l x=true:=by
  obtain ⟨c1,c2⟩:=s16_ok s hs
  obtain ⟨d1,d2⟩:=s17_ok t ht
  obtain ⟨f1,f2⟩:=s22_ok l hl
  obtain ⟨_,e1⟩:=s75_ok s hs
  obtain ⟨_,e2⟩:=s62_ok t ht
  obtain ⟨_,e3⟩:=s67_ok l hl
  obtain ⟨a1,a2,a3⟩:=s25_ok s t bin rates l hs ht hl
  obtain ⟨b1,b2,b3⟩:=s26_ok s t bin l hs ht hl
  have go:p5_at1 s t bin rates l x s.Bins=true∧s5_at1 s t bin rates l x s.Bins=true:=by
    have bad : ¬ (Fine s t bin 0∧LOk l)→p5_at4 s t bin rates l x (s25 s t bin rates l).2 (s25 s t bin rates l).1.Low (s25 s t bin rates l).1.High (s26 s t bin l).1 (s26 s t bin l).2 false s.Bins=true ∧
        s5_at4 s t bin rates l x (s25 s t bin rates l).2 (s25 s t bin rates l).1.Low (s25 s t bin rates l).1.High (s26 s t bin l).1 (s26 s t bin l).2 false s.Bins=true:=by
      intro h
      rw [a3 fun h'=>h h'.1,b3 h]
      exact ⟨rfl,rfl⟩
    unfold p5_at1 s5_at1 p5_at2 s5_at2 p5_at3 s5_at3
    rw [show (⟨s.Parts,s.Bins,s.Beta,s.Alpha⟩:Sky)=s from rfl,a1,b1,c1,c2,d1,d2,f1,f2]
    simp only [decide_true,Bool.true_and]
    cases h1:s75 s
    · have hno : ¬ SOk s := fun h => absurd (e1.2 h) (by rw [h1]; exact Bool.false_ne_true)
      rw [cond_false,cond_false]
      exact bad fun h=>hno h.1.1
    cases h2:s62 t
    · have hno : ¬ TOk t := fun h => absurd (e2.2 h) (by rw [h2]; exact Bool.false_ne_true)
      rw [cond_true,cond_true,cond_false,cond_false]
      exact bad fun h=>hno h.1.2.1
    by_cases h3 : ¬ bin ≥ 0
    · rw [decide_eq_false h3, cond_true, cond_true, cond_true, cond_true, cond_false, cond_false]
      exact bad fun h=>by have:=h.1.2.2.1;omega
    have h3:=Decidable.of_not_not h3
    by_cases h4 : ¬ bin < (s.Bins.len:Int)
    · rw [decide_eq_true h3, decide_eq_false h4, cond_true, cond_true, cond_true, cond_true, cond_true, cond_true, cond_false, cond_false]
      exact bad fun h=>by have:=h.1.2.2.1;omega
    have h4:=Decidable.of_not_not h4
    rw [decide_eq_true h3,decide_eq_true h4,cond_true,cond_true,cond_true,cond_true,cond_true,cond_true,cond_true,cond_true]
    cases h7:s67 l
    · have hno : ¬ LOk l := fun h => absurd (e3.2 h) (by rw [h7]; exact Bool.false_ne_true)
      exact bad fun h=>hno h.2
    have hf:Fine s t bin 0:=⟨e1.1 h1,e2.1 h2,⟨by omega,by omega⟩,by omega,by omega⟩
    have hll:=e3.1 h7
    obtain ⟨k1,k2,k3⟩:=s70_ok hf hll
    obtain ⟨g1,g2⟩:=s28_ok hf hll
    obtain ⟨m1,m2⟩:=s27_ok k2 g2 k3
    unfold p5_at4 s5_at4 p5_at5 s5_at5
    rw [show (⟨s.Parts,s.Bins,s.Beta,s.Alpha⟩:Sky)=s from rfl,b2 ⟨hf,hll⟩,g1,sl_eta,m1,m2]
    simp only [decide_true,Bool.true_and,Bool.not_true,cond_false,bne_self_eq_false]
    unfold p5_at6 s5_at6 p5_at7 s5_at7 p5_at8 s5_at8
    rw [s29_eq]
    by_cases hr : ¬ (0≤rates.Low∧rates.Low≤rates.High∧rates.High≤s.Parts)
    · rw [decide_eq_false hr, a3 fun h => hr h.2]
      exact ⟨rfl,rfl⟩
    have hr:=Decidable.of_not_not hr
    rw [decide_eq_true hr]
    have r:=at9_5 (x:=x) hs ht hl hf hll _ (a2 ⟨⟨hf,hll⟩,hr⟩)
    simp only [Bool.not_true,cond_false]
    exact r
  have r0:p5_at0 s t bin rates l x (decide ((l.len:Int) > 60)) s.Bins=true∧s5_at0 s t bin rates l x (decide ((l.len:Int) > 60)) s.Bins=true:=by
    unfold p5_at0 s5_at0
    by_cases h:(l.len:Int) > 60
    · rw [decide_eq_true h];exact ⟨rfl,rfl⟩
    · rw [decide_eq_false h,cond_false,cond_false];exact go
  have r1:p5_at0 s t bin rates l x true s.Bins=true∧s5_at0 s t bin rates l x true s.Bins=true:=⟨rfl,rfl⟩
  unfold p5 s5
  rw [s15_p s t hs]
  simp only [decide_true,Bool.true_and]
  cases s15 s t
  · exact r1
  by_cases g1:(l.len:Int) > 20
  · by_cases g2 : (l.len : Int) ≤ 50
    · rw [decide_eq_true g1,decide_eq_true g2];exact r1
    · rw [decide_eq_true g1, decide_eq_false g2]
      simp only [Bool.not_true,cond_true,cond_false]
      exact r0
  · rw [decide_eq_false g1]
    simp only [Bool.not_true,cond_false]
    exact r0
end Go.Proofs
