/- Part 4 of what the proof rests on: a machine that runs functions of the program on pure values, proved sound; the functions that the law reaches, and what they compute. -/
import Derived.Test.YtkpjhhoafenogaaQ3
import Derived.Sort.OwnSortedInts
import Derived.Lib.SlicesCompact
import Derived.ProofKit
import Derived.Deep.Slices
import Derived.Shelf.SlSortCmp.WholeK
import Derived.Test.YtkpjhhoafenogaaProg
import Derived.Shelf.SlSortCmp.NoneTotal
set_option linter.all false
namespace Go.Pm

structure Tabs where
  fn:List (Nat×(List PA→COut))
  own:List (Nat×OwnK)
  it:List (Nat×(List PA→Option (Prop×List (List PA))))
def zuB : List (Nat × (List PA → COut)) → Nat → List PA → COut
  | [],_=>fun _=>.no
  | (k,c) :: r,n=>match Nat.beq k n with | true=>c | false=>zuB r n
def zuC (l:List (Nat×OwnK)) (f:Nat):OwnK:=match lk l f with | some c=>c | none=>.none
def zC0 (l:List (Nat×(List PA→Option (Prop×List (List PA))))) (f:Nat):List PA→Option (Prop×List (List PA)):=match lk l f with | some c=>c | none=>fun _=>none
def csm (T:Tabs) (memo:Nat→Int→List Int) (vv:Nat→Bool):Ctrs:=⟨zuB T.fn,zuC T.own,zC0 T.it,memo,vv⟩
abbrev cs (T:Tabs):Ctrs:=csm T (fun _ _=>[]) (fun _=>false)
def Tabs.nil:Tabs:=⟨[],[],[]⟩
def Tabs.addF (T:Tabs) (f:Nat) (c:List PA→COut):Tabs:=⟨(f,c) :: T.fn,T.own,T.it⟩
def Tabs.addO (T:Tabs) (f:Nat) (c:OwnK):Tabs:=⟨T.fn,(f,c) :: T.own,T.it⟩
def Tabs.addI (T:Tabs) (f:Nat) (c:List PA→Option (Prop×List (List PA))):Tabs:=⟨T.fn,T.own,(f,c) :: T.it⟩

theorem zKe {P:Program} {f:Nat} : Ok P f (fun _=>.no):=fun _ _ h=>h.elim
theorem zKf {P:Program} {f:Nat} : zBs P f (fun _=>none):=fun _ _ _ h=>by cases h

structure TabsOk (P : Program) (T : Tabs) : Prop where
  fn:∀ x∈T.fn,Ok P x.1 x.2
  own:∀ x∈T.own,zlD P x.1 x.2
  it:∀ x∈T.it,zBs P x.1 x.2
theorem TabsOk.nil {P:Program} : TabsOk P .nil:=⟨fun _ h=>(by cases h),fun _ h=>(by cases h),fun _ h=>(by cases h)⟩
theorem TabsOk.addF {P:Program} {T:Tabs} (h:TabsOk P T) {f:Nat} {c:List PA→COut} (hc:Ok P f c):TabsOk P (T.addF f c) :=
 ⟨fun x hx=>(List.mem_cons.1 hx).elim (fun e=>by rw [e];exact hc) (fun hx=>h.fn x hx),h.own,h.it⟩
theorem TabsOk.addO {P:Program} {T:Tabs} (h:TabsOk P T) {f:Nat} {c:OwnK} (hc:zlD P f c):TabsOk P (T.addO f c) :=
 ⟨h.fn,fun x hx=>(List.mem_cons.1 hx).elim (fun e=>by rw [e];exact hc) (fun hx=>h.own x hx),h.it⟩
theorem TabsOk.addI {P:Program} {T:Tabs} (h:TabsOk P T) {f:Nat} {c:List PA→Option (Prop×List (List PA))} (hc:zBs P f c):TabsOk P (T.addI f c) :=
 ⟨h.fn,h.own,fun x hx=>(List.mem_cons.1 hx).elim (fun e=>by rw [e];exact hc) (fun hx=>h.it x hx)⟩
theorem TabsOk.all {P:Program} {T:Tabs} (h:TabsOk P T) (memo:Nat→Int→List Int) (vv:Nat→Bool):OkAll P (csm T memo vv):=by
 refine ⟨fun f=>?_,fun f=>?_,fun f=>?_⟩
 ·show Ok P f (zuB T.fn f)
  have key:∀ l:List (Nat×(List PA→COut)),(∀ x∈l,Ok P x.1 x.2)→Ok P f (zuB l f):=by
   intro l
   induction l with
   | nil=>intro _;exact zKe
   | cons x l ih =>
    intro hl
    obtain ⟨k,c⟩:=x
    simp only [zuB]
    split
    ·rename_i e
     have:=hl (k,c) List.mem_cons_self
     rw [← Nat.eq_of_beq_eq_true e];exact this
    ·exact ih fun x hx=>hl x (List.mem_cons_of_mem _ hx)
  exact key T.fn h.fn
 ·show zlD P f (zuC T.own f)
  unfold zuC
  split
  ·rename_i c hc;exact h.own _ (zcu hc)
  ·trivial
 ·show zBs P f (zC0 T.it f)
  unfold zC0
  split
  ·rename_i c hc;exact h.it _ (zcu hc)
  ·exact zKf

theorem zaG {P : Program} {T : Tabs} (hT : TabsOk P T) {f : FuncId} {C : List PA → COut} (hc : zai P f)
    (h:∀ args K,(C args).wp K→∃ memo vv ann,vcFun P (csm T memo vv) ann f args K):Ok P f C :=
  zAa (hT.all (fun _ _=>[]) (fun _=>false)) hc h
theorem zHn {P : Program} {T : Tabs} (hT : TabsOk P T) {f : FuncId} {C : List PA → Option (Prop × List (List PA))} (hc : zai P f)
    (h:∀ l caps safe ys,C caps=some (safe,ys)→safe→∃ memo vv ann,vcIter P (csm T memo vv) ann f l caps ys):zBs P f C :=
  zAe (hT.all (fun _ _=>[]) (fun _=>false)) hc h
theorem zuD {P : Program} {T : Tabs} (hT : TabsOk P T) {f : FuncId} {e s b : Nat} (hc : zai P f)
    (h:∀ n get,n * b≤140737488355328→n≤9223372036854775807→∃ memo vv ann,zuA P (csm T memo vv) ann f [.one (.sl n s get)] e s b n get):zlD P f (.clone e s b) :=
  zpk (hT.all (fun _ _=>[]) (fun _=>false)) hc h

structure Sl (α : Type) where
  len:Nat
  get:Nat→α
instance {α:Type} [Inhabited α]:Inhabited (Sl α):=⟨⟨0,fun _=>default⟩⟩
abbrev w64 (x:Int):Int:=IntKind.i64.wrap x

def IsE {α:Type} (enc:α→List PV) (size s:Nat) (g:Nat→List PV):Prop:=s=size∧∃ f:Nat→α,g=fun i=>enc (f i)
theorem isE {α:Type} {enc:α→List PV} {size:Nat} {f:Nat→α} : IsE enc size size (fun i=>enc (f i)):=⟨rfl,f,rfl⟩
def zdt {α:Type} (n:Nat) (get new:Nat→α):Nat→α:=fun j=>match Nat.ble n j with | true=>new (j - n) | false=>get j
theorem zAf {α:Type} {enc:α→List PV} {n:Nat} {f h:Nat→α} : appG n (fun i=>enc (f i)) (fun i=>enc (h i))=fun i=>enc (zdt n f h i):=by
 funext j;simp only [appG,zdt];cases Nat.ble n j <;> rfl
def ziA {α : Type} (x : α) : List α → Nat → α
  | [],_=>x
  | y :: _,0=>y
  | _ :: r,i+1=>ziA x r i
theorem zeC {α:Type} {enc:α→List PV} {x y:α} {r:List α} : zdg (enc x :: enc y :: r.map enc)=fun i=>enc (ziA x (x :: y :: r) i):=by
 have key:∀ (l:List α) (i:Nat),(match (l.map enc)[i]? with | some z=>z | none=>enc x)=enc (ziA x l i):=by
  intro l
  induction l with
  | nil=>intro i;rfl
  | cons a l ih =>
   intro i
   cases i with
   | zero=>rfl
   | succ i=>simpa [ziA] using ih i
 funext i
 exact key (x :: y :: r) i
theorem zfB {α:Type} {enc:α→List PV} {size:Nat} {x y:α} (r:List α):IsE enc size size (zdg (enc x :: enc y :: r.map enc)):=⟨rfl,_,zeC⟩

theorem zcg {b:Bool} {A B:Prop} {S S':Bool} {α:Type} {K:α→Prop} {x y:α} (h1:S=true→K x→A) (h2:S'=true→K y→B) (hs:cond b S S'=true) (hk:K (cond b x y)):zcZ b A B:=by
 cases b
 ·exact h2 hs hk
 ·exact h1 hs hk
theorem zl5 {b:Bool} {A B:Prop} {S S':Bool} {α β:Type} {f:α→β} {ys:List β} {x y:List α} (hs:cond b S S'=true) (hk:ys=(cond b x y).map f) (h1:S=true→ys=x.map f→A) (h2:S'=true→ys=y.map f→B):zcZ b A B:=by
 cases b
 ·exact h2 hs hk
 ·exact h1 hs hk
theorem itY {α β:Type} {f:α→β} {ys:List β} {p:β} {x r:List α} {l:Nat} {A:List β→Prop} (hk:ys=x.map f) (e:x.map f=p :: r.map f) (h:∀ zs,zs=r.map f→A zs):l=l∧∃ z,ys=p :: z∧A z∧True :=
 ⟨rfl,_,hk.trans e,h _ rfl,trivial⟩
theorem zaw {C A:Prop} [d:Decidable C] {r:Bool} (hs:(decide C && r)=true) (k:C→r=true→A):A:=by
 rw [Bool.and_eq_true] at hs
 exact k (of_decide_eq_true hs.1) hs.2
abbrev Fuel:Nat:=9223372036854775808
def setT {α:Type} (i:Nat) (v:α) (get:Nat→α):Nat→α:=fun j=>match Nat.beq j i with | true=>v | false=>get j
theorem zjd {α:Type} {enc:α→List PV} {n:Nat} {g g':Nat→List PV} {f h:Nat→α} (h1:g=fun i=>enc (f i)) (h2:g'=fun i=>enc (h i)):appG n g g'=fun i=>enc (zdt n f h i):=by
 subst h1;subst h2;exact zAf
def zL6 (P:Program) (G:Ctrs) (ann:Ann) (hd:Nat) (ps:List Nat) (assign body:Code) (X:List (List PA)→St→Prop) (K:Exit→St→Prop) (y:List PA) (rest:List (List PA)) (s:St):Prop :=
 match lk ann.head hd with
 | some k=>match zgw ps y s.env with
  | some env=>vc P G ann assign (zCB (vc P G ann body (zkZ P k (X rest) K)) fun _ _=>False) ⟨env,s.objs,[]⟩
  | none=>False
 | none=>False
def sortB (n:Nat) (p:Nat→Nat→Bool) (c:Nat→Nat→Int):Bool :=
  (List.range n).all fun i => decide (0 ≤ c i i) && (List.range n).all fun j => p i j && (Nat.beq i j || (decide (c i j < 0) && decide (0 ≤ c j i)) || (decide (c j i < 0) && decide (0 ≤ c i j))) &&
    (List.range n).all fun k=>!(decide (c i j < 0) && decide (c j k < 0)) || decide (c i k < 0)
theorem zAg {n:Nat} {p:Nat→Nat→Bool} {c c':Nat→Nat→Int} {s:Nat→Nat→Prop} (h:sortB n p c=true) (hp:∀ i j,p i j=true→s i j) (hc:c'=c):(∀ i j,i < n→j < n→s i j)∧STO n c':=by
 subst hc
 simp only [sortB,List.all_eq_true,List.mem_range,Bool.and_eq_true,Bool.or_eq_true,decide_eq_true_eq,Bool.not_eq_true',Bool.and_eq_false_iff,decide_eq_false_iff_not] at h
 refine ⟨fun i j hi hj=>hp i j ((h i hi).2 j hj).1.1,fun i hi=>(h i hi).1,fun i j hi hj hne=>?_,fun i j k hi hj hk h1 h2=>?_⟩
 ·rcases ((h i hi).2 j hj).1.2 with (h1 | h1) | h1
  ·exact absurd (Nat.eq_of_beq_eq_true h1) hne
  ·exact .inl h1
  ·exact .inr h1
 ·rcases ((h i hi).2 j hj).2 k hk with (h3 | h3) | h3
  ·exact absurd h1 h3
  ·exact absurd h2 h3
  ·exact h3
end Go.Pm
namespace Go.Pm
open Go Go.Sort

/-! Nil slices are slices of length 0. -/
inductive PVle : PV → PV → Prop
  | rfl (p:PV):PVle p p
  | nil (s:Nat) (g:Nat→List PV):PVle .nils (.sl 0 s g)
  | nilm (q:MQ):PVle .nilm (.fm q 0 (fun _=>none))
inductive PAle : PA → PA → Prop
  | one {p q:PV} : PVle p q→PAle (.one p) (.one q)
  | agg {l m:List PV} : RL PVle l m→PAle (.agg l) (.agg m)
theorem zhf {α β:Type} {R:α→β→Prop} : RL R [] []:=trivial
theorem zc6 {α β:Type} {R:α→β→Prop} {a:α} {b:β} {l:List α} {m:List β} (h:R a b) (h':RL R l m):RL R (a :: l) (b :: m):=⟨h,h'⟩
theorem ze8 {α : Type} {R : α → α → Prop} (h : ∀ a, R a a) : ∀ l : List α, RL R l l
  | []=>trivial
  | a :: l=>⟨h a,ze8 h l⟩
theorem zfV (a:PA):PAle a a:=by
 cases a with
 | one p=>exact .one (.rfl p)
 | agg l=>exact .agg (ze8 .rfl l)
def Wk (K:List PA→Prop) (l:List PA):Prop:=∃ l',RL PAle l l'∧K l'
theorem wk {K:List PA→Prop} {l l':List PA} (hk:K l') (h:RL PAle l l'):Wk K l:=⟨l',h,hk⟩
theorem zeh {K:List PA→Prop} {l:List PA} (hk:K l):Wk K l:=⟨l,ze8 zfV l,hk⟩
theorem zHo {h:Fz} {p q:PV} {v:Value} (e:PVle p q) (r:Rep h p v):Rep h q v:=by
 cases e with
 | rfl=>exact r
 | nil s g=>cases r;exact .sl0 s g
 | nilm q=>cases r;exact .fmn q _ (fun _ _=>rfl)
theorem zAh {α β γ : Type} {R : α → β → Prop} {S : α → γ → Prop} {T : γ → β → Prop} (h : ∀ a b c, S a c → R a b → T c b) : ∀ (l : List α) (m : List β) (k : List γ), RL S l k → RL R l m → RL T k m
  | [],[],[],_,_=>trivial
  | a :: l,b :: m,c :: k,hs,hr=>⟨h a b c hs.1 hr.1,zAh h l m k hs.2 hr.2⟩
  | [],_ :: _,[],_,hr=>hr.elim
  | [],_,_ :: _,hs,_=>hs.elim
  | _ :: _,_,[],hs,_=>hs.elim
  | _ :: _,[],_ :: _,_,hr=>hr.elim
theorem zC1 {h:Fz} {a b:PA} {v:Value} (e:PAle a b) (r:paR h a v):paR h b v:=by
 cases e with
 | one e=>exact zHo e r
 | agg e =>
  obtain ⟨vs,rfl,hv⟩:=r
  exact ⟨vs,rfl,zAh (R:=Rep h) (S:=PVle) (T:=Rep h) (fun _ _ _ e r=>zHo e r) _ _ _ e hv⟩
theorem zHp {h:Fz} {l m:List PA} {v:Value} (e:RL PAle l m) (r:zzH h l v):zzH h m v:=by
 match l,m,e,r with
 | [a],[b],e,r=>exact zC1 e.1 r
 | [],[],_,r=>exact r
 | a :: b :: l,c :: d :: m,e,r =>
  obtain ⟨vs,hv,hr⟩:=r
  exact ⟨vs,hv,zAh (R:=paR h) (S:=PAle) (T:=paR h) (fun _ _ _ e r=>zC1 e r) _ _ _ e hr⟩
 | [_],_ :: _ :: _,e,_=>exact e.2.elim
 | _ :: _ :: _,[_],e,_=>exact e.2.elim
 | [],_ :: _,e,_=>exact e.elim
 | _ :: _,[],e,_=>exact e.elim
theorem zhg {P : Program} {T : Tabs} (hT : TabsOk P T) {f : FuncId} {C : List PA → COut} (hc : zai P f)
    (h:∀ args K,(C args).wp K→∃ args',RL PAle args args'∧∃ memo vv ann,vcFun P (csm T memo vv) ann f args' (Wk K)):Ok P f C:=by
  intro args K hK w h0 vs hvs hfz
  obtain ⟨args',hle,memo,vv,ann,hv⟩:=h args K hK
  refine ⟨hc,(zuy (hT.all memo vv) hv (zAh (R:=paR h0) (S:=PAle) (T:=paR h0) (fun _ _ _ e r=>zC1 e r) _ _ _ hle hvs) hfz).mono ?_⟩
  rintro e w' ⟨h',rs,v,⟨rs',hr,hk⟩,he,hres,rest⟩
  exact ⟨h',rs',v,hk,he,zHp hr hres,rest⟩
/-! Maps, as typed values; the keys of a map. -/
structure Mp where
  n:Nat
  F:List Int→Option (List Int)
instance:Inhabited Mp:=⟨⟨0,fun _=>none⟩⟩

def zHq (m:Nat) (F:List Int→Option (List Int)) (seen ys:List (List Int)):Prop :=
 ys.Nodup∧(∀ y∈ys,y.length=m∧F y ≠ none∧y ∉ seen)∧∀ c,c.length=m→F c ≠ none→c ∉ seen→c∈ys
def nodupB : List (List Int) → Bool
  | []=>true
  | y :: r=>!r.contains y && nodupB r
def keysB (m n:Nat) (F:List Int→Option (List Int)) (ys:List (List Int)):Bool :=
 Nat.beq ys.length n && ys.all (fun y=>Nat.beq y.length m && (F y).isSome) && nodupB ys
theorem zlm : ∀ {ys : List (List Int)}, nodupB ys = true ↔ ys.Nodup
  | []=>by simp [nodupB]
  | y :: r=>by simp [nodupB,zlm (ys:=r)]
theorem zn2 {α : Type} [DecidableEq α] : ∀ {l m : List α}, l.Nodup → (∀ x ∈ l, x ∈ m) → m.length ≤ l.length → ∀ x ∈ m, x ∈ l
  | [],m,_,_,hl,x,hx=>by have:m=[]:=List.eq_nil_of_length_eq_zero (by simpa using hl);rw [this] at hx;exact hx
  | a :: l,m,hn,hs,hl,x,hx=>by
    have ha:=hs a List.mem_cons_self
    by_cases h:x=a
    · rw [h];exact List.mem_cons_self
    · have hx2 : x ∈ m.erase a := (List.mem_erase_of_ne h).2 hx
      have hn2:=List.nodup_cons.1 hn
      refine List.mem_cons_of_mem _ (zn2 hn2.2 (fun z hz=>?_) ?_ x hx2)
      · have hza : z ≠ a := fun e => hn2.1 (e ▸ hz)
        exact (List.mem_erase_of_ne hza).2 (hs z (List.mem_cons_of_mem _ hz))
      · rw [List.length_erase_of_mem ha];simp at hl;omega
theorem zuE {m n:Nat} {F:List Int→Option (List Int)} {ys:List (List Int)} (h:keysB m n F ys=true) (hf:zGZ m n F):zHq m F [] ys:=by
 simp only [keysB,Bool.and_eq_true,List.all_eq_true] at h
 obtain ⟨⟨h1,h2⟩,h3⟩:=h
 have h1:=Nat.eq_of_beq_eq_true h1
 have h3:=zlm.1 h3
 obtain ⟨ks,k1,k2,k3,k4⟩:=hf
 have hy:∀ y∈ys,y.length=m∧F y ≠ none:=fun y hy=>by
  obtain ⟨a,b⟩:=h2 y hy
  refine ⟨Nat.eq_of_beq_eq_true a,fun e=>?_⟩
  rw [e] at b;cases b
 refine ⟨h3,fun y hy'=>⟨(hy y hy').1,(hy y hy').2,by simp⟩,fun c hc hne _=>?_⟩
 exact zn2 h3 (fun y hy'=>(k4 y (hy y hy').1).1 (hy y hy').2) (by rw [k1,h1];exact Nat.le_refl _) c ((k4 c hc).1 hne)
theorem zAi {m : Nat} {F : List Int → Option (List Int)} {seen ys : List (List Int)} (h : zHq m F seen ys) {c : List Int} (hc : c.length = m) (hF : F c ≠ none) (hs : c ∉ seen) :
  ys.Perm (c :: ys.erase c)∧zHq m F (c :: seen) (ys.erase c)∧(ys.erase c).length+1=ys.length:=by
 obtain ⟨h1,h2,h3⟩:=h
 have hm:=h3 c hc hF hs
 refine ⟨List.perm_cons_erase hm,⟨h1.erase c,fun y hy=>?_,fun d hd hdF hds=>?_⟩,?_⟩
 ·have := (List.Nodup.mem_erase_iff h1).1 hy
  obtain ⟨a,b,e⟩:=h2 y this.2
  exact ⟨a,b,by simp [this.1,e]⟩
 ·simp only [List.mem_cons, not_or] at hds
  exact (List.mem_erase_of_ne hds.1).2 (h3 d hd hdF hds.2)
 ·rw [List.length_erase_of_mem hm]
  have:0 < ys.length:=List.length_pos_of_mem hm
  omega
theorem zC2 {m:Nat} {F:List Int→Option (List Int)} {seen ys:List (List Int)} (h:zHq m F seen ys) (he:∀ c,c.length=m→F c ≠ none→c∈seen):ys=[]:=by
 cases ys with
 | nil=>rfl
 | cons y r =>
  obtain ⟨a,b,e⟩:=h.2.1 y List.mem_cons_self
  exact (e (he y a b)).elim

end Go.Pm
namespace Go.Pm
open Go

theorem zaO {x:Int} (h1 : -9223372036854775808≤x) (h2:x≤9223372036854775807):w64 x=x:=by
 have hb:IntKind.i64.bits=64:=rfl
 have hs:IntKind.i64.signed=true:=rfl
 unfold w64 IntKind.wrap
 rw [hb,hs]
 simp only [Bool.true_and,decide_eq_true_eq]
 split <;> omega
def zkN (c : Nat → Bool) : Nat → Nat → Nat
  | 0,i=>i
  | m+1,i=>match c i with | true=>i | false=>zkN c m (i+1)
theorem zuF {c:Nat→Bool} {m i:Nat} (h:c i=true):zkN c (m+1) i=i:=by simp only [zkN,h]
theorem zuG {c:Nat→Bool} {m i:Nat} (h:c i=false):zkN c (m+1) i=zkN c m (i+1):=by simp only [zkN,h]
theorem zje (c:Nat→Bool) (m i:Nat):i≤zkN c m i∧zkN c m i≤i+m∧(∀ j,i≤j→j < zkN c m i→c j=false)∧(zkN c m i < i+m→c (zkN c m i)=true):=by
 induction m generalizing i with
 | zero=>exact ⟨Nat.le_refl _,Nat.le_refl _,fun j h1 h2=>absurd h2 (by simp only [zkN];omega),fun h=>absurd h (by simp only [zkN];omega)⟩
 | succ m ih =>
  cases e:c i
  ·rw [zuG e]
   obtain ⟨h1,h2,h3,h4⟩:=ih (i+1)
   refine ⟨by omega,by omega,fun j hj1 hj2=>?_,fun h=>h4 (by omega)⟩
   by_cases hji:j=i
   ·rw [hji];exact e
   ·exact h3 j (by omega) hj2
  ·rw [zuF e]
   exact ⟨Nat.le_refl _,by omega,fun j h1 h2=>absurd h2 (by omega),fun _=>e⟩
def fst (c:Nat→Bool) (n:Nat):Nat:=zkN c n 0
theorem zBG (c:Nat→Bool) (n:Nat):fst c n≤n:=by have:=(zje c n 0).2.1;simpa [fst] using this
theorem zBH {c:Nat→Bool} {n j:Nat} (h:j < fst c n):c j=false:=(zje c n 0).2.2.1 j (Nat.zero_le _) h
theorem zBI {c:Nat→Bool} {n:Nat} (h:fst c n < n):c (fst c n)=true:=(zje c n 0).2.2.2 (by simpa [fst] using h)
theorem zrT {α : Type} {c : α → Bool} {lpS : Nat → Sl α → Int → Int → Int} {lpP : Nat → Sl α → Int → Int → Bool}
    (hS:∀ k s t i,lpS (k+1) s t i=cond (decide (i < t)) (cond (c (s.get i.toNat)) i (lpS k s t (w64 (i+(1:Int))))) (-1:Int))
    (hP:∀ k s t i,lpP (k+1) s t i=cond (decide (i < t)) (decide (0≤i∧i < (s.len:Int)) && cond (c (s.get i.toNat)) true (lpP k s t (w64 (i+(1:Int))))) true)
    (s:Sl α) (hn:s.len≤9223372036854775807):lpP Fuel s (s.len:Int) 0=true∧lpS Fuel s (s.len:Int) 0=if fst (fun i=>c (s.get i)) s.len < s.len then ((fst (fun i=>c (s.get i)) s.len:Nat):Int) else -1:=by
  have key:∀ (m k i:Nat),i+m=s.len→m < k→lpP k s (s.len:Int) (i:Int)=true ∧
      lpS k s (s.len:Int) (i:Int)=if zkN (fun i=>c (s.get i)) m i < s.len then ((zkN (fun i=>c (s.get i)) m i:Nat):Int) else -1:=by
    intro m
    induction m with
    | zero =>
      intro k i hi hk
      obtain ⟨k,rfl⟩:∃ k',k=k'+1:=⟨k - 1,by omega⟩
      rw [hS,hP]
      have e:decide ((i:Int) < (s.len:Int))=false:=decide_eq_false (by omega)
      rw [e]
      have e5 : ¬ zkN (fun i=>c (s.get i)) 0 i < s.len:=by show ¬ i < s.len;omega
      rw [if_neg e5]
      exact ⟨rfl,rfl⟩
    | succ m ih =>
      intro k i hi hk
      obtain ⟨k,rfl⟩:∃ k',k=k'+1:=⟨k - 1,by omega⟩
      rw [hS,hP]
      have e:decide ((i:Int) < (s.len:Int))=true:=decide_eq_true (by omega)
      have e2:decide (0≤(i:Int)∧(i:Int) < (s.len:Int))=true:=decide_eq_true (by omega)
      have e3:w64 ((i:Int)+1)=((i+1:Nat):Int):=by rw [zaO (by omega) (by omega)];omega
      have e4:(i:Int).toNat=i:=by omega
      rw [e,e2,e3,e4]
      cases hc:c (s.get i)
      · rw [zuG (c := fun i => c (s.get i)) hc]
        exact ih k (i+1) (by omega) (by omega)
      · rw [zuF (c := fun i => c (s.get i)) hc, if_pos (by omega)]
        exact ⟨rfl,rfl⟩
  exact key s.len Fuel 0 (by omega) (by simp only [Fuel];omega)

theorem zrU {good : Nat → Bool} {fin : Bool} {n : Nat} {lpS lpP : Nat → Int → Bool}
    (hS:∀ (k i:Nat),i < n→lpS (k+1) (i:Int)=cond (good i) (lpS k (w64 ((i:Int)+(1:Int)))) false)
    (hE:∀ k,lpS (k+1) (n:Int)=fin)
    (hP:∀ (k i:Nat),i < n→lpP (k+1) (i:Int)=cond (good i) (lpP k (w64 ((i:Int)+(1:Int)))) true)
    (hPE:∀ k,lpP (k+1) (n:Int)=true) (hn:n≤9223372036854775807) :
    lpP Fuel 0=true∧(lpS Fuel 0=true↔(∀ i,i < n→good i=true)∧fin=true):=by
  have key:∀ (m k i:Nat),i+m=n→m < k→lpP k (i:Int)=true∧(lpS k (i:Int)=true↔(∀ j,i≤j→j < n→good j=true)∧fin=true):=by
    intro m
    induction m with
    | zero =>
      intro k i hi hk
      obtain ⟨k,rfl⟩:∃ k',k=k'+1:=⟨k - 1,by omega⟩
      have:i=n:=by omega
      subst this
      rw [hE,hPE]
      exact ⟨rfl,⟨fun h=>⟨fun j h1 h2=>absurd h2 (by omega),h⟩,fun h=>h.2⟩⟩
    | succ m ih =>
      intro k i hi hk
      obtain ⟨k,rfl⟩:∃ k',k=k'+1:=⟨k - 1,by omega⟩
      rw [hS k i (by omega),hP k i (by omega)]
      have e3:w64 ((i:Int)+1)=((i+1:Nat):Int):=by rw [zaO (by omega) (by omega)];omega
      rw [e3]
      obtain ⟨h1,h2⟩:=ih k (i+1) (by omega) (by omega)
      cases hg:good i
      · refine ⟨rfl, ⟨fun h => (by cases h), fun h => ?_⟩⟩
        have:=h.1 i (Nat.le_refl _) (by omega)
        rw [hg] at this;cases this
      · refine ⟨h1, h2.trans ⟨fun h => ⟨fun j hj1 hj2 => ?_, h.2⟩, fun h => ⟨fun j hj1 hj2 => h.1 j (by omega) hj2, h.2⟩⟩⟩
        by_cases hji:j=i
        · rw [hji];exact hg
        · exact h.1 j (by omega) hj2
  have:=key n Fuel 0 (by omega) (by simp only [Fuel];omega)
  simpa using this

end Go.Pm
namespace Go.Pm
open Go Go.Deep

theorem zAj (b o i j:Nat):((⟨b,o,none⟩:Addr).add i).add j=⟨b,o+i+j,none⟩:=by
 simp only [Addr.add]
 by_cases h1:i=0
 ·subst h1
  by_cases h2:j=0
  ·subst h2;rfl
  ·rw [if_neg h2];rfl
 ·rw [if_neg h1]
  by_cases h2:j=0
  ·subst h2;rfl
  ·rw [if_neg h2]
def H0 (w:World):Fz:=fun b=>(w.heap[b]?).map .fz
theorem hw_H0 (w:World):Hw (H0 w) w:=by
 intro b x h
 unfold H0 at h
 cases e:w.heap[b]? with
 | none=>rw [e] at h;cases h
 | some o=>rw [e] at h;cases h;exact ⟨o,rfl,rfl⟩
def wfI (x:Int):Prop:=-9223372036854775808≤x∧x≤9223372036854775807
section
variable {H:Type} {en:TypeId×Value→H} {P:Program} {w:World} {sp:Nat→Bool} {held:Bool}
def Rd (H:Type) (en:TypeId×Value→H) (P:Program) (w:World) (sp:Nat→Bool) (held:Bool) (t:TypeId) {α:Type} (enc:α→List PV) (wf:α→Prop):Prop :=
 ∀ (fuel:Nat) (cs:List Value) (x:DataW H×List MemPlace),DataW.trod en P w 0 sp held fuel t cs=some x→∃ a:α,RL (Rep (H0 w)) (enc a) cs∧wf a
theorem zHr {t:TypeId} (ht:P.underlying t=some (.int .i64)):Rd H en P w sp held t (fun x=>[.int .i64 x]) wfI:=by
 intro fuel cs x h
 obtain ⟨n,rfl,_,hw⟩:=DataW.trod_int ht h
 refine ⟨n,⟨.int _ _,trivial⟩,?_⟩
 simp only [Lit.wf,Bool.and_eq_true,decide_eq_true_eq] at hw
 exact ⟨hw.1,hw.2⟩
theorem zuH {t : TypeId} {fs : Array Field} (ht : P.underlying t = some (.struct fs)) {fuel : Nat} {cs : List Value} {x : DataW H × List MemPlace} (h : DataW.trod en P w 0 sp held fuel t cs = some x) :
  cs.length=P.cellsOf t∧∀ (i:Nat) (f:Field),fs[i]? = some f→∃ n y,DataW.trod en P w 0 sp held n f.type ((cs.drop f.offset).take (P.cellsOf f.type))=some y:=by
 obtain ⟨xs,n,_,_,hl,hx,hf⟩:=DataW.trod_struct ht h
 refine ⟨hl,fun i f hi=>?_⟩
 have hlt:i < xs.length:=by rw [hx];exact (Array.getElem?_eq_some_iff.1 hi).1
 exact ⟨n,xs[i],by rw [hf i f hi,List.getElem?_eq_getElem hlt]⟩
theorem zAk {t e : TypeId} {α : Type} [Inhabited α] {enc : α → List PV} {wf : α → Prop} {s : Nat} (ht : P.underlying t = some (.slice e)) (hc : P.cellsOf e = s) (hs : 0 < s) (hlen : ∀ a, (enc a).length = s)
    (hel:Rd H en P w sp held e enc wf):Rd H en P w sp held t (fun x:Sl α=>[.sl x.len s (fun i=>enc (x.get i))]) (fun x=>x.len≤9223372036854775807∧∀ i,i < x.len→wf (x.get i)):=by
  intro fuel cs x h
  rcases open_slice ht h with ⟨rfl,_⟩ | ⟨a,len,cap,m,n,D,Pl,rfl,_,hl,hm,hmm,_,hget⟩
  · exact ⟨⟨0,default⟩,⟨.sl0 _ _,trivial⟩,Nat.zero_le _,fun i hi=>absurd hi (Nat.not_lt_zero i)⟩
  · by_cases h0 : len = 0
    · subst h0
      exact ⟨⟨0,default⟩,⟨.sle _ _ _ _,trivial⟩,Nat.zero_le _,fun i hi=>absurd hi (Nat.not_lt_zero i)⟩
    · have hlm : len ≤ m := by rw [hmm]; split <;> omega
      rw [hc] at hget
      have hex:∀ i,i < len→∃ y:α,(∃ cs',w.cells? 0 (a.add (i * s)) s=some cs'∧RL (Rep (H0 w)) (enc y) cs')∧wf y:=by
        intro i hi
        obtain ⟨cs',h1,h2⟩:=hget i (by omega)
        obtain ⟨y,h3,h4⟩:=hel _ _ _ h2
        exact ⟨y,⟨cs',h1,h3⟩,h4⟩
      have hch:∃ f:Nat→α,∀ i,i < len→(∃ cs',w.cells? 0 (a.add (i * s)) s=some cs'∧RL (Rep (H0 w)) (enc (f i)) cs')∧wf (f i):=by
        refine ⟨fun i=>if hi:i < len then Classical.choose (hex i hi) else default,fun i hi=>?_⟩
        simp only [dif_pos hi]
        exact Classical.choose_spec (hex i hi)
      obtain ⟨f,hf⟩:=hch
      -- the block
      have hcell:∀ i,i < len→∀ j,j < s→∃ cs',w.cells? 0 (a.add (i * s)) s=some cs'∧RL (Rep (H0 w)) (enc (f i)) cs'∧w.cell? ((a.add (i * s)).add j)=cs'[j]?∧cs'.length=s:=by
        intro i hi j hj
        obtain ⟨⟨cs',h1,h2⟩,_⟩:=hf i hi
        obtain ⟨_,h3,h4⟩:=World.cells?_some h1
        exact ⟨cs',h1,h2,h4 j hj,h3⟩
      obtain ⟨cs0,_,_,hc0,hl0⟩:=hcell 0 (by omega) 0 hs
      have ha0:w.cell? a=cs0[0]?:=by simpa [Addr.add] using hc0
      rw [List.getElem?_eq_getElem (by omega)] at ha0
      obtain ⟨C,ty,fr,hblk,hspot⟩:∃ C ty fr,w.heap[a.block]? = some (.cells C ty fr)∧a.spot=none:=by
        unfold World.cell? at ha0
        split at ha0
        · rename_i C ty fr hb
          refine ⟨C,ty,fr,hb,?_⟩
          cases hsp:a.spot with
          | none=>rfl
          | some k=>rw [hsp] at ha0;simp at ha0
        · cases ha0
      have ea:a=⟨a.block,a.off,none⟩:=by rw [← hspot]
      have hat:∀ i j,i < len→j < s→∃ cs',RL (Rep (H0 w)) (enc (f i)) cs'∧C[a.off+i * s+j]? = cs'[j]?∧cs'.length=s:=by
        intro i j hi hj
        obtain ⟨cs',_,h2,h3,h4⟩:=hcell i hi j hj
        refine ⟨cs',h2,?_,h4⟩
        rw [← h3]
        have e2:(a.add (i * s)).add j=⟨a.block,a.off+i * s+j,none⟩:=(congrArg (fun z:Addr=>(z.add (i * s)).add j) ea).trans (zAj _ _ _ _)
        rw [e2]
        simp [World.cell?,hblk]
      refine ⟨⟨len,f⟩,⟨?_,trivial⟩,by simp only [maxLen] at hm;show len≤_;omega,fun i hi=>(hf i hi).2⟩
      rw [ea]
      refine .sl len s _ a.block a.off cap C ty fr (fun i j=>C.getD (a.off+i * s+j) undef) (by simp [H0,hblk]) hl (fun i _=>hlen _) ?_ ?_
      · intro i j x hi hx
        have hj:j < s:=by have:=(List.getElem?_eq_some_iff.1 hx).1;rw [hlen] at this;exact this
        obtain ⟨cs',h1,h2,h3⟩:=hat i j hi hj
        rw [Array.getD_eq_getD_getElem?,h2,List.getElem?_eq_getElem (by omega)]
        rfl
      · intro i j x hi hx
        have hj:j < s:=by have:=(List.getElem?_eq_some_iff.1 hx).1;rw [hlen] at this;exact this
        obtain ⟨cs',h1,h2,h3⟩:=hat i j hi hj
        obtain ⟨v,hv,hr⟩:=h1.get j x hx
        rw [Array.getD_eq_getD_getElem?,h2,hv]
        exact hr
theorem zhh {α:Type} (l:List α) (o s:Nat):l.drop o=(l.drop o).take s ++ l.drop (o+s):=by
 rw [← List.drop_drop]
 exact (List.take_append_drop s (l.drop o)).symm
theorem okWide_agg {t:TypeId} {fs:Array Field} {r:Reach} {base:Nat} {v:Value} (ht:P.underlying t=some (.struct fs)) (h:Value.okWide P w r base t v):∃ cs,v=.agg cs:=by
 unfold Value.okWide at h
 rw [ht] at h
 obtain ⟨cs,hv,_⟩:=h
 exact ⟨cs,hv⟩
def zKg : TypeDesc → Bool
  | .struct _=>false
  | .array _ _=>false
  | _=>true
theorem okWide_one {t:TypeId} {d:TypeDesc} {r:Reach} {base:Nat} {v:Value} (ht:P.underlying t=some d) (hd:zKg d=true) (h:Value.okWide P w r base t v):v.cells.toList=[v]:=by
 unfold Value.okWide at h
 rw [ht] at h
 cases v with
 | agg cs =>
  exfalso
  cases d <;> first | (cases hd;done) | (simp only [Cell.okWide,Cell.ok,ht] at h)
 | _=>rfl
theorem pa_one {h:Fz} {p:PV} {v:Value} (hv:v.cells.toList=[v]) (r:RL (Rep h) [p] v.cells.toList):paR h (.one p) v:=by
 rw [hv] at r
 exact r.1
theorem pa_agg {h:Fz} {l:List PV} {v:Value} (hv:∃ cs,v=.agg cs) (r:RL (Rep h) l v.cells.toList):paR h (.agg l) v:=by
 obtain ⟨cs,rfl⟩:=hv
 exact ⟨cs.toList,by simp,r⟩
theorem below_H0 {w':World} (b:Bel (H0 w) w.heap.size w w'):Go.RowKit.Below w.heap.size w w' :=
 ⟨b.os,b.tape,b.output,b.size,fun k hk=>b.block k hk fun F e=>by
  unfold H0 at e
  cases hb:w.heap[k]? <;> rw [hb] at e <;> cases e⟩
end
end Go.Pm
/-
  DERIVED: THE SHELF's CONTRACTS AT THIS DUMP,IN PLAIN WORDS (tools/lay-plain.mjs out of 'YtkpjhhoafenogaaLs.lean',which tools/lay-shelf.mjs wrote): THE SAME DECLARATIONS UNDER THE SAME NAMES: 'import','namespace','open','def','theorem' AND NOTHING ELSE: no command of the shelf's: FOR A HAND-IN. Each laying: the table of numbers ('.._ren') and one theorem,a field a fact of the dump's own or the kernel's comparison;each contract: ONE APPLICATION.
-/
namespace Go.Proofs
open Go.Shelf
def Try.laysS106_ren:Go.Shelf.Ren:=⟨fun | 6=>106 | 15=>122 | 14=>121 | 28=>132 | 29=>133 | 20=>124 | 21=>125 | 22=>126 | 23=>127 | 24=>128 | 25=>129 | 26=>130 | 27=>131 | 46=>134 | 47=>135 | 48=>136 | 49=>137 | 50=>138 | 57=>139 | n=>n,fun | 22=>102 | 24=>118 | 25=>147 | 3=>3 | 39=>156 | 0=>0 | 53=>166 | 55=>168 | 4=>4 | 46=>159 | 45=>158 | 50=>163 | 5=>5 | 9=>9 | 66=>169 | 70=>173 | 76=>175 | 77=>143 | n=>n,fun | n=>n⟩
theorem Try.laysS106 : Go.Proofs.SlLaysF0.n6 Try.prog Try.laysS106_ren := {
  mixed:=by kernel_rfl
  f6:=⟨Try.f106.name,by decide,Try.func106.trans (congrArg some (by kernel_rfl))⟩
  f14:=⟨Try.f121.name,by decide,Try.func121.trans (congrArg some (by kernel_rfl))⟩
  f15:=Try.func122.trans (congrArg some (by kernel_rfl))
  f20:=⟨Try.f124.name,by decide,Try.func124.trans (congrArg some (by kernel_rfl))⟩
  f21:=⟨Try.f125.name,by decide,Try.func125.trans (congrArg some (by kernel_rfl))⟩
  f22:=⟨Try.f126.name,by decide,Try.func126.trans (congrArg some (by kernel_rfl))⟩
  f23:=⟨Try.f127.name,by decide,Try.func127.trans (congrArg some (by kernel_rfl))⟩
  f24:=⟨Try.f128.name,by decide,Try.func128.trans (congrArg some (by kernel_rfl))⟩
  f25:=⟨Try.f129.name,by decide,Try.func129.trans (congrArg some (by kernel_rfl))⟩
  f26:=⟨Try.f130.name,by decide,Try.func130.trans (congrArg some (by kernel_rfl))⟩
  f27:=⟨Try.f131.name,by decide,Try.func131.trans (congrArg some (by kernel_rfl))⟩
  f28:=Try.func132.trans (congrArg some (by kernel_rfl))
  f29:=Try.func133.trans (congrArg some (by kernel_rfl))
  f46:=⟨Try.f134.name,by decide,Try.func134.trans (congrArg some (by kernel_rfl))⟩
  f47:=Try.func135.trans (congrArg some (by kernel_rfl))
  f48:=Try.func136.trans (congrArg some (by kernel_rfl))
  f49:=⟨Try.f137.name,by decide,Try.func137.trans (congrArg some (by kernel_rfl))⟩
  f50:=⟨Try.f138.name,by decide,Try.func138.trans (congrArg some (by kernel_rfl))⟩
  f57:=⟨Try.f139.name,by decide,Try.func139.trans (congrArg some (by kernel_rfl))⟩
  t0:=Try.underlying0
  a0:=Try.isAgg0
  z0:=Try.sizeOf0
  v0:=Try.zeroValue0
  t3:=Try.underlying3
  a3:=Try.isAgg3
  z3:=Try.sizeOf3
  v3:=Try.zeroValue3
  t4:=Try.underlying4
  a4:=Try.isAgg4
  z4:=Try.sizeOf4
  v4:=Try.zeroValue4
  t5:=Try.underlying5
  a5:=Try.isAgg5
  z5:=Try.sizeOf5
  v5:=Try.zeroValue5
  t9:=Try.underlying9
  a9:=Try.isAgg9
  z9:=Try.sizeOf9
  v9:=Try.zeroValue9
  t22:=Try.underlying102
  a22:=Try.isAgg102
  z22:=Try.sizeOf102
  v22:=Try.zeroValue102
  t25:=Try.underlying147
  a25:=Try.isAgg147
  z25:=Try.sizeOf147
  v25:=Try.zeroValue147
  t39:=Try.underlying156
  a39:=Try.isAgg156
  z39:=Try.sizeOf156
  v39:=Try.zeroValue156
  t45:=Try.underlying158
  a45:=Try.isAgg158
  z45:=Try.sizeOf158
  v45:=Try.zeroValue158
  t46:=Try.underlying159
  a46:=Try.isAgg159
  z46:=Try.sizeOf159
  v46:=Try.zeroValue159
  t50:=Try.underlying163
  a50:=Try.isAgg163
  z50:=Try.sizeOf163
  v50:=Try.zeroValue163
  t53:=Try.underlying166
  a53:=Try.isAgg166
  z53:=Try.sizeOf166
  v53:=Try.zeroValue166
  t55:=Try.underlying168
  a55:=Try.isAgg168
  z55:=Try.sizeOf168
  v55:=Try.zeroValue168
  t66:=Try.underlying169
  a66:=Try.isAgg169
  z66:=Try.sizeOf169
  v66:=Try.zeroValue169
  t70:=Try.underlying173
  a70:=Try.isAgg173
  z70:=Try.sizeOf173
  v70:=Try.zeroValue173
  t76:=Try.underlying175
  a76:=Try.isAgg175
  z76:=Try.sizeOf175
  v76:=Try.zeroValue175
  t77:=Try.underlying143
  a77:=Try.isAgg143
  z77:=Try.sizeOf143
  v77:=Try.zeroValue143 }
end Go.Proofs
namespace Go.Pm
open Go.Shelf Go.RowKit Go.Lib Go.Sort Go.Proofs

section perm
variable {c:Nat→Nat→Int}
theorem zgK (x : Nat) : ∀ l : List Nat, (zzC c x l).Perm (x :: l)
  | []=>.refl _
  | y :: r=>by
    unfold zzC
    split
    · exact .refl _
    · exact ((zgK x r).cons y).trans (.swap _ _ _)
theorem zln (n:Nat):(zsP n c).Perm (List.range n):=by
 unfold zsP
 generalize List.range n=l
 induction l with
 | nil=>exact .refl _
 | cons x l ih=>exact (zgK x _).trans (ih.cons x)
def leB (c:Nat→Nat→Int) (a b:Nat):Prop:=¬ c b a < 0
theorem zuI {n : Nat} (H : STO n c) {x : Nat} (hx : x < n) : ∀ {l : List Nat}, (∀ y ∈ l, y < n) → l.Pairwise (leB c) → (zzC c x l).Pairwise (leB c)
  | [],_,_=>by simp [zzC]
  | y :: r,hl,hp=>by
    have hy:=hl y List.mem_cons_self
    rw [List.pairwise_cons] at hp
    unfold zzC
    split
    · rename_i h
      have h:=of_decide_eq_true h
      rw [List.pairwise_cons]
      refine ⟨fun z hz=>?_,List.pairwise_cons.2 hp⟩
      have hxy:leB c x y:=fun h2=>by
        have:=H.1 x hx
        have:=H.2.2 x y x hx hy hx h h2
        omega
      rcases List.mem_cons.1 hz with rfl | hz
      · exact hxy
      · intro h2
        exact hp.1 z hz (H.2.2 z x y (hl z (List.mem_cons_of_mem _ hz)) hx hy h2 h)
    · rename_i h
      have h:=of_decide_eq_false h
      rw [List.pairwise_cons]
      refine ⟨fun z hz=>?_,zuI H hx (fun z hz=>hl z (List.mem_cons_of_mem _ hz)) hp.2⟩
      rcases List.mem_cons.1 ((zgK x r).mem_iff.1 hz) with rfl | hz
      · exact h
      · exact hp.1 z hz
theorem zAl {n:Nat} (H:STO n c):(zsP n c).Pairwise (leB c):=by
 have key:∀ l:List Nat,(∀ y∈l,y < n)→(l.foldr (zzC c) []).Pairwise (leB c)∧∀ y∈l.foldr (zzC c) [],y < n:=by
  intro l
  induction l with
  | nil=>intro _;exact ⟨List.Pairwise.nil,fun y hy=>by simp at hy⟩
  | cons x l ih =>
   intro h
   obtain ⟨h1,h2⟩:=ih fun y hy=>h y (List.mem_cons_of_mem _ hy)
   have hx:=h x List.mem_cons_self
   refine ⟨zuI H hx h2 h1,fun y hy=>?_⟩
   rcases List.mem_cons.1 ((zgK x _).mem_iff.1 hy) with rfl | hy
   ·exact hx
   ·exact h2 y hy
 exact (key _ fun y hy=>List.mem_range.1 hy).1
theorem ztj {n:Nat} (H:STO n c) {l:List Nat} (hp:l.Perm (List.range n)) (hs:l.Pairwise (leB c)):l=zsP n c:=by
 refine List.Perm.eq_of_pairwise (le:=leB c) (fun a b ha hb h1 h2=>?_) hs (zAl H) (hp.trans (zln n).symm)
 have ha:=List.mem_range.1 (hp.mem_iff.1 ha)
 have hb:=List.mem_range.1 ((zln n).mem_iff.1 hb)
 by_cases e:a=b
 ·exact e
 ·rcases H.2.1 a b ha hb e with h | h
  ·exact absurd h.1 h2
  ·exact absurd h.1 h1
end perm

theorem zuJ {w w':World} (h1:w'.heap=w.heap) (h2:w'.tape=w.tape) (h3:w'.drawn=w.drawn) (h4:w'.os=w.os) (h5:w'.output=w.output):w'=w:=by
 cases w;cases w';simp_all
theorem zAm {w w':World} {h:Fz} (b:Bel h w.heap.size w w') (hi:∀ k F,h k ≠ some (.inv F)):∃ q os,w'=grow (w.drewN q) os:=by
 refine ⟨w'.drawn - w.drawn,w'.heap.extract w.heap.size w'.heap.size,zuJ ?_ b.tape ?_ b.os b.output⟩
 ·show w'.heap = w.heap ++ w'.heap.extract w.heap.size w'.heap.size
  apply Array.ext_getElem?
  intro i
  rw [Array.getElem?_append]
  split
  ·rename_i hl;exact b.block i hl (fun F=>hi i F)
  ·rename_i hl
   rw [Array.getElem?_extract]
   by_cases hlt:i < w'.heap.size
   ·rw [if_pos (by omega)];congr 1;omega
   ·rw [if_neg (by omega),Array.getElem?_eq_none (by omega)]
 ·show w'.drawn = w.drawn + (w'.drawn - w.drawn)
  have:=b.drawn;omega

theorem zn3 {w : World} {g q : Nat} {cur : Array Value} {e : TypeId} {fr : Nat × Nat} {off : Nat} (F : Array Value) (hb : w.heap[g]? = some (.cells cur e fr)) :
  ∃ cur',(putRow id (Sort.ahead w q) g off F).heap[g]? = some (.cells cur' e fr)∧cur'.size=cur.size:=by
 refine ⟨putCells id off F cur,?_,by simp [putCells]⟩
 simp [putRow,mapBlock,Sort.ahead,Array.getElem?_modify,hb,onCells]
theorem zjf {w:World} {g q off:Nat} (F:Array Value) {k:Nat} (hk:k ≠ g):(putRow id (Sort.ahead w q) g off F).heap[k]? = w.heap[k]?:=by
 simp [putRow,mapBlock,Sort.ahead,Array.getElem?_modify,Ne.symm hk]

theorem zuK {P:Program} {ρ:Ren} (L:SlLaysF0.n6 P ρ) {e s b:Nat} (he:ρ.t 24=e) (hag:zer P e=some true) (hsz:szT P e=some s) (hM : ¬ zno) (hc:zai P (ρ.f 6)):zlD P (ρ.f 6) (.sort e s b):=by
 intro w h base v n get gf caps cv ag C hC hcv hag' _ hpos ⟨xs,hown,hr⟩ hone hw hob hbase hn hS hO
 rw [hag] at hag';simp only [Option.some.injEq] at hag';subst hag'
 refine ⟨hc,?_⟩
 have hni:∀ k F,h k ≠ some (.inv F):=fun k F hk=>by obtain ⟨o,_,ho⟩:=hw k _ hk;exact hM ho.2
 have hdr:∀ (w':World) (k:Nat),w.drawn≤w.drawn+k:=fun _ k=>Nat.le_add_right _ _
 have none:∀ (p:Option Addr) (cap:Nat),n=0→v=.slice p 0 cap→Calls P (ρ.f 6) #[v,.func (.func gf) #[] cv.toArray] w fun r w'=>r=.returned (.tuple #[])∧zGL h w' base e s v n (zoO n (ztz C caps true get) get)∧GrB w w' v.ownBlock:=by
  rintro p cap rfl rfl
  refine (AnyF.slices_SortFunc_none L p cap _ w).mono ?_
  rintro r w' ⟨rfl,rfl⟩
  exact ⟨rfl,⟨xs,hown,fun i hi=>absurd hi (Nat.not_lt_zero i)⟩,⟨rfl,rfl,rfl,Nat.le_refl _,fun _ _ _=>rfl⟩,Nat.le_refl _⟩
 rcases hown.2 with ⟨h1,h2⟩ | ⟨blk,cap,cur,rfl,hb,hcell,hncap,hcap,hcs,htk⟩
 ·exact none _ _ h2 h1
 by_cases hn0:n=0
 ·subst hn0;exact none _ _ rfl rfl
 have:Inhabited (Fin n):=⟨⟨0,by omega⟩⟩
 let enc:Fin n→List Value:=fun i=>(xs.drop (i.val * s)).take s
 let c:=ztz C caps true get
 let cf:Fin n→Fin n→Int:=fun x y=>c x.val y.val
 let d:Array (Fin n):=Array.ofFn id
 have hds:d.size=n:=Array.size_ofFn
 have hdi:∀ i (hi:i < n),d[i]! = ⟨i,hi⟩:=fun i hi=>by
  rw [getElem!_pos d i (by rw [hds];exact hi)];simp [d]
 have hlt:blk < w.heap.size:=(Array.getElem?_eq_some_iff.1 hcell).1
 have hbn:h blk=Option.none:=hob blk rfl
 have hmul:∀ i,i < n→i * s+s≤n * s:=fun i hi=>by have:=Nat.mul_le_mul_right s (Nat.succ_le_of_lt hi);rw [Nat.succ_mul] at this;exact this
 have hk:∀ x,(enc x).length=s:=fun x=>by
  have:=hmul x.val x.isLt
  simp only [enc,List.length_take,List.length_drop,hown.1];omega
 have hcur:∀ j,j < n * s→cur[j]? = xs[j]?:=fun j hj=>by
  have:(cur.toList.take (n * s))[j]? = xs[j]?:=by rw [htk]
  rw [List.getElem?_take,if_pos hj] at this;simpa using this
 have hxl:∀ j,j < n * s→∃ u,xs[j]? = some u:=fun j hj=>⟨xs[j]'(by rw [hown.1];exact hj),List.getElem?_eq_getElem _⟩
 have h1:∀ x,∀ u∈enc x,u.oneCell'=true:=fun x u hu=>by
  obtain ⟨j,hj⟩:=List.getElem?_of_mem hu
  obtain ⟨p,_,hp⟩:=(hr x.val x.isLt).get' j u hj
  exact hp.one
 have hflat:∀ j (hj:j < n * s),(flatK enc s d)[j]! = xs[j]'(by rw [hown.1];exact hj):=fun j hj=>by
  have hq:j / s < n:=Nat.div_lt_of_lt_mul (by rw [Nat.mul_comm];exact hj)
  rw [get_flatK _ _ _ _ (by rw [hds];exact hj),hdi _ hq]
  have hm:=Nat.mod_lt j hpos
  have hdm:=Nat.div_add_mod j s
  rw [getElem!_pos _ _ (by rw [hk];exact hm)]
  simp only [enc,List.getElem_take,List.getElem_drop]
  congr 1
  rw [Nat.mul_comm];exact hdm
 have hH:HoldsK enc s w blk 0 d:=fun j hj=>by
  have hj:j < n * s:=by rw [size_flatK,hds] at hj;exact hj
  refine ⟨?_,frozen_of_row w blk _ cur e hcell⟩
  rw [hflat j hj,cell_of hcell,Nat.zero_add,hcur j hj]
  exact List.getElem?_eq_getElem _
 have eg:∀ args w,(callFunc gf args).run P w=.ok (.enter gf args) w:=by
  have hcg:zai P gf:=by
   have hs0:=hS 0 0 (by omega) (by omega)
   unfold zGK at hs0
   split at hs0
   ·rename_i s0 c0 hat
    have hwp:(C (elP true (get 0) :: elP true (get 0) :: caps.map .one)).wp (fun _=>True):=by
     unfold zzB at hat
     split at hat
     ·rename_i e1;rw [e1];trivial
     ·rename_i e1;simp only [Option.some.injEq,Prod.mk.injEq] at hat;rw [e1];exact ⟨by rw [hat.1];exact hs0,trivial⟩
     ·cases hat
    exact (hC _ _ hwp w h (.agg (enc ⟨0,by omega⟩).toArray :: .agg (enc ⟨0,by omega⟩).toArray :: cv) ⟨⟨_,rfl,hr 0 (by omega)⟩,⟨_,rfl,hr 0 (by omega)⟩,RL.map_left.2 hcv⟩ hw).1
   ·exact hs0.elim
  exact fun args w=>zc2 hcg
 have hcmp:CmpLays P gf cv.toArray enc s cf blk 0 d.size w:=by
  intro m os dk hdk x y
  have hs0:=hS x.val y.val x.isLt y.isLt
  unfold zGK at hs0
  split at hs0
  ·rename_i s0 c0 hat
   have hwp:(C (elP true (get x.val) :: elP true (get y.val) :: caps.map .one)).wp (fun rs=>rs=[.one (.int .i64 (cf x y))]):=by
    have hcv:cf x y=c0:=by show ztz C caps true get x.val y.val=c0;unfold ztz;rw [hat]
    rw [hcv]
    unfold zzB at hat
    split at hat
    ·rename_i e1;simp only [Option.some.injEq,Prod.mk.injEq] at hat;rw [e1,hat.2];rfl
    ·rename_i e1;simp only [Option.some.injEq,Prod.mk.injEq] at hat;rw [e1,hat.2];exact ⟨by rw [hat.1];exact hs0,rfl⟩
    ·cases hat
   have hwh:Hw h (sortWorldK enc s w blk 0 m dk os):=hw.same fun k o hk=>by
    have hkb:k ≠ blk:=fun e=>by rw [e,hbn] at hk;cases hk
    have hkl:=hw.lt hk
    show ((putRow id (Sort.ahead w m) blk 0 (flatK enc s dk)).heap ++ os)[k]? = _
    rw [Array.getElem?_append_left (by simpa [putRow,mapBlock,Sort.ahead] using hkl)]
    exact zjf _ hkb
   obtain ⟨_,hrun⟩:=hC _ _ hwp (sortWorldK enc s w blk 0 m dk os) h (.agg (enc x).toArray :: .agg (enc y).toArray :: cv) ⟨⟨_,rfl,hr x.val x.isLt⟩,⟨_,rfl,hr y.val y.isLt⟩,RL.map_left.2 hcv⟩ hwh
   rw [show (#[Value.agg (enc x).toArray,.agg (enc y).toArray] ++ cv.toArray)=(Value.agg (enc x).toArray :: .agg (enc y).toArray :: cv).toArray by simp]
   refine hrun.mono ?_
   rintro e' w' ⟨h',rs,v',hrs,rfl,hres,hbel,_,_,_⟩
   subst hrs
   have hv':v'=.int .i64 (cf x y):=by
    have:Rep h' (.int .i64 (cf x y)) v':=hres
    cases this;rfl
   subst hv'
   exact ⟨rfl,zAm hbel hni⟩
  ·exact hs0.elim
 have hSWO:SWO (ltOf cf):=by
  refine ⟨fun x=>?_,fun x y z hxy hyz=>?_,fun x y z hxy hyz=>?_⟩
  ·have : 0 ≤ c x.val x.val := hO.1 x.val x.isLt
   simp only [ltOf,decide_eq_false_iff_not];show ¬ c x.val x.val < 0;omega
  ·simp only [ltOf, decide_eq_true_eq] at hxy hyz ⊢
   exact hO.2.2 _ _ _ x.isLt y.isLt z.isLt hxy hyz
  ·simp only [ltOf, decide_eq_false_iff_not] at hxy hyz ⊢
   intro hxz
   have hxy : ¬ c x.val y.val < 0:=hxy
   have hyz : ¬ c y.val z.val < 0:=hyz
   have hxz:c x.val z.val < 0:=hxz
   by_cases e1:y.val=z.val
   ·rw [e1] at hxy;exact hxy hxz
   ·by_cases e2 : x.val = y.val
    ·rw [e2] at hxz;exact hyz hxz
    ·have a1 : c z.val y.val < 0 := by rcases hO.2.1 y.val z.val y.isLt z.isLt e1 with h | h; exact absurd h.1 hyz; exact h.1
     exact hxy (hO.2.2 _ _ _ x.isLt z.isLt y.isLt hxz a1)
 have aE:∀ w,(isAgg (ρ.t 24)).run P w=.ok true w:=fun w=>by rw [he];exact zdy hag
 have zE:∀ w,(Go.sizeOf (ρ.t 24)).run P w=.ok s w:=fun w=>by rw [he];exact run_sizeOf hsz
 have hrun:=AnyQ.slices_SortFunc L s aE zE enc hk h1 cf hSWO gf cv.toArray blk 0 cap d w eg hcmp hH hlt (by rw [hds];omega)
 rw [hds] at hrun
 refine hrun.mono ?_
 rintro r w' ⟨rfl,d',m,os,hperm,hsort,rfl⟩
 obtain ⟨hps,_,hpp⟩:=hperm
 have hd's:d'.size=n:=by rw [hps,hds]
 have hall:∀ (z:Array (Fin n)),z.size=n→z.extract 0 n=z:=fun z hz=>Array.ext (by simp [hz]) (fun i h1 h2=>by simp)
 rw [hall d' hd's,hall d hds] at hpp
 have hl:d'.toList.map Fin.val=zsP n c:=by
  refine ztj hO ?_ ?_
  ·refine (hpp.map Fin.val).trans ?_
   have:d.toList.map Fin.val=List.range n:=by
    apply List.ext_getElem?
    intro i
    simp only [d,List.getElem?_map]
    by_cases hi:i < n
    ·simp [hi]
    ·rw [List.getElem?_eq_none (by simp;omega),List.getElem?_eq_none (by simp;omega)];rfl
   rw [this]
  ·rw [List.pairwise_map, List.pairwise_iff_getElem]
   intro i j hi hj hij
   have hi':i < n:=by simpa [hd's] using hi
   have hj':j < n:=by simpa [hd's] using hj
   have:=hsort i j (Nat.zero_le _) hij hj'
   rw [getElem!_pos d' j (by omega),getElem!_pos d' i (by omega)] at this
   simp only [ltOf,decide_eq_false_iff_not] at this
   exact this
 have hget:∀ i (hi:i < n),zoO n c get i=get (d'[i]'(by omega)).val:=fun i hi=>by
  unfold zoO
  rw [← hl]
  congr 1
  rw [List.getD_eq_getElem?_getD,List.getElem?_map]
  simp [hd's,hi]
 obtain ⟨cur',hcell',hsz'⟩:=zn3 (q:=m) (off:=0) (flatK enc s d') hcell
 have hgrow:(sortWorldK enc s w blk 0 m d' os).heap[blk]? = some (.cells cur' e (0,0)):=by
  show ((putRow id (Sort.ahead w m) blk 0 (flatK enc s d')).heap ++ os)[blk]? = _
  rw [Array.getElem?_append_left (by simpa [putRow,mapBlock,Sort.ahead] using hlt)]
  exact hcell'
 have hH':HoldsK enc s (sortWorldK enc s w blk 0 m d' os) blk 0 d':=holdsK_sortWorldK_c enc s w blk 0 d d' m os hH hlt (by rw [hd's,hds])
 have hcur':∀ j (hj:j < n * s),cur'[j]? = some ((flatK enc s d')[j]!):=fun j hj=>by
  have:=(hH' j (by rw [size_flatK,hd's];exact hj)).1
  rw [cell_of hgrow,Nat.zero_add] at this
  exact this
 refine ⟨rfl,⟨cur'.toList.take (n * s),⟨by rw [List.length_take,Array.length_toList,hsz',hcs];exact Nat.min_eq_left (Nat.mul_le_mul_right s hncap),.inr ⟨blk,cap,cur',rfl,hb,hgrow,hncap,hcap,by rw [hsz',hcs],rfl⟩⟩,fun i hi=>?_⟩,?_⟩
 ·have e1:((cur'.toList.take (n * s)).drop (i * s)).take s=enc (d'[i]'(by omega)):=by
   apply List.ext_getElem?
   intro j
   have hm:=hmul i hi
   rw [List.getElem?_take]
   split
   ·rename_i hj
    rw [List.getElem?_drop,List.getElem?_take,if_pos (by omega),Array.getElem?_toList,hcur' _ (by omega)]
    have hdiv:(i * s+j) / s=i:=by rw [Nat.mul_comm,Nat.mul_add_div hpos,Nat.div_eq_of_lt hj,Nat.add_zero]
    have hmod:(i * s+j) % s=j:=by rw [Nat.mul_comm,Nat.mul_add_mod,Nat.mod_eq_of_lt hj]
    rw [get_flatK _ _ _ _ (by rw [hd's];omega),hdiv,hmod,getElem!_pos d' i (by omega),getElem!_pos _ _ (by rw [hk];exact hj)]
    exact (List.getElem?_eq_getElem _).symm
   ·rename_i hj
    rw [List.getElem?_eq_none (by rw [hk];omega)]
  rw [e1,hget i hi]
  exact hr _ (d'[i]'(by omega)).isLt
 ·refine ⟨⟨rfl, rfl, rfl, ?_, fun k hk hne => ?_⟩, Nat.le_add_right _ _⟩
  ·show w.heap.size ≤ ((putRow id (Sort.ahead w m) blk 0 (flatK enc s d')).heap ++ os).size
   simp [putRow,mapBlock,Sort.ahead]
  ·show ((putRow id (Sort.ahead w m) blk 0 (flatK enc s d')).heap ++ os)[k]? = _
   rw [Array.getElem?_append_left (by simpa [putRow,mapBlock,Sort.ahead] using hk)]
   exact zjf _ fun e=>hne (by rw [e];rfl)
end Go.Pm
namespace Go.Pm

abbrev zI (x:Int):DV:=.one (.c (.p (.int .i64 x)))
abbrev zB (x:Bool):DV:=.one (.c (.p (.bool x)))
abbrev zP (x:PV):DV:=.one (.c (.p x))
abbrev zp (L k:Nat):DV:=.one (.c (.ptr L k))
abbrev zv (L:Nat):DV:=.one (.c (.vec L))
abbrev zs {α:Type} (enc:α→List PV) (s:Nat) (x:Sl α):PV:=.sl x.len s (fun i=>enc (x.get i))
abbrev zS {α:Type} (enc:α→List PV) (s:Nat) (x:Sl α):DV:=zP (zs enc s x)
abbrev zm (l:List PV):List Cl:=l.map Cl.p
abbrev zi (x:Int):Cl:=.p (.int .i64 x)
abbrev zg {α:Type} (enc:α→List PV) (x:Sl α):Nat→List PV:=fun i=>enc (x.get i)
abbrev zK (a b:List Nat):Keep:=⟨a,b,[],[],[],[],[]⟩
theorem zE {α:Type} (enc:α→List PV) (size:Nat) (f:Nat→α):IsE enc size size (fun i=>enc (f i)):=⟨rfl,f,rfl⟩

@[reducible] def lpO {A : Type} (d : A) (st : A → A) : Nat → A
  | 0=>d
  | k+1=>st (lpO d st k)
theorem zgL {A B : Type} (a : A) (b : B) (p : A → A) (s : B → B) (M : A → B → Prop) (h0 : M a b) (h1 : ∀ P S, M P S → M (p P) (s S)) : ∀ k, M (lpO a p k) (lpO b s k)
  | 0=>h0
  | k+1=>h1 _ _ (zgL a b p s M h0 h1 k)
section
variable (P:Program) (Γ:Ctrs) (ann:Ann)
def pt : Code → (Exit → St → Prop) → List Nat → List (St → Prop) → St → Prop
  | .seq a b,K,i :: r,X=>match i with | 0=>pt a (sqK P Γ ann b K) r X | _=>pt b K r X
  | .cond _ a b,K,i :: r,X=>match i with | 0=>pt a K r X | _=>pt b K r X
  | .block id b,K,_ :: r,X=>pt b (zaX id K) r X
  | .loop b,K,_ :: r,x :: X=>pt b (zd1 P ann (zkY b) x K) r X
  | .scope b,K,_ :: r,X=>pt b (zb8 K) r X
  | c,K,_,_=>vc P Γ ann c K
def ptF (fn:Func) (K:List PA→Prop) (l:List Nat) (X:List (St→Prop)):St→Prop :=
 match fn.body with
 | some c=>pt P Γ ann c (zcn P fn K) l X
 | none=>fun _=>False
end

theorem zc {b:Bool} {A B:Prop} {S S':Bool} {α:Type} {e:α→List PA} {K:List PA→Prop} {x y:α} (hs:cond b S S'=true) (hk:K (e (cond b x y))) (h1:S=true→K (e x)→A) (h2:S'=true→K (e y)→B):zcZ b A B:=by
 cases b
 ·exact h2 hs hk
 ·exact h1 hs hk
theorem zt {b:Bool} {A B:Prop} {α:Type} {e:α→List PA} {K:List PA→Prop} {x y:α} (hk:K (e (cond b x y))) (h1:K (e x)→A) (h2:K (e y)→B):zcZ b A B:=by
 cases b
 ·exact h2 hk
 ·exact h1 hk
theorem zl {at_:Prop} {g:St} (B:(St→Prop)→St→Prop) (e:at_ = ∀ X:St→Prop,(∀ s,B X s→X s)→X g) (h:∀ X:St→Prop,(∀ s,B X s→X s)→X g):at_:=e ▸ h
end Go.Pm
namespace Go.Proofs
open Go Go.Pm
set_option maxRecDepth 100000
set_option linter.unusedVariables false
attribute [local irreducible] Go.Pm.vcFun Go.Pm.vc Go.Pm.vcIter
abbrev zat (x:Int):List PV:=[.int .i64 x]
def zKh : List PV → Int
  | [.int .i64 x]=>x
  | _=>default
def zcQ (g:Nat→List PV):Nat→Int:=fun i=>zKh (g i)
theorem zdu (f:Nat→Int):zcQ (fun i=>zat (f i))=f:=rfl
structure Gate where
  Z:Int
  Low:Int
  High:Int
deriving Inhabited
abbrev enc_55 (x:Gate):List PV:=[.int .i64 x.Z,.int .i64 x.Low,.int .i64 x.High]
def zHs : List PV → Gate
  | [.int .i64 x_Z,.int .i64 x_Low,.int .i64 x_High]=>(⟨x_Z,x_Low,x_High⟩:Gate)
  | _=>default
def zad (g:Nat→List PV):Nat→Gate:=fun i=>zHs (g i)
theorem zac (f:Nat→Gate):zad (fun i=>enc_55 (f i))=f:=rfl
abbrev zHt (x:(Sl Gate)):List PV:=[.sl x.len 3 (fun i=>enc_55 (x.get i))]
structure Frac where
  Num:Int
  Den:Int
deriving Inhabited
abbrev zae (x:Frac):List PV:=[.int .i64 x.Num,.int .i64 x.Den]
def zHu : List PV → Frac
  | [.int .i64 x_Num,.int .i64 x_Den]=>(⟨x_Num,x_Den⟩:Frac)
  | _=>default
def zf8 (g:Nat→List PV):Nat→Frac:=fun i=>zHu (g i)
theorem zeD (f:Nat→Frac):zf8 (fun i=>zae (f i))=f:=rfl
structure Line where
  Slope:Frac
  Start:Frac
deriving Inhabited
abbrev zbL (x:Line):List PV:=[.int .i64 x.Slope.Num,.int .i64 x.Slope.Den,.int .i64 x.Start.Num,.int .i64 x.Start.Den]
def zHv : List PV → Line
  | [.int .i64 x_Slope_Num,.int .i64 x_Slope_Den,.int .i64 x_Start_Num,.int .i64 x_Start_Den]=>(⟨(⟨x_Slope_Num,x_Slope_Den⟩:Frac),(⟨x_Start_Num,x_Start_Den⟩:Frac)⟩:Line)
  | _=>default
def zjg (g:Nat→List PV):Nat→Line:=fun i=>zHv (g i)
theorem zeE (f:Nat→Line):zjg (fun i=>zbL (f i))=f:=rfl
structure Span where
  Low:Int
  High:Int
deriving Inhabited
abbrev zBJ (x:Span):List PV:=[.int .i64 x.Low,.int .i64 x.High]
structure list where
  Gates:(Sl Gate)
deriving Inhabited
abbrev zb1 (x:list):List PV:=[.sl x.Gates.len 3 (fun i=>enc_55 (x.Gates.get i))]
structure straight where
  slope:Int
  start:Int
  den:Int
deriving Inhabited
abbrev zaf (x:straight):List PV:=[.int .i64 x.slope,.int .i64 x.start,.int .i64 x.den]
def zC3 : List PV → straight
  | [.int .i64 x_slope,.int .i64 x_start,.int .i64 x_den]=>(⟨x_slope,x_start,x_den⟩:straight)
  | _=>default
def zaQ (g:Nat→List PV):Nat→straight:=fun i=>zC3 (g i)
theorem zaL (f:Nat→straight):zaQ (fun i=>zaf (f i))=f:=rfl
structure set where
  list:list
  corners:(Sl straight)
deriving Inhabited
abbrev zaU (x:set):List PV:=[.sl x.list.Gates.len 3 (fun i=>enc_55 (x.list.Gates.get i)),.sl x.corners.len 3 (fun i=>zaf (x.corners.get i))]
abbrev zcC (x:Mp):List PV:=[.fm (true,2,false,[some .i64]) x.n x.F]
end Go.Proofs
namespace Go.Proofs
open Go Go.Pm
set_option maxRecDepth 100000
set_option linter.unusedVariables false
attribute [local irreducible] Go.Pm.vcFun Go.Pm.vc Go.Pm.vcIter
abbrev T74:Tabs:=Tabs.nil
theorem zKi:TabsOk Try.prog T74:=TabsOk.nil
abbrev G74:Ctrs:=csm T74 (fun _ _=>[]) (fun _=>false)
def zHw:Ann:=⟨15,[(0,zK [0,1,2] []),(1,zK [6] [])],
 [],
 [],
 [],[]⟩
abbrev R74:=Bool
abbrev e74 (r:R74):List PA:=[.one (.bool r)]
section
variable {K:List PA→Prop} {x:Int} {low:Int} {high:Int}
def s74 (x:Int) (low:Int) (high:Int):Bool :=
  (cond (decide (x ≥ low))
 (decide (x≤high))
 false)
end
theorem q74 (x:Int) (low:Int) (high:Int) (K:List PA→Prop) (hk:K (e74 (s74 x low high))):vcFun Try.prog G74 zHw 74 [.one (.int .i64 x),.one (.int .i64 low),.one (.int .i64 high)] K :=
  zax (by kernel_rfl) (zt hk (fun hk=>hk) (fun hk=>hk))
def zpl : List PA → COut
  | [.one (.int .i64 a0),.one (.int .i64 a1),.one (.int .i64 a2)]=>.tot [.one (.bool (s74 a0 a1 a2))]
  | _=>.no
theorem zHx:zai Try.prog 74:=⟨_,rfl,rfl,by kernel_rfl⟩
theorem zHy:Ok Try.prog 74 zpl:=zaG zKi zHx fun args K h=>by
  unfold zpl at h
  split at h
  · rename_i a0 a1 a2
    have hk:=h
    exact ⟨(fun _ _=>[]),(fun _=>false),zHw,q74 a0 a1 a2 K hk⟩
  · exact h.elim
abbrev zL7:Tabs:=Tabs.nil
theorem zHz:TabsOk Try.prog zL7:=TabsOk.nil
abbrev zMM:Ctrs:=csm zL7 (fun _ _=>[]) (fun _=>false)
def zBK:Ann:=⟨12,[(0,zK [1,2] [2]),(1,zK [3] [])],
 [],
 [],
 [],[]⟩
abbrev zMN:=Bool
abbrev zMO (r:zMN):List PA:=[.one (.bool r)]
section
variable {K:List PA→Prop} {c0:list} {g:Gate}
def zC4 (c0:list) (g:Gate):Bool :=
  (g.Z != (c0.Gates.get 0).Z)
def zC5 (c0:list) (g:Gate):Bool :=
  (decide ((0≤(0:Int)∧(0:Int) < (c0.Gates.len:Int))) &&
 true)
end
theorem zMP (c0:list) (g:Gate) (K:List PA→Prop) (hs:zC5 c0 g=true) (hk:K (zMO (zC4 c0 g))):vcFun Try.prog zMM zBK 100 [.agg (enc_55 g),.one (.fp (zb1 c0) 0)] K :=
  zax (by kernel_rfl) (zaw hs fun hc hs=>And.intro hc hk)
def zuL : List PA → COut
  | [.agg [.int .i64 a0_Z,.int .i64 a0_Low,.int .i64 a0_High],.one (.fp [.sl c0_Gates_n c0_Gates_s c0_Gates_g] 0)]=>.det (IsE enc_55 3 c0_Gates_s c0_Gates_g∧zC5 (⟨(⟨c0_Gates_n,zad c0_Gates_g⟩:(Sl Gate))⟩:list) (⟨a0_Z,a0_Low,a0_High⟩:Gate)=true) [.one (.bool (zC4 (⟨(⟨c0_Gates_n,zad c0_Gates_g⟩:(Sl Gate))⟩:list) (⟨a0_Z,a0_Low,a0_High⟩:Gate)))]
  | _=>.no
theorem zC6:zai Try.prog 100:=⟨_,rfl,rfl,by kernel_rfl⟩
theorem zKj:Ok Try.prog 100 zuL:=zaG zHz zC6 fun args K h=>by
  unfold zuL at h
  split at h
  · rename_i a0_Z a0_Low a0_High c0_Gates_n c0_Gates_s c0_Gates_g
    obtain ⟨⟨⟨rfl,c0_Gates_f,rfl⟩,hs⟩,hk⟩:=h
    try rw [zac c0_Gates_f] at hs
    try rw [zac c0_Gates_f] at hk
    exact ⟨(fun _ _=>[]),(fun _=>false),zBK,zMP (⟨(⟨c0_Gates_n,c0_Gates_f⟩:(Sl Gate))⟩:list) (⟨a0_Z,a0_Low,a0_High⟩:Gate) K hs hk⟩
  · exact h.elim
abbrev zL8:Tabs:=(Tabs.nil.addF 74 zpl)
theorem zHA:TabsOk Try.prog zL8:=(TabsOk.nil.addF zHy)
abbrev zMQ:Ctrs:=csm zL8 (fun _ _=>[]) (fun _=>false)
def zBL:Ann:=⟨24,[(0,zK [2,3] [2,3]),(1,zK [4] [])],
 [],
 [],
 [],[]⟩
abbrev zMR:=Bool
abbrev e118 (r:zMR):List PA:=[.one (.bool r)]
section
variable {K:List PA→Prop} {s:straight} {g:Gate}
def zC7 (s:straight) (g:Gate):Bool :=
  (s74 (w64 (s.start+(w64 (s.slope * g.Z)))) (w64 (g.Low * s.den)) (w64 (g.High * s.den)))
end
theorem zMS (s:straight) (g:Gate) (K:List PA→Prop) (hk:K (e118 (zC7 s g))):vcFun Try.prog zMQ zBL 118 [.agg (zaf s),.agg (enc_55 g)] K :=
  zax (by kernel_rfl) hk
def zuM : List PA → COut
  | [.agg [.int .i64 a0_slope,.int .i64 a0_start,.int .i64 a0_den],.agg [.int .i64 a1_Z,.int .i64 a1_Low,.int .i64 a1_High]]=>.tot [.one (.bool (zC7 (⟨a0_slope,a0_start,a0_den⟩:straight) (⟨a1_Z,a1_Low,a1_High⟩:Gate)))]
  | _=>.no
theorem zC8:zai Try.prog 118:=⟨_,rfl,rfl,by kernel_rfl⟩
theorem zKk:Ok Try.prog 118 zuM:=zaG zHA zC8 fun args K h=>by
  unfold zuM at h
  split at h
  · rename_i a0_slope a0_start a0_den a1_Z a1_Low a1_High
    have hk:=h
    exact ⟨(fun _ _=>[]),(fun _=>false),zBL,zMS (⟨a0_slope,a0_start,a0_den⟩:straight) (⟨a1_Z,a1_Low,a1_High⟩:Gate) K hk⟩
  · exact h.elim
abbrev zL9:Tabs:=(Tabs.nil.addF 118 zuM)
theorem zHB:TabsOk Try.prog zL9:=(TabsOk.nil.addF zKk)
abbrev zMT:Ctrs:=csm zL9 (fun _ _=>[]) (fun _=>false)
def zBM:Ann:=⟨8,[(0,zK [1,2] [2]),(1,zK [3] [])],
 [],
 [],
 [],[]⟩
abbrev zMU:=Bool
abbrev e117 (r:zMU):List PA:=[.one (.bool r)]
section
variable {K:List PA→Prop} {c0:straight} {g:Gate}
def zC9 (c0:straight) (g:Gate):Bool :=
  (!(zC7 c0 g))
end
theorem zMV (c0:straight) (g:Gate) (K:List PA→Prop) (hk:K (e117 (zC9 c0 g))):vcFun Try.prog zMT zBM 117 [.agg (enc_55 g),.one (.fp (zaf c0) 0)] K :=
  zax (by kernel_rfl) hk
def zuN : List PA → COut
  | [.agg [.int .i64 a0_Z,.int .i64 a0_Low,.int .i64 a0_High],.one (.fp [.int .i64 c0_slope,.int .i64 c0_start,.int .i64 c0_den] 0)]=>.tot [.one (.bool (zC9 (⟨c0_slope,c0_start,c0_den⟩:straight) (⟨a0_Z,a0_Low,a0_High⟩:Gate)))]
  | _=>.no
theorem zDa:zai Try.prog 117:=⟨_,rfl,rfl,by kernel_rfl⟩
theorem zKl:Ok Try.prog 117 zuN:=zaG zHB zDa fun args K h=>by
  unfold zuN at h
  split at h
  · rename_i a0_Z a0_Low a0_High c0_slope c0_start c0_den
    have hk:=h
    exact ⟨(fun _ _=>[]),(fun _=>false),zBM,zMV (⟨c0_slope,c0_start,c0_den⟩:straight) (⟨a0_Z,a0_Low,a0_High⟩:Gate) K hk⟩
  · exact h.elim
abbrev zMa:Tabs:=Tabs.nil
theorem zHC:TabsOk Try.prog zMa:=TabsOk.nil
abbrev zMW:Ctrs:=csm zMa (fun _ _=>[]) (fun _=>false)
def zBN:Ann:=⟨18,[(0,zK [1,2] [2]),(1,zK [3] [])],
 [],
 [],
 [],[]⟩
abbrev zMX:=Bool
abbrev zMY (r:zMX):List PA:=[.one (.bool r)]
section
variable {K:List PA→Prop} {c0:straight} {g:Gate}
def zJW (c0:straight) (g:Gate):Bool :=
  ((w64 (c0.start+(w64 (c0.slope * g.Z)))) == (w64 (g.Low * c0.den)))
end
theorem zMZ (c0:straight) (g:Gate) (K:List PA→Prop) (hk:K (zMY (zJW c0 g))):vcFun Try.prog zMW zBN 123 [.agg (enc_55 g),.one (.fp (zaf c0) 0)] K :=
  zax (by kernel_rfl) hk
def zuO : List PA → COut
  | [.agg [.int .i64 a0_Z,.int .i64 a0_Low,.int .i64 a0_High],.one (.fp [.int .i64 c0_slope,.int .i64 c0_start,.int .i64 c0_den] 0)]=>.tot [.one (.bool (zJW (⟨c0_slope,c0_start,c0_den⟩:straight) (⟨a0_Z,a0_Low,a0_High⟩:Gate)))]
  | _=>.no
theorem zDb:zai Try.prog 123:=⟨_,rfl,rfl,by kernel_rfl⟩
theorem zKm:Ok Try.prog 123 zuO:=zaG zHC zDb fun args K h=>by
  unfold zuO at h
  split at h
  · rename_i a0_Z a0_Low a0_High c0_slope c0_start c0_den
    have hk:=h
    exact ⟨(fun _ _=>[]),(fun _=>false),zBN,zMZ (⟨c0_slope,c0_start,c0_den⟩:straight) (⟨a0_Z,a0_Low,a0_High⟩:Gate) K hk⟩
  · exact h.elim
abbrev zJX:Tabs:=(((Tabs.nil.addF 100 zuL).addF 117 zuN).addF 123 zuO)
theorem zHD:TabsOk Try.prog zJX:=(((TabsOk.nil.addF zKj).addF zKl).addF zKm)
abbrev zMb:Ctrs:=csm zJX (fun _ _=>[]) (fun _=>false)
def zuP:Ann:=⟨19,[(0,zK [0,1] []),(1,zK [0,1,7,8] []),(2,zK [0,1,7,8,9] []),(3,zK [0,1,5,7,8] []),(4,zK [0,1,5,7,8,16] []),(5,zK [4] []),(6,zK [0,1,7,8] []),(7,zK [4] [])],
 [(2,zK [0,1,7,8] [])],
 [(5,zK [0,1,5,7,8,16] [])],
 [],[]⟩
abbrev zM0:=Int
abbrev e119 (r:zM0):List PA:=[.one (.int .i64 r)]
@[irreducible] def z119:=ptF Try.prog zMb zuP Try.f119
def zuQ (c0:list) (sv0:(Sl Gate)) (zaV:Int) (zbP:Int) (zc4:Nat→List PV):St:=⟨[(0,zP (.sl sv0.len 3 zc4)),(1,zP (.fn 100 [] [.fp (zb1 c0) 0])),(7,zI zaV),(8,zI zbP)],[],[]⟩
abbrev zuR (K:List PA→Prop) (c0:list) (X:St→Prop) (P:(Sl Gate)→Int→Int→Bool) (S:(Sl Gate)→Int→Int→Int):Prop:=∀ ⦃sv0:(Sl Gate)⦄ ⦃zaV:Int⦄ ⦃zbP:Int⦄ ⦃zc4:Nat→List PV⦄,P sv0 zaV zbP=true→K (e119 (S sv0 zaV zbP))→zc4=zg enc_55 sv0→X (zuQ c0 sv0 zaV zbP zc4)
section
variable {K:List PA→Prop} {c0:list} {s:(Sl Gate)} {sv0:(Sl Gate)} {zaV:Int} {zbP:Int} {zc4:Nat→List PV} {X0:St→Prop} {P0:(Sl Gate)→Int→Int→Bool} {S0:(Sl Gate)→Int→Int→Int} {sv1:(Sl Gate)} {iv1:Int} {zf9:Int} {zjh:Int} {zdD:Bool} {zn4:Nat→List PV}
def zl6 (S0:(Sl Gate)→Int→Int→Int) (c0:list) (sv1:(Sl Gate)) (iv1:Int) (zf9:Int) (zjh:Int) (zdD:Bool):Int :=
  (cond zdD
 iv1
 (S0 sv1 zf9 (w64 (zjh+(1:Int)))))
def zl7 (P0:(Sl Gate)→Int→Int→Bool) (c0:list) (sv1:(Sl Gate)) (iv1:Int) (zf9:Int) (zjh:Int) (zdD:Bool):Bool :=
  (cond zdD
 true
 (P0 sv1 zf9 (w64 (zjh+(1:Int)))))
theorem zAn (hX0:zuR K c0 X0 P0 S0) (hs:zl7 P0 c0 sv1 iv1 zf9 zjh zdD=true) (hk:K (e119 (zl6 S0 c0 sv1 iv1 zf9 zjh zdD))) (zuS:zn4=zg enc_55 sv1):z119 K [1,0,1,0,0,1,1,0,0,1,1] [X0] ⟨[(0,zP (.sl sv1.len 3 zn4)),(1,zP (.fn 100 [] [.fp (zb1 c0) 0])),(5,zI iv1),(7,zI zf9),(8,zI zjh),(16,zB zdD)],[],[]⟩:=by subst zuS;exact zax (by kernel_rfl) (zc hs hk (fun hs hk=>hk) (fun hs hk=>(hX0 hs hk rfl)))
def zik (c0:list) (S0:(Sl Gate)→Int→Int→Int) (sv0:(Sl Gate)) (zaV:Int) (zbP:Int):Int :=
  (cond (decide (zbP < zaV))
 (zl6 S0 c0 sv0 zbP zaV zbP (zC4 c0 (sv0.get zbP.toNat)))
 (-1:Int))
def zil (c0:list) (P0:(Sl Gate)→Int→Int→Bool) (sv0:(Sl Gate)) (zaV:Int) (zbP:Int):Bool :=
  (cond (decide (zbP < zaV))
 (decide ((0≤zbP∧zbP < (sv0.len:Int))) &&
 (decide ((zC5 c0 (sv0.get zbP.toNat)=true)) &&
 (zl7 P0 c0 sv0 zbP zaV zbP (zC4 c0 (sv0.get zbP.toNat)))))
 true)
def zim (c0:list):Nat→(Sl Gate)→Int→Int→Int:=lpO (fun _ _ _=>default) (zik c0)
def zin (c0:list):Nat→(Sl Gate)→Int→Int→Bool:=lpO (fun _ _ _=>false) (zil c0)
def zrV (c0:list) (sv0:(Sl Gate)) (zaV:Int) (zbP:Int):Int:=zim c0 Fuel sv0 zaV zbP
def zrW (c0:list) (sv0:(Sl Gate)) (zaV:Int) (zbP:Int):Bool:=zin c0 Fuel sv0 zaV zbP
theorem zAo (hs:zrW c0 sv0 zaV zbP=true) (hk:K (e119 (zrV c0 sv0 zaV zbP))) (zji:zc4=zg enc_55 sv0):z119 K [1,0,1,0] [] (zuQ c0 sv0 zaV zbP zc4) :=
  zl (fun X=>z119 K [1,0,1,0,0] [X]) (by kernel_rfl) fun X0 hX =>
  (show ∀ k, zuR K c0 X0 (zin c0 k) (zim c0 k) from zgL _ _ (zil c0) (zik c0) (zuR K c0 X0)
 (by intro _ _ _ _ hs;exact absurd hs Bool.false_ne_true)
 (by intro P0 S0 hX0 sv0 zaV zbP zc4 hs hk zji;subst zji;exact hX _ (zax (by kernel_rfl) (zc hs hk (fun hs hk=>(zaw hs fun hc hs=>And.intro hc (zaw hs fun hc hs=>And.intro (And.intro (zE enc_55 3 c0.Gates.get) hc) (zAn hX0 hs hk rfl)))) (fun hs hk=>hk))))) _ hs hk zji
def zHE (c0:list) (s:(Sl Gate)):Int :=
  (zrV c0 s (s.len:Int) (0:Int))
def zHF (c0:list) (s:(Sl Gate)):Bool :=
  (zrW c0 s (s.len:Int) (0:Int))
end
theorem zM1 (c0:list) (s:(Sl Gate)) (K:List PA→Prop) (hs:zHF c0 s=true) (hk:K (e119 (zHE c0 s))):vcFun Try.prog zMb zuP 119 [.one (.sl s.len 3 (fun i=>enc_55 (s.get i))),.one (.fn 100 [] [.fp (zb1 c0) 0])] K :=
  zax (by kernel_rfl) (zAo hs hk rfl)
abbrev zHG:Ctrs:=csm zJX (fun _ _=>[]) (fun _=>false)
def zpm:Ann:=⟨19,[(0,zK [0,1] []),(1,zK [0,1,7,8] []),(2,zK [0,1,7,8,9] []),(3,zK [0,1,5,7,8] []),(4,zK [0,1,5,7,8,16] []),(5,zK [4] []),(6,zK [0,1,7,8] []),(7,zK [4] [])],
 [(2,zK [0,1,7,8] [])],
 [(5,zK [0,1,5,7,8,16] [])],
 [],[]⟩
abbrev zKn:=Int
abbrev zAp (r:zKn):List PA:=[.one (.int .i64 r)]
@[irreducible] def z119a:=ptF Try.prog zHG zpm Try.f119
def zrX (c0:straight) (sv0:(Sl Gate)) (zaV:Int) (zbP:Int) (zc4:Nat→List PV):St:=⟨[(0,zP (.sl sv0.len 3 zc4)),(1,zP (.fn 117 [] [.fp (zaf c0) 0])),(7,zI zaV),(8,zI zbP)],[],[]⟩
abbrev zpn (K:List PA→Prop) (c0:straight) (X:St→Prop) (P:(Sl Gate)→Int→Int→Bool) (S:(Sl Gate)→Int→Int→Int):Prop:=∀ ⦃sv0:(Sl Gate)⦄ ⦃zaV:Int⦄ ⦃zbP:Int⦄ ⦃zc4:Nat→List PV⦄,P sv0 zaV zbP=true→K (zAp (S sv0 zaV zbP))→zc4=zg enc_55 sv0→X (zrX c0 sv0 zaV zbP zc4)
section
variable {K:List PA→Prop} {c0:straight} {s:(Sl Gate)} {sv0:(Sl Gate)} {zaV:Int} {zbP:Int} {zc4:Nat→List PV} {X0:St→Prop} {P0:(Sl Gate)→Int→Int→Bool} {S0:(Sl Gate)→Int→Int→Int} {sv1:(Sl Gate)} {iv1:Int} {zf9:Int} {zjh:Int} {zdD:Bool} {zn4:Nat→List PV}
def zjj (S0:(Sl Gate)→Int→Int→Int) (c0:straight) (sv1:(Sl Gate)) (iv1:Int) (zf9:Int) (zjh:Int) (zdD:Bool):Int :=
  (cond zdD
 iv1
 (S0 sv1 zf9 (w64 (zjh+(1:Int)))))
def zjk (P0:(Sl Gate)→Int→Int→Bool) (c0:straight) (sv1:(Sl Gate)) (iv1:Int) (zf9:Int) (zjh:Int) (zdD:Bool):Bool :=
  (cond zdD
 true
 (P0 sv1 zf9 (w64 (zjh+(1:Int)))))
theorem zuT (hX0:zpn K c0 X0 P0 S0) (hs:zjk P0 c0 sv1 iv1 zf9 zjh zdD=true) (hk:K (zAp (zjj S0 c0 sv1 iv1 zf9 zjh zdD))) (zuS:zn4=zg enc_55 sv1):z119a K [1,0,1,0,0,1,1,0,0,1,1] [X0] ⟨[(0,zP (.sl sv1.len 3 zn4)),(1,zP (.fn 117 [] [.fp (zaf c0) 0])),(5,zI iv1),(7,zI zf9),(8,zI zjh),(16,zB zdD)],[],[]⟩:=by subst zuS;exact zax (by kernel_rfl) (zc hs hk (fun hs hk=>hk) (fun hs hk=>(hX0 hs hk rfl)))
def zgM (c0:straight) (S0:(Sl Gate)→Int→Int→Int) (sv0:(Sl Gate)) (zaV:Int) (zbP:Int):Int :=
  (cond (decide (zbP < zaV))
 (zjj S0 c0 sv0 zbP zaV zbP (zC9 c0 (sv0.get zbP.toNat)))
 (-1:Int))
def zgN (c0:straight) (P0:(Sl Gate)→Int→Int→Bool) (sv0:(Sl Gate)) (zaV:Int) (zbP:Int):Bool :=
  (cond (decide (zbP < zaV))
 (decide ((0≤zbP∧zbP < (sv0.len:Int))) &&
 (zjk P0 c0 sv0 zbP zaV zbP (zC9 c0 (sv0.get zbP.toNat))))
 true)
def zgO (c0:straight):Nat→(Sl Gate)→Int→Int→Int:=lpO (fun _ _ _=>default) (zgM c0)
def zgP (c0:straight):Nat→(Sl Gate)→Int→Int→Bool:=lpO (fun _ _ _=>false) (zgN c0)
def zn5 (c0:straight) (sv0:(Sl Gate)) (zaV:Int) (zbP:Int):Int:=zgO c0 Fuel sv0 zaV zbP
def zn6 (c0:straight) (sv0:(Sl Gate)) (zaV:Int) (zbP:Int):Bool:=zgP c0 Fuel sv0 zaV zbP
theorem zuU (hs:zn6 c0 sv0 zaV zbP=true) (hk:K (zAp (zn5 c0 sv0 zaV zbP))) (zji:zc4=zg enc_55 sv0):z119a K [1,0,1,0] [] (zrX c0 sv0 zaV zbP zc4) :=
  zl (fun X=>z119a K [1,0,1,0,0] [X]) (by kernel_rfl) fun X0 hX =>
  (show ∀ k, zpn K c0 X0 (zgP c0 k) (zgO c0 k) from zgL _ _ (zgN c0) (zgM c0) (zpn K c0 X0)
 (by intro _ _ _ _ hs;exact absurd hs Bool.false_ne_true)
 (by intro P0 S0 hX0 sv0 zaV zbP zc4 hs hk zji;subst zji;exact hX _ (zax (by kernel_rfl) (zc hs hk (fun hs hk=>(zaw hs fun hc hs=>And.intro hc (zuT hX0 hs hk rfl))) (fun hs hk=>hk))))) _ hs hk zji
def zuV (c0:straight) (s:(Sl Gate)):Int :=
  (zn5 c0 s (s.len:Int) (0:Int))
def zuW (c0:straight) (s:(Sl Gate)):Bool :=
  (zn6 c0 s (s.len:Int) (0:Int))
end
theorem zKo (c0:straight) (s:(Sl Gate)) (K:List PA→Prop) (hs:zuW c0 s=true) (hk:K (zAp (zuV c0 s))):vcFun Try.prog zHG zpm 119 [.one (.sl s.len 3 (fun i=>enc_55 (s.get i))),.one (.fn 117 [] [.fp (zaf c0) 0])] K :=
  zax (by kernel_rfl) (zuU hs hk rfl)
abbrev zHH:Ctrs:=csm zJX (fun _ _=>[]) (fun _=>false)
def zpo:Ann:=⟨19,[(0,zK [0,1] []),(1,zK [0,1,7,8] []),(2,zK [0,1,7,8,9] []),(3,zK [0,1,5,7,8] []),(4,zK [0,1,5,7,8,16] []),(5,zK [4] []),(6,zK [0,1,7,8] []),(7,zK [4] [])],
 [(2,zK [0,1,7,8] [])],
 [(5,zK [0,1,5,7,8,16] [])],
 [],[]⟩
abbrev zKp:=Int
abbrev zAq (r:zKp):List PA:=[.one (.int .i64 r)]
@[irreducible] def z119b:=ptF Try.prog zHH zpo Try.f119
def zrY (c0:straight) (sv0:(Sl Gate)) (zaV:Int) (zbP:Int) (zc4:Nat→List PV):St:=⟨[(0,zP (.sl sv0.len 3 zc4)),(1,zP (.fn 123 [] [.fp (zaf c0) 0])),(7,zI zaV),(8,zI zbP)],[],[]⟩
abbrev zpp (K:List PA→Prop) (c0:straight) (X:St→Prop) (P:(Sl Gate)→Int→Int→Bool) (S:(Sl Gate)→Int→Int→Int):Prop:=∀ ⦃sv0:(Sl Gate)⦄ ⦃zaV:Int⦄ ⦃zbP:Int⦄ ⦃zc4:Nat→List PV⦄,P sv0 zaV zbP=true→K (zAq (S sv0 zaV zbP))→zc4=zg enc_55 sv0→X (zrY c0 sv0 zaV zbP zc4)
section
variable {K:List PA→Prop} {c0:straight} {s:(Sl Gate)} {sv0:(Sl Gate)} {zaV:Int} {zbP:Int} {zc4:Nat→List PV} {X0:St→Prop} {P0:(Sl Gate)→Int→Int→Bool} {S0:(Sl Gate)→Int→Int→Int} {sv1:(Sl Gate)} {iv1:Int} {zf9:Int} {zjh:Int} {zdD:Bool} {zn4:Nat→List PV}
def zn7 (S0:(Sl Gate)→Int→Int→Int) (c0:straight) (sv1:(Sl Gate)) (iv1:Int) (zf9:Int) (zjh:Int) (zdD:Bool):Int :=
  (cond zdD
 iv1
 (S0 sv1 zf9 (w64 (zjh+(1:Int)))))
def zn8 (P0:(Sl Gate)→Int→Int→Bool) (c0:straight) (sv1:(Sl Gate)) (iv1:Int) (zf9:Int) (zjh:Int) (zdD:Bool):Bool :=
  (cond zdD
 true
 (P0 sv1 zf9 (w64 (zjh+(1:Int)))))
theorem zuX (hX0:zpp K c0 X0 P0 S0) (hs:zn8 P0 c0 sv1 iv1 zf9 zjh zdD=true) (hk:K (zAq (zn7 S0 c0 sv1 iv1 zf9 zjh zdD))) (zuS:zn4=zg enc_55 sv1):z119b K [1,0,1,0,0,1,1,0,0,1,1] [X0] ⟨[(0,zP (.sl sv1.len 3 zn4)),(1,zP (.fn 123 [] [.fp (zaf c0) 0])),(5,zI iv1),(7,zI zf9),(8,zI zjh),(16,zB zdD)],[],[]⟩:=by subst zuS;exact zax (by kernel_rfl) (zc hs hk (fun hs hk=>hk) (fun hs hk=>(hX0 hs hk rfl)))
def zn9 (c0:straight) (S0:(Sl Gate)→Int→Int→Int) (sv0:(Sl Gate)) (zaV:Int) (zbP:Int):Int :=
  (cond (decide (zbP < zaV))
 (zn7 S0 c0 sv0 zbP zaV zbP (zJW c0 (sv0.get zbP.toNat)))
 (-1:Int))
def zoa (c0:straight) (P0:(Sl Gate)→Int→Int→Bool) (sv0:(Sl Gate)) (zaV:Int) (zbP:Int):Bool :=
  (cond (decide (zbP < zaV))
 (decide ((0≤zbP∧zbP < (sv0.len:Int))) &&
 (zn8 P0 c0 sv0 zbP zaV zbP (zJW c0 (sv0.get zbP.toNat))))
 true)
def zob (c0:straight):Nat→(Sl Gate)→Int→Int→Int:=lpO (fun _ _ _=>default) (zn9 c0)
def zoc (c0:straight):Nat→(Sl Gate)→Int→Int→Bool:=lpO (fun _ _ _=>false) (zoa c0)
def zod (c0:straight) (sv0:(Sl Gate)) (zaV:Int) (zbP:Int):Int:=zob c0 Fuel sv0 zaV zbP
def zoe (c0:straight) (sv0:(Sl Gate)) (zaV:Int) (zbP:Int):Bool:=zoc c0 Fuel sv0 zaV zbP
theorem zuY (hs:zoe c0 sv0 zaV zbP=true) (hk:K (zAq (zod c0 sv0 zaV zbP))) (zji:zc4=zg enc_55 sv0):z119b K [1,0,1,0] [] (zrY c0 sv0 zaV zbP zc4) :=
  zl (fun X=>z119b K [1,0,1,0,0] [X]) (by kernel_rfl) fun X0 hX =>
  (show ∀ k, zpp K c0 X0 (zoc c0 k) (zob c0 k) from zgL _ _ (zoa c0) (zn9 c0) (zpp K c0 X0)
 (by intro _ _ _ _ hs;exact absurd hs Bool.false_ne_true)
 (by intro P0 S0 hX0 sv0 zaV zbP zc4 hs hk zji;subst zji;exact hX _ (zax (by kernel_rfl) (zc hs hk (fun hs hk=>(zaw hs fun hc hs=>And.intro hc (zuX hX0 hs hk rfl))) (fun hs hk=>hk))))) _ hs hk zji
def zDc (c0:straight) (s:(Sl Gate)):Int :=
  (zod c0 s (s.len:Int) (0:Int))
def zDd (c0:straight) (s:(Sl Gate)):Bool :=
  (zoe c0 s (s.len:Int) (0:Int))
end
theorem zKq (c0:straight) (s:(Sl Gate)) (K:List PA→Prop) (hs:zDd c0 s=true) (hk:K (zAq (zDc c0 s))):vcFun Try.prog zHH zpo 119 [.one (.sl s.len 3 (fun i=>enc_55 (s.get i))),.one (.fn 123 [] [.fp (zaf c0) 0])] K :=
  zax (by kernel_rfl) (zuY hs hk rfl)
def zuZ : List PA → COut
  | [.one (.sl a0_n a0_s a0_g),.one (.fn 100 [] [.fp [.sl c0_Gates_n c0_Gates_s c0_Gates_g] 0])]=>.det (IsE enc_55 3 a0_s a0_g∧IsE enc_55 3 c0_Gates_s c0_Gates_g∧zHF (⟨(⟨c0_Gates_n,zad c0_Gates_g⟩:(Sl Gate))⟩:list) (⟨a0_n,zad a0_g⟩:(Sl Gate))=true) [.one (.int .i64 (zHE (⟨(⟨c0_Gates_n,zad c0_Gates_g⟩:(Sl Gate))⟩:list) (⟨a0_n,zad a0_g⟩:(Sl Gate))))]
  | [.one (.sl a0_n a0_s a0_g),.one (.fn 117 [] [.fp [.int .i64 c0_slope,.int .i64 c0_start,.int .i64 c0_den] 0])]=>.det (IsE enc_55 3 a0_s a0_g∧zuW (⟨c0_slope,c0_start,c0_den⟩:straight) (⟨a0_n,zad a0_g⟩:(Sl Gate))=true) [.one (.int .i64 (zuV (⟨c0_slope,c0_start,c0_den⟩:straight) (⟨a0_n,zad a0_g⟩:(Sl Gate))))]
  | [.one (.sl a0_n a0_s a0_g),.one (.fn 123 [] [.fp [.int .i64 c0_slope,.int .i64 c0_start,.int .i64 c0_den] 0])]=>.det (IsE enc_55 3 a0_s a0_g∧zDd (⟨c0_slope,c0_start,c0_den⟩:straight) (⟨a0_n,zad a0_g⟩:(Sl Gate))=true) [.one (.int .i64 (zDc (⟨c0_slope,c0_start,c0_den⟩:straight) (⟨a0_n,zad a0_g⟩:(Sl Gate))))]
  | _=>.no
theorem zDe:zai Try.prog 119:=⟨_,rfl,rfl,by kernel_rfl⟩
theorem zKr:Ok Try.prog 119 zuZ:=zaG zHD zDe fun args K h=>by
  unfold zuZ at h
  split at h
  · rename_i a0_n a0_s a0_g c0_Gates_n c0_Gates_s c0_Gates_g
    obtain ⟨⟨⟨rfl,a0_f,rfl⟩,⟨rfl,c0_Gates_f,rfl⟩,hs⟩,hk⟩:=h
    try rw [zac a0_f] at hs
    try rw [zac a0_f] at hk
    try rw [zac c0_Gates_f] at hs
    try rw [zac c0_Gates_f] at hk
    exact ⟨(fun _ _=>[]),(fun _=>false),zuP,zM1 (⟨(⟨c0_Gates_n,c0_Gates_f⟩:(Sl Gate))⟩:list) (⟨a0_n,a0_f⟩:(Sl Gate)) K hs hk⟩
  · rename_i a0_n a0_s a0_g c0_slope c0_start c0_den
    obtain ⟨⟨⟨rfl,a0_f,rfl⟩,hs⟩,hk⟩:=h
    try rw [zac a0_f] at hs
    try rw [zac a0_f] at hk
    exact ⟨(fun _ _=>[]),(fun _=>false),zpm,zKo (⟨c0_slope,c0_start,c0_den⟩:straight) (⟨a0_n,a0_f⟩:(Sl Gate)) K hs hk⟩
  · rename_i a0_n a0_s a0_g c0_slope c0_start c0_den
    obtain ⟨⟨⟨rfl,a0_f,rfl⟩,hs⟩,hk⟩:=h
    try rw [zac a0_f] at hs
    try rw [zac a0_f] at hk
    exact ⟨(fun _ _=>[]),(fun _=>false),zpo,zKq (⟨c0_slope,c0_start,c0_den⟩:straight) (⟨a0_n,a0_f⟩:(Sl Gate)) K hs hk⟩
  · exact h.elim
abbrev T99:Tabs:=(Tabs.nil.addF 119 zuZ)
theorem zKs:TabsOk Try.prog T99:=(TabsOk.nil.addF zKr)
abbrev G99:Ctrs:=csm T99 (fun _ _=>[]) (fun _=>false)
def zHI:Ann:=⟨9,[(0,zK [0,1] []),(1,zK [4] [])],
 [],
 [],
 [],[]⟩
abbrev R99:=Bool
abbrev e99 (r:R99):List PA:=[.one (.bool r)]
section
variable {K:List PA→Prop} {c0:list} {s:(Sl Gate)}
def s99 (c0:list) (s:(Sl Gate)):Bool :=
  (decide ((zHE c0 s) ≥ (0:Int)))
def p99 (c0:list) (s:(Sl Gate)):Bool :=
  (decide ((zHF c0 s=true)) &&
 true)
end
theorem q99 (c0:list) (s:(Sl Gate)) (K:List PA→Prop) (hs:p99 c0 s=true) (hk:K (e99 (s99 c0 s))):vcFun Try.prog G99 zHI 99 [.one (.sl s.len 3 (fun i=>enc_55 (s.get i))),.one (.fn 100 [] [.fp (zb1 c0) 0])] K :=
  zax (by kernel_rfl) (zaw hs fun hc hs=>And.intro (And.intro (zE enc_55 3 s.get) (And.intro (zE enc_55 3 c0.Gates.get) hc)) hk)
abbrev zM2:Ctrs:=csm T99 (fun _ _=>[]) (fun _=>false)
def zBO:Ann:=⟨9,[(0,zK [0,1] []),(1,zK [4] [])],
 [],
 [],
 [],[]⟩
abbrev zM3:=Bool
abbrev zM4 (r:zM3):List PA:=[.one (.bool r)]
section
variable {K:List PA→Prop} {c0:straight} {s:(Sl Gate)}
def zJY (c0:straight) (s:(Sl Gate)):Bool :=
  (decide ((zuV c0 s) ≥ (0:Int)))
def zJZ (c0:straight) (s:(Sl Gate)):Bool :=
  (decide ((zuW c0 s=true)) &&
 true)
end
theorem zM5 (c0:straight) (s:(Sl Gate)) (K:List PA→Prop) (hs:zJZ c0 s=true) (hk:K (zM4 (zJY c0 s))):vcFun Try.prog zM2 zBO 99 [.one (.sl s.len 3 (fun i=>enc_55 (s.get i))),.one (.fn 117 [] [.fp (zaf c0) 0])] K :=
  zax (by kernel_rfl) (zaw hs fun hc hs=>And.intro (And.intro (zE enc_55 3 s.get) hc) hk)
abbrev zM6:Ctrs:=csm T99 (fun _ _=>[]) (fun _=>false)
def zBP:Ann:=⟨9,[(0,zK [0,1] []),(1,zK [4] [])],
 [],
 [],
 [],[]⟩
abbrev zM7:=Bool
abbrev zM8 (r:zM7):List PA:=[.one (.bool r)]
section
variable {K:List PA→Prop} {c0:straight} {s:(Sl Gate)}
def zKt (c0:straight) (s:(Sl Gate)):Bool :=
  (decide ((zDc c0 s) ≥ (0:Int)))
def zKu (c0:straight) (s:(Sl Gate)):Bool :=
  (decide ((zDd c0 s=true)) &&
 true)
end
theorem zM9 (c0:straight) (s:(Sl Gate)) (K:List PA→Prop) (hs:zKu c0 s=true) (hk:K (zM8 (zKt c0 s))):vcFun Try.prog zM6 zBP 99 [.one (.sl s.len 3 (fun i=>enc_55 (s.get i))),.one (.fn 123 [] [.fp (zaf c0) 0])] K :=
  zax (by kernel_rfl) (zaw hs fun hc hs=>And.intro (And.intro (zE enc_55 3 s.get) hc) hk)
def zu0 : List PA → COut
  | [.one (.sl a0_n a0_s a0_g),.one (.fn 100 [] [.fp [.sl c0_Gates_n c0_Gates_s c0_Gates_g] 0])]=>.det (IsE enc_55 3 a0_s a0_g∧IsE enc_55 3 c0_Gates_s c0_Gates_g∧p99 (⟨(⟨c0_Gates_n,zad c0_Gates_g⟩:(Sl Gate))⟩:list) (⟨a0_n,zad a0_g⟩:(Sl Gate))=true) [.one (.bool (s99 (⟨(⟨c0_Gates_n,zad c0_Gates_g⟩:(Sl Gate))⟩:list) (⟨a0_n,zad a0_g⟩:(Sl Gate))))]
  | [.one (.sl a0_n a0_s a0_g),.one (.fn 117 [] [.fp [.int .i64 c0_slope,.int .i64 c0_start,.int .i64 c0_den] 0])]=>.det (IsE enc_55 3 a0_s a0_g∧zJZ (⟨c0_slope,c0_start,c0_den⟩:straight) (⟨a0_n,zad a0_g⟩:(Sl Gate))=true) [.one (.bool (zJY (⟨c0_slope,c0_start,c0_den⟩:straight) (⟨a0_n,zad a0_g⟩:(Sl Gate))))]
  | [.one (.sl a0_n a0_s a0_g),.one (.fn 123 [] [.fp [.int .i64 c0_slope,.int .i64 c0_start,.int .i64 c0_den] 0])]=>.det (IsE enc_55 3 a0_s a0_g∧zKu (⟨c0_slope,c0_start,c0_den⟩:straight) (⟨a0_n,zad a0_g⟩:(Sl Gate))=true) [.one (.bool (zKt (⟨c0_slope,c0_start,c0_den⟩:straight) (⟨a0_n,zad a0_g⟩:(Sl Gate))))]
  | _=>.no
theorem zHJ:zai Try.prog 99:=⟨_,rfl,rfl,by kernel_rfl⟩
theorem zKv:Ok Try.prog 99 zu0:=zaG zKs zHJ fun args K h=>by
  unfold zu0 at h
  split at h
  · rename_i a0_n a0_s a0_g c0_Gates_n c0_Gates_s c0_Gates_g
    obtain ⟨⟨⟨rfl,a0_f,rfl⟩,⟨rfl,c0_Gates_f,rfl⟩,hs⟩,hk⟩:=h
    try rw [zac a0_f] at hs
    try rw [zac a0_f] at hk
    try rw [zac c0_Gates_f] at hs
    try rw [zac c0_Gates_f] at hk
    exact ⟨(fun _ _=>[]),(fun _=>false),zHI,q99 (⟨(⟨c0_Gates_n,c0_Gates_f⟩:(Sl Gate))⟩:list) (⟨a0_n,a0_f⟩:(Sl Gate)) K hs hk⟩
  · rename_i a0_n a0_s a0_g c0_slope c0_start c0_den
    obtain ⟨⟨⟨rfl,a0_f,rfl⟩,hs⟩,hk⟩:=h
    try rw [zac a0_f] at hs
    try rw [zac a0_f] at hk
    exact ⟨(fun _ _=>[]),(fun _=>false),zBO,zM5 (⟨c0_slope,c0_start,c0_den⟩:straight) (⟨a0_n,a0_f⟩:(Sl Gate)) K hs hk⟩
  · rename_i a0_n a0_s a0_g c0_slope c0_start c0_den
    obtain ⟨⟨⟨rfl,a0_f,rfl⟩,hs⟩,hk⟩:=h
    try rw [zac a0_f] at hs
    try rw [zac a0_f] at hk
    exact ⟨(fun _ _=>[]),(fun _=>false),zBP,zM9 (⟨c0_slope,c0_start,c0_den⟩:straight) (⟨a0_n,a0_f⟩:(Sl Gate)) K hs hk⟩
  · exact h.elim
abbrev T67:Tabs:=(Tabs.nil.addF 99 zu0)
theorem zKw:TabsOk Try.prog T67:=(TabsOk.nil.addF zKv)
abbrev G67:Ctrs:=csm T67 (fun _ _=>[]) (fun _=>false)
def zHK:Ann:=⟨8,[(0,zK [1] [1]),(1,zK [2] [])],
 [],
 [],
 [],[]⟩
abbrev R67:=Bool
abbrev e67 (r:R67):List PA:=[.one (.bool r)]
section
variable {K:List PA→Prop} {l_a0:list}
def s67 (l_a0:list):Bool :=
  (!(s99 l_a0 l_a0.Gates))
def p67 (l_a0:list):Bool :=
  (decide ((p99 l_a0 l_a0.Gates=true)) &&
 true)
end
theorem q67 (l_a0:list) (K:List PA→Prop) (hs:p67 l_a0=true) (hk:K (e67 (s67 l_a0))):vcFun Try.prog G67 zHK 67 [.agg (zb1 l_a0)] K :=
  zax (by kernel_rfl) (zaw hs fun hc hs=>And.intro (And.intro (zE enc_55 3 l_a0.Gates.get) (And.intro (zE enc_55 3 l_a0.Gates.get) hc)) hk)
def zof : List PA → COut
  | [.agg [.sl a0_Gates_n a0_Gates_s a0_Gates_g]]=>.det (IsE enc_55 3 a0_Gates_s a0_Gates_g∧p67 (⟨(⟨a0_Gates_n,zad a0_Gates_g⟩:(Sl Gate))⟩:list)=true) [.one (.bool (s67 (⟨(⟨a0_Gates_n,zad a0_Gates_g⟩:(Sl Gate))⟩:list)))]
  | _=>.no
theorem zHL:zai Try.prog 67:=⟨_,rfl,rfl,by kernel_rfl⟩
theorem zGN:Ok Try.prog 67 zof:=zaG zKw zHL fun args K h=>by
  unfold zof at h
  split at h
  · rename_i a0_Gates_n a0_Gates_s a0_Gates_g
    obtain ⟨⟨⟨rfl,a0_Gates_f,rfl⟩,hs⟩,hk⟩:=h
    try rw [zac a0_Gates_f] at hs
    try rw [zac a0_Gates_f] at hk
    exact ⟨(fun _ _=>[]),(fun _=>false),zHK,q67 (⟨(⟨a0_Gates_n,a0_Gates_f⟩:(Sl Gate))⟩:list) K hs hk⟩
  · exact h.elim
abbrev zMc:Tabs:=Tabs.nil
theorem zHM:TabsOk Try.prog zMc:=TabsOk.nil
abbrev zMd:Ctrs:=csm zMc (fun _ _=>[]) (fun _=>false)
def zu1:Ann:=⟨12,[(0,zK [0,1] []),(1,zK [0,1,6] []),(2,zK [0,1] []),(3,zK [4] [])],
 [(1,zK [0,1] [])],
 [],
 [],[]⟩
abbrev zNa:=Int
abbrev zKx (r:zNa):List PA:=[.one (.int .i64 r)]
@[irreducible] def z114:=ptF Try.prog zMd zu1 Try.f114
def zu3 (av0:Int) (bv0:Int):St:=⟨[(0,zI av0),(1,zI bv0)],[],[]⟩
abbrev zBQ (K:List PA→Prop) (X:St→Prop) (P:Int→Int→Bool) (S:Int→Int→Int):Prop:=∀ ⦃av0:Int⦄ ⦃bv0:Int⦄,P av0 bv0=true→K (zKx (S av0 bv0))→X (zu3 av0 bv0)
section
variable {K:List PA→Prop} {a:Int} {b:Int} {av0:Int} {bv0:Int} {X0:St→Prop} {P0:Int→Int→Bool} {S0:Int→Int→Int}
def zio (S0:Int→Int→Int) (av0:Int) (bv0:Int):Int :=
  (cond (decide (bv0 > (0:Int)))
 (S0 bv0 (av0.tmod bv0))
 av0)
def ziq (P0:Int→Int→Bool) (av0:Int) (bv0:Int):Bool :=
  (cond (decide (bv0 > (0:Int)))
 (decide ((bv0 ≠ 0)) &&
 (P0 bv0 (av0.tmod bv0)))
 true)
def zir:Nat→Int→Int→Int:=lpO (fun _ _=>default) (zio)
def zis:Nat→Int→Int→Bool:=lpO (fun _ _=>false) (ziq)
def zrZ (av0:Int) (bv0:Int):Int:=zir Fuel av0 bv0
def zr0 (av0:Int) (bv0:Int):Bool:=zis Fuel av0 bv0
theorem zAr (hs:zr0 av0 bv0=true) (hk:K (zKx (zrZ av0 bv0))):z114 K [1,0,0] [] (zu3 av0 bv0) :=
  zl (fun X=>z114 K [1,0,0,0] [X]) (by kernel_rfl) fun X0 hX =>
  (show ∀ k, zBQ K X0 (zis k) (zir k) from zgL _ _ (ziq) (zio) (zBQ K X0)
 (by intro _ _ hs;exact absurd hs Bool.false_ne_true)
 (by intro P0 S0 hX0 av0 bv0 hs hk;exact hX _ (zax (by kernel_rfl) (zc hs hk (fun hs hk=>(zaw hs fun hc hs=>And.intro hc (hX0 hs hk))) (fun hs hk=>hk))))) _ hs hk
def zDf (a:Int) (b:Int):Int :=
  (zrZ a b)
def zJ0 (a:Int) (b:Int):Bool :=
  (zr0 a b)
end
theorem zNb (a:Int) (b:Int) (K:List PA→Prop) (hs:zJ0 a b=true) (hk:K (zKx (zDf a b))):vcFun Try.prog zMd zu1 114 [.one (.int .i64 a),.one (.int .i64 b)] K :=
  zax (by kernel_rfl) (zAr hs hk)
def zu4 : List PA → COut
  | [.one (.int .i64 a0),.one (.int .i64 a1)]=>.det (zJ0 a0 a1=true) [.one (.int .i64 (zDf a0 a1))]
  | _=>.no
theorem zDg:zai Try.prog 114:=⟨_,rfl,rfl,by kernel_rfl⟩
theorem zKz:Ok Try.prog 114 zu4:=zaG zHM zDg fun args K h=>by
  unfold zu4 at h
  split at h
  · rename_i a0 a1
    obtain ⟨hs,hk⟩:=h
    exact ⟨(fun _ _=>[]),(fun _=>false),zu1,zNb a0 a1 K hs hk⟩
  · exact h.elim
abbrev T89:Tabs:=(Tabs.nil.addF 114 zu4)
theorem zKA:TabsOk Try.prog T89:=(TabsOk.nil.addF zKz)
abbrev G89:Ctrs:=csm T89 (fun _ _=>[]) (fun _=>false)
def zHN:Ann:=⟨19,[(0,zK [0,1,4] [4]),(1,zK [0,1,4,5] [4]),(2,zK [4] [4])],
 [],
 [],
 [],[]⟩
abbrev R89:=Frac
abbrev e89 (r:R89):List PA:=[.agg [.int .i64 r.Num,.int .i64 r.Den]]
section
variable {K:List PA→Prop} {num:Int} {den:Int}
def s89 (num:Int) (den:Int):Frac :=
  (⟨(w64 (num.tdiv (zDf (if (w64 (0 - num)) > num then (w64 (0 - num)) else num) den))),(w64 (den.tdiv (zDf (if (w64 (0 - num)) > num then (w64 (0 - num)) else num) den)))⟩:Frac)
def p89 (num:Int) (den:Int):Bool :=
  (decide ((zJ0 (if (w64 (0 - num)) > num then (w64 (0 - num)) else num) den=true)) &&
 (decide (((zDf (if (w64 (0 - num)) > num then (w64 (0 - num)) else num) den) ≠ 0)) &&
 (decide (((zDf (if (w64 (0 - num)) > num then (w64 (0 - num)) else num) den) ≠ 0)) &&
 true)))
end
theorem q89 (num:Int) (den:Int) (K:List PA→Prop) (hs:p89 num den=true) (hk:K (e89 (s89 num den))):vcFun Try.prog G89 zHN 89 [.one (.int .i64 num),.one (.int .i64 den)] K :=
  zax (by kernel_rfl) (zaw hs fun hc hs=>And.intro hc (zaw hs fun hc hs=>And.intro hc (zaw hs fun hc hs=>And.intro hc hk)))
def zpq : List PA → COut
  | [.one (.int .i64 a0),.one (.int .i64 a1)]=>.det (p89 a0 a1=true) [.agg [.int .i64 ((s89 a0 a1).Num),.int .i64 ((s89 a0 a1).Den)]]
  | _=>.no
theorem zHO:zai Try.prog 89:=⟨_,rfl,rfl,by kernel_rfl⟩
theorem zHP:Ok Try.prog 89 zpq:=zaG zKA zHO fun args K h=>by
  unfold zpq at h
  split at h
  · rename_i a0 a1
    obtain ⟨hs,hk⟩:=h
    exact ⟨(fun _ _=>[]),(fun _=>false),zHN,q89 a0 a1 K hs hk⟩
  · exact h.elim
abbrev T98:Tabs:=Tabs.nil
theorem zKB:TabsOk Try.prog T98:=TabsOk.nil
abbrev G98:Ctrs:=csm T98 (fun _ _=>[]) (fun _=>false)
def zDh:Ann:=⟨38,[(0,zK [1,2] [1,2]),(1,zK [1,2,3] [1,2,3]),(2,zK [2,3,18,19,20] [2,3]),(3,zK [2,3,18,19,20,21] [2,3]),(4,zK [2,3,5,18,19,20] [2,3,5]),(5,zK [2,3,18,19,20] [2,3]),(6,zK [2,3,18,19,20] [2,3]),(7,zK [2] [2])],
 [(3,zK [2,3,18,19,20] [2,3])],
 [],
 [],[]⟩
abbrev R98:=Span
abbrev e98 (r:R98):List PA:=[.agg [.int .i64 r.Low,.int .i64 r.High]]
@[irreducible] def z98:=ptF Try.prog G98 zDh Try.f98
def zBR (l_a0:list) (zcx:Int) (zan:Int) (zao:Int):St:=⟨[(2,zp 2 0),(3,zp 3 0),(18,zS enc_55 3 l_a0.Gates),(19,zI (l_a0.Gates.len:Int)),(20,zI zcx)],[(2,.box 96 (zm (zBJ (⟨(0:Int),(0:Int)⟩:Span)))),(3,.box 96 (zm (zBJ (⟨zan,zao⟩:Span))))],[]⟩
abbrev zHQ (K:List PA→Prop) (l_a0:list) (X:St→Prop) (P:Int→Int→Int→Bool) (S:Int→Int→Int→Span):Prop:=∀ ⦃zcx:Int⦄ ⦃zan:Int⦄ ⦃zao:Int⦄,P zcx zan zao=true→K (e98 (S zcx zan zao))→X (zBR l_a0 zcx zan zao)
section
variable {K:List PA→Prop} {l_a0:list} {zcx:Int} {zan:Int} {zao:Int} {X0:St→Prop} {P0:Int→Int→Int→Bool} {S0:Int→Int→Int→Span}
def zhi (l_a0:list) (S0:Int→Int→Int→Span) (zcx:Int) (zan:Int) (zao:Int):Span :=
  (cond (decide (zcx < (l_a0.Gates.len : Int)))
 (S0 (w64 (zcx+(1:Int))) (if (l_a0.Gates.get zcx.toNat).Low > zan then (l_a0.Gates.get zcx.toNat).Low else zan) (if (l_a0.Gates.get zcx.toNat).High < zao then (l_a0.Gates.get zcx.toNat).High else zao))
 (⟨zan,zao⟩:Span))
def zhj (l_a0:list) (P0:Int→Int→Int→Bool) (zcx:Int) (zan:Int) (zao:Int):Bool :=
  (cond (decide (zcx < (l_a0.Gates.len : Int)))
 (decide ((0≤zcx∧zcx < (l_a0.Gates.len:Int))) &&
 (P0 (w64 (zcx+(1:Int))) (if (l_a0.Gates.get zcx.toNat).Low > zan then (l_a0.Gates.get zcx.toNat).Low else zan) (if (l_a0.Gates.get zcx.toNat).High < zao then (l_a0.Gates.get zcx.toNat).High else zao)))
 true)
def zhk (l_a0:list):Nat→Int→Int→Int→Span:=lpO (fun _ _ _=>default) (zhi l_a0)
def zhl (l_a0:list):Nat→Int→Int→Int→Bool:=lpO (fun _ _ _=>false) (zhj l_a0)
def zu5 (l_a0:list) (zcx:Int) (zan:Int) (zao:Int):Span:=zhk l_a0 Fuel zcx zan zao
def zu6 (l_a0:list) (zcx:Int) (zan:Int) (zao:Int):Bool:=zhl l_a0 Fuel zcx zan zao
theorem zDi (hs:zu6 l_a0 zcx zan zao=true) (hk:K (e98 (zu5 l_a0 zcx zan zao))):z98 K [1,1,0,1,0] [] (zBR l_a0 zcx zan zao) :=
  zl (fun X=>z98 K [1,1,0,1,0,0] [X]) (by kernel_rfl) fun X0 hX =>
  (show ∀ k, zHQ K l_a0 X0 (zhl l_a0 k) (zhk l_a0 k) from zgL _ _ (zhj l_a0) (zhi l_a0) (zHQ K l_a0 X0)
 (by intro _ _ _ hs;exact absurd hs Bool.false_ne_true)
 (by intro P0 S0 hX0 zcx zan zao hs hk;exact hX _ (zax (by kernel_rfl) (zc hs hk (fun hs hk=>(zaw hs fun hc hs=>And.intro hc (hX0 hs hk))) (fun hs hk=>hk))))) _ hs hk
def s98 (l_a0:list):Span :=
  (zu5 l_a0 (0:Int) ((l_a0.Gates.get 0).Low) ((l_a0.Gates.get 0).High))
def p98 (l_a0:list):Bool :=
  (decide ((0≤(0:Int)∧(0:Int) < (l_a0.Gates.len:Int))) &&
 (decide ((0≤(0:Int)∧(0:Int) < (l_a0.Gates.len:Int))) &&
 (zu6 l_a0 (0:Int) ((l_a0.Gates.get 0).Low) ((l_a0.Gates.get 0).High))))
end
theorem q98 (l_a0:list) (K:List PA→Prop) (hs:p98 l_a0=true) (hk:K (e98 (s98 l_a0))):vcFun Try.prog G98 zDh 98 [.agg (zb1 l_a0)] K :=
  zax (by kernel_rfl) (zaw hs fun hc hs=>And.intro hc (zaw hs fun hc hs=>And.intro hc (zDi hs hk)))
def zAs : List PA → COut
  | [.agg [.sl a0_Gates_n a0_Gates_s a0_Gates_g]]=>.det (IsE enc_55 3 a0_Gates_s a0_Gates_g∧p98 (⟨(⟨a0_Gates_n,zad a0_Gates_g⟩:(Sl Gate))⟩:list)=true) [.agg [.int .i64 ((s98 (⟨(⟨a0_Gates_n,zad a0_Gates_g⟩:(Sl Gate))⟩:list)).Low),.int .i64 ((s98 (⟨(⟨a0_Gates_n,zad a0_Gates_g⟩:(Sl Gate))⟩:list)).High)]]
  | _=>.no
theorem zHR:zai Try.prog 98:=⟨_,rfl,rfl,by kernel_rfl⟩
theorem zMe:Ok Try.prog 98 zAs:=zaG zKB zHR fun args K h=>by
  unfold zAs at h
  split at h
  · rename_i a0_Gates_n a0_Gates_s a0_Gates_g
    obtain ⟨⟨⟨rfl,a0_Gates_f,rfl⟩,hs⟩,hk⟩:=h
    try rw [zac a0_Gates_f] at hs
    try rw [zac a0_Gates_f] at hk
    exact ⟨(fun _ _=>[]),(fun _=>false),zDh,q98 (⟨(⟨a0_Gates_n,a0_Gates_f⟩:(Sl Gate))⟩:list) K hs hk⟩
  · exact h.elim
abbrev T83:Tabs:=Tabs.nil
theorem zKC:TabsOk Try.prog T83:=TabsOk.nil
abbrev G83:Ctrs:=csm T83 (fun _ _=>[]) (fun _=>false)
def zHS:Ann:=⟨8,[(0,zK [1,2] [1,2]),(1,zK [2] [2])],
 [],
 [],
 [],[]⟩
abbrev R83:=Frac
abbrev e83 (r:R83):List PA:=[.agg [.int .i64 r.Num,.int .i64 r.Den]]
section
variable {K:List PA→Prop} {x:straight}
def s83 (x:straight):Frac :=
  (⟨x.slope,x.den⟩:Frac)
end
theorem q83 (x:straight) (K:List PA→Prop) (hk:K (e83 (s83 x))):vcFun Try.prog G83 zHS 83 [.agg (zaf x)] K :=
  zax (by kernel_rfl) hk
def zDj : List PA → COut
  | [.agg [.int .i64 a0_slope,.int .i64 a0_start,.int .i64 a0_den]]=>.tot [.agg [.int .i64 ((s83 (⟨a0_slope,a0_start,a0_den⟩:straight)).Num),.int .i64 ((s83 (⟨a0_slope,a0_start,a0_den⟩:straight)).Den)]]
  | _=>.no
theorem zHT:zai Try.prog 83:=⟨_,rfl,rfl,by kernel_rfl⟩
theorem zNc:Ok Try.prog 83 zDj:=zaG zKC zHT fun args K h=>by
  unfold zDj at h
  split at h
  · rename_i a0_slope a0_start a0_den
    have hk:=h
    exact ⟨(fun _ _=>[]),(fun _=>false),zHS,q83 (⟨a0_slope,a0_start,a0_den⟩:straight) K hk⟩
  · exact h.elim
abbrev zMf:Tabs:=Tabs.nil
theorem zHU:TabsOk Try.prog zMf:=TabsOk.nil
abbrev zNd:Ctrs:=csm zMf (fun _ _=>[]) (fun _=>false)
def zBS:Ann:=⟨15,[(0,zK [1,2,4] [2,4]),(1,zK [4] [4])],
 [],
 [],
 [],[]⟩
abbrev zNe:=Frac
abbrev zNf (r:zNe):List PA:=[.agg [.int .i64 r.Num,.int .i64 r.Den]]
section
variable {K:List PA→Prop} {s:straight} {z:Int}
def zHV (s:straight) (z:Int):Frac :=
  (⟨(w64 (s.start+(w64 (s.slope * z)))),s.den⟩:Frac)
end
theorem zNg (s:straight) (z:Int) (K:List PA→Prop) (hk:K (zNf (zHV s z))):vcFun Try.prog zNd zBS 102 [.agg (zaf s),.one (.int .i64 z)] K :=
  zax (by kernel_rfl) hk
def zu7 : List PA → COut
  | [.agg [.int .i64 a0_slope,.int .i64 a0_start,.int .i64 a0_den],.one (.int .i64 a1)]=>.tot [.agg [.int .i64 ((zHV (⟨a0_slope,a0_start,a0_den⟩:straight) a1).Num),.int .i64 ((zHV (⟨a0_slope,a0_start,a0_den⟩:straight) a1).Den)]]
  | _=>.no
theorem zDk:zai Try.prog 102:=⟨_,rfl,rfl,by kernel_rfl⟩
theorem zKD:Ok Try.prog 102 zu7:=zaG zHU zDk fun args K h=>by
  unfold zu7 at h
  split at h
  · rename_i a0_slope a0_start a0_den a1
    have hk:=h
    exact ⟨(fun _ _=>[]),(fun _=>false),zBS,zNg (⟨a0_slope,a0_start,a0_den⟩:straight) a1 K hk⟩
  · exact h.elim
abbrev zMg:Tabs:=(Tabs.nil.addF 102 zu7)
theorem zHW:TabsOk Try.prog zMg:=(TabsOk.nil.addF zKD)
abbrev zNh:Ctrs:=csm zMg (fun _ _=>[]) (fun _=>false)
def zBT:Ann:=⟨7,[(0,zK [1,2,3] [2,3]),(1,zK [3] [3])],
 [],
 [],
 [],[]⟩
abbrev zNi:=Frac
abbrev zNj (r:zNi):List PA:=[.agg [.int .i64 r.Num,.int .i64 r.Den]]
section
variable {K:List PA→Prop} {c0:Int} {x:straight}
def zu8 (c0:Int) (x:straight):Frac :=
  (zHV x c0)
end
theorem zNk (c0:Int) (x:straight) (K:List PA→Prop) (hk:K (zNj (zu8 c0 x))):vcFun Try.prog zNh zBT 101 [.agg (zaf x),.one (.fp (zat c0) 0)] K :=
  zax (by kernel_rfl) hk
def zu9 : List PA → COut
  | [.agg [.int .i64 a0_slope,.int .i64 a0_start,.int .i64 a0_den],.one (.fp [.int .i64 c0] 0)]=>.tot [.agg [.int .i64 ((zu8 c0 (⟨a0_slope,a0_start,a0_den⟩:straight)).Num),.int .i64 ((zu8 c0 (⟨a0_slope,a0_start,a0_den⟩:straight)).Den)]]
  | _=>.no
theorem zDl:zai Try.prog 101:=⟨_,rfl,rfl,by kernel_rfl⟩
theorem zKE:Ok Try.prog 101 zu9:=zaG zHW zDl fun args K h=>by
  unfold zu9 at h
  split at h
  · rename_i a0_slope a0_start a0_den c0
    have hk:=h
    exact ⟨(fun _ _=>[]),(fun _=>false),zBT,zNk c0 (⟨a0_slope,a0_start,a0_den⟩:straight) K hk⟩
  · exact h.elim
abbrev zMh:Tabs:=Tabs.nil
theorem zHX:TabsOk Try.prog zMh:=TabsOk.nil
abbrev zNl:Ctrs:=csm zMh (fun _ _=>[]) (fun _=>false)
def zBU:Ann:=⟨6,[(0,zK [0] []),(1,zK [2] [])],
 [],
 [],
 [],[]⟩
abbrev zNm:=Bool
abbrev e120 (r:zNm):List PA:=[.one (.bool r)]
section
variable {K:List PA→Prop} {x:Int}
def zDm (x:Int):Bool :=
  (x != x)
end
theorem zNn (x:Int) (K:List PA→Prop) (hk:K (e120 (zDm x))):vcFun Try.prog zNl zBU 120 [.one (.int .i64 x)] K :=
  zax (by kernel_rfl) hk
def zva : List PA → COut
  | [.one (.int .i64 a0)]=>.tot [.one (.bool (zDm a0))]
  | _=>.no
theorem zDn:zai Try.prog 120:=⟨_,rfl,rfl,by kernel_rfl⟩
theorem zKF:Ok Try.prog 120 zva:=zaG zHX zDn fun args K h=>by
  unfold zva at h
  split at h
  · rename_i a0
    have hk:=h
    exact ⟨(fun _ _=>[]),(fun _=>false),zBU,zNn a0 K hk⟩
  · exact h.elim
abbrev zMi:Tabs:=(Tabs.nil.addF 120 zva)
theorem zHY:TabsOk Try.prog zMi:=(TabsOk.nil.addF zKF)
abbrev zNo:Ctrs:=csm zMi (fun _ _=>[]) (fun _=>false)
def zBV:Ann:=⟨20,[(0,zK [0,1] []),(1,zK [0,1,5] []),(2,zK [0,1,5,6] []),(3,zK [0,1,6,11] []),(4,zK [12] []),(5,zK [4] []),(6,zK [4] []),(7,zK [0,1,13] []),(8,zK [4] []),(9,zK [0,1,16] []),(10,zK [4] []),(11,zK [19] []),(12,zK [4] []),(13,zK [4] [])],
 [],
 [],
 [],[]⟩
abbrev zNp:=Int
abbrev zNq (r:zNp):List PA:=[.one (.int .i64 r)]
section
variable {K:List PA→Prop} {x:Int} {y_a1:Int}
def zDo (x:Int) (y_a1:Int):Int :=
  (cond (zDm x)
 (cond (zDm y_a1)
 (0:Int)
 (-1:Int))
 (cond (zDm y_a1)
 (1:Int)
 (cond (decide (x < y_a1))
 (-1:Int)
 (cond (decide (x > y_a1))
 (1:Int)
 (0:Int)))))
end
theorem zNr (x:Int) (y_a1:Int) (K:List PA→Prop) (hk:K (zNq (zDo x y_a1))):vcFun Try.prog zNo zBV 103 [.one (.int .i64 x),.one (.int .i64 y_a1)] K :=
  zax (by kernel_rfl) (zt hk (fun hk=>(zt hk (fun hk=>hk) (fun hk=>hk))) (fun hk=>(zt hk (fun hk=>hk) (fun hk=>(zt hk (fun hk=>hk) (fun hk=>(zt hk (fun hk=>hk) (fun hk=>hk))))))))
def zvb : List PA → COut
  | [.one (.int .i64 a0),.one (.int .i64 a1)]=>.tot [.one (.int .i64 (zDo a0 a1))]
  | _=>.no
theorem zDp:zai Try.prog 103:=⟨_,rfl,rfl,by kernel_rfl⟩
theorem zKG:Ok Try.prog 103 zvb:=zaG zHY zDp fun args K h=>by
  unfold zvb at h
  split at h
  · rename_i a0 a1
    have hk:=h
    exact ⟨(fun _ _=>[]),(fun _=>false),zBV,zNr a0 a1 K hk⟩
  · exact h.elim
abbrev T69:Tabs:=(Tabs.nil.addF 103 zvb)
theorem zKH:TabsOk Try.prog T69:=(TabsOk.nil.addF zKG)
abbrev G69:Ctrs:=csm T69 (fun _ _=>[]) (fun _=>false)
def zHZ:Ann:=⟨16,[(0,zK [2,3] [2,3]),(1,zK [4] [])],
 [],
 [],
 [],[]⟩
abbrev R69:=Int
abbrev e69 (r:R69):List PA:=[.one (.int .i64 r)]
section
variable {K:List PA→Prop} {a:Frac} {b:Frac}
def s69 (a:Frac) (b:Frac):Int :=
  (zDo (w64 (a.Num * b.Den)) (w64 (b.Num * a.Den)))
end
theorem q69 (a:Frac) (b:Frac) (K:List PA→Prop) (hk:K (e69 (s69 a b))):vcFun Try.prog G69 zHZ 69 [.agg (zae a),.agg (zae b)] K :=
  zax (by kernel_rfl) hk
def zpr : List PA → COut
  | [.agg [.int .i64 a0_Num,.int .i64 a0_Den],.agg [.int .i64 a1_Num,.int .i64 a1_Den]]=>.tot [.one (.int .i64 (s69 (⟨a0_Num,a0_Den⟩:Frac) (⟨a1_Num,a1_Den⟩:Frac)))]
  | _=>.no
theorem zH0:zai Try.prog 69:=⟨_,rfl,rfl,by kernel_rfl⟩
theorem zH1:Ok Try.prog 69 zpr:=zaG zKH zH0 fun args K h=>by
  unfold zpr at h
  split at h
  · rename_i a0_Num a0_Den a1_Num a1_Den
    have hk:=h
    exact ⟨(fun _ _=>[]),(fun _=>false),zHZ,q69 (⟨a0_Num,a0_Den⟩:Frac) (⟨a1_Num,a1_Den⟩:Frac) K hk⟩
  · exact h.elim
abbrev zMj:Tabs:=(Tabs.nil.addF 69 zpr)
theorem zH2:TabsOk Try.prog zMj:=(TabsOk.nil.addF zH1)
abbrev zNs:Ctrs:=csm zMj (fun _ _=>[]) (fun _=>false)
def zBW:Ann:=⟨9,[(0,zK [2,3] [2,3]),(1,zK [4] [])],
 [],
 [],
 [],[]⟩
abbrev zNt:=Bool
abbrev zNu (r:zNt):List PA:=[.one (.bool r)]
section
variable {K:List PA→Prop} {a:Frac} {b:Frac}
def zAt (a:Frac) (b:Frac):Bool :=
  (decide ((s69 a b) < (0:Int)))
end
theorem zNv (a:Frac) (b:Frac) (K:List PA→Prop) (hk:K (zNu (zAt a b))):vcFun Try.prog zNs zBW 112 [.agg (zae a),.agg (zae b)] K :=
  zax (by kernel_rfl) hk
def zvc : List PA → COut
  | [.agg [.int .i64 a0_Num,.int .i64 a0_Den],.agg [.int .i64 a1_Num,.int .i64 a1_Den]]=>.tot [.one (.bool (zAt (⟨a0_Num,a0_Den⟩:Frac) (⟨a1_Num,a1_Den⟩:Frac)))]
  | _=>.no
theorem zDq:zai Try.prog 112:=⟨_,rfl,rfl,by kernel_rfl⟩
theorem zKI:Ok Try.prog 112 zvc:=zaG zH2 zDq fun args K h=>by
  unfold zvc at h
  split at h
  · rename_i a0_Num a0_Den a1_Num a1_Den
    have hk:=h
    exact ⟨(fun _ _=>[]),(fun _=>false),zBW,zNv (⟨a0_Num,a0_Den⟩:Frac) (⟨a1_Num,a1_Den⟩:Frac) K hk⟩
  · exact h.elim
abbrev zMk:Tabs:=(Tabs.nil.addF 69 zpr)
theorem zH3:TabsOk Try.prog zMk:=(TabsOk.nil.addF zH1)
abbrev zNw:Ctrs:=csm zMk (fun _ _=>[]) (fun _=>false)
def zBX:Ann:=⟨9,[(0,zK [2,3] [2,3]),(1,zK [4] [])],
 [],
 [],
 [],[]⟩
abbrev zNx:=Bool
abbrev zNy (r:zNx):List PA:=[.one (.bool r)]
section
variable {K:List PA→Prop} {a:Frac} {b:Frac}
def zAu (a:Frac) (b:Frac):Bool :=
  (decide ((s69 a b) > (0:Int)))
end
theorem zNz (a:Frac) (b:Frac) (K:List PA→Prop) (hk:K (zNy (zAu a b))):vcFun Try.prog zNw zBX 113 [.agg (zae a),.agg (zae b)] K :=
  zax (by kernel_rfl) hk
def zvd : List PA → COut
  | [.agg [.int .i64 a0_Num,.int .i64 a0_Den],.agg [.int .i64 a1_Num,.int .i64 a1_Den]]=>.tot [.one (.bool (zAu (⟨a0_Num,a0_Den⟩:Frac) (⟨a1_Num,a1_Den⟩:Frac)))]
  | _=>.no
theorem zDr:zai Try.prog 113:=⟨_,rfl,rfl,by kernel_rfl⟩
theorem zKJ:Ok Try.prog 113 zvd:=zaG zH3 zDr fun args K h=>by
  unfold zvd at h
  split at h
  · rename_i a0_Num a0_Den a1_Num a1_Den
    have hk:=h
    exact ⟨(fun _ _=>[]),(fun _=>false),zBX,zNz (⟨a0_Num,a0_Den⟩:Frac) (⟨a1_Num,a1_Den⟩:Frac) K hk⟩
  · exact h.elim
abbrev zKK:Tabs:=((Tabs.nil.addF 112 zvc).addF 113 zvd)
theorem zH4:TabsOk Try.prog zKK:=((TabsOk.nil.addF zKI).addF zKJ)
abbrev zMl:Ctrs:=csm zKK (fun _ _=>[]) (fun _=>false)
def zve:Ann:=⟨25,[(0,zK [0,1,4] [4]),(1,zK [0,1,4,5] [4,5]),(2,zK [1,4,5,12,13,14] [4,5]),(3,zK [1,4,5,12,13,14,15] [4,5]),(4,zK [1,4,5,7,12,13,14] [4,5,7]),(5,zK [1,4,5,7,12,13,14,21] [4,5,7]),(6,zK [1,4,5,12,13,14] [4,5]),(7,zK [1,4,5,12,13,14] [4,5]),(8,zK [4] [4])],
 [(3,zK [1,4,5,12,13,14] [4,5])],
 [(6,zK [1,4,5,7,12,13,14,21] [4,5,7])],
 [],[]⟩
abbrev zNA:=Frac
abbrev zJ1 (r:zNA):List PA:=[.agg [.int .i64 r.Num,.int .i64 r.Den]]
@[irreducible] def z111:=ptF Try.prog zMl zve Try.f111
def zvf (l_a0:(Sl Frac)) (zaI:(Sl Frac)) (zah:Int) (zan:Int) (zao:Int) (zcc:Nat→List PV):St:=⟨[(1,zP (.fn 112 [] [])),(4,zp 4 0),(5,zp 5 0),(12,zP (.sl zaI.len 2 zcc)),(13,zI (((l_a0.len:Int) - (1:Int)).toNat:Int)),(14,zI zah)],[(4,.box 25 (zm (zae (⟨(0:Int),(0:Int)⟩:Frac)))),(5,.box 25 (zm (zae (⟨zan,zao⟩:Frac))))],[]⟩
abbrev zvg (K:List PA→Prop) (l_a0:(Sl Frac)) (X:St→Prop) (P:(Sl Frac)→Int→Int→Int→Bool) (S:(Sl Frac)→Int→Int→Int→Frac):Prop:=∀ ⦃zaI:(Sl Frac)⦄ ⦃zah:Int⦄ ⦃zan:Int⦄ ⦃zao:Int⦄ ⦃zcc:Nat→List PV⦄,P zaI zah zan zao=true→K (zJ1 (S zaI zah zan zao))→zcc=zg zae zaI→X (zvf l_a0 zaI zah zan zao zcc)
section
variable {K:List PA→Prop} {l_a0:(Sl Frac)} {zaI:(Sl Frac)} {zah:Int} {zan:Int} {zao:Int} {zcc:Nat→List PV} {X0:St→Prop} {P0:(Sl Frac)→Int→Int→Int→Bool} {S0:(Sl Frac)→Int→Int→Int→Frac} {zd3:(Sl Frac)} {zaP:Int} {zga:Bool} {zcp:Int} {zcq:Int} {zgb:Int} {zgc:Int} {zjl:Nat→List PV}
def zl8 (S0:(Sl Frac)→Int→Int→Int→Frac) (l_a0:(Sl Frac)) (zd3:(Sl Frac)) (zaP:Int) (zga:Bool) (zcp:Int) (zcq:Int) (zgb:Int) (zgc:Int):Frac :=
  (cond zga
 (S0 zd3 (w64 (zaP+(1:Int))) zgb zgc)
 (S0 zd3 (w64 (zaP+(1:Int))) zcp zcq))
def zl9 (P0:(Sl Frac)→Int→Int→Int→Bool) (l_a0:(Sl Frac)) (zd3:(Sl Frac)) (zaP:Int) (zga:Bool) (zcp:Int) (zcq:Int) (zgb:Int) (zgc:Int):Bool :=
  (cond zga
 (P0 zd3 (w64 (zaP+(1:Int))) zgb zgc)
 (P0 zd3 (w64 (zaP+(1:Int))) zcp zcq))
theorem zAv (hX0:zvg K l_a0 X0 P0 S0) (hs:zl9 P0 l_a0 zd3 zaP zga zcp zcq zgb zgc=true) (hk:K (zJ1 (zl8 S0 l_a0 zd3 zaP zga zcp zcq zgb zgc))) (zps:zjl=zg zae zd3):z111 K [1,1,0,1,0,0,1,1,0,0,1,1] [X0] ⟨[(1,zP (.fn 112 [] [])),(4,zp 4 0),(5,zp 5 0),(7,zp 7 0),(12,zP (.sl zd3.len 2 zjl)),(13,zI (((l_a0.len:Int) - (1:Int)).toNat:Int)),(14,zI zaP),(21,zB zga)],[(4,.box 25 (zm (zae (⟨(0:Int),(0:Int)⟩:Frac)))),(5,.box 25 (zm (zae (⟨zcp,zcq⟩:Frac)))),(7,.box 25 (zm (zae (⟨zgb,zgc⟩:Frac))))],[]⟩:=by subst zps;exact zax (by kernel_rfl) (zc hs hk (fun hs hk=>(hX0 hs hk rfl)) (fun hs hk=>(hX0 hs hk rfl)))
def zfC (l_a0:(Sl Frac)) (S0:(Sl Frac)→Int→Int→Int→Frac) (zaI:(Sl Frac)) (zah:Int) (zan:Int) (zao:Int):Frac :=
  (cond (decide (zah < (((l_a0.len : Int) - (1:Int)).toNat : Int)))
 (zl8 S0 l_a0 zaI zah (zAt (zaI.get zah.toNat) (⟨zan,zao⟩:Frac)) zan zao ((zaI.get zah.toNat).Num) ((zaI.get zah.toNat).Den))
 (⟨zan,zao⟩:Frac))
def zfD (l_a0:(Sl Frac)) (P0:(Sl Frac)→Int→Int→Int→Bool) (zaI:(Sl Frac)) (zah:Int) (zan:Int) (zao:Int):Bool :=
  (cond (decide (zah < (((l_a0.len : Int) - (1:Int)).toNat : Int)))
 (decide ((0≤zah∧zah < (zaI.len:Int))) &&
 (zl9 P0 l_a0 zaI zah (zAt (zaI.get zah.toNat) (⟨zan,zao⟩:Frac)) zan zao ((zaI.get zah.toNat).Num) ((zaI.get zah.toNat).Den)))
 true)
def zfE (l_a0:(Sl Frac)):Nat→(Sl Frac)→Int→Int→Int→Frac:=lpO (fun _ _ _ _=>default) (zfC l_a0)
def zfF (l_a0:(Sl Frac)):Nat→(Sl Frac)→Int→Int→Int→Bool:=lpO (fun _ _ _ _=>false) (zfD l_a0)
def zr1 (l_a0:(Sl Frac)) (zaI:(Sl Frac)) (zah:Int) (zan:Int) (zao:Int):Frac:=zfE l_a0 Fuel zaI zah zan zao
def zr2 (l_a0:(Sl Frac)) (zaI:(Sl Frac)) (zah:Int) (zan:Int) (zao:Int):Bool:=zfF l_a0 Fuel zaI zah zan zao
theorem zAw (hs:zr2 l_a0 zaI zah zan zao=true) (hk:K (zJ1 (zr1 l_a0 zaI zah zan zao))) (zgd:zcc=zg zae zaI):z111 K [1,1,0,1,0] [] (zvf l_a0 zaI zah zan zao zcc) :=
  zl (fun X=>z111 K [1,1,0,1,0,0] [X]) (by kernel_rfl) fun X0 hX =>
  (show ∀ k, zvg K l_a0 X0 (zfF l_a0 k) (zfE l_a0 k) from zgL _ _ (zfD l_a0) (zfC l_a0) (zvg K l_a0 X0)
 (by intro _ _ _ _ _ hs;exact absurd hs Bool.false_ne_true)
 (by intro P0 S0 hX0 zaI zah zan zao zcc hs hk zgd;subst zgd;exact hX _ (zax (by kernel_rfl) (zc hs hk (fun hs hk=>(zaw hs fun hc hs=>And.intro hc (zAv hX0 hs hk rfl))) (fun hs hk=>hk))))) _ hs hk zgd
def zpt (l_a0:(Sl Frac)):Frac :=
  (zr1 l_a0 (⟨((l_a0.len:Int) - (1:Int)).toNat,(fun i=>l_a0.get (i+((1:Int).toNat)))⟩:Sl Frac) (0:Int) ((l_a0.get 0).Num) ((l_a0.get 0).Den))
def zGO (l_a0:(Sl Frac)):Bool :=
  (decide ((0≤(0:Int)∧(0:Int) < (l_a0.len:Int))) &&
 (decide ((0≤(1:Int)∧(1:Int)≤(l_a0.len:Int)∧(l_a0.len:Int)≤(l_a0.len:Int))) &&
 (zr2 l_a0 (⟨((l_a0.len:Int) - (1:Int)).toNat,(fun i=>l_a0.get (i+((1:Int).toNat)))⟩:Sl Frac) (0:Int) ((l_a0.get 0).Num) ((l_a0.get 0).Den))))
end
theorem zNB (l_a0:(Sl Frac)) (K:List PA→Prop) (hs:zGO l_a0=true) (hk:K (zJ1 (zpt l_a0))):vcFun Try.prog zMl zve 111 [.one (.sl l_a0.len 2 (fun i=>zae (l_a0.get i))),.one (.fn 112 [] [])] K :=
  zax (by kernel_rfl) (zaw hs fun hc hs=>And.intro hc (zaw hs fun hc hs=>And.intro hc (zAw hs hk rfl)))
abbrev zH5:Ctrs:=csm zKK (fun _ _=>[]) (fun _=>false)
def zpu:Ann:=⟨25,[(0,zK [0,1,4] [4]),(1,zK [0,1,4,5] [4,5]),(2,zK [1,4,5,12,13,14] [4,5]),(3,zK [1,4,5,12,13,14,15] [4,5]),(4,zK [1,4,5,7,12,13,14] [4,5,7]),(5,zK [1,4,5,7,12,13,14,21] [4,5,7]),(6,zK [1,4,5,12,13,14] [4,5]),(7,zK [1,4,5,12,13,14] [4,5]),(8,zK [4] [4])],
 [(3,zK [1,4,5,12,13,14] [4,5])],
 [(6,zK [1,4,5,7,12,13,14,21] [4,5,7])],
 [],[]⟩
abbrev zKL:=Frac
abbrev zAx (r:zKL):List PA:=[.agg [.int .i64 r.Num,.int .i64 r.Den]]
@[irreducible] def z111a:=ptF Try.prog zH5 zpu Try.f111
def zr3 (l_a0:(Sl Frac)) (zaI:(Sl Frac)) (zah:Int) (zan:Int) (zao:Int) (zcc:Nat→List PV):St:=⟨[(1,zP (.fn 113 [] [])),(4,zp 4 0),(5,zp 5 0),(12,zP (.sl zaI.len 2 zcc)),(13,zI (((l_a0.len:Int) - (1:Int)).toNat:Int)),(14,zI zah)],[(4,.box 25 (zm (zae (⟨(0:Int),(0:Int)⟩:Frac)))),(5,.box 25 (zm (zae (⟨zan,zao⟩:Frac))))],[]⟩
abbrev zpv (K:List PA→Prop) (l_a0:(Sl Frac)) (X:St→Prop) (P:(Sl Frac)→Int→Int→Int→Bool) (S:(Sl Frac)→Int→Int→Int→Frac):Prop:=∀ ⦃zaI:(Sl Frac)⦄ ⦃zah:Int⦄ ⦃zan:Int⦄ ⦃zao:Int⦄ ⦃zcc:Nat→List PV⦄,P zaI zah zan zao=true→K (zAx (S zaI zah zan zao))→zcc=zg zae zaI→X (zr3 l_a0 zaI zah zan zao zcc)
section
variable {K:List PA→Prop} {l_a0:(Sl Frac)} {zaI:(Sl Frac)} {zah:Int} {zan:Int} {zao:Int} {zcc:Nat→List PV} {X0:St→Prop} {P0:(Sl Frac)→Int→Int→Int→Bool} {S0:(Sl Frac)→Int→Int→Int→Frac} {zd3:(Sl Frac)} {zaP:Int} {zga:Bool} {zcp:Int} {zcq:Int} {zgb:Int} {zgc:Int} {zjl:Nat→List PV}
def zjm (S0:(Sl Frac)→Int→Int→Int→Frac) (l_a0:(Sl Frac)) (zd3:(Sl Frac)) (zaP:Int) (zga:Bool) (zcp:Int) (zcq:Int) (zgb:Int) (zgc:Int):Frac :=
  (cond zga
 (S0 zd3 (w64 (zaP+(1:Int))) zgb zgc)
 (S0 zd3 (w64 (zaP+(1:Int))) zcp zcq))
def zjn (P0:(Sl Frac)→Int→Int→Int→Bool) (l_a0:(Sl Frac)) (zd3:(Sl Frac)) (zaP:Int) (zga:Bool) (zcp:Int) (zcq:Int) (zgb:Int) (zgc:Int):Bool :=
  (cond zga
 (P0 zd3 (w64 (zaP+(1:Int))) zgb zgc)
 (P0 zd3 (w64 (zaP+(1:Int))) zcp zcq))
theorem zvh (hX0:zpv K l_a0 X0 P0 S0) (hs:zjn P0 l_a0 zd3 zaP zga zcp zcq zgb zgc=true) (hk:K (zAx (zjm S0 l_a0 zd3 zaP zga zcp zcq zgb zgc))) (zps:zjl=zg zae zd3):z111a K [1,1,0,1,0,0,1,1,0,0,1,1] [X0] ⟨[(1,zP (.fn 113 [] [])),(4,zp 4 0),(5,zp 5 0),(7,zp 7 0),(12,zP (.sl zd3.len 2 zjl)),(13,zI (((l_a0.len:Int) - (1:Int)).toNat:Int)),(14,zI zaP),(21,zB zga)],[(4,.box 25 (zm (zae (⟨(0:Int),(0:Int)⟩:Frac)))),(5,.box 25 (zm (zae (⟨zcp,zcq⟩:Frac)))),(7,.box 25 (zm (zae (⟨zgb,zgc⟩:Frac))))],[]⟩:=by subst zps;exact zax (by kernel_rfl) (zc hs hk (fun hs hk=>(hX0 hs hk rfl)) (fun hs hk=>(hX0 hs hk rfl)))
def zei (l_a0:(Sl Frac)) (S0:(Sl Frac)→Int→Int→Int→Frac) (zaI:(Sl Frac)) (zah:Int) (zan:Int) (zao:Int):Frac :=
  (cond (decide (zah < (((l_a0.len : Int) - (1:Int)).toNat : Int)))
 (zjm S0 l_a0 zaI zah (zAu (zaI.get zah.toNat) (⟨zan,zao⟩:Frac)) zan zao ((zaI.get zah.toNat).Num) ((zaI.get zah.toNat).Den))
 (⟨zan,zao⟩:Frac))
def zej (l_a0:(Sl Frac)) (P0:(Sl Frac)→Int→Int→Int→Bool) (zaI:(Sl Frac)) (zah:Int) (zan:Int) (zao:Int):Bool :=
  (cond (decide (zah < (((l_a0.len : Int) - (1:Int)).toNat : Int)))
 (decide ((0≤zah∧zah < (zaI.len:Int))) &&
 (zjn P0 l_a0 zaI zah (zAu (zaI.get zah.toNat) (⟨zan,zao⟩:Frac)) zan zao ((zaI.get zah.toNat).Num) ((zaI.get zah.toNat).Den)))
 true)
def zek (l_a0:(Sl Frac)):Nat→(Sl Frac)→Int→Int→Int→Frac:=lpO (fun _ _ _ _=>default) (zei l_a0)
def zel (l_a0:(Sl Frac)):Nat→(Sl Frac)→Int→Int→Int→Bool:=lpO (fun _ _ _ _=>false) (zej l_a0)
def zog (l_a0:(Sl Frac)) (zaI:(Sl Frac)) (zah:Int) (zan:Int) (zao:Int):Frac:=zek l_a0 Fuel zaI zah zan zao
def zoh (l_a0:(Sl Frac)) (zaI:(Sl Frac)) (zah:Int) (zan:Int) (zao:Int):Bool:=zel l_a0 Fuel zaI zah zan zao
theorem zvi (hs:zoh l_a0 zaI zah zan zao=true) (hk:K (zAx (zog l_a0 zaI zah zan zao))) (zgd:zcc=zg zae zaI):z111a K [1,1,0,1,0] [] (zr3 l_a0 zaI zah zan zao zcc) :=
  zl (fun X=>z111a K [1,1,0,1,0,0] [X]) (by kernel_rfl) fun X0 hX =>
  (show ∀ k, zpv K l_a0 X0 (zel l_a0 k) (zek l_a0 k) from zgL _ _ (zej l_a0) (zei l_a0) (zpv K l_a0 X0)
 (by intro _ _ _ _ _ hs;exact absurd hs Bool.false_ne_true)
 (by intro P0 S0 hX0 zaI zah zan zao zcc hs hk zgd;subst zgd;exact hX _ (zax (by kernel_rfl) (zc hs hk (fun hs hk=>(zaw hs fun hc hs=>And.intro hc (zvh hX0 hs hk rfl))) (fun hs hk=>hk))))) _ hs hk zgd
def s111a (l_a0:(Sl Frac)):Frac :=
  (zog l_a0 (⟨((l_a0.len:Int) - (1:Int)).toNat,(fun i=>l_a0.get (i+((1:Int).toNat)))⟩:Sl Frac) (0:Int) ((l_a0.get 0).Num) ((l_a0.get 0).Den))
def ztk (l_a0:(Sl Frac)):Bool :=
  (decide ((0≤(0:Int)∧(0:Int) < (l_a0.len:Int))) &&
 (decide ((0≤(1:Int)∧(1:Int)≤(l_a0.len:Int)∧(l_a0.len:Int)≤(l_a0.len:Int))) &&
 (zoh l_a0 (⟨((l_a0.len:Int) - (1:Int)).toNat,(fun i=>l_a0.get (i+((1:Int).toNat)))⟩:Sl Frac) (0:Int) ((l_a0.get 0).Num) ((l_a0.get 0).Den))))
end
theorem zKM (l_a0:(Sl Frac)) (K:List PA→Prop) (hs:ztk l_a0=true) (hk:K (zAx (s111a l_a0))):vcFun Try.prog zH5 zpu 111 [.one (.sl l_a0.len 2 (fun i=>zae (l_a0.get i))),.one (.fn 113 [] [])] K :=
  zax (by kernel_rfl) (zaw hs fun hc hs=>And.intro hc (zaw hs fun hc hs=>And.intro hc (zvi hs hk rfl)))
def zvj : List PA → COut
  | [.one (.sl a0_n a0_s a0_g),.one (.fn 112 [] [])]=>.det (IsE zae 2 a0_s a0_g∧zGO (⟨a0_n,zf8 a0_g⟩:(Sl Frac))=true) [.agg [.int .i64 ((zpt (⟨a0_n,zf8 a0_g⟩:(Sl Frac))).Num),.int .i64 ((zpt (⟨a0_n,zf8 a0_g⟩:(Sl Frac))).Den)]]
  | [.one (.sl a0_n a0_s a0_g),.one (.fn 113 [] [])]=>.det (IsE zae 2 a0_s a0_g∧ztk (⟨a0_n,zf8 a0_g⟩:(Sl Frac))=true) [.agg [.int .i64 ((s111a (⟨a0_n,zf8 a0_g⟩:(Sl Frac))).Num),.int .i64 ((s111a (⟨a0_n,zf8 a0_g⟩:(Sl Frac))).Den)]]
  | _=>.no
theorem zDs:zai Try.prog 111:=⟨_,rfl,rfl,by kernel_rfl⟩
theorem zKN:Ok Try.prog 111 zvj:=zaG zH4 zDs fun args K h=>by
  unfold zvj at h
  split at h
  · rename_i a0_n a0_s a0_g
    obtain ⟨⟨⟨rfl,a0_f,rfl⟩,hs⟩,hk⟩:=h
    try rw [zeD a0_f] at hs
    try rw [zeD a0_f] at hk
    exact ⟨(fun _ _=>[]),(fun _=>false),zve,zNB (⟨a0_n,a0_f⟩:(Sl Frac)) K hs hk⟩
  · rename_i a0_n a0_s a0_g
    obtain ⟨⟨⟨rfl,a0_f,rfl⟩,hs⟩,hk⟩:=h
    try rw [zeD a0_f] at hs
    try rw [zeD a0_f] at hk
    exact ⟨(fun _ _=>[]),(fun _=>false),zpu,zKM (⟨a0_n,a0_f⟩:(Sl Frac)) K hs hk⟩
  · exact h.elim
abbrev T82:Tabs:=((((Tabs.nil.addF 83 zDj).addF 89 zpq).addF 101 zu9).addF 111 zvj)
theorem zKO:TabsOk Try.prog T82:=((((TabsOk.nil.addF zNc).addF zHP).addF zKE).addF zKN)
abbrev G82:Ctrs:=csm T82 (fun _ _=>[]) (fun _=>false)
def zDt:Ann:=⟨39,[(0,zK [1,2,4,5] [2,4,5]),(1,zK [1,2,4,5,6] [2,4,5]),(2,zK [1,4,5,6,12,13,14] [4,5]),(3,zK [1,4,5,6,12,13,14,15] [4,5,23]),(4,zK [1,4,5,6,8,12,13,14] [4,5,8,23]),(5,zK [1,4,5,6,12,13,14] [4,5,23]),(6,zK [1,4,5,6,12,13,14] [4,5,23]),(7,zK [4,5,6,9] [4,5,9,23]),(8,zK [4,5,9,10] [4,5,9,10]),(9,zK [4,5] [4,5])],
 [(3,⟨[1,4,5,6,12,13,14],[4,5,23],[(6,23,25,fun _=>zae default)],[],[],[],[]⟩)],
 [(7,zK [4,5,6] [4,5,23]),(8,zK [4,5,6,9] [4,5,9,23]),(9,zK [4,5,9,10] [4,5,9,10])],
 [],[]⟩
abbrev R82:=(Frac×Frac)
abbrev e82 (r:R82):List PA:=[.agg [.int .i64 r.1.Num,.int .i64 r.1.Den],.agg [.int .i64 r.2.Num,.int .i64 r.2.Den]]
@[irreducible] def z82:=ptF Try.prog G82 zDt Try.f82
def zBY (c0:Int) (s:set) (zah:Int) (za0:(Sl Frac)) (zcd:Nat→List PV):St:=⟨[(1,zP (.fn 101 [] [.fp (zat c0) 0])),(4,zp 4 0),(5,zp 5 0),(6,zv 23),(12,zS zaf 3 s.corners),(13,zI (s.corners.len:Int)),(14,zI zah)],[(4,.box 25 (zm (zae (⟨(0:Int),(0:Int)⟩:Frac)))),(5,.box 25 (zm (zae (⟨(0:Int),(0:Int)⟩:Frac)))),(23,.vec 25 2 16 za0.len zcd)],[]⟩
abbrev zH6 (K:List PA→Prop) (c0:Int) (s:set) (X:St→Prop) (P:Int→(Sl Frac)→Bool) (S:Int→(Sl Frac)→(Frac×Frac)):Prop:=∀ ⦃zah:Int⦄ ⦃za0:(Sl Frac)⦄ ⦃zcd:Nat→List PV⦄,P zah za0=true→K (e82 (S zah za0))→zcd=zg zae za0→X (zBY c0 s zah za0 zcd)
section
variable {K:List PA→Prop} {c0:Int} {s:set} {zah:Int} {za0:(Sl Frac)} {zcd:Nat→List PV} {X0:St→Prop} {P0:Int→(Sl Frac)→Bool} {S0:Int→(Sl Frac)→(Frac×Frac)} {zcD:(Sl Frac)} {zjo:Nat→List PV} {za1:Int} {za2:Int} {zc9:(Sl Frac)} {zjq:Nat→List PV} {zbT:Int} {zbU:Int}
def zpw (za1:Int) (za2:Int) (zbT:Int) (zbU:Int):(Frac×Frac) :=
  ((s89 za1 za2),(s89 zbT zbU))
def zpx (za1:Int) (za2:Int) (zbT:Int) (zbU:Int):Bool :=
  (decide ((p89 za1 za2=true)) &&
 (decide ((p89 zbT zbU=true)) &&
 true))
theorem zDu (hs:zpx za1 za2 zbT zbU=true) (hk:K (e82 (zpw za1 za2 zbT zbU))):z82 K [1,1,1,1,1] [] ⟨[(4,zp 4 0),(5,zp 5 0),(9,zp 9 0),(10,zp 10 0)],[(4,.box 25 (zm (zae (⟨(0:Int),(0:Int)⟩:Frac)))),(5,.box 25 (zm (zae (⟨(0:Int),(0:Int)⟩:Frac)))),(9,.box 25 (zm (zae (⟨za1,za2⟩:Frac)))),(10,.box 25 (zm (zae (⟨zbT,zbU⟩:Frac))))],[]⟩:=zax (by kernel_rfl) (zaw hs fun hc hs=>And.intro hc (zaw hs fun hc hs=>And.intro hc hk))
def zpy (za1:Int) (za2:Int) (zc9:(Sl Frac)):(Frac×Frac) :=
  (zpw za1 za2 ((s111a zc9).Num) ((s111a zc9).Den))
def zpz (za1:Int) (za2:Int) (zc9:(Sl Frac)):Bool :=
  (decide ((ztk zc9=true)) &&
 (zpx za1 za2 ((s111a zc9).Num) ((s111a zc9).Den)))
theorem zDv (hs:zpz za1 za2 zc9=true) (hk:K (e82 (zpy za1 za2 zc9))) (zpA:zjq=zg zae zc9):z82 K [1,1,1,1] [] ⟨[(4,zp 4 0),(5,zp 5 0),(6,zv 23),(9,zp 9 0)],[(4,.box 25 (zm (zae (⟨(0:Int),(0:Int)⟩:Frac)))),(5,.box 25 (zm (zae (⟨(0:Int),(0:Int)⟩:Frac)))),(9,.box 25 (zm (zae (⟨za1,za2⟩:Frac)))),(23,.vec 25 2 16 zc9.len zjq)],[]⟩:=by subst zpA;exact zax (by kernel_rfl) (zaw hs fun hc hs=>And.intro (And.intro (zE zae 2 zc9.get) hc) (zDu hs hk))
def zeF (zcD:(Sl Frac)):(Frac×Frac) :=
  (zpy ((zpt zcD).Num) ((zpt zcD).Den) zcD)
def zma (zcD:(Sl Frac)):Bool :=
  (decide ((zGO zcD=true)) &&
 (zpz ((zpt zcD).Num) ((zpt zcD).Den) zcD))
theorem zDw (hs:zma zcD=true) (hk:K (e82 (zeF zcD))) (zpB:zjo=zg zae zcD):z82 K [1,1,1] [] ⟨[(4,zp 4 0),(5,zp 5 0),(6,zv 23)],[(4,.box 25 (zm (zae (⟨(0:Int),(0:Int)⟩:Frac)))),(5,.box 25 (zm (zae (⟨(0:Int),(0:Int)⟩:Frac)))),(23,.vec 25 2 16 zcD.len zjo)],[]⟩:=by subst zpB;exact zax (by kernel_rfl) (zaw hs fun hc hs=>And.intro (And.intro (zE zae 2 zcD.get) hc) (zDv hs hk rfl))
def zhm (c0:Int) (s:set) (S0:Int→(Sl Frac)→(Frac×Frac)) (zah:Int) (za0:(Sl Frac)):(Frac×Frac) :=
  (cond (decide (zah < (s.corners.len : Int)))
 (S0 (w64 (zah+(1:Int))) (⟨(za0.len+1),(zdt za0.len za0.get (fun _=>(zu8 c0 (s.corners.get zah.toNat))))⟩:Sl Frac))
 (zeF za0))
def zhn (c0:Int) (s:set) (P0:Int→(Sl Frac)→Bool) (zah:Int) (za0:(Sl Frac)):Bool :=
  (cond (decide (zah < (s.corners.len : Int)))
 (decide ((0≤zah∧zah < (s.corners.len:Int))) &&
 (decide (((za0.len+1) * 16≤140737488355328∧za0.len+1≤9223372036854775807)) &&
 (P0 (w64 (zah+(1:Int))) (⟨(za0.len+1),(zdt za0.len za0.get (fun _=>(zu8 c0 (s.corners.get zah.toNat))))⟩:Sl Frac))))
 (zma za0))
def zho (c0:Int) (s:set):Nat→Int→(Sl Frac)→(Frac×Frac):=lpO (fun _ _=>default) (zhm c0 s)
def zhp (c0:Int) (s:set):Nat→Int→(Sl Frac)→Bool:=lpO (fun _ _=>false) (zhn c0 s)
def zvk (c0:Int) (s:set) (zah:Int) (za0:(Sl Frac)):(Frac×Frac):=zho c0 s Fuel zah za0
def zvl (c0:Int) (s:set) (zah:Int) (za0:(Sl Frac)):Bool:=zhp c0 s Fuel zah za0
theorem zDx (hs:zvl c0 s zah za0=true) (hk:K (e82 (zvk c0 s zah za0))) (zge:zcd=zg zae za0):z82 K [1,1,0,1,0] [] (zBY c0 s zah za0 zcd) :=
  zl (fun X=>z82 K [1,1,0,1,0,0] [X]) (by kernel_rfl) fun X0 hX =>
  (show ∀ k, zH6 K c0 s X0 (zhp c0 s k) (zho c0 s k) from zgL _ _ (zhn c0 s) (zhm c0 s) (zH6 K c0 s X0)
 (by intro _ _ _ hs;exact absurd hs Bool.false_ne_true)
 (by intro P0 S0 hX0 zah za0 zcd hs hk zge;subst zge;exact hX _ (zax (by kernel_rfl) (zc hs hk (fun hs hk=>(zaw hs fun hc hs=>And.intro hc (zaw hs fun hc hs=>And.intro hc (hX0 hs hk (zjd (enc:=zae) (f:=za0.get) (h:=(fun _=>(zu8 c0 (s.corners.get zah.toNat)))) rfl rfl))))) (fun hs hk=>(zDw hs hk rfl)))))) _ hs hk zge
def s82 (c0:Int) (s:set):(Frac×Frac) :=
  (zvk c0 s (0:Int) (⟨0,(fun _=>default)⟩:Sl Frac))
def p82 (c0:Int) (s:set):Bool :=
  (zvl c0 s (0:Int) (⟨0,(fun _=>default)⟩:Sl Frac))
end
theorem q82 (c0:Int) (s:set) (K:List PA→Prop) (hs:p82 c0 s=true) (hk:K (e82 (s82 c0 s))):vcFun Try.prog G82 zDt 82 [.agg (zaU s),.one (.fn 101 [] [.fp (zat c0) 0])] K :=
  zax (by kernel_rfl) (zDx hs hk rfl)
abbrev zMm:Ctrs:=csm T82 (fun _ _=>[]) (fun _=>false)
def zvm:Ann:=⟨39,[(0,zK [1,2,4,5] [2,4,5]),(1,zK [1,2,4,5,6] [2,4,5]),(2,zK [1,4,5,6,12,13,14] [4,5]),(3,zK [1,4,5,6,12,13,14,15] [4,5,23]),(4,zK [1,4,5,6,8,12,13,14] [4,5,8,23]),(5,zK [1,4,5,6,12,13,14] [4,5,23]),(6,zK [1,4,5,6,12,13,14] [4,5,23]),(7,zK [4,5,6,9] [4,5,9,23]),(8,zK [4,5,9,10] [4,5,9,10]),(9,zK [4,5] [4,5])],
 [(3,⟨[1,4,5,6,12,13,14],[4,5,23],[(6,23,25,fun _=>zae default)],[],[],[],[]⟩)],
 [(7,zK [4,5,6] [4,5,23]),(8,zK [4,5,6,9] [4,5,9,23]),(9,zK [4,5,9,10] [4,5,9,10])],
 [],[]⟩
abbrev zNC:=(Frac×Frac)
abbrev zGP (r:zNC):List PA:=[.agg [.int .i64 r.1.Num,.int .i64 r.1.Den],.agg [.int .i64 r.2.Num,.int .i64 r.2.Den]]
@[irreducible] def z82a:=ptF Try.prog zMm zvm Try.f82
def zvn (s:set) (zah:Int) (za0:(Sl Frac)) (zcd:Nat→List PV):St:=⟨[(1,zP (.fn 83 [] [])),(4,zp 4 0),(5,zp 5 0),(6,zv 23),(12,zS zaf 3 s.corners),(13,zI (s.corners.len:Int)),(14,zI zah)],[(4,.box 25 (zm (zae (⟨(0:Int),(0:Int)⟩:Frac)))),(5,.box 25 (zm (zae (⟨(0:Int),(0:Int)⟩:Frac)))),(23,.vec 25 2 16 za0.len zcd)],[]⟩
abbrev zBZ (K:List PA→Prop) (s:set) (X:St→Prop) (P:Int→(Sl Frac)→Bool) (S:Int→(Sl Frac)→(Frac×Frac)):Prop:=∀ ⦃zah:Int⦄ ⦃za0:(Sl Frac)⦄ ⦃zcd:Nat→List PV⦄,P zah za0=true→K (zGP (S zah za0))→zcd=zg zae za0→X (zvn s zah za0 zcd)
section
variable {K:List PA→Prop} {s:set} {zah:Int} {za0:(Sl Frac)} {zcd:Nat→List PV} {X0:St→Prop} {P0:Int→(Sl Frac)→Bool} {S0:Int→(Sl Frac)→(Frac×Frac)} {zcD:(Sl Frac)} {zjo:Nat→List PV} {za1:Int} {za2:Int} {zc9:(Sl Frac)} {zjq:Nat→List PV} {zbT:Int} {zbU:Int}
def zr4 (za1:Int) (za2:Int) (zbT:Int) (zbU:Int):(Frac×Frac) :=
  ((s89 za1 za2),(s89 zbT zbU))
def zr5 (za1:Int) (za2:Int) (zbT:Int) (zbU:Int):Bool :=
  (decide ((p89 za1 za2=true)) &&
 (decide ((p89 zbT zbU=true)) &&
 true))
theorem zAy (hs:zr5 za1 za2 zbT zbU=true) (hk:K (zGP (zr4 za1 za2 zbT zbU))):z82a K [1,1,1,1,1] [] ⟨[(4,zp 4 0),(5,zp 5 0),(9,zp 9 0),(10,zp 10 0)],[(4,.box 25 (zm (zae (⟨(0:Int),(0:Int)⟩:Frac)))),(5,.box 25 (zm (zae (⟨(0:Int),(0:Int)⟩:Frac)))),(9,.box 25 (zm (zae (⟨za1,za2⟩:Frac)))),(10,.box 25 (zm (zae (⟨zbT,zbU⟩:Frac))))],[]⟩:=zax (by kernel_rfl) (zaw hs fun hc hs=>And.intro hc (zaw hs fun hc hs=>And.intro hc hk))
def zr6 (za1:Int) (za2:Int) (zc9:(Sl Frac)):(Frac×Frac) :=
  (zr4 za1 za2 ((s111a zc9).Num) ((s111a zc9).Den))
def zr7 (za1:Int) (za2:Int) (zc9:(Sl Frac)):Bool :=
  (decide ((ztk zc9=true)) &&
 (zr5 za1 za2 ((s111a zc9).Num) ((s111a zc9).Den)))
theorem zAz (hs:zr7 za1 za2 zc9=true) (hk:K (zGP (zr6 za1 za2 zc9))) (zpA:zjq=zg zae zc9):z82a K [1,1,1,1] [] ⟨[(4,zp 4 0),(5,zp 5 0),(6,zv 23),(9,zp 9 0)],[(4,.box 25 (zm (zae (⟨(0:Int),(0:Int)⟩:Frac)))),(5,.box 25 (zm (zae (⟨(0:Int),(0:Int)⟩:Frac)))),(9,.box 25 (zm (zae (⟨za1,za2⟩:Frac)))),(23,.vec 25 2 16 zc9.len zjq)],[]⟩:=by subst zpA;exact zax (by kernel_rfl) (zaw hs fun hc hs=>And.intro (And.intro (zE zae 2 zc9.get) hc) (zAy hs hk))
def zr8 (zcD:(Sl Frac)):(Frac×Frac) :=
  (zr6 ((zpt zcD).Num) ((zpt zcD).Den) zcD)
def zr9 (zcD:(Sl Frac)):Bool :=
  (decide ((zGO zcD=true)) &&
 (zr7 ((zpt zcD).Num) ((zpt zcD).Den) zcD))
theorem zAA (hs:zr9 zcD=true) (hk:K (zGP (zr8 zcD))) (zpB:zjo=zg zae zcD):z82a K [1,1,1] [] ⟨[(4,zp 4 0),(5,zp 5 0),(6,zv 23)],[(4,.box 25 (zm (zae (⟨(0:Int),(0:Int)⟩:Frac)))),(5,.box 25 (zm (zae (⟨(0:Int),(0:Int)⟩:Frac)))),(23,.vec 25 2 16 zcD.len zjo)],[]⟩:=by subst zpB;exact zax (by kernel_rfl) (zaw hs fun hc hs=>And.intro (And.intro (zE zae 2 zcD.get) hc) (zAz hs hk rfl))
def zfG (s:set) (S0:Int→(Sl Frac)→(Frac×Frac)) (zah:Int) (za0:(Sl Frac)):(Frac×Frac) :=
  (cond (decide (zah < (s.corners.len : Int)))
 (S0 (w64 (zah+(1:Int))) (⟨(za0.len+1),(zdt za0.len za0.get (fun _=>(s83 (s.corners.get zah.toNat))))⟩:Sl Frac))
 (zr8 za0))
def zfH (s:set) (P0:Int→(Sl Frac)→Bool) (zah:Int) (za0:(Sl Frac)):Bool :=
  (cond (decide (zah < (s.corners.len : Int)))
 (decide ((0≤zah∧zah < (s.corners.len:Int))) &&
 (decide (((za0.len+1) * 16≤140737488355328∧za0.len+1≤9223372036854775807)) &&
 (P0 (w64 (zah+(1:Int))) (⟨(za0.len+1),(zdt za0.len za0.get (fun _=>(s83 (s.corners.get zah.toNat))))⟩:Sl Frac))))
 (zr9 za0))
def zfI (s:set):Nat→Int→(Sl Frac)→(Frac×Frac):=lpO (fun _ _=>default) (zfG s)
def zfJ (s:set):Nat→Int→(Sl Frac)→Bool:=lpO (fun _ _=>false) (zfH s)
def zsa (s:set) (zah:Int) (za0:(Sl Frac)):(Frac×Frac):=zfI s Fuel zah za0
def zsb (s:set) (zah:Int) (za0:(Sl Frac)):Bool:=zfJ s Fuel zah za0
theorem zAB (hs:zsb s zah za0=true) (hk:K (zGP (zsa s zah za0))) (zge:zcd=zg zae za0):z82a K [1,1,0,1,0] [] (zvn s zah za0 zcd) :=
  zl (fun X=>z82a K [1,1,0,1,0,0] [X]) (by kernel_rfl) fun X0 hX =>
  (show ∀ k, zBZ K s X0 (zfJ s k) (zfI s k) from zgL _ _ (zfH s) (zfG s) (zBZ K s X0)
 (by intro _ _ _ hs;exact absurd hs Bool.false_ne_true)
 (by intro P0 S0 hX0 zah za0 zcd hs hk zge;subst zge;exact hX _ (zax (by kernel_rfl) (zc hs hk (fun hs hk=>(zaw hs fun hc hs=>And.intro hc (zaw hs fun hc hs=>And.intro hc (hX0 hs hk (zjd (enc:=zae) (f:=za0.get) (h:=(fun _=>(s83 (s.corners.get zah.toNat)))) rfl rfl))))) (fun hs hk=>(zAA hs hk rfl)))))) _ hs hk zge
def zAC (s:set):(Frac×Frac) :=
  (zsa s (0:Int) (⟨0,(fun _=>default)⟩:Sl Frac))
def zJ2 (s:set):Bool :=
  (zsb s (0:Int) (⟨0,(fun _=>default)⟩:Sl Frac))
end
theorem zND (s:set) (K:List PA→Prop) (hs:zJ2 s=true) (hk:K (zGP (zAC s))):vcFun Try.prog zMm zvm 82 [.agg (zaU s),.one (.fn 83 [] [])] K :=
  zax (by kernel_rfl) (zAB hs hk rfl)
def zAD : List PA → COut
  | [.agg [.sl a0_list_Gates_n a0_list_Gates_s a0_list_Gates_g,.sl a0_corners_n a0_corners_s a0_corners_g],.one (.fn 101 [] [.fp [.int .i64 c0] 0])]=>.det (IsE enc_55 3 a0_list_Gates_s a0_list_Gates_g∧IsE zaf 3 a0_corners_s a0_corners_g∧p82 c0 (⟨(⟨(⟨a0_list_Gates_n,zad a0_list_Gates_g⟩:(Sl Gate))⟩:list),(⟨a0_corners_n,zaQ a0_corners_g⟩:(Sl straight))⟩:set)=true) [.agg [.int .i64 (((s82 c0 (⟨(⟨(⟨a0_list_Gates_n,zad a0_list_Gates_g⟩:(Sl Gate))⟩:list),(⟨a0_corners_n,zaQ a0_corners_g⟩:(Sl straight))⟩:set)).1).Num),.int .i64 (((s82 c0 (⟨(⟨(⟨a0_list_Gates_n,zad a0_list_Gates_g⟩:(Sl Gate))⟩:list),(⟨a0_corners_n,zaQ a0_corners_g⟩:(Sl straight))⟩:set)).1).Den)],.agg [.int .i64 (((s82 c0 (⟨(⟨(⟨a0_list_Gates_n,zad a0_list_Gates_g⟩:(Sl Gate))⟩:list),(⟨a0_corners_n,zaQ a0_corners_g⟩:(Sl straight))⟩:set)).2).Num),.int .i64 (((s82 c0 (⟨(⟨(⟨a0_list_Gates_n,zad a0_list_Gates_g⟩:(Sl Gate))⟩:list),(⟨a0_corners_n,zaQ a0_corners_g⟩:(Sl straight))⟩:set)).2).Den)]]
  | [.agg [.sl a0_list_Gates_n a0_list_Gates_s a0_list_Gates_g,.sl a0_corners_n a0_corners_s a0_corners_g],.one (.fn 83 [] [])]=>.det (IsE enc_55 3 a0_list_Gates_s a0_list_Gates_g∧IsE zaf 3 a0_corners_s a0_corners_g∧zJ2 (⟨(⟨(⟨a0_list_Gates_n,zad a0_list_Gates_g⟩:(Sl Gate))⟩:list),(⟨a0_corners_n,zaQ a0_corners_g⟩:(Sl straight))⟩:set)=true) [.agg [.int .i64 (((zAC (⟨(⟨(⟨a0_list_Gates_n,zad a0_list_Gates_g⟩:(Sl Gate))⟩:list),(⟨a0_corners_n,zaQ a0_corners_g⟩:(Sl straight))⟩:set)).1).Num),.int .i64 (((zAC (⟨(⟨(⟨a0_list_Gates_n,zad a0_list_Gates_g⟩:(Sl Gate))⟩:list),(⟨a0_corners_n,zaQ a0_corners_g⟩:(Sl straight))⟩:set)).1).Den)],.agg [.int .i64 (((zAC (⟨(⟨(⟨a0_list_Gates_n,zad a0_list_Gates_g⟩:(Sl Gate))⟩:list),(⟨a0_corners_n,zaQ a0_corners_g⟩:(Sl straight))⟩:set)).2).Num),.int .i64 (((zAC (⟨(⟨(⟨a0_list_Gates_n,zad a0_list_Gates_g⟩:(Sl Gate))⟩:list),(⟨a0_corners_n,zaQ a0_corners_g⟩:(Sl straight))⟩:set)).2).Den)]]
  | _=>.no
theorem zH7:zai Try.prog 82:=⟨_,rfl,rfl,by kernel_rfl⟩
theorem zNE:Ok Try.prog 82 zAD:=zaG zKO zH7 fun args K h=>by
  unfold zAD at h
  split at h
  · rename_i a0_list_Gates_n a0_list_Gates_s a0_list_Gates_g a0_corners_n a0_corners_s a0_corners_g c0
    obtain ⟨⟨⟨rfl,a0_list_Gates_f,rfl⟩,⟨rfl,a0_corners_f,rfl⟩,hs⟩,hk⟩:=h
    try rw [zac a0_list_Gates_f] at hs
    try rw [zac a0_list_Gates_f] at hk
    try rw [zaL a0_corners_f] at hs
    try rw [zaL a0_corners_f] at hk
    exact ⟨(fun _ _=>[]),(fun _=>false),zDt,q82 c0 (⟨(⟨(⟨a0_list_Gates_n,a0_list_Gates_f⟩:(Sl Gate))⟩:list),(⟨a0_corners_n,a0_corners_f⟩:(Sl straight))⟩:set) K hs hk⟩
  · rename_i a0_list_Gates_n a0_list_Gates_s a0_list_Gates_g a0_corners_n a0_corners_s a0_corners_g
    obtain ⟨⟨⟨rfl,a0_list_Gates_f,rfl⟩,⟨rfl,a0_corners_f,rfl⟩,hs⟩,hk⟩:=h
    try rw [zac a0_list_Gates_f] at hs
    try rw [zac a0_list_Gates_f] at hk
    try rw [zaL a0_corners_f] at hs
    try rw [zaL a0_corners_f] at hk
    exact ⟨(fun _ _=>[]),(fun _=>false),zvm,zND (⟨(⟨(⟨a0_list_Gates_n,a0_list_Gates_f⟩:(Sl Gate))⟩:list),(⟨a0_corners_n,a0_corners_f⟩:(Sl straight))⟩:set) K hs hk⟩
  · exact h.elim
abbrev T68:Tabs:=((((Tabs.nil.addF 67 zof).addF 82 zAD).addF 89 zpq).addF 98 zAs)
theorem zKP:TabsOk Try.prog T68:=((((TabsOk.nil.addF zGN).addF zNE).addF zHP).addF zMe)
abbrev G68:Ctrs:=csm T68 (fun _ _=>[]) (fun _=>false)
def zH8:Ann:=⟨24,[(0,zK [2,3,4,5] [2,3,4,5]),(1,zK [2,3,4,5,9] [2,3,4,5]),(2,zK [4,5,6] [4,5,6]),(3,zK [4,5] [4,5]),(4,zK [4,5] [4,5])],
 [],
 [],
 [],[]⟩
abbrev R68:=(Frac×Frac)
abbrev e68 (r:R68):List PA:=[.agg [.int .i64 r.1.Num,.int .i64 r.1.Den],.agg [.int .i64 r.2.Num,.int .i64 r.2.Den]]
section
variable {K:List PA→Prop} {s:set} {z:Int}
def s68 (s:set) (z:Int):(Frac×Frac) :=
  (cond (s67 s.list)
 ((s89 ((s98 s.list).Low) (1:Int)),(s89 ((s98 s.list).High) (1:Int)))
 (((s82 z s).1),((s82 z s).2)))
def p68 (s:set) (z:Int):Bool :=
  (decide ((p67 s.list=true)) &&
 (cond (s67 s.list)
 (decide ((p98 s.list=true)) &&
 (decide ((p89 ((s98 s.list).Low) (1:Int)=true)) &&
 (decide ((p89 ((s98 s.list).High) (1:Int)=true)) &&
 true)))
 (decide ((p82 z s=true)) &&
 true)))
end
theorem q68 (s:set) (z:Int) (K:List PA→Prop) (hs:p68 s z=true) (hk:K (e68 (s68 s z))):vcFun Try.prog G68 zH8 68 [.agg (zaU s),.one (.int .i64 z)] K :=
  zax (by kernel_rfl) (zaw hs fun hc hs=>And.intro (And.intro (zE enc_55 3 s.list.Gates.get) hc) (zc hs hk (fun hs hk=>(zaw hs fun hc hs=>And.intro (And.intro (zE enc_55 3 s.list.Gates.get) hc) (zaw hs fun hc hs=>And.intro hc (zaw hs fun hc hs=>And.intro hc hk)))) (fun hs hk=>(zaw hs fun hc hs=>And.intro (And.intro (zE enc_55 3 s.list.Gates.get) (And.intro (zE zaf 3 s.corners.get) hc)) hk))))
def zvo : List PA → COut
  | [.agg [.sl a0_list_Gates_n a0_list_Gates_s a0_list_Gates_g,.sl a0_corners_n a0_corners_s a0_corners_g],.one (.int .i64 a1)]=>.det (IsE enc_55 3 a0_list_Gates_s a0_list_Gates_g∧IsE zaf 3 a0_corners_s a0_corners_g∧p68 (⟨(⟨(⟨a0_list_Gates_n,zad a0_list_Gates_g⟩:(Sl Gate))⟩:list),(⟨a0_corners_n,zaQ a0_corners_g⟩:(Sl straight))⟩:set) a1=true) [.agg [.int .i64 (((s68 (⟨(⟨(⟨a0_list_Gates_n,zad a0_list_Gates_g⟩:(Sl Gate))⟩:list),(⟨a0_corners_n,zaQ a0_corners_g⟩:(Sl straight))⟩:set) a1).1).Num),.int .i64 (((s68 (⟨(⟨(⟨a0_list_Gates_n,zad a0_list_Gates_g⟩:(Sl Gate))⟩:list),(⟨a0_corners_n,zaQ a0_corners_g⟩:(Sl straight))⟩:set) a1).1).Den)],.agg [.int .i64 (((s68 (⟨(⟨(⟨a0_list_Gates_n,zad a0_list_Gates_g⟩:(Sl Gate))⟩:list),(⟨a0_corners_n,zaQ a0_corners_g⟩:(Sl straight))⟩:set) a1).2).Num),.int .i64 (((s68 (⟨(⟨(⟨a0_list_Gates_n,zad a0_list_Gates_g⟩:(Sl Gate))⟩:list),(⟨a0_corners_n,zaQ a0_corners_g⟩:(Sl straight))⟩:set) a1).2).Den)]]
  | _=>.no
theorem zH9:zai Try.prog 68:=⟨_,rfl,rfl,by kernel_rfl⟩
theorem zKQ:Ok Try.prog 68 zvo:=zaG zKP zH9 fun args K h=>by
  unfold zvo at h
  split at h
  · rename_i a0_list_Gates_n a0_list_Gates_s a0_list_Gates_g a0_corners_n a0_corners_s a0_corners_g a1
    obtain ⟨⟨⟨rfl,a0_list_Gates_f,rfl⟩,⟨rfl,a0_corners_f,rfl⟩,hs⟩,hk⟩:=h
    try rw [zac a0_list_Gates_f] at hs
    try rw [zac a0_list_Gates_f] at hk
    try rw [zaL a0_corners_f] at hs
    try rw [zaL a0_corners_f] at hk
    exact ⟨(fun _ _=>[]),(fun _=>false),zH8,q68 (⟨(⟨(⟨a0_list_Gates_n,a0_list_Gates_f⟩:(Sl Gate))⟩:list),(⟨a0_corners_n,a0_corners_f⟩:(Sl straight))⟩:set) a1 K hs hk⟩
  · exact h.elim
abbrev T87:Tabs:=(Tabs.nil.addF 74 zpl)
theorem zKR:TabsOk Try.prog T87:=(TabsOk.nil.addF zHy)
abbrev G87:Ctrs:=csm T87 (fun _ _=>[]) (fun _=>false)
def zIa:Ann:=⟨23,[(0,zK [1] [1]),(1,zK [2] [])],
 [],
 [],
 [],[]⟩
abbrev R87:=Bool
abbrev e87 (r:R87):List PA:=[.one (.bool r)]
section
variable {K:List PA→Prop} {g:Gate}
def s87 (g:Gate):Bool :=
  (cond (s74 g.Z (0:Int) (100000:Int))
 (cond (decide (g.Low ≥ (-1000000:Int)))
 (cond (decide (g.Low ≤ g.High))
 (decide (g.High≤(1000000:Int)))
 false)
 false)
 false)
end
theorem q87 (g:Gate) (K:List PA→Prop) (hk:K (e87 (s87 g))):vcFun Try.prog G87 zIa 87 [.agg (enc_55 g)] K :=
  zax (by kernel_rfl) (zt hk (fun hk=>(zt hk (fun hk=>(zt hk (fun hk=>hk) (fun hk=>hk))) (fun hk=>hk))) (fun hk=>hk))
def zAE : List PA → COut
  | [.agg [.int .i64 a0_Z,.int .i64 a0_Low,.int .i64 a0_High]]=>.tot [.one (.bool (s87 (⟨a0_Z,a0_Low,a0_High⟩:Gate)))]
  | _=>.no
theorem zIb:zai Try.prog 87:=⟨_,rfl,rfl,by kernel_rfl⟩
theorem zMn:Ok Try.prog 87 zAE:=zaG zKR zIb fun args K h=>by
  unfold zAE at h
  split at h
  · rename_i a0_Z a0_Low a0_High
    have hk:=h
    exact ⟨(fun _ _=>[]),(fun _=>false),zIa,q87 (⟨a0_Z,a0_Low,a0_High⟩:Gate) K hk⟩
  · exact h.elim
abbrev T64:Tabs:=((Tabs.nil.addF 74 zpl).addF 87 zAE)
theorem zKS:TabsOk Try.prog T64:=((TabsOk.nil.addF zHy).addF zMn)
abbrev G64:Ctrs:=csm T64 (fun _ _=>[]) (fun _=>false)
def zDy:Ann:=⟨18,[(0,zK [0] []),(1,zK [0,5,6,7] []),(2,zK [0,5,6,7,8] []),(3,zK [0,4,5,6,7] [4]),(4,zK [0,5,6,7,13] []),(5,zK [2] []),(6,zK [0,5,6,7] []),(7,zK [2] [])],
 [(2,zK [0,5,6,7] [])],
 [(5,zK [0,5,6,7,13] [])],
 [],[]⟩
abbrev R64:=Bool
abbrev e64 (r:R64):List PA:=[.one (.bool r)]
@[irreducible] def z64:=ptF Try.prog G64 zDy Try.f64
def zB0 (zaa:(Sl Gate)) (zaV:Int):St:=⟨[(0,zS enc_55 3 zaa),(5,zS enc_55 3 zaa),(6,zI (zaa.len:Int)),(7,zI zaV)],[],[]⟩
abbrev zDz (K:List PA→Prop) (zaa:(Sl Gate)) (X:St→Prop) (P:Int→Bool) (S:Int→Bool):Prop:=∀ ⦃zaV:Int⦄,P zaV=true→K (e64 (S zaV))→X (zB0 zaa zaV)
section
variable {K:List PA→Prop} {zaa:(Sl Gate)} {zaV:Int} {X0:St→Prop} {P0:Int→Bool} {S0:Int→Bool} {zf9:Int} {zpC:Bool}
def zpD (S0:Int→Bool) (zaa:(Sl Gate)) (zf9:Int) (zpC:Bool):Bool :=
  (cond zpC
 false
 (S0 (w64 (zf9+(1:Int)))))
def zpE (P0:Int→Bool) (zaa:(Sl Gate)) (zf9:Int) (zpC:Bool):Bool :=
  (cond zpC
 true
 (P0 (w64 (zf9+(1:Int)))))
theorem zDA (hX0:zDz K zaa X0 P0 S0) (hs:zpE P0 zaa zf9 zpC=true) (hk:K (e64 (zpD S0 zaa zf9 zpC))):z64 K [1,0,1,0,0,1,1,0,0,1,1] [X0] ⟨[(0,zS enc_55 3 zaa),(5,zS enc_55 3 zaa),(6,zI (zaa.len:Int)),(7,zI zf9),(13,zB zpC)],[],[]⟩:=zax (by kernel_rfl) (zc hs hk (fun hs hk=>hk) (fun hs hk=>(hX0 hs hk)))
def zhq (zaa:(Sl Gate)) (S0:Int→Bool) (zaV:Int):Bool :=
  (cond (decide (zaV < (zaa.len : Int)))
 (zpD S0 zaa zaV (!(s87 (zaa.get zaV.toNat))))
 (s74 (zaa.len:Int) (1:Int) (24:Int)))
def zhr (zaa:(Sl Gate)) (P0:Int→Bool) (zaV:Int):Bool :=
  (cond (decide (zaV < (zaa.len : Int)))
 (decide ((0≤zaV∧zaV < (zaa.len:Int))) &&
 (zpE P0 zaa zaV (!(s87 (zaa.get zaV.toNat)))))
 true)
def zhs (zaa:(Sl Gate)):Nat→Int→Bool:=lpO (fun _=>default) (zhq zaa)
def zht (zaa:(Sl Gate)):Nat→Int→Bool:=lpO (fun _=>false) (zhr zaa)
def zvp (zaa:(Sl Gate)) (zaV:Int):Bool:=zhs zaa Fuel zaV
def zvq (zaa:(Sl Gate)) (zaV:Int):Bool:=zht zaa Fuel zaV
theorem zDB (hs:zvq zaa zaV=true) (hk:K (e64 (zvp zaa zaV))):z64 K [1,0,1,0] [] (zB0 zaa zaV) :=
  zl (fun X=>z64 K [1,0,1,0,0] [X]) (by kernel_rfl) fun X0 hX =>
  (show ∀ k, zDz K zaa X0 (zht zaa k) (zhs zaa k) from zgL _ _ (zhr zaa) (zhq zaa) (zDz K zaa X0)
 (by intro _ hs;exact absurd hs Bool.false_ne_true)
 (by intro P0 S0 hX0 zaV hs hk;exact hX _ (zax (by kernel_rfl) (zc hs hk (fun hs hk=>(zaw hs fun hc hs=>And.intro hc (zDA hX0 hs hk))) (fun hs hk=>hk))))) _ hs hk
def s64 (zaa:(Sl Gate)):Bool :=
  (zvp zaa (0:Int))
def p64 (zaa:(Sl Gate)):Bool :=
  (zvq zaa (0:Int))
end
theorem q64 (zaa:(Sl Gate)) (K:List PA→Prop) (hs:p64 zaa=true) (hk:K (e64 (s64 zaa))):vcFun Try.prog G64 zDy 64 [.one (.sl zaa.len 3 (fun i=>enc_55 (zaa.get i)))] K :=
  zax (by kernel_rfl) (zDB hs hk)
def ztl : List PA → COut
  | [.one (.sl a0_n a0_s a0_g)]=>.det (IsE enc_55 3 a0_s a0_g∧p64 (⟨a0_n,zad a0_g⟩:(Sl Gate))=true) [.one (.bool (s64 (⟨a0_n,zad a0_g⟩:(Sl Gate))))]
  | _=>.no
theorem zIc:zai Try.prog 64:=⟨_,rfl,rfl,by kernel_rfl⟩
theorem zJ3:Ok Try.prog 64 ztl:=zaG zKS zIc fun args K h=>by
  unfold ztl at h
  split at h
  · rename_i a0_n a0_s a0_g
    obtain ⟨⟨⟨rfl,a0_f,rfl⟩,hs⟩,hk⟩:=h
    try rw [zac a0_f] at hs
    try rw [zac a0_f] at hk
    exact ⟨(fun _ _=>[]),(fun _=>false),zDy,q64 (⟨a0_n,a0_f⟩:(Sl Gate)) K hs hk⟩
  · exact h.elim
abbrev T79:Tabs:=(Tabs.nil.addF 89 zpq)
theorem zKT:TabsOk Try.prog T79:=(TabsOk.nil.addF zHP)
abbrev G79:Ctrs:=csm T79 (fun _ _=>[]) (fun _=>false)
def zId:Ann:=⟨14,[(0,zK [1,2] [1,2]),(1,zK [2] [2])],
 [],
 [],
 [],[]⟩
abbrev R79:=Line
abbrev e79 (r:R79):List PA:=[.agg [.int .i64 r.Slope.Num,.int .i64 r.Slope.Den,.int .i64 r.Start.Num,.int .i64 r.Start.Den]]
section
variable {K:List PA→Prop} {s:straight}
def s79 (s:straight):Line :=
  (⟨(s89 s.slope s.den),(s89 s.start s.den)⟩:Line)
def p79 (s:straight):Bool :=
  (decide ((p89 s.slope s.den=true)) &&
 (decide ((p89 s.start s.den=true)) &&
 true))
end
theorem q79 (s:straight) (K:List PA→Prop) (hs:p79 s=true) (hk:K (e79 (s79 s))):vcFun Try.prog G79 zId 79 [.agg (zaf s)] K :=
  zax (by kernel_rfl) (zaw hs fun hc hs=>And.intro hc (zaw hs fun hc hs=>And.intro hc hk))
def zAF : List PA → COut
  | [.agg [.int .i64 a0_slope,.int .i64 a0_start,.int .i64 a0_den]]=>.det (p79 (⟨a0_slope,a0_start,a0_den⟩:straight)=true) [.agg [.int .i64 ((s79 (⟨a0_slope,a0_start,a0_den⟩:straight)).Slope.Num),.int .i64 ((s79 (⟨a0_slope,a0_start,a0_den⟩:straight)).Slope.Den),.int .i64 ((s79 (⟨a0_slope,a0_start,a0_den⟩:straight)).Start.Num),.int .i64 ((s79 (⟨a0_slope,a0_start,a0_den⟩:straight)).Start.Den)]]
  | _=>.no
theorem zIe:zai Try.prog 79:=⟨_,rfl,rfl,by kernel_rfl⟩
theorem zMo:Ok Try.prog 79 zAF:=zaG zKT zIe fun args K h=>by
  unfold zAF at h
  split at h
  · rename_i a0_slope a0_start a0_den
    obtain ⟨hs,hk⟩:=h
    exact ⟨(fun _ _=>[]),(fun _=>false),zId,q79 (⟨a0_slope,a0_start,a0_den⟩:straight) K hs hk⟩
  · exact h.elim
abbrev T96:Tabs:=Tabs.nil
theorem zKU:TabsOk Try.prog T96:=TabsOk.nil
abbrev G96:Ctrs:=csm T96 (fun _ _=>[]) (fun _=>false)
def zDC:Ann:=⟨4,[(0,⟨[1],[1],[],[],[],[],[]⟩),(1,⟨[2],[],[],[],[],[],[]⟩)],
 [],
 [],
 [],[]⟩
theorem zDD (l_a0 : list) (K : List PA → Prop) :
  vcFun Try.prog G96 zDC 96 [.agg [.sl l_a0.Gates.len 3 (fun i=>enc_55 (l_a0.Gates.get i))]] K =
  (K [.one (.fn 115 [] [.fp (zb1 l_a0) 0])]):=by kernel_rfl
theorem q96 (l_a0:list) (K:List PA→Prop) (hk:K [.one (.fn 115 [] [.fp (zb1 l_a0) 0])]):vcFun Try.prog G96 zDC 96 [.agg [.sl l_a0.Gates.len 3 (fun i=>enc_55 (l_a0.Gates.get i))]] K:=zax (zDD l_a0 K) hk
def zDE : List PA → COut
  | [.agg [.sl a0_Gates_n a0_Gates_s a0_Gates_g]]=>.det (IsE enc_55 3 a0_Gates_s a0_Gates_g) [.one (.fn 115 [] [.fp (zb1 (⟨(⟨a0_Gates_n,zad a0_Gates_g⟩:(Sl Gate))⟩:list)) 0])]
  | _=>.no
theorem zIf:zai Try.prog 96:=⟨_,rfl,rfl,by kernel_rfl⟩
theorem zNF:Ok Try.prog 96 zDE:=zaG zKU zIf fun args K h=>by
  unfold zDE at h
  split at h
  · rename_i a0_Gates_n a0_Gates_s a0_Gates_g
    obtain ⟨⟨rfl,a0_Gates_f,rfl⟩,hk⟩:=h
    try rw [zac a0_Gates_f] at hk
    exact ⟨fun _ _=>[],fun _=>false,zDC,q96 (⟨(⟨a0_Gates_n,a0_Gates_f⟩:(Sl Gate))⟩:list) K hk⟩
  · exact h.elim
abbrev T97:Tabs:=(Tabs.nil.addF 99 zu0)
theorem zKV:TabsOk Try.prog T97:=(TabsOk.nil.addF zKv)
abbrev G97:Ctrs:=csm T97 (fun _ _=>[]) (fun _=>false)
def zDF:Ann:=⟨11,[(0,zK [2,3] [2,3]),(1,zK [4] [])],
 [],
 [],
 [],[]⟩
abbrev R97:=Bool
abbrev e97 (r:R97):List PA:=[.one (.bool r)]
section
variable {K:List PA→Prop} {s:set} {x:straight}
def s97 (s:set) (x:straight):Bool :=
  (!(zJY x s.list.Gates))
def p97 (s:set) (x:straight):Bool :=
  (decide ((zJZ x s.list.Gates=true)) &&
 true)
end
theorem q97 (s:set) (x:straight) (K:List PA→Prop) (hs:p97 s x=true) (hk:K (e97 (s97 s x))):vcFun Try.prog G97 zDF 97 [.agg (zaU s),.agg (zaf x)] K :=
  zax (by kernel_rfl) (zaw hs fun hc hs=>And.intro (And.intro (zE enc_55 3 s.list.Gates.get) hc) hk)
def zDG : List PA → COut
  | [.agg [.sl a0_list_Gates_n a0_list_Gates_s a0_list_Gates_g,.sl a0_corners_n a0_corners_s a0_corners_g],.agg [.int .i64 a1_slope,.int .i64 a1_start,.int .i64 a1_den]]=>.det (IsE enc_55 3 a0_list_Gates_s a0_list_Gates_g∧IsE zaf 3 a0_corners_s a0_corners_g∧p97 (⟨(⟨(⟨a0_list_Gates_n,zad a0_list_Gates_g⟩:(Sl Gate))⟩:list),(⟨a0_corners_n,zaQ a0_corners_g⟩:(Sl straight))⟩:set) (⟨a1_slope,a1_start,a1_den⟩:straight)=true) [.one (.bool (s97 (⟨(⟨(⟨a0_list_Gates_n,zad a0_list_Gates_g⟩:(Sl Gate))⟩:list),(⟨a0_corners_n,zaQ a0_corners_g⟩:(Sl straight))⟩:set) (⟨a1_slope,a1_start,a1_den⟩:straight)))]
  | [.agg [.sl a0_list_Gates_n a0_list_Gates_s a0_list_Gates_g,.nils],.agg [.int .i64 a1_slope,.int .i64 a1_start,.int .i64 a1_den]]=>.det (IsE enc_55 3 a0_list_Gates_s a0_list_Gates_g∧p97 (⟨(⟨(⟨a0_list_Gates_n,zad a0_list_Gates_g⟩:(Sl Gate))⟩:list),(⟨0,fun _=>default⟩:(Sl straight))⟩:set) (⟨a1_slope,a1_start,a1_den⟩:straight)=true) [.one (.bool (s97 (⟨(⟨(⟨a0_list_Gates_n,zad a0_list_Gates_g⟩:(Sl Gate))⟩:list),(⟨0,fun _=>default⟩:(Sl straight))⟩:set) (⟨a1_slope,a1_start,a1_den⟩:straight)))]
  | _=>.no
theorem zIg:zai Try.prog 97:=⟨_,rfl,rfl,by kernel_rfl⟩
theorem zNG:Ok Try.prog 97 zDG:=zhg zKV zIg fun args K h=>by
  unfold zDG at h
  split at h
  · rename_i a0_list_Gates_n a0_list_Gates_s a0_list_Gates_g a0_corners_n a0_corners_s a0_corners_g a1_slope a1_start a1_den
    obtain ⟨⟨⟨rfl,a0_list_Gates_f,rfl⟩,⟨rfl,a0_corners_f,rfl⟩,hs⟩,hk⟩:=h
    try rw [zac a0_list_Gates_f] at hs
    try rw [zac a0_list_Gates_f] at hk
    try rw [zaL a0_corners_f] at hs
    try rw [zaL a0_corners_f] at hk
    exact ⟨_,ze8 zfV _,(fun _ _=>[]),(fun _=>false),zDF,q97 (⟨(⟨(⟨a0_list_Gates_n,a0_list_Gates_f⟩:(Sl Gate))⟩:list),(⟨a0_corners_n,a0_corners_f⟩:(Sl straight))⟩:set) (⟨a1_slope,a1_start,a1_den⟩:straight) (Wk K) hs (zeh hk)⟩
  · rename_i a0_list_Gates_n a0_list_Gates_s a0_list_Gates_g a1_slope a1_start a1_den
    obtain ⟨⟨⟨rfl,a0_list_Gates_f,rfl⟩,hs⟩,hk⟩:=h
    try rw [zac a0_list_Gates_f] at hs
    try rw [zac a0_list_Gates_f] at hk
    exact ⟨_,(zc6 (.agg (zc6 (.rfl _) (zc6 (.nil _ _) zhf))) (zc6 (zfV _) zhf)),(fun _ _=>[]),(fun _=>false),zDF,q97 (⟨(⟨(⟨a0_list_Gates_n,a0_list_Gates_f⟩:(Sl Gate))⟩:list),(⟨0,fun _=>default⟩:(Sl straight))⟩:set) (⟨a1_slope,a1_start,a1_den⟩:straight) (Wk K) hs (zeh hk)⟩
  · exact h.elim
abbrev zMp:Tabs:=Tabs.nil
theorem zIh:TabsOk Try.prog zMp:=TabsOk.nil
abbrev zMq:Ctrs:=csm zMp (fun _ _=>[]) (fun _=>false)
def zvr:Ann:=⟨30,[(0,zK [0,1,2,3,8] [8]),(1,zK [0,1,2,3,8,11] [8]),(2,zK [0,1,2,3,8] [8]),(3,zK [8] [8])],
 [],
 [(3,zK [0,1,2,3,8] [8])],
 [],[]⟩
abbrev zNH:=straight
abbrev e116 (r:zNH):List PA:=[.agg [.int .i64 r.slope,.int .i64 r.start,.int .i64 r.den]]
@[irreducible] def z116:=ptF Try.prog zMq zvr Try.f116
section
variable {K:List PA→Prop} {z:Int} {p:Int} {y_a2:Int} {q:Int} {zv0:Int} {pv0:Int} {yv0:Int} {qv0:Int}
def zit (zv0:Int) (pv0:Int) (yv0:Int) (qv0:Int):straight :=
  (⟨(w64 (qv0 - pv0)),(w64 ((w64 (pv0 * yv0)) - (w64 (qv0 * zv0)))),(w64 (yv0 - zv0))⟩:straight)
theorem zsc (hk:K (e116 (zit zv0 pv0 yv0 qv0))):z116 K [1,1] [] ⟨[(0,zI zv0),(1,zI pv0),(2,zI yv0),(3,zI qv0),(8,zp 8 0)],[(8,.box 118 (zm (zaf (⟨(0:Int),(0:Int),(0:Int)⟩:straight))))],[]⟩:=zax (by kernel_rfl) hk
def zkF (z:Int) (p:Int) (y_a2:Int) (q:Int):straight :=
  (cond (decide (z > y_a2))
 (zit y_a2 q z p)
 (zit z p y_a2 q))
end
theorem zNI (z:Int) (p:Int) (y_a2:Int) (q:Int) (K:List PA→Prop) (hk:K (e116 (zkF z p y_a2 q))):vcFun Try.prog zMq zvr 116 [.one (.int .i64 z),.one (.int .i64 p),.one (.int .i64 y_a2),.one (.int .i64 q)] K :=
  zax (by kernel_rfl) (zt hk (fun hk=>(zsc hk)) (fun hk=>(zsc hk)))
def zvs : List PA → COut
  | [.one (.int .i64 a0),.one (.int .i64 a1),.one (.int .i64 a2),.one (.int .i64 a3)]=>.tot [.agg [.int .i64 ((zkF a0 a1 a2 a3).slope),.int .i64 ((zkF a0 a1 a2 a3).start),.int .i64 ((zkF a0 a1 a2 a3).den)]]
  | _=>.no
theorem zDH:zai Try.prog 116:=⟨_,rfl,rfl,by kernel_rfl⟩
theorem zKW:Ok Try.prog 116 zvs:=zaG zIh zDH fun args K h=>by
  unfold zvs at h
  split at h
  · rename_i a0 a1 a2 a3
    have hk:=h
    exact ⟨(fun _ _=>[]),(fun _=>false),zvr,zNI a0 a1 a2 a3 K hk⟩
  · exact h.elim
abbrev zMr:Tabs:=(Tabs.nil.addF 116 zvs)
theorem zIi:TabsOk Try.prog zMr:=(TabsOk.nil.addF zKW)
abbrev zvt:Ctrs:=csm zMr (fun _ _=>[]) (fun _=>false)
def zb0:Ann:=⟨64,[(0,⟨[0,1,12,13,14],[],[],[],[],[],[]⟩),(1,⟨[0,1,12,13,14,15],[],[],[],[],[],[]⟩),(2,⟨[0,1,3,4,12,13,14],[4],[],[],[],[],[]⟩),(3,⟨[0,1,4,12,13,14,23,24,25],[4],[],[],[],[],[]⟩),(4,⟨[0,1,4,12,13,14,23,24,25,26],[4],[],[],[],[],[]⟩),(5,⟨[0,1,4,6,12,13,14,23,24,25],[4,6],[],[],[],[],[]⟩),(6,⟨[0,1,4,6,12,13,14,23,24,25,33],[4,6],[],[],[],[],[]⟩),(7,⟨[0,1,4,6,12,13,14,23,24,25,38,39],[4,6],[],[],[],[],[]⟩),(8,⟨[0,1,4,6,12,13,14,23,24,25,38,39,40],[4,6],[],[],[],[],[]⟩),(9,⟨[0,1,4,6,8,12,13,14,23,24,25,38,39],[4,6],[],[],[],[],[]⟩),(10,⟨[0,1,4,6,8,12,13,14,23,24,25,38,39,46,47],[4,6],[],[],[],[],[]⟩),(11,⟨[0,1,4,6,8,12,13,14,23,24,25,38,39,46,47,48],[4,6],[],[],[],[],[]⟩),(12,⟨[0,1,4,6,8,10,12,13,14,23,24,25,38,39,46,47],[4,6],[],[],[],[],[]⟩),(13,⟨[0,1,4,6,8,12,13,14,23,24,25,38,39,46,47,59],[4,6],[],[],[],[],[]⟩),(14,⟨[0,1,4,6,8,12,13,14,23,24,25,38,39,46,47],[4,6],[],[],[],[],[]⟩),(15,⟨[0,1,4,6,12,13,14,23,24,25,38,39],[4,6],[],[],[],[],[]⟩),(16,⟨[0,1,4,12,13,14,23,24,25],[4],[],[],[],[],[]⟩),(17,⟨[0,1,12,13,14],[],[],[],[],[],[]⟩)],
 [(1,⟨[0,1,12,13,14],[],[],[],[],[],[]⟩),(4,⟨[0,1,4,12,13,14,23,24,25],[4],[],[],[],[4],[]⟩)],
 [],
 [(8,3,⟨[0,1,4,6,12,13,14,23,24,25,38,39],[4,6],[],[],[],[],[]⟩),(11,3,⟨[0,1,4,6,8,12,13,14,23,24,25,38,39,46,47],[4,6],[],[],[],[],[]⟩)],[13]⟩
def ze9 (l:Nat) (a:list) (zah:Int):St:=⟨[(0,.one (.c (.p (.yl l)))),(1,.one (.c (.p (.fp (zb1 a) 0)))),(12,.one (.c (.p (.sl a.Gates.len 3 (fun i=>enc_55 (a.Gates.get i)))))),(13,.one (.c (.p (.int .i64 (a.Gates.len:Int))))),(14,.one (.c (.p (.int .i64 zah))))],[],[]⟩
def zgQ (l:Nat) (ys:List (List PA)) (a:list) (zah:Int):Prop:=vcY Try.prog zvt zb0 l (cdF Try.f115 [1,0]) (zc0 0 zkK) ys false (ze9 l a zah)
def zfa (l:Nat) (a:list) (zaP:Int) (zfb:Nat) (zb2:Nat→List PV) (zbp:Int) (zaB:Int) (zaK:Int) (zaT:Int) (zbd:Int):St:=⟨[(0,.one (.c (.p (.yl l)))),(1,.one (.c (.p (.fp (zb1 a) 0)))),(4,.one (.c (.ptr 4 0))),(12,.one (.c (.p (.sl a.Gates.len 3 (fun i=>enc_55 (a.Gates.get i)))))),(13,.one (.c (.p (.int .i64 (a.Gates.len:Int))))),(14,.one (.c (.p (.int .i64 zaP)))),(23,.one (.c (.p (.sl zfb 3 zb2)))),(24,.one (.c (.p (.int .i64 zbp)))),(25,.one (.c (.p (.int .i64 zaB))))],[(4,.fbox [.int .i64 zaK,.int .i64 zaT,.int .i64 zbd])],[]⟩
def zgR (l:Nat) (X0:List (List PA)→Bool→St→Prop) (ys:List (List PA)) (a:list) (zaP:Int) (zfb:Nat) (zb2:Nat→List PV) (zbp:Int) (zaB:Int) (zaK:Int) (zaT:Int) (zbd:Int):Prop:=vcY Try.prog zvt zb0 l (cdF Try.f115 [1,0,0,1,1,0,0,1,1,0]) (zc0 2 (zc0 1 (zG0 (zG2 Try.prog zb0 17 (vcY Try.prog zvt zb0 l (cdF Try.f115 [1,0,0,1,1,1]) (zh7 Try.prog zb0 1 X0 (zc0 0 zkK)))) (zh7 Try.prog zb0 1 X0 (zc0 0 zkK))))) ys false (zfa l a zaP zfb zb2 zbp zaB zaK zaT zbd)
theorem zAG (l : Nat) (a : list) (ys : List (List PA)) :
  vcIter Try.prog zvt zb0 115 l [.one (.fp (zb1 a) 0)] ys =
  (zgQ l ys a (0:Int)):=by kernel_rfl
def zlo (l:Nat) (X0:List (List PA)→Bool→St→Prop) (ys:List (List PA)) (a:list) (zah:Int):Prop :=
  (zcZ (decide (zah < (a.Gates.len : Int)))
 (((0≤zah∧zah < (a.Gates.len:Int))) ∧
 (((0≤(w64 (zah+(1:Int)))∧(w64 (zah+(1:Int)))≤(a.Gates.len:Int)∧(a.Gates.len:Int)≤(a.Gates.len:Int))) ∧
 (zgR l  X0 ys a zah (((a.Gates.len:Int) - (w64 (zah+(1:Int)))).toNat) (slG (fun i=>enc_55 (a.Gates.get i)) ((w64 (zah+(1:Int))).toNat)) (((a.Gates.len:Int) - (w64 (zah+(1:Int)))).toNat:Int) (0:Int) ((a.Gates.get zah.toNat).Z) ((a.Gates.get zah.toNat).Low) ((a.Gates.get zah.toNat).High))))
 (ys=[]))
theorem zoi (l : Nat) (X0 : List (List PA) → Bool → St → Prop) (ys : List (List PA)) (a : list) (zah : Int) :
  vcY Try.prog zvt zb0 l (cd (cdF Try.f115 [1,0]) [0]) (zh7 Try.prog zb0 1 X0 (zc0 0 zkK)) ys false (ze9 l a zah) =
  zlo l X0 ys a zah:=by kernel_rfl
theorem ztm (l : Nat) (ys : List (List PA)) (a : list) (zah : Int)
  (h:∀ X0:List (List PA)→Bool→St→Prop,(∀ (ys:List (List PA)) (zah:Int),zlo l X0 ys a zah→X0 ys false (ze9 l a zah))→X0 ys false (ze9 l a zah)) :
  zgQ l ys a zah:=by
  have e:zgQ l ys a zah=(∀ X:List (List PA)→Bool→St→Prop,(∀ ys q s,vcY Try.prog zvt zb0 l (cd (cdF Try.f115 [1,0]) [0]) (zh7 Try.prog zb0 1 X (zc0 0 zkK)) ys q s→X ys q s)→X ys false (ze9 l a zah)):=by kernel_rfl
  refine zax e ?_
  intro X hX
  refine h X ?_
  intro ys zah hs
  refine hX _ _ _ ?_
  have e2:=zoi l X ys a zah
  rw [e2]
  exact hs
def zlp (l:Nat) (X0:List (List PA)→Bool→St→Prop) (X1:List (List PA)→Bool→St→Prop) (ys:List (List PA)) (a:list) (zaP:Int) (zaF:(Sl Gate)) (zbp:Int) (zaB:Int) (zaK:Int) (zaT:Int) (zbd:Int):Prop :=
  (zcZ (decide (zaB < zbp))
 (((0≤zaB∧zaB < (zaF.len:Int))) ∧
 (zcZ (zaK == (zaF.get zaB.toNat).Z)
 (X1 ys false (zfa l a zaP zaF.len (fun i=>enc_55 (zaF.get i)) zbp (w64 (zaB+(1:Int))) zaK zaT zbd))
 (l=l∧∃ r1,ys=[.agg [.int .i64 ((zkF zaK zaT ((zaF.get zaB.toNat).Z) ((zaF.get zaB.toNat).Low)).slope),.int .i64 ((zkF zaK zaT ((zaF.get zaB.toNat).Z) ((zaF.get zaB.toNat).Low)).start),.int .i64 ((zkF zaK zaT ((zaF.get zaB.toNat).Z) ((zaF.get zaB.toNat).Low)).den)]] :: r1 ∧
 (l=l∧∃ r2,r1=[.agg [.int .i64 ((zkF zaK zaT ((zaF.get zaB.toNat).Z) ((zaF.get zaB.toNat).High)).slope),.int .i64 ((zkF zaK zaT ((zaF.get zaB.toNat).Z) ((zaF.get zaB.toNat).High)).start),.int .i64 ((zkF zaK zaT ((zaF.get zaB.toNat).Z) ((zaF.get zaB.toNat).High)).den)]] :: r2 ∧
 (l=l∧∃ r3,r2=[.agg [.int .i64 ((zkF zaK zbd ((zaF.get zaB.toNat).Z) ((zaF.get zaB.toNat).Low)).slope),.int .i64 ((zkF zaK zbd ((zaF.get zaB.toNat).Z) ((zaF.get zaB.toNat).Low)).start),.int .i64 ((zkF zaK zbd ((zaF.get zaB.toNat).Z) ((zaF.get zaB.toNat).Low)).den)]] :: r3 ∧
 (l=l∧∃ r4,r3=[.agg [.int .i64 ((zkF zaK zbd ((zaF.get zaB.toNat).Z) ((zaF.get zaB.toNat).High)).slope),.int .i64 ((zkF zaK zbd ((zaF.get zaB.toNat).Z) ((zaF.get zaB.toNat).High)).start),.int .i64 ((zkF zaK zbd ((zaF.get zaB.toNat).Z) ((zaF.get zaB.toNat).High)).den)]] :: r4 ∧
 (X1 r4 false (zfa l a zaP zaF.len (fun i=>enc_55 (zaF.get i)) zbp (w64 (zaB+(1:Int))) zaK zaT zbd))∧True)∧True)∧True)∧True)))
 (X0 ys false (ze9 l a (w64 (zaP+(1:Int))))))
theorem zoj (l : Nat) (X0 : List (List PA) → Bool → St → Prop) (X1 : List (List PA) → Bool → St → Prop) (ys : List (List PA)) (a : list) (zaP : Int) (zaF : (Sl Gate)) (zbp : Int) (zaB : Int) (zaK : Int) (zaT : Int) (zbd : Int) :
  vcY Try.prog zvt zb0 l (cd (cdF Try.f115 [1,0,0,1,1,0,0,1,1,0]) [0]) (zh7 Try.prog zb0 4 X1 (zc0 2 (zc0 1 (zG0 (zG2 Try.prog zb0 17 (vcY Try.prog zvt zb0 l (cdF Try.f115 [1,0,0,1,1,1]) (zh7 Try.prog zb0 1 X0 (zc0 0 zkK)))) (zh7 Try.prog zb0 1 X0 (zc0 0 zkK)))))) ys false (zfa l a zaP zaF.len (fun i=>enc_55 (zaF.get i)) zbp zaB zaK zaT zbd) =
  zlp l  X0 X1 ys a zaP zaF zbp zaB zaK zaT zbd:=by kernel_rfl
theorem ztn (l : Nat) (X0 : List (List PA) → Bool → St → Prop) (ys : List (List PA)) (a : list) (zaP : Int) (zfb : Nat) (zb2 : Nat → List PV) (zbp : Int) (zaB : Int) (zaK : Int) (zaT : Int) (zbd : Int)
  (h:∀ X1:List (List PA)→Bool→St→Prop,(∀ (ys:List (List PA)) (zaP:Int) (zaF:(Sl Gate)) (zbp:Int) (zaB:Int) (zaK:Int) (zaT:Int) (zbd:Int),zlp l  X0 X1 ys a zaP zaF zbp zaB zaK zaT zbd→X1 ys false (zfa l a zaP zaF.len (fun i=>enc_55 (zaF.get i)) zbp zaB zaK zaT zbd))→X1 ys false (zfa l a zaP zfb zb2 zbp zaB zaK zaT zbd)) :
  zgR l  X0 ys a zaP zfb zb2 zbp zaB zaK zaT zbd:=by
  have e:zgR l  X0 ys a zaP zfb zb2 zbp zaB zaK zaT zbd=(∀ X:List (List PA)→Bool→St→Prop,(∀ ys q s,vcY Try.prog zvt zb0 l (cd (cdF Try.f115 [1,0,0,1,1,0,0,1,1,0]) [0]) (zh7 Try.prog zb0 4 X (zc0 2 (zc0 1 (zG0 (zG2 Try.prog zb0 17 (vcY Try.prog zvt zb0 l (cdF Try.f115 [1,0,0,1,1,1]) (zh7 Try.prog zb0 1 X0 (zc0 0 zkK)))) (zh7 Try.prog zb0 1 X0 (zc0 0 zkK)))))) ys q s→X ys q s)→X ys false (zfa l a zaP zfb zb2 zbp zaB zaK zaT zbd)):=by kernel_rfl
  refine zax e ?_
  intro X hX
  refine h X ?_
  intro ys zaP zaF zbp zaB zaK zaT zbd hs
  refine hX _ _ _ ?_
  have e2:=zoj l  X0 X ys a zaP zaF zbp zaB zaK zaT zbd
  rw [e2]
  exact hs
attribute [irreducible] zgQ zgR
def zeG (S0:Int→List straight) (a:list) (S1:Int→(Sl Gate)→Int→Int→Int→Int→Int→List straight) (zaP:Int) (zaF:(Sl Gate)) (zbp:Int) (zaB:Int) (zaK:Int) (zaT:Int) (zbd:Int):List straight :=
  (cond (decide (zaB < zbp))
 (cond (zaK == (zaF.get zaB.toNat).Z)
 (S1 zaP zaF zbp (w64 (zaB+(1:Int))) zaK zaT zbd)
 ((zkF zaK zaT ((zaF.get zaB.toNat).Z) ((zaF.get zaB.toNat).Low)) :: ((zkF zaK zaT ((zaF.get zaB.toNat).Z) ((zaF.get zaB.toNat).High)) :: ((zkF zaK zbd ((zaF.get zaB.toNat).Z) ((zaF.get zaB.toNat).Low)) :: ((zkF zaK zbd ((zaF.get zaB.toNat).Z) ((zaF.get zaB.toNat).High)) :: (S1 zaP zaF zbp (w64 (zaB+(1:Int))) zaK zaT zbd))))))
 (S0 (w64 (zaP+(1:Int)))))
def zeH (P0:Int→Bool) (a:list) (P1:Int→(Sl Gate)→Int→Int→Int→Int→Int→Bool) (zaP:Int) (zaF:(Sl Gate)) (zbp:Int) (zaB:Int) (zaK:Int) (zaT:Int) (zbd:Int):Bool :=
  (cond (decide (zaB < zbp))
 (decide ((0≤zaB∧zaB < (zaF.len:Int))) &&
 (cond (zaK == (zaF.get zaB.toNat).Z)
 (P1 zaP zaF zbp (w64 (zaB+(1:Int))) zaK zaT zbd)
 (P1 zaP zaF zbp (w64 (zaB+(1:Int))) zaK zaT zbd)))
 (P0 (w64 (zaP+(1:Int)))))
def zdk (S0 : Int → List straight) (a : list) : Nat → Int → (Sl Gate) → Int → Int → Int → Int → Int → List straight
  | 0=>fun _ _ _ _ _ _ _=>[]
  | k+1=>zeG S0 a (zdk S0 a k)
def zdl (P0 : Int → Bool) (a : list) : Nat → Int → (Sl Gate) → Int → Int → Int → Int → Int → Bool
  | 0=>fun _ _ _ _ _ _ _=>false
  | k+1=>zeH P0 a (zdl P0 a k)
def zmb (S0:Int→List straight) (a:list) (zaP:Int) (zaF:(Sl Gate)) (zbp:Int) (zaB:Int) (zaK:Int) (zaT:Int) (zbd:Int):List straight:=zdk S0 a Fuel zaP zaF zbp zaB zaK zaT zbd
def zmc (P0:Int→Bool) (a:list) (zaP:Int) (zaF:(Sl Gate)) (zbp:Int) (zaB:Int) (zaK:Int) (zaT:Int) (zbd:Int):Bool:=zdl P0 a Fuel zaP zaF zbp zaB zaK zaT zbd
theorem zAH (l : Nat) (a : list)
  (X0:List (List PA)→Bool→St→Prop) (P0:Int→Bool) (S0:Int→List straight)
  (hX0:∀ (ys:List (List PA)) (zah:Int),P0 zah=true→ys=(S0 zah).map (fun y=>[.agg (zaf y)])→X0 ys false (ze9 l a zah)) (ys:List (List PA)) (zaP:Int) (zaF:(Sl Gate)) (zbp:Int) (zaB:Int) (zaK:Int) (zaT:Int) (zbd:Int) (zb2:Nat→List PV) (zjr:zb2=fun i=>enc_55 (zaF.get i)) (hs:zmc P0 a zaP zaF zbp zaB zaK zaT zbd=true) (hk:ys=(zmb S0 a zaP zaF zbp zaB zaK zaT zbd).map (fun y=>[.agg (zaf y)])):zgR l  X0 ys a zaP zaF.len zb2 zbp zaB zaK zaT zbd:=by
  refine ztn l  X0 ys a zaP zaF.len zb2 zbp zaB zaK zaT zbd ?_
  intro X1 hstep
  have key:∀ (k:Nat) (ys:List (List PA)) (zaP:Int) (zaF:(Sl Gate)) (zbp:Int) (zaB:Int) (zaK:Int) (zaT:Int) (zbd:Int) (zb2:Nat→List PV) (zjr:zb2=fun i=>enc_55 (zaF.get i)),zdl P0 a k zaP zaF zbp zaB zaK zaT zbd=true→ys=(zdk S0 a k zaP zaF zbp zaB zaK zaT zbd).map (fun y=>[.agg (zaf y)])→X1 ys false (zfa l a zaP zaF.len zb2 zbp zaB zaK zaT zbd):=by
    intro k
    induction k with
    | zero=>intro ys zaP zaF zbp zaB zaK zaT zbd zb2 zjr hs;exact absurd hs Bool.false_ne_true
    | succ k ih =>
      intro ys zaP zaF zbp zaB zaK zaT zbd zb2 zjr hs hk
      subst zjr
      refine hstep ys zaP zaF zbp zaB zaK zaT zbd ?_
      have hs:zeH P0 a (zdl P0 a k) zaP zaF zbp zaB zaK zaT zbd=true:=hs
      have hk:ys=(zeG S0 a (zdk S0 a k) zaP zaF zbp zaB zaK zaT zbd).map (fun y=>[.agg (zaf y)]):=hk
      unfold zeH at hs
      unfold zeG at hk
      generalize zdk S0 a k=S1 at hk ih
      generalize zdl P0 a k=P1 at hs ih
      have hX1:=ih
      exact (zl5 hs hk
 (fun hs hk => (zaw hs fun hc hs => ⟨hc, (zl5 hs hk
 (fun hs hk=>(hX1 _ zaP zaF zbp (w64 (zaB+(1:Int))) zaK zaT zbd (fun i=>enc_55 (zaF.get i)) rfl hs hk))
 (fun hs hk=>(itY hk rfl (fun _ hk=>(itY hk rfl (fun _ hk=>(itY hk rfl (fun _ hk=>(itY hk rfl (fun _ hk=>(hX1 _ zaP zaF zbp (w64 (zaB+(1:Int))) zaK zaT zbd (fun i=>enc_55 (zaF.get i)) rfl hs hk)))))))))))⟩))
 (fun hs hk=>(hX0 _ (w64 (zaP+(1:Int))) hs hk)))
  exact key _ _ zaP zaF zbp zaB zaK zaT zbd zb2 zjr hs hk
def zeI (a:list) (S0:Int→List straight) (zah:Int):List straight :=
  (cond (decide (zah < (a.Gates.len : Int)))
 (zmb S0 a zah (⟨((a.Gates.len:Int) - (w64 (zah+(1:Int)))).toNat,(fun i=>a.Gates.get (i+((w64 (zah+(1:Int))).toNat)))⟩:Sl Gate) (((a.Gates.len:Int) - (w64 (zah+(1:Int)))).toNat:Int) (0:Int) ((a.Gates.get zah.toNat).Z) ((a.Gates.get zah.toNat).Low) ((a.Gates.get zah.toNat).High))
 [])
def zeJ (a:list) (P0:Int→Bool) (zah:Int):Bool :=
  (cond (decide (zah < (a.Gates.len : Int)))
 (decide ((0≤zah∧zah < (a.Gates.len:Int))) &&
 (decide ((0≤(w64 (zah+(1:Int)))∧(w64 (zah+(1:Int)))≤(a.Gates.len:Int)∧(a.Gates.len:Int)≤(a.Gates.len:Int))) &&
 (zmc P0 a zah (⟨((a.Gates.len:Int) - (w64 (zah+(1:Int)))).toNat,(fun i=>a.Gates.get (i+((w64 (zah+(1:Int))).toNat)))⟩:Sl Gate) (((a.Gates.len:Int) - (w64 (zah+(1:Int)))).toNat:Int) (0:Int) ((a.Gates.get zah.toNat).Z) ((a.Gates.get zah.toNat).Low) ((a.Gates.get zah.toNat).High))))
 true)
def zdm (a : list) : Nat → Int → List straight
  | 0=>fun _=>[]
  | k+1=>zeI a (zdm a k)
def zdn (a : list) : Nat → Int → Bool
  | 0=>fun _=>false
  | k+1=>zeJ a (zdn a k)
def zsd (a:list) (zah:Int):List straight:=zdm a Fuel zah
def zse (a:list) (zah:Int):Bool:=zdn a Fuel zah
theorem zAI (l:Nat) (a:list) (ys:List (List PA)) (zah:Int) (hs:zse a zah=true) (hk:ys=(zsd a zah).map (fun y=>[.agg (zaf y)])):zgQ l ys a zah:=by
  refine ztm l ys a zah ?_
  intro X0 hstep
  have key:∀ (k:Nat) (ys:List (List PA)) (zah:Int),zdn a k zah=true→ys=(zdm a k zah).map (fun y=>[.agg (zaf y)])→X0 ys false (ze9 l a zah):=by
    intro k
    induction k with
    | zero=>intro ys zah hs;exact absurd hs Bool.false_ne_true
    | succ k ih =>
      intro ys zah hs hk
      refine hstep ys zah ?_
      have hs:zeJ a (zdn a k) zah=true:=hs
      have hk:ys=(zeI a (zdm a k) zah).map (fun y=>[.agg (zaf y)]):=hk
      unfold zeJ at hs
      unfold zeI at hk
      generalize zdm a k=S0 at hk ih
      generalize zdn a k=P0 at hs ih
      have hX0:=ih
      exact (zl5 hs hk
 (fun hs hk=>(zaw hs fun hc hs=>⟨hc,(zaw hs fun hc hs=>⟨hc,(zAH l a X0 P0 S0 hX0 _ zah (⟨((a.Gates.len:Int) - (w64 (zah+(1:Int)))).toNat,(fun i=>a.Gates.get (i+((w64 (zah+(1:Int))).toNat)))⟩:Sl Gate) (((a.Gates.len:Int) - (w64 (zah+(1:Int)))).toNat:Int) (0:Int) ((a.Gates.get zah.toNat).Z) ((a.Gates.get zah.toNat).Low) ((a.Gates.get zah.toNat).High) (slG (fun i=>enc_55 (a.Gates.get i)) ((w64 (zah+(1:Int))).toNat)) rfl hs hk)⟩)⟩))
 (fun hs hk=>hk))
  exact key _ _ zah hs hk
def zB1 (a:list):List straight :=
  (zsd a (0:Int))
def zDI (a:list):Bool :=
  (zse a (0:Int))
theorem zNJ (l:Nat) (a:list) (ys:List (List PA)) (hs:zDI a=true) (hk:ys=(zB1 a).map (fun y=>[.agg (zaf y)])):vcIter Try.prog zvt zb0 115 l [.one (.fp (zb1 a) 0)] ys:=by
  refine zax (zAG l a ys) ?_
  unfold zDI at hs
  unfold zB1 at hk
  exact (zAI l a _ (0:Int) hs hk)
def zDJ : List PA → Option (Prop × List (List PA))
  | [.one (.fp [.sl a_Gates_n a_Gates_s a_Gates_g] 0)]=>some (IsE enc_55 3 a_Gates_s a_Gates_g∧zDI (⟨(⟨a_Gates_n,zad a_Gates_g⟩:(Sl Gate))⟩:list)=true,(zB1 (⟨(⟨a_Gates_n,zad a_Gates_g⟩:(Sl Gate))⟩:list)).map fun y=>[.agg (zaf y)])
  | _=>none
theorem zDK:zai Try.prog 115:=⟨_,rfl,rfl,by kernel_rfl⟩
theorem zKX:zBs Try.prog 115 zDJ:=zHn zIi zDK fun l caps safe ys h hs=>by
  unfold zDJ at h
  split at h
  · rename_i a_Gates_n a_Gates_s a_Gates_g
    cases h
    obtain ⟨⟨rfl,a_Gates_f,rfl⟩,hs⟩:=hs
    try rw [zac a_Gates_f] at hs
    try rw [zac a_Gates_f]
    exact ⟨fun _ _=>[],fun _=>false,zb0,zNJ l (⟨(⟨a_Gates_n,a_Gates_f⟩:(Sl Gate))⟩:list) _ hs rfl⟩
  · cases h
abbrev T65:Tabs:=(((((Tabs.nil.addF 67 zof).addF 79 zAF).addF 96 zDE).addF 97 zDG).addI 115 zDJ)
theorem zKY:TabsOk Try.prog T65:=(((((TabsOk.nil.addF zGN).addF zMo).addF zNF).addF zNG).addI zKX)
abbrev G65:Ctrs:=csm T65 (fun _ _=>[]) (fun l=>Nat.beq l 14)
def zgS:Ann:=⟨39,[(0,⟨[0,2],[2],[],[],[],[],[]⟩),(1,⟨[2,3],[2,3],[],[],[],[],[]⟩),(2,⟨[2,3,12],[2,3],[],[],[],[],[]⟩),(3,⟨[2],[2],[],[],[],[],[]⟩),(4,⟨[2,3,4],[2,3,4,14],[],[],[],[],[]⟩),(5,⟨[2,3,4,17],[2,3,4,14],[],[],[],[],[]⟩),(6,⟨[2,3,4,5,17],[2,3,4,5,14,36],[],[],[],[],[]⟩),(7,⟨[2,3,4,5,6,17],[2,3,4,5,6,14,36],[],[],[],[],[]⟩),(8,⟨[2,3,4,5,6,17,29],[2,3,4,5,6,14,36],[],[],[],[],[]⟩),(9,⟨[2,3,4,5,17],[2,3,4,5,14,36],[],[],[],[],[]⟩),(10,⟨[2,3,4,17],[2,3,4,14,36],[],[],[],[],[]⟩),(11,⟨[2],[2,36],[],[],[],[],[]⟩)],
 [(6,⟨[2,3,4,17],[2,3,4,14,36],[],[(3,1,36,118,fun _=>zaf default)],[],[],[]⟩)],
 [(3,⟨[2,3,12],[2,3],[],[],[],[],[]⟩),(4,⟨[2,3],[2,3],[],[],[],[],[]⟩)],
 [],[]⟩
def zIj (zaa:(Sl Gate)) (zaI:Bool):St:=⟨[(2,.one (.c (.ptr 2 0))),(3,.one (.c (.ptr 3 0))),(12,.one (.c (.p (.bool zaI))))],[(2,.box 104 [.p (.nils),.p (.nils)]),(3,.box 104 [.p (.sl zaa.len 3 (fun i=>enc_55 (zaa.get i))),.p (.nils)])],[]⟩
def zmd (K:List PA→Prop) (zaa:(Sl Gate)) (zaI:Bool):Prop:=vc Try.prog G65 zgS (cdF Try.f65 [1,1,0,1]) (sqK Try.prog G65 zgS (cdF Try.f65 [1,1,1]) (zcn Try.prog Try.f65 K)) (zIj zaa zaI)
def zIk (zaa:(Sl Gate)):St:=⟨[(2,.one (.c (.ptr 2 0))),(3,.one (.c (.ptr 3 0)))],[(2,.box 104 [.p (.nils),.p (.nils)]),(3,.box 104 [.p (.sl zaa.len 3 (fun i=>enc_55 (zaa.get i))),.p (.nils)])],[]⟩
def zme (K:List PA→Prop) (zaa:(Sl Gate)):Prop:=vc Try.prog G65 zgS (cdF Try.f65 [1,1,1]) (zcn Try.prog Try.f65 K) (zIk zaa)
def zfc (zaa:(Sl Gate)) (zfd:Nat) (zb3:Nat→List PV) (zaq:Nat) (zak:(List Int→Option (List Int))):St:=⟨[(2,.one (.c (.ptr 2 0))),(3,.one (.c (.ptr 3 0))),(4,.one (.c (.ptr 4 0))),(17,.one (.c (.p (.fn 115 [] [.fp (zb1 (⟨zaa⟩:list)) 0]))))],[(2,.box 104 [.p (.nils),.p (.nils)]),(3,.box 104 [.p (.sl zaa.len 3 (fun i=>enc_55 (zaa.get i))),.vec 36]),(4,.box 136 [.mo 14]),(14,.mo 37 4 (true,4,false,[none]) zaq zak),(36,.vec 118 3 24 zfd zb3)],[]⟩
def zjs (K:List PA→Prop) (zaa:(Sl Gate)) (zfd:Nat) (zb3:Nat→List PV) (zaq:Nat) (zak:(List Int→Option (List Int))):Prop:=vc Try.prog G65 zgS (cdF Try.f65 [1,1,1,1,0,1,0]) (zaX 0 (sqK Try.prog G65 zgS (cdF Try.f65 [1,1,1,1,1]) (zcn Try.prog Try.f65 K))) (zfc zaa zfd zb3 zaq zak)
theorem zDL (zaa : (Sl Gate)) (K : List PA → Prop) :
  vcFun Try.prog G65 zgS 65 [.one (.sl zaa.len 3 (fun i=>enc_55 (zaa.get i)))] K =
  ((IsE enc_55 3 3 (fun i=>enc_55 (zaa.get i))∧(p67 (⟨zaa⟩:list)=true)) ∧
 (zmd K zaa (s67 (⟨zaa⟩:list)))):=by kernel_rfl
theorem zDM (K : List PA → Prop) (zaa : (Sl Gate)) (zaI : Bool) :
  zmd K zaa zaI =
  (zcZ zaI
 (K [.agg [.sl zaa.len 3 (fun i=>enc_55 (zaa.get i)),.nils]])
 (zme K zaa)):=by kernel_rfl
theorem zDN (K : List PA → Prop) (zaa : (Sl Gate)) :
  zme K zaa =
  ((IsE enc_55 3 3 (fun i=>enc_55 (zaa.get i))) ∧
 (zjs K zaa 0 (fun i=>zaf ((fun _=>default) i)) 0 (fun _=>none))):=by kernel_rfl
def zok (K:List PA→Prop) (zaa:(Sl Gate)) (zaz:(Sl straight)) (zaq:Nat) (zak:(List Int→Option (List Int))):Prop :=
  (K [.agg [.sl zaa.len 3 (fun i=>enc_55 (zaa.get i)),.sl zaz.len 3 (fun i=>zaf (zaz.get i))]])
def zol (K:List PA→Prop) (X2:List (List PA)→St→Prop) (y2:straight) (rest2:List (List PA)) (zaa:(Sl Gate)) (zaz:(Sl straight)) (zaq:Nat) (zak:(List Int→Option (List Int))):Prop :=
  (((p79 y2=true)) ∧
 (zcZ (!((zdW (zak [(s79 y2).Slope.Num, (s79 y2).Slope.Den, (s79 y2).Start.Num, (s79 y2).Start.Den]) 0) != 0))
 ((IsE enc_55 3 3 (fun i=>enc_55 (zaa.get i))∧IsE zaf 3 3 (fun i=>zaf (zaz.get i))∧(p97 (⟨(⟨zaa⟩:list),zaz⟩:set) y2=true)) ∧
 (zcZ (s97 (⟨(⟨zaa⟩ : list), zaz⟩ : set) y2)
 ((((zaz.len+1) * 24≤140737488355328∧zaz.len+1≤9223372036854775807)) ∧
 (X2 rest2 (zfc zaa (zaz.len+1) (appG zaz.len (fun i=>zaf (zaz.get i)) (fun _=>(zaf y2))) (addN (zak [(s79 y2).Slope.Num,(s79 y2).Slope.Den,(s79 y2).Start.Num,(s79 y2).Start.Den]) zaq) (zkV [(s79 y2).Slope.Num,(s79 y2).Slope.Den,(s79 y2).Start.Num,(s79 y2).Start.Den] [1] zak))))
 (X2 rest2 (zfc zaa zaz.len (fun i=>zaf (zaz.get i)) zaq zak))))
 (X2 rest2 (zfc zaa zaz.len (fun i=>zaf (zaz.get i)) zaq zak))))
theorem zpF (K:List PA→Prop) (zaa:(Sl Gate)) (zaz:(Sl straight)) (zaq:Nat) (zak:(List Int→Option (List Int))):(zaX 0 (sqK Try.prog G65 zgS (cdF Try.f65 [1,1,1,1,1]) (zcn Try.prog Try.f65 K))) .normal (zfc zaa zaz.len (fun i=>zaf (zaz.get i)) zaq zak)=zok K zaa zaz zaq zak:=by kernel_rfl
theorem zpG (K : List PA → Prop) (X2 : List (List PA) → St → Prop) (y2 : straight) (rest2 : List (List PA)) (zaa : (Sl Gate)) (zaz : (Sl straight)) (zaq : Nat) (zak : (List Int → Option (List Int))) :
  zL6 Try.prog G65 zgS 6 [18] (cd (cdF Try.f65 [1,1,1,1,0,1,0]) [0]) (cd (cdF Try.f65 [1,1,1,1,0,1,0]) [1]) X2 (zaX 0 (sqK Try.prog G65 zgS (cdF Try.f65 [1,1,1,1,1]) (zcn Try.prog Try.f65 K))) [.agg (zaf y2)] rest2 (zfc zaa zaz.len (fun i=>zaf (zaz.get i)) zaq zak)=zol K X2 y2 rest2 zaa zaz zaq zak:=by kernel_rfl
theorem zvu (K : List PA → Prop) (zaa : (Sl Gate)) (zfd : Nat) (zb3 : Nat → List PV) (zaq : Nat) (zak : (List Int → Option (List Int)))
  (hsafe:IsE enc_55 3 3 (fun i=>enc_55 ((⟨zaa⟩:list).Gates.get i))∧(zDI (⟨zaa⟩:list)=true)) (h:∀ X2:List (List PA)→St→Prop,(∀ (zaz:(Sl straight)) (zaq:Nat) (zak:(List Int→Option (List Int))),zok K zaa zaz zaq zak→X2 [] (zfc zaa zaz.len (fun i=>zaf (zaz.get i)) zaq zak))→(∀ (y:straight) (rest:List (List PA)) (zaz:(Sl straight)) (zaq:Nat) (zak:(List Int→Option (List Int))),zol K X2 y rest zaa zaz zaq zak→X2 ([.agg (zaf y)] :: rest) (zfc zaa zaz.len (fun i=>zaf (zaz.get i)) zaq zak))→X2 ((zB1 (⟨zaa⟩:list)).map fun y=>[.agg (zaf y)]) (zfc zaa zfd zb3 zaq zak)) :
  zjs K zaa zfd zb3 zaq zak:=by
  have e:zjs K zaa zfd zb3 zaq zak=((IsE enc_55 3 3 (fun i=>enc_55 ((⟨zaa⟩:list).Gates.get i))∧(zDI (⟨zaa⟩:list)=true))∧∀ X:List (List PA)→St→Prop,(∀ s,(zaX 0 (sqK Try.prog G65 zgS (cdF Try.f65 [1,1,1,1,1]) (zcn Try.prog Try.f65 K))) .normal s→X [] s)→(∀ y rest s,zL6 Try.prog G65 zgS 6 [18] (cd (cdF Try.f65 [1,1,1,1,0,1,0]) [0]) (cd (cdF Try.f65 [1,1,1,1,0,1,0]) [1]) X (zaX 0 (sqK Try.prog G65 zgS (cdF Try.f65 [1,1,1,1,1]) (zcn Try.prog Try.f65 K))) y rest s→X (y :: rest) s)→X ((zB1 (⟨zaa⟩:list)).map fun y=>[.agg (zaf y)]) (zfc zaa zfd zb3 zaq zak)):=by kernel_rfl
  refine zax e ⟨hsafe,?_⟩
  intro X h0 h1
  refine h X (fun zaz zaq zak hs=>h0 _ ?_) (fun y rest zaz zaq zak hs=>h1 _ rest _ ?_)
  · rw [zpF K zaa zaz zaq zak];exact hs
  · have e2 := zpG K X y rest zaa zaz zaq zak
    rw [e2];exact hs
abbrev e65 (r:set):List PA:=[.agg [.sl r.list.Gates.len 3 (fun i=>enc_55 (r.list.Gates.get i)),.sl r.corners.len 3 (fun i=>zaf (r.corners.get i))]]
attribute [irreducible] zmd zme zjs
def zpH (zaa:(Sl Gate)) (zaz:(Sl straight)) (zaq:Nat) (zak:(List Int→Option (List Int))):set :=
  (⟨(⟨zaa⟩:list),zaz⟩:set)
def zpI (zaa:(Sl Gate)) (zaz:(Sl straight)) (zaq:Nat) (zak:(List Int→Option (List Int))):Bool :=
  true
def zjt (zaa:(Sl Gate)) (y2:straight) (S2:(Sl straight)→Nat→(List Int→Option (List Int))→set) (zaz:(Sl straight)) (zaq:Nat) (zak:(List Int→Option (List Int))):set :=
  (cond (!((zdW (zak [(s79 y2).Slope.Num, (s79 y2).Slope.Den, (s79 y2).Start.Num, (s79 y2).Start.Den]) 0) != 0))
 (cond (s97 (⟨(⟨zaa⟩ : list), zaz⟩ : set) y2)
 (S2 (⟨(zaz.len+1),(zdt zaz.len zaz.get (fun _=>y2))⟩:Sl straight) (addN (zak [(s79 y2).Slope.Num,(s79 y2).Slope.Den,(s79 y2).Start.Num,(s79 y2).Start.Den]) zaq) (zkV [(s79 y2).Slope.Num,(s79 y2).Slope.Den,(s79 y2).Start.Num,(s79 y2).Start.Den] [1] zak))
 (S2 zaz zaq zak))
 (S2 zaz zaq zak))
def zju (zaa:(Sl Gate)) (y2:straight) (P2:(Sl straight)→Nat→(List Int→Option (List Int))→Bool) (zaz:(Sl straight)) (zaq:Nat) (zak:(List Int→Option (List Int))):Bool :=
  (decide ((p79 y2=true)) &&
 (cond (!((zdW (zak [(s79 y2).Slope.Num, (s79 y2).Slope.Den, (s79 y2).Start.Num, (s79 y2).Start.Den]) 0) != 0))
 (decide ((p97 (⟨(⟨zaa⟩:list),zaz⟩:set) y2=true)) &&
 (cond (s97 (⟨(⟨zaa⟩ : list), zaz⟩ : set) y2)
 (decide (((zaz.len+1) * 24≤140737488355328∧zaz.len+1≤9223372036854775807)) &&
 (P2 (⟨(zaz.len+1),(zdt zaz.len zaz.get (fun _=>y2))⟩:Sl straight) (addN (zak [(s79 y2).Slope.Num,(s79 y2).Slope.Den,(s79 y2).Start.Num,(s79 y2).Start.Den]) zaq) (zkV [(s79 y2).Slope.Num,(s79 y2).Slope.Den,(s79 y2).Start.Num,(s79 y2).Start.Den] [1] zak)))
 (P2 zaz zaq zak)))
 (P2 zaz zaq zak)))
def zfe (zaa : (Sl Gate)) : List straight → (Sl straight) → Nat → (List Int → Option (List Int)) → set
  | []=>zpH zaa
  | y :: r=>zjt zaa y (zfe zaa r)
def zff (zaa : (Sl Gate)) : List straight → (Sl straight) → Nat → (List Int → Option (List Int)) → Bool
  | []=>zpI zaa
  | y :: r=>zju zaa y (zff zaa r)
def zpJ (zaa:(Sl Gate)) (zaz:(Sl straight)) (zaq:Nat) (zak:(List Int→Option (List Int))):set:=zfe zaa (zB1 (⟨zaa⟩:list)) zaz zaq zak
def zmf (zaa:(Sl Gate)) (zaz:(Sl straight)) (zaq:Nat) (zak:(List Int→Option (List Int))):Bool:=decide ((zDI (⟨zaa⟩:list)=true)) && zff zaa (zB1 (⟨zaa⟩:list)) zaz zaq zak
theorem zDO (K:List PA→Prop) (zaa:(Sl Gate)) (zaz:(Sl straight)) (zaq:Nat) (zak:(List Int→Option (List Int))) (zb3:Nat→List PV) (zhu:zb3=fun i=>zaf (zaz.get i)) (hs:zmf zaa zaz zaq zak=true) (hk:K (e65 (zpJ zaa zaz zaq zak))):zjs (Wk K) zaa zaz.len zb3 zaq zak:=by
  unfold zmf at hs
  rw [Bool.and_eq_true] at hs
  obtain ⟨hsf,hs⟩:=hs
  have hc:=of_decide_eq_true hsf
  refine zvu (Wk K) zaa zaz.len zb3 zaq zak ⟨isE,hc⟩ ?_
  intro X2 hexit hstep
  have key:∀ (l:List straight) (zaz:(Sl straight)) (zaq:Nat) (zak:(List Int→Option (List Int))) (zb3:Nat→List PV) (zhu:zb3=fun i=>zaf (zaz.get i)),zff zaa l zaz zaq zak=true→K (e65 (zfe zaa l zaz zaq zak))→X2 (l.map fun y=>[.agg (zaf y)]) (zfc zaa zaz.len zb3 zaq zak):=by
    intro l
    induction l with
    | nil =>
      intro zaz zaq zak zb3 zhu hs hk
      subst zhu
      refine hexit zaz zaq zak ?_
      have hs:zpI zaa zaz zaq zak=true:=hs
      have hk:K (e65 (zpH zaa zaz zaq zak)):=hk
      unfold zpI at hs
      unfold zpH at hk
      exact (zeh hk)
    | cons y2 l ih =>
      intro zaz zaq zak zb3 zhu hs hk
      subst zhu
      refine hstep y2 _ zaz zaq zak ?_
      have hs:zju zaa y2 (zff zaa l) zaz zaq zak=true:=hs
      have hk:K (e65 (zjt zaa y2 (zfe zaa l) zaz zaq zak)):=hk
      unfold zju at hs
      unfold zjt at hk
      generalize zfe zaa l=S2 at hk ih
      generalize zff zaa l=P2 at hs ih
      have hX2:=ih
      exact (zaw hs fun hc hs => ⟨hc, (zcg (K := fun r => K (e65 r))
 (fun hs hk => (zaw hs fun hc hs => ⟨⟨isE, isE, hc⟩, (zcg (K := fun r => K (e65 r))
 (fun hs hk=>(zaw hs fun hc hs=>⟨hc,(hX2 (⟨(zaz.len+1),(zdt zaz.len zaz.get (fun _=>y2))⟩:Sl straight) (addN (zak [(s79 y2).Slope.Num,(s79 y2).Slope.Den,(s79 y2).Start.Num,(s79 y2).Start.Den]) zaq) (zkV [(s79 y2).Slope.Num,(s79 y2).Slope.Den,(s79 y2).Start.Num,(s79 y2).Start.Den] [1] zak) (appG zaz.len (fun i=>zaf (zaz.get i)) (fun _=>(zaf y2))) (zjd (enc:=zaf) (f:=zaz.get) (h:=(fun _=>y2)) rfl rfl) hs hk)⟩))
 (fun hs hk=>(hX2 zaz zaq zak (fun i=>zaf (zaz.get i)) rfl hs hk)) hs hk)⟩))
 (fun hs hk=>(hX2 zaz zaq zak (fun i=>zaf (zaz.get i)) rfl hs hk)) hs hk)⟩)
  exact key _ zaz zaq zak zb3 zhu hs hk
def zmg (zaa:(Sl Gate)):set :=
  (zpJ zaa (⟨0,(fun _=>default)⟩:Sl straight) 0 (fun _=>none))
def zmh (zaa:(Sl Gate)):Bool :=
  (zmf zaa (⟨0,(fun _=>default)⟩:Sl straight) 0 (fun _=>none))
theorem zDP (K:List PA→Prop) (zaa:(Sl Gate)) (hs:zmh zaa=true) (hk:K (e65 (zmg zaa))):zme (Wk K) zaa:=by
  refine zax (zDN (Wk K) zaa) ?_
  unfold zmh at hs
  unfold zmg at hk
  exact ⟨isE,(zDO K zaa (⟨0,(fun _=>default)⟩:Sl straight) 0 (fun _=>none) (fun i=>zaf ((fun _=>default) i)) rfl hs hk)⟩
def zmi (zaa:(Sl Gate)) (zaI:Bool):set :=
  (cond zaI
 (⟨(⟨zaa⟩:list),(⟨0,fun _=>default⟩:(Sl straight))⟩:set)
 (zmg zaa))
def zmj (zaa:(Sl Gate)) (zaI:Bool):Bool :=
  (cond zaI
 true
 (zmh zaa))
theorem zDQ (K:List PA→Prop) (zaa:(Sl Gate)) (zaI:Bool) (hs:zmj zaa zaI=true) (hk:K (e65 (zmi zaa zaI))):zmd (Wk K) zaa zaI:=by
  refine zax (zDM (Wk K) zaa zaI) ?_
  unfold zmj at hs
  unfold zmi at hk
  exact (zcg (K := fun r => K (e65 r))
 (fun hs hk=>(wk hk (zc6 (.agg (zc6 (.rfl _) (zc6 (.nil _ _) zhf))) zhf)))
 (fun hs hk=>(zDP K zaa hs hk)) hs hk)
def s65 (zaa:(Sl Gate)):set :=
  (zmi zaa (s67 (⟨zaa⟩:list)))
def p65 (zaa:(Sl Gate)):Bool :=
  (decide ((p67 (⟨zaa⟩:list)=true)) &&
 (zmj zaa (s67 (⟨zaa⟩:list))))
theorem q65 (zaa:(Sl Gate)) (K:List PA→Prop) (hs:p65 zaa=true) (hk:K (e65 (s65 zaa))):vcFun Try.prog G65 zgS 65 [.one (.sl zaa.len 3 (fun i=>enc_55 (zaa.get i)))] (Wk K):=by
  refine zax (zDL zaa (Wk K)) ?_
  unfold p65 at hs
  unfold s65 at hk
  exact (zaw hs fun hc hs=>⟨⟨isE,hc⟩,(zDQ K zaa (s67 (⟨zaa⟩:list)) hs hk)⟩)
def zvv : List PA → COut
  | [.one (.sl a0_n a0_s a0_g)]=>.det (IsE enc_55 3 a0_s a0_g∧p65 (⟨a0_n,zad a0_g⟩:(Sl Gate))=true) [.agg [.sl ((s65 (⟨a0_n,zad a0_g⟩:(Sl Gate))).list.Gates.len) 3 (fun i=>enc_55 ((s65 (⟨a0_n,zad a0_g⟩:(Sl Gate))).list.Gates.get i)),.sl ((s65 (⟨a0_n,zad a0_g⟩:(Sl Gate))).corners.len) 3 (fun i=>zaf ((s65 (⟨a0_n,zad a0_g⟩:(Sl Gate))).corners.get i))]]
  | _=>.no
theorem zIl:zai Try.prog 65:=⟨_,rfl,rfl,by kernel_rfl⟩
theorem zKZ:Ok Try.prog 65 zvv:=zhg zKY zIl fun args K h=>by
  unfold zvv at h
  split at h
  · rename_i a0_n a0_s a0_g
    obtain ⟨⟨⟨rfl,a0_f,rfl⟩,hs⟩,hk⟩:=h
    try rw [zac a0_f] at hs
    try rw [zac a0_f] at hk
    exact ⟨_,ze8 zfV _,(fun _ _=>[]),(fun l=>Nat.beq l 14),zgS,q65 (⟨a0_n,a0_f⟩:(Sl Gate)) K hs hk⟩
  · exact h.elim
abbrev T66:Tabs:=((Tabs.nil.addF 67 zof).addF 98 zAs)
theorem zK1:TabsOk Try.prog T66:=((TabsOk.nil.addF zGN).addF zMe)
abbrev G66:Ctrs:=csm T66 (fun _ _=>[]) (fun _=>false)
def zIm:Ann:=⟨19,[(0,zK [1] [1]),(1,zK [1,3] [1,3]),(2,zK [1,3,9] [1,3]),(3,zK [2] []),(4,zK [2] [])],
 [],
 [],
 [],[]⟩
abbrev R66:=Bool
abbrev e66 (r:R66):List PA:=[.one (.bool r)]
section
variable {K:List PA→Prop} {s:set}
def s66 (s:set):Bool :=
  (cond (s67 s.list)
 (decide ((s98 s.list).Low≤(s98 s.list).High))
 (decide ((s.corners.len:Int) > (0:Int))))
def p66 (s:set):Bool :=
  (decide ((p98 s.list=true)) &&
 (decide ((p67 s.list=true)) &&
 true))
end
theorem q66 (s:set) (K:List PA→Prop) (hs:p66 s=true) (hk:K (e66 (s66 s))):vcFun Try.prog G66 zIm 66 [.agg (zaU s)] K :=
  zax (by kernel_rfl) (zaw hs fun hc hs=>And.intro (And.intro (zE enc_55 3 s.list.Gates.get) hc) (zaw hs fun hc hs=>And.intro (And.intro (zE enc_55 3 s.list.Gates.get) hc) (zt hk (fun hk=>hk) (fun hk=>hk))))
def zvw : List PA → COut
  | [.agg [.sl a0_list_Gates_n a0_list_Gates_s a0_list_Gates_g,.sl a0_corners_n a0_corners_s a0_corners_g]]=>.det (IsE enc_55 3 a0_list_Gates_s a0_list_Gates_g∧IsE zaf 3 a0_corners_s a0_corners_g∧p66 (⟨(⟨(⟨a0_list_Gates_n,zad a0_list_Gates_g⟩:(Sl Gate))⟩:list),(⟨a0_corners_n,zaQ a0_corners_g⟩:(Sl straight))⟩:set)=true) [.one (.bool (s66 (⟨(⟨(⟨a0_list_Gates_n,zad a0_list_Gates_g⟩:(Sl Gate))⟩:list),(⟨a0_corners_n,zaQ a0_corners_g⟩:(Sl straight))⟩:set)))]
  | _=>.no
theorem zIn:zai Try.prog 66:=⟨_,rfl,rfl,by kernel_rfl⟩
theorem zK2:Ok Try.prog 66 zvw:=zaG zK1 zIn fun args K h=>by
  unfold zvw at h
  split at h
  · rename_i a0_list_Gates_n a0_list_Gates_s a0_list_Gates_g a0_corners_n a0_corners_s a0_corners_g
    obtain ⟨⟨⟨rfl,a0_list_Gates_f,rfl⟩,⟨rfl,a0_corners_f,rfl⟩,hs⟩,hk⟩:=h
    try rw [zac a0_list_Gates_f] at hs
    try rw [zac a0_list_Gates_f] at hk
    try rw [zaL a0_corners_f] at hs
    try rw [zaL a0_corners_f] at hk
    exact ⟨(fun _ _=>[]),(fun _=>false),zIm,q66 (⟨(⟨(⟨a0_list_Gates_n,a0_list_Gates_f⟩:(Sl Gate))⟩:list),(⟨a0_corners_n,a0_corners_f⟩:(Sl straight))⟩:set) K hs hk⟩
  · exact h.elim
abbrev T76:Tabs:=Tabs.nil
theorem zK3:TabsOk Try.prog T76:=TabsOk.nil
abbrev G76:Ctrs:=csm T76 (fun _ _=>[]) (fun _=>false)
def zIo:Ann:=⟨11,[(0,zK [1,2] [2]),(1,zK [3] [])],
 [],
 [],
 [],[]⟩
abbrev R76:=Bool
abbrev e76 (r:R76):List PA:=[.one (.bool r)]
section
variable {K:List PA→Prop} {c0:Int} {l_a0:list}
def s76 (c0:Int) (l_a0:list):Bool :=
  ((l_a0.Gates.get 0).Z == c0)
def p76 (c0:Int) (l_a0:list):Bool :=
  (decide ((0≤(0:Int)∧(0:Int) < (l_a0.Gates.len:Int))) &&
 true)
end
theorem q76 (c0:Int) (l_a0:list) (K:List PA→Prop) (hs:p76 c0 l_a0=true) (hk:K (e76 (s76 c0 l_a0))):vcFun Try.prog G76 zIo 76 [.agg (zb1 l_a0),.one (.fp (zat c0) 0)] K :=
  zax (by kernel_rfl) (zaw hs fun hc hs=>And.intro hc hk)
def zDR : List PA → COut
  | [.agg [.sl a0_Gates_n a0_Gates_s a0_Gates_g],.one (.fp [.int .i64 c0] 0)]=>.det (IsE enc_55 3 a0_Gates_s a0_Gates_g∧p76 c0 (⟨(⟨a0_Gates_n,zad a0_Gates_g⟩:(Sl Gate))⟩:list)=true) [.one (.bool (s76 c0 (⟨(⟨a0_Gates_n,zad a0_Gates_g⟩:(Sl Gate))⟩:list)))]
  | _=>.no
theorem zIp:zai Try.prog 76:=⟨_,rfl,rfl,by kernel_rfl⟩
theorem zNK:Ok Try.prog 76 zDR:=zaG zK3 zIp fun args K h=>by
  unfold zDR at h
  split at h
  · rename_i a0_Gates_n a0_Gates_s a0_Gates_g c0
    obtain ⟨⟨⟨rfl,a0_Gates_f,rfl⟩,hs⟩,hk⟩:=h
    try rw [zac a0_Gates_f] at hs
    try rw [zac a0_Gates_f] at hk
    exact ⟨(fun _ _=>[]),(fun _=>false),zIo,q76 c0 (⟨(⟨a0_Gates_n,a0_Gates_f⟩:(Sl Gate))⟩:list) K hs hk⟩
  · exact h.elim
abbrev T77:Tabs:=Tabs.nil
theorem zK4:TabsOk Try.prog T77:=TabsOk.nil
abbrev G77:Ctrs:=csm T77 (fun _ _=>[]) (fun _=>false)
def zIq:Ann:=⟨3,[(0,zK [] []),(1,zK [2] [])],
 [],
 [],
 [],[]⟩
abbrev R77:=Bool
abbrev e77 (r:R77):List PA:=[.one (.bool r)]
section
variable {K:List PA→Prop} {a0_a0:list}
def s77 (a0_a0:list):Bool :=
  false
end
theorem q77 (a0_a0:list) (K:List PA→Prop) (hk:K (e77 (s77 a0_a0))):vcFun Try.prog G77 zIq 77 [.agg (zb1 a0_a0)] K :=
  zax (by kernel_rfl) hk
def zDS : List PA → COut
  | [.agg [.sl a0_Gates_n a0_Gates_s a0_Gates_g]]=>.det (IsE enc_55 3 a0_Gates_s a0_Gates_g) [.one (.bool (s77 (⟨(⟨a0_Gates_n,zad a0_Gates_g⟩:(Sl Gate))⟩:list)))]
  | _=>.no
theorem zIr:zai Try.prog 77:=⟨_,rfl,rfl,by kernel_rfl⟩
theorem zNL:Ok Try.prog 77 zDS:=zaG zK4 zIr fun args K h=>by
  unfold zDS at h
  split at h
  · rename_i a0_Gates_n a0_Gates_s a0_Gates_g
    obtain ⟨⟨rfl,a0_Gates_f,rfl⟩,hk⟩:=h
    try rw [zac a0_Gates_f] at hk
    exact ⟨(fun _ _=>[]),(fun _=>false),zIq,q77 (⟨(⟨a0_Gates_n,a0_Gates_f⟩:(Sl Gate))⟩:list) K hk⟩
  · exact h.elim
abbrev T88:Tabs:=Tabs.nil
theorem zK5:TabsOk Try.prog T88:=TabsOk.nil
abbrev G88:Ctrs:=csm T88 (fun _ _=>[]) (fun _=>false)
def zIs:Ann:=⟨3,[(0,zK [] []),(1,zK [2] [])],
 [],
 [],
 [],[]⟩
abbrev R88:=Bool
abbrev e88 (r:R88):List PA:=[.one (.bool r)]
section
variable {K:List PA→Prop} {a0_a0:list}
def s88 (a0_a0:list):Bool :=
  true
end
theorem q88 (a0_a0:list) (K:List PA→Prop) (hk:K (e88 (s88 a0_a0))):vcFun Try.prog G88 zIs 88 [.agg (zb1 a0_a0)] K :=
  zax (by kernel_rfl) hk
def zDT : List PA → COut
  | [.agg [.sl a0_Gates_n a0_Gates_s a0_Gates_g]]=>.det (IsE enc_55 3 a0_Gates_s a0_Gates_g) [.one (.bool (s88 (⟨(⟨a0_Gates_n,zad a0_Gates_g⟩:(Sl Gate))⟩:list)))]
  | _=>.no
theorem zIt:zai Try.prog 88:=⟨_,rfl,rfl,by kernel_rfl⟩
theorem zNM:Ok Try.prog 88 zDT:=zaG zK5 zIt fun args K h=>by
  unfold zDT at h
  split at h
  · rename_i a0_Gates_n a0_Gates_s a0_Gates_g
    obtain ⟨⟨rfl,a0_Gates_f,rfl⟩,hk⟩:=h
    try rw [zac a0_Gates_f] at hk
    exact ⟨(fun _ _=>[]),(fun _=>false),zIs,q88 (⟨(⟨a0_Gates_n,a0_Gates_f⟩:(Sl Gate))⟩:list) K hk⟩
  · exact h.elim
abbrev T75:Tabs:=(((((((Tabs.nil.addF 64 ztl).addF 65 zvv).addF 66 zvw).addF 67 zof).addF 76 zDR).addF 77 zDS).addF 88 zDT)
theorem zK6:TabsOk Try.prog T75:=(((((((TabsOk.nil.addF zJ3).addF zKZ).addF zK2).addF zGN).addF zNK).addF zNL).addF zNM)
abbrev G75:Ctrs:=csm T75 (fun _ _=>[]) (fun _=>false)
def zDU:Ann:=⟨31,[(0,zK [0,1,4] [4]),(1,zK [0,1,4,9] [4]),(2,zK [4,5] [4]),(3,zK [1,4,6] [4,6]),(4,zK [1,4,6,13] [4,6]),(5,zK [4,5] [4]),(6,zK [4,6,18] [4,6]),(7,zK [4,5] [4]),(8,zK [4,5] [4])],
 [],
 [(3,zK [0,1,4] [4])],
 [],[]⟩
abbrev R75:=(set×Int)
abbrev e75 (r:R75):List PA:=[.agg [.sl r.1.list.Gates.len 3 (fun i=>enc_55 (r.1.list.Gates.get i)),.sl r.1.corners.len 3 (fun i=>zaf (r.1.corners.get i))],.one (.int .i64 r.2)]
@[irreducible] def z75:=ptF Try.prog G75 zDU Try.f75
section
variable {K:List PA→Prop} {zaa:(Sl Gate)}
def zpK (zaa:(Sl Gate)):(set×Int) :=
  (cond (!(s66 (s65 zaa)))
 ((⟨(⟨(⟨0,fun _=>default⟩:(Sl Gate))⟩:list),(⟨0,fun _=>default⟩:(Sl straight))⟩:set),(5:Int))
 (cond (s67 ((s65 zaa).list))
 (cond (!(s77 ((s65 zaa).list)))
 ((⟨(⟨(⟨0,fun _=>default⟩:(Sl Gate))⟩:list),(⟨0,fun _=>default⟩:(Sl straight))⟩:set),(6:Int))
 ((s65 zaa),(0:Int)))
 ((s65 zaa),(0:Int))))
def zpL (zaa:(Sl Gate)):Bool :=
  (decide ((p65 zaa=true)) &&
 (decide ((p66 (s65 zaa)=true)) &&
 (cond (!(s66 (s65 zaa)))
 true
 (decide ((p67 ((s65 zaa).list)=true)) &&
 true))))
theorem zDV (hs:zpL zaa=true) (hk:K (e75 (zpK zaa))):z75 (Wk K) [1,1] [] ⟨[(0,zS enc_55 3 zaa),(1,zP (.fn 77 [] [])),(4,zp 4 0)],[(4,.box 104 [.p (.nils),.p (.nils)])],[]⟩:=zax (by kernel_rfl) (zaw hs fun hc hs=>And.intro (And.intro (zE enc_55 3 zaa.get) hc) (zaw hs fun hc hs=>And.intro (And.intro (zE enc_55 3 ((s65 zaa).list.Gates.get)) (And.intro (zE zaf 3 ((s65 zaa).corners.get)) hc)) (zc hs hk (fun hs hk=>((wk hk (zc6 (.agg (zc6 (.nil _ _) (zc6 (.nil _ _) zhf))) (zc6 (.one (.rfl _)) zhf))):Wk K [.agg [.nils,.nils],.one (.int .i64 (5:Int))])) (fun hs hk=>(zaw hs fun hc hs=>And.intro (And.intro (zE enc_55 3 ((s65 zaa).list.Gates.get)) hc) (zt hk (fun hk=>(And.intro (zE enc_55 3 ((s65 zaa).list.Gates.get)) (zt hk (fun hk=>((wk hk (zc6 (.agg (zc6 (.nil _ _) (zc6 (.nil _ _) zhf))) (zc6 (.one (.rfl _)) zhf))):Wk K [.agg [.nils,.nils],.one (.int .i64 (6:Int))])) (fun hk=>((zeh hk):Wk K [.agg [.sl ((s65 zaa).list.Gates.len) 3 (fun i=>enc_55 ((s65 zaa).list.Gates.get i)),.sl ((s65 zaa).corners.len) 3 (fun i=>zaf ((s65 zaa).corners.get i))],.one (.int .i64 (0:Int))]))))) (fun hk=>((zeh hk):Wk K [.agg [.sl ((s65 zaa).list.Gates.len) 3 (fun i=>enc_55 ((s65 zaa).list.Gates.get i)),.sl ((s65 zaa).corners.len) 3 (fun i=>zaf ((s65 zaa).corners.get i))],.one (.int .i64 (0:Int))]))))))))
def s75 (zaa:(Sl Gate)):(set×Int) :=
  (cond (!(s64 zaa))
 ((⟨(⟨(⟨0,fun _=>default⟩:(Sl Gate))⟩:list),(⟨0,fun _=>default⟩:(Sl straight))⟩:set),(2:Int))
 (zpK zaa))
def p75 (zaa:(Sl Gate)):Bool :=
  (decide ((p64 zaa=true)) &&
 (cond (!(s64 zaa))
 true
 (zpL zaa)))
end
theorem q75 (zaa:(Sl Gate)) (K:List PA→Prop) (hs:p75 zaa=true) (hk:K (e75 (s75 zaa))):vcFun Try.prog G75 zDU 75 [.one (.sl zaa.len 3 (fun i=>enc_55 (zaa.get i))),.one (.fn 77 [] [])] (Wk K) :=
  zax (by kernel_rfl) (zaw hs fun hc hs=>And.intro (And.intro (zE enc_55 3 zaa.get) hc) (zc hs hk (fun hs hk=>((wk hk (zc6 (.agg (zc6 (.nil _ _) (zc6 (.nil _ _) zhf))) (zc6 (.one (.rfl _)) zhf))):Wk K [.agg [.nils,.nils],.one (.int .i64 (2:Int))])) (fun hs hk=>(zDV hs hk))))
abbrev zMs:Ctrs:=csm T75 (fun _ _=>[]) (fun _=>false)
def zvx:Ann:=⟨31,[(0,zK [0,1,4] [4]),(1,zK [0,1,4,9] [4]),(2,zK [4,5] [4]),(3,zK [1,4,6] [4,6]),(4,zK [1,4,6,13] [4,6]),(5,zK [4,5] [4]),(6,zK [4,6,18] [4,6]),(7,zK [4,5] [4]),(8,zK [4,5] [4])],
 [],
 [(3,zK [0,1,4] [4])],
 [],[]⟩
abbrev zNN:=(set×Int)
abbrev zMt (r:zNN):List PA:=[.agg [.sl r.1.list.Gates.len 3 (fun i=>enc_55 (r.1.list.Gates.get i)),.sl r.1.corners.len 3 (fun i=>zaf (r.1.corners.get i))],.one (.int .i64 r.2)]
@[irreducible] def z75a:=ptF Try.prog zMs zvx Try.f75
section
variable {K:List PA→Prop} {c0:Int} {zaa:(Sl Gate)}
def zmk (c0:Int) (zaa:(Sl Gate)):(set×Int) :=
  (cond (!(s66 (s65 zaa)))
 ((⟨(⟨(⟨0,fun _=>default⟩:(Sl Gate))⟩:list),(⟨0,fun _=>default⟩:(Sl straight))⟩:set),(5:Int))
 (cond (s67 ((s65 zaa).list))
 (cond (!(s76 c0 ((s65 zaa).list)))
 ((⟨(⟨(⟨0,fun _=>default⟩:(Sl Gate))⟩:list),(⟨0,fun _=>default⟩:(Sl straight))⟩:set),(6:Int))
 ((s65 zaa),(0:Int)))
 ((s65 zaa),(0:Int))))
def zml (c0:Int) (zaa:(Sl Gate)):Bool :=
  (decide ((p65 zaa=true)) &&
 (decide ((p66 (s65 zaa)=true)) &&
 (cond (!(s66 (s65 zaa)))
 true
 (decide ((p67 ((s65 zaa).list)=true)) &&
 (cond (s67 ((s65 zaa).list))
 (decide ((p76 c0 ((s65 zaa).list)=true)) &&
 true)
 true)))))
theorem zAJ (hs:zml c0 zaa=true) (hk:K (zMt (zmk c0 zaa))):z75a (Wk K) [1,1] [] ⟨[(0,zS enc_55 3 zaa),(1,zP (.fn 76 [] [.fp (zat c0) 0])),(4,zp 4 0)],[(4,.box 104 [.p (.nils),.p (.nils)])],[]⟩:=zax (by kernel_rfl) (zaw hs fun hc hs=>And.intro (And.intro (zE enc_55 3 zaa.get) hc) (zaw hs fun hc hs=>And.intro (And.intro (zE enc_55 3 ((s65 zaa).list.Gates.get)) (And.intro (zE zaf 3 ((s65 zaa).corners.get)) hc)) (zc hs hk (fun hs hk=>((wk hk (zc6 (.agg (zc6 (.nil _ _) (zc6 (.nil _ _) zhf))) (zc6 (.one (.rfl _)) zhf))):Wk K [.agg [.nils,.nils],.one (.int .i64 (5:Int))])) (fun hs hk=>(zaw hs fun hc hs=>And.intro (And.intro (zE enc_55 3 ((s65 zaa).list.Gates.get)) hc) (zc hs hk (fun hs hk=>(zaw hs fun hc hs=>And.intro (And.intro (zE enc_55 3 ((s65 zaa).list.Gates.get)) hc) (zt hk (fun hk=>((wk hk (zc6 (.agg (zc6 (.nil _ _) (zc6 (.nil _ _) zhf))) (zc6 (.one (.rfl _)) zhf))):Wk K [.agg [.nils,.nils],.one (.int .i64 (6:Int))])) (fun hk=>((zeh hk):Wk K [.agg [.sl ((s65 zaa).list.Gates.len) 3 (fun i=>enc_55 ((s65 zaa).list.Gates.get i)),.sl ((s65 zaa).corners.len) 3 (fun i=>zaf ((s65 zaa).corners.get i))],.one (.int .i64 (0:Int))]))))) (fun hs hk=>((zeh hk):Wk K [.agg [.sl ((s65 zaa).list.Gates.len) 3 (fun i=>enc_55 ((s65 zaa).list.Gates.get i)),.sl ((s65 zaa).corners.len) 3 (fun i=>zaf ((s65 zaa).corners.get i))],.one (.int .i64 (0:Int))]))))))))
def zoE (c0:Int) (zaa:(Sl Gate)):(set×Int) :=
  (cond (!(s64 zaa))
 ((⟨(⟨(⟨0,fun _=>default⟩:(Sl Gate))⟩:list),(⟨0,fun _=>default⟩:(Sl straight))⟩:set),(2:Int))
 (zmk c0 zaa))
def zDW (c0:Int) (zaa:(Sl Gate)):Bool :=
  (decide ((p64 zaa=true)) &&
 (cond (!(s64 zaa))
 true
 (zml c0 zaa)))
end
theorem zNO (c0:Int) (zaa:(Sl Gate)) (K:List PA→Prop) (hs:zDW c0 zaa=true) (hk:K (zMt (zoE c0 zaa))):vcFun Try.prog zMs zvx 75 [.one (.sl zaa.len 3 (fun i=>enc_55 (zaa.get i))),.one (.fn 76 [] [.fp (zat c0) 0])] (Wk K) :=
  zax (by kernel_rfl) (zaw hs fun hc hs=>And.intro (And.intro (zE enc_55 3 zaa.get) hc) (zc hs hk (fun hs hk=>((wk hk (zc6 (.agg (zc6 (.nil _ _) (zc6 (.nil _ _) zhf))) (zc6 (.one (.rfl _)) zhf))):Wk K [.agg [.nils,.nils],.one (.int .i64 (2:Int))])) (fun hs hk=>(zAJ hs hk))))
abbrev zMu:Ctrs:=csm T75 (fun _ _=>[]) (fun _=>false)
def zvy:Ann:=⟨31,[(0,zK [0,1,4] [4]),(1,zK [0,1,4,9] [4]),(2,zK [4,5] [4]),(3,zK [1,4,6] [4,6]),(4,zK [1,4,6,13] [4,6]),(5,zK [4,5] [4]),(6,zK [4,6,18] [4,6]),(7,zK [4,5] [4]),(8,zK [4,5] [4])],
 [],
 [(3,zK [0,1,4] [4])],
 [],[]⟩
abbrev zNP:=(set×Int)
abbrev zMv (r:zNP):List PA:=[.agg [.sl r.1.list.Gates.len 3 (fun i=>enc_55 (r.1.list.Gates.get i)),.sl r.1.corners.len 3 (fun i=>zaf (r.1.corners.get i))],.one (.int .i64 r.2)]
@[irreducible] def z75b:=ptF Try.prog zMu zvy Try.f75
section
variable {K:List PA→Prop} {zaa:(Sl Gate)}
def zmm (zaa:(Sl Gate)):(set×Int) :=
  (cond (!(s66 (s65 zaa)))
 ((⟨(⟨(⟨0,fun _=>default⟩:(Sl Gate))⟩:list),(⟨0,fun _=>default⟩:(Sl straight))⟩:set),(5:Int))
 (cond (s67 ((s65 zaa).list))
 (cond (!(s88 ((s65 zaa).list)))
 ((⟨(⟨(⟨0,fun _=>default⟩:(Sl Gate))⟩:list),(⟨0,fun _=>default⟩:(Sl straight))⟩:set),(6:Int))
 ((s65 zaa),(0:Int)))
 ((s65 zaa),(0:Int))))
def zmn (zaa:(Sl Gate)):Bool :=
  (decide ((p65 zaa=true)) &&
 (decide ((p66 (s65 zaa)=true)) &&
 (cond (!(s66 (s65 zaa)))
 true
 (decide ((p67 ((s65 zaa).list)=true)) &&
 true))))
theorem zAK (hs:zmn zaa=true) (hk:K (zMv (zmm zaa))):z75b (Wk K) [1,1] [] ⟨[(0,zS enc_55 3 zaa),(1,zP (.fn 88 [] [])),(4,zp 4 0)],[(4,.box 104 [.p (.nils),.p (.nils)])],[]⟩:=zax (by kernel_rfl) (zaw hs fun hc hs=>And.intro (And.intro (zE enc_55 3 zaa.get) hc) (zaw hs fun hc hs=>And.intro (And.intro (zE enc_55 3 ((s65 zaa).list.Gates.get)) (And.intro (zE zaf 3 ((s65 zaa).corners.get)) hc)) (zc hs hk (fun hs hk=>((wk hk (zc6 (.agg (zc6 (.nil _ _) (zc6 (.nil _ _) zhf))) (zc6 (.one (.rfl _)) zhf))):Wk K [.agg [.nils,.nils],.one (.int .i64 (5:Int))])) (fun hs hk=>(zaw hs fun hc hs=>And.intro (And.intro (zE enc_55 3 ((s65 zaa).list.Gates.get)) hc) (zt hk (fun hk=>(And.intro (zE enc_55 3 ((s65 zaa).list.Gates.get)) (zt hk (fun hk=>((wk hk (zc6 (.agg (zc6 (.nil _ _) (zc6 (.nil _ _) zhf))) (zc6 (.one (.rfl _)) zhf))):Wk K [.agg [.nils,.nils],.one (.int .i64 (6:Int))])) (fun hk=>((zeh hk):Wk K [.agg [.sl ((s65 zaa).list.Gates.len) 3 (fun i=>enc_55 ((s65 zaa).list.Gates.get i)),.sl ((s65 zaa).corners.len) 3 (fun i=>zaf ((s65 zaa).corners.get i))],.one (.int .i64 (0:Int))]))))) (fun hk=>((zeh hk):Wk K [.agg [.sl ((s65 zaa).list.Gates.len) 3 (fun i=>enc_55 ((s65 zaa).list.Gates.get i)),.sl ((s65 zaa).corners.len) 3 (fun i=>zaf ((s65 zaa).corners.get i))],.one (.int .i64 (0:Int))]))))))))
def zoF (zaa:(Sl Gate)):(set×Int) :=
  (cond (!(s64 zaa))
 ((⟨(⟨(⟨0,fun _=>default⟩:(Sl Gate))⟩:list),(⟨0,fun _=>default⟩:(Sl straight))⟩:set),(2:Int))
 (zmm zaa))
def zDX (zaa:(Sl Gate)):Bool :=
  (decide ((p64 zaa=true)) &&
 (cond (!(s64 zaa))
 true
 (zmn zaa)))
end
theorem zNQ (zaa:(Sl Gate)) (K:List PA→Prop) (hs:zDX zaa=true) (hk:K (zMv (zoF zaa))):vcFun Try.prog zMu zvy 75 [.one (.sl zaa.len 3 (fun i=>enc_55 (zaa.get i))),.one (.fn 88 [] [])] (Wk K) :=
  zax (by kernel_rfl) (zaw hs fun hc hs=>And.intro (And.intro (zE enc_55 3 zaa.get) hc) (zc hs hk (fun hs hk=>((wk hk (zc6 (.agg (zc6 (.nil _ _) (zc6 (.nil _ _) zhf))) (zc6 (.one (.rfl _)) zhf))):Wk K [.agg [.nils,.nils],.one (.int .i64 (2:Int))])) (fun hs hk=>(zAK hs hk))))
def zto : List PA → COut
  | [.one (.sl a0_n a0_s a0_g),.one (.fn 77 [] [])]=>.det (IsE enc_55 3 a0_s a0_g∧p75 (⟨a0_n,zad a0_g⟩:(Sl Gate))=true) [.agg [.sl (((s75 (⟨a0_n,zad a0_g⟩:(Sl Gate))).1).list.Gates.len) 3 (fun i=>enc_55 (((s75 (⟨a0_n,zad a0_g⟩:(Sl Gate))).1).list.Gates.get i)),.sl (((s75 (⟨a0_n,zad a0_g⟩:(Sl Gate))).1).corners.len) 3 (fun i=>zaf (((s75 (⟨a0_n,zad a0_g⟩:(Sl Gate))).1).corners.get i))],.one (.int .i64 ((s75 (⟨a0_n,zad a0_g⟩:(Sl Gate))).2))]
  | [.one (.sl a0_n a0_s a0_g),.one (.fn 76 [] [.fp [.int .i64 c0] 0])]=>.det (IsE enc_55 3 a0_s a0_g∧zDW c0 (⟨a0_n,zad a0_g⟩:(Sl Gate))=true) [.agg [.sl (((zoE c0 (⟨a0_n,zad a0_g⟩:(Sl Gate))).1).list.Gates.len) 3 (fun i=>enc_55 (((zoE c0 (⟨a0_n,zad a0_g⟩:(Sl Gate))).1).list.Gates.get i)),.sl (((zoE c0 (⟨a0_n,zad a0_g⟩:(Sl Gate))).1).corners.len) 3 (fun i=>zaf (((zoE c0 (⟨a0_n,zad a0_g⟩:(Sl Gate))).1).corners.get i))],.one (.int .i64 ((zoE c0 (⟨a0_n,zad a0_g⟩:(Sl Gate))).2))]
  | [.one (.sl a0_n a0_s a0_g),.one (.fn 88 [] [])]=>.det (IsE enc_55 3 a0_s a0_g∧zDX (⟨a0_n,zad a0_g⟩:(Sl Gate))=true) [.agg [.sl (((zoF (⟨a0_n,zad a0_g⟩:(Sl Gate))).1).list.Gates.len) 3 (fun i=>enc_55 (((zoF (⟨a0_n,zad a0_g⟩:(Sl Gate))).1).list.Gates.get i)),.sl (((zoF (⟨a0_n,zad a0_g⟩:(Sl Gate))).1).corners.len) 3 (fun i=>zaf (((zoF (⟨a0_n,zad a0_g⟩:(Sl Gate))).1).corners.get i))],.one (.int .i64 ((zoF (⟨a0_n,zad a0_g⟩:(Sl Gate))).2))]
  | _=>.no
theorem zIu:zai Try.prog 75:=⟨_,rfl,rfl,by kernel_rfl⟩
theorem zK7:Ok Try.prog 75 zto:=zhg zK6 zIu fun args K h=>by
  unfold zto at h
  split at h
  · rename_i a0_n a0_s a0_g
    obtain ⟨⟨⟨rfl,a0_f,rfl⟩,hs⟩,hk⟩:=h
    try rw [zac a0_f] at hs
    try rw [zac a0_f] at hk
    exact ⟨_,ze8 zfV _,(fun _ _=>[]),(fun _=>false),zDU,q75 (⟨a0_n,a0_f⟩:(Sl Gate)) K hs hk⟩
  · rename_i a0_n a0_s a0_g c0
    obtain ⟨⟨⟨rfl,a0_f,rfl⟩,hs⟩,hk⟩:=h
    try rw [zac a0_f] at hs
    try rw [zac a0_f] at hk
    exact ⟨_,ze8 zfV _,(fun _ _=>[]),(fun _=>false),zvx,zNO c0 (⟨a0_n,a0_f⟩:(Sl Gate)) K hs hk⟩
  · rename_i a0_n a0_s a0_g
    obtain ⟨⟨⟨rfl,a0_f,rfl⟩,hs⟩,hk⟩:=h
    try rw [zac a0_f] at hs
    try rw [zac a0_f] at hk
    exact ⟨_,ze8 zfV _,(fun _ _=>[]),(fun _=>false),zvy,zNQ (⟨a0_n,a0_f⟩:(Sl Gate)) K hs hk⟩
  · exact h.elim
abbrev T30:Tabs:=(((Tabs.nil.addF 68 zvo).addF 74 zpl).addF 75 zto)
theorem zK8:TabsOk Try.prog T30:=(((TabsOk.nil.addF zKQ).addF zHy).addF zK7)
abbrev G30:Ctrs:=csm T30 (fun _ _=>[]) (fun _=>false)
def zDY:Ann:=⟨35,[(0,zK [0,3,4,5] [3,4,5]),(1,zK [0,3,4,5,13] [3,4,5]),(2,zK [4,5,6] [4,5]),(3,zK [3,4,5,7,8] [3,4,5,7]),(4,zK [3,4,5,7,8,23] [3,4,5,7]),(5,zK [4,5,6] [4,5]),(6,zK [4,5,9,10] [4,5,9,10]),(7,zK [4,5,6] [4,5])],
 [],
 [(2,zK [0,3,4,5,13] [3,4,5]),(3,zK [0,3,4,5] [3,4,5]),(4,zK [3,4,5,7,8] [3,4,5,7]),(6,zK [3,4,5,7] [3,4,5,7]),(7,zK [4,5,9,10] [4,5,9,10])],
 [],[]⟩
abbrev R30:=(Frac×Frac×Int)
abbrev e30 (r:R30):List PA:=[.agg [.int .i64 r.1.Num,.int .i64 r.1.Den],.agg [.int .i64 r.2.1.Num,.int .i64 r.2.1.Den],.one (.int .i64 r.2.2)]
@[irreducible] def z30:=ptF Try.prog G30 zDY Try.f30
section
variable {K:List PA→Prop} {zaa:(Sl Gate)} {z:Int} {zpM:Bool} {ev2:Int} {zfg:(Sl Gate)} {zfh:(Sl straight)} {zjv:Nat→List PV} {zjw:Nat→List PV} {zcy:(Sl Gate)} {zdE:(Sl straight)} {zjx:Nat→List PV} {zjy:Nat→List PV} {zmo:Int} {zmp:Int} {ziu:Int} {ziv:Int}
def zpN (zmo:Int) (zmp:Int) (ziu:Int) (ziv:Int):(Frac×Frac×Int) :=
  ((⟨zmo,zmp⟩:Frac),(⟨ziu,ziv⟩:Frac),(0:Int))
theorem zDZ (hk:K (e30 (zpN zmo zmp ziu ziv))):z30 K [1,1,1,1,1] [] ⟨[(4,zp 4 0),(5,zp 5 0),(9,zp 9 0),(10,zp 10 0)],[(4,.box 25 (zm (zae (⟨(0:Int),(0:Int)⟩:Frac)))),(5,.box 25 (zm (zae (⟨(0:Int),(0:Int)⟩:Frac)))),(9,.box 25 (zm (zae (⟨zmo,zmp⟩:Frac)))),(10,.box 25 (zm (zae (⟨ziu,ziv⟩:Frac))))],[]⟩:=zax (by kernel_rfl) hk
def zpO (z:Int) (zcy:(Sl Gate)) (zdE:(Sl straight)):(Frac×Frac×Int) :=
  (zpN (((s68 (⟨(⟨zcy⟩:list),zdE⟩:set) z).1).Num) (((s68 (⟨(⟨zcy⟩:list),zdE⟩:set) z).1).Den) (((s68 (⟨(⟨zcy⟩:list),zdE⟩:set) z).2).Num) (((s68 (⟨(⟨zcy⟩:list),zdE⟩:set) z).2).Den))
def zpP (z:Int) (zcy:(Sl Gate)) (zdE:(Sl straight)):Bool :=
  (decide ((p68 (⟨(⟨zcy⟩:list),zdE⟩:set) z=true)) &&
 true)
theorem zD0 (hs:zpP z zcy zdE=true) (hk:K (e30 (zpO z zcy zdE))) (zpQ:zjx=zg enc_55 zcy) (zpR:zjy=zg zaf zdE):z30 K [1,1,1,1] [] ⟨[(3,zp 3 0),(4,zp 4 0),(5,zp 5 0),(7,zp 7 0)],[(3,.fbox [.int .i64 z]),(4,.box 25 (zm (zae (⟨(0:Int),(0:Int)⟩:Frac)))),(5,.box 25 (zm (zae (⟨(0:Int),(0:Int)⟩:Frac)))),(7,.box 104 [.p (.sl zcy.len 3 zjx),.p (.sl zdE.len 3 zjy)])],[]⟩:=by subst zpQ;subst zpR;exact zax (by kernel_rfl) (zaw hs fun hc hs=>And.intro (And.intro (zE enc_55 3 zcy.get) (And.intro (zE zaf 3 zdE.get) hc)) (zDZ hk))
def zmq (z:Int) (ev2:Int) (zfg:(Sl Gate)) (zfh:(Sl straight)):(Frac×Frac×Int) :=
  (cond (ev2 != (0:Int))
 ((⟨(0:Int),(0:Int)⟩:Frac),(⟨(0:Int),(0:Int)⟩:Frac),ev2)
 (zpO z zfg zfh))
def zmr (z:Int) (ev2:Int) (zfg:(Sl Gate)) (zfh:(Sl straight)):Bool :=
  (cond (ev2 != (0:Int))
 true
 (zpP z zfg zfh))
theorem zD1 (hs:zmr z ev2 zfg zfh=true) (hk:K (e30 (zmq z ev2 zfg zfh))) (zpS:zjv=zg enc_55 zfg) (zpT:zjw=zg zaf zfh):z30 K [1,1,1] [] ⟨[(3,zp 3 0),(4,zp 4 0),(5,zp 5 0),(7,zp 7 0),(8,zI ev2)],[(3,.fbox [.int .i64 z]),(4,.box 25 (zm (zae (⟨(0:Int),(0:Int)⟩:Frac)))),(5,.box 25 (zm (zae (⟨(0:Int),(0:Int)⟩:Frac)))),(7,.box 104 [.p (.sl zfg.len 3 zjv),.p (.sl zfh.len 3 zjw)])],[]⟩:=by subst zpS;subst zpT;exact zax (by kernel_rfl) (zc hs hk (fun hs hk=>hk) (fun hs hk=>(zD0 hs hk rfl rfl)))
def zpU (zaa:(Sl Gate)) (z:Int):(Frac×Frac×Int) :=
  (zmq z ((zoE z zaa).2) (((zoE z zaa).1).list.Gates) (((zoE z zaa).1).corners))
def zpV (zaa:(Sl Gate)) (z:Int):Bool :=
  (decide ((zDW z zaa=true)) &&
 (zmr z ((zoE z zaa).2) (((zoE z zaa).1).list.Gates) (((zoE z zaa).1).corners)))
theorem zD2 (hs:zpV zaa z=true) (hk:K (e30 (zpU zaa z))):z30 K [1,1] [] ⟨[(0,zS enc_55 3 zaa),(3,zp 3 0),(4,zp 4 0),(5,zp 5 0)],[(3,.box 3 [zi z]),(4,.box 25 (zm (zae (⟨(0:Int),(0:Int)⟩:Frac)))),(5,.box 25 (zm (zae (⟨(0:Int),(0:Int)⟩:Frac))))],[]⟩:=zax (by kernel_rfl) (zaw hs fun hc hs=>And.intro (And.intro (zE enc_55 3 zaa.get) hc) (zD1 hs hk rfl rfl))
def zpW (zaa:(Sl Gate)) (z:Int) (zpM:Bool):(Frac×Frac×Int) :=
  (cond zpM
 ((⟨(0:Int),(0:Int)⟩:Frac),(⟨(0:Int),(0:Int)⟩:Frac),(2:Int))
 (zpU zaa z))
def zpX (zaa:(Sl Gate)) (z:Int) (zpM:Bool):Bool :=
  (cond zpM
 true
 (zpV zaa z))
theorem zD3 (hs:zpX zaa z zpM=true) (hk:K (e30 (zpW zaa z zpM))):z30 K [1,0,1] [] ⟨[(0,zS enc_55 3 zaa),(3,zp 3 0),(4,zp 4 0),(5,zp 5 0),(13,zB zpM)],[(3,.box 3 [zi z]),(4,.box 25 (zm (zae (⟨(0:Int),(0:Int)⟩:Frac)))),(5,.box 25 (zm (zae (⟨(0:Int),(0:Int)⟩:Frac))))],[]⟩:=zax (by kernel_rfl) (zc hs hk (fun hs hk=>hk) (fun hs hk=>(zD2 hs hk)))
def s30 (zaa:(Sl Gate)) (z:Int):(Frac×Frac×Int) :=
  (zpW zaa z (!(s74 z (-100000:Int) (200000:Int))))
def p30 (zaa:(Sl Gate)) (z:Int):Bool :=
  (zpX zaa z (!(s74 z (-100000:Int) (200000:Int))))
end
theorem q30 (zaa:(Sl Gate)) (z:Int) (K:List PA→Prop) (hs:p30 zaa z=true) (hk:K (e30 (s30 zaa z))):vcFun Try.prog G30 zDY 30 [.one (.sl zaa.len 3 (fun i=>enc_55 (zaa.get i))),.one (.int .i64 z)] K :=
  zax (by kernel_rfl) (zD3 hs hk)
def zAL : List PA → COut
  | [.one (.sl a0_n a0_s a0_g),.one (.int .i64 a1)]=>.det (IsE enc_55 3 a0_s a0_g∧p30 (⟨a0_n,zad a0_g⟩:(Sl Gate)) a1=true) [.agg [.int .i64 (((s30 (⟨a0_n,zad a0_g⟩:(Sl Gate)) a1).1).Num),.int .i64 (((s30 (⟨a0_n,zad a0_g⟩:(Sl Gate)) a1).1).Den)],.agg [.int .i64 (((s30 (⟨a0_n,zad a0_g⟩:(Sl Gate)) a1).2.1).Num),.int .i64 (((s30 (⟨a0_n,zad a0_g⟩:(Sl Gate)) a1).2.1).Den)],.one (.int .i64 ((s30 (⟨a0_n,zad a0_g⟩:(Sl Gate)) a1).2.2))]
  | _=>.no
theorem zIv:zai Try.prog 30:=⟨_,rfl,rfl,by kernel_rfl⟩
theorem zMw:Ok Try.prog 30 zAL:=zaG zK8 zIv fun args K h=>by
  unfold zAL at h
  split at h
  · rename_i a0_n a0_s a0_g a1
    obtain ⟨⟨⟨rfl,a0_f,rfl⟩,hs⟩,hk⟩:=h
    try rw [zac a0_f] at hs
    try rw [zac a0_f] at hk
    exact ⟨(fun _ _=>[]),(fun _=>false),zDY,q30 (⟨a0_n,a0_f⟩:(Sl Gate)) a1 K hs hk⟩
  · exact h.elim
abbrev T19:Tabs:=((((((Tabs.nil.addF 64 ztl).addF 65 zvv).addF 66 zvw).addF 67 zof).addF 68 zvo).addF 69 zpr)
theorem zK9:TabsOk Try.prog T19:=((((((TabsOk.nil.addF zJ3).addF zKZ).addF zK2).addF zGN).addF zKQ).addF zH1)
abbrev G19:Ctrs:=csm T19 (fun _ _=>[]) (fun _=>false)
def zD4:Ann:=⟨124,[(0,zK [0,1,2,3,9,10] [9,10]),(1,zK [0,1,2,3,9,10,12] [9,10,12]),(2,zK [0,1,2,3,9,10,12,44] [9,10,12]),(3,zK [8,9,10,11] [9,10]),(4,zK [2,3,9,10,12,13,14] [9,10,12,13,14]),(5,zK [2,3,9,10,12,13,14,58] [9,10,12,13,14]),(6,zK [8,9,10,11] [9,10]),(7,zK [2,3,9,10,12,13,14,68] [9,10,12,13,14]),(8,zK [8,9,10,11] [9,10]),(9,zK [2,3,9,10,12,13,14,15,16] [9,10,12,13,14,15,16]),(10,zK [2,3,9,10,12,13,14,15,16,17] [9,10,12,13,14,15,16]),(11,zK [2,3,9,10,12,13,14,15,16,17,76,77] [9,10,12,13,14,15,16]),(12,zK [2,3,9,10,12,13,14,15,16,17,76,77,78] [9,10,12,13,14,15,16]),(13,zK [2,3,9,10,12,13,14,15,16,17,18,76,77] [9,10,12,13,14,15,16]),(14,zK [2,3,9,10,12,13,14,15,16,17,18,19,20,76,77] [9,10,12,13,14,15,16,19,20]),(15,zK [2,3,9,10,12,13,14,15,16,17,18,19,20,21,22,76,77] [9,10,12,13,14,15,16,19,20,21,22]),(16,zK [2,3,9,10,12,13,14,15,16,17,18,19,20,21,22,76,77] [9,10,12,13,14,15,16,19,20,21,22]),(17,zK [2,3,9,10,12,13,14,15,16,17,18,20,21,22,76,77,101] [9,10,12,13,14,15,16,20,21,22]),(18,zK [2,3,9,10,12,13,14,15,16,17,18,20,22,76,77] [9,10,12,13,14,15,16,20,22]),(19,zK [2,3,9,10,12,13,14,15,16,17,18,22,76,77,106] [9,10,12,13,14,15,16,22]),(20,zK [2,3,9,10,12,13,14,15,16,17,18,76,77] [9,10,12,13,14,15,16]),(21,zK [2,3,9,10,12,13,14,15,16,17,18,76,77,111] [9,10,12,13,14,15,16]),(22,zK [3,9,10,12,15,16,17] [9,10,12,15,16]),(23,zK [2,3,9,10,12,13,14,15,16,17,76,77] [9,10,12,13,14,15,16]),(24,zK [9,10,12,15,16,17,118] [9,10,12,15,16]),(25,zK [8,9,10,11] [9,10]),(26,zK [8,9,10,11] [9,10])],
 [(12,zK [2,3,9,10,12,13,14,15,16,17,76,77] [9,10,12,13,14,15,16])],
 [(3,zK [0,1,2,3,9,10,12,44] [9,10,12]),(4,zK [0,1,2,3,9,10,12] [9,10,12]),(5,zK [2,3,9,10,12,13,14] [9,10,12,13,14]),(6,zK [2,3,9,10,12,13,14,58] [9,10,12,13,14]),(7,zK [2,3,9,10,12,13,14] [9,10,12,13,14]),(8,zK [2,3,9,10,12,13,14,68] [9,10,12,13,14]),(9,zK [2,3,9,10,12,13,14] [9,10,12,13,14]),(15,zK [2,3,9,10,12,13,14,15,16,17,18,19,20,76,77] [9,10,12,13,14,15,16,19,20]),(24,zK [3,9,10,12,15,16,17] [9,10,12,15,16]),(16,zK [2,3,9,10,12,13,14,15,16,17,18,19,20,21,22,76,77] [9,10,12,13,14,15,16,19,20,21,22]),(18,zK [2,3,9,10,12,13,14,15,16,17,18,20,21,22,76,77,101] [9,10,12,13,14,15,16,20,21,22]),(19,zK [2,3,9,10,12,13,14,15,16,17,18,20,22,76,77] [9,10,12,13,14,15,16,20,22]),(20,zK [2,3,9,10,12,13,14,15,16,17,18,22,76,77,106] [9,10,12,13,14,15,16,22]),(22,zK [2,3,9,10,12,13,14,15,16,17,18,76,77,111] [9,10,12,13,14,15,16])],
 [],[]⟩
abbrev R19:=(Int×Frac×Frac×Int)
abbrev e19 (r:R19):List PA:=[.one (.int .i64 r.1),.agg [.int .i64 r.2.1.Num,.int .i64 r.2.1.Den],.agg [.int .i64 r.2.2.1.Num,.int .i64 r.2.2.1.Den],.one (.int .i64 r.2.2.2)]
@[irreducible] def z19:=ptF Try.prog G19 zD4 Try.f19
def zB2 (low:Int) (high:Int) (zal:(Sl Gate)) (zar:(Sl straight)) (zam:(Sl Gate)) (zas:(Sl straight)) (zcr:Int) (zbq:Int) (zbr:Int) (zcE:Int) (zcF:Int):St:=⟨[(2,zI low),(3,zI high),(9,zp 9 0),(10,zp 10 0),(12,zp 12 0),(13,zp 13 0),(14,zp 14 0),(15,zp 15 0),(16,zp 16 0),(17,zI (w64 (high+(1:Int)))),(76,zI (w64 ((w64 (high - low))+(1:Int)))),(77,zI zcr)],[(9,.box 25 (zm (zae (⟨(0:Int),(0:Int)⟩:Frac)))),(10,.box 25 (zm (zae (⟨(0:Int),(0:Int)⟩:Frac)))),(12,.box 25 (zm (zae (⟨(0:Int),(0:Int)⟩:Frac)))),(13,.box 104 (zm (zaU (⟨(⟨zal⟩:list),zar⟩:set)))),(14,.box 104 (zm (zaU (⟨(⟨zam⟩:list),zas⟩:set)))),(15,.box 25 (zm (zae (⟨zbq,zbr⟩:Frac)))),(16,.box 25 (zm (zae (⟨zcE,zcF⟩:Frac))))],[]⟩
abbrev zom (K:List PA→Prop) (low:Int) (high:Int) (zal:(Sl Gate)) (zar:(Sl straight)) (zam:(Sl Gate)) (zas:(Sl straight)) (X:St→Prop) (P:Int→Int→Int→Int→Int→Bool) (S:Int→Int→Int→Int→Int→(Int×Frac×Frac×Int)):Prop:=∀ ⦃zcr:Int⦄ ⦃zbq:Int⦄ ⦃zbr:Int⦄ ⦃zcE:Int⦄ ⦃zcF:Int⦄,P zcr zbq zbr zcE zcF=true→K (e19 (S zcr zbq zbr zcE zcF))→X (zB2 low high zal zar zam zas zcr zbq zbr zcE zcF)
section
variable {K:List PA→Prop} {a:(Sl Gate)} {b:(Sl Gate)} {low:Int} {high:Int} {zpY:Bool} {zal:(Sl Gate)} {zar:(Sl straight)} {zam:(Sl Gate)} {zas:(Sl straight)} {zvz:Nat→List PV} {zvA:Nat→List PV} {zvB:Nat→List PV} {zvC:Nat→List PV} {zpZ:Bool} {zp0:Bool} {zcr:Int} {zbq:Int} {zbr:Int} {zcE:Int} {zcF:Int} {X7:St→Prop} {P7:Int→Int→Int→Int→Int→Bool} {S7:Int→Int→Int→Int→Int→(Int×Frac×Frac×Int)} {iv8:Int} {zp1:Int} {zeK:Int} {zeL:Int} {zjz:Int} {zjA:Int} {zdF:Int} {zdG:Int} {zbC:Int} {zbD:Int} {zIw:Int} {ziw:Int} {zix:Int} {zsf:Int} {zsg:Int} {zg5:Int} {zjB:Int} {zfi:Int} {zfj:Int} {zjC:Int} {zjD:Int} {zdb:Int} {zdc:Int} {zbj:Int} {zbk:Int} {zAM:Int} {zgT:Int} {zgf:Bool} {zD5:Int} {zjE:Int} {zaC:Int} {zaD:Int} {zAN:Int} {zgU:Int} {zgg:Bool} {zGQ:Int} {zjF:Int} {zgh:Bool} {zfk:Int} {zfl:Int}
def zp2 (high:Int) (zIw:Int) (ziw:Int) (zix:Int) (zsf:Int) (zsg:Int):(Int×Frac×Frac×Int) :=
  (cond (decide (zIw > high))
 ((0:Int),(⟨(0:Int),(0:Int)⟩:Frac),(⟨(0:Int),(0:Int)⟩:Frac),(5:Int))
 (zIw,(⟨ziw,zix⟩:Frac),(⟨zsf,zsg⟩:Frac),(0:Int)))
theorem zvD (hk:K (e19 (zp2 high zIw ziw zix zsf zsg))):z19 K [1,0,1,1,1,1,1,1,1,1,1] [] ⟨[(3,zI high),(9,zp 9 0),(10,zp 10 0),(12,zp 12 0),(15,zp 15 0),(16,zp 16 0),(17,zI zIw)],[(9,.box 25 (zm (zae (⟨(0:Int),(0:Int)⟩:Frac)))),(10,.box 25 (zm (zae (⟨(0:Int),(0:Int)⟩:Frac)))),(12,.box 25 (zm (zae (⟨(0:Int),(0:Int)⟩:Frac)))),(15,.box 25 (zm (zae (⟨ziw,zix⟩:Frac)))),(16,.box 25 (zm (zae (⟨zsf,zsg⟩:Frac))))],[]⟩:=zax (by kernel_rfl) (zt hk (fun hk=>hk) (fun hk=>hk))
def zms (S7:Int→Int→Int→Int→Int→(Int×Frac×Frac×Int)) (low:Int) (high:Int) (zal:(Sl Gate)) (zar:(Sl straight)) (zam:(Sl Gate)) (zas:(Sl straight)) (zaC:Int) (zaD:Int) (zGQ:Int) (zjF:Int) (zgh:Bool) (zfk:Int) (zfl:Int):(Int×Frac×Frac×Int) :=
  (cond zgh
 (zp2 high (w64 (low+zGQ)) zaC zaD zfk zfl)
 (S7 (w64 (zjF+(1:Int))) zaC zaD zfk zfl))
def zmt (P7:Int→Int→Int→Int→Int→Bool) (low:Int) (high:Int) (zal:(Sl Gate)) (zar:(Sl straight)) (zam:(Sl Gate)) (zas:(Sl straight)) (zaC:Int) (zaD:Int) (zGQ:Int) (zjF:Int) (zgh:Bool) (zfk:Int) (zfl:Int):Bool :=
  (cond zgh
 true
 (P7 (w64 (zjF+(1:Int))) zaC zaD zfk zfl))
theorem zsh (hX7:zom K low high zal zar zam zas X7 P7 S7) (hs:zmt P7 low high zal zar zam zas zaC zaD zGQ zjF zgh zfk zfl=true) (hk:K (e19 (zms S7 low high zal zar zam zas zaC zaD zGQ zjF zgh zfk zfl))):z19 K [1,0,1,1,1,1,1,1,1,1,0,1,0,0,1,1,0,0,1,1,1,1,1,1,1] [X7] ⟨[(2,zI low),(3,zI high),(9,zp 9 0),(10,zp 10 0),(12,zp 12 0),(13,zp 13 0),(14,zp 14 0),(15,zp 15 0),(16,zp 16 0),(17,zI (w64 (high+(1:Int)))),(18,zI zGQ),(76,zI (w64 ((w64 (high - low))+(1:Int)))),(77,zI zjF),(111,zB zgh)],[(9,.box 25 (zm (zae (⟨(0:Int),(0:Int)⟩:Frac)))),(10,.box 25 (zm (zae (⟨(0:Int),(0:Int)⟩:Frac)))),(12,.box 25 (zm (zae (⟨(0:Int),(0:Int)⟩:Frac)))),(13,.box 104 (zm (zaU (⟨(⟨zal⟩:list),zar⟩:set)))),(14,.box 104 (zm (zaU (⟨(⟨zam⟩:list),zas⟩:set)))),(15,.box 25 (zm (zae (⟨zaC,zaD⟩:Frac)))),(16,.box 25 (zm (zae (⟨zfk,zfl⟩:Frac))))],[]⟩:=zax (by kernel_rfl) (zc hs hk (fun hs hk=>(zvD hk)) (fun hs hk=>(hX7 hs hk)))
def zsi (S7:Int→Int→Int→Int→Int→(Int×Frac×Frac×Int)) (low:Int) (high:Int) (zal:(Sl Gate)) (zar:(Sl straight)) (zam:(Sl Gate)) (zas:(Sl straight)) (zbC:Int) (zbD:Int) (zbj:Int) (zbk:Int) (zaC:Int) (zaD:Int) (zAN:Int) (zgU:Int) (zgg:Bool):(Int×Frac×Frac×Int) :=
  (cond zgg
 (zms S7 low high zal zar zam zas zaC zaD zAN zgU (decide ((s69 (⟨zaC,zaD⟩:Frac) (⟨zbj,zbk⟩:Frac))≤(0:Int))) zbj zbk)
 (zms S7 low high zal zar zam zas zaC zaD zAN zgU (decide ((s69 (⟨zaC,zaD⟩:Frac) (⟨zbC,zbD⟩:Frac))≤(0:Int))) zbC zbD))
def zsj (P7:Int→Int→Int→Int→Int→Bool) (low:Int) (high:Int) (zal:(Sl Gate)) (zar:(Sl straight)) (zam:(Sl Gate)) (zas:(Sl straight)) (zbC:Int) (zbD:Int) (zbj:Int) (zbk:Int) (zaC:Int) (zaD:Int) (zAN:Int) (zgU:Int) (zgg:Bool):Bool :=
  (cond zgg
 (zmt P7 low high zal zar zam zas zaC zaD zAN zgU (decide ((s69 (⟨zaC,zaD⟩:Frac) (⟨zbj,zbk⟩:Frac))≤(0:Int))) zbj zbk)
 (zmt P7 low high zal zar zam zas zaC zaD zAN zgU (decide ((s69 (⟨zaC,zaD⟩:Frac) (⟨zbC,zbD⟩:Frac))≤(0:Int))) zbC zbD))
theorem zAO (hX7:zom K low high zal zar zam zas X7 P7 S7) (hs:zsj P7 low high zal zar zam zas zbC zbD zbj zbk zaC zaD zAN zgU zgg=true) (hk:K (e19 (zsi S7 low high zal zar zam zas zbC zbD zbj zbk zaC zaD zAN zgU zgg))):z19 K [1,0,1,1,1,1,1,1,1,1,0,1,0,0,1,1,0,0,1,1,1,1,1,0,1] [X7] ⟨[(2,zI low),(3,zI high),(9,zp 9 0),(10,zp 10 0),(12,zp 12 0),(13,zp 13 0),(14,zp 14 0),(15,zp 15 0),(16,zp 16 0),(17,zI (w64 (high+(1:Int)))),(18,zI zAN),(22,zp 22 0),(76,zI (w64 ((w64 (high - low))+(1:Int)))),(77,zI zgU),(106,zB zgg)],[(9,.box 25 (zm (zae (⟨(0:Int),(0:Int)⟩:Frac)))),(10,.box 25 (zm (zae (⟨(0:Int),(0:Int)⟩:Frac)))),(12,.box 25 (zm (zae (⟨(0:Int),(0:Int)⟩:Frac)))),(13,.box 104 (zm (zaU (⟨(⟨zal⟩:list),zar⟩:set)))),(14,.box 104 (zm (zaU (⟨(⟨zam⟩:list),zas⟩:set)))),(15,.box 25 (zm (zae (⟨zaC,zaD⟩:Frac)))),(16,.box 25 (zm (zae (⟨zbC,zbD⟩:Frac)))),(22,.box 25 (zm (zae (⟨zbj,zbk⟩:Frac))))],[]⟩:=zax (by kernel_rfl) (zc hs hk (fun hs hk=>(zsh hX7 hs hk)) (fun hs hk=>(zsh hX7 hs hk)))
def zmu (S7:Int→Int→Int→Int→Int→(Int×Frac×Frac×Int)) (low:Int) (high:Int) (zal:(Sl Gate)) (zar:(Sl straight)) (zam:(Sl Gate)) (zas:(Sl straight)) (zbC:Int) (zbD:Int) (zbj:Int) (zbk:Int) (zD5:Int) (zjE:Int) (zaC:Int) (zaD:Int):(Int×Frac×Frac×Int) :=
  (zsi S7 low high zal zar zam zas zbC zbD zbj zbk zaC zaD zD5 zjE (decide ((s69 (⟨zbj,zbk⟩:Frac) (⟨zbC,zbD⟩:Frac)) < (0:Int))))
def zmv (P7:Int→Int→Int→Int→Int→Bool) (low:Int) (high:Int) (zal:(Sl Gate)) (zar:(Sl straight)) (zam:(Sl Gate)) (zas:(Sl straight)) (zbC:Int) (zbD:Int) (zbj:Int) (zbk:Int) (zD5:Int) (zjE:Int) (zaC:Int) (zaD:Int):Bool :=
  (zsj P7 low high zal zar zam zas zbC zbD zbj zbk zaC zaD zD5 zjE (decide ((s69 (⟨zbj,zbk⟩:Frac) (⟨zbC,zbD⟩:Frac)) < (0:Int))))
theorem zsk (hX7:zom K low high zal zar zam zas X7 P7 S7) (hs:zmv P7 low high zal zar zam zas zbC zbD zbj zbk zD5 zjE zaC zaD=true) (hk:K (e19 (zmu S7 low high zal zar zam zas zbC zbD zbj zbk zD5 zjE zaC zaD))):z19 K [1,0,1,1,1,1,1,1,1,1,0,1,0,0,1,1,0,0,1,1,1,1,1] [X7] ⟨[(2,zI low),(3,zI high),(9,zp 9 0),(10,zp 10 0),(12,zp 12 0),(13,zp 13 0),(14,zp 14 0),(15,zp 15 0),(16,zp 16 0),(17,zI (w64 (high+(1:Int)))),(18,zI zD5),(20,zp 20 0),(22,zp 22 0),(76,zI (w64 ((w64 (high - low))+(1:Int)))),(77,zI zjE)],[(9,.box 25 (zm (zae (⟨(0:Int),(0:Int)⟩:Frac)))),(10,.box 25 (zm (zae (⟨(0:Int),(0:Int)⟩:Frac)))),(12,.box 25 (zm (zae (⟨(0:Int),(0:Int)⟩:Frac)))),(13,.box 104 (zm (zaU (⟨(⟨zal⟩:list),zar⟩:set)))),(14,.box 104 (zm (zaU (⟨(⟨zam⟩:list),zas⟩:set)))),(15,.box 25 (zm (zae (⟨zaC,zaD⟩:Frac)))),(16,.box 25 (zm (zae (⟨zbC,zbD⟩:Frac)))),(20,.box 25 (zm (zae (⟨zbC,zbD⟩:Frac)))),(22,.box 25 (zm (zae (⟨zbj,zbk⟩:Frac))))],[]⟩:=zax (by kernel_rfl) (zAO hX7 hs hk)
def zsl (S7:Int→Int→Int→Int→Int→(Int×Frac×Frac×Int)) (low:Int) (high:Int) (zal:(Sl Gate)) (zar:(Sl straight)) (zam:(Sl Gate)) (zas:(Sl straight)) (zdF:Int) (zdG:Int) (zbC:Int) (zbD:Int) (zdb:Int) (zdc:Int) (zbj:Int) (zbk:Int) (zAM:Int) (zgT:Int) (zgf:Bool):(Int×Frac×Frac×Int) :=
  (cond zgf
 (zmu S7 low high zal zar zam zas zbC zbD zbj zbk zAM zgT zdb zdc)
 (zmu S7 low high zal zar zam zas zbC zbD zbj zbk zAM zgT zdF zdG))
def zsm (P7:Int→Int→Int→Int→Int→Bool) (low:Int) (high:Int) (zal:(Sl Gate)) (zar:(Sl straight)) (zam:(Sl Gate)) (zas:(Sl straight)) (zdF:Int) (zdG:Int) (zbC:Int) (zbD:Int) (zdb:Int) (zdc:Int) (zbj:Int) (zbk:Int) (zAM:Int) (zgT:Int) (zgf:Bool):Bool :=
  (cond zgf
 (zmv P7 low high zal zar zam zas zbC zbD zbj zbk zAM zgT zdb zdc)
 (zmv P7 low high zal zar zam zas zbC zbD zbj zbk zAM zgT zdF zdG))
theorem zAP (hX7:zom K low high zal zar zam zas X7 P7 S7) (hs:zsm P7 low high zal zar zam zas zdF zdG zbC zbD zdb zdc zbj zbk zAM zgT zgf=true) (hk:K (e19 (zsl S7 low high zal zar zam zas zdF zdG zbC zbD zdb zdc zbj zbk zAM zgT zgf))):z19 K [1,0,1,1,1,1,1,1,1,1,0,1,0,0,1,1,0,0,1,1,1,1,0,1] [X7] ⟨[(2,zI low),(3,zI high),(9,zp 9 0),(10,zp 10 0),(12,zp 12 0),(13,zp 13 0),(14,zp 14 0),(15,zp 15 0),(16,zp 16 0),(17,zI (w64 (high+(1:Int)))),(18,zI zAM),(20,zp 20 0),(21,zp 21 0),(22,zp 22 0),(76,zI (w64 ((w64 (high - low))+(1:Int)))),(77,zI zgT),(101,zB zgf)],[(9,.box 25 (zm (zae (⟨(0:Int),(0:Int)⟩:Frac)))),(10,.box 25 (zm (zae (⟨(0:Int),(0:Int)⟩:Frac)))),(12,.box 25 (zm (zae (⟨(0:Int),(0:Int)⟩:Frac)))),(13,.box 104 (zm (zaU (⟨(⟨zal⟩:list),zar⟩:set)))),(14,.box 104 (zm (zaU (⟨(⟨zam⟩:list),zas⟩:set)))),(15,.box 25 (zm (zae (⟨zdF,zdG⟩:Frac)))),(16,.box 25 (zm (zae (⟨zbC,zbD⟩:Frac)))),(20,.box 25 (zm (zae (⟨zbC,zbD⟩:Frac)))),(21,.box 25 (zm (zae (⟨zdb,zdc⟩:Frac)))),(22,.box 25 (zm (zae (⟨zbj,zbk⟩:Frac))))],[]⟩:=zax (by kernel_rfl) (zc hs hk (fun hs hk=>(zsk hX7 hs hk)) (fun hs hk=>(zsk hX7 hs hk)))
def zsn (S7:Int→Int→Int→Int→Int→(Int×Frac×Frac×Int)) (low:Int) (high:Int) (zal:(Sl Gate)) (zar:(Sl straight)) (zam:(Sl Gate)) (zas:(Sl straight)) (zdF:Int) (zdG:Int) (zbC:Int) (zbD:Int) (zg5:Int) (zjB:Int) (zfi:Int) (zfj:Int) (zjC:Int) (zjD:Int) (zdb:Int) (zdc:Int) (zbj:Int) (zbk:Int):(Int×Frac×Frac×Int) :=
  (zsl S7 low high zal zar zam zas zdF zdG zbC zbD zdb zdc zbj zbk zg5 zjB (decide ((s69 (⟨zdb,zdc⟩:Frac) (⟨zdF,zdG⟩:Frac)) > (0:Int))))
def zso (P7:Int→Int→Int→Int→Int→Bool) (low:Int) (high:Int) (zal:(Sl Gate)) (zar:(Sl straight)) (zam:(Sl Gate)) (zas:(Sl straight)) (zdF:Int) (zdG:Int) (zbC:Int) (zbD:Int) (zg5:Int) (zjB:Int) (zfi:Int) (zfj:Int) (zjC:Int) (zjD:Int) (zdb:Int) (zdc:Int) (zbj:Int) (zbk:Int):Bool :=
  (zsm P7 low high zal zar zam zas zdF zdG zbC zbD zdb zdc zbj zbk zg5 zjB (decide ((s69 (⟨zdb,zdc⟩:Frac) (⟨zdF,zdG⟩:Frac)) > (0:Int))))
theorem zAQ (hX7:zom K low high zal zar zam zas X7 P7 S7) (hs:zso P7 low high zal zar zam zas zdF zdG zbC zbD zg5 zjB zfi zfj zjC zjD zdb zdc zbj zbk=true) (hk:K (e19 (zsn S7 low high zal zar zam zas zdF zdG zbC zbD zg5 zjB zfi zfj zjC zjD zdb zdc zbj zbk))):z19 K [1,0,1,1,1,1,1,1,1,1,0,1,0,0,1,1,0,0,1,1,1] [X7] ⟨[(2,zI low),(3,zI high),(9,zp 9 0),(10,zp 10 0),(12,zp 12 0),(13,zp 13 0),(14,zp 14 0),(15,zp 15 0),(16,zp 16 0),(17,zI (w64 (high+(1:Int)))),(18,zI zg5),(19,zp 19 0),(20,zp 20 0),(21,zp 21 0),(22,zp 22 0),(76,zI (w64 ((w64 (high - low))+(1:Int)))),(77,zI zjB)],[(9,.box 25 (zm (zae (⟨(0:Int),(0:Int)⟩:Frac)))),(10,.box 25 (zm (zae (⟨(0:Int),(0:Int)⟩:Frac)))),(12,.box 25 (zm (zae (⟨(0:Int),(0:Int)⟩:Frac)))),(13,.box 104 (zm (zaU (⟨(⟨zal⟩:list),zar⟩:set)))),(14,.box 104 (zm (zaU (⟨(⟨zam⟩:list),zas⟩:set)))),(15,.box 25 (zm (zae (⟨zfi,zfj⟩:Frac)))),(16,.box 25 (zm (zae (⟨zjC,zjD⟩:Frac)))),(19,.box 25 (zm (zae (⟨zdF,zdG⟩:Frac)))),(20,.box 25 (zm (zae (⟨zbC,zbD⟩:Frac)))),(21,.box 25 (zm (zae (⟨zdb,zdc⟩:Frac)))),(22,.box 25 (zm (zae (⟨zbj,zbk⟩:Frac))))],[]⟩:=zax (by kernel_rfl) (zAP hX7 hs hk)
def zvE (S7:Int→Int→Int→Int→Int→(Int×Frac×Frac×Int)) (low:Int) (high:Int) (zal:(Sl Gate)) (zar:(Sl straight)) (zam:(Sl Gate)) (zas:(Sl straight)) (iv8:Int) (zp1:Int) (zeK:Int) (zeL:Int) (zjz:Int) (zjA:Int) (zdF:Int) (zdG:Int) (zbC:Int) (zbD:Int):(Int×Frac×Frac×Int) :=
  (zsn S7 low high zal zar zam zas zdF zdG zbC zbD iv8 zp1 zeK zeL zjz zjA (((s68 (⟨(⟨zam⟩:list),zas⟩:set) (w64 (low+iv8))).1).Num) (((s68 (⟨(⟨zam⟩:list),zas⟩:set) (w64 (low+iv8))).1).Den) (((s68 (⟨(⟨zam⟩:list),zas⟩:set) (w64 (low+iv8))).2).Num) (((s68 (⟨(⟨zam⟩:list),zas⟩:set) (w64 (low+iv8))).2).Den))
def zvF (P7:Int→Int→Int→Int→Int→Bool) (low:Int) (high:Int) (zal:(Sl Gate)) (zar:(Sl straight)) (zam:(Sl Gate)) (zas:(Sl straight)) (iv8:Int) (zp1:Int) (zeK:Int) (zeL:Int) (zjz:Int) (zjA:Int) (zdF:Int) (zdG:Int) (zbC:Int) (zbD:Int):Bool :=
  (decide ((p68 (⟨(⟨zam⟩:list),zas⟩:set) (w64 (low+iv8))=true)) &&
 (zso P7 low high zal zar zam zas zdF zdG zbC zbD iv8 zp1 zeK zeL zjz zjA (((s68 (⟨(⟨zam⟩:list),zas⟩:set) (w64 (low+iv8))).1).Num) (((s68 (⟨(⟨zam⟩:list),zas⟩:set) (w64 (low+iv8))).1).Den) (((s68 (⟨(⟨zam⟩:list),zas⟩:set) (w64 (low+iv8))).2).Num) (((s68 (⟨(⟨zam⟩:list),zas⟩:set) (w64 (low+iv8))).2).Den)))
theorem zD6 (hX7:zom K low high zal zar zam zas X7 P7 S7) (hs:zvF P7 low high zal zar zam zas iv8 zp1 zeK zeL zjz zjA zdF zdG zbC zbD=true) (hk:K (e19 (zvE S7 low high zal zar zam zas iv8 zp1 zeK zeL zjz zjA zdF zdG zbC zbD))):z19 K [1,0,1,1,1,1,1,1,1,1,0,1,0,0,1,1,0,0,1,1] [X7] ⟨[(2,zI low),(3,zI high),(9,zp 9 0),(10,zp 10 0),(12,zp 12 0),(13,zp 13 0),(14,zp 14 0),(15,zp 15 0),(16,zp 16 0),(17,zI (w64 (high+(1:Int)))),(18,zI iv8),(19,zp 19 0),(20,zp 20 0),(76,zI (w64 ((w64 (high - low))+(1:Int)))),(77,zI zp1)],[(9,.box 25 (zm (zae (⟨(0:Int),(0:Int)⟩:Frac)))),(10,.box 25 (zm (zae (⟨(0:Int),(0:Int)⟩:Frac)))),(12,.box 25 (zm (zae (⟨(0:Int),(0:Int)⟩:Frac)))),(13,.box 104 (zm (zaU (⟨(⟨zal⟩:list),zar⟩:set)))),(14,.box 104 (zm (zaU (⟨(⟨zam⟩:list),zas⟩:set)))),(15,.box 25 (zm (zae (⟨zeK,zeL⟩:Frac)))),(16,.box 25 (zm (zae (⟨zjz,zjA⟩:Frac)))),(19,.box 25 (zm (zae (⟨zdF,zdG⟩:Frac)))),(20,.box 25 (zm (zae (⟨zbC,zbD⟩:Frac))))],[]⟩:=zax (by kernel_rfl) (zaw hs fun hc hs=>And.intro (And.intro (zE enc_55 3 zam.get) (And.intro (zE zaf 3 zas.get) hc)) (zAQ hX7 hs hk))
def zvG (low:Int) (high:Int) (zal:(Sl Gate)) (zar:(Sl straight)) (zam:(Sl Gate)) (zas:(Sl straight)) (S7:Int→Int→Int→Int→Int→(Int×Frac×Frac×Int)) (zcr:Int) (zbq:Int) (zbr:Int) (zcE:Int) (zcF:Int):(Int×Frac×Frac×Int) :=
  (cond (decide (zcr < (w64 ((w64 (high - low)) + (1:Int)))))
 (zvE S7 low high zal zar zam zas zcr zcr zbq zbr zcE zcF (((s68 (⟨(⟨zal⟩:list),zar⟩:set) (w64 (low+zcr))).1).Num) (((s68 (⟨(⟨zal⟩:list),zar⟩:set) (w64 (low+zcr))).1).Den) (((s68 (⟨(⟨zal⟩:list),zar⟩:set) (w64 (low+zcr))).2).Num) (((s68 (⟨(⟨zal⟩:list),zar⟩:set) (w64 (low+zcr))).2).Den))
 (zp2 high (w64 (high+(1:Int))) zbq zbr zcE zcF))
def zvH (low:Int) (high:Int) (zal:(Sl Gate)) (zar:(Sl straight)) (zam:(Sl Gate)) (zas:(Sl straight)) (P7:Int→Int→Int→Int→Int→Bool) (zcr:Int) (zbq:Int) (zbr:Int) (zcE:Int) (zcF:Int):Bool :=
  (cond (decide (zcr < (w64 ((w64 (high - low)) + (1:Int)))))
 (decide ((p68 (⟨(⟨zal⟩:list),zar⟩:set) (w64 (low+zcr))=true)) &&
 (zvF P7 low high zal zar zam zas zcr zcr zbq zbr zcE zcF (((s68 (⟨(⟨zal⟩:list),zar⟩:set) (w64 (low+zcr))).1).Num) (((s68 (⟨(⟨zal⟩:list),zar⟩:set) (w64 (low+zcr))).1).Den) (((s68 (⟨(⟨zal⟩:list),zar⟩:set) (w64 (low+zcr))).2).Num) (((s68 (⟨(⟨zal⟩:list),zar⟩:set) (w64 (low+zcr))).2).Den)))
 true)
def zvI (low:Int) (high:Int) (zal:(Sl Gate)) (zar:(Sl straight)) (zam:(Sl Gate)) (zas:(Sl straight)):Nat→Int→Int→Int→Int→Int→(Int×Frac×Frac×Int):=lpO (fun _ _ _ _ _=>default) (zvG low high zal zar zam zas)
def zvJ (low:Int) (high:Int) (zal:(Sl Gate)) (zar:(Sl straight)) (zam:(Sl Gate)) (zas:(Sl straight)):Nat→Int→Int→Int→Int→Int→Bool:=lpO (fun _ _ _ _ _=>false) (zvH low high zal zar zam zas)
def zvK (low:Int) (high:Int) (zal:(Sl Gate)) (zar:(Sl straight)) (zam:(Sl Gate)) (zas:(Sl straight)) (zcr:Int) (zbq:Int) (zbr:Int) (zcE:Int) (zcF:Int):(Int×Frac×Frac×Int):=zvI low high zal zar zam zas Fuel zcr zbq zbr zcE zcF
def zvL (low:Int) (high:Int) (zal:(Sl Gate)) (zar:(Sl straight)) (zam:(Sl Gate)) (zas:(Sl straight)) (zcr:Int) (zbq:Int) (zbr:Int) (zcE:Int) (zcF:Int):Bool:=zvJ low high zal zar zam zas Fuel zcr zbq zbr zcE zcF
theorem zD7 (hs:zvL low high zal zar zam zas zcr zbq zbr zcE zcF=true) (hk:K (e19 (zvK low high zal zar zam zas zcr zbq zbr zcE zcF))):z19 K [1,0,1,1,1,1,1,1,1,1,0,1,0] [] (zB2 low high zal zar zam zas zcr zbq zbr zcE zcF) :=
  zl (fun X=>z19 K [1,0,1,1,1,1,1,1,1,1,0,1,0,0] [X]) (by kernel_rfl) fun X7 hX =>
  (show ∀ k, zom K low high zal zar zam zas X7 (zvJ low high zal zar zam zas k) (zvI low high zal zar zam zas k) from zgL _ _ (zvH low high zal zar zam zas) (zvG low high zal zar zam zas) (zom K low high zal zar zam zas X7)
 (by intro _ _ _ _ _ hs;exact absurd hs Bool.false_ne_true)
 (by intro P7 S7 hX7 zcr zbq zbr zcE zcF hs hk;exact hX _ (zax (by kernel_rfl) (zc hs hk (fun hs hk=>(zaw hs fun hc hs=>And.intro (And.intro (zE enc_55 3 zal.get) (And.intro (zE zaf 3 zar.get) hc)) (zD6 hX7 hs hk))) (fun hs hk=>(zvD hk)))))) _ hs hk
def zvM (low:Int) (high:Int) (zal:(Sl Gate)) (zar:(Sl straight)) (zam:(Sl Gate)) (zas:(Sl straight)):(Int×Frac×Frac×Int) :=
  (zvK low high zal zar zam zas (0:Int) (0:Int) (0:Int) (0:Int) (0:Int))
def zvN (low:Int) (high:Int) (zal:(Sl Gate)) (zar:(Sl straight)) (zam:(Sl Gate)) (zas:(Sl straight)):Bool :=
  (zvL low high zal zar zam zas (0:Int) (0:Int) (0:Int) (0:Int) (0:Int))
theorem zD8 (hs:zvN low high zal zar zam zas=true) (hk:K (e19 (zvM low high zal zar zam zas))):z19 K [1,0,1,1,1,1,1] [] ⟨[(2,zI low),(3,zI high),(9,zp 9 0),(10,zp 10 0),(12,zp 12 0),(13,zp 13 0),(14,zp 14 0)],[(9,.box 25 (zm (zae (⟨(0:Int),(0:Int)⟩:Frac)))),(10,.box 25 (zm (zae (⟨(0:Int),(0:Int)⟩:Frac)))),(12,.box 25 (zm (zae (⟨(0:Int),(0:Int)⟩:Frac)))),(13,.box 104 (zm (zaU (⟨(⟨zal⟩:list),zar⟩:set)))),(14,.box 104 (zm (zaU (⟨(⟨zam⟩:list),zas⟩:set))))],[]⟩:=zax (by kernel_rfl) (zD7 hs hk)
def zp3 (low:Int) (high:Int) (zal:(Sl Gate)) (zar:(Sl straight)) (zam:(Sl Gate)) (zas:(Sl straight)) (zp0:Bool):(Int×Frac×Frac×Int) :=
  (cond zp0
 ((0:Int),(⟨(0:Int),(0:Int)⟩:Frac),(⟨(0:Int),(0:Int)⟩:Frac),(6:Int))
 (zvM low high zal zar zam zas))
def zp4 (low:Int) (high:Int) (zal:(Sl Gate)) (zar:(Sl straight)) (zam:(Sl Gate)) (zas:(Sl straight)) (zp0:Bool):Bool :=
  (cond zp0
 true
 (zvN low high zal zar zam zas))
theorem zvO (hs:zp4 low high zal zar zam zas zp0=true) (hk:K (e19 (zp3 low high zal zar zam zas zp0))):z19 K [1,0,1,1,1,1,0,1] [] ⟨[(2,zI low),(3,zI high),(9,zp 9 0),(10,zp 10 0),(12,zp 12 0),(13,zp 13 0),(14,zp 14 0),(68,zB zp0)],[(9,.box 25 (zm (zae (⟨(0:Int),(0:Int)⟩:Frac)))),(10,.box 25 (zm (zae (⟨(0:Int),(0:Int)⟩:Frac)))),(12,.box 25 (zm (zae (⟨(0:Int),(0:Int)⟩:Frac)))),(13,.box 104 (zm (zaU (⟨(⟨zal⟩:list),zar⟩:set)))),(14,.box 104 (zm (zaU (⟨(⟨zam⟩:list),zas⟩:set))))],[]⟩:=zax (by kernel_rfl) (zc hs hk (fun hs hk=>hk) (fun hs hk=>(zD8 hs hk)))
def zvP (low:Int) (high:Int) (zal:(Sl Gate)) (zar:(Sl straight)) (zam:(Sl Gate)) (zas:(Sl straight)):(Int×Frac×Frac×Int) :=
  (cond (s67 (⟨zal⟩ : list))
 (zp3 low high zal zar zam zas true)
 (zp3 low high zal zar zam zas (s67 (⟨zam⟩:list))))
def zvQ (low:Int) (high:Int) (zal:(Sl Gate)) (zar:(Sl straight)) (zam:(Sl Gate)) (zas:(Sl straight)):Bool :=
  (decide ((p67 (⟨zal⟩:list)=true)) &&
 (cond (s67 (⟨zal⟩ : list))
 (zp4 low high zal zar zam zas true)
 (decide ((p67 (⟨zam⟩:list)=true)) &&
 (zp4 low high zal zar zam zas (s67 (⟨zam⟩:list))))))
theorem zD9 (hs:zvQ low high zal zar zam zas=true) (hk:K (e19 (zvP low high zal zar zam zas))):z19 K [1,0,1,1,1,1] [] ⟨[(2,zI low),(3,zI high),(9,zp 9 0),(10,zp 10 0),(12,zp 12 0),(13,zp 13 0),(14,zp 14 0)],[(9,.box 25 (zm (zae (⟨(0:Int),(0:Int)⟩:Frac)))),(10,.box 25 (zm (zae (⟨(0:Int),(0:Int)⟩:Frac)))),(12,.box 25 (zm (zae (⟨(0:Int),(0:Int)⟩:Frac)))),(13,.box 104 (zm (zaU (⟨(⟨zal⟩:list),zar⟩:set)))),(14,.box 104 (zm (zaU (⟨(⟨zam⟩:list),zas⟩:set))))],[]⟩:=zax (by kernel_rfl) (zaw hs fun hc hs=>And.intro (And.intro (zE enc_55 3 zal.get) hc) (zc hs hk (fun hs hk=>(zvO hs hk)) (fun hs hk=>(zaw hs fun hc hs=>And.intro (And.intro (zE enc_55 3 zam.get) hc) (zvO hs hk)))))
def zp5 (low:Int) (high:Int) (zal:(Sl Gate)) (zar:(Sl straight)) (zam:(Sl Gate)) (zas:(Sl straight)) (zpZ:Bool):(Int×Frac×Frac×Int) :=
  (cond zpZ
 ((0:Int),(⟨(0:Int),(0:Int)⟩:Frac),(⟨(0:Int),(0:Int)⟩:Frac),(5:Int))
 (zvP low high zal zar zam zas))
def zp6 (low:Int) (high:Int) (zal:(Sl Gate)) (zar:(Sl straight)) (zam:(Sl Gate)) (zas:(Sl straight)) (zpZ:Bool):Bool :=
  (cond zpZ
 true
 (zvQ low high zal zar zam zas))
theorem zvR (hs:zp6 low high zal zar zam zas zpZ=true) (hk:K (e19 (zp5 low high zal zar zam zas zpZ))):z19 K [1,0,1,1,1,0,1] [] ⟨[(2,zI low),(3,zI high),(9,zp 9 0),(10,zp 10 0),(12,zp 12 0),(13,zp 13 0),(14,zp 14 0),(58,zB zpZ)],[(9,.box 25 (zm (zae (⟨(0:Int),(0:Int)⟩:Frac)))),(10,.box 25 (zm (zae (⟨(0:Int),(0:Int)⟩:Frac)))),(12,.box 25 (zm (zae (⟨(0:Int),(0:Int)⟩:Frac)))),(13,.box 104 (zm (zaU (⟨(⟨zal⟩:list),zar⟩:set)))),(14,.box 104 (zm (zaU (⟨(⟨zam⟩:list),zas⟩:set))))],[]⟩:=zax (by kernel_rfl) (zc hs hk (fun hs hk=>hk) (fun hs hk=>(zD9 hs hk)))
def zvS (low:Int) (high:Int) (zal:(Sl Gate)) (zar:(Sl straight)) (zam:(Sl Gate)) (zas:(Sl straight)):(Int×Frac×Frac×Int) :=
  (cond (!(s66 (⟨(⟨zal⟩ : list), zar⟩ : set)))
 (zp5 low high zal zar zam zas true)
 (zp5 low high zal zar zam zas (!(s66 (⟨(⟨zam⟩:list),zas⟩:set)))))
def zvT (low:Int) (high:Int) (zal:(Sl Gate)) (zar:(Sl straight)) (zam:(Sl Gate)) (zas:(Sl straight)):Bool :=
  (decide ((p66 (⟨(⟨zal⟩:list),zar⟩:set)=true)) &&
 (cond (!(s66 (⟨(⟨zal⟩ : list), zar⟩ : set)))
 (zp6 low high zal zar zam zas true)
 (decide ((p66 (⟨(⟨zam⟩:list),zas⟩:set)=true)) &&
 (zp6 low high zal zar zam zas (!(s66 (⟨(⟨zam⟩:list),zas⟩:set)))))))
theorem zEa (hs:zvT low high zal zar zam zas=true) (hk:K (e19 (zvS low high zal zar zam zas))) (zEb:zvz=zg enc_55 zal) (zEc:zvA=zg zaf zar) (zEd:zvB=zg enc_55 zam) (zEe:zvC=zg zaf zas):z19 K [1,0,1,1,1] [] ⟨[(2,zI low),(3,zI high),(9,zp 9 0),(10,zp 10 0),(12,zp 12 0),(13,zp 13 0),(14,zp 14 0)],[(9,.box 25 (zm (zae (⟨(0:Int),(0:Int)⟩:Frac)))),(10,.box 25 (zm (zae (⟨(0:Int),(0:Int)⟩:Frac)))),(12,.box 25 (zm (zae (⟨(0:Int),(0:Int)⟩:Frac)))),(13,.box 104 [.p (.sl zal.len 3 zvz),.p (.sl zar.len 3 zvA)]),(14,.box 104 [.p (.sl zam.len 3 zvB),.p (.sl zas.len 3 zvC)])],[]⟩:=by subst zEb;subst zEc;subst zEd;subst zEe;exact zax (by kernel_rfl) (zaw hs fun hc hs=>And.intro (And.intro (zE enc_55 3 zal.get) (And.intro (zE zaf 3 zar.get) hc)) (zc hs hk (fun hs hk=>(zvR hs hk)) (fun hs hk=>(zaw hs fun hc hs=>And.intro (And.intro (zE enc_55 3 zam.get) (And.intro (zE zaf 3 zas.get) hc)) (zvR hs hk)))))
def zvU (a:(Sl Gate)) (b:(Sl Gate)) (low:Int) (high:Int):(Int×Frac×Frac×Int) :=
  (zvS low high ((s65 a).list.Gates) ((s65 a).corners) ((s65 b).list.Gates) ((s65 b).corners))
def zvV (a:(Sl Gate)) (b:(Sl Gate)) (low:Int) (high:Int):Bool :=
  (decide ((p65 a=true)) &&
 (decide ((p65 b=true)) &&
 (zvT low high ((s65 a).list.Gates) ((s65 a).corners) ((s65 b).list.Gates) ((s65 b).corners))))
theorem zEf (hs:zvV a b low high=true) (hk:K (e19 (zvU a b low high))):z19 K [1,0,1,1] [] ⟨[(0,zS enc_55 3 a),(1,zS enc_55 3 b),(2,zI low),(3,zI high),(9,zp 9 0),(10,zp 10 0),(12,zp 12 0)],[(9,.box 25 (zm (zae (⟨(0:Int),(0:Int)⟩:Frac)))),(10,.box 25 (zm (zae (⟨(0:Int),(0:Int)⟩:Frac)))),(12,.box 25 (zm (zae (⟨(0:Int),(0:Int)⟩:Frac))))],[]⟩:=zax (by kernel_rfl) (zaw hs fun hc hs=>And.intro (And.intro (zE enc_55 3 a.get) hc) (zaw hs fun hc hs=>And.intro (And.intro (zE enc_55 3 b.get) hc) (zEa hs hk rfl rfl rfl rfl)))
def zhv (a:(Sl Gate)) (b:(Sl Gate)) (low:Int) (high:Int) (zpY:Bool):(Int×Frac×Frac×Int) :=
  (cond zpY
 ((0:Int),(⟨(0:Int),(0:Int)⟩:Frac),(⟨(0:Int),(0:Int)⟩:Frac),(2:Int))
 (zvU a b low high))
def zhw (a:(Sl Gate)) (b:(Sl Gate)) (low:Int) (high:Int) (zpY:Bool):Bool :=
  (cond zpY
 true
 (zvV a b low high))
theorem zjG (hs:zhw a b low high zpY=true) (hk:K (e19 (zhv a b low high zpY))):z19 K [1,0,1,0,1] [] ⟨[(0,zS enc_55 3 a),(1,zS enc_55 3 b),(2,zI low),(3,zI high),(9,zp 9 0),(10,zp 10 0),(12,zp 12 0),(44,zB zpY)],[(9,.box 25 (zm (zae (⟨(0:Int),(0:Int)⟩:Frac)))),(10,.box 25 (zm (zae (⟨(0:Int),(0:Int)⟩:Frac)))),(12,.box 25 (zm (zae (⟨(0:Int),(0:Int)⟩:Frac))))],[]⟩:=zax (by kernel_rfl) (zc hs hk (fun hs hk=>hk) (fun hs hk=>(zEf hs hk)))
def s19 (a:(Sl Gate)) (b:(Sl Gate)) (low:Int) (high:Int):(Int×Frac×Frac×Int) :=
  (cond (decide (low < (-100000:Int)))
 (zhv a b low high true)
 (cond (decide (low > high))
 (zhv a b low high true)
 (cond (decide (high > (200000:Int)))
 (zhv a b low high true)
 (cond (!(s64 a))
 (zhv a b low high true)
 (zhv a b low high (!(s64 b)))))))
def p19 (a:(Sl Gate)) (b:(Sl Gate)) (low:Int) (high:Int):Bool :=
  (cond (decide (low < (-100000:Int)))
 (zhw a b low high true)
 (cond (decide (low > high))
 (zhw a b low high true)
 (cond (decide (high > (200000:Int)))
 (zhw a b low high true)
 (decide ((p64 a=true)) &&
 (cond (!(s64 a))
 (zhw a b low high true)
 (decide ((p64 b=true)) &&
 (zhw a b low high (!(s64 b)))))))))
end
theorem q19 (a:(Sl Gate)) (b:(Sl Gate)) (low:Int) (high:Int) (K:List PA→Prop) (hs:p19 a b low high=true) (hk:K (e19 (s19 a b low high))):vcFun Try.prog G19 zD4 19 [.one (.sl a.len 3 (fun i=>enc_55 (a.get i))),.one (.sl b.len 3 (fun i=>enc_55 (b.get i))),.one (.int .i64 low),.one (.int .i64 high)] K :=
  zax (by kernel_rfl) (zc hs hk (fun hs hk=>(zjG hs hk)) (fun hs hk=>(zc hs hk (fun hs hk=>(zjG hs hk)) (fun hs hk=>(zc hs hk (fun hs hk=>(zjG hs hk)) (fun hs hk=>(zaw hs fun hc hs=>And.intro (And.intro (zE enc_55 3 a.get) hc) (zc hs hk (fun hs hk=>(zjG hs hk)) (fun hs hk=>(zaw hs fun hc hs=>And.intro (And.intro (zE enc_55 3 b.get) hc) (zjG hs hk)))))))))))
def zEg : List PA → COut
  | [.one (.sl a0_n a0_s a0_g),.one (.sl a1_n a1_s a1_g),.one (.int .i64 a2),.one (.int .i64 a3)]=>.det (IsE enc_55 3 a0_s a0_g∧IsE enc_55 3 a1_s a1_g∧p19 (⟨a0_n,zad a0_g⟩:(Sl Gate)) (⟨a1_n,zad a1_g⟩:(Sl Gate)) a2 a3=true) [.one (.int .i64 ((s19 (⟨a0_n,zad a0_g⟩:(Sl Gate)) (⟨a1_n,zad a1_g⟩:(Sl Gate)) a2 a3).1)),.agg [.int .i64 (((s19 (⟨a0_n,zad a0_g⟩:(Sl Gate)) (⟨a1_n,zad a1_g⟩:(Sl Gate)) a2 a3).2.1).Num),.int .i64 (((s19 (⟨a0_n,zad a0_g⟩:(Sl Gate)) (⟨a1_n,zad a1_g⟩:(Sl Gate)) a2 a3).2.1).Den)],.agg [.int .i64 (((s19 (⟨a0_n,zad a0_g⟩:(Sl Gate)) (⟨a1_n,zad a1_g⟩:(Sl Gate)) a2 a3).2.2.1).Num),.int .i64 (((s19 (⟨a0_n,zad a0_g⟩:(Sl Gate)) (⟨a1_n,zad a1_g⟩:(Sl Gate)) a2 a3).2.2.1).Den)],.one (.int .i64 ((s19 (⟨a0_n,zad a0_g⟩:(Sl Gate)) (⟨a1_n,zad a1_g⟩:(Sl Gate)) a2 a3).2.2.2))]
  | _=>.no
theorem zIx:zai Try.prog 19:=⟨_,rfl,rfl,by kernel_rfl⟩
theorem zNR:Ok Try.prog 19 zEg:=zaG zK9 zIx fun args K h=>by
  unfold zEg at h
  split at h
  · rename_i a0_n a0_s a0_g a1_n a1_s a1_g a2 a3
    obtain ⟨⟨⟨rfl,a0_f,rfl⟩,⟨rfl,a1_f,rfl⟩,hs⟩,hk⟩:=h
    try rw [zac a0_f] at hs
    try rw [zac a0_f] at hk
    try rw [zac a1_f] at hs
    try rw [zac a1_f] at hk
    exact ⟨(fun _ _=>[]),(fun _=>false),zD4,q19 (⟨a0_n,a0_f⟩:(Sl Gate)) (⟨a1_n,a1_f⟩:(Sl Gate)) a2 a3 K hs hk⟩
  · exact h.elim
abbrev zMx:Tabs:=Tabs.nil
theorem zIy:TabsOk Try.prog zMx:=TabsOk.nil
abbrev zMy:Ctrs:=csm zMx (fun _ _=>[]) (fun _=>false)
def zvW:Ann:=⟨8,[(0,⟨[0],[],[],[],[],[],[]⟩),(1,⟨[0,4],[],[],[],[],[],[]⟩),(2,⟨[2],[],[],[],[],[],[]⟩),(3,⟨[2],[5],[],[],[],[],[]⟩)],
 [],
 [],
 [],[]⟩
theorem zAR (n : Nat) (get : Nat → List PV) : zuA Try.prog zMy zvW 105 [.one (.sl n 3 get)] 118 3 24 n get =
  ((True)∧(∃ r1:Bool,(n ≠ 0→r1=false))∧∀ r1:Bool,(n ≠ 0→r1=false) →
 (zcZ r1
 (True∧n=0)
 ((((0+n) * 24≤140737488355328∧0+n≤9223372036854775807)) ∧
 (True∧118=118∧3=3∧24=24∧(0+n)=n∧∀ i,i < n→(appG 0 (zdg []) get) i=get i)))):=by kernel_rfl
abbrev zB3:OwnK:=.clone 118 3 24
theorem zEh:zai Try.prog 105:=⟨_,rfl,rfl,by kernel_rfl⟩
theorem zLa:zlD Try.prog 105 zB3:=zuD zIy zEh fun n get h1 h2=>by
  refine ⟨fun _ _=>[],fun _=>false,zvW,?_⟩
  show zuA Try.prog zMy zvW 105 _ _ _ _ _ _
  rw [zAR]
  refine ⟨trivial,⟨decide (n=0),fun h=>decide_eq_false h⟩,fun r1 hr=>?_⟩
  cases r1
  · refine ⟨⟨by omega,by omega⟩,trivial,rfl,rfl,rfl,Nat.zero_add n,fun i _=>rfl⟩
  · exact ⟨trivial,Classical.byContradiction fun h=>by simpa using hr h⟩
abbrev zB4:OwnK:=.sort 118 3 24
theorem zLb:zlD Try.prog 106 zB4:=zuK Try.laysS106 rfl rfl rfl (fun h=>h) ⟨_,rfl,rfl,by kernel_rfl⟩
abbrev zMz:Tabs:=(Tabs.nil.addF 99 zu0)
theorem zIz:TabsOk Try.prog zMz:=(TabsOk.nil.addF zKv)
abbrev zNS:Ctrs:=csm zMz (fun _ _=>[]) (fun _=>false)
def zB5:Ann:=⟨10,[(0,zK [2,3] [2,3]),(1,zK [4] [])],
 [],
 [],
 [],[]⟩
abbrev zNT:=Bool
abbrev e108 (r:zNT):List PA:=[.one (.bool r)]
section
variable {K:List PA→Prop} {s:set} {x:straight}
def zB6 (s:set) (x:straight):Bool :=
  (zKt x s.list.Gates)
def zJ4 (s:set) (x:straight):Bool :=
  (decide ((zKu x s.list.Gates=true)) &&
 true)
end
theorem zNU (s:set) (x:straight) (K:List PA→Prop) (hs:zJ4 s x=true) (hk:K (e108 (zB6 s x))):vcFun Try.prog zNS zB5 108 [.agg (zaU s),.agg (zaf x)] K :=
  zax (by kernel_rfl) (zaw hs fun hc hs=>And.intro (And.intro (zE enc_55 3 s.list.Gates.get) hc) hk)
def zvX : List PA → COut
  | [.agg [.sl a0_list_Gates_n a0_list_Gates_s a0_list_Gates_g,.sl a0_corners_n a0_corners_s a0_corners_g],.agg [.int .i64 a1_slope,.int .i64 a1_start,.int .i64 a1_den]]=>.det (IsE enc_55 3 a0_list_Gates_s a0_list_Gates_g∧IsE zaf 3 a0_corners_s a0_corners_g∧zJ4 (⟨(⟨(⟨a0_list_Gates_n,zad a0_list_Gates_g⟩:(Sl Gate))⟩:list),(⟨a0_corners_n,zaQ a0_corners_g⟩:(Sl straight))⟩:set) (⟨a1_slope,a1_start,a1_den⟩:straight)=true) [.one (.bool (zB6 (⟨(⟨(⟨a0_list_Gates_n,zad a0_list_Gates_g⟩:(Sl Gate))⟩:list),(⟨a0_corners_n,zaQ a0_corners_g⟩:(Sl straight))⟩:set) (⟨a1_slope,a1_start,a1_den⟩:straight)))]
  | _=>.no
theorem zEi:zai Try.prog 108:=⟨_,rfl,rfl,by kernel_rfl⟩
theorem zLc:Ok Try.prog 108 zvX:=zaG zIz zEi fun args K h=>by
  unfold zvX at h
  split at h
  · rename_i a0_list_Gates_n a0_list_Gates_s a0_list_Gates_g a0_corners_n a0_corners_s a0_corners_g a1_slope a1_start a1_den
    obtain ⟨⟨⟨rfl,a0_list_Gates_f,rfl⟩,⟨rfl,a0_corners_f,rfl⟩,hs⟩,hk⟩:=h
    try rw [zac a0_list_Gates_f] at hs
    try rw [zac a0_list_Gates_f] at hk
    try rw [zaL a0_corners_f] at hs
    try rw [zaL a0_corners_f] at hk
    exact ⟨(fun _ _=>[]),(fun _=>false),zB5,zNU (⟨(⟨(⟨a0_list_Gates_n,a0_list_Gates_f⟩:(Sl Gate))⟩:list),(⟨a0_corners_n,a0_corners_f⟩:(Sl straight))⟩:set) (⟨a1_slope,a1_start,a1_den⟩:straight) K hs hk⟩
  · exact h.elim
abbrev zMA:Tabs:=(((Tabs.nil.addF 69 zpr).addF 89 zpq).addF 108 zvX)
theorem zIA:TabsOk Try.prog zMA:=(((TabsOk.nil.addF zH1).addF zHP).addF zLc)
abbrev zNV:Ctrs:=csm zMA (fun _ _=>[]) (fun _=>false)
def zB7:Ann:=⟨38,[(0,zK [2,3,4] [3,4]),(1,zK [3,4,6,7] [3,4]),(2,zK [6,7,8] []),(3,zK [6,7,8,26] []),(4,zK [5] []),(5,zK [7,8,32] []),(6,zK [5] []),(7,zK [8,34] []),(8,zK [5] []),(9,zK [5] [])],
 [],
 [],
 [],[]⟩
abbrev zNW:=Int
abbrev zNX (r:zNW):List PA:=[.one (.int .i64 r)]
section
variable {K:List PA→Prop} {c0:set} {a:straight} {b:straight}
def zJ5 (c0:set) (a:straight) (b:straight):Int :=
  (cond (zB6 c0 a)
 (cond (zB6 c0 b)
 (s69 (s89 a.slope a.den) (s89 b.slope b.den))
 (cond (zB6 c0 a)
 (-1:Int)
 (cond (zB6 c0 b)
 (1:Int)
 (w64 (0 - (s69 (s89 a.slope a.den) (s89 b.slope b.den)))))))
 (cond (zB6 c0 a)
 (-1:Int)
 (cond (zB6 c0 b)
 (1:Int)
 (w64 (0 - (s69 (s89 a.slope a.den) (s89 b.slope b.den)))))))
def zJ6 (c0:set) (a:straight) (b:straight):Bool :=
  (decide ((zJ4 c0 a=true)) &&
 (decide ((zJ4 c0 b=true)) &&
 (decide ((p89 a.slope a.den=true)) &&
 (decide ((p89 b.slope b.den=true)) &&
 true))))
end
theorem zNY (c0:set) (a:straight) (b:straight) (K:List PA→Prop) (hs:zJ6 c0 a b=true) (hk:K (zNX (zJ5 c0 a b))):vcFun Try.prog zNV zB7 107 [.agg (zaf a),.agg (zaf b),.one (.fp (zaU c0) 0)] K :=
  zax (by kernel_rfl) (zaw hs fun hc hs=>And.intro (And.intro (zE enc_55 3 c0.list.Gates.get) (And.intro (zE zaf 3 c0.corners.get) hc)) (zaw hs fun hc hs=>And.intro (And.intro (zE enc_55 3 c0.list.Gates.get) (And.intro (zE zaf 3 c0.corners.get) hc)) (zaw hs fun hc hs=>And.intro hc (zaw hs fun hc hs=>And.intro hc (zt hk (fun hk=>(zt hk (fun hk=>hk) (fun hk=>(zt hk (fun hk=>hk) (fun hk=>(zt hk (fun hk=>hk) (fun hk=>hk))))))) (fun hk=>(zt hk (fun hk=>hk) (fun hk=>(zt hk (fun hk=>hk) (fun hk=>hk))))))))))
def zon : List PA → COut
  | [.agg [.int .i64 a0_slope,.int .i64 a0_start,.int .i64 a0_den],.agg [.int .i64 a1_slope,.int .i64 a1_start,.int .i64 a1_den],.one (.fp [.sl c0_list_Gates_n c0_list_Gates_s c0_list_Gates_g,.sl c0_corners_n c0_corners_s c0_corners_g] 0)]=>.det (IsE enc_55 3 c0_list_Gates_s c0_list_Gates_g∧IsE zaf 3 c0_corners_s c0_corners_g∧zJ6 (⟨(⟨(⟨c0_list_Gates_n,zad c0_list_Gates_g⟩:(Sl Gate))⟩:list),(⟨c0_corners_n,zaQ c0_corners_g⟩:(Sl straight))⟩:set) (⟨a0_slope,a0_start,a0_den⟩:straight) (⟨a1_slope,a1_start,a1_den⟩:straight)=true) [.one (.int .i64 (zJ5 (⟨(⟨(⟨c0_list_Gates_n,zad c0_list_Gates_g⟩:(Sl Gate))⟩:list),(⟨c0_corners_n,zaQ c0_corners_g⟩:(Sl straight))⟩:set) (⟨a0_slope,a0_start,a0_den⟩:straight) (⟨a1_slope,a1_start,a1_den⟩:straight)))]
  | _=>.no
theorem zEj:zai Try.prog 107:=⟨_,rfl,rfl,by kernel_rfl⟩
theorem zLd:Ok Try.prog 107 zon:=zaG zIA zEj fun args K h=>by
  unfold zon at h
  split at h
  · rename_i a0_slope a0_start a0_den a1_slope a1_start a1_den c0_list_Gates_n c0_list_Gates_s c0_list_Gates_g c0_corners_n c0_corners_s c0_corners_g
    obtain ⟨⟨⟨rfl,c0_list_Gates_f,rfl⟩,⟨rfl,c0_corners_f,rfl⟩,hs⟩,hk⟩:=h
    try rw [zac c0_list_Gates_f] at hs
    try rw [zac c0_list_Gates_f] at hk
    try rw [zaL c0_corners_f] at hs
    try rw [zaL c0_corners_f] at hk
    exact ⟨(fun _ _=>[]),(fun _=>false),zB7,zNY (⟨(⟨(⟨c0_list_Gates_n,c0_list_Gates_f⟩:(Sl Gate))⟩:list),(⟨c0_corners_n,c0_corners_f⟩:(Sl straight))⟩:set) (⟨a0_slope,a0_start,a0_den⟩:straight) (⟨a1_slope,a1_start,a1_den⟩:straight) K hs hk⟩
  · exact h.elim
abbrev T78:Tabs:=(((Tabs.nil.addO 105 zB3).addO 106 zB4).addF 107 zon)
theorem zLe:TabsOk Try.prog T78:=(((TabsOk.nil.addO zLa).addO zLb).addF zLd)
abbrev G78:Ctrs:=csm T78 (fun _ _=>[]) (fun _=>false)
def zIB:Ann:=⟨11,[(0,zK [1] [1]),(1,zK [1,3] [1,6]),(2,zK [3] [6]),(3,zK [2] [6])],
 [],
 [],
 [],[]⟩
abbrev R78:=(Sl straight)
abbrev e78 (r:R78):List PA:=[.one (.sl r.len 3 (fun i=>zaf (r.get i)))]
section
variable {K:List PA→Prop} {s:set}
def s78 (s:set):(Sl straight) :=
  (⟨s.corners.len,(zoO s.corners.len (fun i j=>(zJ5 s (s.corners.get i) (s.corners.get j))) s.corners.get)⟩:(Sl straight))
def p78 (s:set):Bool :=
  (decide ((s.corners.len * 24≤140737488355328∧s.corners.len≤9223372036854775807)) &&
 (decide ((s.corners.len≤4611686018427387)∧(sortB s.corners.len (fun i j=>decide (zJ6 s (s.corners.get i) (s.corners.get j)=true)) (fun i j=>(zJ5 s (s.corners.get i) (s.corners.get j)))=true)) &&
 true))
end
theorem q78 (s:set) (K:List PA→Prop) (hs:p78 s=true) (hk:K (e78 (s78 s))):vcFun Try.prog G78 zIB 78 [.agg (zaU s)] K :=
  zax (by kernel_rfl) (zaw hs fun hc hs=>And.intro hc (zaw hs fun hc hs=>And.intro (And.intro (hc.1) ((zAg (hc.2) (fun i j h=>(show IsE enc_55 3 3 (fun i=>enc_55 (s.list.Gates.get i))∧IsE zaf 3 3 (fun i=>zaf (s.corners.get i))∧(zJ6 s (s.corners.get i) (s.corners.get j)=true) from ⟨isE,isE,(of_decide_eq_true h)⟩)) rfl):(∀ i j,i < s.corners.len→j < s.corners.len→zGK (zon) [.fp (zaU s) 0] true (fun i=>zaf (s.corners.get i)) i j)∧STO s.corners.len (ztz (zon) [.fp (zaU s) 0] true (fun i=>zaf (s.corners.get i))))) hk))
def zEk : List PA → COut
  | [.agg [.sl a0_list_Gates_n a0_list_Gates_s a0_list_Gates_g,.sl a0_corners_n a0_corners_s a0_corners_g]]=>.det (IsE enc_55 3 a0_list_Gates_s a0_list_Gates_g∧IsE zaf 3 a0_corners_s a0_corners_g∧p78 (⟨(⟨(⟨a0_list_Gates_n,zad a0_list_Gates_g⟩:(Sl Gate))⟩:list),(⟨a0_corners_n,zaQ a0_corners_g⟩:(Sl straight))⟩:set)=true) [.one (.sl ((s78 (⟨(⟨(⟨a0_list_Gates_n,zad a0_list_Gates_g⟩:(Sl Gate))⟩:list),(⟨a0_corners_n,zaQ a0_corners_g⟩:(Sl straight))⟩:set)).len) 3 (fun i=>zaf ((s78 (⟨(⟨(⟨a0_list_Gates_n,zad a0_list_Gates_g⟩:(Sl Gate))⟩:list),(⟨a0_corners_n,zaQ a0_corners_g⟩:(Sl straight))⟩:set)).get i)))]
  | _=>.no
theorem zIC:zai Try.prog 78:=⟨_,rfl,rfl,by kernel_rfl⟩
theorem zNZ:Ok Try.prog 78 zEk:=zaG zLe zIC fun args K h=>by
  unfold zEk at h
  split at h
  · rename_i a0_list_Gates_n a0_list_Gates_s a0_list_Gates_g a0_corners_n a0_corners_s a0_corners_g
    obtain ⟨⟨⟨rfl,a0_list_Gates_f,rfl⟩,⟨rfl,a0_corners_f,rfl⟩,hs⟩,hk⟩:=h
    try rw [zac a0_list_Gates_f] at hs
    try rw [zac a0_list_Gates_f] at hk
    try rw [zaL a0_corners_f] at hs
    try rw [zaL a0_corners_f] at hk
    exact ⟨(fun _ _=>[]),(fun _=>false),zIB,q78 (⟨(⟨(⟨a0_list_Gates_n,a0_list_Gates_f⟩:(Sl Gate))⟩:list),(⟨a0_corners_n,a0_corners_f⟩:(Sl straight))⟩:set) K hs hk⟩
  · exact h.elim
abbrev T31:Tabs:=(((Tabs.nil.addF 75 zto).addF 78 zEk).addF 79 zAF)
theorem zLf:TabsOk Try.prog T31:=(((TabsOk.nil.addF zK7).addF zNZ).addF zMo)
abbrev G31:Ctrs:=csm T31 (fun _ _=>[]) (fun _=>false)
def zEl:Ann:=⟨31,[(0,zK [0] []),(1,zK [4,5] [4]),(2,zK [4,5,15] [4]),(3,zK [2,3] []),(4,zK [4,6] [4]),(5,zK [6,18,19,20] []),(6,zK [6,18,19,20,21] [28]),(7,zK [6,8,18,19,20] [8,28]),(8,zK [6,18,19,20] [28]),(9,zK [6,18,19,20] [28]),(10,zK [2,3] [28])],
 [(6,⟨[6,18,19,20],[28],[(6,28,37,fun _=>zbL default)],[],[],[],[]⟩)],
 [(2,zK [4,5] [4]),(4,zK [4] [4]),(6,zK [6,18,19,20] [])],
 [],[]⟩
abbrev R31:=((Sl Line)×Int)
abbrev e31 (r:R31):List PA:=[.one (.sl r.1.len 4 (fun i=>zbL (r.1.get i))),.one (.int .i64 r.2)]
@[irreducible] def z31:=ptF Try.prog G31 zEl Try.f31
def zB8 (zb6:(Sl straight)) (zcm:Int) (zc5:Int) (zcz:(Sl Line)) (zfm:Nat→List PV):St:=⟨[(6,zv 28),(18,zS zaf 3 zb6),(19,zI zcm),(20,zI zc5)],[(28,.vec 37 4 32 zcz.len zfm)],[]⟩
abbrev zID (K:List PA→Prop) (zb6:(Sl straight)) (zcm:Int) (X:St→Prop) (P:Int→(Sl Line)→Bool) (S:Int→(Sl Line)→((Sl Line)×Int)):Prop:=∀ ⦃zc5:Int⦄ ⦃zcz:(Sl Line)⦄ ⦃zfm:Nat→List PV⦄,P zc5 zcz=true→K (e31 (S zc5 zcz))→zfm=zg zbL zcz→X (zB8 zb6 zcm zc5 zcz zfm)
section
variable {K:List PA→Prop} {zaa:(Sl Gate)} {ev0:Int} {zmw:(Sl Gate)} {zmx:(Sl straight)} {zp7:Nat→List PV} {zp8:Nat→List PV} {zh9:(Sl Gate)} {zia:(Sl straight)} {zvY:Nat→List PV} {zvZ:Nat→List PV} {zb6:(Sl straight)} {zcm:Int} {zv1:Nat→List PV} {zc5:Int} {zcz:(Sl Line)} {zfm:Nat→List PV} {X3:St→Prop} {P3:Int→(Sl Line)→Bool} {S3:Int→(Sl Line)→((Sl Line)×Int)}
def zv2 (zb6:(Sl straight)) (zcm:Int) (S3:Int→(Sl Line)→((Sl Line)×Int)) (zc5:Int) (zcz:(Sl Line)):((Sl Line)×Int) :=
  (cond (decide (zc5 < zcm))
 (S3 (w64 (zc5+(1:Int))) (⟨(zcz.len+1),(zdt zcz.len zcz.get (fun _=>(s79 (zb6.get zc5.toNat))))⟩:Sl Line))
 (zcz,(0:Int)))
def zv4 (zb6:(Sl straight)) (zcm:Int) (P3:Int→(Sl Line)→Bool) (zc5:Int) (zcz:(Sl Line)):Bool :=
  (cond (decide (zc5 < zcm))
 (decide ((0≤zc5∧zc5 < (zb6.len:Int))) &&
 (decide ((p79 (zb6.get zc5.toNat)=true)) &&
 (decide (((zcz.len+1) * 32≤140737488355328∧zcz.len+1≤9223372036854775807)) &&
 (P3 (w64 (zc5+(1:Int))) (⟨(zcz.len+1),(zdt zcz.len zcz.get (fun _=>(s79 (zb6.get zc5.toNat))))⟩:Sl Line)))))
 true)
def zv5 (zb6:(Sl straight)) (zcm:Int):Nat→Int→(Sl Line)→((Sl Line)×Int):=lpO (fun _ _=>default) (zv2 zb6 zcm)
def zv6 (zb6:(Sl straight)) (zcm:Int):Nat→Int→(Sl Line)→Bool:=lpO (fun _ _=>false) (zv4 zb6 zcm)
def zv7 (zb6:(Sl straight)) (zcm:Int) (zc5:Int) (zcz:(Sl Line)):((Sl Line)×Int):=zv5 zb6 zcm Fuel zc5 zcz
def zv8 (zb6:(Sl straight)) (zcm:Int) (zc5:Int) (zcz:(Sl Line)):Bool:=zv6 zb6 zcm Fuel zc5 zcz
theorem zEm (hs:zv8 zb6 zcm zc5 zcz=true) (hk:K (e31 (zv7 zb6 zcm zc5 zcz))) (zp9:zfm=zg zbL zcz):z31 (Wk K) [1,1,1,1,0,1,0] [] (zB8 zb6 zcm zc5 zcz zfm) :=
  zl (fun X=>z31 (Wk K) [1,1,1,1,0,1,0,0] [X]) (by kernel_rfl) fun X3 hX =>
  (show ∀ k, zID K zb6 zcm X3 (zv6 zb6 zcm k) (zv5 zb6 zcm k) from zgL _ _ (zv4 zb6 zcm) (zv2 zb6 zcm) (zID K zb6 zcm X3)
 (by intro _ _ _ hs;exact absurd hs Bool.false_ne_true)
 (by intro P3 S3 hX3 zc5 zcz zfm hs hk zp9;subst zp9;exact hX _ (zax (by kernel_rfl) (zc hs hk (fun hs hk=>(zaw hs fun hc hs=>And.intro hc (zaw hs fun hc hs=>And.intro hc (zaw hs fun hc hs=>And.intro hc (hX3 hs hk (zjd (enc:=zbL) (f:=zcz.get) (h:=(fun _=>(s79 (zb6.get zc5.toNat)))) rfl rfl)))))) (fun hs hk=>((zeh hk):Wk K [.one (.sl zcz.len 4 (fun i=>zbL (zcz.get i))),.one (.int .i64 (0:Int))])))))) _ hs hk zp9
def zv9 (zb6:(Sl straight)) (zcm:Int):((Sl Line)×Int) :=
  (zv7 zb6 zcm (0:Int) (⟨0,(fun _=>default)⟩:Sl Line))
def zwa (zb6:(Sl straight)) (zcm:Int):Bool :=
  (zv8 zb6 zcm (0:Int) (⟨0,(fun _=>default)⟩:Sl Line))
theorem zEn (hs:zwa zb6 zcm=true) (hk:K (e31 (zv9 zb6 zcm))) (zEo:zv1=zg zaf zb6):z31 (Wk K) [1,1,1,1,0,1] [] ⟨[(6,zP (.nils)),(18,zP (.sl zb6.len 3 zv1)),(19,zI zcm),(20,zI (0:Int))],[],[]⟩:=by subst zEo;exact zax (by kernel_rfl) (zEm hs hk rfl)
def zwb (zh9:(Sl Gate)) (zia:(Sl straight)):((Sl Line)×Int) :=
  (zv9 (s78 (⟨(⟨zh9⟩:list),zia⟩:set)) ((s78 (⟨(⟨zh9⟩:list),zia⟩:set)).len:Int))
def zwc (zh9:(Sl Gate)) (zia:(Sl straight)):Bool :=
  (decide ((p78 (⟨(⟨zh9⟩:list),zia⟩:set)=true)) &&
 (zwa (s78 (⟨(⟨zh9⟩:list),zia⟩:set)) ((s78 (⟨(⟨zh9⟩:list),zia⟩:set)).len:Int)))
theorem zEp (hs:zwc zh9 zia=true) (hk:K (e31 (zwb zh9 zia))) (zEq:zvY=zg enc_55 zh9) (zEr:zvZ=zg zaf zia):z31 (Wk K) [1,1,1] [] ⟨[(4,zp 4 0)],[(4,.box 104 [.p (.sl zh9.len 3 zvY),.p (.sl zia.len 3 zvZ)])],[]⟩:=by subst zEq;subst zEr;exact zax (by kernel_rfl) (zaw hs fun hc hs=>And.intro (And.intro (zE enc_55 3 zh9.get) (And.intro (zE zaf 3 zia.get) hc)) (zEn hs hk rfl))
def zwd (ev0:Int) (zmw:(Sl Gate)) (zmx:(Sl straight)):((Sl Line)×Int) :=
  (cond (ev0 != (0:Int))
 ((⟨0,fun _=>default⟩:(Sl Line)),ev0)
 (zwb zmw zmx))
def zwe (ev0:Int) (zmw:(Sl Gate)) (zmx:(Sl straight)):Bool :=
  (cond (ev0 != (0:Int))
 true
 (zwc zmw zmx))
theorem zEs (hs:zwe ev0 zmw zmx=true) (hk:K (e31 (zwd ev0 zmw zmx))) (zEt:zp7=zg enc_55 zmw) (zEu:zp8=zg zaf zmx):z31 (Wk K) [1,1] [] ⟨[(4,zp 4 0),(5,zI ev0)],[(4,.box 104 [.p (.sl zmw.len 3 zp7),.p (.sl zmx.len 3 zp8)])],[]⟩:=by subst zEt;subst zEu;exact zax (by kernel_rfl) (zc hs hk (fun hs hk=>((wk hk (zc6 (.one (.nil _ _)) (zc6 (.one (.rfl _)) zhf))):Wk K [.one (.nils),.one (.int .i64 ev0)])) (fun hs hk=>(zEp hs hk rfl rfl)))
def s31 (zaa:(Sl Gate)):((Sl Line)×Int) :=
  (zwd ((s75 zaa).2) (((s75 zaa).1).list.Gates) (((s75 zaa).1).corners))
def p31 (zaa:(Sl Gate)):Bool :=
  (decide ((p75 zaa=true)) &&
 (zwe ((s75 zaa).2) (((s75 zaa).1).list.Gates) (((s75 zaa).1).corners)))
end
theorem q31 (zaa:(Sl Gate)) (K:List PA→Prop) (hs:p31 zaa=true) (hk:K (e31 (s31 zaa))):vcFun Try.prog G31 zEl 31 [.one (.sl zaa.len 3 (fun i=>enc_55 (zaa.get i)))] (Wk K) :=
  zax (by kernel_rfl) (zaw hs fun hc hs=>And.intro (And.intro (zE enc_55 3 zaa.get) hc) (zEs hs hk rfl rfl))
def zEv : List PA → COut
  | [.one (.sl a0_n a0_s a0_g)]=>.det (IsE enc_55 3 a0_s a0_g∧p31 (⟨a0_n,zad a0_g⟩:(Sl Gate))=true) [.one (.sl (((s31 (⟨a0_n,zad a0_g⟩:(Sl Gate))).1).len) 4 (fun i=>zbL (((s31 (⟨a0_n,zad a0_g⟩:(Sl Gate))).1).get i))),.one (.int .i64 ((s31 (⟨a0_n,zad a0_g⟩:(Sl Gate))).2))]
  | _=>.no
theorem zIE:zai Try.prog 31:=⟨_,rfl,rfl,by kernel_rfl⟩
theorem zN0:Ok Try.prog 31 zEv:=zhg zLf zIE fun args K h=>by
  unfold zEv at h
  split at h
  · rename_i a0_n a0_s a0_g
    obtain ⟨⟨⟨rfl,a0_f,rfl⟩,hs⟩,hk⟩:=h
    try rw [zac a0_f] at hs
    try rw [zac a0_f] at hk
    exact ⟨_,ze8 zfV _,(fun _ _=>[]),(fun _=>false),zEl,q31 (⟨a0_n,a0_f⟩:(Sl Gate)) K hs hk⟩
  · exact h.elim
abbrev T34:Tabs:=Tabs.nil
theorem zLg:TabsOk Try.prog T34:=TabsOk.nil
abbrev G34:Ctrs:=csm T34 (fun _ _=>[]) (fun _=>false)
def zEw:Ann:=⟨26,[(0,zK [0,1] []),(1,zK [0,1,10] []),(2,zK [4] []),(3,zK [0,1,5] []),(4,zK [0,1,5,14] []),(5,zK [0,1,5] []),(6,zK [0,1,5,25] []),(7,zK [4] []),(8,zK [4] [])],
 [(4,zK [0,1,5] [])],
 [(3,zK [0,1] [])],
 [],[]⟩
abbrev R34:=Bool
abbrev e34 (r:R34):List PA:=[.one (.bool r)]
@[irreducible] def z34:=ptF Try.prog G34 zEw Try.f34
def zB9 (a:(Sl Line)) (b:(Sl Line)) (iv1:Int):St:=⟨[(0,zS zbL 4 a),(1,zS zbL 4 b),(5,zI iv1)],[],[]⟩
abbrev zIF (K:List PA→Prop) (a:(Sl Line)) (b:(Sl Line)) (X:St→Prop) (P:Int→Bool) (S:Int→Bool):Prop:=∀ ⦃iv1:Int⦄,P iv1=true→K (e34 (S iv1))→X (zB9 a b iv1)
section
variable {K:List PA→Prop} {a:(Sl Line)} {b:(Sl Line)} {iv1:Int} {X1:St→Prop} {P1:Int→Bool} {S1:Int→Bool}
def zwf (a:(Sl Line)) (b:(Sl Line)) (S1:Int→Bool) (iv1:Int):Bool :=
  (cond (decide (iv1 < (a.len : Int)))
 (cond (!(match (match ((a.get iv1.toNat).Slope.Num == (b.get iv1.toNat).Slope.Num) with | true => (match ((a.get iv1.toNat).Slope.Den == (b.get iv1.toNat).Slope.Den) with | true => true | false => false) | false => false) with | true => (match (match ((a.get iv1.toNat).Start.Num == (b.get iv1.toNat).Start.Num) with | true => (match ((a.get iv1.toNat).Start.Den == (b.get iv1.toNat).Start.Den) with | true => true | false => false) | false => false) with | true => true | false => false) | false => false))
 false
 (S1 (w64 (iv1+(1:Int)))))
 true)
def zwg (a:(Sl Line)) (b:(Sl Line)) (P1:Int→Bool) (iv1:Int):Bool :=
  (cond (decide (iv1 < (a.len : Int)))
 (decide ((0≤iv1∧iv1 < (a.len:Int))) &&
 (decide ((0≤iv1∧iv1 < (b.len:Int))) &&
 (cond (!(match (match ((a.get iv1.toNat).Slope.Num == (b.get iv1.toNat).Slope.Num) with | true => (match ((a.get iv1.toNat).Slope.Den == (b.get iv1.toNat).Slope.Den) with | true => true | false => false) | false => false) with | true => (match (match ((a.get iv1.toNat).Start.Num == (b.get iv1.toNat).Start.Num) with | true => (match ((a.get iv1.toNat).Start.Den == (b.get iv1.toNat).Start.Den) with | true => true | false => false) | false => false) with | true => true | false => false) | false => false))
 true
 (P1 (w64 (iv1+(1:Int)))))))
 true)
def zwh (a:(Sl Line)) (b:(Sl Line)):Nat→Int→Bool:=lpO (fun _=>default) (zwf a b)
def zwi (a:(Sl Line)) (b:(Sl Line)):Nat→Int→Bool:=lpO (fun _=>false) (zwg a b)
def zwj (a:(Sl Line)) (b:(Sl Line)) (iv1:Int):Bool:=zwh a b Fuel iv1
def zwk (a:(Sl Line)) (b:(Sl Line)) (iv1:Int):Bool:=zwi a b Fuel iv1
theorem zEx (hs:zwk a b iv1=true) (hk:K (e34 (zwj a b iv1))):z34 K [1,1,0,1,0] [] (zB9 a b iv1) :=
  zl (fun X=>z34 K [1,1,0,1,0,0] [X]) (by kernel_rfl) fun X1 hX =>
  (show ∀ k, zIF K a b X1 (zwi a b k) (zwh a b k) from zgL _ _ (zwg a b) (zwf a b) (zIF K a b X1)
 (by intro _ hs;exact absurd hs Bool.false_ne_true)
 (by intro P1 S1 hX1 iv1 hs hk;exact hX _ (zax (by kernel_rfl) (zc hs hk (fun hs hk=>(zaw hs fun hc hs=>And.intro hc (zaw hs fun hc hs=>And.intro hc (zc hs hk (fun hs hk=>hk) (fun hs hk=>(hX1 hs hk)))))) (fun hs hk=>hk))))) _ hs hk
def zwl (a:(Sl Line)) (b:(Sl Line)):Bool :=
  (zwj a b (0:Int))
def zwm (a:(Sl Line)) (b:(Sl Line)):Bool :=
  (zwk a b (0:Int))
theorem zEy (hs:zwm a b=true) (hk:K (e34 (zwl a b))):z34 K [1,1] [] ⟨[(0,zS zbL 4 a),(1,zS zbL 4 b)],[],[]⟩:=zax (by kernel_rfl) (zEx hs hk)
def s34 (a:(Sl Line)) (b:(Sl Line)):Bool :=
  (cond ((a.len : Int) != (b.len : Int))
 false
 (zwl a b))
def p34 (a:(Sl Line)) (b:(Sl Line)):Bool :=
  (cond ((a.len : Int) != (b.len : Int))
 true
 (zwm a b))
end
theorem q34 (a:(Sl Line)) (b:(Sl Line)) (K:List PA→Prop) (hs:p34 a b=true) (hk:K (e34 (s34 a b))):vcFun Try.prog G34 zEw 34 [.one (.sl a.len 4 (fun i=>zbL (a.get i))),.one (.sl b.len 4 (fun i=>zbL (b.get i)))] K :=
  zax (by kernel_rfl) (zc hs hk (fun hs hk=>hk) (fun hs hk=>(zEy hs hk)))
def zEz : List PA → COut
  | [.one (.sl a0_n a0_s a0_g),.one (.sl a1_n a1_s a1_g)]=>.det (IsE zbL 4 a0_s a0_g∧IsE zbL 4 a1_s a1_g∧p34 (⟨a0_n,zjg a0_g⟩:(Sl Line)) (⟨a1_n,zjg a1_g⟩:(Sl Line))=true) [.one (.bool (s34 (⟨a0_n,zjg a0_g⟩:(Sl Line)) (⟨a1_n,zjg a1_g⟩:(Sl Line))))]
  | _=>.no
theorem zIG:zai Try.prog 34:=⟨_,rfl,rfl,by kernel_rfl⟩
theorem zN1:Ok Try.prog 34 zEz:=zaG zLg zIG fun args K h=>by
  unfold zEz at h
  split at h
  · rename_i a0_n a0_s a0_g a1_n a1_s a1_g
    obtain ⟨⟨⟨rfl,a0_f,rfl⟩,⟨rfl,a1_f,rfl⟩,hs⟩,hk⟩:=h
    try rw [zeE a0_f] at hs
    try rw [zeE a0_f] at hk
    try rw [zeE a1_f] at hs
    try rw [zeE a1_f] at hk
    exact ⟨(fun _ _=>[]),(fun _=>false),zEw,q34 (⟨a0_n,a0_f⟩:(Sl Line)) (⟨a1_n,a1_f⟩:(Sl Line)) K hs hk⟩
  · exact h.elim
abbrev T84:Tabs:=((Tabs.nil.addF 65 zvv).addF 66 zvw)
theorem zLh:TabsOk Try.prog T84:=((TabsOk.nil.addF zKZ).addF zK2)
abbrev G84:Ctrs:=csm T84 (fun _ _=>[]) (fun _=>false)
def zEA:Ann:=⟨25,[(0,zK [0,1] []),(1,zK [0,1,5] []),(2,zK [0,5,8,9,10] []),(3,zK [0,5,8,9,10,11] [20]),(4,zK [0,5,7,8,9,10] [20]),(5,zK [0,5,8,9,10] [20]),(6,zK [0,5,8,9,10] [20]),(7,zK [4] [])],
 [(3,⟨[0,5,8,9,10],[20],[(5,20,55,fun _=>enc_55 default)],[],[],[],[]⟩)],
 [],
 [],[]⟩
abbrev R84:=Bool
abbrev e84 (r:R84):List PA:=[.one (.bool r)]
@[irreducible] def z84:=ptF Try.prog G84 zEA Try.f84
def zCa (zaa:(Sl Gate)) (l_a1:(Sl Int)) (zcT:Int) (zck:(Sl Gate)) (zfn:Nat→List PV):St:=⟨[(0,zS enc_55 3 zaa),(5,zv 20),(8,zS zat 1 l_a1),(9,zI (l_a1.len:Int)),(10,zI zcT)],[(20,.vec 55 3 24 zck.len zfn)],[]⟩
abbrev zIH (K:List PA→Prop) (zaa:(Sl Gate)) (l_a1:(Sl Int)) (X:St→Prop) (P:Int→(Sl Gate)→Bool) (S:Int→(Sl Gate)→Bool):Prop:=∀ ⦃zcT:Int⦄ ⦃zck:(Sl Gate)⦄ ⦃zfn:Nat→List PV⦄,P zcT zck=true→K (e84 (S zcT zck))→zfn=zg enc_55 zck→X (zCa zaa l_a1 zcT zck zfn)
section
variable {K:List PA→Prop} {zaa:(Sl Gate)} {l_a1:(Sl Int)} {zcT:Int} {zck:(Sl Gate)} {zfn:Nat→List PV} {X0:St→Prop} {P0:Int→(Sl Gate)→Bool} {S0:Int→(Sl Gate)→Bool}
def zwn (zaa:(Sl Gate)) (l_a1:(Sl Int)) (S0:Int→(Sl Gate)→Bool) (zcT:Int) (zck:(Sl Gate)):Bool :=
  (cond (decide (zcT < (l_a1.len : Int)))
 (S0 (w64 (zcT+(1:Int))) (⟨(zck.len+1),(zdt zck.len zck.get (fun _=>(zaa.get ((l_a1.get zcT.toNat).toNat))))⟩:Sl Gate))
 (s66 (s65 zck)))
def zwo (zaa:(Sl Gate)) (l_a1:(Sl Int)) (P0:Int→(Sl Gate)→Bool) (zcT:Int) (zck:(Sl Gate)):Bool :=
  (cond (decide (zcT < (l_a1.len : Int)))
 (decide ((0≤zcT∧zcT < (l_a1.len:Int))) &&
 (decide ((0≤(l_a1.get zcT.toNat)∧(l_a1.get zcT.toNat) < (zaa.len:Int))) &&
 (decide (((zck.len+1) * 24≤140737488355328∧zck.len+1≤9223372036854775807)) &&
 (P0 (w64 (zcT+(1:Int))) (⟨(zck.len+1),(zdt zck.len zck.get (fun _=>(zaa.get ((l_a1.get zcT.toNat).toNat))))⟩:Sl Gate)))))
 (decide ((p65 zck=true)) &&
 (decide ((p66 (s65 zck)=true)) &&
 true)))
def zwp (zaa:(Sl Gate)) (l_a1:(Sl Int)):Nat→Int→(Sl Gate)→Bool:=lpO (fun _ _=>default) (zwn zaa l_a1)
def zwq (zaa:(Sl Gate)) (l_a1:(Sl Int)):Nat→Int→(Sl Gate)→Bool:=lpO (fun _ _=>false) (zwo zaa l_a1)
def zwr (zaa:(Sl Gate)) (l_a1:(Sl Int)) (zcT:Int) (zck:(Sl Gate)):Bool:=zwp zaa l_a1 Fuel zcT zck
def zwt (zaa:(Sl Gate)) (l_a1:(Sl Int)) (zcT:Int) (zck:(Sl Gate)):Bool:=zwq zaa l_a1 Fuel zcT zck
theorem zEB (hs:zwt zaa l_a1 zcT zck=true) (hk:K (e84 (zwr zaa l_a1 zcT zck))) (zqa:zfn=zg enc_55 zck):z84 K [1,1,0,1,0] [] (zCa zaa l_a1 zcT zck zfn) :=
  zl (fun X=>z84 K [1,1,0,1,0,0] [X]) (by kernel_rfl) fun X0 hX =>
  (show ∀ k, zIH K zaa l_a1 X0 (zwq zaa l_a1 k) (zwp zaa l_a1 k) from zgL _ _ (zwo zaa l_a1) (zwn zaa l_a1) (zIH K zaa l_a1 X0)
 (by intro _ _ _ hs;exact absurd hs Bool.false_ne_true)
 (by intro P0 S0 hX0 zcT zck zfn hs hk zqa;subst zqa;exact hX _ (zax (by kernel_rfl) (zc hs hk (fun hs hk=>(zaw hs fun hc hs=>And.intro hc (zaw hs fun hc hs=>And.intro hc (zaw hs fun hc hs=>And.intro hc (hX0 hs hk (zjd (enc:=enc_55) (f:=zck.get) (h:=(fun _=>(zaa.get ((l_a1.get zcT.toNat).toNat)))) rfl rfl)))))) (fun hs hk=>(zaw hs fun hc hs=>And.intro (And.intro (zE enc_55 3 zck.get) hc) (zaw hs fun hc hs=>And.intro (And.intro (zE enc_55 3 ((s65 zck).list.Gates.get)) (And.intro (zE zaf 3 ((s65 zck).corners.get)) hc)) hk))))))) _ hs hk zqa
def s84 (zaa:(Sl Gate)) (l_a1:(Sl Int)):Bool :=
  (zwr zaa l_a1 (0:Int) (⟨0,(fun _=>default)⟩:Sl Gate))
def p84 (zaa:(Sl Gate)) (l_a1:(Sl Int)):Bool :=
  (zwt zaa l_a1 (0:Int) (⟨0,(fun _=>default)⟩:Sl Gate))
end
theorem q84 (zaa:(Sl Gate)) (l_a1:(Sl Int)) (K:List PA→Prop) (hs:p84 zaa l_a1=true) (hk:K (e84 (s84 zaa l_a1))):vcFun Try.prog G84 zEA 84 [.one (.sl zaa.len 3 (fun i=>enc_55 (zaa.get i))),.one (.sl l_a1.len 1 (fun i=>zat (l_a1.get i)))] K :=
  zax (by kernel_rfl) (zEB hs hk rfl)
def zEC : List PA → COut
  | [.one (.sl a0_n a0_s a0_g),.one (.sl a1_n a1_s a1_g)]=>.det (IsE enc_55 3 a0_s a0_g∧IsE zat 1 a1_s a1_g∧p84 (⟨a0_n,zad a0_g⟩:(Sl Gate)) (⟨a1_n,zcQ a1_g⟩:(Sl Int))=true) [.one (.bool (s84 (⟨a0_n,zad a0_g⟩:(Sl Gate)) (⟨a1_n,zcQ a1_g⟩:(Sl Int))))]
  | _=>.no
theorem zII:zai Try.prog 84:=⟨_,rfl,rfl,by kernel_rfl⟩
theorem zN2:Ok Try.prog 84 zEC:=zaG zLh zII fun args K h=>by
  unfold zEC at h
  split at h
  · rename_i a0_n a0_s a0_g a1_n a1_s a1_g
    obtain ⟨⟨⟨rfl,a0_f,rfl⟩,⟨rfl,a1_f,rfl⟩,hs⟩,hk⟩:=h
    try rw [zac a0_f] at hs
    try rw [zac a0_f] at hk
    try rw [zdu a1_f] at hs
    try rw [zdu a1_f] at hk
    exact ⟨(fun _ _=>[]),(fun _=>false),zEA,q84 (⟨a0_n,a0_f⟩:(Sl Gate)) (⟨a1_n,a1_f⟩:(Sl Int)) K hs hk⟩
  · exact h.elim
end Go.Proofs
