/- Part 4 of what the proof rests on: a machine that runs functions of the program on pure values, proved sound; the functions that the law reaches, and what they compute. -/
import Derived.Test.YtkpjhhoafenogaaQ3
import Derived.Sort.OwnSortedInts
import Derived.Lib.SlicesCompact
import Derived.ProofKit
import Derived.Deep.Slices
import Derived.Shelf.SlSortCmp.WholeK
import Derived.Test.YtkpjhhoafenogaaProg
import Derived.Shelf.SlSortCmp.NoneTotal
set_option linter.all false
namespace Go.Pm

structure Tabs where
  fn:List (Nat×(List PA→COut))
  own:List (Nat×OwnK)
  it:List (Nat×(List PA→Option (Prop×List (List PA))))
def zuV : List (Nat × (List PA → COut)) → Nat → List PA → COut
  | [],_=>fun _=>.no
  | (k,c) :: r,n=>match Nat.beq k n with | true=>c | false=>zuV r n
def zuW (l:List (Nat×OwnK)) (f:Nat):OwnK:=match lk l f with | some c=>c | none=>.none
def zDG (l:List (Nat×(List PA→Option (Prop×List (List PA))))) (f:Nat):List PA→Option (Prop×List (List PA)):=match lk l f with | some c=>c | none=>fun _=>none
def csm (T:Tabs) (memo:Nat→Int→List Int) (vv:Nat→Bool):Ctrs:=⟨zuV T.fn,zuW T.own,zDG T.it,memo,vv⟩
abbrev cs (T:Tabs):Ctrs:=csm T (fun _ _=>[]) (fun _=>false)
def Tabs.nil:Tabs:=⟨[],[],[]⟩
def Tabs.addF (T:Tabs) (f:Nat) (c:List PA→COut):Tabs:=⟨(f,c) :: T.fn,T.own,T.it⟩
def Tabs.addO (T:Tabs) (f:Nat) (c:OwnK):Tabs:=⟨T.fn,(f,c) :: T.own,T.it⟩
def Tabs.addI (T:Tabs) (f:Nat) (c:List PA→Option (Prop×List (List PA))):Tabs:=⟨T.fn,T.own,(f,c) :: T.it⟩

theorem zLs {P:Program} {f:Nat} : Ok P f (fun _=>.no):=fun _ _ h=>h.elim
theorem zLt {P:Program} {f:Nat} : zBT P f (fun _=>none):=fun _ _ _ h=>by cases h

structure TabsOk (P : Program) (T : Tabs) : Prop where
  fn:∀ x∈T.fn,Ok P x.1 x.2
  own:∀ x∈T.own,zlD P x.1 x.2
  it:∀ x∈T.it,zBT P x.1 x.2
theorem TabsOk.nil {P:Program} : TabsOk P .nil:=⟨fun _ h=>(by cases h),fun _ h=>(by cases h),fun _ h=>(by cases h)⟩
theorem TabsOk.addF {P:Program} {T:Tabs} (h:TabsOk P T) {f:Nat} {c:List PA→COut} (hc:Ok P f c):TabsOk P (T.addF f c) :=
 ⟨fun x hx=>(List.mem_cons.1 hx).elim (fun e=>by rw [e];exact hc) (fun hx=>h.fn x hx),h.own,h.it⟩
theorem TabsOk.addO {P:Program} {T:Tabs} (h:TabsOk P T) {f:Nat} {c:OwnK} (hc:zlD P f c):TabsOk P (T.addO f c) :=
 ⟨h.fn,fun x hx=>(List.mem_cons.1 hx).elim (fun e=>by rw [e];exact hc) (fun hx=>h.own x hx),h.it⟩
theorem TabsOk.addI {P:Program} {T:Tabs} (h:TabsOk P T) {f:Nat} {c:List PA→Option (Prop×List (List PA))} (hc:zBT P f c):TabsOk P (T.addI f c) :=
 ⟨h.fn,h.own,fun x hx=>(List.mem_cons.1 hx).elim (fun e=>by rw [e];exact hc) (fun hx=>h.it x hx)⟩
theorem TabsOk.all {P:Program} {T:Tabs} (h:TabsOk P T) (memo:Nat→Int→List Int) (vv:Nat→Bool):OkAll P (csm T memo vv):=by
 refine ⟨fun f=>?_,fun f=>?_,fun f=>?_⟩
 ·show Ok P f (zuV T.fn f)
  have key:∀ l:List (Nat×(List PA→COut)),(∀ x∈l,Ok P x.1 x.2)→Ok P f (zuV l f):=by
   intro l
   induction l with
   | nil=>intro _;exact zLs
   | cons x l ih =>
    intro hl
    obtain ⟨k,c⟩:=x
    simp only [zuV]
    split
    ·rename_i e
     have:=hl (k,c) List.mem_cons_self
     rw [← Nat.eq_of_beq_eq_true e];exact this
    ·exact ih fun x hx=>hl x (List.mem_cons_of_mem _ hx)
  exact key T.fn h.fn
 ·show zlD P f (zuW T.own f)
  unfold zuW
  split
  ·rename_i c hc;exact h.own _ (zcy hc)
  ·trivial
 ·show zBT P f (zDG T.it f)
  unfold zDG
  split
  ·rename_i c hc;exact h.it _ (zcy hc)
  ·exact zLt

theorem zay {P : Program} {T : Tabs} (hT : TabsOk P T) {f : FuncId} {C : List PA → COut} (hc : zaf P f)
    (h:∀ args K,(C args).wp K→∃ memo vv ann,vcFun P (csm T memo vv) ann f args K):Ok P f C :=
  zAG (hT.all (fun _ _=>[]) (fun _=>false)) hc h
theorem zIe {P : Program} {T : Tabs} (hT : TabsOk P T) {f : FuncId} {C : List PA → Option (Prop × List (List PA))} (hc : zaf P f)
    (h:∀ l caps safe ys,C caps=some (safe,ys)→safe→∃ memo vv ann,vcIter P (csm T memo vv) ann f l caps ys):zBT P f C :=
  zAK (hT.all (fun _ _=>[]) (fun _=>false)) hc h
theorem zuX {P : Program} {T : Tabs} (hT : TabsOk P T) {f : FuncId} {e s b : Nat} (hc : zaf P f)
    (h:∀ n get,n * b≤140737488355328→n≤9223372036854775807→∃ memo vv ann,zuU P (csm T memo vv) ann f [.one (.sl n s get)] e s b n get):zlD P f (.clone e s b) :=
  zpa (hT.all (fun _ _=>[]) (fun _=>false)) hc h

structure Sl (α : Type) where
  len:Nat
  get:Nat→α
instance {α:Type} [Inhabited α]:Inhabited (Sl α):=⟨⟨0,fun _=>default⟩⟩
abbrev w64 (x:Int):Int:=IntKind.i64.wrap x

def IsE {α:Type} (enc:α→List PV) (size s:Nat) (g:Nat→List PV):Prop:=s=size∧∃ f:Nat→α,g=fun i=>enc (f i)
theorem isE {α:Type} {enc:α→List PV} {size:Nat} {f:Nat→α} : IsE enc size size (fun i=>enc (f i)):=⟨rfl,f,rfl⟩
def zdW {α:Type} (n:Nat) (get new:Nat→α):Nat→α:=fun j=>match Nat.ble n j with | true=>new (j - n) | false=>get j
theorem zAL {α:Type} {enc:α→List PV} {n:Nat} {f h:Nat→α} : appG n (fun i=>enc (f i)) (fun i=>enc (h i))=fun i=>enc (zdW n f h i):=by
 funext j;simp only [appG,zdW];cases Nat.ble n j <;> rfl
def zi5 {α : Type} (x : α) : List α → Nat → α
  | [],_=>x
  | y :: _,0=>y
  | _ :: r,i+1=>zi5 x r i
theorem zes {α:Type} {enc:α→List PV} {x y:α} {r:List α} : zdk (enc x :: enc y :: r.map enc)=fun i=>enc (zi5 x (x :: y :: r) i):=by
 have key:∀ (l:List α) (i:Nat),(match (l.map enc)[i]? with | some z=>z | none=>enc x)=enc (zi5 x l i):=by
  intro l
  induction l with
  | nil=>intro i;rfl
  | cons a l ih =>
   intro i
   cases i with
   | zero=>rfl
   | succ i=>simpa [zi5] using ih i
 funext i
 exact key (x :: y :: r) i
theorem zfw {α:Type} {enc:α→List PV} {size:Nat} {x y:α} (r:List α):IsE enc size size (zdk (enc x :: enc y :: r.map enc)):=⟨rfl,_,zes⟩

theorem zcj {b:Bool} {A B:Prop} {S S':Bool} {α:Type} {K:α→Prop} {x y:α} (h1:S=true→K x→A) (h2:S'=true→K y→B) (hs:cond b S S'=true) (hk:K (cond b x y)):zc0 b A B:=by
 cases b
 ·exact h2 hs hk
 ·exact h1 hs hk
theorem zl5 {b:Bool} {A B:Prop} {S S':Bool} {α β:Type} {f:α→β} {ys:List β} {x y:List α} (hs:cond b S S'=true) (hk:ys=(cond b x y).map f) (h1:S=true→ys=x.map f→A) (h2:S'=true→ys=y.map f→B):zc0 b A B:=by
 cases b
 ·exact h2 hs hk
 ·exact h1 hs hk
theorem itY {α β:Type} {f:α→β} {ys:List β} {p:β} {x r:List α} {l:Nat} {A:List β→Prop} (hk:ys=x.map f) (e:x.map f=p :: r.map f) (h:∀ zs,zs=r.map f→A zs):l=l∧∃ z,ys=p :: z∧A z∧True :=
 ⟨rfl,_,hk.trans e,h _ rfl,trivial⟩
theorem zau {C A:Prop} [d:Decidable C] {r:Bool} (hs:(decide C && r)=true) (k:C→r=true→A):A:=by
 rw [Bool.and_eq_true] at hs
 exact k (of_decide_eq_true hs.1) hs.2
abbrev Fuel:Nat:=9223372036854775808
def setT {α:Type} (i:Nat) (v:α) (get:Nat→α):Nat→α:=fun j=>match Nat.beq j i with | true=>v | false=>get j
theorem zeP {α:Type} {enc:α→List PV} {n:Nat} {g g':Nat→List PV} {f h:Nat→α} (h1:g=fun i=>enc (f i)) (h2:g'=fun i=>enc (h i)):appG n g g'=fun i=>enc (zdW n f h i):=by
 subst h1;subst h2;exact zAL
def zNp (P:Program) (G:Ctrs) (ann:Ann) (hd:Nat) (ps:List Nat) (assign body:Code) (X:List (List PA)→St→Prop) (K:Exit→St→Prop) (y:List PA) (rest:List (List PA)) (s:St):Prop :=
 match lk ann.head hd with
 | some k=>match zgG ps y s.env with
  | some env=>vc P G ann assign (zDh (vc P G ann body (zk3 P k (X rest) K)) fun _ _=>False) ⟨env,s.objs,[]⟩
  | none=>False
 | none=>False
def sortB (n:Nat) (p:Nat→Nat→Bool) (c:Nat→Nat→Int):Bool :=
  (List.range n).all fun i => decide (0 ≤ c i i) && (List.range n).all fun j => p i j && (Nat.beq i j || (decide (c i j < 0) && decide (0 ≤ c j i)) || (decide (c j i < 0) && decide (0 ≤ c i j))) &&
    (List.range n).all fun k=>!(decide (c i j < 0) && decide (c j k < 0)) || decide (c i k < 0)
theorem zAM {n:Nat} {p:Nat→Nat→Bool} {c c':Nat→Nat→Int} {s:Nat→Nat→Prop} (h:sortB n p c=true) (hp:∀ i j,p i j=true→s i j) (hc:c'=c):(∀ i j,i < n→j < n→s i j)∧STO n c':=by
 subst hc
 simp only [sortB,List.all_eq_true,List.mem_range,Bool.and_eq_true,Bool.or_eq_true,decide_eq_true_eq,Bool.not_eq_true',Bool.and_eq_false_iff,decide_eq_false_iff_not] at h
 refine ⟨fun i j hi hj=>hp i j ((h i hi).2 j hj).1.1,fun i hi=>(h i hi).1,fun i j hi hj hne=>?_,fun i j k hi hj hk h1 h2=>?_⟩
 ·rcases ((h i hi).2 j hj).1.2 with (h1 | h1) | h1
  ·exact absurd (Nat.eq_of_beq_eq_true h1) hne
  ·exact .inl h1
  ·exact .inr h1
 ·rcases ((h i hi).2 j hj).2 k hk with (h3 | h3) | h3
  ·exact absurd h1 h3
  ·exact absurd h2 h3
  ·exact h3
end Go.Pm
namespace Go.Pm
open Go Go.Sort

/-! Nil slices are slices of length 0. -/
inductive PVle : PV → PV → Prop
  | rfl (p:PV):PVle p p
  | nil (s:Nat) (g:Nat→List PV):PVle .nils (.sl 0 s g)
  | nilm (q:MQ):PVle .nilm (.fm q 0 (fun _=>none))
inductive PAle : PA → PA → Prop
  | one {p q:PV} : PVle p q→PAle (.one p) (.one q)
  | agg {l m:List PV} : RL PVle l m→PAle (.agg l) (.agg m)
theorem zhl {α β:Type} {R:α→β→Prop} : RL R [] []:=trivial
theorem zc9 {α β:Type} {R:α→β→Prop} {a:α} {b:β} {l:List α} {m:List β} (h:R a b) (h':RL R l m):RL R (a :: l) (b :: m):=⟨h,h'⟩
theorem ze0 {α : Type} {R : α → α → Prop} (h : ∀ a, R a a) : ∀ l : List α, RL R l l
  | []=>trivial
  | a :: l=>⟨h a,ze0 h l⟩
theorem zfW (a:PA):PAle a a:=by
 cases a with
 | one p=>exact .one (.rfl p)
 | agg l=>exact .agg (ze0 .rfl l)
def Wk (K:List PA→Prop) (l:List PA):Prop:=∃ l',RL PAle l l'∧K l'
theorem wk {K:List PA→Prop} {l l':List PA} (hk:K l') (h:RL PAle l l'):Wk K l:=⟨l',h,hk⟩
theorem zd8 {K:List PA→Prop} {l:List PA} (hk:K l):Wk K l:=⟨l,ze0 zfW l,hk⟩
theorem zIf {h:Fz} {p q:PV} {v:Value} (e:PVle p q) (r:Rep h p v):Rep h q v:=by
 cases e with
 | rfl=>exact r
 | nil s g=>cases r;exact .sl0 s g
 | nilm q=>cases r;exact .fmn q _ (fun _ _=>rfl)
theorem zAN {α β γ : Type} {R : α → β → Prop} {S : α → γ → Prop} {T : γ → β → Prop} (h : ∀ a b c, S a c → R a b → T c b) : ∀ (l : List α) (m : List β) (k : List γ), RL S l k → RL R l m → RL T k m
  | [],[],[],_,_=>trivial
  | a :: l,b :: m,c :: k,hs,hr=>⟨h a b c hs.1 hr.1,zAN h l m k hs.2 hr.2⟩
  | [],_ :: _,[],_,hr=>hr.elim
  | [],_,_ :: _,hs,_=>hs.elim
  | _ :: _,_,[],hs,_=>hs.elim
  | _ :: _,[],_ :: _,_,hr=>hr.elim
theorem zDH {h:Fz} {a b:PA} {v:Value} (e:PAle a b) (r:paR h a v):paR h b v:=by
 cases e with
 | one e=>exact zIf e r
 | agg e =>
  obtain ⟨vs,rfl,hv⟩:=r
  exact ⟨vs,rfl,zAN (R:=Rep h) (S:=PVle) (T:=Rep h) (fun _ _ _ e r=>zIf e r) _ _ _ e hv⟩
theorem zIg {h:Fz} {l m:List PA} {v:Value} (e:RL PAle l m) (r:zAd h l v):zAd h m v:=by
 match l,m,e,r with
 | [a],[b],e,r=>exact zDH e.1 r
 | [],[],_,r=>exact r
 | a :: b :: l,c :: d :: m,e,r =>
  obtain ⟨vs,hv,hr⟩:=r
  exact ⟨vs,hv,zAN (R:=paR h) (S:=PAle) (T:=paR h) (fun _ _ _ e r=>zDH e r) _ _ _ e hr⟩
 | [_],_ :: _ :: _,e,_=>exact e.2.elim
 | _ :: _ :: _,[_],e,_=>exact e.2.elim
 | [],_ :: _,e,_=>exact e.elim
 | _ :: _,[],e,_=>exact e.elim
theorem zhm {P : Program} {T : Tabs} (hT : TabsOk P T) {f : FuncId} {C : List PA → COut} (hc : zaf P f)
    (h:∀ args K,(C args).wp K→∃ args',RL PAle args args'∧∃ memo vv ann,vcFun P (csm T memo vv) ann f args' (Wk K)):Ok P f C:=by
  intro args K hK w h0 vs hvs hfz
  obtain ⟨args',hle,memo,vv,ann,hv⟩:=h args K hK
  refine ⟨hc,(zuS (hT.all memo vv) hv (zAN (R:=paR h0) (S:=PAle) (T:=paR h0) (fun _ _ _ e r=>zDH e r) _ _ _ hle hvs) hfz).mono ?_⟩
  rintro e w' ⟨h',rs,v,⟨rs',hr,hk⟩,he,hres,rest⟩
  exact ⟨h',rs',v,hk,he,zIg hr hres,rest⟩
/-! Maps, as typed values; the keys of a map. -/
structure Mp where
  n:Nat
  F:List Int→Option (List Int)
instance:Inhabited Mp:=⟨⟨0,fun _=>none⟩⟩

def zIh (m:Nat) (F:List Int→Option (List Int)) (seen ys:List (List Int)):Prop :=
 ys.Nodup∧(∀ y∈ys,y.length=m∧F y ≠ none∧y ∉ seen)∧∀ c,c.length=m→F c ≠ none→c ∉ seen→c∈ys
def nodupB : List (List Int) → Bool
  | []=>true
  | y :: r=>!r.contains y && nodupB r
def keysB (m n:Nat) (F:List Int→Option (List Int)) (ys:List (List Int)):Bool :=
 Nat.beq ys.length n && ys.all (fun y=>Nat.beq y.length m && (F y).isSome) && nodupB ys
theorem zlq : ∀ {ys : List (List Int)}, nodupB ys = true ↔ ys.Nodup
  | []=>by simp [nodupB]
  | y :: r=>by simp [nodupB,zlq (ys:=r)]
theorem znP {α : Type} [DecidableEq α] : ∀ {l m : List α}, l.Nodup → (∀ x ∈ l, x ∈ m) → m.length ≤ l.length → ∀ x ∈ m, x ∈ l
  | [],m,_,_,hl,x,hx=>by have:m=[]:=List.eq_nil_of_length_eq_zero (by simpa using hl);rw [this] at hx;exact hx
  | a :: l,m,hn,hs,hl,x,hx=>by
    have ha:=hs a List.mem_cons_self
    by_cases h:x=a
    · rw [h];exact List.mem_cons_self
    · have hx2 : x ∈ m.erase a := (List.mem_erase_of_ne h).2 hx
      have hn2:=List.nodup_cons.1 hn
      refine List.mem_cons_of_mem _ (znP hn2.2 (fun z hz=>?_) ?_ x hx2)
      · have hza : z ≠ a := fun e => hn2.1 (e ▸ hz)
        exact (List.mem_erase_of_ne hza).2 (hs z (List.mem_cons_of_mem _ hz))
      · rw [List.length_erase_of_mem ha];simp at hl;omega
theorem zuY {m n:Nat} {F:List Int→Option (List Int)} {ys:List (List Int)} (h:keysB m n F ys=true) (hf:zHQ m n F):zIh m F [] ys:=by
 simp only [keysB,Bool.and_eq_true,List.all_eq_true] at h
 obtain ⟨⟨h1,h2⟩,h3⟩:=h
 have h1:=Nat.eq_of_beq_eq_true h1
 have h3:=zlq.1 h3
 obtain ⟨ks,k1,k2,k3,k4⟩:=hf
 have hy:∀ y∈ys,y.length=m∧F y ≠ none:=fun y hy=>by
  obtain ⟨a,b⟩:=h2 y hy
  refine ⟨Nat.eq_of_beq_eq_true a,fun e=>?_⟩
  rw [e] at b;cases b
 refine ⟨h3,fun y hy'=>⟨(hy y hy').1,(hy y hy').2,by simp⟩,fun c hc hne _=>?_⟩
 exact znP h3 (fun y hy'=>(k4 y (hy y hy').1).1 (hy y hy').2) (by rw [k1,h1];exact Nat.le_refl _) c ((k4 c hc).1 hne)
theorem zAO {m : Nat} {F : List Int → Option (List Int)} {seen ys : List (List Int)} (h : zIh m F seen ys) {c : List Int} (hc : c.length = m) (hF : F c ≠ none) (hs : c ∉ seen) :
  ys.Perm (c :: ys.erase c)∧zIh m F (c :: seen) (ys.erase c)∧(ys.erase c).length+1=ys.length:=by
 obtain ⟨h1,h2,h3⟩:=h
 have hm:=h3 c hc hF hs
 refine ⟨List.perm_cons_erase hm,⟨h1.erase c,fun y hy=>?_,fun d hd hdF hds=>?_⟩,?_⟩
 ·have := (List.Nodup.mem_erase_iff h1).1 hy
  obtain ⟨a,b,e⟩:=h2 y this.2
  exact ⟨a,b,by simp [this.1,e]⟩
 ·simp only [List.mem_cons, not_or] at hds
  exact (List.mem_erase_of_ne hds.1).2 (h3 d hd hdF hds.2)
 ·rw [List.length_erase_of_mem hm]
  have:0 < ys.length:=List.length_pos_of_mem hm
  omega
theorem zDI {m:Nat} {F:List Int→Option (List Int)} {seen ys:List (List Int)} (h:zIh m F seen ys) (he:∀ c,c.length=m→F c ≠ none→c∈seen):ys=[]:=by
 cases ys with
 | nil=>rfl
 | cons y r =>
  obtain ⟨a,b,e⟩:=h.2.1 y List.mem_cons_self
  exact (e (he y a b)).elim

end Go.Pm
namespace Go.Pm
open Go

theorem zaH {x:Int} (h1 : -9223372036854775808≤x) (h2:x≤9223372036854775807):w64 x=x:=by
 have hb:IntKind.i64.bits=64:=rfl
 have hs:IntKind.i64.signed=true:=rfl
 unfold w64 IntKind.wrap
 rw [hb,hs]
 simp only [Bool.true_and,decide_eq_true_eq]
 split <;> omega
def zkS (c : Nat → Bool) : Nat → Nat → Nat
  | 0,i=>i
  | m+1,i=>match c i with | true=>i | false=>zkS c m (i+1)
theorem zuZ {c:Nat→Bool} {m i:Nat} (h:c i=true):zkS c (m+1) i=i:=by simp only [zkS,h]
theorem zu0 {c:Nat→Bool} {m i:Nat} (h:c i=false):zkS c (m+1) i=zkS c m (i+1):=by simp only [zkS,h]
theorem zjJ (c:Nat→Bool) (m i:Nat):i≤zkS c m i∧zkS c m i≤i+m∧(∀ j,i≤j→j < zkS c m i→c j=false)∧(zkS c m i < i+m→c (zkS c m i)=true):=by
 induction m generalizing i with
 | zero=>exact ⟨Nat.le_refl _,Nat.le_refl _,fun j h1 h2=>absurd h2 (by simp only [zkS];omega),fun h=>absurd h (by simp only [zkS];omega)⟩
 | succ m ih =>
  cases e:c i
  ·rw [zu0 e]
   obtain ⟨h1,h2,h3,h4⟩:=ih (i+1)
   refine ⟨by omega,by omega,fun j hj1 hj2=>?_,fun h=>h4 (by omega)⟩
   by_cases hji:j=i
   ·rw [hji];exact e
   ·exact h3 j (by omega) hj2
  ·rw [zuZ e]
   exact ⟨Nat.le_refl _,by omega,fun j h1 h2=>absurd h2 (by omega),fun _=>e⟩
def fst (c:Nat→Bool) (n:Nat):Nat:=zkS c n 0
theorem zB7 (c:Nat→Bool) (n:Nat):fst c n≤n:=by have:=(zjJ c n 0).2.1;simpa [fst] using this
theorem zB8 {c:Nat→Bool} {n j:Nat} (h:j < fst c n):c j=false:=(zjJ c n 0).2.2.1 j (Nat.zero_le _) h
theorem zB9 {c:Nat→Bool} {n:Nat} (h:fst c n < n):c (fst c n)=true:=(zjJ c n 0).2.2.2 (by simpa [fst] using h)
theorem zr1 {α : Type} {c : α → Bool} {lpS : Nat → Sl α → Int → Int → Int} {lpP : Nat → Sl α → Int → Int → Bool}
    (hS:∀ k s t i,lpS (k+1) s t i=cond (decide (i < t)) (cond (c (s.get i.toNat)) i (lpS k s t (w64 (i+(1:Int))))) (-1:Int))
    (hP:∀ k s t i,lpP (k+1) s t i=cond (decide (i < t)) (decide (0≤i∧i < (s.len:Int)) && cond (c (s.get i.toNat)) true (lpP k s t (w64 (i+(1:Int))))) true)
    (s:Sl α) (hn:s.len≤9223372036854775807):lpP Fuel s (s.len:Int) 0=true∧lpS Fuel s (s.len:Int) 0=if fst (fun i=>c (s.get i)) s.len < s.len then ((fst (fun i=>c (s.get i)) s.len:Nat):Int) else -1:=by
  have key:∀ (m k i:Nat),i+m=s.len→m < k→lpP k s (s.len:Int) (i:Int)=true ∧
      lpS k s (s.len:Int) (i:Int)=if zkS (fun i=>c (s.get i)) m i < s.len then ((zkS (fun i=>c (s.get i)) m i:Nat):Int) else -1:=by
    intro m
    induction m with
    | zero =>
      intro k i hi hk
      obtain ⟨k,rfl⟩:∃ k',k=k'+1:=⟨k - 1,by omega⟩
      rw [hS,hP]
      have e:decide ((i:Int) < (s.len:Int))=false:=decide_eq_false (by omega)
      rw [e]
      have e5 : ¬ zkS (fun i=>c (s.get i)) 0 i < s.len:=by show ¬ i < s.len;omega
      rw [if_neg e5]
      exact ⟨rfl,rfl⟩
    | succ m ih =>
      intro k i hi hk
      obtain ⟨k,rfl⟩:∃ k',k=k'+1:=⟨k - 1,by omega⟩
      rw [hS,hP]
      have e:decide ((i:Int) < (s.len:Int))=true:=decide_eq_true (by omega)
      have e2:decide (0≤(i:Int)∧(i:Int) < (s.len:Int))=true:=decide_eq_true (by omega)
      have e3:w64 ((i:Int)+1)=((i+1:Nat):Int):=by rw [zaH (by omega) (by omega)];omega
      have e4:(i:Int).toNat=i:=by omega
      rw [e,e2,e3,e4]
      cases hc:c (s.get i)
      · rw [zu0 (c := fun i => c (s.get i)) hc]
        exact ih k (i+1) (by omega) (by omega)
      · rw [zuZ (c := fun i => c (s.get i)) hc, if_pos (by omega)]
        exact ⟨rfl,rfl⟩
  exact key s.len Fuel 0 (by omega) (by simp only [Fuel];omega)

theorem zr2 {good : Nat → Bool} {fin : Bool} {n : Nat} {lpS lpP : Nat → Int → Bool}
    (hS:∀ (k i:Nat),i < n→lpS (k+1) (i:Int)=cond (good i) (lpS k (w64 ((i:Int)+(1:Int)))) false)
    (hE:∀ k,lpS (k+1) (n:Int)=fin)
    (hP:∀ (k i:Nat),i < n→lpP (k+1) (i:Int)=cond (good i) (lpP k (w64 ((i:Int)+(1:Int)))) true)
    (hPE:∀ k,lpP (k+1) (n:Int)=true) (hn:n≤9223372036854775807) :
    lpP Fuel 0=true∧(lpS Fuel 0=true↔(∀ i,i < n→good i=true)∧fin=true):=by
  have key:∀ (m k i:Nat),i+m=n→m < k→lpP k (i:Int)=true∧(lpS k (i:Int)=true↔(∀ j,i≤j→j < n→good j=true)∧fin=true):=by
    intro m
    induction m with
    | zero =>
      intro k i hi hk
      obtain ⟨k,rfl⟩:∃ k',k=k'+1:=⟨k - 1,by omega⟩
      have:i=n:=by omega
      subst this
      rw [hE,hPE]
      exact ⟨rfl,⟨fun h=>⟨fun j h1 h2=>absurd h2 (by omega),h⟩,fun h=>h.2⟩⟩
    | succ m ih =>
      intro k i hi hk
      obtain ⟨k,rfl⟩:∃ k',k=k'+1:=⟨k - 1,by omega⟩
      rw [hS k i (by omega),hP k i (by omega)]
      have e3:w64 ((i:Int)+1)=((i+1:Nat):Int):=by rw [zaH (by omega) (by omega)];omega
      rw [e3]
      obtain ⟨h1,h2⟩:=ih k (i+1) (by omega) (by omega)
      cases hg:good i
      · refine ⟨rfl, ⟨fun h => (by cases h), fun h => ?_⟩⟩
        have:=h.1 i (Nat.le_refl _) (by omega)
        rw [hg] at this;cases this
      · refine ⟨h1, h2.trans ⟨fun h => ⟨fun j hj1 hj2 => ?_, h.2⟩, fun h => ⟨fun j hj1 hj2 => h.1 j (by omega) hj2, h.2⟩⟩⟩
        by_cases hji:j=i
        · rw [hji];exact hg
        · exact h.1 j (by omega) hj2
  have:=key n Fuel 0 (by omega) (by simp only [Fuel];omega)
  simpa using this

end Go.Pm
namespace Go.Pm
open Go Go.Deep

theorem zAP (b o i j:Nat):((⟨b,o,none⟩:Addr).add i).add j=⟨b,o+i+j,none⟩:=by
 simp only [Addr.add]
 by_cases h1:i=0
 ·subst h1
  by_cases h2:j=0
  ·subst h2;rfl
  ·rw [if_neg h2];rfl
 ·rw [if_neg h1]
  by_cases h2:j=0
  ·subst h2;rfl
  ·rw [if_neg h2]
def H0 (w:World):Fz:=fun b=>(w.heap[b]?).map .fz
theorem hw_H0 (w:World):Hw (H0 w) w:=by
 intro b x h
 unfold H0 at h
 cases e:w.heap[b]? with
 | none=>rw [e] at h;cases h
 | some o=>rw [e] at h;cases h;exact ⟨o,rfl,rfl⟩
def wfI (x:Int):Prop:=-9223372036854775808≤x∧x≤9223372036854775807
section
variable {H:Type} {en:TypeId×Value→H} {P:Program} {w:World} {sp:Nat→Bool} {held:Bool}
def Rd (H:Type) (en:TypeId×Value→H) (P:Program) (w:World) (sp:Nat→Bool) (held:Bool) (t:TypeId) {α:Type} (enc:α→List PV) (wf:α→Prop):Prop :=
 ∀ (fuel:Nat) (cs:List Value) (x:DataW H×List MemPlace),DataW.trod en P w 0 sp held fuel t cs=some x→∃ a:α,RL (Rep (H0 w)) (enc a) cs∧wf a
theorem zIi {t:TypeId} (ht:P.underlying t=some (.int .i64)):Rd H en P w sp held t (fun x=>[.int .i64 x]) wfI:=by
 intro fuel cs x h
 obtain ⟨n,rfl,_,hw⟩:=DataW.trod_int ht h
 refine ⟨n,⟨.int _ _,trivial⟩,?_⟩
 simp only [Lit.wf,Bool.and_eq_true,decide_eq_true_eq] at hw
 exact ⟨hw.1,hw.2⟩
theorem zu1 {t : TypeId} {fs : Array Field} (ht : P.underlying t = some (.struct fs)) {fuel : Nat} {cs : List Value} {x : DataW H × List MemPlace} (h : DataW.trod en P w 0 sp held fuel t cs = some x) :
  cs.length=P.cellsOf t∧∀ (i:Nat) (f:Field),fs[i]? = some f→∃ n y,DataW.trod en P w 0 sp held n f.type ((cs.drop f.offset).take (P.cellsOf f.type))=some y:=by
 obtain ⟨xs,n,_,_,hl,hx,hf⟩:=DataW.trod_struct ht h
 refine ⟨hl,fun i f hi=>?_⟩
 have hlt:i < xs.length:=by rw [hx];exact (Array.getElem?_eq_some_iff.1 hi).1
 exact ⟨n,xs[i],by rw [hf i f hi,List.getElem?_eq_getElem hlt]⟩
theorem zAQ {t e : TypeId} {α : Type} [Inhabited α] {enc : α → List PV} {wf : α → Prop} {s : Nat} (ht : P.underlying t = some (.slice e)) (hc : P.cellsOf e = s) (hs : 0 < s) (hlen : ∀ a, (enc a).length = s)
    (hel:Rd H en P w sp held e enc wf):Rd H en P w sp held t (fun x:Sl α=>[.sl x.len s (fun i=>enc (x.get i))]) (fun x=>x.len≤9223372036854775807∧∀ i,i < x.len→wf (x.get i)):=by
  intro fuel cs x h
  rcases open_slice ht h with ⟨rfl,_⟩ | ⟨a,len,cap,m,n,D,Pl,rfl,_,hl,hm,hmm,_,hget⟩
  · exact ⟨⟨0,default⟩,⟨.sl0 _ _,trivial⟩,Nat.zero_le _,fun i hi=>absurd hi (Nat.not_lt_zero i)⟩
  · by_cases h0 : len = 0
    · subst h0
      exact ⟨⟨0,default⟩,⟨.sle _ _ _ _,trivial⟩,Nat.zero_le _,fun i hi=>absurd hi (Nat.not_lt_zero i)⟩
    · have hlm : len ≤ m := by rw [hmm]; split <;> omega
      rw [hc] at hget
      have hex:∀ i,i < len→∃ y:α,(∃ cs',w.cells? 0 (a.add (i * s)) s=some cs'∧RL (Rep (H0 w)) (enc y) cs')∧wf y:=by
        intro i hi
        obtain ⟨cs',h1,h2⟩:=hget i (by omega)
        obtain ⟨y,h3,h4⟩:=hel _ _ _ h2
        exact ⟨y,⟨cs',h1,h3⟩,h4⟩
      have hch:∃ f:Nat→α,∀ i,i < len→(∃ cs',w.cells? 0 (a.add (i * s)) s=some cs'∧RL (Rep (H0 w)) (enc (f i)) cs')∧wf (f i):=by
        refine ⟨fun i=>if hi:i < len then Classical.choose (hex i hi) else default,fun i hi=>?_⟩
        simp only [dif_pos hi]
        exact Classical.choose_spec (hex i hi)
      obtain ⟨f,hf⟩:=hch
      -- the block
      have hcell:∀ i,i < len→∀ j,j < s→∃ cs',w.cells? 0 (a.add (i * s)) s=some cs'∧RL (Rep (H0 w)) (enc (f i)) cs'∧w.cell? ((a.add (i * s)).add j)=cs'[j]?∧cs'.length=s:=by
        intro i hi j hj
        obtain ⟨⟨cs',h1,h2⟩,_⟩:=hf i hi
        obtain ⟨_,h3,h4⟩:=World.cells?_some h1
        exact ⟨cs',h1,h2,h4 j hj,h3⟩
      obtain ⟨cs0,_,_,hc0,hl0⟩:=hcell 0 (by omega) 0 hs
      have ha0:w.cell? a=cs0[0]?:=by simpa [Addr.add] using hc0
      rw [List.getElem?_eq_getElem (by omega)] at ha0
      obtain ⟨C,ty,fr,hblk,hspot⟩:∃ C ty fr,w.heap[a.block]? = some (.cells C ty fr)∧a.spot=none:=by
        unfold World.cell? at ha0
        split at ha0
        · rename_i C ty fr hb
          refine ⟨C,ty,fr,hb,?_⟩
          cases hsp:a.spot with
          | none=>rfl
          | some k=>rw [hsp] at ha0;simp at ha0
        · cases ha0
      have ea:a=⟨a.block,a.off,none⟩:=by rw [← hspot]
      have hat:∀ i j,i < len→j < s→∃ cs',RL (Rep (H0 w)) (enc (f i)) cs'∧C[a.off+i * s+j]? = cs'[j]?∧cs'.length=s:=by
        intro i j hi hj
        obtain ⟨cs',_,h2,h3,h4⟩:=hcell i hi j hj
        refine ⟨cs',h2,?_,h4⟩
        rw [← h3]
        have e2:(a.add (i * s)).add j=⟨a.block,a.off+i * s+j,none⟩:=(congrArg (fun z:Addr=>(z.add (i * s)).add j) ea).trans (zAP _ _ _ _)
        rw [e2]
        simp [World.cell?,hblk]
      refine ⟨⟨len,f⟩,⟨?_,trivial⟩,by simp only [maxLen] at hm;show len≤_;omega,fun i hi=>(hf i hi).2⟩
      rw [ea]
      refine .sl len s _ a.block a.off cap C ty fr (fun i j=>C.getD (a.off+i * s+j) undef) (by simp [H0,hblk]) hl (fun i _=>hlen _) ?_ ?_
      · intro i j x hi hx
        have hj:j < s:=by have:=(List.getElem?_eq_some_iff.1 hx).1;rw [hlen] at this;exact this
        obtain ⟨cs',h1,h2,h3⟩:=hat i j hi hj
        rw [Array.getD_eq_getD_getElem?,h2,List.getElem?_eq_getElem (by omega)]
        rfl
      · intro i j x hi hx
        have hj:j < s:=by have:=(List.getElem?_eq_some_iff.1 hx).1;rw [hlen] at this;exact this
        obtain ⟨cs',h1,h2,h3⟩:=hat i j hi hj
        obtain ⟨v,hv,hr⟩:=h1.get j x hx
        rw [Array.getD_eq_getD_getElem?,h2,hv]
        exact hr
theorem zhn {α:Type} (l:List α) (o s:Nat):l.drop o=(l.drop o).take s ++ l.drop (o+s):=by
 rw [← List.drop_drop]
 exact (List.take_append_drop s (l.drop o)).symm
def zLu : TypeDesc → Bool
  | .struct _=>false
  | .array _ _=>false
  | _=>true
theorem okWide_one {t:TypeId} {d:TypeDesc} {r:Reach} {base:Nat} {v:Value} (ht:P.underlying t=some d) (hd:zLu d=true) (h:Value.okWide P w r base t v):v.cells.toList=[v]:=by
 unfold Value.okWide at h
 rw [ht] at h
 cases v with
 | agg cs =>
  exfalso
  cases d <;> first | (cases hd;done) | (simp only [Cell.okWide,Cell.ok,ht] at h)
 | _=>rfl
theorem pa_one {h:Fz} {p:PV} {v:Value} (hv:v.cells.toList=[v]) (r:RL (Rep h) [p] v.cells.toList):paR h (.one p) v:=by
 rw [hv] at r
 exact r.1
theorem below_H0 {w':World} (b:Bel (H0 w) w.heap.size w w'):Go.RowKit.Below w.heap.size w w' :=
 ⟨b.os,b.tape,b.output,b.size,fun k hk=>b.block k hk fun F e=>by
  unfold H0 at e
  cases hb:w.heap[k]? <;> rw [hb] at e <;> cases e⟩
end
end Go.Pm
/-
  DERIVED: THE SHELF's CONTRACTS AT THIS DUMP,IN PLAIN WORDS (tools/lay-plain.mjs out of 'YtkpjhhoafenogaaLs.lean',which tools/lay-shelf.mjs wrote): THE SAME DECLARATIONS UNDER THE SAME NAMES: 'import','namespace','open','def','theorem' AND NOTHING ELSE: no command of the shelf's: FOR A HAND-IN. Each laying: the table of numbers ('.._ren') and one theorem,a field a fact of the dump's own or the kernel's comparison;each contract: ONE APPLICATION.
-/
namespace Go.Proofs
open Go.Shelf
def Try.laysS106_ren:Go.Shelf.Ren:=⟨fun | 6=>106 | 15=>122 | 14=>121 | 28=>132 | 29=>133 | 20=>124 | 21=>125 | 22=>126 | 23=>127 | 24=>128 | 25=>129 | 26=>130 | 27=>131 | 46=>134 | 47=>135 | 48=>136 | 49=>137 | 50=>138 | 57=>139 | n=>n,fun | 22=>102 | 24=>118 | 25=>147 | 3=>3 | 39=>156 | 0=>0 | 53=>166 | 55=>168 | 4=>4 | 46=>159 | 45=>158 | 50=>163 | 5=>5 | 9=>9 | 66=>169 | 70=>173 | 76=>175 | 77=>143 | n=>n,fun | n=>n⟩
theorem Try.laysS106 : Go.Proofs.SlLaysF0.n6 Try.prog Try.laysS106_ren := {
  mixed:=by kernel_rfl
  f6:=⟨Try.f106.name,by decide,Try.func106.trans (congrArg some (by kernel_rfl))⟩
  f14:=⟨Try.f121.name,by decide,Try.func121.trans (congrArg some (by kernel_rfl))⟩
  f15:=Try.func122.trans (congrArg some (by kernel_rfl))
  f20:=⟨Try.f124.name,by decide,Try.func124.trans (congrArg some (by kernel_rfl))⟩
  f21:=⟨Try.f125.name,by decide,Try.func125.trans (congrArg some (by kernel_rfl))⟩
  f22:=⟨Try.f126.name,by decide,Try.func126.trans (congrArg some (by kernel_rfl))⟩
  f23:=⟨Try.f127.name,by decide,Try.func127.trans (congrArg some (by kernel_rfl))⟩
  f24:=⟨Try.f128.name,by decide,Try.func128.trans (congrArg some (by kernel_rfl))⟩
  f25:=⟨Try.f129.name,by decide,Try.func129.trans (congrArg some (by kernel_rfl))⟩
  f26:=⟨Try.f130.name,by decide,Try.func130.trans (congrArg some (by kernel_rfl))⟩
  f27:=⟨Try.f131.name,by decide,Try.func131.trans (congrArg some (by kernel_rfl))⟩
  f28:=Try.func132.trans (congrArg some (by kernel_rfl))
  f29:=Try.func133.trans (congrArg some (by kernel_rfl))
  f46:=⟨Try.f134.name,by decide,Try.func134.trans (congrArg some (by kernel_rfl))⟩
  f47:=Try.func135.trans (congrArg some (by kernel_rfl))
  f48:=Try.func136.trans (congrArg some (by kernel_rfl))
  f49:=⟨Try.f137.name,by decide,Try.func137.trans (congrArg some (by kernel_rfl))⟩
  f50:=⟨Try.f138.name,by decide,Try.func138.trans (congrArg some (by kernel_rfl))⟩
  f57:=⟨Try.f139.name,by decide,Try.func139.trans (congrArg some (by kernel_rfl))⟩
  t0:=Try.underlying0
  a0:=Try.isAgg0
  z0:=Try.sizeOf0
  v0:=Try.zeroValue0
  t3:=Try.underlying3
  a3:=Try.isAgg3
  z3:=Try.sizeOf3
  v3:=Try.zeroValue3
  t4:=Try.underlying4
  a4:=Try.isAgg4
  z4:=Try.sizeOf4
  v4:=Try.zeroValue4
  t5:=Try.underlying5
  a5:=Try.isAgg5
  z5:=Try.sizeOf5
  v5:=Try.zeroValue5
  t9:=Try.underlying9
  a9:=Try.isAgg9
  z9:=Try.sizeOf9
  v9:=Try.zeroValue9
  t22:=Try.underlying102
  a22:=Try.isAgg102
  z22:=Try.sizeOf102
  v22:=Try.zeroValue102
  t25:=Try.underlying147
  a25:=Try.isAgg147
  z25:=Try.sizeOf147
  v25:=Try.zeroValue147
  t39:=Try.underlying156
  a39:=Try.isAgg156
  z39:=Try.sizeOf156
  v39:=Try.zeroValue156
  t45:=Try.underlying158
  a45:=Try.isAgg158
  z45:=Try.sizeOf158
  v45:=Try.zeroValue158
  t46:=Try.underlying159
  a46:=Try.isAgg159
  z46:=Try.sizeOf159
  v46:=Try.zeroValue159
  t50:=Try.underlying163
  a50:=Try.isAgg163
  z50:=Try.sizeOf163
  v50:=Try.zeroValue163
  t53:=Try.underlying166
  a53:=Try.isAgg166
  z53:=Try.sizeOf166
  v53:=Try.zeroValue166
  t55:=Try.underlying168
  a55:=Try.isAgg168
  z55:=Try.sizeOf168
  v55:=Try.zeroValue168
  t66:=Try.underlying169
  a66:=Try.isAgg169
  z66:=Try.sizeOf169
  v66:=Try.zeroValue169
  t70:=Try.underlying173
  a70:=Try.isAgg173
  z70:=Try.sizeOf173
  v70:=Try.zeroValue173
  t76:=Try.underlying175
  a76:=Try.isAgg175
  z76:=Try.sizeOf175
  v76:=Try.zeroValue175
  t77:=Try.underlying143
  a77:=Try.isAgg143
  z77:=Try.sizeOf143
  v77:=Try.zeroValue143 }
end Go.Proofs
namespace Go.Pm
open Go.Shelf Go.RowKit Go.Lib Go.Sort Go.Proofs

section perm
variable {c:Nat→Nat→Int}
theorem zgU (x : Nat) : ∀ l : List Nat, (zz8 c x l).Perm (x :: l)
  | []=>.refl _
  | y :: r=>by
    unfold zz8
    split
    · exact .refl _
    · exact ((zgU x r).cons y).trans (.swap _ _ _)
theorem zlr (n:Nat):(zs8 n c).Perm (List.range n):=by
 unfold zs8
 generalize List.range n=l
 induction l with
 | nil=>exact .refl _
 | cons x l ih=>exact (zgU x _).trans (ih.cons x)
def leB (c:Nat→Nat→Int) (a b:Nat):Prop:=¬ c b a < 0
theorem zu3 {n : Nat} (H : STO n c) {x : Nat} (hx : x < n) : ∀ {l : List Nat}, (∀ y ∈ l, y < n) → l.Pairwise (leB c) → (zz8 c x l).Pairwise (leB c)
  | [],_,_=>by simp [zz8]
  | y :: r,hl,hp=>by
    have hy:=hl y List.mem_cons_self
    rw [List.pairwise_cons] at hp
    unfold zz8
    split
    · rename_i h
      have h:=of_decide_eq_true h
      rw [List.pairwise_cons]
      refine ⟨fun z hz=>?_,List.pairwise_cons.2 hp⟩
      have hxy:leB c x y:=fun h2=>by
        have:=H.1 x hx
        have:=H.2.2 x y x hx hy hx h h2
        omega
      rcases List.mem_cons.1 hz with rfl | hz
      · exact hxy
      · intro h2
        exact hp.1 z hz (H.2.2 z x y (hl z (List.mem_cons_of_mem _ hz)) hx hy h2 h)
    · rename_i h
      have h:=of_decide_eq_false h
      rw [List.pairwise_cons]
      refine ⟨fun z hz=>?_,zu3 H hx (fun z hz=>hl z (List.mem_cons_of_mem _ hz)) hp.2⟩
      rcases List.mem_cons.1 ((zgU x r).mem_iff.1 hz) with rfl | hz
      · exact h
      · exact hp.1 z hz
theorem zAR {n:Nat} (H:STO n c):(zs8 n c).Pairwise (leB c):=by
 have key:∀ l:List Nat,(∀ y∈l,y < n)→(l.foldr (zz8 c) []).Pairwise (leB c)∧∀ y∈l.foldr (zz8 c) [],y < n:=by
  intro l
  induction l with
  | nil=>intro _;exact ⟨List.Pairwise.nil,fun y hy=>by simp at hy⟩
  | cons x l ih =>
   intro h
   obtain ⟨h1,h2⟩:=ih fun y hy=>h y (List.mem_cons_of_mem _ hy)
   have hx:=h x List.mem_cons_self
   refine ⟨zu3 H hx h2 h1,fun y hy=>?_⟩
   rcases List.mem_cons.1 ((zgU x _).mem_iff.1 hy) with rfl | hy
   ·exact hx
   ·exact h2 y hy
 exact (key _ fun y hy=>List.mem_range.1 hy).1
theorem zty {n:Nat} (H:STO n c) {l:List Nat} (hp:l.Perm (List.range n)) (hs:l.Pairwise (leB c)):l=zs8 n c:=by
 refine List.Perm.eq_of_pairwise (le:=leB c) (fun a b ha hb h1 h2=>?_) hs (zAR H) (hp.trans (zlr n).symm)
 have ha:=List.mem_range.1 (hp.mem_iff.1 ha)
 have hb:=List.mem_range.1 ((zlr n).mem_iff.1 hb)
 by_cases e:a=b
 ·exact e
 ·rcases H.2.1 a b ha hb e with h | h
  ·exact absurd h.1 h2
  ·exact absurd h.1 h1
end perm

theorem zu4 {w w':World} (h1:w'.heap=w.heap) (h2:w'.tape=w.tape) (h3:w'.drawn=w.drawn) (h4:w'.os=w.os) (h5:w'.output=w.output):w'=w:=by
 cases w;cases w';simp_all
theorem zAS {w w':World} {h:Fz} (b:Bel h w.heap.size w w') (hi:∀ k F,h k ≠ some (.inv F)):∃ q os,w'=grow (w.drewN q) os:=by
 refine ⟨w'.drawn - w.drawn,w'.heap.extract w.heap.size w'.heap.size,zu4 ?_ b.tape ?_ b.os b.output⟩
 ·show w'.heap = w.heap ++ w'.heap.extract w.heap.size w'.heap.size
  apply Array.ext_getElem?
  intro i
  rw [Array.getElem?_append]
  split
  ·rename_i hl;exact b.block i hl (fun F=>hi i F)
  ·rename_i hl
   rw [Array.getElem?_extract]
   by_cases hlt:i < w'.heap.size
   ·rw [if_pos (by omega)];congr 1;omega
   ·rw [if_neg (by omega),Array.getElem?_eq_none (by omega)]
 ·show w'.drawn = w.drawn + (w'.drawn - w.drawn)
  have:=b.drawn;omega

theorem znQ {w : World} {g q : Nat} {cur : Array Value} {e : TypeId} {fr : Nat × Nat} {off : Nat} (F : Array Value) (hb : w.heap[g]? = some (.cells cur e fr)) :
  ∃ cur',(putRow id (Sort.ahead w q) g off F).heap[g]? = some (.cells cur' e fr)∧cur'.size=cur.size:=by
 refine ⟨putCells id off F cur,?_,by simp [putCells]⟩
 simp [putRow,mapBlock,Sort.ahead,Array.getElem?_modify,hb,onCells]
theorem zjK {w:World} {g q off:Nat} (F:Array Value) {k:Nat} (hk:k ≠ g):(putRow id (Sort.ahead w q) g off F).heap[k]? = w.heap[k]?:=by
 simp [putRow,mapBlock,Sort.ahead,Array.getElem?_modify,Ne.symm hk]

theorem zu5 {P:Program} {ρ:Ren} (L:SlLaysF0.n6 P ρ) {e s b:Nat} (he:ρ.t 24=e) (hag:zeh P e=some true) (hsz:szT P e=some s) (hM : ¬ znb) (hc:zaf P (ρ.f 6)):zlD P (ρ.f 6) (.sort e s b):=by
 intro w h base v n get gf caps cv ag C hC hcv hag' _ hpos ⟨xs,hown,hr⟩ hone hw hob hbase hn hS hO
 rw [hag] at hag';simp only [Option.some.injEq] at hag';subst hag'
 refine ⟨hc,?_⟩
 have hni:∀ k F,h k ≠ some (.inv F):=fun k F hk=>by obtain ⟨o,_,ho⟩:=hw k _ hk;exact hM ho.2
 have hdr:∀ (w':World) (k:Nat),w.drawn≤w.drawn+k:=fun _ k=>Nat.le_add_right _ _
 have none:∀ (p:Option Addr) (cap:Nat),n=0→v=.slice p 0 cap→Calls P (ρ.f 6) #[v,.func (.func gf) #[] cv.toArray] w fun r w'=>r=.returned (.tuple #[])∧zHC h w' base e s v n (zoE n (ztT C caps true get) get)∧GrB w w' v.ownBlock:=by
  rintro p cap rfl rfl
  refine (AnyF.slices_SortFunc_none L p cap _ w).mono ?_
  rintro r w' ⟨rfl,rfl⟩
  exact ⟨rfl,⟨xs,hown,fun i hi=>absurd hi (Nat.not_lt_zero i)⟩,⟨rfl,rfl,rfl,Nat.le_refl _,fun _ _ _=>rfl⟩,Nat.le_refl _⟩
 rcases hown.2 with ⟨h1,h2⟩ | ⟨blk,cap,cur,rfl,hb,hcell,hncap,hcap,hcs,htk⟩
 ·exact none _ _ h2 h1
 by_cases hn0:n=0
 ·subst hn0;exact none _ _ rfl rfl
 have:Inhabited (Fin n):=⟨⟨0,by omega⟩⟩
 let enc:Fin n→List Value:=fun i=>(xs.drop (i.val * s)).take s
 let c:=ztT C caps true get
 let cf:Fin n→Fin n→Int:=fun x y=>c x.val y.val
 let d:Array (Fin n):=Array.ofFn id
 have hds:d.size=n:=Array.size_ofFn
 have hdi:∀ i (hi:i < n),d[i]! = ⟨i,hi⟩:=fun i hi=>by
  rw [getElem!_pos d i (by rw [hds];exact hi)];simp [d]
 have hlt:blk < w.heap.size:=(Array.getElem?_eq_some_iff.1 hcell).1
 have hbn:h blk=Option.none:=hob blk rfl
 have hmul:∀ i,i < n→i * s+s≤n * s:=fun i hi=>by have:=Nat.mul_le_mul_right s (Nat.succ_le_of_lt hi);rw [Nat.succ_mul] at this;exact this
 have hk:∀ x,(enc x).length=s:=fun x=>by
  have:=hmul x.val x.isLt
  simp only [enc,List.length_take,List.length_drop,hown.1];omega
 have hcur:∀ j,j < n * s→cur[j]? = xs[j]?:=fun j hj=>by
  have:(cur.toList.take (n * s))[j]? = xs[j]?:=by rw [htk]
  rw [List.getElem?_take,if_pos hj] at this;simpa using this
 have hxl:∀ j,j < n * s→∃ u,xs[j]? = some u:=fun j hj=>⟨xs[j]'(by rw [hown.1];exact hj),List.getElem?_eq_getElem _⟩
 have h1:∀ x,∀ u∈enc x,u.oneCell'=true:=fun x u hu=>by
  obtain ⟨j,hj⟩:=List.getElem?_of_mem hu
  obtain ⟨p,_,hp⟩:=(hr x.val x.isLt).get' j u hj
  exact hp.one
 have hflat:∀ j (hj:j < n * s),(flatK enc s d)[j]! = xs[j]'(by rw [hown.1];exact hj):=fun j hj=>by
  have hq:j / s < n:=Nat.div_lt_of_lt_mul (by rw [Nat.mul_comm];exact hj)
  rw [get_flatK _ _ _ _ (by rw [hds];exact hj),hdi _ hq]
  have hm:=Nat.mod_lt j hpos
  have hdm:=Nat.div_add_mod j s
  rw [getElem!_pos _ _ (by rw [hk];exact hm)]
  simp only [enc,List.getElem_take,List.getElem_drop]
  congr 1
  rw [Nat.mul_comm];exact hdm
 have hH:HoldsK enc s w blk 0 d:=fun j hj=>by
  have hj:j < n * s:=by rw [size_flatK,hds] at hj;exact hj
  refine ⟨?_,frozen_of_row w blk _ cur e hcell⟩
  rw [hflat j hj,cell_of hcell,Nat.zero_add,hcur j hj]
  exact List.getElem?_eq_getElem _
 have eg:∀ args w,(callFunc gf args).run P w=.ok (.enter gf args) w:=by
  have hcg:zaf P gf:=by
   have hs0:=hS 0 0 (by omega) (by omega)
   unfold zHB at hs0
   split at hs0
   ·rename_i s0 c0 hat
    have hwp:(C (elP true (get 0) :: elP true (get 0) :: caps.map .one)).wp (fun _=>True):=by
     unfold zz7 at hat
     split at hat
     ·rename_i e1;rw [e1];trivial
     ·rename_i e1;simp only [Option.some.injEq,Prod.mk.injEq] at hat;rw [e1];exact ⟨by rw [hat.1];exact hs0,trivial⟩
     ·cases hat
    exact (hC _ _ hwp w h (.agg (enc ⟨0,by omega⟩).toArray :: .agg (enc ⟨0,by omega⟩).toArray :: cv) ⟨⟨_,rfl,hr 0 (by omega)⟩,⟨_,rfl,hr 0 (by omega)⟩,RL.map_left.2 hcv⟩ hw).1
   ·exact hs0.elim
  exact fun args w=>zc3 hcg
 have hcmp:CmpLays P gf cv.toArray enc s cf blk 0 d.size w:=by
  intro m os dk hdk x y
  have hs0:=hS x.val y.val x.isLt y.isLt
  unfold zHB at hs0
  split at hs0
  ·rename_i s0 c0 hat
   have hwp:(C (elP true (get x.val) :: elP true (get y.val) :: caps.map .one)).wp (fun rs=>rs=[.one (.int .i64 (cf x y))]):=by
    have hcv:cf x y=c0:=by show ztT C caps true get x.val y.val=c0;unfold ztT;rw [hat]
    rw [hcv]
    unfold zz7 at hat
    split at hat
    ·rename_i e1;simp only [Option.some.injEq,Prod.mk.injEq] at hat;rw [e1,hat.2];rfl
    ·rename_i e1;simp only [Option.some.injEq,Prod.mk.injEq] at hat;rw [e1,hat.2];exact ⟨by rw [hat.1];exact hs0,rfl⟩
    ·cases hat
   have hwh:Hw h (sortWorldK enc s w blk 0 m dk os):=hw.same fun k o hk=>by
    have hkb:k ≠ blk:=fun e=>by rw [e,hbn] at hk;cases hk
    have hkl:=hw.lt hk
    show ((putRow id (Sort.ahead w m) blk 0 (flatK enc s dk)).heap ++ os)[k]? = _
    rw [Array.getElem?_append_left (by simpa [putRow,mapBlock,Sort.ahead] using hkl)]
    exact zjK _ hkb
   obtain ⟨_,hrun⟩:=hC _ _ hwp (sortWorldK enc s w blk 0 m dk os) h (.agg (enc x).toArray :: .agg (enc y).toArray :: cv) ⟨⟨_,rfl,hr x.val x.isLt⟩,⟨_,rfl,hr y.val y.isLt⟩,RL.map_left.2 hcv⟩ hwh
   rw [show (#[Value.agg (enc x).toArray,.agg (enc y).toArray] ++ cv.toArray)=(Value.agg (enc x).toArray :: .agg (enc y).toArray :: cv).toArray by simp]
   refine hrun.mono ?_
   rintro e' w' ⟨h',rs,v',hrs,rfl,hres,hbel,_,_,_⟩
   subst hrs
   have hv':v'=.int .i64 (cf x y):=by
    have:Rep h' (.int .i64 (cf x y)) v':=hres
    cases this;rfl
   subst hv'
   exact ⟨rfl,zAS hbel hni⟩
  ·exact hs0.elim
 have hSWO:SWO (ltOf cf):=by
  refine ⟨fun x=>?_,fun x y z hxy hyz=>?_,fun x y z hxy hyz=>?_⟩
  ·have : 0 ≤ c x.val x.val := hO.1 x.val x.isLt
   simp only [ltOf,decide_eq_false_iff_not];show ¬ c x.val x.val < 0;omega
  ·simp only [ltOf, decide_eq_true_eq] at hxy hyz ⊢
   exact hO.2.2 _ _ _ x.isLt y.isLt z.isLt hxy hyz
  ·simp only [ltOf, decide_eq_false_iff_not] at hxy hyz ⊢
   intro hxz
   have hxy : ¬ c x.val y.val < 0:=hxy
   have hyz : ¬ c y.val z.val < 0:=hyz
   have hxz:c x.val z.val < 0:=hxz
   by_cases e1:y.val=z.val
   ·rw [e1] at hxy;exact hxy hxz
   ·by_cases e2 : x.val = y.val
    ·rw [e2] at hxz;exact hyz hxz
    ·have a1 : c z.val y.val < 0 := by rcases hO.2.1 y.val z.val y.isLt z.isLt e1 with h | h; exact absurd h.1 hyz; exact h.1
     exact hxy (hO.2.2 _ _ _ x.isLt z.isLt y.isLt hxz a1)
 have aE:∀ w,(isAgg (ρ.t 24)).run P w=.ok true w:=fun w=>by rw [he];exact zdB hag
 have zE:∀ w,(Go.sizeOf (ρ.t 24)).run P w=.ok s w:=fun w=>by rw [he];exact run_sizeOf hsz
 have hrun:=AnyQ.slices_SortFunc L s aE zE enc hk h1 cf hSWO gf cv.toArray blk 0 cap d w eg hcmp hH hlt (by rw [hds];omega)
 rw [hds] at hrun
 refine hrun.mono ?_
 rintro r w' ⟨rfl,d',m,os,hperm,hsort,rfl⟩
 obtain ⟨hps,_,hpp⟩:=hperm
 have hd's:d'.size=n:=by rw [hps,hds]
 have hall:∀ (z:Array (Fin n)),z.size=n→z.extract 0 n=z:=fun z hz=>Array.ext (by simp [hz]) (fun i h1 h2=>by simp)
 rw [hall d' hd's,hall d hds] at hpp
 have hl:d'.toList.map Fin.val=zs8 n c:=by
  refine zty hO ?_ ?_
  ·refine (hpp.map Fin.val).trans ?_
   have:d.toList.map Fin.val=List.range n:=by
    apply List.ext_getElem?
    intro i
    simp only [d,List.getElem?_map]
    by_cases hi:i < n
    ·simp [hi]
    ·rw [List.getElem?_eq_none (by simp;omega),List.getElem?_eq_none (by simp;omega)];rfl
   rw [this]
  ·rw [List.pairwise_map, List.pairwise_iff_getElem]
   intro i j hi hj hij
   have hi':i < n:=by simpa [hd's] using hi
   have hj':j < n:=by simpa [hd's] using hj
   have:=hsort i j (Nat.zero_le _) hij hj'
   rw [getElem!_pos d' j (by omega),getElem!_pos d' i (by omega)] at this
   simp only [ltOf,decide_eq_false_iff_not] at this
   exact this
 have hget:∀ i (hi:i < n),zoE n c get i=get (d'[i]'(by omega)).val:=fun i hi=>by
  unfold zoE
  rw [← hl]
  congr 1
  rw [List.getD_eq_getElem?_getD,List.getElem?_map]
  simp [hd's,hi]
 obtain ⟨cur',hcell',hsz'⟩:=znQ (q:=m) (off:=0) (flatK enc s d') hcell
 have hgrow:(sortWorldK enc s w blk 0 m d' os).heap[blk]? = some (.cells cur' e (0,0)):=by
  show ((putRow id (Sort.ahead w m) blk 0 (flatK enc s d')).heap ++ os)[blk]? = _
  rw [Array.getElem?_append_left (by simpa [putRow,mapBlock,Sort.ahead] using hlt)]
  exact hcell'
 have hH':HoldsK enc s (sortWorldK enc s w blk 0 m d' os) blk 0 d':=holdsK_sortWorldK_c enc s w blk 0 d d' m os hH hlt (by rw [hd's,hds])
 have hcur':∀ j (hj:j < n * s),cur'[j]? = some ((flatK enc s d')[j]!):=fun j hj=>by
  have:=(hH' j (by rw [size_flatK,hd's];exact hj)).1
  rw [cell_of hgrow,Nat.zero_add] at this
  exact this
 refine ⟨rfl,⟨cur'.toList.take (n * s),⟨by rw [List.length_take,Array.length_toList,hsz',hcs];exact Nat.min_eq_left (Nat.mul_le_mul_right s hncap),.inr ⟨blk,cap,cur',rfl,hb,hgrow,hncap,hcap,by rw [hsz',hcs],rfl⟩⟩,fun i hi=>?_⟩,?_⟩
 ·have e1:((cur'.toList.take (n * s)).drop (i * s)).take s=enc (d'[i]'(by omega)):=by
   apply List.ext_getElem?
   intro j
   have hm:=hmul i hi
   rw [List.getElem?_take]
   split
   ·rename_i hj
    rw [List.getElem?_drop,List.getElem?_take,if_pos (by omega),Array.getElem?_toList,hcur' _ (by omega)]
    have hdiv:(i * s+j) / s=i:=by rw [Nat.mul_comm,Nat.mul_add_div hpos,Nat.div_eq_of_lt hj,Nat.add_zero]
    have hmod:(i * s+j) % s=j:=by rw [Nat.mul_comm,Nat.mul_add_mod,Nat.mod_eq_of_lt hj]
    rw [get_flatK _ _ _ _ (by rw [hd's];omega),hdiv,hmod,getElem!_pos d' i (by omega),getElem!_pos _ _ (by rw [hk];exact hj)]
    exact (List.getElem?_eq_getElem _).symm
   ·rename_i hj
    rw [List.getElem?_eq_none (by rw [hk];omega)]
  rw [e1,hget i hi]
  exact hr _ (d'[i]'(by omega)).isLt
 ·refine ⟨⟨rfl, rfl, rfl, ?_, fun k hk hne => ?_⟩, Nat.le_add_right _ _⟩
  ·show w.heap.size ≤ ((putRow id (Sort.ahead w m) blk 0 (flatK enc s d')).heap ++ os).size
   simp [putRow,mapBlock,Sort.ahead]
  ·show ((putRow id (Sort.ahead w m) blk 0 (flatK enc s d')).heap ++ os)[k]? = _
   rw [Array.getElem?_append_left (by simpa [putRow,mapBlock,Sort.ahead] using hk)]
   exact zjK _ fun e=>hne (by rw [e];rfl)
end Go.Pm
namespace Go.Pm

abbrev zI (x:Int):DV:=.one (.c (.p (.int .i64 x)))
abbrev zB (x:Bool):DV:=.one (.c (.p (.bool x)))
abbrev zP (x:PV):DV:=.one (.c (.p x))
abbrev zp (L k:Nat):DV:=.one (.c (.ptr L k))
abbrev zv (L:Nat):DV:=.one (.c (.vec L))
abbrev zs {α:Type} (enc:α→List PV) (s:Nat) (x:Sl α):PV:=.sl x.len s (fun i=>enc (x.get i))
abbrev zS {α:Type} (enc:α→List PV) (s:Nat) (x:Sl α):DV:=zP (zs enc s x)
abbrev zm (l:List PV):List Cl:=l.map Cl.p
abbrev zi (x:Int):Cl:=.p (.int .i64 x)
abbrev zg {α:Type} (enc:α→List PV) (x:Sl α):Nat→List PV:=fun i=>enc (x.get i)
abbrev zK (a b:List Nat):Keep:=⟨a,b,[],[],[],[],[]⟩
theorem zE {α:Type} (enc:α→List PV) (size:Nat) (f:Nat→α):IsE enc size size (fun i=>enc (f i)):=⟨rfl,f,rfl⟩

@[reducible] def lpO {A : Type} (d : A) (st : A → A) : Nat → A
  | 0=>d
  | k+1=>st (lpO d st k)
theorem zet {A B : Type} (a : A) (b : B) (p : A → A) (s : B → B) (M : A → B → Prop) (h0 : M a b) (h1 : ∀ P S, M P S → M (p P) (s S)) : ∀ k, M (lpO a p k) (lpO b s k)
  | 0=>h0
  | k+1=>h1 _ _ (zet a b p s M h0 h1 k)
section
variable (P:Program) (Γ:Ctrs) (ann:Ann)
def pt : Code → (Exit → St → Prop) → List Nat → List (St → Prop) → St → Prop
  | .seq a b,K,i :: r,X=>match i with | 0=>pt a (sqK P Γ ann b K) r X | _=>pt b K r X
  | .cond _ a b,K,i :: r,X=>match i with | 0=>pt a K r X | _=>pt b K r X
  | .block id b,K,_ :: r,X=>pt b (za2 id K) r X
  | .loop b,K,_ :: r,x :: X=>pt b (zdU P ann (zk2 b) x K) r X
  | .scope b,K,_ :: r,X=>pt b (zcb K) r X
  | c,K,_,_=>vc P Γ ann c K
def ptF (fn:Func) (K:List PA→Prop) (l:List Nat) (X:List (St→Prop)):St→Prop :=
 match fn.body with
 | some c=>pt P Γ ann c (zcq P fn K) l X
 | none=>fun _=>False
end

theorem zc {b:Bool} {A B:Prop} {S S':Bool} {α:Type} {e:α→List PA} {K:List PA→Prop} {x y:α} (hs:cond b S S'=true) (hk:K (e (cond b x y))) (h1:S=true→K (e x)→A) (h2:S'=true→K (e y)→B):zc0 b A B:=by
 cases b
 ·exact h2 hs hk
 ·exact h1 hs hk
theorem zt {b:Bool} {A B:Prop} {α:Type} {e:α→List PA} {K:List PA→Prop} {x y:α} (hk:K (e (cond b x y))) (h1:K (e x)→A) (h2:K (e y)→B):zc0 b A B:=by
 cases b
 ·exact h2 hk
 ·exact h1 hk
theorem zl {at_:Prop} {g:St} (B:(St→Prop)→St→Prop) (e:at_ = ∀ X:St→Prop,(∀ s,B X s→X s)→X g) (h:∀ X:St→Prop,(∀ s,B X s→X s)→X g):at_:=e ▸ h
end Go.Pm
namespace Go.Proofs
open Go Go.Pm
set_option maxRecDepth 100000
set_option linter.unusedVariables false
attribute [local irreducible] Go.Pm.vcFun Go.Pm.vc Go.Pm.vcIter
abbrev zal (x:Int):List PV:=[.int .i64 x]
def zLv : List PV → Int
  | [.int .i64 x]=>x
  | _=>default
def zcT (g:Nat→List PV):Nat→Int:=fun i=>zLv (g i)
theorem zdx (f:Nat→Int):zcT (fun i=>zal (f i))=f:=rfl
structure Gate where
  Z:Int
  Low:Int
  High:Int
deriving Inhabited
abbrev enc_55 (x:Gate):List PV:=[.int .i64 x.Z,.int .i64 x.Low,.int .i64 x.High]
def zIj : List PV → Gate
  | [.int .i64 x_Z,.int .i64 x_Low,.int .i64 x_High]=>(⟨x_Z,x_Low,x_High⟩:Gate)
  | _=>default
def zae (g:Nat→List PV):Nat→Gate:=fun i=>zIj (g i)
theorem zac (f:Nat→Gate):zae (fun i=>enc_55 (f i))=f:=rfl
abbrev zIk (x:(Sl Gate)):List PV:=[.sl x.len 3 (fun i=>enc_55 (x.get i))]
structure Frac where
  Num:Int
  Den:Int
deriving Inhabited
abbrev zad (x:Frac):List PV:=[.int .i64 x.Num,.int .i64 x.Den]
def zIl : List PV → Frac
  | [.int .i64 x_Num,.int .i64 x_Den]=>(⟨x_Num,x_Den⟩:Frac)
  | _=>default
def zga (g:Nat→List PV):Nat→Frac:=fun i=>zIl (g i)
theorem zeu (f:Nat→Frac):zga (fun i=>zad (f i))=f:=rfl
structure Line where
  Slope:Frac
  Start:Frac
deriving Inhabited
abbrev zav (x:Line):List PV:=[.int .i64 x.Slope.Num,.int .i64 x.Slope.Den,.int .i64 x.Start.Num,.int .i64 x.Start.Den]
def zIm : List PV → Line
  | [.int .i64 x_Slope_Num,.int .i64 x_Slope_Den,.int .i64 x_Start_Num,.int .i64 x_Start_Den]=>(⟨(⟨x_Slope_Num,x_Slope_Den⟩:Frac),(⟨x_Start_Num,x_Start_Den⟩:Frac)⟩:Line)
  | _=>default
def zjL (g:Nat→List PV):Nat→Line:=fun i=>zIm (g i)
theorem zev (f:Nat→Line):zjL (fun i=>zav (f i))=f:=rfl
structure Span where
  Low:Int
  High:Int
deriving Inhabited
abbrev zCa (x:Span):List PV:=[.int .i64 x.Low,.int .i64 x.High]
structure list where
  Gates:(Sl Gate)
deriving Inhabited
abbrev zb2 (x:list):List PV:=[.sl x.Gates.len 3 (fun i=>enc_55 (x.Gates.get i))]
structure straight where
  slope:Int
  start:Int
  den:Int
deriving Inhabited
abbrev zah (x:straight):List PV:=[.int .i64 x.slope,.int .i64 x.start,.int .i64 x.den]
def zDJ : List PV → straight
  | [.int .i64 x_slope,.int .i64 x_start,.int .i64 x_den]=>(⟨x_slope,x_start,x_den⟩:straight)
  | _=>default
def zaT (g:Nat→List PV):Nat→straight:=fun i=>zDJ (g i)
theorem zaP (f:Nat→straight):zaT (fun i=>zah (f i))=f:=rfl
structure set where
  list:list
  corners:(Sl straight)
deriving Inhabited
abbrev zaZ (x:set):List PV:=[.sl x.list.Gates.len 3 (fun i=>enc_55 (x.list.Gates.get i)),.sl x.corners.len 3 (fun i=>zah (x.corners.get i))]
abbrev zcF (x:Mp):List PV:=[.fm (true,2,false,[some .i64]) x.n x.F]
end Go.Proofs
namespace Go.Proofs
open Go Go.Pm
set_option maxRecDepth 100000
set_option linter.unusedVariables false
attribute [local irreducible] Go.Pm.vcFun Go.Pm.vc Go.Pm.vcIter
abbrev T74:Tabs:=Tabs.nil
theorem zLw:TabsOk Try.prog T74:=TabsOk.nil
abbrev G74:Ctrs:=csm T74 (fun _ _=>[]) (fun _=>false)
def zIn:Ann:=⟨15,[(0,zK [0,1,2] []),(1,zK [6] [])],
 [],
 [],
 [],[]⟩
abbrev R74:=Bool
abbrev e74 (r:R74):List PA:=[.one (.bool r)]
section
variable {K:List PA→Prop} {x:Int} {low:Int} {high:Int}
def s74 (x:Int) (low:Int) (high:Int):Bool :=
  (cond (decide (x ≥ low))
 (decide (x≤high))
 false)
end
theorem q74 (x:Int) (low:Int) (high:Int) (K:List PA→Prop) (hk:K (e74 (s74 x low high))):vcFun Try.prog G74 zIn 74 [.one (.int .i64 x),.one (.int .i64 low),.one (.int .i64 high)] K :=
  zaw (by kernel_rfl) (zt hk (fun hk=>hk) (fun hk=>hk))
def zpb : List PA → COut
  | [.one (.int .i64 a0),.one (.int .i64 a1),.one (.int .i64 a2)]=>.tot [.one (.bool (s74 a0 a1 a2))]
  | _=>.no
theorem zIo:zaf Try.prog 74:=⟨_,rfl,rfl,by kernel_rfl⟩
theorem zIp:Ok Try.prog 74 zpb:=zay zLw zIo fun args K h=>by
  unfold zpb at h
  split at h
  · rename_i a0 a1 a2
    have hk:=h
    exact ⟨(fun _ _=>[]),(fun _=>false),zIn,q74 a0 a1 a2 K hk⟩
  · exact h.elim
abbrev T87:Tabs:=(Tabs.nil.addF 74 zpb)
theorem zLx:TabsOk Try.prog T87:=(TabsOk.nil.addF zIp)
abbrev G87:Ctrs:=csm T87 (fun _ _=>[]) (fun _=>false)
def zIq:Ann:=⟨23,[(0,zK [1] [1]),(1,zK [2] [])],
 [],
 [],
 [],[]⟩
abbrev R87:=Bool
abbrev e87 (r:R87):List PA:=[.one (.bool r)]
section
variable {K:List PA→Prop} {g:Gate}
def s87 (g:Gate):Bool :=
  (cond (s74 g.Z (0:Int) (100000:Int))
 (cond (decide (g.Low ≥ (-1000000:Int)))
 (cond (decide (g.Low ≤ g.High))
 (decide (g.High≤(1000000:Int)))
 false)
 false)
 false)
end
theorem q87 (g:Gate) (K:List PA→Prop) (hk:K (e87 (s87 g))):vcFun Try.prog G87 zIq 87 [.agg (enc_55 g)] K :=
  zaw (by kernel_rfl) (zt hk (fun hk=>(zt hk (fun hk=>(zt hk (fun hk=>hk) (fun hk=>hk))) (fun hk=>hk))) (fun hk=>hk))
def zAT : List PA → COut
  | [.agg [.int .i64 a0_Z,.int .i64 a0_Low,.int .i64 a0_High]]=>.tot [.one (.bool (s87 (⟨a0_Z,a0_Low,a0_High⟩:Gate)))]
  | _=>.no
theorem zIr:zaf Try.prog 87:=⟨_,rfl,rfl,by kernel_rfl⟩
theorem zOh:Ok Try.prog 87 zAT:=zay zLx zIr fun args K h=>by
  unfold zAT at h
  split at h
  · rename_i a0_Z a0_Low a0_High
    have hk:=h
    exact ⟨(fun _ _=>[]),(fun _=>false),zIq,q87 (⟨a0_Z,a0_Low,a0_High⟩:Gate) K hk⟩
  · exact h.elim
abbrev T64:Tabs:=((Tabs.nil.addF 74 zpb).addF 87 zAT)
theorem zLy:TabsOk Try.prog T64:=((TabsOk.nil.addF zIp).addF zOh)
abbrev G64:Ctrs:=csm T64 (fun _ _=>[]) (fun _=>false)
def zDK:Ann:=⟨18,[(0,zK [0] []),(1,zK [0,5,6,7] []),(2,zK [0,5,6,7,8] []),(3,zK [0,4,5,6,7] [4]),(4,zK [0,5,6,7,13] []),(5,zK [2] []),(6,zK [0,5,6,7] []),(7,zK [2] [])],
 [(2,zK [0,5,6,7] [])],
 [(5,zK [0,5,6,7,13] [])],
 [],[]⟩
abbrev R64:=Bool
abbrev e64 (r:R64):List PA:=[.one (.bool r)]
@[irreducible] def z64:=ptF Try.prog G64 zDK Try.f64
def zCb (zaa:(Sl Gate)) (za0:Int):St:=⟨[(0,zS enc_55 3 zaa),(5,zS enc_55 3 zaa),(6,zI (zaa.len:Int)),(7,zI za0)],[],[]⟩
abbrev zDL (K:List PA→Prop) (zaa:(Sl Gate)) (X:St→Prop) (P:Int→Bool) (S:Int→Bool):Prop:=∀ ⦃za0:Int⦄,P za0=true→K (e64 (S za0))→X (zCb zaa za0)
section
variable {K:List PA→Prop} {zaa:(Sl Gate)} {za0:Int} {X0:St→Prop} {P0:Int→Bool} {S0:Int→Bool} {zgb:Int} {zpc:Bool}
def zpd (S0:Int→Bool) (zaa:(Sl Gate)) (zgb:Int) (zpc:Bool):Bool :=
  (cond zpc
 false
 (S0 (w64 (zgb+(1:Int)))))
def zpe (P0:Int→Bool) (zaa:(Sl Gate)) (zgb:Int) (zpc:Bool):Bool :=
  (cond zpc
 true
 (P0 (w64 (zgb+(1:Int)))))
theorem zDM (hX0:zDL K zaa X0 P0 S0) (hs:zpe P0 zaa zgb zpc=true) (hk:K (e64 (zpd S0 zaa zgb zpc))):z64 K [1,0,1,0,0,1,1,0,0,1,1] [X0] ⟨[(0,zS enc_55 3 zaa),(5,zS enc_55 3 zaa),(6,zI (zaa.len:Int)),(7,zI zgb),(13,zB zpc)],[],[]⟩:=zaw (by kernel_rfl) (zc hs hk (fun hs hk=>hk) (fun hs hk=>(hX0 hs hk)))
def zho (zaa:(Sl Gate)) (S0:Int→Bool) (za0:Int):Bool :=
  (cond (decide (za0 < (zaa.len : Int)))
 (zpd S0 zaa za0 (!(s87 (zaa.get za0.toNat))))
 (s74 (zaa.len:Int) (1:Int) (24:Int)))
def zhp (zaa:(Sl Gate)) (P0:Int→Bool) (za0:Int):Bool :=
  (cond (decide (za0 < (zaa.len : Int)))
 (decide ((0≤za0∧za0 < (zaa.len:Int))) &&
 (zpe P0 zaa za0 (!(s87 (zaa.get za0.toNat)))))
 true)
def zhq (zaa:(Sl Gate)):Nat→Int→Bool:=lpO (fun _=>default) (zho zaa)
def zhr (zaa:(Sl Gate)):Nat→Int→Bool:=lpO (fun _=>false) (zhp zaa)
def zu6 (zaa:(Sl Gate)) (za0:Int):Bool:=zhq zaa Fuel za0
def zu7 (zaa:(Sl Gate)) (za0:Int):Bool:=zhr zaa Fuel za0
theorem zDN (hs:zu7 zaa za0=true) (hk:K (e64 (zu6 zaa za0))):z64 K [1,0,1,0] [] (zCb zaa za0) :=
  zl (fun X=>z64 K [1,0,1,0,0] [X]) (by kernel_rfl) fun X0 hX =>
  (show ∀ k, zDL K zaa X0 (zhr zaa k) (zhq zaa k) from zet _ _ (zhp zaa) (zho zaa) (zDL K zaa X0)
 (by intro _ hs;exact absurd hs Bool.false_ne_true)
 (by intro P0 S0 hX0 za0 hs hk;exact hX _ (zaw (by kernel_rfl) (zc hs hk (fun hs hk=>(zau hs fun hc hs=>And.intro hc (zDM hX0 hs hk))) (fun hs hk=>hk))))) _ hs hk
def s64 (zaa:(Sl Gate)):Bool :=
  (zu6 zaa (0:Int))
def p64 (zaa:(Sl Gate)):Bool :=
  (zu7 zaa (0:Int))
end
theorem q64 (zaa:(Sl Gate)) (K:List PA→Prop) (hs:p64 zaa=true) (hk:K (e64 (s64 zaa))):vcFun Try.prog G64 zDK 64 [.one (.sl zaa.len 3 (fun i=>enc_55 (zaa.get i)))] K :=
  zaw (by kernel_rfl) (zDN hs hk)
def ztz : List PA → COut
  | [.one (.sl a0_n a0_s a0_g)]=>.det (IsE enc_55 3 a0_s a0_g∧p64 (⟨a0_n,zae a0_g⟩:(Sl Gate))=true) [.one (.bool (s64 (⟨a0_n,zae a0_g⟩:(Sl Gate))))]
  | _=>.no
theorem zIs:zaf Try.prog 64:=⟨_,rfl,rfl,by kernel_rfl⟩
theorem zK2:Ok Try.prog 64 ztz:=zay zLy zIs fun args K h=>by
  unfold ztz at h
  split at h
  · rename_i a0_n a0_s a0_g
    obtain ⟨⟨⟨rfl,a0_f,rfl⟩,hs⟩,hk⟩:=h
    try rw [zac a0_f] at hs
    try rw [zac a0_f] at hk
    exact ⟨(fun _ _=>[]),(fun _=>false),zDK,q64 (⟨a0_n,a0_f⟩:(Sl Gate)) K hs hk⟩
  · exact h.elim
abbrev zNq:Tabs:=Tabs.nil
theorem zIt:TabsOk Try.prog zNq:=TabsOk.nil
abbrev zOi:Ctrs:=csm zNq (fun _ _=>[]) (fun _=>false)
def zCc:Ann:=⟨12,[(0,zK [1,2] [2]),(1,zK [3] [])],
 [],
 [],
 [],[]⟩
abbrev zOj:=Bool
abbrev zOk (r:zOj):List PA:=[.one (.bool r)]
section
variable {K:List PA→Prop} {c0:list} {g:Gate}
def zDO (c0:list) (g:Gate):Bool :=
  (g.Z != (c0.Gates.get 0).Z)
def zDP (c0:list) (g:Gate):Bool :=
  (decide ((0≤(0:Int)∧(0:Int) < (c0.Gates.len:Int))) &&
 true)
end
theorem zOl (c0:list) (g:Gate) (K:List PA→Prop) (hs:zDP c0 g=true) (hk:K (zOk (zDO c0 g))):vcFun Try.prog zOi zCc 100 [.agg (enc_55 g),.one (.fp (zb2 c0) 0)] K :=
  zaw (by kernel_rfl) (zau hs fun hc hs=>And.intro hc hk)
def zu8 : List PA → COut
  | [.agg [.int .i64 a0_Z,.int .i64 a0_Low,.int .i64 a0_High],.one (.fp [.sl c0_Gates_n c0_Gates_s c0_Gates_g] 0)]=>.det (IsE enc_55 3 c0_Gates_s c0_Gates_g∧zDP (⟨(⟨c0_Gates_n,zae c0_Gates_g⟩:(Sl Gate))⟩:list) (⟨a0_Z,a0_Low,a0_High⟩:Gate)=true) [.one (.bool (zDO (⟨(⟨c0_Gates_n,zae c0_Gates_g⟩:(Sl Gate))⟩:list) (⟨a0_Z,a0_Low,a0_High⟩:Gate)))]
  | _=>.no
theorem zDQ:zaf Try.prog 100:=⟨_,rfl,rfl,by kernel_rfl⟩
theorem zLz:Ok Try.prog 100 zu8:=zay zIt zDQ fun args K h=>by
  unfold zu8 at h
  split at h
  · rename_i a0_Z a0_Low a0_High c0_Gates_n c0_Gates_s c0_Gates_g
    obtain ⟨⟨⟨rfl,c0_Gates_f,rfl⟩,hs⟩,hk⟩:=h
    try rw [zac c0_Gates_f] at hs
    try rw [zac c0_Gates_f] at hk
    exact ⟨(fun _ _=>[]),(fun _=>false),zCc,zOl (⟨(⟨c0_Gates_n,c0_Gates_f⟩:(Sl Gate))⟩:list) (⟨a0_Z,a0_Low,a0_High⟩:Gate) K hs hk⟩
  · exact h.elim
abbrev zNr:Tabs:=(Tabs.nil.addF 74 zpb)
theorem zIu:TabsOk Try.prog zNr:=(TabsOk.nil.addF zIp)
abbrev zOm:Ctrs:=csm zNr (fun _ _=>[]) (fun _=>false)
def zCd:Ann:=⟨24,[(0,zK [2,3] [2,3]),(1,zK [4] [])],
 [],
 [],
 [],[]⟩
abbrev zOn:=Bool
abbrev e118 (r:zOn):List PA:=[.one (.bool r)]
section
variable {K:List PA→Prop} {s:straight} {g:Gate}
def zDR (s:straight) (g:Gate):Bool :=
  (s74 (w64 (s.start+(w64 (s.slope * g.Z)))) (w64 (g.Low * s.den)) (w64 (g.High * s.den)))
end
theorem zOo (s:straight) (g:Gate) (K:List PA→Prop) (hk:K (e118 (zDR s g))):vcFun Try.prog zOm zCd 118 [.agg (zah s),.agg (enc_55 g)] K :=
  zaw (by kernel_rfl) hk
def zu9 : List PA → COut
  | [.agg [.int .i64 a0_slope,.int .i64 a0_start,.int .i64 a0_den],.agg [.int .i64 a1_Z,.int .i64 a1_Low,.int .i64 a1_High]]=>.tot [.one (.bool (zDR (⟨a0_slope,a0_start,a0_den⟩:straight) (⟨a1_Z,a1_Low,a1_High⟩:Gate)))]
  | _=>.no
theorem zDS:zaf Try.prog 118:=⟨_,rfl,rfl,by kernel_rfl⟩
theorem zLA:Ok Try.prog 118 zu9:=zay zIu zDS fun args K h=>by
  unfold zu9 at h
  split at h
  · rename_i a0_slope a0_start a0_den a1_Z a1_Low a1_High
    have hk:=h
    exact ⟨(fun _ _=>[]),(fun _=>false),zCd,zOo (⟨a0_slope,a0_start,a0_den⟩:straight) (⟨a1_Z,a1_Low,a1_High⟩:Gate) K hk⟩
  · exact h.elim
abbrev zNs:Tabs:=(Tabs.nil.addF 118 zu9)
theorem zIv:TabsOk Try.prog zNs:=(TabsOk.nil.addF zLA)
abbrev zOp:Ctrs:=csm zNs (fun _ _=>[]) (fun _=>false)
def zCe:Ann:=⟨8,[(0,zK [1,2] [2]),(1,zK [3] [])],
 [],
 [],
 [],[]⟩
abbrev zOq:=Bool
abbrev e117 (r:zOq):List PA:=[.one (.bool r)]
section
variable {K:List PA→Prop} {c0:straight} {g:Gate}
def zDT (c0:straight) (g:Gate):Bool :=
  (!(zDR c0 g))
end
theorem zOr (c0:straight) (g:Gate) (K:List PA→Prop) (hk:K (e117 (zDT c0 g))):vcFun Try.prog zOp zCe 117 [.agg (enc_55 g),.one (.fp (zah c0) 0)] K :=
  zaw (by kernel_rfl) hk
def zva : List PA → COut
  | [.agg [.int .i64 a0_Z,.int .i64 a0_Low,.int .i64 a0_High],.one (.fp [.int .i64 c0_slope,.int .i64 c0_start,.int .i64 c0_den] 0)]=>.tot [.one (.bool (zDT (⟨c0_slope,c0_start,c0_den⟩:straight) (⟨a0_Z,a0_Low,a0_High⟩:Gate)))]
  | _=>.no
theorem zDU:zaf Try.prog 117:=⟨_,rfl,rfl,by kernel_rfl⟩
theorem zLB:Ok Try.prog 117 zva:=zay zIv zDU fun args K h=>by
  unfold zva at h
  split at h
  · rename_i a0_Z a0_Low a0_High c0_slope c0_start c0_den
    have hk:=h
    exact ⟨(fun _ _=>[]),(fun _=>false),zCe,zOr (⟨c0_slope,c0_start,c0_den⟩:straight) (⟨a0_Z,a0_Low,a0_High⟩:Gate) K hk⟩
  · exact h.elim
abbrev zNt:Tabs:=Tabs.nil
theorem zIw:TabsOk Try.prog zNt:=TabsOk.nil
abbrev zOs:Ctrs:=csm zNt (fun _ _=>[]) (fun _=>false)
def zCf:Ann:=⟨18,[(0,zK [1,2] [2]),(1,zK [3] [])],
 [],
 [],
 [],[]⟩
abbrev zOt:=Bool
abbrev zOu (r:zOt):List PA:=[.one (.bool r)]
section
variable {K:List PA→Prop} {c0:straight} {g:Gate}
def zK3 (c0:straight) (g:Gate):Bool :=
  ((w64 (c0.start+(w64 (c0.slope * g.Z)))) == (w64 (g.Low * c0.den)))
end
theorem zOv (c0:straight) (g:Gate) (K:List PA→Prop) (hk:K (zOu (zK3 c0 g))):vcFun Try.prog zOs zCf 123 [.agg (enc_55 g),.one (.fp (zah c0) 0)] K :=
  zaw (by kernel_rfl) hk
def zvb : List PA → COut
  | [.agg [.int .i64 a0_Z,.int .i64 a0_Low,.int .i64 a0_High],.one (.fp [.int .i64 c0_slope,.int .i64 c0_start,.int .i64 c0_den] 0)]=>.tot [.one (.bool (zK3 (⟨c0_slope,c0_start,c0_den⟩:straight) (⟨a0_Z,a0_Low,a0_High⟩:Gate)))]
  | _=>.no
theorem zDV:zaf Try.prog 123:=⟨_,rfl,rfl,by kernel_rfl⟩
theorem zLC:Ok Try.prog 123 zvb:=zay zIw zDV fun args K h=>by
  unfold zvb at h
  split at h
  · rename_i a0_Z a0_Low a0_High c0_slope c0_start c0_den
    have hk:=h
    exact ⟨(fun _ _=>[]),(fun _=>false),zCf,zOv (⟨c0_slope,c0_start,c0_den⟩:straight) (⟨a0_Z,a0_Low,a0_High⟩:Gate) K hk⟩
  · exact h.elim
abbrev zK4:Tabs:=(((Tabs.nil.addF 100 zu8).addF 117 zva).addF 123 zvb)
theorem zIx:TabsOk Try.prog zK4:=(((TabsOk.nil.addF zLz).addF zLB).addF zLC)
abbrev zNu:Ctrs:=csm zK4 (fun _ _=>[]) (fun _=>false)
def zvc:Ann:=⟨19,[(0,zK [0,1] []),(1,zK [0,1,7,8] []),(2,zK [0,1,7,8,9] []),(3,zK [0,1,5,7,8] []),(4,zK [0,1,5,7,8,16] []),(5,zK [4] []),(6,zK [0,1,7,8] []),(7,zK [4] [])],
 [(2,zK [0,1,7,8] [])],
 [(5,zK [0,1,5,7,8,16] [])],
 [],[]⟩
abbrev zOw:=Int
abbrev e119 (r:zOw):List PA:=[.one (.int .i64 r)]
@[irreducible] def z119:=ptF Try.prog zNu zvc Try.f119
def zvd (c0:list) (sv0:(Sl Gate)) (za0:Int) (zbS:Int) (zc5:Nat→List PV):St:=⟨[(0,zP (.sl sv0.len 3 zc5)),(1,zP (.fn 100 [] [.fp (zb2 c0) 0])),(7,zI za0),(8,zI zbS)],[],[]⟩
abbrev zve (K:List PA→Prop) (c0:list) (X:St→Prop) (P:(Sl Gate)→Int→Int→Bool) (S:(Sl Gate)→Int→Int→Int):Prop:=∀ ⦃sv0:(Sl Gate)⦄ ⦃za0:Int⦄ ⦃zbS:Int⦄ ⦃zc5:Nat→List PV⦄,P sv0 za0 zbS=true→K (e119 (S sv0 za0 zbS))→zc5=zg enc_55 sv0→X (zvd c0 sv0 za0 zbS zc5)
section
variable {K:List PA→Prop} {c0:list} {s:(Sl Gate)} {sv0:(Sl Gate)} {za0:Int} {zbS:Int} {zc5:Nat→List PV} {X0:St→Prop} {P0:(Sl Gate)→Int→Int→Bool} {S0:(Sl Gate)→Int→Int→Int} {sv1:(Sl Gate)} {iv1:Int} {zgb:Int} {zjM:Int} {zdG:Bool} {znR:Nat→List PV}
def zl6 (S0:(Sl Gate)→Int→Int→Int) (c0:list) (sv1:(Sl Gate)) (iv1:Int) (zgb:Int) (zjM:Int) (zdG:Bool):Int :=
  (cond zdG
 iv1
 (S0 sv1 zgb (w64 (zjM+(1:Int)))))
def zl7 (P0:(Sl Gate)→Int→Int→Bool) (c0:list) (sv1:(Sl Gate)) (iv1:Int) (zgb:Int) (zjM:Int) (zdG:Bool):Bool :=
  (cond zdG
 true
 (P0 sv1 zgb (w64 (zjM+(1:Int)))))
theorem zAU (hX0:zve K c0 X0 P0 S0) (hs:zl7 P0 c0 sv1 iv1 zgb zjM zdG=true) (hk:K (e119 (zl6 S0 c0 sv1 iv1 zgb zjM zdG))) (zvf:znR=zg enc_55 sv1):z119 K [1,0,1,0,0,1,1,0,0,1,1] [X0] ⟨[(0,zP (.sl sv1.len 3 znR)),(1,zP (.fn 100 [] [.fp (zb2 c0) 0])),(5,zI iv1),(7,zI zgb),(8,zI zjM),(16,zB zdG)],[],[]⟩:=by subst zvf;exact zaw (by kernel_rfl) (zc hs hk (fun hs hk=>hk) (fun hs hk=>(hX0 hs hk rfl)))
def ziM (c0:list) (S0:(Sl Gate)→Int→Int→Int) (sv0:(Sl Gate)) (za0:Int) (zbS:Int):Int :=
  (cond (decide (zbS < za0))
 (zl6 S0 c0 sv0 zbS za0 zbS (zDO c0 (sv0.get zbS.toNat)))
 (-1:Int))
def ziN (c0:list) (P0:(Sl Gate)→Int→Int→Bool) (sv0:(Sl Gate)) (za0:Int) (zbS:Int):Bool :=
  (cond (decide (zbS < za0))
 (decide ((0≤zbS∧zbS < (sv0.len:Int))) &&
 (decide ((zDP c0 (sv0.get zbS.toNat)=true)) &&
 (zl7 P0 c0 sv0 zbS za0 zbS (zDO c0 (sv0.get zbS.toNat)))))
 true)
def ziO (c0:list):Nat→(Sl Gate)→Int→Int→Int:=lpO (fun _ _ _=>default) (ziM c0)
def ziP (c0:list):Nat→(Sl Gate)→Int→Int→Bool:=lpO (fun _ _ _=>false) (ziN c0)
def zr3 (c0:list) (sv0:(Sl Gate)) (za0:Int) (zbS:Int):Int:=ziO c0 Fuel sv0 za0 zbS
def zr4 (c0:list) (sv0:(Sl Gate)) (za0:Int) (zbS:Int):Bool:=ziP c0 Fuel sv0 za0 zbS
theorem zAV (hs:zr4 c0 sv0 za0 zbS=true) (hk:K (e119 (zr3 c0 sv0 za0 zbS))) (zjN:zc5=zg enc_55 sv0):z119 K [1,0,1,0] [] (zvd c0 sv0 za0 zbS zc5) :=
  zl (fun X=>z119 K [1,0,1,0,0] [X]) (by kernel_rfl) fun X0 hX =>
  (show ∀ k, zve K c0 X0 (ziP c0 k) (ziO c0 k) from zet _ _ (ziN c0) (ziM c0) (zve K c0 X0)
 (by intro _ _ _ _ hs;exact absurd hs Bool.false_ne_true)
 (by intro P0 S0 hX0 sv0 za0 zbS zc5 hs hk zjN;subst zjN;exact hX _ (zaw (by kernel_rfl) (zc hs hk (fun hs hk=>(zau hs fun hc hs=>And.intro hc (zau hs fun hc hs=>And.intro (And.intro (zE enc_55 3 c0.Gates.get) hc) (zAU hX0 hs hk rfl)))) (fun hs hk=>hk))))) _ hs hk zjN
def zIy (c0:list) (s:(Sl Gate)):Int :=
  (zr3 c0 s (s.len:Int) (0:Int))
def zIz (c0:list) (s:(Sl Gate)):Bool :=
  (zr4 c0 s (s.len:Int) (0:Int))
end
theorem zOx (c0:list) (s:(Sl Gate)) (K:List PA→Prop) (hs:zIz c0 s=true) (hk:K (e119 (zIy c0 s))):vcFun Try.prog zNu zvc 119 [.one (.sl s.len 3 (fun i=>enc_55 (s.get i))),.one (.fn 100 [] [.fp (zb2 c0) 0])] K :=
  zaw (by kernel_rfl) (zAV hs hk rfl)
abbrev zIA:Ctrs:=csm zK4 (fun _ _=>[]) (fun _=>false)
def zpf:Ann:=⟨19,[(0,zK [0,1] []),(1,zK [0,1,7,8] []),(2,zK [0,1,7,8,9] []),(3,zK [0,1,5,7,8] []),(4,zK [0,1,5,7,8,16] []),(5,zK [4] []),(6,zK [0,1,7,8] []),(7,zK [4] [])],
 [(2,zK [0,1,7,8] [])],
 [(5,zK [0,1,5,7,8,16] [])],
 [],[]⟩
abbrev zLD:=Int
abbrev zAW (r:zLD):List PA:=[.one (.int .i64 r)]
@[irreducible] def z119a:=ptF Try.prog zIA zpf Try.f119
def zr5 (c0:straight) (sv0:(Sl Gate)) (za0:Int) (zbS:Int) (zc5:Nat→List PV):St:=⟨[(0,zP (.sl sv0.len 3 zc5)),(1,zP (.fn 117 [] [.fp (zah c0) 0])),(7,zI za0),(8,zI zbS)],[],[]⟩
abbrev zpg (K:List PA→Prop) (c0:straight) (X:St→Prop) (P:(Sl Gate)→Int→Int→Bool) (S:(Sl Gate)→Int→Int→Int):Prop:=∀ ⦃sv0:(Sl Gate)⦄ ⦃za0:Int⦄ ⦃zbS:Int⦄ ⦃zc5:Nat→List PV⦄,P sv0 za0 zbS=true→K (zAW (S sv0 za0 zbS))→zc5=zg enc_55 sv0→X (zr5 c0 sv0 za0 zbS zc5)
section
variable {K:List PA→Prop} {c0:straight} {s:(Sl Gate)} {sv0:(Sl Gate)} {za0:Int} {zbS:Int} {zc5:Nat→List PV} {X0:St→Prop} {P0:(Sl Gate)→Int→Int→Bool} {S0:(Sl Gate)→Int→Int→Int} {sv1:(Sl Gate)} {iv1:Int} {zgb:Int} {zjM:Int} {zdG:Bool} {znR:Nat→List PV}
def zjO (S0:(Sl Gate)→Int→Int→Int) (c0:straight) (sv1:(Sl Gate)) (iv1:Int) (zgb:Int) (zjM:Int) (zdG:Bool):Int :=
  (cond zdG
 iv1
 (S0 sv1 zgb (w64 (zjM+(1:Int)))))
def zjP (P0:(Sl Gate)→Int→Int→Bool) (c0:straight) (sv1:(Sl Gate)) (iv1:Int) (zgb:Int) (zjM:Int) (zdG:Bool):Bool :=
  (cond zdG
 true
 (P0 sv1 zgb (w64 (zjM+(1:Int)))))
theorem zvg (hX0:zpg K c0 X0 P0 S0) (hs:zjP P0 c0 sv1 iv1 zgb zjM zdG=true) (hk:K (zAW (zjO S0 c0 sv1 iv1 zgb zjM zdG))) (zvf:znR=zg enc_55 sv1):z119a K [1,0,1,0,0,1,1,0,0,1,1] [X0] ⟨[(0,zP (.sl sv1.len 3 znR)),(1,zP (.fn 117 [] [.fp (zah c0) 0])),(5,zI iv1),(7,zI zgb),(8,zI zjM),(16,zB zdG)],[],[]⟩:=by subst zvf;exact zaw (by kernel_rfl) (zc hs hk (fun hs hk=>hk) (fun hs hk=>(hX0 hs hk rfl)))
def zgV (c0:straight) (S0:(Sl Gate)→Int→Int→Int) (sv0:(Sl Gate)) (za0:Int) (zbS:Int):Int :=
  (cond (decide (zbS < za0))
 (zjO S0 c0 sv0 zbS za0 zbS (zDT c0 (sv0.get zbS.toNat)))
 (-1:Int))
def zgW (c0:straight) (P0:(Sl Gate)→Int→Int→Bool) (sv0:(Sl Gate)) (za0:Int) (zbS:Int):Bool :=
  (cond (decide (zbS < za0))
 (decide ((0≤zbS∧zbS < (sv0.len:Int))) &&
 (zjP P0 c0 sv0 zbS za0 zbS (zDT c0 (sv0.get zbS.toNat))))
 true)
def zgX (c0:straight):Nat→(Sl Gate)→Int→Int→Int:=lpO (fun _ _ _=>default) (zgV c0)
def zgY (c0:straight):Nat→(Sl Gate)→Int→Int→Bool:=lpO (fun _ _ _=>false) (zgW c0)
def znS (c0:straight) (sv0:(Sl Gate)) (za0:Int) (zbS:Int):Int:=zgX c0 Fuel sv0 za0 zbS
def znT (c0:straight) (sv0:(Sl Gate)) (za0:Int) (zbS:Int):Bool:=zgY c0 Fuel sv0 za0 zbS
theorem zvh (hs:znT c0 sv0 za0 zbS=true) (hk:K (zAW (znS c0 sv0 za0 zbS))) (zjN:zc5=zg enc_55 sv0):z119a K [1,0,1,0] [] (zr5 c0 sv0 za0 zbS zc5) :=
  zl (fun X=>z119a K [1,0,1,0,0] [X]) (by kernel_rfl) fun X0 hX =>
  (show ∀ k, zpg K c0 X0 (zgY c0 k) (zgX c0 k) from zet _ _ (zgW c0) (zgV c0) (zpg K c0 X0)
 (by intro _ _ _ _ hs;exact absurd hs Bool.false_ne_true)
 (by intro P0 S0 hX0 sv0 za0 zbS zc5 hs hk zjN;subst zjN;exact hX _ (zaw (by kernel_rfl) (zc hs hk (fun hs hk=>(zau hs fun hc hs=>And.intro hc (zvg hX0 hs hk rfl))) (fun hs hk=>hk))))) _ hs hk zjN
def zvi (c0:straight) (s:(Sl Gate)):Int :=
  (znS c0 s (s.len:Int) (0:Int))
def zvj (c0:straight) (s:(Sl Gate)):Bool :=
  (znT c0 s (s.len:Int) (0:Int))
end
theorem zLE (c0:straight) (s:(Sl Gate)) (K:List PA→Prop) (hs:zvj c0 s=true) (hk:K (zAW (zvi c0 s))):vcFun Try.prog zIA zpf 119 [.one (.sl s.len 3 (fun i=>enc_55 (s.get i))),.one (.fn 117 [] [.fp (zah c0) 0])] K :=
  zaw (by kernel_rfl) (zvh hs hk rfl)
abbrev zIB:Ctrs:=csm zK4 (fun _ _=>[]) (fun _=>false)
def zph:Ann:=⟨19,[(0,zK [0,1] []),(1,zK [0,1,7,8] []),(2,zK [0,1,7,8,9] []),(3,zK [0,1,5,7,8] []),(4,zK [0,1,5,7,8,16] []),(5,zK [4] []),(6,zK [0,1,7,8] []),(7,zK [4] [])],
 [(2,zK [0,1,7,8] [])],
 [(5,zK [0,1,5,7,8,16] [])],
 [],[]⟩
abbrev zLF:=Int
abbrev zAX (r:zLF):List PA:=[.one (.int .i64 r)]
@[irreducible] def z119b:=ptF Try.prog zIB zph Try.f119
def zr6 (c0:straight) (sv0:(Sl Gate)) (za0:Int) (zbS:Int) (zc5:Nat→List PV):St:=⟨[(0,zP (.sl sv0.len 3 zc5)),(1,zP (.fn 123 [] [.fp (zah c0) 0])),(7,zI za0),(8,zI zbS)],[],[]⟩
abbrev zpi (K:List PA→Prop) (c0:straight) (X:St→Prop) (P:(Sl Gate)→Int→Int→Bool) (S:(Sl Gate)→Int→Int→Int):Prop:=∀ ⦃sv0:(Sl Gate)⦄ ⦃za0:Int⦄ ⦃zbS:Int⦄ ⦃zc5:Nat→List PV⦄,P sv0 za0 zbS=true→K (zAX (S sv0 za0 zbS))→zc5=zg enc_55 sv0→X (zr6 c0 sv0 za0 zbS zc5)
section
variable {K:List PA→Prop} {c0:straight} {s:(Sl Gate)} {sv0:(Sl Gate)} {za0:Int} {zbS:Int} {zc5:Nat→List PV} {X0:St→Prop} {P0:(Sl Gate)→Int→Int→Bool} {S0:(Sl Gate)→Int→Int→Int} {sv1:(Sl Gate)} {iv1:Int} {zgb:Int} {zjM:Int} {zdG:Bool} {znR:Nat→List PV}
def znU (S0:(Sl Gate)→Int→Int→Int) (c0:straight) (sv1:(Sl Gate)) (iv1:Int) (zgb:Int) (zjM:Int) (zdG:Bool):Int :=
  (cond zdG
 iv1
 (S0 sv1 zgb (w64 (zjM+(1:Int)))))
def znV (P0:(Sl Gate)→Int→Int→Bool) (c0:straight) (sv1:(Sl Gate)) (iv1:Int) (zgb:Int) (zjM:Int) (zdG:Bool):Bool :=
  (cond zdG
 true
 (P0 sv1 zgb (w64 (zjM+(1:Int)))))
theorem zvk (hX0:zpi K c0 X0 P0 S0) (hs:znV P0 c0 sv1 iv1 zgb zjM zdG=true) (hk:K (zAX (znU S0 c0 sv1 iv1 zgb zjM zdG))) (zvf:znR=zg enc_55 sv1):z119b K [1,0,1,0,0,1,1,0,0,1,1] [X0] ⟨[(0,zP (.sl sv1.len 3 znR)),(1,zP (.fn 123 [] [.fp (zah c0) 0])),(5,zI iv1),(7,zI zgb),(8,zI zjM),(16,zB zdG)],[],[]⟩:=by subst zvf;exact zaw (by kernel_rfl) (zc hs hk (fun hs hk=>hk) (fun hs hk=>(hX0 hs hk rfl)))
def znW (c0:straight) (S0:(Sl Gate)→Int→Int→Int) (sv0:(Sl Gate)) (za0:Int) (zbS:Int):Int :=
  (cond (decide (zbS < za0))
 (znU S0 c0 sv0 zbS za0 zbS (zK3 c0 (sv0.get zbS.toNat)))
 (-1:Int))
def znX (c0:straight) (P0:(Sl Gate)→Int→Int→Bool) (sv0:(Sl Gate)) (za0:Int) (zbS:Int):Bool :=
  (cond (decide (zbS < za0))
 (decide ((0≤zbS∧zbS < (sv0.len:Int))) &&
 (znV P0 c0 sv0 zbS za0 zbS (zK3 c0 (sv0.get zbS.toNat))))
 true)
def znY (c0:straight):Nat→(Sl Gate)→Int→Int→Int:=lpO (fun _ _ _=>default) (znW c0)
def znZ (c0:straight):Nat→(Sl Gate)→Int→Int→Bool:=lpO (fun _ _ _=>false) (znX c0)
def zn0 (c0:straight) (sv0:(Sl Gate)) (za0:Int) (zbS:Int):Int:=znY c0 Fuel sv0 za0 zbS
def zn1 (c0:straight) (sv0:(Sl Gate)) (za0:Int) (zbS:Int):Bool:=znZ c0 Fuel sv0 za0 zbS
theorem zvl (hs:zn1 c0 sv0 za0 zbS=true) (hk:K (zAX (zn0 c0 sv0 za0 zbS))) (zjN:zc5=zg enc_55 sv0):z119b K [1,0,1,0] [] (zr6 c0 sv0 za0 zbS zc5) :=
  zl (fun X=>z119b K [1,0,1,0,0] [X]) (by kernel_rfl) fun X0 hX =>
  (show ∀ k, zpi K c0 X0 (znZ c0 k) (znY c0 k) from zet _ _ (znX c0) (znW c0) (zpi K c0 X0)
 (by intro _ _ _ _ hs;exact absurd hs Bool.false_ne_true)
 (by intro P0 S0 hX0 sv0 za0 zbS zc5 hs hk zjN;subst zjN;exact hX _ (zaw (by kernel_rfl) (zc hs hk (fun hs hk=>(zau hs fun hc hs=>And.intro hc (zvk hX0 hs hk rfl))) (fun hs hk=>hk))))) _ hs hk zjN
def zDW (c0:straight) (s:(Sl Gate)):Int :=
  (zn0 c0 s (s.len:Int) (0:Int))
def zDX (c0:straight) (s:(Sl Gate)):Bool :=
  (zn1 c0 s (s.len:Int) (0:Int))
end
theorem zLG (c0:straight) (s:(Sl Gate)) (K:List PA→Prop) (hs:zDX c0 s=true) (hk:K (zAX (zDW c0 s))):vcFun Try.prog zIB zph 119 [.one (.sl s.len 3 (fun i=>enc_55 (s.get i))),.one (.fn 123 [] [.fp (zah c0) 0])] K :=
  zaw (by kernel_rfl) (zvl hs hk rfl)
def zvm : List PA → COut
  | [.one (.sl a0_n a0_s a0_g),.one (.fn 100 [] [.fp [.sl c0_Gates_n c0_Gates_s c0_Gates_g] 0])]=>.det (IsE enc_55 3 a0_s a0_g∧IsE enc_55 3 c0_Gates_s c0_Gates_g∧zIz (⟨(⟨c0_Gates_n,zae c0_Gates_g⟩:(Sl Gate))⟩:list) (⟨a0_n,zae a0_g⟩:(Sl Gate))=true) [.one (.int .i64 (zIy (⟨(⟨c0_Gates_n,zae c0_Gates_g⟩:(Sl Gate))⟩:list) (⟨a0_n,zae a0_g⟩:(Sl Gate))))]
  | [.one (.sl a0_n a0_s a0_g),.one (.fn 117 [] [.fp [.int .i64 c0_slope,.int .i64 c0_start,.int .i64 c0_den] 0])]=>.det (IsE enc_55 3 a0_s a0_g∧zvj (⟨c0_slope,c0_start,c0_den⟩:straight) (⟨a0_n,zae a0_g⟩:(Sl Gate))=true) [.one (.int .i64 (zvi (⟨c0_slope,c0_start,c0_den⟩:straight) (⟨a0_n,zae a0_g⟩:(Sl Gate))))]
  | [.one (.sl a0_n a0_s a0_g),.one (.fn 123 [] [.fp [.int .i64 c0_slope,.int .i64 c0_start,.int .i64 c0_den] 0])]=>.det (IsE enc_55 3 a0_s a0_g∧zDX (⟨c0_slope,c0_start,c0_den⟩:straight) (⟨a0_n,zae a0_g⟩:(Sl Gate))=true) [.one (.int .i64 (zDW (⟨c0_slope,c0_start,c0_den⟩:straight) (⟨a0_n,zae a0_g⟩:(Sl Gate))))]
  | _=>.no
theorem zDY:zaf Try.prog 119:=⟨_,rfl,rfl,by kernel_rfl⟩
theorem zLH:Ok Try.prog 119 zvm:=zay zIx zDY fun args K h=>by
  unfold zvm at h
  split at h
  · rename_i a0_n a0_s a0_g c0_Gates_n c0_Gates_s c0_Gates_g
    obtain ⟨⟨⟨rfl,a0_f,rfl⟩,⟨rfl,c0_Gates_f,rfl⟩,hs⟩,hk⟩:=h
    try rw [zac a0_f] at hs
    try rw [zac a0_f] at hk
    try rw [zac c0_Gates_f] at hs
    try rw [zac c0_Gates_f] at hk
    exact ⟨(fun _ _=>[]),(fun _=>false),zvc,zOx (⟨(⟨c0_Gates_n,c0_Gates_f⟩:(Sl Gate))⟩:list) (⟨a0_n,a0_f⟩:(Sl Gate)) K hs hk⟩
  · rename_i a0_n a0_s a0_g c0_slope c0_start c0_den
    obtain ⟨⟨⟨rfl,a0_f,rfl⟩,hs⟩,hk⟩:=h
    try rw [zac a0_f] at hs
    try rw [zac a0_f] at hk
    exact ⟨(fun _ _=>[]),(fun _=>false),zpf,zLE (⟨c0_slope,c0_start,c0_den⟩:straight) (⟨a0_n,a0_f⟩:(Sl Gate)) K hs hk⟩
  · rename_i a0_n a0_s a0_g c0_slope c0_start c0_den
    obtain ⟨⟨⟨rfl,a0_f,rfl⟩,hs⟩,hk⟩:=h
    try rw [zac a0_f] at hs
    try rw [zac a0_f] at hk
    exact ⟨(fun _ _=>[]),(fun _=>false),zph,zLG (⟨c0_slope,c0_start,c0_den⟩:straight) (⟨a0_n,a0_f⟩:(Sl Gate)) K hs hk⟩
  · exact h.elim
abbrev T99:Tabs:=(Tabs.nil.addF 119 zvm)
theorem zLI:TabsOk Try.prog T99:=(TabsOk.nil.addF zLH)
abbrev G99:Ctrs:=csm T99 (fun _ _=>[]) (fun _=>false)
def zIC:Ann:=⟨9,[(0,zK [0,1] []),(1,zK [4] [])],
 [],
 [],
 [],[]⟩
abbrev R99:=Bool
abbrev e99 (r:R99):List PA:=[.one (.bool r)]
section
variable {K:List PA→Prop} {c0:list} {s:(Sl Gate)}
def s99 (c0:list) (s:(Sl Gate)):Bool :=
  (decide ((zIy c0 s) ≥ (0:Int)))
def p99 (c0:list) (s:(Sl Gate)):Bool :=
  (decide ((zIz c0 s=true)) &&
 true)
end
theorem q99 (c0:list) (s:(Sl Gate)) (K:List PA→Prop) (hs:p99 c0 s=true) (hk:K (e99 (s99 c0 s))):vcFun Try.prog G99 zIC 99 [.one (.sl s.len 3 (fun i=>enc_55 (s.get i))),.one (.fn 100 [] [.fp (zb2 c0) 0])] K :=
  zaw (by kernel_rfl) (zau hs fun hc hs=>And.intro (And.intro (zE enc_55 3 s.get) (And.intro (zE enc_55 3 c0.Gates.get) hc)) hk)
abbrev zOy:Ctrs:=csm T99 (fun _ _=>[]) (fun _=>false)
def zCg:Ann:=⟨9,[(0,zK [0,1] []),(1,zK [4] [])],
 [],
 [],
 [],[]⟩
abbrev zOz:=Bool
abbrev zOA (r:zOz):List PA:=[.one (.bool r)]
section
variable {K:List PA→Prop} {c0:straight} {s:(Sl Gate)}
def zK5 (c0:straight) (s:(Sl Gate)):Bool :=
  (decide ((zvi c0 s) ≥ (0:Int)))
def zK6 (c0:straight) (s:(Sl Gate)):Bool :=
  (decide ((zvj c0 s=true)) &&
 true)
end
theorem zOB (c0:straight) (s:(Sl Gate)) (K:List PA→Prop) (hs:zK6 c0 s=true) (hk:K (zOA (zK5 c0 s))):vcFun Try.prog zOy zCg 99 [.one (.sl s.len 3 (fun i=>enc_55 (s.get i))),.one (.fn 117 [] [.fp (zah c0) 0])] K :=
  zaw (by kernel_rfl) (zau hs fun hc hs=>And.intro (And.intro (zE enc_55 3 s.get) hc) hk)
abbrev zOC:Ctrs:=csm T99 (fun _ _=>[]) (fun _=>false)
def zCh:Ann:=⟨9,[(0,zK [0,1] []),(1,zK [4] [])],
 [],
 [],
 [],[]⟩
abbrev zOD:=Bool
abbrev zOE (r:zOD):List PA:=[.one (.bool r)]
section
variable {K:List PA→Prop} {c0:straight} {s:(Sl Gate)}
def zLJ (c0:straight) (s:(Sl Gate)):Bool :=
  (decide ((zDW c0 s) ≥ (0:Int)))
def zLK (c0:straight) (s:(Sl Gate)):Bool :=
  (decide ((zDX c0 s=true)) &&
 true)
end
theorem zOF (c0:straight) (s:(Sl Gate)) (K:List PA→Prop) (hs:zLK c0 s=true) (hk:K (zOE (zLJ c0 s))):vcFun Try.prog zOC zCh 99 [.one (.sl s.len 3 (fun i=>enc_55 (s.get i))),.one (.fn 123 [] [.fp (zah c0) 0])] K :=
  zaw (by kernel_rfl) (zau hs fun hc hs=>And.intro (And.intro (zE enc_55 3 s.get) hc) hk)
def zvn : List PA → COut
  | [.one (.sl a0_n a0_s a0_g),.one (.fn 100 [] [.fp [.sl c0_Gates_n c0_Gates_s c0_Gates_g] 0])]=>.det (IsE enc_55 3 a0_s a0_g∧IsE enc_55 3 c0_Gates_s c0_Gates_g∧p99 (⟨(⟨c0_Gates_n,zae c0_Gates_g⟩:(Sl Gate))⟩:list) (⟨a0_n,zae a0_g⟩:(Sl Gate))=true) [.one (.bool (s99 (⟨(⟨c0_Gates_n,zae c0_Gates_g⟩:(Sl Gate))⟩:list) (⟨a0_n,zae a0_g⟩:(Sl Gate))))]
  | [.one (.sl a0_n a0_s a0_g),.one (.fn 117 [] [.fp [.int .i64 c0_slope,.int .i64 c0_start,.int .i64 c0_den] 0])]=>.det (IsE enc_55 3 a0_s a0_g∧zK6 (⟨c0_slope,c0_start,c0_den⟩:straight) (⟨a0_n,zae a0_g⟩:(Sl Gate))=true) [.one (.bool (zK5 (⟨c0_slope,c0_start,c0_den⟩:straight) (⟨a0_n,zae a0_g⟩:(Sl Gate))))]
  | [.one (.sl a0_n a0_s a0_g),.one (.fn 123 [] [.fp [.int .i64 c0_slope,.int .i64 c0_start,.int .i64 c0_den] 0])]=>.det (IsE enc_55 3 a0_s a0_g∧zLK (⟨c0_slope,c0_start,c0_den⟩:straight) (⟨a0_n,zae a0_g⟩:(Sl Gate))=true) [.one (.bool (zLJ (⟨c0_slope,c0_start,c0_den⟩:straight) (⟨a0_n,zae a0_g⟩:(Sl Gate))))]
  | _=>.no
theorem zID:zaf Try.prog 99:=⟨_,rfl,rfl,by kernel_rfl⟩
theorem zLL:Ok Try.prog 99 zvn:=zay zLI zID fun args K h=>by
  unfold zvn at h
  split at h
  · rename_i a0_n a0_s a0_g c0_Gates_n c0_Gates_s c0_Gates_g
    obtain ⟨⟨⟨rfl,a0_f,rfl⟩,⟨rfl,c0_Gates_f,rfl⟩,hs⟩,hk⟩:=h
    try rw [zac a0_f] at hs
    try rw [zac a0_f] at hk
    try rw [zac c0_Gates_f] at hs
    try rw [zac c0_Gates_f] at hk
    exact ⟨(fun _ _=>[]),(fun _=>false),zIC,q99 (⟨(⟨c0_Gates_n,c0_Gates_f⟩:(Sl Gate))⟩:list) (⟨a0_n,a0_f⟩:(Sl Gate)) K hs hk⟩
  · rename_i a0_n a0_s a0_g c0_slope c0_start c0_den
    obtain ⟨⟨⟨rfl,a0_f,rfl⟩,hs⟩,hk⟩:=h
    try rw [zac a0_f] at hs
    try rw [zac a0_f] at hk
    exact ⟨(fun _ _=>[]),(fun _=>false),zCg,zOB (⟨c0_slope,c0_start,c0_den⟩:straight) (⟨a0_n,a0_f⟩:(Sl Gate)) K hs hk⟩
  · rename_i a0_n a0_s a0_g c0_slope c0_start c0_den
    obtain ⟨⟨⟨rfl,a0_f,rfl⟩,hs⟩,hk⟩:=h
    try rw [zac a0_f] at hs
    try rw [zac a0_f] at hk
    exact ⟨(fun _ _=>[]),(fun _=>false),zCh,zOF (⟨c0_slope,c0_start,c0_den⟩:straight) (⟨a0_n,a0_f⟩:(Sl Gate)) K hs hk⟩
  · exact h.elim
abbrev T67:Tabs:=(Tabs.nil.addF 99 zvn)
theorem zLM:TabsOk Try.prog T67:=(TabsOk.nil.addF zLL)
abbrev G67:Ctrs:=csm T67 (fun _ _=>[]) (fun _=>false)
def zIE:Ann:=⟨8,[(0,zK [1] [1]),(1,zK [2] [])],
 [],
 [],
 [],[]⟩
abbrev R67:=Bool
abbrev e67 (r:R67):List PA:=[.one (.bool r)]
section
variable {K:List PA→Prop} {l_a0:list}
def s67 (l_a0:list):Bool :=
  (!(s99 l_a0 l_a0.Gates))
def p67 (l_a0:list):Bool :=
  (decide ((p99 l_a0 l_a0.Gates=true)) &&
 true)
end
theorem q67 (l_a0:list) (K:List PA→Prop) (hs:p67 l_a0=true) (hk:K (e67 (s67 l_a0))):vcFun Try.prog G67 zIE 67 [.agg (zb2 l_a0)] K :=
  zaw (by kernel_rfl) (zau hs fun hc hs=>And.intro (And.intro (zE enc_55 3 l_a0.Gates.get) (And.intro (zE enc_55 3 l_a0.Gates.get) hc)) hk)
def zn2 : List PA → COut
  | [.agg [.sl a0_Gates_n a0_Gates_s a0_Gates_g]]=>.det (IsE enc_55 3 a0_Gates_s a0_Gates_g∧p67 (⟨(⟨a0_Gates_n,zae a0_Gates_g⟩:(Sl Gate))⟩:list)=true) [.one (.bool (s67 (⟨(⟨a0_Gates_n,zae a0_Gates_g⟩:(Sl Gate))⟩:list)))]
  | _=>.no
theorem zIF:zaf Try.prog 67:=⟨_,rfl,rfl,by kernel_rfl⟩
theorem zIG:Ok Try.prog 67 zn2:=zay zLM zIF fun args K h=>by
  unfold zn2 at h
  split at h
  · rename_i a0_Gates_n a0_Gates_s a0_Gates_g
    obtain ⟨⟨⟨rfl,a0_Gates_f,rfl⟩,hs⟩,hk⟩:=h
    try rw [zac a0_Gates_f] at hs
    try rw [zac a0_Gates_f] at hk
    exact ⟨(fun _ _=>[]),(fun _=>false),zIE,q67 (⟨(⟨a0_Gates_n,a0_Gates_f⟩:(Sl Gate))⟩:list) K hs hk⟩
  · exact h.elim
abbrev zNv:Tabs:=Tabs.nil
theorem zIH:TabsOk Try.prog zNv:=TabsOk.nil
abbrev zNw:Ctrs:=csm zNv (fun _ _=>[]) (fun _=>false)
def zvo:Ann:=⟨12,[(0,zK [0,1] []),(1,zK [0,1,6] []),(2,zK [0,1] []),(3,zK [4] [])],
 [(1,zK [0,1] [])],
 [],
 [],[]⟩
abbrev zOG:=Int
abbrev zLN (r:zOG):List PA:=[.one (.int .i64 r)]
@[irreducible] def z114:=ptF Try.prog zNw zvo Try.f114
def zvp (av0:Int) (bv0:Int):St:=⟨[(0,zI av0),(1,zI bv0)],[],[]⟩
abbrev zCi (K:List PA→Prop) (X:St→Prop) (P:Int→Int→Bool) (S:Int→Int→Int):Prop:=∀ ⦃av0:Int⦄ ⦃bv0:Int⦄,P av0 bv0=true→K (zLN (S av0 bv0))→X (zvp av0 bv0)
section
variable {K:List PA→Prop} {a:Int} {b:Int} {av0:Int} {bv0:Int} {X0:St→Prop} {P0:Int→Int→Bool} {S0:Int→Int→Int}
def ziQ (S0:Int→Int→Int) (av0:Int) (bv0:Int):Int :=
  (cond (decide (bv0 > (0:Int)))
 (S0 bv0 (av0.tmod bv0))
 av0)
def ziR (P0:Int→Int→Bool) (av0:Int) (bv0:Int):Bool :=
  (cond (decide (bv0 > (0:Int)))
 (decide ((bv0 ≠ 0)) &&
 (P0 bv0 (av0.tmod bv0)))
 true)
def ziS:Nat→Int→Int→Int:=lpO (fun _ _=>default) (ziQ)
def ziT:Nat→Int→Int→Bool:=lpO (fun _ _=>false) (ziR)
def zr7 (av0:Int) (bv0:Int):Int:=ziS Fuel av0 bv0
def zr8 (av0:Int) (bv0:Int):Bool:=ziT Fuel av0 bv0
theorem zAY (hs:zr8 av0 bv0=true) (hk:K (zLN (zr7 av0 bv0))):z114 K [1,0,0] [] (zvp av0 bv0) :=
  zl (fun X=>z114 K [1,0,0,0] [X]) (by kernel_rfl) fun X0 hX =>
  (show ∀ k, zCi K X0 (ziT k) (ziS k) from zet _ _ (ziR) (ziQ) (zCi K X0)
 (by intro _ _ hs;exact absurd hs Bool.false_ne_true)
 (by intro P0 S0 hX0 av0 bv0 hs hk;exact hX _ (zaw (by kernel_rfl) (zc hs hk (fun hs hk=>(zau hs fun hc hs=>And.intro hc (hX0 hs hk))) (fun hs hk=>hk))))) _ hs hk
def zDZ (a:Int) (b:Int):Int :=
  (zr7 a b)
def zK7 (a:Int) (b:Int):Bool :=
  (zr8 a b)
end
theorem zOH (a:Int) (b:Int) (K:List PA→Prop) (hs:zK7 a b=true) (hk:K (zLN (zDZ a b))):vcFun Try.prog zNw zvo 114 [.one (.int .i64 a),.one (.int .i64 b)] K :=
  zaw (by kernel_rfl) (zAY hs hk)
def zvq : List PA → COut
  | [.one (.int .i64 a0),.one (.int .i64 a1)]=>.det (zK7 a0 a1=true) [.one (.int .i64 (zDZ a0 a1))]
  | _=>.no
theorem zD0:zaf Try.prog 114:=⟨_,rfl,rfl,by kernel_rfl⟩
theorem zLO:Ok Try.prog 114 zvq:=zay zIH zD0 fun args K h=>by
  unfold zvq at h
  split at h
  · rename_i a0 a1
    obtain ⟨hs,hk⟩:=h
    exact ⟨(fun _ _=>[]),(fun _=>false),zvo,zOH a0 a1 K hs hk⟩
  · exact h.elim
abbrev T89:Tabs:=(Tabs.nil.addF 114 zvq)
theorem zLP:TabsOk Try.prog T89:=(TabsOk.nil.addF zLO)
abbrev G89:Ctrs:=csm T89 (fun _ _=>[]) (fun _=>false)
def zII:Ann:=⟨19,[(0,zK [0,1,4] [4]),(1,zK [0,1,4,5] [4]),(2,zK [4] [4])],
 [],
 [],
 [],[]⟩
abbrev R89:=Frac
abbrev e89 (r:R89):List PA:=[.agg [.int .i64 r.Num,.int .i64 r.Den]]
section
variable {K:List PA→Prop} {num:Int} {den:Int}
def s89 (num:Int) (den:Int):Frac :=
  (⟨(w64 (num.tdiv (zDZ (if (w64 (0 - num)) > num then (w64 (0 - num)) else num) den))),(w64 (den.tdiv (zDZ (if (w64 (0 - num)) > num then (w64 (0 - num)) else num) den)))⟩:Frac)
def p89 (num:Int) (den:Int):Bool :=
  (decide ((zK7 (if (w64 (0 - num)) > num then (w64 (0 - num)) else num) den=true)) &&
 (decide (((zDZ (if (w64 (0 - num)) > num then (w64 (0 - num)) else num) den) ≠ 0)) &&
 (decide (((zDZ (if (w64 (0 - num)) > num then (w64 (0 - num)) else num) den) ≠ 0)) &&
 true)))
end
theorem q89 (num:Int) (den:Int) (K:List PA→Prop) (hs:p89 num den=true) (hk:K (e89 (s89 num den))):vcFun Try.prog G89 zII 89 [.one (.int .i64 num),.one (.int .i64 den)] K :=
  zaw (by kernel_rfl) (zau hs fun hc hs=>And.intro hc (zau hs fun hc hs=>And.intro hc (zau hs fun hc hs=>And.intro hc hk)))
def zpj : List PA → COut
  | [.one (.int .i64 a0),.one (.int .i64 a1)]=>.det (p89 a0 a1=true) [.agg [.int .i64 ((s89 a0 a1).Num),.int .i64 ((s89 a0 a1).Den)]]
  | _=>.no
theorem zIJ:zaf Try.prog 89:=⟨_,rfl,rfl,by kernel_rfl⟩
theorem zK8:Ok Try.prog 89 zpj:=zay zLP zIJ fun args K h=>by
  unfold zpj at h
  split at h
  · rename_i a0 a1
    obtain ⟨hs,hk⟩:=h
    exact ⟨(fun _ _=>[]),(fun _=>false),zII,q89 a0 a1 K hs hk⟩
  · exact h.elim
abbrev T79:Tabs:=(Tabs.nil.addF 89 zpj)
theorem zLQ:TabsOk Try.prog T79:=(TabsOk.nil.addF zK8)
abbrev G79:Ctrs:=csm T79 (fun _ _=>[]) (fun _=>false)
def zIK:Ann:=⟨14,[(0,zK [1,2] [1,2]),(1,zK [2] [2])],
 [],
 [],
 [],[]⟩
abbrev R79:=Line
abbrev e79 (r:R79):List PA:=[.agg [.int .i64 r.Slope.Num,.int .i64 r.Slope.Den,.int .i64 r.Start.Num,.int .i64 r.Start.Den]]
section
variable {K:List PA→Prop} {s:straight}
def s79 (s:straight):Line :=
  (⟨(s89 s.slope s.den),(s89 s.start s.den)⟩:Line)
def p79 (s:straight):Bool :=
  (decide ((p89 s.slope s.den=true)) &&
 (decide ((p89 s.start s.den=true)) &&
 true))
end
theorem q79 (s:straight) (K:List PA→Prop) (hs:p79 s=true) (hk:K (e79 (s79 s))):vcFun Try.prog G79 zIK 79 [.agg (zah s)] K :=
  zaw (by kernel_rfl) (zau hs fun hc hs=>And.intro hc (zau hs fun hc hs=>And.intro hc hk))
def zAZ : List PA → COut
  | [.agg [.int .i64 a0_slope,.int .i64 a0_start,.int .i64 a0_den]]=>.det (p79 (⟨a0_slope,a0_start,a0_den⟩:straight)=true) [.agg [.int .i64 ((s79 (⟨a0_slope,a0_start,a0_den⟩:straight)).Slope.Num),.int .i64 ((s79 (⟨a0_slope,a0_start,a0_den⟩:straight)).Slope.Den),.int .i64 ((s79 (⟨a0_slope,a0_start,a0_den⟩:straight)).Start.Num),.int .i64 ((s79 (⟨a0_slope,a0_start,a0_den⟩:straight)).Start.Den)]]
  | _=>.no
theorem zIL:zaf Try.prog 79:=⟨_,rfl,rfl,by kernel_rfl⟩
theorem zNx:Ok Try.prog 79 zAZ:=zay zLQ zIL fun args K h=>by
  unfold zAZ at h
  split at h
  · rename_i a0_slope a0_start a0_den
    obtain ⟨hs,hk⟩:=h
    exact ⟨(fun _ _=>[]),(fun _=>false),zIK,q79 (⟨a0_slope,a0_start,a0_den⟩:straight) K hs hk⟩
  · exact h.elim
abbrev T96:Tabs:=Tabs.nil
theorem zLR:TabsOk Try.prog T96:=TabsOk.nil
abbrev G96:Ctrs:=csm T96 (fun _ _=>[]) (fun _=>false)
def zD1:Ann:=⟨4,[(0,⟨[1],[1],[],[],[],[],[]⟩),(1,⟨[2],[],[],[],[],[],[]⟩)],
 [],
 [],
 [],[]⟩
theorem zD2 (l_a0 : list) (K : List PA → Prop) :
  vcFun Try.prog G96 zD1 96 [.agg [.sl l_a0.Gates.len 3 (fun i=>enc_55 (l_a0.Gates.get i))]] K =
  (K [.one (.fn 115 [] [.fp (zb2 l_a0) 0])]):=by kernel_rfl
theorem q96 (l_a0:list) (K:List PA→Prop) (hk:K [.one (.fn 115 [] [.fp (zb2 l_a0) 0])]):vcFun Try.prog G96 zD1 96 [.agg [.sl l_a0.Gates.len 3 (fun i=>enc_55 (l_a0.Gates.get i))]] K:=zaw (zD2 l_a0 K) hk
def zD3 : List PA → COut
  | [.agg [.sl a0_Gates_n a0_Gates_s a0_Gates_g]]=>.det (IsE enc_55 3 a0_Gates_s a0_Gates_g) [.one (.fn 115 [] [.fp (zb2 (⟨(⟨a0_Gates_n,zae a0_Gates_g⟩:(Sl Gate))⟩:list)) 0])]
  | _=>.no
theorem zIM:zaf Try.prog 96:=⟨_,rfl,rfl,by kernel_rfl⟩
theorem zOI:Ok Try.prog 96 zD3:=zay zLR zIM fun args K h=>by
  unfold zD3 at h
  split at h
  · rename_i a0_Gates_n a0_Gates_s a0_Gates_g
    obtain ⟨⟨rfl,a0_Gates_f,rfl⟩,hk⟩:=h
    try rw [zac a0_Gates_f] at hk
    exact ⟨fun _ _=>[],fun _=>false,zD1,q96 (⟨(⟨a0_Gates_n,a0_Gates_f⟩:(Sl Gate))⟩:list) K hk⟩
  · exact h.elim
abbrev T97:Tabs:=(Tabs.nil.addF 99 zvn)
theorem zLS:TabsOk Try.prog T97:=(TabsOk.nil.addF zLL)
abbrev G97:Ctrs:=csm T97 (fun _ _=>[]) (fun _=>false)
def zD4:Ann:=⟨11,[(0,zK [2,3] [2,3]),(1,zK [4] [])],
 [],
 [],
 [],[]⟩
abbrev R97:=Bool
abbrev e97 (r:R97):List PA:=[.one (.bool r)]
section
variable {K:List PA→Prop} {s:set} {x:straight}
def s97 (s:set) (x:straight):Bool :=
  (!(zK5 x s.list.Gates))
def p97 (s:set) (x:straight):Bool :=
  (decide ((zK6 x s.list.Gates=true)) &&
 true)
end
theorem q97 (s:set) (x:straight) (K:List PA→Prop) (hs:p97 s x=true) (hk:K (e97 (s97 s x))):vcFun Try.prog G97 zD4 97 [.agg (zaZ s),.agg (zah x)] K :=
  zaw (by kernel_rfl) (zau hs fun hc hs=>And.intro (And.intro (zE enc_55 3 s.list.Gates.get) hc) hk)
def zD5 : List PA → COut
  | [.agg [.sl a0_list_Gates_n a0_list_Gates_s a0_list_Gates_g,.sl a0_corners_n a0_corners_s a0_corners_g],.agg [.int .i64 a1_slope,.int .i64 a1_start,.int .i64 a1_den]]=>.det (IsE enc_55 3 a0_list_Gates_s a0_list_Gates_g∧IsE zah 3 a0_corners_s a0_corners_g∧p97 (⟨(⟨(⟨a0_list_Gates_n,zae a0_list_Gates_g⟩:(Sl Gate))⟩:list),(⟨a0_corners_n,zaT a0_corners_g⟩:(Sl straight))⟩:set) (⟨a1_slope,a1_start,a1_den⟩:straight)=true) [.one (.bool (s97 (⟨(⟨(⟨a0_list_Gates_n,zae a0_list_Gates_g⟩:(Sl Gate))⟩:list),(⟨a0_corners_n,zaT a0_corners_g⟩:(Sl straight))⟩:set) (⟨a1_slope,a1_start,a1_den⟩:straight)))]
  | [.agg [.sl a0_list_Gates_n a0_list_Gates_s a0_list_Gates_g,.nils],.agg [.int .i64 a1_slope,.int .i64 a1_start,.int .i64 a1_den]]=>.det (IsE enc_55 3 a0_list_Gates_s a0_list_Gates_g∧p97 (⟨(⟨(⟨a0_list_Gates_n,zae a0_list_Gates_g⟩:(Sl Gate))⟩:list),(⟨0,fun _=>default⟩:(Sl straight))⟩:set) (⟨a1_slope,a1_start,a1_den⟩:straight)=true) [.one (.bool (s97 (⟨(⟨(⟨a0_list_Gates_n,zae a0_list_Gates_g⟩:(Sl Gate))⟩:list),(⟨0,fun _=>default⟩:(Sl straight))⟩:set) (⟨a1_slope,a1_start,a1_den⟩:straight)))]
  | _=>.no
theorem zIN:zaf Try.prog 97:=⟨_,rfl,rfl,by kernel_rfl⟩
theorem zOJ:Ok Try.prog 97 zD5:=zhm zLS zIN fun args K h=>by
  unfold zD5 at h
  split at h
  · rename_i a0_list_Gates_n a0_list_Gates_s a0_list_Gates_g a0_corners_n a0_corners_s a0_corners_g a1_slope a1_start a1_den
    obtain ⟨⟨⟨rfl,a0_list_Gates_f,rfl⟩,⟨rfl,a0_corners_f,rfl⟩,hs⟩,hk⟩:=h
    try rw [zac a0_list_Gates_f] at hs
    try rw [zac a0_list_Gates_f] at hk
    try rw [zaP a0_corners_f] at hs
    try rw [zaP a0_corners_f] at hk
    exact ⟨_,ze0 zfW _,(fun _ _=>[]),(fun _=>false),zD4,q97 (⟨(⟨(⟨a0_list_Gates_n,a0_list_Gates_f⟩:(Sl Gate))⟩:list),(⟨a0_corners_n,a0_corners_f⟩:(Sl straight))⟩:set) (⟨a1_slope,a1_start,a1_den⟩:straight) (Wk K) hs (zd8 hk)⟩
  · rename_i a0_list_Gates_n a0_list_Gates_s a0_list_Gates_g a1_slope a1_start a1_den
    obtain ⟨⟨⟨rfl,a0_list_Gates_f,rfl⟩,hs⟩,hk⟩:=h
    try rw [zac a0_list_Gates_f] at hs
    try rw [zac a0_list_Gates_f] at hk
    exact ⟨_,(zc9 (.agg (zc9 (.rfl _) (zc9 (.nil _ _) zhl))) (zc9 (zfW _) zhl)),(fun _ _=>[]),(fun _=>false),zD4,q97 (⟨(⟨(⟨a0_list_Gates_n,a0_list_Gates_f⟩:(Sl Gate))⟩:list),(⟨0,fun _=>default⟩:(Sl straight))⟩:set) (⟨a1_slope,a1_start,a1_den⟩:straight) (Wk K) hs (zd8 hk)⟩
  · exact h.elim
abbrev zNy:Tabs:=Tabs.nil
theorem zIO:TabsOk Try.prog zNy:=TabsOk.nil
abbrev zNz:Ctrs:=csm zNy (fun _ _=>[]) (fun _=>false)
def zvr:Ann:=⟨30,[(0,zK [0,1,2,3,8] [8]),(1,zK [0,1,2,3,8,11] [8]),(2,zK [0,1,2,3,8] [8]),(3,zK [8] [8])],
 [],
 [(3,zK [0,1,2,3,8] [8])],
 [],[]⟩
abbrev zOK:=straight
abbrev e116 (r:zOK):List PA:=[.agg [.int .i64 r.slope,.int .i64 r.start,.int .i64 r.den]]
@[irreducible] def z116:=ptF Try.prog zNz zvr Try.f116
section
variable {K:List PA→Prop} {z:Int} {p:Int} {y_a2:Int} {q:Int} {zv0:Int} {pv0:Int} {yv0:Int} {qv0:Int}
def ziU (zv0:Int) (pv0:Int) (yv0:Int) (qv0:Int):straight :=
  (⟨(w64 (qv0 - pv0)),(w64 ((w64 (pv0 * yv0)) - (w64 (qv0 * zv0)))),(w64 (yv0 - zv0))⟩:straight)
theorem zr9 (hk:K (e116 (ziU zv0 pv0 yv0 qv0))):z116 K [1,1] [] ⟨[(0,zI zv0),(1,zI pv0),(2,zI yv0),(3,zI qv0),(8,zp 8 0)],[(8,.box 118 (zm (zah (⟨(0:Int),(0:Int),(0:Int)⟩:straight))))],[]⟩:=zaw (by kernel_rfl) hk
def zkK (z:Int) (p:Int) (y_a2:Int) (q:Int):straight :=
  (cond (decide (z > y_a2))
 (ziU y_a2 q z p)
 (ziU z p y_a2 q))
end
theorem zOL (z:Int) (p:Int) (y_a2:Int) (q:Int) (K:List PA→Prop) (hk:K (e116 (zkK z p y_a2 q))):vcFun Try.prog zNz zvr 116 [.one (.int .i64 z),.one (.int .i64 p),.one (.int .i64 y_a2),.one (.int .i64 q)] K :=
  zaw (by kernel_rfl) (zt hk (fun hk=>(zr9 hk)) (fun hk=>(zr9 hk)))
def zvs : List PA → COut
  | [.one (.int .i64 a0),.one (.int .i64 a1),.one (.int .i64 a2),.one (.int .i64 a3)]=>.tot [.agg [.int .i64 ((zkK a0 a1 a2 a3).slope),.int .i64 ((zkK a0 a1 a2 a3).start),.int .i64 ((zkK a0 a1 a2 a3).den)]]
  | _=>.no
theorem zD6:zaf Try.prog 116:=⟨_,rfl,rfl,by kernel_rfl⟩
theorem zLT:Ok Try.prog 116 zvs:=zay zIO zD6 fun args K h=>by
  unfold zvs at h
  split at h
  · rename_i a0 a1 a2 a3
    have hk:=h
    exact ⟨(fun _ _=>[]),(fun _=>false),zvr,zOL a0 a1 a2 a3 K hk⟩
  · exact h.elim
abbrev zNA:Tabs:=(Tabs.nil.addF 116 zvs)
theorem zIP:TabsOk Try.prog zNA:=(TabsOk.nil.addF zLT)
abbrev zvt:Ctrs:=csm zNA (fun _ _=>[]) (fun _=>false)
def zb1:Ann:=⟨64,[(0,⟨[0,1,12,13,14],[],[],[],[],[],[]⟩),(1,⟨[0,1,12,13,14,15],[],[],[],[],[],[]⟩),(2,⟨[0,1,3,4,12,13,14],[4],[],[],[],[],[]⟩),(3,⟨[0,1,4,12,13,14,23,24,25],[4],[],[],[],[],[]⟩),(4,⟨[0,1,4,12,13,14,23,24,25,26],[4],[],[],[],[],[]⟩),(5,⟨[0,1,4,6,12,13,14,23,24,25],[4,6],[],[],[],[],[]⟩),(6,⟨[0,1,4,6,12,13,14,23,24,25,33],[4,6],[],[],[],[],[]⟩),(7,⟨[0,1,4,6,12,13,14,23,24,25,38,39],[4,6],[],[],[],[],[]⟩),(8,⟨[0,1,4,6,12,13,14,23,24,25,38,39,40],[4,6],[],[],[],[],[]⟩),(9,⟨[0,1,4,6,8,12,13,14,23,24,25,38,39],[4,6],[],[],[],[],[]⟩),(10,⟨[0,1,4,6,8,12,13,14,23,24,25,38,39,46,47],[4,6],[],[],[],[],[]⟩),(11,⟨[0,1,4,6,8,12,13,14,23,24,25,38,39,46,47,48],[4,6],[],[],[],[],[]⟩),(12,⟨[0,1,4,6,8,10,12,13,14,23,24,25,38,39,46,47],[4,6],[],[],[],[],[]⟩),(13,⟨[0,1,4,6,8,12,13,14,23,24,25,38,39,46,47,59],[4,6],[],[],[],[],[]⟩),(14,⟨[0,1,4,6,8,12,13,14,23,24,25,38,39,46,47],[4,6],[],[],[],[],[]⟩),(15,⟨[0,1,4,6,12,13,14,23,24,25,38,39],[4,6],[],[],[],[],[]⟩),(16,⟨[0,1,4,12,13,14,23,24,25],[4],[],[],[],[],[]⟩),(17,⟨[0,1,12,13,14],[],[],[],[],[],[]⟩)],
 [(1,⟨[0,1,12,13,14],[],[],[],[],[],[]⟩),(4,⟨[0,1,4,12,13,14,23,24,25],[4],[],[],[],[4],[]⟩)],
 [],
 [(8,3,⟨[0,1,4,6,12,13,14,23,24,25,38,39],[4,6],[],[],[],[],[]⟩),(11,3,⟨[0,1,4,6,8,12,13,14,23,24,25,38,39,46,47],[4,6],[],[],[],[],[]⟩)],[13]⟩
def ze1 (l:Nat) (a:list) (zai:Int):St:=⟨[(0,.one (.c (.p (.yl l)))),(1,.one (.c (.p (.fp (zb2 a) 0)))),(12,.one (.c (.p (.sl a.Gates.len 3 (fun i=>enc_55 (a.Gates.get i)))))),(13,.one (.c (.p (.int .i64 (a.Gates.len:Int))))),(14,.one (.c (.p (.int .i64 zai))))],[],[]⟩
def zgZ (l:Nat) (ys:List (List PA)) (a:list) (zai:Int):Prop:=vcY Try.prog zvt zb1 l (cdF Try.f115 [1,0]) (zc1 0 zkP) ys false (ze1 l a zai)
def ze2 (l:Nat) (a:list) (zaS:Int) (ze3:Nat) (zb3:Nat→List PV) (zby:Int) (zaD:Int) (zaO:Int) (zaW:Int) (zbi:Int):St:=⟨[(0,.one (.c (.p (.yl l)))),(1,.one (.c (.p (.fp (zb2 a) 0)))),(4,.one (.c (.ptr 4 0))),(12,.one (.c (.p (.sl a.Gates.len 3 (fun i=>enc_55 (a.Gates.get i)))))),(13,.one (.c (.p (.int .i64 (a.Gates.len:Int))))),(14,.one (.c (.p (.int .i64 zaS)))),(23,.one (.c (.p (.sl ze3 3 zb3)))),(24,.one (.c (.p (.int .i64 zby)))),(25,.one (.c (.p (.int .i64 zaD))))],[(4,.fbox [.int .i64 zaO,.int .i64 zaW,.int .i64 zbi])],[]⟩
def zg0 (l:Nat) (X0:List (List PA)→Bool→St→Prop) (ys:List (List PA)) (a:list) (zaS:Int) (ze3:Nat) (zb3:Nat→List PV) (zby:Int) (zaD:Int) (zaO:Int) (zaW:Int) (zbi:Int):Prop:=vcY Try.prog zvt zb1 l (cdF Try.f115 [1,0,0,1,1,0,0,1,1,0]) (zc1 2 (zc1 1 (zHR (zHT Try.prog zb1 17 (vcY Try.prog zvt zb1 l (cdF Try.f115 [1,0,0,1,1,1]) (ziz Try.prog zb1 1 X0 (zc1 0 zkP)))) (ziz Try.prog zb1 1 X0 (zc1 0 zkP))))) ys false (ze2 l a zaS ze3 zb3 zby zaD zaO zaW zbi)
theorem zA0 (l : Nat) (a : list) (ys : List (List PA)) :
  vcIter Try.prog zvt zb1 115 l [.one (.fp (zb2 a) 0)] ys =
  (zgZ l ys a (0:Int)):=by kernel_rfl
def zls (l:Nat) (X0:List (List PA)→Bool→St→Prop) (ys:List (List PA)) (a:list) (zai:Int):Prop :=
  (zc0 (decide (zai < (a.Gates.len : Int)))
 (((0≤zai∧zai < (a.Gates.len:Int))) ∧
 (((0≤(w64 (zai+(1:Int)))∧(w64 (zai+(1:Int)))≤(a.Gates.len:Int)∧(a.Gates.len:Int)≤(a.Gates.len:Int))) ∧
 (zg0 l  X0 ys a zai (((a.Gates.len:Int) - (w64 (zai+(1:Int)))).toNat) (slG (fun i=>enc_55 (a.Gates.get i)) ((w64 (zai+(1:Int))).toNat)) (((a.Gates.len:Int) - (w64 (zai+(1:Int)))).toNat:Int) (0:Int) ((a.Gates.get zai.toNat).Z) ((a.Gates.get zai.toNat).Low) ((a.Gates.get zai.toNat).High))))
 (ys=[]))
theorem zn3 (l : Nat) (X0 : List (List PA) → Bool → St → Prop) (ys : List (List PA)) (a : list) (zai : Int) :
  vcY Try.prog zvt zb1 l (cd (cdF Try.f115 [1,0]) [0]) (ziz Try.prog zb1 1 X0 (zc1 0 zkP)) ys false (ze1 l a zai) =
  zls l X0 ys a zai:=by kernel_rfl
theorem ztA (l : Nat) (ys : List (List PA)) (a : list) (zai : Int)
  (h:∀ X0:List (List PA)→Bool→St→Prop,(∀ (ys:List (List PA)) (zai:Int),zls l X0 ys a zai→X0 ys false (ze1 l a zai))→X0 ys false (ze1 l a zai)) :
  zgZ l ys a zai:=by
  have e:zgZ l ys a zai=(∀ X:List (List PA)→Bool→St→Prop,(∀ ys q s,vcY Try.prog zvt zb1 l (cd (cdF Try.f115 [1,0]) [0]) (ziz Try.prog zb1 1 X (zc1 0 zkP)) ys q s→X ys q s)→X ys false (ze1 l a zai)):=by kernel_rfl
  refine zaw e ?_
  intro X hX
  refine h X ?_
  intro ys zai hs
  refine hX _ _ _ ?_
  have e2:=zn3 l X ys a zai
  rw [e2]
  exact hs
def zlt (l:Nat) (X0:List (List PA)→Bool→St→Prop) (X1:List (List PA)→Bool→St→Prop) (ys:List (List PA)) (a:list) (zaS:Int) (zaK:(Sl Gate)) (zby:Int) (zaD:Int) (zaO:Int) (zaW:Int) (zbi:Int):Prop :=
  (zc0 (decide (zaD < zby))
 (((0≤zaD∧zaD < (zaK.len:Int))) ∧
 (zc0 (zaO == (zaK.get zaD.toNat).Z)
 (X1 ys false (ze2 l a zaS zaK.len (fun i=>enc_55 (zaK.get i)) zby (w64 (zaD+(1:Int))) zaO zaW zbi))
 (l=l∧∃ r1,ys=[.agg [.int .i64 ((zkK zaO zaW ((zaK.get zaD.toNat).Z) ((zaK.get zaD.toNat).Low)).slope),.int .i64 ((zkK zaO zaW ((zaK.get zaD.toNat).Z) ((zaK.get zaD.toNat).Low)).start),.int .i64 ((zkK zaO zaW ((zaK.get zaD.toNat).Z) ((zaK.get zaD.toNat).Low)).den)]] :: r1 ∧
 (l=l∧∃ r2,r1=[.agg [.int .i64 ((zkK zaO zaW ((zaK.get zaD.toNat).Z) ((zaK.get zaD.toNat).High)).slope),.int .i64 ((zkK zaO zaW ((zaK.get zaD.toNat).Z) ((zaK.get zaD.toNat).High)).start),.int .i64 ((zkK zaO zaW ((zaK.get zaD.toNat).Z) ((zaK.get zaD.toNat).High)).den)]] :: r2 ∧
 (l=l∧∃ r3,r2=[.agg [.int .i64 ((zkK zaO zbi ((zaK.get zaD.toNat).Z) ((zaK.get zaD.toNat).Low)).slope),.int .i64 ((zkK zaO zbi ((zaK.get zaD.toNat).Z) ((zaK.get zaD.toNat).Low)).start),.int .i64 ((zkK zaO zbi ((zaK.get zaD.toNat).Z) ((zaK.get zaD.toNat).Low)).den)]] :: r3 ∧
 (l=l∧∃ r4,r3=[.agg [.int .i64 ((zkK zaO zbi ((zaK.get zaD.toNat).Z) ((zaK.get zaD.toNat).High)).slope),.int .i64 ((zkK zaO zbi ((zaK.get zaD.toNat).Z) ((zaK.get zaD.toNat).High)).start),.int .i64 ((zkK zaO zbi ((zaK.get zaD.toNat).Z) ((zaK.get zaD.toNat).High)).den)]] :: r4 ∧
 (X1 r4 false (ze2 l a zaS zaK.len (fun i=>enc_55 (zaK.get i)) zby (w64 (zaD+(1:Int))) zaO zaW zbi))∧True)∧True)∧True)∧True)))
 (X0 ys false (ze1 l a (w64 (zaS+(1:Int))))))
theorem zn4 (l : Nat) (X0 : List (List PA) → Bool → St → Prop) (X1 : List (List PA) → Bool → St → Prop) (ys : List (List PA)) (a : list) (zaS : Int) (zaK : (Sl Gate)) (zby : Int) (zaD : Int) (zaO : Int) (zaW : Int) (zbi : Int) :
  vcY Try.prog zvt zb1 l (cd (cdF Try.f115 [1,0,0,1,1,0,0,1,1,0]) [0]) (ziz Try.prog zb1 4 X1 (zc1 2 (zc1 1 (zHR (zHT Try.prog zb1 17 (vcY Try.prog zvt zb1 l (cdF Try.f115 [1,0,0,1,1,1]) (ziz Try.prog zb1 1 X0 (zc1 0 zkP)))) (ziz Try.prog zb1 1 X0 (zc1 0 zkP)))))) ys false (ze2 l a zaS zaK.len (fun i=>enc_55 (zaK.get i)) zby zaD zaO zaW zbi) =
  zlt l  X0 X1 ys a zaS zaK zby zaD zaO zaW zbi:=by kernel_rfl
theorem ztB (l : Nat) (X0 : List (List PA) → Bool → St → Prop) (ys : List (List PA)) (a : list) (zaS : Int) (ze3 : Nat) (zb3 : Nat → List PV) (zby : Int) (zaD : Int) (zaO : Int) (zaW : Int) (zbi : Int)
  (h:∀ X1:List (List PA)→Bool→St→Prop,(∀ (ys:List (List PA)) (zaS:Int) (zaK:(Sl Gate)) (zby:Int) (zaD:Int) (zaO:Int) (zaW:Int) (zbi:Int),zlt l  X0 X1 ys a zaS zaK zby zaD zaO zaW zbi→X1 ys false (ze2 l a zaS zaK.len (fun i=>enc_55 (zaK.get i)) zby zaD zaO zaW zbi))→X1 ys false (ze2 l a zaS ze3 zb3 zby zaD zaO zaW zbi)) :
  zg0 l  X0 ys a zaS ze3 zb3 zby zaD zaO zaW zbi:=by
  have e:zg0 l  X0 ys a zaS ze3 zb3 zby zaD zaO zaW zbi=(∀ X:List (List PA)→Bool→St→Prop,(∀ ys q s,vcY Try.prog zvt zb1 l (cd (cdF Try.f115 [1,0,0,1,1,0,0,1,1,0]) [0]) (ziz Try.prog zb1 4 X (zc1 2 (zc1 1 (zHR (zHT Try.prog zb1 17 (vcY Try.prog zvt zb1 l (cdF Try.f115 [1,0,0,1,1,1]) (ziz Try.prog zb1 1 X0 (zc1 0 zkP)))) (ziz Try.prog zb1 1 X0 (zc1 0 zkP)))))) ys q s→X ys q s)→X ys false (ze2 l a zaS ze3 zb3 zby zaD zaO zaW zbi)):=by kernel_rfl
  refine zaw e ?_
  intro X hX
  refine h X ?_
  intro ys zaS zaK zby zaD zaO zaW zbi hs
  refine hX _ _ _ ?_
  have e2:=zn4 l  X0 X ys a zaS zaK zby zaD zaO zaW zbi
  rw [e2]
  exact hs
attribute [irreducible] zgZ zg0
def zew (S0:Int→List straight) (a:list) (S1:Int→(Sl Gate)→Int→Int→Int→Int→Int→List straight) (zaS:Int) (zaK:(Sl Gate)) (zby:Int) (zaD:Int) (zaO:Int) (zaW:Int) (zbi:Int):List straight :=
  (cond (decide (zaD < zby))
 (cond (zaO == (zaK.get zaD.toNat).Z)
 (S1 zaS zaK zby (w64 (zaD+(1:Int))) zaO zaW zbi)
 ((zkK zaO zaW ((zaK.get zaD.toNat).Z) ((zaK.get zaD.toNat).Low)) :: ((zkK zaO zaW ((zaK.get zaD.toNat).Z) ((zaK.get zaD.toNat).High)) :: ((zkK zaO zbi ((zaK.get zaD.toNat).Z) ((zaK.get zaD.toNat).Low)) :: ((zkK zaO zbi ((zaK.get zaD.toNat).Z) ((zaK.get zaD.toNat).High)) :: (S1 zaS zaK zby (w64 (zaD+(1:Int))) zaO zaW zbi))))))
 (S0 (w64 (zaS+(1:Int)))))
def zex (P0:Int→Bool) (a:list) (P1:Int→(Sl Gate)→Int→Int→Int→Int→Int→Bool) (zaS:Int) (zaK:(Sl Gate)) (zby:Int) (zaD:Int) (zaO:Int) (zaW:Int) (zbi:Int):Bool :=
  (cond (decide (zaD < zby))
 (decide ((0≤zaD∧zaD < (zaK.len:Int))) &&
 (cond (zaO == (zaK.get zaD.toNat).Z)
 (P1 zaS zaK zby (w64 (zaD+(1:Int))) zaO zaW zbi)
 (P1 zaS zaK zby (w64 (zaD+(1:Int))) zaO zaW zbi)))
 (P0 (w64 (zaS+(1:Int)))))
def zdo (S0 : Int → List straight) (a : list) : Nat → Int → (Sl Gate) → Int → Int → Int → Int → Int → List straight
  | 0=>fun _ _ _ _ _ _ _=>[]
  | k+1=>zew S0 a (zdo S0 a k)
def zdp (P0 : Int → Bool) (a : list) : Nat → Int → (Sl Gate) → Int → Int → Int → Int → Int → Bool
  | 0=>fun _ _ _ _ _ _ _=>false
  | k+1=>zex P0 a (zdp P0 a k)
def zl8 (S0:Int→List straight) (a:list) (zaS:Int) (zaK:(Sl Gate)) (zby:Int) (zaD:Int) (zaO:Int) (zaW:Int) (zbi:Int):List straight:=zdo S0 a Fuel zaS zaK zby zaD zaO zaW zbi
def zl9 (P0:Int→Bool) (a:list) (zaS:Int) (zaK:(Sl Gate)) (zby:Int) (zaD:Int) (zaO:Int) (zaW:Int) (zbi:Int):Bool:=zdp P0 a Fuel zaS zaK zby zaD zaO zaW zbi
theorem zA1 (l : Nat) (a : list)
  (X0:List (List PA)→Bool→St→Prop) (P0:Int→Bool) (S0:Int→List straight)
  (hX0:∀ (ys:List (List PA)) (zai:Int),P0 zai=true→ys=(S0 zai).map (fun y=>[.agg (zah y)])→X0 ys false (ze1 l a zai)) (ys:List (List PA)) (zaS:Int) (zaK:(Sl Gate)) (zby:Int) (zaD:Int) (zaO:Int) (zaW:Int) (zbi:Int) (zb3:Nat→List PV) (zjQ:zb3=fun i=>enc_55 (zaK.get i)) (hs:zl9 P0 a zaS zaK zby zaD zaO zaW zbi=true) (hk:ys=(zl8 S0 a zaS zaK zby zaD zaO zaW zbi).map (fun y=>[.agg (zah y)])):zg0 l  X0 ys a zaS zaK.len zb3 zby zaD zaO zaW zbi:=by
  refine ztB l  X0 ys a zaS zaK.len zb3 zby zaD zaO zaW zbi ?_
  intro X1 hstep
  have key:∀ (k:Nat) (ys:List (List PA)) (zaS:Int) (zaK:(Sl Gate)) (zby:Int) (zaD:Int) (zaO:Int) (zaW:Int) (zbi:Int) (zb3:Nat→List PV) (zjQ:zb3=fun i=>enc_55 (zaK.get i)),zdp P0 a k zaS zaK zby zaD zaO zaW zbi=true→ys=(zdo S0 a k zaS zaK zby zaD zaO zaW zbi).map (fun y=>[.agg (zah y)])→X1 ys false (ze2 l a zaS zaK.len zb3 zby zaD zaO zaW zbi):=by
    intro k
    induction k with
    | zero=>intro ys zaS zaK zby zaD zaO zaW zbi zb3 zjQ hs;exact absurd hs Bool.false_ne_true
    | succ k ih =>
      intro ys zaS zaK zby zaD zaO zaW zbi zb3 zjQ hs hk
      subst zjQ
      refine hstep ys zaS zaK zby zaD zaO zaW zbi ?_
      have hs:zex P0 a (zdp P0 a k) zaS zaK zby zaD zaO zaW zbi=true:=hs
      have hk:ys=(zew S0 a (zdo S0 a k) zaS zaK zby zaD zaO zaW zbi).map (fun y=>[.agg (zah y)]):=hk
      unfold zex at hs
      unfold zew at hk
      generalize zdo S0 a k=S1 at hk ih
      generalize zdp P0 a k=P1 at hs ih
      have hX1:=ih
      exact (zl5 hs hk
 (fun hs hk => (zau hs fun hc hs => ⟨hc, (zl5 hs hk
 (fun hs hk=>(hX1 _ zaS zaK zby (w64 (zaD+(1:Int))) zaO zaW zbi (fun i=>enc_55 (zaK.get i)) rfl hs hk))
 (fun hs hk=>(itY hk rfl (fun _ hk=>(itY hk rfl (fun _ hk=>(itY hk rfl (fun _ hk=>(itY hk rfl (fun _ hk=>(hX1 _ zaS zaK zby (w64 (zaD+(1:Int))) zaO zaW zbi (fun i=>enc_55 (zaK.get i)) rfl hs hk)))))))))))⟩))
 (fun hs hk=>(hX0 _ (w64 (zaS+(1:Int))) hs hk)))
  exact key _ _ zaS zaK zby zaD zaO zaW zbi zb3 zjQ hs hk
def zey (a:list) (S0:Int→List straight) (zai:Int):List straight :=
  (cond (decide (zai < (a.Gates.len : Int)))
 (zl8 S0 a zai (⟨((a.Gates.len:Int) - (w64 (zai+(1:Int)))).toNat,(fun i=>a.Gates.get (i+((w64 (zai+(1:Int))).toNat)))⟩:Sl Gate) (((a.Gates.len:Int) - (w64 (zai+(1:Int)))).toNat:Int) (0:Int) ((a.Gates.get zai.toNat).Z) ((a.Gates.get zai.toNat).Low) ((a.Gates.get zai.toNat).High))
 [])
def zez (a:list) (P0:Int→Bool) (zai:Int):Bool :=
  (cond (decide (zai < (a.Gates.len : Int)))
 (decide ((0≤zai∧zai < (a.Gates.len:Int))) &&
 (decide ((0≤(w64 (zai+(1:Int)))∧(w64 (zai+(1:Int)))≤(a.Gates.len:Int)∧(a.Gates.len:Int)≤(a.Gates.len:Int))) &&
 (zl9 P0 a zai (⟨((a.Gates.len:Int) - (w64 (zai+(1:Int)))).toNat,(fun i=>a.Gates.get (i+((w64 (zai+(1:Int))).toNat)))⟩:Sl Gate) (((a.Gates.len:Int) - (w64 (zai+(1:Int)))).toNat:Int) (0:Int) ((a.Gates.get zai.toNat).Z) ((a.Gates.get zai.toNat).Low) ((a.Gates.get zai.toNat).High))))
 true)
def zdq (a : list) : Nat → Int → List straight
  | 0=>fun _=>[]
  | k+1=>zey a (zdq a k)
def zdr (a : list) : Nat → Int → Bool
  | 0=>fun _=>false
  | k+1=>zez a (zdr a k)
def zsa (a:list) (zai:Int):List straight:=zdq a Fuel zai
def zsb (a:list) (zai:Int):Bool:=zdr a Fuel zai
theorem zA2 (l:Nat) (a:list) (ys:List (List PA)) (zai:Int) (hs:zsb a zai=true) (hk:ys=(zsa a zai).map (fun y=>[.agg (zah y)])):zgZ l ys a zai:=by
  refine ztA l ys a zai ?_
  intro X0 hstep
  have key:∀ (k:Nat) (ys:List (List PA)) (zai:Int),zdr a k zai=true→ys=(zdq a k zai).map (fun y=>[.agg (zah y)])→X0 ys false (ze1 l a zai):=by
    intro k
    induction k with
    | zero=>intro ys zai hs;exact absurd hs Bool.false_ne_true
    | succ k ih =>
      intro ys zai hs hk
      refine hstep ys zai ?_
      have hs:zez a (zdr a k) zai=true:=hs
      have hk:ys=(zey a (zdq a k) zai).map (fun y=>[.agg (zah y)]):=hk
      unfold zez at hs
      unfold zey at hk
      generalize zdq a k=S0 at hk ih
      generalize zdr a k=P0 at hs ih
      have hX0:=ih
      exact (zl5 hs hk
 (fun hs hk=>(zau hs fun hc hs=>⟨hc,(zau hs fun hc hs=>⟨hc,(zA1 l a X0 P0 S0 hX0 _ zai (⟨((a.Gates.len:Int) - (w64 (zai+(1:Int)))).toNat,(fun i=>a.Gates.get (i+((w64 (zai+(1:Int))).toNat)))⟩:Sl Gate) (((a.Gates.len:Int) - (w64 (zai+(1:Int)))).toNat:Int) (0:Int) ((a.Gates.get zai.toNat).Z) ((a.Gates.get zai.toNat).Low) ((a.Gates.get zai.toNat).High) (slG (fun i=>enc_55 (a.Gates.get i)) ((w64 (zai+(1:Int))).toNat)) rfl hs hk)⟩)⟩))
 (fun hs hk=>hk))
  exact key _ _ zai hs hk
def zCj (a:list):List straight :=
  (zsa a (0:Int))
def zD7 (a:list):Bool :=
  (zsb a (0:Int))
theorem zOM (l:Nat) (a:list) (ys:List (List PA)) (hs:zD7 a=true) (hk:ys=(zCj a).map (fun y=>[.agg (zah y)])):vcIter Try.prog zvt zb1 115 l [.one (.fp (zb2 a) 0)] ys:=by
  refine zaw (zA0 l a ys) ?_
  unfold zD7 at hs
  unfold zCj at hk
  exact (zA2 l a _ (0:Int) hs hk)
def zD8 : List PA → Option (Prop × List (List PA))
  | [.one (.fp [.sl a_Gates_n a_Gates_s a_Gates_g] 0)]=>some (IsE enc_55 3 a_Gates_s a_Gates_g∧zD7 (⟨(⟨a_Gates_n,zae a_Gates_g⟩:(Sl Gate))⟩:list)=true,(zCj (⟨(⟨a_Gates_n,zae a_Gates_g⟩:(Sl Gate))⟩:list)).map fun y=>[.agg (zah y)])
  | _=>none
theorem zD9:zaf Try.prog 115:=⟨_,rfl,rfl,by kernel_rfl⟩
theorem zLU:zBT Try.prog 115 zD8:=zIe zIP zD9 fun l caps safe ys h hs=>by
  unfold zD8 at h
  split at h
  · rename_i a_Gates_n a_Gates_s a_Gates_g
    cases h
    obtain ⟨⟨rfl,a_Gates_f,rfl⟩,hs⟩:=hs
    try rw [zac a_Gates_f] at hs
    try rw [zac a_Gates_f]
    exact ⟨fun _ _=>[],fun _=>false,zb1,zOM l (⟨(⟨a_Gates_n,a_Gates_f⟩:(Sl Gate))⟩:list) _ hs rfl⟩
  · cases h
abbrev T65:Tabs:=(((((Tabs.nil.addF 67 zn2).addF 79 zAZ).addF 96 zD3).addF 97 zD5).addI 115 zD8)
theorem zLV:TabsOk Try.prog T65:=(((((TabsOk.nil.addF zIG).addF zNx).addF zOI).addF zOJ).addI zLU)
abbrev G65:Ctrs:=csm T65 (fun _ _=>[]) (fun l=>Nat.beq l 14)
def zg1:Ann:=⟨39,[(0,⟨[0,2],[2],[],[],[],[],[]⟩),(1,⟨[2,3],[2,3],[],[],[],[],[]⟩),(2,⟨[2,3,12],[2,3],[],[],[],[],[]⟩),(3,⟨[2],[2],[],[],[],[],[]⟩),(4,⟨[2,3,4],[2,3,4,14],[],[],[],[],[]⟩),(5,⟨[2,3,4,17],[2,3,4,14],[],[],[],[],[]⟩),(6,⟨[2,3,4,5,17],[2,3,4,5,14,36],[],[],[],[],[]⟩),(7,⟨[2,3,4,5,6,17],[2,3,4,5,6,14,36],[],[],[],[],[]⟩),(8,⟨[2,3,4,5,6,17,29],[2,3,4,5,6,14,36],[],[],[],[],[]⟩),(9,⟨[2,3,4,5,17],[2,3,4,5,14,36],[],[],[],[],[]⟩),(10,⟨[2,3,4,17],[2,3,4,14,36],[],[],[],[],[]⟩),(11,⟨[2],[2,36],[],[],[],[],[]⟩)],
 [(6,⟨[2,3,4,17],[2,3,4,14,36],[],[(3,1,36,118,fun _=>zah default)],[],[],[]⟩)],
 [(3,⟨[2,3,12],[2,3],[],[],[],[],[]⟩),(4,⟨[2,3],[2,3],[],[],[],[],[]⟩)],
 [],[]⟩
def zIQ (zaa:(Sl Gate)) (zaM:Bool):St:=⟨[(2,.one (.c (.ptr 2 0))),(3,.one (.c (.ptr 3 0))),(12,.one (.c (.p (.bool zaM))))],[(2,.box 104 [.p (.nils),.p (.nils)]),(3,.box 104 [.p (.sl zaa.len 3 (fun i=>enc_55 (zaa.get i))),.p (.nils)])],[]⟩
def zma (K:List PA→Prop) (zaa:(Sl Gate)) (zaM:Bool):Prop:=vc Try.prog G65 zg1 (cdF Try.f65 [1,1,0,1]) (sqK Try.prog G65 zg1 (cdF Try.f65 [1,1,1]) (zcq Try.prog Try.f65 K)) (zIQ zaa zaM)
def zIR (zaa:(Sl Gate)):St:=⟨[(2,.one (.c (.ptr 2 0))),(3,.one (.c (.ptr 3 0)))],[(2,.box 104 [.p (.nils),.p (.nils)]),(3,.box 104 [.p (.sl zaa.len 3 (fun i=>enc_55 (zaa.get i))),.p (.nils)])],[]⟩
def zmb (K:List PA→Prop) (zaa:(Sl Gate)):Prop:=vc Try.prog G65 zg1 (cdF Try.f65 [1,1,1]) (zcq Try.prog Try.f65 K) (zIR zaa)
def ze4 (zaa:(Sl Gate)) (ze5:Nat) (zb4:Nat→List PV) (zar:Nat) (zak:(List Int→Option (List Int))):St:=⟨[(2,.one (.c (.ptr 2 0))),(3,.one (.c (.ptr 3 0))),(4,.one (.c (.ptr 4 0))),(17,.one (.c (.p (.fn 115 [] [.fp (zb2 (⟨zaa⟩:list)) 0]))))],[(2,.box 104 [.p (.nils),.p (.nils)]),(3,.box 104 [.p (.sl zaa.len 3 (fun i=>enc_55 (zaa.get i))),.vec 36]),(4,.box 136 [.mo 14]),(14,.mo 37 4 (true,4,false,[none]) zar zak),(36,.vec 118 3 24 ze5 zb4)],[]⟩
def zjR (K:List PA→Prop) (zaa:(Sl Gate)) (ze5:Nat) (zb4:Nat→List PV) (zar:Nat) (zak:(List Int→Option (List Int))):Prop:=vc Try.prog G65 zg1 (cdF Try.f65 [1,1,1,1,0,1,0]) (za2 0 (sqK Try.prog G65 zg1 (cdF Try.f65 [1,1,1,1,1]) (zcq Try.prog Try.f65 K))) (ze4 zaa ze5 zb4 zar zak)
theorem zEa (zaa : (Sl Gate)) (K : List PA → Prop) :
  vcFun Try.prog G65 zg1 65 [.one (.sl zaa.len 3 (fun i=>enc_55 (zaa.get i)))] K =
  ((IsE enc_55 3 3 (fun i=>enc_55 (zaa.get i))∧(p67 (⟨zaa⟩:list)=true)) ∧
 (zma K zaa (s67 (⟨zaa⟩:list)))):=by kernel_rfl
theorem zEb (K : List PA → Prop) (zaa : (Sl Gate)) (zaM : Bool) :
  zma K zaa zaM =
  (zc0 zaM
 (K [.agg [.sl zaa.len 3 (fun i=>enc_55 (zaa.get i)),.nils]])
 (zmb K zaa)):=by kernel_rfl
theorem zEc (K : List PA → Prop) (zaa : (Sl Gate)) :
  zmb K zaa =
  ((IsE enc_55 3 3 (fun i=>enc_55 (zaa.get i))) ∧
 (zjR K zaa 0 (fun i=>zah ((fun _=>default) i)) 0 (fun _=>none))):=by kernel_rfl
def zn5 (K:List PA→Prop) (zaa:(Sl Gate)) (zaA:(Sl straight)) (zar:Nat) (zak:(List Int→Option (List Int))):Prop :=
  (K [.agg [.sl zaa.len 3 (fun i=>enc_55 (zaa.get i)),.sl zaA.len 3 (fun i=>zah (zaA.get i))]])
def zn6 (K:List PA→Prop) (X2:List (List PA)→St→Prop) (y2:straight) (rest2:List (List PA)) (zaa:(Sl Gate)) (zaA:(Sl straight)) (zar:Nat) (zak:(List Int→Option (List Int))):Prop :=
  (((p79 y2=true)) ∧
 (zc0 (!((zdP (zak [(s79 y2).Slope.Num, (s79 y2).Slope.Den, (s79 y2).Start.Num, (s79 y2).Start.Den]) 0) != 0))
 ((IsE enc_55 3 3 (fun i=>enc_55 (zaa.get i))∧IsE zah 3 3 (fun i=>zah (zaA.get i))∧(p97 (⟨(⟨zaa⟩:list),zaA⟩:set) y2=true)) ∧
 (zc0 (s97 (⟨(⟨zaa⟩ : list), zaA⟩ : set) y2)
 ((((zaA.len+1) * 24≤140737488355328∧zaA.len+1≤9223372036854775807)) ∧
 (X2 rest2 (ze4 zaa (zaA.len+1) (appG zaA.len (fun i=>zah (zaA.get i)) (fun _=>(zah y2))) (addN (zak [(s79 y2).Slope.Num,(s79 y2).Slope.Den,(s79 y2).Start.Num,(s79 y2).Start.Den]) zar) (zkZ [(s79 y2).Slope.Num,(s79 y2).Slope.Den,(s79 y2).Start.Num,(s79 y2).Start.Den] [1] zak))))
 (X2 rest2 (ze4 zaa zaA.len (fun i=>zah (zaA.get i)) zar zak))))
 (X2 rest2 (ze4 zaa zaA.len (fun i=>zah (zaA.get i)) zar zak))))
theorem zpk (K:List PA→Prop) (zaa:(Sl Gate)) (zaA:(Sl straight)) (zar:Nat) (zak:(List Int→Option (List Int))):(za2 0 (sqK Try.prog G65 zg1 (cdF Try.f65 [1,1,1,1,1]) (zcq Try.prog Try.f65 K))) .normal (ze4 zaa zaA.len (fun i=>zah (zaA.get i)) zar zak)=zn5 K zaa zaA zar zak:=by kernel_rfl
theorem zpl (K : List PA → Prop) (X2 : List (List PA) → St → Prop) (y2 : straight) (rest2 : List (List PA)) (zaa : (Sl Gate)) (zaA : (Sl straight)) (zar : Nat) (zak : (List Int → Option (List Int))) :
  zNp Try.prog G65 zg1 6 [18] (cd (cdF Try.f65 [1,1,1,1,0,1,0]) [0]) (cd (cdF Try.f65 [1,1,1,1,0,1,0]) [1]) X2 (za2 0 (sqK Try.prog G65 zg1 (cdF Try.f65 [1,1,1,1,1]) (zcq Try.prog Try.f65 K))) [.agg (zah y2)] rest2 (ze4 zaa zaA.len (fun i=>zah (zaA.get i)) zar zak)=zn6 K X2 y2 rest2 zaa zaA zar zak:=by kernel_rfl
theorem zvu (K : List PA → Prop) (zaa : (Sl Gate)) (ze5 : Nat) (zb4 : Nat → List PV) (zar : Nat) (zak : (List Int → Option (List Int)))
  (hsafe:IsE enc_55 3 3 (fun i=>enc_55 ((⟨zaa⟩:list).Gates.get i))∧(zD7 (⟨zaa⟩:list)=true)) (h:∀ X2:List (List PA)→St→Prop,(∀ (zaA:(Sl straight)) (zar:Nat) (zak:(List Int→Option (List Int))),zn5 K zaa zaA zar zak→X2 [] (ze4 zaa zaA.len (fun i=>zah (zaA.get i)) zar zak))→(∀ (y:straight) (rest:List (List PA)) (zaA:(Sl straight)) (zar:Nat) (zak:(List Int→Option (List Int))),zn6 K X2 y rest zaa zaA zar zak→X2 ([.agg (zah y)] :: rest) (ze4 zaa zaA.len (fun i=>zah (zaA.get i)) zar zak))→X2 ((zCj (⟨zaa⟩:list)).map fun y=>[.agg (zah y)]) (ze4 zaa ze5 zb4 zar zak)) :
  zjR K zaa ze5 zb4 zar zak:=by
  have e:zjR K zaa ze5 zb4 zar zak=((IsE enc_55 3 3 (fun i=>enc_55 ((⟨zaa⟩:list).Gates.get i))∧(zD7 (⟨zaa⟩:list)=true))∧∀ X:List (List PA)→St→Prop,(∀ s,(za2 0 (sqK Try.prog G65 zg1 (cdF Try.f65 [1,1,1,1,1]) (zcq Try.prog Try.f65 K))) .normal s→X [] s)→(∀ y rest s,zNp Try.prog G65 zg1 6 [18] (cd (cdF Try.f65 [1,1,1,1,0,1,0]) [0]) (cd (cdF Try.f65 [1,1,1,1,0,1,0]) [1]) X (za2 0 (sqK Try.prog G65 zg1 (cdF Try.f65 [1,1,1,1,1]) (zcq Try.prog Try.f65 K))) y rest s→X (y :: rest) s)→X ((zCj (⟨zaa⟩:list)).map fun y=>[.agg (zah y)]) (ze4 zaa ze5 zb4 zar zak)):=by kernel_rfl
  refine zaw e ⟨hsafe,?_⟩
  intro X h0 h1
  refine h X (fun zaA zar zak hs=>h0 _ ?_) (fun y rest zaA zar zak hs=>h1 _ rest _ ?_)
  · rw [zpk K zaa zaA zar zak];exact hs
  · have e2 := zpl K X y rest zaa zaA zar zak
    rw [e2];exact hs
abbrev e65 (r:set):List PA:=[.agg [.sl r.list.Gates.len 3 (fun i=>enc_55 (r.list.Gates.get i)),.sl r.corners.len 3 (fun i=>zah (r.corners.get i))]]
attribute [irreducible] zma zmb zjR
def zpm (zaa:(Sl Gate)) (zaA:(Sl straight)) (zar:Nat) (zak:(List Int→Option (List Int))):set :=
  (⟨(⟨zaa⟩:list),zaA⟩:set)
def zpn (zaa:(Sl Gate)) (zaA:(Sl straight)) (zar:Nat) (zak:(List Int→Option (List Int))):Bool :=
  true
def zjS (zaa:(Sl Gate)) (y2:straight) (S2:(Sl straight)→Nat→(List Int→Option (List Int))→set) (zaA:(Sl straight)) (zar:Nat) (zak:(List Int→Option (List Int))):set :=
  (cond (!((zdP (zak [(s79 y2).Slope.Num, (s79 y2).Slope.Den, (s79 y2).Start.Num, (s79 y2).Start.Den]) 0) != 0))
 (cond (s97 (⟨(⟨zaa⟩ : list), zaA⟩ : set) y2)
 (S2 (⟨(zaA.len+1),(zdW zaA.len zaA.get (fun _=>y2))⟩:Sl straight) (addN (zak [(s79 y2).Slope.Num,(s79 y2).Slope.Den,(s79 y2).Start.Num,(s79 y2).Start.Den]) zar) (zkZ [(s79 y2).Slope.Num,(s79 y2).Slope.Den,(s79 y2).Start.Num,(s79 y2).Start.Den] [1] zak))
 (S2 zaA zar zak))
 (S2 zaA zar zak))
def zjT (zaa:(Sl Gate)) (y2:straight) (P2:(Sl straight)→Nat→(List Int→Option (List Int))→Bool) (zaA:(Sl straight)) (zar:Nat) (zak:(List Int→Option (List Int))):Bool :=
  (decide ((p79 y2=true)) &&
 (cond (!((zdP (zak [(s79 y2).Slope.Num, (s79 y2).Slope.Den, (s79 y2).Start.Num, (s79 y2).Start.Den]) 0) != 0))
 (decide ((p97 (⟨(⟨zaa⟩:list),zaA⟩:set) y2=true)) &&
 (cond (s97 (⟨(⟨zaa⟩ : list), zaA⟩ : set) y2)
 (decide (((zaA.len+1) * 24≤140737488355328∧zaA.len+1≤9223372036854775807)) &&
 (P2 (⟨(zaA.len+1),(zdW zaA.len zaA.get (fun _=>y2))⟩:Sl straight) (addN (zak [(s79 y2).Slope.Num,(s79 y2).Slope.Den,(s79 y2).Start.Num,(s79 y2).Start.Den]) zar) (zkZ [(s79 y2).Slope.Num,(s79 y2).Slope.Den,(s79 y2).Start.Num,(s79 y2).Start.Den] [1] zak)))
 (P2 zaA zar zak)))
 (P2 zaA zar zak)))
def ze6 (zaa : (Sl Gate)) : List straight → (Sl straight) → Nat → (List Int → Option (List Int)) → set
  | []=>zpm zaa
  | y :: r=>zjS zaa y (ze6 zaa r)
def ze7 (zaa : (Sl Gate)) : List straight → (Sl straight) → Nat → (List Int → Option (List Int)) → Bool
  | []=>zpn zaa
  | y :: r=>zjT zaa y (ze7 zaa r)
def zpo (zaa:(Sl Gate)) (zaA:(Sl straight)) (zar:Nat) (zak:(List Int→Option (List Int))):set:=ze6 zaa (zCj (⟨zaa⟩:list)) zaA zar zak
def zmc (zaa:(Sl Gate)) (zaA:(Sl straight)) (zar:Nat) (zak:(List Int→Option (List Int))):Bool:=decide ((zD7 (⟨zaa⟩:list)=true)) && ze7 zaa (zCj (⟨zaa⟩:list)) zaA zar zak
theorem zEd (K:List PA→Prop) (zaa:(Sl Gate)) (zaA:(Sl straight)) (zar:Nat) (zak:(List Int→Option (List Int))) (zb4:Nat→List PV) (zhs:zb4=fun i=>zah (zaA.get i)) (hs:zmc zaa zaA zar zak=true) (hk:K (e65 (zpo zaa zaA zar zak))):zjR (Wk K) zaa zaA.len zb4 zar zak:=by
  unfold zmc at hs
  rw [Bool.and_eq_true] at hs
  obtain ⟨hsf,hs⟩:=hs
  have hc:=of_decide_eq_true hsf
  refine zvu (Wk K) zaa zaA.len zb4 zar zak ⟨isE,hc⟩ ?_
  intro X2 hexit hstep
  have key:∀ (l:List straight) (zaA:(Sl straight)) (zar:Nat) (zak:(List Int→Option (List Int))) (zb4:Nat→List PV) (zhs:zb4=fun i=>zah (zaA.get i)),ze7 zaa l zaA zar zak=true→K (e65 (ze6 zaa l zaA zar zak))→X2 (l.map fun y=>[.agg (zah y)]) (ze4 zaa zaA.len zb4 zar zak):=by
    intro l
    induction l with
    | nil =>
      intro zaA zar zak zb4 zhs hs hk
      subst zhs
      refine hexit zaA zar zak ?_
      have hs:zpn zaa zaA zar zak=true:=hs
      have hk:K (e65 (zpm zaa zaA zar zak)):=hk
      unfold zpn at hs
      unfold zpm at hk
      exact (zd8 hk)
    | cons y2 l ih =>
      intro zaA zar zak zb4 zhs hs hk
      subst zhs
      refine hstep y2 _ zaA zar zak ?_
      have hs:zjT zaa y2 (ze7 zaa l) zaA zar zak=true:=hs
      have hk:K (e65 (zjS zaa y2 (ze6 zaa l) zaA zar zak)):=hk
      unfold zjT at hs
      unfold zjS at hk
      generalize ze6 zaa l=S2 at hk ih
      generalize ze7 zaa l=P2 at hs ih
      have hX2:=ih
      exact (zau hs fun hc hs => ⟨hc, (zcj (K := fun r => K (e65 r))
 (fun hs hk => (zau hs fun hc hs => ⟨⟨isE, isE, hc⟩, (zcj (K := fun r => K (e65 r))
 (fun hs hk=>(zau hs fun hc hs=>⟨hc,(hX2 (⟨(zaA.len+1),(zdW zaA.len zaA.get (fun _=>y2))⟩:Sl straight) (addN (zak [(s79 y2).Slope.Num,(s79 y2).Slope.Den,(s79 y2).Start.Num,(s79 y2).Start.Den]) zar) (zkZ [(s79 y2).Slope.Num,(s79 y2).Slope.Den,(s79 y2).Start.Num,(s79 y2).Start.Den] [1] zak) (appG zaA.len (fun i=>zah (zaA.get i)) (fun _=>(zah y2))) (zeP (enc:=zah) (f:=zaA.get) (h:=(fun _=>y2)) rfl rfl) hs hk)⟩))
 (fun hs hk=>(hX2 zaA zar zak (fun i=>zah (zaA.get i)) rfl hs hk)) hs hk)⟩))
 (fun hs hk=>(hX2 zaA zar zak (fun i=>zah (zaA.get i)) rfl hs hk)) hs hk)⟩)
  exact key _ zaA zar zak zb4 zhs hs hk
def zmd (zaa:(Sl Gate)):set :=
  (zpo zaa (⟨0,(fun _=>default)⟩:Sl straight) 0 (fun _=>none))
def zme (zaa:(Sl Gate)):Bool :=
  (zmc zaa (⟨0,(fun _=>default)⟩:Sl straight) 0 (fun _=>none))
theorem zEe (K:List PA→Prop) (zaa:(Sl Gate)) (hs:zme zaa=true) (hk:K (e65 (zmd zaa))):zmb (Wk K) zaa:=by
  refine zaw (zEc (Wk K) zaa) ?_
  unfold zme at hs
  unfold zmd at hk
  exact ⟨isE,(zEd K zaa (⟨0,(fun _=>default)⟩:Sl straight) 0 (fun _=>none) (fun i=>zah ((fun _=>default) i)) rfl hs hk)⟩
def zmf (zaa:(Sl Gate)) (zaM:Bool):set :=
  (cond zaM
 (⟨(⟨zaa⟩:list),(⟨0,fun _=>default⟩:(Sl straight))⟩:set)
 (zmd zaa))
def zmg (zaa:(Sl Gate)) (zaM:Bool):Bool :=
  (cond zaM
 true
 (zme zaa))
theorem zEf (K:List PA→Prop) (zaa:(Sl Gate)) (zaM:Bool) (hs:zmg zaa zaM=true) (hk:K (e65 (zmf zaa zaM))):zma (Wk K) zaa zaM:=by
  refine zaw (zEb (Wk K) zaa zaM) ?_
  unfold zmg at hs
  unfold zmf at hk
  exact (zcj (K := fun r => K (e65 r))
 (fun hs hk=>(wk hk (zc9 (.agg (zc9 (.rfl _) (zc9 (.nil _ _) zhl))) zhl)))
 (fun hs hk=>(zEe K zaa hs hk)) hs hk)
def s65 (zaa:(Sl Gate)):set :=
  (zmf zaa (s67 (⟨zaa⟩:list)))
def p65 (zaa:(Sl Gate)):Bool :=
  (decide ((p67 (⟨zaa⟩:list)=true)) &&
 (zmg zaa (s67 (⟨zaa⟩:list))))
theorem q65 (zaa:(Sl Gate)) (K:List PA→Prop) (hs:p65 zaa=true) (hk:K (e65 (s65 zaa))):vcFun Try.prog G65 zg1 65 [.one (.sl zaa.len 3 (fun i=>enc_55 (zaa.get i)))] (Wk K):=by
  refine zaw (zEa zaa (Wk K)) ?_
  unfold p65 at hs
  unfold s65 at hk
  exact (zau hs fun hc hs=>⟨⟨isE,hc⟩,(zEf K zaa (s67 (⟨zaa⟩:list)) hs hk)⟩)
def zvv : List PA → COut
  | [.one (.sl a0_n a0_s a0_g)]=>.det (IsE enc_55 3 a0_s a0_g∧p65 (⟨a0_n,zae a0_g⟩:(Sl Gate))=true) [.agg [.sl ((s65 (⟨a0_n,zae a0_g⟩:(Sl Gate))).list.Gates.len) 3 (fun i=>enc_55 ((s65 (⟨a0_n,zae a0_g⟩:(Sl Gate))).list.Gates.get i)),.sl ((s65 (⟨a0_n,zae a0_g⟩:(Sl Gate))).corners.len) 3 (fun i=>zah ((s65 (⟨a0_n,zae a0_g⟩:(Sl Gate))).corners.get i))]]
  | _=>.no
theorem zIS:zaf Try.prog 65:=⟨_,rfl,rfl,by kernel_rfl⟩
theorem zLW:Ok Try.prog 65 zvv:=zhm zLV zIS fun args K h=>by
  unfold zvv at h
  split at h
  · rename_i a0_n a0_s a0_g
    obtain ⟨⟨⟨rfl,a0_f,rfl⟩,hs⟩,hk⟩:=h
    try rw [zac a0_f] at hs
    try rw [zac a0_f] at hk
    exact ⟨_,ze0 zfW _,(fun _ _=>[]),(fun l=>Nat.beq l 14),zg1,q65 (⟨a0_n,a0_f⟩:(Sl Gate)) K hs hk⟩
  · exact h.elim
abbrev T98:Tabs:=Tabs.nil
theorem zLX:TabsOk Try.prog T98:=TabsOk.nil
abbrev G98:Ctrs:=csm T98 (fun _ _=>[]) (fun _=>false)
def zEg:Ann:=⟨38,[(0,zK [1,2] [1,2]),(1,zK [1,2,3] [1,2,3]),(2,zK [2,3,18,19,20] [2,3]),(3,zK [2,3,18,19,20,21] [2,3]),(4,zK [2,3,5,18,19,20] [2,3,5]),(5,zK [2,3,18,19,20] [2,3]),(6,zK [2,3,18,19,20] [2,3]),(7,zK [2] [2])],
 [(3,zK [2,3,18,19,20] [2,3])],
 [],
 [],[]⟩
abbrev R98:=Span
abbrev e98 (r:R98):List PA:=[.agg [.int .i64 r.Low,.int .i64 r.High]]
@[irreducible] def z98:=ptF Try.prog G98 zEg Try.f98
def zCk (l_a0:list) (zcA:Int) (zao:Int) (zaq:Int):St:=⟨[(2,zp 2 0),(3,zp 3 0),(18,zS enc_55 3 l_a0.Gates),(19,zI (l_a0.Gates.len:Int)),(20,zI zcA)],[(2,.box 96 (zm (zCa (⟨(0:Int),(0:Int)⟩:Span)))),(3,.box 96 (zm (zCa (⟨zao,zaq⟩:Span))))],[]⟩
abbrev zIT (K:List PA→Prop) (l_a0:list) (X:St→Prop) (P:Int→Int→Int→Bool) (S:Int→Int→Int→Span):Prop:=∀ ⦃zcA:Int⦄ ⦃zao:Int⦄ ⦃zaq:Int⦄,P zcA zao zaq=true→K (e98 (S zcA zao zaq))→X (zCk l_a0 zcA zao zaq)
section
variable {K:List PA→Prop} {l_a0:list} {zcA:Int} {zao:Int} {zaq:Int} {X0:St→Prop} {P0:Int→Int→Int→Bool} {S0:Int→Int→Int→Span}
def zht (l_a0:list) (S0:Int→Int→Int→Span) (zcA:Int) (zao:Int) (zaq:Int):Span :=
  (cond (decide (zcA < (l_a0.Gates.len : Int)))
 (S0 (w64 (zcA+(1:Int))) (if (l_a0.Gates.get zcA.toNat).Low > zao then (l_a0.Gates.get zcA.toNat).Low else zao) (if (l_a0.Gates.get zcA.toNat).High < zaq then (l_a0.Gates.get zcA.toNat).High else zaq))
 (⟨zao,zaq⟩:Span))
def zhu (l_a0:list) (P0:Int→Int→Int→Bool) (zcA:Int) (zao:Int) (zaq:Int):Bool :=
  (cond (decide (zcA < (l_a0.Gates.len : Int)))
 (decide ((0≤zcA∧zcA < (l_a0.Gates.len:Int))) &&
 (P0 (w64 (zcA+(1:Int))) (if (l_a0.Gates.get zcA.toNat).Low > zao then (l_a0.Gates.get zcA.toNat).Low else zao) (if (l_a0.Gates.get zcA.toNat).High < zaq then (l_a0.Gates.get zcA.toNat).High else zaq)))
 true)
def zhv (l_a0:list):Nat→Int→Int→Int→Span:=lpO (fun _ _ _=>default) (zht l_a0)
def zhw (l_a0:list):Nat→Int→Int→Int→Bool:=lpO (fun _ _ _=>false) (zhu l_a0)
def zvw (l_a0:list) (zcA:Int) (zao:Int) (zaq:Int):Span:=zhv l_a0 Fuel zcA zao zaq
def zvx (l_a0:list) (zcA:Int) (zao:Int) (zaq:Int):Bool:=zhw l_a0 Fuel zcA zao zaq
theorem zEh (hs:zvx l_a0 zcA zao zaq=true) (hk:K (e98 (zvw l_a0 zcA zao zaq))):z98 K [1,1,0,1,0] [] (zCk l_a0 zcA zao zaq) :=
  zl (fun X=>z98 K [1,1,0,1,0,0] [X]) (by kernel_rfl) fun X0 hX =>
  (show ∀ k, zIT K l_a0 X0 (zhw l_a0 k) (zhv l_a0 k) from zet _ _ (zhu l_a0) (zht l_a0) (zIT K l_a0 X0)
 (by intro _ _ _ hs;exact absurd hs Bool.false_ne_true)
 (by intro P0 S0 hX0 zcA zao zaq hs hk;exact hX _ (zaw (by kernel_rfl) (zc hs hk (fun hs hk=>(zau hs fun hc hs=>And.intro hc (hX0 hs hk))) (fun hs hk=>hk))))) _ hs hk
def s98 (l_a0:list):Span :=
  (zvw l_a0 (0:Int) ((l_a0.Gates.get 0).Low) ((l_a0.Gates.get 0).High))
def p98 (l_a0:list):Bool :=
  (decide ((0≤(0:Int)∧(0:Int) < (l_a0.Gates.len:Int))) &&
 (decide ((0≤(0:Int)∧(0:Int) < (l_a0.Gates.len:Int))) &&
 (zvx l_a0 (0:Int) ((l_a0.Gates.get 0).Low) ((l_a0.Gates.get 0).High))))
end
theorem q98 (l_a0:list) (K:List PA→Prop) (hs:p98 l_a0=true) (hk:K (e98 (s98 l_a0))):vcFun Try.prog G98 zEg 98 [.agg (zb2 l_a0)] K :=
  zaw (by kernel_rfl) (zau hs fun hc hs=>And.intro hc (zau hs fun hc hs=>And.intro hc (zEh hs hk)))
def zA3 : List PA → COut
  | [.agg [.sl a0_Gates_n a0_Gates_s a0_Gates_g]]=>.det (IsE enc_55 3 a0_Gates_s a0_Gates_g∧p98 (⟨(⟨a0_Gates_n,zae a0_Gates_g⟩:(Sl Gate))⟩:list)=true) [.agg [.int .i64 ((s98 (⟨(⟨a0_Gates_n,zae a0_Gates_g⟩:(Sl Gate))⟩:list)).Low),.int .i64 ((s98 (⟨(⟨a0_Gates_n,zae a0_Gates_g⟩:(Sl Gate))⟩:list)).High)]]
  | _=>.no
theorem zIU:zaf Try.prog 98:=⟨_,rfl,rfl,by kernel_rfl⟩
theorem zNB:Ok Try.prog 98 zA3:=zay zLX zIU fun args K h=>by
  unfold zA3 at h
  split at h
  · rename_i a0_Gates_n a0_Gates_s a0_Gates_g
    obtain ⟨⟨⟨rfl,a0_Gates_f,rfl⟩,hs⟩,hk⟩:=h
    try rw [zac a0_Gates_f] at hs
    try rw [zac a0_Gates_f] at hk
    exact ⟨(fun _ _=>[]),(fun _=>false),zEg,q98 (⟨(⟨a0_Gates_n,a0_Gates_f⟩:(Sl Gate))⟩:list) K hs hk⟩
  · exact h.elim
abbrev T66:Tabs:=((Tabs.nil.addF 67 zn2).addF 98 zA3)
theorem zLY:TabsOk Try.prog T66:=((TabsOk.nil.addF zIG).addF zNB)
abbrev G66:Ctrs:=csm T66 (fun _ _=>[]) (fun _=>false)
def zIV:Ann:=⟨19,[(0,zK [1] [1]),(1,zK [1,3] [1,3]),(2,zK [1,3,9] [1,3]),(3,zK [2] []),(4,zK [2] [])],
 [],
 [],
 [],[]⟩
abbrev R66:=Bool
abbrev e66 (r:R66):List PA:=[.one (.bool r)]
section
variable {K:List PA→Prop} {s:set}
def s66 (s:set):Bool :=
  (cond (s67 s.list)
 (decide ((s98 s.list).Low≤(s98 s.list).High))
 (decide ((s.corners.len:Int) > (0:Int))))
def p66 (s:set):Bool :=
  (decide ((p98 s.list=true)) &&
 (decide ((p67 s.list=true)) &&
 true))
end
theorem q66 (s:set) (K:List PA→Prop) (hs:p66 s=true) (hk:K (e66 (s66 s))):vcFun Try.prog G66 zIV 66 [.agg (zaZ s)] K :=
  zaw (by kernel_rfl) (zau hs fun hc hs=>And.intro (And.intro (zE enc_55 3 s.list.Gates.get) hc) (zau hs fun hc hs=>And.intro (And.intro (zE enc_55 3 s.list.Gates.get) hc) (zt hk (fun hk=>hk) (fun hk=>hk))))
def zvy : List PA → COut
  | [.agg [.sl a0_list_Gates_n a0_list_Gates_s a0_list_Gates_g,.sl a0_corners_n a0_corners_s a0_corners_g]]=>.det (IsE enc_55 3 a0_list_Gates_s a0_list_Gates_g∧IsE zah 3 a0_corners_s a0_corners_g∧p66 (⟨(⟨(⟨a0_list_Gates_n,zae a0_list_Gates_g⟩:(Sl Gate))⟩:list),(⟨a0_corners_n,zaT a0_corners_g⟩:(Sl straight))⟩:set)=true) [.one (.bool (s66 (⟨(⟨(⟨a0_list_Gates_n,zae a0_list_Gates_g⟩:(Sl Gate))⟩:list),(⟨a0_corners_n,zaT a0_corners_g⟩:(Sl straight))⟩:set)))]
  | _=>.no
theorem zIW:zaf Try.prog 66:=⟨_,rfl,rfl,by kernel_rfl⟩
theorem zLZ:Ok Try.prog 66 zvy:=zay zLY zIW fun args K h=>by
  unfold zvy at h
  split at h
  · rename_i a0_list_Gates_n a0_list_Gates_s a0_list_Gates_g a0_corners_n a0_corners_s a0_corners_g
    obtain ⟨⟨⟨rfl,a0_list_Gates_f,rfl⟩,⟨rfl,a0_corners_f,rfl⟩,hs⟩,hk⟩:=h
    try rw [zac a0_list_Gates_f] at hs
    try rw [zac a0_list_Gates_f] at hk
    try rw [zaP a0_corners_f] at hs
    try rw [zaP a0_corners_f] at hk
    exact ⟨(fun _ _=>[]),(fun _=>false),zIV,q66 (⟨(⟨(⟨a0_list_Gates_n,a0_list_Gates_f⟩:(Sl Gate))⟩:list),(⟨a0_corners_n,a0_corners_f⟩:(Sl straight))⟩:set) K hs hk⟩
  · exact h.elim
abbrev zNC:Tabs:=Tabs.nil
theorem zIX:TabsOk Try.prog zNC:=TabsOk.nil
abbrev zON:Ctrs:=csm zNC (fun _ _=>[]) (fun _=>false)
def zCl:Ann:=⟨6,[(0,zK [0] []),(1,zK [2] [])],
 [],
 [],
 [],[]⟩
abbrev zOO:=Bool
abbrev e120 (r:zOO):List PA:=[.one (.bool r)]
section
variable {K:List PA→Prop} {x:Int}
def zEi (x:Int):Bool :=
  (x != x)
end
theorem zOP (x:Int) (K:List PA→Prop) (hk:K (e120 (zEi x))):vcFun Try.prog zON zCl 120 [.one (.int .i64 x)] K :=
  zaw (by kernel_rfl) hk
def zvz : List PA → COut
  | [.one (.int .i64 a0)]=>.tot [.one (.bool (zEi a0))]
  | _=>.no
theorem zEj:zaf Try.prog 120:=⟨_,rfl,rfl,by kernel_rfl⟩
theorem zL0:Ok Try.prog 120 zvz:=zay zIX zEj fun args K h=>by
  unfold zvz at h
  split at h
  · rename_i a0
    have hk:=h
    exact ⟨(fun _ _=>[]),(fun _=>false),zCl,zOP a0 K hk⟩
  · exact h.elim
abbrev zND:Tabs:=(Tabs.nil.addF 120 zvz)
theorem zIY:TabsOk Try.prog zND:=(TabsOk.nil.addF zL0)
abbrev zOQ:Ctrs:=csm zND (fun _ _=>[]) (fun _=>false)
def zCm:Ann:=⟨20,[(0,zK [0,1] []),(1,zK [0,1,5] []),(2,zK [0,1,5,6] []),(3,zK [0,1,6,11] []),(4,zK [12] []),(5,zK [4] []),(6,zK [4] []),(7,zK [0,1,13] []),(8,zK [4] []),(9,zK [0,1,16] []),(10,zK [4] []),(11,zK [19] []),(12,zK [4] []),(13,zK [4] [])],
 [],
 [],
 [],[]⟩
abbrev zOR:=Int
abbrev zOS (r:zOR):List PA:=[.one (.int .i64 r)]
section
variable {K:List PA→Prop} {x:Int} {y_a1:Int}
def zEk (x:Int) (y_a1:Int):Int :=
  (cond (zEi x)
 (cond (zEi y_a1)
 (0:Int)
 (-1:Int))
 (cond (zEi y_a1)
 (1:Int)
 (cond (decide (x < y_a1))
 (-1:Int)
 (cond (decide (x > y_a1))
 (1:Int)
 (0:Int)))))
end
theorem zOT (x:Int) (y_a1:Int) (K:List PA→Prop) (hk:K (zOS (zEk x y_a1))):vcFun Try.prog zOQ zCm 103 [.one (.int .i64 x),.one (.int .i64 y_a1)] K :=
  zaw (by kernel_rfl) (zt hk (fun hk=>(zt hk (fun hk=>hk) (fun hk=>hk))) (fun hk=>(zt hk (fun hk=>hk) (fun hk=>(zt hk (fun hk=>hk) (fun hk=>(zt hk (fun hk=>hk) (fun hk=>hk))))))))
def zvA : List PA → COut
  | [.one (.int .i64 a0),.one (.int .i64 a1)]=>.tot [.one (.int .i64 (zEk a0 a1))]
  | _=>.no
theorem zEl:zaf Try.prog 103:=⟨_,rfl,rfl,by kernel_rfl⟩
theorem zL1:Ok Try.prog 103 zvA:=zay zIY zEl fun args K h=>by
  unfold zvA at h
  split at h
  · rename_i a0 a1
    have hk:=h
    exact ⟨(fun _ _=>[]),(fun _=>false),zCm,zOT a0 a1 K hk⟩
  · exact h.elim
abbrev T69:Tabs:=(Tabs.nil.addF 103 zvA)
theorem zL2:TabsOk Try.prog T69:=(TabsOk.nil.addF zL1)
abbrev G69:Ctrs:=csm T69 (fun _ _=>[]) (fun _=>false)
def zIZ:Ann:=⟨16,[(0,zK [2,3] [2,3]),(1,zK [4] [])],
 [],
 [],
 [],[]⟩
abbrev R69:=Int
abbrev e69 (r:R69):List PA:=[.one (.int .i64 r)]
section
variable {K:List PA→Prop} {a:Frac} {b:Frac}
def s69 (a:Frac) (b:Frac):Int :=
  (zEk (w64 (a.Num * b.Den)) (w64 (b.Num * a.Den)))
end
theorem q69 (a:Frac) (b:Frac) (K:List PA→Prop) (hk:K (e69 (s69 a b))):vcFun Try.prog G69 zIZ 69 [.agg (zad a),.agg (zad b)] K :=
  zaw (by kernel_rfl) hk
def zpp : List PA → COut
  | [.agg [.int .i64 a0_Num,.int .i64 a0_Den],.agg [.int .i64 a1_Num,.int .i64 a1_Den]]=>.tot [.one (.int .i64 (s69 (⟨a0_Num,a0_Den⟩:Frac) (⟨a1_Num,a1_Den⟩:Frac)))]
  | _=>.no
theorem zI0:zaf Try.prog 69:=⟨_,rfl,rfl,by kernel_rfl⟩
theorem zK9:Ok Try.prog 69 zpp:=zay zL2 zI0 fun args K h=>by
  unfold zpp at h
  split at h
  · rename_i a0_Num a0_Den a1_Num a1_Den
    have hk:=h
    exact ⟨(fun _ _=>[]),(fun _=>false),zIZ,q69 (⟨a0_Num,a0_Den⟩:Frac) (⟨a1_Num,a1_Den⟩:Frac) K hk⟩
  · exact h.elim
abbrev T83:Tabs:=Tabs.nil
theorem zL3:TabsOk Try.prog T83:=TabsOk.nil
abbrev G83:Ctrs:=csm T83 (fun _ _=>[]) (fun _=>false)
def zI1:Ann:=⟨8,[(0,zK [1,2] [1,2]),(1,zK [2] [2])],
 [],
 [],
 [],[]⟩
abbrev R83:=Frac
abbrev e83 (r:R83):List PA:=[.agg [.int .i64 r.Num,.int .i64 r.Den]]
section
variable {K:List PA→Prop} {x:straight}
def s83 (x:straight):Frac :=
  (⟨x.slope,x.den⟩:Frac)
end
theorem q83 (x:straight) (K:List PA→Prop) (hk:K (e83 (s83 x))):vcFun Try.prog G83 zI1 83 [.agg (zah x)] K :=
  zaw (by kernel_rfl) hk
def zEm : List PA → COut
  | [.agg [.int .i64 a0_slope,.int .i64 a0_start,.int .i64 a0_den]]=>.tot [.agg [.int .i64 ((s83 (⟨a0_slope,a0_start,a0_den⟩:straight)).Num),.int .i64 ((s83 (⟨a0_slope,a0_start,a0_den⟩:straight)).Den)]]
  | _=>.no
theorem zI2:zaf Try.prog 83:=⟨_,rfl,rfl,by kernel_rfl⟩
theorem zOU:Ok Try.prog 83 zEm:=zay zL3 zI2 fun args K h=>by
  unfold zEm at h
  split at h
  · rename_i a0_slope a0_start a0_den
    have hk:=h
    exact ⟨(fun _ _=>[]),(fun _=>false),zI1,q83 (⟨a0_slope,a0_start,a0_den⟩:straight) K hk⟩
  · exact h.elim
abbrev zNE:Tabs:=Tabs.nil
theorem zI3:TabsOk Try.prog zNE:=TabsOk.nil
abbrev zOV:Ctrs:=csm zNE (fun _ _=>[]) (fun _=>false)
def zCn:Ann:=⟨15,[(0,zK [1,2,4] [2,4]),(1,zK [4] [4])],
 [],
 [],
 [],[]⟩
abbrev zOW:=Frac
abbrev zOX (r:zOW):List PA:=[.agg [.int .i64 r.Num,.int .i64 r.Den]]
section
variable {K:List PA→Prop} {s:straight} {z:Int}
def zI4 (s:straight) (z:Int):Frac :=
  (⟨(w64 (s.start+(w64 (s.slope * z)))),s.den⟩:Frac)
end
theorem zOY (s:straight) (z:Int) (K:List PA→Prop) (hk:K (zOX (zI4 s z))):vcFun Try.prog zOV zCn 102 [.agg (zah s),.one (.int .i64 z)] K :=
  zaw (by kernel_rfl) hk
def zvB : List PA → COut
  | [.agg [.int .i64 a0_slope,.int .i64 a0_start,.int .i64 a0_den],.one (.int .i64 a1)]=>.tot [.agg [.int .i64 ((zI4 (⟨a0_slope,a0_start,a0_den⟩:straight) a1).Num),.int .i64 ((zI4 (⟨a0_slope,a0_start,a0_den⟩:straight) a1).Den)]]
  | _=>.no
theorem zEn:zaf Try.prog 102:=⟨_,rfl,rfl,by kernel_rfl⟩
theorem zL4:Ok Try.prog 102 zvB:=zay zI3 zEn fun args K h=>by
  unfold zvB at h
  split at h
  · rename_i a0_slope a0_start a0_den a1
    have hk:=h
    exact ⟨(fun _ _=>[]),(fun _=>false),zCn,zOY (⟨a0_slope,a0_start,a0_den⟩:straight) a1 K hk⟩
  · exact h.elim
abbrev zNF:Tabs:=(Tabs.nil.addF 102 zvB)
theorem zI5:TabsOk Try.prog zNF:=(TabsOk.nil.addF zL4)
abbrev zOZ:Ctrs:=csm zNF (fun _ _=>[]) (fun _=>false)
def zCo:Ann:=⟨7,[(0,zK [1,2,3] [2,3]),(1,zK [3] [3])],
 [],
 [],
 [],[]⟩
abbrev zO0:=Frac
abbrev zO1 (r:zO0):List PA:=[.agg [.int .i64 r.Num,.int .i64 r.Den]]
section
variable {K:List PA→Prop} {c0:Int} {x:straight}
def zvC (c0:Int) (x:straight):Frac :=
  (zI4 x c0)
end
theorem zO2 (c0:Int) (x:straight) (K:List PA→Prop) (hk:K (zO1 (zvC c0 x))):vcFun Try.prog zOZ zCo 101 [.agg (zah x),.one (.fp (zal c0) 0)] K :=
  zaw (by kernel_rfl) hk
def zvD : List PA → COut
  | [.agg [.int .i64 a0_slope,.int .i64 a0_start,.int .i64 a0_den],.one (.fp [.int .i64 c0] 0)]=>.tot [.agg [.int .i64 ((zvC c0 (⟨a0_slope,a0_start,a0_den⟩:straight)).Num),.int .i64 ((zvC c0 (⟨a0_slope,a0_start,a0_den⟩:straight)).Den)]]
  | _=>.no
theorem zEo:zaf Try.prog 101:=⟨_,rfl,rfl,by kernel_rfl⟩
theorem zL5:Ok Try.prog 101 zvD:=zay zI5 zEo fun args K h=>by
  unfold zvD at h
  split at h
  · rename_i a0_slope a0_start a0_den c0
    have hk:=h
    exact ⟨(fun _ _=>[]),(fun _=>false),zCo,zO2 c0 (⟨a0_slope,a0_start,a0_den⟩:straight) K hk⟩
  · exact h.elim
abbrev zNG:Tabs:=(Tabs.nil.addF 69 zpp)
theorem zI6:TabsOk Try.prog zNG:=(TabsOk.nil.addF zK9)
abbrev zO3:Ctrs:=csm zNG (fun _ _=>[]) (fun _=>false)
def zCp:Ann:=⟨9,[(0,zK [2,3] [2,3]),(1,zK [4] [])],
 [],
 [],
 [],[]⟩
abbrev zO4:=Bool
abbrev zO5 (r:zO4):List PA:=[.one (.bool r)]
section
variable {K:List PA→Prop} {a:Frac} {b:Frac}
def zA4 (a:Frac) (b:Frac):Bool :=
  (decide ((s69 a b) < (0:Int)))
end
theorem zO6 (a:Frac) (b:Frac) (K:List PA→Prop) (hk:K (zO5 (zA4 a b))):vcFun Try.prog zO3 zCp 112 [.agg (zad a),.agg (zad b)] K :=
  zaw (by kernel_rfl) hk
def zvE : List PA → COut
  | [.agg [.int .i64 a0_Num,.int .i64 a0_Den],.agg [.int .i64 a1_Num,.int .i64 a1_Den]]=>.tot [.one (.bool (zA4 (⟨a0_Num,a0_Den⟩:Frac) (⟨a1_Num,a1_Den⟩:Frac)))]
  | _=>.no
theorem zEp:zaf Try.prog 112:=⟨_,rfl,rfl,by kernel_rfl⟩
theorem zL6:Ok Try.prog 112 zvE:=zay zI6 zEp fun args K h=>by
  unfold zvE at h
  split at h
  · rename_i a0_Num a0_Den a1_Num a1_Den
    have hk:=h
    exact ⟨(fun _ _=>[]),(fun _=>false),zCp,zO6 (⟨a0_Num,a0_Den⟩:Frac) (⟨a1_Num,a1_Den⟩:Frac) K hk⟩
  · exact h.elim
abbrev zNH:Tabs:=(Tabs.nil.addF 69 zpp)
theorem zI7:TabsOk Try.prog zNH:=(TabsOk.nil.addF zK9)
abbrev zO7:Ctrs:=csm zNH (fun _ _=>[]) (fun _=>false)
def zCq:Ann:=⟨9,[(0,zK [2,3] [2,3]),(1,zK [4] [])],
 [],
 [],
 [],[]⟩
abbrev zO8:=Bool
abbrev zO9 (r:zO8):List PA:=[.one (.bool r)]
section
variable {K:List PA→Prop} {a:Frac} {b:Frac}
def zA5 (a:Frac) (b:Frac):Bool :=
  (decide ((s69 a b) > (0:Int)))
end
theorem zPa (a:Frac) (b:Frac) (K:List PA→Prop) (hk:K (zO9 (zA5 a b))):vcFun Try.prog zO7 zCq 113 [.agg (zad a),.agg (zad b)] K :=
  zaw (by kernel_rfl) hk
def zvF : List PA → COut
  | [.agg [.int .i64 a0_Num,.int .i64 a0_Den],.agg [.int .i64 a1_Num,.int .i64 a1_Den]]=>.tot [.one (.bool (zA5 (⟨a0_Num,a0_Den⟩:Frac) (⟨a1_Num,a1_Den⟩:Frac)))]
  | _=>.no
theorem zEq:zaf Try.prog 113:=⟨_,rfl,rfl,by kernel_rfl⟩
theorem zL7:Ok Try.prog 113 zvF:=zay zI7 zEq fun args K h=>by
  unfold zvF at h
  split at h
  · rename_i a0_Num a0_Den a1_Num a1_Den
    have hk:=h
    exact ⟨(fun _ _=>[]),(fun _=>false),zCq,zPa (⟨a0_Num,a0_Den⟩:Frac) (⟨a1_Num,a1_Den⟩:Frac) K hk⟩
  · exact h.elim
abbrev zL8:Tabs:=((Tabs.nil.addF 112 zvE).addF 113 zvF)
theorem zI8:TabsOk Try.prog zL8:=((TabsOk.nil.addF zL6).addF zL7)
abbrev zNI:Ctrs:=csm zL8 (fun _ _=>[]) (fun _=>false)
def zvG:Ann:=⟨25,[(0,zK [0,1,4] [4]),(1,zK [0,1,4,5] [4,5]),(2,zK [1,4,5,12,13,14] [4,5]),(3,zK [1,4,5,12,13,14,15] [4,5]),(4,zK [1,4,5,7,12,13,14] [4,5,7]),(5,zK [1,4,5,7,12,13,14,21] [4,5,7]),(6,zK [1,4,5,12,13,14] [4,5]),(7,zK [1,4,5,12,13,14] [4,5]),(8,zK [4] [4])],
 [(3,zK [1,4,5,12,13,14] [4,5])],
 [(6,zK [1,4,5,7,12,13,14,21] [4,5,7])],
 [],[]⟩
abbrev zPb:=Frac
abbrev zLa (r:zPb):List PA:=[.agg [.int .i64 r.Num,.int .i64 r.Den]]
@[irreducible] def z111:=ptF Try.prog zNI zvG Try.f111
def zvH (l_a0:(Sl Frac)) (zaM:(Sl Frac)) (zai:Int) (zao:Int) (zaq:Int) (zcf:Nat→List PV):St:=⟨[(1,zP (.fn 112 [] [])),(4,zp 4 0),(5,zp 5 0),(12,zP (.sl zaM.len 2 zcf)),(13,zI (((l_a0.len:Int) - (1:Int)).toNat:Int)),(14,zI zai)],[(4,.box 25 (zm (zad (⟨(0:Int),(0:Int)⟩:Frac)))),(5,.box 25 (zm (zad (⟨zao,zaq⟩:Frac))))],[]⟩
abbrev zvI (K:List PA→Prop) (l_a0:(Sl Frac)) (X:St→Prop) (P:(Sl Frac)→Int→Int→Int→Bool) (S:(Sl Frac)→Int→Int→Int→Frac):Prop:=∀ ⦃zaM:(Sl Frac)⦄ ⦃zai:Int⦄ ⦃zao:Int⦄ ⦃zaq:Int⦄ ⦃zcf:Nat→List PV⦄,P zaM zai zao zaq=true→K (zLa (S zaM zai zao zaq))→zcf=zg zad zaM→X (zvH l_a0 zaM zai zao zaq zcf)
section
variable {K:List PA→Prop} {l_a0:(Sl Frac)} {zaM:(Sl Frac)} {zai:Int} {zao:Int} {zaq:Int} {zcf:Nat→List PV} {X0:St→Prop} {P0:(Sl Frac)→Int→Int→Int→Bool} {S0:(Sl Frac)→Int→Int→Int→Frac} {zdX:(Sl Frac)} {zaS:Int} {zgc:Bool} {zcs:Int} {zct:Int} {zgd:Int} {zge:Int} {zjU:Nat→List PV}
def zmh (S0:(Sl Frac)→Int→Int→Int→Frac) (l_a0:(Sl Frac)) (zdX:(Sl Frac)) (zaS:Int) (zgc:Bool) (zcs:Int) (zct:Int) (zgd:Int) (zge:Int):Frac :=
  (cond zgc
 (S0 zdX (w64 (zaS+(1:Int))) zgd zge)
 (S0 zdX (w64 (zaS+(1:Int))) zcs zct))
def zmi (P0:(Sl Frac)→Int→Int→Int→Bool) (l_a0:(Sl Frac)) (zdX:(Sl Frac)) (zaS:Int) (zgc:Bool) (zcs:Int) (zct:Int) (zgd:Int) (zge:Int):Bool :=
  (cond zgc
 (P0 zdX (w64 (zaS+(1:Int))) zgd zge)
 (P0 zdX (w64 (zaS+(1:Int))) zcs zct))
theorem zA6 (hX0:zvI K l_a0 X0 P0 S0) (hs:zmi P0 l_a0 zdX zaS zgc zcs zct zgd zge=true) (hk:K (zLa (zmh S0 l_a0 zdX zaS zgc zcs zct zgd zge))) (zpq:zjU=zg zad zdX):z111 K [1,1,0,1,0,0,1,1,0,0,1,1] [X0] ⟨[(1,zP (.fn 112 [] [])),(4,zp 4 0),(5,zp 5 0),(7,zp 7 0),(12,zP (.sl zdX.len 2 zjU)),(13,zI (((l_a0.len:Int) - (1:Int)).toNat:Int)),(14,zI zaS),(21,zB zgc)],[(4,.box 25 (zm (zad (⟨(0:Int),(0:Int)⟩:Frac)))),(5,.box 25 (zm (zad (⟨zcs,zct⟩:Frac)))),(7,.box 25 (zm (zad (⟨zgd,zge⟩:Frac))))],[]⟩:=by subst zpq;exact zaw (by kernel_rfl) (zc hs hk (fun hs hk=>(hX0 hs hk rfl)) (fun hs hk=>(hX0 hs hk rfl)))
def zfx (l_a0:(Sl Frac)) (S0:(Sl Frac)→Int→Int→Int→Frac) (zaM:(Sl Frac)) (zai:Int) (zao:Int) (zaq:Int):Frac :=
  (cond (decide (zai < (((l_a0.len : Int) - (1:Int)).toNat : Int)))
 (zmh S0 l_a0 zaM zai (zA4 (zaM.get zai.toNat) (⟨zao,zaq⟩:Frac)) zao zaq ((zaM.get zai.toNat).Num) ((zaM.get zai.toNat).Den))
 (⟨zao,zaq⟩:Frac))
def zfy (l_a0:(Sl Frac)) (P0:(Sl Frac)→Int→Int→Int→Bool) (zaM:(Sl Frac)) (zai:Int) (zao:Int) (zaq:Int):Bool :=
  (cond (decide (zai < (((l_a0.len : Int) - (1:Int)).toNat : Int)))
 (decide ((0≤zai∧zai < (zaM.len:Int))) &&
 (zmi P0 l_a0 zaM zai (zA4 (zaM.get zai.toNat) (⟨zao,zaq⟩:Frac)) zao zaq ((zaM.get zai.toNat).Num) ((zaM.get zai.toNat).Den)))
 true)
def zfz (l_a0:(Sl Frac)):Nat→(Sl Frac)→Int→Int→Int→Frac:=lpO (fun _ _ _ _=>default) (zfx l_a0)
def zfA (l_a0:(Sl Frac)):Nat→(Sl Frac)→Int→Int→Int→Bool:=lpO (fun _ _ _ _=>false) (zfy l_a0)
def zsc (l_a0:(Sl Frac)) (zaM:(Sl Frac)) (zai:Int) (zao:Int) (zaq:Int):Frac:=zfz l_a0 Fuel zaM zai zao zaq
def zsd (l_a0:(Sl Frac)) (zaM:(Sl Frac)) (zai:Int) (zao:Int) (zaq:Int):Bool:=zfA l_a0 Fuel zaM zai zao zaq
theorem zA7 (hs:zsd l_a0 zaM zai zao zaq=true) (hk:K (zLa (zsc l_a0 zaM zai zao zaq))) (zgf:zcf=zg zad zaM):z111 K [1,1,0,1,0] [] (zvH l_a0 zaM zai zao zaq zcf) :=
  zl (fun X=>z111 K [1,1,0,1,0,0] [X]) (by kernel_rfl) fun X0 hX =>
  (show ∀ k, zvI K l_a0 X0 (zfA l_a0 k) (zfz l_a0 k) from zet _ _ (zfy l_a0) (zfx l_a0) (zvI K l_a0 X0)
 (by intro _ _ _ _ _ hs;exact absurd hs Bool.false_ne_true)
 (by intro P0 S0 hX0 zaM zai zao zaq zcf hs hk zgf;subst zgf;exact hX _ (zaw (by kernel_rfl) (zc hs hk (fun hs hk=>(zau hs fun hc hs=>And.intro hc (zA6 hX0 hs hk rfl))) (fun hs hk=>hk))))) _ hs hk zgf
def zpr (l_a0:(Sl Frac)):Frac :=
  (zsc l_a0 (⟨((l_a0.len:Int) - (1:Int)).toNat,(fun i=>l_a0.get (i+((1:Int).toNat)))⟩:Sl Frac) (0:Int) ((l_a0.get 0).Num) ((l_a0.get 0).Den))
def zHE (l_a0:(Sl Frac)):Bool :=
  (decide ((0≤(0:Int)∧(0:Int) < (l_a0.len:Int))) &&
 (decide ((0≤(1:Int)∧(1:Int)≤(l_a0.len:Int)∧(l_a0.len:Int)≤(l_a0.len:Int))) &&
 (zsd l_a0 (⟨((l_a0.len:Int) - (1:Int)).toNat,(fun i=>l_a0.get (i+((1:Int).toNat)))⟩:Sl Frac) (0:Int) ((l_a0.get 0).Num) ((l_a0.get 0).Den))))
end
theorem zPc (l_a0:(Sl Frac)) (K:List PA→Prop) (hs:zHE l_a0=true) (hk:K (zLa (zpr l_a0))):vcFun Try.prog zNI zvG 111 [.one (.sl l_a0.len 2 (fun i=>zad (l_a0.get i))),.one (.fn 112 [] [])] K :=
  zaw (by kernel_rfl) (zau hs fun hc hs=>And.intro hc (zau hs fun hc hs=>And.intro hc (zA7 hs hk rfl)))
abbrev zI9:Ctrs:=csm zL8 (fun _ _=>[]) (fun _=>false)
def zps:Ann:=⟨25,[(0,zK [0,1,4] [4]),(1,zK [0,1,4,5] [4,5]),(2,zK [1,4,5,12,13,14] [4,5]),(3,zK [1,4,5,12,13,14,15] [4,5]),(4,zK [1,4,5,7,12,13,14] [4,5,7]),(5,zK [1,4,5,7,12,13,14,21] [4,5,7]),(6,zK [1,4,5,12,13,14] [4,5]),(7,zK [1,4,5,12,13,14] [4,5]),(8,zK [4] [4])],
 [(3,zK [1,4,5,12,13,14] [4,5])],
 [(6,zK [1,4,5,7,12,13,14,21] [4,5,7])],
 [],[]⟩
abbrev zL9:=Frac
abbrev zA8 (r:zL9):List PA:=[.agg [.int .i64 r.Num,.int .i64 r.Den]]
@[irreducible] def z111a:=ptF Try.prog zI9 zps Try.f111
def zse (l_a0:(Sl Frac)) (zaM:(Sl Frac)) (zai:Int) (zao:Int) (zaq:Int) (zcf:Nat→List PV):St:=⟨[(1,zP (.fn 113 [] [])),(4,zp 4 0),(5,zp 5 0),(12,zP (.sl zaM.len 2 zcf)),(13,zI (((l_a0.len:Int) - (1:Int)).toNat:Int)),(14,zI zai)],[(4,.box 25 (zm (zad (⟨(0:Int),(0:Int)⟩:Frac)))),(5,.box 25 (zm (zad (⟨zao,zaq⟩:Frac))))],[]⟩
abbrev zpt (K:List PA→Prop) (l_a0:(Sl Frac)) (X:St→Prop) (P:(Sl Frac)→Int→Int→Int→Bool) (S:(Sl Frac)→Int→Int→Int→Frac):Prop:=∀ ⦃zaM:(Sl Frac)⦄ ⦃zai:Int⦄ ⦃zao:Int⦄ ⦃zaq:Int⦄ ⦃zcf:Nat→List PV⦄,P zaM zai zao zaq=true→K (zA8 (S zaM zai zao zaq))→zcf=zg zad zaM→X (zse l_a0 zaM zai zao zaq zcf)
section
variable {K:List PA→Prop} {l_a0:(Sl Frac)} {zaM:(Sl Frac)} {zai:Int} {zao:Int} {zaq:Int} {zcf:Nat→List PV} {X0:St→Prop} {P0:(Sl Frac)→Int→Int→Int→Bool} {S0:(Sl Frac)→Int→Int→Int→Frac} {zdX:(Sl Frac)} {zaS:Int} {zgc:Bool} {zcs:Int} {zct:Int} {zgd:Int} {zge:Int} {zjU:Nat→List PV}
def zjV (S0:(Sl Frac)→Int→Int→Int→Frac) (l_a0:(Sl Frac)) (zdX:(Sl Frac)) (zaS:Int) (zgc:Bool) (zcs:Int) (zct:Int) (zgd:Int) (zge:Int):Frac :=
  (cond zgc
 (S0 zdX (w64 (zaS+(1:Int))) zgd zge)
 (S0 zdX (w64 (zaS+(1:Int))) zcs zct))
def zjW (P0:(Sl Frac)→Int→Int→Int→Bool) (l_a0:(Sl Frac)) (zdX:(Sl Frac)) (zaS:Int) (zgc:Bool) (zcs:Int) (zct:Int) (zgd:Int) (zge:Int):Bool :=
  (cond zgc
 (P0 zdX (w64 (zaS+(1:Int))) zgd zge)
 (P0 zdX (w64 (zaS+(1:Int))) zcs zct))
theorem zvJ (hX0:zpt K l_a0 X0 P0 S0) (hs:zjW P0 l_a0 zdX zaS zgc zcs zct zgd zge=true) (hk:K (zA8 (zjV S0 l_a0 zdX zaS zgc zcs zct zgd zge))) (zpq:zjU=zg zad zdX):z111a K [1,1,0,1,0,0,1,1,0,0,1,1] [X0] ⟨[(1,zP (.fn 113 [] [])),(4,zp 4 0),(5,zp 5 0),(7,zp 7 0),(12,zP (.sl zdX.len 2 zjU)),(13,zI (((l_a0.len:Int) - (1:Int)).toNat:Int)),(14,zI zaS),(21,zB zgc)],[(4,.box 25 (zm (zad (⟨(0:Int),(0:Int)⟩:Frac)))),(5,.box 25 (zm (zad (⟨zcs,zct⟩:Frac)))),(7,.box 25 (zm (zad (⟨zgd,zge⟩:Frac))))],[]⟩:=by subst zpq;exact zaw (by kernel_rfl) (zc hs hk (fun hs hk=>(hX0 hs hk rfl)) (fun hs hk=>(hX0 hs hk rfl)))
def zd9 (l_a0:(Sl Frac)) (S0:(Sl Frac)→Int→Int→Int→Frac) (zaM:(Sl Frac)) (zai:Int) (zao:Int) (zaq:Int):Frac :=
  (cond (decide (zai < (((l_a0.len : Int) - (1:Int)).toNat : Int)))
 (zjV S0 l_a0 zaM zai (zA5 (zaM.get zai.toNat) (⟨zao,zaq⟩:Frac)) zao zaq ((zaM.get zai.toNat).Num) ((zaM.get zai.toNat).Den))
 (⟨zao,zaq⟩:Frac))
def zea (l_a0:(Sl Frac)) (P0:(Sl Frac)→Int→Int→Int→Bool) (zaM:(Sl Frac)) (zai:Int) (zao:Int) (zaq:Int):Bool :=
  (cond (decide (zai < (((l_a0.len : Int) - (1:Int)).toNat : Int)))
 (decide ((0≤zai∧zai < (zaM.len:Int))) &&
 (zjW P0 l_a0 zaM zai (zA5 (zaM.get zai.toNat) (⟨zao,zaq⟩:Frac)) zao zaq ((zaM.get zai.toNat).Num) ((zaM.get zai.toNat).Den)))
 true)
def zeb (l_a0:(Sl Frac)):Nat→(Sl Frac)→Int→Int→Int→Frac:=lpO (fun _ _ _ _=>default) (zd9 l_a0)
def zec (l_a0:(Sl Frac)):Nat→(Sl Frac)→Int→Int→Int→Bool:=lpO (fun _ _ _ _=>false) (zea l_a0)
def zn7 (l_a0:(Sl Frac)) (zaM:(Sl Frac)) (zai:Int) (zao:Int) (zaq:Int):Frac:=zeb l_a0 Fuel zaM zai zao zaq
def zn8 (l_a0:(Sl Frac)) (zaM:(Sl Frac)) (zai:Int) (zao:Int) (zaq:Int):Bool:=zec l_a0 Fuel zaM zai zao zaq
theorem zvK (hs:zn8 l_a0 zaM zai zao zaq=true) (hk:K (zA8 (zn7 l_a0 zaM zai zao zaq))) (zgf:zcf=zg zad zaM):z111a K [1,1,0,1,0] [] (zse l_a0 zaM zai zao zaq zcf) :=
  zl (fun X=>z111a K [1,1,0,1,0,0] [X]) (by kernel_rfl) fun X0 hX =>
  (show ∀ k, zpt K l_a0 X0 (zec l_a0 k) (zeb l_a0 k) from zet _ _ (zea l_a0) (zd9 l_a0) (zpt K l_a0 X0)
 (by intro _ _ _ _ _ hs;exact absurd hs Bool.false_ne_true)
 (by intro P0 S0 hX0 zaM zai zao zaq zcf hs hk zgf;subst zgf;exact hX _ (zaw (by kernel_rfl) (zc hs hk (fun hs hk=>(zau hs fun hc hs=>And.intro hc (zvJ hX0 hs hk rfl))) (fun hs hk=>hk))))) _ hs hk zgf
def s111a (l_a0:(Sl Frac)):Frac :=
  (zn7 l_a0 (⟨((l_a0.len:Int) - (1:Int)).toNat,(fun i=>l_a0.get (i+((1:Int).toNat)))⟩:Sl Frac) (0:Int) ((l_a0.get 0).Num) ((l_a0.get 0).Den))
def ztC (l_a0:(Sl Frac)):Bool :=
  (decide ((0≤(0:Int)∧(0:Int) < (l_a0.len:Int))) &&
 (decide ((0≤(1:Int)∧(1:Int)≤(l_a0.len:Int)∧(l_a0.len:Int)≤(l_a0.len:Int))) &&
 (zn8 l_a0 (⟨((l_a0.len:Int) - (1:Int)).toNat,(fun i=>l_a0.get (i+((1:Int).toNat)))⟩:Sl Frac) (0:Int) ((l_a0.get 0).Num) ((l_a0.get 0).Den))))
end
theorem zMa (l_a0:(Sl Frac)) (K:List PA→Prop) (hs:ztC l_a0=true) (hk:K (zA8 (s111a l_a0))):vcFun Try.prog zI9 zps 111 [.one (.sl l_a0.len 2 (fun i=>zad (l_a0.get i))),.one (.fn 113 [] [])] K :=
  zaw (by kernel_rfl) (zau hs fun hc hs=>And.intro hc (zau hs fun hc hs=>And.intro hc (zvK hs hk rfl)))
def zvL : List PA → COut
  | [.one (.sl a0_n a0_s a0_g),.one (.fn 112 [] [])]=>.det (IsE zad 2 a0_s a0_g∧zHE (⟨a0_n,zga a0_g⟩:(Sl Frac))=true) [.agg [.int .i64 ((zpr (⟨a0_n,zga a0_g⟩:(Sl Frac))).Num),.int .i64 ((zpr (⟨a0_n,zga a0_g⟩:(Sl Frac))).Den)]]
  | [.one (.sl a0_n a0_s a0_g),.one (.fn 113 [] [])]=>.det (IsE zad 2 a0_s a0_g∧ztC (⟨a0_n,zga a0_g⟩:(Sl Frac))=true) [.agg [.int .i64 ((s111a (⟨a0_n,zga a0_g⟩:(Sl Frac))).Num),.int .i64 ((s111a (⟨a0_n,zga a0_g⟩:(Sl Frac))).Den)]]
  | _=>.no
theorem zEr:zaf Try.prog 111:=⟨_,rfl,rfl,by kernel_rfl⟩
theorem zMb:Ok Try.prog 111 zvL:=zay zI8 zEr fun args K h=>by
  unfold zvL at h
  split at h
  · rename_i a0_n a0_s a0_g
    obtain ⟨⟨⟨rfl,a0_f,rfl⟩,hs⟩,hk⟩:=h
    try rw [zeu a0_f] at hs
    try rw [zeu a0_f] at hk
    exact ⟨(fun _ _=>[]),(fun _=>false),zvG,zPc (⟨a0_n,a0_f⟩:(Sl Frac)) K hs hk⟩
  · rename_i a0_n a0_s a0_g
    obtain ⟨⟨⟨rfl,a0_f,rfl⟩,hs⟩,hk⟩:=h
    try rw [zeu a0_f] at hs
    try rw [zeu a0_f] at hk
    exact ⟨(fun _ _=>[]),(fun _=>false),zps,zMa (⟨a0_n,a0_f⟩:(Sl Frac)) K hs hk⟩
  · exact h.elim
abbrev T82:Tabs:=((((Tabs.nil.addF 83 zEm).addF 89 zpj).addF 101 zvD).addF 111 zvL)
theorem zMc:TabsOk Try.prog T82:=((((TabsOk.nil.addF zOU).addF zK8).addF zL5).addF zMb)
abbrev G82:Ctrs:=csm T82 (fun _ _=>[]) (fun _=>false)
def zEs:Ann:=⟨39,[(0,zK [1,2,4,5] [2,4,5]),(1,zK [1,2,4,5,6] [2,4,5]),(2,zK [1,4,5,6,12,13,14] [4,5]),(3,zK [1,4,5,6,12,13,14,15] [4,5,23]),(4,zK [1,4,5,6,8,12,13,14] [4,5,8,23]),(5,zK [1,4,5,6,12,13,14] [4,5,23]),(6,zK [1,4,5,6,12,13,14] [4,5,23]),(7,zK [4,5,6,9] [4,5,9,23]),(8,zK [4,5,9,10] [4,5,9,10]),(9,zK [4,5] [4,5])],
 [(3,⟨[1,4,5,6,12,13,14],[4,5,23],[(6,23,25,fun _=>zad default)],[],[],[],[]⟩)],
 [(7,zK [4,5,6] [4,5,23]),(8,zK [4,5,6,9] [4,5,9,23]),(9,zK [4,5,9,10] [4,5,9,10])],
 [],[]⟩
abbrev R82:=(Frac×Frac)
abbrev e82 (r:R82):List PA:=[.agg [.int .i64 r.1.Num,.int .i64 r.1.Den],.agg [.int .i64 r.2.Num,.int .i64 r.2.Den]]
@[irreducible] def z82:=ptF Try.prog G82 zEs Try.f82
def zCr (c0:Int) (s:set) (zai:Int) (za5:(Sl Frac)) (zcg:Nat→List PV):St:=⟨[(1,zP (.fn 101 [] [.fp (zal c0) 0])),(4,zp 4 0),(5,zp 5 0),(6,zv 23),(12,zS zah 3 s.corners),(13,zI (s.corners.len:Int)),(14,zI zai)],[(4,.box 25 (zm (zad (⟨(0:Int),(0:Int)⟩:Frac)))),(5,.box 25 (zm (zad (⟨(0:Int),(0:Int)⟩:Frac)))),(23,.vec 25 2 16 za5.len zcg)],[]⟩
abbrev zJa (K:List PA→Prop) (c0:Int) (s:set) (X:St→Prop) (P:Int→(Sl Frac)→Bool) (S:Int→(Sl Frac)→(Frac×Frac)):Prop:=∀ ⦃zai:Int⦄ ⦃za5:(Sl Frac)⦄ ⦃zcg:Nat→List PV⦄,P zai za5=true→K (e82 (S zai za5))→zcg=zg zad za5→X (zCr c0 s zai za5 zcg)
section
variable {K:List PA→Prop} {c0:Int} {s:set} {zai:Int} {za5:(Sl Frac)} {zcg:Nat→List PV} {X0:St→Prop} {P0:Int→(Sl Frac)→Bool} {S0:Int→(Sl Frac)→(Frac×Frac)} {zcG:(Sl Frac)} {zjX:Nat→List PV} {za6:Int} {za7:Int} {zdc:(Sl Frac)} {zjY:Nat→List PV} {zbV:Int} {zbW:Int}
def zpu (za6:Int) (za7:Int) (zbV:Int) (zbW:Int):(Frac×Frac) :=
  ((s89 za6 za7),(s89 zbV zbW))
def zpv (za6:Int) (za7:Int) (zbV:Int) (zbW:Int):Bool :=
  (decide ((p89 za6 za7=true)) &&
 (decide ((p89 zbV zbW=true)) &&
 true))
theorem zEt (hs:zpv za6 za7 zbV zbW=true) (hk:K (e82 (zpu za6 za7 zbV zbW))):z82 K [1,1,1,1,1] [] ⟨[(4,zp 4 0),(5,zp 5 0),(9,zp 9 0),(10,zp 10 0)],[(4,.box 25 (zm (zad (⟨(0:Int),(0:Int)⟩:Frac)))),(5,.box 25 (zm (zad (⟨(0:Int),(0:Int)⟩:Frac)))),(9,.box 25 (zm (zad (⟨za6,za7⟩:Frac)))),(10,.box 25 (zm (zad (⟨zbV,zbW⟩:Frac))))],[]⟩:=zaw (by kernel_rfl) (zau hs fun hc hs=>And.intro hc (zau hs fun hc hs=>And.intro hc hk))
def zpw (za6:Int) (za7:Int) (zdc:(Sl Frac)):(Frac×Frac) :=
  (zpu za6 za7 ((s111a zdc).Num) ((s111a zdc).Den))
def zpx (za6:Int) (za7:Int) (zdc:(Sl Frac)):Bool :=
  (decide ((ztC zdc=true)) &&
 (zpv za6 za7 ((s111a zdc).Num) ((s111a zdc).Den)))
theorem zEu (hs:zpx za6 za7 zdc=true) (hk:K (e82 (zpw za6 za7 zdc))) (zpy:zjY=zg zad zdc):z82 K [1,1,1,1] [] ⟨[(4,zp 4 0),(5,zp 5 0),(6,zv 23),(9,zp 9 0)],[(4,.box 25 (zm (zad (⟨(0:Int),(0:Int)⟩:Frac)))),(5,.box 25 (zm (zad (⟨(0:Int),(0:Int)⟩:Frac)))),(9,.box 25 (zm (zad (⟨za6,za7⟩:Frac)))),(23,.vec 25 2 16 zdc.len zjY)],[]⟩:=by subst zpy;exact zaw (by kernel_rfl) (zau hs fun hc hs=>And.intro (And.intro (zE zad 2 zdc.get) hc) (zEt hs hk))
def zeA (zcG:(Sl Frac)):(Frac×Frac) :=
  (zpw ((zpr zcG).Num) ((zpr zcG).Den) zcG)
def zmj (zcG:(Sl Frac)):Bool :=
  (decide ((zHE zcG=true)) &&
 (zpx ((zpr zcG).Num) ((zpr zcG).Den) zcG))
theorem zEv (hs:zmj zcG=true) (hk:K (e82 (zeA zcG))) (zpz:zjX=zg zad zcG):z82 K [1,1,1] [] ⟨[(4,zp 4 0),(5,zp 5 0),(6,zv 23)],[(4,.box 25 (zm (zad (⟨(0:Int),(0:Int)⟩:Frac)))),(5,.box 25 (zm (zad (⟨(0:Int),(0:Int)⟩:Frac)))),(23,.vec 25 2 16 zcG.len zjX)],[]⟩:=by subst zpz;exact zaw (by kernel_rfl) (zau hs fun hc hs=>And.intro (And.intro (zE zad 2 zcG.get) hc) (zEu hs hk rfl))
def zhx (c0:Int) (s:set) (S0:Int→(Sl Frac)→(Frac×Frac)) (zai:Int) (za5:(Sl Frac)):(Frac×Frac) :=
  (cond (decide (zai < (s.corners.len : Int)))
 (S0 (w64 (zai+(1:Int))) (⟨(za5.len+1),(zdW za5.len za5.get (fun _=>(zvC c0 (s.corners.get zai.toNat))))⟩:Sl Frac))
 (zeA za5))
def zhy (c0:Int) (s:set) (P0:Int→(Sl Frac)→Bool) (zai:Int) (za5:(Sl Frac)):Bool :=
  (cond (decide (zai < (s.corners.len : Int)))
 (decide ((0≤zai∧zai < (s.corners.len:Int))) &&
 (decide (((za5.len+1) * 16≤140737488355328∧za5.len+1≤9223372036854775807)) &&
 (P0 (w64 (zai+(1:Int))) (⟨(za5.len+1),(zdW za5.len za5.get (fun _=>(zvC c0 (s.corners.get zai.toNat))))⟩:Sl Frac))))
 (zmj za5))
def zhz (c0:Int) (s:set):Nat→Int→(Sl Frac)→(Frac×Frac):=lpO (fun _ _=>default) (zhx c0 s)
def zhA (c0:Int) (s:set):Nat→Int→(Sl Frac)→Bool:=lpO (fun _ _=>false) (zhy c0 s)
def zvM (c0:Int) (s:set) (zai:Int) (za5:(Sl Frac)):(Frac×Frac):=zhz c0 s Fuel zai za5
def zvN (c0:Int) (s:set) (zai:Int) (za5:(Sl Frac)):Bool:=zhA c0 s Fuel zai za5
theorem zEw (hs:zvN c0 s zai za5=true) (hk:K (e82 (zvM c0 s zai za5))) (zgg:zcg=zg zad za5):z82 K [1,1,0,1,0] [] (zCr c0 s zai za5 zcg) :=
  zl (fun X=>z82 K [1,1,0,1,0,0] [X]) (by kernel_rfl) fun X0 hX =>
  (show ∀ k, zJa K c0 s X0 (zhA c0 s k) (zhz c0 s k) from zet _ _ (zhy c0 s) (zhx c0 s) (zJa K c0 s X0)
 (by intro _ _ _ hs;exact absurd hs Bool.false_ne_true)
 (by intro P0 S0 hX0 zai za5 zcg hs hk zgg;subst zgg;exact hX _ (zaw (by kernel_rfl) (zc hs hk (fun hs hk=>(zau hs fun hc hs=>And.intro hc (zau hs fun hc hs=>And.intro hc (hX0 hs hk (zeP (enc:=zad) (f:=za5.get) (h:=(fun _=>(zvC c0 (s.corners.get zai.toNat)))) rfl rfl))))) (fun hs hk=>(zEv hs hk rfl)))))) _ hs hk zgg
def s82 (c0:Int) (s:set):(Frac×Frac) :=
  (zvM c0 s (0:Int) (⟨0,(fun _=>default)⟩:Sl Frac))
def p82 (c0:Int) (s:set):Bool :=
  (zvN c0 s (0:Int) (⟨0,(fun _=>default)⟩:Sl Frac))
end
theorem q82 (c0:Int) (s:set) (K:List PA→Prop) (hs:p82 c0 s=true) (hk:K (e82 (s82 c0 s))):vcFun Try.prog G82 zEs 82 [.agg (zaZ s),.one (.fn 101 [] [.fp (zal c0) 0])] K :=
  zaw (by kernel_rfl) (zEw hs hk rfl)
abbrev zNJ:Ctrs:=csm T82 (fun _ _=>[]) (fun _=>false)
def zvO:Ann:=⟨39,[(0,zK [1,2,4,5] [2,4,5]),(1,zK [1,2,4,5,6] [2,4,5]),(2,zK [1,4,5,6,12,13,14] [4,5]),(3,zK [1,4,5,6,12,13,14,15] [4,5,23]),(4,zK [1,4,5,6,8,12,13,14] [4,5,8,23]),(5,zK [1,4,5,6,12,13,14] [4,5,23]),(6,zK [1,4,5,6,12,13,14] [4,5,23]),(7,zK [4,5,6,9] [4,5,9,23]),(8,zK [4,5,9,10] [4,5,9,10]),(9,zK [4,5] [4,5])],
 [(3,⟨[1,4,5,6,12,13,14],[4,5,23],[(6,23,25,fun _=>zad default)],[],[],[],[]⟩)],
 [(7,zK [4,5,6] [4,5,23]),(8,zK [4,5,6,9] [4,5,9,23]),(9,zK [4,5,9,10] [4,5,9,10])],
 [],[]⟩
abbrev zPd:=(Frac×Frac)
abbrev zHF (r:zPd):List PA:=[.agg [.int .i64 r.1.Num,.int .i64 r.1.Den],.agg [.int .i64 r.2.Num,.int .i64 r.2.Den]]
@[irreducible] def z82a:=ptF Try.prog zNJ zvO Try.f82
def zvP (s:set) (zai:Int) (za5:(Sl Frac)) (zcg:Nat→List PV):St:=⟨[(1,zP (.fn 83 [] [])),(4,zp 4 0),(5,zp 5 0),(6,zv 23),(12,zS zah 3 s.corners),(13,zI (s.corners.len:Int)),(14,zI zai)],[(4,.box 25 (zm (zad (⟨(0:Int),(0:Int)⟩:Frac)))),(5,.box 25 (zm (zad (⟨(0:Int),(0:Int)⟩:Frac)))),(23,.vec 25 2 16 za5.len zcg)],[]⟩
abbrev zCs (K:List PA→Prop) (s:set) (X:St→Prop) (P:Int→(Sl Frac)→Bool) (S:Int→(Sl Frac)→(Frac×Frac)):Prop:=∀ ⦃zai:Int⦄ ⦃za5:(Sl Frac)⦄ ⦃zcg:Nat→List PV⦄,P zai za5=true→K (zHF (S zai za5))→zcg=zg zad za5→X (zvP s zai za5 zcg)
section
variable {K:List PA→Prop} {s:set} {zai:Int} {za5:(Sl Frac)} {zcg:Nat→List PV} {X0:St→Prop} {P0:Int→(Sl Frac)→Bool} {S0:Int→(Sl Frac)→(Frac×Frac)} {zcG:(Sl Frac)} {zjX:Nat→List PV} {za6:Int} {za7:Int} {zdc:(Sl Frac)} {zjY:Nat→List PV} {zbV:Int} {zbW:Int}
def zsf (za6:Int) (za7:Int) (zbV:Int) (zbW:Int):(Frac×Frac) :=
  ((s89 za6 za7),(s89 zbV zbW))
def zsg (za6:Int) (za7:Int) (zbV:Int) (zbW:Int):Bool :=
  (decide ((p89 za6 za7=true)) &&
 (decide ((p89 zbV zbW=true)) &&
 true))
theorem zA9 (hs:zsg za6 za7 zbV zbW=true) (hk:K (zHF (zsf za6 za7 zbV zbW))):z82a K [1,1,1,1,1] [] ⟨[(4,zp 4 0),(5,zp 5 0),(9,zp 9 0),(10,zp 10 0)],[(4,.box 25 (zm (zad (⟨(0:Int),(0:Int)⟩:Frac)))),(5,.box 25 (zm (zad (⟨(0:Int),(0:Int)⟩:Frac)))),(9,.box 25 (zm (zad (⟨za6,za7⟩:Frac)))),(10,.box 25 (zm (zad (⟨zbV,zbW⟩:Frac))))],[]⟩:=zaw (by kernel_rfl) (zau hs fun hc hs=>And.intro hc (zau hs fun hc hs=>And.intro hc hk))
def zsh (za6:Int) (za7:Int) (zdc:(Sl Frac)):(Frac×Frac) :=
  (zsf za6 za7 ((s111a zdc).Num) ((s111a zdc).Den))
def zsi (za6:Int) (za7:Int) (zdc:(Sl Frac)):Bool :=
  (decide ((ztC zdc=true)) &&
 (zsg za6 za7 ((s111a zdc).Num) ((s111a zdc).Den)))
theorem zBa (hs:zsi za6 za7 zdc=true) (hk:K (zHF (zsh za6 za7 zdc))) (zpy:zjY=zg zad zdc):z82a K [1,1,1,1] [] ⟨[(4,zp 4 0),(5,zp 5 0),(6,zv 23),(9,zp 9 0)],[(4,.box 25 (zm (zad (⟨(0:Int),(0:Int)⟩:Frac)))),(5,.box 25 (zm (zad (⟨(0:Int),(0:Int)⟩:Frac)))),(9,.box 25 (zm (zad (⟨za6,za7⟩:Frac)))),(23,.vec 25 2 16 zdc.len zjY)],[]⟩:=by subst zpy;exact zaw (by kernel_rfl) (zau hs fun hc hs=>And.intro (And.intro (zE zad 2 zdc.get) hc) (zA9 hs hk))
def zsj (zcG:(Sl Frac)):(Frac×Frac) :=
  (zsh ((zpr zcG).Num) ((zpr zcG).Den) zcG)
def zsk (zcG:(Sl Frac)):Bool :=
  (decide ((zHE zcG=true)) &&
 (zsi ((zpr zcG).Num) ((zpr zcG).Den) zcG))
theorem zBb (hs:zsk zcG=true) (hk:K (zHF (zsj zcG))) (zpz:zjX=zg zad zcG):z82a K [1,1,1] [] ⟨[(4,zp 4 0),(5,zp 5 0),(6,zv 23)],[(4,.box 25 (zm (zad (⟨(0:Int),(0:Int)⟩:Frac)))),(5,.box 25 (zm (zad (⟨(0:Int),(0:Int)⟩:Frac)))),(23,.vec 25 2 16 zcG.len zjX)],[]⟩:=by subst zpz;exact zaw (by kernel_rfl) (zau hs fun hc hs=>And.intro (And.intro (zE zad 2 zcG.get) hc) (zBa hs hk rfl))
def zfB (s:set) (S0:Int→(Sl Frac)→(Frac×Frac)) (zai:Int) (za5:(Sl Frac)):(Frac×Frac) :=
  (cond (decide (zai < (s.corners.len : Int)))
 (S0 (w64 (zai+(1:Int))) (⟨(za5.len+1),(zdW za5.len za5.get (fun _=>(s83 (s.corners.get zai.toNat))))⟩:Sl Frac))
 (zsj za5))
def zfC (s:set) (P0:Int→(Sl Frac)→Bool) (zai:Int) (za5:(Sl Frac)):Bool :=
  (cond (decide (zai < (s.corners.len : Int)))
 (decide ((0≤zai∧zai < (s.corners.len:Int))) &&
 (decide (((za5.len+1) * 16≤140737488355328∧za5.len+1≤9223372036854775807)) &&
 (P0 (w64 (zai+(1:Int))) (⟨(za5.len+1),(zdW za5.len za5.get (fun _=>(s83 (s.corners.get zai.toNat))))⟩:Sl Frac))))
 (zsk za5))
def zfD (s:set):Nat→Int→(Sl Frac)→(Frac×Frac):=lpO (fun _ _=>default) (zfB s)
def zfE (s:set):Nat→Int→(Sl Frac)→Bool:=lpO (fun _ _=>false) (zfC s)
def zsl (s:set) (zai:Int) (za5:(Sl Frac)):(Frac×Frac):=zfD s Fuel zai za5
def zsm (s:set) (zai:Int) (za5:(Sl Frac)):Bool:=zfE s Fuel zai za5
theorem zBc (hs:zsm s zai za5=true) (hk:K (zHF (zsl s zai za5))) (zgg:zcg=zg zad za5):z82a K [1,1,0,1,0] [] (zvP s zai za5 zcg) :=
  zl (fun X=>z82a K [1,1,0,1,0,0] [X]) (by kernel_rfl) fun X0 hX =>
  (show ∀ k, zCs K s X0 (zfE s k) (zfD s k) from zet _ _ (zfC s) (zfB s) (zCs K s X0)
 (by intro _ _ _ hs;exact absurd hs Bool.false_ne_true)
 (by intro P0 S0 hX0 zai za5 zcg hs hk zgg;subst zgg;exact hX _ (zaw (by kernel_rfl) (zc hs hk (fun hs hk=>(zau hs fun hc hs=>And.intro hc (zau hs fun hc hs=>And.intro hc (hX0 hs hk (zeP (enc:=zad) (f:=za5.get) (h:=(fun _=>(s83 (s.corners.get zai.toNat)))) rfl rfl))))) (fun hs hk=>(zBb hs hk rfl)))))) _ hs hk zgg
def zBd (s:set):(Frac×Frac) :=
  (zsl s (0:Int) (⟨0,(fun _=>default)⟩:Sl Frac))
def zLb (s:set):Bool :=
  (zsm s (0:Int) (⟨0,(fun _=>default)⟩:Sl Frac))
end
theorem zPe (s:set) (K:List PA→Prop) (hs:zLb s=true) (hk:K (zHF (zBd s))):vcFun Try.prog zNJ zvO 82 [.agg (zaZ s),.one (.fn 83 [] [])] K :=
  zaw (by kernel_rfl) (zBc hs hk rfl)
def zBe : List PA → COut
  | [.agg [.sl a0_list_Gates_n a0_list_Gates_s a0_list_Gates_g,.sl a0_corners_n a0_corners_s a0_corners_g],.one (.fn 101 [] [.fp [.int .i64 c0] 0])]=>.det (IsE enc_55 3 a0_list_Gates_s a0_list_Gates_g∧IsE zah 3 a0_corners_s a0_corners_g∧p82 c0 (⟨(⟨(⟨a0_list_Gates_n,zae a0_list_Gates_g⟩:(Sl Gate))⟩:list),(⟨a0_corners_n,zaT a0_corners_g⟩:(Sl straight))⟩:set)=true) [.agg [.int .i64 (((s82 c0 (⟨(⟨(⟨a0_list_Gates_n,zae a0_list_Gates_g⟩:(Sl Gate))⟩:list),(⟨a0_corners_n,zaT a0_corners_g⟩:(Sl straight))⟩:set)).1).Num),.int .i64 (((s82 c0 (⟨(⟨(⟨a0_list_Gates_n,zae a0_list_Gates_g⟩:(Sl Gate))⟩:list),(⟨a0_corners_n,zaT a0_corners_g⟩:(Sl straight))⟩:set)).1).Den)],.agg [.int .i64 (((s82 c0 (⟨(⟨(⟨a0_list_Gates_n,zae a0_list_Gates_g⟩:(Sl Gate))⟩:list),(⟨a0_corners_n,zaT a0_corners_g⟩:(Sl straight))⟩:set)).2).Num),.int .i64 (((s82 c0 (⟨(⟨(⟨a0_list_Gates_n,zae a0_list_Gates_g⟩:(Sl Gate))⟩:list),(⟨a0_corners_n,zaT a0_corners_g⟩:(Sl straight))⟩:set)).2).Den)]]
  | [.agg [.sl a0_list_Gates_n a0_list_Gates_s a0_list_Gates_g,.sl a0_corners_n a0_corners_s a0_corners_g],.one (.fn 83 [] [])]=>.det (IsE enc_55 3 a0_list_Gates_s a0_list_Gates_g∧IsE zah 3 a0_corners_s a0_corners_g∧zLb (⟨(⟨(⟨a0_list_Gates_n,zae a0_list_Gates_g⟩:(Sl Gate))⟩:list),(⟨a0_corners_n,zaT a0_corners_g⟩:(Sl straight))⟩:set)=true) [.agg [.int .i64 (((zBd (⟨(⟨(⟨a0_list_Gates_n,zae a0_list_Gates_g⟩:(Sl Gate))⟩:list),(⟨a0_corners_n,zaT a0_corners_g⟩:(Sl straight))⟩:set)).1).Num),.int .i64 (((zBd (⟨(⟨(⟨a0_list_Gates_n,zae a0_list_Gates_g⟩:(Sl Gate))⟩:list),(⟨a0_corners_n,zaT a0_corners_g⟩:(Sl straight))⟩:set)).1).Den)],.agg [.int .i64 (((zBd (⟨(⟨(⟨a0_list_Gates_n,zae a0_list_Gates_g⟩:(Sl Gate))⟩:list),(⟨a0_corners_n,zaT a0_corners_g⟩:(Sl straight))⟩:set)).2).Num),.int .i64 (((zBd (⟨(⟨(⟨a0_list_Gates_n,zae a0_list_Gates_g⟩:(Sl Gate))⟩:list),(⟨a0_corners_n,zaT a0_corners_g⟩:(Sl straight))⟩:set)).2).Den)]]
  | _=>.no
theorem zJb:zaf Try.prog 82:=⟨_,rfl,rfl,by kernel_rfl⟩
theorem zPf:Ok Try.prog 82 zBe:=zay zMc zJb fun args K h=>by
  unfold zBe at h
  split at h
  · rename_i a0_list_Gates_n a0_list_Gates_s a0_list_Gates_g a0_corners_n a0_corners_s a0_corners_g c0
    obtain ⟨⟨⟨rfl,a0_list_Gates_f,rfl⟩,⟨rfl,a0_corners_f,rfl⟩,hs⟩,hk⟩:=h
    try rw [zac a0_list_Gates_f] at hs
    try rw [zac a0_list_Gates_f] at hk
    try rw [zaP a0_corners_f] at hs
    try rw [zaP a0_corners_f] at hk
    exact ⟨(fun _ _=>[]),(fun _=>false),zEs,q82 c0 (⟨(⟨(⟨a0_list_Gates_n,a0_list_Gates_f⟩:(Sl Gate))⟩:list),(⟨a0_corners_n,a0_corners_f⟩:(Sl straight))⟩:set) K hs hk⟩
  · rename_i a0_list_Gates_n a0_list_Gates_s a0_list_Gates_g a0_corners_n a0_corners_s a0_corners_g
    obtain ⟨⟨⟨rfl,a0_list_Gates_f,rfl⟩,⟨rfl,a0_corners_f,rfl⟩,hs⟩,hk⟩:=h
    try rw [zac a0_list_Gates_f] at hs
    try rw [zac a0_list_Gates_f] at hk
    try rw [zaP a0_corners_f] at hs
    try rw [zaP a0_corners_f] at hk
    exact ⟨(fun _ _=>[]),(fun _=>false),zvO,zPe (⟨(⟨(⟨a0_list_Gates_n,a0_list_Gates_f⟩:(Sl Gate))⟩:list),(⟨a0_corners_n,a0_corners_f⟩:(Sl straight))⟩:set) K hs hk⟩
  · exact h.elim
abbrev T68:Tabs:=((((Tabs.nil.addF 67 zn2).addF 82 zBe).addF 89 zpj).addF 98 zA3)
theorem zMd:TabsOk Try.prog T68:=((((TabsOk.nil.addF zIG).addF zPf).addF zK8).addF zNB)
abbrev G68:Ctrs:=csm T68 (fun _ _=>[]) (fun _=>false)
def zJc:Ann:=⟨24,[(0,zK [2,3,4,5] [2,3,4,5]),(1,zK [2,3,4,5,9] [2,3,4,5]),(2,zK [4,5,6] [4,5,6]),(3,zK [4,5] [4,5]),(4,zK [4,5] [4,5])],
 [],
 [],
 [],[]⟩
abbrev R68:=(Frac×Frac)
abbrev e68 (r:R68):List PA:=[.agg [.int .i64 r.1.Num,.int .i64 r.1.Den],.agg [.int .i64 r.2.Num,.int .i64 r.2.Den]]
section
variable {K:List PA→Prop} {s:set} {z:Int}
def s68 (s:set) (z:Int):(Frac×Frac) :=
  (cond (s67 s.list)
 ((s89 ((s98 s.list).Low) (1:Int)),(s89 ((s98 s.list).High) (1:Int)))
 (((s82 z s).1),((s82 z s).2)))
def p68 (s:set) (z:Int):Bool :=
  (decide ((p67 s.list=true)) &&
 (cond (s67 s.list)
 (decide ((p98 s.list=true)) &&
 (decide ((p89 ((s98 s.list).Low) (1:Int)=true)) &&
 (decide ((p89 ((s98 s.list).High) (1:Int)=true)) &&
 true)))
 (decide ((p82 z s=true)) &&
 true)))
end
theorem q68 (s:set) (z:Int) (K:List PA→Prop) (hs:p68 s z=true) (hk:K (e68 (s68 s z))):vcFun Try.prog G68 zJc 68 [.agg (zaZ s),.one (.int .i64 z)] K :=
  zaw (by kernel_rfl) (zau hs fun hc hs=>And.intro (And.intro (zE enc_55 3 s.list.Gates.get) hc) (zc hs hk (fun hs hk=>(zau hs fun hc hs=>And.intro (And.intro (zE enc_55 3 s.list.Gates.get) hc) (zau hs fun hc hs=>And.intro hc (zau hs fun hc hs=>And.intro hc hk)))) (fun hs hk=>(zau hs fun hc hs=>And.intro (And.intro (zE enc_55 3 s.list.Gates.get) (And.intro (zE zah 3 s.corners.get) hc)) hk))))
def zvQ : List PA → COut
  | [.agg [.sl a0_list_Gates_n a0_list_Gates_s a0_list_Gates_g,.sl a0_corners_n a0_corners_s a0_corners_g],.one (.int .i64 a1)]=>.det (IsE enc_55 3 a0_list_Gates_s a0_list_Gates_g∧IsE zah 3 a0_corners_s a0_corners_g∧p68 (⟨(⟨(⟨a0_list_Gates_n,zae a0_list_Gates_g⟩:(Sl Gate))⟩:list),(⟨a0_corners_n,zaT a0_corners_g⟩:(Sl straight))⟩:set) a1=true) [.agg [.int .i64 (((s68 (⟨(⟨(⟨a0_list_Gates_n,zae a0_list_Gates_g⟩:(Sl Gate))⟩:list),(⟨a0_corners_n,zaT a0_corners_g⟩:(Sl straight))⟩:set) a1).1).Num),.int .i64 (((s68 (⟨(⟨(⟨a0_list_Gates_n,zae a0_list_Gates_g⟩:(Sl Gate))⟩:list),(⟨a0_corners_n,zaT a0_corners_g⟩:(Sl straight))⟩:set) a1).1).Den)],.agg [.int .i64 (((s68 (⟨(⟨(⟨a0_list_Gates_n,zae a0_list_Gates_g⟩:(Sl Gate))⟩:list),(⟨a0_corners_n,zaT a0_corners_g⟩:(Sl straight))⟩:set) a1).2).Num),.int .i64 (((s68 (⟨(⟨(⟨a0_list_Gates_n,zae a0_list_Gates_g⟩:(Sl Gate))⟩:list),(⟨a0_corners_n,zaT a0_corners_g⟩:(Sl straight))⟩:set) a1).2).Den)]]
  | _=>.no
theorem zJd:zaf Try.prog 68:=⟨_,rfl,rfl,by kernel_rfl⟩
theorem zNK:Ok Try.prog 68 zvQ:=zay zMd zJd fun args K h=>by
  unfold zvQ at h
  split at h
  · rename_i a0_list_Gates_n a0_list_Gates_s a0_list_Gates_g a0_corners_n a0_corners_s a0_corners_g a1
    obtain ⟨⟨⟨rfl,a0_list_Gates_f,rfl⟩,⟨rfl,a0_corners_f,rfl⟩,hs⟩,hk⟩:=h
    try rw [zac a0_list_Gates_f] at hs
    try rw [zac a0_list_Gates_f] at hk
    try rw [zaP a0_corners_f] at hs
    try rw [zaP a0_corners_f] at hk
    exact ⟨(fun _ _=>[]),(fun _=>false),zJc,q68 (⟨(⟨(⟨a0_list_Gates_n,a0_list_Gates_f⟩:(Sl Gate))⟩:list),(⟨a0_corners_n,a0_corners_f⟩:(Sl straight))⟩:set) a1 K hs hk⟩
  · exact h.elim
abbrev T19:Tabs:=((((((Tabs.nil.addF 64 ztz).addF 65 zvv).addF 66 zvy).addF 67 zn2).addF 68 zvQ).addF 69 zpp)
theorem zMe:TabsOk Try.prog T19:=((((((TabsOk.nil.addF zK2).addF zLW).addF zLZ).addF zIG).addF zNK).addF zK9)
abbrev G19:Ctrs:=csm T19 (fun _ _=>[]) (fun _=>false)
def zEx:Ann:=⟨124,[(0,zK [0,1,2,3,9,10] [9,10]),(1,zK [0,1,2,3,9,10,12] [9,10,12]),(2,zK [0,1,2,3,9,10,12,44] [9,10,12]),(3,zK [8,9,10,11] [9,10]),(4,zK [2,3,9,10,12,13,14] [9,10,12,13,14]),(5,zK [2,3,9,10,12,13,14,58] [9,10,12,13,14]),(6,zK [8,9,10,11] [9,10]),(7,zK [2,3,9,10,12,13,14,68] [9,10,12,13,14]),(8,zK [8,9,10,11] [9,10]),(9,zK [2,3,9,10,12,13,14,15,16] [9,10,12,13,14,15,16]),(10,zK [2,3,9,10,12,13,14,15,16,17] [9,10,12,13,14,15,16]),(11,zK [2,3,9,10,12,13,14,15,16,17,76,77] [9,10,12,13,14,15,16]),(12,zK [2,3,9,10,12,13,14,15,16,17,76,77,78] [9,10,12,13,14,15,16]),(13,zK [2,3,9,10,12,13,14,15,16,17,18,76,77] [9,10,12,13,14,15,16]),(14,zK [2,3,9,10,12,13,14,15,16,17,18,19,20,76,77] [9,10,12,13,14,15,16,19,20]),(15,zK [2,3,9,10,12,13,14,15,16,17,18,19,20,21,22,76,77] [9,10,12,13,14,15,16,19,20,21,22]),(16,zK [2,3,9,10,12,13,14,15,16,17,18,19,20,21,22,76,77] [9,10,12,13,14,15,16,19,20,21,22]),(17,zK [2,3,9,10,12,13,14,15,16,17,18,20,21,22,76,77,101] [9,10,12,13,14,15,16,20,21,22]),(18,zK [2,3,9,10,12,13,14,15,16,17,18,20,22,76,77] [9,10,12,13,14,15,16,20,22]),(19,zK [2,3,9,10,12,13,14,15,16,17,18,22,76,77,106] [9,10,12,13,14,15,16,22]),(20,zK [2,3,9,10,12,13,14,15,16,17,18,76,77] [9,10,12,13,14,15,16]),(21,zK [2,3,9,10,12,13,14,15,16,17,18,76,77,111] [9,10,12,13,14,15,16]),(22,zK [3,9,10,12,15,16,17] [9,10,12,15,16]),(23,zK [2,3,9,10,12,13,14,15,16,17,76,77] [9,10,12,13,14,15,16]),(24,zK [9,10,12,15,16,17,118] [9,10,12,15,16]),(25,zK [8,9,10,11] [9,10]),(26,zK [8,9,10,11] [9,10])],
 [(12,zK [2,3,9,10,12,13,14,15,16,17,76,77] [9,10,12,13,14,15,16])],
 [(3,zK [0,1,2,3,9,10,12,44] [9,10,12]),(4,zK [0,1,2,3,9,10,12] [9,10,12]),(5,zK [2,3,9,10,12,13,14] [9,10,12,13,14]),(6,zK [2,3,9,10,12,13,14,58] [9,10,12,13,14]),(7,zK [2,3,9,10,12,13,14] [9,10,12,13,14]),(8,zK [2,3,9,10,12,13,14,68] [9,10,12,13,14]),(9,zK [2,3,9,10,12,13,14] [9,10,12,13,14]),(15,zK [2,3,9,10,12,13,14,15,16,17,18,19,20,76,77] [9,10,12,13,14,15,16,19,20]),(24,zK [3,9,10,12,15,16,17] [9,10,12,15,16]),(16,zK [2,3,9,10,12,13,14,15,16,17,18,19,20,21,22,76,77] [9,10,12,13,14,15,16,19,20,21,22]),(18,zK [2,3,9,10,12,13,14,15,16,17,18,20,21,22,76,77,101] [9,10,12,13,14,15,16,20,21,22]),(19,zK [2,3,9,10,12,13,14,15,16,17,18,20,22,76,77] [9,10,12,13,14,15,16,20,22]),(20,zK [2,3,9,10,12,13,14,15,16,17,18,22,76,77,106] [9,10,12,13,14,15,16,22]),(22,zK [2,3,9,10,12,13,14,15,16,17,18,76,77,111] [9,10,12,13,14,15,16])],
 [],[]⟩
abbrev R19:=(Int×Frac×Frac×Int)
abbrev e19 (r:R19):List PA:=[.one (.int .i64 r.1),.agg [.int .i64 r.2.1.Num,.int .i64 r.2.1.Den],.agg [.int .i64 r.2.2.1.Num,.int .i64 r.2.2.1.Den],.one (.int .i64 r.2.2.2)]
@[irreducible] def z19:=ptF Try.prog G19 zEx Try.f19
def zCt (low:Int) (high:Int) (zam:(Sl Gate)) (zas:(Sl straight)) (zan:(Sl Gate)) (zat:(Sl straight)) (zcu:Int) (zbz:Int) (zbA:Int) (zcH:Int) (zcI:Int):St:=⟨[(2,zI low),(3,zI high),(9,zp 9 0),(10,zp 10 0),(12,zp 12 0),(13,zp 13 0),(14,zp 14 0),(15,zp 15 0),(16,zp 16 0),(17,zI (w64 (high+(1:Int)))),(76,zI (w64 ((w64 (high - low))+(1:Int)))),(77,zI zcu)],[(9,.box 25 (zm (zad (⟨(0:Int),(0:Int)⟩:Frac)))),(10,.box 25 (zm (zad (⟨(0:Int),(0:Int)⟩:Frac)))),(12,.box 25 (zm (zad (⟨(0:Int),(0:Int)⟩:Frac)))),(13,.box 104 (zm (zaZ (⟨(⟨zam⟩:list),zas⟩:set)))),(14,.box 104 (zm (zaZ (⟨(⟨zan⟩:list),zat⟩:set)))),(15,.box 25 (zm (zad (⟨zbz,zbA⟩:Frac)))),(16,.box 25 (zm (zad (⟨zcH,zcI⟩:Frac))))],[]⟩
abbrev zn9 (K:List PA→Prop) (low:Int) (high:Int) (zam:(Sl Gate)) (zas:(Sl straight)) (zan:(Sl Gate)) (zat:(Sl straight)) (X:St→Prop) (P:Int→Int→Int→Int→Int→Bool) (S:Int→Int→Int→Int→Int→(Int×Frac×Frac×Int)):Prop:=∀ ⦃zcu:Int⦄ ⦃zbz:Int⦄ ⦃zbA:Int⦄ ⦃zcH:Int⦄ ⦃zcI:Int⦄,P zcu zbz zbA zcH zcI=true→K (e19 (S zcu zbz zbA zcH zcI))→X (zCt low high zam zas zan zat zcu zbz zbA zcH zcI)
section
variable {K:List PA→Prop} {a:(Sl Gate)} {b:(Sl Gate)} {low:Int} {high:Int} {zpA:Bool} {zam:(Sl Gate)} {zas:(Sl straight)} {zan:(Sl Gate)} {zat:(Sl straight)} {zvR:Nat→List PV} {zvS:Nat→List PV} {zvT:Nat→List PV} {zvU:Nat→List PV} {zpB:Bool} {zpC:Bool} {zcu:Int} {zbz:Int} {zbA:Int} {zcH:Int} {zcI:Int} {X7:St→Prop} {P7:Int→Int→Int→Int→Int→Bool} {S7:Int→Int→Int→Int→Int→(Int×Frac×Frac×Int)} {iv8:Int} {zpD:Int} {zeB:Int} {zeC:Int} {zjZ:Int} {zj0:Int} {zdH:Int} {zdI:Int} {zbK:Int} {zbL:Int} {zJe:Int} {ziV:Int} {ziW:Int} {zsn:Int} {zso:Int} {zhb:Int} {zj1:Int} {ze8:Int} {ze9:Int} {zj2:Int} {zj3:Int} {zdg:Int} {zdh:Int} {zbs:Int} {zbt:Int} {zBf:Int} {zg2:Int} {zgh:Bool} {zEy:Int} {zj4:Int} {zaE:Int} {zaF:Int} {zBg:Int} {zg3:Int} {zgi:Bool} {zHG:Int} {zj5:Int} {zgj:Bool} {zfa:Int} {zfb:Int}
def zj6 (high:Int) (zJe:Int) (ziV:Int) (ziW:Int) (zsn:Int) (zso:Int):(Int×Frac×Frac×Int) :=
  (cond (decide (zJe > high))
 ((0:Int),(⟨(0:Int),(0:Int)⟩:Frac),(⟨(0:Int),(0:Int)⟩:Frac),(5:Int))
 (zJe,(⟨ziV,ziW⟩:Frac),(⟨zsn,zso⟩:Frac),(0:Int)))
theorem zvV (hk:K (e19 (zj6 high zJe ziV ziW zsn zso))):z19 K [1,0,1,1,1,1,1,1,1,1,1] [] ⟨[(3,zI high),(9,zp 9 0),(10,zp 10 0),(12,zp 12 0),(15,zp 15 0),(16,zp 16 0),(17,zI zJe)],[(9,.box 25 (zm (zad (⟨(0:Int),(0:Int)⟩:Frac)))),(10,.box 25 (zm (zad (⟨(0:Int),(0:Int)⟩:Frac)))),(12,.box 25 (zm (zad (⟨(0:Int),(0:Int)⟩:Frac)))),(15,.box 25 (zm (zad (⟨ziV,ziW⟩:Frac)))),(16,.box 25 (zm (zad (⟨zsn,zso⟩:Frac))))],[]⟩:=zaw (by kernel_rfl) (zt hk (fun hk=>hk) (fun hk=>hk))
def ziX (S7:Int→Int→Int→Int→Int→(Int×Frac×Frac×Int)) (low:Int) (high:Int) (zam:(Sl Gate)) (zas:(Sl straight)) (zan:(Sl Gate)) (zat:(Sl straight)) (zaE:Int) (zaF:Int) (zHG:Int) (zj5:Int) (zgj:Bool) (zfa:Int) (zfb:Int):(Int×Frac×Frac×Int) :=
  (cond zgj
 (zj6 high (w64 (low+zHG)) zaE zaF zfa zfb)
 (S7 (w64 (zj5+(1:Int))) zaE zaF zfa zfb))
def ziY (P7:Int→Int→Int→Int→Int→Bool) (low:Int) (high:Int) (zam:(Sl Gate)) (zas:(Sl straight)) (zan:(Sl Gate)) (zat:(Sl straight)) (zaE:Int) (zaF:Int) (zHG:Int) (zj5:Int) (zgj:Bool) (zfa:Int) (zfb:Int):Bool :=
  (cond zgj
 true
 (P7 (w64 (zj5+(1:Int))) zaE zaF zfa zfb))
theorem zsp (hX7:zn9 K low high zam zas zan zat X7 P7 S7) (hs:ziY P7 low high zam zas zan zat zaE zaF zHG zj5 zgj zfa zfb=true) (hk:K (e19 (ziX S7 low high zam zas zan zat zaE zaF zHG zj5 zgj zfa zfb))):z19 K [1,0,1,1,1,1,1,1,1,1,0,1,0,0,1,1,0,0,1,1,1,1,1,1,1] [X7] ⟨[(2,zI low),(3,zI high),(9,zp 9 0),(10,zp 10 0),(12,zp 12 0),(13,zp 13 0),(14,zp 14 0),(15,zp 15 0),(16,zp 16 0),(17,zI (w64 (high+(1:Int)))),(18,zI zHG),(76,zI (w64 ((w64 (high - low))+(1:Int)))),(77,zI zj5),(111,zB zgj)],[(9,.box 25 (zm (zad (⟨(0:Int),(0:Int)⟩:Frac)))),(10,.box 25 (zm (zad (⟨(0:Int),(0:Int)⟩:Frac)))),(12,.box 25 (zm (zad (⟨(0:Int),(0:Int)⟩:Frac)))),(13,.box 104 (zm (zaZ (⟨(⟨zam⟩:list),zas⟩:set)))),(14,.box 104 (zm (zaZ (⟨(⟨zan⟩:list),zat⟩:set)))),(15,.box 25 (zm (zad (⟨zaE,zaF⟩:Frac)))),(16,.box 25 (zm (zad (⟨zfa,zfb⟩:Frac))))],[]⟩:=zaw (by kernel_rfl) (zc hs hk (fun hs hk=>(zvV hk)) (fun hs hk=>(hX7 hs hk)))
def zmk (S7:Int→Int→Int→Int→Int→(Int×Frac×Frac×Int)) (low:Int) (high:Int) (zam:(Sl Gate)) (zas:(Sl straight)) (zan:(Sl Gate)) (zat:(Sl straight)) (zbK:Int) (zbL:Int) (zbs:Int) (zbt:Int) (zaE:Int) (zaF:Int) (zBg:Int) (zg3:Int) (zgi:Bool):(Int×Frac×Frac×Int) :=
  (cond zgi
 (ziX S7 low high zam zas zan zat zaE zaF zBg zg3 (decide ((s69 (⟨zaE,zaF⟩:Frac) (⟨zbs,zbt⟩:Frac))≤(0:Int))) zbs zbt)
 (ziX S7 low high zam zas zan zat zaE zaF zBg zg3 (decide ((s69 (⟨zaE,zaF⟩:Frac) (⟨zbK,zbL⟩:Frac))≤(0:Int))) zbK zbL))
def zml (P7:Int→Int→Int→Int→Int→Bool) (low:Int) (high:Int) (zam:(Sl Gate)) (zas:(Sl straight)) (zan:(Sl Gate)) (zat:(Sl straight)) (zbK:Int) (zbL:Int) (zbs:Int) (zbt:Int) (zaE:Int) (zaF:Int) (zBg:Int) (zg3:Int) (zgi:Bool):Bool :=
  (cond zgi
 (ziY P7 low high zam zas zan zat zaE zaF zBg zg3 (decide ((s69 (⟨zaE,zaF⟩:Frac) (⟨zbs,zbt⟩:Frac))≤(0:Int))) zbs zbt)
 (ziY P7 low high zam zas zan zat zaE zaF zBg zg3 (decide ((s69 (⟨zaE,zaF⟩:Frac) (⟨zbK,zbL⟩:Frac))≤(0:Int))) zbK zbL))
theorem zBh (hX7:zn9 K low high zam zas zan zat X7 P7 S7) (hs:zml P7 low high zam zas zan zat zbK zbL zbs zbt zaE zaF zBg zg3 zgi=true) (hk:K (e19 (zmk S7 low high zam zas zan zat zbK zbL zbs zbt zaE zaF zBg zg3 zgi))):z19 K [1,0,1,1,1,1,1,1,1,1,0,1,0,0,1,1,0,0,1,1,1,1,1,0,1] [X7] ⟨[(2,zI low),(3,zI high),(9,zp 9 0),(10,zp 10 0),(12,zp 12 0),(13,zp 13 0),(14,zp 14 0),(15,zp 15 0),(16,zp 16 0),(17,zI (w64 (high+(1:Int)))),(18,zI zBg),(22,zp 22 0),(76,zI (w64 ((w64 (high - low))+(1:Int)))),(77,zI zg3),(106,zB zgi)],[(9,.box 25 (zm (zad (⟨(0:Int),(0:Int)⟩:Frac)))),(10,.box 25 (zm (zad (⟨(0:Int),(0:Int)⟩:Frac)))),(12,.box 25 (zm (zad (⟨(0:Int),(0:Int)⟩:Frac)))),(13,.box 104 (zm (zaZ (⟨(⟨zam⟩:list),zas⟩:set)))),(14,.box 104 (zm (zaZ (⟨(⟨zan⟩:list),zat⟩:set)))),(15,.box 25 (zm (zad (⟨zaE,zaF⟩:Frac)))),(16,.box 25 (zm (zad (⟨zbK,zbL⟩:Frac)))),(22,.box 25 (zm (zad (⟨zbs,zbt⟩:Frac))))],[]⟩:=zaw (by kernel_rfl) (zc hs hk (fun hs hk=>(zsp hX7 hs hk)) (fun hs hk=>(zsp hX7 hs hk)))
def ziZ (S7:Int→Int→Int→Int→Int→(Int×Frac×Frac×Int)) (low:Int) (high:Int) (zam:(Sl Gate)) (zas:(Sl straight)) (zan:(Sl Gate)) (zat:(Sl straight)) (zbK:Int) (zbL:Int) (zbs:Int) (zbt:Int) (zEy:Int) (zj4:Int) (zaE:Int) (zaF:Int):(Int×Frac×Frac×Int) :=
  (zmk S7 low high zam zas zan zat zbK zbL zbs zbt zaE zaF zEy zj4 (decide ((s69 (⟨zbs,zbt⟩:Frac) (⟨zbK,zbL⟩:Frac)) < (0:Int))))
def zi0 (P7:Int→Int→Int→Int→Int→Bool) (low:Int) (high:Int) (zam:(Sl Gate)) (zas:(Sl straight)) (zan:(Sl Gate)) (zat:(Sl straight)) (zbK:Int) (zbL:Int) (zbs:Int) (zbt:Int) (zEy:Int) (zj4:Int) (zaE:Int) (zaF:Int):Bool :=
  (zml P7 low high zam zas zan zat zbK zbL zbs zbt zaE zaF zEy zj4 (decide ((s69 (⟨zbs,zbt⟩:Frac) (⟨zbK,zbL⟩:Frac)) < (0:Int))))
theorem zsq (hX7:zn9 K low high zam zas zan zat X7 P7 S7) (hs:zi0 P7 low high zam zas zan zat zbK zbL zbs zbt zEy zj4 zaE zaF=true) (hk:K (e19 (ziZ S7 low high zam zas zan zat zbK zbL zbs zbt zEy zj4 zaE zaF))):z19 K [1,0,1,1,1,1,1,1,1,1,0,1,0,0,1,1,0,0,1,1,1,1,1] [X7] ⟨[(2,zI low),(3,zI high),(9,zp 9 0),(10,zp 10 0),(12,zp 12 0),(13,zp 13 0),(14,zp 14 0),(15,zp 15 0),(16,zp 16 0),(17,zI (w64 (high+(1:Int)))),(18,zI zEy),(20,zp 20 0),(22,zp 22 0),(76,zI (w64 ((w64 (high - low))+(1:Int)))),(77,zI zj4)],[(9,.box 25 (zm (zad (⟨(0:Int),(0:Int)⟩:Frac)))),(10,.box 25 (zm (zad (⟨(0:Int),(0:Int)⟩:Frac)))),(12,.box 25 (zm (zad (⟨(0:Int),(0:Int)⟩:Frac)))),(13,.box 104 (zm (zaZ (⟨(⟨zam⟩:list),zas⟩:set)))),(14,.box 104 (zm (zaZ (⟨(⟨zan⟩:list),zat⟩:set)))),(15,.box 25 (zm (zad (⟨zaE,zaF⟩:Frac)))),(16,.box 25 (zm (zad (⟨zbK,zbL⟩:Frac)))),(20,.box 25 (zm (zad (⟨zbK,zbL⟩:Frac)))),(22,.box 25 (zm (zad (⟨zbs,zbt⟩:Frac))))],[]⟩:=zaw (by kernel_rfl) (zBh hX7 hs hk)
def zmm (S7:Int→Int→Int→Int→Int→(Int×Frac×Frac×Int)) (low:Int) (high:Int) (zam:(Sl Gate)) (zas:(Sl straight)) (zan:(Sl Gate)) (zat:(Sl straight)) (zdH:Int) (zdI:Int) (zbK:Int) (zbL:Int) (zdg:Int) (zdh:Int) (zbs:Int) (zbt:Int) (zBf:Int) (zg2:Int) (zgh:Bool):(Int×Frac×Frac×Int) :=
  (cond zgh
 (ziZ S7 low high zam zas zan zat zbK zbL zbs zbt zBf zg2 zdg zdh)
 (ziZ S7 low high zam zas zan zat zbK zbL zbs zbt zBf zg2 zdH zdI))
def zmn (P7:Int→Int→Int→Int→Int→Bool) (low:Int) (high:Int) (zam:(Sl Gate)) (zas:(Sl straight)) (zan:(Sl Gate)) (zat:(Sl straight)) (zdH:Int) (zdI:Int) (zbK:Int) (zbL:Int) (zdg:Int) (zdh:Int) (zbs:Int) (zbt:Int) (zBf:Int) (zg2:Int) (zgh:Bool):Bool :=
  (cond zgh
 (zi0 P7 low high zam zas zan zat zbK zbL zbs zbt zBf zg2 zdg zdh)
 (zi0 P7 low high zam zas zan zat zbK zbL zbs zbt zBf zg2 zdH zdI))
theorem zBi (hX7:zn9 K low high zam zas zan zat X7 P7 S7) (hs:zmn P7 low high zam zas zan zat zdH zdI zbK zbL zdg zdh zbs zbt zBf zg2 zgh=true) (hk:K (e19 (zmm S7 low high zam zas zan zat zdH zdI zbK zbL zdg zdh zbs zbt zBf zg2 zgh))):z19 K [1,0,1,1,1,1,1,1,1,1,0,1,0,0,1,1,0,0,1,1,1,1,0,1] [X7] ⟨[(2,zI low),(3,zI high),(9,zp 9 0),(10,zp 10 0),(12,zp 12 0),(13,zp 13 0),(14,zp 14 0),(15,zp 15 0),(16,zp 16 0),(17,zI (w64 (high+(1:Int)))),(18,zI zBf),(20,zp 20 0),(21,zp 21 0),(22,zp 22 0),(76,zI (w64 ((w64 (high - low))+(1:Int)))),(77,zI zg2),(101,zB zgh)],[(9,.box 25 (zm (zad (⟨(0:Int),(0:Int)⟩:Frac)))),(10,.box 25 (zm (zad (⟨(0:Int),(0:Int)⟩:Frac)))),(12,.box 25 (zm (zad (⟨(0:Int),(0:Int)⟩:Frac)))),(13,.box 104 (zm (zaZ (⟨(⟨zam⟩:list),zas⟩:set)))),(14,.box 104 (zm (zaZ (⟨(⟨zan⟩:list),zat⟩:set)))),(15,.box 25 (zm (zad (⟨zdH,zdI⟩:Frac)))),(16,.box 25 (zm (zad (⟨zbK,zbL⟩:Frac)))),(20,.box 25 (zm (zad (⟨zbK,zbL⟩:Frac)))),(21,.box 25 (zm (zad (⟨zdg,zdh⟩:Frac)))),(22,.box 25 (zm (zad (⟨zbs,zbt⟩:Frac))))],[]⟩:=zaw (by kernel_rfl) (zc hs hk (fun hs hk=>(zsq hX7 hs hk)) (fun hs hk=>(zsq hX7 hs hk)))
def zmo (S7:Int→Int→Int→Int→Int→(Int×Frac×Frac×Int)) (low:Int) (high:Int) (zam:(Sl Gate)) (zas:(Sl straight)) (zan:(Sl Gate)) (zat:(Sl straight)) (zdH:Int) (zdI:Int) (zbK:Int) (zbL:Int) (zhb:Int) (zj1:Int) (ze8:Int) (ze9:Int) (zj2:Int) (zj3:Int) (zdg:Int) (zdh:Int) (zbs:Int) (zbt:Int):(Int×Frac×Frac×Int) :=
  (zmm S7 low high zam zas zan zat zdH zdI zbK zbL zdg zdh zbs zbt zhb zj1 (decide ((s69 (⟨zdg,zdh⟩:Frac) (⟨zdH,zdI⟩:Frac)) > (0:Int))))
def zmp (P7:Int→Int→Int→Int→Int→Bool) (low:Int) (high:Int) (zam:(Sl Gate)) (zas:(Sl straight)) (zan:(Sl Gate)) (zat:(Sl straight)) (zdH:Int) (zdI:Int) (zbK:Int) (zbL:Int) (zhb:Int) (zj1:Int) (ze8:Int) (ze9:Int) (zj2:Int) (zj3:Int) (zdg:Int) (zdh:Int) (zbs:Int) (zbt:Int):Bool :=
  (zmn P7 low high zam zas zan zat zdH zdI zbK zbL zdg zdh zbs zbt zhb zj1 (decide ((s69 (⟨zdg,zdh⟩:Frac) (⟨zdH,zdI⟩:Frac)) > (0:Int))))
theorem zBj (hX7:zn9 K low high zam zas zan zat X7 P7 S7) (hs:zmp P7 low high zam zas zan zat zdH zdI zbK zbL zhb zj1 ze8 ze9 zj2 zj3 zdg zdh zbs zbt=true) (hk:K (e19 (zmo S7 low high zam zas zan zat zdH zdI zbK zbL zhb zj1 ze8 ze9 zj2 zj3 zdg zdh zbs zbt))):z19 K [1,0,1,1,1,1,1,1,1,1,0,1,0,0,1,1,0,0,1,1,1] [X7] ⟨[(2,zI low),(3,zI high),(9,zp 9 0),(10,zp 10 0),(12,zp 12 0),(13,zp 13 0),(14,zp 14 0),(15,zp 15 0),(16,zp 16 0),(17,zI (w64 (high+(1:Int)))),(18,zI zhb),(19,zp 19 0),(20,zp 20 0),(21,zp 21 0),(22,zp 22 0),(76,zI (w64 ((w64 (high - low))+(1:Int)))),(77,zI zj1)],[(9,.box 25 (zm (zad (⟨(0:Int),(0:Int)⟩:Frac)))),(10,.box 25 (zm (zad (⟨(0:Int),(0:Int)⟩:Frac)))),(12,.box 25 (zm (zad (⟨(0:Int),(0:Int)⟩:Frac)))),(13,.box 104 (zm (zaZ (⟨(⟨zam⟩:list),zas⟩:set)))),(14,.box 104 (zm (zaZ (⟨(⟨zan⟩:list),zat⟩:set)))),(15,.box 25 (zm (zad (⟨ze8,ze9⟩:Frac)))),(16,.box 25 (zm (zad (⟨zj2,zj3⟩:Frac)))),(19,.box 25 (zm (zad (⟨zdH,zdI⟩:Frac)))),(20,.box 25 (zm (zad (⟨zbK,zbL⟩:Frac)))),(21,.box 25 (zm (zad (⟨zdg,zdh⟩:Frac)))),(22,.box 25 (zm (zad (⟨zbs,zbt⟩:Frac))))],[]⟩:=zaw (by kernel_rfl) (zBi hX7 hs hk)
def zpE (S7:Int→Int→Int→Int→Int→(Int×Frac×Frac×Int)) (low:Int) (high:Int) (zam:(Sl Gate)) (zas:(Sl straight)) (zan:(Sl Gate)) (zat:(Sl straight)) (iv8:Int) (zpD:Int) (zeB:Int) (zeC:Int) (zjZ:Int) (zj0:Int) (zdH:Int) (zdI:Int) (zbK:Int) (zbL:Int):(Int×Frac×Frac×Int) :=
  (zmo S7 low high zam zas zan zat zdH zdI zbK zbL iv8 zpD zeB zeC zjZ zj0 (((s68 (⟨(⟨zan⟩:list),zat⟩:set) (w64 (low+iv8))).1).Num) (((s68 (⟨(⟨zan⟩:list),zat⟩:set) (w64 (low+iv8))).1).Den) (((s68 (⟨(⟨zan⟩:list),zat⟩:set) (w64 (low+iv8))).2).Num) (((s68 (⟨(⟨zan⟩:list),zat⟩:set) (w64 (low+iv8))).2).Den))
def zpF (P7:Int→Int→Int→Int→Int→Bool) (low:Int) (high:Int) (zam:(Sl Gate)) (zas:(Sl straight)) (zan:(Sl Gate)) (zat:(Sl straight)) (iv8:Int) (zpD:Int) (zeB:Int) (zeC:Int) (zjZ:Int) (zj0:Int) (zdH:Int) (zdI:Int) (zbK:Int) (zbL:Int):Bool :=
  (decide ((p68 (⟨(⟨zan⟩:list),zat⟩:set) (w64 (low+iv8))=true)) &&
 (zmp P7 low high zam zas zan zat zdH zdI zbK zbL iv8 zpD zeB zeC zjZ zj0 (((s68 (⟨(⟨zan⟩:list),zat⟩:set) (w64 (low+iv8))).1).Num) (((s68 (⟨(⟨zan⟩:list),zat⟩:set) (w64 (low+iv8))).1).Den) (((s68 (⟨(⟨zan⟩:list),zat⟩:set) (w64 (low+iv8))).2).Num) (((s68 (⟨(⟨zan⟩:list),zat⟩:set) (w64 (low+iv8))).2).Den)))
theorem zEz (hX7:zn9 K low high zam zas zan zat X7 P7 S7) (hs:zpF P7 low high zam zas zan zat iv8 zpD zeB zeC zjZ zj0 zdH zdI zbK zbL=true) (hk:K (e19 (zpE S7 low high zam zas zan zat iv8 zpD zeB zeC zjZ zj0 zdH zdI zbK zbL))):z19 K [1,0,1,1,1,1,1,1,1,1,0,1,0,0,1,1,0,0,1,1] [X7] ⟨[(2,zI low),(3,zI high),(9,zp 9 0),(10,zp 10 0),(12,zp 12 0),(13,zp 13 0),(14,zp 14 0),(15,zp 15 0),(16,zp 16 0),(17,zI (w64 (high+(1:Int)))),(18,zI iv8),(19,zp 19 0),(20,zp 20 0),(76,zI (w64 ((w64 (high - low))+(1:Int)))),(77,zI zpD)],[(9,.box 25 (zm (zad (⟨(0:Int),(0:Int)⟩:Frac)))),(10,.box 25 (zm (zad (⟨(0:Int),(0:Int)⟩:Frac)))),(12,.box 25 (zm (zad (⟨(0:Int),(0:Int)⟩:Frac)))),(13,.box 104 (zm (zaZ (⟨(⟨zam⟩:list),zas⟩:set)))),(14,.box 104 (zm (zaZ (⟨(⟨zan⟩:list),zat⟩:set)))),(15,.box 25 (zm (zad (⟨zeB,zeC⟩:Frac)))),(16,.box 25 (zm (zad (⟨zjZ,zj0⟩:Frac)))),(19,.box 25 (zm (zad (⟨zdH,zdI⟩:Frac)))),(20,.box 25 (zm (zad (⟨zbK,zbL⟩:Frac))))],[]⟩:=zaw (by kernel_rfl) (zau hs fun hc hs=>And.intro (And.intro (zE enc_55 3 zan.get) (And.intro (zE zah 3 zat.get) hc)) (zBj hX7 hs hk))
def zgk (low:Int) (high:Int) (zam:(Sl Gate)) (zas:(Sl straight)) (zan:(Sl Gate)) (zat:(Sl straight)) (S7:Int→Int→Int→Int→Int→(Int×Frac×Frac×Int)) (zcu:Int) (zbz:Int) (zbA:Int) (zcH:Int) (zcI:Int):(Int×Frac×Frac×Int) :=
  (cond (decide (zcu < (w64 ((w64 (high - low)) + (1:Int)))))
 (zpE S7 low high zam zas zan zat zcu zcu zbz zbA zcH zcI (((s68 (⟨(⟨zam⟩:list),zas⟩:set) (w64 (low+zcu))).1).Num) (((s68 (⟨(⟨zam⟩:list),zas⟩:set) (w64 (low+zcu))).1).Den) (((s68 (⟨(⟨zam⟩:list),zas⟩:set) (w64 (low+zcu))).2).Num) (((s68 (⟨(⟨zam⟩:list),zas⟩:set) (w64 (low+zcu))).2).Den))
 (zj6 high (w64 (high+(1:Int))) zbz zbA zcH zcI))
def zgl (low:Int) (high:Int) (zam:(Sl Gate)) (zas:(Sl straight)) (zan:(Sl Gate)) (zat:(Sl straight)) (P7:Int→Int→Int→Int→Int→Bool) (zcu:Int) (zbz:Int) (zbA:Int) (zcH:Int) (zcI:Int):Bool :=
  (cond (decide (zcu < (w64 ((w64 (high - low)) + (1:Int)))))
 (decide ((p68 (⟨(⟨zam⟩:list),zas⟩:set) (w64 (low+zcu))=true)) &&
 (zpF P7 low high zam zas zan zat zcu zcu zbz zbA zcH zcI (((s68 (⟨(⟨zam⟩:list),zas⟩:set) (w64 (low+zcu))).1).Num) (((s68 (⟨(⟨zam⟩:list),zas⟩:set) (w64 (low+zcu))).1).Den) (((s68 (⟨(⟨zam⟩:list),zas⟩:set) (w64 (low+zcu))).2).Num) (((s68 (⟨(⟨zam⟩:list),zas⟩:set) (w64 (low+zcu))).2).Den)))
 true)
def zhB (low:Int) (high:Int) (zam:(Sl Gate)) (zas:(Sl straight)) (zan:(Sl Gate)) (zat:(Sl straight)):Nat→Int→Int→Int→Int→Int→(Int×Frac×Frac×Int):=lpO (fun _ _ _ _ _=>default) (zgk low high zam zas zan zat)
def zhC (low:Int) (high:Int) (zam:(Sl Gate)) (zas:(Sl straight)) (zan:(Sl Gate)) (zat:(Sl straight)):Nat→Int→Int→Int→Int→Int→Bool:=lpO (fun _ _ _ _ _=>false) (zgl low high zam zas zan zat)
def zvW (low:Int) (high:Int) (zam:(Sl Gate)) (zas:(Sl straight)) (zan:(Sl Gate)) (zat:(Sl straight)) (zcu:Int) (zbz:Int) (zbA:Int) (zcH:Int) (zcI:Int):(Int×Frac×Frac×Int):=zhB low high zam zas zan zat Fuel zcu zbz zbA zcH zcI
def zvX (low:Int) (high:Int) (zam:(Sl Gate)) (zas:(Sl straight)) (zan:(Sl Gate)) (zat:(Sl straight)) (zcu:Int) (zbz:Int) (zbA:Int) (zcH:Int) (zcI:Int):Bool:=zhC low high zam zas zan zat Fuel zcu zbz zbA zcH zcI
theorem zEA (hs:zvX low high zam zas zan zat zcu zbz zbA zcH zcI=true) (hk:K (e19 (zvW low high zam zas zan zat zcu zbz zbA zcH zcI))):z19 K [1,0,1,1,1,1,1,1,1,1,0,1,0] [] (zCt low high zam zas zan zat zcu zbz zbA zcH zcI) :=
  zl (fun X=>z19 K [1,0,1,1,1,1,1,1,1,1,0,1,0,0] [X]) (by kernel_rfl) fun X7 hX =>
  (show ∀ k, zn9 K low high zam zas zan zat X7 (zhC low high zam zas zan zat k) (zhB low high zam zas zan zat k) from zet _ _ (zgl low high zam zas zan zat) (zgk low high zam zas zan zat) (zn9 K low high zam zas zan zat X7)
 (by intro _ _ _ _ _ hs;exact absurd hs Bool.false_ne_true)
 (by intro P7 S7 hX7 zcu zbz zbA zcH zcI hs hk;exact hX _ (zaw (by kernel_rfl) (zc hs hk (fun hs hk=>(zau hs fun hc hs=>And.intro (And.intro (zE enc_55 3 zam.get) (And.intro (zE zah 3 zas.get) hc)) (zEz hX7 hs hk))) (fun hs hk=>(zvV hk)))))) _ hs hk
def zvY (low:Int) (high:Int) (zam:(Sl Gate)) (zas:(Sl straight)) (zan:(Sl Gate)) (zat:(Sl straight)):(Int×Frac×Frac×Int) :=
  (zvW low high zam zas zan zat (0:Int) (0:Int) (0:Int) (0:Int) (0:Int))
def zvZ (low:Int) (high:Int) (zam:(Sl Gate)) (zas:(Sl straight)) (zan:(Sl Gate)) (zat:(Sl straight)):Bool :=
  (zvX low high zam zas zan zat (0:Int) (0:Int) (0:Int) (0:Int) (0:Int))
theorem zEB (hs:zvZ low high zam zas zan zat=true) (hk:K (e19 (zvY low high zam zas zan zat))):z19 K [1,0,1,1,1,1,1] [] ⟨[(2,zI low),(3,zI high),(9,zp 9 0),(10,zp 10 0),(12,zp 12 0),(13,zp 13 0),(14,zp 14 0)],[(9,.box 25 (zm (zad (⟨(0:Int),(0:Int)⟩:Frac)))),(10,.box 25 (zm (zad (⟨(0:Int),(0:Int)⟩:Frac)))),(12,.box 25 (zm (zad (⟨(0:Int),(0:Int)⟩:Frac)))),(13,.box 104 (zm (zaZ (⟨(⟨zam⟩:list),zas⟩:set)))),(14,.box 104 (zm (zaZ (⟨(⟨zan⟩:list),zat⟩:set))))],[]⟩:=zaw (by kernel_rfl) (zEA hs hk)
def zmq (low:Int) (high:Int) (zam:(Sl Gate)) (zas:(Sl straight)) (zan:(Sl Gate)) (zat:(Sl straight)) (zpC:Bool):(Int×Frac×Frac×Int) :=
  (cond zpC
 ((0:Int),(⟨(0:Int),(0:Int)⟩:Frac),(⟨(0:Int),(0:Int)⟩:Frac),(6:Int))
 (zvY low high zam zas zan zat))
def zmr (low:Int) (high:Int) (zam:(Sl Gate)) (zas:(Sl straight)) (zan:(Sl Gate)) (zat:(Sl straight)) (zpC:Bool):Bool :=
  (cond zpC
 true
 (zvZ low high zam zas zan zat))
theorem zv7 (hs:zmr low high zam zas zan zat zpC=true) (hk:K (e19 (zmq low high zam zas zan zat zpC))):z19 K [1,0,1,1,1,1,0,1] [] ⟨[(2,zI low),(3,zI high),(9,zp 9 0),(10,zp 10 0),(12,zp 12 0),(13,zp 13 0),(14,zp 14 0),(68,zB zpC)],[(9,.box 25 (zm (zad (⟨(0:Int),(0:Int)⟩:Frac)))),(10,.box 25 (zm (zad (⟨(0:Int),(0:Int)⟩:Frac)))),(12,.box 25 (zm (zad (⟨(0:Int),(0:Int)⟩:Frac)))),(13,.box 104 (zm (zaZ (⟨(⟨zam⟩:list),zas⟩:set)))),(14,.box 104 (zm (zaZ (⟨(⟨zan⟩:list),zat⟩:set))))],[]⟩:=zaw (by kernel_rfl) (zc hs hk (fun hs hk=>hk) (fun hs hk=>(zEB hs hk)))
def zpG (low:Int) (high:Int) (zam:(Sl Gate)) (zas:(Sl straight)) (zan:(Sl Gate)) (zat:(Sl straight)):(Int×Frac×Frac×Int) :=
  (cond (s67 (⟨zam⟩ : list))
 (zmq low high zam zas zan zat true)
 (zmq low high zam zas zan zat (s67 (⟨zan⟩:list))))
def zpH (low:Int) (high:Int) (zam:(Sl Gate)) (zas:(Sl straight)) (zan:(Sl Gate)) (zat:(Sl straight)):Bool :=
  (decide ((p67 (⟨zam⟩:list)=true)) &&
 (cond (s67 (⟨zam⟩ : list))
 (zmr low high zam zas zan zat true)
 (decide ((p67 (⟨zan⟩:list)=true)) &&
 (zmr low high zam zas zan zat (s67 (⟨zan⟩:list))))))
theorem zEC (hs:zpH low high zam zas zan zat=true) (hk:K (e19 (zpG low high zam zas zan zat))):z19 K [1,0,1,1,1,1] [] ⟨[(2,zI low),(3,zI high),(9,zp 9 0),(10,zp 10 0),(12,zp 12 0),(13,zp 13 0),(14,zp 14 0)],[(9,.box 25 (zm (zad (⟨(0:Int),(0:Int)⟩:Frac)))),(10,.box 25 (zm (zad (⟨(0:Int),(0:Int)⟩:Frac)))),(12,.box 25 (zm (zad (⟨(0:Int),(0:Int)⟩:Frac)))),(13,.box 104 (zm (zaZ (⟨(⟨zam⟩:list),zas⟩:set)))),(14,.box 104 (zm (zaZ (⟨(⟨zan⟩:list),zat⟩:set))))],[]⟩:=zaw (by kernel_rfl) (zau hs fun hc hs=>And.intro (And.intro (zE enc_55 3 zam.get) hc) (zc hs hk (fun hs hk=>(zv7 hs hk)) (fun hs hk=>(zau hs fun hc hs=>And.intro (And.intro (zE enc_55 3 zan.get) hc) (zv7 hs hk)))))
def zms (low:Int) (high:Int) (zam:(Sl Gate)) (zas:(Sl straight)) (zan:(Sl Gate)) (zat:(Sl straight)) (zpB:Bool):(Int×Frac×Frac×Int) :=
  (cond zpB
 ((0:Int),(⟨(0:Int),(0:Int)⟩:Frac),(⟨(0:Int),(0:Int)⟩:Frac),(5:Int))
 (zpG low high zam zas zan zat))
def zmt (low:Int) (high:Int) (zam:(Sl Gate)) (zas:(Sl straight)) (zan:(Sl Gate)) (zat:(Sl straight)) (zpB:Bool):Bool :=
  (cond zpB
 true
 (zpH low high zam zas zan zat))
theorem zv8 (hs:zmt low high zam zas zan zat zpB=true) (hk:K (e19 (zms low high zam zas zan zat zpB))):z19 K [1,0,1,1,1,0,1] [] ⟨[(2,zI low),(3,zI high),(9,zp 9 0),(10,zp 10 0),(12,zp 12 0),(13,zp 13 0),(14,zp 14 0),(58,zB zpB)],[(9,.box 25 (zm (zad (⟨(0:Int),(0:Int)⟩:Frac)))),(10,.box 25 (zm (zad (⟨(0:Int),(0:Int)⟩:Frac)))),(12,.box 25 (zm (zad (⟨(0:Int),(0:Int)⟩:Frac)))),(13,.box 104 (zm (zaZ (⟨(⟨zam⟩:list),zas⟩:set)))),(14,.box 104 (zm (zaZ (⟨(⟨zan⟩:list),zat⟩:set))))],[]⟩:=zaw (by kernel_rfl) (zc hs hk (fun hs hk=>hk) (fun hs hk=>(zEC hs hk)))
def zpI (low:Int) (high:Int) (zam:(Sl Gate)) (zas:(Sl straight)) (zan:(Sl Gate)) (zat:(Sl straight)):(Int×Frac×Frac×Int) :=
  (cond (!(s66 (⟨(⟨zam⟩ : list), zas⟩ : set)))
 (zms low high zam zas zan zat true)
 (zms low high zam zas zan zat (!(s66 (⟨(⟨zan⟩:list),zat⟩:set)))))
def zpJ (low:Int) (high:Int) (zam:(Sl Gate)) (zas:(Sl straight)) (zan:(Sl Gate)) (zat:(Sl straight)):Bool :=
  (decide ((p66 (⟨(⟨zam⟩:list),zas⟩:set)=true)) &&
 (cond (!(s66 (⟨(⟨zam⟩ : list), zas⟩ : set)))
 (zmt low high zam zas zan zat true)
 (decide ((p66 (⟨(⟨zan⟩:list),zat⟩:set)=true)) &&
 (zmt low high zam zas zan zat (!(s66 (⟨(⟨zan⟩:list),zat⟩:set)))))))
theorem zED (hs:zpJ low high zam zas zan zat=true) (hk:K (e19 (zpI low high zam zas zan zat))) (zEE:zvR=zg enc_55 zam) (zEF:zvS=zg zah zas) (zEG:zvT=zg enc_55 zan) (zEH:zvU=zg zah zat):z19 K [1,0,1,1,1] [] ⟨[(2,zI low),(3,zI high),(9,zp 9 0),(10,zp 10 0),(12,zp 12 0),(13,zp 13 0),(14,zp 14 0)],[(9,.box 25 (zm (zad (⟨(0:Int),(0:Int)⟩:Frac)))),(10,.box 25 (zm (zad (⟨(0:Int),(0:Int)⟩:Frac)))),(12,.box 25 (zm (zad (⟨(0:Int),(0:Int)⟩:Frac)))),(13,.box 104 [.p (.sl zam.len 3 zvR),.p (.sl zas.len 3 zvS)]),(14,.box 104 [.p (.sl zan.len 3 zvT),.p (.sl zat.len 3 zvU)])],[]⟩:=by subst zEE;subst zEF;subst zEG;subst zEH;exact zaw (by kernel_rfl) (zau hs fun hc hs=>And.intro (And.intro (zE enc_55 3 zam.get) (And.intro (zE zah 3 zas.get) hc)) (zc hs hk (fun hs hk=>(zv8 hs hk)) (fun hs hk=>(zau hs fun hc hs=>And.intro (And.intro (zE enc_55 3 zan.get) (And.intro (zE zah 3 zat.get) hc)) (zv8 hs hk)))))
def zpK (a:(Sl Gate)) (b:(Sl Gate)) (low:Int) (high:Int):(Int×Frac×Frac×Int) :=
  (zpI low high ((s65 a).list.Gates) ((s65 a).corners) ((s65 b).list.Gates) ((s65 b).corners))
def zpL (a:(Sl Gate)) (b:(Sl Gate)) (low:Int) (high:Int):Bool :=
  (decide ((p65 a=true)) &&
 (decide ((p65 b=true)) &&
 (zpJ low high ((s65 a).list.Gates) ((s65 a).corners) ((s65 b).list.Gates) ((s65 b).corners))))
theorem zEI (hs:zpL a b low high=true) (hk:K (e19 (zpK a b low high))):z19 K [1,0,1,1] [] ⟨[(0,zS enc_55 3 a),(1,zS enc_55 3 b),(2,zI low),(3,zI high),(9,zp 9 0),(10,zp 10 0),(12,zp 12 0)],[(9,.box 25 (zm (zad (⟨(0:Int),(0:Int)⟩:Frac)))),(10,.box 25 (zm (zad (⟨(0:Int),(0:Int)⟩:Frac)))),(12,.box 25 (zm (zad (⟨(0:Int),(0:Int)⟩:Frac))))],[]⟩:=zaw (by kernel_rfl) (zau hs fun hc hs=>And.intro (And.intro (zE enc_55 3 a.get) hc) (zau hs fun hc hs=>And.intro (And.intro (zE enc_55 3 b.get) hc) (zED hs hk rfl rfl rfl rfl)))
def zgm (a:(Sl Gate)) (b:(Sl Gate)) (low:Int) (high:Int) (zpA:Bool):(Int×Frac×Frac×Int) :=
  (cond zpA
 ((0:Int),(⟨(0:Int),(0:Int)⟩:Frac),(⟨(0:Int),(0:Int)⟩:Frac),(2:Int))
 (zpK a b low high))
def zgn (a:(Sl Gate)) (b:(Sl Gate)) (low:Int) (high:Int) (zpA:Bool):Bool :=
  (cond zpA
 true
 (zpL a b low high))
theorem zj7 (hs:zgn a b low high zpA=true) (hk:K (e19 (zgm a b low high zpA))):z19 K [1,0,1,0,1] [] ⟨[(0,zS enc_55 3 a),(1,zS enc_55 3 b),(2,zI low),(3,zI high),(9,zp 9 0),(10,zp 10 0),(12,zp 12 0),(44,zB zpA)],[(9,.box 25 (zm (zad (⟨(0:Int),(0:Int)⟩:Frac)))),(10,.box 25 (zm (zad (⟨(0:Int),(0:Int)⟩:Frac)))),(12,.box 25 (zm (zad (⟨(0:Int),(0:Int)⟩:Frac))))],[]⟩:=zaw (by kernel_rfl) (zc hs hk (fun hs hk=>hk) (fun hs hk=>(zEI hs hk)))
def s19 (a:(Sl Gate)) (b:(Sl Gate)) (low:Int) (high:Int):(Int×Frac×Frac×Int) :=
  (cond (decide (low < (-100000:Int)))
 (zgm a b low high true)
 (cond (decide (low > high))
 (zgm a b low high true)
 (cond (decide (high > (200000:Int)))
 (zgm a b low high true)
 (cond (!(s64 a))
 (zgm a b low high true)
 (zgm a b low high (!(s64 b)))))))
def p19 (a:(Sl Gate)) (b:(Sl Gate)) (low:Int) (high:Int):Bool :=
  (cond (decide (low < (-100000:Int)))
 (zgn a b low high true)
 (cond (decide (low > high))
 (zgn a b low high true)
 (cond (decide (high > (200000:Int)))
 (zgn a b low high true)
 (decide ((p64 a=true)) &&
 (cond (!(s64 a))
 (zgn a b low high true)
 (decide ((p64 b=true)) &&
 (zgn a b low high (!(s64 b)))))))))
end
theorem q19 (a:(Sl Gate)) (b:(Sl Gate)) (low:Int) (high:Int) (K:List PA→Prop) (hs:p19 a b low high=true) (hk:K (e19 (s19 a b low high))):vcFun Try.prog G19 zEx 19 [.one (.sl a.len 3 (fun i=>enc_55 (a.get i))),.one (.sl b.len 3 (fun i=>enc_55 (b.get i))),.one (.int .i64 low),.one (.int .i64 high)] K :=
  zaw (by kernel_rfl) (zc hs hk (fun hs hk=>(zj7 hs hk)) (fun hs hk=>(zc hs hk (fun hs hk=>(zj7 hs hk)) (fun hs hk=>(zc hs hk (fun hs hk=>(zj7 hs hk)) (fun hs hk=>(zau hs fun hc hs=>And.intro (And.intro (zE enc_55 3 a.get) hc) (zc hs hk (fun hs hk=>(zj7 hs hk)) (fun hs hk=>(zau hs fun hc hs=>And.intro (And.intro (zE enc_55 3 b.get) hc) (zj7 hs hk)))))))))))
def zBk : List PA → COut
  | [.one (.sl a0_n a0_s a0_g),.one (.sl a1_n a1_s a1_g),.one (.int .i64 a2),.one (.int .i64 a3)]=>.det (IsE enc_55 3 a0_s a0_g∧IsE enc_55 3 a1_s a1_g∧p19 (⟨a0_n,zae a0_g⟩:(Sl Gate)) (⟨a1_n,zae a1_g⟩:(Sl Gate)) a2 a3=true) [.one (.int .i64 ((s19 (⟨a0_n,zae a0_g⟩:(Sl Gate)) (⟨a1_n,zae a1_g⟩:(Sl Gate)) a2 a3).1)),.agg [.int .i64 (((s19 (⟨a0_n,zae a0_g⟩:(Sl Gate)) (⟨a1_n,zae a1_g⟩:(Sl Gate)) a2 a3).2.1).Num),.int .i64 (((s19 (⟨a0_n,zae a0_g⟩:(Sl Gate)) (⟨a1_n,zae a1_g⟩:(Sl Gate)) a2 a3).2.1).Den)],.agg [.int .i64 (((s19 (⟨a0_n,zae a0_g⟩:(Sl Gate)) (⟨a1_n,zae a1_g⟩:(Sl Gate)) a2 a3).2.2.1).Num),.int .i64 (((s19 (⟨a0_n,zae a0_g⟩:(Sl Gate)) (⟨a1_n,zae a1_g⟩:(Sl Gate)) a2 a3).2.2.1).Den)],.one (.int .i64 ((s19 (⟨a0_n,zae a0_g⟩:(Sl Gate)) (⟨a1_n,zae a1_g⟩:(Sl Gate)) a2 a3).2.2.2))]
  | _=>.no
theorem zJf:zaf Try.prog 19:=⟨_,rfl,rfl,by kernel_rfl⟩
theorem zNL:Ok Try.prog 19 zBk:=zay zMe zJf fun args K h=>by
  unfold zBk at h
  split at h
  · rename_i a0_n a0_s a0_g a1_n a1_s a1_g a2 a3
    obtain ⟨⟨⟨rfl,a0_f,rfl⟩,⟨rfl,a1_f,rfl⟩,hs⟩,hk⟩:=h
    try rw [zac a0_f] at hs
    try rw [zac a0_f] at hk
    try rw [zac a1_f] at hs
    try rw [zac a1_f] at hk
    exact ⟨(fun _ _=>[]),(fun _=>false),zEx,q19 (⟨a0_n,a0_f⟩:(Sl Gate)) (⟨a1_n,a1_f⟩:(Sl Gate)) a2 a3 K hs hk⟩
  · exact h.elim
abbrev T76:Tabs:=Tabs.nil
theorem zMf:TabsOk Try.prog T76:=TabsOk.nil
abbrev G76:Ctrs:=csm T76 (fun _ _=>[]) (fun _=>false)
def zJg:Ann:=⟨11,[(0,zK [1,2] [2]),(1,zK [3] [])],
 [],
 [],
 [],[]⟩
abbrev R76:=Bool
abbrev e76 (r:R76):List PA:=[.one (.bool r)]
section
variable {K:List PA→Prop} {c0:Int} {l_a0:list}
def s76 (c0:Int) (l_a0:list):Bool :=
  ((l_a0.Gates.get 0).Z == c0)
def p76 (c0:Int) (l_a0:list):Bool :=
  (decide ((0≤(0:Int)∧(0:Int) < (l_a0.Gates.len:Int))) &&
 true)
end
theorem q76 (c0:Int) (l_a0:list) (K:List PA→Prop) (hs:p76 c0 l_a0=true) (hk:K (e76 (s76 c0 l_a0))):vcFun Try.prog G76 zJg 76 [.agg (zb2 l_a0),.one (.fp (zal c0) 0)] K :=
  zaw (by kernel_rfl) (zau hs fun hc hs=>And.intro hc hk)
def zEJ : List PA → COut
  | [.agg [.sl a0_Gates_n a0_Gates_s a0_Gates_g],.one (.fp [.int .i64 c0] 0)]=>.det (IsE enc_55 3 a0_Gates_s a0_Gates_g∧p76 c0 (⟨(⟨a0_Gates_n,zae a0_Gates_g⟩:(Sl Gate))⟩:list)=true) [.one (.bool (s76 c0 (⟨(⟨a0_Gates_n,zae a0_Gates_g⟩:(Sl Gate))⟩:list)))]
  | _=>.no
theorem zJh:zaf Try.prog 76:=⟨_,rfl,rfl,by kernel_rfl⟩
theorem zPg:Ok Try.prog 76 zEJ:=zay zMf zJh fun args K h=>by
  unfold zEJ at h
  split at h
  · rename_i a0_Gates_n a0_Gates_s a0_Gates_g c0
    obtain ⟨⟨⟨rfl,a0_Gates_f,rfl⟩,hs⟩,hk⟩:=h
    try rw [zac a0_Gates_f] at hs
    try rw [zac a0_Gates_f] at hk
    exact ⟨(fun _ _=>[]),(fun _=>false),zJg,q76 c0 (⟨(⟨a0_Gates_n,a0_Gates_f⟩:(Sl Gate))⟩:list) K hs hk⟩
  · exact h.elim
abbrev T77:Tabs:=Tabs.nil
theorem zMg:TabsOk Try.prog T77:=TabsOk.nil
abbrev G77:Ctrs:=csm T77 (fun _ _=>[]) (fun _=>false)
def zJi:Ann:=⟨3,[(0,zK [] []),(1,zK [2] [])],
 [],
 [],
 [],[]⟩
abbrev R77:=Bool
abbrev e77 (r:R77):List PA:=[.one (.bool r)]
section
variable {K:List PA→Prop} {a0_a0:list}
def s77 (a0_a0:list):Bool :=
  false
end
theorem q77 (a0_a0:list) (K:List PA→Prop) (hk:K (e77 (s77 a0_a0))):vcFun Try.prog G77 zJi 77 [.agg (zb2 a0_a0)] K :=
  zaw (by kernel_rfl) hk
def zEK : List PA → COut
  | [.agg [.sl a0_Gates_n a0_Gates_s a0_Gates_g]]=>.det (IsE enc_55 3 a0_Gates_s a0_Gates_g) [.one (.bool (s77 (⟨(⟨a0_Gates_n,zae a0_Gates_g⟩:(Sl Gate))⟩:list)))]
  | _=>.no
theorem zJj:zaf Try.prog 77:=⟨_,rfl,rfl,by kernel_rfl⟩
theorem zPh:Ok Try.prog 77 zEK:=zay zMg zJj fun args K h=>by
  unfold zEK at h
  split at h
  · rename_i a0_Gates_n a0_Gates_s a0_Gates_g
    obtain ⟨⟨rfl,a0_Gates_f,rfl⟩,hk⟩:=h
    try rw [zac a0_Gates_f] at hk
    exact ⟨(fun _ _=>[]),(fun _=>false),zJi,q77 (⟨(⟨a0_Gates_n,a0_Gates_f⟩:(Sl Gate))⟩:list) K hk⟩
  · exact h.elim
abbrev T88:Tabs:=Tabs.nil
theorem zMh:TabsOk Try.prog T88:=TabsOk.nil
abbrev G88:Ctrs:=csm T88 (fun _ _=>[]) (fun _=>false)
def zJk:Ann:=⟨3,[(0,zK [] []),(1,zK [2] [])],
 [],
 [],
 [],[]⟩
abbrev R88:=Bool
abbrev e88 (r:R88):List PA:=[.one (.bool r)]
section
variable {K:List PA→Prop} {a0_a0:list}
def s88 (a0_a0:list):Bool :=
  true
end
theorem q88 (a0_a0:list) (K:List PA→Prop) (hk:K (e88 (s88 a0_a0))):vcFun Try.prog G88 zJk 88 [.agg (zb2 a0_a0)] K :=
  zaw (by kernel_rfl) hk
def zEL : List PA → COut
  | [.agg [.sl a0_Gates_n a0_Gates_s a0_Gates_g]]=>.det (IsE enc_55 3 a0_Gates_s a0_Gates_g) [.one (.bool (s88 (⟨(⟨a0_Gates_n,zae a0_Gates_g⟩:(Sl Gate))⟩:list)))]
  | _=>.no
theorem zJl:zaf Try.prog 88:=⟨_,rfl,rfl,by kernel_rfl⟩
theorem zPi:Ok Try.prog 88 zEL:=zay zMh zJl fun args K h=>by
  unfold zEL at h
  split at h
  · rename_i a0_Gates_n a0_Gates_s a0_Gates_g
    obtain ⟨⟨rfl,a0_Gates_f,rfl⟩,hk⟩:=h
    try rw [zac a0_Gates_f] at hk
    exact ⟨(fun _ _=>[]),(fun _=>false),zJk,q88 (⟨(⟨a0_Gates_n,a0_Gates_f⟩:(Sl Gate))⟩:list) K hk⟩
  · exact h.elim
abbrev T75:Tabs:=(((((((Tabs.nil.addF 64 ztz).addF 65 zvv).addF 66 zvy).addF 67 zn2).addF 76 zEJ).addF 77 zEK).addF 88 zEL)
theorem zMi:TabsOk Try.prog T75:=(((((((TabsOk.nil.addF zK2).addF zLW).addF zLZ).addF zIG).addF zPg).addF zPh).addF zPi)
abbrev G75:Ctrs:=csm T75 (fun _ _=>[]) (fun _=>false)
def zEM:Ann:=⟨31,[(0,zK [0,1,4] [4]),(1,zK [0,1,4,9] [4]),(2,zK [4,5] [4]),(3,zK [1,4,6] [4,6]),(4,zK [1,4,6,13] [4,6]),(5,zK [4,5] [4]),(6,zK [4,6,18] [4,6]),(7,zK [4,5] [4]),(8,zK [4,5] [4])],
 [],
 [(3,zK [0,1,4] [4])],
 [],[]⟩
abbrev R75:=(set×Int)
abbrev e75 (r:R75):List PA:=[.agg [.sl r.1.list.Gates.len 3 (fun i=>enc_55 (r.1.list.Gates.get i)),.sl r.1.corners.len 3 (fun i=>zah (r.1.corners.get i))],.one (.int .i64 r.2)]
@[irreducible] def z75:=ptF Try.prog G75 zEM Try.f75
section
variable {K:List PA→Prop} {zaa:(Sl Gate)}
def zv9 (zaa:(Sl Gate)):(set×Int) :=
  (cond (!(s66 (s65 zaa)))
 ((⟨(⟨(⟨0,fun _=>default⟩:(Sl Gate))⟩:list),(⟨0,fun _=>default⟩:(Sl straight))⟩:set),(5:Int))
 (cond (s67 ((s65 zaa).list))
 (cond (!(s77 ((s65 zaa).list)))
 ((⟨(⟨(⟨0,fun _=>default⟩:(Sl Gate))⟩:list),(⟨0,fun _=>default⟩:(Sl straight))⟩:set),(6:Int))
 ((s65 zaa),(0:Int)))
 ((s65 zaa),(0:Int))))
def zwa (zaa:(Sl Gate)):Bool :=
  (decide ((p65 zaa=true)) &&
 (decide ((p66 (s65 zaa)=true)) &&
 (cond (!(s66 (s65 zaa)))
 true
 (decide ((p67 ((s65 zaa).list)=true)) &&
 true))))
theorem zEN (hs:zwa zaa=true) (hk:K (e75 (zv9 zaa))):z75 (Wk K) [1,1] [] ⟨[(0,zS enc_55 3 zaa),(1,zP (.fn 77 [] [])),(4,zp 4 0)],[(4,.box 104 [.p (.nils),.p (.nils)])],[]⟩:=zaw (by kernel_rfl) (zau hs fun hc hs=>And.intro (And.intro (zE enc_55 3 zaa.get) hc) (zau hs fun hc hs=>And.intro (And.intro (zE enc_55 3 ((s65 zaa).list.Gates.get)) (And.intro (zE zah 3 ((s65 zaa).corners.get)) hc)) (zc hs hk (fun hs hk=>((wk hk (zc9 (.agg (zc9 (.nil _ _) (zc9 (.nil _ _) zhl))) (zc9 (.one (.rfl _)) zhl))):Wk K [.agg [.nils,.nils],.one (.int .i64 (5:Int))])) (fun hs hk=>(zau hs fun hc hs=>And.intro (And.intro (zE enc_55 3 ((s65 zaa).list.Gates.get)) hc) (zt hk (fun hk=>(And.intro (zE enc_55 3 ((s65 zaa).list.Gates.get)) (zt hk (fun hk=>((wk hk (zc9 (.agg (zc9 (.nil _ _) (zc9 (.nil _ _) zhl))) (zc9 (.one (.rfl _)) zhl))):Wk K [.agg [.nils,.nils],.one (.int .i64 (6:Int))])) (fun hk=>((zd8 hk):Wk K [.agg [.sl ((s65 zaa).list.Gates.len) 3 (fun i=>enc_55 ((s65 zaa).list.Gates.get i)),.sl ((s65 zaa).corners.len) 3 (fun i=>zah ((s65 zaa).corners.get i))],.one (.int .i64 (0:Int))]))))) (fun hk=>((zd8 hk):Wk K [.agg [.sl ((s65 zaa).list.Gates.len) 3 (fun i=>enc_55 ((s65 zaa).list.Gates.get i)),.sl ((s65 zaa).corners.len) 3 (fun i=>zah ((s65 zaa).corners.get i))],.one (.int .i64 (0:Int))]))))))))
def s75 (zaa:(Sl Gate)):(set×Int) :=
  (cond (!(s64 zaa))
 ((⟨(⟨(⟨0,fun _=>default⟩:(Sl Gate))⟩:list),(⟨0,fun _=>default⟩:(Sl straight))⟩:set),(2:Int))
 (zv9 zaa))
def p75 (zaa:(Sl Gate)):Bool :=
  (decide ((p64 zaa=true)) &&
 (cond (!(s64 zaa))
 true
 (zwa zaa)))
end
theorem q75 (zaa:(Sl Gate)) (K:List PA→Prop) (hs:p75 zaa=true) (hk:K (e75 (s75 zaa))):vcFun Try.prog G75 zEM 75 [.one (.sl zaa.len 3 (fun i=>enc_55 (zaa.get i))),.one (.fn 77 [] [])] (Wk K) :=
  zaw (by kernel_rfl) (zau hs fun hc hs=>And.intro (And.intro (zE enc_55 3 zaa.get) hc) (zc hs hk (fun hs hk=>((wk hk (zc9 (.agg (zc9 (.nil _ _) (zc9 (.nil _ _) zhl))) (zc9 (.one (.rfl _)) zhl))):Wk K [.agg [.nils,.nils],.one (.int .i64 (2:Int))])) (fun hs hk=>(zEN hs hk))))
abbrev zNM:Ctrs:=csm T75 (fun _ _=>[]) (fun _=>false)
def zwb:Ann:=⟨31,[(0,zK [0,1,4] [4]),(1,zK [0,1,4,9] [4]),(2,zK [4,5] [4]),(3,zK [1,4,6] [4,6]),(4,zK [1,4,6,13] [4,6]),(5,zK [4,5] [4]),(6,zK [4,6,18] [4,6]),(7,zK [4,5] [4]),(8,zK [4,5] [4])],
 [],
 [(3,zK [0,1,4] [4])],
 [],[]⟩
abbrev zPj:=(set×Int)
abbrev zNN (r:zPj):List PA:=[.agg [.sl r.1.list.Gates.len 3 (fun i=>enc_55 (r.1.list.Gates.get i)),.sl r.1.corners.len 3 (fun i=>zah (r.1.corners.get i))],.one (.int .i64 r.2)]
@[irreducible] def z75a:=ptF Try.prog zNM zwb Try.f75
section
variable {K:List PA→Prop} {c0:Int} {zaa:(Sl Gate)}
def zsr (c0:Int) (zaa:(Sl Gate)):(set×Int) :=
  (cond (!(s66 (s65 zaa)))
 ((⟨(⟨(⟨0,fun _=>default⟩:(Sl Gate))⟩:list),(⟨0,fun _=>default⟩:(Sl straight))⟩:set),(5:Int))
 (cond (s67 ((s65 zaa).list))
 (cond (!(s76 c0 ((s65 zaa).list)))
 ((⟨(⟨(⟨0,fun _=>default⟩:(Sl Gate))⟩:list),(⟨0,fun _=>default⟩:(Sl straight))⟩:set),(6:Int))
 ((s65 zaa),(0:Int)))
 ((s65 zaa),(0:Int))))
def zss (c0:Int) (zaa:(Sl Gate)):Bool :=
  (decide ((p65 zaa=true)) &&
 (decide ((p66 (s65 zaa)=true)) &&
 (cond (!(s66 (s65 zaa)))
 true
 (decide ((p67 ((s65 zaa).list)=true)) &&
 (cond (s67 ((s65 zaa).list))
 (decide ((p76 c0 ((s65 zaa).list)=true)) &&
 true)
 true)))))
theorem zBl (hs:zss c0 zaa=true) (hk:K (zNN (zsr c0 zaa))):z75a (Wk K) [1,1] [] ⟨[(0,zS enc_55 3 zaa),(1,zP (.fn 76 [] [.fp (zal c0) 0])),(4,zp 4 0)],[(4,.box 104 [.p (.nils),.p (.nils)])],[]⟩:=zaw (by kernel_rfl) (zau hs fun hc hs=>And.intro (And.intro (zE enc_55 3 zaa.get) hc) (zau hs fun hc hs=>And.intro (And.intro (zE enc_55 3 ((s65 zaa).list.Gates.get)) (And.intro (zE zah 3 ((s65 zaa).corners.get)) hc)) (zc hs hk (fun hs hk=>((wk hk (zc9 (.agg (zc9 (.nil _ _) (zc9 (.nil _ _) zhl))) (zc9 (.one (.rfl _)) zhl))):Wk K [.agg [.nils,.nils],.one (.int .i64 (5:Int))])) (fun hs hk=>(zau hs fun hc hs=>And.intro (And.intro (zE enc_55 3 ((s65 zaa).list.Gates.get)) hc) (zc hs hk (fun hs hk=>(zau hs fun hc hs=>And.intro (And.intro (zE enc_55 3 ((s65 zaa).list.Gates.get)) hc) (zt hk (fun hk=>((wk hk (zc9 (.agg (zc9 (.nil _ _) (zc9 (.nil _ _) zhl))) (zc9 (.one (.rfl _)) zhl))):Wk K [.agg [.nils,.nils],.one (.int .i64 (6:Int))])) (fun hk=>((zd8 hk):Wk K [.agg [.sl ((s65 zaa).list.Gates.len) 3 (fun i=>enc_55 ((s65 zaa).list.Gates.get i)),.sl ((s65 zaa).corners.len) 3 (fun i=>zah ((s65 zaa).corners.get i))],.one (.int .i64 (0:Int))]))))) (fun hs hk=>((zd8 hk):Wk K [.agg [.sl ((s65 zaa).list.Gates.len) 3 (fun i=>enc_55 ((s65 zaa).list.Gates.get i)),.sl ((s65 zaa).corners.len) 3 (fun i=>zah ((s65 zaa).corners.get i))],.one (.int .i64 (0:Int))]))))))))
def ztQ (c0:Int) (zaa:(Sl Gate)):(set×Int) :=
  (cond (!(s64 zaa))
 ((⟨(⟨(⟨0,fun _=>default⟩:(Sl Gate))⟩:list),(⟨0,fun _=>default⟩:(Sl straight))⟩:set),(2:Int))
 (zsr c0 zaa))
def zMj (c0:Int) (zaa:(Sl Gate)):Bool :=
  (decide ((p64 zaa=true)) &&
 (cond (!(s64 zaa))
 true
 (zss c0 zaa)))
end
theorem zPk (c0:Int) (zaa:(Sl Gate)) (K:List PA→Prop) (hs:zMj c0 zaa=true) (hk:K (zNN (ztQ c0 zaa))):vcFun Try.prog zNM zwb 75 [.one (.sl zaa.len 3 (fun i=>enc_55 (zaa.get i))),.one (.fn 76 [] [.fp (zal c0) 0])] (Wk K) :=
  zaw (by kernel_rfl) (zau hs fun hc hs=>And.intro (And.intro (zE enc_55 3 zaa.get) hc) (zc hs hk (fun hs hk=>((wk hk (zc9 (.agg (zc9 (.nil _ _) (zc9 (.nil _ _) zhl))) (zc9 (.one (.rfl _)) zhl))):Wk K [.agg [.nils,.nils],.one (.int .i64 (2:Int))])) (fun hs hk=>(zBl hs hk))))
abbrev zNO:Ctrs:=csm T75 (fun _ _=>[]) (fun _=>false)
def zwc:Ann:=⟨31,[(0,zK [0,1,4] [4]),(1,zK [0,1,4,9] [4]),(2,zK [4,5] [4]),(3,zK [1,4,6] [4,6]),(4,zK [1,4,6,13] [4,6]),(5,zK [4,5] [4]),(6,zK [4,6,18] [4,6]),(7,zK [4,5] [4]),(8,zK [4,5] [4])],
 [],
 [(3,zK [0,1,4] [4])],
 [],[]⟩
abbrev zPl:=(set×Int)
abbrev zNP (r:zPl):List PA:=[.agg [.sl r.1.list.Gates.len 3 (fun i=>enc_55 (r.1.list.Gates.get i)),.sl r.1.corners.len 3 (fun i=>zah (r.1.corners.get i))],.one (.int .i64 r.2)]
@[irreducible] def z75b:=ptF Try.prog zNO zwc Try.f75
section
variable {K:List PA→Prop} {zaa:(Sl Gate)}
def zst (zaa:(Sl Gate)):(set×Int) :=
  (cond (!(s66 (s65 zaa)))
 ((⟨(⟨(⟨0,fun _=>default⟩:(Sl Gate))⟩:list),(⟨0,fun _=>default⟩:(Sl straight))⟩:set),(5:Int))
 (cond (s67 ((s65 zaa).list))
 (cond (!(s88 ((s65 zaa).list)))
 ((⟨(⟨(⟨0,fun _=>default⟩:(Sl Gate))⟩:list),(⟨0,fun _=>default⟩:(Sl straight))⟩:set),(6:Int))
 ((s65 zaa),(0:Int)))
 ((s65 zaa),(0:Int))))
def zsu (zaa:(Sl Gate)):Bool :=
  (decide ((p65 zaa=true)) &&
 (decide ((p66 (s65 zaa)=true)) &&
 (cond (!(s66 (s65 zaa)))
 true
 (decide ((p67 ((s65 zaa).list)=true)) &&
 true))))
theorem zBm (hs:zsu zaa=true) (hk:K (zNP (zst zaa))):z75b (Wk K) [1,1] [] ⟨[(0,zS enc_55 3 zaa),(1,zP (.fn 88 [] [])),(4,zp 4 0)],[(4,.box 104 [.p (.nils),.p (.nils)])],[]⟩:=zaw (by kernel_rfl) (zau hs fun hc hs=>And.intro (And.intro (zE enc_55 3 zaa.get) hc) (zau hs fun hc hs=>And.intro (And.intro (zE enc_55 3 ((s65 zaa).list.Gates.get)) (And.intro (zE zah 3 ((s65 zaa).corners.get)) hc)) (zc hs hk (fun hs hk=>((wk hk (zc9 (.agg (zc9 (.nil _ _) (zc9 (.nil _ _) zhl))) (zc9 (.one (.rfl _)) zhl))):Wk K [.agg [.nils,.nils],.one (.int .i64 (5:Int))])) (fun hs hk=>(zau hs fun hc hs=>And.intro (And.intro (zE enc_55 3 ((s65 zaa).list.Gates.get)) hc) (zt hk (fun hk=>(And.intro (zE enc_55 3 ((s65 zaa).list.Gates.get)) (zt hk (fun hk=>((wk hk (zc9 (.agg (zc9 (.nil _ _) (zc9 (.nil _ _) zhl))) (zc9 (.one (.rfl _)) zhl))):Wk K [.agg [.nils,.nils],.one (.int .i64 (6:Int))])) (fun hk=>((zd8 hk):Wk K [.agg [.sl ((s65 zaa).list.Gates.len) 3 (fun i=>enc_55 ((s65 zaa).list.Gates.get i)),.sl ((s65 zaa).corners.len) 3 (fun i=>zah ((s65 zaa).corners.get i))],.one (.int .i64 (0:Int))]))))) (fun hk=>((zd8 hk):Wk K [.agg [.sl ((s65 zaa).list.Gates.len) 3 (fun i=>enc_55 ((s65 zaa).list.Gates.get i)),.sl ((s65 zaa).corners.len) 3 (fun i=>zah ((s65 zaa).corners.get i))],.one (.int .i64 (0:Int))]))))))))
def zHH (zaa:(Sl Gate)):(set×Int) :=
  (cond (!(s64 zaa))
 ((⟨(⟨(⟨0,fun _=>default⟩:(Sl Gate))⟩:list),(⟨0,fun _=>default⟩:(Sl straight))⟩:set),(2:Int))
 (zst zaa))
def zNQ (zaa:(Sl Gate)):Bool :=
  (decide ((p64 zaa=true)) &&
 (cond (!(s64 zaa))
 true
 (zsu zaa)))
end
theorem zPm (zaa:(Sl Gate)) (K:List PA→Prop) (hs:zNQ zaa=true) (hk:K (zNP (zHH zaa))):vcFun Try.prog zNO zwc 75 [.one (.sl zaa.len 3 (fun i=>enc_55 (zaa.get i))),.one (.fn 88 [] [])] (Wk K) :=
  zaw (by kernel_rfl) (zau hs fun hc hs=>And.intro (And.intro (zE enc_55 3 zaa.get) hc) (zc hs hk (fun hs hk=>((wk hk (zc9 (.agg (zc9 (.nil _ _) (zc9 (.nil _ _) zhl))) (zc9 (.one (.rfl _)) zhl))):Wk K [.agg [.nils,.nils],.one (.int .i64 (2:Int))])) (fun hs hk=>(zBm hs hk))))
def ztD : List PA → COut
  | [.one (.sl a0_n a0_s a0_g),.one (.fn 77 [] [])]=>.det (IsE enc_55 3 a0_s a0_g∧p75 (⟨a0_n,zae a0_g⟩:(Sl Gate))=true) [.agg [.sl (((s75 (⟨a0_n,zae a0_g⟩:(Sl Gate))).1).list.Gates.len) 3 (fun i=>enc_55 (((s75 (⟨a0_n,zae a0_g⟩:(Sl Gate))).1).list.Gates.get i)),.sl (((s75 (⟨a0_n,zae a0_g⟩:(Sl Gate))).1).corners.len) 3 (fun i=>zah (((s75 (⟨a0_n,zae a0_g⟩:(Sl Gate))).1).corners.get i))],.one (.int .i64 ((s75 (⟨a0_n,zae a0_g⟩:(Sl Gate))).2))]
  | [.one (.sl a0_n a0_s a0_g),.one (.fn 76 [] [.fp [.int .i64 c0] 0])]=>.det (IsE enc_55 3 a0_s a0_g∧zMj c0 (⟨a0_n,zae a0_g⟩:(Sl Gate))=true) [.agg [.sl (((ztQ c0 (⟨a0_n,zae a0_g⟩:(Sl Gate))).1).list.Gates.len) 3 (fun i=>enc_55 (((ztQ c0 (⟨a0_n,zae a0_g⟩:(Sl Gate))).1).list.Gates.get i)),.sl (((ztQ c0 (⟨a0_n,zae a0_g⟩:(Sl Gate))).1).corners.len) 3 (fun i=>zah (((ztQ c0 (⟨a0_n,zae a0_g⟩:(Sl Gate))).1).corners.get i))],.one (.int .i64 ((ztQ c0 (⟨a0_n,zae a0_g⟩:(Sl Gate))).2))]
  | [.one (.sl a0_n a0_s a0_g),.one (.fn 88 [] [])]=>.det (IsE enc_55 3 a0_s a0_g∧zNQ (⟨a0_n,zae a0_g⟩:(Sl Gate))=true) [.agg [.sl (((zHH (⟨a0_n,zae a0_g⟩:(Sl Gate))).1).list.Gates.len) 3 (fun i=>enc_55 (((zHH (⟨a0_n,zae a0_g⟩:(Sl Gate))).1).list.Gates.get i)),.sl (((zHH (⟨a0_n,zae a0_g⟩:(Sl Gate))).1).corners.len) 3 (fun i=>zah (((zHH (⟨a0_n,zae a0_g⟩:(Sl Gate))).1).corners.get i))],.one (.int .i64 ((zHH (⟨a0_n,zae a0_g⟩:(Sl Gate))).2))]
  | _=>.no
theorem zJm:zaf Try.prog 75:=⟨_,rfl,rfl,by kernel_rfl⟩
theorem zNR:Ok Try.prog 75 ztD:=zhm zMi zJm fun args K h=>by
  unfold ztD at h
  split at h
  · rename_i a0_n a0_s a0_g
    obtain ⟨⟨⟨rfl,a0_f,rfl⟩,hs⟩,hk⟩:=h
    try rw [zac a0_f] at hs
    try rw [zac a0_f] at hk
    exact ⟨_,ze0 zfW _,(fun _ _=>[]),(fun _=>false),zEM,q75 (⟨a0_n,a0_f⟩:(Sl Gate)) K hs hk⟩
  · rename_i a0_n a0_s a0_g c0
    obtain ⟨⟨⟨rfl,a0_f,rfl⟩,hs⟩,hk⟩:=h
    try rw [zac a0_f] at hs
    try rw [zac a0_f] at hk
    exact ⟨_,ze0 zfW _,(fun _ _=>[]),(fun _=>false),zwb,zPk c0 (⟨a0_n,a0_f⟩:(Sl Gate)) K hs hk⟩
  · rename_i a0_n a0_s a0_g
    obtain ⟨⟨⟨rfl,a0_f,rfl⟩,hs⟩,hk⟩:=h
    try rw [zac a0_f] at hs
    try rw [zac a0_f] at hk
    exact ⟨_,ze0 zfW _,(fun _ _=>[]),(fun _=>false),zwc,zPm (⟨a0_n,a0_f⟩:(Sl Gate)) K hs hk⟩
  · exact h.elim
abbrev T30:Tabs:=(((Tabs.nil.addF 68 zvQ).addF 74 zpb).addF 75 ztD)
theorem zMk:TabsOk Try.prog T30:=(((TabsOk.nil.addF zNK).addF zIp).addF zNR)
abbrev G30:Ctrs:=csm T30 (fun _ _=>[]) (fun _=>false)
def zEO:Ann:=⟨35,[(0,zK [0,3,4,5] [3,4,5]),(1,zK [0,3,4,5,13] [3,4,5]),(2,zK [4,5,6] [4,5]),(3,zK [3,4,5,7,8] [3,4,5,7]),(4,zK [3,4,5,7,8,23] [3,4,5,7]),(5,zK [4,5,6] [4,5]),(6,zK [4,5,9,10] [4,5,9,10]),(7,zK [4,5,6] [4,5])],
 [],
 [(2,zK [0,3,4,5,13] [3,4,5]),(3,zK [0,3,4,5] [3,4,5]),(4,zK [3,4,5,7,8] [3,4,5,7]),(6,zK [3,4,5,7] [3,4,5,7]),(7,zK [4,5,9,10] [4,5,9,10])],
 [],[]⟩
abbrev R30:=(Frac×Frac×Int)
abbrev e30 (r:R30):List PA:=[.agg [.int .i64 r.1.Num,.int .i64 r.1.Den],.agg [.int .i64 r.2.1.Num,.int .i64 r.2.1.Den],.one (.int .i64 r.2.2)]
@[irreducible] def z30:=ptF Try.prog G30 zEO Try.f30
section
variable {K:List PA→Prop} {zaa:(Sl Gate)} {z:Int} {zpM:Bool} {ev2:Int} {zbI:(Sl Gate)} {zbJ:(Sl straight)} {zpN:Nat→List PV} {zpO:Nat→List PV} {zhD:(Sl Gate)} {zhE:(Sl straight)} {zpP:Nat→List PV} {zpQ:Nat→List PV} {zmu:Int} {zmv:Int} {zi1:Int} {zi2:Int}
def zwd (zmu:Int) (zmv:Int) (zi1:Int) (zi2:Int):(Frac×Frac×Int) :=
  ((⟨zmu,zmv⟩:Frac),(⟨zi1,zi2⟩:Frac),(0:Int))
theorem zEP (hk:K (e30 (zwd zmu zmv zi1 zi2))):z30 K [1,1,1,1,1] [] ⟨[(4,zp 4 0),(5,zp 5 0),(9,zp 9 0),(10,zp 10 0)],[(4,.box 25 (zm (zad (⟨(0:Int),(0:Int)⟩:Frac)))),(5,.box 25 (zm (zad (⟨(0:Int),(0:Int)⟩:Frac)))),(9,.box 25 (zm (zad (⟨zmu,zmv⟩:Frac)))),(10,.box 25 (zm (zad (⟨zi1,zi2⟩:Frac))))],[]⟩:=zaw (by kernel_rfl) hk
def zwe (z:Int) (zhD:(Sl Gate)) (zhE:(Sl straight)):(Frac×Frac×Int) :=
  (zwd (((s68 (⟨(⟨zhD⟩:list),zhE⟩:set) z).1).Num) (((s68 (⟨(⟨zhD⟩:list),zhE⟩:set) z).1).Den) (((s68 (⟨(⟨zhD⟩:list),zhE⟩:set) z).2).Num) (((s68 (⟨(⟨zhD⟩:list),zhE⟩:set) z).2).Den))
def zwf (z:Int) (zhD:(Sl Gate)) (zhE:(Sl straight)):Bool :=
  (decide ((p68 (⟨(⟨zhD⟩:list),zhE⟩:set) z=true)) &&
 true)
theorem zEQ (hs:zwf z zhD zhE=true) (hk:K (e30 (zwe z zhD zhE))) (zER:zpP=zg enc_55 zhD) (zES:zpQ=zg zah zhE):z30 K [1,1,1,1] [] ⟨[(3,zp 3 0),(4,zp 4 0),(5,zp 5 0),(7,zp 7 0)],[(3,.fbox [.int .i64 z]),(4,.box 25 (zm (zad (⟨(0:Int),(0:Int)⟩:Frac)))),(5,.box 25 (zm (zad (⟨(0:Int),(0:Int)⟩:Frac)))),(7,.box 104 [.p (.sl zhD.len 3 zpP),.p (.sl zhE.len 3 zpQ)])],[]⟩:=by subst zER;subst zES;exact zaw (by kernel_rfl) (zau hs fun hc hs=>And.intro (And.intro (zE enc_55 3 zhD.get) (And.intro (zE zah 3 zhE.get) hc)) (zEP hk))
def zwg (z:Int) (ev2:Int) (zbI:(Sl Gate)) (zbJ:(Sl straight)):(Frac×Frac×Int) :=
  (cond (ev2 != (0:Int))
 ((⟨(0:Int),(0:Int)⟩:Frac),(⟨(0:Int),(0:Int)⟩:Frac),ev2)
 (zwe z zbI zbJ))
def zwh (z:Int) (ev2:Int) (zbI:(Sl Gate)) (zbJ:(Sl straight)):Bool :=
  (cond (ev2 != (0:Int))
 true
 (zwf z zbI zbJ))
theorem zET (hs:zwh z ev2 zbI zbJ=true) (hk:K (e30 (zwg z ev2 zbI zbJ))) (zEU:zpN=zg enc_55 zbI) (zEV:zpO=zg zah zbJ):z30 K [1,1,1] [] ⟨[(3,zp 3 0),(4,zp 4 0),(5,zp 5 0),(7,zp 7 0),(8,zI ev2)],[(3,.fbox [.int .i64 z]),(4,.box 25 (zm (zad (⟨(0:Int),(0:Int)⟩:Frac)))),(5,.box 25 (zm (zad (⟨(0:Int),(0:Int)⟩:Frac)))),(7,.box 104 [.p (.sl zbI.len 3 zpN),.p (.sl zbJ.len 3 zpO)])],[]⟩:=by subst zEU;subst zEV;exact zaw (by kernel_rfl) (zc hs hk (fun hs hk=>hk) (fun hs hk=>(zEQ hs hk rfl rfl)))
def zwi (zaa:(Sl Gate)) (z:Int):(Frac×Frac×Int) :=
  (zwg z ((ztQ z zaa).2) (((ztQ z zaa).1).list.Gates) (((ztQ z zaa).1).corners))
def zwj (zaa:(Sl Gate)) (z:Int):Bool :=
  (decide ((zMj z zaa=true)) &&
 (zwh z ((ztQ z zaa).2) (((ztQ z zaa).1).list.Gates) (((ztQ z zaa).1).corners)))
theorem zEW (hs:zwj zaa z=true) (hk:K (e30 (zwi zaa z))):z30 K [1,1] [] ⟨[(0,zS enc_55 3 zaa),(3,zp 3 0),(4,zp 4 0),(5,zp 5 0)],[(3,.box 3 [zi z]),(4,.box 25 (zm (zad (⟨(0:Int),(0:Int)⟩:Frac)))),(5,.box 25 (zm (zad (⟨(0:Int),(0:Int)⟩:Frac))))],[]⟩:=zaw (by kernel_rfl) (zau hs fun hc hs=>And.intro (And.intro (zE enc_55 3 zaa.get) hc) (zET hs hk rfl rfl))
def zwk (zaa:(Sl Gate)) (z:Int) (zpM:Bool):(Frac×Frac×Int) :=
  (cond zpM
 ((⟨(0:Int),(0:Int)⟩:Frac),(⟨(0:Int),(0:Int)⟩:Frac),(2:Int))
 (zwi zaa z))
def zwl (zaa:(Sl Gate)) (z:Int) (zpM:Bool):Bool :=
  (cond zpM
 true
 (zwj zaa z))
theorem zEX (hs:zwl zaa z zpM=true) (hk:K (e30 (zwk zaa z zpM))):z30 K [1,0,1] [] ⟨[(0,zS enc_55 3 zaa),(3,zp 3 0),(4,zp 4 0),(5,zp 5 0),(13,zB zpM)],[(3,.box 3 [zi z]),(4,.box 25 (zm (zad (⟨(0:Int),(0:Int)⟩:Frac)))),(5,.box 25 (zm (zad (⟨(0:Int),(0:Int)⟩:Frac))))],[]⟩:=zaw (by kernel_rfl) (zc hs hk (fun hs hk=>hk) (fun hs hk=>(zEW hs hk)))
def s30 (zaa:(Sl Gate)) (z:Int):(Frac×Frac×Int) :=
  (zwk zaa z (!(s74 z (-100000:Int) (200000:Int))))
def p30 (zaa:(Sl Gate)) (z:Int):Bool :=
  (zwl zaa z (!(s74 z (-100000:Int) (200000:Int))))
end
theorem q30 (zaa:(Sl Gate)) (z:Int) (K:List PA→Prop) (hs:p30 zaa z=true) (hk:K (e30 (s30 zaa z))):vcFun Try.prog G30 zEO 30 [.one (.sl zaa.len 3 (fun i=>enc_55 (zaa.get i))),.one (.int .i64 z)] K :=
  zaw (by kernel_rfl) (zEX hs hk)
def zEY : List PA → COut
  | [.one (.sl a0_n a0_s a0_g),.one (.int .i64 a1)]=>.det (IsE enc_55 3 a0_s a0_g∧p30 (⟨a0_n,zae a0_g⟩:(Sl Gate)) a1=true) [.agg [.int .i64 (((s30 (⟨a0_n,zae a0_g⟩:(Sl Gate)) a1).1).Num),.int .i64 (((s30 (⟨a0_n,zae a0_g⟩:(Sl Gate)) a1).1).Den)],.agg [.int .i64 (((s30 (⟨a0_n,zae a0_g⟩:(Sl Gate)) a1).2.1).Num),.int .i64 (((s30 (⟨a0_n,zae a0_g⟩:(Sl Gate)) a1).2.1).Den)],.one (.int .i64 ((s30 (⟨a0_n,zae a0_g⟩:(Sl Gate)) a1).2.2))]
  | _=>.no
theorem zJn:zaf Try.prog 30:=⟨_,rfl,rfl,by kernel_rfl⟩
theorem zPn:Ok Try.prog 30 zEY:=zay zMk zJn fun args K h=>by
  unfold zEY at h
  split at h
  · rename_i a0_n a0_s a0_g a1
    obtain ⟨⟨⟨rfl,a0_f,rfl⟩,hs⟩,hk⟩:=h
    try rw [zac a0_f] at hs
    try rw [zac a0_f] at hk
    exact ⟨(fun _ _=>[]),(fun _=>false),zEO,q30 (⟨a0_n,a0_f⟩:(Sl Gate)) a1 K hs hk⟩
  · exact h.elim
abbrev zNS:Tabs:=Tabs.nil
theorem zJo:TabsOk Try.prog zNS:=TabsOk.nil
abbrev zNT:Ctrs:=csm zNS (fun _ _=>[]) (fun _=>false)
def zwm:Ann:=⟨8,[(0,⟨[0],[],[],[],[],[],[]⟩),(1,⟨[0,4],[],[],[],[],[],[]⟩),(2,⟨[2],[],[],[],[],[],[]⟩),(3,⟨[2],[5],[],[],[],[],[]⟩)],
 [],
 [],
 [],[]⟩
theorem zBn (n : Nat) (get : Nat → List PV) : zuU Try.prog zNT zwm 105 [.one (.sl n 3 get)] 118 3 24 n get =
  ((True)∧(∃ r1:Bool,(n ≠ 0→r1=false))∧∀ r1:Bool,(n ≠ 0→r1=false) →
 (zc0 r1
 (True∧n=0)
 ((((0+n) * 24≤140737488355328∧0+n≤9223372036854775807)) ∧
 (True∧118=118∧3=3∧24=24∧(0+n)=n∧∀ i,i < n→(appG 0 (zdk []) get) i=get i)))):=by kernel_rfl
abbrev zCu:OwnK:=.clone 118 3 24
theorem zEZ:zaf Try.prog 105:=⟨_,rfl,rfl,by kernel_rfl⟩
theorem zMl:zlD Try.prog 105 zCu:=zuX zJo zEZ fun n get h1 h2=>by
  refine ⟨fun _ _=>[],fun _=>false,zwm,?_⟩
  show zuU Try.prog zNT zwm 105 _ _ _ _ _ _
  rw [zBn]
  refine ⟨trivial,⟨decide (n=0),fun h=>decide_eq_false h⟩,fun r1 hr=>?_⟩
  cases r1
  · refine ⟨⟨by omega,by omega⟩,trivial,rfl,rfl,rfl,Nat.zero_add n,fun i _=>rfl⟩
  · exact ⟨trivial,Classical.byContradiction fun h=>by simpa using hr h⟩
abbrev zCv:OwnK:=.sort 118 3 24
theorem zMm:zlD Try.prog 106 zCv:=zu5 Try.laysS106 rfl rfl rfl (fun h=>h) ⟨_,rfl,rfl,by kernel_rfl⟩
abbrev zNU:Tabs:=(Tabs.nil.addF 99 zvn)
theorem zJp:TabsOk Try.prog zNU:=(TabsOk.nil.addF zLL)
abbrev zPo:Ctrs:=csm zNU (fun _ _=>[]) (fun _=>false)
def zCw:Ann:=⟨10,[(0,zK [2,3] [2,3]),(1,zK [4] [])],
 [],
 [],
 [],[]⟩
abbrev zPp:=Bool
abbrev e108 (r:zPp):List PA:=[.one (.bool r)]
section
variable {K:List PA→Prop} {s:set} {x:straight}
def zCx (s:set) (x:straight):Bool :=
  (zLJ x s.list.Gates)
def zLc (s:set) (x:straight):Bool :=
  (decide ((zLK x s.list.Gates=true)) &&
 true)
end
theorem zPq (s:set) (x:straight) (K:List PA→Prop) (hs:zLc s x=true) (hk:K (e108 (zCx s x))):vcFun Try.prog zPo zCw 108 [.agg (zaZ s),.agg (zah x)] K :=
  zaw (by kernel_rfl) (zau hs fun hc hs=>And.intro (And.intro (zE enc_55 3 s.list.Gates.get) hc) hk)
def zwn : List PA → COut
  | [.agg [.sl a0_list_Gates_n a0_list_Gates_s a0_list_Gates_g,.sl a0_corners_n a0_corners_s a0_corners_g],.agg [.int .i64 a1_slope,.int .i64 a1_start,.int .i64 a1_den]]=>.det (IsE enc_55 3 a0_list_Gates_s a0_list_Gates_g∧IsE zah 3 a0_corners_s a0_corners_g∧zLc (⟨(⟨(⟨a0_list_Gates_n,zae a0_list_Gates_g⟩:(Sl Gate))⟩:list),(⟨a0_corners_n,zaT a0_corners_g⟩:(Sl straight))⟩:set) (⟨a1_slope,a1_start,a1_den⟩:straight)=true) [.one (.bool (zCx (⟨(⟨(⟨a0_list_Gates_n,zae a0_list_Gates_g⟩:(Sl Gate))⟩:list),(⟨a0_corners_n,zaT a0_corners_g⟩:(Sl straight))⟩:set) (⟨a1_slope,a1_start,a1_den⟩:straight)))]
  | _=>.no
theorem zE0:zaf Try.prog 108:=⟨_,rfl,rfl,by kernel_rfl⟩
theorem zMn:Ok Try.prog 108 zwn:=zay zJp zE0 fun args K h=>by
  unfold zwn at h
  split at h
  · rename_i a0_list_Gates_n a0_list_Gates_s a0_list_Gates_g a0_corners_n a0_corners_s a0_corners_g a1_slope a1_start a1_den
    obtain ⟨⟨⟨rfl,a0_list_Gates_f,rfl⟩,⟨rfl,a0_corners_f,rfl⟩,hs⟩,hk⟩:=h
    try rw [zac a0_list_Gates_f] at hs
    try rw [zac a0_list_Gates_f] at hk
    try rw [zaP a0_corners_f] at hs
    try rw [zaP a0_corners_f] at hk
    exact ⟨(fun _ _=>[]),(fun _=>false),zCw,zPq (⟨(⟨(⟨a0_list_Gates_n,a0_list_Gates_f⟩:(Sl Gate))⟩:list),(⟨a0_corners_n,a0_corners_f⟩:(Sl straight))⟩:set) (⟨a1_slope,a1_start,a1_den⟩:straight) K hs hk⟩
  · exact h.elim
abbrev zNV:Tabs:=(((Tabs.nil.addF 69 zpp).addF 89 zpj).addF 108 zwn)
theorem zJq:TabsOk Try.prog zNV:=(((TabsOk.nil.addF zK9).addF zK8).addF zMn)
abbrev zPr:Ctrs:=csm zNV (fun _ _=>[]) (fun _=>false)
def zCy:Ann:=⟨38,[(0,zK [2,3,4] [3,4]),(1,zK [3,4,6,7] [3,4]),(2,zK [6,7,8] []),(3,zK [6,7,8,26] []),(4,zK [5] []),(5,zK [7,8,32] []),(6,zK [5] []),(7,zK [8,34] []),(8,zK [5] []),(9,zK [5] [])],
 [],
 [],
 [],[]⟩
abbrev zPs:=Int
abbrev zPt (r:zPs):List PA:=[.one (.int .i64 r)]
section
variable {K:List PA→Prop} {c0:set} {a:straight} {b:straight}
def zLd (c0:set) (a:straight) (b:straight):Int :=
  (cond (zCx c0 a)
 (cond (zCx c0 b)
 (s69 (s89 a.slope a.den) (s89 b.slope b.den))
 (cond (zCx c0 a)
 (-1:Int)
 (cond (zCx c0 b)
 (1:Int)
 (w64 (0 - (s69 (s89 a.slope a.den) (s89 b.slope b.den)))))))
 (cond (zCx c0 a)
 (-1:Int)
 (cond (zCx c0 b)
 (1:Int)
 (w64 (0 - (s69 (s89 a.slope a.den) (s89 b.slope b.den)))))))
def zLe (c0:set) (a:straight) (b:straight):Bool :=
  (decide ((zLc c0 a=true)) &&
 (decide ((zLc c0 b=true)) &&
 (decide ((p89 a.slope a.den=true)) &&
 (decide ((p89 b.slope b.den=true)) &&
 true))))
end
theorem zPu (c0:set) (a:straight) (b:straight) (K:List PA→Prop) (hs:zLe c0 a b=true) (hk:K (zPt (zLd c0 a b))):vcFun Try.prog zPr zCy 107 [.agg (zah a),.agg (zah b),.one (.fp (zaZ c0) 0)] K :=
  zaw (by kernel_rfl) (zau hs fun hc hs=>And.intro (And.intro (zE enc_55 3 c0.list.Gates.get) (And.intro (zE zah 3 c0.corners.get) hc)) (zau hs fun hc hs=>And.intro (And.intro (zE enc_55 3 c0.list.Gates.get) (And.intro (zE zah 3 c0.corners.get) hc)) (zau hs fun hc hs=>And.intro hc (zau hs fun hc hs=>And.intro hc (zt hk (fun hk=>(zt hk (fun hk=>hk) (fun hk=>(zt hk (fun hk=>hk) (fun hk=>(zt hk (fun hk=>hk) (fun hk=>hk))))))) (fun hk=>(zt hk (fun hk=>hk) (fun hk=>(zt hk (fun hk=>hk) (fun hk=>hk))))))))))
def zoa : List PA → COut
  | [.agg [.int .i64 a0_slope,.int .i64 a0_start,.int .i64 a0_den],.agg [.int .i64 a1_slope,.int .i64 a1_start,.int .i64 a1_den],.one (.fp [.sl c0_list_Gates_n c0_list_Gates_s c0_list_Gates_g,.sl c0_corners_n c0_corners_s c0_corners_g] 0)]=>.det (IsE enc_55 3 c0_list_Gates_s c0_list_Gates_g∧IsE zah 3 c0_corners_s c0_corners_g∧zLe (⟨(⟨(⟨c0_list_Gates_n,zae c0_list_Gates_g⟩:(Sl Gate))⟩:list),(⟨c0_corners_n,zaT c0_corners_g⟩:(Sl straight))⟩:set) (⟨a0_slope,a0_start,a0_den⟩:straight) (⟨a1_slope,a1_start,a1_den⟩:straight)=true) [.one (.int .i64 (zLd (⟨(⟨(⟨c0_list_Gates_n,zae c0_list_Gates_g⟩:(Sl Gate))⟩:list),(⟨c0_corners_n,zaT c0_corners_g⟩:(Sl straight))⟩:set) (⟨a0_slope,a0_start,a0_den⟩:straight) (⟨a1_slope,a1_start,a1_den⟩:straight)))]
  | _=>.no
theorem zE1:zaf Try.prog 107:=⟨_,rfl,rfl,by kernel_rfl⟩
theorem zMo:Ok Try.prog 107 zoa:=zay zJq zE1 fun args K h=>by
  unfold zoa at h
  split at h
  · rename_i a0_slope a0_start a0_den a1_slope a1_start a1_den c0_list_Gates_n c0_list_Gates_s c0_list_Gates_g c0_corners_n c0_corners_s c0_corners_g
    obtain ⟨⟨⟨rfl,c0_list_Gates_f,rfl⟩,⟨rfl,c0_corners_f,rfl⟩,hs⟩,hk⟩:=h
    try rw [zac c0_list_Gates_f] at hs
    try rw [zac c0_list_Gates_f] at hk
    try rw [zaP c0_corners_f] at hs
    try rw [zaP c0_corners_f] at hk
    exact ⟨(fun _ _=>[]),(fun _=>false),zCy,zPu (⟨(⟨(⟨c0_list_Gates_n,c0_list_Gates_f⟩:(Sl Gate))⟩:list),(⟨c0_corners_n,c0_corners_f⟩:(Sl straight))⟩:set) (⟨a0_slope,a0_start,a0_den⟩:straight) (⟨a1_slope,a1_start,a1_den⟩:straight) K hs hk⟩
  · exact h.elim
abbrev T78:Tabs:=(((Tabs.nil.addO 105 zCu).addO 106 zCv).addF 107 zoa)
theorem zMp:TabsOk Try.prog T78:=(((TabsOk.nil.addO zMl).addO zMm).addF zMo)
abbrev G78:Ctrs:=csm T78 (fun _ _=>[]) (fun _=>false)
def zJr:Ann:=⟨11,[(0,zK [1] [1]),(1,zK [1,3] [1,6]),(2,zK [3] [6]),(3,zK [2] [6])],
 [],
 [],
 [],[]⟩
abbrev R78:=(Sl straight)
abbrev e78 (r:R78):List PA:=[.one (.sl r.len 3 (fun i=>zah (r.get i)))]
section
variable {K:List PA→Prop} {s:set}
def s78 (s:set):(Sl straight) :=
  (⟨s.corners.len,(zoE s.corners.len (fun i j=>(zLd s (s.corners.get i) (s.corners.get j))) s.corners.get)⟩:(Sl straight))
def p78 (s:set):Bool :=
  (decide ((s.corners.len * 24≤140737488355328∧s.corners.len≤9223372036854775807)) &&
 (decide ((s.corners.len≤4611686018427387)∧(sortB s.corners.len (fun i j=>decide (zLe s (s.corners.get i) (s.corners.get j)=true)) (fun i j=>(zLd s (s.corners.get i) (s.corners.get j)))=true)) &&
 true))
end
theorem q78 (s:set) (K:List PA→Prop) (hs:p78 s=true) (hk:K (e78 (s78 s))):vcFun Try.prog G78 zJr 78 [.agg (zaZ s)] K :=
  zaw (by kernel_rfl) (zau hs fun hc hs=>And.intro hc (zau hs fun hc hs=>And.intro (And.intro (hc.1) ((zAM (hc.2) (fun i j h=>(show IsE enc_55 3 3 (fun i=>enc_55 (s.list.Gates.get i))∧IsE zah 3 3 (fun i=>zah (s.corners.get i))∧(zLe s (s.corners.get i) (s.corners.get j)=true) from ⟨isE,isE,(of_decide_eq_true h)⟩)) rfl):(∀ i j,i < s.corners.len→j < s.corners.len→zHB (zoa) [.fp (zaZ s) 0] true (fun i=>zah (s.corners.get i)) i j)∧STO s.corners.len (ztT (zoa) [.fp (zaZ s) 0] true (fun i=>zah (s.corners.get i))))) hk))
def zE2 : List PA → COut
  | [.agg [.sl a0_list_Gates_n a0_list_Gates_s a0_list_Gates_g,.sl a0_corners_n a0_corners_s a0_corners_g]]=>.det (IsE enc_55 3 a0_list_Gates_s a0_list_Gates_g∧IsE zah 3 a0_corners_s a0_corners_g∧p78 (⟨(⟨(⟨a0_list_Gates_n,zae a0_list_Gates_g⟩:(Sl Gate))⟩:list),(⟨a0_corners_n,zaT a0_corners_g⟩:(Sl straight))⟩:set)=true) [.one (.sl ((s78 (⟨(⟨(⟨a0_list_Gates_n,zae a0_list_Gates_g⟩:(Sl Gate))⟩:list),(⟨a0_corners_n,zaT a0_corners_g⟩:(Sl straight))⟩:set)).len) 3 (fun i=>zah ((s78 (⟨(⟨(⟨a0_list_Gates_n,zae a0_list_Gates_g⟩:(Sl Gate))⟩:list),(⟨a0_corners_n,zaT a0_corners_g⟩:(Sl straight))⟩:set)).get i)))]
  | _=>.no
theorem zJs:zaf Try.prog 78:=⟨_,rfl,rfl,by kernel_rfl⟩
theorem zPv:Ok Try.prog 78 zE2:=zay zMp zJs fun args K h=>by
  unfold zE2 at h
  split at h
  · rename_i a0_list_Gates_n a0_list_Gates_s a0_list_Gates_g a0_corners_n a0_corners_s a0_corners_g
    obtain ⟨⟨⟨rfl,a0_list_Gates_f,rfl⟩,⟨rfl,a0_corners_f,rfl⟩,hs⟩,hk⟩:=h
    try rw [zac a0_list_Gates_f] at hs
    try rw [zac a0_list_Gates_f] at hk
    try rw [zaP a0_corners_f] at hs
    try rw [zaP a0_corners_f] at hk
    exact ⟨(fun _ _=>[]),(fun _=>false),zJr,q78 (⟨(⟨(⟨a0_list_Gates_n,a0_list_Gates_f⟩:(Sl Gate))⟩:list),(⟨a0_corners_n,a0_corners_f⟩:(Sl straight))⟩:set) K hs hk⟩
  · exact h.elim
abbrev T31:Tabs:=(((Tabs.nil.addF 75 ztD).addF 78 zE2).addF 79 zAZ)
theorem zMq:TabsOk Try.prog T31:=(((TabsOk.nil.addF zNR).addF zPv).addF zNx)
abbrev G31:Ctrs:=csm T31 (fun _ _=>[]) (fun _=>false)
def zE3:Ann:=⟨31,[(0,zK [0] []),(1,zK [4,5] [4]),(2,zK [4,5,15] [4]),(3,zK [2,3] []),(4,zK [4,6] [4]),(5,zK [6,18,19,20] []),(6,zK [6,18,19,20,21] [28]),(7,zK [6,8,18,19,20] [8,28]),(8,zK [6,18,19,20] [28]),(9,zK [6,18,19,20] [28]),(10,zK [2,3] [28])],
 [(6,⟨[6,18,19,20],[28],[(6,28,37,fun _=>zav default)],[],[],[],[]⟩)],
 [(2,zK [4,5] [4]),(4,zK [4] [4]),(6,zK [6,18,19,20] [])],
 [],[]⟩
abbrev R31:=((Sl Line)×Int)
abbrev e31 (r:R31):List PA:=[.one (.sl r.1.len 4 (fun i=>zav (r.1.get i))),.one (.int .i64 r.2)]
@[irreducible] def z31:=ptF Try.prog G31 zE3 Try.f31
def zCz (zb7:(Sl straight)) (zco:Int) (zc6:Int) (zcB:(Sl Line)) (zfc:Nat→List PV):St:=⟨[(6,zv 28),(18,zS zah 3 zb7),(19,zI zco),(20,zI zc6)],[(28,.vec 37 4 32 zcB.len zfc)],[]⟩
abbrev zJt (K:List PA→Prop) (zb7:(Sl straight)) (zco:Int) (X:St→Prop) (P:Int→(Sl Line)→Bool) (S:Int→(Sl Line)→((Sl Line)×Int)):Prop:=∀ ⦃zc6:Int⦄ ⦃zcB:(Sl Line)⦄ ⦃zfc:Nat→List PV⦄,P zc6 zcB=true→K (e31 (S zc6 zcB))→zfc=zg zav zcB→X (zCz zb7 zco zc6 zcB zfc)
section
variable {K:List PA→Prop} {zaa:(Sl Gate)} {ev0:Int} {zmw:(Sl Gate)} {zmx:(Sl straight)} {zpR:Nat→List PV} {zpS:Nat→List PV} {ziB:(Sl Gate)} {ziC:(Sl straight)} {zwo:Nat→List PV} {zwp:Nat→List PV} {zb7:(Sl straight)} {zco:Int} {zwq:Nat→List PV} {zc6:Int} {zcB:(Sl Line)} {zfc:Nat→List PV} {X3:St→Prop} {P3:Int→(Sl Line)→Bool} {S3:Int→(Sl Line)→((Sl Line)×Int)}
def zwr (zb7:(Sl straight)) (zco:Int) (S3:Int→(Sl Line)→((Sl Line)×Int)) (zc6:Int) (zcB:(Sl Line)):((Sl Line)×Int) :=
  (cond (decide (zc6 < zco))
 (S3 (w64 (zc6+(1:Int))) (⟨(zcB.len+1),(zdW zcB.len zcB.get (fun _=>(s79 (zb7.get zc6.toNat))))⟩:Sl Line))
 (zcB,(0:Int)))
def zwt (zb7:(Sl straight)) (zco:Int) (P3:Int→(Sl Line)→Bool) (zc6:Int) (zcB:(Sl Line)):Bool :=
  (cond (decide (zc6 < zco))
 (decide ((0≤zc6∧zc6 < (zb7.len:Int))) &&
 (decide ((p79 (zb7.get zc6.toNat)=true)) &&
 (decide (((zcB.len+1) * 32≤140737488355328∧zcB.len+1≤9223372036854775807)) &&
 (P3 (w64 (zc6+(1:Int))) (⟨(zcB.len+1),(zdW zcB.len zcB.get (fun _=>(s79 (zb7.get zc6.toNat))))⟩:Sl Line)))))
 true)
def zwu (zb7:(Sl straight)) (zco:Int):Nat→Int→(Sl Line)→((Sl Line)×Int):=lpO (fun _ _=>default) (zwr zb7 zco)
def zwv (zb7:(Sl straight)) (zco:Int):Nat→Int→(Sl Line)→Bool:=lpO (fun _ _=>false) (zwt zb7 zco)
def zww (zb7:(Sl straight)) (zco:Int) (zc6:Int) (zcB:(Sl Line)):((Sl Line)×Int):=zwu zb7 zco Fuel zc6 zcB
def zwx (zb7:(Sl straight)) (zco:Int) (zc6:Int) (zcB:(Sl Line)):Bool:=zwv zb7 zco Fuel zc6 zcB
theorem zE4 (hs:zwx zb7 zco zc6 zcB=true) (hk:K (e31 (zww zb7 zco zc6 zcB))) (zpT:zfc=zg zav zcB):z31 (Wk K) [1,1,1,1,0,1,0] [] (zCz zb7 zco zc6 zcB zfc) :=
  zl (fun X=>z31 (Wk K) [1,1,1,1,0,1,0,0] [X]) (by kernel_rfl) fun X3 hX =>
  (show ∀ k, zJt K zb7 zco X3 (zwv zb7 zco k) (zwu zb7 zco k) from zet _ _ (zwt zb7 zco) (zwr zb7 zco) (zJt K zb7 zco X3)
 (by intro _ _ _ hs;exact absurd hs Bool.false_ne_true)
 (by intro P3 S3 hX3 zc6 zcB zfc hs hk zpT;subst zpT;exact hX _ (zaw (by kernel_rfl) (zc hs hk (fun hs hk=>(zau hs fun hc hs=>And.intro hc (zau hs fun hc hs=>And.intro hc (zau hs fun hc hs=>And.intro hc (hX3 hs hk (zeP (enc:=zav) (f:=zcB.get) (h:=(fun _=>(s79 (zb7.get zc6.toNat)))) rfl rfl)))))) (fun hs hk=>((zd8 hk):Wk K [.one (.sl zcB.len 4 (fun i=>zav (zcB.get i))),.one (.int .i64 (0:Int))])))))) _ hs hk zpT
def zwy (zb7:(Sl straight)) (zco:Int):((Sl Line)×Int) :=
  (zww zb7 zco (0:Int) (⟨0,(fun _=>default)⟩:Sl Line))
def zwz (zb7:(Sl straight)) (zco:Int):Bool :=
  (zwx zb7 zco (0:Int) (⟨0,(fun _=>default)⟩:Sl Line))
theorem zE5 (hs:zwz zb7 zco=true) (hk:K (e31 (zwy zb7 zco))) (zE6:zwq=zg zah zb7):z31 (Wk K) [1,1,1,1,0,1] [] ⟨[(6,zP (.nils)),(18,zP (.sl zb7.len 3 zwq)),(19,zI zco),(20,zI (0:Int))],[],[]⟩:=by subst zE6;exact zaw (by kernel_rfl) (zE4 hs hk rfl)
def zwA (ziB:(Sl Gate)) (ziC:(Sl straight)):((Sl Line)×Int) :=
  (zwy (s78 (⟨(⟨ziB⟩:list),ziC⟩:set)) ((s78 (⟨(⟨ziB⟩:list),ziC⟩:set)).len:Int))
def zwB (ziB:(Sl Gate)) (ziC:(Sl straight)):Bool :=
  (decide ((p78 (⟨(⟨ziB⟩:list),ziC⟩:set)=true)) &&
 (zwz (s78 (⟨(⟨ziB⟩:list),ziC⟩:set)) ((s78 (⟨(⟨ziB⟩:list),ziC⟩:set)).len:Int)))
theorem zE7 (hs:zwB ziB ziC=true) (hk:K (e31 (zwA ziB ziC))) (zE8:zwo=zg enc_55 ziB) (zE9:zwp=zg zah ziC):z31 (Wk K) [1,1,1] [] ⟨[(4,zp 4 0)],[(4,.box 104 [.p (.sl ziB.len 3 zwo),.p (.sl ziC.len 3 zwp)])],[]⟩:=by subst zE8;subst zE9;exact zaw (by kernel_rfl) (zau hs fun hc hs=>And.intro (And.intro (zE enc_55 3 ziB.get) (And.intro (zE zah 3 ziC.get) hc)) (zE5 hs hk rfl))
def zwC (ev0:Int) (zmw:(Sl Gate)) (zmx:(Sl straight)):((Sl Line)×Int) :=
  (cond (ev0 != (0:Int))
 ((⟨0,fun _=>default⟩:(Sl Line)),ev0)
 (zwA zmw zmx))
def zwD (ev0:Int) (zmw:(Sl Gate)) (zmx:(Sl straight)):Bool :=
  (cond (ev0 != (0:Int))
 true
 (zwB zmw zmx))
theorem zFa (hs:zwD ev0 zmw zmx=true) (hk:K (e31 (zwC ev0 zmw zmx))) (zFb:zpR=zg enc_55 zmw) (zFc:zpS=zg zah zmx):z31 (Wk K) [1,1] [] ⟨[(4,zp 4 0),(5,zI ev0)],[(4,.box 104 [.p (.sl zmw.len 3 zpR),.p (.sl zmx.len 3 zpS)])],[]⟩:=by subst zFb;subst zFc;exact zaw (by kernel_rfl) (zc hs hk (fun hs hk=>((wk hk (zc9 (.one (.nil _ _)) (zc9 (.one (.rfl _)) zhl))):Wk K [.one (.nils),.one (.int .i64 ev0)])) (fun hs hk=>(zE7 hs hk rfl rfl)))
def s31 (zaa:(Sl Gate)):((Sl Line)×Int) :=
  (zwC ((s75 zaa).2) (((s75 zaa).1).list.Gates) (((s75 zaa).1).corners))
def p31 (zaa:(Sl Gate)):Bool :=
  (decide ((p75 zaa=true)) &&
 (zwD ((s75 zaa).2) (((s75 zaa).1).list.Gates) (((s75 zaa).1).corners)))
end
theorem q31 (zaa:(Sl Gate)) (K:List PA→Prop) (hs:p31 zaa=true) (hk:K (e31 (s31 zaa))):vcFun Try.prog G31 zE3 31 [.one (.sl zaa.len 3 (fun i=>enc_55 (zaa.get i)))] (Wk K) :=
  zaw (by kernel_rfl) (zau hs fun hc hs=>And.intro (And.intro (zE enc_55 3 zaa.get) hc) (zFa hs hk rfl rfl))
def zFd : List PA → COut
  | [.one (.sl a0_n a0_s a0_g)]=>.det (IsE enc_55 3 a0_s a0_g∧p31 (⟨a0_n,zae a0_g⟩:(Sl Gate))=true) [.one (.sl (((s31 (⟨a0_n,zae a0_g⟩:(Sl Gate))).1).len) 4 (fun i=>zav (((s31 (⟨a0_n,zae a0_g⟩:(Sl Gate))).1).get i))),.one (.int .i64 ((s31 (⟨a0_n,zae a0_g⟩:(Sl Gate))).2))]
  | _=>.no
theorem zJu:zaf Try.prog 31:=⟨_,rfl,rfl,by kernel_rfl⟩
theorem zPw:Ok Try.prog 31 zFd:=zhm zMq zJu fun args K h=>by
  unfold zFd at h
  split at h
  · rename_i a0_n a0_s a0_g
    obtain ⟨⟨⟨rfl,a0_f,rfl⟩,hs⟩,hk⟩:=h
    try rw [zac a0_f] at hs
    try rw [zac a0_f] at hk
    exact ⟨_,ze0 zfW _,(fun _ _=>[]),(fun _=>false),zE3,q31 (⟨a0_n,a0_f⟩:(Sl Gate)) K hs hk⟩
  · exact h.elim
abbrev T34:Tabs:=Tabs.nil
theorem zMr:TabsOk Try.prog T34:=TabsOk.nil
abbrev G34:Ctrs:=csm T34 (fun _ _=>[]) (fun _=>false)
def zFe:Ann:=⟨26,[(0,zK [0,1] []),(1,zK [0,1,10] []),(2,zK [4] []),(3,zK [0,1,5] []),(4,zK [0,1,5,14] []),(5,zK [0,1,5] []),(6,zK [0,1,5,25] []),(7,zK [4] []),(8,zK [4] [])],
 [(4,zK [0,1,5] [])],
 [(3,zK [0,1] [])],
 [],[]⟩
abbrev R34:=Bool
abbrev e34 (r:R34):List PA:=[.one (.bool r)]
@[irreducible] def z34:=ptF Try.prog G34 zFe Try.f34
def zCA (a:(Sl Line)) (b:(Sl Line)) (iv1:Int):St:=⟨[(0,zS zav 4 a),(1,zS zav 4 b),(5,zI iv1)],[],[]⟩
abbrev zJv (K:List PA→Prop) (a:(Sl Line)) (b:(Sl Line)) (X:St→Prop) (P:Int→Bool) (S:Int→Bool):Prop:=∀ ⦃iv1:Int⦄,P iv1=true→K (e34 (S iv1))→X (zCA a b iv1)
section
variable {K:List PA→Prop} {a:(Sl Line)} {b:(Sl Line)} {iv1:Int} {X1:St→Prop} {P1:Int→Bool} {S1:Int→Bool}
def zwE (a:(Sl Line)) (b:(Sl Line)) (S1:Int→Bool) (iv1:Int):Bool :=
  (cond (decide (iv1 < (a.len : Int)))
 (cond (!(match (match ((a.get iv1.toNat).Slope.Num == (b.get iv1.toNat).Slope.Num) with | true => (match ((a.get iv1.toNat).Slope.Den == (b.get iv1.toNat).Slope.Den) with | true => true | false => false) | false => false) with | true => (match (match ((a.get iv1.toNat).Start.Num == (b.get iv1.toNat).Start.Num) with | true => (match ((a.get iv1.toNat).Start.Den == (b.get iv1.toNat).Start.Den) with | true => true | false => false) | false => false) with | true => true | false => false) | false => false))
 false
 (S1 (w64 (iv1+(1:Int)))))
 true)
def zwF (a:(Sl Line)) (b:(Sl Line)) (P1:Int→Bool) (iv1:Int):Bool :=
  (cond (decide (iv1 < (a.len : Int)))
 (decide ((0≤iv1∧iv1 < (a.len:Int))) &&
 (decide ((0≤iv1∧iv1 < (b.len:Int))) &&
 (cond (!(match (match ((a.get iv1.toNat).Slope.Num == (b.get iv1.toNat).Slope.Num) with | true => (match ((a.get iv1.toNat).Slope.Den == (b.get iv1.toNat).Slope.Den) with | true => true | false => false) | false => false) with | true => (match (match ((a.get iv1.toNat).Start.Num == (b.get iv1.toNat).Start.Num) with | true => (match ((a.get iv1.toNat).Start.Den == (b.get iv1.toNat).Start.Den) with | true => true | false => false) | false => false) with | true => true | false => false) | false => false))
 true
 (P1 (w64 (iv1+(1:Int)))))))
 true)
def zwG (a:(Sl Line)) (b:(Sl Line)):Nat→Int→Bool:=lpO (fun _=>default) (zwE a b)
def zwH (a:(Sl Line)) (b:(Sl Line)):Nat→Int→Bool:=lpO (fun _=>false) (zwF a b)
def zwI (a:(Sl Line)) (b:(Sl Line)) (iv1:Int):Bool:=zwG a b Fuel iv1
def zwJ (a:(Sl Line)) (b:(Sl Line)) (iv1:Int):Bool:=zwH a b Fuel iv1
theorem zFf (hs:zwJ a b iv1=true) (hk:K (e34 (zwI a b iv1))):z34 K [1,1,0,1,0] [] (zCA a b iv1) :=
  zl (fun X=>z34 K [1,1,0,1,0,0] [X]) (by kernel_rfl) fun X1 hX =>
  (show ∀ k, zJv K a b X1 (zwH a b k) (zwG a b k) from zet _ _ (zwF a b) (zwE a b) (zJv K a b X1)
 (by intro _ hs;exact absurd hs Bool.false_ne_true)
 (by intro P1 S1 hX1 iv1 hs hk;exact hX _ (zaw (by kernel_rfl) (zc hs hk (fun hs hk=>(zau hs fun hc hs=>And.intro hc (zau hs fun hc hs=>And.intro hc (zc hs hk (fun hs hk=>hk) (fun hs hk=>(hX1 hs hk)))))) (fun hs hk=>hk))))) _ hs hk
def zwK (a:(Sl Line)) (b:(Sl Line)):Bool :=
  (zwI a b (0:Int))
def zwL (a:(Sl Line)) (b:(Sl Line)):Bool :=
  (zwJ a b (0:Int))
theorem zFg (hs:zwL a b=true) (hk:K (e34 (zwK a b))):z34 K [1,1] [] ⟨[(0,zS zav 4 a),(1,zS zav 4 b)],[],[]⟩:=zaw (by kernel_rfl) (zFf hs hk)
def s34 (a:(Sl Line)) (b:(Sl Line)):Bool :=
  (cond ((a.len : Int) != (b.len : Int))
 false
 (zwK a b))
def p34 (a:(Sl Line)) (b:(Sl Line)):Bool :=
  (cond ((a.len : Int) != (b.len : Int))
 true
 (zwL a b))
end
theorem q34 (a:(Sl Line)) (b:(Sl Line)) (K:List PA→Prop) (hs:p34 a b=true) (hk:K (e34 (s34 a b))):vcFun Try.prog G34 zFe 34 [.one (.sl a.len 4 (fun i=>zav (a.get i))),.one (.sl b.len 4 (fun i=>zav (b.get i)))] K :=
  zaw (by kernel_rfl) (zc hs hk (fun hs hk=>hk) (fun hs hk=>(zFg hs hk)))
def zFh : List PA → COut
  | [.one (.sl a0_n a0_s a0_g),.one (.sl a1_n a1_s a1_g)]=>.det (IsE zav 4 a0_s a0_g∧IsE zav 4 a1_s a1_g∧p34 (⟨a0_n,zjL a0_g⟩:(Sl Line)) (⟨a1_n,zjL a1_g⟩:(Sl Line))=true) [.one (.bool (s34 (⟨a0_n,zjL a0_g⟩:(Sl Line)) (⟨a1_n,zjL a1_g⟩:(Sl Line))))]
  | _=>.no
theorem zJw:zaf Try.prog 34:=⟨_,rfl,rfl,by kernel_rfl⟩
theorem zPx:Ok Try.prog 34 zFh:=zay zMr zJw fun args K h=>by
  unfold zFh at h
  split at h
  · rename_i a0_n a0_s a0_g a1_n a1_s a1_g
    obtain ⟨⟨⟨rfl,a0_f,rfl⟩,⟨rfl,a1_f,rfl⟩,hs⟩,hk⟩:=h
    try rw [zev a0_f] at hs
    try rw [zev a0_f] at hk
    try rw [zev a1_f] at hs
    try rw [zev a1_f] at hk
    exact ⟨(fun _ _=>[]),(fun _=>false),zFe,q34 (⟨a0_n,a0_f⟩:(Sl Line)) (⟨a1_n,a1_f⟩:(Sl Line)) K hs hk⟩
  · exact h.elim
abbrev T84:Tabs:=((Tabs.nil.addF 65 zvv).addF 66 zvy)
theorem zMs:TabsOk Try.prog T84:=((TabsOk.nil.addF zLW).addF zLZ)
abbrev G84:Ctrs:=csm T84 (fun _ _=>[]) (fun _=>false)
def zFi:Ann:=⟨25,[(0,zK [0,1] []),(1,zK [0,1,5] []),(2,zK [0,5,8,9,10] []),(3,zK [0,5,8,9,10,11] [20]),(4,zK [0,5,7,8,9,10] [20]),(5,zK [0,5,8,9,10] [20]),(6,zK [0,5,8,9,10] [20]),(7,zK [4] [])],
 [(3,⟨[0,5,8,9,10],[20],[(5,20,55,fun _=>enc_55 default)],[],[],[],[]⟩)],
 [],
 [],[]⟩
abbrev R84:=Bool
abbrev e84 (r:R84):List PA:=[.one (.bool r)]
@[irreducible] def z84:=ptF Try.prog G84 zFi Try.f84
def zCB (zaa:(Sl Gate)) (l_a1:(Sl Int)) (zcW:Int) (zcm:(Sl Gate)) (zfd:Nat→List PV):St:=⟨[(0,zS enc_55 3 zaa),(5,zv 20),(8,zS zal 1 l_a1),(9,zI (l_a1.len:Int)),(10,zI zcW)],[(20,.vec 55 3 24 zcm.len zfd)],[]⟩
abbrev zJx (K:List PA→Prop) (zaa:(Sl Gate)) (l_a1:(Sl Int)) (X:St→Prop) (P:Int→(Sl Gate)→Bool) (S:Int→(Sl Gate)→Bool):Prop:=∀ ⦃zcW:Int⦄ ⦃zcm:(Sl Gate)⦄ ⦃zfd:Nat→List PV⦄,P zcW zcm=true→K (e84 (S zcW zcm))→zfd=zg enc_55 zcm→X (zCB zaa l_a1 zcW zcm zfd)
section
variable {K:List PA→Prop} {zaa:(Sl Gate)} {l_a1:(Sl Int)} {zcW:Int} {zcm:(Sl Gate)} {zfd:Nat→List PV} {X0:St→Prop} {P0:Int→(Sl Gate)→Bool} {S0:Int→(Sl Gate)→Bool}
def zwM (zaa:(Sl Gate)) (l_a1:(Sl Int)) (S0:Int→(Sl Gate)→Bool) (zcW:Int) (zcm:(Sl Gate)):Bool :=
  (cond (decide (zcW < (l_a1.len : Int)))
 (S0 (w64 (zcW+(1:Int))) (⟨(zcm.len+1),(zdW zcm.len zcm.get (fun _=>(zaa.get ((l_a1.get zcW.toNat).toNat))))⟩:Sl Gate))
 (s66 (s65 zcm)))
def zwN (zaa:(Sl Gate)) (l_a1:(Sl Int)) (P0:Int→(Sl Gate)→Bool) (zcW:Int) (zcm:(Sl Gate)):Bool :=
  (cond (decide (zcW < (l_a1.len : Int)))
 (decide ((0≤zcW∧zcW < (l_a1.len:Int))) &&
 (decide ((0≤(l_a1.get zcW.toNat)∧(l_a1.get zcW.toNat) < (zaa.len:Int))) &&
 (decide (((zcm.len+1) * 24≤140737488355328∧zcm.len+1≤9223372036854775807)) &&
 (P0 (w64 (zcW+(1:Int))) (⟨(zcm.len+1),(zdW zcm.len zcm.get (fun _=>(zaa.get ((l_a1.get zcW.toNat).toNat))))⟩:Sl Gate)))))
 (decide ((p65 zcm=true)) &&
 (decide ((p66 (s65 zcm)=true)) &&
 true)))
def zwO (zaa:(Sl Gate)) (l_a1:(Sl Int)):Nat→Int→(Sl Gate)→Bool:=lpO (fun _ _=>default) (zwM zaa l_a1)
def zwP (zaa:(Sl Gate)) (l_a1:(Sl Int)):Nat→Int→(Sl Gate)→Bool:=lpO (fun _ _=>false) (zwN zaa l_a1)
def zwQ (zaa:(Sl Gate)) (l_a1:(Sl Int)) (zcW:Int) (zcm:(Sl Gate)):Bool:=zwO zaa l_a1 Fuel zcW zcm
def zwR (zaa:(Sl Gate)) (l_a1:(Sl Int)) (zcW:Int) (zcm:(Sl Gate)):Bool:=zwP zaa l_a1 Fuel zcW zcm
theorem zFj (hs:zwR zaa l_a1 zcW zcm=true) (hk:K (e84 (zwQ zaa l_a1 zcW zcm))) (zpU:zfd=zg enc_55 zcm):z84 K [1,1,0,1,0] [] (zCB zaa l_a1 zcW zcm zfd) :=
  zl (fun X=>z84 K [1,1,0,1,0,0] [X]) (by kernel_rfl) fun X0 hX =>
  (show ∀ k, zJx K zaa l_a1 X0 (zwP zaa l_a1 k) (zwO zaa l_a1 k) from zet _ _ (zwN zaa l_a1) (zwM zaa l_a1) (zJx K zaa l_a1 X0)
 (by intro _ _ _ hs;exact absurd hs Bool.false_ne_true)
 (by intro P0 S0 hX0 zcW zcm zfd hs hk zpU;subst zpU;exact hX _ (zaw (by kernel_rfl) (zc hs hk (fun hs hk=>(zau hs fun hc hs=>And.intro hc (zau hs fun hc hs=>And.intro hc (zau hs fun hc hs=>And.intro hc (hX0 hs hk (zeP (enc:=enc_55) (f:=zcm.get) (h:=(fun _=>(zaa.get ((l_a1.get zcW.toNat).toNat)))) rfl rfl)))))) (fun hs hk=>(zau hs fun hc hs=>And.intro (And.intro (zE enc_55 3 zcm.get) hc) (zau hs fun hc hs=>And.intro (And.intro (zE enc_55 3 ((s65 zcm).list.Gates.get)) (And.intro (zE zah 3 ((s65 zcm).corners.get)) hc)) hk))))))) _ hs hk zpU
def s84 (zaa:(Sl Gate)) (l_a1:(Sl Int)):Bool :=
  (zwQ zaa l_a1 (0:Int) (⟨0,(fun _=>default)⟩:Sl Gate))
def p84 (zaa:(Sl Gate)) (l_a1:(Sl Int)):Bool :=
  (zwR zaa l_a1 (0:Int) (⟨0,(fun _=>default)⟩:Sl Gate))
end
theorem q84 (zaa:(Sl Gate)) (l_a1:(Sl Int)) (K:List PA→Prop) (hs:p84 zaa l_a1=true) (hk:K (e84 (s84 zaa l_a1))):vcFun Try.prog G84 zFi 84 [.one (.sl zaa.len 3 (fun i=>enc_55 (zaa.get i))),.one (.sl l_a1.len 1 (fun i=>zal (l_a1.get i)))] K :=
  zaw (by kernel_rfl) (zFj hs hk rfl)
def zFk : List PA → COut
  | [.one (.sl a0_n a0_s a0_g),.one (.sl a1_n a1_s a1_g)]=>.det (IsE enc_55 3 a0_s a0_g∧IsE zal 1 a1_s a1_g∧p84 (⟨a0_n,zae a0_g⟩:(Sl Gate)) (⟨a1_n,zcT a1_g⟩:(Sl Int))=true) [.one (.bool (s84 (⟨a0_n,zae a0_g⟩:(Sl Gate)) (⟨a1_n,zcT a1_g⟩:(Sl Int))))]
  | _=>.no
theorem zJy:zaf Try.prog 84:=⟨_,rfl,rfl,by kernel_rfl⟩
theorem zPy:Ok Try.prog 84 zFk:=zay zMs zJy fun args K h=>by
  unfold zFk at h
  split at h
  · rename_i a0_n a0_s a0_g a1_n a1_s a1_g
    obtain ⟨⟨⟨rfl,a0_f,rfl⟩,⟨rfl,a1_f,rfl⟩,hs⟩,hk⟩:=h
    try rw [zac a0_f] at hs
    try rw [zac a0_f] at hk
    try rw [zdx a1_f] at hs
    try rw [zdx a1_f] at hk
    exact ⟨(fun _ _=>[]),(fun _=>false),zFi,q84 (⟨a0_n,a0_f⟩:(Sl Gate)) (⟨a1_n,a1_f⟩:(Sl Int)) K hs hk⟩
  · exact h.elim
end Go.Proofs
