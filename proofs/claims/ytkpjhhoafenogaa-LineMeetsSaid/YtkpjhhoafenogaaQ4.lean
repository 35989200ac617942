/- Part 4 of what the proof rests on: a machine that runs functions of the program on pure values, proved sound; the functions that the law reaches, and what they compute. -/
import Derived.Test.YtkpjhhoafenogaaQ3
import Derived.Sort.OwnSortedInts
import Derived.Lib.SlicesCompact
import Derived.ProofKit
import Derived.Deep.Slices
import Derived.Shelf.SlSortCmp.WholeK
import Derived.Test.YtkpjhhoafenogaaProg
import Derived.Shelf.SlSortCmp.NoneTotal
set_option linter.all false
namespace Go.Pm

structure Tabs where
  fn:List (Nat×(List PA→COut))
  own:List (Nat×OwnK)
  it:List (Nat×(List PA→Option (Prop×List (List PA))))
def zuS : List (Nat × (List PA → COut)) → Nat → List PA → COut
  | [],_=>fun _=>.no
  | (k,c) :: r,n=>match Nat.beq k n with | true=>c | false=>zuS r n
def zuT (l:List (Nat×OwnK)) (f:Nat):OwnK:=match lk l f with | some c=>c | none=>.none
def zDs (l:List (Nat×(List PA→Option (Prop×List (List PA))))) (f:Nat):List PA→Option (Prop×List (List PA)):=match lk l f with | some c=>c | none=>fun _=>none
def csm (T:Tabs) (memo:Nat→Int→List Int) (vv:Nat→Bool):Ctrs:=⟨zuS T.fn,zuT T.own,zDs T.it,memo,vv⟩
abbrev cs (T:Tabs):Ctrs:=csm T (fun _ _=>[]) (fun _=>false)
def Tabs.nil:Tabs:=⟨[],[],[]⟩
def Tabs.addF (T:Tabs) (f:Nat) (c:List PA→COut):Tabs:=⟨(f,c) :: T.fn,T.own,T.it⟩
def Tabs.addO (T:Tabs) (f:Nat) (c:OwnK):Tabs:=⟨T.fn,(f,c) :: T.own,T.it⟩
def Tabs.addI (T:Tabs) (f:Nat) (c:List PA→Option (Prop×List (List PA))):Tabs:=⟨T.fn,T.own,(f,c) :: T.it⟩

theorem zLq {P:Program} {f:Nat} : Ok P f (fun _=>.no):=fun _ _ h=>h.elim
theorem zLr {P:Program} {f:Nat} : zBK P f (fun _=>none):=fun _ _ _ h=>by cases h

structure TabsOk (P : Program) (T : Tabs) : Prop where
  fn:∀ x∈T.fn,Ok P x.1 x.2
  own:∀ x∈T.own,zlw P x.1 x.2
  it:∀ x∈T.it,zBK P x.1 x.2
theorem TabsOk.nil {P:Program} : TabsOk P .nil:=⟨fun _ h=>(by cases h),fun _ h=>(by cases h),fun _ h=>(by cases h)⟩
theorem TabsOk.addF {P:Program} {T:Tabs} (h:TabsOk P T) {f:Nat} {c:List PA→COut} (hc:Ok P f c):TabsOk P (T.addF f c) :=
 ⟨fun x hx=>(List.mem_cons.1 hx).elim (fun e=>by rw [e];exact hc) (fun hx=>h.fn x hx),h.own,h.it⟩
theorem TabsOk.addO {P:Program} {T:Tabs} (h:TabsOk P T) {f:Nat} {c:OwnK} (hc:zlw P f c):TabsOk P (T.addO f c) :=
 ⟨h.fn,fun x hx=>(List.mem_cons.1 hx).elim (fun e=>by rw [e];exact hc) (fun hx=>h.own x hx),h.it⟩
theorem TabsOk.addI {P:Program} {T:Tabs} (h:TabsOk P T) {f:Nat} {c:List PA→Option (Prop×List (List PA))} (hc:zBK P f c):TabsOk P (T.addI f c) :=
 ⟨h.fn,h.own,fun x hx=>(List.mem_cons.1 hx).elim (fun e=>by rw [e];exact hc) (fun hx=>h.it x hx)⟩
theorem TabsOk.all {P:Program} {T:Tabs} (h:TabsOk P T) (memo:Nat→Int→List Int) (vv:Nat→Bool):OkAll P (csm T memo vv):=by
 refine ⟨fun f=>?_,fun f=>?_,fun f=>?_⟩
 ·show Ok P f (zuS T.fn f)
  have key:∀ l:List (Nat×(List PA→COut)),(∀ x∈l,Ok P x.1 x.2)→Ok P f (zuS l f):=by
   intro l
   induction l with
   | nil=>intro _;exact zLq
   | cons x l ih =>
    intro hl
    obtain ⟨k,c⟩:=x
    simp only [zuS]
    split
    ·rename_i e
     have:=hl (k,c) List.mem_cons_self
     rw [← Nat.eq_of_beq_eq_true e];exact this
    ·exact ih fun x hx=>hl x (List.mem_cons_of_mem _ hx)
  exact key T.fn h.fn
 ·show zlw P f (zuT T.own f)
  unfold zuT
  split
  ·rename_i c hc;exact h.own _ (zcs hc)
  ·trivial
 ·show zBK P f (zDs T.it f)
  unfold zDs
  split
  ·rename_i c hc;exact h.it _ (zcs hc)
  ·exact zLr

theorem zay {P : Program} {T : Tabs} (hT : TabsOk P T) {f : FuncId} {C : List PA → COut} (hc : zaf P f)
    (h:∀ args K,(C args).wp K→∃ memo vv ann,vcFun P (csm T memo vv) ann f args K):Ok P f C :=
  zAC (hT.all (fun _ _=>[]) (fun _=>false)) hc h
theorem zIh {P : Program} {T : Tabs} (hT : TabsOk P T) {f : FuncId} {C : List PA → Option (Prop × List (List PA))} (hc : zaf P f)
    (h:∀ l caps safe ys,C caps=some (safe,ys)→safe→∃ memo vv ann,vcIter P (csm T memo vv) ann f l caps ys):zBK P f C :=
  zAG (hT.all (fun _ _=>[]) (fun _=>false)) hc h
theorem zuU {P : Program} {T : Tabs} (hT : TabsOk P T) {f : FuncId} {e s b : Nat} (hc : zaf P f)
    (h:∀ n get,n * b≤140737488355328→n≤9223372036854775807→∃ memo vv ann,zuR P (csm T memo vv) ann f [.one (.sl n s get)] e s b n get):zlw P f (.clone e s b) :=
  zpj (hT.all (fun _ _=>[]) (fun _=>false)) hc h

structure Sl (α : Type) where
  len:Nat
  get:Nat→α
instance {α:Type} [Inhabited α]:Inhabited (Sl α):=⟨⟨0,fun _=>default⟩⟩
abbrev w64 (x:Int):Int:=IntKind.i64.wrap x

def IsE {α:Type} (enc:α→List PV) (size s:Nat) (g:Nat→List PV):Prop:=s=size∧∃ f:Nat→α,g=fun i=>enc (f i)
theorem isE {α:Type} {enc:α→List PV} {size:Nat} {f:Nat→α} : IsE enc size size (fun i=>enc (f i)):=⟨rfl,f,rfl⟩
def zdX {α:Type} (n:Nat) (get new:Nat→α):Nat→α:=fun j=>match Nat.ble n j with | true=>new (j - n) | false=>get j
theorem zAH {α:Type} {enc:α→List PV} {n:Nat} {f h:Nat→α} : appG n (fun i=>enc (f i)) (fun i=>enc (h i))=fun i=>enc (zdX n f h i):=by
 funext j;simp only [appG,zdX];cases Nat.ble n j <;> rfl
def zi3 {α : Type} (x : α) : List α → Nat → α
  | [],_=>x
  | y :: _,0=>y
  | _ :: r,i+1=>zi3 x r i
theorem zex {α:Type} {enc:α→List PV} {x y:α} {r:List α} : zdg (enc x :: enc y :: r.map enc)=fun i=>enc (zi3 x (x :: y :: r) i):=by
 have key:∀ (l:List α) (i:Nat),(match (l.map enc)[i]? with | some z=>z | none=>enc x)=enc (zi3 x l i):=by
  intro l
  induction l with
  | nil=>intro i;rfl
  | cons a l ih =>
   intro i
   cases i with
   | zero=>rfl
   | succ i=>simpa [zi3] using ih i
 funext i
 exact key (x :: y :: r) i
theorem zfG {α:Type} {enc:α→List PV} {size:Nat} {x y:α} (r:List α):IsE enc size size (zdg (enc x :: enc y :: r.map enc)):=⟨rfl,_,zex⟩

theorem zcb {b:Bool} {A B:Prop} {S S':Bool} {α:Type} {K:α→Prop} {x y:α} (h1:S=true→K x→A) (h2:S'=true→K y→B) (hs:cond b S S'=true) (hk:K (cond b x y)):zcW b A B:=by
 cases b
 ·exact h2 hs hk
 ·exact h1 hs hk
theorem zlY {b:Bool} {A B:Prop} {S S':Bool} {α β:Type} {f:α→β} {ys:List β} {x y:List α} (hs:cond b S S'=true) (hk:ys=(cond b x y).map f) (h1:S=true→ys=x.map f→A) (h2:S'=true→ys=y.map f→B):zcW b A B:=by
 cases b
 ·exact h2 hs hk
 ·exact h1 hs hk
theorem itY {α β:Type} {f:α→β} {ys:List β} {p:β} {x r:List α} {l:Nat} {A:List β→Prop} (hk:ys=x.map f) (e:x.map f=p :: r.map f) (h:∀ zs,zs=r.map f→A zs):l=l∧∃ z,ys=p :: z∧A z∧True :=
 ⟨rfl,_,hk.trans e,h _ rfl,trivial⟩
theorem zau {C A:Prop} [d:Decidable C] {r:Bool} (hs:(decide C && r)=true) (k:C→r=true→A):A:=by
 rw [Bool.and_eq_true] at hs
 exact k (of_decide_eq_true hs.1) hs.2
abbrev Fuel:Nat:=9223372036854775808
def setT {α:Type} (i:Nat) (v:α) (get:Nat→α):Nat→α:=fun j=>match Nat.beq j i with | true=>v | false=>get j
theorem zeU {α:Type} {enc:α→List PV} {n:Nat} {g g':Nat→List PV} {f h:Nat→α} (h1:g=fun i=>enc (f i)) (h2:g'=fun i=>enc (h i)):appG n g g'=fun i=>enc (zdX n f h i):=by
 subst h1;subst h2;exact zAH
def zNf (P:Program) (G:Ctrs) (ann:Ann) (hd:Nat) (ps:List Nat) (assign body:Code) (X:List (List PA)→St→Prop) (K:Exit→St→Prop) (y:List PA) (rest:List (List PA)) (s:St):Prop :=
 match lk ann.head hd with
 | some k=>match zgO ps y s.env with
  | some env=>vc P G ann assign (zC3 (vc P G ann body (zkX P k (X rest) K)) fun _ _=>False) ⟨env,s.objs,[]⟩
  | none=>False
 | none=>False
def sortB (n:Nat) (p:Nat→Nat→Bool) (c:Nat→Nat→Int):Bool :=
  (List.range n).all fun i => decide (0 ≤ c i i) && (List.range n).all fun j => p i j && (Nat.beq i j || (decide (c i j < 0) && decide (0 ≤ c j i)) || (decide (c j i < 0) && decide (0 ≤ c i j))) &&
    (List.range n).all fun k=>!(decide (c i j < 0) && decide (c j k < 0)) || decide (c i k < 0)
theorem zAI {n:Nat} {p:Nat→Nat→Bool} {c c':Nat→Nat→Int} {s:Nat→Nat→Prop} (h:sortB n p c=true) (hp:∀ i j,p i j=true→s i j) (hc:c'=c):(∀ i j,i < n→j < n→s i j)∧STO n c':=by
 subst hc
 simp only [sortB,List.all_eq_true,List.mem_range,Bool.and_eq_true,Bool.or_eq_true,decide_eq_true_eq,Bool.not_eq_true',Bool.and_eq_false_iff,decide_eq_false_iff_not] at h
 refine ⟨fun i j hi hj=>hp i j ((h i hi).2 j hj).1.1,fun i hi=>(h i hi).1,fun i j hi hj hne=>?_,fun i j k hi hj hk h1 h2=>?_⟩
 ·rcases ((h i hi).2 j hj).1.2 with (h1 | h1) | h1
  ·exact absurd (Nat.eq_of_beq_eq_true h1) hne
  ·exact .inl h1
  ·exact .inr h1
 ·rcases ((h i hi).2 j hj).2 k hk with (h3 | h3) | h3
  ·exact absurd h1 h3
  ·exact absurd h2 h3
  ·exact h3
end Go.Pm
namespace Go.Pm
open Go Go.Sort

/-! Nil slices are slices of length 0. -/
inductive PVle : PV → PV → Prop
  | rfl (p:PV):PVle p p
  | nil (s:Nat) (g:Nat→List PV):PVle .nils (.sl 0 s g)
  | nilm (q:MQ):PVle .nilm (.fm q 0 (fun _=>none))
inductive PAle : PA → PA → Prop
  | one {p q:PV} : PVle p q→PAle (.one p) (.one q)
  | agg {l m:List PV} : RL PVle l m→PAle (.agg l) (.agg m)
theorem zhr {α β:Type} {R:α→β→Prop} : RL R [] []:=trivial
theorem zc5 {α β:Type} {R:α→β→Prop} {a:α} {b:β} {l:List α} {m:List β} (h:R a b) (h':RL R l m):RL R (a :: l) (b :: m):=⟨h,h'⟩
theorem ze6 {α : Type} {R : α → α → Prop} (h : ∀ a, R a a) : ∀ l : List α, RL R l l
  | []=>trivial
  | a :: l=>⟨h a,ze6 h l⟩
theorem zf5 (a:PA):PAle a a:=by
 cases a with
 | one p=>exact .one (.rfl p)
 | agg l=>exact .agg (ze6 .rfl l)
def Wk (K:List PA→Prop) (l:List PA):Prop:=∃ l',RL PAle l l'∧K l'
theorem wk {K:List PA→Prop} {l l':List PA} (hk:K l') (h:RL PAle l l'):Wk K l:=⟨l',h,hk⟩
theorem zed {K:List PA→Prop} {l:List PA} (hk:K l):Wk K l:=⟨l,ze6 zf5 l,hk⟩
theorem zIi {h:Fz} {p q:PV} {v:Value} (e:PVle p q) (r:Rep h p v):Rep h q v:=by
 cases e with
 | rfl=>exact r
 | nil s g=>cases r;exact .sl0 s g
 | nilm q=>cases r;exact .fmn q _ (fun _ _=>rfl)
theorem zAJ {α β γ : Type} {R : α → β → Prop} {S : α → γ → Prop} {T : γ → β → Prop} (h : ∀ a b c, S a c → R a b → T c b) : ∀ (l : List α) (m : List β) (k : List γ), RL S l k → RL R l m → RL T k m
  | [],[],[],_,_=>trivial
  | a :: l,b :: m,c :: k,hs,hr=>⟨h a b c hs.1 hr.1,zAJ h l m k hs.2 hr.2⟩
  | [],_ :: _,[],_,hr=>hr.elim
  | [],_,_ :: _,hs,_=>hs.elim
  | _ :: _,_,[],hs,_=>hs.elim
  | _ :: _,[],_ :: _,_,hr=>hr.elim
theorem zDt {h:Fz} {a b:PA} {v:Value} (e:PAle a b) (r:paR h a v):paR h b v:=by
 cases e with
 | one e=>exact zIi e r
 | agg e =>
  obtain ⟨vs,rfl,hv⟩:=r
  exact ⟨vs,rfl,zAJ (R:=Rep h) (S:=PVle) (T:=Rep h) (fun _ _ _ e r=>zIi e r) _ _ _ e hv⟩
theorem zIj {h:Fz} {l m:List PA} {v:Value} (e:RL PAle l m) (r:zz9 h l v):zz9 h m v:=by
 match l,m,e,r with
 | [a],[b],e,r=>exact zDt e.1 r
 | [],[],_,r=>exact r
 | a :: b :: l,c :: d :: m,e,r =>
  obtain ⟨vs,hv,hr⟩:=r
  exact ⟨vs,hv,zAJ (R:=paR h) (S:=PAle) (T:=paR h) (fun _ _ _ e r=>zDt e r) _ _ _ e hr⟩
 | [_],_ :: _ :: _,e,_=>exact e.2.elim
 | _ :: _ :: _,[_],e,_=>exact e.2.elim
 | [],_ :: _,e,_=>exact e.elim
 | _ :: _,[],e,_=>exact e.elim
theorem zhs {P : Program} {T : Tabs} (hT : TabsOk P T) {f : FuncId} {C : List PA → COut} (hc : zaf P f)
    (h:∀ args K,(C args).wp K→∃ args',RL PAle args args'∧∃ memo vv ann,vcFun P (csm T memo vv) ann f args' (Wk K)):Ok P f C:=by
  intro args K hK w h0 vs hvs hfz
  obtain ⟨args',hle,memo,vv,ann,hv⟩:=h args K hK
  refine ⟨hc,(zuP (hT.all memo vv) hv (zAJ (R:=paR h0) (S:=PAle) (T:=paR h0) (fun _ _ _ e r=>zDt e r) _ _ _ hle hvs) hfz).mono ?_⟩
  rintro e w' ⟨h',rs,v,⟨rs',hr,hk⟩,he,hres,rest⟩
  exact ⟨h',rs',v,hk,he,zIj hr hres,rest⟩
/-! Maps, as typed values; the keys of a map. -/
structure Mp where
  n:Nat
  F:List Int→Option (List Int)
instance:Inhabited Mp:=⟨⟨0,fun _=>none⟩⟩

def zIk (m:Nat) (F:List Int→Option (List Int)) (seen ys:List (List Int)):Prop :=
 ys.Nodup∧(∀ y∈ys,y.length=m∧F y ≠ none∧y ∉ seen)∧∀ c,c.length=m→F c ≠ none→c ∉ seen→c∈ys
def nodupB : List (List Int) → Bool
  | []=>true
  | y :: r=>!r.contains y && nodupB r
def keysB (m n:Nat) (F:List Int→Option (List Int)) (ys:List (List Int)):Bool :=
 Nat.beq ys.length n && ys.all (fun y=>Nat.beq y.length m && (F y).isSome) && nodupB ys
theorem zlk : ∀ {ys : List (List Int)}, nodupB ys = true ↔ ys.Nodup
  | []=>by simp [nodupB]
  | y :: r=>by simp [nodupB,zlk (ys:=r)]
theorem znZ {α : Type} [DecidableEq α] : ∀ {l m : List α}, l.Nodup → (∀ x ∈ l, x ∈ m) → m.length ≤ l.length → ∀ x ∈ m, x ∈ l
  | [],m,_,_,hl,x,hx=>by have:m=[]:=List.eq_nil_of_length_eq_zero (by simpa using hl);rw [this] at hx;exact hx
  | a :: l,m,hn,hs,hl,x,hx=>by
    have ha:=hs a List.mem_cons_self
    by_cases h:x=a
    · rw [h];exact List.mem_cons_self
    · have hx2 : x ∈ m.erase a := (List.mem_erase_of_ne h).2 hx
      have hn2:=List.nodup_cons.1 hn
      refine List.mem_cons_of_mem _ (znZ hn2.2 (fun z hz=>?_) ?_ x hx2)
      · have hza : z ≠ a := fun e => hn2.1 (e ▸ hz)
        exact (List.mem_erase_of_ne hza).2 (hs z (List.mem_cons_of_mem _ hz))
      · rw [List.length_erase_of_mem ha];simp at hl;omega
theorem zuV {m n:Nat} {F:List Int→Option (List Int)} {ys:List (List Int)} (h:keysB m n F ys=true) (hf:zHT m n F):zIk m F [] ys:=by
 simp only [keysB,Bool.and_eq_true,List.all_eq_true] at h
 obtain ⟨⟨h1,h2⟩,h3⟩:=h
 have h1:=Nat.eq_of_beq_eq_true h1
 have h3:=zlk.1 h3
 obtain ⟨ks,k1,k2,k3,k4⟩:=hf
 have hy:∀ y∈ys,y.length=m∧F y ≠ none:=fun y hy=>by
  obtain ⟨a,b⟩:=h2 y hy
  refine ⟨Nat.eq_of_beq_eq_true a,fun e=>?_⟩
  rw [e] at b;cases b
 refine ⟨h3,fun y hy'=>⟨(hy y hy').1,(hy y hy').2,by simp⟩,fun c hc hne _=>?_⟩
 exact znZ h3 (fun y hy'=>(k4 y (hy y hy').1).1 (hy y hy').2) (by rw [k1,h1];exact Nat.le_refl _) c ((k4 c hc).1 hne)
theorem zAK {m : Nat} {F : List Int → Option (List Int)} {seen ys : List (List Int)} (h : zIk m F seen ys) {c : List Int} (hc : c.length = m) (hF : F c ≠ none) (hs : c ∉ seen) :
  ys.Perm (c :: ys.erase c)∧zIk m F (c :: seen) (ys.erase c)∧(ys.erase c).length+1=ys.length:=by
 obtain ⟨h1,h2,h3⟩:=h
 have hm:=h3 c hc hF hs
 refine ⟨List.perm_cons_erase hm,⟨h1.erase c,fun y hy=>?_,fun d hd hdF hds=>?_⟩,?_⟩
 ·have := (List.Nodup.mem_erase_iff h1).1 hy
  obtain ⟨a,b,e⟩:=h2 y this.2
  exact ⟨a,b,by simp [this.1,e]⟩
 ·simp only [List.mem_cons, not_or] at hds
  exact (List.mem_erase_of_ne hds.1).2 (h3 d hd hdF hds.2)
 ·rw [List.length_erase_of_mem hm]
  have:0 < ys.length:=List.length_pos_of_mem hm
  omega
theorem zDu {m:Nat} {F:List Int→Option (List Int)} {seen ys:List (List Int)} (h:zIk m F seen ys) (he:∀ c,c.length=m→F c ≠ none→c∈seen):ys=[]:=by
 cases ys with
 | nil=>rfl
 | cons y r =>
  obtain ⟨a,b,e⟩:=h.2.1 y List.mem_cons_self
  exact (e (he y a b)).elim

end Go.Pm
namespace Go.Pm
open Go

theorem zaP {x:Int} (h1 : -9223372036854775808≤x) (h2:x≤9223372036854775807):w64 x=x:=by
 have hb:IntKind.i64.bits=64:=rfl
 have hs:IntKind.i64.signed=true:=rfl
 unfold w64 IntKind.wrap
 rw [hb,hs]
 simp only [Bool.true_and,decide_eq_true_eq]
 split <;> omega
def zkO (c : Nat → Bool) : Nat → Nat → Nat
  | 0,i=>i
  | m+1,i=>match c i with | true=>i | false=>zkO c m (i+1)
theorem zuW {c:Nat→Bool} {m i:Nat} (h:c i=true):zkO c (m+1) i=i:=by simp only [zkO,h]
theorem zuX {c:Nat→Bool} {m i:Nat} (h:c i=false):zkO c (m+1) i=zkO c m (i+1):=by simp only [zkO,h]
theorem zjH (c:Nat→Bool) (m i:Nat):i≤zkO c m i∧zkO c m i≤i+m∧(∀ j,i≤j→j < zkO c m i→c j=false)∧(zkO c m i < i+m→c (zkO c m i)=true):=by
 induction m generalizing i with
 | zero=>exact ⟨Nat.le_refl _,Nat.le_refl _,fun j h1 h2=>absurd h2 (by simp only [zkO];omega),fun h=>absurd h (by simp only [zkO];omega)⟩
 | succ m ih =>
  cases e:c i
  ·rw [zuX e]
   obtain ⟨h1,h2,h3,h4⟩:=ih (i+1)
   refine ⟨by omega,by omega,fun j hj1 hj2=>?_,fun h=>h4 (by omega)⟩
   by_cases hji:j=i
   ·rw [hji];exact e
   ·exact h3 j (by omega) hj2
  ·rw [zuW e]
   exact ⟨Nat.le_refl _,by omega,fun j h1 h2=>absurd h2 (by omega),fun _=>e⟩
def fst (c:Nat→Bool) (n:Nat):Nat:=zkO c n 0
theorem zBY (c:Nat→Bool) (n:Nat):fst c n≤n:=by have:=(zjH c n 0).2.1;simpa [fst] using this
theorem zBZ {c:Nat→Bool} {n j:Nat} (h:j < fst c n):c j=false:=(zjH c n 0).2.2.1 j (Nat.zero_le _) h
theorem zB0 {c:Nat→Bool} {n:Nat} (h:fst c n < n):c (fst c n)=true:=(zjH c n 0).2.2.2 (by simpa [fst] using h)
theorem zsa {α : Type} {c : α → Bool} {lpS : Nat → Sl α → Int → Int → Int} {lpP : Nat → Sl α → Int → Int → Bool}
    (hS:∀ k s t i,lpS (k+1) s t i=cond (decide (i < t)) (cond (c (s.get i.toNat)) i (lpS k s t (w64 (i+(1:Int))))) (-1:Int))
    (hP:∀ k s t i,lpP (k+1) s t i=cond (decide (i < t)) (decide (0≤i∧i < (s.len:Int)) && cond (c (s.get i.toNat)) true (lpP k s t (w64 (i+(1:Int))))) true)
    (s:Sl α) (hn:s.len≤9223372036854775807):lpP Fuel s (s.len:Int) 0=true∧lpS Fuel s (s.len:Int) 0=if fst (fun i=>c (s.get i)) s.len < s.len then ((fst (fun i=>c (s.get i)) s.len:Nat):Int) else -1:=by
  have key:∀ (m k i:Nat),i+m=s.len→m < k→lpP k s (s.len:Int) (i:Int)=true ∧
      lpS k s (s.len:Int) (i:Int)=if zkO (fun i=>c (s.get i)) m i < s.len then ((zkO (fun i=>c (s.get i)) m i:Nat):Int) else -1:=by
    intro m
    induction m with
    | zero =>
      intro k i hi hk
      obtain ⟨k,rfl⟩:∃ k',k=k'+1:=⟨k - 1,by omega⟩
      rw [hS,hP]
      have e:decide ((i:Int) < (s.len:Int))=false:=decide_eq_false (by omega)
      rw [e]
      have e5 : ¬ zkO (fun i=>c (s.get i)) 0 i < s.len:=by show ¬ i < s.len;omega
      rw [if_neg e5]
      exact ⟨rfl,rfl⟩
    | succ m ih =>
      intro k i hi hk
      obtain ⟨k,rfl⟩:∃ k',k=k'+1:=⟨k - 1,by omega⟩
      rw [hS,hP]
      have e:decide ((i:Int) < (s.len:Int))=true:=decide_eq_true (by omega)
      have e2:decide (0≤(i:Int)∧(i:Int) < (s.len:Int))=true:=decide_eq_true (by omega)
      have e3:w64 ((i:Int)+1)=((i+1:Nat):Int):=by rw [zaP (by omega) (by omega)];omega
      have e4:(i:Int).toNat=i:=by omega
      rw [e,e2,e3,e4]
      cases hc:c (s.get i)
      · rw [zuX (c := fun i => c (s.get i)) hc]
        exact ih k (i+1) (by omega) (by omega)
      · rw [zuW (c := fun i => c (s.get i)) hc, if_pos (by omega)]
        exact ⟨rfl,rfl⟩
  exact key s.len Fuel 0 (by omega) (by simp only [Fuel];omega)

theorem zsb {good : Nat → Bool} {fin : Bool} {n : Nat} {lpS lpP : Nat → Int → Bool}
    (hS:∀ (k i:Nat),i < n→lpS (k+1) (i:Int)=cond (good i) (lpS k (w64 ((i:Int)+(1:Int)))) false)
    (hE:∀ k,lpS (k+1) (n:Int)=fin)
    (hP:∀ (k i:Nat),i < n→lpP (k+1) (i:Int)=cond (good i) (lpP k (w64 ((i:Int)+(1:Int)))) true)
    (hPE:∀ k,lpP (k+1) (n:Int)=true) (hn:n≤9223372036854775807) :
    lpP Fuel 0=true∧(lpS Fuel 0=true↔(∀ i,i < n→good i=true)∧fin=true):=by
  have key:∀ (m k i:Nat),i+m=n→m < k→lpP k (i:Int)=true∧(lpS k (i:Int)=true↔(∀ j,i≤j→j < n→good j=true)∧fin=true):=by
    intro m
    induction m with
    | zero =>
      intro k i hi hk
      obtain ⟨k,rfl⟩:∃ k',k=k'+1:=⟨k - 1,by omega⟩
      have:i=n:=by omega
      subst this
      rw [hE,hPE]
      exact ⟨rfl,⟨fun h=>⟨fun j h1 h2=>absurd h2 (by omega),h⟩,fun h=>h.2⟩⟩
    | succ m ih =>
      intro k i hi hk
      obtain ⟨k,rfl⟩:∃ k',k=k'+1:=⟨k - 1,by omega⟩
      rw [hS k i (by omega),hP k i (by omega)]
      have e3:w64 ((i:Int)+1)=((i+1:Nat):Int):=by rw [zaP (by omega) (by omega)];omega
      rw [e3]
      obtain ⟨h1,h2⟩:=ih k (i+1) (by omega) (by omega)
      cases hg:good i
      · refine ⟨rfl, ⟨fun h => (by cases h), fun h => ?_⟩⟩
        have:=h.1 i (Nat.le_refl _) (by omega)
        rw [hg] at this;cases this
      · refine ⟨h1, h2.trans ⟨fun h => ⟨fun j hj1 hj2 => ?_, h.2⟩, fun h => ⟨fun j hj1 hj2 => h.1 j (by omega) hj2, h.2⟩⟩⟩
        by_cases hji:j=i
        · rw [hji];exact hg
        · exact h.1 j (by omega) hj2
  have:=key n Fuel 0 (by omega) (by simp only [Fuel];omega)
  simpa using this

end Go.Pm
namespace Go.Pm
open Go Go.Deep

theorem zAL (b o i j:Nat):((⟨b,o,none⟩:Addr).add i).add j=⟨b,o+i+j,none⟩:=by
 simp only [Addr.add]
 by_cases h1:i=0
 ·subst h1
  by_cases h2:j=0
  ·subst h2;rfl
  ·rw [if_neg h2];rfl
 ·rw [if_neg h1]
  by_cases h2:j=0
  ·subst h2;rfl
  ·rw [if_neg h2]
def H0 (w:World):Fz:=fun b=>(w.heap[b]?).map .fz
theorem hw_H0 (w:World):Hw (H0 w) w:=by
 intro b x h
 unfold H0 at h
 cases e:w.heap[b]? with
 | none=>rw [e] at h;cases h
 | some o=>rw [e] at h;cases h;exact ⟨o,rfl,rfl⟩
def wfI (x:Int):Prop:=-9223372036854775808≤x∧x≤9223372036854775807
section
variable {H:Type} {en:TypeId×Value→H} {P:Program} {w:World} {sp:Nat→Bool} {held:Bool}
def Rd (H:Type) (en:TypeId×Value→H) (P:Program) (w:World) (sp:Nat→Bool) (held:Bool) (t:TypeId) {α:Type} (enc:α→List PV) (wf:α→Prop):Prop :=
 ∀ (fuel:Nat) (cs:List Value) (x:DataW H×List MemPlace),DataW.trod en P w 0 sp held fuel t cs=some x→∃ a:α,RL (Rep (H0 w)) (enc a) cs∧wf a
theorem zIl {t:TypeId} (ht:P.underlying t=some (.int .i64)):Rd H en P w sp held t (fun x=>[.int .i64 x]) wfI:=by
 intro fuel cs x h
 obtain ⟨n,rfl,_,hw⟩:=DataW.trod_int ht h
 refine ⟨n,⟨.int _ _,trivial⟩,?_⟩
 simp only [Lit.wf,Bool.and_eq_true,decide_eq_true_eq] at hw
 exact ⟨hw.1,hw.2⟩
theorem zuY {t : TypeId} {fs : Array Field} (ht : P.underlying t = some (.struct fs)) {fuel : Nat} {cs : List Value} {x : DataW H × List MemPlace} (h : DataW.trod en P w 0 sp held fuel t cs = some x) :
  cs.length=P.cellsOf t∧∀ (i:Nat) (f:Field),fs[i]? = some f→∃ n y,DataW.trod en P w 0 sp held n f.type ((cs.drop f.offset).take (P.cellsOf f.type))=some y:=by
 obtain ⟨xs,n,_,_,hl,hx,hf⟩:=DataW.trod_struct ht h
 refine ⟨hl,fun i f hi=>?_⟩
 have hlt:i < xs.length:=by rw [hx];exact (Array.getElem?_eq_some_iff.1 hi).1
 exact ⟨n,xs[i],by rw [hf i f hi,List.getElem?_eq_getElem hlt]⟩
theorem zAM {t e : TypeId} {α : Type} [Inhabited α] {enc : α → List PV} {wf : α → Prop} {s : Nat} (ht : P.underlying t = some (.slice e)) (hc : P.cellsOf e = s) (hs : 0 < s) (hlen : ∀ a, (enc a).length = s)
    (hel:Rd H en P w sp held e enc wf):Rd H en P w sp held t (fun x:Sl α=>[.sl x.len s (fun i=>enc (x.get i))]) (fun x=>x.len≤9223372036854775807∧∀ i,i < x.len→wf (x.get i)):=by
  intro fuel cs x h
  rcases open_slice ht h with ⟨rfl,_⟩ | ⟨a,len,cap,m,n,D,Pl,rfl,_,hl,hm,hmm,_,hget⟩
  · exact ⟨⟨0,default⟩,⟨.sl0 _ _,trivial⟩,Nat.zero_le _,fun i hi=>absurd hi (Nat.not_lt_zero i)⟩
  · by_cases h0 : len = 0
    · subst h0
      exact ⟨⟨0,default⟩,⟨.sle _ _ _ _,trivial⟩,Nat.zero_le _,fun i hi=>absurd hi (Nat.not_lt_zero i)⟩
    · have hlm : len ≤ m := by rw [hmm]; split <;> omega
      rw [hc] at hget
      have hex:∀ i,i < len→∃ y:α,(∃ cs',w.cells? 0 (a.add (i * s)) s=some cs'∧RL (Rep (H0 w)) (enc y) cs')∧wf y:=by
        intro i hi
        obtain ⟨cs',h1,h2⟩:=hget i (by omega)
        obtain ⟨y,h3,h4⟩:=hel _ _ _ h2
        exact ⟨y,⟨cs',h1,h3⟩,h4⟩
      have hch:∃ f:Nat→α,∀ i,i < len→(∃ cs',w.cells? 0 (a.add (i * s)) s=some cs'∧RL (Rep (H0 w)) (enc (f i)) cs')∧wf (f i):=by
        refine ⟨fun i=>if hi:i < len then Classical.choose (hex i hi) else default,fun i hi=>?_⟩
        simp only [dif_pos hi]
        exact Classical.choose_spec (hex i hi)
      obtain ⟨f,hf⟩:=hch
      -- the block
      have hcell:∀ i,i < len→∀ j,j < s→∃ cs',w.cells? 0 (a.add (i * s)) s=some cs'∧RL (Rep (H0 w)) (enc (f i)) cs'∧w.cell? ((a.add (i * s)).add j)=cs'[j]?∧cs'.length=s:=by
        intro i hi j hj
        obtain ⟨⟨cs',h1,h2⟩,_⟩:=hf i hi
        obtain ⟨_,h3,h4⟩:=World.cells?_some h1
        exact ⟨cs',h1,h2,h4 j hj,h3⟩
      obtain ⟨cs0,_,_,hc0,hl0⟩:=hcell 0 (by omega) 0 hs
      have ha0:w.cell? a=cs0[0]?:=by simpa [Addr.add] using hc0
      rw [List.getElem?_eq_getElem (by omega)] at ha0
      obtain ⟨C,ty,fr,hblk,hspot⟩:∃ C ty fr,w.heap[a.block]? = some (.cells C ty fr)∧a.spot=none:=by
        unfold World.cell? at ha0
        split at ha0
        · rename_i C ty fr hb
          refine ⟨C,ty,fr,hb,?_⟩
          cases hsp:a.spot with
          | none=>rfl
          | some k=>rw [hsp] at ha0;simp at ha0
        · cases ha0
      have ea:a=⟨a.block,a.off,none⟩:=by rw [← hspot]
      have hat:∀ i j,i < len→j < s→∃ cs',RL (Rep (H0 w)) (enc (f i)) cs'∧C[a.off+i * s+j]? = cs'[j]?∧cs'.length=s:=by
        intro i j hi hj
        obtain ⟨cs',_,h2,h3,h4⟩:=hcell i hi j hj
        refine ⟨cs',h2,?_,h4⟩
        rw [← h3]
        have e2:(a.add (i * s)).add j=⟨a.block,a.off+i * s+j,none⟩:=(congrArg (fun z:Addr=>(z.add (i * s)).add j) ea).trans (zAL _ _ _ _)
        rw [e2]
        simp [World.cell?,hblk]
      refine ⟨⟨len,f⟩,⟨?_,trivial⟩,by simp only [maxLen] at hm;show len≤_;omega,fun i hi=>(hf i hi).2⟩
      rw [ea]
      refine .sl len s _ a.block a.off cap C ty fr (fun i j=>C.getD (a.off+i * s+j) undef) (by simp [H0,hblk]) hl (fun i _=>hlen _) ?_ ?_
      · intro i j x hi hx
        have hj:j < s:=by have:=(List.getElem?_eq_some_iff.1 hx).1;rw [hlen] at this;exact this
        obtain ⟨cs',h1,h2,h3⟩:=hat i j hi hj
        rw [Array.getD_eq_getD_getElem?,h2,List.getElem?_eq_getElem (by omega)]
        rfl
      · intro i j x hi hx
        have hj:j < s:=by have:=(List.getElem?_eq_some_iff.1 hx).1;rw [hlen] at this;exact this
        obtain ⟨cs',h1,h2,h3⟩:=hat i j hi hj
        obtain ⟨v,hv,hr⟩:=h1.get j x hx
        rw [Array.getD_eq_getD_getElem?,h2,hv]
        exact hr
theorem zht {α:Type} (l:List α) (o s:Nat):l.drop o=(l.drop o).take s ++ l.drop (o+s):=by
 rw [← List.drop_drop]
 exact (List.take_append_drop s (l.drop o)).symm
theorem okWide_agg {t:TypeId} {fs:Array Field} {r:Reach} {base:Nat} {v:Value} (ht:P.underlying t=some (.struct fs)) (h:Value.okWide P w r base t v):∃ cs,v=.agg cs:=by
 unfold Value.okWide at h
 rw [ht] at h
 obtain ⟨cs,hv,_⟩:=h
 exact ⟨cs,hv⟩
def zLs : TypeDesc → Bool
  | .struct _=>false
  | .array _ _=>false
  | _=>true
theorem okWide_one {t:TypeId} {d:TypeDesc} {r:Reach} {base:Nat} {v:Value} (ht:P.underlying t=some d) (hd:zLs d=true) (h:Value.okWide P w r base t v):v.cells.toList=[v]:=by
 unfold Value.okWide at h
 rw [ht] at h
 cases v with
 | agg cs =>
  exfalso
  cases d <;> first | (cases hd;done) | (simp only [Cell.okWide,Cell.ok,ht] at h)
 | _=>rfl
theorem pa_one {h:Fz} {p:PV} {v:Value} (hv:v.cells.toList=[v]) (r:RL (Rep h) [p] v.cells.toList):paR h (.one p) v:=by
 rw [hv] at r
 exact r.1
theorem pa_agg {h:Fz} {l:List PV} {v:Value} (hv:∃ cs,v=.agg cs) (r:RL (Rep h) l v.cells.toList):paR h (.agg l) v:=by
 obtain ⟨cs,rfl⟩:=hv
 exact ⟨cs.toList,by simp,r⟩
theorem below_H0 {w':World} (b:Bel (H0 w) w.heap.size w w'):Go.RowKit.Below w.heap.size w w' :=
 ⟨b.os,b.tape,b.output,b.size,fun k hk=>b.block k hk fun F e=>by
  unfold H0 at e
  cases hb:w.heap[k]? <;> rw [hb] at e <;> cases e⟩
end
end Go.Pm
/-
  DERIVED: THE SHELF's CONTRACTS AT THIS DUMP,IN PLAIN WORDS (tools/lay-plain.mjs out of 'YtkpjhhoafenogaaLs.lean',which tools/lay-shelf.mjs wrote): THE SAME DECLARATIONS UNDER THE SAME NAMES: 'import','namespace','open','def','theorem' AND NOTHING ELSE: no command of the shelf's: FOR A HAND-IN. Each laying: the table of numbers ('.._ren') and one theorem,a field a fact of the dump's own or the kernel's comparison;each contract: ONE APPLICATION.
-/
namespace Go.Proofs
open Go.Shelf
def Try.laysS106_ren:Go.Shelf.Ren:=⟨fun | 6=>106 | 15=>122 | 14=>121 | 28=>132 | 29=>133 | 20=>124 | 21=>125 | 22=>126 | 23=>127 | 24=>128 | 25=>129 | 26=>130 | 27=>131 | 46=>134 | 47=>135 | 48=>136 | 49=>137 | 50=>138 | 57=>139 | n=>n,fun | 22=>102 | 24=>118 | 25=>147 | 3=>3 | 39=>156 | 0=>0 | 53=>166 | 55=>168 | 4=>4 | 46=>159 | 45=>158 | 50=>163 | 5=>5 | 9=>9 | 66=>169 | 70=>173 | 76=>175 | 77=>143 | n=>n,fun | n=>n⟩
theorem Try.laysS106 : Go.Proofs.SlLaysF0.n6 Try.prog Try.laysS106_ren := {
  mixed:=by kernel_rfl
  f6:=⟨Try.f106.name,by decide,Try.func106.trans (congrArg some (by kernel_rfl))⟩
  f14:=⟨Try.f121.name,by decide,Try.func121.trans (congrArg some (by kernel_rfl))⟩
  f15:=Try.func122.trans (congrArg some (by kernel_rfl))
  f20:=⟨Try.f124.name,by decide,Try.func124.trans (congrArg some (by kernel_rfl))⟩
  f21:=⟨Try.f125.name,by decide,Try.func125.trans (congrArg some (by kernel_rfl))⟩
  f22:=⟨Try.f126.name,by decide,Try.func126.trans (congrArg some (by kernel_rfl))⟩
  f23:=⟨Try.f127.name,by decide,Try.func127.trans (congrArg some (by kernel_rfl))⟩
  f24:=⟨Try.f128.name,by decide,Try.func128.trans (congrArg some (by kernel_rfl))⟩
  f25:=⟨Try.f129.name,by decide,Try.func129.trans (congrArg some (by kernel_rfl))⟩
  f26:=⟨Try.f130.name,by decide,Try.func130.trans (congrArg some (by kernel_rfl))⟩
  f27:=⟨Try.f131.name,by decide,Try.func131.trans (congrArg some (by kernel_rfl))⟩
  f28:=Try.func132.trans (congrArg some (by kernel_rfl))
  f29:=Try.func133.trans (congrArg some (by kernel_rfl))
  f46:=⟨Try.f134.name,by decide,Try.func134.trans (congrArg some (by kernel_rfl))⟩
  f47:=Try.func135.trans (congrArg some (by kernel_rfl))
  f48:=Try.func136.trans (congrArg some (by kernel_rfl))
  f49:=⟨Try.f137.name,by decide,Try.func137.trans (congrArg some (by kernel_rfl))⟩
  f50:=⟨Try.f138.name,by decide,Try.func138.trans (congrArg some (by kernel_rfl))⟩
  f57:=⟨Try.f139.name,by decide,Try.func139.trans (congrArg some (by kernel_rfl))⟩
  t0:=Try.underlying0
  a0:=Try.isAgg0
  z0:=Try.sizeOf0
  v0:=Try.zeroValue0
  t3:=Try.underlying3
  a3:=Try.isAgg3
  z3:=Try.sizeOf3
  v3:=Try.zeroValue3
  t4:=Try.underlying4
  a4:=Try.isAgg4
  z4:=Try.sizeOf4
  v4:=Try.zeroValue4
  t5:=Try.underlying5
  a5:=Try.isAgg5
  z5:=Try.sizeOf5
  v5:=Try.zeroValue5
  t9:=Try.underlying9
  a9:=Try.isAgg9
  z9:=Try.sizeOf9
  v9:=Try.zeroValue9
  t22:=Try.underlying102
  a22:=Try.isAgg102
  z22:=Try.sizeOf102
  v22:=Try.zeroValue102
  t25:=Try.underlying147
  a25:=Try.isAgg147
  z25:=Try.sizeOf147
  v25:=Try.zeroValue147
  t39:=Try.underlying156
  a39:=Try.isAgg156
  z39:=Try.sizeOf156
  v39:=Try.zeroValue156
  t45:=Try.underlying158
  a45:=Try.isAgg158
  z45:=Try.sizeOf158
  v45:=Try.zeroValue158
  t46:=Try.underlying159
  a46:=Try.isAgg159
  z46:=Try.sizeOf159
  v46:=Try.zeroValue159
  t50:=Try.underlying163
  a50:=Try.isAgg163
  z50:=Try.sizeOf163
  v50:=Try.zeroValue163
  t53:=Try.underlying166
  a53:=Try.isAgg166
  z53:=Try.sizeOf166
  v53:=Try.zeroValue166
  t55:=Try.underlying168
  a55:=Try.isAgg168
  z55:=Try.sizeOf168
  v55:=Try.zeroValue168
  t66:=Try.underlying169
  a66:=Try.isAgg169
  z66:=Try.sizeOf169
  v66:=Try.zeroValue169
  t70:=Try.underlying173
  a70:=Try.isAgg173
  z70:=Try.sizeOf173
  v70:=Try.zeroValue173
  t76:=Try.underlying175
  a76:=Try.isAgg175
  z76:=Try.sizeOf175
  v76:=Try.zeroValue175
  t77:=Try.underlying143
  a77:=Try.isAgg143
  z77:=Try.sizeOf143
  v77:=Try.zeroValue143 }
end Go.Proofs
namespace Go.Pm
open Go.Shelf Go.RowKit Go.Lib Go.Sort Go.Proofs

section perm
variable {c:Nat→Nat→Int}
theorem zg2 (x : Nat) : ∀ l : List Nat, (zz4 c x l).Perm (x :: l)
  | []=>.refl _
  | y :: r=>by
    unfold zz4
    split
    · exact .refl _
    · exact ((zg2 x r).cons y).trans (.swap _ _ _)
theorem zll (n:Nat):(ztb n c).Perm (List.range n):=by
 unfold ztb
 generalize List.range n=l
 induction l with
 | nil=>exact .refl _
 | cons x l ih=>exact (zg2 x _).trans (ih.cons x)
def leB (c:Nat→Nat→Int) (a b:Nat):Prop:=¬ c b a < 0
theorem zuZ {n : Nat} (H : STO n c) {x : Nat} (hx : x < n) : ∀ {l : List Nat}, (∀ y ∈ l, y < n) → l.Pairwise (leB c) → (zz4 c x l).Pairwise (leB c)
  | [],_,_=>by simp [zz4]
  | y :: r,hl,hp=>by
    have hy:=hl y List.mem_cons_self
    rw [List.pairwise_cons] at hp
    unfold zz4
    split
    · rename_i h
      have h:=of_decide_eq_true h
      rw [List.pairwise_cons]
      refine ⟨fun z hz=>?_,List.pairwise_cons.2 hp⟩
      have hxy:leB c x y:=fun h2=>by
        have:=H.1 x hx
        have:=H.2.2 x y x hx hy hx h h2
        omega
      rcases List.mem_cons.1 hz with rfl | hz
      · exact hxy
      · intro h2
        exact hp.1 z hz (H.2.2 z x y (hl z (List.mem_cons_of_mem _ hz)) hx hy h2 h)
    · rename_i h
      have h:=of_decide_eq_false h
      rw [List.pairwise_cons]
      refine ⟨fun z hz=>?_,zuZ H hx (fun z hz=>hl z (List.mem_cons_of_mem _ hz)) hp.2⟩
      rcases List.mem_cons.1 ((zg2 x r).mem_iff.1 hz) with rfl | hz
      · exact h
      · exact hp.1 z hz
theorem zAN {n:Nat} (H:STO n c):(ztb n c).Pairwise (leB c):=by
 have key:∀ l:List Nat,(∀ y∈l,y < n)→(l.foldr (zz4 c) []).Pairwise (leB c)∧∀ y∈l.foldr (zz4 c) [],y < n:=by
  intro l
  induction l with
  | nil=>intro _;exact ⟨List.Pairwise.nil,fun y hy=>by simp at hy⟩
  | cons x l ih =>
   intro h
   obtain ⟨h1,h2⟩:=ih fun y hy=>h y (List.mem_cons_of_mem _ hy)
   have hx:=h x List.mem_cons_self
   refine ⟨zuZ H hx h2 h1,fun y hy=>?_⟩
   rcases List.mem_cons.1 ((zg2 x _).mem_iff.1 hy) with rfl | hy
   ·exact hx
   ·exact h2 y hy
 exact (key _ fun y hy=>List.mem_range.1 hy).1
theorem ztB {n:Nat} (H:STO n c) {l:List Nat} (hp:l.Perm (List.range n)) (hs:l.Pairwise (leB c)):l=ztb n c:=by
 refine List.Perm.eq_of_pairwise (le:=leB c) (fun a b ha hb h1 h2=>?_) hs (zAN H) (hp.trans (zll n).symm)
 have ha:=List.mem_range.1 (hp.mem_iff.1 ha)
 have hb:=List.mem_range.1 ((zll n).mem_iff.1 hb)
 by_cases e:a=b
 ·exact e
 ·rcases H.2.1 a b ha hb e with h | h
  ·exact absurd h.1 h2
  ·exact absurd h.1 h1
end perm

theorem zu0 {w w':World} (h1:w'.heap=w.heap) (h2:w'.tape=w.tape) (h3:w'.drawn=w.drawn) (h4:w'.os=w.os) (h5:w'.output=w.output):w'=w:=by
 cases w;cases w';simp_all
theorem zAO {w w':World} {h:Fz} (b:Bel h w.heap.size w w') (hi:∀ k F,h k ≠ some (.inv F)):∃ q os,w'=grow (w.drewN q) os:=by
 refine ⟨w'.drawn - w.drawn,w'.heap.extract w.heap.size w'.heap.size,zu0 ?_ b.tape ?_ b.os b.output⟩
 ·show w'.heap = w.heap ++ w'.heap.extract w.heap.size w'.heap.size
  apply Array.ext_getElem?
  intro i
  rw [Array.getElem?_append]
  split
  ·rename_i hl;exact b.block i hl (fun F=>hi i F)
  ·rename_i hl
   rw [Array.getElem?_extract]
   by_cases hlt:i < w'.heap.size
   ·rw [if_pos (by omega)];congr 1;omega
   ·rw [if_neg (by omega),Array.getElem?_eq_none (by omega)]
 ·show w'.drawn = w.drawn + (w'.drawn - w.drawn)
  have:=b.drawn;omega

theorem zn0 {w : World} {g q : Nat} {cur : Array Value} {e : TypeId} {fr : Nat × Nat} {off : Nat} (F : Array Value) (hb : w.heap[g]? = some (.cells cur e fr)) :
  ∃ cur',(putRow id (Sort.ahead w q) g off F).heap[g]? = some (.cells cur' e fr)∧cur'.size=cur.size:=by
 refine ⟨putCells id off F cur,?_,by simp [putCells]⟩
 simp [putRow,mapBlock,Sort.ahead,Array.getElem?_modify,hb,onCells]
theorem zjI {w:World} {g q off:Nat} (F:Array Value) {k:Nat} (hk:k ≠ g):(putRow id (Sort.ahead w q) g off F).heap[k]? = w.heap[k]?:=by
 simp [putRow,mapBlock,Sort.ahead,Array.getElem?_modify,Ne.symm hk]

theorem zu1 {P:Program} {ρ:Ren} (L:SlLaysF0.n6 P ρ) {e s b:Nat} (he:ρ.t 24=e) (hag:zem P e=some true) (hsz:szT P e=some s) (hM : ¬ znl) (hc:zaf P (ρ.f 6)):zlw P (ρ.f 6) (.sort e s b):=by
 intro w h base v n get gf caps cv ag C hC hcv hag' _ hpos ⟨xs,hown,hr⟩ hone hw hob hbase hn hS hO
 rw [hag] at hag';simp only [Option.some.injEq] at hag';subst hag'
 refine ⟨hc,?_⟩
 have hni:∀ k F,h k ≠ some (.inv F):=fun k F hk=>by obtain ⟨o,_,ho⟩:=hw k _ hk;exact hM ho.2
 have hdr:∀ (w':World) (k:Nat),w.drawn≤w.drawn+k:=fun _ k=>Nat.le_add_right _ _
 have none:∀ (p:Option Addr) (cap:Nat),n=0→v=.slice p 0 cap→Calls P (ρ.f 6) #[v,.func (.func gf) #[] cv.toArray] w fun r w'=>r=.returned (.tuple #[])∧zHG h w' base e s v n (zoN n (ztQ C caps true get) get)∧GrB w w' v.ownBlock:=by
  rintro p cap rfl rfl
  refine (AnyF.slices_SortFunc_none L p cap _ w).mono ?_
  rintro r w' ⟨rfl,rfl⟩
  exact ⟨rfl,⟨xs,hown,fun i hi=>absurd hi (Nat.not_lt_zero i)⟩,⟨rfl,rfl,rfl,Nat.le_refl _,fun _ _ _=>rfl⟩,Nat.le_refl _⟩
 rcases hown.2 with ⟨h1,h2⟩ | ⟨blk,cap,cur,rfl,hb,hcell,hncap,hcap,hcs,htk⟩
 ·exact none _ _ h2 h1
 by_cases hn0:n=0
 ·subst hn0;exact none _ _ rfl rfl
 have:Inhabited (Fin n):=⟨⟨0,by omega⟩⟩
 let enc:Fin n→List Value:=fun i=>(xs.drop (i.val * s)).take s
 let c:=ztQ C caps true get
 let cf:Fin n→Fin n→Int:=fun x y=>c x.val y.val
 let d:Array (Fin n):=Array.ofFn id
 have hds:d.size=n:=Array.size_ofFn
 have hdi:∀ i (hi:i < n),d[i]! = ⟨i,hi⟩:=fun i hi=>by
  rw [getElem!_pos d i (by rw [hds];exact hi)];simp [d]
 have hlt:blk < w.heap.size:=(Array.getElem?_eq_some_iff.1 hcell).1
 have hbn:h blk=Option.none:=hob blk rfl
 have hmul:∀ i,i < n→i * s+s≤n * s:=fun i hi=>by have:=Nat.mul_le_mul_right s (Nat.succ_le_of_lt hi);rw [Nat.succ_mul] at this;exact this
 have hk:∀ x,(enc x).length=s:=fun x=>by
  have:=hmul x.val x.isLt
  simp only [enc,List.length_take,List.length_drop,hown.1];omega
 have hcur:∀ j,j < n * s→cur[j]? = xs[j]?:=fun j hj=>by
  have:(cur.toList.take (n * s))[j]? = xs[j]?:=by rw [htk]
  rw [List.getElem?_take,if_pos hj] at this;simpa using this
 have hxl:∀ j,j < n * s→∃ u,xs[j]? = some u:=fun j hj=>⟨xs[j]'(by rw [hown.1];exact hj),List.getElem?_eq_getElem _⟩
 have h1:∀ x,∀ u∈enc x,u.oneCell'=true:=fun x u hu=>by
  obtain ⟨j,hj⟩:=List.getElem?_of_mem hu
  obtain ⟨p,_,hp⟩:=(hr x.val x.isLt).get' j u hj
  exact hp.one
 have hflat:∀ j (hj:j < n * s),(flatK enc s d)[j]! = xs[j]'(by rw [hown.1];exact hj):=fun j hj=>by
  have hq:j / s < n:=Nat.div_lt_of_lt_mul (by rw [Nat.mul_comm];exact hj)
  rw [get_flatK _ _ _ _ (by rw [hds];exact hj),hdi _ hq]
  have hm:=Nat.mod_lt j hpos
  have hdm:=Nat.div_add_mod j s
  rw [getElem!_pos _ _ (by rw [hk];exact hm)]
  simp only [enc,List.getElem_take,List.getElem_drop]
  congr 1
  rw [Nat.mul_comm];exact hdm
 have hH:HoldsK enc s w blk 0 d:=fun j hj=>by
  have hj:j < n * s:=by rw [size_flatK,hds] at hj;exact hj
  refine ⟨?_,frozen_of_row w blk _ cur e hcell⟩
  rw [hflat j hj,cell_of hcell,Nat.zero_add,hcur j hj]
  exact List.getElem?_eq_getElem _
 have eg:∀ args w,(callFunc gf args).run P w=.ok (.enter gf args) w:=by
  have hcg:zaf P gf:=by
   have hs0:=hS 0 0 (by omega) (by omega)
   unfold zHF at hs0
   split at hs0
   ·rename_i s0 c0 hat
    have hwp:(C (elP true (get 0) :: elP true (get 0) :: caps.map .one)).wp (fun _=>True):=by
     unfold zz3 at hat
     split at hat
     ·rename_i e1;rw [e1];trivial
     ·rename_i e1;simp only [Option.some.injEq,Prod.mk.injEq] at hat;rw [e1];exact ⟨by rw [hat.1];exact hs0,trivial⟩
     ·cases hat
    exact (hC _ _ hwp w h (.agg (enc ⟨0,by omega⟩).toArray :: .agg (enc ⟨0,by omega⟩).toArray :: cv) ⟨⟨_,rfl,hr 0 (by omega)⟩,⟨_,rfl,hr 0 (by omega)⟩,RL.map_left.2 hcv⟩ hw).1
   ·exact hs0.elim
  exact fun args w=>zcZ hcg
 have hcmp:CmpLays P gf cv.toArray enc s cf blk 0 d.size w:=by
  intro m os dk hdk x y
  have hs0:=hS x.val y.val x.isLt y.isLt
  unfold zHF at hs0
  split at hs0
  ·rename_i s0 c0 hat
   have hwp:(C (elP true (get x.val) :: elP true (get y.val) :: caps.map .one)).wp (fun rs=>rs=[.one (.int .i64 (cf x y))]):=by
    have hcv:cf x y=c0:=by show ztQ C caps true get x.val y.val=c0;unfold ztQ;rw [hat]
    rw [hcv]
    unfold zz3 at hat
    split at hat
    ·rename_i e1;simp only [Option.some.injEq,Prod.mk.injEq] at hat;rw [e1,hat.2];rfl
    ·rename_i e1;simp only [Option.some.injEq,Prod.mk.injEq] at hat;rw [e1,hat.2];exact ⟨by rw [hat.1];exact hs0,rfl⟩
    ·cases hat
   have hwh:Hw h (sortWorldK enc s w blk 0 m dk os):=hw.same fun k o hk=>by
    have hkb:k ≠ blk:=fun e=>by rw [e,hbn] at hk;cases hk
    have hkl:=hw.lt hk
    show ((putRow id (Sort.ahead w m) blk 0 (flatK enc s dk)).heap ++ os)[k]? = _
    rw [Array.getElem?_append_left (by simpa [putRow,mapBlock,Sort.ahead] using hkl)]
    exact zjI _ hkb
   obtain ⟨_,hrun⟩:=hC _ _ hwp (sortWorldK enc s w blk 0 m dk os) h (.agg (enc x).toArray :: .agg (enc y).toArray :: cv) ⟨⟨_,rfl,hr x.val x.isLt⟩,⟨_,rfl,hr y.val y.isLt⟩,RL.map_left.2 hcv⟩ hwh
   rw [show (#[Value.agg (enc x).toArray,.agg (enc y).toArray] ++ cv.toArray)=(Value.agg (enc x).toArray :: .agg (enc y).toArray :: cv).toArray by simp]
   refine hrun.mono ?_
   rintro e' w' ⟨h',rs,v',hrs,rfl,hres,hbel,_,_,_⟩
   subst hrs
   have hv':v'=.int .i64 (cf x y):=by
    have:Rep h' (.int .i64 (cf x y)) v':=hres
    cases this;rfl
   subst hv'
   exact ⟨rfl,zAO hbel hni⟩
  ·exact hs0.elim
 have hSWO:SWO (ltOf cf):=by
  refine ⟨fun x=>?_,fun x y z hxy hyz=>?_,fun x y z hxy hyz=>?_⟩
  ·have : 0 ≤ c x.val x.val := hO.1 x.val x.isLt
   simp only [ltOf,decide_eq_false_iff_not];show ¬ c x.val x.val < 0;omega
  ·simp only [ltOf, decide_eq_true_eq] at hxy hyz ⊢
   exact hO.2.2 _ _ _ x.isLt y.isLt z.isLt hxy hyz
  ·simp only [ltOf, decide_eq_false_iff_not] at hxy hyz ⊢
   intro hxz
   have hxy : ¬ c x.val y.val < 0:=hxy
   have hyz : ¬ c y.val z.val < 0:=hyz
   have hxz:c x.val z.val < 0:=hxz
   by_cases e1:y.val=z.val
   ·rw [e1] at hxy;exact hxy hxz
   ·by_cases e2 : x.val = y.val
    ·rw [e2] at hxz;exact hyz hxz
    ·have a1 : c z.val y.val < 0 := by rcases hO.2.1 y.val z.val y.isLt z.isLt e1 with h | h; exact absurd h.1 hyz; exact h.1
     exact hxy (hO.2.2 _ _ _ x.isLt z.isLt y.isLt hxz a1)
 have aE:∀ w,(isAgg (ρ.t 24)).run P w=.ok true w:=fun w=>by rw [he];exact zdz hag
 have zE:∀ w,(Go.sizeOf (ρ.t 24)).run P w=.ok s w:=fun w=>by rw [he];exact run_sizeOf hsz
 have hrun:=AnyQ.slices_SortFunc L s aE zE enc hk h1 cf hSWO gf cv.toArray blk 0 cap d w eg hcmp hH hlt (by rw [hds];omega)
 rw [hds] at hrun
 refine hrun.mono ?_
 rintro r w' ⟨rfl,d',m,os,hperm,hsort,rfl⟩
 obtain ⟨hps,_,hpp⟩:=hperm
 have hd's:d'.size=n:=by rw [hps,hds]
 have hall:∀ (z:Array (Fin n)),z.size=n→z.extract 0 n=z:=fun z hz=>Array.ext (by simp [hz]) (fun i h1 h2=>by simp)
 rw [hall d' hd's,hall d hds] at hpp
 have hl:d'.toList.map Fin.val=ztb n c:=by
  refine ztB hO ?_ ?_
  ·refine (hpp.map Fin.val).trans ?_
   have:d.toList.map Fin.val=List.range n:=by
    apply List.ext_getElem?
    intro i
    simp only [d,List.getElem?_map]
    by_cases hi:i < n
    ·simp [hi]
    ·rw [List.getElem?_eq_none (by simp;omega),List.getElem?_eq_none (by simp;omega)];rfl
   rw [this]
  ·rw [List.pairwise_map, List.pairwise_iff_getElem]
   intro i j hi hj hij
   have hi':i < n:=by simpa [hd's] using hi
   have hj':j < n:=by simpa [hd's] using hj
   have:=hsort i j (Nat.zero_le _) hij hj'
   rw [getElem!_pos d' j (by omega),getElem!_pos d' i (by omega)] at this
   simp only [ltOf,decide_eq_false_iff_not] at this
   exact this
 have hget:∀ i (hi:i < n),zoN n c get i=get (d'[i]'(by omega)).val:=fun i hi=>by
  unfold zoN
  rw [← hl]
  congr 1
  rw [List.getD_eq_getElem?_getD,List.getElem?_map]
  simp [hd's,hi]
 obtain ⟨cur',hcell',hsz'⟩:=zn0 (q:=m) (off:=0) (flatK enc s d') hcell
 have hgrow:(sortWorldK enc s w blk 0 m d' os).heap[blk]? = some (.cells cur' e (0,0)):=by
  show ((putRow id (Sort.ahead w m) blk 0 (flatK enc s d')).heap ++ os)[blk]? = _
  rw [Array.getElem?_append_left (by simpa [putRow,mapBlock,Sort.ahead] using hlt)]
  exact hcell'
 have hH':HoldsK enc s (sortWorldK enc s w blk 0 m d' os) blk 0 d':=holdsK_sortWorldK_c enc s w blk 0 d d' m os hH hlt (by rw [hd's,hds])
 have hcur':∀ j (hj:j < n * s),cur'[j]? = some ((flatK enc s d')[j]!):=fun j hj=>by
  have:=(hH' j (by rw [size_flatK,hd's];exact hj)).1
  rw [cell_of hgrow,Nat.zero_add] at this
  exact this
 refine ⟨rfl,⟨cur'.toList.take (n * s),⟨by rw [List.length_take,Array.length_toList,hsz',hcs];exact Nat.min_eq_left (Nat.mul_le_mul_right s hncap),.inr ⟨blk,cap,cur',rfl,hb,hgrow,hncap,hcap,by rw [hsz',hcs],rfl⟩⟩,fun i hi=>?_⟩,?_⟩
 ·have e1:((cur'.toList.take (n * s)).drop (i * s)).take s=enc (d'[i]'(by omega)):=by
   apply List.ext_getElem?
   intro j
   have hm:=hmul i hi
   rw [List.getElem?_take]
   split
   ·rename_i hj
    rw [List.getElem?_drop,List.getElem?_take,if_pos (by omega),Array.getElem?_toList,hcur' _ (by omega)]
    have hdiv:(i * s+j) / s=i:=by rw [Nat.mul_comm,Nat.mul_add_div hpos,Nat.div_eq_of_lt hj,Nat.add_zero]
    have hmod:(i * s+j) % s=j:=by rw [Nat.mul_comm,Nat.mul_add_mod,Nat.mod_eq_of_lt hj]
    rw [get_flatK _ _ _ _ (by rw [hd's];omega),hdiv,hmod,getElem!_pos d' i (by omega),getElem!_pos _ _ (by rw [hk];exact hj)]
    exact (List.getElem?_eq_getElem _).symm
   ·rename_i hj
    rw [List.getElem?_eq_none (by rw [hk];omega)]
  rw [e1,hget i hi]
  exact hr _ (d'[i]'(by omega)).isLt
 ·refine ⟨⟨rfl, rfl, rfl, ?_, fun k hk hne => ?_⟩, Nat.le_add_right _ _⟩
  ·show w.heap.size ≤ ((putRow id (Sort.ahead w m) blk 0 (flatK enc s d')).heap ++ os).size
   simp [putRow,mapBlock,Sort.ahead]
  ·show ((putRow id (Sort.ahead w m) blk 0 (flatK enc s d')).heap ++ os)[k]? = _
   rw [Array.getElem?_append_left (by simpa [putRow,mapBlock,Sort.ahead] using hk)]
   exact zjI _ fun e=>hne (by rw [e];rfl)
end Go.Pm
namespace Go.Pm

abbrev zI (x:Int):DV:=.one (.c (.p (.int .i64 x)))
abbrev zB (x:Bool):DV:=.one (.c (.p (.bool x)))
abbrev zP (x:PV):DV:=.one (.c (.p x))
abbrev zp (L k:Nat):DV:=.one (.c (.ptr L k))
abbrev zv (L:Nat):DV:=.one (.c (.vec L))
abbrev zs {α:Type} (enc:α→List PV) (s:Nat) (x:Sl α):PV:=.sl x.len s (fun i=>enc (x.get i))
abbrev zS {α:Type} (enc:α→List PV) (s:Nat) (x:Sl α):DV:=zP (zs enc s x)
abbrev zm (l:List PV):List Cl:=l.map Cl.p
abbrev zi (x:Int):Cl:=.p (.int .i64 x)
abbrev zg {α:Type} (enc:α→List PV) (x:Sl α):Nat→List PV:=fun i=>enc (x.get i)
abbrev zK (a b:List Nat):Keep:=⟨a,b,[],[],[],[],[]⟩
theorem zE {α:Type} (enc:α→List PV) (size:Nat) (f:Nat→α):IsE enc size size (fun i=>enc (f i)):=⟨rfl,f,rfl⟩

@[reducible] def lpO {A : Type} (d : A) (st : A → A) : Nat → A
  | 0=>d
  | k+1=>st (lpO d st k)
theorem zeV {A B : Type} (a : A) (b : B) (p : A → A) (s : B → B) (M : A → B → Prop) (h0 : M a b) (h1 : ∀ P S, M P S → M (p P) (s S)) : ∀ k, M (lpO a p k) (lpO b s k)
  | 0=>h0
  | k+1=>h1 _ _ (zeV a b p s M h0 h1 k)
section
variable (P:Program) (Γ:Ctrs) (ann:Ann)
def pt : Code → (Exit → St → Prop) → List Nat → List (St → Prop) → St → Prop
  | .seq a b,K,i :: r,X=>match i with | 0=>pt a (sqK P Γ ann b K) r X | _=>pt b K r X
  | .cond _ a b,K,i :: r,X=>match i with | 0=>pt a K r X | _=>pt b K r X
  | .block id b,K,_ :: r,X=>pt b (zaY id K) r X
  | .loop b,K,_ :: r,x :: X=>pt b (zdV P ann (zkW b) x K) r X
  | .scope b,K,_ :: r,X=>pt b (zb3 K) r X
  | c,K,_,_=>vc P Γ ann c K
def ptF (fn:Func) (K:List PA→Prop) (l:List Nat) (X:List (St→Prop)):St→Prop :=
 match fn.body with
 | some c=>pt P Γ ann c (zci P fn K) l X
 | none=>fun _=>False
end

theorem zc {b:Bool} {A B:Prop} {S S':Bool} {α:Type} {e:α→List PA} {K:List PA→Prop} {x y:α} (hs:cond b S S'=true) (hk:K (e (cond b x y))) (h1:S=true→K (e x)→A) (h2:S'=true→K (e y)→B):zcW b A B:=by
 cases b
 ·exact h2 hs hk
 ·exact h1 hs hk
theorem zt {b:Bool} {A B:Prop} {α:Type} {e:α→List PA} {K:List PA→Prop} {x y:α} (hk:K (e (cond b x y))) (h1:K (e x)→A) (h2:K (e y)→B):zcW b A B:=by
 cases b
 ·exact h2 hk
 ·exact h1 hk
theorem zl {at_:Prop} {g:St} (B:(St→Prop)→St→Prop) (e:at_ = ∀ X:St→Prop,(∀ s,B X s→X s)→X g) (h:∀ X:St→Prop,(∀ s,B X s→X s)→X g):at_:=e ▸ h
end Go.Pm
namespace Go.Proofs
open Go Go.Pm
set_option maxRecDepth 100000
set_option linter.unusedVariables false
attribute [local irreducible] Go.Pm.vcFun Go.Pm.vc Go.Pm.vcIter
abbrev zal (x:Int):List PV:=[.int .i64 x]
def zLt : List PV → Int
  | [.int .i64 x]=>x
  | _=>default
def zcN (g:Nat→List PV):Nat→Int:=fun i=>zLt (g i)
theorem zdv (f:Nat→Int):zcN (fun i=>zal (f i))=f:=rfl
structure Gate where
  Z:Int
  Low:Int
  High:Int
deriving Inhabited
abbrev enc_55 (x:Gate):List PV:=[.int .i64 x.Z,.int .i64 x.Low,.int .i64 x.High]
def zIm : List PV → Gate
  | [.int .i64 x_Z,.int .i64 x_Low,.int .i64 x_High]=>(⟨x_Z,x_Low,x_High⟩:Gate)
  | _=>default
def zad (g:Nat→List PV):Nat→Gate:=fun i=>zIm (g i)
theorem zac (f:Nat→Gate):zad (fun i=>enc_55 (f i))=f:=rfl
abbrev zIn (x:(Sl Gate)):List PV:=[.sl x.len 3 (fun i=>enc_55 (x.get i))]
structure Frac where
  Num:Int
  Den:Int
deriving Inhabited
abbrev zae (x:Frac):List PV:=[.int .i64 x.Num,.int .i64 x.Den]
def zIo : List PV → Frac
  | [.int .i64 x_Num,.int .i64 x_Den]=>(⟨x_Num,x_Den⟩:Frac)
  | _=>default
def zgn (g:Nat→List PV):Nat→Frac:=fun i=>zIo (g i)
theorem zey (f:Nat→Frac):zgn (fun i=>zae (f i))=f:=rfl
structure Line where
  Slope:Frac
  Start:Frac
deriving Inhabited
abbrev zav (x:Line):List PV:=[.int .i64 x.Slope.Num,.int .i64 x.Slope.Den,.int .i64 x.Start.Num,.int .i64 x.Start.Den]
def zIp : List PV → Line
  | [.int .i64 x_Slope_Num,.int .i64 x_Slope_Den,.int .i64 x_Start_Num,.int .i64 x_Start_Den]=>(⟨(⟨x_Slope_Num,x_Slope_Den⟩:Frac),(⟨x_Start_Num,x_Start_Den⟩:Frac)⟩:Line)
  | _=>default
def zjJ (g:Nat→List PV):Nat→Line:=fun i=>zIp (g i)
theorem zez (f:Nat→Line):zjJ (fun i=>zav (f i))=f:=rfl
structure Span where
  Low:Int
  High:Int
deriving Inhabited
abbrev zB1 (x:Span):List PV:=[.int .i64 x.Low,.int .i64 x.High]
structure list where
  Gates:(Sl Gate)
deriving Inhabited
abbrev zbW (x:list):List PV:=[.sl x.Gates.len 3 (fun i=>enc_55 (x.Gates.get i))]
structure straight where
  slope:Int
  start:Int
  den:Int
deriving Inhabited
abbrev zah (x:straight):List PV:=[.int .i64 x.slope,.int .i64 x.start,.int .i64 x.den]
def zDv : List PV → straight
  | [.int .i64 x_slope,.int .i64 x_start,.int .i64 x_den]=>(⟨x_slope,x_start,x_den⟩:straight)
  | _=>default
def zaR (g:Nat→List PV):Nat→straight:=fun i=>zDv (g i)
theorem zaM (f:Nat→straight):zaR (fun i=>zah (f i))=f:=rfl
structure set where
  list:list
  corners:(Sl straight)
deriving Inhabited
abbrev zaV (x:set):List PV:=[.sl x.list.Gates.len 3 (fun i=>enc_55 (x.list.Gates.get i)),.sl x.corners.len 3 (fun i=>zah (x.corners.get i))]
abbrev zcA (x:Mp):List PV:=[.fm (true,2,false,[some .i64]) x.n x.F]
end Go.Proofs
namespace Go.Proofs
open Go Go.Pm
set_option maxRecDepth 100000
set_option linter.unusedVariables false
attribute [local irreducible] Go.Pm.vcFun Go.Pm.vc Go.Pm.vcIter
abbrev T74:Tabs:=Tabs.nil
theorem zLu:TabsOk Try.prog T74:=TabsOk.nil
abbrev G74:Ctrs:=csm T74 (fun _ _=>[]) (fun _=>false)
def zIq:Ann:=⟨15,[(0,zK [0,1,2] []),(1,zK [6] [])],
 [],
 [],
 [],[]⟩
abbrev R74:=Bool
abbrev e74 (r:R74):List PA:=[.one (.bool r)]
section
variable {K:List PA→Prop} {x:Int} {low:Int} {high:Int}
def s74 (x:Int) (low:Int) (high:Int):Bool :=
  (cond (decide (x ≥ low))
 (decide (x≤high))
 false)
end
theorem q74 (x:Int) (low:Int) (high:Int) (K:List PA→Prop) (hk:K (e74 (s74 x low high))):vcFun Try.prog G74 zIq 74 [.one (.int .i64 x),.one (.int .i64 low),.one (.int .i64 high)] K :=
  zaw (by kernel_rfl) (zt hk (fun hk=>hk) (fun hk=>hk))
def zpk : List PA → COut
  | [.one (.int .i64 a0),.one (.int .i64 a1),.one (.int .i64 a2)]=>.tot [.one (.bool (s74 a0 a1 a2))]
  | _=>.no
theorem zIr:zaf Try.prog 74:=⟨_,rfl,rfl,by kernel_rfl⟩
theorem zIs:Ok Try.prog 74 zpk:=zay zLu zIr fun args K h=>by
  unfold zpk at h
  split at h
  · rename_i a0 a1 a2
    have hk:=h
    exact ⟨(fun _ _=>[]),(fun _=>false),zIq,q74 a0 a1 a2 K hk⟩
  · exact h.elim
abbrev T87:Tabs:=(Tabs.nil.addF 74 zpk)
theorem zLv:TabsOk Try.prog T87:=(TabsOk.nil.addF zIs)
abbrev G87:Ctrs:=csm T87 (fun _ _=>[]) (fun _=>false)
def zIt:Ann:=⟨23,[(0,zK [1] [1]),(1,zK [2] [])],
 [],
 [],
 [],[]⟩
abbrev R87:=Bool
abbrev e87 (r:R87):List PA:=[.one (.bool r)]
section
variable {K:List PA→Prop} {g:Gate}
def s87 (g:Gate):Bool :=
  (cond (s74 g.Z (0:Int) (100000:Int))
 (cond (decide (g.Low ≥ (-1000000:Int)))
 (cond (decide (g.Low ≤ g.High))
 (decide (g.High≤(1000000:Int)))
 false)
 false)
 false)
end
theorem q87 (g:Gate) (K:List PA→Prop) (hk:K (e87 (s87 g))):vcFun Try.prog G87 zIt 87 [.agg (enc_55 g)] K :=
  zaw (by kernel_rfl) (zt hk (fun hk=>(zt hk (fun hk=>(zt hk (fun hk=>hk) (fun hk=>hk))) (fun hk=>hk))) (fun hk=>hk))
def zAP : List PA → COut
  | [.agg [.int .i64 a0_Z,.int .i64 a0_Low,.int .i64 a0_High]]=>.tot [.one (.bool (s87 (⟨a0_Z,a0_Low,a0_High⟩:Gate)))]
  | _=>.no
theorem zIu:zaf Try.prog 87:=⟨_,rfl,rfl,by kernel_rfl⟩
theorem zNg:Ok Try.prog 87 zAP:=zay zLv zIu fun args K h=>by
  unfold zAP at h
  split at h
  · rename_i a0_Z a0_Low a0_High
    have hk:=h
    exact ⟨(fun _ _=>[]),(fun _=>false),zIt,q87 (⟨a0_Z,a0_Low,a0_High⟩:Gate) K hk⟩
  · exact h.elim
abbrev T64:Tabs:=((Tabs.nil.addF 74 zpk).addF 87 zAP)
theorem zLw:TabsOk Try.prog T64:=((TabsOk.nil.addF zIs).addF zNg)
abbrev G64:Ctrs:=csm T64 (fun _ _=>[]) (fun _=>false)
def zDw:Ann:=⟨18,[(0,zK [0] []),(1,zK [0,5,6,7] []),(2,zK [0,5,6,7,8] []),(3,zK [0,4,5,6,7] [4]),(4,zK [0,5,6,7,13] []),(5,zK [2] []),(6,zK [0,5,6,7] []),(7,zK [2] [])],
 [(2,zK [0,5,6,7] [])],
 [(5,zK [0,5,6,7,13] [])],
 [],[]⟩
abbrev R64:=Bool
abbrev e64 (r:R64):List PA:=[.one (.bool r)]
@[irreducible] def z64:=ptF Try.prog G64 zDw Try.f64
def zB2 (zaa:(Sl Gate)) (zaW:Int):St:=⟨[(0,zS enc_55 3 zaa),(5,zS enc_55 3 zaa),(6,zI (zaa.len:Int)),(7,zI zaW)],[],[]⟩
abbrev zDx (K:List PA→Prop) (zaa:(Sl Gate)) (X:St→Prop) (P:Int→Bool) (S:Int→Bool):Prop:=∀ ⦃zaW:Int⦄,P zaW=true→K (e64 (S zaW))→X (zB2 zaa zaW)
section
variable {K:List PA→Prop} {zaa:(Sl Gate)} {zaW:Int} {X0:St→Prop} {P0:Int→Bool} {S0:Int→Bool} {zgo:Int} {zpl:Bool}
def zpm (S0:Int→Bool) (zaa:(Sl Gate)) (zgo:Int) (zpl:Bool):Bool :=
  (cond zpl
 false
 (S0 (w64 (zgo+(1:Int)))))
def zpn (P0:Int→Bool) (zaa:(Sl Gate)) (zgo:Int) (zpl:Bool):Bool :=
  (cond zpl
 true
 (P0 (w64 (zgo+(1:Int)))))
theorem zDy (hX0:zDx K zaa X0 P0 S0) (hs:zpn P0 zaa zgo zpl=true) (hk:K (e64 (zpm S0 zaa zgo zpl))):z64 K [1,0,1,0,0,1,1,0,0,1,1] [X0] ⟨[(0,zS enc_55 3 zaa),(5,zS enc_55 3 zaa),(6,zI (zaa.len:Int)),(7,zI zgo),(13,zB zpl)],[],[]⟩:=zaw (by kernel_rfl) (zc hs hk (fun hs hk=>hk) (fun hs hk=>(hX0 hs hk)))
def zhu (zaa:(Sl Gate)) (S0:Int→Bool) (zaW:Int):Bool :=
  (cond (decide (zaW < (zaa.len : Int)))
 (zpm S0 zaa zaW (!(s87 (zaa.get zaW.toNat))))
 (s74 (zaa.len:Int) (1:Int) (24:Int)))
def zhv (zaa:(Sl Gate)) (P0:Int→Bool) (zaW:Int):Bool :=
  (cond (decide (zaW < (zaa.len : Int)))
 (decide ((0≤zaW∧zaW < (zaa.len:Int))) &&
 (zpn P0 zaa zaW (!(s87 (zaa.get zaW.toNat)))))
 true)
def zhw (zaa:(Sl Gate)):Nat→Int→Bool:=lpO (fun _=>default) (zhu zaa)
def zhx (zaa:(Sl Gate)):Nat→Int→Bool:=lpO (fun _=>false) (zhv zaa)
def zu3 (zaa:(Sl Gate)) (zaW:Int):Bool:=zhw zaa Fuel zaW
def zu4 (zaa:(Sl Gate)) (zaW:Int):Bool:=zhx zaa Fuel zaW
theorem zDz (hs:zu4 zaa zaW=true) (hk:K (e64 (zu3 zaa zaW))):z64 K [1,0,1,0] [] (zB2 zaa zaW) :=
  zl (fun X=>z64 K [1,0,1,0,0] [X]) (by kernel_rfl) fun X0 hX =>
  (show ∀ k, zDx K zaa X0 (zhx zaa k) (zhw zaa k) from zeV _ _ (zhv zaa) (zhu zaa) (zDx K zaa X0)
 (by intro _ hs;exact absurd hs Bool.false_ne_true)
 (by intro P0 S0 hX0 zaW hs hk;exact hX _ (zaw (by kernel_rfl) (zc hs hk (fun hs hk=>(zau hs fun hc hs=>And.intro hc (zDy hX0 hs hk))) (fun hs hk=>hk))))) _ hs hk
def s64 (zaa:(Sl Gate)):Bool :=
  (zu3 zaa (0:Int))
def p64 (zaa:(Sl Gate)):Bool :=
  (zu4 zaa (0:Int))
end
theorem q64 (zaa:(Sl Gate)) (K:List PA→Prop) (hs:p64 zaa=true) (hk:K (e64 (s64 zaa))):vcFun Try.prog G64 zDw 64 [.one (.sl zaa.len 3 (fun i=>enc_55 (zaa.get i)))] K :=
  zaw (by kernel_rfl) (zDz hs hk)
def ztC : List PA → COut
  | [.one (.sl a0_n a0_s a0_g)]=>.det (IsE enc_55 3 a0_s a0_g∧p64 (⟨a0_n,zad a0_g⟩:(Sl Gate))=true) [.one (.bool (s64 (⟨a0_n,zad a0_g⟩:(Sl Gate))))]
  | _=>.no
theorem zIv:zaf Try.prog 64:=⟨_,rfl,rfl,by kernel_rfl⟩
theorem zK6:Ok Try.prog 64 ztC:=zay zLw zIv fun args K h=>by
  unfold ztC at h
  split at h
  · rename_i a0_n a0_s a0_g
    obtain ⟨⟨⟨rfl,a0_f,rfl⟩,hs⟩,hk⟩:=h
    try rw [zac a0_f] at hs
    try rw [zac a0_f] at hk
    exact ⟨(fun _ _=>[]),(fun _=>false),zDw,q64 (⟨a0_n,a0_f⟩:(Sl Gate)) K hs hk⟩
  · exact h.elim
abbrev zNh:Tabs:=Tabs.nil
theorem zIw:TabsOk Try.prog zNh:=TabsOk.nil
abbrev zN0:Ctrs:=csm zNh (fun _ _=>[]) (fun _=>false)
def zB3:Ann:=⟨12,[(0,zK [1,2] [2]),(1,zK [3] [])],
 [],
 [],
 [],[]⟩
abbrev zN1:=Bool
abbrev zN2 (r:zN1):List PA:=[.one (.bool r)]
section
variable {K:List PA→Prop} {c0:list} {g:Gate}
def zDA (c0:list) (g:Gate):Bool :=
  (g.Z != (c0.Gates.get 0).Z)
def zDB (c0:list) (g:Gate):Bool :=
  (decide ((0≤(0:Int)∧(0:Int) < (c0.Gates.len:Int))) &&
 true)
end
theorem zN3 (c0:list) (g:Gate) (K:List PA→Prop) (hs:zDB c0 g=true) (hk:K (zN2 (zDA c0 g))):vcFun Try.prog zN0 zB3 100 [.agg (enc_55 g),.one (.fp (zbW c0) 0)] K :=
  zaw (by kernel_rfl) (zau hs fun hc hs=>And.intro hc hk)
def zu5 : List PA → COut
  | [.agg [.int .i64 a0_Z,.int .i64 a0_Low,.int .i64 a0_High],.one (.fp [.sl c0_Gates_n c0_Gates_s c0_Gates_g] 0)]=>.det (IsE enc_55 3 c0_Gates_s c0_Gates_g∧zDB (⟨(⟨c0_Gates_n,zad c0_Gates_g⟩:(Sl Gate))⟩:list) (⟨a0_Z,a0_Low,a0_High⟩:Gate)=true) [.one (.bool (zDA (⟨(⟨c0_Gates_n,zad c0_Gates_g⟩:(Sl Gate))⟩:list) (⟨a0_Z,a0_Low,a0_High⟩:Gate)))]
  | _=>.no
theorem zDC:zaf Try.prog 100:=⟨_,rfl,rfl,by kernel_rfl⟩
theorem zLx:Ok Try.prog 100 zu5:=zay zIw zDC fun args K h=>by
  unfold zu5 at h
  split at h
  · rename_i a0_Z a0_Low a0_High c0_Gates_n c0_Gates_s c0_Gates_g
    obtain ⟨⟨⟨rfl,c0_Gates_f,rfl⟩,hs⟩,hk⟩:=h
    try rw [zac c0_Gates_f] at hs
    try rw [zac c0_Gates_f] at hk
    exact ⟨(fun _ _=>[]),(fun _=>false),zB3,zN3 (⟨(⟨c0_Gates_n,c0_Gates_f⟩:(Sl Gate))⟩:list) (⟨a0_Z,a0_Low,a0_High⟩:Gate) K hs hk⟩
  · exact h.elim
abbrev zNi:Tabs:=(Tabs.nil.addF 74 zpk)
theorem zIx:TabsOk Try.prog zNi:=(TabsOk.nil.addF zIs)
abbrev zN4:Ctrs:=csm zNi (fun _ _=>[]) (fun _=>false)
def zB4:Ann:=⟨24,[(0,zK [2,3] [2,3]),(1,zK [4] [])],
 [],
 [],
 [],[]⟩
abbrev zN5:=Bool
abbrev e118 (r:zN5):List PA:=[.one (.bool r)]
section
variable {K:List PA→Prop} {s:straight} {g:Gate}
def zDD (s:straight) (g:Gate):Bool :=
  (s74 (w64 (s.start+(w64 (s.slope * g.Z)))) (w64 (g.Low * s.den)) (w64 (g.High * s.den)))
end
theorem zN6 (s:straight) (g:Gate) (K:List PA→Prop) (hk:K (e118 (zDD s g))):vcFun Try.prog zN4 zB4 118 [.agg (zah s),.agg (enc_55 g)] K :=
  zaw (by kernel_rfl) hk
def zu6 : List PA → COut
  | [.agg [.int .i64 a0_slope,.int .i64 a0_start,.int .i64 a0_den],.agg [.int .i64 a1_Z,.int .i64 a1_Low,.int .i64 a1_High]]=>.tot [.one (.bool (zDD (⟨a0_slope,a0_start,a0_den⟩:straight) (⟨a1_Z,a1_Low,a1_High⟩:Gate)))]
  | _=>.no
theorem zDE:zaf Try.prog 118:=⟨_,rfl,rfl,by kernel_rfl⟩
theorem zLy:Ok Try.prog 118 zu6:=zay zIx zDE fun args K h=>by
  unfold zu6 at h
  split at h
  · rename_i a0_slope a0_start a0_den a1_Z a1_Low a1_High
    have hk:=h
    exact ⟨(fun _ _=>[]),(fun _=>false),zB4,zN6 (⟨a0_slope,a0_start,a0_den⟩:straight) (⟨a1_Z,a1_Low,a1_High⟩:Gate) K hk⟩
  · exact h.elim
abbrev zNj:Tabs:=(Tabs.nil.addF 118 zu6)
theorem zIy:TabsOk Try.prog zNj:=(TabsOk.nil.addF zLy)
abbrev zN7:Ctrs:=csm zNj (fun _ _=>[]) (fun _=>false)
def zB5:Ann:=⟨8,[(0,zK [1,2] [2]),(1,zK [3] [])],
 [],
 [],
 [],[]⟩
abbrev zN8:=Bool
abbrev e117 (r:zN8):List PA:=[.one (.bool r)]
section
variable {K:List PA→Prop} {c0:straight} {g:Gate}
def zDF (c0:straight) (g:Gate):Bool :=
  (!(zDD c0 g))
end
theorem zN9 (c0:straight) (g:Gate) (K:List PA→Prop) (hk:K (e117 (zDF c0 g))):vcFun Try.prog zN7 zB5 117 [.agg (enc_55 g),.one (.fp (zah c0) 0)] K :=
  zaw (by kernel_rfl) hk
def zu7 : List PA → COut
  | [.agg [.int .i64 a0_Z,.int .i64 a0_Low,.int .i64 a0_High],.one (.fp [.int .i64 c0_slope,.int .i64 c0_start,.int .i64 c0_den] 0)]=>.tot [.one (.bool (zDF (⟨c0_slope,c0_start,c0_den⟩:straight) (⟨a0_Z,a0_Low,a0_High⟩:Gate)))]
  | _=>.no
theorem zDG:zaf Try.prog 117:=⟨_,rfl,rfl,by kernel_rfl⟩
theorem zLz:Ok Try.prog 117 zu7:=zay zIy zDG fun args K h=>by
  unfold zu7 at h
  split at h
  · rename_i a0_Z a0_Low a0_High c0_slope c0_start c0_den
    have hk:=h
    exact ⟨(fun _ _=>[]),(fun _=>false),zB5,zN9 (⟨c0_slope,c0_start,c0_den⟩:straight) (⟨a0_Z,a0_Low,a0_High⟩:Gate) K hk⟩
  · exact h.elim
abbrev zNk:Tabs:=Tabs.nil
theorem zIz:TabsOk Try.prog zNk:=TabsOk.nil
abbrev zOa:Ctrs:=csm zNk (fun _ _=>[]) (fun _=>false)
def zB6:Ann:=⟨18,[(0,zK [1,2] [2]),(1,zK [3] [])],
 [],
 [],
 [],[]⟩
abbrev zOb:=Bool
abbrev zOc (r:zOb):List PA:=[.one (.bool r)]
section
variable {K:List PA→Prop} {c0:straight} {g:Gate}
def zK7 (c0:straight) (g:Gate):Bool :=
  ((w64 (c0.start+(w64 (c0.slope * g.Z)))) == (w64 (g.Low * c0.den)))
end
theorem zOd (c0:straight) (g:Gate) (K:List PA→Prop) (hk:K (zOc (zK7 c0 g))):vcFun Try.prog zOa zB6 123 [.agg (enc_55 g),.one (.fp (zah c0) 0)] K :=
  zaw (by kernel_rfl) hk
def zu8 : List PA → COut
  | [.agg [.int .i64 a0_Z,.int .i64 a0_Low,.int .i64 a0_High],.one (.fp [.int .i64 c0_slope,.int .i64 c0_start,.int .i64 c0_den] 0)]=>.tot [.one (.bool (zK7 (⟨c0_slope,c0_start,c0_den⟩:straight) (⟨a0_Z,a0_Low,a0_High⟩:Gate)))]
  | _=>.no
theorem zDH:zaf Try.prog 123:=⟨_,rfl,rfl,by kernel_rfl⟩
theorem zLA:Ok Try.prog 123 zu8:=zay zIz zDH fun args K h=>by
  unfold zu8 at h
  split at h
  · rename_i a0_Z a0_Low a0_High c0_slope c0_start c0_den
    have hk:=h
    exact ⟨(fun _ _=>[]),(fun _=>false),zB6,zOd (⟨c0_slope,c0_start,c0_den⟩:straight) (⟨a0_Z,a0_Low,a0_High⟩:Gate) K hk⟩
  · exact h.elim
abbrev zK8:Tabs:=(((Tabs.nil.addF 100 zu5).addF 117 zu7).addF 123 zu8)
theorem zIA:TabsOk Try.prog zK8:=(((TabsOk.nil.addF zLx).addF zLz).addF zLA)
abbrev zNl:Ctrs:=csm zK8 (fun _ _=>[]) (fun _=>false)
def zu9:Ann:=⟨19,[(0,zK [0,1] []),(1,zK [0,1,7,8] []),(2,zK [0,1,7,8,9] []),(3,zK [0,1,5,7,8] []),(4,zK [0,1,5,7,8,16] []),(5,zK [4] []),(6,zK [0,1,7,8] []),(7,zK [4] [])],
 [(2,zK [0,1,7,8] [])],
 [(5,zK [0,1,5,7,8,16] [])],
 [],[]⟩
abbrev zOe:=Int
abbrev e119 (r:zOe):List PA:=[.one (.int .i64 r)]
@[irreducible] def z119:=ptF Try.prog zNl zu9 Try.f119
def zva (c0:list) (sv0:(Sl Gate)) (zaW:Int) (zbM:Int) (zc1:Nat→List PV):St:=⟨[(0,zP (.sl sv0.len 3 zc1)),(1,zP (.fn 100 [] [.fp (zbW c0) 0])),(7,zI zaW),(8,zI zbM)],[],[]⟩
abbrev zvb (K:List PA→Prop) (c0:list) (X:St→Prop) (P:(Sl Gate)→Int→Int→Bool) (S:(Sl Gate)→Int→Int→Int):Prop:=∀ ⦃sv0:(Sl Gate)⦄ ⦃zaW:Int⦄ ⦃zbM:Int⦄ ⦃zc1:Nat→List PV⦄,P sv0 zaW zbM=true→K (e119 (S sv0 zaW zbM))→zc1=zg enc_55 sv0→X (zva c0 sv0 zaW zbM zc1)
section
variable {K:List PA→Prop} {c0:list} {s:(Sl Gate)} {sv0:(Sl Gate)} {zaW:Int} {zbM:Int} {zc1:Nat→List PV} {X0:St→Prop} {P0:(Sl Gate)→Int→Int→Bool} {S0:(Sl Gate)→Int→Int→Int} {sv1:(Sl Gate)} {iv1:Int} {zgo:Int} {zjK:Int} {zdE:Bool} {zn1:Nat→List PV}
def zlZ (S0:(Sl Gate)→Int→Int→Int) (c0:list) (sv1:(Sl Gate)) (iv1:Int) (zgo:Int) (zjK:Int) (zdE:Bool):Int :=
  (cond zdE
 iv1
 (S0 sv1 zgo (w64 (zjK+(1:Int)))))
def zl0 (P0:(Sl Gate)→Int→Int→Bool) (c0:list) (sv1:(Sl Gate)) (iv1:Int) (zgo:Int) (zjK:Int) (zdE:Bool):Bool :=
  (cond zdE
 true
 (P0 sv1 zgo (w64 (zjK+(1:Int)))))
theorem zAQ (hX0:zvb K c0 X0 P0 S0) (hs:zl0 P0 c0 sv1 iv1 zgo zjK zdE=true) (hk:K (e119 (zlZ S0 c0 sv1 iv1 zgo zjK zdE))) (zvc:zn1=zg enc_55 sv1):z119 K [1,0,1,0,0,1,1,0,0,1,1] [X0] ⟨[(0,zP (.sl sv1.len 3 zn1)),(1,zP (.fn 100 [] [.fp (zbW c0) 0])),(5,zI iv1),(7,zI zgo),(8,zI zjK),(16,zB zdE)],[],[]⟩:=by subst zvc;exact zaw (by kernel_rfl) (zc hs hk (fun hs hk=>hk) (fun hs hk=>(hX0 hs hk rfl)))
def ziO (c0:list) (S0:(Sl Gate)→Int→Int→Int) (sv0:(Sl Gate)) (zaW:Int) (zbM:Int):Int :=
  (cond (decide (zbM < zaW))
 (zlZ S0 c0 sv0 zbM zaW zbM (zDA c0 (sv0.get zbM.toNat)))
 (-1:Int))
def ziP (c0:list) (P0:(Sl Gate)→Int→Int→Bool) (sv0:(Sl Gate)) (zaW:Int) (zbM:Int):Bool :=
  (cond (decide (zbM < zaW))
 (decide ((0≤zbM∧zbM < (sv0.len:Int))) &&
 (decide ((zDB c0 (sv0.get zbM.toNat)=true)) &&
 (zl0 P0 c0 sv0 zbM zaW zbM (zDA c0 (sv0.get zbM.toNat)))))
 true)
def ziQ (c0:list):Nat→(Sl Gate)→Int→Int→Int:=lpO (fun _ _ _=>default) (ziO c0)
def ziR (c0:list):Nat→(Sl Gate)→Int→Int→Bool:=lpO (fun _ _ _=>false) (ziP c0)
def zsc (c0:list) (sv0:(Sl Gate)) (zaW:Int) (zbM:Int):Int:=ziQ c0 Fuel sv0 zaW zbM
def zsd (c0:list) (sv0:(Sl Gate)) (zaW:Int) (zbM:Int):Bool:=ziR c0 Fuel sv0 zaW zbM
theorem zAR (hs:zsd c0 sv0 zaW zbM=true) (hk:K (e119 (zsc c0 sv0 zaW zbM))) (zjL:zc1=zg enc_55 sv0):z119 K [1,0,1,0] [] (zva c0 sv0 zaW zbM zc1) :=
  zl (fun X=>z119 K [1,0,1,0,0] [X]) (by kernel_rfl) fun X0 hX =>
  (show ∀ k, zvb K c0 X0 (ziR c0 k) (ziQ c0 k) from zeV _ _ (ziP c0) (ziO c0) (zvb K c0 X0)
 (by intro _ _ _ _ hs;exact absurd hs Bool.false_ne_true)
 (by intro P0 S0 hX0 sv0 zaW zbM zc1 hs hk zjL;subst zjL;exact hX _ (zaw (by kernel_rfl) (zc hs hk (fun hs hk=>(zau hs fun hc hs=>And.intro hc (zau hs fun hc hs=>And.intro (And.intro (zE enc_55 3 c0.Gates.get) hc) (zAQ hX0 hs hk rfl)))) (fun hs hk=>hk))))) _ hs hk zjL
def zIB (c0:list) (s:(Sl Gate)):Int :=
  (zsc c0 s (s.len:Int) (0:Int))
def zIC (c0:list) (s:(Sl Gate)):Bool :=
  (zsd c0 s (s.len:Int) (0:Int))
end
theorem zOf (c0:list) (s:(Sl Gate)) (K:List PA→Prop) (hs:zIC c0 s=true) (hk:K (e119 (zIB c0 s))):vcFun Try.prog zNl zu9 119 [.one (.sl s.len 3 (fun i=>enc_55 (s.get i))),.one (.fn 100 [] [.fp (zbW c0) 0])] K :=
  zaw (by kernel_rfl) (zAR hs hk rfl)
abbrev zID:Ctrs:=csm zK8 (fun _ _=>[]) (fun _=>false)
def zpo:Ann:=⟨19,[(0,zK [0,1] []),(1,zK [0,1,7,8] []),(2,zK [0,1,7,8,9] []),(3,zK [0,1,5,7,8] []),(4,zK [0,1,5,7,8,16] []),(5,zK [4] []),(6,zK [0,1,7,8] []),(7,zK [4] [])],
 [(2,zK [0,1,7,8] [])],
 [(5,zK [0,1,5,7,8,16] [])],
 [],[]⟩
abbrev zLB:=Int
abbrev zAS (r:zLB):List PA:=[.one (.int .i64 r)]
@[irreducible] def z119a:=ptF Try.prog zID zpo Try.f119
def zse (c0:straight) (sv0:(Sl Gate)) (zaW:Int) (zbM:Int) (zc1:Nat→List PV):St:=⟨[(0,zP (.sl sv0.len 3 zc1)),(1,zP (.fn 117 [] [.fp (zah c0) 0])),(7,zI zaW),(8,zI zbM)],[],[]⟩
abbrev zpp (K:List PA→Prop) (c0:straight) (X:St→Prop) (P:(Sl Gate)→Int→Int→Bool) (S:(Sl Gate)→Int→Int→Int):Prop:=∀ ⦃sv0:(Sl Gate)⦄ ⦃zaW:Int⦄ ⦃zbM:Int⦄ ⦃zc1:Nat→List PV⦄,P sv0 zaW zbM=true→K (zAS (S sv0 zaW zbM))→zc1=zg enc_55 sv0→X (zse c0 sv0 zaW zbM zc1)
section
variable {K:List PA→Prop} {c0:straight} {s:(Sl Gate)} {sv0:(Sl Gate)} {zaW:Int} {zbM:Int} {zc1:Nat→List PV} {X0:St→Prop} {P0:(Sl Gate)→Int→Int→Bool} {S0:(Sl Gate)→Int→Int→Int} {sv1:(Sl Gate)} {iv1:Int} {zgo:Int} {zjK:Int} {zdE:Bool} {zn1:Nat→List PV}
def zjM (S0:(Sl Gate)→Int→Int→Int) (c0:straight) (sv1:(Sl Gate)) (iv1:Int) (zgo:Int) (zjK:Int) (zdE:Bool):Int :=
  (cond zdE
 iv1
 (S0 sv1 zgo (w64 (zjK+(1:Int)))))
def zjN (P0:(Sl Gate)→Int→Int→Bool) (c0:straight) (sv1:(Sl Gate)) (iv1:Int) (zgo:Int) (zjK:Int) (zdE:Bool):Bool :=
  (cond zdE
 true
 (P0 sv1 zgo (w64 (zjK+(1:Int)))))
theorem zvd (hX0:zpp K c0 X0 P0 S0) (hs:zjN P0 c0 sv1 iv1 zgo zjK zdE=true) (hk:K (zAS (zjM S0 c0 sv1 iv1 zgo zjK zdE))) (zvc:zn1=zg enc_55 sv1):z119a K [1,0,1,0,0,1,1,0,0,1,1] [X0] ⟨[(0,zP (.sl sv1.len 3 zn1)),(1,zP (.fn 117 [] [.fp (zah c0) 0])),(5,zI iv1),(7,zI zgo),(8,zI zjK),(16,zB zdE)],[],[]⟩:=by subst zvc;exact zaw (by kernel_rfl) (zc hs hk (fun hs hk=>hk) (fun hs hk=>(hX0 hs hk rfl)))
def zg3 (c0:straight) (S0:(Sl Gate)→Int→Int→Int) (sv0:(Sl Gate)) (zaW:Int) (zbM:Int):Int :=
  (cond (decide (zbM < zaW))
 (zjM S0 c0 sv0 zbM zaW zbM (zDF c0 (sv0.get zbM.toNat)))
 (-1:Int))
def zg4 (c0:straight) (P0:(Sl Gate)→Int→Int→Bool) (sv0:(Sl Gate)) (zaW:Int) (zbM:Int):Bool :=
  (cond (decide (zbM < zaW))
 (decide ((0≤zbM∧zbM < (sv0.len:Int))) &&
 (zjN P0 c0 sv0 zbM zaW zbM (zDF c0 (sv0.get zbM.toNat))))
 true)
def zg5 (c0:straight):Nat→(Sl Gate)→Int→Int→Int:=lpO (fun _ _ _=>default) (zg3 c0)
def zg6 (c0:straight):Nat→(Sl Gate)→Int→Int→Bool:=lpO (fun _ _ _=>false) (zg4 c0)
def zn2 (c0:straight) (sv0:(Sl Gate)) (zaW:Int) (zbM:Int):Int:=zg5 c0 Fuel sv0 zaW zbM
def zn3 (c0:straight) (sv0:(Sl Gate)) (zaW:Int) (zbM:Int):Bool:=zg6 c0 Fuel sv0 zaW zbM
theorem zve (hs:zn3 c0 sv0 zaW zbM=true) (hk:K (zAS (zn2 c0 sv0 zaW zbM))) (zjL:zc1=zg enc_55 sv0):z119a K [1,0,1,0] [] (zse c0 sv0 zaW zbM zc1) :=
  zl (fun X=>z119a K [1,0,1,0,0] [X]) (by kernel_rfl) fun X0 hX =>
  (show ∀ k, zpp K c0 X0 (zg6 c0 k) (zg5 c0 k) from zeV _ _ (zg4 c0) (zg3 c0) (zpp K c0 X0)
 (by intro _ _ _ _ hs;exact absurd hs Bool.false_ne_true)
 (by intro P0 S0 hX0 sv0 zaW zbM zc1 hs hk zjL;subst zjL;exact hX _ (zaw (by kernel_rfl) (zc hs hk (fun hs hk=>(zau hs fun hc hs=>And.intro hc (zvd hX0 hs hk rfl))) (fun hs hk=>hk))))) _ hs hk zjL
def zvf (c0:straight) (s:(Sl Gate)):Int :=
  (zn2 c0 s (s.len:Int) (0:Int))
def zvg (c0:straight) (s:(Sl Gate)):Bool :=
  (zn3 c0 s (s.len:Int) (0:Int))
end
theorem zLC (c0:straight) (s:(Sl Gate)) (K:List PA→Prop) (hs:zvg c0 s=true) (hk:K (zAS (zvf c0 s))):vcFun Try.prog zID zpo 119 [.one (.sl s.len 3 (fun i=>enc_55 (s.get i))),.one (.fn 117 [] [.fp (zah c0) 0])] K :=
  zaw (by kernel_rfl) (zve hs hk rfl)
abbrev zIE:Ctrs:=csm zK8 (fun _ _=>[]) (fun _=>false)
def zpq:Ann:=⟨19,[(0,zK [0,1] []),(1,zK [0,1,7,8] []),(2,zK [0,1,7,8,9] []),(3,zK [0,1,5,7,8] []),(4,zK [0,1,5,7,8,16] []),(5,zK [4] []),(6,zK [0,1,7,8] []),(7,zK [4] [])],
 [(2,zK [0,1,7,8] [])],
 [(5,zK [0,1,5,7,8,16] [])],
 [],[]⟩
abbrev zLD:=Int
abbrev zAT (r:zLD):List PA:=[.one (.int .i64 r)]
@[irreducible] def z119b:=ptF Try.prog zIE zpq Try.f119
def zsf (c0:straight) (sv0:(Sl Gate)) (zaW:Int) (zbM:Int) (zc1:Nat→List PV):St:=⟨[(0,zP (.sl sv0.len 3 zc1)),(1,zP (.fn 123 [] [.fp (zah c0) 0])),(7,zI zaW),(8,zI zbM)],[],[]⟩
abbrev zpr (K:List PA→Prop) (c0:straight) (X:St→Prop) (P:(Sl Gate)→Int→Int→Bool) (S:(Sl Gate)→Int→Int→Int):Prop:=∀ ⦃sv0:(Sl Gate)⦄ ⦃zaW:Int⦄ ⦃zbM:Int⦄ ⦃zc1:Nat→List PV⦄,P sv0 zaW zbM=true→K (zAT (S sv0 zaW zbM))→zc1=zg enc_55 sv0→X (zsf c0 sv0 zaW zbM zc1)
section
variable {K:List PA→Prop} {c0:straight} {s:(Sl Gate)} {sv0:(Sl Gate)} {zaW:Int} {zbM:Int} {zc1:Nat→List PV} {X0:St→Prop} {P0:(Sl Gate)→Int→Int→Bool} {S0:(Sl Gate)→Int→Int→Int} {sv1:(Sl Gate)} {iv1:Int} {zgo:Int} {zjK:Int} {zdE:Bool} {zn1:Nat→List PV}
def zn4 (S0:(Sl Gate)→Int→Int→Int) (c0:straight) (sv1:(Sl Gate)) (iv1:Int) (zgo:Int) (zjK:Int) (zdE:Bool):Int :=
  (cond zdE
 iv1
 (S0 sv1 zgo (w64 (zjK+(1:Int)))))
def zn5 (P0:(Sl Gate)→Int→Int→Bool) (c0:straight) (sv1:(Sl Gate)) (iv1:Int) (zgo:Int) (zjK:Int) (zdE:Bool):Bool :=
  (cond zdE
 true
 (P0 sv1 zgo (w64 (zjK+(1:Int)))))
theorem zvh (hX0:zpr K c0 X0 P0 S0) (hs:zn5 P0 c0 sv1 iv1 zgo zjK zdE=true) (hk:K (zAT (zn4 S0 c0 sv1 iv1 zgo zjK zdE))) (zvc:zn1=zg enc_55 sv1):z119b K [1,0,1,0,0,1,1,0,0,1,1] [X0] ⟨[(0,zP (.sl sv1.len 3 zn1)),(1,zP (.fn 123 [] [.fp (zah c0) 0])),(5,zI iv1),(7,zI zgo),(8,zI zjK),(16,zB zdE)],[],[]⟩:=by subst zvc;exact zaw (by kernel_rfl) (zc hs hk (fun hs hk=>hk) (fun hs hk=>(hX0 hs hk rfl)))
def zn6 (c0:straight) (S0:(Sl Gate)→Int→Int→Int) (sv0:(Sl Gate)) (zaW:Int) (zbM:Int):Int :=
  (cond (decide (zbM < zaW))
 (zn4 S0 c0 sv0 zbM zaW zbM (zK7 c0 (sv0.get zbM.toNat)))
 (-1:Int))
def zn7 (c0:straight) (P0:(Sl Gate)→Int→Int→Bool) (sv0:(Sl Gate)) (zaW:Int) (zbM:Int):Bool :=
  (cond (decide (zbM < zaW))
 (decide ((0≤zbM∧zbM < (sv0.len:Int))) &&
 (zn5 P0 c0 sv0 zbM zaW zbM (zK7 c0 (sv0.get zbM.toNat))))
 true)
def zn8 (c0:straight):Nat→(Sl Gate)→Int→Int→Int:=lpO (fun _ _ _=>default) (zn6 c0)
def zn9 (c0:straight):Nat→(Sl Gate)→Int→Int→Bool:=lpO (fun _ _ _=>false) (zn7 c0)
def zoa (c0:straight) (sv0:(Sl Gate)) (zaW:Int) (zbM:Int):Int:=zn8 c0 Fuel sv0 zaW zbM
def zob (c0:straight) (sv0:(Sl Gate)) (zaW:Int) (zbM:Int):Bool:=zn9 c0 Fuel sv0 zaW zbM
theorem zvi (hs:zob c0 sv0 zaW zbM=true) (hk:K (zAT (zoa c0 sv0 zaW zbM))) (zjL:zc1=zg enc_55 sv0):z119b K [1,0,1,0] [] (zsf c0 sv0 zaW zbM zc1) :=
  zl (fun X=>z119b K [1,0,1,0,0] [X]) (by kernel_rfl) fun X0 hX =>
  (show ∀ k, zpr K c0 X0 (zn9 c0 k) (zn8 c0 k) from zeV _ _ (zn7 c0) (zn6 c0) (zpr K c0 X0)
 (by intro _ _ _ _ hs;exact absurd hs Bool.false_ne_true)
 (by intro P0 S0 hX0 sv0 zaW zbM zc1 hs hk zjL;subst zjL;exact hX _ (zaw (by kernel_rfl) (zc hs hk (fun hs hk=>(zau hs fun hc hs=>And.intro hc (zvh hX0 hs hk rfl))) (fun hs hk=>hk))))) _ hs hk zjL
def zDI (c0:straight) (s:(Sl Gate)):Int :=
  (zoa c0 s (s.len:Int) (0:Int))
def zDJ (c0:straight) (s:(Sl Gate)):Bool :=
  (zob c0 s (s.len:Int) (0:Int))
end
theorem zLE (c0:straight) (s:(Sl Gate)) (K:List PA→Prop) (hs:zDJ c0 s=true) (hk:K (zAT (zDI c0 s))):vcFun Try.prog zIE zpq 119 [.one (.sl s.len 3 (fun i=>enc_55 (s.get i))),.one (.fn 123 [] [.fp (zah c0) 0])] K :=
  zaw (by kernel_rfl) (zvi hs hk rfl)
def zvj : List PA → COut
  | [.one (.sl a0_n a0_s a0_g),.one (.fn 100 [] [.fp [.sl c0_Gates_n c0_Gates_s c0_Gates_g] 0])]=>.det (IsE enc_55 3 a0_s a0_g∧IsE enc_55 3 c0_Gates_s c0_Gates_g∧zIC (⟨(⟨c0_Gates_n,zad c0_Gates_g⟩:(Sl Gate))⟩:list) (⟨a0_n,zad a0_g⟩:(Sl Gate))=true) [.one (.int .i64 (zIB (⟨(⟨c0_Gates_n,zad c0_Gates_g⟩:(Sl Gate))⟩:list) (⟨a0_n,zad a0_g⟩:(Sl Gate))))]
  | [.one (.sl a0_n a0_s a0_g),.one (.fn 117 [] [.fp [.int .i64 c0_slope,.int .i64 c0_start,.int .i64 c0_den] 0])]=>.det (IsE enc_55 3 a0_s a0_g∧zvg (⟨c0_slope,c0_start,c0_den⟩:straight) (⟨a0_n,zad a0_g⟩:(Sl Gate))=true) [.one (.int .i64 (zvf (⟨c0_slope,c0_start,c0_den⟩:straight) (⟨a0_n,zad a0_g⟩:(Sl Gate))))]
  | [.one (.sl a0_n a0_s a0_g),.one (.fn 123 [] [.fp [.int .i64 c0_slope,.int .i64 c0_start,.int .i64 c0_den] 0])]=>.det (IsE enc_55 3 a0_s a0_g∧zDJ (⟨c0_slope,c0_start,c0_den⟩:straight) (⟨a0_n,zad a0_g⟩:(Sl Gate))=true) [.one (.int .i64 (zDI (⟨c0_slope,c0_start,c0_den⟩:straight) (⟨a0_n,zad a0_g⟩:(Sl Gate))))]
  | _=>.no
theorem zDK:zaf Try.prog 119:=⟨_,rfl,rfl,by kernel_rfl⟩
theorem zLF:Ok Try.prog 119 zvj:=zay zIA zDK fun args K h=>by
  unfold zvj at h
  split at h
  · rename_i a0_n a0_s a0_g c0_Gates_n c0_Gates_s c0_Gates_g
    obtain ⟨⟨⟨rfl,a0_f,rfl⟩,⟨rfl,c0_Gates_f,rfl⟩,hs⟩,hk⟩:=h
    try rw [zac a0_f] at hs
    try rw [zac a0_f] at hk
    try rw [zac c0_Gates_f] at hs
    try rw [zac c0_Gates_f] at hk
    exact ⟨(fun _ _=>[]),(fun _=>false),zu9,zOf (⟨(⟨c0_Gates_n,c0_Gates_f⟩:(Sl Gate))⟩:list) (⟨a0_n,a0_f⟩:(Sl Gate)) K hs hk⟩
  · rename_i a0_n a0_s a0_g c0_slope c0_start c0_den
    obtain ⟨⟨⟨rfl,a0_f,rfl⟩,hs⟩,hk⟩:=h
    try rw [zac a0_f] at hs
    try rw [zac a0_f] at hk
    exact ⟨(fun _ _=>[]),(fun _=>false),zpo,zLC (⟨c0_slope,c0_start,c0_den⟩:straight) (⟨a0_n,a0_f⟩:(Sl Gate)) K hs hk⟩
  · rename_i a0_n a0_s a0_g c0_slope c0_start c0_den
    obtain ⟨⟨⟨rfl,a0_f,rfl⟩,hs⟩,hk⟩:=h
    try rw [zac a0_f] at hs
    try rw [zac a0_f] at hk
    exact ⟨(fun _ _=>[]),(fun _=>false),zpq,zLE (⟨c0_slope,c0_start,c0_den⟩:straight) (⟨a0_n,a0_f⟩:(Sl Gate)) K hs hk⟩
  · exact h.elim
abbrev T99:Tabs:=(Tabs.nil.addF 119 zvj)
theorem zLG:TabsOk Try.prog T99:=(TabsOk.nil.addF zLF)
abbrev G99:Ctrs:=csm T99 (fun _ _=>[]) (fun _=>false)
def zIF:Ann:=⟨9,[(0,zK [0,1] []),(1,zK [4] [])],
 [],
 [],
 [],[]⟩
abbrev R99:=Bool
abbrev e99 (r:R99):List PA:=[.one (.bool r)]
section
variable {K:List PA→Prop} {c0:list} {s:(Sl Gate)}
def s99 (c0:list) (s:(Sl Gate)):Bool :=
  (decide ((zIB c0 s) ≥ (0:Int)))
def p99 (c0:list) (s:(Sl Gate)):Bool :=
  (decide ((zIC c0 s=true)) &&
 true)
end
theorem q99 (c0:list) (s:(Sl Gate)) (K:List PA→Prop) (hs:p99 c0 s=true) (hk:K (e99 (s99 c0 s))):vcFun Try.prog G99 zIF 99 [.one (.sl s.len 3 (fun i=>enc_55 (s.get i))),.one (.fn 100 [] [.fp (zbW c0) 0])] K :=
  zaw (by kernel_rfl) (zau hs fun hc hs=>And.intro (And.intro (zE enc_55 3 s.get) (And.intro (zE enc_55 3 c0.Gates.get) hc)) hk)
abbrev zOg:Ctrs:=csm T99 (fun _ _=>[]) (fun _=>false)
def zB7:Ann:=⟨9,[(0,zK [0,1] []),(1,zK [4] [])],
 [],
 [],
 [],[]⟩
abbrev zOh:=Bool
abbrev zOi (r:zOh):List PA:=[.one (.bool r)]
section
variable {K:List PA→Prop} {c0:straight} {s:(Sl Gate)}
def zK9 (c0:straight) (s:(Sl Gate)):Bool :=
  (decide ((zvf c0 s) ≥ (0:Int)))
def zLa (c0:straight) (s:(Sl Gate)):Bool :=
  (decide ((zvg c0 s=true)) &&
 true)
end
theorem zOj (c0:straight) (s:(Sl Gate)) (K:List PA→Prop) (hs:zLa c0 s=true) (hk:K (zOi (zK9 c0 s))):vcFun Try.prog zOg zB7 99 [.one (.sl s.len 3 (fun i=>enc_55 (s.get i))),.one (.fn 117 [] [.fp (zah c0) 0])] K :=
  zaw (by kernel_rfl) (zau hs fun hc hs=>And.intro (And.intro (zE enc_55 3 s.get) hc) hk)
abbrev zOk:Ctrs:=csm T99 (fun _ _=>[]) (fun _=>false)
def zB8:Ann:=⟨9,[(0,zK [0,1] []),(1,zK [4] [])],
 [],
 [],
 [],[]⟩
abbrev zOl:=Bool
abbrev zOm (r:zOl):List PA:=[.one (.bool r)]
section
variable {K:List PA→Prop} {c0:straight} {s:(Sl Gate)}
def zLH (c0:straight) (s:(Sl Gate)):Bool :=
  (decide ((zDI c0 s) ≥ (0:Int)))
def zLI (c0:straight) (s:(Sl Gate)):Bool :=
  (decide ((zDJ c0 s=true)) &&
 true)
end
theorem zOn (c0:straight) (s:(Sl Gate)) (K:List PA→Prop) (hs:zLI c0 s=true) (hk:K (zOm (zLH c0 s))):vcFun Try.prog zOk zB8 99 [.one (.sl s.len 3 (fun i=>enc_55 (s.get i))),.one (.fn 123 [] [.fp (zah c0) 0])] K :=
  zaw (by kernel_rfl) (zau hs fun hc hs=>And.intro (And.intro (zE enc_55 3 s.get) hc) hk)
def zvk : List PA → COut
  | [.one (.sl a0_n a0_s a0_g),.one (.fn 100 [] [.fp [.sl c0_Gates_n c0_Gates_s c0_Gates_g] 0])]=>.det (IsE enc_55 3 a0_s a0_g∧IsE enc_55 3 c0_Gates_s c0_Gates_g∧p99 (⟨(⟨c0_Gates_n,zad c0_Gates_g⟩:(Sl Gate))⟩:list) (⟨a0_n,zad a0_g⟩:(Sl Gate))=true) [.one (.bool (s99 (⟨(⟨c0_Gates_n,zad c0_Gates_g⟩:(Sl Gate))⟩:list) (⟨a0_n,zad a0_g⟩:(Sl Gate))))]
  | [.one (.sl a0_n a0_s a0_g),.one (.fn 117 [] [.fp [.int .i64 c0_slope,.int .i64 c0_start,.int .i64 c0_den] 0])]=>.det (IsE enc_55 3 a0_s a0_g∧zLa (⟨c0_slope,c0_start,c0_den⟩:straight) (⟨a0_n,zad a0_g⟩:(Sl Gate))=true) [.one (.bool (zK9 (⟨c0_slope,c0_start,c0_den⟩:straight) (⟨a0_n,zad a0_g⟩:(Sl Gate))))]
  | [.one (.sl a0_n a0_s a0_g),.one (.fn 123 [] [.fp [.int .i64 c0_slope,.int .i64 c0_start,.int .i64 c0_den] 0])]=>.det (IsE enc_55 3 a0_s a0_g∧zLI (⟨c0_slope,c0_start,c0_den⟩:straight) (⟨a0_n,zad a0_g⟩:(Sl Gate))=true) [.one (.bool (zLH (⟨c0_slope,c0_start,c0_den⟩:straight) (⟨a0_n,zad a0_g⟩:(Sl Gate))))]
  | _=>.no
theorem zIG:zaf Try.prog 99:=⟨_,rfl,rfl,by kernel_rfl⟩
theorem zLJ:Ok Try.prog 99 zvk:=zay zLG zIG fun args K h=>by
  unfold zvk at h
  split at h
  · rename_i a0_n a0_s a0_g c0_Gates_n c0_Gates_s c0_Gates_g
    obtain ⟨⟨⟨rfl,a0_f,rfl⟩,⟨rfl,c0_Gates_f,rfl⟩,hs⟩,hk⟩:=h
    try rw [zac a0_f] at hs
    try rw [zac a0_f] at hk
    try rw [zac c0_Gates_f] at hs
    try rw [zac c0_Gates_f] at hk
    exact ⟨(fun _ _=>[]),(fun _=>false),zIF,q99 (⟨(⟨c0_Gates_n,c0_Gates_f⟩:(Sl Gate))⟩:list) (⟨a0_n,a0_f⟩:(Sl Gate)) K hs hk⟩
  · rename_i a0_n a0_s a0_g c0_slope c0_start c0_den
    obtain ⟨⟨⟨rfl,a0_f,rfl⟩,hs⟩,hk⟩:=h
    try rw [zac a0_f] at hs
    try rw [zac a0_f] at hk
    exact ⟨(fun _ _=>[]),(fun _=>false),zB7,zOj (⟨c0_slope,c0_start,c0_den⟩:straight) (⟨a0_n,a0_f⟩:(Sl Gate)) K hs hk⟩
  · rename_i a0_n a0_s a0_g c0_slope c0_start c0_den
    obtain ⟨⟨⟨rfl,a0_f,rfl⟩,hs⟩,hk⟩:=h
    try rw [zac a0_f] at hs
    try rw [zac a0_f] at hk
    exact ⟨(fun _ _=>[]),(fun _=>false),zB8,zOn (⟨c0_slope,c0_start,c0_den⟩:straight) (⟨a0_n,a0_f⟩:(Sl Gate)) K hs hk⟩
  · exact h.elim
abbrev T67:Tabs:=(Tabs.nil.addF 99 zvk)
theorem zLK:TabsOk Try.prog T67:=(TabsOk.nil.addF zLJ)
abbrev G67:Ctrs:=csm T67 (fun _ _=>[]) (fun _=>false)
def zIH:Ann:=⟨8,[(0,zK [1] [1]),(1,zK [2] [])],
 [],
 [],
 [],[]⟩
abbrev R67:=Bool
abbrev e67 (r:R67):List PA:=[.one (.bool r)]
section
variable {K:List PA→Prop} {l_a0:list}
def s67 (l_a0:list):Bool :=
  (!(s99 l_a0 l_a0.Gates))
def p67 (l_a0:list):Bool :=
  (decide ((p99 l_a0 l_a0.Gates=true)) &&
 true)
end
theorem q67 (l_a0:list) (K:List PA→Prop) (hs:p67 l_a0=true) (hk:K (e67 (s67 l_a0))):vcFun Try.prog G67 zIH 67 [.agg (zbW l_a0)] K :=
  zaw (by kernel_rfl) (zau hs fun hc hs=>And.intro (And.intro (zE enc_55 3 l_a0.Gates.get) (And.intro (zE enc_55 3 l_a0.Gates.get) hc)) hk)
def zoc : List PA → COut
  | [.agg [.sl a0_Gates_n a0_Gates_s a0_Gates_g]]=>.det (IsE enc_55 3 a0_Gates_s a0_Gates_g∧p67 (⟨(⟨a0_Gates_n,zad a0_Gates_g⟩:(Sl Gate))⟩:list)=true) [.one (.bool (s67 (⟨(⟨a0_Gates_n,zad a0_Gates_g⟩:(Sl Gate))⟩:list)))]
  | _=>.no
theorem zII:zaf Try.prog 67:=⟨_,rfl,rfl,by kernel_rfl⟩
theorem zHI:Ok Try.prog 67 zoc:=zay zLK zII fun args K h=>by
  unfold zoc at h
  split at h
  · rename_i a0_Gates_n a0_Gates_s a0_Gates_g
    obtain ⟨⟨⟨rfl,a0_Gates_f,rfl⟩,hs⟩,hk⟩:=h
    try rw [zac a0_Gates_f] at hs
    try rw [zac a0_Gates_f] at hk
    exact ⟨(fun _ _=>[]),(fun _=>false),zIH,q67 (⟨(⟨a0_Gates_n,a0_Gates_f⟩:(Sl Gate))⟩:list) K hs hk⟩
  · exact h.elim
abbrev zNm:Tabs:=Tabs.nil
theorem zIJ:TabsOk Try.prog zNm:=TabsOk.nil
abbrev zNn:Ctrs:=csm zNm (fun _ _=>[]) (fun _=>false)
def zvl:Ann:=⟨12,[(0,zK [0,1] []),(1,zK [0,1,6] []),(2,zK [0,1] []),(3,zK [4] [])],
 [(1,zK [0,1] [])],
 [],
 [],[]⟩
abbrev zOo:=Int
abbrev zLL (r:zOo):List PA:=[.one (.int .i64 r)]
@[irreducible] def z114:=ptF Try.prog zNn zvl Try.f114
def zvm (av0:Int) (bv0:Int):St:=⟨[(0,zI av0),(1,zI bv0)],[],[]⟩
abbrev zB9 (K:List PA→Prop) (X:St→Prop) (P:Int→Int→Bool) (S:Int→Int→Int):Prop:=∀ ⦃av0:Int⦄ ⦃bv0:Int⦄,P av0 bv0=true→K (zLL (S av0 bv0))→X (zvm av0 bv0)
section
variable {K:List PA→Prop} {a:Int} {b:Int} {av0:Int} {bv0:Int} {X0:St→Prop} {P0:Int→Int→Bool} {S0:Int→Int→Int}
def ziS (S0:Int→Int→Int) (av0:Int) (bv0:Int):Int :=
  (cond (decide (bv0 > (0:Int)))
 (S0 bv0 (av0.tmod bv0))
 av0)
def ziT (P0:Int→Int→Bool) (av0:Int) (bv0:Int):Bool :=
  (cond (decide (bv0 > (0:Int)))
 (decide ((bv0 ≠ 0)) &&
 (P0 bv0 (av0.tmod bv0)))
 true)
def ziU:Nat→Int→Int→Int:=lpO (fun _ _=>default) (ziS)
def ziV:Nat→Int→Int→Bool:=lpO (fun _ _=>false) (ziT)
def zsg (av0:Int) (bv0:Int):Int:=ziU Fuel av0 bv0
def zsh (av0:Int) (bv0:Int):Bool:=ziV Fuel av0 bv0
theorem zAU (hs:zsh av0 bv0=true) (hk:K (zLL (zsg av0 bv0))):z114 K [1,0,0] [] (zvm av0 bv0) :=
  zl (fun X=>z114 K [1,0,0,0] [X]) (by kernel_rfl) fun X0 hX =>
  (show ∀ k, zB9 K X0 (ziV k) (ziU k) from zeV _ _ (ziT) (ziS) (zB9 K X0)
 (by intro _ _ hs;exact absurd hs Bool.false_ne_true)
 (by intro P0 S0 hX0 av0 bv0 hs hk;exact hX _ (zaw (by kernel_rfl) (zc hs hk (fun hs hk=>(zau hs fun hc hs=>And.intro hc (hX0 hs hk))) (fun hs hk=>hk))))) _ hs hk
def zDL (a:Int) (b:Int):Int :=
  (zsg a b)
def zLb (a:Int) (b:Int):Bool :=
  (zsh a b)
end
theorem zOp (a:Int) (b:Int) (K:List PA→Prop) (hs:zLb a b=true) (hk:K (zLL (zDL a b))):vcFun Try.prog zNn zvl 114 [.one (.int .i64 a),.one (.int .i64 b)] K :=
  zaw (by kernel_rfl) (zAU hs hk)
def zvn : List PA → COut
  | [.one (.int .i64 a0),.one (.int .i64 a1)]=>.det (zLb a0 a1=true) [.one (.int .i64 (zDL a0 a1))]
  | _=>.no
theorem zDM:zaf Try.prog 114:=⟨_,rfl,rfl,by kernel_rfl⟩
theorem zLM:Ok Try.prog 114 zvn:=zay zIJ zDM fun args K h=>by
  unfold zvn at h
  split at h
  · rename_i a0 a1
    obtain ⟨hs,hk⟩:=h
    exact ⟨(fun _ _=>[]),(fun _=>false),zvl,zOp a0 a1 K hs hk⟩
  · exact h.elim
abbrev T89:Tabs:=(Tabs.nil.addF 114 zvn)
theorem zLN:TabsOk Try.prog T89:=(TabsOk.nil.addF zLM)
abbrev G89:Ctrs:=csm T89 (fun _ _=>[]) (fun _=>false)
def zIK:Ann:=⟨19,[(0,zK [0,1,4] [4]),(1,zK [0,1,4,5] [4]),(2,zK [4] [4])],
 [],
 [],
 [],[]⟩
abbrev R89:=Frac
abbrev e89 (r:R89):List PA:=[.agg [.int .i64 r.Num,.int .i64 r.Den]]
section
variable {K:List PA→Prop} {num:Int} {den:Int}
def s89 (num:Int) (den:Int):Frac :=
  (⟨(w64 (num.tdiv (zDL (if (w64 (0 - num)) > num then (w64 (0 - num)) else num) den))),(w64 (den.tdiv (zDL (if (w64 (0 - num)) > num then (w64 (0 - num)) else num) den)))⟩:Frac)
def p89 (num:Int) (den:Int):Bool :=
  (decide ((zLb (if (w64 (0 - num)) > num then (w64 (0 - num)) else num) den=true)) &&
 (decide (((zDL (if (w64 (0 - num)) > num then (w64 (0 - num)) else num) den) ≠ 0)) &&
 (decide (((zDL (if (w64 (0 - num)) > num then (w64 (0 - num)) else num) den) ≠ 0)) &&
 true)))
end
theorem q89 (num:Int) (den:Int) (K:List PA→Prop) (hs:p89 num den=true) (hk:K (e89 (s89 num den))):vcFun Try.prog G89 zIK 89 [.one (.int .i64 num),.one (.int .i64 den)] K :=
  zaw (by kernel_rfl) (zau hs fun hc hs=>And.intro hc (zau hs fun hc hs=>And.intro hc (zau hs fun hc hs=>And.intro hc hk)))
def zps : List PA → COut
  | [.one (.int .i64 a0),.one (.int .i64 a1)]=>.det (p89 a0 a1=true) [.agg [.int .i64 ((s89 a0 a1).Num),.int .i64 ((s89 a0 a1).Den)]]
  | _=>.no
theorem zIL:zaf Try.prog 89:=⟨_,rfl,rfl,by kernel_rfl⟩
theorem zIM:Ok Try.prog 89 zps:=zay zLN zIL fun args K h=>by
  unfold zps at h
  split at h
  · rename_i a0 a1
    obtain ⟨hs,hk⟩:=h
    exact ⟨(fun _ _=>[]),(fun _=>false),zIK,q89 a0 a1 K hs hk⟩
  · exact h.elim
abbrev T79:Tabs:=(Tabs.nil.addF 89 zps)
theorem zLO:TabsOk Try.prog T79:=(TabsOk.nil.addF zIM)
abbrev G79:Ctrs:=csm T79 (fun _ _=>[]) (fun _=>false)
def zIN:Ann:=⟨14,[(0,zK [1,2] [1,2]),(1,zK [2] [2])],
 [],
 [],
 [],[]⟩
abbrev R79:=Line
abbrev e79 (r:R79):List PA:=[.agg [.int .i64 r.Slope.Num,.int .i64 r.Slope.Den,.int .i64 r.Start.Num,.int .i64 r.Start.Den]]
section
variable {K:List PA→Prop} {s:straight}
def s79 (s:straight):Line :=
  (⟨(s89 s.slope s.den),(s89 s.start s.den)⟩:Line)
def p79 (s:straight):Bool :=
  (decide ((p89 s.slope s.den=true)) &&
 (decide ((p89 s.start s.den=true)) &&
 true))
end
theorem q79 (s:straight) (K:List PA→Prop) (hs:p79 s=true) (hk:K (e79 (s79 s))):vcFun Try.prog G79 zIN 79 [.agg (zah s)] K :=
  zaw (by kernel_rfl) (zau hs fun hc hs=>And.intro hc (zau hs fun hc hs=>And.intro hc hk))
def zAV : List PA → COut
  | [.agg [.int .i64 a0_slope,.int .i64 a0_start,.int .i64 a0_den]]=>.det (p79 (⟨a0_slope,a0_start,a0_den⟩:straight)=true) [.agg [.int .i64 ((s79 (⟨a0_slope,a0_start,a0_den⟩:straight)).Slope.Num),.int .i64 ((s79 (⟨a0_slope,a0_start,a0_den⟩:straight)).Slope.Den),.int .i64 ((s79 (⟨a0_slope,a0_start,a0_den⟩:straight)).Start.Num),.int .i64 ((s79 (⟨a0_slope,a0_start,a0_den⟩:straight)).Start.Den)]]
  | _=>.no
theorem zIO:zaf Try.prog 79:=⟨_,rfl,rfl,by kernel_rfl⟩
theorem zNo:Ok Try.prog 79 zAV:=zay zLO zIO fun args K h=>by
  unfold zAV at h
  split at h
  · rename_i a0_slope a0_start a0_den
    obtain ⟨hs,hk⟩:=h
    exact ⟨(fun _ _=>[]),(fun _=>false),zIN,q79 (⟨a0_slope,a0_start,a0_den⟩:straight) K hs hk⟩
  · exact h.elim
abbrev T96:Tabs:=Tabs.nil
theorem zLP:TabsOk Try.prog T96:=TabsOk.nil
abbrev G96:Ctrs:=csm T96 (fun _ _=>[]) (fun _=>false)
def zDN:Ann:=⟨4,[(0,⟨[1],[1],[],[],[],[],[]⟩),(1,⟨[2],[],[],[],[],[],[]⟩)],
 [],
 [],
 [],[]⟩
theorem zDO (l_a0 : list) (K : List PA → Prop) :
  vcFun Try.prog G96 zDN 96 [.agg [.sl l_a0.Gates.len 3 (fun i=>enc_55 (l_a0.Gates.get i))]] K =
  (K [.one (.fn 115 [] [.fp (zbW l_a0) 0])]):=by kernel_rfl
theorem q96 (l_a0:list) (K:List PA→Prop) (hk:K [.one (.fn 115 [] [.fp (zbW l_a0) 0])]):vcFun Try.prog G96 zDN 96 [.agg [.sl l_a0.Gates.len 3 (fun i=>enc_55 (l_a0.Gates.get i))]] K:=zaw (zDO l_a0 K) hk
def zDP : List PA → COut
  | [.agg [.sl a0_Gates_n a0_Gates_s a0_Gates_g]]=>.det (IsE enc_55 3 a0_Gates_s a0_Gates_g) [.one (.fn 115 [] [.fp (zbW (⟨(⟨a0_Gates_n,zad a0_Gates_g⟩:(Sl Gate))⟩:list)) 0])]
  | _=>.no
theorem zIP:zaf Try.prog 96:=⟨_,rfl,rfl,by kernel_rfl⟩
theorem zOq:Ok Try.prog 96 zDP:=zay zLP zIP fun args K h=>by
  unfold zDP at h
  split at h
  · rename_i a0_Gates_n a0_Gates_s a0_Gates_g
    obtain ⟨⟨rfl,a0_Gates_f,rfl⟩,hk⟩:=h
    try rw [zac a0_Gates_f] at hk
    exact ⟨fun _ _=>[],fun _=>false,zDN,q96 (⟨(⟨a0_Gates_n,a0_Gates_f⟩:(Sl Gate))⟩:list) K hk⟩
  · exact h.elim
abbrev T97:Tabs:=(Tabs.nil.addF 99 zvk)
theorem zLQ:TabsOk Try.prog T97:=(TabsOk.nil.addF zLJ)
abbrev G97:Ctrs:=csm T97 (fun _ _=>[]) (fun _=>false)
def zDQ:Ann:=⟨11,[(0,zK [2,3] [2,3]),(1,zK [4] [])],
 [],
 [],
 [],[]⟩
abbrev R97:=Bool
abbrev e97 (r:R97):List PA:=[.one (.bool r)]
section
variable {K:List PA→Prop} {s:set} {x:straight}
def s97 (s:set) (x:straight):Bool :=
  (!(zK9 x s.list.Gates))
def p97 (s:set) (x:straight):Bool :=
  (decide ((zLa x s.list.Gates=true)) &&
 true)
end
theorem q97 (s:set) (x:straight) (K:List PA→Prop) (hs:p97 s x=true) (hk:K (e97 (s97 s x))):vcFun Try.prog G97 zDQ 97 [.agg (zaV s),.agg (zah x)] K :=
  zaw (by kernel_rfl) (zau hs fun hc hs=>And.intro (And.intro (zE enc_55 3 s.list.Gates.get) hc) hk)
def zDR : List PA → COut
  | [.agg [.sl a0_list_Gates_n a0_list_Gates_s a0_list_Gates_g,.sl a0_corners_n a0_corners_s a0_corners_g],.agg [.int .i64 a1_slope,.int .i64 a1_start,.int .i64 a1_den]]=>.det (IsE enc_55 3 a0_list_Gates_s a0_list_Gates_g∧IsE zah 3 a0_corners_s a0_corners_g∧p97 (⟨(⟨(⟨a0_list_Gates_n,zad a0_list_Gates_g⟩:(Sl Gate))⟩:list),(⟨a0_corners_n,zaR a0_corners_g⟩:(Sl straight))⟩:set) (⟨a1_slope,a1_start,a1_den⟩:straight)=true) [.one (.bool (s97 (⟨(⟨(⟨a0_list_Gates_n,zad a0_list_Gates_g⟩:(Sl Gate))⟩:list),(⟨a0_corners_n,zaR a0_corners_g⟩:(Sl straight))⟩:set) (⟨a1_slope,a1_start,a1_den⟩:straight)))]
  | [.agg [.sl a0_list_Gates_n a0_list_Gates_s a0_list_Gates_g,.nils],.agg [.int .i64 a1_slope,.int .i64 a1_start,.int .i64 a1_den]]=>.det (IsE enc_55 3 a0_list_Gates_s a0_list_Gates_g∧p97 (⟨(⟨(⟨a0_list_Gates_n,zad a0_list_Gates_g⟩:(Sl Gate))⟩:list),(⟨0,fun _=>default⟩:(Sl straight))⟩:set) (⟨a1_slope,a1_start,a1_den⟩:straight)=true) [.one (.bool (s97 (⟨(⟨(⟨a0_list_Gates_n,zad a0_list_Gates_g⟩:(Sl Gate))⟩:list),(⟨0,fun _=>default⟩:(Sl straight))⟩:set) (⟨a1_slope,a1_start,a1_den⟩:straight)))]
  | _=>.no
theorem zIQ:zaf Try.prog 97:=⟨_,rfl,rfl,by kernel_rfl⟩
theorem zOr:Ok Try.prog 97 zDR:=zhs zLQ zIQ fun args K h=>by
  unfold zDR at h
  split at h
  · rename_i a0_list_Gates_n a0_list_Gates_s a0_list_Gates_g a0_corners_n a0_corners_s a0_corners_g a1_slope a1_start a1_den
    obtain ⟨⟨⟨rfl,a0_list_Gates_f,rfl⟩,⟨rfl,a0_corners_f,rfl⟩,hs⟩,hk⟩:=h
    try rw [zac a0_list_Gates_f] at hs
    try rw [zac a0_list_Gates_f] at hk
    try rw [zaM a0_corners_f] at hs
    try rw [zaM a0_corners_f] at hk
    exact ⟨_,ze6 zf5 _,(fun _ _=>[]),(fun _=>false),zDQ,q97 (⟨(⟨(⟨a0_list_Gates_n,a0_list_Gates_f⟩:(Sl Gate))⟩:list),(⟨a0_corners_n,a0_corners_f⟩:(Sl straight))⟩:set) (⟨a1_slope,a1_start,a1_den⟩:straight) (Wk K) hs (zed hk)⟩
  · rename_i a0_list_Gates_n a0_list_Gates_s a0_list_Gates_g a1_slope a1_start a1_den
    obtain ⟨⟨⟨rfl,a0_list_Gates_f,rfl⟩,hs⟩,hk⟩:=h
    try rw [zac a0_list_Gates_f] at hs
    try rw [zac a0_list_Gates_f] at hk
    exact ⟨_,(zc5 (.agg (zc5 (.rfl _) (zc5 (.nil _ _) zhr))) (zc5 (zf5 _) zhr)),(fun _ _=>[]),(fun _=>false),zDQ,q97 (⟨(⟨(⟨a0_list_Gates_n,a0_list_Gates_f⟩:(Sl Gate))⟩:list),(⟨0,fun _=>default⟩:(Sl straight))⟩:set) (⟨a1_slope,a1_start,a1_den⟩:straight) (Wk K) hs (zed hk)⟩
  · exact h.elim
abbrev zNp:Tabs:=Tabs.nil
theorem zIR:TabsOk Try.prog zNp:=TabsOk.nil
abbrev zNq:Ctrs:=csm zNp (fun _ _=>[]) (fun _=>false)
def zvo:Ann:=⟨30,[(0,zK [0,1,2,3,8] [8]),(1,zK [0,1,2,3,8,11] [8]),(2,zK [0,1,2,3,8] [8]),(3,zK [8] [8])],
 [],
 [(3,zK [0,1,2,3,8] [8])],
 [],[]⟩
abbrev zOs:=straight
abbrev e116 (r:zOs):List PA:=[.agg [.int .i64 r.slope,.int .i64 r.start,.int .i64 r.den]]
@[irreducible] def z116:=ptF Try.prog zNq zvo Try.f116
section
variable {K:List PA→Prop} {z:Int} {p:Int} {y_a2:Int} {q:Int} {zv0:Int} {pv0:Int} {yv0:Int} {qv0:Int}
def ziW (zv0:Int) (pv0:Int) (yv0:Int) (qv0:Int):straight :=
  (⟨(w64 (qv0 - pv0)),(w64 ((w64 (pv0 * yv0)) - (w64 (qv0 * zv0)))),(w64 (yv0 - zv0))⟩:straight)
theorem zsi (hk:K (e116 (ziW zv0 pv0 yv0 qv0))):z116 K [1,1] [] ⟨[(0,zI zv0),(1,zI pv0),(2,zI yv0),(3,zI qv0),(8,zp 8 0)],[(8,.box 118 (zm (zah (⟨(0:Int),(0:Int),(0:Int)⟩:straight))))],[]⟩:=zaw (by kernel_rfl) hk
def zkG (z:Int) (p:Int) (y_a2:Int) (q:Int):straight :=
  (cond (decide (z > y_a2))
 (ziW y_a2 q z p)
 (ziW z p y_a2 q))
end
theorem zOt (z:Int) (p:Int) (y_a2:Int) (q:Int) (K:List PA→Prop) (hk:K (e116 (zkG z p y_a2 q))):vcFun Try.prog zNq zvo 116 [.one (.int .i64 z),.one (.int .i64 p),.one (.int .i64 y_a2),.one (.int .i64 q)] K :=
  zaw (by kernel_rfl) (zt hk (fun hk=>(zsi hk)) (fun hk=>(zsi hk)))
def zvp : List PA → COut
  | [.one (.int .i64 a0),.one (.int .i64 a1),.one (.int .i64 a2),.one (.int .i64 a3)]=>.tot [.agg [.int .i64 ((zkG a0 a1 a2 a3).slope),.int .i64 ((zkG a0 a1 a2 a3).start),.int .i64 ((zkG a0 a1 a2 a3).den)]]
  | _=>.no
theorem zDS:zaf Try.prog 116:=⟨_,rfl,rfl,by kernel_rfl⟩
theorem zLR:Ok Try.prog 116 zvp:=zay zIR zDS fun args K h=>by
  unfold zvp at h
  split at h
  · rename_i a0 a1 a2 a3
    have hk:=h
    exact ⟨(fun _ _=>[]),(fun _=>false),zvo,zOt a0 a1 a2 a3 K hk⟩
  · exact h.elim
abbrev zNr:Tabs:=(Tabs.nil.addF 116 zvp)
theorem zIS:TabsOk Try.prog zNr:=(TabsOk.nil.addF zLR)
abbrev zvq:Ctrs:=csm zNr (fun _ _=>[]) (fun _=>false)
def zbV:Ann:=⟨64,[(0,⟨[0,1,12,13,14],[],[],[],[],[],[]⟩),(1,⟨[0,1,12,13,14,15],[],[],[],[],[],[]⟩),(2,⟨[0,1,3,4,12,13,14],[4],[],[],[],[],[]⟩),(3,⟨[0,1,4,12,13,14,23,24,25],[4],[],[],[],[],[]⟩),(4,⟨[0,1,4,12,13,14,23,24,25,26],[4],[],[],[],[],[]⟩),(5,⟨[0,1,4,6,12,13,14,23,24,25],[4,6],[],[],[],[],[]⟩),(6,⟨[0,1,4,6,12,13,14,23,24,25,33],[4,6],[],[],[],[],[]⟩),(7,⟨[0,1,4,6,12,13,14,23,24,25,38,39],[4,6],[],[],[],[],[]⟩),(8,⟨[0,1,4,6,12,13,14,23,24,25,38,39,40],[4,6],[],[],[],[],[]⟩),(9,⟨[0,1,4,6,8,12,13,14,23,24,25,38,39],[4,6],[],[],[],[],[]⟩),(10,⟨[0,1,4,6,8,12,13,14,23,24,25,38,39,46,47],[4,6],[],[],[],[],[]⟩),(11,⟨[0,1,4,6,8,12,13,14,23,24,25,38,39,46,47,48],[4,6],[],[],[],[],[]⟩),(12,⟨[0,1,4,6,8,10,12,13,14,23,24,25,38,39,46,47],[4,6],[],[],[],[],[]⟩),(13,⟨[0,1,4,6,8,12,13,14,23,24,25,38,39,46,47,59],[4,6],[],[],[],[],[]⟩),(14,⟨[0,1,4,6,8,12,13,14,23,24,25,38,39,46,47],[4,6],[],[],[],[],[]⟩),(15,⟨[0,1,4,6,12,13,14,23,24,25,38,39],[4,6],[],[],[],[],[]⟩),(16,⟨[0,1,4,12,13,14,23,24,25],[4],[],[],[],[],[]⟩),(17,⟨[0,1,12,13,14],[],[],[],[],[],[]⟩)],
 [(1,⟨[0,1,12,13,14],[],[],[],[],[],[]⟩),(4,⟨[0,1,4,12,13,14,23,24,25],[4],[],[],[],[4],[]⟩)],
 [],
 [(8,3,⟨[0,1,4,6,12,13,14,23,24,25,38,39],[4,6],[],[],[],[],[]⟩),(11,3,⟨[0,1,4,6,8,12,13,14,23,24,25,38,39,46,47],[4,6],[],[],[],[],[]⟩)],[13]⟩
def ze7 (l:Nat) (a:list) (zai:Int):St:=⟨[(0,.one (.c (.p (.yl l)))),(1,.one (.c (.p (.fp (zbW a) 0)))),(12,.one (.c (.p (.sl a.Gates.len 3 (fun i=>enc_55 (a.Gates.get i)))))),(13,.one (.c (.p (.int .i64 (a.Gates.len:Int))))),(14,.one (.c (.p (.int .i64 zai))))],[],[]⟩
def zg7 (l:Nat) (ys:List (List PA)) (a:list) (zai:Int):Prop:=vcY Try.prog zvq zbV l (cdF Try.f115 [1,0]) (zcX 0 zkL) ys false (ze7 l a zai)
def ze8 (l:Nat) (a:list) (zaQ:Int) (ze9:Nat) (zbX:Nat→List PV) (zbq:Int) (zaD:Int) (zaL:Int) (zaU:Int) (zbe:Int):St:=⟨[(0,.one (.c (.p (.yl l)))),(1,.one (.c (.p (.fp (zbW a) 0)))),(4,.one (.c (.ptr 4 0))),(12,.one (.c (.p (.sl a.Gates.len 3 (fun i=>enc_55 (a.Gates.get i)))))),(13,.one (.c (.p (.int .i64 (a.Gates.len:Int))))),(14,.one (.c (.p (.int .i64 zaQ)))),(23,.one (.c (.p (.sl ze9 3 zbX)))),(24,.one (.c (.p (.int .i64 zbq)))),(25,.one (.c (.p (.int .i64 zaD))))],[(4,.fbox [.int .i64 zaL,.int .i64 zaU,.int .i64 zbe])],[]⟩
def zg8 (l:Nat) (X0:List (List PA)→Bool→St→Prop) (ys:List (List PA)) (a:list) (zaQ:Int) (ze9:Nat) (zbX:Nat→List PV) (zbq:Int) (zaD:Int) (zaL:Int) (zaU:Int) (zbe:Int):Prop:=vcY Try.prog zvq zbV l (cdF Try.f115 [1,0,0,1,1,0,0,1,1,0]) (zcX 2 (zcX 1 (zHU (zHW Try.prog zbV 17 (vcY Try.prog zvq zbV l (cdF Try.f115 [1,0,0,1,1,1]) (ziB Try.prog zbV 1 X0 (zcX 0 zkL)))) (ziB Try.prog zbV 1 X0 (zcX 0 zkL))))) ys false (ze8 l a zaQ ze9 zbX zbq zaD zaL zaU zbe)
theorem zAW (l : Nat) (a : list) (ys : List (List PA)) :
  vcIter Try.prog zvq zbV 115 l [.one (.fp (zbW a) 0)] ys =
  (zg7 l ys a (0:Int)):=by kernel_rfl
def zlm (l:Nat) (X0:List (List PA)→Bool→St→Prop) (ys:List (List PA)) (a:list) (zai:Int):Prop :=
  (zcW (decide (zai < (a.Gates.len : Int)))
 (((0≤zai∧zai < (a.Gates.len:Int))) ∧
 (((0≤(w64 (zai+(1:Int)))∧(w64 (zai+(1:Int)))≤(a.Gates.len:Int)∧(a.Gates.len:Int)≤(a.Gates.len:Int))) ∧
 (zg8 l  X0 ys a zai (((a.Gates.len:Int) - (w64 (zai+(1:Int)))).toNat) (slG (fun i=>enc_55 (a.Gates.get i)) ((w64 (zai+(1:Int))).toNat)) (((a.Gates.len:Int) - (w64 (zai+(1:Int)))).toNat:Int) (0:Int) ((a.Gates.get zai.toNat).Z) ((a.Gates.get zai.toNat).Low) ((a.Gates.get zai.toNat).High))))
 (ys=[]))
theorem zod (l : Nat) (X0 : List (List PA) → Bool → St → Prop) (ys : List (List PA)) (a : list) (zai : Int) :
  vcY Try.prog zvq zbV l (cd (cdF Try.f115 [1,0]) [0]) (ziB Try.prog zbV 1 X0 (zcX 0 zkL)) ys false (ze7 l a zai) =
  zlm l X0 ys a zai:=by kernel_rfl
theorem ztD (l : Nat) (ys : List (List PA)) (a : list) (zai : Int)
  (h:∀ X0:List (List PA)→Bool→St→Prop,(∀ (ys:List (List PA)) (zai:Int),zlm l X0 ys a zai→X0 ys false (ze7 l a zai))→X0 ys false (ze7 l a zai)) :
  zg7 l ys a zai:=by
  have e:zg7 l ys a zai=(∀ X:List (List PA)→Bool→St→Prop,(∀ ys q s,vcY Try.prog zvq zbV l (cd (cdF Try.f115 [1,0]) [0]) (ziB Try.prog zbV 1 X (zcX 0 zkL)) ys q s→X ys q s)→X ys false (ze7 l a zai)):=by kernel_rfl
  refine zaw e ?_
  intro X hX
  refine h X ?_
  intro ys zai hs
  refine hX _ _ _ ?_
  have e2:=zod l X ys a zai
  rw [e2]
  exact hs
def zln (l:Nat) (X0:List (List PA)→Bool→St→Prop) (X1:List (List PA)→Bool→St→Prop) (ys:List (List PA)) (a:list) (zaQ:Int) (zaH:(Sl Gate)) (zbq:Int) (zaD:Int) (zaL:Int) (zaU:Int) (zbe:Int):Prop :=
  (zcW (decide (zaD < zbq))
 (((0≤zaD∧zaD < (zaH.len:Int))) ∧
 (zcW (zaL == (zaH.get zaD.toNat).Z)
 (X1 ys false (ze8 l a zaQ zaH.len (fun i=>enc_55 (zaH.get i)) zbq (w64 (zaD+(1:Int))) zaL zaU zbe))
 (l=l∧∃ r1,ys=[.agg [.int .i64 ((zkG zaL zaU ((zaH.get zaD.toNat).Z) ((zaH.get zaD.toNat).Low)).slope),.int .i64 ((zkG zaL zaU ((zaH.get zaD.toNat).Z) ((zaH.get zaD.toNat).Low)).start),.int .i64 ((zkG zaL zaU ((zaH.get zaD.toNat).Z) ((zaH.get zaD.toNat).Low)).den)]] :: r1 ∧
 (l=l∧∃ r2,r1=[.agg [.int .i64 ((zkG zaL zaU ((zaH.get zaD.toNat).Z) ((zaH.get zaD.toNat).High)).slope),.int .i64 ((zkG zaL zaU ((zaH.get zaD.toNat).Z) ((zaH.get zaD.toNat).High)).start),.int .i64 ((zkG zaL zaU ((zaH.get zaD.toNat).Z) ((zaH.get zaD.toNat).High)).den)]] :: r2 ∧
 (l=l∧∃ r3,r2=[.agg [.int .i64 ((zkG zaL zbe ((zaH.get zaD.toNat).Z) ((zaH.get zaD.toNat).Low)).slope),.int .i64 ((zkG zaL zbe ((zaH.get zaD.toNat).Z) ((zaH.get zaD.toNat).Low)).start),.int .i64 ((zkG zaL zbe ((zaH.get zaD.toNat).Z) ((zaH.get zaD.toNat).Low)).den)]] :: r3 ∧
 (l=l∧∃ r4,r3=[.agg [.int .i64 ((zkG zaL zbe ((zaH.get zaD.toNat).Z) ((zaH.get zaD.toNat).High)).slope),.int .i64 ((zkG zaL zbe ((zaH.get zaD.toNat).Z) ((zaH.get zaD.toNat).High)).start),.int .i64 ((zkG zaL zbe ((zaH.get zaD.toNat).Z) ((zaH.get zaD.toNat).High)).den)]] :: r4 ∧
 (X1 r4 false (ze8 l a zaQ zaH.len (fun i=>enc_55 (zaH.get i)) zbq (w64 (zaD+(1:Int))) zaL zaU zbe))∧True)∧True)∧True)∧True)))
 (X0 ys false (ze7 l a (w64 (zaQ+(1:Int))))))
theorem zoe (l : Nat) (X0 : List (List PA) → Bool → St → Prop) (X1 : List (List PA) → Bool → St → Prop) (ys : List (List PA)) (a : list) (zaQ : Int) (zaH : (Sl Gate)) (zbq : Int) (zaD : Int) (zaL : Int) (zaU : Int) (zbe : Int) :
  vcY Try.prog zvq zbV l (cd (cdF Try.f115 [1,0,0,1,1,0,0,1,1,0]) [0]) (ziB Try.prog zbV 4 X1 (zcX 2 (zcX 1 (zHU (zHW Try.prog zbV 17 (vcY Try.prog zvq zbV l (cdF Try.f115 [1,0,0,1,1,1]) (ziB Try.prog zbV 1 X0 (zcX 0 zkL)))) (ziB Try.prog zbV 1 X0 (zcX 0 zkL)))))) ys false (ze8 l a zaQ zaH.len (fun i=>enc_55 (zaH.get i)) zbq zaD zaL zaU zbe) =
  zln l  X0 X1 ys a zaQ zaH zbq zaD zaL zaU zbe:=by kernel_rfl
theorem ztE (l : Nat) (X0 : List (List PA) → Bool → St → Prop) (ys : List (List PA)) (a : list) (zaQ : Int) (ze9 : Nat) (zbX : Nat → List PV) (zbq : Int) (zaD : Int) (zaL : Int) (zaU : Int) (zbe : Int)
  (h:∀ X1:List (List PA)→Bool→St→Prop,(∀ (ys:List (List PA)) (zaQ:Int) (zaH:(Sl Gate)) (zbq:Int) (zaD:Int) (zaL:Int) (zaU:Int) (zbe:Int),zln l  X0 X1 ys a zaQ zaH zbq zaD zaL zaU zbe→X1 ys false (ze8 l a zaQ zaH.len (fun i=>enc_55 (zaH.get i)) zbq zaD zaL zaU zbe))→X1 ys false (ze8 l a zaQ ze9 zbX zbq zaD zaL zaU zbe)) :
  zg8 l  X0 ys a zaQ ze9 zbX zbq zaD zaL zaU zbe:=by
  have e:zg8 l  X0 ys a zaQ ze9 zbX zbq zaD zaL zaU zbe=(∀ X:List (List PA)→Bool→St→Prop,(∀ ys q s,vcY Try.prog zvq zbV l (cd (cdF Try.f115 [1,0,0,1,1,0,0,1,1,0]) [0]) (ziB Try.prog zbV 4 X (zcX 2 (zcX 1 (zHU (zHW Try.prog zbV 17 (vcY Try.prog zvq zbV l (cdF Try.f115 [1,0,0,1,1,1]) (ziB Try.prog zbV 1 X0 (zcX 0 zkL)))) (ziB Try.prog zbV 1 X0 (zcX 0 zkL)))))) ys q s→X ys q s)→X ys false (ze8 l a zaQ ze9 zbX zbq zaD zaL zaU zbe)):=by kernel_rfl
  refine zaw e ?_
  intro X hX
  refine h X ?_
  intro ys zaQ zaH zbq zaD zaL zaU zbe hs
  refine hX _ _ _ ?_
  have e2:=zoe l  X0 X ys a zaQ zaH zbq zaD zaL zaU zbe
  rw [e2]
  exact hs
attribute [irreducible] zg7 zg8
def zeA (S0:Int→List straight) (a:list) (S1:Int→(Sl Gate)→Int→Int→Int→Int→Int→List straight) (zaQ:Int) (zaH:(Sl Gate)) (zbq:Int) (zaD:Int) (zaL:Int) (zaU:Int) (zbe:Int):List straight :=
  (cond (decide (zaD < zbq))
 (cond (zaL == (zaH.get zaD.toNat).Z)
 (S1 zaQ zaH zbq (w64 (zaD+(1:Int))) zaL zaU zbe)
 ((zkG zaL zaU ((zaH.get zaD.toNat).Z) ((zaH.get zaD.toNat).Low)) :: ((zkG zaL zaU ((zaH.get zaD.toNat).Z) ((zaH.get zaD.toNat).High)) :: ((zkG zaL zbe ((zaH.get zaD.toNat).Z) ((zaH.get zaD.toNat).Low)) :: ((zkG zaL zbe ((zaH.get zaD.toNat).Z) ((zaH.get zaD.toNat).High)) :: (S1 zaQ zaH zbq (w64 (zaD+(1:Int))) zaL zaU zbe))))))
 (S0 (w64 (zaQ+(1:Int)))))
def zeB (P0:Int→Bool) (a:list) (P1:Int→(Sl Gate)→Int→Int→Int→Int→Int→Bool) (zaQ:Int) (zaH:(Sl Gate)) (zbq:Int) (zaD:Int) (zaL:Int) (zaU:Int) (zbe:Int):Bool :=
  (cond (decide (zaD < zbq))
 (decide ((0≤zaD∧zaD < (zaH.len:Int))) &&
 (cond (zaL == (zaH.get zaD.toNat).Z)
 (P1 zaQ zaH zbq (w64 (zaD+(1:Int))) zaL zaU zbe)
 (P1 zaQ zaH zbq (w64 (zaD+(1:Int))) zaL zaU zbe)))
 (P0 (w64 (zaQ+(1:Int)))))
def zdk (S0 : Int → List straight) (a : list) : Nat → Int → (Sl Gate) → Int → Int → Int → Int → Int → List straight
  | 0=>fun _ _ _ _ _ _ _=>[]
  | k+1=>zeA S0 a (zdk S0 a k)
def zdl (P0 : Int → Bool) (a : list) : Nat → Int → (Sl Gate) → Int → Int → Int → Int → Int → Bool
  | 0=>fun _ _ _ _ _ _ _=>false
  | k+1=>zeB P0 a (zdl P0 a k)
def zl1 (S0:Int→List straight) (a:list) (zaQ:Int) (zaH:(Sl Gate)) (zbq:Int) (zaD:Int) (zaL:Int) (zaU:Int) (zbe:Int):List straight:=zdk S0 a Fuel zaQ zaH zbq zaD zaL zaU zbe
def zl2 (P0:Int→Bool) (a:list) (zaQ:Int) (zaH:(Sl Gate)) (zbq:Int) (zaD:Int) (zaL:Int) (zaU:Int) (zbe:Int):Bool:=zdl P0 a Fuel zaQ zaH zbq zaD zaL zaU zbe
theorem zAX (l : Nat) (a : list)
  (X0:List (List PA)→Bool→St→Prop) (P0:Int→Bool) (S0:Int→List straight)
  (hX0:∀ (ys:List (List PA)) (zai:Int),P0 zai=true→ys=(S0 zai).map (fun y=>[.agg (zah y)])→X0 ys false (ze7 l a zai)) (ys:List (List PA)) (zaQ:Int) (zaH:(Sl Gate)) (zbq:Int) (zaD:Int) (zaL:Int) (zaU:Int) (zbe:Int) (zbX:Nat→List PV) (zjO:zbX=fun i=>enc_55 (zaH.get i)) (hs:zl2 P0 a zaQ zaH zbq zaD zaL zaU zbe=true) (hk:ys=(zl1 S0 a zaQ zaH zbq zaD zaL zaU zbe).map (fun y=>[.agg (zah y)])):zg8 l  X0 ys a zaQ zaH.len zbX zbq zaD zaL zaU zbe:=by
  refine ztE l  X0 ys a zaQ zaH.len zbX zbq zaD zaL zaU zbe ?_
  intro X1 hstep
  have key:∀ (k:Nat) (ys:List (List PA)) (zaQ:Int) (zaH:(Sl Gate)) (zbq:Int) (zaD:Int) (zaL:Int) (zaU:Int) (zbe:Int) (zbX:Nat→List PV) (zjO:zbX=fun i=>enc_55 (zaH.get i)),zdl P0 a k zaQ zaH zbq zaD zaL zaU zbe=true→ys=(zdk S0 a k zaQ zaH zbq zaD zaL zaU zbe).map (fun y=>[.agg (zah y)])→X1 ys false (ze8 l a zaQ zaH.len zbX zbq zaD zaL zaU zbe):=by
    intro k
    induction k with
    | zero=>intro ys zaQ zaH zbq zaD zaL zaU zbe zbX zjO hs;exact absurd hs Bool.false_ne_true
    | succ k ih =>
      intro ys zaQ zaH zbq zaD zaL zaU zbe zbX zjO hs hk
      subst zjO
      refine hstep ys zaQ zaH zbq zaD zaL zaU zbe ?_
      have hs:zeB P0 a (zdl P0 a k) zaQ zaH zbq zaD zaL zaU zbe=true:=hs
      have hk:ys=(zeA S0 a (zdk S0 a k) zaQ zaH zbq zaD zaL zaU zbe).map (fun y=>[.agg (zah y)]):=hk
      unfold zeB at hs
      unfold zeA at hk
      generalize zdk S0 a k=S1 at hk ih
      generalize zdl P0 a k=P1 at hs ih
      have hX1:=ih
      exact (zlY hs hk
 (fun hs hk => (zau hs fun hc hs => ⟨hc, (zlY hs hk
 (fun hs hk=>(hX1 _ zaQ zaH zbq (w64 (zaD+(1:Int))) zaL zaU zbe (fun i=>enc_55 (zaH.get i)) rfl hs hk))
 (fun hs hk=>(itY hk rfl (fun _ hk=>(itY hk rfl (fun _ hk=>(itY hk rfl (fun _ hk=>(itY hk rfl (fun _ hk=>(hX1 _ zaQ zaH zbq (w64 (zaD+(1:Int))) zaL zaU zbe (fun i=>enc_55 (zaH.get i)) rfl hs hk)))))))))))⟩))
 (fun hs hk=>(hX0 _ (w64 (zaQ+(1:Int))) hs hk)))
  exact key _ _ zaQ zaH zbq zaD zaL zaU zbe zbX zjO hs hk
def zeC (a:list) (S0:Int→List straight) (zai:Int):List straight :=
  (cond (decide (zai < (a.Gates.len : Int)))
 (zl1 S0 a zai (⟨((a.Gates.len:Int) - (w64 (zai+(1:Int)))).toNat,(fun i=>a.Gates.get (i+((w64 (zai+(1:Int))).toNat)))⟩:Sl Gate) (((a.Gates.len:Int) - (w64 (zai+(1:Int)))).toNat:Int) (0:Int) ((a.Gates.get zai.toNat).Z) ((a.Gates.get zai.toNat).Low) ((a.Gates.get zai.toNat).High))
 [])
def zeD (a:list) (P0:Int→Bool) (zai:Int):Bool :=
  (cond (decide (zai < (a.Gates.len : Int)))
 (decide ((0≤zai∧zai < (a.Gates.len:Int))) &&
 (decide ((0≤(w64 (zai+(1:Int)))∧(w64 (zai+(1:Int)))≤(a.Gates.len:Int)∧(a.Gates.len:Int)≤(a.Gates.len:Int))) &&
 (zl2 P0 a zai (⟨((a.Gates.len:Int) - (w64 (zai+(1:Int)))).toNat,(fun i=>a.Gates.get (i+((w64 (zai+(1:Int))).toNat)))⟩:Sl Gate) (((a.Gates.len:Int) - (w64 (zai+(1:Int)))).toNat:Int) (0:Int) ((a.Gates.get zai.toNat).Z) ((a.Gates.get zai.toNat).Low) ((a.Gates.get zai.toNat).High))))
 true)
def zdm (a : list) : Nat → Int → List straight
  | 0=>fun _=>[]
  | k+1=>zeC a (zdm a k)
def zdn (a : list) : Nat → Int → Bool
  | 0=>fun _=>false
  | k+1=>zeD a (zdn a k)
def zsj (a:list) (zai:Int):List straight:=zdm a Fuel zai
def zsk (a:list) (zai:Int):Bool:=zdn a Fuel zai
theorem zAY (l:Nat) (a:list) (ys:List (List PA)) (zai:Int) (hs:zsk a zai=true) (hk:ys=(zsj a zai).map (fun y=>[.agg (zah y)])):zg7 l ys a zai:=by
  refine ztD l ys a zai ?_
  intro X0 hstep
  have key:∀ (k:Nat) (ys:List (List PA)) (zai:Int),zdn a k zai=true→ys=(zdm a k zai).map (fun y=>[.agg (zah y)])→X0 ys false (ze7 l a zai):=by
    intro k
    induction k with
    | zero=>intro ys zai hs;exact absurd hs Bool.false_ne_true
    | succ k ih =>
      intro ys zai hs hk
      refine hstep ys zai ?_
      have hs:zeD a (zdn a k) zai=true:=hs
      have hk:ys=(zeC a (zdm a k) zai).map (fun y=>[.agg (zah y)]):=hk
      unfold zeD at hs
      unfold zeC at hk
      generalize zdm a k=S0 at hk ih
      generalize zdn a k=P0 at hs ih
      have hX0:=ih
      exact (zlY hs hk
 (fun hs hk=>(zau hs fun hc hs=>⟨hc,(zau hs fun hc hs=>⟨hc,(zAX l a X0 P0 S0 hX0 _ zai (⟨((a.Gates.len:Int) - (w64 (zai+(1:Int)))).toNat,(fun i=>a.Gates.get (i+((w64 (zai+(1:Int))).toNat)))⟩:Sl Gate) (((a.Gates.len:Int) - (w64 (zai+(1:Int)))).toNat:Int) (0:Int) ((a.Gates.get zai.toNat).Z) ((a.Gates.get zai.toNat).Low) ((a.Gates.get zai.toNat).High) (slG (fun i=>enc_55 (a.Gates.get i)) ((w64 (zai+(1:Int))).toNat)) rfl hs hk)⟩)⟩))
 (fun hs hk=>hk))
  exact key _ _ zai hs hk
def zCa (a:list):List straight :=
  (zsj a (0:Int))
def zDT (a:list):Bool :=
  (zsk a (0:Int))
theorem zOu (l:Nat) (a:list) (ys:List (List PA)) (hs:zDT a=true) (hk:ys=(zCa a).map (fun y=>[.agg (zah y)])):vcIter Try.prog zvq zbV 115 l [.one (.fp (zbW a) 0)] ys:=by
  refine zaw (zAW l a ys) ?_
  unfold zDT at hs
  unfold zCa at hk
  exact (zAY l a _ (0:Int) hs hk)
def zDU : List PA → Option (Prop × List (List PA))
  | [.one (.fp [.sl a_Gates_n a_Gates_s a_Gates_g] 0)]=>some (IsE enc_55 3 a_Gates_s a_Gates_g∧zDT (⟨(⟨a_Gates_n,zad a_Gates_g⟩:(Sl Gate))⟩:list)=true,(zCa (⟨(⟨a_Gates_n,zad a_Gates_g⟩:(Sl Gate))⟩:list)).map fun y=>[.agg (zah y)])
  | _=>none
theorem zDV:zaf Try.prog 115:=⟨_,rfl,rfl,by kernel_rfl⟩
theorem zLS:zBK Try.prog 115 zDU:=zIh zIS zDV fun l caps safe ys h hs=>by
  unfold zDU at h
  split at h
  · rename_i a_Gates_n a_Gates_s a_Gates_g
    cases h
    obtain ⟨⟨rfl,a_Gates_f,rfl⟩,hs⟩:=hs
    try rw [zac a_Gates_f] at hs
    try rw [zac a_Gates_f]
    exact ⟨fun _ _=>[],fun _=>false,zbV,zOu l (⟨(⟨a_Gates_n,a_Gates_f⟩:(Sl Gate))⟩:list) _ hs rfl⟩
  · cases h
abbrev T65:Tabs:=(((((Tabs.nil.addF 67 zoc).addF 79 zAV).addF 96 zDP).addF 97 zDR).addI 115 zDU)
theorem zLT:TabsOk Try.prog T65:=(((((TabsOk.nil.addF zHI).addF zNo).addF zOq).addF zOr).addI zLS)
abbrev G65:Ctrs:=csm T65 (fun _ _=>[]) (fun l=>Nat.beq l 14)
def zg9:Ann:=⟨39,[(0,⟨[0,2],[2],[],[],[],[],[]⟩),(1,⟨[2,3],[2,3],[],[],[],[],[]⟩),(2,⟨[2,3,12],[2,3],[],[],[],[],[]⟩),(3,⟨[2],[2],[],[],[],[],[]⟩),(4,⟨[2,3,4],[2,3,4,14],[],[],[],[],[]⟩),(5,⟨[2,3,4,17],[2,3,4,14],[],[],[],[],[]⟩),(6,⟨[2,3,4,5,17],[2,3,4,5,14,36],[],[],[],[],[]⟩),(7,⟨[2,3,4,5,6,17],[2,3,4,5,6,14,36],[],[],[],[],[]⟩),(8,⟨[2,3,4,5,6,17,29],[2,3,4,5,6,14,36],[],[],[],[],[]⟩),(9,⟨[2,3,4,5,17],[2,3,4,5,14,36],[],[],[],[],[]⟩),(10,⟨[2,3,4,17],[2,3,4,14,36],[],[],[],[],[]⟩),(11,⟨[2],[2,36],[],[],[],[],[]⟩)],
 [(6,⟨[2,3,4,17],[2,3,4,14,36],[],[(3,1,36,118,fun _=>zah default)],[],[],[]⟩)],
 [(3,⟨[2,3,12],[2,3],[],[],[],[],[]⟩),(4,⟨[2,3],[2,3],[],[],[],[],[]⟩)],
 [],[]⟩
def zIT (zaa:(Sl Gate)) (zaJ:Bool):St:=⟨[(2,.one (.c (.ptr 2 0))),(3,.one (.c (.ptr 3 0))),(12,.one (.c (.p (.bool zaJ))))],[(2,.box 104 [.p (.nils),.p (.nils)]),(3,.box 104 [.p (.sl zaa.len 3 (fun i=>enc_55 (zaa.get i))),.p (.nils)])],[]⟩
def zl3 (K:List PA→Prop) (zaa:(Sl Gate)) (zaJ:Bool):Prop:=vc Try.prog G65 zg9 (cdF Try.f65 [1,1,0,1]) (sqK Try.prog G65 zg9 (cdF Try.f65 [1,1,1]) (zci Try.prog Try.f65 K)) (zIT zaa zaJ)
def zIU (zaa:(Sl Gate)):St:=⟨[(2,.one (.c (.ptr 2 0))),(3,.one (.c (.ptr 3 0)))],[(2,.box 104 [.p (.nils),.p (.nils)]),(3,.box 104 [.p (.sl zaa.len 3 (fun i=>enc_55 (zaa.get i))),.p (.nils)])],[]⟩
def zl4 (K:List PA→Prop) (zaa:(Sl Gate)):Prop:=vc Try.prog G65 zg9 (cdF Try.f65 [1,1,1]) (zci Try.prog Try.f65 K) (zIU zaa)
def zfa (zaa:(Sl Gate)) (zfb:Nat) (zbY:Nat→List PV) (zar:Nat) (zak:(List Int→Option (List Int))):St:=⟨[(2,.one (.c (.ptr 2 0))),(3,.one (.c (.ptr 3 0))),(4,.one (.c (.ptr 4 0))),(17,.one (.c (.p (.fn 115 [] [.fp (zbW (⟨zaa⟩:list)) 0]))))],[(2,.box 104 [.p (.nils),.p (.nils)]),(3,.box 104 [.p (.sl zaa.len 3 (fun i=>enc_55 (zaa.get i))),.vec 36]),(4,.box 136 [.mo 14]),(14,.mo 37 4 (true,4,false,[none]) zar zak),(36,.vec 118 3 24 zfb zbY)],[]⟩
def zjP (K:List PA→Prop) (zaa:(Sl Gate)) (zfb:Nat) (zbY:Nat→List PV) (zar:Nat) (zak:(List Int→Option (List Int))):Prop:=vc Try.prog G65 zg9 (cdF Try.f65 [1,1,1,1,0,1,0]) (zaY 0 (sqK Try.prog G65 zg9 (cdF Try.f65 [1,1,1,1,1]) (zci Try.prog Try.f65 K))) (zfa zaa zfb zbY zar zak)
theorem zDW (zaa : (Sl Gate)) (K : List PA → Prop) :
  vcFun Try.prog G65 zg9 65 [.one (.sl zaa.len 3 (fun i=>enc_55 (zaa.get i)))] K =
  ((IsE enc_55 3 3 (fun i=>enc_55 (zaa.get i))∧(p67 (⟨zaa⟩:list)=true)) ∧
 (zl3 K zaa (s67 (⟨zaa⟩:list)))):=by kernel_rfl
theorem zDX (K : List PA → Prop) (zaa : (Sl Gate)) (zaJ : Bool) :
  zl3 K zaa zaJ =
  (zcW zaJ
 (K [.agg [.sl zaa.len 3 (fun i=>enc_55 (zaa.get i)),.nils]])
 (zl4 K zaa)):=by kernel_rfl
theorem zDY (K : List PA → Prop) (zaa : (Sl Gate)) :
  zl4 K zaa =
  ((IsE enc_55 3 3 (fun i=>enc_55 (zaa.get i))) ∧
 (zjP K zaa 0 (fun i=>zah ((fun _=>default) i)) 0 (fun _=>none))):=by kernel_rfl
def zof (K:List PA→Prop) (zaa:(Sl Gate)) (zaA:(Sl straight)) (zar:Nat) (zak:(List Int→Option (List Int))):Prop :=
  (K [.agg [.sl zaa.len 3 (fun i=>enc_55 (zaa.get i)),.sl zaA.len 3 (fun i=>zah (zaA.get i))]])
def zog (K:List PA→Prop) (X2:List (List PA)→St→Prop) (y2:straight) (rest2:List (List PA)) (zaa:(Sl Gate)) (zaA:(Sl straight)) (zar:Nat) (zak:(List Int→Option (List Int))):Prop :=
  (((p79 y2=true)) ∧
 (zcW (!((zdQ (zak [(s79 y2).Slope.Num, (s79 y2).Slope.Den, (s79 y2).Start.Num, (s79 y2).Start.Den]) 0) != 0))
 ((IsE enc_55 3 3 (fun i=>enc_55 (zaa.get i))∧IsE zah 3 3 (fun i=>zah (zaA.get i))∧(p97 (⟨(⟨zaa⟩:list),zaA⟩:set) y2=true)) ∧
 (zcW (s97 (⟨(⟨zaa⟩ : list), zaA⟩ : set) y2)
 ((((zaA.len+1) * 24≤140737488355328∧zaA.len+1≤9223372036854775807)) ∧
 (X2 rest2 (zfa zaa (zaA.len+1) (appG zaA.len (fun i=>zah (zaA.get i)) (fun _=>(zah y2))) (addN (zak [(s79 y2).Slope.Num,(s79 y2).Slope.Den,(s79 y2).Start.Num,(s79 y2).Start.Den]) zar) (zkT [(s79 y2).Slope.Num,(s79 y2).Slope.Den,(s79 y2).Start.Num,(s79 y2).Start.Den] [1] zak))))
 (X2 rest2 (zfa zaa zaA.len (fun i=>zah (zaA.get i)) zar zak))))
 (X2 rest2 (zfa zaa zaA.len (fun i=>zah (zaA.get i)) zar zak))))
theorem zpt (K:List PA→Prop) (zaa:(Sl Gate)) (zaA:(Sl straight)) (zar:Nat) (zak:(List Int→Option (List Int))):(zaY 0 (sqK Try.prog G65 zg9 (cdF Try.f65 [1,1,1,1,1]) (zci Try.prog Try.f65 K))) .normal (zfa zaa zaA.len (fun i=>zah (zaA.get i)) zar zak)=zof K zaa zaA zar zak:=by kernel_rfl
theorem zpu (K : List PA → Prop) (X2 : List (List PA) → St → Prop) (y2 : straight) (rest2 : List (List PA)) (zaa : (Sl Gate)) (zaA : (Sl straight)) (zar : Nat) (zak : (List Int → Option (List Int))) :
  zNf Try.prog G65 zg9 6 [18] (cd (cdF Try.f65 [1,1,1,1,0,1,0]) [0]) (cd (cdF Try.f65 [1,1,1,1,0,1,0]) [1]) X2 (zaY 0 (sqK Try.prog G65 zg9 (cdF Try.f65 [1,1,1,1,1]) (zci Try.prog Try.f65 K))) [.agg (zah y2)] rest2 (zfa zaa zaA.len (fun i=>zah (zaA.get i)) zar zak)=zog K X2 y2 rest2 zaa zaA zar zak:=by kernel_rfl
theorem zvr (K : List PA → Prop) (zaa : (Sl Gate)) (zfb : Nat) (zbY : Nat → List PV) (zar : Nat) (zak : (List Int → Option (List Int)))
  (hsafe:IsE enc_55 3 3 (fun i=>enc_55 ((⟨zaa⟩:list).Gates.get i))∧(zDT (⟨zaa⟩:list)=true)) (h:∀ X2:List (List PA)→St→Prop,(∀ (zaA:(Sl straight)) (zar:Nat) (zak:(List Int→Option (List Int))),zof K zaa zaA zar zak→X2 [] (zfa zaa zaA.len (fun i=>zah (zaA.get i)) zar zak))→(∀ (y:straight) (rest:List (List PA)) (zaA:(Sl straight)) (zar:Nat) (zak:(List Int→Option (List Int))),zog K X2 y rest zaa zaA zar zak→X2 ([.agg (zah y)] :: rest) (zfa zaa zaA.len (fun i=>zah (zaA.get i)) zar zak))→X2 ((zCa (⟨zaa⟩:list)).map fun y=>[.agg (zah y)]) (zfa zaa zfb zbY zar zak)) :
  zjP K zaa zfb zbY zar zak:=by
  have e:zjP K zaa zfb zbY zar zak=((IsE enc_55 3 3 (fun i=>enc_55 ((⟨zaa⟩:list).Gates.get i))∧(zDT (⟨zaa⟩:list)=true))∧∀ X:List (List PA)→St→Prop,(∀ s,(zaY 0 (sqK Try.prog G65 zg9 (cdF Try.f65 [1,1,1,1,1]) (zci Try.prog Try.f65 K))) .normal s→X [] s)→(∀ y rest s,zNf Try.prog G65 zg9 6 [18] (cd (cdF Try.f65 [1,1,1,1,0,1,0]) [0]) (cd (cdF Try.f65 [1,1,1,1,0,1,0]) [1]) X (zaY 0 (sqK Try.prog G65 zg9 (cdF Try.f65 [1,1,1,1,1]) (zci Try.prog Try.f65 K))) y rest s→X (y :: rest) s)→X ((zCa (⟨zaa⟩:list)).map fun y=>[.agg (zah y)]) (zfa zaa zfb zbY zar zak)):=by kernel_rfl
  refine zaw e ⟨hsafe,?_⟩
  intro X h0 h1
  refine h X (fun zaA zar zak hs=>h0 _ ?_) (fun y rest zaA zar zak hs=>h1 _ rest _ ?_)
  · rw [zpt K zaa zaA zar zak];exact hs
  · have e2 := zpu K X y rest zaa zaA zar zak
    rw [e2];exact hs
abbrev e65 (r:set):List PA:=[.agg [.sl r.list.Gates.len 3 (fun i=>enc_55 (r.list.Gates.get i)),.sl r.corners.len 3 (fun i=>zah (r.corners.get i))]]
attribute [irreducible] zl3 zl4 zjP
def zpv (zaa:(Sl Gate)) (zaA:(Sl straight)) (zar:Nat) (zak:(List Int→Option (List Int))):set :=
  (⟨(⟨zaa⟩:list),zaA⟩:set)
def zpw (zaa:(Sl Gate)) (zaA:(Sl straight)) (zar:Nat) (zak:(List Int→Option (List Int))):Bool :=
  true
def zjQ (zaa:(Sl Gate)) (y2:straight) (S2:(Sl straight)→Nat→(List Int→Option (List Int))→set) (zaA:(Sl straight)) (zar:Nat) (zak:(List Int→Option (List Int))):set :=
  (cond (!((zdQ (zak [(s79 y2).Slope.Num, (s79 y2).Slope.Den, (s79 y2).Start.Num, (s79 y2).Start.Den]) 0) != 0))
 (cond (s97 (⟨(⟨zaa⟩ : list), zaA⟩ : set) y2)
 (S2 (⟨(zaA.len+1),(zdX zaA.len zaA.get (fun _=>y2))⟩:Sl straight) (addN (zak [(s79 y2).Slope.Num,(s79 y2).Slope.Den,(s79 y2).Start.Num,(s79 y2).Start.Den]) zar) (zkT [(s79 y2).Slope.Num,(s79 y2).Slope.Den,(s79 y2).Start.Num,(s79 y2).Start.Den] [1] zak))
 (S2 zaA zar zak))
 (S2 zaA zar zak))
def zjR (zaa:(Sl Gate)) (y2:straight) (P2:(Sl straight)→Nat→(List Int→Option (List Int))→Bool) (zaA:(Sl straight)) (zar:Nat) (zak:(List Int→Option (List Int))):Bool :=
  (decide ((p79 y2=true)) &&
 (cond (!((zdQ (zak [(s79 y2).Slope.Num, (s79 y2).Slope.Den, (s79 y2).Start.Num, (s79 y2).Start.Den]) 0) != 0))
 (decide ((p97 (⟨(⟨zaa⟩:list),zaA⟩:set) y2=true)) &&
 (cond (s97 (⟨(⟨zaa⟩ : list), zaA⟩ : set) y2)
 (decide (((zaA.len+1) * 24≤140737488355328∧zaA.len+1≤9223372036854775807)) &&
 (P2 (⟨(zaA.len+1),(zdX zaA.len zaA.get (fun _=>y2))⟩:Sl straight) (addN (zak [(s79 y2).Slope.Num,(s79 y2).Slope.Den,(s79 y2).Start.Num,(s79 y2).Start.Den]) zar) (zkT [(s79 y2).Slope.Num,(s79 y2).Slope.Den,(s79 y2).Start.Num,(s79 y2).Start.Den] [1] zak)))
 (P2 zaA zar zak)))
 (P2 zaA zar zak)))
def zfc (zaa : (Sl Gate)) : List straight → (Sl straight) → Nat → (List Int → Option (List Int)) → set
  | []=>zpv zaa
  | y :: r=>zjQ zaa y (zfc zaa r)
def zfd (zaa : (Sl Gate)) : List straight → (Sl straight) → Nat → (List Int → Option (List Int)) → Bool
  | []=>zpw zaa
  | y :: r=>zjR zaa y (zfd zaa r)
def zpx (zaa:(Sl Gate)) (zaA:(Sl straight)) (zar:Nat) (zak:(List Int→Option (List Int))):set:=zfc zaa (zCa (⟨zaa⟩:list)) zaA zar zak
def zl5 (zaa:(Sl Gate)) (zaA:(Sl straight)) (zar:Nat) (zak:(List Int→Option (List Int))):Bool:=decide ((zDT (⟨zaa⟩:list)=true)) && zfd zaa (zCa (⟨zaa⟩:list)) zaA zar zak
theorem zDZ (K:List PA→Prop) (zaa:(Sl Gate)) (zaA:(Sl straight)) (zar:Nat) (zak:(List Int→Option (List Int))) (zbY:Nat→List PV) (zhy:zbY=fun i=>zah (zaA.get i)) (hs:zl5 zaa zaA zar zak=true) (hk:K (e65 (zpx zaa zaA zar zak))):zjP (Wk K) zaa zaA.len zbY zar zak:=by
  unfold zl5 at hs
  rw [Bool.and_eq_true] at hs
  obtain ⟨hsf,hs⟩:=hs
  have hc:=of_decide_eq_true hsf
  refine zvr (Wk K) zaa zaA.len zbY zar zak ⟨isE,hc⟩ ?_
  intro X2 hexit hstep
  have key:∀ (l:List straight) (zaA:(Sl straight)) (zar:Nat) (zak:(List Int→Option (List Int))) (zbY:Nat→List PV) (zhy:zbY=fun i=>zah (zaA.get i)),zfd zaa l zaA zar zak=true→K (e65 (zfc zaa l zaA zar zak))→X2 (l.map fun y=>[.agg (zah y)]) (zfa zaa zaA.len zbY zar zak):=by
    intro l
    induction l with
    | nil =>
      intro zaA zar zak zbY zhy hs hk
      subst zhy
      refine hexit zaA zar zak ?_
      have hs:zpw zaa zaA zar zak=true:=hs
      have hk:K (e65 (zpv zaa zaA zar zak)):=hk
      unfold zpw at hs
      unfold zpv at hk
      exact (zed hk)
    | cons y2 l ih =>
      intro zaA zar zak zbY zhy hs hk
      subst zhy
      refine hstep y2 _ zaA zar zak ?_
      have hs:zjR zaa y2 (zfd zaa l) zaA zar zak=true:=hs
      have hk:K (e65 (zjQ zaa y2 (zfc zaa l) zaA zar zak)):=hk
      unfold zjR at hs
      unfold zjQ at hk
      generalize zfc zaa l=S2 at hk ih
      generalize zfd zaa l=P2 at hs ih
      have hX2:=ih
      exact (zau hs fun hc hs => ⟨hc, (zcb (K := fun r => K (e65 r))
 (fun hs hk => (zau hs fun hc hs => ⟨⟨isE, isE, hc⟩, (zcb (K := fun r => K (e65 r))
 (fun hs hk=>(zau hs fun hc hs=>⟨hc,(hX2 (⟨(zaA.len+1),(zdX zaA.len zaA.get (fun _=>y2))⟩:Sl straight) (addN (zak [(s79 y2).Slope.Num,(s79 y2).Slope.Den,(s79 y2).Start.Num,(s79 y2).Start.Den]) zar) (zkT [(s79 y2).Slope.Num,(s79 y2).Slope.Den,(s79 y2).Start.Num,(s79 y2).Start.Den] [1] zak) (appG zaA.len (fun i=>zah (zaA.get i)) (fun _=>(zah y2))) (zeU (enc:=zah) (f:=zaA.get) (h:=(fun _=>y2)) rfl rfl) hs hk)⟩))
 (fun hs hk=>(hX2 zaA zar zak (fun i=>zah (zaA.get i)) rfl hs hk)) hs hk)⟩))
 (fun hs hk=>(hX2 zaA zar zak (fun i=>zah (zaA.get i)) rfl hs hk)) hs hk)⟩)
  exact key _ zaA zar zak zbY zhy hs hk
def zl6 (zaa:(Sl Gate)):set :=
  (zpx zaa (⟨0,(fun _=>default)⟩:Sl straight) 0 (fun _=>none))
def zl7 (zaa:(Sl Gate)):Bool :=
  (zl5 zaa (⟨0,(fun _=>default)⟩:Sl straight) 0 (fun _=>none))
theorem zD0 (K:List PA→Prop) (zaa:(Sl Gate)) (hs:zl7 zaa=true) (hk:K (e65 (zl6 zaa))):zl4 (Wk K) zaa:=by
  refine zaw (zDY (Wk K) zaa) ?_
  unfold zl7 at hs
  unfold zl6 at hk
  exact ⟨isE,(zDZ K zaa (⟨0,(fun _=>default)⟩:Sl straight) 0 (fun _=>none) (fun i=>zah ((fun _=>default) i)) rfl hs hk)⟩
def zl8 (zaa:(Sl Gate)) (zaJ:Bool):set :=
  (cond zaJ
 (⟨(⟨zaa⟩:list),(⟨0,fun _=>default⟩:(Sl straight))⟩:set)
 (zl6 zaa))
def zl9 (zaa:(Sl Gate)) (zaJ:Bool):Bool :=
  (cond zaJ
 true
 (zl7 zaa))
theorem zD1 (K:List PA→Prop) (zaa:(Sl Gate)) (zaJ:Bool) (hs:zl9 zaa zaJ=true) (hk:K (e65 (zl8 zaa zaJ))):zl3 (Wk K) zaa zaJ:=by
  refine zaw (zDX (Wk K) zaa zaJ) ?_
  unfold zl9 at hs
  unfold zl8 at hk
  exact (zcb (K := fun r => K (e65 r))
 (fun hs hk=>(wk hk (zc5 (.agg (zc5 (.rfl _) (zc5 (.nil _ _) zhr))) zhr)))
 (fun hs hk=>(zD0 K zaa hs hk)) hs hk)
def s65 (zaa:(Sl Gate)):set :=
  (zl8 zaa (s67 (⟨zaa⟩:list)))
def p65 (zaa:(Sl Gate)):Bool :=
  (decide ((p67 (⟨zaa⟩:list)=true)) &&
 (zl9 zaa (s67 (⟨zaa⟩:list))))
theorem q65 (zaa:(Sl Gate)) (K:List PA→Prop) (hs:p65 zaa=true) (hk:K (e65 (s65 zaa))):vcFun Try.prog G65 zg9 65 [.one (.sl zaa.len 3 (fun i=>enc_55 (zaa.get i)))] (Wk K):=by
  refine zaw (zDW zaa (Wk K)) ?_
  unfold p65 at hs
  unfold s65 at hk
  exact (zau hs fun hc hs=>⟨⟨isE,hc⟩,(zD1 K zaa (s67 (⟨zaa⟩:list)) hs hk)⟩)
def zvs : List PA → COut
  | [.one (.sl a0_n a0_s a0_g)]=>.det (IsE enc_55 3 a0_s a0_g∧p65 (⟨a0_n,zad a0_g⟩:(Sl Gate))=true) [.agg [.sl ((s65 (⟨a0_n,zad a0_g⟩:(Sl Gate))).list.Gates.len) 3 (fun i=>enc_55 ((s65 (⟨a0_n,zad a0_g⟩:(Sl Gate))).list.Gates.get i)),.sl ((s65 (⟨a0_n,zad a0_g⟩:(Sl Gate))).corners.len) 3 (fun i=>zah ((s65 (⟨a0_n,zad a0_g⟩:(Sl Gate))).corners.get i))]]
  | _=>.no
theorem zIV:zaf Try.prog 65:=⟨_,rfl,rfl,by kernel_rfl⟩
theorem zLU:Ok Try.prog 65 zvs:=zhs zLT zIV fun args K h=>by
  unfold zvs at h
  split at h
  · rename_i a0_n a0_s a0_g
    obtain ⟨⟨⟨rfl,a0_f,rfl⟩,hs⟩,hk⟩:=h
    try rw [zac a0_f] at hs
    try rw [zac a0_f] at hk
    exact ⟨_,ze6 zf5 _,(fun _ _=>[]),(fun l=>Nat.beq l 14),zg9,q65 (⟨a0_n,a0_f⟩:(Sl Gate)) K hs hk⟩
  · exact h.elim
abbrev T98:Tabs:=Tabs.nil
theorem zLV:TabsOk Try.prog T98:=TabsOk.nil
abbrev G98:Ctrs:=csm T98 (fun _ _=>[]) (fun _=>false)
def zD2:Ann:=⟨38,[(0,zK [1,2] [1,2]),(1,zK [1,2,3] [1,2,3]),(2,zK [2,3,18,19,20] [2,3]),(3,zK [2,3,18,19,20,21] [2,3]),(4,zK [2,3,5,18,19,20] [2,3,5]),(5,zK [2,3,18,19,20] [2,3]),(6,zK [2,3,18,19,20] [2,3]),(7,zK [2] [2])],
 [(3,zK [2,3,18,19,20] [2,3])],
 [],
 [],[]⟩
abbrev R98:=Span
abbrev e98 (r:R98):List PA:=[.agg [.int .i64 r.Low,.int .i64 r.High]]
@[irreducible] def z98:=ptF Try.prog G98 zD2 Try.f98
def zCb (l_a0:list) (zcu:Int) (zao:Int) (zaq:Int):St:=⟨[(2,zp 2 0),(3,zp 3 0),(18,zS enc_55 3 l_a0.Gates),(19,zI (l_a0.Gates.len:Int)),(20,zI zcu)],[(2,.box 96 (zm (zB1 (⟨(0:Int),(0:Int)⟩:Span)))),(3,.box 96 (zm (zB1 (⟨zao,zaq⟩:Span))))],[]⟩
abbrev zIW (K:List PA→Prop) (l_a0:list) (X:St→Prop) (P:Int→Int→Int→Bool) (S:Int→Int→Int→Span):Prop:=∀ ⦃zcu:Int⦄ ⦃zao:Int⦄ ⦃zaq:Int⦄,P zcu zao zaq=true→K (e98 (S zcu zao zaq))→X (zCb l_a0 zcu zao zaq)
section
variable {K:List PA→Prop} {l_a0:list} {zcu:Int} {zao:Int} {zaq:Int} {X0:St→Prop} {P0:Int→Int→Int→Bool} {S0:Int→Int→Int→Span}
def zhz (l_a0:list) (S0:Int→Int→Int→Span) (zcu:Int) (zao:Int) (zaq:Int):Span :=
  (cond (decide (zcu < (l_a0.Gates.len : Int)))
 (S0 (w64 (zcu+(1:Int))) (if (l_a0.Gates.get zcu.toNat).Low > zao then (l_a0.Gates.get zcu.toNat).Low else zao) (if (l_a0.Gates.get zcu.toNat).High < zaq then (l_a0.Gates.get zcu.toNat).High else zaq))
 (⟨zao,zaq⟩:Span))
def zhA (l_a0:list) (P0:Int→Int→Int→Bool) (zcu:Int) (zao:Int) (zaq:Int):Bool :=
  (cond (decide (zcu < (l_a0.Gates.len : Int)))
 (decide ((0≤zcu∧zcu < (l_a0.Gates.len:Int))) &&
 (P0 (w64 (zcu+(1:Int))) (if (l_a0.Gates.get zcu.toNat).Low > zao then (l_a0.Gates.get zcu.toNat).Low else zao) (if (l_a0.Gates.get zcu.toNat).High < zaq then (l_a0.Gates.get zcu.toNat).High else zaq)))
 true)
def zhB (l_a0:list):Nat→Int→Int→Int→Span:=lpO (fun _ _ _=>default) (zhz l_a0)
def zhC (l_a0:list):Nat→Int→Int→Int→Bool:=lpO (fun _ _ _=>false) (zhA l_a0)
def zvt (l_a0:list) (zcu:Int) (zao:Int) (zaq:Int):Span:=zhB l_a0 Fuel zcu zao zaq
def zvu (l_a0:list) (zcu:Int) (zao:Int) (zaq:Int):Bool:=zhC l_a0 Fuel zcu zao zaq
theorem zD3 (hs:zvu l_a0 zcu zao zaq=true) (hk:K (e98 (zvt l_a0 zcu zao zaq))):z98 K [1,1,0,1,0] [] (zCb l_a0 zcu zao zaq) :=
  zl (fun X=>z98 K [1,1,0,1,0,0] [X]) (by kernel_rfl) fun X0 hX =>
  (show ∀ k, zIW K l_a0 X0 (zhC l_a0 k) (zhB l_a0 k) from zeV _ _ (zhA l_a0) (zhz l_a0) (zIW K l_a0 X0)
 (by intro _ _ _ hs;exact absurd hs Bool.false_ne_true)
 (by intro P0 S0 hX0 zcu zao zaq hs hk;exact hX _ (zaw (by kernel_rfl) (zc hs hk (fun hs hk=>(zau hs fun hc hs=>And.intro hc (hX0 hs hk))) (fun hs hk=>hk))))) _ hs hk
def s98 (l_a0:list):Span :=
  (zvt l_a0 (0:Int) ((l_a0.Gates.get 0).Low) ((l_a0.Gates.get 0).High))
def p98 (l_a0:list):Bool :=
  (decide ((0≤(0:Int)∧(0:Int) < (l_a0.Gates.len:Int))) &&
 (decide ((0≤(0:Int)∧(0:Int) < (l_a0.Gates.len:Int))) &&
 (zvu l_a0 (0:Int) ((l_a0.Gates.get 0).Low) ((l_a0.Gates.get 0).High))))
end
theorem q98 (l_a0:list) (K:List PA→Prop) (hs:p98 l_a0=true) (hk:K (e98 (s98 l_a0))):vcFun Try.prog G98 zD2 98 [.agg (zbW l_a0)] K :=
  zaw (by kernel_rfl) (zau hs fun hc hs=>And.intro hc (zau hs fun hc hs=>And.intro hc (zD3 hs hk)))
def zAZ : List PA → COut
  | [.agg [.sl a0_Gates_n a0_Gates_s a0_Gates_g]]=>.det (IsE enc_55 3 a0_Gates_s a0_Gates_g∧p98 (⟨(⟨a0_Gates_n,zad a0_Gates_g⟩:(Sl Gate))⟩:list)=true) [.agg [.int .i64 ((s98 (⟨(⟨a0_Gates_n,zad a0_Gates_g⟩:(Sl Gate))⟩:list)).Low),.int .i64 ((s98 (⟨(⟨a0_Gates_n,zad a0_Gates_g⟩:(Sl Gate))⟩:list)).High)]]
  | _=>.no
theorem zIX:zaf Try.prog 98:=⟨_,rfl,rfl,by kernel_rfl⟩
theorem zNs:Ok Try.prog 98 zAZ:=zay zLV zIX fun args K h=>by
  unfold zAZ at h
  split at h
  · rename_i a0_Gates_n a0_Gates_s a0_Gates_g
    obtain ⟨⟨⟨rfl,a0_Gates_f,rfl⟩,hs⟩,hk⟩:=h
    try rw [zac a0_Gates_f] at hs
    try rw [zac a0_Gates_f] at hk
    exact ⟨(fun _ _=>[]),(fun _=>false),zD2,q98 (⟨(⟨a0_Gates_n,a0_Gates_f⟩:(Sl Gate))⟩:list) K hs hk⟩
  · exact h.elim
abbrev T66:Tabs:=((Tabs.nil.addF 67 zoc).addF 98 zAZ)
theorem zLW:TabsOk Try.prog T66:=((TabsOk.nil.addF zHI).addF zNs)
abbrev G66:Ctrs:=csm T66 (fun _ _=>[]) (fun _=>false)
def zIY:Ann:=⟨19,[(0,zK [1] [1]),(1,zK [1,3] [1,3]),(2,zK [1,3,9] [1,3]),(3,zK [2] []),(4,zK [2] [])],
 [],
 [],
 [],[]⟩
abbrev R66:=Bool
abbrev e66 (r:R66):List PA:=[.one (.bool r)]
section
variable {K:List PA→Prop} {s:set}
def s66 (s:set):Bool :=
  (cond (s67 s.list)
 (decide ((s98 s.list).Low≤(s98 s.list).High))
 (decide ((s.corners.len:Int) > (0:Int))))
def p66 (s:set):Bool :=
  (decide ((p98 s.list=true)) &&
 (decide ((p67 s.list=true)) &&
 true))
end
theorem q66 (s:set) (K:List PA→Prop) (hs:p66 s=true) (hk:K (e66 (s66 s))):vcFun Try.prog G66 zIY 66 [.agg (zaV s)] K :=
  zaw (by kernel_rfl) (zau hs fun hc hs=>And.intro (And.intro (zE enc_55 3 s.list.Gates.get) hc) (zau hs fun hc hs=>And.intro (And.intro (zE enc_55 3 s.list.Gates.get) hc) (zt hk (fun hk=>hk) (fun hk=>hk))))
def zvv : List PA → COut
  | [.agg [.sl a0_list_Gates_n a0_list_Gates_s a0_list_Gates_g,.sl a0_corners_n a0_corners_s a0_corners_g]]=>.det (IsE enc_55 3 a0_list_Gates_s a0_list_Gates_g∧IsE zah 3 a0_corners_s a0_corners_g∧p66 (⟨(⟨(⟨a0_list_Gates_n,zad a0_list_Gates_g⟩:(Sl Gate))⟩:list),(⟨a0_corners_n,zaR a0_corners_g⟩:(Sl straight))⟩:set)=true) [.one (.bool (s66 (⟨(⟨(⟨a0_list_Gates_n,zad a0_list_Gates_g⟩:(Sl Gate))⟩:list),(⟨a0_corners_n,zaR a0_corners_g⟩:(Sl straight))⟩:set)))]
  | _=>.no
theorem zIZ:zaf Try.prog 66:=⟨_,rfl,rfl,by kernel_rfl⟩
theorem zLX:Ok Try.prog 66 zvv:=zay zLW zIZ fun args K h=>by
  unfold zvv at h
  split at h
  · rename_i a0_list_Gates_n a0_list_Gates_s a0_list_Gates_g a0_corners_n a0_corners_s a0_corners_g
    obtain ⟨⟨⟨rfl,a0_list_Gates_f,rfl⟩,⟨rfl,a0_corners_f,rfl⟩,hs⟩,hk⟩:=h
    try rw [zac a0_list_Gates_f] at hs
    try rw [zac a0_list_Gates_f] at hk
    try rw [zaM a0_corners_f] at hs
    try rw [zaM a0_corners_f] at hk
    exact ⟨(fun _ _=>[]),(fun _=>false),zIY,q66 (⟨(⟨(⟨a0_list_Gates_n,a0_list_Gates_f⟩:(Sl Gate))⟩:list),(⟨a0_corners_n,a0_corners_f⟩:(Sl straight))⟩:set) K hs hk⟩
  · exact h.elim
abbrev zNt:Tabs:=Tabs.nil
theorem zI0:TabsOk Try.prog zNt:=TabsOk.nil
abbrev zOv:Ctrs:=csm zNt (fun _ _=>[]) (fun _=>false)
def zCc:Ann:=⟨6,[(0,zK [0] []),(1,zK [2] [])],
 [],
 [],
 [],[]⟩
abbrev zOw:=Bool
abbrev e120 (r:zOw):List PA:=[.one (.bool r)]
section
variable {K:List PA→Prop} {x:Int}
def zD4 (x:Int):Bool :=
  (x != x)
end
theorem zOx (x:Int) (K:List PA→Prop) (hk:K (e120 (zD4 x))):vcFun Try.prog zOv zCc 120 [.one (.int .i64 x)] K :=
  zaw (by kernel_rfl) hk
def zvw : List PA → COut
  | [.one (.int .i64 a0)]=>.tot [.one (.bool (zD4 a0))]
  | _=>.no
theorem zD5:zaf Try.prog 120:=⟨_,rfl,rfl,by kernel_rfl⟩
theorem zLY:Ok Try.prog 120 zvw:=zay zI0 zD5 fun args K h=>by
  unfold zvw at h
  split at h
  · rename_i a0
    have hk:=h
    exact ⟨(fun _ _=>[]),(fun _=>false),zCc,zOx a0 K hk⟩
  · exact h.elim
abbrev zNu:Tabs:=(Tabs.nil.addF 120 zvw)
theorem zI1:TabsOk Try.prog zNu:=(TabsOk.nil.addF zLY)
abbrev zOy:Ctrs:=csm zNu (fun _ _=>[]) (fun _=>false)
def zCd:Ann:=⟨20,[(0,zK [0,1] []),(1,zK [0,1,5] []),(2,zK [0,1,5,6] []),(3,zK [0,1,6,11] []),(4,zK [12] []),(5,zK [4] []),(6,zK [4] []),(7,zK [0,1,13] []),(8,zK [4] []),(9,zK [0,1,16] []),(10,zK [4] []),(11,zK [19] []),(12,zK [4] []),(13,zK [4] [])],
 [],
 [],
 [],[]⟩
abbrev zOz:=Int
abbrev zOA (r:zOz):List PA:=[.one (.int .i64 r)]
section
variable {K:List PA→Prop} {x:Int} {y_a1:Int}
def zD6 (x:Int) (y_a1:Int):Int :=
  (cond (zD4 x)
 (cond (zD4 y_a1)
 (0:Int)
 (-1:Int))
 (cond (zD4 y_a1)
 (1:Int)
 (cond (decide (x < y_a1))
 (-1:Int)
 (cond (decide (x > y_a1))
 (1:Int)
 (0:Int)))))
end
theorem zOB (x:Int) (y_a1:Int) (K:List PA→Prop) (hk:K (zOA (zD6 x y_a1))):vcFun Try.prog zOy zCd 103 [.one (.int .i64 x),.one (.int .i64 y_a1)] K :=
  zaw (by kernel_rfl) (zt hk (fun hk=>(zt hk (fun hk=>hk) (fun hk=>hk))) (fun hk=>(zt hk (fun hk=>hk) (fun hk=>(zt hk (fun hk=>hk) (fun hk=>(zt hk (fun hk=>hk) (fun hk=>hk))))))))
def zvx : List PA → COut
  | [.one (.int .i64 a0),.one (.int .i64 a1)]=>.tot [.one (.int .i64 (zD6 a0 a1))]
  | _=>.no
theorem zD7:zaf Try.prog 103:=⟨_,rfl,rfl,by kernel_rfl⟩
theorem zLZ:Ok Try.prog 103 zvx:=zay zI1 zD7 fun args K h=>by
  unfold zvx at h
  split at h
  · rename_i a0 a1
    have hk:=h
    exact ⟨(fun _ _=>[]),(fun _=>false),zCd,zOB a0 a1 K hk⟩
  · exact h.elim
abbrev T69:Tabs:=(Tabs.nil.addF 103 zvx)
theorem zL0:TabsOk Try.prog T69:=(TabsOk.nil.addF zLZ)
abbrev G69:Ctrs:=csm T69 (fun _ _=>[]) (fun _=>false)
def zI2:Ann:=⟨16,[(0,zK [2,3] [2,3]),(1,zK [4] [])],
 [],
 [],
 [],[]⟩
abbrev R69:=Int
abbrev e69 (r:R69):List PA:=[.one (.int .i64 r)]
section
variable {K:List PA→Prop} {a:Frac} {b:Frac}
def s69 (a:Frac) (b:Frac):Int :=
  (zD6 (w64 (a.Num * b.Den)) (w64 (b.Num * a.Den)))
end
theorem q69 (a:Frac) (b:Frac) (K:List PA→Prop) (hk:K (e69 (s69 a b))):vcFun Try.prog G69 zI2 69 [.agg (zae a),.agg (zae b)] K :=
  zaw (by kernel_rfl) hk
def zpy : List PA → COut
  | [.agg [.int .i64 a0_Num,.int .i64 a0_Den],.agg [.int .i64 a1_Num,.int .i64 a1_Den]]=>.tot [.one (.int .i64 (s69 (⟨a0_Num,a0_Den⟩:Frac) (⟨a1_Num,a1_Den⟩:Frac)))]
  | _=>.no
theorem zI3:zaf Try.prog 69:=⟨_,rfl,rfl,by kernel_rfl⟩
theorem zI4:Ok Try.prog 69 zpy:=zay zL0 zI3 fun args K h=>by
  unfold zpy at h
  split at h
  · rename_i a0_Num a0_Den a1_Num a1_Den
    have hk:=h
    exact ⟨(fun _ _=>[]),(fun _=>false),zI2,q69 (⟨a0_Num,a0_Den⟩:Frac) (⟨a1_Num,a1_Den⟩:Frac) K hk⟩
  · exact h.elim
abbrev T83:Tabs:=Tabs.nil
theorem zL1:TabsOk Try.prog T83:=TabsOk.nil
abbrev G83:Ctrs:=csm T83 (fun _ _=>[]) (fun _=>false)
def zI5:Ann:=⟨8,[(0,zK [1,2] [1,2]),(1,zK [2] [2])],
 [],
 [],
 [],[]⟩
abbrev R83:=Frac
abbrev e83 (r:R83):List PA:=[.agg [.int .i64 r.Num,.int .i64 r.Den]]
section
variable {K:List PA→Prop} {x:straight}
def s83 (x:straight):Frac :=
  (⟨x.slope,x.den⟩:Frac)
end
theorem q83 (x:straight) (K:List PA→Prop) (hk:K (e83 (s83 x))):vcFun Try.prog G83 zI5 83 [.agg (zah x)] K :=
  zaw (by kernel_rfl) hk
def zD8 : List PA → COut
  | [.agg [.int .i64 a0_slope,.int .i64 a0_start,.int .i64 a0_den]]=>.tot [.agg [.int .i64 ((s83 (⟨a0_slope,a0_start,a0_den⟩:straight)).Num),.int .i64 ((s83 (⟨a0_slope,a0_start,a0_den⟩:straight)).Den)]]
  | _=>.no
theorem zI6:zaf Try.prog 83:=⟨_,rfl,rfl,by kernel_rfl⟩
theorem zOC:Ok Try.prog 83 zD8:=zay zL1 zI6 fun args K h=>by
  unfold zD8 at h
  split at h
  · rename_i a0_slope a0_start a0_den
    have hk:=h
    exact ⟨(fun _ _=>[]),(fun _=>false),zI5,q83 (⟨a0_slope,a0_start,a0_den⟩:straight) K hk⟩
  · exact h.elim
abbrev zNv:Tabs:=Tabs.nil
theorem zI7:TabsOk Try.prog zNv:=TabsOk.nil
abbrev zOD:Ctrs:=csm zNv (fun _ _=>[]) (fun _=>false)
def zCe:Ann:=⟨15,[(0,zK [1,2,4] [2,4]),(1,zK [4] [4])],
 [],
 [],
 [],[]⟩
abbrev zOE:=Frac
abbrev zOF (r:zOE):List PA:=[.agg [.int .i64 r.Num,.int .i64 r.Den]]
section
variable {K:List PA→Prop} {s:straight} {z:Int}
def zI8 (s:straight) (z:Int):Frac :=
  (⟨(w64 (s.start+(w64 (s.slope * z)))),s.den⟩:Frac)
end
theorem zOG (s:straight) (z:Int) (K:List PA→Prop) (hk:K (zOF (zI8 s z))):vcFun Try.prog zOD zCe 102 [.agg (zah s),.one (.int .i64 z)] K :=
  zaw (by kernel_rfl) hk
def zvy : List PA → COut
  | [.agg [.int .i64 a0_slope,.int .i64 a0_start,.int .i64 a0_den],.one (.int .i64 a1)]=>.tot [.agg [.int .i64 ((zI8 (⟨a0_slope,a0_start,a0_den⟩:straight) a1).Num),.int .i64 ((zI8 (⟨a0_slope,a0_start,a0_den⟩:straight) a1).Den)]]
  | _=>.no
theorem zD9:zaf Try.prog 102:=⟨_,rfl,rfl,by kernel_rfl⟩
theorem zL2:Ok Try.prog 102 zvy:=zay zI7 zD9 fun args K h=>by
  unfold zvy at h
  split at h
  · rename_i a0_slope a0_start a0_den a1
    have hk:=h
    exact ⟨(fun _ _=>[]),(fun _=>false),zCe,zOG (⟨a0_slope,a0_start,a0_den⟩:straight) a1 K hk⟩
  · exact h.elim
abbrev zNw:Tabs:=(Tabs.nil.addF 102 zvy)
theorem zI9:TabsOk Try.prog zNw:=(TabsOk.nil.addF zL2)
abbrev zOH:Ctrs:=csm zNw (fun _ _=>[]) (fun _=>false)
def zCf:Ann:=⟨7,[(0,zK [1,2,3] [2,3]),(1,zK [3] [3])],
 [],
 [],
 [],[]⟩
abbrev zOI:=Frac
abbrev zOJ (r:zOI):List PA:=[.agg [.int .i64 r.Num,.int .i64 r.Den]]
section
variable {K:List PA→Prop} {c0:Int} {x:straight}
def zvz (c0:Int) (x:straight):Frac :=
  (zI8 x c0)
end
theorem zOK (c0:Int) (x:straight) (K:List PA→Prop) (hk:K (zOJ (zvz c0 x))):vcFun Try.prog zOH zCf 101 [.agg (zah x),.one (.fp (zal c0) 0)] K :=
  zaw (by kernel_rfl) hk
def zvA : List PA → COut
  | [.agg [.int .i64 a0_slope,.int .i64 a0_start,.int .i64 a0_den],.one (.fp [.int .i64 c0] 0)]=>.tot [.agg [.int .i64 ((zvz c0 (⟨a0_slope,a0_start,a0_den⟩:straight)).Num),.int .i64 ((zvz c0 (⟨a0_slope,a0_start,a0_den⟩:straight)).Den)]]
  | _=>.no
theorem zEa:zaf Try.prog 101:=⟨_,rfl,rfl,by kernel_rfl⟩
theorem zL3:Ok Try.prog 101 zvA:=zay zI9 zEa fun args K h=>by
  unfold zvA at h
  split at h
  · rename_i a0_slope a0_start a0_den c0
    have hk:=h
    exact ⟨(fun _ _=>[]),(fun _=>false),zCf,zOK c0 (⟨a0_slope,a0_start,a0_den⟩:straight) K hk⟩
  · exact h.elim
abbrev zNx:Tabs:=(Tabs.nil.addF 69 zpy)
theorem zJa:TabsOk Try.prog zNx:=(TabsOk.nil.addF zI4)
abbrev zOL:Ctrs:=csm zNx (fun _ _=>[]) (fun _=>false)
def zCg:Ann:=⟨9,[(0,zK [2,3] [2,3]),(1,zK [4] [])],
 [],
 [],
 [],[]⟩
abbrev zOM:=Bool
abbrev zON (r:zOM):List PA:=[.one (.bool r)]
section
variable {K:List PA→Prop} {a:Frac} {b:Frac}
def zA0 (a:Frac) (b:Frac):Bool :=
  (decide ((s69 a b) < (0:Int)))
end
theorem zOO (a:Frac) (b:Frac) (K:List PA→Prop) (hk:K (zON (zA0 a b))):vcFun Try.prog zOL zCg 112 [.agg (zae a),.agg (zae b)] K :=
  zaw (by kernel_rfl) hk
def zvB : List PA → COut
  | [.agg [.int .i64 a0_Num,.int .i64 a0_Den],.agg [.int .i64 a1_Num,.int .i64 a1_Den]]=>.tot [.one (.bool (zA0 (⟨a0_Num,a0_Den⟩:Frac) (⟨a1_Num,a1_Den⟩:Frac)))]
  | _=>.no
theorem zEb:zaf Try.prog 112:=⟨_,rfl,rfl,by kernel_rfl⟩
theorem zL4:Ok Try.prog 112 zvB:=zay zJa zEb fun args K h=>by
  unfold zvB at h
  split at h
  · rename_i a0_Num a0_Den a1_Num a1_Den
    have hk:=h
    exact ⟨(fun _ _=>[]),(fun _=>false),zCg,zOO (⟨a0_Num,a0_Den⟩:Frac) (⟨a1_Num,a1_Den⟩:Frac) K hk⟩
  · exact h.elim
abbrev zNy:Tabs:=(Tabs.nil.addF 69 zpy)
theorem zJb:TabsOk Try.prog zNy:=(TabsOk.nil.addF zI4)
abbrev zOP:Ctrs:=csm zNy (fun _ _=>[]) (fun _=>false)
def zCh:Ann:=⟨9,[(0,zK [2,3] [2,3]),(1,zK [4] [])],
 [],
 [],
 [],[]⟩
abbrev zOQ:=Bool
abbrev zOR (r:zOQ):List PA:=[.one (.bool r)]
section
variable {K:List PA→Prop} {a:Frac} {b:Frac}
def zA1 (a:Frac) (b:Frac):Bool :=
  (decide ((s69 a b) > (0:Int)))
end
theorem zOS (a:Frac) (b:Frac) (K:List PA→Prop) (hk:K (zOR (zA1 a b))):vcFun Try.prog zOP zCh 113 [.agg (zae a),.agg (zae b)] K :=
  zaw (by kernel_rfl) hk
def zvC : List PA → COut
  | [.agg [.int .i64 a0_Num,.int .i64 a0_Den],.agg [.int .i64 a1_Num,.int .i64 a1_Den]]=>.tot [.one (.bool (zA1 (⟨a0_Num,a0_Den⟩:Frac) (⟨a1_Num,a1_Den⟩:Frac)))]
  | _=>.no
theorem zEc:zaf Try.prog 113:=⟨_,rfl,rfl,by kernel_rfl⟩
theorem zL5:Ok Try.prog 113 zvC:=zay zJb zEc fun args K h=>by
  unfold zvC at h
  split at h
  · rename_i a0_Num a0_Den a1_Num a1_Den
    have hk:=h
    exact ⟨(fun _ _=>[]),(fun _=>false),zCh,zOS (⟨a0_Num,a0_Den⟩:Frac) (⟨a1_Num,a1_Den⟩:Frac) K hk⟩
  · exact h.elim
abbrev zL6:Tabs:=((Tabs.nil.addF 112 zvB).addF 113 zvC)
theorem zJc:TabsOk Try.prog zL6:=((TabsOk.nil.addF zL4).addF zL5)
abbrev zNz:Ctrs:=csm zL6 (fun _ _=>[]) (fun _=>false)
def zvD:Ann:=⟨25,[(0,zK [0,1,4] [4]),(1,zK [0,1,4,5] [4,5]),(2,zK [1,4,5,12,13,14] [4,5]),(3,zK [1,4,5,12,13,14,15] [4,5]),(4,zK [1,4,5,7,12,13,14] [4,5,7]),(5,zK [1,4,5,7,12,13,14,21] [4,5,7]),(6,zK [1,4,5,12,13,14] [4,5]),(7,zK [1,4,5,12,13,14] [4,5]),(8,zK [4] [4])],
 [(3,zK [1,4,5,12,13,14] [4,5])],
 [(6,zK [1,4,5,7,12,13,14,21] [4,5,7])],
 [],[]⟩
abbrev zOT:=Frac
abbrev zLc (r:zOT):List PA:=[.agg [.int .i64 r.Num,.int .i64 r.Den]]
@[irreducible] def z111:=ptF Try.prog zNz zvD Try.f111
def zvE (l_a0:(Sl Frac)) (zaJ:(Sl Frac)) (zai:Int) (zao:Int) (zaq:Int) (zb7:Nat→List PV):St:=⟨[(1,zP (.fn 112 [] [])),(4,zp 4 0),(5,zp 5 0),(12,zP (.sl zaJ.len 2 zb7)),(13,zI (((l_a0.len:Int) - (1:Int)).toNat:Int)),(14,zI zai)],[(4,.box 25 (zm (zae (⟨(0:Int),(0:Int)⟩:Frac)))),(5,.box 25 (zm (zae (⟨zao,zaq⟩:Frac))))],[]⟩
abbrev zvF (K:List PA→Prop) (l_a0:(Sl Frac)) (X:St→Prop) (P:(Sl Frac)→Int→Int→Int→Bool) (S:(Sl Frac)→Int→Int→Int→Frac):Prop:=∀ ⦃zaJ:(Sl Frac)⦄ ⦃zai:Int⦄ ⦃zao:Int⦄ ⦃zaq:Int⦄ ⦃zb7:Nat→List PV⦄,P zaJ zai zao zaq=true→K (zLc (S zaJ zai zao zaq))→zb7=zg zae zaJ→X (zvE l_a0 zaJ zai zao zaq zb7)
section
variable {K:List PA→Prop} {l_a0:(Sl Frac)} {zaJ:(Sl Frac)} {zai:Int} {zao:Int} {zaq:Int} {zb7:Nat→List PV} {X0:St→Prop} {P0:(Sl Frac)→Int→Int→Int→Bool} {S0:(Sl Frac)→Int→Int→Int→Frac} {zdY:(Sl Frac)} {zaQ:Int} {zgp:Bool} {zck:Int} {zcl:Int} {zgq:Int} {zgr:Int} {zjS:Nat→List PV}
def zma (S0:(Sl Frac)→Int→Int→Int→Frac) (l_a0:(Sl Frac)) (zdY:(Sl Frac)) (zaQ:Int) (zgp:Bool) (zck:Int) (zcl:Int) (zgq:Int) (zgr:Int):Frac :=
  (cond zgp
 (S0 zdY (w64 (zaQ+(1:Int))) zgq zgr)
 (S0 zdY (w64 (zaQ+(1:Int))) zck zcl))
def zmb (P0:(Sl Frac)→Int→Int→Int→Bool) (l_a0:(Sl Frac)) (zdY:(Sl Frac)) (zaQ:Int) (zgp:Bool) (zck:Int) (zcl:Int) (zgq:Int) (zgr:Int):Bool :=
  (cond zgp
 (P0 zdY (w64 (zaQ+(1:Int))) zgq zgr)
 (P0 zdY (w64 (zaQ+(1:Int))) zck zcl))
theorem zA2 (hX0:zvF K l_a0 X0 P0 S0) (hs:zmb P0 l_a0 zdY zaQ zgp zck zcl zgq zgr=true) (hk:K (zLc (zma S0 l_a0 zdY zaQ zgp zck zcl zgq zgr))) (zpz:zjS=zg zae zdY):z111 K [1,1,0,1,0,0,1,1,0,0,1,1] [X0] ⟨[(1,zP (.fn 112 [] [])),(4,zp 4 0),(5,zp 5 0),(7,zp 7 0),(12,zP (.sl zdY.len 2 zjS)),(13,zI (((l_a0.len:Int) - (1:Int)).toNat:Int)),(14,zI zaQ),(21,zB zgp)],[(4,.box 25 (zm (zae (⟨(0:Int),(0:Int)⟩:Frac)))),(5,.box 25 (zm (zae (⟨zck,zcl⟩:Frac)))),(7,.box 25 (zm (zae (⟨zgq,zgr⟩:Frac))))],[]⟩:=by subst zpz;exact zaw (by kernel_rfl) (zc hs hk (fun hs hk=>(hX0 hs hk rfl)) (fun hs hk=>(hX0 hs hk rfl)))
def zfH (l_a0:(Sl Frac)) (S0:(Sl Frac)→Int→Int→Int→Frac) (zaJ:(Sl Frac)) (zai:Int) (zao:Int) (zaq:Int):Frac :=
  (cond (decide (zai < (((l_a0.len : Int) - (1:Int)).toNat : Int)))
 (zma S0 l_a0 zaJ zai (zA0 (zaJ.get zai.toNat) (⟨zao,zaq⟩:Frac)) zao zaq ((zaJ.get zai.toNat).Num) ((zaJ.get zai.toNat).Den))
 (⟨zao,zaq⟩:Frac))
def zfI (l_a0:(Sl Frac)) (P0:(Sl Frac)→Int→Int→Int→Bool) (zaJ:(Sl Frac)) (zai:Int) (zao:Int) (zaq:Int):Bool :=
  (cond (decide (zai < (((l_a0.len : Int) - (1:Int)).toNat : Int)))
 (decide ((0≤zai∧zai < (zaJ.len:Int))) &&
 (zmb P0 l_a0 zaJ zai (zA0 (zaJ.get zai.toNat) (⟨zao,zaq⟩:Frac)) zao zaq ((zaJ.get zai.toNat).Num) ((zaJ.get zai.toNat).Den)))
 true)
def zfJ (l_a0:(Sl Frac)):Nat→(Sl Frac)→Int→Int→Int→Frac:=lpO (fun _ _ _ _=>default) (zfH l_a0)
def zfK (l_a0:(Sl Frac)):Nat→(Sl Frac)→Int→Int→Int→Bool:=lpO (fun _ _ _ _=>false) (zfI l_a0)
def zsl (l_a0:(Sl Frac)) (zaJ:(Sl Frac)) (zai:Int) (zao:Int) (zaq:Int):Frac:=zfJ l_a0 Fuel zaJ zai zao zaq
def zsm (l_a0:(Sl Frac)) (zaJ:(Sl Frac)) (zai:Int) (zao:Int) (zaq:Int):Bool:=zfK l_a0 Fuel zaJ zai zao zaq
theorem zA3 (hs:zsm l_a0 zaJ zai zao zaq=true) (hk:K (zLc (zsl l_a0 zaJ zai zao zaq))) (zgs:zb7=zg zae zaJ):z111 K [1,1,0,1,0] [] (zvE l_a0 zaJ zai zao zaq zb7) :=
  zl (fun X=>z111 K [1,1,0,1,0,0] [X]) (by kernel_rfl) fun X0 hX =>
  (show ∀ k, zvF K l_a0 X0 (zfK l_a0 k) (zfJ l_a0 k) from zeV _ _ (zfI l_a0) (zfH l_a0) (zvF K l_a0 X0)
 (by intro _ _ _ _ _ hs;exact absurd hs Bool.false_ne_true)
 (by intro P0 S0 hX0 zaJ zai zao zaq zb7 hs hk zgs;subst zgs;exact hX _ (zaw (by kernel_rfl) (zc hs hk (fun hs hk=>(zau hs fun hc hs=>And.intro hc (zA2 hX0 hs hk rfl))) (fun hs hk=>hk))))) _ hs hk zgs
def zpA (l_a0:(Sl Frac)):Frac :=
  (zsl l_a0 (⟨((l_a0.len:Int) - (1:Int)).toNat,(fun i=>l_a0.get (i+((1:Int).toNat)))⟩:Sl Frac) (0:Int) ((l_a0.get 0).Num) ((l_a0.get 0).Den))
def zHJ (l_a0:(Sl Frac)):Bool :=
  (decide ((0≤(0:Int)∧(0:Int) < (l_a0.len:Int))) &&
 (decide ((0≤(1:Int)∧(1:Int)≤(l_a0.len:Int)∧(l_a0.len:Int)≤(l_a0.len:Int))) &&
 (zsm l_a0 (⟨((l_a0.len:Int) - (1:Int)).toNat,(fun i=>l_a0.get (i+((1:Int).toNat)))⟩:Sl Frac) (0:Int) ((l_a0.get 0).Num) ((l_a0.get 0).Den))))
end
theorem zOU (l_a0:(Sl Frac)) (K:List PA→Prop) (hs:zHJ l_a0=true) (hk:K (zLc (zpA l_a0))):vcFun Try.prog zNz zvD 111 [.one (.sl l_a0.len 2 (fun i=>zae (l_a0.get i))),.one (.fn 112 [] [])] K :=
  zaw (by kernel_rfl) (zau hs fun hc hs=>And.intro hc (zau hs fun hc hs=>And.intro hc (zA3 hs hk rfl)))
abbrev zJd:Ctrs:=csm zL6 (fun _ _=>[]) (fun _=>false)
def zpB:Ann:=⟨25,[(0,zK [0,1,4] [4]),(1,zK [0,1,4,5] [4,5]),(2,zK [1,4,5,12,13,14] [4,5]),(3,zK [1,4,5,12,13,14,15] [4,5]),(4,zK [1,4,5,7,12,13,14] [4,5,7]),(5,zK [1,4,5,7,12,13,14,21] [4,5,7]),(6,zK [1,4,5,12,13,14] [4,5]),(7,zK [1,4,5,12,13,14] [4,5]),(8,zK [4] [4])],
 [(3,zK [1,4,5,12,13,14] [4,5])],
 [(6,zK [1,4,5,7,12,13,14,21] [4,5,7])],
 [],[]⟩
abbrev zL7:=Frac
abbrev zA4 (r:zL7):List PA:=[.agg [.int .i64 r.Num,.int .i64 r.Den]]
@[irreducible] def z111a:=ptF Try.prog zJd zpB Try.f111
def zsn (l_a0:(Sl Frac)) (zaJ:(Sl Frac)) (zai:Int) (zao:Int) (zaq:Int) (zb7:Nat→List PV):St:=⟨[(1,zP (.fn 113 [] [])),(4,zp 4 0),(5,zp 5 0),(12,zP (.sl zaJ.len 2 zb7)),(13,zI (((l_a0.len:Int) - (1:Int)).toNat:Int)),(14,zI zai)],[(4,.box 25 (zm (zae (⟨(0:Int),(0:Int)⟩:Frac)))),(5,.box 25 (zm (zae (⟨zao,zaq⟩:Frac))))],[]⟩
abbrev zpC (K:List PA→Prop) (l_a0:(Sl Frac)) (X:St→Prop) (P:(Sl Frac)→Int→Int→Int→Bool) (S:(Sl Frac)→Int→Int→Int→Frac):Prop:=∀ ⦃zaJ:(Sl Frac)⦄ ⦃zai:Int⦄ ⦃zao:Int⦄ ⦃zaq:Int⦄ ⦃zb7:Nat→List PV⦄,P zaJ zai zao zaq=true→K (zA4 (S zaJ zai zao zaq))→zb7=zg zae zaJ→X (zsn l_a0 zaJ zai zao zaq zb7)
section
variable {K:List PA→Prop} {l_a0:(Sl Frac)} {zaJ:(Sl Frac)} {zai:Int} {zao:Int} {zaq:Int} {zb7:Nat→List PV} {X0:St→Prop} {P0:(Sl Frac)→Int→Int→Int→Bool} {S0:(Sl Frac)→Int→Int→Int→Frac} {zdY:(Sl Frac)} {zaQ:Int} {zgp:Bool} {zck:Int} {zcl:Int} {zgq:Int} {zgr:Int} {zjS:Nat→List PV}
def zjT (S0:(Sl Frac)→Int→Int→Int→Frac) (l_a0:(Sl Frac)) (zdY:(Sl Frac)) (zaQ:Int) (zgp:Bool) (zck:Int) (zcl:Int) (zgq:Int) (zgr:Int):Frac :=
  (cond zgp
 (S0 zdY (w64 (zaQ+(1:Int))) zgq zgr)
 (S0 zdY (w64 (zaQ+(1:Int))) zck zcl))
def zjU (P0:(Sl Frac)→Int→Int→Int→Bool) (l_a0:(Sl Frac)) (zdY:(Sl Frac)) (zaQ:Int) (zgp:Bool) (zck:Int) (zcl:Int) (zgq:Int) (zgr:Int):Bool :=
  (cond zgp
 (P0 zdY (w64 (zaQ+(1:Int))) zgq zgr)
 (P0 zdY (w64 (zaQ+(1:Int))) zck zcl))
theorem zvG (hX0:zpC K l_a0 X0 P0 S0) (hs:zjU P0 l_a0 zdY zaQ zgp zck zcl zgq zgr=true) (hk:K (zA4 (zjT S0 l_a0 zdY zaQ zgp zck zcl zgq zgr))) (zpz:zjS=zg zae zdY):z111a K [1,1,0,1,0,0,1,1,0,0,1,1] [X0] ⟨[(1,zP (.fn 113 [] [])),(4,zp 4 0),(5,zp 5 0),(7,zp 7 0),(12,zP (.sl zdY.len 2 zjS)),(13,zI (((l_a0.len:Int) - (1:Int)).toNat:Int)),(14,zI zaQ),(21,zB zgp)],[(4,.box 25 (zm (zae (⟨(0:Int),(0:Int)⟩:Frac)))),(5,.box 25 (zm (zae (⟨zck,zcl⟩:Frac)))),(7,.box 25 (zm (zae (⟨zgq,zgr⟩:Frac))))],[]⟩:=by subst zpz;exact zaw (by kernel_rfl) (zc hs hk (fun hs hk=>(hX0 hs hk rfl)) (fun hs hk=>(hX0 hs hk rfl)))
def zee (l_a0:(Sl Frac)) (S0:(Sl Frac)→Int→Int→Int→Frac) (zaJ:(Sl Frac)) (zai:Int) (zao:Int) (zaq:Int):Frac :=
  (cond (decide (zai < (((l_a0.len : Int) - (1:Int)).toNat : Int)))
 (zjT S0 l_a0 zaJ zai (zA1 (zaJ.get zai.toNat) (⟨zao,zaq⟩:Frac)) zao zaq ((zaJ.get zai.toNat).Num) ((zaJ.get zai.toNat).Den))
 (⟨zao,zaq⟩:Frac))
def zef (l_a0:(Sl Frac)) (P0:(Sl Frac)→Int→Int→Int→Bool) (zaJ:(Sl Frac)) (zai:Int) (zao:Int) (zaq:Int):Bool :=
  (cond (decide (zai < (((l_a0.len : Int) - (1:Int)).toNat : Int)))
 (decide ((0≤zai∧zai < (zaJ.len:Int))) &&
 (zjU P0 l_a0 zaJ zai (zA1 (zaJ.get zai.toNat) (⟨zao,zaq⟩:Frac)) zao zaq ((zaJ.get zai.toNat).Num) ((zaJ.get zai.toNat).Den)))
 true)
def zeg (l_a0:(Sl Frac)):Nat→(Sl Frac)→Int→Int→Int→Frac:=lpO (fun _ _ _ _=>default) (zee l_a0)
def zeh (l_a0:(Sl Frac)):Nat→(Sl Frac)→Int→Int→Int→Bool:=lpO (fun _ _ _ _=>false) (zef l_a0)
def zoh (l_a0:(Sl Frac)) (zaJ:(Sl Frac)) (zai:Int) (zao:Int) (zaq:Int):Frac:=zeg l_a0 Fuel zaJ zai zao zaq
def zoi (l_a0:(Sl Frac)) (zaJ:(Sl Frac)) (zai:Int) (zao:Int) (zaq:Int):Bool:=zeh l_a0 Fuel zaJ zai zao zaq
theorem zvH (hs:zoi l_a0 zaJ zai zao zaq=true) (hk:K (zA4 (zoh l_a0 zaJ zai zao zaq))) (zgs:zb7=zg zae zaJ):z111a K [1,1,0,1,0] [] (zsn l_a0 zaJ zai zao zaq zb7) :=
  zl (fun X=>z111a K [1,1,0,1,0,0] [X]) (by kernel_rfl) fun X0 hX =>
  (show ∀ k, zpC K l_a0 X0 (zeh l_a0 k) (zeg l_a0 k) from zeV _ _ (zef l_a0) (zee l_a0) (zpC K l_a0 X0)
 (by intro _ _ _ _ _ hs;exact absurd hs Bool.false_ne_true)
 (by intro P0 S0 hX0 zaJ zai zao zaq zb7 hs hk zgs;subst zgs;exact hX _ (zaw (by kernel_rfl) (zc hs hk (fun hs hk=>(zau hs fun hc hs=>And.intro hc (zvG hX0 hs hk rfl))) (fun hs hk=>hk))))) _ hs hk zgs
def s111a (l_a0:(Sl Frac)):Frac :=
  (zoh l_a0 (⟨((l_a0.len:Int) - (1:Int)).toNat,(fun i=>l_a0.get (i+((1:Int).toNat)))⟩:Sl Frac) (0:Int) ((l_a0.get 0).Num) ((l_a0.get 0).Den))
def ztF (l_a0:(Sl Frac)):Bool :=
  (decide ((0≤(0:Int)∧(0:Int) < (l_a0.len:Int))) &&
 (decide ((0≤(1:Int)∧(1:Int)≤(l_a0.len:Int)∧(l_a0.len:Int)≤(l_a0.len:Int))) &&
 (zoi l_a0 (⟨((l_a0.len:Int) - (1:Int)).toNat,(fun i=>l_a0.get (i+((1:Int).toNat)))⟩:Sl Frac) (0:Int) ((l_a0.get 0).Num) ((l_a0.get 0).Den))))
end
theorem zL8 (l_a0:(Sl Frac)) (K:List PA→Prop) (hs:ztF l_a0=true) (hk:K (zA4 (s111a l_a0))):vcFun Try.prog zJd zpB 111 [.one (.sl l_a0.len 2 (fun i=>zae (l_a0.get i))),.one (.fn 113 [] [])] K :=
  zaw (by kernel_rfl) (zau hs fun hc hs=>And.intro hc (zau hs fun hc hs=>And.intro hc (zvH hs hk rfl)))
def zvI : List PA → COut
  | [.one (.sl a0_n a0_s a0_g),.one (.fn 112 [] [])]=>.det (IsE zae 2 a0_s a0_g∧zHJ (⟨a0_n,zgn a0_g⟩:(Sl Frac))=true) [.agg [.int .i64 ((zpA (⟨a0_n,zgn a0_g⟩:(Sl Frac))).Num),.int .i64 ((zpA (⟨a0_n,zgn a0_g⟩:(Sl Frac))).Den)]]
  | [.one (.sl a0_n a0_s a0_g),.one (.fn 113 [] [])]=>.det (IsE zae 2 a0_s a0_g∧ztF (⟨a0_n,zgn a0_g⟩:(Sl Frac))=true) [.agg [.int .i64 ((s111a (⟨a0_n,zgn a0_g⟩:(Sl Frac))).Num),.int .i64 ((s111a (⟨a0_n,zgn a0_g⟩:(Sl Frac))).Den)]]
  | _=>.no
theorem zEd:zaf Try.prog 111:=⟨_,rfl,rfl,by kernel_rfl⟩
theorem zL9:Ok Try.prog 111 zvI:=zay zJc zEd fun args K h=>by
  unfold zvI at h
  split at h
  · rename_i a0_n a0_s a0_g
    obtain ⟨⟨⟨rfl,a0_f,rfl⟩,hs⟩,hk⟩:=h
    try rw [zey a0_f] at hs
    try rw [zey a0_f] at hk
    exact ⟨(fun _ _=>[]),(fun _=>false),zvD,zOU (⟨a0_n,a0_f⟩:(Sl Frac)) K hs hk⟩
  · rename_i a0_n a0_s a0_g
    obtain ⟨⟨⟨rfl,a0_f,rfl⟩,hs⟩,hk⟩:=h
    try rw [zey a0_f] at hs
    try rw [zey a0_f] at hk
    exact ⟨(fun _ _=>[]),(fun _=>false),zpB,zL8 (⟨a0_n,a0_f⟩:(Sl Frac)) K hs hk⟩
  · exact h.elim
abbrev T82:Tabs:=((((Tabs.nil.addF 83 zD8).addF 89 zps).addF 101 zvA).addF 111 zvI)
theorem zMa:TabsOk Try.prog T82:=((((TabsOk.nil.addF zOC).addF zIM).addF zL3).addF zL9)
abbrev G82:Ctrs:=csm T82 (fun _ _=>[]) (fun _=>false)
def zEe:Ann:=⟨39,[(0,zK [1,2,4,5] [2,4,5]),(1,zK [1,2,4,5,6] [2,4,5]),(2,zK [1,4,5,6,12,13,14] [4,5]),(3,zK [1,4,5,6,12,13,14,15] [4,5,23]),(4,zK [1,4,5,6,8,12,13,14] [4,5,8,23]),(5,zK [1,4,5,6,12,13,14] [4,5,23]),(6,zK [1,4,5,6,12,13,14] [4,5,23]),(7,zK [4,5,6,9] [4,5,9,23]),(8,zK [4,5,9,10] [4,5,9,10]),(9,zK [4,5] [4,5])],
 [(3,⟨[1,4,5,6,12,13,14],[4,5,23],[(6,23,25,fun _=>zae default)],[],[],[],[]⟩)],
 [(7,zK [4,5,6] [4,5,23]),(8,zK [4,5,6,9] [4,5,9,23]),(9,zK [4,5,9,10] [4,5,9,10])],
 [],[]⟩
abbrev R82:=(Frac×Frac)
abbrev e82 (r:R82):List PA:=[.agg [.int .i64 r.1.Num,.int .i64 r.1.Den],.agg [.int .i64 r.2.Num,.int .i64 r.2.Den]]
@[irreducible] def z82:=ptF Try.prog G82 zEe Try.f82
def zCi (c0:Int) (s:set) (zai:Int) (za1:(Sl Frac)) (zb8:Nat→List PV):St:=⟨[(1,zP (.fn 101 [] [.fp (zal c0) 0])),(4,zp 4 0),(5,zp 5 0),(6,zv 23),(12,zS zah 3 s.corners),(13,zI (s.corners.len:Int)),(14,zI zai)],[(4,.box 25 (zm (zae (⟨(0:Int),(0:Int)⟩:Frac)))),(5,.box 25 (zm (zae (⟨(0:Int),(0:Int)⟩:Frac)))),(23,.vec 25 2 16 za1.len zb8)],[]⟩
abbrev zJe (K:List PA→Prop) (c0:Int) (s:set) (X:St→Prop) (P:Int→(Sl Frac)→Bool) (S:Int→(Sl Frac)→(Frac×Frac)):Prop:=∀ ⦃zai:Int⦄ ⦃za1:(Sl Frac)⦄ ⦃zb8:Nat→List PV⦄,P zai za1=true→K (e82 (S zai za1))→zb8=zg zae za1→X (zCi c0 s zai za1 zb8)
section
variable {K:List PA→Prop} {c0:Int} {s:set} {zai:Int} {za1:(Sl Frac)} {zb8:Nat→List PV} {X0:St→Prop} {P0:Int→(Sl Frac)→Bool} {S0:Int→(Sl Frac)→(Frac×Frac)} {zcB:(Sl Frac)} {zjV:Nat→List PV} {za2:Int} {za3:Int} {zc8:(Sl Frac)} {zjW:Nat→List PV} {zbP:Int} {zbQ:Int}
def zpD (za2:Int) (za3:Int) (zbP:Int) (zbQ:Int):(Frac×Frac) :=
  ((s89 za2 za3),(s89 zbP zbQ))
def zpE (za2:Int) (za3:Int) (zbP:Int) (zbQ:Int):Bool :=
  (decide ((p89 za2 za3=true)) &&
 (decide ((p89 zbP zbQ=true)) &&
 true))
theorem zEf (hs:zpE za2 za3 zbP zbQ=true) (hk:K (e82 (zpD za2 za3 zbP zbQ))):z82 K [1,1,1,1,1] [] ⟨[(4,zp 4 0),(5,zp 5 0),(9,zp 9 0),(10,zp 10 0)],[(4,.box 25 (zm (zae (⟨(0:Int),(0:Int)⟩:Frac)))),(5,.box 25 (zm (zae (⟨(0:Int),(0:Int)⟩:Frac)))),(9,.box 25 (zm (zae (⟨za2,za3⟩:Frac)))),(10,.box 25 (zm (zae (⟨zbP,zbQ⟩:Frac))))],[]⟩:=zaw (by kernel_rfl) (zau hs fun hc hs=>And.intro hc (zau hs fun hc hs=>And.intro hc hk))
def zpF (za2:Int) (za3:Int) (zc8:(Sl Frac)):(Frac×Frac) :=
  (zpD za2 za3 ((s111a zc8).Num) ((s111a zc8).Den))
def zpG (za2:Int) (za3:Int) (zc8:(Sl Frac)):Bool :=
  (decide ((ztF zc8=true)) &&
 (zpE za2 za3 ((s111a zc8).Num) ((s111a zc8).Den)))
theorem zEg (hs:zpG za2 za3 zc8=true) (hk:K (e82 (zpF za2 za3 zc8))) (zpH:zjW=zg zae zc8):z82 K [1,1,1,1] [] ⟨[(4,zp 4 0),(5,zp 5 0),(6,zv 23),(9,zp 9 0)],[(4,.box 25 (zm (zae (⟨(0:Int),(0:Int)⟩:Frac)))),(5,.box 25 (zm (zae (⟨(0:Int),(0:Int)⟩:Frac)))),(9,.box 25 (zm (zae (⟨za2,za3⟩:Frac)))),(23,.vec 25 2 16 zc8.len zjW)],[]⟩:=by subst zpH;exact zaw (by kernel_rfl) (zau hs fun hc hs=>And.intro (And.intro (zE zae 2 zc8.get) hc) (zEf hs hk))
def zeE (zcB:(Sl Frac)):(Frac×Frac) :=
  (zpF ((zpA zcB).Num) ((zpA zcB).Den) zcB)
def zmc (zcB:(Sl Frac)):Bool :=
  (decide ((zHJ zcB=true)) &&
 (zpG ((zpA zcB).Num) ((zpA zcB).Den) zcB))
theorem zEh (hs:zmc zcB=true) (hk:K (e82 (zeE zcB))) (zpI:zjV=zg zae zcB):z82 K [1,1,1] [] ⟨[(4,zp 4 0),(5,zp 5 0),(6,zv 23)],[(4,.box 25 (zm (zae (⟨(0:Int),(0:Int)⟩:Frac)))),(5,.box 25 (zm (zae (⟨(0:Int),(0:Int)⟩:Frac)))),(23,.vec 25 2 16 zcB.len zjV)],[]⟩:=by subst zpI;exact zaw (by kernel_rfl) (zau hs fun hc hs=>And.intro (And.intro (zE zae 2 zcB.get) hc) (zEg hs hk rfl))
def zhD (c0:Int) (s:set) (S0:Int→(Sl Frac)→(Frac×Frac)) (zai:Int) (za1:(Sl Frac)):(Frac×Frac) :=
  (cond (decide (zai < (s.corners.len : Int)))
 (S0 (w64 (zai+(1:Int))) (⟨(za1.len+1),(zdX za1.len za1.get (fun _=>(zvz c0 (s.corners.get zai.toNat))))⟩:Sl Frac))
 (zeE za1))
def zhE (c0:Int) (s:set) (P0:Int→(Sl Frac)→Bool) (zai:Int) (za1:(Sl Frac)):Bool :=
  (cond (decide (zai < (s.corners.len : Int)))
 (decide ((0≤zai∧zai < (s.corners.len:Int))) &&
 (decide (((za1.len+1) * 16≤140737488355328∧za1.len+1≤9223372036854775807)) &&
 (P0 (w64 (zai+(1:Int))) (⟨(za1.len+1),(zdX za1.len za1.get (fun _=>(zvz c0 (s.corners.get zai.toNat))))⟩:Sl Frac))))
 (zmc za1))
def zhF (c0:Int) (s:set):Nat→Int→(Sl Frac)→(Frac×Frac):=lpO (fun _ _=>default) (zhD c0 s)
def zhG (c0:Int) (s:set):Nat→Int→(Sl Frac)→Bool:=lpO (fun _ _=>false) (zhE c0 s)
def zvJ (c0:Int) (s:set) (zai:Int) (za1:(Sl Frac)):(Frac×Frac):=zhF c0 s Fuel zai za1
def zvK (c0:Int) (s:set) (zai:Int) (za1:(Sl Frac)):Bool:=zhG c0 s Fuel zai za1
theorem zEi (hs:zvK c0 s zai za1=true) (hk:K (e82 (zvJ c0 s zai za1))) (zgt:zb8=zg zae za1):z82 K [1,1,0,1,0] [] (zCi c0 s zai za1 zb8) :=
  zl (fun X=>z82 K [1,1,0,1,0,0] [X]) (by kernel_rfl) fun X0 hX =>
  (show ∀ k, zJe K c0 s X0 (zhG c0 s k) (zhF c0 s k) from zeV _ _ (zhE c0 s) (zhD c0 s) (zJe K c0 s X0)
 (by intro _ _ _ hs;exact absurd hs Bool.false_ne_true)
 (by intro P0 S0 hX0 zai za1 zb8 hs hk zgt;subst zgt;exact hX _ (zaw (by kernel_rfl) (zc hs hk (fun hs hk=>(zau hs fun hc hs=>And.intro hc (zau hs fun hc hs=>And.intro hc (hX0 hs hk (zeU (enc:=zae) (f:=za1.get) (h:=(fun _=>(zvz c0 (s.corners.get zai.toNat)))) rfl rfl))))) (fun hs hk=>(zEh hs hk rfl)))))) _ hs hk zgt
def s82 (c0:Int) (s:set):(Frac×Frac) :=
  (zvJ c0 s (0:Int) (⟨0,(fun _=>default)⟩:Sl Frac))
def p82 (c0:Int) (s:set):Bool :=
  (zvK c0 s (0:Int) (⟨0,(fun _=>default)⟩:Sl Frac))
end
theorem q82 (c0:Int) (s:set) (K:List PA→Prop) (hs:p82 c0 s=true) (hk:K (e82 (s82 c0 s))):vcFun Try.prog G82 zEe 82 [.agg (zaV s),.one (.fn 101 [] [.fp (zal c0) 0])] K :=
  zaw (by kernel_rfl) (zEi hs hk rfl)
abbrev zNA:Ctrs:=csm T82 (fun _ _=>[]) (fun _=>false)
def zvL:Ann:=⟨39,[(0,zK [1,2,4,5] [2,4,5]),(1,zK [1,2,4,5,6] [2,4,5]),(2,zK [1,4,5,6,12,13,14] [4,5]),(3,zK [1,4,5,6,12,13,14,15] [4,5,23]),(4,zK [1,4,5,6,8,12,13,14] [4,5,8,23]),(5,zK [1,4,5,6,12,13,14] [4,5,23]),(6,zK [1,4,5,6,12,13,14] [4,5,23]),(7,zK [4,5,6,9] [4,5,9,23]),(8,zK [4,5,9,10] [4,5,9,10]),(9,zK [4,5] [4,5])],
 [(3,⟨[1,4,5,6,12,13,14],[4,5,23],[(6,23,25,fun _=>zae default)],[],[],[],[]⟩)],
 [(7,zK [4,5,6] [4,5,23]),(8,zK [4,5,6,9] [4,5,9,23]),(9,zK [4,5,9,10] [4,5,9,10])],
 [],[]⟩
abbrev zOV:=(Frac×Frac)
abbrev zHK (r:zOV):List PA:=[.agg [.int .i64 r.1.Num,.int .i64 r.1.Den],.agg [.int .i64 r.2.Num,.int .i64 r.2.Den]]
@[irreducible] def z82a:=ptF Try.prog zNA zvL Try.f82
def zvM (s:set) (zai:Int) (za1:(Sl Frac)) (zb8:Nat→List PV):St:=⟨[(1,zP (.fn 83 [] [])),(4,zp 4 0),(5,zp 5 0),(6,zv 23),(12,zS zah 3 s.corners),(13,zI (s.corners.len:Int)),(14,zI zai)],[(4,.box 25 (zm (zae (⟨(0:Int),(0:Int)⟩:Frac)))),(5,.box 25 (zm (zae (⟨(0:Int),(0:Int)⟩:Frac)))),(23,.vec 25 2 16 za1.len zb8)],[]⟩
abbrev zCj (K:List PA→Prop) (s:set) (X:St→Prop) (P:Int→(Sl Frac)→Bool) (S:Int→(Sl Frac)→(Frac×Frac)):Prop:=∀ ⦃zai:Int⦄ ⦃za1:(Sl Frac)⦄ ⦃zb8:Nat→List PV⦄,P zai za1=true→K (zHK (S zai za1))→zb8=zg zae za1→X (zvM s zai za1 zb8)
section
variable {K:List PA→Prop} {s:set} {zai:Int} {za1:(Sl Frac)} {zb8:Nat→List PV} {X0:St→Prop} {P0:Int→(Sl Frac)→Bool} {S0:Int→(Sl Frac)→(Frac×Frac)} {zcB:(Sl Frac)} {zjV:Nat→List PV} {za2:Int} {za3:Int} {zc8:(Sl Frac)} {zjW:Nat→List PV} {zbP:Int} {zbQ:Int}
def zso (za2:Int) (za3:Int) (zbP:Int) (zbQ:Int):(Frac×Frac) :=
  ((s89 za2 za3),(s89 zbP zbQ))
def zsp (za2:Int) (za3:Int) (zbP:Int) (zbQ:Int):Bool :=
  (decide ((p89 za2 za3=true)) &&
 (decide ((p89 zbP zbQ=true)) &&
 true))
theorem zA5 (hs:zsp za2 za3 zbP zbQ=true) (hk:K (zHK (zso za2 za3 zbP zbQ))):z82a K [1,1,1,1,1] [] ⟨[(4,zp 4 0),(5,zp 5 0),(9,zp 9 0),(10,zp 10 0)],[(4,.box 25 (zm (zae (⟨(0:Int),(0:Int)⟩:Frac)))),(5,.box 25 (zm (zae (⟨(0:Int),(0:Int)⟩:Frac)))),(9,.box 25 (zm (zae (⟨za2,za3⟩:Frac)))),(10,.box 25 (zm (zae (⟨zbP,zbQ⟩:Frac))))],[]⟩:=zaw (by kernel_rfl) (zau hs fun hc hs=>And.intro hc (zau hs fun hc hs=>And.intro hc hk))
def zsq (za2:Int) (za3:Int) (zc8:(Sl Frac)):(Frac×Frac) :=
  (zso za2 za3 ((s111a zc8).Num) ((s111a zc8).Den))
def zsr (za2:Int) (za3:Int) (zc8:(Sl Frac)):Bool :=
  (decide ((ztF zc8=true)) &&
 (zsp za2 za3 ((s111a zc8).Num) ((s111a zc8).Den)))
theorem zA6 (hs:zsr za2 za3 zc8=true) (hk:K (zHK (zsq za2 za3 zc8))) (zpH:zjW=zg zae zc8):z82a K [1,1,1,1] [] ⟨[(4,zp 4 0),(5,zp 5 0),(6,zv 23),(9,zp 9 0)],[(4,.box 25 (zm (zae (⟨(0:Int),(0:Int)⟩:Frac)))),(5,.box 25 (zm (zae (⟨(0:Int),(0:Int)⟩:Frac)))),(9,.box 25 (zm (zae (⟨za2,za3⟩:Frac)))),(23,.vec 25 2 16 zc8.len zjW)],[]⟩:=by subst zpH;exact zaw (by kernel_rfl) (zau hs fun hc hs=>And.intro (And.intro (zE zae 2 zc8.get) hc) (zA5 hs hk))
def zss (zcB:(Sl Frac)):(Frac×Frac) :=
  (zsq ((zpA zcB).Num) ((zpA zcB).Den) zcB)
def zst (zcB:(Sl Frac)):Bool :=
  (decide ((zHJ zcB=true)) &&
 (zsr ((zpA zcB).Num) ((zpA zcB).Den) zcB))
theorem zA7 (hs:zst zcB=true) (hk:K (zHK (zss zcB))) (zpI:zjV=zg zae zcB):z82a K [1,1,1] [] ⟨[(4,zp 4 0),(5,zp 5 0),(6,zv 23)],[(4,.box 25 (zm (zae (⟨(0:Int),(0:Int)⟩:Frac)))),(5,.box 25 (zm (zae (⟨(0:Int),(0:Int)⟩:Frac)))),(23,.vec 25 2 16 zcB.len zjV)],[]⟩:=by subst zpI;exact zaw (by kernel_rfl) (zau hs fun hc hs=>And.intro (And.intro (zE zae 2 zcB.get) hc) (zA6 hs hk rfl))
def zfL (s:set) (S0:Int→(Sl Frac)→(Frac×Frac)) (zai:Int) (za1:(Sl Frac)):(Frac×Frac) :=
  (cond (decide (zai < (s.corners.len : Int)))
 (S0 (w64 (zai+(1:Int))) (⟨(za1.len+1),(zdX za1.len za1.get (fun _=>(s83 (s.corners.get zai.toNat))))⟩:Sl Frac))
 (zss za1))
def zfM (s:set) (P0:Int→(Sl Frac)→Bool) (zai:Int) (za1:(Sl Frac)):Bool :=
  (cond (decide (zai < (s.corners.len : Int)))
 (decide ((0≤zai∧zai < (s.corners.len:Int))) &&
 (decide (((za1.len+1) * 16≤140737488355328∧za1.len+1≤9223372036854775807)) &&
 (P0 (w64 (zai+(1:Int))) (⟨(za1.len+1),(zdX za1.len za1.get (fun _=>(s83 (s.corners.get zai.toNat))))⟩:Sl Frac))))
 (zst za1))
def zfN (s:set):Nat→Int→(Sl Frac)→(Frac×Frac):=lpO (fun _ _=>default) (zfL s)
def zfO (s:set):Nat→Int→(Sl Frac)→Bool:=lpO (fun _ _=>false) (zfM s)
def zsu (s:set) (zai:Int) (za1:(Sl Frac)):(Frac×Frac):=zfN s Fuel zai za1
def zsv (s:set) (zai:Int) (za1:(Sl Frac)):Bool:=zfO s Fuel zai za1
theorem zA8 (hs:zsv s zai za1=true) (hk:K (zHK (zsu s zai za1))) (zgt:zb8=zg zae za1):z82a K [1,1,0,1,0] [] (zvM s zai za1 zb8) :=
  zl (fun X=>z82a K [1,1,0,1,0,0] [X]) (by kernel_rfl) fun X0 hX =>
  (show ∀ k, zCj K s X0 (zfO s k) (zfN s k) from zeV _ _ (zfM s) (zfL s) (zCj K s X0)
 (by intro _ _ _ hs;exact absurd hs Bool.false_ne_true)
 (by intro P0 S0 hX0 zai za1 zb8 hs hk zgt;subst zgt;exact hX _ (zaw (by kernel_rfl) (zc hs hk (fun hs hk=>(zau hs fun hc hs=>And.intro hc (zau hs fun hc hs=>And.intro hc (hX0 hs hk (zeU (enc:=zae) (f:=za1.get) (h:=(fun _=>(s83 (s.corners.get zai.toNat)))) rfl rfl))))) (fun hs hk=>(zA7 hs hk rfl)))))) _ hs hk zgt
def zA9 (s:set):(Frac×Frac) :=
  (zsu s (0:Int) (⟨0,(fun _=>default)⟩:Sl Frac))
def zLd (s:set):Bool :=
  (zsv s (0:Int) (⟨0,(fun _=>default)⟩:Sl Frac))
end
theorem zOW (s:set) (K:List PA→Prop) (hs:zLd s=true) (hk:K (zHK (zA9 s))):vcFun Try.prog zNA zvL 82 [.agg (zaV s),.one (.fn 83 [] [])] K :=
  zaw (by kernel_rfl) (zA8 hs hk rfl)
def zBa : List PA → COut
  | [.agg [.sl a0_list_Gates_n a0_list_Gates_s a0_list_Gates_g,.sl a0_corners_n a0_corners_s a0_corners_g],.one (.fn 101 [] [.fp [.int .i64 c0] 0])]=>.det (IsE enc_55 3 a0_list_Gates_s a0_list_Gates_g∧IsE zah 3 a0_corners_s a0_corners_g∧p82 c0 (⟨(⟨(⟨a0_list_Gates_n,zad a0_list_Gates_g⟩:(Sl Gate))⟩:list),(⟨a0_corners_n,zaR a0_corners_g⟩:(Sl straight))⟩:set)=true) [.agg [.int .i64 (((s82 c0 (⟨(⟨(⟨a0_list_Gates_n,zad a0_list_Gates_g⟩:(Sl Gate))⟩:list),(⟨a0_corners_n,zaR a0_corners_g⟩:(Sl straight))⟩:set)).1).Num),.int .i64 (((s82 c0 (⟨(⟨(⟨a0_list_Gates_n,zad a0_list_Gates_g⟩:(Sl Gate))⟩:list),(⟨a0_corners_n,zaR a0_corners_g⟩:(Sl straight))⟩:set)).1).Den)],.agg [.int .i64 (((s82 c0 (⟨(⟨(⟨a0_list_Gates_n,zad a0_list_Gates_g⟩:(Sl Gate))⟩:list),(⟨a0_corners_n,zaR a0_corners_g⟩:(Sl straight))⟩:set)).2).Num),.int .i64 (((s82 c0 (⟨(⟨(⟨a0_list_Gates_n,zad a0_list_Gates_g⟩:(Sl Gate))⟩:list),(⟨a0_corners_n,zaR a0_corners_g⟩:(Sl straight))⟩:set)).2).Den)]]
  | [.agg [.sl a0_list_Gates_n a0_list_Gates_s a0_list_Gates_g,.sl a0_corners_n a0_corners_s a0_corners_g],.one (.fn 83 [] [])]=>.det (IsE enc_55 3 a0_list_Gates_s a0_list_Gates_g∧IsE zah 3 a0_corners_s a0_corners_g∧zLd (⟨(⟨(⟨a0_list_Gates_n,zad a0_list_Gates_g⟩:(Sl Gate))⟩:list),(⟨a0_corners_n,zaR a0_corners_g⟩:(Sl straight))⟩:set)=true) [.agg [.int .i64 (((zA9 (⟨(⟨(⟨a0_list_Gates_n,zad a0_list_Gates_g⟩:(Sl Gate))⟩:list),(⟨a0_corners_n,zaR a0_corners_g⟩:(Sl straight))⟩:set)).1).Num),.int .i64 (((zA9 (⟨(⟨(⟨a0_list_Gates_n,zad a0_list_Gates_g⟩:(Sl Gate))⟩:list),(⟨a0_corners_n,zaR a0_corners_g⟩:(Sl straight))⟩:set)).1).Den)],.agg [.int .i64 (((zA9 (⟨(⟨(⟨a0_list_Gates_n,zad a0_list_Gates_g⟩:(Sl Gate))⟩:list),(⟨a0_corners_n,zaR a0_corners_g⟩:(Sl straight))⟩:set)).2).Num),.int .i64 (((zA9 (⟨(⟨(⟨a0_list_Gates_n,zad a0_list_Gates_g⟩:(Sl Gate))⟩:list),(⟨a0_corners_n,zaR a0_corners_g⟩:(Sl straight))⟩:set)).2).Den)]]
  | _=>.no
theorem zJf:zaf Try.prog 82:=⟨_,rfl,rfl,by kernel_rfl⟩
theorem zOX:Ok Try.prog 82 zBa:=zay zMa zJf fun args K h=>by
  unfold zBa at h
  split at h
  · rename_i a0_list_Gates_n a0_list_Gates_s a0_list_Gates_g a0_corners_n a0_corners_s a0_corners_g c0
    obtain ⟨⟨⟨rfl,a0_list_Gates_f,rfl⟩,⟨rfl,a0_corners_f,rfl⟩,hs⟩,hk⟩:=h
    try rw [zac a0_list_Gates_f] at hs
    try rw [zac a0_list_Gates_f] at hk
    try rw [zaM a0_corners_f] at hs
    try rw [zaM a0_corners_f] at hk
    exact ⟨(fun _ _=>[]),(fun _=>false),zEe,q82 c0 (⟨(⟨(⟨a0_list_Gates_n,a0_list_Gates_f⟩:(Sl Gate))⟩:list),(⟨a0_corners_n,a0_corners_f⟩:(Sl straight))⟩:set) K hs hk⟩
  · rename_i a0_list_Gates_n a0_list_Gates_s a0_list_Gates_g a0_corners_n a0_corners_s a0_corners_g
    obtain ⟨⟨⟨rfl,a0_list_Gates_f,rfl⟩,⟨rfl,a0_corners_f,rfl⟩,hs⟩,hk⟩:=h
    try rw [zac a0_list_Gates_f] at hs
    try rw [zac a0_list_Gates_f] at hk
    try rw [zaM a0_corners_f] at hs
    try rw [zaM a0_corners_f] at hk
    exact ⟨(fun _ _=>[]),(fun _=>false),zvL,zOW (⟨(⟨(⟨a0_list_Gates_n,a0_list_Gates_f⟩:(Sl Gate))⟩:list),(⟨a0_corners_n,a0_corners_f⟩:(Sl straight))⟩:set) K hs hk⟩
  · exact h.elim
abbrev T68:Tabs:=((((Tabs.nil.addF 67 zoc).addF 82 zBa).addF 89 zps).addF 98 zAZ)
theorem zMb:TabsOk Try.prog T68:=((((TabsOk.nil.addF zHI).addF zOX).addF zIM).addF zNs)
abbrev G68:Ctrs:=csm T68 (fun _ _=>[]) (fun _=>false)
def zJg:Ann:=⟨24,[(0,zK [2,3,4,5] [2,3,4,5]),(1,zK [2,3,4,5,9] [2,3,4,5]),(2,zK [4,5,6] [4,5,6]),(3,zK [4,5] [4,5]),(4,zK [4,5] [4,5])],
 [],
 [],
 [],[]⟩
abbrev R68:=(Frac×Frac)
abbrev e68 (r:R68):List PA:=[.agg [.int .i64 r.1.Num,.int .i64 r.1.Den],.agg [.int .i64 r.2.Num,.int .i64 r.2.Den]]
section
variable {K:List PA→Prop} {s:set} {z:Int}
def s68 (s:set) (z:Int):(Frac×Frac) :=
  (cond (s67 s.list)
 ((s89 ((s98 s.list).Low) (1:Int)),(s89 ((s98 s.list).High) (1:Int)))
 (((s82 z s).1),((s82 z s).2)))
def p68 (s:set) (z:Int):Bool :=
  (decide ((p67 s.list=true)) &&
 (cond (s67 s.list)
 (decide ((p98 s.list=true)) &&
 (decide ((p89 ((s98 s.list).Low) (1:Int)=true)) &&
 (decide ((p89 ((s98 s.list).High) (1:Int)=true)) &&
 true)))
 (decide ((p82 z s=true)) &&
 true)))
end
theorem q68 (s:set) (z:Int) (K:List PA→Prop) (hs:p68 s z=true) (hk:K (e68 (s68 s z))):vcFun Try.prog G68 zJg 68 [.agg (zaV s),.one (.int .i64 z)] K :=
  zaw (by kernel_rfl) (zau hs fun hc hs=>And.intro (And.intro (zE enc_55 3 s.list.Gates.get) hc) (zc hs hk (fun hs hk=>(zau hs fun hc hs=>And.intro (And.intro (zE enc_55 3 s.list.Gates.get) hc) (zau hs fun hc hs=>And.intro hc (zau hs fun hc hs=>And.intro hc hk)))) (fun hs hk=>(zau hs fun hc hs=>And.intro (And.intro (zE enc_55 3 s.list.Gates.get) (And.intro (zE zah 3 s.corners.get) hc)) hk))))
def zvN : List PA → COut
  | [.agg [.sl a0_list_Gates_n a0_list_Gates_s a0_list_Gates_g,.sl a0_corners_n a0_corners_s a0_corners_g],.one (.int .i64 a1)]=>.det (IsE enc_55 3 a0_list_Gates_s a0_list_Gates_g∧IsE zah 3 a0_corners_s a0_corners_g∧p68 (⟨(⟨(⟨a0_list_Gates_n,zad a0_list_Gates_g⟩:(Sl Gate))⟩:list),(⟨a0_corners_n,zaR a0_corners_g⟩:(Sl straight))⟩:set) a1=true) [.agg [.int .i64 (((s68 (⟨(⟨(⟨a0_list_Gates_n,zad a0_list_Gates_g⟩:(Sl Gate))⟩:list),(⟨a0_corners_n,zaR a0_corners_g⟩:(Sl straight))⟩:set) a1).1).Num),.int .i64 (((s68 (⟨(⟨(⟨a0_list_Gates_n,zad a0_list_Gates_g⟩:(Sl Gate))⟩:list),(⟨a0_corners_n,zaR a0_corners_g⟩:(Sl straight))⟩:set) a1).1).Den)],.agg [.int .i64 (((s68 (⟨(⟨(⟨a0_list_Gates_n,zad a0_list_Gates_g⟩:(Sl Gate))⟩:list),(⟨a0_corners_n,zaR a0_corners_g⟩:(Sl straight))⟩:set) a1).2).Num),.int .i64 (((s68 (⟨(⟨(⟨a0_list_Gates_n,zad a0_list_Gates_g⟩:(Sl Gate))⟩:list),(⟨a0_corners_n,zaR a0_corners_g⟩:(Sl straight))⟩:set) a1).2).Den)]]
  | _=>.no
theorem zJh:zaf Try.prog 68:=⟨_,rfl,rfl,by kernel_rfl⟩
theorem zMc:Ok Try.prog 68 zvN:=zay zMb zJh fun args K h=>by
  unfold zvN at h
  split at h
  · rename_i a0_list_Gates_n a0_list_Gates_s a0_list_Gates_g a0_corners_n a0_corners_s a0_corners_g a1
    obtain ⟨⟨⟨rfl,a0_list_Gates_f,rfl⟩,⟨rfl,a0_corners_f,rfl⟩,hs⟩,hk⟩:=h
    try rw [zac a0_list_Gates_f] at hs
    try rw [zac a0_list_Gates_f] at hk
    try rw [zaM a0_corners_f] at hs
    try rw [zaM a0_corners_f] at hk
    exact ⟨(fun _ _=>[]),(fun _=>false),zJg,q68 (⟨(⟨(⟨a0_list_Gates_n,a0_list_Gates_f⟩:(Sl Gate))⟩:list),(⟨a0_corners_n,a0_corners_f⟩:(Sl straight))⟩:set) a1 K hs hk⟩
  · exact h.elim
abbrev T19:Tabs:=((((((Tabs.nil.addF 64 ztC).addF 65 zvs).addF 66 zvv).addF 67 zoc).addF 68 zvN).addF 69 zpy)
theorem zMd:TabsOk Try.prog T19:=((((((TabsOk.nil.addF zK6).addF zLU).addF zLX).addF zHI).addF zMc).addF zI4)
abbrev G19:Ctrs:=csm T19 (fun _ _=>[]) (fun _=>false)
def zEj:Ann:=⟨124,[(0,zK [0,1,2,3,9,10] [9,10]),(1,zK [0,1,2,3,9,10,12] [9,10,12]),(2,zK [0,1,2,3,9,10,12,44] [9,10,12]),(3,zK [8,9,10,11] [9,10]),(4,zK [2,3,9,10,12,13,14] [9,10,12,13,14]),(5,zK [2,3,9,10,12,13,14,58] [9,10,12,13,14]),(6,zK [8,9,10,11] [9,10]),(7,zK [2,3,9,10,12,13,14,68] [9,10,12,13,14]),(8,zK [8,9,10,11] [9,10]),(9,zK [2,3,9,10,12,13,14,15,16] [9,10,12,13,14,15,16]),(10,zK [2,3,9,10,12,13,14,15,16,17] [9,10,12,13,14,15,16]),(11,zK [2,3,9,10,12,13,14,15,16,17,76,77] [9,10,12,13,14,15,16]),(12,zK [2,3,9,10,12,13,14,15,16,17,76,77,78] [9,10,12,13,14,15,16]),(13,zK [2,3,9,10,12,13,14,15,16,17,18,76,77] [9,10,12,13,14,15,16]),(14,zK [2,3,9,10,12,13,14,15,16,17,18,19,20,76,77] [9,10,12,13,14,15,16,19,20]),(15,zK [2,3,9,10,12,13,14,15,16,17,18,19,20,21,22,76,77] [9,10,12,13,14,15,16,19,20,21,22]),(16,zK [2,3,9,10,12,13,14,15,16,17,18,19,20,21,22,76,77] [9,10,12,13,14,15,16,19,20,21,22]),(17,zK [2,3,9,10,12,13,14,15,16,17,18,20,21,22,76,77,101] [9,10,12,13,14,15,16,20,21,22]),(18,zK [2,3,9,10,12,13,14,15,16,17,18,20,22,76,77] [9,10,12,13,14,15,16,20,22]),(19,zK [2,3,9,10,12,13,14,15,16,17,18,22,76,77,106] [9,10,12,13,14,15,16,22]),(20,zK [2,3,9,10,12,13,14,15,16,17,18,76,77] [9,10,12,13,14,15,16]),(21,zK [2,3,9,10,12,13,14,15,16,17,18,76,77,111] [9,10,12,13,14,15,16]),(22,zK [3,9,10,12,15,16,17] [9,10,12,15,16]),(23,zK [2,3,9,10,12,13,14,15,16,17,76,77] [9,10,12,13,14,15,16]),(24,zK [9,10,12,15,16,17,118] [9,10,12,15,16]),(25,zK [8,9,10,11] [9,10]),(26,zK [8,9,10,11] [9,10])],
 [(12,zK [2,3,9,10,12,13,14,15,16,17,76,77] [9,10,12,13,14,15,16])],
 [(3,zK [0,1,2,3,9,10,12,44] [9,10,12]),(4,zK [0,1,2,3,9,10,12] [9,10,12]),(5,zK [2,3,9,10,12,13,14] [9,10,12,13,14]),(6,zK [2,3,9,10,12,13,14,58] [9,10,12,13,14]),(7,zK [2,3,9,10,12,13,14] [9,10,12,13,14]),(8,zK [2,3,9,10,12,13,14,68] [9,10,12,13,14]),(9,zK [2,3,9,10,12,13,14] [9,10,12,13,14]),(15,zK [2,3,9,10,12,13,14,15,16,17,18,19,20,76,77] [9,10,12,13,14,15,16,19,20]),(24,zK [3,9,10,12,15,16,17] [9,10,12,15,16]),(16,zK [2,3,9,10,12,13,14,15,16,17,18,19,20,21,22,76,77] [9,10,12,13,14,15,16,19,20,21,22]),(18,zK [2,3,9,10,12,13,14,15,16,17,18,20,21,22,76,77,101] [9,10,12,13,14,15,16,20,21,22]),(19,zK [2,3,9,10,12,13,14,15,16,17,18,20,22,76,77] [9,10,12,13,14,15,16,20,22]),(20,zK [2,3,9,10,12,13,14,15,16,17,18,22,76,77,106] [9,10,12,13,14,15,16,22]),(22,zK [2,3,9,10,12,13,14,15,16,17,18,76,77,111] [9,10,12,13,14,15,16])],
 [],[]⟩
abbrev R19:=(Int×Frac×Frac×Int)
abbrev e19 (r:R19):List PA:=[.one (.int .i64 r.1),.agg [.int .i64 r.2.1.Num,.int .i64 r.2.1.Den],.agg [.int .i64 r.2.2.1.Num,.int .i64 r.2.2.1.Den],.one (.int .i64 r.2.2.2)]
@[irreducible] def z19:=ptF Try.prog G19 zEj Try.f19
def zCk (low:Int) (high:Int) (zam:(Sl Gate)) (zas:(Sl straight)) (zan:(Sl Gate)) (zat:(Sl straight)) (zcm:Int) (zbr:Int) (zbs:Int) (zcC:Int) (zcD:Int):St:=⟨[(2,zI low),(3,zI high),(9,zp 9 0),(10,zp 10 0),(12,zp 12 0),(13,zp 13 0),(14,zp 14 0),(15,zp 15 0),(16,zp 16 0),(17,zI (w64 (high+(1:Int)))),(76,zI (w64 ((w64 (high - low))+(1:Int)))),(77,zI zcm)],[(9,.box 25 (zm (zae (⟨(0:Int),(0:Int)⟩:Frac)))),(10,.box 25 (zm (zae (⟨(0:Int),(0:Int)⟩:Frac)))),(12,.box 25 (zm (zae (⟨(0:Int),(0:Int)⟩:Frac)))),(13,.box 104 (zm (zaV (⟨(⟨zam⟩:list),zas⟩:set)))),(14,.box 104 (zm (zaV (⟨(⟨zan⟩:list),zat⟩:set)))),(15,.box 25 (zm (zae (⟨zbr,zbs⟩:Frac)))),(16,.box 25 (zm (zae (⟨zcC,zcD⟩:Frac))))],[]⟩
abbrev zoj (K:List PA→Prop) (low:Int) (high:Int) (zam:(Sl Gate)) (zas:(Sl straight)) (zan:(Sl Gate)) (zat:(Sl straight)) (X:St→Prop) (P:Int→Int→Int→Int→Int→Bool) (S:Int→Int→Int→Int→Int→(Int×Frac×Frac×Int)):Prop:=∀ ⦃zcm:Int⦄ ⦃zbr:Int⦄ ⦃zbs:Int⦄ ⦃zcC:Int⦄ ⦃zcD:Int⦄,P zcm zbr zbs zcC zcD=true→K (e19 (S zcm zbr zbs zcC zcD))→X (zCk low high zam zas zan zat zcm zbr zbs zcC zcD)
section
variable {K:List PA→Prop} {a:(Sl Gate)} {b:(Sl Gate)} {low:Int} {high:Int} {zpJ:Bool} {zam:(Sl Gate)} {zas:(Sl straight)} {zan:(Sl Gate)} {zat:(Sl straight)} {zvO:Nat→List PV} {zvP:Nat→List PV} {zvQ:Nat→List PV} {zvR:Nat→List PV} {zpK:Bool} {zpL:Bool} {zcm:Int} {zbr:Int} {zbs:Int} {zcC:Int} {zcD:Int} {X7:St→Prop} {P7:Int→Int→Int→Int→Int→Bool} {S7:Int→Int→Int→Int→Int→(Int×Frac×Frac×Int)} {iv8:Int} {zpM:Int} {zeF:Int} {zeG:Int} {zjX:Int} {zjY:Int} {zdF:Int} {zdG:Int} {zbA:Int} {zbB:Int} {zJi:Int} {ziX:Int} {ziY:Int} {zsw:Int} {zsx:Int} {zhh:Int} {zjZ:Int} {zfe:Int} {zff:Int} {zj0:Int} {zj1:Int} {zdc:Int} {zdd:Int} {zbk:Int} {zbl:Int} {zBb:Int} {zha:Int} {zgu:Bool} {zEk:Int} {zj2:Int} {zaE:Int} {zaF:Int} {zBc:Int} {zhb:Int} {zgv:Bool} {zHL:Int} {zj3:Int} {zgw:Bool} {zfg:Int} {zfh:Int}
def zpN (high:Int) (zJi:Int) (ziX:Int) (ziY:Int) (zsw:Int) (zsx:Int):(Int×Frac×Frac×Int) :=
  (cond (decide (zJi > high))
 ((0:Int),(⟨(0:Int),(0:Int)⟩:Frac),(⟨(0:Int),(0:Int)⟩:Frac),(5:Int))
 (zJi,(⟨ziX,ziY⟩:Frac),(⟨zsw,zsx⟩:Frac),(0:Int)))
theorem zvS (hk:K (e19 (zpN high zJi ziX ziY zsw zsx))):z19 K [1,0,1,1,1,1,1,1,1,1,1] [] ⟨[(3,zI high),(9,zp 9 0),(10,zp 10 0),(12,zp 12 0),(15,zp 15 0),(16,zp 16 0),(17,zI zJi)],[(9,.box 25 (zm (zae (⟨(0:Int),(0:Int)⟩:Frac)))),(10,.box 25 (zm (zae (⟨(0:Int),(0:Int)⟩:Frac)))),(12,.box 25 (zm (zae (⟨(0:Int),(0:Int)⟩:Frac)))),(15,.box 25 (zm (zae (⟨ziX,ziY⟩:Frac)))),(16,.box 25 (zm (zae (⟨zsw,zsx⟩:Frac))))],[]⟩:=zaw (by kernel_rfl) (zt hk (fun hk=>hk) (fun hk=>hk))
def zmd (S7:Int→Int→Int→Int→Int→(Int×Frac×Frac×Int)) (low:Int) (high:Int) (zam:(Sl Gate)) (zas:(Sl straight)) (zan:(Sl Gate)) (zat:(Sl straight)) (zaE:Int) (zaF:Int) (zHL:Int) (zj3:Int) (zgw:Bool) (zfg:Int) (zfh:Int):(Int×Frac×Frac×Int) :=
  (cond zgw
 (zpN high (w64 (low+zHL)) zaE zaF zfg zfh)
 (S7 (w64 (zj3+(1:Int))) zaE zaF zfg zfh))
def zme (P7:Int→Int→Int→Int→Int→Bool) (low:Int) (high:Int) (zam:(Sl Gate)) (zas:(Sl straight)) (zan:(Sl Gate)) (zat:(Sl straight)) (zaE:Int) (zaF:Int) (zHL:Int) (zj3:Int) (zgw:Bool) (zfg:Int) (zfh:Int):Bool :=
  (cond zgw
 true
 (P7 (w64 (zj3+(1:Int))) zaE zaF zfg zfh))
theorem zsy (hX7:zoj K low high zam zas zan zat X7 P7 S7) (hs:zme P7 low high zam zas zan zat zaE zaF zHL zj3 zgw zfg zfh=true) (hk:K (e19 (zmd S7 low high zam zas zan zat zaE zaF zHL zj3 zgw zfg zfh))):z19 K [1,0,1,1,1,1,1,1,1,1,0,1,0,0,1,1,0,0,1,1,1,1,1,1,1] [X7] ⟨[(2,zI low),(3,zI high),(9,zp 9 0),(10,zp 10 0),(12,zp 12 0),(13,zp 13 0),(14,zp 14 0),(15,zp 15 0),(16,zp 16 0),(17,zI (w64 (high+(1:Int)))),(18,zI zHL),(76,zI (w64 ((w64 (high - low))+(1:Int)))),(77,zI zj3),(111,zB zgw)],[(9,.box 25 (zm (zae (⟨(0:Int),(0:Int)⟩:Frac)))),(10,.box 25 (zm (zae (⟨(0:Int),(0:Int)⟩:Frac)))),(12,.box 25 (zm (zae (⟨(0:Int),(0:Int)⟩:Frac)))),(13,.box 104 (zm (zaV (⟨(⟨zam⟩:list),zas⟩:set)))),(14,.box 104 (zm (zaV (⟨(⟨zan⟩:list),zat⟩:set)))),(15,.box 25 (zm (zae (⟨zaE,zaF⟩:Frac)))),(16,.box 25 (zm (zae (⟨zfg,zfh⟩:Frac))))],[]⟩:=zaw (by kernel_rfl) (zc hs hk (fun hs hk=>(zvS hk)) (fun hs hk=>(hX7 hs hk)))
def zsz (S7:Int→Int→Int→Int→Int→(Int×Frac×Frac×Int)) (low:Int) (high:Int) (zam:(Sl Gate)) (zas:(Sl straight)) (zan:(Sl Gate)) (zat:(Sl straight)) (zbA:Int) (zbB:Int) (zbk:Int) (zbl:Int) (zaE:Int) (zaF:Int) (zBc:Int) (zhb:Int) (zgv:Bool):(Int×Frac×Frac×Int) :=
  (cond zgv
 (zmd S7 low high zam zas zan zat zaE zaF zBc zhb (decide ((s69 (⟨zaE,zaF⟩:Frac) (⟨zbk,zbl⟩:Frac))≤(0:Int))) zbk zbl)
 (zmd S7 low high zam zas zan zat zaE zaF zBc zhb (decide ((s69 (⟨zaE,zaF⟩:Frac) (⟨zbA,zbB⟩:Frac))≤(0:Int))) zbA zbB))
def zsA (P7:Int→Int→Int→Int→Int→Bool) (low:Int) (high:Int) (zam:(Sl Gate)) (zas:(Sl straight)) (zan:(Sl Gate)) (zat:(Sl straight)) (zbA:Int) (zbB:Int) (zbk:Int) (zbl:Int) (zaE:Int) (zaF:Int) (zBc:Int) (zhb:Int) (zgv:Bool):Bool :=
  (cond zgv
 (zme P7 low high zam zas zan zat zaE zaF zBc zhb (decide ((s69 (⟨zaE,zaF⟩:Frac) (⟨zbk,zbl⟩:Frac))≤(0:Int))) zbk zbl)
 (zme P7 low high zam zas zan zat zaE zaF zBc zhb (decide ((s69 (⟨zaE,zaF⟩:Frac) (⟨zbA,zbB⟩:Frac))≤(0:Int))) zbA zbB))
theorem zBd (hX7:zoj K low high zam zas zan zat X7 P7 S7) (hs:zsA P7 low high zam zas zan zat zbA zbB zbk zbl zaE zaF zBc zhb zgv=true) (hk:K (e19 (zsz S7 low high zam zas zan zat zbA zbB zbk zbl zaE zaF zBc zhb zgv))):z19 K [1,0,1,1,1,1,1,1,1,1,0,1,0,0,1,1,0,0,1,1,1,1,1,0,1] [X7] ⟨[(2,zI low),(3,zI high),(9,zp 9 0),(10,zp 10 0),(12,zp 12 0),(13,zp 13 0),(14,zp 14 0),(15,zp 15 0),(16,zp 16 0),(17,zI (w64 (high+(1:Int)))),(18,zI zBc),(22,zp 22 0),(76,zI (w64 ((w64 (high - low))+(1:Int)))),(77,zI zhb),(106,zB zgv)],[(9,.box 25 (zm (zae (⟨(0:Int),(0:Int)⟩:Frac)))),(10,.box 25 (zm (zae (⟨(0:Int),(0:Int)⟩:Frac)))),(12,.box 25 (zm (zae (⟨(0:Int),(0:Int)⟩:Frac)))),(13,.box 104 (zm (zaV (⟨(⟨zam⟩:list),zas⟩:set)))),(14,.box 104 (zm (zaV (⟨(⟨zan⟩:list),zat⟩:set)))),(15,.box 25 (zm (zae (⟨zaE,zaF⟩:Frac)))),(16,.box 25 (zm (zae (⟨zbA,zbB⟩:Frac)))),(22,.box 25 (zm (zae (⟨zbk,zbl⟩:Frac))))],[]⟩:=zaw (by kernel_rfl) (zc hs hk (fun hs hk=>(zsy hX7 hs hk)) (fun hs hk=>(zsy hX7 hs hk)))
def zmf (S7:Int→Int→Int→Int→Int→(Int×Frac×Frac×Int)) (low:Int) (high:Int) (zam:(Sl Gate)) (zas:(Sl straight)) (zan:(Sl Gate)) (zat:(Sl straight)) (zbA:Int) (zbB:Int) (zbk:Int) (zbl:Int) (zEk:Int) (zj2:Int) (zaE:Int) (zaF:Int):(Int×Frac×Frac×Int) :=
  (zsz S7 low high zam zas zan zat zbA zbB zbk zbl zaE zaF zEk zj2 (decide ((s69 (⟨zbk,zbl⟩:Frac) (⟨zbA,zbB⟩:Frac)) < (0:Int))))
def zmg (P7:Int→Int→Int→Int→Int→Bool) (low:Int) (high:Int) (zam:(Sl Gate)) (zas:(Sl straight)) (zan:(Sl Gate)) (zat:(Sl straight)) (zbA:Int) (zbB:Int) (zbk:Int) (zbl:Int) (zEk:Int) (zj2:Int) (zaE:Int) (zaF:Int):Bool :=
  (zsA P7 low high zam zas zan zat zbA zbB zbk zbl zaE zaF zEk zj2 (decide ((s69 (⟨zbk,zbl⟩:Frac) (⟨zbA,zbB⟩:Frac)) < (0:Int))))
theorem zsB (hX7:zoj K low high zam zas zan zat X7 P7 S7) (hs:zmg P7 low high zam zas zan zat zbA zbB zbk zbl zEk zj2 zaE zaF=true) (hk:K (e19 (zmf S7 low high zam zas zan zat zbA zbB zbk zbl zEk zj2 zaE zaF))):z19 K [1,0,1,1,1,1,1,1,1,1,0,1,0,0,1,1,0,0,1,1,1,1,1] [X7] ⟨[(2,zI low),(3,zI high),(9,zp 9 0),(10,zp 10 0),(12,zp 12 0),(13,zp 13 0),(14,zp 14 0),(15,zp 15 0),(16,zp 16 0),(17,zI (w64 (high+(1:Int)))),(18,zI zEk),(20,zp 20 0),(22,zp 22 0),(76,zI (w64 ((w64 (high - low))+(1:Int)))),(77,zI zj2)],[(9,.box 25 (zm (zae (⟨(0:Int),(0:Int)⟩:Frac)))),(10,.box 25 (zm (zae (⟨(0:Int),(0:Int)⟩:Frac)))),(12,.box 25 (zm (zae (⟨(0:Int),(0:Int)⟩:Frac)))),(13,.box 104 (zm (zaV (⟨(⟨zam⟩:list),zas⟩:set)))),(14,.box 104 (zm (zaV (⟨(⟨zan⟩:list),zat⟩:set)))),(15,.box 25 (zm (zae (⟨zaE,zaF⟩:Frac)))),(16,.box 25 (zm (zae (⟨zbA,zbB⟩:Frac)))),(20,.box 25 (zm (zae (⟨zbA,zbB⟩:Frac)))),(22,.box 25 (zm (zae (⟨zbk,zbl⟩:Frac))))],[]⟩:=zaw (by kernel_rfl) (zBd hX7 hs hk)
def zsC (S7:Int→Int→Int→Int→Int→(Int×Frac×Frac×Int)) (low:Int) (high:Int) (zam:(Sl Gate)) (zas:(Sl straight)) (zan:(Sl Gate)) (zat:(Sl straight)) (zdF:Int) (zdG:Int) (zbA:Int) (zbB:Int) (zdc:Int) (zdd:Int) (zbk:Int) (zbl:Int) (zBb:Int) (zha:Int) (zgu:Bool):(Int×Frac×Frac×Int) :=
  (cond zgu
 (zmf S7 low high zam zas zan zat zbA zbB zbk zbl zBb zha zdc zdd)
 (zmf S7 low high zam zas zan zat zbA zbB zbk zbl zBb zha zdF zdG))
def zsD (P7:Int→Int→Int→Int→Int→Bool) (low:Int) (high:Int) (zam:(Sl Gate)) (zas:(Sl straight)) (zan:(Sl Gate)) (zat:(Sl straight)) (zdF:Int) (zdG:Int) (zbA:Int) (zbB:Int) (zdc:Int) (zdd:Int) (zbk:Int) (zbl:Int) (zBb:Int) (zha:Int) (zgu:Bool):Bool :=
  (cond zgu
 (zmg P7 low high zam zas zan zat zbA zbB zbk zbl zBb zha zdc zdd)
 (zmg P7 low high zam zas zan zat zbA zbB zbk zbl zBb zha zdF zdG))
theorem zBe (hX7:zoj K low high zam zas zan zat X7 P7 S7) (hs:zsD P7 low high zam zas zan zat zdF zdG zbA zbB zdc zdd zbk zbl zBb zha zgu=true) (hk:K (e19 (zsC S7 low high zam zas zan zat zdF zdG zbA zbB zdc zdd zbk zbl zBb zha zgu))):z19 K [1,0,1,1,1,1,1,1,1,1,0,1,0,0,1,1,0,0,1,1,1,1,0,1] [X7] ⟨[(2,zI low),(3,zI high),(9,zp 9 0),(10,zp 10 0),(12,zp 12 0),(13,zp 13 0),(14,zp 14 0),(15,zp 15 0),(16,zp 16 0),(17,zI (w64 (high+(1:Int)))),(18,zI zBb),(20,zp 20 0),(21,zp 21 0),(22,zp 22 0),(76,zI (w64 ((w64 (high - low))+(1:Int)))),(77,zI zha),(101,zB zgu)],[(9,.box 25 (zm (zae (⟨(0:Int),(0:Int)⟩:Frac)))),(10,.box 25 (zm (zae (⟨(0:Int),(0:Int)⟩:Frac)))),(12,.box 25 (zm (zae (⟨(0:Int),(0:Int)⟩:Frac)))),(13,.box 104 (zm (zaV (⟨(⟨zam⟩:list),zas⟩:set)))),(14,.box 104 (zm (zaV (⟨(⟨zan⟩:list),zat⟩:set)))),(15,.box 25 (zm (zae (⟨zdF,zdG⟩:Frac)))),(16,.box 25 (zm (zae (⟨zbA,zbB⟩:Frac)))),(20,.box 25 (zm (zae (⟨zbA,zbB⟩:Frac)))),(21,.box 25 (zm (zae (⟨zdc,zdd⟩:Frac)))),(22,.box 25 (zm (zae (⟨zbk,zbl⟩:Frac))))],[]⟩:=zaw (by kernel_rfl) (zc hs hk (fun hs hk=>(zsB hX7 hs hk)) (fun hs hk=>(zsB hX7 hs hk)))
def zsE (S7:Int→Int→Int→Int→Int→(Int×Frac×Frac×Int)) (low:Int) (high:Int) (zam:(Sl Gate)) (zas:(Sl straight)) (zan:(Sl Gate)) (zat:(Sl straight)) (zdF:Int) (zdG:Int) (zbA:Int) (zbB:Int) (zhh:Int) (zjZ:Int) (zfe:Int) (zff:Int) (zj0:Int) (zj1:Int) (zdc:Int) (zdd:Int) (zbk:Int) (zbl:Int):(Int×Frac×Frac×Int) :=
  (zsC S7 low high zam zas zan zat zdF zdG zbA zbB zdc zdd zbk zbl zhh zjZ (decide ((s69 (⟨zdc,zdd⟩:Frac) (⟨zdF,zdG⟩:Frac)) > (0:Int))))
def zsF (P7:Int→Int→Int→Int→Int→Bool) (low:Int) (high:Int) (zam:(Sl Gate)) (zas:(Sl straight)) (zan:(Sl Gate)) (zat:(Sl straight)) (zdF:Int) (zdG:Int) (zbA:Int) (zbB:Int) (zhh:Int) (zjZ:Int) (zfe:Int) (zff:Int) (zj0:Int) (zj1:Int) (zdc:Int) (zdd:Int) (zbk:Int) (zbl:Int):Bool :=
  (zsD P7 low high zam zas zan zat zdF zdG zbA zbB zdc zdd zbk zbl zhh zjZ (decide ((s69 (⟨zdc,zdd⟩:Frac) (⟨zdF,zdG⟩:Frac)) > (0:Int))))
theorem zBf (hX7:zoj K low high zam zas zan zat X7 P7 S7) (hs:zsF P7 low high zam zas zan zat zdF zdG zbA zbB zhh zjZ zfe zff zj0 zj1 zdc zdd zbk zbl=true) (hk:K (e19 (zsE S7 low high zam zas zan zat zdF zdG zbA zbB zhh zjZ zfe zff zj0 zj1 zdc zdd zbk zbl))):z19 K [1,0,1,1,1,1,1,1,1,1,0,1,0,0,1,1,0,0,1,1,1] [X7] ⟨[(2,zI low),(3,zI high),(9,zp 9 0),(10,zp 10 0),(12,zp 12 0),(13,zp 13 0),(14,zp 14 0),(15,zp 15 0),(16,zp 16 0),(17,zI (w64 (high+(1:Int)))),(18,zI zhh),(19,zp 19 0),(20,zp 20 0),(21,zp 21 0),(22,zp 22 0),(76,zI (w64 ((w64 (high - low))+(1:Int)))),(77,zI zjZ)],[(9,.box 25 (zm (zae (⟨(0:Int),(0:Int)⟩:Frac)))),(10,.box 25 (zm (zae (⟨(0:Int),(0:Int)⟩:Frac)))),(12,.box 25 (zm (zae (⟨(0:Int),(0:Int)⟩:Frac)))),(13,.box 104 (zm (zaV (⟨(⟨zam⟩:list),zas⟩:set)))),(14,.box 104 (zm (zaV (⟨(⟨zan⟩:list),zat⟩:set)))),(15,.box 25 (zm (zae (⟨zfe,zff⟩:Frac)))),(16,.box 25 (zm (zae (⟨zj0,zj1⟩:Frac)))),(19,.box 25 (zm (zae (⟨zdF,zdG⟩:Frac)))),(20,.box 25 (zm (zae (⟨zbA,zbB⟩:Frac)))),(21,.box 25 (zm (zae (⟨zdc,zdd⟩:Frac)))),(22,.box 25 (zm (zae (⟨zbk,zbl⟩:Frac))))],[]⟩:=zaw (by kernel_rfl) (zBe hX7 hs hk)
def zvT (S7:Int→Int→Int→Int→Int→(Int×Frac×Frac×Int)) (low:Int) (high:Int) (zam:(Sl Gate)) (zas:(Sl straight)) (zan:(Sl Gate)) (zat:(Sl straight)) (iv8:Int) (zpM:Int) (zeF:Int) (zeG:Int) (zjX:Int) (zjY:Int) (zdF:Int) (zdG:Int) (zbA:Int) (zbB:Int):(Int×Frac×Frac×Int) :=
  (zsE S7 low high zam zas zan zat zdF zdG zbA zbB iv8 zpM zeF zeG zjX zjY (((s68 (⟨(⟨zan⟩:list),zat⟩:set) (w64 (low+iv8))).1).Num) (((s68 (⟨(⟨zan⟩:list),zat⟩:set) (w64 (low+iv8))).1).Den) (((s68 (⟨(⟨zan⟩:list),zat⟩:set) (w64 (low+iv8))).2).Num) (((s68 (⟨(⟨zan⟩:list),zat⟩:set) (w64 (low+iv8))).2).Den))
def zvU (P7:Int→Int→Int→Int→Int→Bool) (low:Int) (high:Int) (zam:(Sl Gate)) (zas:(Sl straight)) (zan:(Sl Gate)) (zat:(Sl straight)) (iv8:Int) (zpM:Int) (zeF:Int) (zeG:Int) (zjX:Int) (zjY:Int) (zdF:Int) (zdG:Int) (zbA:Int) (zbB:Int):Bool :=
  (decide ((p68 (⟨(⟨zan⟩:list),zat⟩:set) (w64 (low+iv8))=true)) &&
 (zsF P7 low high zam zas zan zat zdF zdG zbA zbB iv8 zpM zeF zeG zjX zjY (((s68 (⟨(⟨zan⟩:list),zat⟩:set) (w64 (low+iv8))).1).Num) (((s68 (⟨(⟨zan⟩:list),zat⟩:set) (w64 (low+iv8))).1).Den) (((s68 (⟨(⟨zan⟩:list),zat⟩:set) (w64 (low+iv8))).2).Num) (((s68 (⟨(⟨zan⟩:list),zat⟩:set) (w64 (low+iv8))).2).Den)))
theorem zEl (hX7:zoj K low high zam zas zan zat X7 P7 S7) (hs:zvU P7 low high zam zas zan zat iv8 zpM zeF zeG zjX zjY zdF zdG zbA zbB=true) (hk:K (e19 (zvT S7 low high zam zas zan zat iv8 zpM zeF zeG zjX zjY zdF zdG zbA zbB))):z19 K [1,0,1,1,1,1,1,1,1,1,0,1,0,0,1,1,0,0,1,1] [X7] ⟨[(2,zI low),(3,zI high),(9,zp 9 0),(10,zp 10 0),(12,zp 12 0),(13,zp 13 0),(14,zp 14 0),(15,zp 15 0),(16,zp 16 0),(17,zI (w64 (high+(1:Int)))),(18,zI iv8),(19,zp 19 0),(20,zp 20 0),(76,zI (w64 ((w64 (high - low))+(1:Int)))),(77,zI zpM)],[(9,.box 25 (zm (zae (⟨(0:Int),(0:Int)⟩:Frac)))),(10,.box 25 (zm (zae (⟨(0:Int),(0:Int)⟩:Frac)))),(12,.box 25 (zm (zae (⟨(0:Int),(0:Int)⟩:Frac)))),(13,.box 104 (zm (zaV (⟨(⟨zam⟩:list),zas⟩:set)))),(14,.box 104 (zm (zaV (⟨(⟨zan⟩:list),zat⟩:set)))),(15,.box 25 (zm (zae (⟨zeF,zeG⟩:Frac)))),(16,.box 25 (zm (zae (⟨zjX,zjY⟩:Frac)))),(19,.box 25 (zm (zae (⟨zdF,zdG⟩:Frac)))),(20,.box 25 (zm (zae (⟨zbA,zbB⟩:Frac))))],[]⟩:=zaw (by kernel_rfl) (zau hs fun hc hs=>And.intro (And.intro (zE enc_55 3 zan.get) (And.intro (zE zah 3 zat.get) hc)) (zBf hX7 hs hk))
def zvV (low:Int) (high:Int) (zam:(Sl Gate)) (zas:(Sl straight)) (zan:(Sl Gate)) (zat:(Sl straight)) (S7:Int→Int→Int→Int→Int→(Int×Frac×Frac×Int)) (zcm:Int) (zbr:Int) (zbs:Int) (zcC:Int) (zcD:Int):(Int×Frac×Frac×Int) :=
  (cond (decide (zcm < (w64 ((w64 (high - low)) + (1:Int)))))
 (zvT S7 low high zam zas zan zat zcm zcm zbr zbs zcC zcD (((s68 (⟨(⟨zam⟩:list),zas⟩:set) (w64 (low+zcm))).1).Num) (((s68 (⟨(⟨zam⟩:list),zas⟩:set) (w64 (low+zcm))).1).Den) (((s68 (⟨(⟨zam⟩:list),zas⟩:set) (w64 (low+zcm))).2).Num) (((s68 (⟨(⟨zam⟩:list),zas⟩:set) (w64 (low+zcm))).2).Den))
 (zpN high (w64 (high+(1:Int))) zbr zbs zcC zcD))
def zvW (low:Int) (high:Int) (zam:(Sl Gate)) (zas:(Sl straight)) (zan:(Sl Gate)) (zat:(Sl straight)) (P7:Int→Int→Int→Int→Int→Bool) (zcm:Int) (zbr:Int) (zbs:Int) (zcC:Int) (zcD:Int):Bool :=
  (cond (decide (zcm < (w64 ((w64 (high - low)) + (1:Int)))))
 (decide ((p68 (⟨(⟨zam⟩:list),zas⟩:set) (w64 (low+zcm))=true)) &&
 (zvU P7 low high zam zas zan zat zcm zcm zbr zbs zcC zcD (((s68 (⟨(⟨zam⟩:list),zas⟩:set) (w64 (low+zcm))).1).Num) (((s68 (⟨(⟨zam⟩:list),zas⟩:set) (w64 (low+zcm))).1).Den) (((s68 (⟨(⟨zam⟩:list),zas⟩:set) (w64 (low+zcm))).2).Num) (((s68 (⟨(⟨zam⟩:list),zas⟩:set) (w64 (low+zcm))).2).Den)))
 true)
def zvX (low:Int) (high:Int) (zam:(Sl Gate)) (zas:(Sl straight)) (zan:(Sl Gate)) (zat:(Sl straight)):Nat→Int→Int→Int→Int→Int→(Int×Frac×Frac×Int):=lpO (fun _ _ _ _ _=>default) (zvV low high zam zas zan zat)
def zvY (low:Int) (high:Int) (zam:(Sl Gate)) (zas:(Sl straight)) (zan:(Sl Gate)) (zat:(Sl straight)):Nat→Int→Int→Int→Int→Int→Bool:=lpO (fun _ _ _ _ _=>false) (zvW low high zam zas zan zat)
def zvZ (low:Int) (high:Int) (zam:(Sl Gate)) (zas:(Sl straight)) (zan:(Sl Gate)) (zat:(Sl straight)) (zcm:Int) (zbr:Int) (zbs:Int) (zcC:Int) (zcD:Int):(Int×Frac×Frac×Int):=zvX low high zam zas zan zat Fuel zcm zbr zbs zcC zcD
def zv1 (low:Int) (high:Int) (zam:(Sl Gate)) (zas:(Sl straight)) (zan:(Sl Gate)) (zat:(Sl straight)) (zcm:Int) (zbr:Int) (zbs:Int) (zcC:Int) (zcD:Int):Bool:=zvY low high zam zas zan zat Fuel zcm zbr zbs zcC zcD
theorem zEm (hs:zv1 low high zam zas zan zat zcm zbr zbs zcC zcD=true) (hk:K (e19 (zvZ low high zam zas zan zat zcm zbr zbs zcC zcD))):z19 K [1,0,1,1,1,1,1,1,1,1,0,1,0] [] (zCk low high zam zas zan zat zcm zbr zbs zcC zcD) :=
  zl (fun X=>z19 K [1,0,1,1,1,1,1,1,1,1,0,1,0,0] [X]) (by kernel_rfl) fun X7 hX =>
  (show ∀ k, zoj K low high zam zas zan zat X7 (zvY low high zam zas zan zat k) (zvX low high zam zas zan zat k) from zeV _ _ (zvW low high zam zas zan zat) (zvV low high zam zas zan zat) (zoj K low high zam zas zan zat X7)
 (by intro _ _ _ _ _ hs;exact absurd hs Bool.false_ne_true)
 (by intro P7 S7 hX7 zcm zbr zbs zcC zcD hs hk;exact hX _ (zaw (by kernel_rfl) (zc hs hk (fun hs hk=>(zau hs fun hc hs=>And.intro (And.intro (zE enc_55 3 zam.get) (And.intro (zE zah 3 zas.get) hc)) (zEl hX7 hs hk))) (fun hs hk=>(zvS hk)))))) _ hs hk
def zv2 (low:Int) (high:Int) (zam:(Sl Gate)) (zas:(Sl straight)) (zan:(Sl Gate)) (zat:(Sl straight)):(Int×Frac×Frac×Int) :=
  (zvZ low high zam zas zan zat (0:Int) (0:Int) (0:Int) (0:Int) (0:Int))
def zv4 (low:Int) (high:Int) (zam:(Sl Gate)) (zas:(Sl straight)) (zan:(Sl Gate)) (zat:(Sl straight)):Bool :=
  (zv1 low high zam zas zan zat (0:Int) (0:Int) (0:Int) (0:Int) (0:Int))
theorem zEn (hs:zv4 low high zam zas zan zat=true) (hk:K (e19 (zv2 low high zam zas zan zat))):z19 K [1,0,1,1,1,1,1] [] ⟨[(2,zI low),(3,zI high),(9,zp 9 0),(10,zp 10 0),(12,zp 12 0),(13,zp 13 0),(14,zp 14 0)],[(9,.box 25 (zm (zae (⟨(0:Int),(0:Int)⟩:Frac)))),(10,.box 25 (zm (zae (⟨(0:Int),(0:Int)⟩:Frac)))),(12,.box 25 (zm (zae (⟨(0:Int),(0:Int)⟩:Frac)))),(13,.box 104 (zm (zaV (⟨(⟨zam⟩:list),zas⟩:set)))),(14,.box 104 (zm (zaV (⟨(⟨zan⟩:list),zat⟩:set))))],[]⟩:=zaw (by kernel_rfl) (zEm hs hk)
def zpO (low:Int) (high:Int) (zam:(Sl Gate)) (zas:(Sl straight)) (zan:(Sl Gate)) (zat:(Sl straight)) (zpL:Bool):(Int×Frac×Frac×Int) :=
  (cond zpL
 ((0:Int),(⟨(0:Int),(0:Int)⟩:Frac),(⟨(0:Int),(0:Int)⟩:Frac),(6:Int))
 (zv2 low high zam zas zan zat))
def zpP (low:Int) (high:Int) (zam:(Sl Gate)) (zas:(Sl straight)) (zan:(Sl Gate)) (zat:(Sl straight)) (zpL:Bool):Bool :=
  (cond zpL
 true
 (zv4 low high zam zas zan zat))
theorem zv5 (hs:zpP low high zam zas zan zat zpL=true) (hk:K (e19 (zpO low high zam zas zan zat zpL))):z19 K [1,0,1,1,1,1,0,1] [] ⟨[(2,zI low),(3,zI high),(9,zp 9 0),(10,zp 10 0),(12,zp 12 0),(13,zp 13 0),(14,zp 14 0),(68,zB zpL)],[(9,.box 25 (zm (zae (⟨(0:Int),(0:Int)⟩:Frac)))),(10,.box 25 (zm (zae (⟨(0:Int),(0:Int)⟩:Frac)))),(12,.box 25 (zm (zae (⟨(0:Int),(0:Int)⟩:Frac)))),(13,.box 104 (zm (zaV (⟨(⟨zam⟩:list),zas⟩:set)))),(14,.box 104 (zm (zaV (⟨(⟨zan⟩:list),zat⟩:set))))],[]⟩:=zaw (by kernel_rfl) (zc hs hk (fun hs hk=>hk) (fun hs hk=>(zEn hs hk)))
def zv6 (low:Int) (high:Int) (zam:(Sl Gate)) (zas:(Sl straight)) (zan:(Sl Gate)) (zat:(Sl straight)):(Int×Frac×Frac×Int) :=
  (cond (s67 (⟨zam⟩ : list))
 (zpO low high zam zas zan zat true)
 (zpO low high zam zas zan zat (s67 (⟨zan⟩:list))))
def zv7 (low:Int) (high:Int) (zam:(Sl Gate)) (zas:(Sl straight)) (zan:(Sl Gate)) (zat:(Sl straight)):Bool :=
  (decide ((p67 (⟨zam⟩:list)=true)) &&
 (cond (s67 (⟨zam⟩ : list))
 (zpP low high zam zas zan zat true)
 (decide ((p67 (⟨zan⟩:list)=true)) &&
 (zpP low high zam zas zan zat (s67 (⟨zan⟩:list))))))
theorem zEo (hs:zv7 low high zam zas zan zat=true) (hk:K (e19 (zv6 low high zam zas zan zat))):z19 K [1,0,1,1,1,1] [] ⟨[(2,zI low),(3,zI high),(9,zp 9 0),(10,zp 10 0),(12,zp 12 0),(13,zp 13 0),(14,zp 14 0)],[(9,.box 25 (zm (zae (⟨(0:Int),(0:Int)⟩:Frac)))),(10,.box 25 (zm (zae (⟨(0:Int),(0:Int)⟩:Frac)))),(12,.box 25 (zm (zae (⟨(0:Int),(0:Int)⟩:Frac)))),(13,.box 104 (zm (zaV (⟨(⟨zam⟩:list),zas⟩:set)))),(14,.box 104 (zm (zaV (⟨(⟨zan⟩:list),zat⟩:set))))],[]⟩:=zaw (by kernel_rfl) (zau hs fun hc hs=>And.intro (And.intro (zE enc_55 3 zam.get) hc) (zc hs hk (fun hs hk=>(zv5 hs hk)) (fun hs hk=>(zau hs fun hc hs=>And.intro (And.intro (zE enc_55 3 zan.get) hc) (zv5 hs hk)))))
def zpQ (low:Int) (high:Int) (zam:(Sl Gate)) (zas:(Sl straight)) (zan:(Sl Gate)) (zat:(Sl straight)) (zpK:Bool):(Int×Frac×Frac×Int) :=
  (cond zpK
 ((0:Int),(⟨(0:Int),(0:Int)⟩:Frac),(⟨(0:Int),(0:Int)⟩:Frac),(5:Int))
 (zv6 low high zam zas zan zat))
def zpR (low:Int) (high:Int) (zam:(Sl Gate)) (zas:(Sl straight)) (zan:(Sl Gate)) (zat:(Sl straight)) (zpK:Bool):Bool :=
  (cond zpK
 true
 (zv7 low high zam zas zan zat))
theorem zv8 (hs:zpR low high zam zas zan zat zpK=true) (hk:K (e19 (zpQ low high zam zas zan zat zpK))):z19 K [1,0,1,1,1,0,1] [] ⟨[(2,zI low),(3,zI high),(9,zp 9 0),(10,zp 10 0),(12,zp 12 0),(13,zp 13 0),(14,zp 14 0),(58,zB zpK)],[(9,.box 25 (zm (zae (⟨(0:Int),(0:Int)⟩:Frac)))),(10,.box 25 (zm (zae (⟨(0:Int),(0:Int)⟩:Frac)))),(12,.box 25 (zm (zae (⟨(0:Int),(0:Int)⟩:Frac)))),(13,.box 104 (zm (zaV (⟨(⟨zam⟩:list),zas⟩:set)))),(14,.box 104 (zm (zaV (⟨(⟨zan⟩:list),zat⟩:set))))],[]⟩:=zaw (by kernel_rfl) (zc hs hk (fun hs hk=>hk) (fun hs hk=>(zEo hs hk)))
def zv9 (low:Int) (high:Int) (zam:(Sl Gate)) (zas:(Sl straight)) (zan:(Sl Gate)) (zat:(Sl straight)):(Int×Frac×Frac×Int) :=
  (cond (!(s66 (⟨(⟨zam⟩ : list), zas⟩ : set)))
 (zpQ low high zam zas zan zat true)
 (zpQ low high zam zas zan zat (!(s66 (⟨(⟨zan⟩:list),zat⟩:set)))))
def zwa (low:Int) (high:Int) (zam:(Sl Gate)) (zas:(Sl straight)) (zan:(Sl Gate)) (zat:(Sl straight)):Bool :=
  (decide ((p66 (⟨(⟨zam⟩:list),zas⟩:set)=true)) &&
 (cond (!(s66 (⟨(⟨zam⟩ : list), zas⟩ : set)))
 (zpR low high zam zas zan zat true)
 (decide ((p66 (⟨(⟨zan⟩:list),zat⟩:set)=true)) &&
 (zpR low high zam zas zan zat (!(s66 (⟨(⟨zan⟩:list),zat⟩:set)))))))
theorem zEp (hs:zwa low high zam zas zan zat=true) (hk:K (e19 (zv9 low high zam zas zan zat))) (zEq:zvO=zg enc_55 zam) (zEr:zvP=zg zah zas) (zEs:zvQ=zg enc_55 zan) (zEt:zvR=zg zah zat):z19 K [1,0,1,1,1] [] ⟨[(2,zI low),(3,zI high),(9,zp 9 0),(10,zp 10 0),(12,zp 12 0),(13,zp 13 0),(14,zp 14 0)],[(9,.box 25 (zm (zae (⟨(0:Int),(0:Int)⟩:Frac)))),(10,.box 25 (zm (zae (⟨(0:Int),(0:Int)⟩:Frac)))),(12,.box 25 (zm (zae (⟨(0:Int),(0:Int)⟩:Frac)))),(13,.box 104 [.p (.sl zam.len 3 zvO),.p (.sl zas.len 3 zvP)]),(14,.box 104 [.p (.sl zan.len 3 zvQ),.p (.sl zat.len 3 zvR)])],[]⟩:=by subst zEq;subst zEr;subst zEs;subst zEt;exact zaw (by kernel_rfl) (zau hs fun hc hs=>And.intro (And.intro (zE enc_55 3 zam.get) (And.intro (zE zah 3 zas.get) hc)) (zc hs hk (fun hs hk=>(zv8 hs hk)) (fun hs hk=>(zau hs fun hc hs=>And.intro (And.intro (zE enc_55 3 zan.get) (And.intro (zE zah 3 zat.get) hc)) (zv8 hs hk)))))
def zwb (a:(Sl Gate)) (b:(Sl Gate)) (low:Int) (high:Int):(Int×Frac×Frac×Int) :=
  (zv9 low high ((s65 a).list.Gates) ((s65 a).corners) ((s65 b).list.Gates) ((s65 b).corners))
def zwc (a:(Sl Gate)) (b:(Sl Gate)) (low:Int) (high:Int):Bool :=
  (decide ((p65 a=true)) &&
 (decide ((p65 b=true)) &&
 (zwa low high ((s65 a).list.Gates) ((s65 a).corners) ((s65 b).list.Gates) ((s65 b).corners))))
theorem zEu (hs:zwc a b low high=true) (hk:K (e19 (zwb a b low high))):z19 K [1,0,1,1] [] ⟨[(0,zS enc_55 3 a),(1,zS enc_55 3 b),(2,zI low),(3,zI high),(9,zp 9 0),(10,zp 10 0),(12,zp 12 0)],[(9,.box 25 (zm (zae (⟨(0:Int),(0:Int)⟩:Frac)))),(10,.box 25 (zm (zae (⟨(0:Int),(0:Int)⟩:Frac)))),(12,.box 25 (zm (zae (⟨(0:Int),(0:Int)⟩:Frac))))],[]⟩:=zaw (by kernel_rfl) (zau hs fun hc hs=>And.intro (And.intro (zE enc_55 3 a.get) hc) (zau hs fun hc hs=>And.intro (And.intro (zE enc_55 3 b.get) hc) (zEp hs hk rfl rfl rfl rfl)))
def zhH (a:(Sl Gate)) (b:(Sl Gate)) (low:Int) (high:Int) (zpJ:Bool):(Int×Frac×Frac×Int) :=
  (cond zpJ
 ((0:Int),(⟨(0:Int),(0:Int)⟩:Frac),(⟨(0:Int),(0:Int)⟩:Frac),(2:Int))
 (zwb a b low high))
def zhI (a:(Sl Gate)) (b:(Sl Gate)) (low:Int) (high:Int) (zpJ:Bool):Bool :=
  (cond zpJ
 true
 (zwc a b low high))
theorem zj4 (hs:zhI a b low high zpJ=true) (hk:K (e19 (zhH a b low high zpJ))):z19 K [1,0,1,0,1] [] ⟨[(0,zS enc_55 3 a),(1,zS enc_55 3 b),(2,zI low),(3,zI high),(9,zp 9 0),(10,zp 10 0),(12,zp 12 0),(44,zB zpJ)],[(9,.box 25 (zm (zae (⟨(0:Int),(0:Int)⟩:Frac)))),(10,.box 25 (zm (zae (⟨(0:Int),(0:Int)⟩:Frac)))),(12,.box 25 (zm (zae (⟨(0:Int),(0:Int)⟩:Frac))))],[]⟩:=zaw (by kernel_rfl) (zc hs hk (fun hs hk=>hk) (fun hs hk=>(zEu hs hk)))
def s19 (a:(Sl Gate)) (b:(Sl Gate)) (low:Int) (high:Int):(Int×Frac×Frac×Int) :=
  (cond (decide (low < (-100000:Int)))
 (zhH a b low high true)
 (cond (decide (low > high))
 (zhH a b low high true)
 (cond (decide (high > (200000:Int)))
 (zhH a b low high true)
 (cond (!(s64 a))
 (zhH a b low high true)
 (zhH a b low high (!(s64 b)))))))
def p19 (a:(Sl Gate)) (b:(Sl Gate)) (low:Int) (high:Int):Bool :=
  (cond (decide (low < (-100000:Int)))
 (zhI a b low high true)
 (cond (decide (low > high))
 (zhI a b low high true)
 (cond (decide (high > (200000:Int)))
 (zhI a b low high true)
 (decide ((p64 a=true)) &&
 (cond (!(s64 a))
 (zhI a b low high true)
 (decide ((p64 b=true)) &&
 (zhI a b low high (!(s64 b)))))))))
end
theorem q19 (a:(Sl Gate)) (b:(Sl Gate)) (low:Int) (high:Int) (K:List PA→Prop) (hs:p19 a b low high=true) (hk:K (e19 (s19 a b low high))):vcFun Try.prog G19 zEj 19 [.one (.sl a.len 3 (fun i=>enc_55 (a.get i))),.one (.sl b.len 3 (fun i=>enc_55 (b.get i))),.one (.int .i64 low),.one (.int .i64 high)] K :=
  zaw (by kernel_rfl) (zc hs hk (fun hs hk=>(zj4 hs hk)) (fun hs hk=>(zc hs hk (fun hs hk=>(zj4 hs hk)) (fun hs hk=>(zc hs hk (fun hs hk=>(zj4 hs hk)) (fun hs hk=>(zau hs fun hc hs=>And.intro (And.intro (zE enc_55 3 a.get) hc) (zc hs hk (fun hs hk=>(zj4 hs hk)) (fun hs hk=>(zau hs fun hc hs=>And.intro (And.intro (zE enc_55 3 b.get) hc) (zj4 hs hk)))))))))))
def zEv : List PA → COut
  | [.one (.sl a0_n a0_s a0_g),.one (.sl a1_n a1_s a1_g),.one (.int .i64 a2),.one (.int .i64 a3)]=>.det (IsE enc_55 3 a0_s a0_g∧IsE enc_55 3 a1_s a1_g∧p19 (⟨a0_n,zad a0_g⟩:(Sl Gate)) (⟨a1_n,zad a1_g⟩:(Sl Gate)) a2 a3=true) [.one (.int .i64 ((s19 (⟨a0_n,zad a0_g⟩:(Sl Gate)) (⟨a1_n,zad a1_g⟩:(Sl Gate)) a2 a3).1)),.agg [.int .i64 (((s19 (⟨a0_n,zad a0_g⟩:(Sl Gate)) (⟨a1_n,zad a1_g⟩:(Sl Gate)) a2 a3).2.1).Num),.int .i64 (((s19 (⟨a0_n,zad a0_g⟩:(Sl Gate)) (⟨a1_n,zad a1_g⟩:(Sl Gate)) a2 a3).2.1).Den)],.agg [.int .i64 (((s19 (⟨a0_n,zad a0_g⟩:(Sl Gate)) (⟨a1_n,zad a1_g⟩:(Sl Gate)) a2 a3).2.2.1).Num),.int .i64 (((s19 (⟨a0_n,zad a0_g⟩:(Sl Gate)) (⟨a1_n,zad a1_g⟩:(Sl Gate)) a2 a3).2.2.1).Den)],.one (.int .i64 ((s19 (⟨a0_n,zad a0_g⟩:(Sl Gate)) (⟨a1_n,zad a1_g⟩:(Sl Gate)) a2 a3).2.2.2))]
  | _=>.no
theorem zJj:zaf Try.prog 19:=⟨_,rfl,rfl,by kernel_rfl⟩
theorem zOY:Ok Try.prog 19 zEv:=zay zMd zJj fun args K h=>by
  unfold zEv at h
  split at h
  · rename_i a0_n a0_s a0_g a1_n a1_s a1_g a2 a3
    obtain ⟨⟨⟨rfl,a0_f,rfl⟩,⟨rfl,a1_f,rfl⟩,hs⟩,hk⟩:=h
    try rw [zac a0_f] at hs
    try rw [zac a0_f] at hk
    try rw [zac a1_f] at hs
    try rw [zac a1_f] at hk
    exact ⟨(fun _ _=>[]),(fun _=>false),zEj,q19 (⟨a0_n,a0_f⟩:(Sl Gate)) (⟨a1_n,a1_f⟩:(Sl Gate)) a2 a3 K hs hk⟩
  · exact h.elim
abbrev T76:Tabs:=Tabs.nil
theorem zMe:TabsOk Try.prog T76:=TabsOk.nil
abbrev G76:Ctrs:=csm T76 (fun _ _=>[]) (fun _=>false)
def zJk:Ann:=⟨11,[(0,zK [1,2] [2]),(1,zK [3] [])],
 [],
 [],
 [],[]⟩
abbrev R76:=Bool
abbrev e76 (r:R76):List PA:=[.one (.bool r)]
section
variable {K:List PA→Prop} {c0:Int} {l_a0:list}
def s76 (c0:Int) (l_a0:list):Bool :=
  ((l_a0.Gates.get 0).Z == c0)
def p76 (c0:Int) (l_a0:list):Bool :=
  (decide ((0≤(0:Int)∧(0:Int) < (l_a0.Gates.len:Int))) &&
 true)
end
theorem q76 (c0:Int) (l_a0:list) (K:List PA→Prop) (hs:p76 c0 l_a0=true) (hk:K (e76 (s76 c0 l_a0))):vcFun Try.prog G76 zJk 76 [.agg (zbW l_a0),.one (.fp (zal c0) 0)] K :=
  zaw (by kernel_rfl) (zau hs fun hc hs=>And.intro hc hk)
def zEw : List PA → COut
  | [.agg [.sl a0_Gates_n a0_Gates_s a0_Gates_g],.one (.fp [.int .i64 c0] 0)]=>.det (IsE enc_55 3 a0_Gates_s a0_Gates_g∧p76 c0 (⟨(⟨a0_Gates_n,zad a0_Gates_g⟩:(Sl Gate))⟩:list)=true) [.one (.bool (s76 c0 (⟨(⟨a0_Gates_n,zad a0_Gates_g⟩:(Sl Gate))⟩:list)))]
  | _=>.no
theorem zJl:zaf Try.prog 76:=⟨_,rfl,rfl,by kernel_rfl⟩
theorem zOZ:Ok Try.prog 76 zEw:=zay zMe zJl fun args K h=>by
  unfold zEw at h
  split at h
  · rename_i a0_Gates_n a0_Gates_s a0_Gates_g c0
    obtain ⟨⟨⟨rfl,a0_Gates_f,rfl⟩,hs⟩,hk⟩:=h
    try rw [zac a0_Gates_f] at hs
    try rw [zac a0_Gates_f] at hk
    exact ⟨(fun _ _=>[]),(fun _=>false),zJk,q76 c0 (⟨(⟨a0_Gates_n,a0_Gates_f⟩:(Sl Gate))⟩:list) K hs hk⟩
  · exact h.elim
abbrev T77:Tabs:=Tabs.nil
theorem zMf:TabsOk Try.prog T77:=TabsOk.nil
abbrev G77:Ctrs:=csm T77 (fun _ _=>[]) (fun _=>false)
def zJm:Ann:=⟨3,[(0,zK [] []),(1,zK [2] [])],
 [],
 [],
 [],[]⟩
abbrev R77:=Bool
abbrev e77 (r:R77):List PA:=[.one (.bool r)]
section
variable {K:List PA→Prop} {a0_a0:list}
def s77 (a0_a0:list):Bool :=
  false
end
theorem q77 (a0_a0:list) (K:List PA→Prop) (hk:K (e77 (s77 a0_a0))):vcFun Try.prog G77 zJm 77 [.agg (zbW a0_a0)] K :=
  zaw (by kernel_rfl) hk
def zEx : List PA → COut
  | [.agg [.sl a0_Gates_n a0_Gates_s a0_Gates_g]]=>.det (IsE enc_55 3 a0_Gates_s a0_Gates_g) [.one (.bool (s77 (⟨(⟨a0_Gates_n,zad a0_Gates_g⟩:(Sl Gate))⟩:list)))]
  | _=>.no
theorem zJn:zaf Try.prog 77:=⟨_,rfl,rfl,by kernel_rfl⟩
theorem zO0:Ok Try.prog 77 zEx:=zay zMf zJn fun args K h=>by
  unfold zEx at h
  split at h
  · rename_i a0_Gates_n a0_Gates_s a0_Gates_g
    obtain ⟨⟨rfl,a0_Gates_f,rfl⟩,hk⟩:=h
    try rw [zac a0_Gates_f] at hk
    exact ⟨(fun _ _=>[]),(fun _=>false),zJm,q77 (⟨(⟨a0_Gates_n,a0_Gates_f⟩:(Sl Gate))⟩:list) K hk⟩
  · exact h.elim
abbrev T88:Tabs:=Tabs.nil
theorem zMg:TabsOk Try.prog T88:=TabsOk.nil
abbrev G88:Ctrs:=csm T88 (fun _ _=>[]) (fun _=>false)
def zJo:Ann:=⟨3,[(0,zK [] []),(1,zK [2] [])],
 [],
 [],
 [],[]⟩
abbrev R88:=Bool
abbrev e88 (r:R88):List PA:=[.one (.bool r)]
section
variable {K:List PA→Prop} {a0_a0:list}
def s88 (a0_a0:list):Bool :=
  true
end
theorem q88 (a0_a0:list) (K:List PA→Prop) (hk:K (e88 (s88 a0_a0))):vcFun Try.prog G88 zJo 88 [.agg (zbW a0_a0)] K :=
  zaw (by kernel_rfl) hk
def zEy : List PA → COut
  | [.agg [.sl a0_Gates_n a0_Gates_s a0_Gates_g]]=>.det (IsE enc_55 3 a0_Gates_s a0_Gates_g) [.one (.bool (s88 (⟨(⟨a0_Gates_n,zad a0_Gates_g⟩:(Sl Gate))⟩:list)))]
  | _=>.no
theorem zJp:zaf Try.prog 88:=⟨_,rfl,rfl,by kernel_rfl⟩
theorem zO1:Ok Try.prog 88 zEy:=zay zMg zJp fun args K h=>by
  unfold zEy at h
  split at h
  · rename_i a0_Gates_n a0_Gates_s a0_Gates_g
    obtain ⟨⟨rfl,a0_Gates_f,rfl⟩,hk⟩:=h
    try rw [zac a0_Gates_f] at hk
    exact ⟨(fun _ _=>[]),(fun _=>false),zJo,q88 (⟨(⟨a0_Gates_n,a0_Gates_f⟩:(Sl Gate))⟩:list) K hk⟩
  · exact h.elim
abbrev T75:Tabs:=(((((((Tabs.nil.addF 64 ztC).addF 65 zvs).addF 66 zvv).addF 67 zoc).addF 76 zEw).addF 77 zEx).addF 88 zEy)
theorem zMh:TabsOk Try.prog T75:=(((((((TabsOk.nil.addF zK6).addF zLU).addF zLX).addF zHI).addF zOZ).addF zO0).addF zO1)
abbrev G75:Ctrs:=csm T75 (fun _ _=>[]) (fun _=>false)
def zEz:Ann:=⟨31,[(0,zK [0,1,4] [4]),(1,zK [0,1,4,9] [4]),(2,zK [4,5] [4]),(3,zK [1,4,6] [4,6]),(4,zK [1,4,6,13] [4,6]),(5,zK [4,5] [4]),(6,zK [4,6,18] [4,6]),(7,zK [4,5] [4]),(8,zK [4,5] [4])],
 [],
 [(3,zK [0,1,4] [4])],
 [],[]⟩
abbrev R75:=(set×Int)
abbrev e75 (r:R75):List PA:=[.agg [.sl r.1.list.Gates.len 3 (fun i=>enc_55 (r.1.list.Gates.get i)),.sl r.1.corners.len 3 (fun i=>zah (r.1.corners.get i))],.one (.int .i64 r.2)]
@[irreducible] def z75:=ptF Try.prog G75 zEz Try.f75
section
variable {K:List PA→Prop} {zaa:(Sl Gate)}
def zpS (zaa:(Sl Gate)):(set×Int) :=
  (cond (!(s66 (s65 zaa)))
 ((⟨(⟨(⟨0,fun _=>default⟩:(Sl Gate))⟩:list),(⟨0,fun _=>default⟩:(Sl straight))⟩:set),(5:Int))
 (cond (s67 ((s65 zaa).list))
 (cond (!(s77 ((s65 zaa).list)))
 ((⟨(⟨(⟨0,fun _=>default⟩:(Sl Gate))⟩:list),(⟨0,fun _=>default⟩:(Sl straight))⟩:set),(6:Int))
 ((s65 zaa),(0:Int)))
 ((s65 zaa),(0:Int))))
def zpT (zaa:(Sl Gate)):Bool :=
  (decide ((p65 zaa=true)) &&
 (decide ((p66 (s65 zaa)=true)) &&
 (cond (!(s66 (s65 zaa)))
 true
 (decide ((p67 ((s65 zaa).list)=true)) &&
 true))))
theorem zEA (hs:zpT zaa=true) (hk:K (e75 (zpS zaa))):z75 (Wk K) [1,1] [] ⟨[(0,zS enc_55 3 zaa),(1,zP (.fn 77 [] [])),(4,zp 4 0)],[(4,.box 104 [.p (.nils),.p (.nils)])],[]⟩:=zaw (by kernel_rfl) (zau hs fun hc hs=>And.intro (And.intro (zE enc_55 3 zaa.get) hc) (zau hs fun hc hs=>And.intro (And.intro (zE enc_55 3 ((s65 zaa).list.Gates.get)) (And.intro (zE zah 3 ((s65 zaa).corners.get)) hc)) (zc hs hk (fun hs hk=>((wk hk (zc5 (.agg (zc5 (.nil _ _) (zc5 (.nil _ _) zhr))) (zc5 (.one (.rfl _)) zhr))):Wk K [.agg [.nils,.nils],.one (.int .i64 (5:Int))])) (fun hs hk=>(zau hs fun hc hs=>And.intro (And.intro (zE enc_55 3 ((s65 zaa).list.Gates.get)) hc) (zt hk (fun hk=>(And.intro (zE enc_55 3 ((s65 zaa).list.Gates.get)) (zt hk (fun hk=>((wk hk (zc5 (.agg (zc5 (.nil _ _) (zc5 (.nil _ _) zhr))) (zc5 (.one (.rfl _)) zhr))):Wk K [.agg [.nils,.nils],.one (.int .i64 (6:Int))])) (fun hk=>((zed hk):Wk K [.agg [.sl ((s65 zaa).list.Gates.len) 3 (fun i=>enc_55 ((s65 zaa).list.Gates.get i)),.sl ((s65 zaa).corners.len) 3 (fun i=>zah ((s65 zaa).corners.get i))],.one (.int .i64 (0:Int))]))))) (fun hk=>((zed hk):Wk K [.agg [.sl ((s65 zaa).list.Gates.len) 3 (fun i=>enc_55 ((s65 zaa).list.Gates.get i)),.sl ((s65 zaa).corners.len) 3 (fun i=>zah ((s65 zaa).corners.get i))],.one (.int .i64 (0:Int))]))))))))
def s75 (zaa:(Sl Gate)):(set×Int) :=
  (cond (!(s64 zaa))
 ((⟨(⟨(⟨0,fun _=>default⟩:(Sl Gate))⟩:list),(⟨0,fun _=>default⟩:(Sl straight))⟩:set),(2:Int))
 (zpS zaa))
def p75 (zaa:(Sl Gate)):Bool :=
  (decide ((p64 zaa=true)) &&
 (cond (!(s64 zaa))
 true
 (zpT zaa)))
end
theorem q75 (zaa:(Sl Gate)) (K:List PA→Prop) (hs:p75 zaa=true) (hk:K (e75 (s75 zaa))):vcFun Try.prog G75 zEz 75 [.one (.sl zaa.len 3 (fun i=>enc_55 (zaa.get i))),.one (.fn 77 [] [])] (Wk K) :=
  zaw (by kernel_rfl) (zau hs fun hc hs=>And.intro (And.intro (zE enc_55 3 zaa.get) hc) (zc hs hk (fun hs hk=>((wk hk (zc5 (.agg (zc5 (.nil _ _) (zc5 (.nil _ _) zhr))) (zc5 (.one (.rfl _)) zhr))):Wk K [.agg [.nils,.nils],.one (.int .i64 (2:Int))])) (fun hs hk=>(zEA hs hk))))
abbrev zNB:Ctrs:=csm T75 (fun _ _=>[]) (fun _=>false)
def zwd:Ann:=⟨31,[(0,zK [0,1,4] [4]),(1,zK [0,1,4,9] [4]),(2,zK [4,5] [4]),(3,zK [1,4,6] [4,6]),(4,zK [1,4,6,13] [4,6]),(5,zK [4,5] [4]),(6,zK [4,6,18] [4,6]),(7,zK [4,5] [4]),(8,zK [4,5] [4])],
 [],
 [(3,zK [0,1,4] [4])],
 [],[]⟩
abbrev zO2:=(set×Int)
abbrev zNC (r:zO2):List PA:=[.agg [.sl r.1.list.Gates.len 3 (fun i=>enc_55 (r.1.list.Gates.get i)),.sl r.1.corners.len 3 (fun i=>zah (r.1.corners.get i))],.one (.int .i64 r.2)]
@[irreducible] def z75a:=ptF Try.prog zNB zwd Try.f75
section
variable {K:List PA→Prop} {c0:Int} {zaa:(Sl Gate)}
def zmh (c0:Int) (zaa:(Sl Gate)):(set×Int) :=
  (cond (!(s66 (s65 zaa)))
 ((⟨(⟨(⟨0,fun _=>default⟩:(Sl Gate))⟩:list),(⟨0,fun _=>default⟩:(Sl straight))⟩:set),(5:Int))
 (cond (s67 ((s65 zaa).list))
 (cond (!(s76 c0 ((s65 zaa).list)))
 ((⟨(⟨(⟨0,fun _=>default⟩:(Sl Gate))⟩:list),(⟨0,fun _=>default⟩:(Sl straight))⟩:set),(6:Int))
 ((s65 zaa),(0:Int)))
 ((s65 zaa),(0:Int))))
def zmi (c0:Int) (zaa:(Sl Gate)):Bool :=
  (decide ((p65 zaa=true)) &&
 (decide ((p66 (s65 zaa)=true)) &&
 (cond (!(s66 (s65 zaa)))
 true
 (decide ((p67 ((s65 zaa).list)=true)) &&
 (cond (s67 ((s65 zaa).list))
 (decide ((p76 c0 ((s65 zaa).list)=true)) &&
 true)
 true)))))
theorem zBg (hs:zmi c0 zaa=true) (hk:K (zNC (zmh c0 zaa))):z75a (Wk K) [1,1] [] ⟨[(0,zS enc_55 3 zaa),(1,zP (.fn 76 [] [.fp (zal c0) 0])),(4,zp 4 0)],[(4,.box 104 [.p (.nils),.p (.nils)])],[]⟩:=zaw (by kernel_rfl) (zau hs fun hc hs=>And.intro (And.intro (zE enc_55 3 zaa.get) hc) (zau hs fun hc hs=>And.intro (And.intro (zE enc_55 3 ((s65 zaa).list.Gates.get)) (And.intro (zE zah 3 ((s65 zaa).corners.get)) hc)) (zc hs hk (fun hs hk=>((wk hk (zc5 (.agg (zc5 (.nil _ _) (zc5 (.nil _ _) zhr))) (zc5 (.one (.rfl _)) zhr))):Wk K [.agg [.nils,.nils],.one (.int .i64 (5:Int))])) (fun hs hk=>(zau hs fun hc hs=>And.intro (And.intro (zE enc_55 3 ((s65 zaa).list.Gates.get)) hc) (zc hs hk (fun hs hk=>(zau hs fun hc hs=>And.intro (And.intro (zE enc_55 3 ((s65 zaa).list.Gates.get)) hc) (zt hk (fun hk=>((wk hk (zc5 (.agg (zc5 (.nil _ _) (zc5 (.nil _ _) zhr))) (zc5 (.one (.rfl _)) zhr))):Wk K [.agg [.nils,.nils],.one (.int .i64 (6:Int))])) (fun hk=>((zed hk):Wk K [.agg [.sl ((s65 zaa).list.Gates.len) 3 (fun i=>enc_55 ((s65 zaa).list.Gates.get i)),.sl ((s65 zaa).corners.len) 3 (fun i=>zah ((s65 zaa).corners.get i))],.one (.int .i64 (0:Int))]))))) (fun hs hk=>((zed hk):Wk K [.agg [.sl ((s65 zaa).list.Gates.len) 3 (fun i=>enc_55 ((s65 zaa).list.Gates.get i)),.sl ((s65 zaa).corners.len) 3 (fun i=>zah ((s65 zaa).corners.get i))],.one (.int .i64 (0:Int))]))))))))
def zoD (c0:Int) (zaa:(Sl Gate)):(set×Int) :=
  (cond (!(s64 zaa))
 ((⟨(⟨(⟨0,fun _=>default⟩:(Sl Gate))⟩:list),(⟨0,fun _=>default⟩:(Sl straight))⟩:set),(2:Int))
 (zmh c0 zaa))
def zEB (c0:Int) (zaa:(Sl Gate)):Bool :=
  (decide ((p64 zaa=true)) &&
 (cond (!(s64 zaa))
 true
 (zmi c0 zaa)))
end
theorem zO3 (c0:Int) (zaa:(Sl Gate)) (K:List PA→Prop) (hs:zEB c0 zaa=true) (hk:K (zNC (zoD c0 zaa))):vcFun Try.prog zNB zwd 75 [.one (.sl zaa.len 3 (fun i=>enc_55 (zaa.get i))),.one (.fn 76 [] [.fp (zal c0) 0])] (Wk K) :=
  zaw (by kernel_rfl) (zau hs fun hc hs=>And.intro (And.intro (zE enc_55 3 zaa.get) hc) (zc hs hk (fun hs hk=>((wk hk (zc5 (.agg (zc5 (.nil _ _) (zc5 (.nil _ _) zhr))) (zc5 (.one (.rfl _)) zhr))):Wk K [.agg [.nils,.nils],.one (.int .i64 (2:Int))])) (fun hs hk=>(zBg hs hk))))
abbrev zND:Ctrs:=csm T75 (fun _ _=>[]) (fun _=>false)
def zwe:Ann:=⟨31,[(0,zK [0,1,4] [4]),(1,zK [0,1,4,9] [4]),(2,zK [4,5] [4]),(3,zK [1,4,6] [4,6]),(4,zK [1,4,6,13] [4,6]),(5,zK [4,5] [4]),(6,zK [4,6,18] [4,6]),(7,zK [4,5] [4]),(8,zK [4,5] [4])],
 [],
 [(3,zK [0,1,4] [4])],
 [],[]⟩
abbrev zO4:=(set×Int)
abbrev zNE (r:zO4):List PA:=[.agg [.sl r.1.list.Gates.len 3 (fun i=>enc_55 (r.1.list.Gates.get i)),.sl r.1.corners.len 3 (fun i=>zah (r.1.corners.get i))],.one (.int .i64 r.2)]
@[irreducible] def z75b:=ptF Try.prog zND zwe Try.f75
section
variable {K:List PA→Prop} {zaa:(Sl Gate)}
def zmj (zaa:(Sl Gate)):(set×Int) :=
  (cond (!(s66 (s65 zaa)))
 ((⟨(⟨(⟨0,fun _=>default⟩:(Sl Gate))⟩:list),(⟨0,fun _=>default⟩:(Sl straight))⟩:set),(5:Int))
 (cond (s67 ((s65 zaa).list))
 (cond (!(s88 ((s65 zaa).list)))
 ((⟨(⟨(⟨0,fun _=>default⟩:(Sl Gate))⟩:list),(⟨0,fun _=>default⟩:(Sl straight))⟩:set),(6:Int))
 ((s65 zaa),(0:Int)))
 ((s65 zaa),(0:Int))))
def zmk (zaa:(Sl Gate)):Bool :=
  (decide ((p65 zaa=true)) &&
 (decide ((p66 (s65 zaa)=true)) &&
 (cond (!(s66 (s65 zaa)))
 true
 (decide ((p67 ((s65 zaa).list)=true)) &&
 true))))
theorem zBh (hs:zmk zaa=true) (hk:K (zNE (zmj zaa))):z75b (Wk K) [1,1] [] ⟨[(0,zS enc_55 3 zaa),(1,zP (.fn 88 [] [])),(4,zp 4 0)],[(4,.box 104 [.p (.nils),.p (.nils)])],[]⟩:=zaw (by kernel_rfl) (zau hs fun hc hs=>And.intro (And.intro (zE enc_55 3 zaa.get) hc) (zau hs fun hc hs=>And.intro (And.intro (zE enc_55 3 ((s65 zaa).list.Gates.get)) (And.intro (zE zah 3 ((s65 zaa).corners.get)) hc)) (zc hs hk (fun hs hk=>((wk hk (zc5 (.agg (zc5 (.nil _ _) (zc5 (.nil _ _) zhr))) (zc5 (.one (.rfl _)) zhr))):Wk K [.agg [.nils,.nils],.one (.int .i64 (5:Int))])) (fun hs hk=>(zau hs fun hc hs=>And.intro (And.intro (zE enc_55 3 ((s65 zaa).list.Gates.get)) hc) (zt hk (fun hk=>(And.intro (zE enc_55 3 ((s65 zaa).list.Gates.get)) (zt hk (fun hk=>((wk hk (zc5 (.agg (zc5 (.nil _ _) (zc5 (.nil _ _) zhr))) (zc5 (.one (.rfl _)) zhr))):Wk K [.agg [.nils,.nils],.one (.int .i64 (6:Int))])) (fun hk=>((zed hk):Wk K [.agg [.sl ((s65 zaa).list.Gates.len) 3 (fun i=>enc_55 ((s65 zaa).list.Gates.get i)),.sl ((s65 zaa).corners.len) 3 (fun i=>zah ((s65 zaa).corners.get i))],.one (.int .i64 (0:Int))]))))) (fun hk=>((zed hk):Wk K [.agg [.sl ((s65 zaa).list.Gates.len) 3 (fun i=>enc_55 ((s65 zaa).list.Gates.get i)),.sl ((s65 zaa).corners.len) 3 (fun i=>zah ((s65 zaa).corners.get i))],.one (.int .i64 (0:Int))]))))))))
def zoE (zaa:(Sl Gate)):(set×Int) :=
  (cond (!(s64 zaa))
 ((⟨(⟨(⟨0,fun _=>default⟩:(Sl Gate))⟩:list),(⟨0,fun _=>default⟩:(Sl straight))⟩:set),(2:Int))
 (zmj zaa))
def zEC (zaa:(Sl Gate)):Bool :=
  (decide ((p64 zaa=true)) &&
 (cond (!(s64 zaa))
 true
 (zmk zaa)))
end
theorem zO5 (zaa:(Sl Gate)) (K:List PA→Prop) (hs:zEC zaa=true) (hk:K (zNE (zoE zaa))):vcFun Try.prog zND zwe 75 [.one (.sl zaa.len 3 (fun i=>enc_55 (zaa.get i))),.one (.fn 88 [] [])] (Wk K) :=
  zaw (by kernel_rfl) (zau hs fun hc hs=>And.intro (And.intro (zE enc_55 3 zaa.get) hc) (zc hs hk (fun hs hk=>((wk hk (zc5 (.agg (zc5 (.nil _ _) (zc5 (.nil _ _) zhr))) (zc5 (.one (.rfl _)) zhr))):Wk K [.agg [.nils,.nils],.one (.int .i64 (2:Int))])) (fun hs hk=>(zBh hs hk))))
def ztG : List PA → COut
  | [.one (.sl a0_n a0_s a0_g),.one (.fn 77 [] [])]=>.det (IsE enc_55 3 a0_s a0_g∧p75 (⟨a0_n,zad a0_g⟩:(Sl Gate))=true) [.agg [.sl (((s75 (⟨a0_n,zad a0_g⟩:(Sl Gate))).1).list.Gates.len) 3 (fun i=>enc_55 (((s75 (⟨a0_n,zad a0_g⟩:(Sl Gate))).1).list.Gates.get i)),.sl (((s75 (⟨a0_n,zad a0_g⟩:(Sl Gate))).1).corners.len) 3 (fun i=>zah (((s75 (⟨a0_n,zad a0_g⟩:(Sl Gate))).1).corners.get i))],.one (.int .i64 ((s75 (⟨a0_n,zad a0_g⟩:(Sl Gate))).2))]
  | [.one (.sl a0_n a0_s a0_g),.one (.fn 76 [] [.fp [.int .i64 c0] 0])]=>.det (IsE enc_55 3 a0_s a0_g∧zEB c0 (⟨a0_n,zad a0_g⟩:(Sl Gate))=true) [.agg [.sl (((zoD c0 (⟨a0_n,zad a0_g⟩:(Sl Gate))).1).list.Gates.len) 3 (fun i=>enc_55 (((zoD c0 (⟨a0_n,zad a0_g⟩:(Sl Gate))).1).list.Gates.get i)),.sl (((zoD c0 (⟨a0_n,zad a0_g⟩:(Sl Gate))).1).corners.len) 3 (fun i=>zah (((zoD c0 (⟨a0_n,zad a0_g⟩:(Sl Gate))).1).corners.get i))],.one (.int .i64 ((zoD c0 (⟨a0_n,zad a0_g⟩:(Sl Gate))).2))]
  | [.one (.sl a0_n a0_s a0_g),.one (.fn 88 [] [])]=>.det (IsE enc_55 3 a0_s a0_g∧zEC (⟨a0_n,zad a0_g⟩:(Sl Gate))=true) [.agg [.sl (((zoE (⟨a0_n,zad a0_g⟩:(Sl Gate))).1).list.Gates.len) 3 (fun i=>enc_55 (((zoE (⟨a0_n,zad a0_g⟩:(Sl Gate))).1).list.Gates.get i)),.sl (((zoE (⟨a0_n,zad a0_g⟩:(Sl Gate))).1).corners.len) 3 (fun i=>zah (((zoE (⟨a0_n,zad a0_g⟩:(Sl Gate))).1).corners.get i))],.one (.int .i64 ((zoE (⟨a0_n,zad a0_g⟩:(Sl Gate))).2))]
  | _=>.no
theorem zJq:zaf Try.prog 75:=⟨_,rfl,rfl,by kernel_rfl⟩
theorem zMi:Ok Try.prog 75 ztG:=zhs zMh zJq fun args K h=>by
  unfold ztG at h
  split at h
  · rename_i a0_n a0_s a0_g
    obtain ⟨⟨⟨rfl,a0_f,rfl⟩,hs⟩,hk⟩:=h
    try rw [zac a0_f] at hs
    try rw [zac a0_f] at hk
    exact ⟨_,ze6 zf5 _,(fun _ _=>[]),(fun _=>false),zEz,q75 (⟨a0_n,a0_f⟩:(Sl Gate)) K hs hk⟩
  · rename_i a0_n a0_s a0_g c0
    obtain ⟨⟨⟨rfl,a0_f,rfl⟩,hs⟩,hk⟩:=h
    try rw [zac a0_f] at hs
    try rw [zac a0_f] at hk
    exact ⟨_,ze6 zf5 _,(fun _ _=>[]),(fun _=>false),zwd,zO3 c0 (⟨a0_n,a0_f⟩:(Sl Gate)) K hs hk⟩
  · rename_i a0_n a0_s a0_g
    obtain ⟨⟨⟨rfl,a0_f,rfl⟩,hs⟩,hk⟩:=h
    try rw [zac a0_f] at hs
    try rw [zac a0_f] at hk
    exact ⟨_,ze6 zf5 _,(fun _ _=>[]),(fun _=>false),zwe,zO5 (⟨a0_n,a0_f⟩:(Sl Gate)) K hs hk⟩
  · exact h.elim
abbrev T30:Tabs:=(((Tabs.nil.addF 68 zvN).addF 74 zpk).addF 75 ztG)
theorem zMj:TabsOk Try.prog T30:=(((TabsOk.nil.addF zMc).addF zIs).addF zMi)
abbrev G30:Ctrs:=csm T30 (fun _ _=>[]) (fun _=>false)
def zED:Ann:=⟨35,[(0,zK [0,3,4,5] [3,4,5]),(1,zK [0,3,4,5,13] [3,4,5]),(2,zK [4,5,6] [4,5]),(3,zK [3,4,5,7,8] [3,4,5,7]),(4,zK [3,4,5,7,8,23] [3,4,5,7]),(5,zK [4,5,6] [4,5]),(6,zK [4,5,9,10] [4,5,9,10]),(7,zK [4,5,6] [4,5])],
 [],
 [(2,zK [0,3,4,5,13] [3,4,5]),(3,zK [0,3,4,5] [3,4,5]),(4,zK [3,4,5,7,8] [3,4,5,7]),(6,zK [3,4,5,7] [3,4,5,7]),(7,zK [4,5,9,10] [4,5,9,10])],
 [],[]⟩
abbrev R30:=(Frac×Frac×Int)
abbrev e30 (r:R30):List PA:=[.agg [.int .i64 r.1.Num,.int .i64 r.1.Den],.agg [.int .i64 r.2.1.Num,.int .i64 r.2.1.Den],.one (.int .i64 r.2.2)]
@[irreducible] def z30:=ptF Try.prog G30 zED Try.f30
section
variable {K:List PA→Prop} {zaa:(Sl Gate)} {z:Int} {zpU:Bool} {ev2:Int} {zfi:(Sl Gate)} {zfj:(Sl straight)} {zj5:Nat→List PV} {zj6:Nat→List PV} {zcv:(Sl Gate)} {zdH:(Sl straight)} {zj7:Nat→List PV} {zj8:Nat→List PV} {zml:Int} {zmm:Int} {ziZ:Int} {zi0:Int}
def zwf (zml:Int) (zmm:Int) (ziZ:Int) (zi0:Int):(Frac×Frac×Int) :=
  ((⟨zml,zmm⟩:Frac),(⟨ziZ,zi0⟩:Frac),(0:Int))
theorem zEE (hk:K (e30 (zwf zml zmm ziZ zi0))):z30 K [1,1,1,1,1] [] ⟨[(4,zp 4 0),(5,zp 5 0),(9,zp 9 0),(10,zp 10 0)],[(4,.box 25 (zm (zae (⟨(0:Int),(0:Int)⟩:Frac)))),(5,.box 25 (zm (zae (⟨(0:Int),(0:Int)⟩:Frac)))),(9,.box 25 (zm (zae (⟨zml,zmm⟩:Frac)))),(10,.box 25 (zm (zae (⟨ziZ,zi0⟩:Frac))))],[]⟩:=zaw (by kernel_rfl) hk
def zwg (z:Int) (zcv:(Sl Gate)) (zdH:(Sl straight)):(Frac×Frac×Int) :=
  (zwf (((s68 (⟨(⟨zcv⟩:list),zdH⟩:set) z).1).Num) (((s68 (⟨(⟨zcv⟩:list),zdH⟩:set) z).1).Den) (((s68 (⟨(⟨zcv⟩:list),zdH⟩:set) z).2).Num) (((s68 (⟨(⟨zcv⟩:list),zdH⟩:set) z).2).Den))
def zwh (z:Int) (zcv:(Sl Gate)) (zdH:(Sl straight)):Bool :=
  (decide ((p68 (⟨(⟨zcv⟩:list),zdH⟩:set) z=true)) &&
 true)
theorem zEF (hs:zwh z zcv zdH=true) (hk:K (e30 (zwg z zcv zdH))) (zpV:zj7=zg enc_55 zcv) (zpW:zj8=zg zah zdH):z30 K [1,1,1,1] [] ⟨[(3,zp 3 0),(4,zp 4 0),(5,zp 5 0),(7,zp 7 0)],[(3,.fbox [.int .i64 z]),(4,.box 25 (zm (zae (⟨(0:Int),(0:Int)⟩:Frac)))),(5,.box 25 (zm (zae (⟨(0:Int),(0:Int)⟩:Frac)))),(7,.box 104 [.p (.sl zcv.len 3 zj7),.p (.sl zdH.len 3 zj8)])],[]⟩:=by subst zpV;subst zpW;exact zaw (by kernel_rfl) (zau hs fun hc hs=>And.intro (And.intro (zE enc_55 3 zcv.get) (And.intro (zE zah 3 zdH.get) hc)) (zEE hk))
def zwi (z:Int) (ev2:Int) (zfi:(Sl Gate)) (zfj:(Sl straight)):(Frac×Frac×Int) :=
  (cond (ev2 != (0:Int))
 ((⟨(0:Int),(0:Int)⟩:Frac),(⟨(0:Int),(0:Int)⟩:Frac),ev2)
 (zwg z zfi zfj))
def zwj (z:Int) (ev2:Int) (zfi:(Sl Gate)) (zfj:(Sl straight)):Bool :=
  (cond (ev2 != (0:Int))
 true
 (zwh z zfi zfj))
theorem zEG (hs:zwj z ev2 zfi zfj=true) (hk:K (e30 (zwi z ev2 zfi zfj))) (zpX:zj5=zg enc_55 zfi) (zpY:zj6=zg zah zfj):z30 K [1,1,1] [] ⟨[(3,zp 3 0),(4,zp 4 0),(5,zp 5 0),(7,zp 7 0),(8,zI ev2)],[(3,.fbox [.int .i64 z]),(4,.box 25 (zm (zae (⟨(0:Int),(0:Int)⟩:Frac)))),(5,.box 25 (zm (zae (⟨(0:Int),(0:Int)⟩:Frac)))),(7,.box 104 [.p (.sl zfi.len 3 zj5),.p (.sl zfj.len 3 zj6)])],[]⟩:=by subst zpX;subst zpY;exact zaw (by kernel_rfl) (zc hs hk (fun hs hk=>hk) (fun hs hk=>(zEF hs hk rfl rfl)))
def zwk (zaa:(Sl Gate)) (z:Int):(Frac×Frac×Int) :=
  (zwi z ((zoD z zaa).2) (((zoD z zaa).1).list.Gates) (((zoD z zaa).1).corners))
def zwl (zaa:(Sl Gate)) (z:Int):Bool :=
  (decide ((zEB z zaa=true)) &&
 (zwj z ((zoD z zaa).2) (((zoD z zaa).1).list.Gates) (((zoD z zaa).1).corners)))
theorem zEH (hs:zwl zaa z=true) (hk:K (e30 (zwk zaa z))):z30 K [1,1] [] ⟨[(0,zS enc_55 3 zaa),(3,zp 3 0),(4,zp 4 0),(5,zp 5 0)],[(3,.box 3 [zi z]),(4,.box 25 (zm (zae (⟨(0:Int),(0:Int)⟩:Frac)))),(5,.box 25 (zm (zae (⟨(0:Int),(0:Int)⟩:Frac))))],[]⟩:=zaw (by kernel_rfl) (zau hs fun hc hs=>And.intro (And.intro (zE enc_55 3 zaa.get) hc) (zEG hs hk rfl rfl))
def zwm (zaa:(Sl Gate)) (z:Int) (zpU:Bool):(Frac×Frac×Int) :=
  (cond zpU
 ((⟨(0:Int),(0:Int)⟩:Frac),(⟨(0:Int),(0:Int)⟩:Frac),(2:Int))
 (zwk zaa z))
def zwn (zaa:(Sl Gate)) (z:Int) (zpU:Bool):Bool :=
  (cond zpU
 true
 (zwl zaa z))
theorem zEI (hs:zwn zaa z zpU=true) (hk:K (e30 (zwm zaa z zpU))):z30 K [1,0,1] [] ⟨[(0,zS enc_55 3 zaa),(3,zp 3 0),(4,zp 4 0),(5,zp 5 0),(13,zB zpU)],[(3,.box 3 [zi z]),(4,.box 25 (zm (zae (⟨(0:Int),(0:Int)⟩:Frac)))),(5,.box 25 (zm (zae (⟨(0:Int),(0:Int)⟩:Frac))))],[]⟩:=zaw (by kernel_rfl) (zc hs hk (fun hs hk=>hk) (fun hs hk=>(zEH hs hk)))
def s30 (zaa:(Sl Gate)) (z:Int):(Frac×Frac×Int) :=
  (zwm zaa z (!(s74 z (-100000:Int) (200000:Int))))
def p30 (zaa:(Sl Gate)) (z:Int):Bool :=
  (zwn zaa z (!(s74 z (-100000:Int) (200000:Int))))
end
theorem q30 (zaa:(Sl Gate)) (z:Int) (K:List PA→Prop) (hs:p30 zaa z=true) (hk:K (e30 (s30 zaa z))):vcFun Try.prog G30 zED 30 [.one (.sl zaa.len 3 (fun i=>enc_55 (zaa.get i))),.one (.int .i64 z)] K :=
  zaw (by kernel_rfl) (zEI hs hk)
def zEJ : List PA → COut
  | [.one (.sl a0_n a0_s a0_g),.one (.int .i64 a1)]=>.det (IsE enc_55 3 a0_s a0_g∧p30 (⟨a0_n,zad a0_g⟩:(Sl Gate)) a1=true) [.agg [.int .i64 (((s30 (⟨a0_n,zad a0_g⟩:(Sl Gate)) a1).1).Num),.int .i64 (((s30 (⟨a0_n,zad a0_g⟩:(Sl Gate)) a1).1).Den)],.agg [.int .i64 (((s30 (⟨a0_n,zad a0_g⟩:(Sl Gate)) a1).2.1).Num),.int .i64 (((s30 (⟨a0_n,zad a0_g⟩:(Sl Gate)) a1).2.1).Den)],.one (.int .i64 ((s30 (⟨a0_n,zad a0_g⟩:(Sl Gate)) a1).2.2))]
  | _=>.no
theorem zJr:zaf Try.prog 30:=⟨_,rfl,rfl,by kernel_rfl⟩
theorem zO6:Ok Try.prog 30 zEJ:=zay zMj zJr fun args K h=>by
  unfold zEJ at h
  split at h
  · rename_i a0_n a0_s a0_g a1
    obtain ⟨⟨⟨rfl,a0_f,rfl⟩,hs⟩,hk⟩:=h
    try rw [zac a0_f] at hs
    try rw [zac a0_f] at hk
    exact ⟨(fun _ _=>[]),(fun _=>false),zED,q30 (⟨a0_n,a0_f⟩:(Sl Gate)) a1 K hs hk⟩
  · exact h.elim
abbrev zNF:Tabs:=Tabs.nil
theorem zJs:TabsOk Try.prog zNF:=TabsOk.nil
abbrev zNG:Ctrs:=csm zNF (fun _ _=>[]) (fun _=>false)
def zwo:Ann:=⟨8,[(0,⟨[0],[],[],[],[],[],[]⟩),(1,⟨[0,4],[],[],[],[],[],[]⟩),(2,⟨[2],[],[],[],[],[],[]⟩),(3,⟨[2],[5],[],[],[],[],[]⟩)],
 [],
 [],
 [],[]⟩
theorem zBi (n : Nat) (get : Nat → List PV) : zuR Try.prog zNG zwo 105 [.one (.sl n 3 get)] 118 3 24 n get =
  ((True)∧(∃ r1:Bool,(n ≠ 0→r1=false))∧∀ r1:Bool,(n ≠ 0→r1=false) →
 (zcW r1
 (True∧n=0)
 ((((0+n) * 24≤140737488355328∧0+n≤9223372036854775807)) ∧
 (True∧118=118∧3=3∧24=24∧(0+n)=n∧∀ i,i < n→(appG 0 (zdg []) get) i=get i)))):=by kernel_rfl
abbrev zCl:OwnK:=.clone 118 3 24
theorem zEK:zaf Try.prog 105:=⟨_,rfl,rfl,by kernel_rfl⟩
theorem zMk:zlw Try.prog 105 zCl:=zuU zJs zEK fun n get h1 h2=>by
  refine ⟨fun _ _=>[],fun _=>false,zwo,?_⟩
  show zuR Try.prog zNG zwo 105 _ _ _ _ _ _
  rw [zBi]
  refine ⟨trivial,⟨decide (n=0),fun h=>decide_eq_false h⟩,fun r1 hr=>?_⟩
  cases r1
  · refine ⟨⟨by omega,by omega⟩,trivial,rfl,rfl,rfl,Nat.zero_add n,fun i _=>rfl⟩
  · exact ⟨trivial,Classical.byContradiction fun h=>by simpa using hr h⟩
abbrev zCm:OwnK:=.sort 118 3 24
theorem zMl:zlw Try.prog 106 zCm:=zu1 Try.laysS106 rfl rfl rfl (fun h=>h) ⟨_,rfl,rfl,by kernel_rfl⟩
abbrev zNH:Tabs:=(Tabs.nil.addF 99 zvk)
theorem zJt:TabsOk Try.prog zNH:=(TabsOk.nil.addF zLJ)
abbrev zO7:Ctrs:=csm zNH (fun _ _=>[]) (fun _=>false)
def zCn:Ann:=⟨10,[(0,zK [2,3] [2,3]),(1,zK [4] [])],
 [],
 [],
 [],[]⟩
abbrev zO8:=Bool
abbrev e108 (r:zO8):List PA:=[.one (.bool r)]
section
variable {K:List PA→Prop} {s:set} {x:straight}
def zCo (s:set) (x:straight):Bool :=
  (zLH x s.list.Gates)
def zLe (s:set) (x:straight):Bool :=
  (decide ((zLI x s.list.Gates=true)) &&
 true)
end
theorem zO9 (s:set) (x:straight) (K:List PA→Prop) (hs:zLe s x=true) (hk:K (e108 (zCo s x))):vcFun Try.prog zO7 zCn 108 [.agg (zaV s),.agg (zah x)] K :=
  zaw (by kernel_rfl) (zau hs fun hc hs=>And.intro (And.intro (zE enc_55 3 s.list.Gates.get) hc) hk)
def zwp : List PA → COut
  | [.agg [.sl a0_list_Gates_n a0_list_Gates_s a0_list_Gates_g,.sl a0_corners_n a0_corners_s a0_corners_g],.agg [.int .i64 a1_slope,.int .i64 a1_start,.int .i64 a1_den]]=>.det (IsE enc_55 3 a0_list_Gates_s a0_list_Gates_g∧IsE zah 3 a0_corners_s a0_corners_g∧zLe (⟨(⟨(⟨a0_list_Gates_n,zad a0_list_Gates_g⟩:(Sl Gate))⟩:list),(⟨a0_corners_n,zaR a0_corners_g⟩:(Sl straight))⟩:set) (⟨a1_slope,a1_start,a1_den⟩:straight)=true) [.one (.bool (zCo (⟨(⟨(⟨a0_list_Gates_n,zad a0_list_Gates_g⟩:(Sl Gate))⟩:list),(⟨a0_corners_n,zaR a0_corners_g⟩:(Sl straight))⟩:set) (⟨a1_slope,a1_start,a1_den⟩:straight)))]
  | _=>.no
theorem zEL:zaf Try.prog 108:=⟨_,rfl,rfl,by kernel_rfl⟩
theorem zMm:Ok Try.prog 108 zwp:=zay zJt zEL fun args K h=>by
  unfold zwp at h
  split at h
  · rename_i a0_list_Gates_n a0_list_Gates_s a0_list_Gates_g a0_corners_n a0_corners_s a0_corners_g a1_slope a1_start a1_den
    obtain ⟨⟨⟨rfl,a0_list_Gates_f,rfl⟩,⟨rfl,a0_corners_f,rfl⟩,hs⟩,hk⟩:=h
    try rw [zac a0_list_Gates_f] at hs
    try rw [zac a0_list_Gates_f] at hk
    try rw [zaM a0_corners_f] at hs
    try rw [zaM a0_corners_f] at hk
    exact ⟨(fun _ _=>[]),(fun _=>false),zCn,zO9 (⟨(⟨(⟨a0_list_Gates_n,a0_list_Gates_f⟩:(Sl Gate))⟩:list),(⟨a0_corners_n,a0_corners_f⟩:(Sl straight))⟩:set) (⟨a1_slope,a1_start,a1_den⟩:straight) K hs hk⟩
  · exact h.elim
abbrev zNI:Tabs:=(((Tabs.nil.addF 69 zpy).addF 89 zps).addF 108 zwp)
theorem zJu:TabsOk Try.prog zNI:=(((TabsOk.nil.addF zI4).addF zIM).addF zMm)
abbrev zPa:Ctrs:=csm zNI (fun _ _=>[]) (fun _=>false)
def zCp:Ann:=⟨38,[(0,zK [2,3,4] [3,4]),(1,zK [3,4,6,7] [3,4]),(2,zK [6,7,8] []),(3,zK [6,7,8,26] []),(4,zK [5] []),(5,zK [7,8,32] []),(6,zK [5] []),(7,zK [8,34] []),(8,zK [5] []),(9,zK [5] [])],
 [],
 [],
 [],[]⟩
abbrev zPb:=Int
abbrev zPc (r:zPb):List PA:=[.one (.int .i64 r)]
section
variable {K:List PA→Prop} {c0:set} {a:straight} {b:straight}
def zLf (c0:set) (a:straight) (b:straight):Int :=
  (cond (zCo c0 a)
 (cond (zCo c0 b)
 (s69 (s89 a.slope a.den) (s89 b.slope b.den))
 (cond (zCo c0 a)
 (-1:Int)
 (cond (zCo c0 b)
 (1:Int)
 (w64 (0 - (s69 (s89 a.slope a.den) (s89 b.slope b.den)))))))
 (cond (zCo c0 a)
 (-1:Int)
 (cond (zCo c0 b)
 (1:Int)
 (w64 (0 - (s69 (s89 a.slope a.den) (s89 b.slope b.den)))))))
def zLg (c0:set) (a:straight) (b:straight):Bool :=
  (decide ((zLe c0 a=true)) &&
 (decide ((zLe c0 b=true)) &&
 (decide ((p89 a.slope a.den=true)) &&
 (decide ((p89 b.slope b.den=true)) &&
 true))))
end
theorem zPd (c0:set) (a:straight) (b:straight) (K:List PA→Prop) (hs:zLg c0 a b=true) (hk:K (zPc (zLf c0 a b))):vcFun Try.prog zPa zCp 107 [.agg (zah a),.agg (zah b),.one (.fp (zaV c0) 0)] K :=
  zaw (by kernel_rfl) (zau hs fun hc hs=>And.intro (And.intro (zE enc_55 3 c0.list.Gates.get) (And.intro (zE zah 3 c0.corners.get) hc)) (zau hs fun hc hs=>And.intro (And.intro (zE enc_55 3 c0.list.Gates.get) (And.intro (zE zah 3 c0.corners.get) hc)) (zau hs fun hc hs=>And.intro hc (zau hs fun hc hs=>And.intro hc (zt hk (fun hk=>(zt hk (fun hk=>hk) (fun hk=>(zt hk (fun hk=>hk) (fun hk=>(zt hk (fun hk=>hk) (fun hk=>hk))))))) (fun hk=>(zt hk (fun hk=>hk) (fun hk=>(zt hk (fun hk=>hk) (fun hk=>hk))))))))))
def zok : List PA → COut
  | [.agg [.int .i64 a0_slope,.int .i64 a0_start,.int .i64 a0_den],.agg [.int .i64 a1_slope,.int .i64 a1_start,.int .i64 a1_den],.one (.fp [.sl c0_list_Gates_n c0_list_Gates_s c0_list_Gates_g,.sl c0_corners_n c0_corners_s c0_corners_g] 0)]=>.det (IsE enc_55 3 c0_list_Gates_s c0_list_Gates_g∧IsE zah 3 c0_corners_s c0_corners_g∧zLg (⟨(⟨(⟨c0_list_Gates_n,zad c0_list_Gates_g⟩:(Sl Gate))⟩:list),(⟨c0_corners_n,zaR c0_corners_g⟩:(Sl straight))⟩:set) (⟨a0_slope,a0_start,a0_den⟩:straight) (⟨a1_slope,a1_start,a1_den⟩:straight)=true) [.one (.int .i64 (zLf (⟨(⟨(⟨c0_list_Gates_n,zad c0_list_Gates_g⟩:(Sl Gate))⟩:list),(⟨c0_corners_n,zaR c0_corners_g⟩:(Sl straight))⟩:set) (⟨a0_slope,a0_start,a0_den⟩:straight) (⟨a1_slope,a1_start,a1_den⟩:straight)))]
  | _=>.no
theorem zEM:zaf Try.prog 107:=⟨_,rfl,rfl,by kernel_rfl⟩
theorem zMn:Ok Try.prog 107 zok:=zay zJu zEM fun args K h=>by
  unfold zok at h
  split at h
  · rename_i a0_slope a0_start a0_den a1_slope a1_start a1_den c0_list_Gates_n c0_list_Gates_s c0_list_Gates_g c0_corners_n c0_corners_s c0_corners_g
    obtain ⟨⟨⟨rfl,c0_list_Gates_f,rfl⟩,⟨rfl,c0_corners_f,rfl⟩,hs⟩,hk⟩:=h
    try rw [zac c0_list_Gates_f] at hs
    try rw [zac c0_list_Gates_f] at hk
    try rw [zaM c0_corners_f] at hs
    try rw [zaM c0_corners_f] at hk
    exact ⟨(fun _ _=>[]),(fun _=>false),zCp,zPd (⟨(⟨(⟨c0_list_Gates_n,c0_list_Gates_f⟩:(Sl Gate))⟩:list),(⟨c0_corners_n,c0_corners_f⟩:(Sl straight))⟩:set) (⟨a0_slope,a0_start,a0_den⟩:straight) (⟨a1_slope,a1_start,a1_den⟩:straight) K hs hk⟩
  · exact h.elim
abbrev T78:Tabs:=(((Tabs.nil.addO 105 zCl).addO 106 zCm).addF 107 zok)
theorem zMo:TabsOk Try.prog T78:=(((TabsOk.nil.addO zMk).addO zMl).addF zMn)
abbrev G78:Ctrs:=csm T78 (fun _ _=>[]) (fun _=>false)
def zJv:Ann:=⟨11,[(0,zK [1] [1]),(1,zK [1,3] [1,6]),(2,zK [3] [6]),(3,zK [2] [6])],
 [],
 [],
 [],[]⟩
abbrev R78:=(Sl straight)
abbrev e78 (r:R78):List PA:=[.one (.sl r.len 3 (fun i=>zah (r.get i)))]
section
variable {K:List PA→Prop} {s:set}
def s78 (s:set):(Sl straight) :=
  (⟨s.corners.len,(zoN s.corners.len (fun i j=>(zLf s (s.corners.get i) (s.corners.get j))) s.corners.get)⟩:(Sl straight))
def p78 (s:set):Bool :=
  (decide ((s.corners.len * 24≤140737488355328∧s.corners.len≤9223372036854775807)) &&
 (decide ((s.corners.len≤4611686018427387)∧(sortB s.corners.len (fun i j=>decide (zLg s (s.corners.get i) (s.corners.get j)=true)) (fun i j=>(zLf s (s.corners.get i) (s.corners.get j)))=true)) &&
 true))
end
theorem q78 (s:set) (K:List PA→Prop) (hs:p78 s=true) (hk:K (e78 (s78 s))):vcFun Try.prog G78 zJv 78 [.agg (zaV s)] K :=
  zaw (by kernel_rfl) (zau hs fun hc hs=>And.intro hc (zau hs fun hc hs=>And.intro (And.intro (hc.1) ((zAI (hc.2) (fun i j h=>(show IsE enc_55 3 3 (fun i=>enc_55 (s.list.Gates.get i))∧IsE zah 3 3 (fun i=>zah (s.corners.get i))∧(zLg s (s.corners.get i) (s.corners.get j)=true) from ⟨isE,isE,(of_decide_eq_true h)⟩)) rfl):(∀ i j,i < s.corners.len→j < s.corners.len→zHF (zok) [.fp (zaV s) 0] true (fun i=>zah (s.corners.get i)) i j)∧STO s.corners.len (ztQ (zok) [.fp (zaV s) 0] true (fun i=>zah (s.corners.get i))))) hk))
def zEN : List PA → COut
  | [.agg [.sl a0_list_Gates_n a0_list_Gates_s a0_list_Gates_g,.sl a0_corners_n a0_corners_s a0_corners_g]]=>.det (IsE enc_55 3 a0_list_Gates_s a0_list_Gates_g∧IsE zah 3 a0_corners_s a0_corners_g∧p78 (⟨(⟨(⟨a0_list_Gates_n,zad a0_list_Gates_g⟩:(Sl Gate))⟩:list),(⟨a0_corners_n,zaR a0_corners_g⟩:(Sl straight))⟩:set)=true) [.one (.sl ((s78 (⟨(⟨(⟨a0_list_Gates_n,zad a0_list_Gates_g⟩:(Sl Gate))⟩:list),(⟨a0_corners_n,zaR a0_corners_g⟩:(Sl straight))⟩:set)).len) 3 (fun i=>zah ((s78 (⟨(⟨(⟨a0_list_Gates_n,zad a0_list_Gates_g⟩:(Sl Gate))⟩:list),(⟨a0_corners_n,zaR a0_corners_g⟩:(Sl straight))⟩:set)).get i)))]
  | _=>.no
theorem zJw:zaf Try.prog 78:=⟨_,rfl,rfl,by kernel_rfl⟩
theorem zPe:Ok Try.prog 78 zEN:=zay zMo zJw fun args K h=>by
  unfold zEN at h
  split at h
  · rename_i a0_list_Gates_n a0_list_Gates_s a0_list_Gates_g a0_corners_n a0_corners_s a0_corners_g
    obtain ⟨⟨⟨rfl,a0_list_Gates_f,rfl⟩,⟨rfl,a0_corners_f,rfl⟩,hs⟩,hk⟩:=h
    try rw [zac a0_list_Gates_f] at hs
    try rw [zac a0_list_Gates_f] at hk
    try rw [zaM a0_corners_f] at hs
    try rw [zaM a0_corners_f] at hk
    exact ⟨(fun _ _=>[]),(fun _=>false),zJv,q78 (⟨(⟨(⟨a0_list_Gates_n,a0_list_Gates_f⟩:(Sl Gate))⟩:list),(⟨a0_corners_n,a0_corners_f⟩:(Sl straight))⟩:set) K hs hk⟩
  · exact h.elim
abbrev T31:Tabs:=(((Tabs.nil.addF 75 ztG).addF 78 zEN).addF 79 zAV)
theorem zMp:TabsOk Try.prog T31:=(((TabsOk.nil.addF zMi).addF zPe).addF zNo)
abbrev G31:Ctrs:=csm T31 (fun _ _=>[]) (fun _=>false)
def zEO:Ann:=⟨31,[(0,zK [0] []),(1,zK [4,5] [4]),(2,zK [4,5,15] [4]),(3,zK [2,3] []),(4,zK [4,6] [4]),(5,zK [6,18,19,20] []),(6,zK [6,18,19,20,21] [28]),(7,zK [6,8,18,19,20] [8,28]),(8,zK [6,18,19,20] [28]),(9,zK [6,18,19,20] [28]),(10,zK [2,3] [28])],
 [(6,⟨[6,18,19,20],[28],[(6,28,37,fun _=>zav default)],[],[],[],[]⟩)],
 [(2,zK [4,5] [4]),(4,zK [4] [4]),(6,zK [6,18,19,20] [])],
 [],[]⟩
abbrev R31:=((Sl Line)×Int)
abbrev e31 (r:R31):List PA:=[.one (.sl r.1.len 4 (fun i=>zav (r.1.get i))),.one (.int .i64 r.2)]
@[irreducible] def z31:=ptF Try.prog G31 zEO Try.f31
def zCq (zb1:(Sl straight)) (zcg:Int) (zc2:Int) (zcw:(Sl Line)) (zfk:Nat→List PV):St:=⟨[(6,zv 28),(18,zS zah 3 zb1),(19,zI zcg),(20,zI zc2)],[(28,.vec 37 4 32 zcw.len zfk)],[]⟩
abbrev zJx (K:List PA→Prop) (zb1:(Sl straight)) (zcg:Int) (X:St→Prop) (P:Int→(Sl Line)→Bool) (S:Int→(Sl Line)→((Sl Line)×Int)):Prop:=∀ ⦃zc2:Int⦄ ⦃zcw:(Sl Line)⦄ ⦃zfk:Nat→List PV⦄,P zc2 zcw=true→K (e31 (S zc2 zcw))→zfk=zg zav zcw→X (zCq zb1 zcg zc2 zcw zfk)
section
variable {K:List PA→Prop} {zaa:(Sl Gate)} {ev0:Int} {zmn:(Sl Gate)} {zmo:(Sl straight)} {zpZ:Nat→List PV} {zp0:Nat→List PV} {ziD:(Sl Gate)} {ziE:(Sl straight)} {zwq:Nat→List PV} {zwr:Nat→List PV} {zb1:(Sl straight)} {zcg:Int} {zwt:Nat→List PV} {zc2:Int} {zcw:(Sl Line)} {zfk:Nat→List PV} {X3:St→Prop} {P3:Int→(Sl Line)→Bool} {S3:Int→(Sl Line)→((Sl Line)×Int)}
def zwu (zb1:(Sl straight)) (zcg:Int) (S3:Int→(Sl Line)→((Sl Line)×Int)) (zc2:Int) (zcw:(Sl Line)):((Sl Line)×Int) :=
  (cond (decide (zc2 < zcg))
 (S3 (w64 (zc2+(1:Int))) (⟨(zcw.len+1),(zdX zcw.len zcw.get (fun _=>(s79 (zb1.get zc2.toNat))))⟩:Sl Line))
 (zcw,(0:Int)))
def zwv (zb1:(Sl straight)) (zcg:Int) (P3:Int→(Sl Line)→Bool) (zc2:Int) (zcw:(Sl Line)):Bool :=
  (cond (decide (zc2 < zcg))
 (decide ((0≤zc2∧zc2 < (zb1.len:Int))) &&
 (decide ((p79 (zb1.get zc2.toNat)=true)) &&
 (decide (((zcw.len+1) * 32≤140737488355328∧zcw.len+1≤9223372036854775807)) &&
 (P3 (w64 (zc2+(1:Int))) (⟨(zcw.len+1),(zdX zcw.len zcw.get (fun _=>(s79 (zb1.get zc2.toNat))))⟩:Sl Line)))))
 true)
def zww (zb1:(Sl straight)) (zcg:Int):Nat→Int→(Sl Line)→((Sl Line)×Int):=lpO (fun _ _=>default) (zwu zb1 zcg)
def zwx (zb1:(Sl straight)) (zcg:Int):Nat→Int→(Sl Line)→Bool:=lpO (fun _ _=>false) (zwv zb1 zcg)
def zwy (zb1:(Sl straight)) (zcg:Int) (zc2:Int) (zcw:(Sl Line)):((Sl Line)×Int):=zww zb1 zcg Fuel zc2 zcw
def zwz (zb1:(Sl straight)) (zcg:Int) (zc2:Int) (zcw:(Sl Line)):Bool:=zwx zb1 zcg Fuel zc2 zcw
theorem zEP (hs:zwz zb1 zcg zc2 zcw=true) (hk:K (e31 (zwy zb1 zcg zc2 zcw))) (zp1:zfk=zg zav zcw):z31 (Wk K) [1,1,1,1,0,1,0] [] (zCq zb1 zcg zc2 zcw zfk) :=
  zl (fun X=>z31 (Wk K) [1,1,1,1,0,1,0,0] [X]) (by kernel_rfl) fun X3 hX =>
  (show ∀ k, zJx K zb1 zcg X3 (zwx zb1 zcg k) (zww zb1 zcg k) from zeV _ _ (zwv zb1 zcg) (zwu zb1 zcg) (zJx K zb1 zcg X3)
 (by intro _ _ _ hs;exact absurd hs Bool.false_ne_true)
 (by intro P3 S3 hX3 zc2 zcw zfk hs hk zp1;subst zp1;exact hX _ (zaw (by kernel_rfl) (zc hs hk (fun hs hk=>(zau hs fun hc hs=>And.intro hc (zau hs fun hc hs=>And.intro hc (zau hs fun hc hs=>And.intro hc (hX3 hs hk (zeU (enc:=zav) (f:=zcw.get) (h:=(fun _=>(s79 (zb1.get zc2.toNat)))) rfl rfl)))))) (fun hs hk=>((zed hk):Wk K [.one (.sl zcw.len 4 (fun i=>zav (zcw.get i))),.one (.int .i64 (0:Int))])))))) _ hs hk zp1
def zwA (zb1:(Sl straight)) (zcg:Int):((Sl Line)×Int) :=
  (zwy zb1 zcg (0:Int) (⟨0,(fun _=>default)⟩:Sl Line))
def zwB (zb1:(Sl straight)) (zcg:Int):Bool :=
  (zwz zb1 zcg (0:Int) (⟨0,(fun _=>default)⟩:Sl Line))
theorem zEQ (hs:zwB zb1 zcg=true) (hk:K (e31 (zwA zb1 zcg))) (zER:zwt=zg zah zb1):z31 (Wk K) [1,1,1,1,0,1] [] ⟨[(6,zP (.nils)),(18,zP (.sl zb1.len 3 zwt)),(19,zI zcg),(20,zI (0:Int))],[],[]⟩:=by subst zER;exact zaw (by kernel_rfl) (zEP hs hk rfl)
def zwC (ziD:(Sl Gate)) (ziE:(Sl straight)):((Sl Line)×Int) :=
  (zwA (s78 (⟨(⟨ziD⟩:list),ziE⟩:set)) ((s78 (⟨(⟨ziD⟩:list),ziE⟩:set)).len:Int))
def zwD (ziD:(Sl Gate)) (ziE:(Sl straight)):Bool :=
  (decide ((p78 (⟨(⟨ziD⟩:list),ziE⟩:set)=true)) &&
 (zwB (s78 (⟨(⟨ziD⟩:list),ziE⟩:set)) ((s78 (⟨(⟨ziD⟩:list),ziE⟩:set)).len:Int)))
theorem zES (hs:zwD ziD ziE=true) (hk:K (e31 (zwC ziD ziE))) (zET:zwq=zg enc_55 ziD) (zEU:zwr=zg zah ziE):z31 (Wk K) [1,1,1] [] ⟨[(4,zp 4 0)],[(4,.box 104 [.p (.sl ziD.len 3 zwq),.p (.sl ziE.len 3 zwr)])],[]⟩:=by subst zET;subst zEU;exact zaw (by kernel_rfl) (zau hs fun hc hs=>And.intro (And.intro (zE enc_55 3 ziD.get) (And.intro (zE zah 3 ziE.get) hc)) (zEQ hs hk rfl))
def zwE (ev0:Int) (zmn:(Sl Gate)) (zmo:(Sl straight)):((Sl Line)×Int) :=
  (cond (ev0 != (0:Int))
 ((⟨0,fun _=>default⟩:(Sl Line)),ev0)
 (zwC zmn zmo))
def zwF (ev0:Int) (zmn:(Sl Gate)) (zmo:(Sl straight)):Bool :=
  (cond (ev0 != (0:Int))
 true
 (zwD zmn zmo))
theorem zEV (hs:zwF ev0 zmn zmo=true) (hk:K (e31 (zwE ev0 zmn zmo))) (zEW:zpZ=zg enc_55 zmn) (zEX:zp0=zg zah zmo):z31 (Wk K) [1,1] [] ⟨[(4,zp 4 0),(5,zI ev0)],[(4,.box 104 [.p (.sl zmn.len 3 zpZ),.p (.sl zmo.len 3 zp0)])],[]⟩:=by subst zEW;subst zEX;exact zaw (by kernel_rfl) (zc hs hk (fun hs hk=>((wk hk (zc5 (.one (.nil _ _)) (zc5 (.one (.rfl _)) zhr))):Wk K [.one (.nils),.one (.int .i64 ev0)])) (fun hs hk=>(zES hs hk rfl rfl)))
def s31 (zaa:(Sl Gate)):((Sl Line)×Int) :=
  (zwE ((s75 zaa).2) (((s75 zaa).1).list.Gates) (((s75 zaa).1).corners))
def p31 (zaa:(Sl Gate)):Bool :=
  (decide ((p75 zaa=true)) &&
 (zwF ((s75 zaa).2) (((s75 zaa).1).list.Gates) (((s75 zaa).1).corners)))
end
theorem q31 (zaa:(Sl Gate)) (K:List PA→Prop) (hs:p31 zaa=true) (hk:K (e31 (s31 zaa))):vcFun Try.prog G31 zEO 31 [.one (.sl zaa.len 3 (fun i=>enc_55 (zaa.get i)))] (Wk K) :=
  zaw (by kernel_rfl) (zau hs fun hc hs=>And.intro (And.intro (zE enc_55 3 zaa.get) hc) (zEV hs hk rfl rfl))
def zEY : List PA → COut
  | [.one (.sl a0_n a0_s a0_g)]=>.det (IsE enc_55 3 a0_s a0_g∧p31 (⟨a0_n,zad a0_g⟩:(Sl Gate))=true) [.one (.sl (((s31 (⟨a0_n,zad a0_g⟩:(Sl Gate))).1).len) 4 (fun i=>zav (((s31 (⟨a0_n,zad a0_g⟩:(Sl Gate))).1).get i))),.one (.int .i64 ((s31 (⟨a0_n,zad a0_g⟩:(Sl Gate))).2))]
  | _=>.no
theorem zJy:zaf Try.prog 31:=⟨_,rfl,rfl,by kernel_rfl⟩
theorem zPf:Ok Try.prog 31 zEY:=zhs zMp zJy fun args K h=>by
  unfold zEY at h
  split at h
  · rename_i a0_n a0_s a0_g
    obtain ⟨⟨⟨rfl,a0_f,rfl⟩,hs⟩,hk⟩:=h
    try rw [zac a0_f] at hs
    try rw [zac a0_f] at hk
    exact ⟨_,ze6 zf5 _,(fun _ _=>[]),(fun _=>false),zEO,q31 (⟨a0_n,a0_f⟩:(Sl Gate)) K hs hk⟩
  · exact h.elim
abbrev T34:Tabs:=Tabs.nil
theorem zMq:TabsOk Try.prog T34:=TabsOk.nil
abbrev G34:Ctrs:=csm T34 (fun _ _=>[]) (fun _=>false)
def zEZ:Ann:=⟨26,[(0,zK [0,1] []),(1,zK [0,1,10] []),(2,zK [4] []),(3,zK [0,1,5] []),(4,zK [0,1,5,14] []),(5,zK [0,1,5] []),(6,zK [0,1,5,25] []),(7,zK [4] []),(8,zK [4] [])],
 [(4,zK [0,1,5] [])],
 [(3,zK [0,1] [])],
 [],[]⟩
abbrev R34:=Bool
abbrev e34 (r:R34):List PA:=[.one (.bool r)]
@[irreducible] def z34:=ptF Try.prog G34 zEZ Try.f34
def zCr (a:(Sl Line)) (b:(Sl Line)) (iv1:Int):St:=⟨[(0,zS zav 4 a),(1,zS zav 4 b),(5,zI iv1)],[],[]⟩
abbrev zJz (K:List PA→Prop) (a:(Sl Line)) (b:(Sl Line)) (X:St→Prop) (P:Int→Bool) (S:Int→Bool):Prop:=∀ ⦃iv1:Int⦄,P iv1=true→K (e34 (S iv1))→X (zCr a b iv1)
section
variable {K:List PA→Prop} {a:(Sl Line)} {b:(Sl Line)} {iv1:Int} {X1:St→Prop} {P1:Int→Bool} {S1:Int→Bool}
def zwG (a:(Sl Line)) (b:(Sl Line)) (S1:Int→Bool) (iv1:Int):Bool :=
  (cond (decide (iv1 < (a.len : Int)))
 (cond (!(match (match ((a.get iv1.toNat).Slope.Num == (b.get iv1.toNat).Slope.Num) with | true => (match ((a.get iv1.toNat).Slope.Den == (b.get iv1.toNat).Slope.Den) with | true => true | false => false) | false => false) with | true => (match (match ((a.get iv1.toNat).Start.Num == (b.get iv1.toNat).Start.Num) with | true => (match ((a.get iv1.toNat).Start.Den == (b.get iv1.toNat).Start.Den) with | true => true | false => false) | false => false) with | true => true | false => false) | false => false))
 false
 (S1 (w64 (iv1+(1:Int)))))
 true)
def zwH (a:(Sl Line)) (b:(Sl Line)) (P1:Int→Bool) (iv1:Int):Bool :=
  (cond (decide (iv1 < (a.len : Int)))
 (decide ((0≤iv1∧iv1 < (a.len:Int))) &&
 (decide ((0≤iv1∧iv1 < (b.len:Int))) &&
 (cond (!(match (match ((a.get iv1.toNat).Slope.Num == (b.get iv1.toNat).Slope.Num) with | true => (match ((a.get iv1.toNat).Slope.Den == (b.get iv1.toNat).Slope.Den) with | true => true | false => false) | false => false) with | true => (match (match ((a.get iv1.toNat).Start.Num == (b.get iv1.toNat).Start.Num) with | true => (match ((a.get iv1.toNat).Start.Den == (b.get iv1.toNat).Start.Den) with | true => true | false => false) | false => false) with | true => true | false => false) | false => false))
 true
 (P1 (w64 (iv1+(1:Int)))))))
 true)
def zwI (a:(Sl Line)) (b:(Sl Line)):Nat→Int→Bool:=lpO (fun _=>default) (zwG a b)
def zwJ (a:(Sl Line)) (b:(Sl Line)):Nat→Int→Bool:=lpO (fun _=>false) (zwH a b)
def zwK (a:(Sl Line)) (b:(Sl Line)) (iv1:Int):Bool:=zwI a b Fuel iv1
def zwL (a:(Sl Line)) (b:(Sl Line)) (iv1:Int):Bool:=zwJ a b Fuel iv1
theorem zE0 (hs:zwL a b iv1=true) (hk:K (e34 (zwK a b iv1))):z34 K [1,1,0,1,0] [] (zCr a b iv1) :=
  zl (fun X=>z34 K [1,1,0,1,0,0] [X]) (by kernel_rfl) fun X1 hX =>
  (show ∀ k, zJz K a b X1 (zwJ a b k) (zwI a b k) from zeV _ _ (zwH a b) (zwG a b) (zJz K a b X1)
 (by intro _ hs;exact absurd hs Bool.false_ne_true)
 (by intro P1 S1 hX1 iv1 hs hk;exact hX _ (zaw (by kernel_rfl) (zc hs hk (fun hs hk=>(zau hs fun hc hs=>And.intro hc (zau hs fun hc hs=>And.intro hc (zc hs hk (fun hs hk=>hk) (fun hs hk=>(hX1 hs hk)))))) (fun hs hk=>hk))))) _ hs hk
def zwM (a:(Sl Line)) (b:(Sl Line)):Bool :=
  (zwK a b (0:Int))
def zwN (a:(Sl Line)) (b:(Sl Line)):Bool :=
  (zwL a b (0:Int))
theorem zE1 (hs:zwN a b=true) (hk:K (e34 (zwM a b))):z34 K [1,1] [] ⟨[(0,zS zav 4 a),(1,zS zav 4 b)],[],[]⟩:=zaw (by kernel_rfl) (zE0 hs hk)
def s34 (a:(Sl Line)) (b:(Sl Line)):Bool :=
  (cond ((a.len : Int) != (b.len : Int))
 false
 (zwM a b))
def p34 (a:(Sl Line)) (b:(Sl Line)):Bool :=
  (cond ((a.len : Int) != (b.len : Int))
 true
 (zwN a b))
end
theorem q34 (a:(Sl Line)) (b:(Sl Line)) (K:List PA→Prop) (hs:p34 a b=true) (hk:K (e34 (s34 a b))):vcFun Try.prog G34 zEZ 34 [.one (.sl a.len 4 (fun i=>zav (a.get i))),.one (.sl b.len 4 (fun i=>zav (b.get i)))] K :=
  zaw (by kernel_rfl) (zc hs hk (fun hs hk=>hk) (fun hs hk=>(zE1 hs hk)))
def zE2 : List PA → COut
  | [.one (.sl a0_n a0_s a0_g),.one (.sl a1_n a1_s a1_g)]=>.det (IsE zav 4 a0_s a0_g∧IsE zav 4 a1_s a1_g∧p34 (⟨a0_n,zjJ a0_g⟩:(Sl Line)) (⟨a1_n,zjJ a1_g⟩:(Sl Line))=true) [.one (.bool (s34 (⟨a0_n,zjJ a0_g⟩:(Sl Line)) (⟨a1_n,zjJ a1_g⟩:(Sl Line))))]
  | _=>.no
theorem zJA:zaf Try.prog 34:=⟨_,rfl,rfl,by kernel_rfl⟩
theorem zPg:Ok Try.prog 34 zE2:=zay zMq zJA fun args K h=>by
  unfold zE2 at h
  split at h
  · rename_i a0_n a0_s a0_g a1_n a1_s a1_g
    obtain ⟨⟨⟨rfl,a0_f,rfl⟩,⟨rfl,a1_f,rfl⟩,hs⟩,hk⟩:=h
    try rw [zez a0_f] at hs
    try rw [zez a0_f] at hk
    try rw [zez a1_f] at hs
    try rw [zez a1_f] at hk
    exact ⟨(fun _ _=>[]),(fun _=>false),zEZ,q34 (⟨a0_n,a0_f⟩:(Sl Line)) (⟨a1_n,a1_f⟩:(Sl Line)) K hs hk⟩
  · exact h.elim
abbrev T84:Tabs:=((Tabs.nil.addF 65 zvs).addF 66 zvv)
theorem zMr:TabsOk Try.prog T84:=((TabsOk.nil.addF zLU).addF zLX)
abbrev G84:Ctrs:=csm T84 (fun _ _=>[]) (fun _=>false)
def zE3:Ann:=⟨25,[(0,zK [0,1] []),(1,zK [0,1,5] []),(2,zK [0,5,8,9,10] []),(3,zK [0,5,8,9,10,11] [20]),(4,zK [0,5,7,8,9,10] [20]),(5,zK [0,5,8,9,10] [20]),(6,zK [0,5,8,9,10] [20]),(7,zK [4] [])],
 [(3,⟨[0,5,8,9,10],[20],[(5,20,55,fun _=>enc_55 default)],[],[],[],[]⟩)],
 [],
 [],[]⟩
abbrev R84:=Bool
abbrev e84 (r:R84):List PA:=[.one (.bool r)]
@[irreducible] def z84:=ptF Try.prog G84 zE3 Try.f84
def zCs (zaa:(Sl Gate)) (l_a1:(Sl Int)) (zcQ:Int) (zce:(Sl Gate)) (zfl:Nat→List PV):St:=⟨[(0,zS enc_55 3 zaa),(5,zv 20),(8,zS zal 1 l_a1),(9,zI (l_a1.len:Int)),(10,zI zcQ)],[(20,.vec 55 3 24 zce.len zfl)],[]⟩
abbrev zJB (K:List PA→Prop) (zaa:(Sl Gate)) (l_a1:(Sl Int)) (X:St→Prop) (P:Int→(Sl Gate)→Bool) (S:Int→(Sl Gate)→Bool):Prop:=∀ ⦃zcQ:Int⦄ ⦃zce:(Sl Gate)⦄ ⦃zfl:Nat→List PV⦄,P zcQ zce=true→K (e84 (S zcQ zce))→zfl=zg enc_55 zce→X (zCs zaa l_a1 zcQ zce zfl)
section
variable {K:List PA→Prop} {zaa:(Sl Gate)} {l_a1:(Sl Int)} {zcQ:Int} {zce:(Sl Gate)} {zfl:Nat→List PV} {X0:St→Prop} {P0:Int→(Sl Gate)→Bool} {S0:Int→(Sl Gate)→Bool}
def zwO (zaa:(Sl Gate)) (l_a1:(Sl Int)) (S0:Int→(Sl Gate)→Bool) (zcQ:Int) (zce:(Sl Gate)):Bool :=
  (cond (decide (zcQ < (l_a1.len : Int)))
 (S0 (w64 (zcQ+(1:Int))) (⟨(zce.len+1),(zdX zce.len zce.get (fun _=>(zaa.get ((l_a1.get zcQ.toNat).toNat))))⟩:Sl Gate))
 (s66 (s65 zce)))
def zwP (zaa:(Sl Gate)) (l_a1:(Sl Int)) (P0:Int→(Sl Gate)→Bool) (zcQ:Int) (zce:(Sl Gate)):Bool :=
  (cond (decide (zcQ < (l_a1.len : Int)))
 (decide ((0≤zcQ∧zcQ < (l_a1.len:Int))) &&
 (decide ((0≤(l_a1.get zcQ.toNat)∧(l_a1.get zcQ.toNat) < (zaa.len:Int))) &&
 (decide (((zce.len+1) * 24≤140737488355328∧zce.len+1≤9223372036854775807)) &&
 (P0 (w64 (zcQ+(1:Int))) (⟨(zce.len+1),(zdX zce.len zce.get (fun _=>(zaa.get ((l_a1.get zcQ.toNat).toNat))))⟩:Sl Gate)))))
 (decide ((p65 zce=true)) &&
 (decide ((p66 (s65 zce)=true)) &&
 true)))
def zwQ (zaa:(Sl Gate)) (l_a1:(Sl Int)):Nat→Int→(Sl Gate)→Bool:=lpO (fun _ _=>default) (zwO zaa l_a1)
def zwR (zaa:(Sl Gate)) (l_a1:(Sl Int)):Nat→Int→(Sl Gate)→Bool:=lpO (fun _ _=>false) (zwP zaa l_a1)
def zwS (zaa:(Sl Gate)) (l_a1:(Sl Int)) (zcQ:Int) (zce:(Sl Gate)):Bool:=zwQ zaa l_a1 Fuel zcQ zce
def zwT (zaa:(Sl Gate)) (l_a1:(Sl Int)) (zcQ:Int) (zce:(Sl Gate)):Bool:=zwR zaa l_a1 Fuel zcQ zce
theorem zE4 (hs:zwT zaa l_a1 zcQ zce=true) (hk:K (e84 (zwS zaa l_a1 zcQ zce))) (zp2:zfl=zg enc_55 zce):z84 K [1,1,0,1,0] [] (zCs zaa l_a1 zcQ zce zfl) :=
  zl (fun X=>z84 K [1,1,0,1,0,0] [X]) (by kernel_rfl) fun X0 hX =>
  (show ∀ k, zJB K zaa l_a1 X0 (zwR zaa l_a1 k) (zwQ zaa l_a1 k) from zeV _ _ (zwP zaa l_a1) (zwO zaa l_a1) (zJB K zaa l_a1 X0)
 (by intro _ _ _ hs;exact absurd hs Bool.false_ne_true)
 (by intro P0 S0 hX0 zcQ zce zfl hs hk zp2;subst zp2;exact hX _ (zaw (by kernel_rfl) (zc hs hk (fun hs hk=>(zau hs fun hc hs=>And.intro hc (zau hs fun hc hs=>And.intro hc (zau hs fun hc hs=>And.intro hc (hX0 hs hk (zeU (enc:=enc_55) (f:=zce.get) (h:=(fun _=>(zaa.get ((l_a1.get zcQ.toNat).toNat)))) rfl rfl)))))) (fun hs hk=>(zau hs fun hc hs=>And.intro (And.intro (zE enc_55 3 zce.get) hc) (zau hs fun hc hs=>And.intro (And.intro (zE enc_55 3 ((s65 zce).list.Gates.get)) (And.intro (zE zah 3 ((s65 zce).corners.get)) hc)) hk))))))) _ hs hk zp2
def s84 (zaa:(Sl Gate)) (l_a1:(Sl Int)):Bool :=
  (zwS zaa l_a1 (0:Int) (⟨0,(fun _=>default)⟩:Sl Gate))
def p84 (zaa:(Sl Gate)) (l_a1:(Sl Int)):Bool :=
  (zwT zaa l_a1 (0:Int) (⟨0,(fun _=>default)⟩:Sl Gate))
end
theorem q84 (zaa:(Sl Gate)) (l_a1:(Sl Int)) (K:List PA→Prop) (hs:p84 zaa l_a1=true) (hk:K (e84 (s84 zaa l_a1))):vcFun Try.prog G84 zE3 84 [.one (.sl zaa.len 3 (fun i=>enc_55 (zaa.get i))),.one (.sl l_a1.len 1 (fun i=>zal (l_a1.get i)))] K :=
  zaw (by kernel_rfl) (zE4 hs hk rfl)
def zE5 : List PA → COut
  | [.one (.sl a0_n a0_s a0_g),.one (.sl a1_n a1_s a1_g)]=>.det (IsE enc_55 3 a0_s a0_g∧IsE zal 1 a1_s a1_g∧p84 (⟨a0_n,zad a0_g⟩:(Sl Gate)) (⟨a1_n,zcN a1_g⟩:(Sl Int))=true) [.one (.bool (s84 (⟨a0_n,zad a0_g⟩:(Sl Gate)) (⟨a1_n,zcN a1_g⟩:(Sl Int))))]
  | _=>.no
theorem zJC:zaf Try.prog 84:=⟨_,rfl,rfl,by kernel_rfl⟩
theorem zPh:Ok Try.prog 84 zE5:=zay zMr zJC fun args K h=>by
  unfold zE5 at h
  split at h
  · rename_i a0_n a0_s a0_g a1_n a1_s a1_g
    obtain ⟨⟨⟨rfl,a0_f,rfl⟩,⟨rfl,a1_f,rfl⟩,hs⟩,hk⟩:=h
    try rw [zac a0_f] at hs
    try rw [zac a0_f] at hk
    try rw [zdv a1_f] at hs
    try rw [zdv a1_f] at hk
    exact ⟨(fun _ _=>[]),(fun _=>false),zE3,q84 (⟨a0_n,a0_f⟩:(Sl Gate)) (⟨a1_n,a1_f⟩:(Sl Int)) K hs hk⟩
  · exact h.elim
end Go.Proofs
