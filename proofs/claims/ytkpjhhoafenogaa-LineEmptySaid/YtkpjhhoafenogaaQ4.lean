/- Part 4 of what the proof rests on: a machine that runs functions of the program on pure values, proved sound; the functions that the law reaches, and what they compute. -/
import Derived.Test.YtkpjhhoafenogaaQ3
import Derived.Sort.OwnSortedInts
import Derived.Lib.SlicesCompact
import Derived.ProofKit
import Derived.Deep.Slices
import Derived.Shelf.SlSortCmp.WholeK
import Derived.Test.YtkpjhhoafenogaaProg
import Derived.Shelf.SlSortCmp.NoneTotal
set_option linter.all false
namespace Go.Pm

structure Tabs where
  fn:List (Nat×(List PA→COut))
  own:List (Nat×OwnK)
  it:List (Nat×(List PA→Option (Prop×List (List PA))))
def zt3 : List (Nat × (List PA → COut)) → Nat → List PA → COut
  | [],_=>fun _=>.no
  | (k,c) :: r,n=>match Nat.beq k n with | true=>c | false=>zt3 r n
def zt4 (l:List (Nat×OwnK)) (f:Nat):OwnK:=match lk l f with | some c=>c | none=>.none
def zCl (l:List (Nat×(List PA→Option (Prop×List (List PA))))) (f:Nat):List PA→Option (Prop×List (List PA)):=match lk l f with | some c=>c | none=>fun _=>none
def csm (T:Tabs) (memo:Nat→Int→List Int) (vv:Nat→Bool):Ctrs:=⟨zt3 T.fn,zt4 T.own,zCl T.it,memo,vv⟩
abbrev cs (T:Tabs):Ctrs:=csm T (fun _ _=>[]) (fun _=>false)
def Tabs.nil:Tabs:=⟨[],[],[]⟩
def Tabs.addF (T:Tabs) (f:Nat) (c:List PA→COut):Tabs:=⟨(f,c) :: T.fn,T.own,T.it⟩
def Tabs.addO (T:Tabs) (f:Nat) (c:OwnK):Tabs:=⟨T.fn,(f,c) :: T.own,T.it⟩
def Tabs.addI (T:Tabs) (f:Nat) (c:List PA→Option (Prop×List (List PA))):Tabs:=⟨T.fn,T.own,(f,c) :: T.it⟩

theorem zKi {P:Program} {f:Nat} : Ok P f (fun _=>.no):=fun _ _ h=>h.elim
theorem zKj {P:Program} {f:Nat} : zAy P f (fun _=>none):=fun _ _ _ h=>by cases h

structure TabsOk (P : Program) (T : Tabs) : Prop where
  fn:∀ x∈T.fn,Ok P x.1 x.2
  own:∀ x∈T.own,zlw P x.1 x.2
  it:∀ x∈T.it,zAy P x.1 x.2
theorem TabsOk.nil {P:Program} : TabsOk P .nil:=⟨fun _ h=>(by cases h),fun _ h=>(by cases h),fun _ h=>(by cases h)⟩
theorem TabsOk.addF {P:Program} {T:Tabs} (h:TabsOk P T) {f:Nat} {c:List PA→COut} (hc:Ok P f c):TabsOk P (T.addF f c) :=
 ⟨fun x hx=>(List.mem_cons.1 hx).elim (fun e=>by rw [e];exact hc) (fun hx=>h.fn x hx),h.own,h.it⟩
theorem TabsOk.addO {P:Program} {T:Tabs} (h:TabsOk P T) {f:Nat} {c:OwnK} (hc:zlw P f c):TabsOk P (T.addO f c) :=
 ⟨h.fn,fun x hx=>(List.mem_cons.1 hx).elim (fun e=>by rw [e];exact hc) (fun hx=>h.own x hx),h.it⟩
theorem TabsOk.addI {P:Program} {T:Tabs} (h:TabsOk P T) {f:Nat} {c:List PA→Option (Prop×List (List PA))} (hc:zAy P f c):TabsOk P (T.addI f c) :=
 ⟨h.fn,h.own,fun x hx=>(List.mem_cons.1 hx).elim (fun e=>by rw [e];exact hc) (fun hx=>h.it x hx)⟩
theorem TabsOk.all {P:Program} {T:Tabs} (h:TabsOk P T) (memo:Nat→Int→List Int) (vv:Nat→Bool):OkAll P (csm T memo vv):=by
 refine ⟨fun f=>?_,fun f=>?_,fun f=>?_⟩
 ·show Ok P f (zt3 T.fn f)
  have key:∀ l:List (Nat×(List PA→COut)),(∀ x∈l,Ok P x.1 x.2)→Ok P f (zt3 l f):=by
   intro l
   induction l with
   | nil=>intro _;exact zKi
   | cons x l ih =>
    intro hl
    obtain ⟨k,c⟩:=x
    simp only [zt3]
    split
    ·rename_i e
     have:=hl (k,c) List.mem_cons_self
     rw [← Nat.eq_of_beq_eq_true e];exact this
    ·exact ih fun x hx=>hl x (List.mem_cons_of_mem _ hx)
  exact key T.fn h.fn
 ·show zlw P f (zt4 T.own f)
  unfold zt4
  split
  ·rename_i c hc;exact h.own _ (zcw hc)
  ·trivial
 ·show zAy P f (zCl T.it f)
  unfold zCl
  split
  ·rename_i c hc;exact h.it _ (zcw hc)
  ·exact zKj

theorem zax {P : Program} {T : Tabs} (hT : TabsOk P T) {f : FuncId} {C : List PA → COut} (hc : zaf P f)
    (h:∀ args K,(C args).wp K→∃ memo vv ann,vcFun P (csm T memo vv) ann f args K):Ok P f C :=
  zzq (hT.all (fun _ _=>[]) (fun _=>false)) hc h
theorem zGY {P : Program} {T : Tabs} (hT : TabsOk P T) {f : FuncId} {C : List PA → Option (Prop × List (List PA))} (hc : zaf P f)
    (h:∀ l caps safe ys,C caps=some (safe,ys)→safe→∃ memo vv ann,vcIter P (csm T memo vv) ann f l caps ys):zAy P f C :=
  zzu (hT.all (fun _ _=>[]) (fun _=>false)) hc h
theorem zt5 {P : Program} {T : Tabs} (hT : TabsOk P T) {f : FuncId} {e s b : Nat} (hc : zaf P f)
    (h:∀ n get,n * b≤140737488355328→n≤9223372036854775807→∃ memo vv ann,zt2 P (csm T memo vv) ann f [.one (.sl n s get)] e s b n get):zlw P f (.clone e s b) :=
  zoK (hT.all (fun _ _=>[]) (fun _=>false)) hc h

structure Sl (α : Type) where
  len:Nat
  get:Nat→α
instance {α:Type} [Inhabited α]:Inhabited (Sl α):=⟨⟨0,fun _=>default⟩⟩
abbrev w64 (x:Int):Int:=IntKind.i64.wrap x

def IsE {α:Type} (enc:α→List PV) (size s:Nat) (g:Nat→List PV):Prop:=s=size∧∃ f:Nat→α,g=fun i=>enc (f i)
theorem isE {α:Type} {enc:α→List PV} {size:Nat} {f:Nat→α} : IsE enc size size (fun i=>enc (f i)):=⟨rfl,f,rfl⟩
def zdi {α:Type} (n:Nat) (get new:Nat→α):Nat→α:=fun j=>match Nat.ble n j with | true=>new (j - n) | false=>get j
theorem zzv {α:Type} {enc:α→List PV} {n:Nat} {f h:Nat→α} : appG n (fun i=>enc (f i)) (fun i=>enc (h i))=fun i=>enc (zdi n f h i):=by
 funext j;simp only [appG,zdi];cases Nat.ble n j <;> rfl
def ziG {α : Type} (x : α) : List α → Nat → α
  | [],_=>x
  | y :: _,0=>y
  | _ :: r,i+1=>ziG x r i
theorem zdj {α:Type} {enc:α→List PV} {x y:α} {r:List α} : zcj (enc x :: enc y :: r.map enc)=fun i=>enc (ziG x (x :: y :: r) i):=by
 have key:∀ (l:List α) (i:Nat),(match (l.map enc)[i]? with | some z=>z | none=>enc x)=enc (ziG x l i):=by
  intro l
  induction l with
  | nil=>intro i;rfl
  | cons a l ih =>
   intro i
   cases i with
   | zero=>rfl
   | succ i=>simpa [ziG] using ih i
 funext i
 exact key (x :: y :: r) i
theorem zdP {α:Type} {enc:α→List PV} {size:Nat} {x y:α} (r:List α):IsE enc size size (zcj (enc x :: enc y :: r.map enc)):=⟨rfl,_,zdj⟩

theorem zcg {b:Bool} {A B:Prop} {S S':Bool} {α:Type} {K:α→Prop} {x y:α} (h1:S=true→K x→A) (h2:S'=true→K y→B) (hs:cond b S S'=true) (hk:K (cond b x y)):zcY b A B:=by
 cases b
 ·exact h2 hs hk
 ·exact h1 hs hk
theorem zlY {b:Bool} {A B:Prop} {S S':Bool} {α β:Type} {f:α→β} {ys:List β} {x y:List α} (hs:cond b S S'=true) (hk:ys=(cond b x y).map f) (h1:S=true→ys=x.map f→A) (h2:S'=true→ys=y.map f→B):zcY b A B:=by
 cases b
 ·exact h2 hs hk
 ·exact h1 hs hk
theorem itY {α β:Type} {f:α→β} {ys:List β} {p:β} {x r:List α} {l:Nat} {A:List β→Prop} (hk:ys=x.map f) (e:x.map f=p :: r.map f) (h:∀ zs,zs=r.map f→A zs):l=l∧∃ z,ys=p :: z∧A z∧True :=
 ⟨rfl,_,hk.trans e,h _ rfl,trivial⟩
theorem zat {C A:Prop} [d:Decidable C] {r:Bool} (hs:(decide C && r)=true) (k:C→r=true→A):A:=by
 rw [Bool.and_eq_true] at hs
 exact k (of_decide_eq_true hs.1) hs.2
abbrev Fuel:Nat:=9223372036854775808
def setT {α:Type} (i:Nat) (v:α) (get:Nat→α):Nat→α:=fun j=>match Nat.beq j i with | true=>v | false=>get j
theorem zd2 {α:Type} {enc:α→List PV} {n:Nat} {g g':Nat→List PV} {f h:Nat→α} (h1:g=fun i=>enc (f i)) (h2:g'=fun i=>enc (h i)):appG n g g'=fun i=>enc (zdi n f h i):=by
 subst h1;subst h2;exact zzv
def zL4 (P:Program) (G:Ctrs) (ann:Ann) (hd:Nat) (ps:List Nat) (assign body:Code) (X:List (List PA)→St→Prop) (K:Exit→St→Prop) (y:List PA) (rest:List (List PA)) (s:St):Prop :=
 match lk ann.head hd with
 | some k=>match zgc ps y s.env with
  | some env=>vc P G ann assign (zBW (vc P G ann body (zkW P k (X rest) K)) fun _ _=>False) ⟨env,s.objs,[]⟩
  | none=>False
 | none=>False
def sortB (n:Nat) (p:Nat→Nat→Bool) (c:Nat→Nat→Int):Bool :=
  (List.range n).all fun i => decide (0 ≤ c i i) && (List.range n).all fun j => p i j && (Nat.beq i j || (decide (c i j < 0) && decide (0 ≤ c j i)) || (decide (c j i < 0) && decide (0 ≤ c i j))) &&
    (List.range n).all fun k=>!(decide (c i j < 0) && decide (c j k < 0)) || decide (c i k < 0)
theorem zzw {n:Nat} {p:Nat→Nat→Bool} {c c':Nat→Nat→Int} {s:Nat→Nat→Prop} (h:sortB n p c=true) (hp:∀ i j,p i j=true→s i j) (hc:c'=c):(∀ i j,i < n→j < n→s i j)∧STO n c':=by
 subst hc
 simp only [sortB,List.all_eq_true,List.mem_range,Bool.and_eq_true,Bool.or_eq_true,decide_eq_true_eq,Bool.not_eq_true',Bool.and_eq_false_iff,decide_eq_false_iff_not] at h
 refine ⟨fun i j hi hj=>hp i j ((h i hi).2 j hj).1.1,fun i hi=>(h i hi).1,fun i j hi hj hne=>?_,fun i j k hi hj hk h1 h2=>?_⟩
 ·rcases ((h i hi).2 j hj).1.2 with (h1 | h1) | h1
  ·exact absurd (Nat.eq_of_beq_eq_true h1) hne
  ·exact .inl h1
  ·exact .inr h1
 ·rcases ((h i hi).2 j hj).2 k hk with (h3 | h3) | h3
  ·exact absurd h1 h3
  ·exact absurd h2 h3
  ·exact h3
end Go.Pm
namespace Go.Pm
open Go Go.Sort

/-! Nil slices are slices of length 0. -/
inductive PVle : PV → PV → Prop
  | rfl (p:PV):PVle p p
  | nil (s:Nat) (g:Nat→List PV):PVle .nils (.sl 0 s g)
  | nilm (q:MQ):PVle .nilm (.fm q 0 (fun _=>none))
inductive PAle : PA → PA → Prop
  | one {p q:PV} : PVle p q→PAle (.one p) (.one q)
  | agg {l m:List PV} : RL PVle l m→PAle (.agg l) (.agg m)
theorem zgG {α β:Type} {R:α→β→Prop} : RL R [] []:=trivial
theorem zc3 {α β:Type} {R:α→β→Prop} {a:α} {b:β} {l:List α} {m:List β} (h:R a b) (h':RL R l m):RL R (a :: l) (b :: m):=⟨h,h'⟩
theorem zex {α : Type} {R : α → α → Prop} (h : ∀ a, R a a) : ∀ l : List α, RL R l l
  | []=>trivial
  | a :: l=>⟨h a,zex h l⟩
theorem zeH (a:PA):PAle a a:=by
 cases a with
 | one p=>exact .one (.rfl p)
 | agg l=>exact .agg (zex .rfl l)
def Wk (K:List PA→Prop) (l:List PA):Prop:=∃ l',RL PAle l l'∧K l'
theorem wk {K:List PA→Prop} {l l':List PA} (hk:K l') (h:RL PAle l l'):Wk K l:=⟨l',h,hk⟩
theorem zdA {K:List PA→Prop} {l:List PA} (hk:K l):Wk K l:=⟨l,zex zeH l,hk⟩
theorem zGZ {h:Fz} {p q:PV} {v:Value} (e:PVle p q) (r:Rep h p v):Rep h q v:=by
 cases e with
 | rfl=>exact r
 | nil s g=>cases r;exact .sl0 s g
 | nilm q=>cases r;exact .fmn q _ (fun _ _=>rfl)
theorem zzx {α β γ : Type} {R : α → β → Prop} {S : α → γ → Prop} {T : γ → β → Prop} (h : ∀ a b c, S a c → R a b → T c b) : ∀ (l : List α) (m : List β) (k : List γ), RL S l k → RL R l m → RL T k m
  | [],[],[],_,_=>trivial
  | a :: l,b :: m,c :: k,hs,hr=>⟨h a b c hs.1 hr.1,zzx h l m k hs.2 hr.2⟩
  | [],_ :: _,[],_,hr=>hr.elim
  | [],_,_ :: _,hs,_=>hs.elim
  | _ :: _,_,[],hs,_=>hs.elim
  | _ :: _,[],_ :: _,_,hr=>hr.elim
theorem zCm {h:Fz} {a b:PA} {v:Value} (e:PAle a b) (r:paR h a v):paR h b v:=by
 cases e with
 | one e=>exact zGZ e r
 | agg e =>
  obtain ⟨vs,rfl,hv⟩:=r
  exact ⟨vs,rfl,zzx (R:=Rep h) (S:=PVle) (T:=Rep h) (fun _ _ _ e r=>zGZ e r) _ _ _ e hv⟩
theorem zG0 {h:Fz} {l m:List PA} {v:Value} (e:RL PAle l m) (r:zyX h l v):zyX h m v:=by
 match l,m,e,r with
 | [a],[b],e,r=>exact zCm e.1 r
 | [],[],_,r=>exact r
 | a :: b :: l,c :: d :: m,e,r =>
  obtain ⟨vs,hv,hr⟩:=r
  exact ⟨vs,hv,zzx (R:=paR h) (S:=PAle) (T:=paR h) (fun _ _ _ e r=>zCm e r) _ _ _ e hr⟩
 | [_],_ :: _ :: _,e,_=>exact e.2.elim
 | _ :: _ :: _,[_],e,_=>exact e.2.elim
 | [],_ :: _,e,_=>exact e.elim
 | _ :: _,[],e,_=>exact e.elim
theorem zfG {P : Program} {T : Tabs} (hT : TabsOk P T) {f : FuncId} {C : List PA → COut} (hc : zaf P f)
    (h:∀ args K,(C args).wp K→∃ args',RL PAle args args'∧∃ memo vv ann,vcFun P (csm T memo vv) ann f args' (Wk K)):Ok P f C:=by
  intro args K hK w h0 vs hvs hfz
  obtain ⟨args',hle,memo,vv,ann,hv⟩:=h args K hK
  refine ⟨hc,(zt0 (hT.all memo vv) hv (zzx (R:=paR h0) (S:=PAle) (T:=paR h0) (fun _ _ _ e r=>zCm e r) _ _ _ hle hvs) hfz).mono ?_⟩
  rintro e w' ⟨h',rs,v,⟨rs',hr,hk⟩,he,hres,rest⟩
  exact ⟨h',rs',v,hk,he,zG0 hr hres,rest⟩
/-! Maps, as typed values; the keys of a map. -/
structure Mp where
  n:Nat
  F:List Int→Option (List Int)
instance:Inhabited Mp:=⟨⟨0,fun _=>none⟩⟩

def zG1 (m:Nat) (F:List Int→Option (List Int)) (seen ys:List (List Int)):Prop :=
 ys.Nodup∧(∀ y∈ys,y.length=m∧F y ≠ none∧y ∉ seen)∧∀ c,c.length=m→F c ≠ none→c ∉ seen→c∈ys
def nodupB : List (List Int) → Bool
  | []=>true
  | y :: r=>!r.contains y && nodupB r
def keysB (m n:Nat) (F:List Int→Option (List Int)) (ys:List (List Int)):Bool :=
 Nat.beq ys.length n && ys.all (fun y=>Nat.beq y.length m && (F y).isSome) && nodupB ys
theorem zlj : ∀ {ys : List (List Int)}, nodupB ys = true ↔ ys.Nodup
  | []=>by simp [nodupB]
  | y :: r=>by simp [nodupB,zlj (ys:=r)]
theorem znq {α : Type} [DecidableEq α] : ∀ {l m : List α}, l.Nodup → (∀ x ∈ l, x ∈ m) → m.length ≤ l.length → ∀ x ∈ m, x ∈ l
  | [],m,_,_,hl,x,hx=>by have:m=[]:=List.eq_nil_of_length_eq_zero (by simpa using hl);rw [this] at hx;exact hx
  | a :: l,m,hn,hs,hl,x,hx=>by
    have ha:=hs a List.mem_cons_self
    by_cases h:x=a
    · rw [h];exact List.mem_cons_self
    · have hx2 : x ∈ m.erase a := (List.mem_erase_of_ne h).2 hx
      have hn2:=List.nodup_cons.1 hn
      refine List.mem_cons_of_mem _ (znq hn2.2 (fun z hz=>?_) ?_ x hx2)
      · have hza : z ≠ a := fun e => hn2.1 (e ▸ hz)
        exact (List.mem_erase_of_ne hza).2 (hs z (List.mem_cons_of_mem _ hz))
      · rw [List.length_erase_of_mem ha];simp at hl;omega
theorem zt6 {m n:Nat} {F:List Int→Option (List Int)} {ys:List (List Int)} (h:keysB m n F ys=true) (hf:zGA m n F):zG1 m F [] ys:=by
 simp only [keysB,Bool.and_eq_true,List.all_eq_true] at h
 obtain ⟨⟨h1,h2⟩,h3⟩:=h
 have h1:=Nat.eq_of_beq_eq_true h1
 have h3:=zlj.1 h3
 obtain ⟨ks,k1,k2,k3,k4⟩:=hf
 have hy:∀ y∈ys,y.length=m∧F y ≠ none:=fun y hy=>by
  obtain ⟨a,b⟩:=h2 y hy
  refine ⟨Nat.eq_of_beq_eq_true a,fun e=>?_⟩
  rw [e] at b;cases b
 refine ⟨h3,fun y hy'=>⟨(hy y hy').1,(hy y hy').2,by simp⟩,fun c hc hne _=>?_⟩
 exact znq h3 (fun y hy'=>(k4 y (hy y hy').1).1 (hy y hy').2) (by rw [k1,h1];exact Nat.le_refl _) c ((k4 c hc).1 hne)
theorem zzy {m : Nat} {F : List Int → Option (List Int)} {seen ys : List (List Int)} (h : zG1 m F seen ys) {c : List Int} (hc : c.length = m) (hF : F c ≠ none) (hs : c ∉ seen) :
  ys.Perm (c :: ys.erase c)∧zG1 m F (c :: seen) (ys.erase c)∧(ys.erase c).length+1=ys.length:=by
 obtain ⟨h1,h2,h3⟩:=h
 have hm:=h3 c hc hF hs
 refine ⟨List.perm_cons_erase hm,⟨h1.erase c,fun y hy=>?_,fun d hd hdF hds=>?_⟩,?_⟩
 ·have := (List.Nodup.mem_erase_iff h1).1 hy
  obtain ⟨a,b,e⟩:=h2 y this.2
  exact ⟨a,b,by simp [this.1,e]⟩
 ·simp only [List.mem_cons, not_or] at hds
  exact (List.mem_erase_of_ne hds.1).2 (h3 d hd hdF hds.2)
 ·rw [List.length_erase_of_mem hm]
  have:0 < ys.length:=List.length_pos_of_mem hm
  omega
theorem zCn {m:Nat} {F:List Int→Option (List Int)} {seen ys:List (List Int)} (h:zG1 m F seen ys) (he:∀ c,c.length=m→F c ≠ none→c∈seen):ys=[]:=by
 cases ys with
 | nil=>rfl
 | cons y r =>
  obtain ⟨a,b,e⟩:=h.2.1 y List.mem_cons_self
  exact (e (he y a b)).elim

end Go.Pm
namespace Go.Pm
open Go

theorem zaY {x:Int} (h1 : -9223372036854775808≤x) (h2:x≤9223372036854775807):w64 x=x:=by
 have hb:IntKind.i64.bits=64:=rfl
 have hs:IntKind.i64.signed=true:=rfl
 unfold w64 IntKind.wrap
 rw [hb,hs]
 simp only [Bool.true_and,decide_eq_true_eq]
 split <;> omega
def zkP (c : Nat → Bool) : Nat → Nat → Nat
  | 0,i=>i
  | m+1,i=>match c i with | true=>i | false=>zkP c m (i+1)
theorem zt7 {c:Nat→Bool} {m i:Nat} (h:c i=true):zkP c (m+1) i=i:=by simp only [zkP,h]
theorem zt8 {c:Nat→Bool} {m i:Nat} (h:c i=false):zkP c (m+1) i=zkP c m (i+1):=by simp only [zkP,h]
theorem zjN (c:Nat→Bool) (m i:Nat):i≤zkP c m i∧zkP c m i≤i+m∧(∀ j,i≤j→j < zkP c m i→c j=false)∧(zkP c m i < i+m→c (zkP c m i)=true):=by
 induction m generalizing i with
 | zero=>exact ⟨Nat.le_refl _,Nat.le_refl _,fun j h1 h2=>absurd h2 (by simp only [zkP];omega),fun h=>absurd h (by simp only [zkP];omega)⟩
 | succ m ih =>
  cases e:c i
  ·rw [zt8 e]
   obtain ⟨h1,h2,h3,h4⟩:=ih (i+1)
   refine ⟨by omega,by omega,fun j hj1 hj2=>?_,fun h=>h4 (by omega)⟩
   by_cases hji:j=i
   ·rw [hji];exact e
   ·exact h3 j (by omega) hj2
  ·rw [zt7 e]
   exact ⟨Nat.le_refl _,by omega,fun j h1 h2=>absurd h2 (by omega),fun _=>e⟩
def fst (c:Nat→Bool) (n:Nat):Nat:=zkP c n 0
theorem zAM (c:Nat→Bool) (n:Nat):fst c n≤n:=by have:=(zjN c n 0).2.1;simpa [fst] using this
theorem zAN {c:Nat→Bool} {n j:Nat} (h:j < fst c n):c j=false:=(zjN c n 0).2.2.1 j (Nat.zero_le _) h
theorem zAO {c:Nat→Bool} {n:Nat} (h:fst c n < n):c (fst c n)=true:=(zjN c n 0).2.2.2 (by simpa [fst] using h)
theorem zrd {α : Type} {c : α → Bool} {lpS : Nat → Sl α → Int → Int → Int} {lpP : Nat → Sl α → Int → Int → Bool}
    (hS:∀ k s t i,lpS (k+1) s t i=cond (decide (i < t)) (cond (c (s.get i.toNat)) i (lpS k s t (w64 (i+(1:Int))))) (-1:Int))
    (hP:∀ k s t i,lpP (k+1) s t i=cond (decide (i < t)) (decide (0≤i∧i < (s.len:Int)) && cond (c (s.get i.toNat)) true (lpP k s t (w64 (i+(1:Int))))) true)
    (s:Sl α) (hn:s.len≤9223372036854775807):lpP Fuel s (s.len:Int) 0=true∧lpS Fuel s (s.len:Int) 0=if fst (fun i=>c (s.get i)) s.len < s.len then ((fst (fun i=>c (s.get i)) s.len:Nat):Int) else -1:=by
  have key:∀ (m k i:Nat),i+m=s.len→m < k→lpP k s (s.len:Int) (i:Int)=true ∧
      lpS k s (s.len:Int) (i:Int)=if zkP (fun i=>c (s.get i)) m i < s.len then ((zkP (fun i=>c (s.get i)) m i:Nat):Int) else -1:=by
    intro m
    induction m with
    | zero =>
      intro k i hi hk
      obtain ⟨k,rfl⟩:∃ k',k=k'+1:=⟨k - 1,by omega⟩
      rw [hS,hP]
      have e:decide ((i:Int) < (s.len:Int))=false:=decide_eq_false (by omega)
      rw [e]
      have e5 : ¬ zkP (fun i=>c (s.get i)) 0 i < s.len:=by show ¬ i < s.len;omega
      rw [if_neg e5]
      exact ⟨rfl,rfl⟩
    | succ m ih =>
      intro k i hi hk
      obtain ⟨k,rfl⟩:∃ k',k=k'+1:=⟨k - 1,by omega⟩
      rw [hS,hP]
      have e:decide ((i:Int) < (s.len:Int))=true:=decide_eq_true (by omega)
      have e2:decide (0≤(i:Int)∧(i:Int) < (s.len:Int))=true:=decide_eq_true (by omega)
      have e3:w64 ((i:Int)+1)=((i+1:Nat):Int):=by rw [zaY (by omega) (by omega)];omega
      have e4:(i:Int).toNat=i:=by omega
      rw [e,e2,e3,e4]
      cases hc:c (s.get i)
      · rw [zt8 (c := fun i => c (s.get i)) hc]
        exact ih k (i+1) (by omega) (by omega)
      · rw [zt7 (c := fun i => c (s.get i)) hc, if_pos (by omega)]
        exact ⟨rfl,rfl⟩
  exact key s.len Fuel 0 (by omega) (by simp only [Fuel];omega)

theorem zre {good : Nat → Bool} {fin : Bool} {n : Nat} {lpS lpP : Nat → Int → Bool}
    (hS:∀ (k i:Nat),i < n→lpS (k+1) (i:Int)=cond (good i) (lpS k (w64 ((i:Int)+(1:Int)))) false)
    (hE:∀ k,lpS (k+1) (n:Int)=fin)
    (hP:∀ (k i:Nat),i < n→lpP (k+1) (i:Int)=cond (good i) (lpP k (w64 ((i:Int)+(1:Int)))) true)
    (hPE:∀ k,lpP (k+1) (n:Int)=true) (hn:n≤9223372036854775807) :
    lpP Fuel 0=true∧(lpS Fuel 0=true↔(∀ i,i < n→good i=true)∧fin=true):=by
  have key:∀ (m k i:Nat),i+m=n→m < k→lpP k (i:Int)=true∧(lpS k (i:Int)=true↔(∀ j,i≤j→j < n→good j=true)∧fin=true):=by
    intro m
    induction m with
    | zero =>
      intro k i hi hk
      obtain ⟨k,rfl⟩:∃ k',k=k'+1:=⟨k - 1,by omega⟩
      have:i=n:=by omega
      subst this
      rw [hE,hPE]
      exact ⟨rfl,⟨fun h=>⟨fun j h1 h2=>absurd h2 (by omega),h⟩,fun h=>h.2⟩⟩
    | succ m ih =>
      intro k i hi hk
      obtain ⟨k,rfl⟩:∃ k',k=k'+1:=⟨k - 1,by omega⟩
      rw [hS k i (by omega),hP k i (by omega)]
      have e3:w64 ((i:Int)+1)=((i+1:Nat):Int):=by rw [zaY (by omega) (by omega)];omega
      rw [e3]
      obtain ⟨h1,h2⟩:=ih k (i+1) (by omega) (by omega)
      cases hg:good i
      · refine ⟨rfl, ⟨fun h => (by cases h), fun h => ?_⟩⟩
        have:=h.1 i (Nat.le_refl _) (by omega)
        rw [hg] at this;cases this
      · refine ⟨h1, h2.trans ⟨fun h => ⟨fun j hj1 hj2 => ?_, h.2⟩, fun h => ⟨fun j hj1 hj2 => h.1 j (by omega) hj2, h.2⟩⟩⟩
        by_cases hji:j=i
        · rw [hji];exact hg
        · exact h.1 j (by omega) hj2
  have:=key n Fuel 0 (by omega) (by simp only [Fuel];omega)
  simpa using this

end Go.Pm
namespace Go.Pm
open Go Go.Deep

theorem zzz (b o i j:Nat):((⟨b,o,none⟩:Addr).add i).add j=⟨b,o+i+j,none⟩:=by
 simp only [Addr.add]
 by_cases h1:i=0
 ·subst h1
  by_cases h2:j=0
  ·subst h2;rfl
  ·rw [if_neg h2];rfl
 ·rw [if_neg h1]
  by_cases h2:j=0
  ·subst h2;rfl
  ·rw [if_neg h2]
def H0 (w:World):Fz:=fun b=>(w.heap[b]?).map .fz
theorem hw_H0 (w:World):Hw (H0 w) w:=by
 intro b x h
 unfold H0 at h
 cases e:w.heap[b]? with
 | none=>rw [e] at h;cases h
 | some o=>rw [e] at h;cases h;exact ⟨o,rfl,rfl⟩
def wfI (x:Int):Prop:=-9223372036854775808≤x∧x≤9223372036854775807
section
variable {H:Type} {en:TypeId×Value→H} {P:Program} {w:World} {sp:Nat→Bool} {held:Bool}
def Rd (H:Type) (en:TypeId×Value→H) (P:Program) (w:World) (sp:Nat→Bool) (held:Bool) (t:TypeId) {α:Type} (enc:α→List PV) (wf:α→Prop):Prop :=
 ∀ (fuel:Nat) (cs:List Value) (x:DataW H×List MemPlace),DataW.trod en P w 0 sp held fuel t cs=some x→∃ a:α,RL (Rep (H0 w)) (enc a) cs∧wf a
theorem zG2 {t:TypeId} (ht:P.underlying t=some (.int .i64)):Rd H en P w sp held t (fun x=>[.int .i64 x]) wfI:=by
 intro fuel cs x h
 obtain ⟨n,rfl,_,hw⟩:=DataW.trod_int ht h
 refine ⟨n,⟨.int _ _,trivial⟩,?_⟩
 simp only [Lit.wf,Bool.and_eq_true,decide_eq_true_eq] at hw
 exact ⟨hw.1,hw.2⟩
theorem zt9 {t : TypeId} {fs : Array Field} (ht : P.underlying t = some (.struct fs)) {fuel : Nat} {cs : List Value} {x : DataW H × List MemPlace} (h : DataW.trod en P w 0 sp held fuel t cs = some x) :
  cs.length=P.cellsOf t∧∀ (i:Nat) (f:Field),fs[i]? = some f→∃ n y,DataW.trod en P w 0 sp held n f.type ((cs.drop f.offset).take (P.cellsOf f.type))=some y:=by
 obtain ⟨xs,n,_,_,hl,hx,hf⟩:=DataW.trod_struct ht h
 refine ⟨hl,fun i f hi=>?_⟩
 have hlt:i < xs.length:=by rw [hx];exact (Array.getElem?_eq_some_iff.1 hi).1
 exact ⟨n,xs[i],by rw [hf i f hi,List.getElem?_eq_getElem hlt]⟩
theorem zrf {t e : TypeId} {α : Type} [Inhabited α] {enc : α → List PV} {wf : α → Prop} {s : Nat} (ht : P.underlying t = some (.slice e)) (hc : P.cellsOf e = s) (hs : 0 < s) (hlen : ∀ a, (enc a).length = s)
    (hel:Rd H en P w sp held e enc wf):Rd H en P w sp held t (fun x:Sl α=>[.sl x.len s (fun i=>enc (x.get i))]) (fun x=>x.len≤9223372036854775807∧∀ i,i < x.len→wf (x.get i)):=by
  intro fuel cs x h
  rcases open_slice ht h with ⟨rfl,_⟩ | ⟨a,len,cap,m,n,D,Pl,rfl,_,hl,hm,hmm,_,hget⟩
  · exact ⟨⟨0,default⟩,⟨.sl0 _ _,trivial⟩,Nat.zero_le _,fun i hi=>absurd hi (Nat.not_lt_zero i)⟩
  · by_cases h0 : len = 0
    · subst h0
      exact ⟨⟨0,default⟩,⟨.sle _ _ _ _,trivial⟩,Nat.zero_le _,fun i hi=>absurd hi (Nat.not_lt_zero i)⟩
    · have hlm : len ≤ m := by rw [hmm]; split <;> omega
      rw [hc] at hget
      have hex:∀ i,i < len→∃ y:α,(∃ cs',w.cells? 0 (a.add (i * s)) s=some cs'∧RL (Rep (H0 w)) (enc y) cs')∧wf y:=by
        intro i hi
        obtain ⟨cs',h1,h2⟩:=hget i (by omega)
        obtain ⟨y,h3,h4⟩:=hel _ _ _ h2
        exact ⟨y,⟨cs',h1,h3⟩,h4⟩
      have hch:∃ f:Nat→α,∀ i,i < len→(∃ cs',w.cells? 0 (a.add (i * s)) s=some cs'∧RL (Rep (H0 w)) (enc (f i)) cs')∧wf (f i):=by
        refine ⟨fun i=>if hi:i < len then Classical.choose (hex i hi) else default,fun i hi=>?_⟩
        simp only [dif_pos hi]
        exact Classical.choose_spec (hex i hi)
      obtain ⟨f,hf⟩:=hch
      -- the block
      have hcell:∀ i,i < len→∀ j,j < s→∃ cs',w.cells? 0 (a.add (i * s)) s=some cs'∧RL (Rep (H0 w)) (enc (f i)) cs'∧w.cell? ((a.add (i * s)).add j)=cs'[j]?∧cs'.length=s:=by
        intro i hi j hj
        obtain ⟨⟨cs',h1,h2⟩,_⟩:=hf i hi
        obtain ⟨_,h3,h4⟩:=World.cells?_some h1
        exact ⟨cs',h1,h2,h4 j hj,h3⟩
      obtain ⟨cs0,_,_,hc0,hl0⟩:=hcell 0 (by omega) 0 hs
      have ha0:w.cell? a=cs0[0]?:=by simpa [Addr.add] using hc0
      rw [List.getElem?_eq_getElem (by omega)] at ha0
      obtain ⟨C,ty,fr,hblk,hspot⟩:∃ C ty fr,w.heap[a.block]? = some (.cells C ty fr)∧a.spot=none:=by
        unfold World.cell? at ha0
        split at ha0
        · rename_i C ty fr hb
          refine ⟨C,ty,fr,hb,?_⟩
          cases hsp:a.spot with
          | none=>rfl
          | some k=>rw [hsp] at ha0;simp at ha0
        · cases ha0
      have ea:a=⟨a.block,a.off,none⟩:=by rw [← hspot]
      have hat:∀ i j,i < len→j < s→∃ cs',RL (Rep (H0 w)) (enc (f i)) cs'∧C[a.off+i * s+j]? = cs'[j]?∧cs'.length=s:=by
        intro i j hi hj
        obtain ⟨cs',_,h2,h3,h4⟩:=hcell i hi j hj
        refine ⟨cs',h2,?_,h4⟩
        rw [← h3]
        have e2:(a.add (i * s)).add j=⟨a.block,a.off+i * s+j,none⟩:=(congrArg (fun z:Addr=>(z.add (i * s)).add j) ea).trans (zzz _ _ _ _)
        rw [e2]
        simp [World.cell?,hblk]
      refine ⟨⟨len,f⟩,⟨?_,trivial⟩,by simp only [maxLen] at hm;show len≤_;omega,fun i hi=>(hf i hi).2⟩
      rw [ea]
      refine .sl len s _ a.block a.off cap C ty fr (fun i j=>C.getD (a.off+i * s+j) undef) (by simp [H0,hblk]) hl (fun i _=>hlen _) ?_ ?_
      · intro i j x hi hx
        have hj:j < s:=by have:=(List.getElem?_eq_some_iff.1 hx).1;rw [hlen] at this;exact this
        obtain ⟨cs',h1,h2,h3⟩:=hat i j hi hj
        rw [Array.getD_eq_getD_getElem?,h2,List.getElem?_eq_getElem (by omega)]
        rfl
      · intro i j x hi hx
        have hj:j < s:=by have:=(List.getElem?_eq_some_iff.1 hx).1;rw [hlen] at this;exact this
        obtain ⟨cs',h1,h2,h3⟩:=hat i j hi hj
        obtain ⟨v,hv,hr⟩:=h1.get j x hx
        rw [Array.getD_eq_getD_getElem?,h2,hv]
        exact hr
theorem zgR {α:Type} (l:List α) (o s:Nat):l.drop o=(l.drop o).take s ++ l.drop (o+s):=by
 rw [← List.drop_drop]
 exact (List.take_append_drop s (l.drop o)).symm
def zKk : TypeDesc → Bool
  | .struct _=>false
  | .array _ _=>false
  | _=>true
theorem okWide_one {t:TypeId} {d:TypeDesc} {r:Reach} {base:Nat} {v:Value} (ht:P.underlying t=some d) (hd:zKk d=true) (h:Value.okWide P w r base t v):v.cells.toList=[v]:=by
 unfold Value.okWide at h
 rw [ht] at h
 cases v with
 | agg cs =>
  exfalso
  cases d <;> first | (cases hd;done) | (simp only [Cell.okWide,Cell.ok,ht] at h)
 | _=>rfl
theorem pa_one {h:Fz} {p:PV} {v:Value} (hv:v.cells.toList=[v]) (r:RL (Rep h) [p] v.cells.toList):paR h (.one p) v:=by
 rw [hv] at r
 exact r.1
theorem below_H0 {w':World} (b:Bel (H0 w) w.heap.size w w'):Go.RowKit.Below w.heap.size w w' :=
 ⟨b.os,b.tape,b.output,b.size,fun k hk=>b.block k hk fun F e=>by
  unfold H0 at e
  cases hb:w.heap[k]? <;> rw [hb] at e <;> cases e⟩
end
end Go.Pm
/-
  DERIVED: THE SHELF's CONTRACTS AT THIS DUMP,IN PLAIN WORDS (tools/lay-plain.mjs out of 'YtkpjhhoafenogaaLs.lean',which tools/lay-shelf.mjs wrote): THE SAME DECLARATIONS UNDER THE SAME NAMES: 'import','namespace','open','def','theorem' AND NOTHING ELSE: no command of the shelf's: FOR A HAND-IN. Each laying: the table of numbers ('.._ren') and one theorem,a field a fact of the dump's own or the kernel's comparison;each contract: ONE APPLICATION.
-/
namespace Go.Proofs
open Go.Shelf
def Try.laysS106_ren:Go.Shelf.Ren:=⟨fun | 6=>106 | 15=>122 | 14=>121 | 28=>132 | 29=>133 | 20=>124 | 21=>125 | 22=>126 | 23=>127 | 24=>128 | 25=>129 | 26=>130 | 27=>131 | 46=>134 | 47=>135 | 48=>136 | 49=>137 | 50=>138 | 57=>139 | n=>n,fun | 22=>102 | 24=>118 | 25=>147 | 3=>3 | 39=>156 | 0=>0 | 53=>166 | 55=>168 | 4=>4 | 46=>159 | 45=>158 | 50=>163 | 5=>5 | 9=>9 | 66=>169 | 70=>173 | 76=>175 | 77=>143 | n=>n,fun | n=>n⟩
theorem Try.laysS106 : Go.Proofs.SlLaysF0.n6 Try.prog Try.laysS106_ren := {
  mixed:=by kernel_rfl
  f6:=⟨Try.f106.name,by decide,Try.func106.trans (congrArg some (by kernel_rfl))⟩
  f14:=⟨Try.f121.name,by decide,Try.func121.trans (congrArg some (by kernel_rfl))⟩
  f15:=Try.func122.trans (congrArg some (by kernel_rfl))
  f20:=⟨Try.f124.name,by decide,Try.func124.trans (congrArg some (by kernel_rfl))⟩
  f21:=⟨Try.f125.name,by decide,Try.func125.trans (congrArg some (by kernel_rfl))⟩
  f22:=⟨Try.f126.name,by decide,Try.func126.trans (congrArg some (by kernel_rfl))⟩
  f23:=⟨Try.f127.name,by decide,Try.func127.trans (congrArg some (by kernel_rfl))⟩
  f24:=⟨Try.f128.name,by decide,Try.func128.trans (congrArg some (by kernel_rfl))⟩
  f25:=⟨Try.f129.name,by decide,Try.func129.trans (congrArg some (by kernel_rfl))⟩
  f26:=⟨Try.f130.name,by decide,Try.func130.trans (congrArg some (by kernel_rfl))⟩
  f27:=⟨Try.f131.name,by decide,Try.func131.trans (congrArg some (by kernel_rfl))⟩
  f28:=Try.func132.trans (congrArg some (by kernel_rfl))
  f29:=Try.func133.trans (congrArg some (by kernel_rfl))
  f46:=⟨Try.f134.name,by decide,Try.func134.trans (congrArg some (by kernel_rfl))⟩
  f47:=Try.func135.trans (congrArg some (by kernel_rfl))
  f48:=Try.func136.trans (congrArg some (by kernel_rfl))
  f49:=⟨Try.f137.name,by decide,Try.func137.trans (congrArg some (by kernel_rfl))⟩
  f50:=⟨Try.f138.name,by decide,Try.func138.trans (congrArg some (by kernel_rfl))⟩
  f57:=⟨Try.f139.name,by decide,Try.func139.trans (congrArg some (by kernel_rfl))⟩
  t0:=Try.underlying0
  a0:=Try.isAgg0
  z0:=Try.sizeOf0
  v0:=Try.zeroValue0
  t3:=Try.underlying3
  a3:=Try.isAgg3
  z3:=Try.sizeOf3
  v3:=Try.zeroValue3
  t4:=Try.underlying4
  a4:=Try.isAgg4
  z4:=Try.sizeOf4
  v4:=Try.zeroValue4
  t5:=Try.underlying5
  a5:=Try.isAgg5
  z5:=Try.sizeOf5
  v5:=Try.zeroValue5
  t9:=Try.underlying9
  a9:=Try.isAgg9
  z9:=Try.sizeOf9
  v9:=Try.zeroValue9
  t22:=Try.underlying102
  a22:=Try.isAgg102
  z22:=Try.sizeOf102
  v22:=Try.zeroValue102
  t25:=Try.underlying147
  a25:=Try.isAgg147
  z25:=Try.sizeOf147
  v25:=Try.zeroValue147
  t39:=Try.underlying156
  a39:=Try.isAgg156
  z39:=Try.sizeOf156
  v39:=Try.zeroValue156
  t45:=Try.underlying158
  a45:=Try.isAgg158
  z45:=Try.sizeOf158
  v45:=Try.zeroValue158
  t46:=Try.underlying159
  a46:=Try.isAgg159
  z46:=Try.sizeOf159
  v46:=Try.zeroValue159
  t50:=Try.underlying163
  a50:=Try.isAgg163
  z50:=Try.sizeOf163
  v50:=Try.zeroValue163
  t53:=Try.underlying166
  a53:=Try.isAgg166
  z53:=Try.sizeOf166
  v53:=Try.zeroValue166
  t55:=Try.underlying168
  a55:=Try.isAgg168
  z55:=Try.sizeOf168
  v55:=Try.zeroValue168
  t66:=Try.underlying169
  a66:=Try.isAgg169
  z66:=Try.sizeOf169
  v66:=Try.zeroValue169
  t70:=Try.underlying173
  a70:=Try.isAgg173
  z70:=Try.sizeOf173
  v70:=Try.zeroValue173
  t76:=Try.underlying175
  a76:=Try.isAgg175
  z76:=Try.sizeOf175
  v76:=Try.zeroValue175
  t77:=Try.underlying143
  a77:=Try.isAgg143
  z77:=Try.sizeOf143
  v77:=Try.zeroValue143 }
end Go.Proofs
namespace Go.Pm
open Go.Shelf Go.RowKit Go.Lib Go.Sort Go.Proofs

section perm
variable {c:Nat→Nat→Int}
theorem zgq (x : Nat) : ∀ l : List Nat, (zyS c x l).Perm (x :: l)
  | []=>.refl _
  | y :: r=>by
    unfold zyS
    split
    · exact .refl _
    · exact ((zgq x r).cons y).trans (.swap _ _ _)
theorem zlk (n:Nat):(zsq n c).Perm (List.range n):=by
 unfold zsq
 generalize List.range n=l
 induction l with
 | nil=>exact .refl _
 | cons x l ih=>exact (zgq x _).trans (ih.cons x)
def leB (c:Nat→Nat→Int) (a b:Nat):Prop:=¬ c b a < 0
theorem zua {n : Nat} (H : STO n c) {x : Nat} (hx : x < n) : ∀ {l : List Nat}, (∀ y ∈ l, y < n) → l.Pairwise (leB c) → (zyS c x l).Pairwise (leB c)
  | [],_,_=>by simp [zyS]
  | y :: r,hl,hp=>by
    have hy:=hl y List.mem_cons_self
    rw [List.pairwise_cons] at hp
    unfold zyS
    split
    · rename_i h
      have h:=of_decide_eq_true h
      rw [List.pairwise_cons]
      refine ⟨fun z hz=>?_,List.pairwise_cons.2 hp⟩
      have hxy:leB c x y:=fun h2=>by
        have:=H.1 x hx
        have:=H.2.2 x y x hx hy hx h h2
        omega
      rcases List.mem_cons.1 hz with rfl | hz
      · exact hxy
      · intro h2
        exact hp.1 z hz (H.2.2 z x y (hl z (List.mem_cons_of_mem _ hz)) hx hy h2 h)
    · rename_i h
      have h:=of_decide_eq_false h
      rw [List.pairwise_cons]
      refine ⟨fun z hz=>?_,zua H hx (fun z hz=>hl z (List.mem_cons_of_mem _ hz)) hp.2⟩
      rcases List.mem_cons.1 ((zgq x r).mem_iff.1 hz) with rfl | hz
      · exact h
      · exact hp.1 z hz
theorem zzA {n:Nat} (H:STO n c):(zsq n c).Pairwise (leB c):=by
 have key:∀ l:List Nat,(∀ y∈l,y < n)→(l.foldr (zyS c) []).Pairwise (leB c)∧∀ y∈l.foldr (zyS c) [],y < n:=by
  intro l
  induction l with
  | nil=>intro _;exact ⟨List.Pairwise.nil,fun y hy=>by simp at hy⟩
  | cons x l ih =>
   intro h
   obtain ⟨h1,h2⟩:=ih fun y hy=>h y (List.mem_cons_of_mem _ hy)
   have hx:=h x List.mem_cons_self
   refine ⟨zua H hx h2 h1,fun y hy=>?_⟩
   rcases List.mem_cons.1 ((zgq x _).mem_iff.1 hy) with rfl | hy
   ·exact hx
   ·exact h2 y hy
 exact (key _ fun y hy=>List.mem_range.1 hy).1
theorem zsQ {n:Nat} (H:STO n c) {l:List Nat} (hp:l.Perm (List.range n)) (hs:l.Pairwise (leB c)):l=zsq n c:=by
 refine List.Perm.eq_of_pairwise (le:=leB c) (fun a b ha hb h1 h2=>?_) hs (zzA H) (hp.trans (zlk n).symm)
 have ha:=List.mem_range.1 (hp.mem_iff.1 ha)
 have hb:=List.mem_range.1 ((zlk n).mem_iff.1 hb)
 by_cases e:a=b
 ·exact e
 ·rcases H.2.1 a b ha hb e with h | h
  ·exact absurd h.1 h2
  ·exact absurd h.1 h1
end perm

theorem zue {w w':World} (h1:w'.heap=w.heap) (h2:w'.tape=w.tape) (h3:w'.drawn=w.drawn) (h4:w'.os=w.os) (h5:w'.output=w.output):w'=w:=by
 cases w;cases w';simp_all
theorem zzB {w w':World} {h:Fz} (b:Bel h w.heap.size w w') (hi:∀ k F,h k ≠ some (.inv F)):∃ q os,w'=grow (w.drewN q) os:=by
 refine ⟨w'.drawn - w.drawn,w'.heap.extract w.heap.size w'.heap.size,zue ?_ b.tape ?_ b.os b.output⟩
 ·show w'.heap = w.heap ++ w'.heap.extract w.heap.size w'.heap.size
  apply Array.ext_getElem?
  intro i
  rw [Array.getElem?_append]
  split
  ·rename_i hl;exact b.block i hl (fun F=>hi i F)
  ·rename_i hl
   rw [Array.getElem?_extract]
   by_cases hlt:i < w'.heap.size
   ·rw [if_pos (by omega)];congr 1;omega
   ·rw [if_neg (by omega),Array.getElem?_eq_none (by omega)]
 ·show w'.drawn = w.drawn + (w'.drawn - w.drawn)
  have:=b.drawn;omega

theorem znr {w : World} {g q : Nat} {cur : Array Value} {e : TypeId} {fr : Nat × Nat} {off : Nat} (F : Array Value) (hb : w.heap[g]? = some (.cells cur e fr)) :
  ∃ cur',(putRow id (Sort.ahead w q) g off F).heap[g]? = some (.cells cur' e fr)∧cur'.size=cur.size:=by
 refine ⟨putCells id off F cur,?_,by simp [putCells]⟩
 simp [putRow,mapBlock,Sort.ahead,Array.getElem?_modify,hb,onCells]
theorem zjO {w:World} {g q off:Nat} (F:Array Value) {k:Nat} (hk:k ≠ g):(putRow id (Sort.ahead w q) g off F).heap[k]? = w.heap[k]?:=by
 simp [putRow,mapBlock,Sort.ahead,Array.getElem?_modify,Ne.symm hk]

theorem zuf {P:Program} {ρ:Ren} (L:SlLaysF0.n6 P ρ) {e s b:Nat} (he:ρ.t 24=e) (hag:zd7 P e=some true) (hsz:szT P e=some s) (hM : ¬ zmM) (hc:zaf P (ρ.f 6)):zlw P (ρ.f 6) (.sort e s b):=by
 intro w h base v n get gf caps cv ag C hC hcv hag' _ hpos ⟨xs,hown,hr⟩ hone hw hob hbase hn hS hO
 rw [hag] at hag';simp only [Option.some.injEq] at hag';subst hag'
 refine ⟨hc,?_⟩
 have hni:∀ k F,h k ≠ some (.inv F):=fun k F hk=>by obtain ⟨o,_,ho⟩:=hw k _ hk;exact hM ho.2
 have hdr:∀ (w':World) (k:Nat),w.drawn≤w.drawn+k:=fun _ k=>Nat.le_add_right _ _
 have none:∀ (p:Option Addr) (cap:Nat),n=0→v=.slice p 0 cap→Calls P (ρ.f 6) #[v,.func (.func gf) #[] cv.toArray] w fun r w'=>r=.returned (.tuple #[])∧zGm h w' base e s v n (zoe n (zs4 C caps true get) get)∧GrB w w' v.ownBlock:=by
  rintro p cap rfl rfl
  refine (AnyF.slices_SortFunc_none L p cap _ w).mono ?_
  rintro r w' ⟨rfl,rfl⟩
  exact ⟨rfl,⟨xs,hown,fun i hi=>absurd hi (Nat.not_lt_zero i)⟩,⟨rfl,rfl,rfl,Nat.le_refl _,fun _ _ _=>rfl⟩,Nat.le_refl _⟩
 rcases hown.2 with ⟨h1,h2⟩ | ⟨blk,cap,cur,rfl,hb,hcell,hncap,hcap,hcs,htk⟩
 ·exact none _ _ h2 h1
 by_cases hn0:n=0
 ·subst hn0;exact none _ _ rfl rfl
 have:Inhabited (Fin n):=⟨⟨0,by omega⟩⟩
 let enc:Fin n→List Value:=fun i=>(xs.drop (i.val * s)).take s
 let c:=zs4 C caps true get
 let cf:Fin n→Fin n→Int:=fun x y=>c x.val y.val
 let d:Array (Fin n):=Array.ofFn id
 have hds:d.size=n:=Array.size_ofFn
 have hdi:∀ i (hi:i < n),d[i]! = ⟨i,hi⟩:=fun i hi=>by
  rw [getElem!_pos d i (by rw [hds];exact hi)];simp [d]
 have hlt:blk < w.heap.size:=(Array.getElem?_eq_some_iff.1 hcell).1
 have hbn:h blk=Option.none:=hob blk rfl
 have hmul:∀ i,i < n→i * s+s≤n * s:=fun i hi=>by have:=Nat.mul_le_mul_right s (Nat.succ_le_of_lt hi);rw [Nat.succ_mul] at this;exact this
 have hk:∀ x,(enc x).length=s:=fun x=>by
  have:=hmul x.val x.isLt
  simp only [enc,List.length_take,List.length_drop,hown.1];omega
 have hcur:∀ j,j < n * s→cur[j]? = xs[j]?:=fun j hj=>by
  have:(cur.toList.take (n * s))[j]? = xs[j]?:=by rw [htk]
  rw [List.getElem?_take,if_pos hj] at this;simpa using this
 have hxl:∀ j,j < n * s→∃ u,xs[j]? = some u:=fun j hj=>⟨xs[j]'(by rw [hown.1];exact hj),List.getElem?_eq_getElem _⟩
 have h1:∀ x,∀ u∈enc x,u.oneCell'=true:=fun x u hu=>by
  obtain ⟨j,hj⟩:=List.getElem?_of_mem hu
  obtain ⟨p,_,hp⟩:=(hr x.val x.isLt).get' j u hj
  exact hp.one
 have hflat:∀ j (hj:j < n * s),(flatK enc s d)[j]! = xs[j]'(by rw [hown.1];exact hj):=fun j hj=>by
  have hq:j / s < n:=Nat.div_lt_of_lt_mul (by rw [Nat.mul_comm];exact hj)
  rw [get_flatK _ _ _ _ (by rw [hds];exact hj),hdi _ hq]
  have hm:=Nat.mod_lt j hpos
  have hdm:=Nat.div_add_mod j s
  rw [getElem!_pos _ _ (by rw [hk];exact hm)]
  simp only [enc,List.getElem_take,List.getElem_drop]
  congr 1
  rw [Nat.mul_comm];exact hdm
 have hH:HoldsK enc s w blk 0 d:=fun j hj=>by
  have hj:j < n * s:=by rw [size_flatK,hds] at hj;exact hj
  refine ⟨?_,frozen_of_row w blk _ cur e hcell⟩
  rw [hflat j hj,cell_of hcell,Nat.zero_add,hcur j hj]
  exact List.getElem?_eq_getElem _
 have eg:∀ args w,(callFunc gf args).run P w=.ok (.enter gf args) w:=by
  have hcg:zaf P gf:=by
   have hs0:=hS 0 0 (by omega) (by omega)
   unfold zGl at hs0
   split at hs0
   ·rename_i s0 c0 hat
    have hwp:(C (elP true (get 0) :: elP true (get 0) :: caps.map .one)).wp (fun _=>True):=by
     unfold zyR at hat
     split at hat
     ·rename_i e1;rw [e1];trivial
     ·rename_i e1;simp only [Option.some.injEq,Prod.mk.injEq] at hat;rw [e1];exact ⟨by rw [hat.1];exact hs0,trivial⟩
     ·cases hat
    exact (hC _ _ hwp w h (.agg (enc ⟨0,by omega⟩).toArray :: .agg (enc ⟨0,by omega⟩).toArray :: cv) ⟨⟨_,rfl,hr 0 (by omega)⟩,⟨_,rfl,hr 0 (by omega)⟩,RL.map_left.2 hcv⟩ hw).1
   ·exact hs0.elim
  exact fun args w=>zc1 hcg
 have hcmp:CmpLays P gf cv.toArray enc s cf blk 0 d.size w:=by
  intro m os dk hdk x y
  have hs0:=hS x.val y.val x.isLt y.isLt
  unfold zGl at hs0
  split at hs0
  ·rename_i s0 c0 hat
   have hwp:(C (elP true (get x.val) :: elP true (get y.val) :: caps.map .one)).wp (fun rs=>rs=[.one (.int .i64 (cf x y))]):=by
    have hcv:cf x y=c0:=by show zs4 C caps true get x.val y.val=c0;unfold zs4;rw [hat]
    rw [hcv]
    unfold zyR at hat
    split at hat
    ·rename_i e1;simp only [Option.some.injEq,Prod.mk.injEq] at hat;rw [e1,hat.2];rfl
    ·rename_i e1;simp only [Option.some.injEq,Prod.mk.injEq] at hat;rw [e1,hat.2];exact ⟨by rw [hat.1];exact hs0,rfl⟩
    ·cases hat
   have hwh:Hw h (sortWorldK enc s w blk 0 m dk os):=hw.same fun k o hk=>by
    have hkb:k ≠ blk:=fun e=>by rw [e,hbn] at hk;cases hk
    have hkl:=hw.lt hk
    show ((putRow id (Sort.ahead w m) blk 0 (flatK enc s dk)).heap ++ os)[k]? = _
    rw [Array.getElem?_append_left (by simpa [putRow,mapBlock,Sort.ahead] using hkl)]
    exact zjO _ hkb
   obtain ⟨_,hrun⟩:=hC _ _ hwp (sortWorldK enc s w blk 0 m dk os) h (.agg (enc x).toArray :: .agg (enc y).toArray :: cv) ⟨⟨_,rfl,hr x.val x.isLt⟩,⟨_,rfl,hr y.val y.isLt⟩,RL.map_left.2 hcv⟩ hwh
   rw [show (#[Value.agg (enc x).toArray,.agg (enc y).toArray] ++ cv.toArray)=(Value.agg (enc x).toArray :: .agg (enc y).toArray :: cv).toArray by simp]
   refine hrun.mono ?_
   rintro e' w' ⟨h',rs,v',hrs,rfl,hres,hbel,_,_,_⟩
   subst hrs
   have hv':v'=.int .i64 (cf x y):=by
    have:Rep h' (.int .i64 (cf x y)) v':=hres
    cases this;rfl
   subst hv'
   exact ⟨rfl,zzB hbel hni⟩
  ·exact hs0.elim
 have hSWO:SWO (ltOf cf):=by
  refine ⟨fun x=>?_,fun x y z hxy hyz=>?_,fun x y z hxy hyz=>?_⟩
  ·have : 0 ≤ c x.val x.val := hO.1 x.val x.isLt
   simp only [ltOf,decide_eq_false_iff_not];show ¬ c x.val x.val < 0;omega
  ·simp only [ltOf, decide_eq_true_eq] at hxy hyz ⊢
   exact hO.2.2 _ _ _ x.isLt y.isLt z.isLt hxy hyz
  ·simp only [ltOf, decide_eq_false_iff_not] at hxy hyz ⊢
   intro hxz
   have hxy : ¬ c x.val y.val < 0:=hxy
   have hyz : ¬ c y.val z.val < 0:=hyz
   have hxz:c x.val z.val < 0:=hxz
   by_cases e1:y.val=z.val
   ·rw [e1] at hxy;exact hxy hxz
   ·by_cases e2 : x.val = y.val
    ·rw [e2] at hxz;exact hyz hxz
    ·have a1 : c z.val y.val < 0 := by rcases hO.2.1 y.val z.val y.isLt z.isLt e1 with h | h; exact absurd h.1 hyz; exact h.1
     exact hxy (hO.2.2 _ _ _ x.isLt z.isLt y.isLt hxz a1)
 have aE:∀ w,(isAgg (ρ.t 24)).run P w=.ok true w:=fun w=>by rw [he];exact zdv hag
 have zE:∀ w,(Go.sizeOf (ρ.t 24)).run P w=.ok s w:=fun w=>by rw [he];exact run_sizeOf hsz
 have hrun:=AnyQ.slices_SortFunc L s aE zE enc hk h1 cf hSWO gf cv.toArray blk 0 cap d w eg hcmp hH hlt (by rw [hds];omega)
 rw [hds] at hrun
 refine hrun.mono ?_
 rintro r w' ⟨rfl,d',m,os,hperm,hsort,rfl⟩
 obtain ⟨hps,_,hpp⟩:=hperm
 have hd's:d'.size=n:=by rw [hps,hds]
 have hall:∀ (z:Array (Fin n)),z.size=n→z.extract 0 n=z:=fun z hz=>Array.ext (by simp [hz]) (fun i h1 h2=>by simp)
 rw [hall d' hd's,hall d hds] at hpp
 have hl:d'.toList.map Fin.val=zsq n c:=by
  refine zsQ hO ?_ ?_
  ·refine (hpp.map Fin.val).trans ?_
   have:d.toList.map Fin.val=List.range n:=by
    apply List.ext_getElem?
    intro i
    simp only [d,List.getElem?_map]
    by_cases hi:i < n
    ·simp [hi]
    ·rw [List.getElem?_eq_none (by simp;omega),List.getElem?_eq_none (by simp;omega)];rfl
   rw [this]
  ·rw [List.pairwise_map, List.pairwise_iff_getElem]
   intro i j hi hj hij
   have hi':i < n:=by simpa [hd's] using hi
   have hj':j < n:=by simpa [hd's] using hj
   have:=hsort i j (Nat.zero_le _) hij hj'
   rw [getElem!_pos d' j (by omega),getElem!_pos d' i (by omega)] at this
   simp only [ltOf,decide_eq_false_iff_not] at this
   exact this
 have hget:∀ i (hi:i < n),zoe n c get i=get (d'[i]'(by omega)).val:=fun i hi=>by
  unfold zoe
  rw [← hl]
  congr 1
  rw [List.getD_eq_getElem?_getD,List.getElem?_map]
  simp [hd's,hi]
 obtain ⟨cur',hcell',hsz'⟩:=znr (q:=m) (off:=0) (flatK enc s d') hcell
 have hgrow:(sortWorldK enc s w blk 0 m d' os).heap[blk]? = some (.cells cur' e (0,0)):=by
  show ((putRow id (Sort.ahead w m) blk 0 (flatK enc s d')).heap ++ os)[blk]? = _
  rw [Array.getElem?_append_left (by simpa [putRow,mapBlock,Sort.ahead] using hlt)]
  exact hcell'
 have hH':HoldsK enc s (sortWorldK enc s w blk 0 m d' os) blk 0 d':=holdsK_sortWorldK_c enc s w blk 0 d d' m os hH hlt (by rw [hd's,hds])
 have hcur':∀ j (hj:j < n * s),cur'[j]? = some ((flatK enc s d')[j]!):=fun j hj=>by
  have:=(hH' j (by rw [size_flatK,hd's];exact hj)).1
  rw [cell_of hgrow,Nat.zero_add] at this
  exact this
 refine ⟨rfl,⟨cur'.toList.take (n * s),⟨by rw [List.length_take,Array.length_toList,hsz',hcs];exact Nat.min_eq_left (Nat.mul_le_mul_right s hncap),.inr ⟨blk,cap,cur',rfl,hb,hgrow,hncap,hcap,by rw [hsz',hcs],rfl⟩⟩,fun i hi=>?_⟩,?_⟩
 ·have e1:((cur'.toList.take (n * s)).drop (i * s)).take s=enc (d'[i]'(by omega)):=by
   apply List.ext_getElem?
   intro j
   have hm:=hmul i hi
   rw [List.getElem?_take]
   split
   ·rename_i hj
    rw [List.getElem?_drop,List.getElem?_take,if_pos (by omega),Array.getElem?_toList,hcur' _ (by omega)]
    have hdiv:(i * s+j) / s=i:=by rw [Nat.mul_comm,Nat.mul_add_div hpos,Nat.div_eq_of_lt hj,Nat.add_zero]
    have hmod:(i * s+j) % s=j:=by rw [Nat.mul_comm,Nat.mul_add_mod,Nat.mod_eq_of_lt hj]
    rw [get_flatK _ _ _ _ (by rw [hd's];omega),hdiv,hmod,getElem!_pos d' i (by omega),getElem!_pos _ _ (by rw [hk];exact hj)]
    exact (List.getElem?_eq_getElem _).symm
   ·rename_i hj
    rw [List.getElem?_eq_none (by rw [hk];omega)]
  rw [e1,hget i hi]
  exact hr _ (d'[i]'(by omega)).isLt
 ·refine ⟨⟨rfl, rfl, rfl, ?_, fun k hk hne => ?_⟩, Nat.le_add_right _ _⟩
  ·show w.heap.size ≤ ((putRow id (Sort.ahead w m) blk 0 (flatK enc s d')).heap ++ os).size
   simp [putRow,mapBlock,Sort.ahead]
  ·show ((putRow id (Sort.ahead w m) blk 0 (flatK enc s d')).heap ++ os)[k]? = _
   rw [Array.getElem?_append_left (by simpa [putRow,mapBlock,Sort.ahead] using hk)]
   exact zjO _ fun e=>hne (by rw [e];rfl)
end Go.Pm
namespace Go.Pm

abbrev zI (x:Int):DV:=.one (.c (.p (.int .i64 x)))
abbrev zB (x:Bool):DV:=.one (.c (.p (.bool x)))
abbrev zP (x:PV):DV:=.one (.c (.p x))
abbrev zp (L k:Nat):DV:=.one (.c (.ptr L k))
abbrev zv (L:Nat):DV:=.one (.c (.vec L))
abbrev zs {α:Type} (enc:α→List PV) (s:Nat) (x:Sl α):PV:=.sl x.len s (fun i=>enc (x.get i))
abbrev zS {α:Type} (enc:α→List PV) (s:Nat) (x:Sl α):DV:=zP (zs enc s x)
abbrev zm (l:List PV):List Cl:=l.map Cl.p
abbrev zi (x:Int):Cl:=.p (.int .i64 x)
abbrev zg {α:Type} (enc:α→List PV) (x:Sl α):Nat→List PV:=fun i=>enc (x.get i)
abbrev zK (a b:List Nat):Keep:=⟨a,b,[],[],[],[],[]⟩
theorem zE {α:Type} (enc:α→List PV) (size:Nat) (f:Nat→α):IsE enc size size (fun i=>enc (f i)):=⟨rfl,f,rfl⟩

@[reducible] def lpO {A : Type} (d : A) (st : A → A) : Nat → A
  | 0=>d
  | k+1=>st (lpO d st k)
theorem zdJ {A B : Type} (a : A) (b : B) (p : A → A) (s : B → B) (M : A → B → Prop) (h0 : M a b) (h1 : ∀ P S, M P S → M (p P) (s S)) : ∀ k, M (lpO a p k) (lpO b s k)
  | 0=>h0
  | k+1=>h1 _ _ (zdJ a b p s M h0 h1 k)
theorem zy {α:Type} {y:Sl α} {P:Sl α→Prop} (h:P y):P ⟨y.len,y.get⟩:=h

section
variable (P:Program) (Γ:Ctrs) (ann:Ann)
def pt : Code → (Exit → St → Prop) → List Nat → List (St → Prop) → St → Prop
  | .seq a b,K,i :: r,X=>match i with | 0=>pt a (sqK P Γ ann b K) r X | _=>pt b K r X
  | .cond _ a b,K,i :: r,X=>match i with | 0=>pt a K r X | _=>pt b K r X
  | .block id b,K,_ :: r,X=>pt b (zaZ id K) r X
  | .loop b,K,_ :: r,x :: X=>pt b (zdQ P ann (zkV b) x K) r X
  | .scope b,K,_ :: r,X=>pt b (zb8 K) r X
  | c,K,_,_=>vc P Γ ann c K
def ptF (fn:Func) (K:List PA→Prop) (l:List Nat) (X:List (St→Prop)):St→Prop :=
 match fn.body with
 | some c=>pt P Γ ann c (zco P fn K) l X
 | none=>fun _=>False
end

theorem zc {b:Bool} {A B:Prop} {S S':Bool} {α:Type} {e:α→List PA} {K:List PA→Prop} {x y:α} (hs:cond b S S'=true) (hk:K (e (cond b x y))) (h1:S=true→K (e x)→A) (h2:S'=true→K (e y)→B):zcY b A B:=by
 cases b
 ·exact h2 hs hk
 ·exact h1 hs hk
theorem zt {b:Bool} {A B:Prop} {α:Type} {e:α→List PA} {K:List PA→Prop} {x y:α} (hk:K (e (cond b x y))) (h1:K (e x)→A) (h2:K (e y)→B):zcY b A B:=by
 cases b
 ·exact h2 hk
 ·exact h1 hk
theorem zl {at_:Prop} {g:St} (B:(St→Prop)→St→Prop) (e:at_ = ∀ X:St→Prop,(∀ s,B X s→X s)→X g) (h:∀ X:St→Prop,(∀ s,B X s→X s)→X g):at_:=e ▸ h
end Go.Pm
namespace Go.Proofs
open Go Go.Pm
set_option maxRecDepth 100000
set_option linter.unusedVariables false
attribute [local irreducible] Go.Pm.vcFun Go.Pm.vc Go.Pm.vcIter
abbrev enc_3 (x:Int):List PV:=[.int .i64 x]
def zKl : List PV → Int
  | [.int .i64 x]=>x
  | _=>default
def zaU (g:Nat→List PV):Nat→Int:=fun i=>zKl (g i)
theorem zbn (f:Nat→Int):zaU (fun i=>enc_3 (f i))=f:=rfl
structure Gate where
  Z:Int
  Low:Int
  High:Int
deriving Inhabited
abbrev enc_55 (x:Gate):List PV:=[.int .i64 x.Z,.int .i64 x.Low,.int .i64 x.High]
def zG3 : List PV → Gate
  | [.int .i64 x_Z,.int .i64 x_Low,.int .i64 x_High]=>(⟨x_Z,x_Low,x_High⟩:Gate)
  | _=>default
def zad (g:Nat→List PV):Nat→Gate:=fun i=>zG3 (g i)
theorem zac (f:Nat→Gate):zad (fun i=>enc_55 (f i))=f:=rfl
abbrev zG4 (x:(Sl Gate)):List PV:=[.sl x.len 3 (fun i=>enc_55 (x.get i))]
structure Frac where
  Num:Int
  Den:Int
deriving Inhabited
abbrev zae (x:Frac):List PV:=[.int .i64 x.Num,.int .i64 x.Den]
def zG5 : List PV → Frac
  | [.int .i64 x_Num,.int .i64 x_Den]=>(⟨x_Num,x_Den⟩:Frac)
  | _=>default
def zfH (g:Nat→List PV):Nat→Frac:=fun i=>zG5 (g i)
theorem zei (f:Nat→Frac):zfH (fun i=>zae (f i))=f:=rfl
structure Line where
  Slope:Frac
  Start:Frac
deriving Inhabited
abbrev zaw (x:Line):List PV:=[.int .i64 x.Slope.Num,.int .i64 x.Slope.Den,.int .i64 x.Start.Num,.int .i64 x.Start.Den]
def zG6 : List PV → Line
  | [.int .i64 x_Slope_Num,.int .i64 x_Slope_Den,.int .i64 x_Start_Num,.int .i64 x_Start_Den]=>(⟨(⟨x_Slope_Num,x_Slope_Den⟩:Frac),(⟨x_Start_Num,x_Start_Den⟩:Frac)⟩:Line)
  | _=>default
def zjP (g:Nat→List PV):Nat→Line:=fun i=>zG6 (g i)
theorem zej (f:Nat→Line):zjP (fun i=>zaw (f i))=f:=rfl
abbrev zG7 (x:(Sl Int)):List PV:=[.sl x.len 1 (fun i=>enc_3 (x.get i))]
structure Span where
  Low:Int
  High:Int
deriving Inhabited
abbrev zAP (x:Span):List PV:=[.int .i64 x.Low,.int .i64 x.High]
structure list where
  Gates:(Sl Gate)
deriving Inhabited
abbrev zb2 (x:list):List PV:=[.sl x.Gates.len 3 (fun i=>enc_55 (x.Gates.get i))]
structure straight where
  slope:Int
  start:Int
  den:Int
deriving Inhabited
abbrev zah (x:straight):List PV:=[.int .i64 x.slope,.int .i64 x.start,.int .i64 x.den]
def zCo : List PV → straight
  | [.int .i64 x_slope,.int .i64 x_start,.int .i64 x_den]=>(⟨x_slope,x_start,x_den⟩:straight)
  | _=>default
def zaO (g:Nat→List PV):Nat→straight:=fun i=>zCo (g i)
theorem zaJ (f:Nat→straight):zaO (fun i=>zah (f i))=f:=rfl
structure set where
  list:list
  corners:(Sl straight)
deriving Inhabited
abbrev zaS (x:set):List PV:=[.sl x.list.Gates.len 3 (fun i=>enc_55 (x.list.Gates.get i)),.sl x.corners.len 3 (fun i=>zah (x.corners.get i))]
abbrev zcD (x:Mp):List PV:=[.fm (true,2,false,[some .i64]) x.n x.F]
end Go.Proofs
namespace Go.Proofs
open Go Go.Pm
set_option maxRecDepth 100000
set_option linter.unusedVariables false
attribute [local irreducible] Go.Pm.vcFun Go.Pm.vc Go.Pm.vcIter
abbrev T74:Tabs:=Tabs.nil
theorem zKm:TabsOk Try.prog T74:=TabsOk.nil
abbrev G74:Ctrs:=csm T74 (fun _ _=>[]) (fun _=>false)
def zG8:Ann:=⟨15,[(0,zK [0,1,2] []),(1,zK [6] [])],
 [],
 [],
 [],[]⟩
abbrev R74:=Bool
abbrev e74 (r:R74):List PA:=[.one (.bool r)]
section
variable {K:List PA→Prop} {x:Int} {low:Int} {high:Int}
def s74 (x:Int) (low:Int) (high:Int):Bool :=
  (cond (decide (x ≥ low))
 (decide (x≤high))
 false)
end
theorem q74 (x:Int) (low:Int) (high:Int) (K:List PA→Prop) (hk:K (e74 (s74 x low high))):vcFun Try.prog G74 zG8 74 [.one (.int .i64 x),.one (.int .i64 low),.one (.int .i64 high)] K :=
  zau (by kernel_rfl) (zt hk (fun hk=>hk) (fun hk=>hk))
def zns : List PA → COut
  | [.one (.int .i64 a0),.one (.int .i64 a1),.one (.int .i64 a2)]=>.tot [.one (.bool (s74 a0 a1 a2))]
  | _=>.no
theorem zG9:zaf Try.prog 74:=⟨_,rfl,rfl,by kernel_rfl⟩
theorem zGo:Ok Try.prog 74 zns:=zax zKm zG9 fun args K h=>by
  unfold zns at h
  split at h
  · rename_i a0 a1 a2
    have hk:=h
    exact ⟨(fun _ _=>[]),(fun _=>false),zG8,q74 a0 a1 a2 K hk⟩
  · exact h.elim
abbrev T87:Tabs:=(Tabs.nil.addF 74 zns)
theorem zKn:TabsOk Try.prog T87:=(TabsOk.nil.addF zGo)
abbrev G87:Ctrs:=csm T87 (fun _ _=>[]) (fun _=>false)
def zHa:Ann:=⟨23,[(0,zK [1] [1]),(1,zK [2] [])],
 [],
 [],
 [],[]⟩
abbrev R87:=Bool
abbrev e87 (r:R87):List PA:=[.one (.bool r)]
section
variable {K:List PA→Prop} {g:Gate}
def s87 (g:Gate):Bool :=
  (cond (s74 g.Z (0:Int) (100000:Int))
 (cond (decide (g.Low ≥ (-1000000:Int)))
 (cond (decide (g.Low ≤ g.High))
 (decide (g.High≤(1000000:Int)))
 false)
 false)
 false)
end
theorem q87 (g:Gate) (K:List PA→Prop) (hk:K (e87 (s87 g))):vcFun Try.prog G87 zHa 87 [.agg (enc_55 g)] K :=
  zau (by kernel_rfl) (zt hk (fun hk=>(zt hk (fun hk=>(zt hk (fun hk=>hk) (fun hk=>hk))) (fun hk=>hk))) (fun hk=>hk))
def zCp : List PA → COut
  | [.agg [.int .i64 a0_Z,.int .i64 a0_Low,.int .i64 a0_High]]=>.tot [.one (.bool (s87 (⟨a0_Z,a0_Low,a0_High⟩:Gate)))]
  | _=>.no
theorem zHb:zaf Try.prog 87:=⟨_,rfl,rfl,by kernel_rfl⟩
theorem zMS:Ok Try.prog 87 zCp:=zax zKn zHb fun args K h=>by
  unfold zCp at h
  split at h
  · rename_i a0_Z a0_Low a0_High
    have hk:=h
    exact ⟨(fun _ _=>[]),(fun _=>false),zHa,q87 (⟨a0_Z,a0_Low,a0_High⟩:Gate) K hk⟩
  · exact h.elim
abbrev T64:Tabs:=((Tabs.nil.addF 74 zns).addF 87 zCp)
theorem zKo:TabsOk Try.prog T64:=((TabsOk.nil.addF zGo).addF zMS)
abbrev G64:Ctrs:=csm T64 (fun _ _=>[]) (fun _=>false)
def zCq:Ann:=⟨18,[(0,zK [0] []),(1,zK [0,5,6,7] []),(2,zK [0,5,6,7,8] []),(3,zK [0,4,5,6,7] [4]),(4,zK [0,5,6,7,13] []),(5,zK [2] []),(6,zK [0,5,6,7] []),(7,zK [2] [])],
 [(2,zK [0,5,6,7] [])],
 [(5,zK [0,5,6,7,13] [])],
 [],[]⟩
abbrev R64:=Bool
abbrev e64 (r:R64):List PA:=[.one (.bool r)]
@[irreducible] def z64:=ptF Try.prog G64 zCq Try.f64
def zAQ (zaa:(Sl Gate)) (zaW:Int):St:=⟨[(0,zS enc_55 3 zaa),(5,zS enc_55 3 zaa),(6,zI (zaa.len:Int)),(7,zI zaW)],[],[]⟩
abbrev zCr (K:List PA→Prop) (zaa:(Sl Gate)) (X:St→Prop) (P:Int→Bool) (S:Int→Bool):Prop:=∀ ⦃zaW:Int⦄,P zaW=true→K (e64 (S zaW))→X (zAQ zaa zaW)
section
variable {K:List PA→Prop} {zaa:(Sl Gate)} {zaW:Int} {X0:St→Prop} {P0:Int→Bool} {S0:Int→Bool} {zfI:Int} {zoL:Bool}
def zoM (S0:Int→Bool) (zaa:(Sl Gate)) (zfI:Int) (zoL:Bool):Bool :=
  (cond zoL
 false
 (S0 (w64 (zfI+(1:Int)))))
def zoN (P0:Int→Bool) (zaa:(Sl Gate)) (zfI:Int) (zoL:Bool):Bool :=
  (cond zoL
 true
 (P0 (w64 (zfI+(1:Int)))))
theorem zCs (hX0:zCr K zaa X0 P0 S0) (hs:zoN P0 zaa zfI zoL=true) (hk:K (e64 (zoM S0 zaa zfI zoL))):z64 K [1,0,1,0,0,1,1,0,0,1,1] [X0] ⟨[(0,zS enc_55 3 zaa),(5,zS enc_55 3 zaa),(6,zI (zaa.len:Int)),(7,zI zfI),(13,zB zoL)],[],[]⟩:=zau (by kernel_rfl) (zc hs hk (fun hs hk=>hk) (fun hs hk=>(hX0 hs hk)))
def zgS (zaa:(Sl Gate)) (S0:Int→Bool) (zaW:Int):Bool :=
  (cond (decide (zaW < (zaa.len : Int)))
 (zoM S0 zaa zaW (!(s87 (zaa.get zaW.toNat))))
 (s74 (zaa.len:Int) (1:Int) (24:Int)))
def zgT (zaa:(Sl Gate)) (P0:Int→Bool) (zaW:Int):Bool :=
  (cond (decide (zaW < (zaa.len : Int)))
 (decide ((0≤zaW∧zaW < (zaa.len:Int))) &&
 (zoN P0 zaa zaW (!(s87 (zaa.get zaW.toNat)))))
 true)
def zgU (zaa:(Sl Gate)):Nat→Int→Bool:=lpO (fun _=>default) (zgS zaa)
def zgV (zaa:(Sl Gate)):Nat→Int→Bool:=lpO (fun _=>false) (zgT zaa)
def zug (zaa:(Sl Gate)) (zaW:Int):Bool:=zgU zaa Fuel zaW
def zuh (zaa:(Sl Gate)) (zaW:Int):Bool:=zgV zaa Fuel zaW
theorem zCt (hs:zuh zaa zaW=true) (hk:K (e64 (zug zaa zaW))):z64 K [1,0,1,0] [] (zAQ zaa zaW) :=
  zl (fun X=>z64 K [1,0,1,0,0] [X]) (by kernel_rfl) fun X0 hX =>
  (show ∀ k, zCr K zaa X0 (zgV zaa k) (zgU zaa k) from zdJ _ _ (zgT zaa) (zgS zaa) (zCr K zaa X0)
 (by intro _ hs;exact absurd hs Bool.false_ne_true)
 (by intro P0 S0 hX0 zaW hs hk;exact hX _ (zau (by kernel_rfl) (zc hs hk (fun hs hk=>(zat hs fun hc hs=>And.intro hc (zCs hX0 hs hk))) (fun hs hk=>hk))))) _ hs hk
def s64 (zaa:(Sl Gate)):Bool :=
  (zug zaa (0:Int))
def p64 (zaa:(Sl Gate)):Bool :=
  (zuh zaa (0:Int))
end
theorem q64 (zaa:(Sl Gate)) (K:List PA→Prop) (hs:p64 zaa=true) (hk:K (e64 (s64 zaa))):vcFun Try.prog G64 zCq 64 [.one (.sl zaa.len 3 (fun i=>enc_55 (zaa.get i)))] K :=
  zau (by kernel_rfl) (zCt hs hk)
def zoO : List PA → COut
  | [.one (.sl a0_n a0_s a0_g)]=>.det (IsE enc_55 3 a0_s a0_g∧p64 (⟨a0_n,zad a0_g⟩:(Sl Gate))=true) [.one (.bool (s64 (⟨a0_n,zad a0_g⟩:(Sl Gate))))]
  | _=>.no
theorem zHc:zaf Try.prog 64:=⟨_,rfl,rfl,by kernel_rfl⟩
theorem zHd:Ok Try.prog 64 zoO:=zax zKo zHc fun args K h=>by
  unfold zoO at h
  split at h
  · rename_i a0_n a0_s a0_g
    obtain ⟨⟨⟨rfl,a0_f,rfl⟩,hs⟩,hk⟩:=h
    try rw [zac a0_f] at hs
    try rw [zac a0_f] at hk
    exact ⟨(fun _ _=>[]),(fun _=>false),zCq,q64 (⟨a0_n,a0_f⟩:(Sl Gate)) K hs hk⟩
  · exact h.elim
abbrev zL5:Tabs:=Tabs.nil
theorem zHe:TabsOk Try.prog zL5:=TabsOk.nil
abbrev zMT:Ctrs:=csm zL5 (fun _ _=>[]) (fun _=>false)
def zAR:Ann:=⟨12,[(0,zK [1,2] [2]),(1,zK [3] [])],
 [],
 [],
 [],[]⟩
abbrev zMU:=Bool
abbrev zMV (r:zMU):List PA:=[.one (.bool r)]
section
variable {K:List PA→Prop} {c0:list} {g:Gate}
def zCu (c0:list) (g:Gate):Bool :=
  (g.Z != (c0.Gates.get 0).Z)
def zCv (c0:list) (g:Gate):Bool :=
  (decide ((0≤(0:Int)∧(0:Int) < (c0.Gates.len:Int))) &&
 true)
end
theorem zMW (c0:list) (g:Gate) (K:List PA→Prop) (hs:zCv c0 g=true) (hk:K (zMV (zCu c0 g))):vcFun Try.prog zMT zAR 100 [.agg (enc_55 g),.one (.fp (zb2 c0) 0)] K :=
  zau (by kernel_rfl) (zat hs fun hc hs=>And.intro hc hk)
def zui : List PA → COut
  | [.agg [.int .i64 a0_Z,.int .i64 a0_Low,.int .i64 a0_High],.one (.fp [.sl c0_Gates_n c0_Gates_s c0_Gates_g] 0)]=>.det (IsE enc_55 3 c0_Gates_s c0_Gates_g∧zCv (⟨(⟨c0_Gates_n,zad c0_Gates_g⟩:(Sl Gate))⟩:list) (⟨a0_Z,a0_Low,a0_High⟩:Gate)=true) [.one (.bool (zCu (⟨(⟨c0_Gates_n,zad c0_Gates_g⟩:(Sl Gate))⟩:list) (⟨a0_Z,a0_Low,a0_High⟩:Gate)))]
  | _=>.no
theorem zCw:zaf Try.prog 100:=⟨_,rfl,rfl,by kernel_rfl⟩
theorem zKp:Ok Try.prog 100 zui:=zax zHe zCw fun args K h=>by
  unfold zui at h
  split at h
  · rename_i a0_Z a0_Low a0_High c0_Gates_n c0_Gates_s c0_Gates_g
    obtain ⟨⟨⟨rfl,c0_Gates_f,rfl⟩,hs⟩,hk⟩:=h
    try rw [zac c0_Gates_f] at hs
    try rw [zac c0_Gates_f] at hk
    exact ⟨(fun _ _=>[]),(fun _=>false),zAR,zMW (⟨(⟨c0_Gates_n,c0_Gates_f⟩:(Sl Gate))⟩:list) (⟨a0_Z,a0_Low,a0_High⟩:Gate) K hs hk⟩
  · exact h.elim
abbrev zL6:Tabs:=(Tabs.nil.addF 74 zns)
theorem zHf:TabsOk Try.prog zL6:=(TabsOk.nil.addF zGo)
abbrev zMX:Ctrs:=csm zL6 (fun _ _=>[]) (fun _=>false)
def zAS:Ann:=⟨24,[(0,zK [2,3] [2,3]),(1,zK [4] [])],
 [],
 [],
 [],[]⟩
abbrev zMY:=Bool
abbrev e118 (r:zMY):List PA:=[.one (.bool r)]
section
variable {K:List PA→Prop} {s:straight} {g:Gate}
def zCx (s:straight) (g:Gate):Bool :=
  (s74 (w64 (s.start+(w64 (s.slope * g.Z)))) (w64 (g.Low * s.den)) (w64 (g.High * s.den)))
end
theorem zMZ (s:straight) (g:Gate) (K:List PA→Prop) (hk:K (e118 (zCx s g))):vcFun Try.prog zMX zAS 118 [.agg (zah s),.agg (enc_55 g)] K :=
  zau (by kernel_rfl) hk
def zuj : List PA → COut
  | [.agg [.int .i64 a0_slope,.int .i64 a0_start,.int .i64 a0_den],.agg [.int .i64 a1_Z,.int .i64 a1_Low,.int .i64 a1_High]]=>.tot [.one (.bool (zCx (⟨a0_slope,a0_start,a0_den⟩:straight) (⟨a1_Z,a1_Low,a1_High⟩:Gate)))]
  | _=>.no
theorem zCy:zaf Try.prog 118:=⟨_,rfl,rfl,by kernel_rfl⟩
theorem zKq:Ok Try.prog 118 zuj:=zax zHf zCy fun args K h=>by
  unfold zuj at h
  split at h
  · rename_i a0_slope a0_start a0_den a1_Z a1_Low a1_High
    have hk:=h
    exact ⟨(fun _ _=>[]),(fun _=>false),zAS,zMZ (⟨a0_slope,a0_start,a0_den⟩:straight) (⟨a1_Z,a1_Low,a1_High⟩:Gate) K hk⟩
  · exact h.elim
abbrev zL7:Tabs:=(Tabs.nil.addF 118 zuj)
theorem zHg:TabsOk Try.prog zL7:=(TabsOk.nil.addF zKq)
abbrev zM0:Ctrs:=csm zL7 (fun _ _=>[]) (fun _=>false)
def zAT:Ann:=⟨8,[(0,zK [1,2] [2]),(1,zK [3] [])],
 [],
 [],
 [],[]⟩
abbrev zM1:=Bool
abbrev e117 (r:zM1):List PA:=[.one (.bool r)]
section
variable {K:List PA→Prop} {c0:straight} {g:Gate}
def zCz (c0:straight) (g:Gate):Bool :=
  (!(zCx c0 g))
end
theorem zM2 (c0:straight) (g:Gate) (K:List PA→Prop) (hk:K (e117 (zCz c0 g))):vcFun Try.prog zM0 zAT 117 [.agg (enc_55 g),.one (.fp (zah c0) 0)] K :=
  zau (by kernel_rfl) hk
def zuk : List PA → COut
  | [.agg [.int .i64 a0_Z,.int .i64 a0_Low,.int .i64 a0_High],.one (.fp [.int .i64 c0_slope,.int .i64 c0_start,.int .i64 c0_den] 0)]=>.tot [.one (.bool (zCz (⟨c0_slope,c0_start,c0_den⟩:straight) (⟨a0_Z,a0_Low,a0_High⟩:Gate)))]
  | _=>.no
theorem zCA:zaf Try.prog 117:=⟨_,rfl,rfl,by kernel_rfl⟩
theorem zKr:Ok Try.prog 117 zuk:=zax zHg zCA fun args K h=>by
  unfold zuk at h
  split at h
  · rename_i a0_Z a0_Low a0_High c0_slope c0_start c0_den
    have hk:=h
    exact ⟨(fun _ _=>[]),(fun _=>false),zAT,zM2 (⟨c0_slope,c0_start,c0_den⟩:straight) (⟨a0_Z,a0_Low,a0_High⟩:Gate) K hk⟩
  · exact h.elim
abbrev zL8:Tabs:=Tabs.nil
theorem zHh:TabsOk Try.prog zL8:=TabsOk.nil
abbrev zM3:Ctrs:=csm zL8 (fun _ _=>[]) (fun _=>false)
def zAU:Ann:=⟨18,[(0,zK [1,2] [2]),(1,zK [3] [])],
 [],
 [],
 [],[]⟩
abbrev zM4:=Bool
abbrev zM5 (r:zM4):List PA:=[.one (.bool r)]
section
variable {K:List PA→Prop} {c0:straight} {g:Gate}
def zJU (c0:straight) (g:Gate):Bool :=
  ((w64 (c0.start+(w64 (c0.slope * g.Z)))) == (w64 (g.Low * c0.den)))
end
theorem zM6 (c0:straight) (g:Gate) (K:List PA→Prop) (hk:K (zM5 (zJU c0 g))):vcFun Try.prog zM3 zAU 123 [.agg (enc_55 g),.one (.fp (zah c0) 0)] K :=
  zau (by kernel_rfl) hk
def zul : List PA → COut
  | [.agg [.int .i64 a0_Z,.int .i64 a0_Low,.int .i64 a0_High],.one (.fp [.int .i64 c0_slope,.int .i64 c0_start,.int .i64 c0_den] 0)]=>.tot [.one (.bool (zJU (⟨c0_slope,c0_start,c0_den⟩:straight) (⟨a0_Z,a0_Low,a0_High⟩:Gate)))]
  | _=>.no
theorem zCB:zaf Try.prog 123:=⟨_,rfl,rfl,by kernel_rfl⟩
theorem zKs:Ok Try.prog 123 zul:=zax zHh zCB fun args K h=>by
  unfold zul at h
  split at h
  · rename_i a0_Z a0_Low a0_High c0_slope c0_start c0_den
    have hk:=h
    exact ⟨(fun _ _=>[]),(fun _=>false),zAU,zM6 (⟨c0_slope,c0_start,c0_den⟩:straight) (⟨a0_Z,a0_Low,a0_High⟩:Gate) K hk⟩
  · exact h.elim
abbrev zJV:Tabs:=(((Tabs.nil.addF 100 zui).addF 117 zuk).addF 123 zul)
theorem zHi:TabsOk Try.prog zJV:=(((TabsOk.nil.addF zKp).addF zKr).addF zKs)
abbrev zL9:Ctrs:=csm zJV (fun _ _=>[]) (fun _=>false)
def zum:Ann:=⟨19,[(0,zK [0,1] []),(1,zK [0,1,7,8] []),(2,zK [0,1,7,8,9] []),(3,zK [0,1,5,7,8] []),(4,zK [0,1,5,7,8,16] []),(5,zK [4] []),(6,zK [0,1,7,8] []),(7,zK [4] [])],
 [(2,zK [0,1,7,8] [])],
 [(5,zK [0,1,5,7,8,16] [])],
 [],[]⟩
abbrev zM7:=Int
abbrev e119 (r:zM7):List PA:=[.one (.int .i64 r)]
@[irreducible] def z119:=ptF Try.prog zL9 zum Try.f119
def zun (c0:list) (sv0:(Sl Gate)) (zaW:Int) (zbR:Int) (zc4:Nat→List PV):St:=⟨[(0,zP (.sl sv0.len 3 zc4)),(1,zP (.fn 100 [] [.fp (zb2 c0) 0])),(7,zI zaW),(8,zI zbR)],[],[]⟩
abbrev zuo (K:List PA→Prop) (c0:list) (X:St→Prop) (P:(Sl Gate)→Int→Int→Bool) (S:(Sl Gate)→Int→Int→Int):Prop:=∀ ⦃sv0:(Sl Gate)⦄ ⦃zaW:Int⦄ ⦃zbR:Int⦄ ⦃zc4:Nat→List PV⦄,P sv0 zaW zbR=true→K (e119 (S sv0 zaW zbR))→zc4=zg enc_55 sv0→X (zun c0 sv0 zaW zbR zc4)
section
variable {K:List PA→Prop} {c0:list} {s:(Sl Gate)} {sv0:(Sl Gate)} {zaW:Int} {zbR:Int} {zc4:Nat→List PV} {X0:St→Prop} {P0:(Sl Gate)→Int→Int→Bool} {S0:(Sl Gate)→Int→Int→Int} {sv1:(Sl Gate)} {iv1:Int} {zfI:Int} {zjQ:Int} {zdB:Bool} {zjR:Nat→List PV}
def zlZ (S0:(Sl Gate)→Int→Int→Int) (c0:list) (sv1:(Sl Gate)) (iv1:Int) (zfI:Int) (zjQ:Int) (zdB:Bool):Int :=
  (cond zdB
 iv1
 (S0 sv1 zfI (w64 (zjQ+(1:Int)))))
def zl0 (P0:(Sl Gate)→Int→Int→Bool) (c0:list) (sv1:(Sl Gate)) (iv1:Int) (zfI:Int) (zjQ:Int) (zdB:Bool):Bool :=
  (cond zdB
 true
 (P0 sv1 zfI (w64 (zjQ+(1:Int)))))
theorem zzC (hX0:zuo K c0 X0 P0 S0) (hs:zl0 P0 c0 sv1 iv1 zfI zjQ zdB=true) (hk:K (e119 (zlZ S0 c0 sv1 iv1 zfI zjQ zdB))) (zoP:zjR=zg enc_55 sv1):z119 K [1,0,1,0,0,1,1,0,0,1,1] [X0] ⟨[(0,zP (.sl sv1.len 3 zjR)),(1,zP (.fn 100 [] [.fp (zb2 c0) 0])),(5,zI iv1),(7,zI zfI),(8,zI zjQ),(16,zB zdB)],[],[]⟩:=by subst zoP;exact zau (by kernel_rfl) (zc hs hk (fun hs hk=>hk) (fun hs hk=>(hX0 hs hk rfl)))
def ziU (c0:list) (S0:(Sl Gate)→Int→Int→Int) (sv0:(Sl Gate)) (zaW:Int) (zbR:Int):Int :=
  (cond (decide (zbR < zaW))
 (zlZ S0 c0 sv0 zbR zaW zbR (zCu c0 (sv0.get zbR.toNat)))
 (-1:Int))
def ziV (c0:list) (P0:(Sl Gate)→Int→Int→Bool) (sv0:(Sl Gate)) (zaW:Int) (zbR:Int):Bool :=
  (cond (decide (zbR < zaW))
 (decide ((0≤zbR∧zbR < (sv0.len:Int))) &&
 (decide ((zCv c0 (sv0.get zbR.toNat)=true)) &&
 (zl0 P0 c0 sv0 zbR zaW zbR (zCu c0 (sv0.get zbR.toNat)))))
 true)
def ziW (c0:list):Nat→(Sl Gate)→Int→Int→Int:=lpO (fun _ _ _=>default) (ziU c0)
def ziX (c0:list):Nat→(Sl Gate)→Int→Int→Bool:=lpO (fun _ _ _=>false) (ziV c0)
def zrg (c0:list) (sv0:(Sl Gate)) (zaW:Int) (zbR:Int):Int:=ziW c0 Fuel sv0 zaW zbR
def zrh (c0:list) (sv0:(Sl Gate)) (zaW:Int) (zbR:Int):Bool:=ziX c0 Fuel sv0 zaW zbR
theorem zzD (hs:zrh c0 sv0 zaW zbR=true) (hk:K (e119 (zrg c0 sv0 zaW zbR))) (zjS:zc4=zg enc_55 sv0):z119 K [1,0,1,0] [] (zun c0 sv0 zaW zbR zc4) :=
  zl (fun X=>z119 K [1,0,1,0,0] [X]) (by kernel_rfl) fun X0 hX =>
  (show ∀ k, zuo K c0 X0 (ziX c0 k) (ziW c0 k) from zdJ _ _ (ziV c0) (ziU c0) (zuo K c0 X0)
 (by intro _ _ _ _ hs;exact absurd hs Bool.false_ne_true)
 (by intro P0 S0 hX0 sv0 zaW zbR zc4 hs hk zjS;subst zjS;exact hX _ (zau (by kernel_rfl) (zc hs hk (fun hs hk=>(zat hs fun hc hs=>And.intro hc (zat hs fun hc hs=>And.intro (And.intro (zE enc_55 3 c0.Gates.get) hc) (zzC hX0 hs hk rfl)))) (fun hs hk=>hk))))) _ hs hk zjS
def zHj (c0:list) (s:(Sl Gate)):Int :=
  (zrg c0 s (s.len:Int) (0:Int))
def zHk (c0:list) (s:(Sl Gate)):Bool :=
  (zrh c0 s (s.len:Int) (0:Int))
end
theorem zM8 (c0:list) (s:(Sl Gate)) (K:List PA→Prop) (hs:zHk c0 s=true) (hk:K (e119 (zHj c0 s))):vcFun Try.prog zL9 zum 119 [.one (.sl s.len 3 (fun i=>enc_55 (s.get i))),.one (.fn 100 [] [.fp (zb2 c0) 0])] K :=
  zau (by kernel_rfl) (zzD hs hk rfl)
abbrev zHl:Ctrs:=csm zJV (fun _ _=>[]) (fun _=>false)
def zoQ:Ann:=⟨19,[(0,zK [0,1] []),(1,zK [0,1,7,8] []),(2,zK [0,1,7,8,9] []),(3,zK [0,1,5,7,8] []),(4,zK [0,1,5,7,8,16] []),(5,zK [4] []),(6,zK [0,1,7,8] []),(7,zK [4] [])],
 [(2,zK [0,1,7,8] [])],
 [(5,zK [0,1,5,7,8,16] [])],
 [],[]⟩
abbrev zKt:=Int
abbrev zzE (r:zKt):List PA:=[.one (.int .i64 r)]
@[irreducible] def z119a:=ptF Try.prog zHl zoQ Try.f119
def zri (c0:straight) (sv0:(Sl Gate)) (zaW:Int) (zbR:Int) (zc4:Nat→List PV):St:=⟨[(0,zP (.sl sv0.len 3 zc4)),(1,zP (.fn 117 [] [.fp (zah c0) 0])),(7,zI zaW),(8,zI zbR)],[],[]⟩
abbrev zoR (K:List PA→Prop) (c0:straight) (X:St→Prop) (P:(Sl Gate)→Int→Int→Bool) (S:(Sl Gate)→Int→Int→Int):Prop:=∀ ⦃sv0:(Sl Gate)⦄ ⦃zaW:Int⦄ ⦃zbR:Int⦄ ⦃zc4:Nat→List PV⦄,P sv0 zaW zbR=true→K (zzE (S sv0 zaW zbR))→zc4=zg enc_55 sv0→X (zri c0 sv0 zaW zbR zc4)
section
variable {K:List PA→Prop} {c0:straight} {s:(Sl Gate)} {sv0:(Sl Gate)} {zaW:Int} {zbR:Int} {zc4:Nat→List PV} {X0:St→Prop} {P0:(Sl Gate)→Int→Int→Bool} {S0:(Sl Gate)→Int→Int→Int} {sv1:(Sl Gate)} {iv1:Int} {zfI:Int} {zjQ:Int} {zdB:Bool} {zjR:Nat→List PV}
def zjT (S0:(Sl Gate)→Int→Int→Int) (c0:straight) (sv1:(Sl Gate)) (iv1:Int) (zfI:Int) (zjQ:Int) (zdB:Bool):Int :=
  (cond zdB
 iv1
 (S0 sv1 zfI (w64 (zjQ+(1:Int)))))
def zjU (P0:(Sl Gate)→Int→Int→Bool) (c0:straight) (sv1:(Sl Gate)) (iv1:Int) (zfI:Int) (zjQ:Int) (zdB:Bool):Bool :=
  (cond zdB
 true
 (P0 sv1 zfI (w64 (zjQ+(1:Int)))))
theorem zup (hX0:zoR K c0 X0 P0 S0) (hs:zjU P0 c0 sv1 iv1 zfI zjQ zdB=true) (hk:K (zzE (zjT S0 c0 sv1 iv1 zfI zjQ zdB))) (zoP:zjR=zg enc_55 sv1):z119a K [1,0,1,0,0,1,1,0,0,1,1] [X0] ⟨[(0,zP (.sl sv1.len 3 zjR)),(1,zP (.fn 117 [] [.fp (zah c0) 0])),(5,zI iv1),(7,zI zfI),(8,zI zjQ),(16,zB zdB)],[],[]⟩:=by subst zoP;exact zau (by kernel_rfl) (zc hs hk (fun hs hk=>hk) (fun hs hk=>(hX0 hs hk rfl)))
def zgr (c0:straight) (S0:(Sl Gate)→Int→Int→Int) (sv0:(Sl Gate)) (zaW:Int) (zbR:Int):Int :=
  (cond (decide (zbR < zaW))
 (zjT S0 c0 sv0 zbR zaW zbR (zCz c0 (sv0.get zbR.toNat)))
 (-1:Int))
def zgs (c0:straight) (P0:(Sl Gate)→Int→Int→Bool) (sv0:(Sl Gate)) (zaW:Int) (zbR:Int):Bool :=
  (cond (decide (zbR < zaW))
 (decide ((0≤zbR∧zbR < (sv0.len:Int))) &&
 (zjU P0 c0 sv0 zbR zaW zbR (zCz c0 (sv0.get zbR.toNat))))
 true)
def zgt (c0:straight):Nat→(Sl Gate)→Int→Int→Int:=lpO (fun _ _ _=>default) (zgr c0)
def zgu (c0:straight):Nat→(Sl Gate)→Int→Int→Bool:=lpO (fun _ _ _=>false) (zgs c0)
def znt (c0:straight) (sv0:(Sl Gate)) (zaW:Int) (zbR:Int):Int:=zgt c0 Fuel sv0 zaW zbR
def znu (c0:straight) (sv0:(Sl Gate)) (zaW:Int) (zbR:Int):Bool:=zgu c0 Fuel sv0 zaW zbR
theorem zuq (hs:znu c0 sv0 zaW zbR=true) (hk:K (zzE (znt c0 sv0 zaW zbR))) (zjS:zc4=zg enc_55 sv0):z119a K [1,0,1,0] [] (zri c0 sv0 zaW zbR zc4) :=
  zl (fun X=>z119a K [1,0,1,0,0] [X]) (by kernel_rfl) fun X0 hX =>
  (show ∀ k, zoR K c0 X0 (zgu c0 k) (zgt c0 k) from zdJ _ _ (zgs c0) (zgr c0) (zoR K c0 X0)
 (by intro _ _ _ _ hs;exact absurd hs Bool.false_ne_true)
 (by intro P0 S0 hX0 sv0 zaW zbR zc4 hs hk zjS;subst zjS;exact hX _ (zau (by kernel_rfl) (zc hs hk (fun hs hk=>(zat hs fun hc hs=>And.intro hc (zup hX0 hs hk rfl))) (fun hs hk=>hk))))) _ hs hk zjS
def zur (c0:straight) (s:(Sl Gate)):Int :=
  (znt c0 s (s.len:Int) (0:Int))
def zus (c0:straight) (s:(Sl Gate)):Bool :=
  (znu c0 s (s.len:Int) (0:Int))
end
theorem zKu (c0:straight) (s:(Sl Gate)) (K:List PA→Prop) (hs:zus c0 s=true) (hk:K (zzE (zur c0 s))):vcFun Try.prog zHl zoQ 119 [.one (.sl s.len 3 (fun i=>enc_55 (s.get i))),.one (.fn 117 [] [.fp (zah c0) 0])] K :=
  zau (by kernel_rfl) (zuq hs hk rfl)
abbrev zHm:Ctrs:=csm zJV (fun _ _=>[]) (fun _=>false)
def zoS:Ann:=⟨19,[(0,zK [0,1] []),(1,zK [0,1,7,8] []),(2,zK [0,1,7,8,9] []),(3,zK [0,1,5,7,8] []),(4,zK [0,1,5,7,8,16] []),(5,zK [4] []),(6,zK [0,1,7,8] []),(7,zK [4] [])],
 [(2,zK [0,1,7,8] [])],
 [(5,zK [0,1,5,7,8,16] [])],
 [],[]⟩
abbrev zKv:=Int
abbrev zzF (r:zKv):List PA:=[.one (.int .i64 r)]
@[irreducible] def z119b:=ptF Try.prog zHm zoS Try.f119
def zrj (c0:straight) (sv0:(Sl Gate)) (zaW:Int) (zbR:Int) (zc4:Nat→List PV):St:=⟨[(0,zP (.sl sv0.len 3 zc4)),(1,zP (.fn 123 [] [.fp (zah c0) 0])),(7,zI zaW),(8,zI zbR)],[],[]⟩
abbrev zoT (K:List PA→Prop) (c0:straight) (X:St→Prop) (P:(Sl Gate)→Int→Int→Bool) (S:(Sl Gate)→Int→Int→Int):Prop:=∀ ⦃sv0:(Sl Gate)⦄ ⦃zaW:Int⦄ ⦃zbR:Int⦄ ⦃zc4:Nat→List PV⦄,P sv0 zaW zbR=true→K (zzF (S sv0 zaW zbR))→zc4=zg enc_55 sv0→X (zrj c0 sv0 zaW zbR zc4)
section
variable {K:List PA→Prop} {c0:straight} {s:(Sl Gate)} {sv0:(Sl Gate)} {zaW:Int} {zbR:Int} {zc4:Nat→List PV} {X0:St→Prop} {P0:(Sl Gate)→Int→Int→Bool} {S0:(Sl Gate)→Int→Int→Int} {sv1:(Sl Gate)} {iv1:Int} {zfI:Int} {zjQ:Int} {zdB:Bool} {zjR:Nat→List PV}
def znv (S0:(Sl Gate)→Int→Int→Int) (c0:straight) (sv1:(Sl Gate)) (iv1:Int) (zfI:Int) (zjQ:Int) (zdB:Bool):Int :=
  (cond zdB
 iv1
 (S0 sv1 zfI (w64 (zjQ+(1:Int)))))
def znw (P0:(Sl Gate)→Int→Int→Bool) (c0:straight) (sv1:(Sl Gate)) (iv1:Int) (zfI:Int) (zjQ:Int) (zdB:Bool):Bool :=
  (cond zdB
 true
 (P0 sv1 zfI (w64 (zjQ+(1:Int)))))
theorem zut (hX0:zoT K c0 X0 P0 S0) (hs:znw P0 c0 sv1 iv1 zfI zjQ zdB=true) (hk:K (zzF (znv S0 c0 sv1 iv1 zfI zjQ zdB))) (zoP:zjR=zg enc_55 sv1):z119b K [1,0,1,0,0,1,1,0,0,1,1] [X0] ⟨[(0,zP (.sl sv1.len 3 zjR)),(1,zP (.fn 123 [] [.fp (zah c0) 0])),(5,zI iv1),(7,zI zfI),(8,zI zjQ),(16,zB zdB)],[],[]⟩:=by subst zoP;exact zau (by kernel_rfl) (zc hs hk (fun hs hk=>hk) (fun hs hk=>(hX0 hs hk rfl)))
def znx (c0:straight) (S0:(Sl Gate)→Int→Int→Int) (sv0:(Sl Gate)) (zaW:Int) (zbR:Int):Int :=
  (cond (decide (zbR < zaW))
 (znv S0 c0 sv0 zbR zaW zbR (zJU c0 (sv0.get zbR.toNat)))
 (-1:Int))
def zny (c0:straight) (P0:(Sl Gate)→Int→Int→Bool) (sv0:(Sl Gate)) (zaW:Int) (zbR:Int):Bool :=
  (cond (decide (zbR < zaW))
 (decide ((0≤zbR∧zbR < (sv0.len:Int))) &&
 (znw P0 c0 sv0 zbR zaW zbR (zJU c0 (sv0.get zbR.toNat))))
 true)
def znz (c0:straight):Nat→(Sl Gate)→Int→Int→Int:=lpO (fun _ _ _=>default) (znx c0)
def znA (c0:straight):Nat→(Sl Gate)→Int→Int→Bool:=lpO (fun _ _ _=>false) (zny c0)
def znB (c0:straight) (sv0:(Sl Gate)) (zaW:Int) (zbR:Int):Int:=znz c0 Fuel sv0 zaW zbR
def znC (c0:straight) (sv0:(Sl Gate)) (zaW:Int) (zbR:Int):Bool:=znA c0 Fuel sv0 zaW zbR
theorem zuu (hs:znC c0 sv0 zaW zbR=true) (hk:K (zzF (znB c0 sv0 zaW zbR))) (zjS:zc4=zg enc_55 sv0):z119b K [1,0,1,0] [] (zrj c0 sv0 zaW zbR zc4) :=
  zl (fun X=>z119b K [1,0,1,0,0] [X]) (by kernel_rfl) fun X0 hX =>
  (show ∀ k, zoT K c0 X0 (znA c0 k) (znz c0 k) from zdJ _ _ (zny c0) (znx c0) (zoT K c0 X0)
 (by intro _ _ _ _ hs;exact absurd hs Bool.false_ne_true)
 (by intro P0 S0 hX0 sv0 zaW zbR zc4 hs hk zjS;subst zjS;exact hX _ (zau (by kernel_rfl) (zc hs hk (fun hs hk=>(zat hs fun hc hs=>And.intro hc (zut hX0 hs hk rfl))) (fun hs hk=>hk))))) _ hs hk zjS
def zCC (c0:straight) (s:(Sl Gate)):Int :=
  (znB c0 s (s.len:Int) (0:Int))
def zCD (c0:straight) (s:(Sl Gate)):Bool :=
  (znC c0 s (s.len:Int) (0:Int))
end
theorem zKw (c0:straight) (s:(Sl Gate)) (K:List PA→Prop) (hs:zCD c0 s=true) (hk:K (zzF (zCC c0 s))):vcFun Try.prog zHm zoS 119 [.one (.sl s.len 3 (fun i=>enc_55 (s.get i))),.one (.fn 123 [] [.fp (zah c0) 0])] K :=
  zau (by kernel_rfl) (zuu hs hk rfl)
def zuv : List PA → COut
  | [.one (.sl a0_n a0_s a0_g),.one (.fn 100 [] [.fp [.sl c0_Gates_n c0_Gates_s c0_Gates_g] 0])]=>.det (IsE enc_55 3 a0_s a0_g∧IsE enc_55 3 c0_Gates_s c0_Gates_g∧zHk (⟨(⟨c0_Gates_n,zad c0_Gates_g⟩:(Sl Gate))⟩:list) (⟨a0_n,zad a0_g⟩:(Sl Gate))=true) [.one (.int .i64 (zHj (⟨(⟨c0_Gates_n,zad c0_Gates_g⟩:(Sl Gate))⟩:list) (⟨a0_n,zad a0_g⟩:(Sl Gate))))]
  | [.one (.sl a0_n a0_s a0_g),.one (.fn 117 [] [.fp [.int .i64 c0_slope,.int .i64 c0_start,.int .i64 c0_den] 0])]=>.det (IsE enc_55 3 a0_s a0_g∧zus (⟨c0_slope,c0_start,c0_den⟩:straight) (⟨a0_n,zad a0_g⟩:(Sl Gate))=true) [.one (.int .i64 (zur (⟨c0_slope,c0_start,c0_den⟩:straight) (⟨a0_n,zad a0_g⟩:(Sl Gate))))]
  | [.one (.sl a0_n a0_s a0_g),.one (.fn 123 [] [.fp [.int .i64 c0_slope,.int .i64 c0_start,.int .i64 c0_den] 0])]=>.det (IsE enc_55 3 a0_s a0_g∧zCD (⟨c0_slope,c0_start,c0_den⟩:straight) (⟨a0_n,zad a0_g⟩:(Sl Gate))=true) [.one (.int .i64 (zCC (⟨c0_slope,c0_start,c0_den⟩:straight) (⟨a0_n,zad a0_g⟩:(Sl Gate))))]
  | _=>.no
theorem zCE:zaf Try.prog 119:=⟨_,rfl,rfl,by kernel_rfl⟩
theorem zKx:Ok Try.prog 119 zuv:=zax zHi zCE fun args K h=>by
  unfold zuv at h
  split at h
  · rename_i a0_n a0_s a0_g c0_Gates_n c0_Gates_s c0_Gates_g
    obtain ⟨⟨⟨rfl,a0_f,rfl⟩,⟨rfl,c0_Gates_f,rfl⟩,hs⟩,hk⟩:=h
    try rw [zac a0_f] at hs
    try rw [zac a0_f] at hk
    try rw [zac c0_Gates_f] at hs
    try rw [zac c0_Gates_f] at hk
    exact ⟨(fun _ _=>[]),(fun _=>false),zum,zM8 (⟨(⟨c0_Gates_n,c0_Gates_f⟩:(Sl Gate))⟩:list) (⟨a0_n,a0_f⟩:(Sl Gate)) K hs hk⟩
  · rename_i a0_n a0_s a0_g c0_slope c0_start c0_den
    obtain ⟨⟨⟨rfl,a0_f,rfl⟩,hs⟩,hk⟩:=h
    try rw [zac a0_f] at hs
    try rw [zac a0_f] at hk
    exact ⟨(fun _ _=>[]),(fun _=>false),zoQ,zKu (⟨c0_slope,c0_start,c0_den⟩:straight) (⟨a0_n,a0_f⟩:(Sl Gate)) K hs hk⟩
  · rename_i a0_n a0_s a0_g c0_slope c0_start c0_den
    obtain ⟨⟨⟨rfl,a0_f,rfl⟩,hs⟩,hk⟩:=h
    try rw [zac a0_f] at hs
    try rw [zac a0_f] at hk
    exact ⟨(fun _ _=>[]),(fun _=>false),zoS,zKw (⟨c0_slope,c0_start,c0_den⟩:straight) (⟨a0_n,a0_f⟩:(Sl Gate)) K hs hk⟩
  · exact h.elim
abbrev T99:Tabs:=(Tabs.nil.addF 119 zuv)
theorem zKz:TabsOk Try.prog T99:=(TabsOk.nil.addF zKx)
abbrev G99:Ctrs:=csm T99 (fun _ _=>[]) (fun _=>false)
def zHn:Ann:=⟨9,[(0,zK [0,1] []),(1,zK [4] [])],
 [],
 [],
 [],[]⟩
abbrev R99:=Bool
abbrev e99 (r:R99):List PA:=[.one (.bool r)]
section
variable {K:List PA→Prop} {c0:list} {s:(Sl Gate)}
def s99 (c0:list) (s:(Sl Gate)):Bool :=
  (decide ((zHj c0 s) ≥ (0:Int)))
def p99 (c0:list) (s:(Sl Gate)):Bool :=
  (decide ((zHk c0 s=true)) &&
 true)
end
theorem q99 (c0:list) (s:(Sl Gate)) (K:List PA→Prop) (hs:p99 c0 s=true) (hk:K (e99 (s99 c0 s))):vcFun Try.prog G99 zHn 99 [.one (.sl s.len 3 (fun i=>enc_55 (s.get i))),.one (.fn 100 [] [.fp (zb2 c0) 0])] K :=
  zau (by kernel_rfl) (zat hs fun hc hs=>And.intro (And.intro (zE enc_55 3 s.get) (And.intro (zE enc_55 3 c0.Gates.get) hc)) hk)
abbrev zM9:Ctrs:=csm T99 (fun _ _=>[]) (fun _=>false)
def zAV:Ann:=⟨9,[(0,zK [0,1] []),(1,zK [4] [])],
 [],
 [],
 [],[]⟩
abbrev zNa:=Bool
abbrev zNb (r:zNa):List PA:=[.one (.bool r)]
section
variable {K:List PA→Prop} {c0:straight} {s:(Sl Gate)}
def zJW (c0:straight) (s:(Sl Gate)):Bool :=
  (decide ((zur c0 s) ≥ (0:Int)))
def zJX (c0:straight) (s:(Sl Gate)):Bool :=
  (decide ((zus c0 s=true)) &&
 true)
end
theorem zNc (c0:straight) (s:(Sl Gate)) (K:List PA→Prop) (hs:zJX c0 s=true) (hk:K (zNb (zJW c0 s))):vcFun Try.prog zM9 zAV 99 [.one (.sl s.len 3 (fun i=>enc_55 (s.get i))),.one (.fn 117 [] [.fp (zah c0) 0])] K :=
  zau (by kernel_rfl) (zat hs fun hc hs=>And.intro (And.intro (zE enc_55 3 s.get) hc) hk)
abbrev zNd:Ctrs:=csm T99 (fun _ _=>[]) (fun _=>false)
def zAW:Ann:=⟨9,[(0,zK [0,1] []),(1,zK [4] [])],
 [],
 [],
 [],[]⟩
abbrev zNe:=Bool
abbrev zNf (r:zNe):List PA:=[.one (.bool r)]
section
variable {K:List PA→Prop} {c0:straight} {s:(Sl Gate)}
def zKA (c0:straight) (s:(Sl Gate)):Bool :=
  (decide ((zCC c0 s) ≥ (0:Int)))
def zKB (c0:straight) (s:(Sl Gate)):Bool :=
  (decide ((zCD c0 s=true)) &&
 true)
end
theorem zNg (c0:straight) (s:(Sl Gate)) (K:List PA→Prop) (hs:zKB c0 s=true) (hk:K (zNf (zKA c0 s))):vcFun Try.prog zNd zAW 99 [.one (.sl s.len 3 (fun i=>enc_55 (s.get i))),.one (.fn 123 [] [.fp (zah c0) 0])] K :=
  zau (by kernel_rfl) (zat hs fun hc hs=>And.intro (And.intro (zE enc_55 3 s.get) hc) hk)
def zuw : List PA → COut
  | [.one (.sl a0_n a0_s a0_g),.one (.fn 100 [] [.fp [.sl c0_Gates_n c0_Gates_s c0_Gates_g] 0])]=>.det (IsE enc_55 3 a0_s a0_g∧IsE enc_55 3 c0_Gates_s c0_Gates_g∧p99 (⟨(⟨c0_Gates_n,zad c0_Gates_g⟩:(Sl Gate))⟩:list) (⟨a0_n,zad a0_g⟩:(Sl Gate))=true) [.one (.bool (s99 (⟨(⟨c0_Gates_n,zad c0_Gates_g⟩:(Sl Gate))⟩:list) (⟨a0_n,zad a0_g⟩:(Sl Gate))))]
  | [.one (.sl a0_n a0_s a0_g),.one (.fn 117 [] [.fp [.int .i64 c0_slope,.int .i64 c0_start,.int .i64 c0_den] 0])]=>.det (IsE enc_55 3 a0_s a0_g∧zJX (⟨c0_slope,c0_start,c0_den⟩:straight) (⟨a0_n,zad a0_g⟩:(Sl Gate))=true) [.one (.bool (zJW (⟨c0_slope,c0_start,c0_den⟩:straight) (⟨a0_n,zad a0_g⟩:(Sl Gate))))]
  | [.one (.sl a0_n a0_s a0_g),.one (.fn 123 [] [.fp [.int .i64 c0_slope,.int .i64 c0_start,.int .i64 c0_den] 0])]=>.det (IsE enc_55 3 a0_s a0_g∧zKB (⟨c0_slope,c0_start,c0_den⟩:straight) (⟨a0_n,zad a0_g⟩:(Sl Gate))=true) [.one (.bool (zKA (⟨c0_slope,c0_start,c0_den⟩:straight) (⟨a0_n,zad a0_g⟩:(Sl Gate))))]
  | _=>.no
theorem zHo:zaf Try.prog 99:=⟨_,rfl,rfl,by kernel_rfl⟩
theorem zKC:Ok Try.prog 99 zuw:=zax zKz zHo fun args K h=>by
  unfold zuw at h
  split at h
  · rename_i a0_n a0_s a0_g c0_Gates_n c0_Gates_s c0_Gates_g
    obtain ⟨⟨⟨rfl,a0_f,rfl⟩,⟨rfl,c0_Gates_f,rfl⟩,hs⟩,hk⟩:=h
    try rw [zac a0_f] at hs
    try rw [zac a0_f] at hk
    try rw [zac c0_Gates_f] at hs
    try rw [zac c0_Gates_f] at hk
    exact ⟨(fun _ _=>[]),(fun _=>false),zHn,q99 (⟨(⟨c0_Gates_n,c0_Gates_f⟩:(Sl Gate))⟩:list) (⟨a0_n,a0_f⟩:(Sl Gate)) K hs hk⟩
  · rename_i a0_n a0_s a0_g c0_slope c0_start c0_den
    obtain ⟨⟨⟨rfl,a0_f,rfl⟩,hs⟩,hk⟩:=h
    try rw [zac a0_f] at hs
    try rw [zac a0_f] at hk
    exact ⟨(fun _ _=>[]),(fun _=>false),zAV,zNc (⟨c0_slope,c0_start,c0_den⟩:straight) (⟨a0_n,a0_f⟩:(Sl Gate)) K hs hk⟩
  · rename_i a0_n a0_s a0_g c0_slope c0_start c0_den
    obtain ⟨⟨⟨rfl,a0_f,rfl⟩,hs⟩,hk⟩:=h
    try rw [zac a0_f] at hs
    try rw [zac a0_f] at hk
    exact ⟨(fun _ _=>[]),(fun _=>false),zAW,zNg (⟨c0_slope,c0_start,c0_den⟩:straight) (⟨a0_n,a0_f⟩:(Sl Gate)) K hs hk⟩
  · exact h.elim
abbrev T67:Tabs:=(Tabs.nil.addF 99 zuw)
theorem zKD:TabsOk Try.prog T67:=(TabsOk.nil.addF zKC)
abbrev G67:Ctrs:=csm T67 (fun _ _=>[]) (fun _=>false)
def zHp:Ann:=⟨8,[(0,zK [1] [1]),(1,zK [2] [])],
 [],
 [],
 [],[]⟩
abbrev R67:=Bool
abbrev e67 (r:R67):List PA:=[.one (.bool r)]
section
variable {K:List PA→Prop} {l_a0:list}
def s67 (l_a0:list):Bool :=
  (!(s99 l_a0 l_a0.Gates))
def p67 (l_a0:list):Bool :=
  (decide ((p99 l_a0 l_a0.Gates=true)) &&
 true)
end
theorem q67 (l_a0:list) (K:List PA→Prop) (hs:p67 l_a0=true) (hk:K (e67 (s67 l_a0))):vcFun Try.prog G67 zHp 67 [.agg (zb2 l_a0)] K :=
  zau (by kernel_rfl) (zat hs fun hc hs=>And.intro (And.intro (zE enc_55 3 l_a0.Gates.get) (And.intro (zE enc_55 3 l_a0.Gates.get) hc)) hk)
def zoU : List PA → COut
  | [.agg [.sl a0_Gates_n a0_Gates_s a0_Gates_g]]=>.det (IsE enc_55 3 a0_Gates_s a0_Gates_g∧p67 (⟨(⟨a0_Gates_n,zad a0_Gates_g⟩:(Sl Gate))⟩:list)=true) [.one (.bool (s67 (⟨(⟨a0_Gates_n,zad a0_Gates_g⟩:(Sl Gate))⟩:list)))]
  | _=>.no
theorem zHq:zaf Try.prog 67:=⟨_,rfl,rfl,by kernel_rfl⟩
theorem zHr:Ok Try.prog 67 zoU:=zax zKD zHq fun args K h=>by
  unfold zoU at h
  split at h
  · rename_i a0_Gates_n a0_Gates_s a0_Gates_g
    obtain ⟨⟨⟨rfl,a0_Gates_f,rfl⟩,hs⟩,hk⟩:=h
    try rw [zac a0_Gates_f] at hs
    try rw [zac a0_Gates_f] at hk
    exact ⟨(fun _ _=>[]),(fun _=>false),zHp,q67 (⟨(⟨a0_Gates_n,a0_Gates_f⟩:(Sl Gate))⟩:list) K hs hk⟩
  · exact h.elim
abbrev zMa:Tabs:=Tabs.nil
theorem zHs:TabsOk Try.prog zMa:=TabsOk.nil
abbrev zMb:Ctrs:=csm zMa (fun _ _=>[]) (fun _=>false)
def zux:Ann:=⟨12,[(0,zK [0,1] []),(1,zK [0,1,6] []),(2,zK [0,1] []),(3,zK [4] [])],
 [(1,zK [0,1] [])],
 [],
 [],[]⟩
abbrev zNh:=Int
abbrev zKE (r:zNh):List PA:=[.one (.int .i64 r)]
@[irreducible] def z114:=ptF Try.prog zMb zux Try.f114
def zuy (av0:Int) (bv0:Int):St:=⟨[(0,zI av0),(1,zI bv0)],[],[]⟩
abbrev zAX (K:List PA→Prop) (X:St→Prop) (P:Int→Int→Bool) (S:Int→Int→Int):Prop:=∀ ⦃av0:Int⦄ ⦃bv0:Int⦄,P av0 bv0=true→K (zKE (S av0 bv0))→X (zuy av0 bv0)
section
variable {K:List PA→Prop} {a:Int} {b:Int} {av0:Int} {bv0:Int} {X0:St→Prop} {P0:Int→Int→Bool} {S0:Int→Int→Int}
def ziY (S0:Int→Int→Int) (av0:Int) (bv0:Int):Int :=
  (cond (decide (bv0 > (0:Int)))
 (S0 bv0 (av0.tmod bv0))
 av0)
def ziZ (P0:Int→Int→Bool) (av0:Int) (bv0:Int):Bool :=
  (cond (decide (bv0 > (0:Int)))
 (decide ((bv0 ≠ 0)) &&
 (P0 bv0 (av0.tmod bv0)))
 true)
def zi0:Nat→Int→Int→Int:=lpO (fun _ _=>default) (ziY)
def zi1:Nat→Int→Int→Bool:=lpO (fun _ _=>false) (ziZ)
def zrk (av0:Int) (bv0:Int):Int:=zi0 Fuel av0 bv0
def zrl (av0:Int) (bv0:Int):Bool:=zi1 Fuel av0 bv0
theorem zzG (hs:zrl av0 bv0=true) (hk:K (zKE (zrk av0 bv0))):z114 K [1,0,0] [] (zuy av0 bv0) :=
  zl (fun X=>z114 K [1,0,0,0] [X]) (by kernel_rfl) fun X0 hX =>
  (show ∀ k, zAX K X0 (zi1 k) (zi0 k) from zdJ _ _ (ziZ) (ziY) (zAX K X0)
 (by intro _ _ hs;exact absurd hs Bool.false_ne_true)
 (by intro P0 S0 hX0 av0 bv0 hs hk;exact hX _ (zau (by kernel_rfl) (zc hs hk (fun hs hk=>(zat hs fun hc hs=>And.intro hc (hX0 hs hk))) (fun hs hk=>hk))))) _ hs hk
def zCF (a:Int) (b:Int):Int :=
  (zrk a b)
def zJY (a:Int) (b:Int):Bool :=
  (zrl a b)
end
theorem zNi (a:Int) (b:Int) (K:List PA→Prop) (hs:zJY a b=true) (hk:K (zKE (zCF a b))):vcFun Try.prog zMb zux 114 [.one (.int .i64 a),.one (.int .i64 b)] K :=
  zau (by kernel_rfl) (zzG hs hk)
def zuz : List PA → COut
  | [.one (.int .i64 a0),.one (.int .i64 a1)]=>.det (zJY a0 a1=true) [.one (.int .i64 (zCF a0 a1))]
  | _=>.no
theorem zCG:zaf Try.prog 114:=⟨_,rfl,rfl,by kernel_rfl⟩
theorem zKF:Ok Try.prog 114 zuz:=zax zHs zCG fun args K h=>by
  unfold zuz at h
  split at h
  · rename_i a0 a1
    obtain ⟨hs,hk⟩:=h
    exact ⟨(fun _ _=>[]),(fun _=>false),zux,zNi a0 a1 K hs hk⟩
  · exact h.elim
abbrev T89:Tabs:=(Tabs.nil.addF 114 zuz)
theorem zKG:TabsOk Try.prog T89:=(TabsOk.nil.addF zKF)
abbrev G89:Ctrs:=csm T89 (fun _ _=>[]) (fun _=>false)
def zHt:Ann:=⟨19,[(0,zK [0,1,4] [4]),(1,zK [0,1,4,5] [4]),(2,zK [4] [4])],
 [],
 [],
 [],[]⟩
abbrev R89:=Frac
abbrev e89 (r:R89):List PA:=[.agg [.int .i64 r.Num,.int .i64 r.Den]]
section
variable {K:List PA→Prop} {num:Int} {den:Int}
def s89 (num:Int) (den:Int):Frac :=
  (⟨(w64 (num.tdiv (zCF (if (w64 (0 - num)) > num then (w64 (0 - num)) else num) den))),(w64 (den.tdiv (zCF (if (w64 (0 - num)) > num then (w64 (0 - num)) else num) den)))⟩:Frac)
def p89 (num:Int) (den:Int):Bool :=
  (decide ((zJY (if (w64 (0 - num)) > num then (w64 (0 - num)) else num) den=true)) &&
 (decide (((zCF (if (w64 (0 - num)) > num then (w64 (0 - num)) else num) den) ≠ 0)) &&
 (decide (((zCF (if (w64 (0 - num)) > num then (w64 (0 - num)) else num) den) ≠ 0)) &&
 true)))
end
theorem q89 (num:Int) (den:Int) (K:List PA→Prop) (hs:p89 num den=true) (hk:K (e89 (s89 num den))):vcFun Try.prog G89 zHt 89 [.one (.int .i64 num),.one (.int .i64 den)] K :=
  zau (by kernel_rfl) (zat hs fun hc hs=>And.intro hc (zat hs fun hc hs=>And.intro hc (zat hs fun hc hs=>And.intro hc hk)))
def zsR : List PA → COut
  | [.one (.int .i64 a0),.one (.int .i64 a1)]=>.det (p89 a0 a1=true) [.agg [.int .i64 ((s89 a0 a1).Num),.int .i64 ((s89 a0 a1).Den)]]
  | _=>.no
theorem zHu:zaf Try.prog 89:=⟨_,rfl,rfl,by kernel_rfl⟩
theorem zJZ:Ok Try.prog 89 zsR:=zax zKG zHu fun args K h=>by
  unfold zsR at h
  split at h
  · rename_i a0 a1
    obtain ⟨hs,hk⟩:=h
    exact ⟨(fun _ _=>[]),(fun _=>false),zHt,q89 a0 a1 K hs hk⟩
  · exact h.elim
abbrev T79:Tabs:=(Tabs.nil.addF 89 zsR)
theorem zKH:TabsOk Try.prog T79:=(TabsOk.nil.addF zJZ)
abbrev G79:Ctrs:=csm T79 (fun _ _=>[]) (fun _=>false)
def zHv:Ann:=⟨14,[(0,zK [1,2] [1,2]),(1,zK [2] [2])],
 [],
 [],
 [],[]⟩
abbrev R79:=Line
abbrev e79 (r:R79):List PA:=[.agg [.int .i64 r.Slope.Num,.int .i64 r.Slope.Den,.int .i64 r.Start.Num,.int .i64 r.Start.Den]]
section
variable {K:List PA→Prop} {s:straight}
def s79 (s:straight):Line :=
  (⟨(s89 s.slope s.den),(s89 s.start s.den)⟩:Line)
def p79 (s:straight):Bool :=
  (decide ((p89 s.slope s.den=true)) &&
 (decide ((p89 s.start s.den=true)) &&
 true))
end
theorem q79 (s:straight) (K:List PA→Prop) (hs:p79 s=true) (hk:K (e79 (s79 s))):vcFun Try.prog G79 zHv 79 [.agg (zah s)] K :=
  zau (by kernel_rfl) (zat hs fun hc hs=>And.intro hc (zat hs fun hc hs=>And.intro hc hk))
def zzH : List PA → COut
  | [.agg [.int .i64 a0_slope,.int .i64 a0_start,.int .i64 a0_den]]=>.det (p79 (⟨a0_slope,a0_start,a0_den⟩:straight)=true) [.agg [.int .i64 ((s79 (⟨a0_slope,a0_start,a0_den⟩:straight)).Slope.Num),.int .i64 ((s79 (⟨a0_slope,a0_start,a0_den⟩:straight)).Slope.Den),.int .i64 ((s79 (⟨a0_slope,a0_start,a0_den⟩:straight)).Start.Num),.int .i64 ((s79 (⟨a0_slope,a0_start,a0_den⟩:straight)).Start.Den)]]
  | _=>.no
theorem zHw:zaf Try.prog 79:=⟨_,rfl,rfl,by kernel_rfl⟩
theorem zMc:Ok Try.prog 79 zzH:=zax zKH zHw fun args K h=>by
  unfold zzH at h
  split at h
  · rename_i a0_slope a0_start a0_den
    obtain ⟨hs,hk⟩:=h
    exact ⟨(fun _ _=>[]),(fun _=>false),zHv,q79 (⟨a0_slope,a0_start,a0_den⟩:straight) K hs hk⟩
  · exact h.elim
abbrev T96:Tabs:=Tabs.nil
theorem zKI:TabsOk Try.prog T96:=TabsOk.nil
abbrev G96:Ctrs:=csm T96 (fun _ _=>[]) (fun _=>false)
def zCH:Ann:=⟨4,[(0,⟨[1],[1],[],[],[],[],[]⟩),(1,⟨[2],[],[],[],[],[],[]⟩)],
 [],
 [],
 [],[]⟩
theorem zCI (l_a0 : list) (K : List PA → Prop) :
  vcFun Try.prog G96 zCH 96 [.agg [.sl l_a0.Gates.len 3 (fun i=>enc_55 (l_a0.Gates.get i))]] K =
  (K [.one (.fn 115 [] [.fp (zb2 l_a0) 0])]):=by kernel_rfl
theorem q96 (l_a0:list) (K:List PA→Prop) (hk:K [.one (.fn 115 [] [.fp (zb2 l_a0) 0])]):vcFun Try.prog G96 zCH 96 [.agg [.sl l_a0.Gates.len 3 (fun i=>enc_55 (l_a0.Gates.get i))]] K:=zau (zCI l_a0 K) hk
def zCJ : List PA → COut
  | [.agg [.sl a0_Gates_n a0_Gates_s a0_Gates_g]]=>.det (IsE enc_55 3 a0_Gates_s a0_Gates_g) [.one (.fn 115 [] [.fp (zb2 (⟨(⟨a0_Gates_n,zad a0_Gates_g⟩:(Sl Gate))⟩:list)) 0])]
  | _=>.no
theorem zHx:zaf Try.prog 96:=⟨_,rfl,rfl,by kernel_rfl⟩
theorem zNj:Ok Try.prog 96 zCJ:=zax zKI zHx fun args K h=>by
  unfold zCJ at h
  split at h
  · rename_i a0_Gates_n a0_Gates_s a0_Gates_g
    obtain ⟨⟨rfl,a0_Gates_f,rfl⟩,hk⟩:=h
    try rw [zac a0_Gates_f] at hk
    exact ⟨fun _ _=>[],fun _=>false,zCH,q96 (⟨(⟨a0_Gates_n,a0_Gates_f⟩:(Sl Gate))⟩:list) K hk⟩
  · exact h.elim
abbrev T97:Tabs:=(Tabs.nil.addF 99 zuw)
theorem zKJ:TabsOk Try.prog T97:=(TabsOk.nil.addF zKC)
abbrev G97:Ctrs:=csm T97 (fun _ _=>[]) (fun _=>false)
def zCK:Ann:=⟨11,[(0,zK [2,3] [2,3]),(1,zK [4] [])],
 [],
 [],
 [],[]⟩
abbrev R97:=Bool
abbrev e97 (r:R97):List PA:=[.one (.bool r)]
section
variable {K:List PA→Prop} {s:set} {x:straight}
def s97 (s:set) (x:straight):Bool :=
  (!(zJW x s.list.Gates))
def p97 (s:set) (x:straight):Bool :=
  (decide ((zJX x s.list.Gates=true)) &&
 true)
end
theorem q97 (s:set) (x:straight) (K:List PA→Prop) (hs:p97 s x=true) (hk:K (e97 (s97 s x))):vcFun Try.prog G97 zCK 97 [.agg (zaS s),.agg (zah x)] K :=
  zau (by kernel_rfl) (zat hs fun hc hs=>And.intro (And.intro (zE enc_55 3 s.list.Gates.get) hc) hk)
def zCL : List PA → COut
  | [.agg [.sl a0_list_Gates_n a0_list_Gates_s a0_list_Gates_g,.sl a0_corners_n a0_corners_s a0_corners_g],.agg [.int .i64 a1_slope,.int .i64 a1_start,.int .i64 a1_den]]=>.det (IsE enc_55 3 a0_list_Gates_s a0_list_Gates_g∧IsE zah 3 a0_corners_s a0_corners_g∧p97 (⟨(⟨(⟨a0_list_Gates_n,zad a0_list_Gates_g⟩:(Sl Gate))⟩:list),(⟨a0_corners_n,zaO a0_corners_g⟩:(Sl straight))⟩:set) (⟨a1_slope,a1_start,a1_den⟩:straight)=true) [.one (.bool (s97 (⟨(⟨(⟨a0_list_Gates_n,zad a0_list_Gates_g⟩:(Sl Gate))⟩:list),(⟨a0_corners_n,zaO a0_corners_g⟩:(Sl straight))⟩:set) (⟨a1_slope,a1_start,a1_den⟩:straight)))]
  | [.agg [.sl a0_list_Gates_n a0_list_Gates_s a0_list_Gates_g,.nils],.agg [.int .i64 a1_slope,.int .i64 a1_start,.int .i64 a1_den]]=>.det (IsE enc_55 3 a0_list_Gates_s a0_list_Gates_g∧p97 (⟨(⟨(⟨a0_list_Gates_n,zad a0_list_Gates_g⟩:(Sl Gate))⟩:list),(⟨0,fun _=>default⟩:(Sl straight))⟩:set) (⟨a1_slope,a1_start,a1_den⟩:straight)=true) [.one (.bool (s97 (⟨(⟨(⟨a0_list_Gates_n,zad a0_list_Gates_g⟩:(Sl Gate))⟩:list),(⟨0,fun _=>default⟩:(Sl straight))⟩:set) (⟨a1_slope,a1_start,a1_den⟩:straight)))]
  | _=>.no
theorem zHy:zaf Try.prog 97:=⟨_,rfl,rfl,by kernel_rfl⟩
theorem zNk:Ok Try.prog 97 zCL:=zfG zKJ zHy fun args K h=>by
  unfold zCL at h
  split at h
  · rename_i a0_list_Gates_n a0_list_Gates_s a0_list_Gates_g a0_corners_n a0_corners_s a0_corners_g a1_slope a1_start a1_den
    obtain ⟨⟨⟨rfl,a0_list_Gates_f,rfl⟩,⟨rfl,a0_corners_f,rfl⟩,hs⟩,hk⟩:=h
    try rw [zac a0_list_Gates_f] at hs
    try rw [zac a0_list_Gates_f] at hk
    try rw [zaJ a0_corners_f] at hs
    try rw [zaJ a0_corners_f] at hk
    exact ⟨_,zex zeH _,(fun _ _=>[]),(fun _=>false),zCK,q97 (⟨(⟨(⟨a0_list_Gates_n,a0_list_Gates_f⟩:(Sl Gate))⟩:list),(⟨a0_corners_n,a0_corners_f⟩:(Sl straight))⟩:set) (⟨a1_slope,a1_start,a1_den⟩:straight) (Wk K) hs (zdA hk)⟩
  · rename_i a0_list_Gates_n a0_list_Gates_s a0_list_Gates_g a1_slope a1_start a1_den
    obtain ⟨⟨⟨rfl,a0_list_Gates_f,rfl⟩,hs⟩,hk⟩:=h
    try rw [zac a0_list_Gates_f] at hs
    try rw [zac a0_list_Gates_f] at hk
    exact ⟨_,(zc3 (.agg (zc3 (.rfl _) (zc3 (.nil _ _) zgG))) (zc3 (zeH _) zgG)),(fun _ _=>[]),(fun _=>false),zCK,q97 (⟨(⟨(⟨a0_list_Gates_n,a0_list_Gates_f⟩:(Sl Gate))⟩:list),(⟨0,fun _=>default⟩:(Sl straight))⟩:set) (⟨a1_slope,a1_start,a1_den⟩:straight) (Wk K) hs (zdA hk)⟩
  · exact h.elim
abbrev zMd:Tabs:=Tabs.nil
theorem zHz:TabsOk Try.prog zMd:=TabsOk.nil
abbrev zMe:Ctrs:=csm zMd (fun _ _=>[]) (fun _=>false)
def zuA:Ann:=⟨30,[(0,zK [0,1,2,3,8] [8]),(1,zK [0,1,2,3,8,11] [8]),(2,zK [0,1,2,3,8] [8]),(3,zK [8] [8])],
 [],
 [(3,zK [0,1,2,3,8] [8])],
 [],[]⟩
abbrev zNl:=straight
abbrev e116 (r:zNl):List PA:=[.agg [.int .i64 r.slope,.int .i64 r.start,.int .i64 r.den]]
@[irreducible] def z116:=ptF Try.prog zMe zuA Try.f116
section
variable {K:List PA→Prop} {z:Int} {p:Int} {y_a2:Int} {q:Int} {zv0:Int} {pv0:Int} {yv0:Int} {qv0:Int}
def zi2 (zv0:Int) (pv0:Int) (yv0:Int) (qv0:Int):straight :=
  (⟨(w64 (qv0 - pv0)),(w64 ((w64 (pv0 * yv0)) - (w64 (qv0 * zv0)))),(w64 (yv0 - zv0))⟩:straight)
theorem zrm (hk:K (e116 (zi2 zv0 pv0 yv0 qv0))):z116 K [1,1] [] ⟨[(0,zI zv0),(1,zI pv0),(2,zI yv0),(3,zI qv0),(8,zp 8 0)],[(8,.box 118 (zm (zah (⟨(0:Int),(0:Int),(0:Int)⟩:straight))))],[]⟩:=zau (by kernel_rfl) hk
def zkH (z:Int) (p:Int) (y_a2:Int) (q:Int):straight :=
  (cond (decide (z > y_a2))
 (zi2 y_a2 q z p)
 (zi2 z p y_a2 q))
end
theorem zNm (z:Int) (p:Int) (y_a2:Int) (q:Int) (K:List PA→Prop) (hk:K (e116 (zkH z p y_a2 q))):vcFun Try.prog zMe zuA 116 [.one (.int .i64 z),.one (.int .i64 p),.one (.int .i64 y_a2),.one (.int .i64 q)] K :=
  zau (by kernel_rfl) (zt hk (fun hk=>(zrm hk)) (fun hk=>(zrm hk)))
def zuB : List PA → COut
  | [.one (.int .i64 a0),.one (.int .i64 a1),.one (.int .i64 a2),.one (.int .i64 a3)]=>.tot [.agg [.int .i64 ((zkH a0 a1 a2 a3).slope),.int .i64 ((zkH a0 a1 a2 a3).start),.int .i64 ((zkH a0 a1 a2 a3).den)]]
  | _=>.no
theorem zCM:zaf Try.prog 116:=⟨_,rfl,rfl,by kernel_rfl⟩
theorem zKK:Ok Try.prog 116 zuB:=zax zHz zCM fun args K h=>by
  unfold zuB at h
  split at h
  · rename_i a0 a1 a2 a3
    have hk:=h
    exact ⟨(fun _ _=>[]),(fun _=>false),zuA,zNm a0 a1 a2 a3 K hk⟩
  · exact h.elim
abbrev zMf:Tabs:=(Tabs.nil.addF 116 zuB)
theorem zHA:TabsOk Try.prog zMf:=(TabsOk.nil.addF zKK)
abbrev zuC:Ctrs:=csm zMf (fun _ _=>[]) (fun _=>false)
def zb1:Ann:=⟨64,[(0,⟨[0,1,12,13,14],[],[],[],[],[],[]⟩),(1,⟨[0,1,12,13,14,15],[],[],[],[],[],[]⟩),(2,⟨[0,1,3,4,12,13,14],[4],[],[],[],[],[]⟩),(3,⟨[0,1,4,12,13,14,23,24,25],[4],[],[],[],[],[]⟩),(4,⟨[0,1,4,12,13,14,23,24,25,26],[4],[],[],[],[],[]⟩),(5,⟨[0,1,4,6,12,13,14,23,24,25],[4,6],[],[],[],[],[]⟩),(6,⟨[0,1,4,6,12,13,14,23,24,25,33],[4,6],[],[],[],[],[]⟩),(7,⟨[0,1,4,6,12,13,14,23,24,25,38,39],[4,6],[],[],[],[],[]⟩),(8,⟨[0,1,4,6,12,13,14,23,24,25,38,39,40],[4,6],[],[],[],[],[]⟩),(9,⟨[0,1,4,6,8,12,13,14,23,24,25,38,39],[4,6],[],[],[],[],[]⟩),(10,⟨[0,1,4,6,8,12,13,14,23,24,25,38,39,46,47],[4,6],[],[],[],[],[]⟩),(11,⟨[0,1,4,6,8,12,13,14,23,24,25,38,39,46,47,48],[4,6],[],[],[],[],[]⟩),(12,⟨[0,1,4,6,8,10,12,13,14,23,24,25,38,39,46,47],[4,6],[],[],[],[],[]⟩),(13,⟨[0,1,4,6,8,12,13,14,23,24,25,38,39,46,47,59],[4,6],[],[],[],[],[]⟩),(14,⟨[0,1,4,6,8,12,13,14,23,24,25,38,39,46,47],[4,6],[],[],[],[],[]⟩),(15,⟨[0,1,4,6,12,13,14,23,24,25,38,39],[4,6],[],[],[],[],[]⟩),(16,⟨[0,1,4,12,13,14,23,24,25],[4],[],[],[],[],[]⟩),(17,⟨[0,1,12,13,14],[],[],[],[],[],[]⟩)],
 [(1,⟨[0,1,12,13,14],[],[],[],[],[],[]⟩),(4,⟨[0,1,4,12,13,14,23,24,25],[4],[],[],[],[4],[]⟩)],
 [],
 [(8,3,⟨[0,1,4,6,12,13,14,23,24,25,38,39],[4,6],[],[],[],[],[]⟩),(11,3,⟨[0,1,4,6,8,12,13,14,23,24,25,38,39,46,47],[4,6],[],[],[],[],[]⟩)],[13]⟩
def zeI (l:Nat) (a:list) (zai:Int):St:=⟨[(0,.one (.c (.p (.yl l)))),(1,.one (.c (.p (.fp (zb2 a) 0)))),(12,.one (.c (.p (.sl a.Gates.len 3 (fun i=>enc_55 (a.Gates.get i)))))),(13,.one (.c (.p (.int .i64 (a.Gates.len:Int))))),(14,.one (.c (.p (.int .i64 zai))))],[],[]⟩
def zgv (l:Nat) (ys:List (List PA)) (a:list) (zai:Int):Prop:=vcY Try.prog zuC zb1 l (cdF Try.f115 [1,0]) (zcZ 0 zkM) ys false (zeI l a zai)
def zeJ (l:Nat) (a:list) (zaN:Int) (zeK:Nat) (zb3:Nat→List PV) (zbw:Int) (zaB:Int) (zaT:Int) (zbf:Int) (zbg:Int):St:=⟨[(0,.one (.c (.p (.yl l)))),(1,.one (.c (.p (.fp (zb2 a) 0)))),(4,.one (.c (.ptr 4 0))),(12,.one (.c (.p (.sl a.Gates.len 3 (fun i=>enc_55 (a.Gates.get i)))))),(13,.one (.c (.p (.int .i64 (a.Gates.len:Int))))),(14,.one (.c (.p (.int .i64 zaN)))),(23,.one (.c (.p (.sl zeK 3 zb3)))),(24,.one (.c (.p (.int .i64 zbw)))),(25,.one (.c (.p (.int .i64 zaB))))],[(4,.fbox [.int .i64 zaT,.int .i64 zbf,.int .i64 zbg])],[]⟩
def zgw (l:Nat) (X0:List (List PA)→Bool→St→Prop) (ys:List (List PA)) (a:list) (zaN:Int) (zeK:Nat) (zb3:Nat→List PV) (zbw:Int) (zaB:Int) (zaT:Int) (zbf:Int) (zbg:Int):Prop:=vcY Try.prog zuC zb1 l (cdF Try.f115 [1,0,0,1,1,0,0,1,1,0]) (zcZ 2 (zcZ 1 (zGB (zGD Try.prog zb1 17 (vcY Try.prog zuC zb1 l (cdF Try.f115 [1,0,0,1,1,1]) (ziI Try.prog zb1 1 X0 (zcZ 0 zkM)))) (ziI Try.prog zb1 1 X0 (zcZ 0 zkM))))) ys false (zeJ l a zaN zeK zb3 zbw zaB zaT zbf zbg)
theorem zzI (l : Nat) (a : list) (ys : List (List PA)) :
  vcIter Try.prog zuC zb1 115 l [.one (.fp (zb2 a) 0)] ys =
  (zgv l ys a (0:Int)):=by kernel_rfl
def zll (l:Nat) (X0:List (List PA)→Bool→St→Prop) (ys:List (List PA)) (a:list) (zai:Int):Prop :=
  (zcY (decide (zai < (a.Gates.len : Int)))
 (((0≤zai∧zai < (a.Gates.len:Int))) ∧
 (((0≤(w64 (zai+(1:Int)))∧(w64 (zai+(1:Int)))≤(a.Gates.len:Int)∧(a.Gates.len:Int)≤(a.Gates.len:Int))) ∧
 (zgw l  X0 ys a zai (((a.Gates.len:Int) - (w64 (zai+(1:Int)))).toNat) (slG (fun i=>enc_55 (a.Gates.get i)) ((w64 (zai+(1:Int))).toNat)) (((a.Gates.len:Int) - (w64 (zai+(1:Int)))).toNat:Int) (0:Int) ((a.Gates.get zai.toNat).Z) ((a.Gates.get zai.toNat).Low) ((a.Gates.get zai.toNat).High))))
 (ys=[]))
theorem znD (l : Nat) (X0 : List (List PA) → Bool → St → Prop) (ys : List (List PA)) (a : list) (zai : Int) :
  vcY Try.prog zuC zb1 l (cd (cdF Try.f115 [1,0]) [0]) (ziI Try.prog zb1 1 X0 (zcZ 0 zkM)) ys false (zeI l a zai) =
  zll l X0 ys a zai:=by kernel_rfl
theorem zsS (l : Nat) (ys : List (List PA)) (a : list) (zai : Int)
  (h:∀ X0:List (List PA)→Bool→St→Prop,(∀ (ys:List (List PA)) (zai:Int),zll l X0 ys a zai→X0 ys false (zeI l a zai))→X0 ys false (zeI l a zai)) :
  zgv l ys a zai:=by
  have e:zgv l ys a zai=(∀ X:List (List PA)→Bool→St→Prop,(∀ ys q s,vcY Try.prog zuC zb1 l (cd (cdF Try.f115 [1,0]) [0]) (ziI Try.prog zb1 1 X (zcZ 0 zkM)) ys q s→X ys q s)→X ys false (zeI l a zai)):=by kernel_rfl
  refine zau e ?_
  intro X hX
  refine h X ?_
  intro ys zai hs
  refine hX _ _ _ ?_
  have e2:=znD l X ys a zai
  rw [e2]
  exact hs
def zlm (l:Nat) (X0:List (List PA)→Bool→St→Prop) (X1:List (List PA)→Bool→St→Prop) (ys:List (List PA)) (a:list) (zaN:Int) (zaF:(Sl Gate)) (zbw:Int) (zaB:Int) (zaT:Int) (zbf:Int) (zbg:Int):Prop :=
  (zcY (decide (zaB < zbw))
 (((0≤zaB∧zaB < (zaF.len:Int))) ∧
 (zcY (zaT == (zaF.get zaB.toNat).Z)
 (X1 ys false (zeJ l a zaN zaF.len (fun i=>enc_55 (zaF.get i)) zbw (w64 (zaB+(1:Int))) zaT zbf zbg))
 (l=l∧∃ r1,ys=[.agg [.int .i64 ((zkH zaT zbf ((zaF.get zaB.toNat).Z) ((zaF.get zaB.toNat).Low)).slope),.int .i64 ((zkH zaT zbf ((zaF.get zaB.toNat).Z) ((zaF.get zaB.toNat).Low)).start),.int .i64 ((zkH zaT zbf ((zaF.get zaB.toNat).Z) ((zaF.get zaB.toNat).Low)).den)]] :: r1 ∧
 (l=l∧∃ r2,r1=[.agg [.int .i64 ((zkH zaT zbf ((zaF.get zaB.toNat).Z) ((zaF.get zaB.toNat).High)).slope),.int .i64 ((zkH zaT zbf ((zaF.get zaB.toNat).Z) ((zaF.get zaB.toNat).High)).start),.int .i64 ((zkH zaT zbf ((zaF.get zaB.toNat).Z) ((zaF.get zaB.toNat).High)).den)]] :: r2 ∧
 (l=l∧∃ r3,r2=[.agg [.int .i64 ((zkH zaT zbg ((zaF.get zaB.toNat).Z) ((zaF.get zaB.toNat).Low)).slope),.int .i64 ((zkH zaT zbg ((zaF.get zaB.toNat).Z) ((zaF.get zaB.toNat).Low)).start),.int .i64 ((zkH zaT zbg ((zaF.get zaB.toNat).Z) ((zaF.get zaB.toNat).Low)).den)]] :: r3 ∧
 (l=l∧∃ r4,r3=[.agg [.int .i64 ((zkH zaT zbg ((zaF.get zaB.toNat).Z) ((zaF.get zaB.toNat).High)).slope),.int .i64 ((zkH zaT zbg ((zaF.get zaB.toNat).Z) ((zaF.get zaB.toNat).High)).start),.int .i64 ((zkH zaT zbg ((zaF.get zaB.toNat).Z) ((zaF.get zaB.toNat).High)).den)]] :: r4 ∧
 (X1 r4 false (zeJ l a zaN zaF.len (fun i=>enc_55 (zaF.get i)) zbw (w64 (zaB+(1:Int))) zaT zbf zbg))∧True)∧True)∧True)∧True)))
 (X0 ys false (zeI l a (w64 (zaN+(1:Int))))))
theorem znE (l : Nat) (X0 : List (List PA) → Bool → St → Prop) (X1 : List (List PA) → Bool → St → Prop) (ys : List (List PA)) (a : list) (zaN : Int) (zaF : (Sl Gate)) (zbw : Int) (zaB : Int) (zaT : Int) (zbf : Int) (zbg : Int) :
  vcY Try.prog zuC zb1 l (cd (cdF Try.f115 [1,0,0,1,1,0,0,1,1,0]) [0]) (ziI Try.prog zb1 4 X1 (zcZ 2 (zcZ 1 (zGB (zGD Try.prog zb1 17 (vcY Try.prog zuC zb1 l (cdF Try.f115 [1,0,0,1,1,1]) (ziI Try.prog zb1 1 X0 (zcZ 0 zkM)))) (ziI Try.prog zb1 1 X0 (zcZ 0 zkM)))))) ys false (zeJ l a zaN zaF.len (fun i=>enc_55 (zaF.get i)) zbw zaB zaT zbf zbg) =
  zlm l  X0 X1 ys a zaN zaF zbw zaB zaT zbf zbg:=by kernel_rfl
theorem zsU (l : Nat) (X0 : List (List PA) → Bool → St → Prop) (ys : List (List PA)) (a : list) (zaN : Int) (zeK : Nat) (zb3 : Nat → List PV) (zbw : Int) (zaB : Int) (zaT : Int) (zbf : Int) (zbg : Int)
  (h:∀ X1:List (List PA)→Bool→St→Prop,(∀ (ys:List (List PA)) (zaN:Int) (zaF:(Sl Gate)) (zbw:Int) (zaB:Int) (zaT:Int) (zbf:Int) (zbg:Int),zlm l  X0 X1 ys a zaN zaF zbw zaB zaT zbf zbg→X1 ys false (zeJ l a zaN zaF.len (fun i=>enc_55 (zaF.get i)) zbw zaB zaT zbf zbg))→X1 ys false (zeJ l a zaN zeK zb3 zbw zaB zaT zbf zbg)) :
  zgw l  X0 ys a zaN zeK zb3 zbw zaB zaT zbf zbg:=by
  have e:zgw l  X0 ys a zaN zeK zb3 zbw zaB zaT zbf zbg=(∀ X:List (List PA)→Bool→St→Prop,(∀ ys q s,vcY Try.prog zuC zb1 l (cd (cdF Try.f115 [1,0,0,1,1,0,0,1,1,0]) [0]) (ziI Try.prog zb1 4 X (zcZ 2 (zcZ 1 (zGB (zGD Try.prog zb1 17 (vcY Try.prog zuC zb1 l (cdF Try.f115 [1,0,0,1,1,1]) (ziI Try.prog zb1 1 X0 (zcZ 0 zkM)))) (ziI Try.prog zb1 1 X0 (zcZ 0 zkM)))))) ys q s→X ys q s)→X ys false (zeJ l a zaN zeK zb3 zbw zaB zaT zbf zbg)):=by kernel_rfl
  refine zau e ?_
  intro X hX
  refine h X ?_
  intro ys zaN zaF zbw zaB zaT zbf zbg hs
  refine hX _ _ _ ?_
  have e2:=znE l  X0 X ys a zaN zaF zbw zaB zaT zbf zbg
  rw [e2]
  exact hs
attribute [irreducible] zgv zgw
def zek (S0:Int→List straight) (a:list) (S1:Int→(Sl Gate)→Int→Int→Int→Int→Int→List straight) (zaN:Int) (zaF:(Sl Gate)) (zbw:Int) (zaB:Int) (zaT:Int) (zbf:Int) (zbg:Int):List straight :=
  (cond (decide (zaB < zbw))
 (cond (zaT == (zaF.get zaB.toNat).Z)
 (S1 zaN zaF zbw (w64 (zaB+(1:Int))) zaT zbf zbg)
 ((zkH zaT zbf ((zaF.get zaB.toNat).Z) ((zaF.get zaB.toNat).Low)) :: ((zkH zaT zbf ((zaF.get zaB.toNat).Z) ((zaF.get zaB.toNat).High)) :: ((zkH zaT zbg ((zaF.get zaB.toNat).Z) ((zaF.get zaB.toNat).Low)) :: ((zkH zaT zbg ((zaF.get zaB.toNat).Z) ((zaF.get zaB.toNat).High)) :: (S1 zaN zaF zbw (w64 (zaB+(1:Int))) zaT zbf zbg))))))
 (S0 (w64 (zaN+(1:Int)))))
def zel (P0:Int→Bool) (a:list) (P1:Int→(Sl Gate)→Int→Int→Int→Int→Int→Bool) (zaN:Int) (zaF:(Sl Gate)) (zbw:Int) (zaB:Int) (zaT:Int) (zbf:Int) (zbg:Int):Bool :=
  (cond (decide (zaB < zbw))
 (decide ((0≤zaB∧zaB < (zaF.len:Int))) &&
 (cond (zaT == (zaF.get zaB.toNat).Z)
 (P1 zaN zaF zbw (w64 (zaB+(1:Int))) zaT zbf zbg)
 (P1 zaN zaF zbw (w64 (zaB+(1:Int))) zaT zbf zbg)))
 (P0 (w64 (zaN+(1:Int)))))
def zdk (S0 : Int → List straight) (a : list) : Nat → Int → (Sl Gate) → Int → Int → Int → Int → Int → List straight
  | 0=>fun _ _ _ _ _ _ _=>[]
  | k+1=>zek S0 a (zdk S0 a k)
def zdl (P0 : Int → Bool) (a : list) : Nat → Int → (Sl Gate) → Int → Int → Int → Int → Int → Bool
  | 0=>fun _ _ _ _ _ _ _=>false
  | k+1=>zel P0 a (zdl P0 a k)
def zl1 (S0:Int→List straight) (a:list) (zaN:Int) (zaF:(Sl Gate)) (zbw:Int) (zaB:Int) (zaT:Int) (zbf:Int) (zbg:Int):List straight:=zdk S0 a Fuel zaN zaF zbw zaB zaT zbf zbg
def zl2 (P0:Int→Bool) (a:list) (zaN:Int) (zaF:(Sl Gate)) (zbw:Int) (zaB:Int) (zaT:Int) (zbf:Int) (zbg:Int):Bool:=zdl P0 a Fuel zaN zaF zbw zaB zaT zbf zbg
theorem zzJ (l : Nat) (a : list)
  (X0:List (List PA)→Bool→St→Prop) (P0:Int→Bool) (S0:Int→List straight)
  (hX0:∀ (ys:List (List PA)) (zai:Int),P0 zai=true→ys=(S0 zai).map (fun y=>[.agg (zah y)])→X0 ys false (zeI l a zai)) (ys:List (List PA)) (zaN:Int) (zaF:(Sl Gate)) (zbw:Int) (zaB:Int) (zaT:Int) (zbf:Int) (zbg:Int) (zb3:Nat→List PV) (zjV:zb3=fun i=>enc_55 (zaF.get i)) (hs:zl2 P0 a zaN zaF zbw zaB zaT zbf zbg=true) (hk:ys=(zl1 S0 a zaN zaF zbw zaB zaT zbf zbg).map (fun y=>[.agg (zah y)])):zgw l  X0 ys a zaN zaF.len zb3 zbw zaB zaT zbf zbg:=by
  refine zsU l  X0 ys a zaN zaF.len zb3 zbw zaB zaT zbf zbg ?_
  intro X1 hstep
  have key:∀ (k:Nat) (ys:List (List PA)) (zaN:Int) (zaF:(Sl Gate)) (zbw:Int) (zaB:Int) (zaT:Int) (zbf:Int) (zbg:Int) (zb3:Nat→List PV) (zjV:zb3=fun i=>enc_55 (zaF.get i)),zdl P0 a k zaN zaF zbw zaB zaT zbf zbg=true→ys=(zdk S0 a k zaN zaF zbw zaB zaT zbf zbg).map (fun y=>[.agg (zah y)])→X1 ys false (zeJ l a zaN zaF.len zb3 zbw zaB zaT zbf zbg):=by
    intro k
    induction k with
    | zero=>intro ys zaN zaF zbw zaB zaT zbf zbg zb3 zjV hs;exact absurd hs Bool.false_ne_true
    | succ k ih =>
      intro ys zaN zaF zbw zaB zaT zbf zbg zb3 zjV hs hk
      subst zjV
      refine hstep ys zaN zaF zbw zaB zaT zbf zbg ?_
      have hs:zel P0 a (zdl P0 a k) zaN zaF zbw zaB zaT zbf zbg=true:=hs
      have hk:ys=(zek S0 a (zdk S0 a k) zaN zaF zbw zaB zaT zbf zbg).map (fun y=>[.agg (zah y)]):=hk
      unfold zel at hs
      unfold zek at hk
      generalize zdk S0 a k=S1 at hk ih
      generalize zdl P0 a k=P1 at hs ih
      have hX1:=ih
      exact (zlY hs hk
 (fun hs hk => (zat hs fun hc hs => ⟨hc, (zlY hs hk
 (fun hs hk=>(hX1 _ zaN zaF zbw (w64 (zaB+(1:Int))) zaT zbf zbg (fun i=>enc_55 (zaF.get i)) rfl hs hk))
 (fun hs hk=>(itY hk rfl (fun _ hk=>(itY hk rfl (fun _ hk=>(itY hk rfl (fun _ hk=>(itY hk rfl (fun _ hk=>(hX1 _ zaN zaF zbw (w64 (zaB+(1:Int))) zaT zbf zbg (fun i=>enc_55 (zaF.get i)) rfl hs hk)))))))))))⟩))
 (fun hs hk=>(hX0 _ (w64 (zaN+(1:Int))) hs hk)))
  exact key _ _ zaN zaF zbw zaB zaT zbf zbg zb3 zjV hs hk
def zem (a:list) (S0:Int→List straight) (zai:Int):List straight :=
  (cond (decide (zai < (a.Gates.len : Int)))
 (zl1 S0 a zai (⟨((a.Gates.len:Int) - (w64 (zai+(1:Int)))).toNat,(fun i=>a.Gates.get (i+((w64 (zai+(1:Int))).toNat)))⟩:Sl Gate) (((a.Gates.len:Int) - (w64 (zai+(1:Int)))).toNat:Int) (0:Int) ((a.Gates.get zai.toNat).Z) ((a.Gates.get zai.toNat).Low) ((a.Gates.get zai.toNat).High))
 [])
def zen (a:list) (P0:Int→Bool) (zai:Int):Bool :=
  (cond (decide (zai < (a.Gates.len : Int)))
 (decide ((0≤zai∧zai < (a.Gates.len:Int))) &&
 (decide ((0≤(w64 (zai+(1:Int)))∧(w64 (zai+(1:Int)))≤(a.Gates.len:Int)∧(a.Gates.len:Int)≤(a.Gates.len:Int))) &&
 (zl2 P0 a zai (⟨((a.Gates.len:Int) - (w64 (zai+(1:Int)))).toNat,(fun i=>a.Gates.get (i+((w64 (zai+(1:Int))).toNat)))⟩:Sl Gate) (((a.Gates.len:Int) - (w64 (zai+(1:Int)))).toNat:Int) (0:Int) ((a.Gates.get zai.toNat).Z) ((a.Gates.get zai.toNat).Low) ((a.Gates.get zai.toNat).High))))
 true)
def zdm (a : list) : Nat → Int → List straight
  | 0=>fun _=>[]
  | k+1=>zem a (zdm a k)
def zdn (a : list) : Nat → Int → Bool
  | 0=>fun _=>false
  | k+1=>zen a (zdn a k)
def zrn (a:list) (zai:Int):List straight:=zdm a Fuel zai
def zro (a:list) (zai:Int):Bool:=zdn a Fuel zai
theorem zzK (l:Nat) (a:list) (ys:List (List PA)) (zai:Int) (hs:zro a zai=true) (hk:ys=(zrn a zai).map (fun y=>[.agg (zah y)])):zgv l ys a zai:=by
  refine zsS l ys a zai ?_
  intro X0 hstep
  have key:∀ (k:Nat) (ys:List (List PA)) (zai:Int),zdn a k zai=true→ys=(zdm a k zai).map (fun y=>[.agg (zah y)])→X0 ys false (zeI l a zai):=by
    intro k
    induction k with
    | zero=>intro ys zai hs;exact absurd hs Bool.false_ne_true
    | succ k ih =>
      intro ys zai hs hk
      refine hstep ys zai ?_
      have hs:zen a (zdn a k) zai=true:=hs
      have hk:ys=(zem a (zdm a k) zai).map (fun y=>[.agg (zah y)]):=hk
      unfold zen at hs
      unfold zem at hk
      generalize zdm a k=S0 at hk ih
      generalize zdn a k=P0 at hs ih
      have hX0:=ih
      exact (zlY hs hk
 (fun hs hk=>(zat hs fun hc hs=>⟨hc,(zat hs fun hc hs=>⟨hc,(zzJ l a X0 P0 S0 hX0 _ zai (⟨((a.Gates.len:Int) - (w64 (zai+(1:Int)))).toNat,(fun i=>a.Gates.get (i+((w64 (zai+(1:Int))).toNat)))⟩:Sl Gate) (((a.Gates.len:Int) - (w64 (zai+(1:Int)))).toNat:Int) (0:Int) ((a.Gates.get zai.toNat).Z) ((a.Gates.get zai.toNat).Low) ((a.Gates.get zai.toNat).High) (slG (fun i=>enc_55 (a.Gates.get i)) ((w64 (zai+(1:Int))).toNat)) rfl hs hk)⟩)⟩))
 (fun hs hk=>hk))
  exact key _ _ zai hs hk
def zAY (a:list):List straight :=
  (zrn a (0:Int))
def zCN (a:list):Bool :=
  (zro a (0:Int))
theorem zNn (l:Nat) (a:list) (ys:List (List PA)) (hs:zCN a=true) (hk:ys=(zAY a).map (fun y=>[.agg (zah y)])):vcIter Try.prog zuC zb1 115 l [.one (.fp (zb2 a) 0)] ys:=by
  refine zau (zzI l a ys) ?_
  unfold zCN at hs
  unfold zAY at hk
  exact (zzK l a _ (0:Int) hs hk)
def zCO : List PA → Option (Prop × List (List PA))
  | [.one (.fp [.sl a_Gates_n a_Gates_s a_Gates_g] 0)]=>some (IsE enc_55 3 a_Gates_s a_Gates_g∧zCN (⟨(⟨a_Gates_n,zad a_Gates_g⟩:(Sl Gate))⟩:list)=true,(zAY (⟨(⟨a_Gates_n,zad a_Gates_g⟩:(Sl Gate))⟩:list)).map fun y=>[.agg (zah y)])
  | _=>none
theorem zCP:zaf Try.prog 115:=⟨_,rfl,rfl,by kernel_rfl⟩
theorem zKL:zAy Try.prog 115 zCO:=zGY zHA zCP fun l caps safe ys h hs=>by
  unfold zCO at h
  split at h
  · rename_i a_Gates_n a_Gates_s a_Gates_g
    cases h
    obtain ⟨⟨rfl,a_Gates_f,rfl⟩,hs⟩:=hs
    try rw [zac a_Gates_f] at hs
    try rw [zac a_Gates_f]
    exact ⟨fun _ _=>[],fun _=>false,zb1,zNn l (⟨(⟨a_Gates_n,a_Gates_f⟩:(Sl Gate))⟩:list) _ hs rfl⟩
  · cases h
abbrev T65:Tabs:=(((((Tabs.nil.addF 67 zoU).addF 79 zzH).addF 96 zCJ).addF 97 zCL).addI 115 zCO)
theorem zKM:TabsOk Try.prog T65:=(((((TabsOk.nil.addF zHr).addF zMc).addF zNj).addF zNk).addI zKL)
abbrev G65:Ctrs:=csm T65 (fun _ _=>[]) (fun l=>Nat.beq l 14)
def zgx:Ann:=⟨39,[(0,⟨[0,2],[2],[],[],[],[],[]⟩),(1,⟨[2,3],[2,3],[],[],[],[],[]⟩),(2,⟨[2,3,12],[2,3],[],[],[],[],[]⟩),(3,⟨[2],[2],[],[],[],[],[]⟩),(4,⟨[2,3,4],[2,3,4,14],[],[],[],[],[]⟩),(5,⟨[2,3,4,17],[2,3,4,14],[],[],[],[],[]⟩),(6,⟨[2,3,4,5,17],[2,3,4,5,14,36],[],[],[],[],[]⟩),(7,⟨[2,3,4,5,6,17],[2,3,4,5,6,14,36],[],[],[],[],[]⟩),(8,⟨[2,3,4,5,6,17,29],[2,3,4,5,6,14,36],[],[],[],[],[]⟩),(9,⟨[2,3,4,5,17],[2,3,4,5,14,36],[],[],[],[],[]⟩),(10,⟨[2,3,4,17],[2,3,4,14,36],[],[],[],[],[]⟩),(11,⟨[2],[2,36],[],[],[],[],[]⟩)],
 [(6,⟨[2,3,4,17],[2,3,4,14,36],[],[(3,1,36,118,fun _=>zah default)],[],[],[]⟩)],
 [(3,⟨[2,3,12],[2,3],[],[],[],[],[]⟩),(4,⟨[2,3],[2,3],[],[],[],[],[]⟩)],
 [],[]⟩
def zHB (zaa:(Sl Gate)) (zaH:Bool):St:=⟨[(2,.one (.c (.ptr 2 0))),(3,.one (.c (.ptr 3 0))),(12,.one (.c (.p (.bool zaH))))],[(2,.box 104 [.p (.nils),.p (.nils)]),(3,.box 104 [.p (.sl zaa.len 3 (fun i=>enc_55 (zaa.get i))),.p (.nils)])],[]⟩
def zl3 (K:List PA→Prop) (zaa:(Sl Gate)) (zaH:Bool):Prop:=vc Try.prog G65 zgx (cdF Try.f65 [1,1,0,1]) (sqK Try.prog G65 zgx (cdF Try.f65 [1,1,1]) (zco Try.prog Try.f65 K)) (zHB zaa zaH)
def zHC (zaa:(Sl Gate)):St:=⟨[(2,.one (.c (.ptr 2 0))),(3,.one (.c (.ptr 3 0)))],[(2,.box 104 [.p (.nils),.p (.nils)]),(3,.box 104 [.p (.sl zaa.len 3 (fun i=>enc_55 (zaa.get i))),.p (.nils)])],[]⟩
def zl4 (K:List PA→Prop) (zaa:(Sl Gate)):Prop:=vc Try.prog G65 zgx (cdF Try.f65 [1,1,1]) (zco Try.prog Try.f65 K) (zHC zaa)
def zeL (zaa:(Sl Gate)) (zeM:Nat) (zb4:Nat→List PV) (zaq:Nat) (zak:(List Int→Option (List Int))):St:=⟨[(2,.one (.c (.ptr 2 0))),(3,.one (.c (.ptr 3 0))),(4,.one (.c (.ptr 4 0))),(17,.one (.c (.p (.fn 115 [] [.fp (zb2 (⟨zaa⟩:list)) 0]))))],[(2,.box 104 [.p (.nils),.p (.nils)]),(3,.box 104 [.p (.sl zaa.len 3 (fun i=>enc_55 (zaa.get i))),.vec 36]),(4,.box 136 [.mo 14]),(14,.mo 37 4 (true,4,false,[none]) zaq zak),(36,.vec 118 3 24 zeM zb4)],[]⟩
def zjW (K:List PA→Prop) (zaa:(Sl Gate)) (zeM:Nat) (zb4:Nat→List PV) (zaq:Nat) (zak:(List Int→Option (List Int))):Prop:=vc Try.prog G65 zgx (cdF Try.f65 [1,1,1,1,0,1,0]) (zaZ 0 (sqK Try.prog G65 zgx (cdF Try.f65 [1,1,1,1,1]) (zco Try.prog Try.f65 K))) (zeL zaa zeM zb4 zaq zak)
theorem zCQ (zaa : (Sl Gate)) (K : List PA → Prop) :
  vcFun Try.prog G65 zgx 65 [.one (.sl zaa.len 3 (fun i=>enc_55 (zaa.get i)))] K =
  ((IsE enc_55 3 3 (fun i=>enc_55 (zaa.get i))∧(p67 (⟨zaa⟩:list)=true)) ∧
 (zl3 K zaa (s67 (⟨zaa⟩:list)))):=by kernel_rfl
theorem zCR (K : List PA → Prop) (zaa : (Sl Gate)) (zaH : Bool) :
  zl3 K zaa zaH =
  (zcY zaH
 (K [.agg [.sl zaa.len 3 (fun i=>enc_55 (zaa.get i)),.nils]])
 (zl4 K zaa)):=by kernel_rfl
theorem zCS (K : List PA → Prop) (zaa : (Sl Gate)) :
  zl4 K zaa =
  ((IsE enc_55 3 3 (fun i=>enc_55 (zaa.get i))) ∧
 (zjW K zaa 0 (fun i=>zah ((fun _=>default) i)) 0 (fun _=>none))):=by kernel_rfl
def znF (K:List PA→Prop) (zaa:(Sl Gate)) (zaz:(Sl straight)) (zaq:Nat) (zak:(List Int→Option (List Int))):Prop :=
  (K [.agg [.sl zaa.len 3 (fun i=>enc_55 (zaa.get i)),.sl zaz.len 3 (fun i=>zah (zaz.get i))]])
def znG (K:List PA→Prop) (X2:List (List PA)→St→Prop) (y2:straight) (rest2:List (List PA)) (zaa:(Sl Gate)) (zaz:(Sl straight)) (zaq:Nat) (zak:(List Int→Option (List Int))):Prop :=
  (((p79 y2=true)) ∧
 (zcY (!((zdL (zak [(s79 y2).Slope.Num, (s79 y2).Slope.Den, (s79 y2).Start.Num, (s79 y2).Start.Den]) 0) != 0))
 ((IsE enc_55 3 3 (fun i=>enc_55 (zaa.get i))∧IsE zah 3 3 (fun i=>zah (zaz.get i))∧(p97 (⟨(⟨zaa⟩:list),zaz⟩:set) y2=true)) ∧
 (zcY (s97 (⟨(⟨zaa⟩ : list), zaz⟩ : set) y2)
 ((((zaz.len+1) * 24≤140737488355328∧zaz.len+1≤9223372036854775807)) ∧
 (X2 rest2 (zeL zaa (zaz.len+1) (appG zaz.len (fun i=>zah (zaz.get i)) (fun _=>(zah y2))) (addN (zak [(s79 y2).Slope.Num,(s79 y2).Slope.Den,(s79 y2).Start.Num,(s79 y2).Start.Den]) zaq) (zkS [(s79 y2).Slope.Num,(s79 y2).Slope.Den,(s79 y2).Start.Num,(s79 y2).Start.Den] [1] zak))))
 (X2 rest2 (zeL zaa zaz.len (fun i=>zah (zaz.get i)) zaq zak))))
 (X2 rest2 (zeL zaa zaz.len (fun i=>zah (zaz.get i)) zaq zak))))
theorem zoV (K:List PA→Prop) (zaa:(Sl Gate)) (zaz:(Sl straight)) (zaq:Nat) (zak:(List Int→Option (List Int))):(zaZ 0 (sqK Try.prog G65 zgx (cdF Try.f65 [1,1,1,1,1]) (zco Try.prog Try.f65 K))) .normal (zeL zaa zaz.len (fun i=>zah (zaz.get i)) zaq zak)=znF K zaa zaz zaq zak:=by kernel_rfl
theorem zoW (K : List PA → Prop) (X2 : List (List PA) → St → Prop) (y2 : straight) (rest2 : List (List PA)) (zaa : (Sl Gate)) (zaz : (Sl straight)) (zaq : Nat) (zak : (List Int → Option (List Int))) :
  zL4 Try.prog G65 zgx 6 [18] (cd (cdF Try.f65 [1,1,1,1,0,1,0]) [0]) (cd (cdF Try.f65 [1,1,1,1,0,1,0]) [1]) X2 (zaZ 0 (sqK Try.prog G65 zgx (cdF Try.f65 [1,1,1,1,1]) (zco Try.prog Try.f65 K))) [.agg (zah y2)] rest2 (zeL zaa zaz.len (fun i=>zah (zaz.get i)) zaq zak)=znG K X2 y2 rest2 zaa zaz zaq zak:=by kernel_rfl
theorem zuD (K : List PA → Prop) (zaa : (Sl Gate)) (zeM : Nat) (zb4 : Nat → List PV) (zaq : Nat) (zak : (List Int → Option (List Int)))
  (hsafe:IsE enc_55 3 3 (fun i=>enc_55 ((⟨zaa⟩:list).Gates.get i))∧(zCN (⟨zaa⟩:list)=true)) (h:∀ X2:List (List PA)→St→Prop,(∀ (zaz:(Sl straight)) (zaq:Nat) (zak:(List Int→Option (List Int))),znF K zaa zaz zaq zak→X2 [] (zeL zaa zaz.len (fun i=>zah (zaz.get i)) zaq zak))→(∀ (y:straight) (rest:List (List PA)) (zaz:(Sl straight)) (zaq:Nat) (zak:(List Int→Option (List Int))),znG K X2 y rest zaa zaz zaq zak→X2 ([.agg (zah y)] :: rest) (zeL zaa zaz.len (fun i=>zah (zaz.get i)) zaq zak))→X2 ((zAY (⟨zaa⟩:list)).map fun y=>[.agg (zah y)]) (zeL zaa zeM zb4 zaq zak)) :
  zjW K zaa zeM zb4 zaq zak:=by
  have e:zjW K zaa zeM zb4 zaq zak=((IsE enc_55 3 3 (fun i=>enc_55 ((⟨zaa⟩:list).Gates.get i))∧(zCN (⟨zaa⟩:list)=true))∧∀ X:List (List PA)→St→Prop,(∀ s,(zaZ 0 (sqK Try.prog G65 zgx (cdF Try.f65 [1,1,1,1,1]) (zco Try.prog Try.f65 K))) .normal s→X [] s)→(∀ y rest s,zL4 Try.prog G65 zgx 6 [18] (cd (cdF Try.f65 [1,1,1,1,0,1,0]) [0]) (cd (cdF Try.f65 [1,1,1,1,0,1,0]) [1]) X (zaZ 0 (sqK Try.prog G65 zgx (cdF Try.f65 [1,1,1,1,1]) (zco Try.prog Try.f65 K))) y rest s→X (y :: rest) s)→X ((zAY (⟨zaa⟩:list)).map fun y=>[.agg (zah y)]) (zeL zaa zeM zb4 zaq zak)):=by kernel_rfl
  refine zau e ⟨hsafe,?_⟩
  intro X h0 h1
  refine h X (fun zaz zaq zak hs=>h0 _ ?_) (fun y rest zaz zaq zak hs=>h1 _ rest _ ?_)
  · rw [zoV K zaa zaz zaq zak];exact hs
  · have e2 := zoW K X y rest zaa zaz zaq zak
    rw [e2];exact hs
abbrev e65 (r:set):List PA:=[.agg [.sl r.list.Gates.len 3 (fun i=>enc_55 (r.list.Gates.get i)),.sl r.corners.len 3 (fun i=>zah (r.corners.get i))]]
attribute [irreducible] zl3 zl4 zjW
def zoX (zaa:(Sl Gate)) (zaz:(Sl straight)) (zaq:Nat) (zak:(List Int→Option (List Int))):set :=
  (⟨(⟨zaa⟩:list),zaz⟩:set)
def zoY (zaa:(Sl Gate)) (zaz:(Sl straight)) (zaq:Nat) (zak:(List Int→Option (List Int))):Bool :=
  true
def zjX (zaa:(Sl Gate)) (y2:straight) (S2:(Sl straight)→Nat→(List Int→Option (List Int))→set) (zaz:(Sl straight)) (zaq:Nat) (zak:(List Int→Option (List Int))):set :=
  (cond (!((zdL (zak [(s79 y2).Slope.Num, (s79 y2).Slope.Den, (s79 y2).Start.Num, (s79 y2).Start.Den]) 0) != 0))
 (cond (s97 (⟨(⟨zaa⟩ : list), zaz⟩ : set) y2)
 (S2 (⟨(zaz.len+1),(zdi zaz.len zaz.get (fun _=>y2))⟩:Sl straight) (addN (zak [(s79 y2).Slope.Num,(s79 y2).Slope.Den,(s79 y2).Start.Num,(s79 y2).Start.Den]) zaq) (zkS [(s79 y2).Slope.Num,(s79 y2).Slope.Den,(s79 y2).Start.Num,(s79 y2).Start.Den] [1] zak))
 (S2 zaz zaq zak))
 (S2 zaz zaq zak))
def zjY (zaa:(Sl Gate)) (y2:straight) (P2:(Sl straight)→Nat→(List Int→Option (List Int))→Bool) (zaz:(Sl straight)) (zaq:Nat) (zak:(List Int→Option (List Int))):Bool :=
  (decide ((p79 y2=true)) &&
 (cond (!((zdL (zak [(s79 y2).Slope.Num, (s79 y2).Slope.Den, (s79 y2).Start.Num, (s79 y2).Start.Den]) 0) != 0))
 (decide ((p97 (⟨(⟨zaa⟩:list),zaz⟩:set) y2=true)) &&
 (cond (s97 (⟨(⟨zaa⟩ : list), zaz⟩ : set) y2)
 (decide (((zaz.len+1) * 24≤140737488355328∧zaz.len+1≤9223372036854775807)) &&
 (P2 (⟨(zaz.len+1),(zdi zaz.len zaz.get (fun _=>y2))⟩:Sl straight) (addN (zak [(s79 y2).Slope.Num,(s79 y2).Slope.Den,(s79 y2).Start.Num,(s79 y2).Start.Den]) zaq) (zkS [(s79 y2).Slope.Num,(s79 y2).Slope.Den,(s79 y2).Start.Num,(s79 y2).Start.Den] [1] zak)))
 (P2 zaz zaq zak)))
 (P2 zaz zaq zak)))
def zeN (zaa : (Sl Gate)) : List straight → (Sl straight) → Nat → (List Int → Option (List Int)) → set
  | []=>zoX zaa
  | y :: r=>zjX zaa y (zeN zaa r)
def zeO (zaa : (Sl Gate)) : List straight → (Sl straight) → Nat → (List Int → Option (List Int)) → Bool
  | []=>zoY zaa
  | y :: r=>zjY zaa y (zeO zaa r)
def zoZ (zaa:(Sl Gate)) (zaz:(Sl straight)) (zaq:Nat) (zak:(List Int→Option (List Int))):set:=zeN zaa (zAY (⟨zaa⟩:list)) zaz zaq zak
def zl5 (zaa:(Sl Gate)) (zaz:(Sl straight)) (zaq:Nat) (zak:(List Int→Option (List Int))):Bool:=decide ((zCN (⟨zaa⟩:list)=true)) && zeO zaa (zAY (⟨zaa⟩:list)) zaz zaq zak
theorem zCT (K:List PA→Prop) (zaa:(Sl Gate)) (zaz:(Sl straight)) (zaq:Nat) (zak:(List Int→Option (List Int))) (zb4:Nat→List PV) (zgW:zb4=fun i=>zah (zaz.get i)) (hs:zl5 zaa zaz zaq zak=true) (hk:K (e65 (zoZ zaa zaz zaq zak))):zjW (Wk K) zaa zaz.len zb4 zaq zak:=by
  unfold zl5 at hs
  rw [Bool.and_eq_true] at hs
  obtain ⟨hsf,hs⟩:=hs
  have hc:=of_decide_eq_true hsf
  refine zuD (Wk K) zaa zaz.len zb4 zaq zak ⟨isE,hc⟩ ?_
  intro X2 hexit hstep
  have key:∀ (l:List straight) (zaz:(Sl straight)) (zaq:Nat) (zak:(List Int→Option (List Int))) (zb4:Nat→List PV) (zgW:zb4=fun i=>zah (zaz.get i)),zeO zaa l zaz zaq zak=true→K (e65 (zeN zaa l zaz zaq zak))→X2 (l.map fun y=>[.agg (zah y)]) (zeL zaa zaz.len zb4 zaq zak):=by
    intro l
    induction l with
    | nil =>
      intro zaz zaq zak zb4 zgW hs hk
      subst zgW
      refine hexit zaz zaq zak ?_
      have hs:zoY zaa zaz zaq zak=true:=hs
      have hk:K (e65 (zoX zaa zaz zaq zak)):=hk
      unfold zoY at hs
      unfold zoX at hk
      exact (zdA hk)
    | cons y2 l ih =>
      intro zaz zaq zak zb4 zgW hs hk
      subst zgW
      refine hstep y2 _ zaz zaq zak ?_
      have hs:zjY zaa y2 (zeO zaa l) zaz zaq zak=true:=hs
      have hk:K (e65 (zjX zaa y2 (zeN zaa l) zaz zaq zak)):=hk
      unfold zjY at hs
      unfold zjX at hk
      generalize zeN zaa l=S2 at hk ih
      generalize zeO zaa l=P2 at hs ih
      have hX2:=ih
      exact (zat hs fun hc hs => ⟨hc, (zcg (K := fun r => K (e65 r))
 (fun hs hk => (zat hs fun hc hs => ⟨⟨isE, isE, hc⟩, (zcg (K := fun r => K (e65 r))
 (fun hs hk=>(zat hs fun hc hs=>⟨hc,(hX2 (⟨(zaz.len+1),(zdi zaz.len zaz.get (fun _=>y2))⟩:Sl straight) (addN (zak [(s79 y2).Slope.Num,(s79 y2).Slope.Den,(s79 y2).Start.Num,(s79 y2).Start.Den]) zaq) (zkS [(s79 y2).Slope.Num,(s79 y2).Slope.Den,(s79 y2).Start.Num,(s79 y2).Start.Den] [1] zak) (appG zaz.len (fun i=>zah (zaz.get i)) (fun _=>(zah y2))) (zd2 (enc:=zah) (f:=zaz.get) (h:=(fun _=>y2)) rfl rfl) hs hk)⟩))
 (fun hs hk=>(hX2 zaz zaq zak (fun i=>zah (zaz.get i)) rfl hs hk)) hs hk)⟩))
 (fun hs hk=>(hX2 zaz zaq zak (fun i=>zah (zaz.get i)) rfl hs hk)) hs hk)⟩)
  exact key _ zaz zaq zak zb4 zgW hs hk
def zl6 (zaa:(Sl Gate)):set :=
  (zoZ zaa (⟨0,(fun _=>default)⟩:Sl straight) 0 (fun _=>none))
def zl7 (zaa:(Sl Gate)):Bool :=
  (zl5 zaa (⟨0,(fun _=>default)⟩:Sl straight) 0 (fun _=>none))
theorem zCU (K:List PA→Prop) (zaa:(Sl Gate)) (hs:zl7 zaa=true) (hk:K (e65 (zl6 zaa))):zl4 (Wk K) zaa:=by
  refine zau (zCS (Wk K) zaa) ?_
  unfold zl7 at hs
  unfold zl6 at hk
  exact ⟨isE,(zCT K zaa (⟨0,(fun _=>default)⟩:Sl straight) 0 (fun _=>none) (fun i=>zah ((fun _=>default) i)) rfl hs hk)⟩
def zl8 (zaa:(Sl Gate)) (zaH:Bool):set :=
  (cond zaH
 (⟨(⟨zaa⟩:list),(⟨0,fun _=>default⟩:(Sl straight))⟩:set)
 (zl6 zaa))
def zl9 (zaa:(Sl Gate)) (zaH:Bool):Bool :=
  (cond zaH
 true
 (zl7 zaa))
theorem zCV (K:List PA→Prop) (zaa:(Sl Gate)) (zaH:Bool) (hs:zl9 zaa zaH=true) (hk:K (e65 (zl8 zaa zaH))):zl3 (Wk K) zaa zaH:=by
  refine zau (zCR (Wk K) zaa zaH) ?_
  unfold zl9 at hs
  unfold zl8 at hk
  exact (zcg (K := fun r => K (e65 r))
 (fun hs hk=>(wk hk (zc3 (.agg (zc3 (.rfl _) (zc3 (.nil _ _) zgG))) zgG)))
 (fun hs hk=>(zCU K zaa hs hk)) hs hk)
def s65 (zaa:(Sl Gate)):set :=
  (zl8 zaa (s67 (⟨zaa⟩:list)))
def p65 (zaa:(Sl Gate)):Bool :=
  (decide ((p67 (⟨zaa⟩:list)=true)) &&
 (zl9 zaa (s67 (⟨zaa⟩:list))))
theorem q65 (zaa:(Sl Gate)) (K:List PA→Prop) (hs:p65 zaa=true) (hk:K (e65 (s65 zaa))):vcFun Try.prog G65 zgx 65 [.one (.sl zaa.len 3 (fun i=>enc_55 (zaa.get i)))] (Wk K):=by
  refine zau (zCQ zaa (Wk K)) ?_
  unfold p65 at hs
  unfold s65 at hk
  exact (zat hs fun hc hs=>⟨⟨isE,hc⟩,(zCV K zaa (s67 (⟨zaa⟩:list)) hs hk)⟩)
def zuE : List PA → COut
  | [.one (.sl a0_n a0_s a0_g)]=>.det (IsE enc_55 3 a0_s a0_g∧p65 (⟨a0_n,zad a0_g⟩:(Sl Gate))=true) [.agg [.sl ((s65 (⟨a0_n,zad a0_g⟩:(Sl Gate))).list.Gates.len) 3 (fun i=>enc_55 ((s65 (⟨a0_n,zad a0_g⟩:(Sl Gate))).list.Gates.get i)),.sl ((s65 (⟨a0_n,zad a0_g⟩:(Sl Gate))).corners.len) 3 (fun i=>zah ((s65 (⟨a0_n,zad a0_g⟩:(Sl Gate))).corners.get i))]]
  | _=>.no
theorem zHD:zaf Try.prog 65:=⟨_,rfl,rfl,by kernel_rfl⟩
theorem zKN:Ok Try.prog 65 zuE:=zfG zKM zHD fun args K h=>by
  unfold zuE at h
  split at h
  · rename_i a0_n a0_s a0_g
    obtain ⟨⟨⟨rfl,a0_f,rfl⟩,hs⟩,hk⟩:=h
    try rw [zac a0_f] at hs
    try rw [zac a0_f] at hk
    exact ⟨_,zex zeH _,(fun _ _=>[]),(fun l=>Nat.beq l 14),zgx,q65 (⟨a0_n,a0_f⟩:(Sl Gate)) K hs hk⟩
  · exact h.elim
abbrev T98:Tabs:=Tabs.nil
theorem zKO:TabsOk Try.prog T98:=TabsOk.nil
abbrev G98:Ctrs:=csm T98 (fun _ _=>[]) (fun _=>false)
def zCW:Ann:=⟨38,[(0,zK [1,2] [1,2]),(1,zK [1,2,3] [1,2,3]),(2,zK [2,3,18,19,20] [2,3]),(3,zK [2,3,18,19,20,21] [2,3]),(4,zK [2,3,5,18,19,20] [2,3,5]),(5,zK [2,3,18,19,20] [2,3]),(6,zK [2,3,18,19,20] [2,3]),(7,zK [2] [2])],
 [(3,zK [2,3,18,19,20] [2,3])],
 [],
 [],[]⟩
abbrev R98:=Span
abbrev e98 (r:R98):List PA:=[.agg [.int .i64 r.Low,.int .i64 r.High]]
@[irreducible] def z98:=ptF Try.prog G98 zCW Try.f98
def zAZ (l_a0:list) (zcy:Int) (zan:Int) (zao:Int):St:=⟨[(2,zp 2 0),(3,zp 3 0),(18,zS enc_55 3 l_a0.Gates),(19,zI (l_a0.Gates.len:Int)),(20,zI zcy)],[(2,.box 96 (zm (zAP (⟨(0:Int),(0:Int)⟩:Span)))),(3,.box 96 (zm (zAP (⟨zan,zao⟩:Span))))],[]⟩
abbrev zHE (K:List PA→Prop) (l_a0:list) (X:St→Prop) (P:Int→Int→Int→Bool) (S:Int→Int→Int→Span):Prop:=∀ ⦃zcy:Int⦄ ⦃zan:Int⦄ ⦃zao:Int⦄,P zcy zan zao=true→K (e98 (S zcy zan zao))→X (zAZ l_a0 zcy zan zao)
section
variable {K:List PA→Prop} {l_a0:list} {zcy:Int} {zan:Int} {zao:Int} {X0:St→Prop} {P0:Int→Int→Int→Bool} {S0:Int→Int→Int→Span}
def zgX (l_a0:list) (S0:Int→Int→Int→Span) (zcy:Int) (zan:Int) (zao:Int):Span :=
  (cond (decide (zcy < (l_a0.Gates.len : Int)))
 (S0 (w64 (zcy+(1:Int))) (if (l_a0.Gates.get zcy.toNat).Low > zan then (l_a0.Gates.get zcy.toNat).Low else zan) (if (l_a0.Gates.get zcy.toNat).High < zao then (l_a0.Gates.get zcy.toNat).High else zao))
 (⟨zan,zao⟩:Span))
def zgY (l_a0:list) (P0:Int→Int→Int→Bool) (zcy:Int) (zan:Int) (zao:Int):Bool :=
  (cond (decide (zcy < (l_a0.Gates.len : Int)))
 (decide ((0≤zcy∧zcy < (l_a0.Gates.len:Int))) &&
 (P0 (w64 (zcy+(1:Int))) (if (l_a0.Gates.get zcy.toNat).Low > zan then (l_a0.Gates.get zcy.toNat).Low else zan) (if (l_a0.Gates.get zcy.toNat).High < zao then (l_a0.Gates.get zcy.toNat).High else zao)))
 true)
def zgZ (l_a0:list):Nat→Int→Int→Int→Span:=lpO (fun _ _ _=>default) (zgX l_a0)
def zg0 (l_a0:list):Nat→Int→Int→Int→Bool:=lpO (fun _ _ _=>false) (zgY l_a0)
def zuF (l_a0:list) (zcy:Int) (zan:Int) (zao:Int):Span:=zgZ l_a0 Fuel zcy zan zao
def zuG (l_a0:list) (zcy:Int) (zan:Int) (zao:Int):Bool:=zg0 l_a0 Fuel zcy zan zao
theorem zCX (hs:zuG l_a0 zcy zan zao=true) (hk:K (e98 (zuF l_a0 zcy zan zao))):z98 K [1,1,0,1,0] [] (zAZ l_a0 zcy zan zao) :=
  zl (fun X=>z98 K [1,1,0,1,0,0] [X]) (by kernel_rfl) fun X0 hX =>
  (show ∀ k, zHE K l_a0 X0 (zg0 l_a0 k) (zgZ l_a0 k) from zdJ _ _ (zgY l_a0) (zgX l_a0) (zHE K l_a0 X0)
 (by intro _ _ _ hs;exact absurd hs Bool.false_ne_true)
 (by intro P0 S0 hX0 zcy zan zao hs hk;exact hX _ (zau (by kernel_rfl) (zc hs hk (fun hs hk=>(zat hs fun hc hs=>And.intro hc (hX0 hs hk))) (fun hs hk=>hk))))) _ hs hk
def s98 (l_a0:list):Span :=
  (zuF l_a0 (0:Int) ((l_a0.Gates.get 0).Low) ((l_a0.Gates.get 0).High))
def p98 (l_a0:list):Bool :=
  (decide ((0≤(0:Int)∧(0:Int) < (l_a0.Gates.len:Int))) &&
 (decide ((0≤(0:Int)∧(0:Int) < (l_a0.Gates.len:Int))) &&
 (zuG l_a0 (0:Int) ((l_a0.Gates.get 0).Low) ((l_a0.Gates.get 0).High))))
end
theorem q98 (l_a0:list) (K:List PA→Prop) (hs:p98 l_a0=true) (hk:K (e98 (s98 l_a0))):vcFun Try.prog G98 zCW 98 [.agg (zb2 l_a0)] K :=
  zau (by kernel_rfl) (zat hs fun hc hs=>And.intro hc (zat hs fun hc hs=>And.intro hc (zCX hs hk)))
def zzL : List PA → COut
  | [.agg [.sl a0_Gates_n a0_Gates_s a0_Gates_g]]=>.det (IsE enc_55 3 a0_Gates_s a0_Gates_g∧p98 (⟨(⟨a0_Gates_n,zad a0_Gates_g⟩:(Sl Gate))⟩:list)=true) [.agg [.int .i64 ((s98 (⟨(⟨a0_Gates_n,zad a0_Gates_g⟩:(Sl Gate))⟩:list)).Low),.int .i64 ((s98 (⟨(⟨a0_Gates_n,zad a0_Gates_g⟩:(Sl Gate))⟩:list)).High)]]
  | _=>.no
theorem zHF:zaf Try.prog 98:=⟨_,rfl,rfl,by kernel_rfl⟩
theorem zMg:Ok Try.prog 98 zzL:=zax zKO zHF fun args K h=>by
  unfold zzL at h
  split at h
  · rename_i a0_Gates_n a0_Gates_s a0_Gates_g
    obtain ⟨⟨⟨rfl,a0_Gates_f,rfl⟩,hs⟩,hk⟩:=h
    try rw [zac a0_Gates_f] at hs
    try rw [zac a0_Gates_f] at hk
    exact ⟨(fun _ _=>[]),(fun _=>false),zCW,q98 (⟨(⟨a0_Gates_n,a0_Gates_f⟩:(Sl Gate))⟩:list) K hs hk⟩
  · exact h.elim
abbrev T66:Tabs:=((Tabs.nil.addF 67 zoU).addF 98 zzL)
theorem zKP:TabsOk Try.prog T66:=((TabsOk.nil.addF zHr).addF zMg)
abbrev G66:Ctrs:=csm T66 (fun _ _=>[]) (fun _=>false)
def zHG:Ann:=⟨19,[(0,zK [1] [1]),(1,zK [1,3] [1,3]),(2,zK [1,3,9] [1,3]),(3,zK [2] []),(4,zK [2] [])],
 [],
 [],
 [],[]⟩
abbrev R66:=Bool
abbrev e66 (r:R66):List PA:=[.one (.bool r)]
section
variable {K:List PA→Prop} {s:set}
def s66 (s:set):Bool :=
  (cond (s67 s.list)
 (decide ((s98 s.list).Low≤(s98 s.list).High))
 (decide ((s.corners.len:Int) > (0:Int))))
def p66 (s:set):Bool :=
  (decide ((p98 s.list=true)) &&
 (decide ((p67 s.list=true)) &&
 true))
end
theorem q66 (s:set) (K:List PA→Prop) (hs:p66 s=true) (hk:K (e66 (s66 s))):vcFun Try.prog G66 zHG 66 [.agg (zaS s)] K :=
  zau (by kernel_rfl) (zat hs fun hc hs=>And.intro (And.intro (zE enc_55 3 s.list.Gates.get) hc) (zat hs fun hc hs=>And.intro (And.intro (zE enc_55 3 s.list.Gates.get) hc) (zt hk (fun hk=>hk) (fun hk=>hk))))
def zuH : List PA → COut
  | [.agg [.sl a0_list_Gates_n a0_list_Gates_s a0_list_Gates_g,.sl a0_corners_n a0_corners_s a0_corners_g]]=>.det (IsE enc_55 3 a0_list_Gates_s a0_list_Gates_g∧IsE zah 3 a0_corners_s a0_corners_g∧p66 (⟨(⟨(⟨a0_list_Gates_n,zad a0_list_Gates_g⟩:(Sl Gate))⟩:list),(⟨a0_corners_n,zaO a0_corners_g⟩:(Sl straight))⟩:set)=true) [.one (.bool (s66 (⟨(⟨(⟨a0_list_Gates_n,zad a0_list_Gates_g⟩:(Sl Gate))⟩:list),(⟨a0_corners_n,zaO a0_corners_g⟩:(Sl straight))⟩:set)))]
  | _=>.no
theorem zHH:zaf Try.prog 66:=⟨_,rfl,rfl,by kernel_rfl⟩
theorem zKQ:Ok Try.prog 66 zuH:=zax zKP zHH fun args K h=>by
  unfold zuH at h
  split at h
  · rename_i a0_list_Gates_n a0_list_Gates_s a0_list_Gates_g a0_corners_n a0_corners_s a0_corners_g
    obtain ⟨⟨⟨rfl,a0_list_Gates_f,rfl⟩,⟨rfl,a0_corners_f,rfl⟩,hs⟩,hk⟩:=h
    try rw [zac a0_list_Gates_f] at hs
    try rw [zac a0_list_Gates_f] at hk
    try rw [zaJ a0_corners_f] at hs
    try rw [zaJ a0_corners_f] at hk
    exact ⟨(fun _ _=>[]),(fun _=>false),zHG,q66 (⟨(⟨(⟨a0_list_Gates_n,a0_list_Gates_f⟩:(Sl Gate))⟩:list),(⟨a0_corners_n,a0_corners_f⟩:(Sl straight))⟩:set) K hs hk⟩
  · exact h.elim
abbrev T84:Tabs:=((Tabs.nil.addF 65 zuE).addF 66 zuH)
theorem zKR:TabsOk Try.prog T84:=((TabsOk.nil.addF zKN).addF zKQ)
abbrev G84:Ctrs:=csm T84 (fun _ _=>[]) (fun _=>false)
def zCY:Ann:=⟨25,[(0,zK [0,1] []),(1,zK [0,1,5] []),(2,zK [0,5,8,9,10] []),(3,zK [0,5,8,9,10,11] [20]),(4,zK [0,5,7,8,9,10] [20]),(5,zK [0,5,8,9,10] [20]),(6,zK [0,5,8,9,10] [20]),(7,zK [4] [])],
 [(3,⟨[0,5,8,9,10],[20],[(5,20,55,fun _=>enc_55 default)],[],[],[],[]⟩)],
 [],
 [],[]⟩
abbrev R84:=Bool
abbrev e84 (r:R84):List PA:=[.one (.bool r)]
@[irreducible] def z84:=ptF Try.prog G84 zCY Try.f84
def zA0 (zaa:(Sl Gate)) (l_a1:(Sl Int)) (zcU:Int) (zck:(Sl Gate)) (zeP:Nat→List PV):St:=⟨[(0,zS enc_55 3 zaa),(5,zv 20),(8,zS enc_3 1 l_a1),(9,zI (l_a1.len:Int)),(10,zI zcU)],[(20,.vec 55 3 24 zck.len zeP)],[]⟩
abbrev zHI (K:List PA→Prop) (zaa:(Sl Gate)) (l_a1:(Sl Int)) (X:St→Prop) (P:Int→(Sl Gate)→Bool) (S:Int→(Sl Gate)→Bool):Prop:=∀ ⦃zcU:Int⦄ ⦃zck:(Sl Gate)⦄ ⦃zeP:Nat→List PV⦄,P zcU zck=true→K (e84 (S zcU zck))→zeP=zg enc_55 zck→X (zA0 zaa l_a1 zcU zck zeP)
section
variable {K:List PA→Prop} {zaa:(Sl Gate)} {l_a1:(Sl Int)} {zcU:Int} {zck:(Sl Gate)} {zeP:Nat→List PV} {X0:St→Prop} {P0:Int→(Sl Gate)→Bool} {S0:Int→(Sl Gate)→Bool}
def zg1 (zaa:(Sl Gate)) (l_a1:(Sl Int)) (S0:Int→(Sl Gate)→Bool) (zcU:Int) (zck:(Sl Gate)):Bool :=
  (cond (decide (zcU < (l_a1.len : Int)))
 (S0 (w64 (zcU+(1:Int))) (⟨(zck.len+1),(zdi zck.len zck.get (fun _=>(zaa.get ((l_a1.get zcU.toNat).toNat))))⟩:Sl Gate))
 (s66 (s65 zck)))
def zg2 (zaa:(Sl Gate)) (l_a1:(Sl Int)) (P0:Int→(Sl Gate)→Bool) (zcU:Int) (zck:(Sl Gate)):Bool :=
  (cond (decide (zcU < (l_a1.len : Int)))
 (decide ((0≤zcU∧zcU < (l_a1.len:Int))) &&
 (decide ((0≤(l_a1.get zcU.toNat)∧(l_a1.get zcU.toNat) < (zaa.len:Int))) &&
 (decide (((zck.len+1) * 24≤140737488355328∧zck.len+1≤9223372036854775807)) &&
 (P0 (w64 (zcU+(1:Int))) (⟨(zck.len+1),(zdi zck.len zck.get (fun _=>(zaa.get ((l_a1.get zcU.toNat).toNat))))⟩:Sl Gate)))))
 (decide ((p65 zck=true)) &&
 (decide ((p66 (s65 zck)=true)) &&
 true)))
def zg3 (zaa:(Sl Gate)) (l_a1:(Sl Int)):Nat→Int→(Sl Gate)→Bool:=lpO (fun _ _=>default) (zg1 zaa l_a1)
def zg4 (zaa:(Sl Gate)) (l_a1:(Sl Int)):Nat→Int→(Sl Gate)→Bool:=lpO (fun _ _=>false) (zg2 zaa l_a1)
def zuI (zaa:(Sl Gate)) (l_a1:(Sl Int)) (zcU:Int) (zck:(Sl Gate)):Bool:=zg3 zaa l_a1 Fuel zcU zck
def zuJ (zaa:(Sl Gate)) (l_a1:(Sl Int)) (zcU:Int) (zck:(Sl Gate)):Bool:=zg4 zaa l_a1 Fuel zcU zck
theorem zCZ (hs:zuJ zaa l_a1 zcU zck=true) (hk:K (e84 (zuI zaa l_a1 zcU zck))) (zo0:zeP=zg enc_55 zck):z84 K [1,1,0,1,0] [] (zA0 zaa l_a1 zcU zck zeP) :=
  zl (fun X=>z84 K [1,1,0,1,0,0] [X]) (by kernel_rfl) fun X0 hX =>
  (show ∀ k, zHI K zaa l_a1 X0 (zg4 zaa l_a1 k) (zg3 zaa l_a1 k) from zdJ _ _ (zg2 zaa l_a1) (zg1 zaa l_a1) (zHI K zaa l_a1 X0)
 (by intro _ _ _ hs;exact absurd hs Bool.false_ne_true)
 (by intro P0 S0 hX0 zcU zck zeP hs hk zo0;subst zo0;exact hX _ (zau (by kernel_rfl) (zc hs hk (fun hs hk=>(zat hs fun hc hs=>And.intro hc (zat hs fun hc hs=>And.intro hc (zat hs fun hc hs=>And.intro hc (hX0 hs hk (zd2 (enc:=enc_55) (f:=zck.get) (h:=(fun _=>(zaa.get ((l_a1.get zcU.toNat).toNat)))) rfl rfl)))))) (fun hs hk=>(zat hs fun hc hs=>And.intro (And.intro (zE enc_55 3 zck.get) hc) (zat hs fun hc hs=>And.intro (And.intro (zE enc_55 3 ((s65 zck).list.Gates.get)) (And.intro (zE zah 3 ((s65 zck).corners.get)) hc)) hk))))))) _ hs hk zo0
def s84 (zaa:(Sl Gate)) (l_a1:(Sl Int)):Bool :=
  (zuI zaa l_a1 (0:Int) (⟨0,(fun _=>default)⟩:Sl Gate))
def p84 (zaa:(Sl Gate)) (l_a1:(Sl Int)):Bool :=
  (zuJ zaa l_a1 (0:Int) (⟨0,(fun _=>default)⟩:Sl Gate))
end
theorem q84 (zaa:(Sl Gate)) (l_a1:(Sl Int)) (K:List PA→Prop) (hs:p84 zaa l_a1=true) (hk:K (e84 (s84 zaa l_a1))):vcFun Try.prog G84 zCY 84 [.one (.sl zaa.len 3 (fun i=>enc_55 (zaa.get i))),.one (.sl l_a1.len 1 (fun i=>enc_3 (l_a1.get i)))] K :=
  zau (by kernel_rfl) (zCZ hs hk rfl)
def zzM : List PA → COut
  | [.one (.sl a0_n a0_s a0_g),.one (.sl a1_n a1_s a1_g)]=>.det (IsE enc_55 3 a0_s a0_g∧IsE enc_3 1 a1_s a1_g∧p84 (⟨a0_n,zad a0_g⟩:(Sl Gate)) (⟨a1_n,zaU a1_g⟩:(Sl Int))=true) [.one (.bool (s84 (⟨a0_n,zad a0_g⟩:(Sl Gate)) (⟨a1_n,zaU a1_g⟩:(Sl Int))))]
  | _=>.no
theorem zHJ:zaf Try.prog 84:=⟨_,rfl,rfl,by kernel_rfl⟩
theorem zMh:Ok Try.prog 84 zzM:=zax zKR zHJ fun args K h=>by
  unfold zzM at h
  split at h
  · rename_i a0_n a0_s a0_g a1_n a1_s a1_g
    obtain ⟨⟨⟨rfl,a0_f,rfl⟩,⟨rfl,a1_f,rfl⟩,hs⟩,hk⟩:=h
    try rw [zac a0_f] at hs
    try rw [zac a0_f] at hk
    try rw [zbn a1_f] at hs
    try rw [zbn a1_f] at hk
    exact ⟨(fun _ _=>[]),(fun _=>false),zCY,q84 (⟨a0_n,a0_f⟩:(Sl Gate)) (⟨a1_n,a1_f⟩:(Sl Int)) K hs hk⟩
  · exact h.elim
abbrev T38:Tabs:=((Tabs.nil.addF 64 zoO).addF 84 zzM)
theorem zKS:TabsOk Try.prog T38:=((TabsOk.nil.addF zHd).addF zMh)
abbrev G38:Ctrs:=csm T38 (fun _ _=>[]) (fun _=>false)
def zC0:Ann:=⟨66,[(0,zK [0] []),(1,zK [0,12] []),(2,zK [2,3] []),(3,zK [0,4] []),(4,zK [0,4,15,16] []),(5,zK [0,4,15,16,17] []),(6,zK [0,4,5,15,16] []),(7,zK [0,4,5,6,15,16] []),(8,zK [0,4,5,6,15,16,23] []),(9,zK [0,4,5,6,15,16] []),(10,zK [0,4,5,6,15,16,31] []),(11,zK [2,3] [34]),(12,zK [0,4,15,16] []),(13,zK [0,4,36,37] []),(14,zK [0,4,36,37,38] []),(15,zK [0,4,7,36,37] []),(16,zK [0,4,7,8,36,37] []),(17,zK [0,4,7,8,36,37,44] []),(18,zK [0,4,7,8,36,37] []),(19,zK [0,4,7,8,9,36,37] []),(20,zK [0,4,7,8,9,36,37,51] []),(21,zK [0,4,7,8,9,36,37] []),(22,zK [0,4,7,8,9,36,37,60] []),(23,zK [2,3] [64]),(24,zK [0,4,36,37] []),(25,zK [2,3] [])],
 [(5,zK [0,4,15,16] []),(8,zK [0,4,5,6,15,16] []),(14,zK [0,4,36,37] []),(17,zK [0,4,7,8,36,37] []),(20,zK [0,4,7,8,9,36,37] [])],
 [(2,zK [0,12] []),(3,zK [0] []),(13,zK [0,4] []),(11,zK [0,4,5,6,15,16,31] []),(23,zK [0,4,7,8,9,36,37,60] [])],
 [],[]⟩
abbrev R38:=((Sl Int)×Int)
abbrev e38 (r:R38):List PA:=[.one (.sl r.1.len 1 (fun i=>enc_3 (r.1.get i))),.one (.int .i64 r.2)]
@[irreducible] def z38:=ptF Try.prog G38 zC0 Try.f38
def zA1 (zaa:(Sl Gate)) (zbh:Int):St:=⟨[(0,zS enc_55 3 zaa),(4,zI (zaa.len:Int)),(15,zI (zaa.len:Int)),(16,zI zbh)],[],[]⟩
abbrev zzN (K:List PA→Prop) (zaa:(Sl Gate)) (X:St→Prop) (P:Int→Bool) (S:Int→((Sl Int)×Int)):Prop:=∀ ⦃zbh:Int⦄,P zbh=true→K (e38 (S zbh))→X (zA1 zaa zbh)
def zA2 (zaa:(Sl Gate)) (iv3:Int) (jv3:Int) (zcE:Int):St:=⟨[(0,zS enc_55 3 zaa),(4,zI (zaa.len:Int)),(5,zI iv3),(6,zI jv3),(15,zI (zaa.len:Int)),(16,zI zcE)],[],[]⟩
abbrev zC1 (K:List PA→Prop) (zaa:(Sl Gate)) (X:St→Prop) (P:Int→Int→Int→Bool) (S:Int→Int→Int→((Sl Int)×Int)):Prop:=∀ ⦃iv3:Int⦄ ⦃jv3:Int⦄ ⦃zcE:Int⦄,P iv3 jv3 zcE=true→K (e38 (S iv3 jv3 zcE))→X (zA2 zaa iv3 jv3 zcE)
def zA3 (zaa:(Sl Gate)) (zdo:Int):St:=⟨[(0,zS enc_55 3 zaa),(4,zI (zaa.len:Int)),(36,zI (zaa.len:Int)),(37,zI zdo)],[],[]⟩
abbrev zuK (K:List PA→Prop) (zaa:(Sl Gate)) (X:St→Prop) (P:Int→Bool) (S:Int→((Sl Int)×Int)):Prop:=∀ ⦃zdo:Int⦄,P zdo=true→K (e38 (S zdo))→X (zA3 zaa zdo)
def zA4 (zaa:(Sl Gate)) (iv7:Int) (jv7:Int) (zd3:Int):St:=⟨[(0,zS enc_55 3 zaa),(4,zI (zaa.len:Int)),(7,zI iv7),(8,zI jv7),(36,zI (zaa.len:Int)),(37,zI zd3)],[],[]⟩
abbrev zzO (K:List PA→Prop) (zaa:(Sl Gate)) (X:St→Prop) (P:Int→Int→Int→Bool) (S:Int→Int→Int→((Sl Int)×Int)):Prop:=∀ ⦃iv7:Int⦄ ⦃jv7:Int⦄ ⦃zd3:Int⦄,P iv7 jv7 zd3=true→K (e38 (S iv7 jv7 zd3))→X (zA4 zaa iv7 jv7 zd3)
def zA5 (zaa:(Sl Gate)) (iv8:Int) (jv8:Int) (kv8:Int) (zd4:Int):St:=⟨[(0,zS enc_55 3 zaa),(4,zI (zaa.len:Int)),(7,zI iv8),(8,zI jv8),(9,zI kv8),(36,zI (zaa.len:Int)),(37,zI zd4)],[],[]⟩
abbrev zC2 (K:List PA→Prop) (zaa:(Sl Gate)) (X:St→Prop) (P:Int→Int→Int→Int→Bool) (S:Int→Int→Int→Int→((Sl Int)×Int)):Prop:=∀ ⦃iv8:Int⦄ ⦃jv8:Int⦄ ⦃kv8:Int⦄ ⦃zd4:Int⦄,P iv8 jv8 kv8 zd4=true→K (e38 (S iv8 jv8 kv8 zd4))→X (zA5 zaa iv8 jv8 kv8 zd4)
section
variable {K:List PA→Prop} {zaa:(Sl Gate)} {zaH:Bool} {zbh:Int} {X2:St→Prop} {P2:Int→Bool} {S2:Int→((Sl Int)×Int)} {iv3:Int} {jv3:Int} {zcE:Int} {X3:St→Prop} {P3:Int→Int→Int→Bool} {S3:Int→Int→Int→((Sl Int)×Int)} {iv5:Int} {jv5:Int} {zo1:Int} {zo2:Bool} {zdo:Int} {X6:St→Prop} {P6:Int→Bool} {S6:Int→((Sl Int)×Int)} {iv7:Int} {jv7:Int} {zd3:Int} {X7:St→Prop} {P7:Int→Int→Int→Bool} {S7:Int→Int→Int→((Sl Int)×Int)} {iv8:Int} {jv8:Int} {kv8:Int} {zd4:Int} {X8:St→Prop} {P8:Int→Int→Int→Int→Bool} {S8:Int→Int→Int→Int→((Sl Int)×Int)} {iv9:Int} {jv9:Int} {kv9:Int} {zo3:Int} {zo4:Bool}
def zo5 (S6:Int→((Sl Int)×Int)) (S7:Int→Int→Int→((Sl Int)×Int)) (S8:Int→Int→Int→Int→((Sl Int)×Int)) (zaa:(Sl Gate)) (iv9:Int) (jv9:Int) (kv9:Int) (zo3:Int) (zo4:Bool):((Sl Int)×Int) :=
  (cond zo4
 ((⟨3,(ziG iv9 [iv9,jv9,kv9])⟩:(Sl Int)),(0:Int))
 (S8 iv9 jv9 (w64 (kv9+(1:Int))) zo3))
def zo6 (P6:Int→Bool) (P7:Int→Int→Int→Bool) (P8:Int→Int→Int→Int→Bool) (zaa:(Sl Gate)) (iv9:Int) (jv9:Int) (kv9:Int) (zo3:Int) (zo4:Bool):Bool :=
  (cond zo4
 true
 (P8 iv9 jv9 (w64 (kv9+(1:Int))) zo3))
theorem zC3 (hX6:zuK K zaa X6 P6 S6) (hX7:zzO K zaa X7 P7 S7) (hX8:zC2 K zaa X8 P8 S8) (hs:zo6 P6 P7 P8 zaa iv9 jv9 kv9 zo3 zo4=true) (hk:K (e38 (zo5 S6 S7 S8 zaa iv9 jv9 kv9 zo3 zo4))):z38 (Wk K) [1,1,1,1,0,1,0,0,1,1,0,0,1,1,0,0,1,0,0,1,0,0,1,0,0,1] [X6,X7,X8] ⟨[(0,zS enc_55 3 zaa),(4,zI (zaa.len:Int)),(7,zI iv9),(8,zI jv9),(9,zI kv9),(36,zI (zaa.len:Int)),(37,zI zo3),(60,zB zo4)],[],[]⟩:=zau (by kernel_rfl) (zc hs hk (fun hs hk=>((zdA (Eq.mpr (congrArg K (congrArg (fun (g_:Nat→List PV)=>([.one (.sl 3 1 g_),.one (.int .i64 (0:Int))]:List PA)) (zdj (enc:=enc_3) (x:=iv9) (y:=jv9) (r:=[kv9])))) hk)):Wk K [.one (.sl 3 1 (zcj [(enc_3 iv9),(enc_3 jv9),(enc_3 kv9)])),.one (.int .i64 (0:Int))])) (fun hs hk=>(hX8 hs hk)))
def zg5 (S6:Int→((Sl Int)×Int)) (S7:Int→Int→Int→((Sl Int)×Int)) (zaa:(Sl Gate)) (S8:Int→Int→Int→Int→((Sl Int)×Int)) (iv8:Int) (jv8:Int) (kv8:Int) (zd4:Int):((Sl Int)×Int) :=
  (cond (decide (kv8 < (zaa.len : Int)))
 (zo5 S6 S7 S8 zaa iv8 jv8 kv8 zd4 (!(s84 zaa (⟨3,zaU (zcj [(enc_3 iv8),(enc_3 jv8),(enc_3 kv8)])⟩:(Sl Int)))))
 (S7 iv8 (w64 (jv8+(1:Int))) zd4))
def zg6 (P6:Int→Bool) (P7:Int→Int→Int→Bool) (zaa:(Sl Gate)) (P8:Int→Int→Int→Int→Bool) (iv8:Int) (jv8:Int) (kv8:Int) (zd4:Int):Bool :=
  (cond (decide (kv8 < (zaa.len : Int)))
 (decide ((p84 zaa (⟨3,zaU (zcj [(enc_3 iv8),(enc_3 jv8),(enc_3 kv8)])⟩:(Sl Int))=true)) &&
 (zo6 P6 P7 P8 zaa iv8 jv8 kv8 zd4 (!(s84 zaa (⟨3,zaU (zcj [(enc_3 iv8),(enc_3 jv8),(enc_3 kv8)])⟩:(Sl Int))))))
 (P7 iv8 (w64 (jv8+(1:Int))) zd4))
def zg7 (S6:Int→((Sl Int)×Int)) (S7:Int→Int→Int→((Sl Int)×Int)) (zaa:(Sl Gate)):Nat→Int→Int→Int→Int→((Sl Int)×Int):=lpO (fun _ _ _ _=>default) (zg5 S6 S7 zaa)
def zg8 (P6:Int→Bool) (P7:Int→Int→Int→Bool) (zaa:(Sl Gate)):Nat→Int→Int→Int→Int→Bool:=lpO (fun _ _ _ _=>false) (zg6 P6 P7 zaa)
def zo7 (S6:Int→((Sl Int)×Int)) (S7:Int→Int→Int→((Sl Int)×Int)) (zaa:(Sl Gate)) (iv8:Int) (jv8:Int) (kv8:Int) (zd4:Int):((Sl Int)×Int):=zg7 S6 S7 zaa Fuel iv8 jv8 kv8 zd4
def zo8 (P6:Int→Bool) (P7:Int→Int→Int→Bool) (zaa:(Sl Gate)) (iv8:Int) (jv8:Int) (kv8:Int) (zd4:Int):Bool:=zg8 P6 P7 zaa Fuel iv8 jv8 kv8 zd4
theorem zC4 (hX6:zuK K zaa X6 P6 S6) (hX7:zzO K zaa X7 P7 S7) (hs:zo8 P6 P7 zaa iv8 jv8 kv8 zd4=true) (hk:K (e38 (zo7 S6 S7 zaa iv8 jv8 kv8 zd4))):z38 (Wk K) [1,1,1,1,0,1,0,0,1,1,0,0,1,1,0,0,1,0,0,1,0] [X6,X7] (zA5 zaa iv8 jv8 kv8 zd4) :=
  zl (fun X=>z38 (Wk K) [1,1,1,1,0,1,0,0,1,1,0,0,1,1,0,0,1,0,0,1,0,0] [X6,X7,X]) (by kernel_rfl) fun X8 hX =>
  (show ∀ k, zC2 K zaa X8 (zg8 P6 P7 zaa k) (zg7 S6 S7 zaa k) from zdJ _ _ (zg6 P6 P7 zaa) (zg5 S6 S7 zaa) (zC2 K zaa X8)
 (by intro _ _ _ _ hs;exact absurd hs Bool.false_ne_true)
 (by intro P8 S8 hX8 iv8 jv8 kv8 zd4 hs hk;exact hX _ (zau (by kernel_rfl) (zc hs hk (fun hs hk=>(zat hs fun hc hs=>And.intro (And.intro (zE enc_55 3 zaa.get) (And.intro ((zdP [kv8]):IsE enc_3 1 1 (zcj [(enc_3 iv8),(enc_3 jv8),(enc_3 kv8)])) hc)) (zC3 hX6 hX7 hX8 hs hk))) (fun hs hk=>(hX7 hs hk)))))) _ hs hk
def zg9 (S6:Int→((Sl Int)×Int)) (zaa:(Sl Gate)) (S7:Int→Int→Int→((Sl Int)×Int)) (iv7:Int) (jv7:Int) (zd3:Int):((Sl Int)×Int) :=
  (cond (decide (jv7 < (zaa.len : Int)))
 (zo7 S6 S7 zaa iv7 jv7 (w64 (jv7+(1:Int))) zd3)
 (S6 (w64 (zd3+(1:Int)))))
def zha (P6:Int→Bool) (zaa:(Sl Gate)) (P7:Int→Int→Int→Bool) (iv7:Int) (jv7:Int) (zd3:Int):Bool :=
  (cond (decide (jv7 < (zaa.len : Int)))
 (zo8 P6 P7 zaa iv7 jv7 (w64 (jv7+(1:Int))) zd3)
 (P6 (w64 (zd3+(1:Int)))))
def zhb (S6:Int→((Sl Int)×Int)) (zaa:(Sl Gate)):Nat→Int→Int→Int→((Sl Int)×Int):=lpO (fun _ _ _=>default) (zg9 S6 zaa)
def zhc (P6:Int→Bool) (zaa:(Sl Gate)):Nat→Int→Int→Int→Bool:=lpO (fun _ _ _=>false) (zha P6 zaa)
def zo9 (S6:Int→((Sl Int)×Int)) (zaa:(Sl Gate)) (iv7:Int) (jv7:Int) (zd3:Int):((Sl Int)×Int):=zhb S6 zaa Fuel iv7 jv7 zd3
def zpa (P6:Int→Bool) (zaa:(Sl Gate)) (iv7:Int) (jv7:Int) (zd3:Int):Bool:=zhc P6 zaa Fuel iv7 jv7 zd3
theorem zC5 (hX6:zuK K zaa X6 P6 S6) (hs:zpa P6 zaa iv7 jv7 zd3=true) (hk:K (e38 (zo9 S6 zaa iv7 jv7 zd3))):z38 (Wk K) [1,1,1,1,0,1,0,0,1,1,0,0,1,1,0] [X6] (zA4 zaa iv7 jv7 zd3) :=
  zl (fun X=>z38 (Wk K) [1,1,1,1,0,1,0,0,1,1,0,0,1,1,0,0] [X6,X]) (by kernel_rfl) fun X7 hX =>
  (show ∀ k, zzO K zaa X7 (zhc P6 zaa k) (zhb S6 zaa k) from zdJ _ _ (zha P6 zaa) (zg9 S6 zaa) (zzO K zaa X7)
 (by intro _ _ _ hs;exact absurd hs Bool.false_ne_true)
 (by intro P7 S7 hX7 iv7 jv7 zd3 hs hk;exact hX _ (zau (by kernel_rfl) (zc hs hk (fun hs hk=>(zC4 hX6 hX7 hs hk)) (fun hs hk=>(hX6 hs hk)))))) _ hs hk
def zhd (zaa:(Sl Gate)) (S6:Int→((Sl Int)×Int)) (zdo:Int):((Sl Int)×Int) :=
  (cond (decide (zdo < (zaa.len : Int)))
 (zo9 S6 zaa zdo (w64 (zdo+(1:Int))) zdo)
 ((⟨0,fun _=>default⟩:(Sl Int)),(7:Int)))
def zhe (zaa:(Sl Gate)) (P6:Int→Bool) (zdo:Int):Bool :=
  (cond (decide (zdo < (zaa.len : Int)))
 (zpa P6 zaa zdo (w64 (zdo+(1:Int))) zdo)
 true)
def zhf (zaa:(Sl Gate)):Nat→Int→((Sl Int)×Int):=lpO (fun _=>default) (zhd zaa)
def zhg (zaa:(Sl Gate)):Nat→Int→Bool:=lpO (fun _=>false) (zhe zaa)
def zuL (zaa:(Sl Gate)) (zdo:Int):((Sl Int)×Int):=zhf zaa Fuel zdo
def zuM (zaa:(Sl Gate)) (zdo:Int):Bool:=zhg zaa Fuel zdo
theorem zC6 (hs:zuM zaa zdo=true) (hk:K (e38 (zuL zaa zdo))):z38 (Wk K) [1,1,1,1,0,1,0] [] (zA3 zaa zdo) :=
  zl (fun X=>z38 (Wk K) [1,1,1,1,0,1,0,0] [X]) (by kernel_rfl) fun X6 hX =>
  (show ∀ k, zuK K zaa X6 (zhg zaa k) (zhf zaa k) from zdJ _ _ (zhe zaa) (zhd zaa) (zuK K zaa X6)
 (by intro _ hs;exact absurd hs Bool.false_ne_true)
 (by intro P6 S6 hX6 zdo hs hk;exact hX _ (zau (by kernel_rfl) (zc hs hk (fun hs hk=>(zC5 hX6 hs hk)) (fun hs hk=>((wk hk (zc3 (.one (.nil _ _)) (zc3 (.one (.rfl _)) zgG))):Wk K [.one (.nils),.one (.int .i64 (7:Int))])))))) _ hs hk
def zpb (S2:Int→((Sl Int)×Int)) (S3:Int→Int→Int→((Sl Int)×Int)) (zaa:(Sl Gate)) (iv5:Int) (jv5:Int) (zo1:Int) (zo2:Bool):((Sl Int)×Int) :=
  (cond zo2
 ((⟨2,(ziG iv5 [iv5,jv5])⟩:(Sl Int)),(0:Int))
 (S3 iv5 (w64 (jv5+(1:Int))) zo1))
def zpc (P2:Int→Bool) (P3:Int→Int→Int→Bool) (zaa:(Sl Gate)) (iv5:Int) (jv5:Int) (zo1:Int) (zo2:Bool):Bool :=
  (cond zo2
 true
 (P3 iv5 (w64 (jv5+(1:Int))) zo1))
theorem zC7 (hX2:zzN K zaa X2 P2 S2) (hX3:zC1 K zaa X3 P3 S3) (hs:zpc P2 P3 zaa iv5 jv5 zo1 zo2=true) (hk:K (e38 (zpb S2 S3 zaa iv5 jv5 zo1 zo2))):z38 (Wk K) [1,1,1,0,1,0,0,1,1,0,0,1,1,0,0,1,0,0,1] [X2,X3] ⟨[(0,zS enc_55 3 zaa),(4,zI (zaa.len:Int)),(5,zI iv5),(6,zI jv5),(15,zI (zaa.len:Int)),(16,zI zo1),(31,zB zo2)],[],[]⟩:=zau (by kernel_rfl) (zc hs hk (fun hs hk=>((zdA (Eq.mpr (congrArg K (congrArg (fun (g_:Nat→List PV)=>([.one (.sl 2 1 g_),.one (.int .i64 (0:Int))]:List PA)) (zdj (enc:=enc_3) (x:=iv5) (y:=jv5) (r:=[])))) hk)):Wk K [.one (.sl 2 1 (zcj [(enc_3 iv5),(enc_3 jv5)])),.one (.int .i64 (0:Int))])) (fun hs hk=>(hX3 hs hk)))
def zuN (zaa:(Sl Gate)):((Sl Int)×Int) :=
  (zuL zaa (0:Int))
def zuO (zaa:(Sl Gate)):Bool :=
  (zuM zaa (0:Int))
theorem zC8 (hs:zuO zaa=true) (hk:K (e38 (zuN zaa))):z38 (Wk K) [1,1,1,1] [] ⟨[(0,zS enc_55 3 zaa),(4,zI (zaa.len:Int))],[],[]⟩:=zau (by kernel_rfl) (zC6 hs hk)
def zhh (S2:Int→((Sl Int)×Int)) (zaa:(Sl Gate)) (S3:Int→Int→Int→((Sl Int)×Int)) (iv3:Int) (jv3:Int) (zcE:Int):((Sl Int)×Int) :=
  (cond (decide (jv3 < (zaa.len : Int)))
 (zpb S2 S3 zaa iv3 jv3 zcE (!(s84 zaa (⟨2,zaU (zcj [(enc_3 iv3),(enc_3 jv3)])⟩:(Sl Int)))))
 (S2 (w64 (zcE+(1:Int)))))
def zhi (P2:Int→Bool) (zaa:(Sl Gate)) (P3:Int→Int→Int→Bool) (iv3:Int) (jv3:Int) (zcE:Int):Bool :=
  (cond (decide (jv3 < (zaa.len : Int)))
 (decide ((p84 zaa (⟨2,zaU (zcj [(enc_3 iv3),(enc_3 jv3)])⟩:(Sl Int))=true)) &&
 (zpc P2 P3 zaa iv3 jv3 zcE (!(s84 zaa (⟨2,zaU (zcj [(enc_3 iv3),(enc_3 jv3)])⟩:(Sl Int))))))
 (P2 (w64 (zcE+(1:Int)))))
def zhj (S2:Int→((Sl Int)×Int)) (zaa:(Sl Gate)):Nat→Int→Int→Int→((Sl Int)×Int):=lpO (fun _ _ _=>default) (zhh S2 zaa)
def zhk (P2:Int→Bool) (zaa:(Sl Gate)):Nat→Int→Int→Int→Bool:=lpO (fun _ _ _=>false) (zhi P2 zaa)
def zpd (S2:Int→((Sl Int)×Int)) (zaa:(Sl Gate)) (iv3:Int) (jv3:Int) (zcE:Int):((Sl Int)×Int):=zhj S2 zaa Fuel iv3 jv3 zcE
def zpe (P2:Int→Bool) (zaa:(Sl Gate)) (iv3:Int) (jv3:Int) (zcE:Int):Bool:=zhk P2 zaa Fuel iv3 jv3 zcE
theorem zC9 (hX2:zzN K zaa X2 P2 S2) (hs:zpe P2 zaa iv3 jv3 zcE=true) (hk:K (e38 (zpd S2 zaa iv3 jv3 zcE))):z38 (Wk K) [1,1,1,0,1,0,0,1,1,0,0,1,1,0] [X2] (zA2 zaa iv3 jv3 zcE) :=
  zl (fun X=>z38 (Wk K) [1,1,1,0,1,0,0,1,1,0,0,1,1,0,0] [X2,X]) (by kernel_rfl) fun X3 hX =>
  (show ∀ k, zC1 K zaa X3 (zhk P2 zaa k) (zhj S2 zaa k) from zdJ _ _ (zhi P2 zaa) (zhh S2 zaa) (zC1 K zaa X3)
 (by intro _ _ _ hs;exact absurd hs Bool.false_ne_true)
 (by intro P3 S3 hX3 iv3 jv3 zcE hs hk;exact hX _ (zau (by kernel_rfl) (zc hs hk (fun hs hk=>(zat hs fun hc hs=>And.intro (And.intro (zE enc_55 3 zaa.get) (And.intro ((zdP []):IsE enc_3 1 1 (zcj [(enc_3 iv3),(enc_3 jv3)])) hc)) (zC7 hX2 hX3 hs hk))) (fun hs hk=>(hX2 hs hk)))))) _ hs hk
def zhl (zaa:(Sl Gate)) (S2:Int→((Sl Int)×Int)) (zbh:Int):((Sl Int)×Int) :=
  (cond (decide (zbh < (zaa.len : Int)))
 (zpd S2 zaa zbh (w64 (zbh+(1:Int))) zbh)
 (zuN zaa))
def zhm (zaa:(Sl Gate)) (P2:Int→Bool) (zbh:Int):Bool :=
  (cond (decide (zbh < (zaa.len : Int)))
 (zpe P2 zaa zbh (w64 (zbh+(1:Int))) zbh)
 (zuO zaa))
def zhn (zaa:(Sl Gate)):Nat→Int→((Sl Int)×Int):=lpO (fun _=>default) (zhl zaa)
def zho (zaa:(Sl Gate)):Nat→Int→Bool:=lpO (fun _=>false) (zhm zaa)
def zuP (zaa:(Sl Gate)) (zbh:Int):((Sl Int)×Int):=zhn zaa Fuel zbh
def zuQ (zaa:(Sl Gate)) (zbh:Int):Bool:=zho zaa Fuel zbh
theorem zDa (hs:zuQ zaa zbh=true) (hk:K (e38 (zuP zaa zbh))):z38 (Wk K) [1,1,1,0,1,0] [] (zA1 zaa zbh) :=
  zl (fun X=>z38 (Wk K) [1,1,1,0,1,0,0] [X]) (by kernel_rfl) fun X2 hX =>
  (show ∀ k, zzN K zaa X2 (zho zaa k) (zhn zaa k) from zdJ _ _ (zhm zaa) (zhl zaa) (zzN K zaa X2)
 (by intro _ hs;exact absurd hs Bool.false_ne_true)
 (by intro P2 S2 hX2 zbh hs hk;exact hX _ (zau (by kernel_rfl) (zc hs hk (fun hs hk=>(zC9 hX2 hs hk)) (fun hs hk=>(zC8 hs hk)))))) _ hs hk
def zma (zaa:(Sl Gate)):((Sl Int)×Int) :=
  (zuP zaa (0:Int))
def zpf (zaa:(Sl Gate)):Bool :=
  (zuQ zaa (0:Int))
theorem zDb (hs:zpf zaa=true) (hk:K (e38 (zma zaa))):z38 (Wk K) [1,1] [] ⟨[(0,zS enc_55 3 zaa)],[],[]⟩:=zau (by kernel_rfl) (zDa hs hk)
def zmb (zaa:(Sl Gate)) (zaH:Bool):((Sl Int)×Int) :=
  (cond zaH
 ((⟨0,fun _=>default⟩:(Sl Int)),(2:Int))
 (zma zaa))
def zmc (zaa:(Sl Gate)) (zaH:Bool):Bool :=
  (cond zaH
 true
 (zpf zaa))
theorem zDc (hs:zmc zaa zaH=true) (hk:K (e38 (zmb zaa zaH))):z38 (Wk K) [1,0,1] [] ⟨[(0,zS enc_55 3 zaa),(12,zB zaH)],[],[]⟩:=zau (by kernel_rfl) (zc hs hk (fun hs hk=>((wk hk (zc3 (.one (.nil _ _)) (zc3 (.one (.rfl _)) zgG))):Wk K [.one (.nils),.one (.int .i64 (2:Int))])) (fun hs hk=>(zDb hs hk)))
def s38 (zaa:(Sl Gate)):((Sl Int)×Int) :=
  (zmb zaa (!(s64 zaa)))
def p38 (zaa:(Sl Gate)):Bool :=
  (decide ((p64 zaa=true)) &&
 (zmc zaa (!(s64 zaa))))
end
theorem q38 (zaa:(Sl Gate)) (K:List PA→Prop) (hs:p38 zaa=true) (hk:K (e38 (s38 zaa))):vcFun Try.prog G38 zC0 38 [.one (.sl zaa.len 3 (fun i=>enc_55 (zaa.get i)))] (Wk K) :=
  zau (by kernel_rfl) (zat hs fun hc hs=>And.intro (And.intro (zE enc_55 3 zaa.get) hc) (zDc hs hk))
def zzP : List PA → COut
  | [.one (.sl a0_n a0_s a0_g)]=>.det (IsE enc_55 3 a0_s a0_g∧p38 (⟨a0_n,zad a0_g⟩:(Sl Gate))=true) [.one (.sl (((s38 (⟨a0_n,zad a0_g⟩:(Sl Gate))).1).len) 1 (fun i=>enc_3 (((s38 (⟨a0_n,zad a0_g⟩:(Sl Gate))).1).get i))),.one (.int .i64 ((s38 (⟨a0_n,zad a0_g⟩:(Sl Gate))).2))]
  | _=>.no
theorem zHK:zaf Try.prog 38:=⟨_,rfl,rfl,by kernel_rfl⟩
theorem zMi:Ok Try.prog 38 zzP:=zfG zKS zHK fun args K h=>by
  unfold zzP at h
  split at h
  · rename_i a0_n a0_s a0_g
    obtain ⟨⟨⟨rfl,a0_f,rfl⟩,hs⟩,hk⟩:=h
    try rw [zac a0_f] at hs
    try rw [zac a0_f] at hk
    exact ⟨_,zex zeH _,(fun _ _=>[]),(fun _=>false),zC0,q38 (⟨a0_n,a0_f⟩:(Sl Gate)) K hs hk⟩
  · exact h.elim
abbrev T39:Tabs:=Tabs.nil
theorem zKT:TabsOk Try.prog T39:=TabsOk.nil
abbrev G39:Ctrs:=csm T39 (fun _ _=>[]) (fun _=>false)
def zDd:Ann:=⟨46,[(0,zK [0,1] []),(1,zK [0,1,5] []),(2,zK [0,1,5,15] []),(3,zK [0,1,5] []),(4,zK [0,1,5,26] []),(5,zK [4] []),(6,zK [0,1,5,35] []),(7,zK [4] []),(8,zK [0,1,40] []),(9,zK [4] []),(10,zK [45] []),(11,zK [4] []),(12,zK [4] [])],
 [(2,zK [0,1,5] [])],
 [(8,zK [0,1] [])],
 [],[]⟩
abbrev R39:=Int
abbrev e39 (r:R39):List PA:=[.one (.int .i64 r)]
@[irreducible] def z39:=ptF Try.prog G39 zDd Try.f39
def zA6 (a:(Sl Int)) (b:(Sl Int)) (iv0:Int):St:=⟨[(0,zS enc_3 1 a),(1,zS enc_3 1 b),(5,zI iv0)],[],[]⟩
abbrev zHL (K:List PA→Prop) (a:(Sl Int)) (b:(Sl Int)) (X:St→Prop) (P:Int→Bool) (S:Int→Int):Prop:=∀ ⦃iv0:Int⦄,P iv0=true→K (e39 (S iv0))→X (zA6 a b iv0)
section
variable {K:List PA→Prop} {a:(Sl Int)} {b:(Sl Int)} {iv0:Int} {X0:St→Prop} {P0:Int→Bool} {S0:Int→Int}
def zmd (a:(Sl Int)) (b:(Sl Int)):Int :=
  (cond (decide ((a.len : Int) < (b.len : Int)))
 (-1:Int)
 (cond (decide ((a.len : Int) > (b.len : Int)))
 (1:Int)
 (0:Int)))
theorem zuR (hk:K (e39 (zmd a b))):z39 K [1,1] [] ⟨[(0,zS enc_3 1 a),(1,zS enc_3 1 b)],[],[]⟩:=zau (by kernel_rfl) (zt hk (fun hk=>hk) (fun hk=>(zt hk (fun hk=>hk) (fun hk=>hk))))
def zhp (a:(Sl Int)) (b:(Sl Int)) (S0:Int→Int) (iv0:Int):Int :=
  (cond (decide (iv0 < (a.len : Int)))
 (cond (decide (iv0 < (b.len : Int)))
 (cond (decide ((a.get iv0.toNat) < (b.get iv0.toNat)))
 (-1:Int)
 (cond (decide ((a.get iv0.toNat) > (b.get iv0.toNat)))
 (1:Int)
 (S0 (w64 (iv0+(1:Int))))))
 (zmd a b))
 (zmd a b))
def zhq (a:(Sl Int)) (b:(Sl Int)) (P0:Int→Bool) (iv0:Int):Bool :=
  (cond (decide (iv0 < (a.len : Int)))
 (cond (decide (iv0 < (b.len : Int)))
 (decide ((0≤iv0∧iv0 < (a.len:Int))) &&
 (decide ((0≤iv0∧iv0 < (b.len:Int))) &&
 (cond (decide ((a.get iv0.toNat) < (b.get iv0.toNat)))
 true
 (decide ((0≤iv0∧iv0 < (a.len:Int))) &&
 (decide ((0≤iv0∧iv0 < (b.len:Int))) &&
 (cond (decide ((a.get iv0.toNat) > (b.get iv0.toNat)))
 true
 (P0 (w64 (iv0+(1:Int))))))))))
 true)
 true)
def zhr (a:(Sl Int)) (b:(Sl Int)):Nat→Int→Int:=lpO (fun _=>default) (zhp a b)
def zhs (a:(Sl Int)) (b:(Sl Int)):Nat→Int→Bool:=lpO (fun _=>false) (zhq a b)
def zuS (a:(Sl Int)) (b:(Sl Int)) (iv0:Int):Int:=zhr a b Fuel iv0
def zuT (a:(Sl Int)) (b:(Sl Int)) (iv0:Int):Bool:=zhs a b Fuel iv0
theorem zDe (hs:zuT a b iv0=true) (hk:K (e39 (zuS a b iv0))):z39 K [1,0,1,0] [] (zA6 a b iv0) :=
  zl (fun X=>z39 K [1,0,1,0,0] [X]) (by kernel_rfl) fun X0 hX =>
  (show ∀ k, zHL K a b X0 (zhs a b k) (zhr a b k) from zdJ _ _ (zhq a b) (zhp a b) (zHL K a b X0)
 (by intro _ hs;exact absurd hs Bool.false_ne_true)
 (by intro P0 S0 hX0 iv0 hs hk;exact hX _ (zau (by kernel_rfl) (zc hs hk (fun hs hk=>(zc hs hk (fun hs hk=>(zat hs fun hc hs=>And.intro hc (zat hs fun hc hs=>And.intro hc (zc hs hk (fun hs hk=>hk) (fun hs hk=>(zat hs fun hc hs=>And.intro hc (zat hs fun hc hs=>And.intro hc (zc hs hk (fun hs hk=>hk) (fun hs hk=>(hX0 hs hk)))))))))) (fun hs hk=>(zuR hk)))) (fun hs hk=>(zuR hk)))))) _ hs hk
def s39 (a:(Sl Int)) (b:(Sl Int)):Int :=
  (zuS a b (0:Int))
def p39 (a:(Sl Int)) (b:(Sl Int)):Bool :=
  (zuT a b (0:Int))
end
theorem q39 (a:(Sl Int)) (b:(Sl Int)) (K:List PA→Prop) (hs:p39 a b=true) (hk:K (e39 (s39 a b))):vcFun Try.prog G39 zDd 39 [.one (.sl a.len 1 (fun i=>enc_3 (a.get i))),.one (.sl b.len 1 (fun i=>enc_3 (b.get i)))] K :=
  zau (by kernel_rfl) (zDe hs hk)
def zzQ : List PA → COut
  | [.one (.sl a0_n a0_s a0_g),.one (.sl a1_n a1_s a1_g)]=>.det (IsE enc_3 1 a0_s a0_g∧IsE enc_3 1 a1_s a1_g∧p39 (⟨a0_n,zaU a0_g⟩:(Sl Int)) (⟨a1_n,zaU a1_g⟩:(Sl Int))=true) [.one (.int .i64 (s39 (⟨a0_n,zaU a0_g⟩:(Sl Int)) (⟨a1_n,zaU a1_g⟩:(Sl Int))))]
  | _=>.no
theorem zHM:zaf Try.prog 39:=⟨_,rfl,rfl,by kernel_rfl⟩
theorem zMj:Ok Try.prog 39 zzQ:=zax zKT zHM fun args K h=>by
  unfold zzQ at h
  split at h
  · rename_i a0_n a0_s a0_g a1_n a1_s a1_g
    obtain ⟨⟨⟨rfl,a0_f,rfl⟩,⟨rfl,a1_f,rfl⟩,hs⟩,hk⟩:=h
    try rw [zbn a0_f] at hs
    try rw [zbn a0_f] at hk
    try rw [zbn a1_f] at hs
    try rw [zbn a1_f] at hk
    exact ⟨(fun _ _=>[]),(fun _=>false),zDd,q39 (⟨a0_n,a0_f⟩:(Sl Int)) (⟨a1_n,a1_f⟩:(Sl Int)) K hs hk⟩
  · exact h.elim
abbrev zMk:Tabs:=Tabs.nil
theorem zHN:TabsOk Try.prog zMk:=TabsOk.nil
abbrev zNo:Ctrs:=csm zMk (fun _ _=>[]) (fun _=>false)
def zA7:Ann:=⟨6,[(0,zK [0] []),(1,zK [2] [])],
 [],
 [],
 [],[]⟩
abbrev zNp:=Bool
abbrev e120 (r:zNp):List PA:=[.one (.bool r)]
section
variable {K:List PA→Prop} {x:Int}
def zHO (x:Int):Bool :=
  (x != x)
end
theorem zNq (x:Int) (K:List PA→Prop) (hk:K (e120 (zHO x))):vcFun Try.prog zNo zA7 120 [.one (.int .i64 x)] K :=
  zau (by kernel_rfl) hk
def zuU : List PA → COut
  | [.one (.int .i64 a0)]=>.tot [.one (.bool (zHO a0))]
  | _=>.no
theorem zDf:zaf Try.prog 120:=⟨_,rfl,rfl,by kernel_rfl⟩
theorem zKU:Ok Try.prog 120 zuU:=zax zHN zDf fun args K h=>by
  unfold zuU at h
  split at h
  · rename_i a0
    have hk:=h
    exact ⟨(fun _ _=>[]),(fun _=>false),zA7,zNq a0 K hk⟩
  · exact h.elim
abbrev zMl:Tabs:=(Tabs.nil.addF 120 zuU)
theorem zHP:TabsOk Try.prog zMl:=(TabsOk.nil.addF zKU)
abbrev zNr:Ctrs:=csm zMl (fun _ _=>[]) (fun _=>false)
def zA8:Ann:=⟨20,[(0,zK [0,1] []),(1,zK [0,1,5] []),(2,zK [0,1,5,6] []),(3,zK [0,1,6,11] []),(4,zK [12] []),(5,zK [4] []),(6,zK [4] []),(7,zK [0,1,13] []),(8,zK [4] []),(9,zK [0,1,16] []),(10,zK [4] []),(11,zK [19] []),(12,zK [4] []),(13,zK [4] [])],
 [],
 [],
 [],[]⟩
abbrev zNs:=Int
abbrev zNt (r:zNs):List PA:=[.one (.int .i64 r)]
section
variable {K:List PA→Prop} {x:Int} {y_a1:Int}
def zKV (x:Int) (y_a1:Int):Int :=
  (cond (zHO x)
 (cond (zHO y_a1)
 (0:Int)
 (-1:Int))
 (cond (zHO y_a1)
 (1:Int)
 (cond (decide (x < y_a1))
 (-1:Int)
 (cond (decide (x > y_a1))
 (1:Int)
 (0:Int)))))
end
theorem zNu (x:Int) (y_a1:Int) (K:List PA→Prop) (hk:K (zNt (zKV x y_a1))):vcFun Try.prog zNr zA8 103 [.one (.int .i64 x),.one (.int .i64 y_a1)] K :=
  zau (by kernel_rfl) (zt hk (fun hk=>(zt hk (fun hk=>hk) (fun hk=>hk))) (fun hk=>(zt hk (fun hk=>hk) (fun hk=>(zt hk (fun hk=>hk) (fun hk=>(zt hk (fun hk=>hk) (fun hk=>hk))))))))
def zuV : List PA → COut
  | [.one (.int .i64 a0),.one (.int .i64 a1)]=>.tot [.one (.int .i64 (zKV a0 a1))]
  | _=>.no
theorem zDg:zaf Try.prog 103:=⟨_,rfl,rfl,by kernel_rfl⟩
theorem zKW:Ok Try.prog 103 zuV:=zax zHP zDg fun args K h=>by
  unfold zuV at h
  split at h
  · rename_i a0 a1
    have hk:=h
    exact ⟨(fun _ _=>[]),(fun _=>false),zA8,zNu a0 a1 K hk⟩
  · exact h.elim
abbrev T69:Tabs:=(Tabs.nil.addF 103 zuV)
theorem zKX:TabsOk Try.prog T69:=(TabsOk.nil.addF zKW)
abbrev G69:Ctrs:=csm T69 (fun _ _=>[]) (fun _=>false)
def zHQ:Ann:=⟨16,[(0,zK [2,3] [2,3]),(1,zK [4] [])],
 [],
 [],
 [],[]⟩
abbrev R69:=Int
abbrev e69 (r:R69):List PA:=[.one (.int .i64 r)]
section
variable {K:List PA→Prop} {a:Frac} {b:Frac}
def s69 (a:Frac) (b:Frac):Int :=
  (zKV (w64 (a.Num * b.Den)) (w64 (b.Num * a.Den)))
end
theorem q69 (a:Frac) (b:Frac) (K:List PA→Prop) (hk:K (e69 (s69 a b))):vcFun Try.prog G69 zHQ 69 [.agg (zae a),.agg (zae b)] K :=
  zau (by kernel_rfl) hk
def zsV : List PA → COut
  | [.agg [.int .i64 a0_Num,.int .i64 a0_Den],.agg [.int .i64 a1_Num,.int .i64 a1_Den]]=>.tot [.one (.int .i64 (s69 (⟨a0_Num,a0_Den⟩:Frac) (⟨a1_Num,a1_Den⟩:Frac)))]
  | _=>.no
theorem zHR:zaf Try.prog 69:=⟨_,rfl,rfl,by kernel_rfl⟩
theorem zJ0:Ok Try.prog 69 zsV:=zax zKX zHR fun args K h=>by
  unfold zsV at h
  split at h
  · rename_i a0_Num a0_Den a1_Num a1_Den
    have hk:=h
    exact ⟨(fun _ _=>[]),(fun _=>false),zHQ,q69 (⟨a0_Num,a0_Den⟩:Frac) (⟨a1_Num,a1_Den⟩:Frac) K hk⟩
  · exact h.elim
abbrev T83:Tabs:=Tabs.nil
theorem zKY:TabsOk Try.prog T83:=TabsOk.nil
abbrev G83:Ctrs:=csm T83 (fun _ _=>[]) (fun _=>false)
def zHS:Ann:=⟨8,[(0,zK [1,2] [1,2]),(1,zK [2] [2])],
 [],
 [],
 [],[]⟩
abbrev R83:=Frac
abbrev e83 (r:R83):List PA:=[.agg [.int .i64 r.Num,.int .i64 r.Den]]
section
variable {K:List PA→Prop} {x:straight}
def s83 (x:straight):Frac :=
  (⟨x.slope,x.den⟩:Frac)
end
theorem q83 (x:straight) (K:List PA→Prop) (hk:K (e83 (s83 x))):vcFun Try.prog G83 zHS 83 [.agg (zah x)] K :=
  zau (by kernel_rfl) hk
def zDh : List PA → COut
  | [.agg [.int .i64 a0_slope,.int .i64 a0_start,.int .i64 a0_den]]=>.tot [.agg [.int .i64 ((s83 (⟨a0_slope,a0_start,a0_den⟩:straight)).Num),.int .i64 ((s83 (⟨a0_slope,a0_start,a0_den⟩:straight)).Den)]]
  | _=>.no
theorem zHT:zaf Try.prog 83:=⟨_,rfl,rfl,by kernel_rfl⟩
theorem zNv:Ok Try.prog 83 zDh:=zax zKY zHT fun args K h=>by
  unfold zDh at h
  split at h
  · rename_i a0_slope a0_start a0_den
    have hk:=h
    exact ⟨(fun _ _=>[]),(fun _=>false),zHS,q83 (⟨a0_slope,a0_start,a0_den⟩:straight) K hk⟩
  · exact h.elim
abbrev zMm:Tabs:=Tabs.nil
theorem zHU:TabsOk Try.prog zMm:=TabsOk.nil
abbrev zNw:Ctrs:=csm zMm (fun _ _=>[]) (fun _=>false)
def zA9:Ann:=⟨15,[(0,zK [1,2,4] [2,4]),(1,zK [4] [4])],
 [],
 [],
 [],[]⟩
abbrev zNx:=Frac
abbrev zNy (r:zNx):List PA:=[.agg [.int .i64 r.Num,.int .i64 r.Den]]
section
variable {K:List PA→Prop} {s:straight} {z:Int}
def zJ1 (s:straight) (z:Int):Frac :=
  (⟨(w64 (s.start+(w64 (s.slope * z)))),s.den⟩:Frac)
end
theorem zNz (s:straight) (z:Int) (K:List PA→Prop) (hk:K (zNy (zJ1 s z))):vcFun Try.prog zNw zA9 102 [.agg (zah s),.one (.int .i64 z)] K :=
  zau (by kernel_rfl) hk
def zuW : List PA → COut
  | [.agg [.int .i64 a0_slope,.int .i64 a0_start,.int .i64 a0_den],.one (.int .i64 a1)]=>.tot [.agg [.int .i64 ((zJ1 (⟨a0_slope,a0_start,a0_den⟩:straight) a1).Num),.int .i64 ((zJ1 (⟨a0_slope,a0_start,a0_den⟩:straight) a1).Den)]]
  | _=>.no
theorem zDi:zaf Try.prog 102:=⟨_,rfl,rfl,by kernel_rfl⟩
theorem zKZ:Ok Try.prog 102 zuW:=zax zHU zDi fun args K h=>by
  unfold zuW at h
  split at h
  · rename_i a0_slope a0_start a0_den a1
    have hk:=h
    exact ⟨(fun _ _=>[]),(fun _=>false),zA9,zNz (⟨a0_slope,a0_start,a0_den⟩:straight) a1 K hk⟩
  · exact h.elim
abbrev zMn:Tabs:=(Tabs.nil.addF 102 zuW)
theorem zHV:TabsOk Try.prog zMn:=(TabsOk.nil.addF zKZ)
abbrev zNA:Ctrs:=csm zMn (fun _ _=>[]) (fun _=>false)
def zBa:Ann:=⟨7,[(0,zK [1,2,3] [2,3]),(1,zK [3] [3])],
 [],
 [],
 [],[]⟩
abbrev zNB:=Frac
abbrev zNC (r:zNB):List PA:=[.agg [.int .i64 r.Num,.int .i64 r.Den]]
section
variable {K:List PA→Prop} {c0:Int} {x:straight}
def zGp (c0:Int) (x:straight):Frac :=
  (zJ1 x c0)
end
theorem zND (c0:Int) (x:straight) (K:List PA→Prop) (hk:K (zNC (zGp c0 x))):vcFun Try.prog zNA zBa 101 [.agg (zah x),.one (.fp (enc_3 c0) 0)] K :=
  zau (by kernel_rfl) hk
def zuX : List PA → COut
  | [.agg [.int .i64 a0_slope,.int .i64 a0_start,.int .i64 a0_den],.one (.fp [.int .i64 c0] 0)]=>.tot [.agg [.int .i64 ((zGp c0 (⟨a0_slope,a0_start,a0_den⟩:straight)).Num),.int .i64 ((zGp c0 (⟨a0_slope,a0_start,a0_den⟩:straight)).Den)]]
  | _=>.no
theorem zDj:zaf Try.prog 101:=⟨_,rfl,rfl,by kernel_rfl⟩
theorem zK1:Ok Try.prog 101 zuX:=zax zHV zDj fun args K h=>by
  unfold zuX at h
  split at h
  · rename_i a0_slope a0_start a0_den c0
    have hk:=h
    exact ⟨(fun _ _=>[]),(fun _=>false),zBa,zND c0 (⟨a0_slope,a0_start,a0_den⟩:straight) K hk⟩
  · exact h.elim
abbrev zMo:Tabs:=(Tabs.nil.addF 69 zsV)
theorem zHW:TabsOk Try.prog zMo:=(TabsOk.nil.addF zJ0)
abbrev zNE:Ctrs:=csm zMo (fun _ _=>[]) (fun _=>false)
def zBb:Ann:=⟨9,[(0,zK [2,3] [2,3]),(1,zK [4] [])],
 [],
 [],
 [],[]⟩
abbrev zNF:=Bool
abbrev zNG (r:zNF):List PA:=[.one (.bool r)]
section
variable {K:List PA→Prop} {a:Frac} {b:Frac}
def zJ2 (a:Frac) (b:Frac):Bool :=
  (decide ((s69 a b) < (0:Int)))
end
theorem zNH (a:Frac) (b:Frac) (K:List PA→Prop) (hk:K (zNG (zJ2 a b))):vcFun Try.prog zNE zBb 112 [.agg (zae a),.agg (zae b)] K :=
  zau (by kernel_rfl) hk
def zuY : List PA → COut
  | [.agg [.int .i64 a0_Num,.int .i64 a0_Den],.agg [.int .i64 a1_Num,.int .i64 a1_Den]]=>.tot [.one (.bool (zJ2 (⟨a0_Num,a0_Den⟩:Frac) (⟨a1_Num,a1_Den⟩:Frac)))]
  | _=>.no
theorem zDk:zaf Try.prog 112:=⟨_,rfl,rfl,by kernel_rfl⟩
theorem zK2:Ok Try.prog 112 zuY:=zax zHW zDk fun args K h=>by
  unfold zuY at h
  split at h
  · rename_i a0_Num a0_Den a1_Num a1_Den
    have hk:=h
    exact ⟨(fun _ _=>[]),(fun _=>false),zBb,zNH (⟨a0_Num,a0_Den⟩:Frac) (⟨a1_Num,a1_Den⟩:Frac) K hk⟩
  · exact h.elim
abbrev zMp:Tabs:=(Tabs.nil.addF 69 zsV)
theorem zHX:TabsOk Try.prog zMp:=(TabsOk.nil.addF zJ0)
abbrev zNI:Ctrs:=csm zMp (fun _ _=>[]) (fun _=>false)
def zBc:Ann:=⟨9,[(0,zK [2,3] [2,3]),(1,zK [4] [])],
 [],
 [],
 [],[]⟩
abbrev zNJ:=Bool
abbrev zNK (r:zNJ):List PA:=[.one (.bool r)]
section
variable {K:List PA→Prop} {a:Frac} {b:Frac}
def zJ3 (a:Frac) (b:Frac):Bool :=
  (decide ((s69 a b) > (0:Int)))
end
theorem zNL (a:Frac) (b:Frac) (K:List PA→Prop) (hk:K (zNK (zJ3 a b))):vcFun Try.prog zNI zBc 113 [.agg (zae a),.agg (zae b)] K :=
  zau (by kernel_rfl) hk
def zuZ : List PA → COut
  | [.agg [.int .i64 a0_Num,.int .i64 a0_Den],.agg [.int .i64 a1_Num,.int .i64 a1_Den]]=>.tot [.one (.bool (zJ3 (⟨a0_Num,a0_Den⟩:Frac) (⟨a1_Num,a1_Den⟩:Frac)))]
  | _=>.no
theorem zDl:zaf Try.prog 113:=⟨_,rfl,rfl,by kernel_rfl⟩
theorem zK3:Ok Try.prog 113 zuZ:=zax zHX zDl fun args K h=>by
  unfold zuZ at h
  split at h
  · rename_i a0_Num a0_Den a1_Num a1_Den
    have hk:=h
    exact ⟨(fun _ _=>[]),(fun _=>false),zBc,zNL (⟨a0_Num,a0_Den⟩:Frac) (⟨a1_Num,a1_Den⟩:Frac) K hk⟩
  · exact h.elim
abbrev zK4:Tabs:=((Tabs.nil.addF 112 zuY).addF 113 zuZ)
theorem zHY:TabsOk Try.prog zK4:=((TabsOk.nil.addF zK2).addF zK3)
abbrev zMq:Ctrs:=csm zK4 (fun _ _=>[]) (fun _=>false)
def zu0:Ann:=⟨25,[(0,zK [0,1,4] [4]),(1,zK [0,1,4,5] [4,5]),(2,zK [1,4,5,12,13,14] [4,5]),(3,zK [1,4,5,12,13,14,15] [4,5]),(4,zK [1,4,5,7,12,13,14] [4,5,7]),(5,zK [1,4,5,7,12,13,14,21] [4,5,7]),(6,zK [1,4,5,12,13,14] [4,5]),(7,zK [1,4,5,12,13,14] [4,5]),(8,zK [4] [4])],
 [(3,zK [1,4,5,12,13,14] [4,5])],
 [(6,zK [1,4,5,7,12,13,14,21] [4,5,7])],
 [],[]⟩
abbrev zNM:=Frac
abbrev zJ4 (r:zNM):List PA:=[.agg [.int .i64 r.Num,.int .i64 r.Den]]
@[irreducible] def z111:=ptF Try.prog zMq zu0 Try.f111
def zu1 (l_a0:(Sl Frac)) (zaH:(Sl Frac)) (zai:Int) (zan:Int) (zao:Int) (zcc:Nat→List PV):St:=⟨[(1,zP (.fn 112 [] [])),(4,zp 4 0),(5,zp 5 0),(12,zP (.sl zaH.len 2 zcc)),(13,zI (((l_a0.len:Int) - (1:Int)).toNat:Int)),(14,zI zai)],[(4,.box 25 (zm (zae (⟨(0:Int),(0:Int)⟩:Frac)))),(5,.box 25 (zm (zae (⟨zan,zao⟩:Frac))))],[]⟩
abbrev zu3 (K:List PA→Prop) (l_a0:(Sl Frac)) (X:St→Prop) (P:(Sl Frac)→Int→Int→Int→Bool) (S:(Sl Frac)→Int→Int→Int→Frac):Prop:=∀ ⦃zaH:(Sl Frac)⦄ ⦃zai:Int⦄ ⦃zan:Int⦄ ⦃zao:Int⦄ ⦃zcc:Nat→List PV⦄,P zaH zai zan zao=true→K (zJ4 (S zaH zai zan zao))→zcc=zg zae zaH→X (zu1 l_a0 zaH zai zan zao zcc)
section
variable {K:List PA→Prop} {l_a0:(Sl Frac)} {zaH:(Sl Frac)} {zai:Int} {zan:Int} {zao:Int} {zcc:Nat→List PV} {X0:St→Prop} {P0:(Sl Frac)→Int→Int→Int→Bool} {S0:(Sl Frac)→Int→Int→Int→Frac} {zdS:(Sl Frac)} {zaN:Int} {zfJ:Bool} {zcq:Int} {zcr:Int} {zfK:Int} {zfL:Int} {zjZ:Nat→List PV}
def zrp (S0:(Sl Frac)→Int→Int→Int→Frac) (l_a0:(Sl Frac)) (zdS:(Sl Frac)) (zaN:Int) (zfJ:Bool) (zcq:Int) (zcr:Int) (zfK:Int) (zfL:Int):Frac :=
  (cond zfJ
 (S0 zdS (w64 (zaN+(1:Int))) zfK zfL)
 (S0 zdS (w64 (zaN+(1:Int))) zcq zcr))
def zrq (P0:(Sl Frac)→Int→Int→Int→Bool) (l_a0:(Sl Frac)) (zdS:(Sl Frac)) (zaN:Int) (zfJ:Bool) (zcq:Int) (zcr:Int) (zfK:Int) (zfL:Int):Bool :=
  (cond zfJ
 (P0 zdS (w64 (zaN+(1:Int))) zfK zfL)
 (P0 zdS (w64 (zaN+(1:Int))) zcq zcr))
theorem zzR (hX0:zu3 K l_a0 X0 P0 S0) (hs:zrq P0 l_a0 zdS zaN zfJ zcq zcr zfK zfL=true) (hk:K (zJ4 (zrp S0 l_a0 zdS zaN zfJ zcq zcr zfK zfL))) (zpg:zjZ=zg zae zdS):z111 K [1,1,0,1,0,0,1,1,0,0,1,1] [X0] ⟨[(1,zP (.fn 112 [] [])),(4,zp 4 0),(5,zp 5 0),(7,zp 7 0),(12,zP (.sl zdS.len 2 zjZ)),(13,zI (((l_a0.len:Int) - (1:Int)).toNat:Int)),(14,zI zaN),(21,zB zfJ)],[(4,.box 25 (zm (zae (⟨(0:Int),(0:Int)⟩:Frac)))),(5,.box 25 (zm (zae (⟨zcq,zcr⟩:Frac)))),(7,.box 25 (zm (zae (⟨zfK,zfL⟩:Frac))))],[]⟩:=by subst zpg;exact zau (by kernel_rfl) (zc hs hk (fun hs hk=>(hX0 hs hk rfl)) (fun hs hk=>(hX0 hs hk rfl)))
def zrr (l_a0:(Sl Frac)) (S0:(Sl Frac)→Int→Int→Int→Frac) (zaH:(Sl Frac)) (zai:Int) (zan:Int) (zao:Int):Frac :=
  (cond (decide (zai < (((l_a0.len : Int) - (1:Int)).toNat : Int)))
 (zrp S0 l_a0 zaH zai (zJ2 (zaH.get zai.toNat) (⟨zan,zao⟩:Frac)) zan zao ((zaH.get zai.toNat).Num) ((zaH.get zai.toNat).Den))
 (⟨zan,zao⟩:Frac))
def zrt (l_a0:(Sl Frac)) (P0:(Sl Frac)→Int→Int→Int→Bool) (zaH:(Sl Frac)) (zai:Int) (zan:Int) (zao:Int):Bool :=
  (cond (decide (zai < (((l_a0.len : Int) - (1:Int)).toNat : Int)))
 (decide ((0≤zai∧zai < (zaH.len:Int))) &&
 (zrq P0 l_a0 zaH zai (zJ2 (zaH.get zai.toNat) (⟨zan,zao⟩:Frac)) zan zao ((zaH.get zai.toNat).Num) ((zaH.get zai.toNat).Den)))
 true)
def zru (l_a0:(Sl Frac)):Nat→(Sl Frac)→Int→Int→Int→Frac:=lpO (fun _ _ _ _=>default) (zrr l_a0)
def zrv (l_a0:(Sl Frac)):Nat→(Sl Frac)→Int→Int→Int→Bool:=lpO (fun _ _ _ _=>false) (zrt l_a0)
def zrx (l_a0:(Sl Frac)) (zaH:(Sl Frac)) (zai:Int) (zan:Int) (zao:Int):Frac:=zru l_a0 Fuel zaH zai zan zao
def zry (l_a0:(Sl Frac)) (zaH:(Sl Frac)) (zai:Int) (zan:Int) (zao:Int):Bool:=zrv l_a0 Fuel zaH zai zan zao
theorem zzS (hs:zry l_a0 zaH zai zan zao=true) (hk:K (zJ4 (zrx l_a0 zaH zai zan zao))) (zfM:zcc=zg zae zaH):z111 K [1,1,0,1,0] [] (zu1 l_a0 zaH zai zan zao zcc) :=
  zl (fun X=>z111 K [1,1,0,1,0,0] [X]) (by kernel_rfl) fun X0 hX =>
  (show ∀ k, zu3 K l_a0 X0 (zrv l_a0 k) (zru l_a0 k) from zdJ _ _ (zrt l_a0) (zrr l_a0) (zu3 K l_a0 X0)
 (by intro _ _ _ _ _ hs;exact absurd hs Bool.false_ne_true)
 (by intro P0 S0 hX0 zaH zai zan zao zcc hs hk zfM;subst zfM;exact hX _ (zau (by kernel_rfl) (zc hs hk (fun hs hk=>(zat hs fun hc hs=>And.intro hc (zzR hX0 hs hk rfl))) (fun hs hk=>hk))))) _ hs hk zfM
def zu4 (l_a0:(Sl Frac)):Frac :=
  (zrx l_a0 (⟨((l_a0.len:Int) - (1:Int)).toNat,(fun i=>l_a0.get (i+((1:Int).toNat)))⟩:Sl Frac) (0:Int) ((l_a0.get 0).Num) ((l_a0.get 0).Den))
def zJ5 (l_a0:(Sl Frac)):Bool :=
  (decide ((0≤(0:Int)∧(0:Int) < (l_a0.len:Int))) &&
 (decide ((0≤(1:Int)∧(1:Int)≤(l_a0.len:Int)∧(l_a0.len:Int)≤(l_a0.len:Int))) &&
 (zry l_a0 (⟨((l_a0.len:Int) - (1:Int)).toNat,(fun i=>l_a0.get (i+((1:Int).toNat)))⟩:Sl Frac) (0:Int) ((l_a0.get 0).Num) ((l_a0.get 0).Den))))
end
theorem zNN (l_a0:(Sl Frac)) (K:List PA→Prop) (hs:zJ5 l_a0=true) (hk:K (zJ4 (zu4 l_a0))):vcFun Try.prog zMq zu0 111 [.one (.sl l_a0.len 2 (fun i=>zae (l_a0.get i))),.one (.fn 112 [] [])] K :=
  zau (by kernel_rfl) (zat hs fun hc hs=>And.intro hc (zat hs fun hc hs=>And.intro hc (zzS hs hk rfl)))
abbrev zHZ:Ctrs:=csm zK4 (fun _ _=>[]) (fun _=>false)
def zph:Ann:=⟨25,[(0,zK [0,1,4] [4]),(1,zK [0,1,4,5] [4,5]),(2,zK [1,4,5,12,13,14] [4,5]),(3,zK [1,4,5,12,13,14,15] [4,5]),(4,zK [1,4,5,7,12,13,14] [4,5,7]),(5,zK [1,4,5,7,12,13,14,21] [4,5,7]),(6,zK [1,4,5,12,13,14] [4,5]),(7,zK [1,4,5,12,13,14] [4,5]),(8,zK [4] [4])],
 [(3,zK [1,4,5,12,13,14] [4,5])],
 [(6,zK [1,4,5,7,12,13,14,21] [4,5,7])],
 [],[]⟩
abbrev zK5:=Frac
abbrev zzT (r:zK5):List PA:=[.agg [.int .i64 r.Num,.int .i64 r.Den]]
@[irreducible] def z111a:=ptF Try.prog zHZ zph Try.f111
def zrz (l_a0:(Sl Frac)) (zaH:(Sl Frac)) (zai:Int) (zan:Int) (zao:Int) (zcc:Nat→List PV):St:=⟨[(1,zP (.fn 113 [] [])),(4,zp 4 0),(5,zp 5 0),(12,zP (.sl zaH.len 2 zcc)),(13,zI (((l_a0.len:Int) - (1:Int)).toNat:Int)),(14,zI zai)],[(4,.box 25 (zm (zae (⟨(0:Int),(0:Int)⟩:Frac)))),(5,.box 25 (zm (zae (⟨zan,zao⟩:Frac))))],[]⟩
abbrev zpi (K:List PA→Prop) (l_a0:(Sl Frac)) (X:St→Prop) (P:(Sl Frac)→Int→Int→Int→Bool) (S:(Sl Frac)→Int→Int→Int→Frac):Prop:=∀ ⦃zaH:(Sl Frac)⦄ ⦃zai:Int⦄ ⦃zan:Int⦄ ⦃zao:Int⦄ ⦃zcc:Nat→List PV⦄,P zaH zai zan zao=true→K (zzT (S zaH zai zan zao))→zcc=zg zae zaH→X (zrz l_a0 zaH zai zan zao zcc)
section
variable {K:List PA→Prop} {l_a0:(Sl Frac)} {zaH:(Sl Frac)} {zai:Int} {zan:Int} {zao:Int} {zcc:Nat→List PV} {X0:St→Prop} {P0:(Sl Frac)→Int→Int→Int→Bool} {S0:(Sl Frac)→Int→Int→Int→Frac} {zdS:(Sl Frac)} {zaN:Int} {zfJ:Bool} {zcq:Int} {zcr:Int} {zfK:Int} {zfL:Int} {zjZ:Nat→List PV}
def znH (S0:(Sl Frac)→Int→Int→Int→Frac) (l_a0:(Sl Frac)) (zdS:(Sl Frac)) (zaN:Int) (zfJ:Bool) (zcq:Int) (zcr:Int) (zfK:Int) (zfL:Int):Frac :=
  (cond zfJ
 (S0 zdS (w64 (zaN+(1:Int))) zfK zfL)
 (S0 zdS (w64 (zaN+(1:Int))) zcq zcr))
def znI (P0:(Sl Frac)→Int→Int→Int→Bool) (l_a0:(Sl Frac)) (zdS:(Sl Frac)) (zaN:Int) (zfJ:Bool) (zcq:Int) (zcr:Int) (zfK:Int) (zfL:Int):Bool :=
  (cond zfJ
 (P0 zdS (w64 (zaN+(1:Int))) zfK zfL)
 (P0 zdS (w64 (zaN+(1:Int))) zcq zcr))
theorem zu5 (hX0:zpi K l_a0 X0 P0 S0) (hs:znI P0 l_a0 zdS zaN zfJ zcq zcr zfK zfL=true) (hk:K (zzT (znH S0 l_a0 zdS zaN zfJ zcq zcr zfK zfL))) (zpg:zjZ=zg zae zdS):z111a K [1,1,0,1,0,0,1,1,0,0,1,1] [X0] ⟨[(1,zP (.fn 113 [] [])),(4,zp 4 0),(5,zp 5 0),(7,zp 7 0),(12,zP (.sl zdS.len 2 zjZ)),(13,zI (((l_a0.len:Int) - (1:Int)).toNat:Int)),(14,zI zaN),(21,zB zfJ)],[(4,.box 25 (zm (zae (⟨(0:Int),(0:Int)⟩:Frac)))),(5,.box 25 (zm (zae (⟨zcq,zcr⟩:Frac)))),(7,.box 25 (zm (zae (⟨zfK,zfL⟩:Frac))))],[]⟩:=by subst zpg;exact zau (by kernel_rfl) (zc hs hk (fun hs hk=>(hX0 hs hk rfl)) (fun hs hk=>(hX0 hs hk rfl)))
def znJ (l_a0:(Sl Frac)) (S0:(Sl Frac)→Int→Int→Int→Frac) (zaH:(Sl Frac)) (zai:Int) (zan:Int) (zao:Int):Frac :=
  (cond (decide (zai < (((l_a0.len : Int) - (1:Int)).toNat : Int)))
 (znH S0 l_a0 zaH zai (zJ3 (zaH.get zai.toNat) (⟨zan,zao⟩:Frac)) zan zao ((zaH.get zai.toNat).Num) ((zaH.get zai.toNat).Den))
 (⟨zan,zao⟩:Frac))
def znK (l_a0:(Sl Frac)) (P0:(Sl Frac)→Int→Int→Int→Bool) (zaH:(Sl Frac)) (zai:Int) (zan:Int) (zao:Int):Bool :=
  (cond (decide (zai < (((l_a0.len : Int) - (1:Int)).toNat : Int)))
 (decide ((0≤zai∧zai < (zaH.len:Int))) &&
 (znI P0 l_a0 zaH zai (zJ3 (zaH.get zai.toNat) (⟨zan,zao⟩:Frac)) zan zao ((zaH.get zai.toNat).Num) ((zaH.get zai.toNat).Den)))
 true)
def znL (l_a0:(Sl Frac)):Nat→(Sl Frac)→Int→Int→Int→Frac:=lpO (fun _ _ _ _=>default) (znJ l_a0)
def znM (l_a0:(Sl Frac)):Nat→(Sl Frac)→Int→Int→Int→Bool:=lpO (fun _ _ _ _=>false) (znK l_a0)
def znN (l_a0:(Sl Frac)) (zaH:(Sl Frac)) (zai:Int) (zan:Int) (zao:Int):Frac:=znL l_a0 Fuel zaH zai zan zao
def znO (l_a0:(Sl Frac)) (zaH:(Sl Frac)) (zai:Int) (zan:Int) (zao:Int):Bool:=znM l_a0 Fuel zaH zai zan zao
theorem zu6 (hs:znO l_a0 zaH zai zan zao=true) (hk:K (zzT (znN l_a0 zaH zai zan zao))) (zfM:zcc=zg zae zaH):z111a K [1,1,0,1,0] [] (zrz l_a0 zaH zai zan zao zcc) :=
  zl (fun X=>z111a K [1,1,0,1,0,0] [X]) (by kernel_rfl) fun X0 hX =>
  (show ∀ k, zpi K l_a0 X0 (znM l_a0 k) (znL l_a0 k) from zdJ _ _ (znK l_a0) (znJ l_a0) (zpi K l_a0 X0)
 (by intro _ _ _ _ _ hs;exact absurd hs Bool.false_ne_true)
 (by intro P0 S0 hX0 zaH zai zan zao zcc hs hk zfM;subst zfM;exact hX _ (zau (by kernel_rfl) (zc hs hk (fun hs hk=>(zat hs fun hc hs=>And.intro hc (zu5 hX0 hs hk rfl))) (fun hs hk=>hk))))) _ hs hk zfM
def s111a (l_a0:(Sl Frac)):Frac :=
  (znN l_a0 (⟨((l_a0.len:Int) - (1:Int)).toNat,(fun i=>l_a0.get (i+((1:Int).toNat)))⟩:Sl Frac) (0:Int) ((l_a0.get 0).Num) ((l_a0.get 0).Den))
def zzU (l_a0:(Sl Frac)):Bool :=
  (decide ((0≤(0:Int)∧(0:Int) < (l_a0.len:Int))) &&
 (decide ((0≤(1:Int)∧(1:Int)≤(l_a0.len:Int)∧(l_a0.len:Int)≤(l_a0.len:Int))) &&
 (znO l_a0 (⟨((l_a0.len:Int) - (1:Int)).toNat,(fun i=>l_a0.get (i+((1:Int).toNat)))⟩:Sl Frac) (0:Int) ((l_a0.get 0).Num) ((l_a0.get 0).Den))))
end
theorem zK6 (l_a0:(Sl Frac)) (K:List PA→Prop) (hs:zzU l_a0=true) (hk:K (zzT (s111a l_a0))):vcFun Try.prog zHZ zph 111 [.one (.sl l_a0.len 2 (fun i=>zae (l_a0.get i))),.one (.fn 113 [] [])] K :=
  zau (by kernel_rfl) (zat hs fun hc hs=>And.intro hc (zat hs fun hc hs=>And.intro hc (zu6 hs hk rfl)))
def zu7 : List PA → COut
  | [.one (.sl a0_n a0_s a0_g),.one (.fn 112 [] [])]=>.det (IsE zae 2 a0_s a0_g∧zJ5 (⟨a0_n,zfH a0_g⟩:(Sl Frac))=true) [.agg [.int .i64 ((zu4 (⟨a0_n,zfH a0_g⟩:(Sl Frac))).Num),.int .i64 ((zu4 (⟨a0_n,zfH a0_g⟩:(Sl Frac))).Den)]]
  | [.one (.sl a0_n a0_s a0_g),.one (.fn 113 [] [])]=>.det (IsE zae 2 a0_s a0_g∧zzU (⟨a0_n,zfH a0_g⟩:(Sl Frac))=true) [.agg [.int .i64 ((s111a (⟨a0_n,zfH a0_g⟩:(Sl Frac))).Num),.int .i64 ((s111a (⟨a0_n,zfH a0_g⟩:(Sl Frac))).Den)]]
  | _=>.no
theorem zDm:zaf Try.prog 111:=⟨_,rfl,rfl,by kernel_rfl⟩
theorem zK7:Ok Try.prog 111 zu7:=zax zHY zDm fun args K h=>by
  unfold zu7 at h
  split at h
  · rename_i a0_n a0_s a0_g
    obtain ⟨⟨⟨rfl,a0_f,rfl⟩,hs⟩,hk⟩:=h
    try rw [zei a0_f] at hs
    try rw [zei a0_f] at hk
    exact ⟨(fun _ _=>[]),(fun _=>false),zu0,zNN (⟨a0_n,a0_f⟩:(Sl Frac)) K hs hk⟩
  · rename_i a0_n a0_s a0_g
    obtain ⟨⟨⟨rfl,a0_f,rfl⟩,hs⟩,hk⟩:=h
    try rw [zei a0_f] at hs
    try rw [zei a0_f] at hk
    exact ⟨(fun _ _=>[]),(fun _=>false),zph,zK6 (⟨a0_n,a0_f⟩:(Sl Frac)) K hs hk⟩
  · exact h.elim
abbrev T82:Tabs:=((((Tabs.nil.addF 83 zDh).addF 89 zsR).addF 101 zuX).addF 111 zu7)
theorem zK8:TabsOk Try.prog T82:=((((TabsOk.nil.addF zNv).addF zJZ).addF zK1).addF zK7)
abbrev G82:Ctrs:=csm T82 (fun _ _=>[]) (fun _=>false)
def zDn:Ann:=⟨39,[(0,zK [1,2,4,5] [2,4,5]),(1,zK [1,2,4,5,6] [2,4,5]),(2,zK [1,4,5,6,12,13,14] [4,5]),(3,zK [1,4,5,6,12,13,14,15] [4,5,23]),(4,zK [1,4,5,6,8,12,13,14] [4,5,8,23]),(5,zK [1,4,5,6,12,13,14] [4,5,23]),(6,zK [1,4,5,6,12,13,14] [4,5,23]),(7,zK [4,5,6,9] [4,5,9,23]),(8,zK [4,5,9,10] [4,5,9,10]),(9,zK [4,5] [4,5])],
 [(3,⟨[1,4,5,6,12,13,14],[4,5,23],[(6,23,25,fun _=>zae default)],[],[],[],[]⟩)],
 [(7,zK [4,5,6] [4,5,23]),(8,zK [4,5,6,9] [4,5,9,23]),(9,zK [4,5,9,10] [4,5,9,10])],
 [],[]⟩
abbrev R82:=(Frac×Frac)
abbrev e82 (r:R82):List PA:=[.agg [.int .i64 r.1.Num,.int .i64 r.1.Den],.agg [.int .i64 r.2.Num,.int .i64 r.2.Den]]
@[irreducible] def z82:=ptF Try.prog G82 zDn Try.f82
def zBd (c0:Int) (s:set) (zai:Int) (za2:(Sl Frac)) (zcd:Nat→List PV):St:=⟨[(1,zP (.fn 101 [] [.fp (enc_3 c0) 0])),(4,zp 4 0),(5,zp 5 0),(6,zv 23),(12,zS zah 3 s.corners),(13,zI (s.corners.len:Int)),(14,zI zai)],[(4,.box 25 (zm (zae (⟨(0:Int),(0:Int)⟩:Frac)))),(5,.box 25 (zm (zae (⟨(0:Int),(0:Int)⟩:Frac)))),(23,.vec 25 2 16 za2.len zcd)],[]⟩
abbrev zH0 (K:List PA→Prop) (c0:Int) (s:set) (X:St→Prop) (P:Int→(Sl Frac)→Bool) (S:Int→(Sl Frac)→(Frac×Frac)):Prop:=∀ ⦃zai:Int⦄ ⦃za2:(Sl Frac)⦄ ⦃zcd:Nat→List PV⦄,P zai za2=true→K (e82 (S zai za2))→zcd=zg zae za2→X (zBd c0 s zai za2 zcd)
section
variable {K:List PA→Prop} {c0:Int} {s:set} {zai:Int} {za2:(Sl Frac)} {zcd:Nat→List PV} {X0:St→Prop} {P0:Int→(Sl Frac)→Bool} {S0:Int→(Sl Frac)→(Frac×Frac)} {zcF:(Sl Frac)} {zj0:Nat→List PV} {za3:Int} {za4:Int} {zc8:(Sl Frac)} {zj1:Nat→List PV} {zbU:Int} {zbV:Int}
def zu8 (za3:Int) (za4:Int) (zbU:Int) (zbV:Int):(Frac×Frac) :=
  ((s89 za3 za4),(s89 zbU zbV))
def zu9 (za3:Int) (za4:Int) (zbU:Int) (zbV:Int):Bool :=
  (decide ((p89 za3 za4=true)) &&
 (decide ((p89 zbU zbV=true)) &&
 true))
theorem zDo (hs:zu9 za3 za4 zbU zbV=true) (hk:K (e82 (zu8 za3 za4 zbU zbV))):z82 K [1,1,1,1,1] [] ⟨[(4,zp 4 0),(5,zp 5 0),(9,zp 9 0),(10,zp 10 0)],[(4,.box 25 (zm (zae (⟨(0:Int),(0:Int)⟩:Frac)))),(5,.box 25 (zm (zae (⟨(0:Int),(0:Int)⟩:Frac)))),(9,.box 25 (zm (zae (⟨za3,za4⟩:Frac)))),(10,.box 25 (zm (zae (⟨zbU,zbV⟩:Frac))))],[]⟩:=zau (by kernel_rfl) (zat hs fun hc hs=>And.intro hc (zat hs fun hc hs=>And.intro hc hk))
def zva (za3:Int) (za4:Int) (zc8:(Sl Frac)):(Frac×Frac) :=
  (zu8 za3 za4 ((s111a zc8).Num) ((s111a zc8).Den))
def zvb (za3:Int) (za4:Int) (zc8:(Sl Frac)):Bool :=
  (decide ((zzU zc8=true)) &&
 (zu9 za3 za4 ((s111a zc8).Num) ((s111a zc8).Den)))
theorem zDp (hs:zvb za3 za4 zc8=true) (hk:K (e82 (zva za3 za4 zc8))) (zpj:zj1=zg zae zc8):z82 K [1,1,1,1] [] ⟨[(4,zp 4 0),(5,zp 5 0),(6,zv 23),(9,zp 9 0)],[(4,.box 25 (zm (zae (⟨(0:Int),(0:Int)⟩:Frac)))),(5,.box 25 (zm (zae (⟨(0:Int),(0:Int)⟩:Frac)))),(9,.box 25 (zm (zae (⟨za3,za4⟩:Frac)))),(23,.vec 25 2 16 zc8.len zj1)],[]⟩:=by subst zpj;exact zau (by kernel_rfl) (zat hs fun hc hs=>And.intro (And.intro (zE zae 2 zc8.get) hc) (zDo hs hk))
def zvc (zcF:(Sl Frac)):(Frac×Frac) :=
  (zva ((zu4 zcF).Num) ((zu4 zcF).Den) zcF)
def zvd (zcF:(Sl Frac)):Bool :=
  (decide ((zJ5 zcF=true)) &&
 (zvb ((zu4 zcF).Num) ((zu4 zcF).Den) zcF))
theorem zDq (hs:zvd zcF=true) (hk:K (e82 (zvc zcF))) (zpk:zj0=zg zae zcF):z82 K [1,1,1] [] ⟨[(4,zp 4 0),(5,zp 5 0),(6,zv 23)],[(4,.box 25 (zm (zae (⟨(0:Int),(0:Int)⟩:Frac)))),(5,.box 25 (zm (zae (⟨(0:Int),(0:Int)⟩:Frac)))),(23,.vec 25 2 16 zcF.len zj0)],[]⟩:=by subst zpk;exact zau (by kernel_rfl) (zat hs fun hc hs=>And.intro (And.intro (zE zae 2 zcF.get) hc) (zDp hs hk rfl))
def zve (c0:Int) (s:set) (S0:Int→(Sl Frac)→(Frac×Frac)) (zai:Int) (za2:(Sl Frac)):(Frac×Frac) :=
  (cond (decide (zai < (s.corners.len : Int)))
 (S0 (w64 (zai+(1:Int))) (⟨(za2.len+1),(zdi za2.len za2.get (fun _=>(zGp c0 (s.corners.get zai.toNat))))⟩:Sl Frac))
 (zvc za2))
def zvf (c0:Int) (s:set) (P0:Int→(Sl Frac)→Bool) (zai:Int) (za2:(Sl Frac)):Bool :=
  (cond (decide (zai < (s.corners.len : Int)))
 (decide ((0≤zai∧zai < (s.corners.len:Int))) &&
 (decide (((za2.len+1) * 16≤140737488355328∧za2.len+1≤9223372036854775807)) &&
 (P0 (w64 (zai+(1:Int))) (⟨(za2.len+1),(zdi za2.len za2.get (fun _=>(zGp c0 (s.corners.get zai.toNat))))⟩:Sl Frac))))
 (zvd za2))
def zvg (c0:Int) (s:set):Nat→Int→(Sl Frac)→(Frac×Frac):=lpO (fun _ _=>default) (zve c0 s)
def zvh (c0:Int) (s:set):Nat→Int→(Sl Frac)→Bool:=lpO (fun _ _=>false) (zvf c0 s)
def zvi (c0:Int) (s:set) (zai:Int) (za2:(Sl Frac)):(Frac×Frac):=zvg c0 s Fuel zai za2
def zvj (c0:Int) (s:set) (zai:Int) (za2:(Sl Frac)):Bool:=zvh c0 s Fuel zai za2
theorem zDr (hs:zvj c0 s zai za2=true) (hk:K (e82 (zvi c0 s zai za2))) (zfN:zcd=zg zae za2):z82 K [1,1,0,1,0] [] (zBd c0 s zai za2 zcd) :=
  zl (fun X=>z82 K [1,1,0,1,0,0] [X]) (by kernel_rfl) fun X0 hX =>
  (show ∀ k, zH0 K c0 s X0 (zvh c0 s k) (zvg c0 s k) from zdJ _ _ (zvf c0 s) (zve c0 s) (zH0 K c0 s X0)
 (by intro _ _ _ hs;exact absurd hs Bool.false_ne_true)
 (by intro P0 S0 hX0 zai za2 zcd hs hk zfN;subst zfN;exact hX _ (zau (by kernel_rfl) (zc hs hk (fun hs hk=>(zat hs fun hc hs=>And.intro hc (zat hs fun hc hs=>And.intro hc (hX0 hs hk (zd2 (enc:=zae) (f:=za2.get) (h:=(fun _=>(zGp c0 (s.corners.get zai.toNat)))) rfl rfl))))) (fun hs hk=>(zDq hs hk rfl)))))) _ hs hk zfN
def s82 (c0:Int) (s:set):(Frac×Frac) :=
  (zvi c0 s (0:Int) (⟨0,(fun _=>default)⟩:Sl Frac))
def p82 (c0:Int) (s:set):Bool :=
  (zvj c0 s (0:Int) (⟨0,(fun _=>default)⟩:Sl Frac))
end
theorem q82 (c0:Int) (s:set) (K:List PA→Prop) (hs:p82 c0 s=true) (hk:K (e82 (s82 c0 s))):vcFun Try.prog G82 zDn 82 [.agg (zaS s),.one (.fn 101 [] [.fp (enc_3 c0) 0])] K :=
  zau (by kernel_rfl) (zDr hs hk rfl)
abbrev zMr:Ctrs:=csm T82 (fun _ _=>[]) (fun _=>false)
def zvk:Ann:=⟨39,[(0,zK [1,2,4,5] [2,4,5]),(1,zK [1,2,4,5,6] [2,4,5]),(2,zK [1,4,5,6,12,13,14] [4,5]),(3,zK [1,4,5,6,12,13,14,15] [4,5,23]),(4,zK [1,4,5,6,8,12,13,14] [4,5,8,23]),(5,zK [1,4,5,6,12,13,14] [4,5,23]),(6,zK [1,4,5,6,12,13,14] [4,5,23]),(7,zK [4,5,6,9] [4,5,9,23]),(8,zK [4,5,9,10] [4,5,9,10]),(9,zK [4,5] [4,5])],
 [(3,⟨[1,4,5,6,12,13,14],[4,5,23],[(6,23,25,fun _=>zae default)],[],[],[],[]⟩)],
 [(7,zK [4,5,6] [4,5,23]),(8,zK [4,5,6,9] [4,5,9,23]),(9,zK [4,5,9,10] [4,5,9,10])],
 [],[]⟩
abbrev zNO:=(Frac×Frac)
abbrev zGq (r:zNO):List PA:=[.agg [.int .i64 r.1.Num,.int .i64 r.1.Den],.agg [.int .i64 r.2.Num,.int .i64 r.2.Den]]
@[irreducible] def z82a:=ptF Try.prog zMr zvk Try.f82
def zvl (s:set) (zai:Int) (za2:(Sl Frac)) (zcd:Nat→List PV):St:=⟨[(1,zP (.fn 83 [] [])),(4,zp 4 0),(5,zp 5 0),(6,zv 23),(12,zS zah 3 s.corners),(13,zI (s.corners.len:Int)),(14,zI zai)],[(4,.box 25 (zm (zae (⟨(0:Int),(0:Int)⟩:Frac)))),(5,.box 25 (zm (zae (⟨(0:Int),(0:Int)⟩:Frac)))),(23,.vec 25 2 16 za2.len zcd)],[]⟩
abbrev zBe (K:List PA→Prop) (s:set) (X:St→Prop) (P:Int→(Sl Frac)→Bool) (S:Int→(Sl Frac)→(Frac×Frac)):Prop:=∀ ⦃zai:Int⦄ ⦃za2:(Sl Frac)⦄ ⦃zcd:Nat→List PV⦄,P zai za2=true→K (zGq (S zai za2))→zcd=zg zae za2→X (zvl s zai za2 zcd)
section
variable {K:List PA→Prop} {s:set} {zai:Int} {za2:(Sl Frac)} {zcd:Nat→List PV} {X0:St→Prop} {P0:Int→(Sl Frac)→Bool} {S0:Int→(Sl Frac)→(Frac×Frac)} {zcF:(Sl Frac)} {zj0:Nat→List PV} {za3:Int} {za4:Int} {zc8:(Sl Frac)} {zj1:Nat→List PV} {zbU:Int} {zbV:Int}
def zrA (za3:Int) (za4:Int) (zbU:Int) (zbV:Int):(Frac×Frac) :=
  ((s89 za3 za4),(s89 zbU zbV))
def zrB (za3:Int) (za4:Int) (zbU:Int) (zbV:Int):Bool :=
  (decide ((p89 za3 za4=true)) &&
 (decide ((p89 zbU zbV=true)) &&
 true))
theorem zzV (hs:zrB za3 za4 zbU zbV=true) (hk:K (zGq (zrA za3 za4 zbU zbV))):z82a K [1,1,1,1,1] [] ⟨[(4,zp 4 0),(5,zp 5 0),(9,zp 9 0),(10,zp 10 0)],[(4,.box 25 (zm (zae (⟨(0:Int),(0:Int)⟩:Frac)))),(5,.box 25 (zm (zae (⟨(0:Int),(0:Int)⟩:Frac)))),(9,.box 25 (zm (zae (⟨za3,za4⟩:Frac)))),(10,.box 25 (zm (zae (⟨zbU,zbV⟩:Frac))))],[]⟩:=zau (by kernel_rfl) (zat hs fun hc hs=>And.intro hc (zat hs fun hc hs=>And.intro hc hk))
def zrC (za3:Int) (za4:Int) (zc8:(Sl Frac)):(Frac×Frac) :=
  (zrA za3 za4 ((s111a zc8).Num) ((s111a zc8).Den))
def zrD (za3:Int) (za4:Int) (zc8:(Sl Frac)):Bool :=
  (decide ((zzU zc8=true)) &&
 (zrB za3 za4 ((s111a zc8).Num) ((s111a zc8).Den)))
theorem zzW (hs:zrD za3 za4 zc8=true) (hk:K (zGq (zrC za3 za4 zc8))) (zpj:zj1=zg zae zc8):z82a K [1,1,1,1] [] ⟨[(4,zp 4 0),(5,zp 5 0),(6,zv 23),(9,zp 9 0)],[(4,.box 25 (zm (zae (⟨(0:Int),(0:Int)⟩:Frac)))),(5,.box 25 (zm (zae (⟨(0:Int),(0:Int)⟩:Frac)))),(9,.box 25 (zm (zae (⟨za3,za4⟩:Frac)))),(23,.vec 25 2 16 zc8.len zj1)],[]⟩:=by subst zpj;exact zau (by kernel_rfl) (zat hs fun hc hs=>And.intro (And.intro (zE zae 2 zc8.get) hc) (zzV hs hk))
def zrE (zcF:(Sl Frac)):(Frac×Frac) :=
  (zrC ((zu4 zcF).Num) ((zu4 zcF).Den) zcF)
def zrF (zcF:(Sl Frac)):Bool :=
  (decide ((zJ5 zcF=true)) &&
 (zrD ((zu4 zcF).Num) ((zu4 zcF).Den) zcF))
theorem zzX (hs:zrF zcF=true) (hk:K (zGq (zrE zcF))) (zpk:zj0=zg zae zcF):z82a K [1,1,1] [] ⟨[(4,zp 4 0),(5,zp 5 0),(6,zv 23)],[(4,.box 25 (zm (zae (⟨(0:Int),(0:Int)⟩:Frac)))),(5,.box 25 (zm (zae (⟨(0:Int),(0:Int)⟩:Frac)))),(23,.vec 25 2 16 zcF.len zj0)],[]⟩:=by subst zpk;exact zau (by kernel_rfl) (zat hs fun hc hs=>And.intro (And.intro (zE zae 2 zcF.get) hc) (zzW hs hk rfl))
def zrG (s:set) (S0:Int→(Sl Frac)→(Frac×Frac)) (zai:Int) (za2:(Sl Frac)):(Frac×Frac) :=
  (cond (decide (zai < (s.corners.len : Int)))
 (S0 (w64 (zai+(1:Int))) (⟨(za2.len+1),(zdi za2.len za2.get (fun _=>(s83 (s.corners.get zai.toNat))))⟩:Sl Frac))
 (zrE za2))
def zrH (s:set) (P0:Int→(Sl Frac)→Bool) (zai:Int) (za2:(Sl Frac)):Bool :=
  (cond (decide (zai < (s.corners.len : Int)))
 (decide ((0≤zai∧zai < (s.corners.len:Int))) &&
 (decide (((za2.len+1) * 16≤140737488355328∧za2.len+1≤9223372036854775807)) &&
 (P0 (w64 (zai+(1:Int))) (⟨(za2.len+1),(zdi za2.len za2.get (fun _=>(s83 (s.corners.get zai.toNat))))⟩:Sl Frac))))
 (zrF za2))
def zrI (s:set):Nat→Int→(Sl Frac)→(Frac×Frac):=lpO (fun _ _=>default) (zrG s)
def zrJ (s:set):Nat→Int→(Sl Frac)→Bool:=lpO (fun _ _=>false) (zrH s)
def zrK (s:set) (zai:Int) (za2:(Sl Frac)):(Frac×Frac):=zrI s Fuel zai za2
def zrL (s:set) (zai:Int) (za2:(Sl Frac)):Bool:=zrJ s Fuel zai za2
theorem zzY (hs:zrL s zai za2=true) (hk:K (zGq (zrK s zai za2))) (zfN:zcd=zg zae za2):z82a K [1,1,0,1,0] [] (zvl s zai za2 zcd) :=
  zl (fun X=>z82a K [1,1,0,1,0,0] [X]) (by kernel_rfl) fun X0 hX =>
  (show ∀ k, zBe K s X0 (zrJ s k) (zrI s k) from zdJ _ _ (zrH s) (zrG s) (zBe K s X0)
 (by intro _ _ _ hs;exact absurd hs Bool.false_ne_true)
 (by intro P0 S0 hX0 zai za2 zcd hs hk zfN;subst zfN;exact hX _ (zau (by kernel_rfl) (zc hs hk (fun hs hk=>(zat hs fun hc hs=>And.intro hc (zat hs fun hc hs=>And.intro hc (hX0 hs hk (zd2 (enc:=zae) (f:=za2.get) (h:=(fun _=>(s83 (s.corners.get zai.toNat)))) rfl rfl))))) (fun hs hk=>(zzX hs hk rfl)))))) _ hs hk zfN
def zH1 (s:set):(Frac×Frac) :=
  (zrK s (0:Int) (⟨0,(fun _=>default)⟩:Sl Frac))
def zMs (s:set):Bool :=
  (zrL s (0:Int) (⟨0,(fun _=>default)⟩:Sl Frac))
end
theorem zNP (s:set) (K:List PA→Prop) (hs:zMs s=true) (hk:K (zGq (zH1 s))):vcFun Try.prog zMr zvk 82 [.agg (zaS s),.one (.fn 83 [] [])] K :=
  zau (by kernel_rfl) (zzY hs hk rfl)
def zDs : List PA → COut
  | [.agg [.sl a0_list_Gates_n a0_list_Gates_s a0_list_Gates_g,.sl a0_corners_n a0_corners_s a0_corners_g],.one (.fn 101 [] [.fp [.int .i64 c0] 0])]=>.det (IsE enc_55 3 a0_list_Gates_s a0_list_Gates_g∧IsE zah 3 a0_corners_s a0_corners_g∧p82 c0 (⟨(⟨(⟨a0_list_Gates_n,zad a0_list_Gates_g⟩:(Sl Gate))⟩:list),(⟨a0_corners_n,zaO a0_corners_g⟩:(Sl straight))⟩:set)=true) [.agg [.int .i64 (((s82 c0 (⟨(⟨(⟨a0_list_Gates_n,zad a0_list_Gates_g⟩:(Sl Gate))⟩:list),(⟨a0_corners_n,zaO a0_corners_g⟩:(Sl straight))⟩:set)).1).Num),.int .i64 (((s82 c0 (⟨(⟨(⟨a0_list_Gates_n,zad a0_list_Gates_g⟩:(Sl Gate))⟩:list),(⟨a0_corners_n,zaO a0_corners_g⟩:(Sl straight))⟩:set)).1).Den)],.agg [.int .i64 (((s82 c0 (⟨(⟨(⟨a0_list_Gates_n,zad a0_list_Gates_g⟩:(Sl Gate))⟩:list),(⟨a0_corners_n,zaO a0_corners_g⟩:(Sl straight))⟩:set)).2).Num),.int .i64 (((s82 c0 (⟨(⟨(⟨a0_list_Gates_n,zad a0_list_Gates_g⟩:(Sl Gate))⟩:list),(⟨a0_corners_n,zaO a0_corners_g⟩:(Sl straight))⟩:set)).2).Den)]]
  | [.agg [.sl a0_list_Gates_n a0_list_Gates_s a0_list_Gates_g,.sl a0_corners_n a0_corners_s a0_corners_g],.one (.fn 83 [] [])]=>.det (IsE enc_55 3 a0_list_Gates_s a0_list_Gates_g∧IsE zah 3 a0_corners_s a0_corners_g∧zMs (⟨(⟨(⟨a0_list_Gates_n,zad a0_list_Gates_g⟩:(Sl Gate))⟩:list),(⟨a0_corners_n,zaO a0_corners_g⟩:(Sl straight))⟩:set)=true) [.agg [.int .i64 (((zH1 (⟨(⟨(⟨a0_list_Gates_n,zad a0_list_Gates_g⟩:(Sl Gate))⟩:list),(⟨a0_corners_n,zaO a0_corners_g⟩:(Sl straight))⟩:set)).1).Num),.int .i64 (((zH1 (⟨(⟨(⟨a0_list_Gates_n,zad a0_list_Gates_g⟩:(Sl Gate))⟩:list),(⟨a0_corners_n,zaO a0_corners_g⟩:(Sl straight))⟩:set)).1).Den)],.agg [.int .i64 (((zH1 (⟨(⟨(⟨a0_list_Gates_n,zad a0_list_Gates_g⟩:(Sl Gate))⟩:list),(⟨a0_corners_n,zaO a0_corners_g⟩:(Sl straight))⟩:set)).2).Num),.int .i64 (((zH1 (⟨(⟨(⟨a0_list_Gates_n,zad a0_list_Gates_g⟩:(Sl Gate))⟩:list),(⟨a0_corners_n,zaO a0_corners_g⟩:(Sl straight))⟩:set)).2).Den)]]
  | _=>.no
theorem zH2:zaf Try.prog 82:=⟨_,rfl,rfl,by kernel_rfl⟩
theorem zNQ:Ok Try.prog 82 zDs:=zax zK8 zH2 fun args K h=>by
  unfold zDs at h
  split at h
  · rename_i a0_list_Gates_n a0_list_Gates_s a0_list_Gates_g a0_corners_n a0_corners_s a0_corners_g c0
    obtain ⟨⟨⟨rfl,a0_list_Gates_f,rfl⟩,⟨rfl,a0_corners_f,rfl⟩,hs⟩,hk⟩:=h
    try rw [zac a0_list_Gates_f] at hs
    try rw [zac a0_list_Gates_f] at hk
    try rw [zaJ a0_corners_f] at hs
    try rw [zaJ a0_corners_f] at hk
    exact ⟨(fun _ _=>[]),(fun _=>false),zDn,q82 c0 (⟨(⟨(⟨a0_list_Gates_n,a0_list_Gates_f⟩:(Sl Gate))⟩:list),(⟨a0_corners_n,a0_corners_f⟩:(Sl straight))⟩:set) K hs hk⟩
  · rename_i a0_list_Gates_n a0_list_Gates_s a0_list_Gates_g a0_corners_n a0_corners_s a0_corners_g
    obtain ⟨⟨⟨rfl,a0_list_Gates_f,rfl⟩,⟨rfl,a0_corners_f,rfl⟩,hs⟩,hk⟩:=h
    try rw [zac a0_list_Gates_f] at hs
    try rw [zac a0_list_Gates_f] at hk
    try rw [zaJ a0_corners_f] at hs
    try rw [zaJ a0_corners_f] at hk
    exact ⟨(fun _ _=>[]),(fun _=>false),zvk,zNP (⟨(⟨(⟨a0_list_Gates_n,a0_list_Gates_f⟩:(Sl Gate))⟩:list),(⟨a0_corners_n,a0_corners_f⟩:(Sl straight))⟩:set) K hs hk⟩
  · exact h.elim
abbrev T68:Tabs:=((((Tabs.nil.addF 67 zoU).addF 82 zDs).addF 89 zsR).addF 98 zzL)
theorem zK9:TabsOk Try.prog T68:=((((TabsOk.nil.addF zHr).addF zNQ).addF zJZ).addF zMg)
abbrev G68:Ctrs:=csm T68 (fun _ _=>[]) (fun _=>false)
def zH3:Ann:=⟨24,[(0,zK [2,3,4,5] [2,3,4,5]),(1,zK [2,3,4,5,9] [2,3,4,5]),(2,zK [4,5,6] [4,5,6]),(3,zK [4,5] [4,5]),(4,zK [4,5] [4,5])],
 [],
 [],
 [],[]⟩
abbrev R68:=(Frac×Frac)
abbrev e68 (r:R68):List PA:=[.agg [.int .i64 r.1.Num,.int .i64 r.1.Den],.agg [.int .i64 r.2.Num,.int .i64 r.2.Den]]
section
variable {K:List PA→Prop} {s:set} {z:Int}
def s68 (s:set) (z:Int):(Frac×Frac) :=
  (cond (s67 s.list)
 ((s89 ((s98 s.list).Low) (1:Int)),(s89 ((s98 s.list).High) (1:Int)))
 (((s82 z s).1),((s82 z s).2)))
def p68 (s:set) (z:Int):Bool :=
  (decide ((p67 s.list=true)) &&
 (cond (s67 s.list)
 (decide ((p98 s.list=true)) &&
 (decide ((p89 ((s98 s.list).Low) (1:Int)=true)) &&
 (decide ((p89 ((s98 s.list).High) (1:Int)=true)) &&
 true)))
 (decide ((p82 z s=true)) &&
 true)))
end
theorem q68 (s:set) (z:Int) (K:List PA→Prop) (hs:p68 s z=true) (hk:K (e68 (s68 s z))):vcFun Try.prog G68 zH3 68 [.agg (zaS s),.one (.int .i64 z)] K :=
  zau (by kernel_rfl) (zat hs fun hc hs=>And.intro (And.intro (zE enc_55 3 s.list.Gates.get) hc) (zc hs hk (fun hs hk=>(zat hs fun hc hs=>And.intro (And.intro (zE enc_55 3 s.list.Gates.get) hc) (zat hs fun hc hs=>And.intro hc (zat hs fun hc hs=>And.intro hc hk)))) (fun hs hk=>(zat hs fun hc hs=>And.intro (And.intro (zE enc_55 3 s.list.Gates.get) (And.intro (zE zah 3 s.corners.get) hc)) hk))))
def zzZ : List PA → COut
  | [.agg [.sl a0_list_Gates_n a0_list_Gates_s a0_list_Gates_g,.sl a0_corners_n a0_corners_s a0_corners_g],.one (.int .i64 a1)]=>.det (IsE enc_55 3 a0_list_Gates_s a0_list_Gates_g∧IsE zah 3 a0_corners_s a0_corners_g∧p68 (⟨(⟨(⟨a0_list_Gates_n,zad a0_list_Gates_g⟩:(Sl Gate))⟩:list),(⟨a0_corners_n,zaO a0_corners_g⟩:(Sl straight))⟩:set) a1=true) [.agg [.int .i64 (((s68 (⟨(⟨(⟨a0_list_Gates_n,zad a0_list_Gates_g⟩:(Sl Gate))⟩:list),(⟨a0_corners_n,zaO a0_corners_g⟩:(Sl straight))⟩:set) a1).1).Num),.int .i64 (((s68 (⟨(⟨(⟨a0_list_Gates_n,zad a0_list_Gates_g⟩:(Sl Gate))⟩:list),(⟨a0_corners_n,zaO a0_corners_g⟩:(Sl straight))⟩:set) a1).1).Den)],.agg [.int .i64 (((s68 (⟨(⟨(⟨a0_list_Gates_n,zad a0_list_Gates_g⟩:(Sl Gate))⟩:list),(⟨a0_corners_n,zaO a0_corners_g⟩:(Sl straight))⟩:set) a1).2).Num),.int .i64 (((s68 (⟨(⟨(⟨a0_list_Gates_n,zad a0_list_Gates_g⟩:(Sl Gate))⟩:list),(⟨a0_corners_n,zaO a0_corners_g⟩:(Sl straight))⟩:set) a1).2).Den)]]
  | _=>.no
theorem zH4:zaf Try.prog 68:=⟨_,rfl,rfl,by kernel_rfl⟩
theorem zMt:Ok Try.prog 68 zzZ:=zax zK9 zH4 fun args K h=>by
  unfold zzZ at h
  split at h
  · rename_i a0_list_Gates_n a0_list_Gates_s a0_list_Gates_g a0_corners_n a0_corners_s a0_corners_g a1
    obtain ⟨⟨⟨rfl,a0_list_Gates_f,rfl⟩,⟨rfl,a0_corners_f,rfl⟩,hs⟩,hk⟩:=h
    try rw [zac a0_list_Gates_f] at hs
    try rw [zac a0_list_Gates_f] at hk
    try rw [zaJ a0_corners_f] at hs
    try rw [zaJ a0_corners_f] at hk
    exact ⟨(fun _ _=>[]),(fun _=>false),zH3,q68 (⟨(⟨(⟨a0_list_Gates_n,a0_list_Gates_f⟩:(Sl Gate))⟩:list),(⟨a0_corners_n,a0_corners_f⟩:(Sl straight))⟩:set) a1 K hs hk⟩
  · exact h.elim
abbrev T19:Tabs:=((((((Tabs.nil.addF 64 zoO).addF 65 zuE).addF 66 zuH).addF 67 zoU).addF 68 zzZ).addF 69 zsV)
theorem zLa:TabsOk Try.prog T19:=((((((TabsOk.nil.addF zHd).addF zKN).addF zKQ).addF zHr).addF zMt).addF zJ0)
abbrev G19:Ctrs:=csm T19 (fun _ _=>[]) (fun _=>false)
def zDt:Ann:=⟨124,[(0,zK [0,1,2,3,9,10] [9,10]),(1,zK [0,1,2,3,9,10,12] [9,10,12]),(2,zK [0,1,2,3,9,10,12,44] [9,10,12]),(3,zK [8,9,10,11] [9,10]),(4,zK [2,3,9,10,12,13,14] [9,10,12,13,14]),(5,zK [2,3,9,10,12,13,14,58] [9,10,12,13,14]),(6,zK [8,9,10,11] [9,10]),(7,zK [2,3,9,10,12,13,14,68] [9,10,12,13,14]),(8,zK [8,9,10,11] [9,10]),(9,zK [2,3,9,10,12,13,14,15,16] [9,10,12,13,14,15,16]),(10,zK [2,3,9,10,12,13,14,15,16,17] [9,10,12,13,14,15,16]),(11,zK [2,3,9,10,12,13,14,15,16,17,76,77] [9,10,12,13,14,15,16]),(12,zK [2,3,9,10,12,13,14,15,16,17,76,77,78] [9,10,12,13,14,15,16]),(13,zK [2,3,9,10,12,13,14,15,16,17,18,76,77] [9,10,12,13,14,15,16]),(14,zK [2,3,9,10,12,13,14,15,16,17,18,19,20,76,77] [9,10,12,13,14,15,16,19,20]),(15,zK [2,3,9,10,12,13,14,15,16,17,18,19,20,21,22,76,77] [9,10,12,13,14,15,16,19,20,21,22]),(16,zK [2,3,9,10,12,13,14,15,16,17,18,19,20,21,22,76,77] [9,10,12,13,14,15,16,19,20,21,22]),(17,zK [2,3,9,10,12,13,14,15,16,17,18,20,21,22,76,77,101] [9,10,12,13,14,15,16,20,21,22]),(18,zK [2,3,9,10,12,13,14,15,16,17,18,20,22,76,77] [9,10,12,13,14,15,16,20,22]),(19,zK [2,3,9,10,12,13,14,15,16,17,18,22,76,77,106] [9,10,12,13,14,15,16,22]),(20,zK [2,3,9,10,12,13,14,15,16,17,18,76,77] [9,10,12,13,14,15,16]),(21,zK [2,3,9,10,12,13,14,15,16,17,18,76,77,111] [9,10,12,13,14,15,16]),(22,zK [3,9,10,12,15,16,17] [9,10,12,15,16]),(23,zK [2,3,9,10,12,13,14,15,16,17,76,77] [9,10,12,13,14,15,16]),(24,zK [9,10,12,15,16,17,118] [9,10,12,15,16]),(25,zK [8,9,10,11] [9,10]),(26,zK [8,9,10,11] [9,10])],
 [(12,zK [2,3,9,10,12,13,14,15,16,17,76,77] [9,10,12,13,14,15,16])],
 [(3,zK [0,1,2,3,9,10,12,44] [9,10,12]),(4,zK [0,1,2,3,9,10,12] [9,10,12]),(5,zK [2,3,9,10,12,13,14] [9,10,12,13,14]),(6,zK [2,3,9,10,12,13,14,58] [9,10,12,13,14]),(7,zK [2,3,9,10,12,13,14] [9,10,12,13,14]),(8,zK [2,3,9,10,12,13,14,68] [9,10,12,13,14]),(9,zK [2,3,9,10,12,13,14] [9,10,12,13,14]),(15,zK [2,3,9,10,12,13,14,15,16,17,18,19,20,76,77] [9,10,12,13,14,15,16,19,20]),(24,zK [3,9,10,12,15,16,17] [9,10,12,15,16]),(16,zK [2,3,9,10,12,13,14,15,16,17,18,19,20,21,22,76,77] [9,10,12,13,14,15,16,19,20,21,22]),(18,zK [2,3,9,10,12,13,14,15,16,17,18,20,21,22,76,77,101] [9,10,12,13,14,15,16,20,21,22]),(19,zK [2,3,9,10,12,13,14,15,16,17,18,20,22,76,77] [9,10,12,13,14,15,16,20,22]),(20,zK [2,3,9,10,12,13,14,15,16,17,18,22,76,77,106] [9,10,12,13,14,15,16,22]),(22,zK [2,3,9,10,12,13,14,15,16,17,18,76,77,111] [9,10,12,13,14,15,16])],
 [],[]⟩
abbrev R19:=(Int×Frac×Frac×Int)
abbrev e19 (r:R19):List PA:=[.one (.int .i64 r.1),.agg [.int .i64 r.2.1.Num,.int .i64 r.2.1.Den],.agg [.int .i64 r.2.2.1.Num,.int .i64 r.2.2.1.Den],.one (.int .i64 r.2.2.2)]
@[irreducible] def z19:=ptF Try.prog G19 zDt Try.f19
def zBf (low:Int) (high:Int) (zal:(Sl Gate)) (zar:(Sl straight)) (zam:(Sl Gate)) (zas:(Sl straight)) (zcs:Int) (zbx:Int) (zby:Int) (zcG:Int) (zcH:Int):St:=⟨[(2,zI low),(3,zI high),(9,zp 9 0),(10,zp 10 0),(12,zp 12 0),(13,zp 13 0),(14,zp 14 0),(15,zp 15 0),(16,zp 16 0),(17,zI (w64 (high+(1:Int)))),(76,zI (w64 ((w64 (high - low))+(1:Int)))),(77,zI zcs)],[(9,.box 25 (zm (zae (⟨(0:Int),(0:Int)⟩:Frac)))),(10,.box 25 (zm (zae (⟨(0:Int),(0:Int)⟩:Frac)))),(12,.box 25 (zm (zae (⟨(0:Int),(0:Int)⟩:Frac)))),(13,.box 104 (zm (zaS (⟨(⟨zal⟩:list),zar⟩:set)))),(14,.box 104 (zm (zaS (⟨(⟨zam⟩:list),zas⟩:set)))),(15,.box 25 (zm (zae (⟨zbx,zby⟩:Frac)))),(16,.box 25 (zm (zae (⟨zcG,zcH⟩:Frac))))],[]⟩
abbrev znP (K:List PA→Prop) (low:Int) (high:Int) (zal:(Sl Gate)) (zar:(Sl straight)) (zam:(Sl Gate)) (zas:(Sl straight)) (X:St→Prop) (P:Int→Int→Int→Int→Int→Bool) (S:Int→Int→Int→Int→Int→(Int×Frac×Frac×Int)):Prop:=∀ ⦃zcs:Int⦄ ⦃zbx:Int⦄ ⦃zby:Int⦄ ⦃zcG:Int⦄ ⦃zcH:Int⦄,P zcs zbx zby zcG zcH=true→K (e19 (S zcs zbx zby zcG zcH))→X (zBf low high zal zar zam zas zcs zbx zby zcG zcH)
section
variable {K:List PA→Prop} {a:(Sl Gate)} {b:(Sl Gate)} {low:Int} {high:Int} {zpl:Bool} {zal:(Sl Gate)} {zar:(Sl straight)} {zam:(Sl Gate)} {zas:(Sl straight)} {zvm:Nat→List PV} {zvn:Nat→List PV} {zvo:Nat→List PV} {zvp:Nat→List PV} {zpm:Bool} {zpn:Bool} {zcs:Int} {zbx:Int} {zby:Int} {zcG:Int} {zcH:Int} {X7:St→Prop} {P7:Int→Int→Int→Int→Int→Bool} {S7:Int→Int→Int→Int→Int→(Int×Frac×Frac×Int)} {iv8:Int} {zpo:Int} {zeo:Int} {zep:Int} {zj2:Int} {zj3:Int} {zdC:Int} {zdD:Int} {zbF:Int} {zbG:Int} {zH5:Int} {zi3:Int} {zi4:Int} {zrM:Int} {zrN:Int} {zgH:Int} {zj4:Int} {zeQ:Int} {zeR:Int} {zj5:Int} {zj6:Int} {zdb:Int} {zdc:Int} {zbo:Int} {zbp:Int} {zz0:Int} {zgy:Int} {zfO:Bool} {zDu:Int} {zj7:Int} {zaC:Int} {zaD:Int} {zz1:Int} {zgz:Int} {zfP:Bool} {zGr:Int} {zj8:Int} {zfQ:Bool} {zeS:Int} {zeT:Int}
def zpp (high:Int) (zH5:Int) (zi3:Int) (zi4:Int) (zrM:Int) (zrN:Int):(Int×Frac×Frac×Int) :=
  (cond (decide (zH5 > high))
 ((0:Int),(⟨(0:Int),(0:Int)⟩:Frac),(⟨(0:Int),(0:Int)⟩:Frac),(5:Int))
 (zH5,(⟨zi3,zi4⟩:Frac),(⟨zrM,zrN⟩:Frac),(0:Int)))
theorem zvq (hk:K (e19 (zpp high zH5 zi3 zi4 zrM zrN))):z19 K [1,0,1,1,1,1,1,1,1,1,1] [] ⟨[(3,zI high),(9,zp 9 0),(10,zp 10 0),(12,zp 12 0),(15,zp 15 0),(16,zp 16 0),(17,zI zH5)],[(9,.box 25 (zm (zae (⟨(0:Int),(0:Int)⟩:Frac)))),(10,.box 25 (zm (zae (⟨(0:Int),(0:Int)⟩:Frac)))),(12,.box 25 (zm (zae (⟨(0:Int),(0:Int)⟩:Frac)))),(15,.box 25 (zm (zae (⟨zi3,zi4⟩:Frac)))),(16,.box 25 (zm (zae (⟨zrM,zrN⟩:Frac))))],[]⟩:=zau (by kernel_rfl) (zt hk (fun hk=>hk) (fun hk=>hk))
def zme (S7:Int→Int→Int→Int→Int→(Int×Frac×Frac×Int)) (low:Int) (high:Int) (zal:(Sl Gate)) (zar:(Sl straight)) (zam:(Sl Gate)) (zas:(Sl straight)) (zaC:Int) (zaD:Int) (zGr:Int) (zj8:Int) (zfQ:Bool) (zeS:Int) (zeT:Int):(Int×Frac×Frac×Int) :=
  (cond zfQ
 (zpp high (w64 (low+zGr)) zaC zaD zeS zeT)
 (S7 (w64 (zj8+(1:Int))) zaC zaD zeS zeT))
def zmf (P7:Int→Int→Int→Int→Int→Bool) (low:Int) (high:Int) (zal:(Sl Gate)) (zar:(Sl straight)) (zam:(Sl Gate)) (zas:(Sl straight)) (zaC:Int) (zaD:Int) (zGr:Int) (zj8:Int) (zfQ:Bool) (zeS:Int) (zeT:Int):Bool :=
  (cond zfQ
 true
 (P7 (w64 (zj8+(1:Int))) zaC zaD zeS zeT))
theorem zrO (hX7:znP K low high zal zar zam zas X7 P7 S7) (hs:zmf P7 low high zal zar zam zas zaC zaD zGr zj8 zfQ zeS zeT=true) (hk:K (e19 (zme S7 low high zal zar zam zas zaC zaD zGr zj8 zfQ zeS zeT))):z19 K [1,0,1,1,1,1,1,1,1,1,0,1,0,0,1,1,0,0,1,1,1,1,1,1,1] [X7] ⟨[(2,zI low),(3,zI high),(9,zp 9 0),(10,zp 10 0),(12,zp 12 0),(13,zp 13 0),(14,zp 14 0),(15,zp 15 0),(16,zp 16 0),(17,zI (w64 (high+(1:Int)))),(18,zI zGr),(76,zI (w64 ((w64 (high - low))+(1:Int)))),(77,zI zj8),(111,zB zfQ)],[(9,.box 25 (zm (zae (⟨(0:Int),(0:Int)⟩:Frac)))),(10,.box 25 (zm (zae (⟨(0:Int),(0:Int)⟩:Frac)))),(12,.box 25 (zm (zae (⟨(0:Int),(0:Int)⟩:Frac)))),(13,.box 104 (zm (zaS (⟨(⟨zal⟩:list),zar⟩:set)))),(14,.box 104 (zm (zaS (⟨(⟨zam⟩:list),zas⟩:set)))),(15,.box 25 (zm (zae (⟨zaC,zaD⟩:Frac)))),(16,.box 25 (zm (zae (⟨zeS,zeT⟩:Frac))))],[]⟩:=zau (by kernel_rfl) (zc hs hk (fun hs hk=>(zvq hk)) (fun hs hk=>(hX7 hs hk)))
def zrP (S7:Int→Int→Int→Int→Int→(Int×Frac×Frac×Int)) (low:Int) (high:Int) (zal:(Sl Gate)) (zar:(Sl straight)) (zam:(Sl Gate)) (zas:(Sl straight)) (zbF:Int) (zbG:Int) (zbo:Int) (zbp:Int) (zaC:Int) (zaD:Int) (zz1:Int) (zgz:Int) (zfP:Bool):(Int×Frac×Frac×Int) :=
  (cond zfP
 (zme S7 low high zal zar zam zas zaC zaD zz1 zgz (decide ((s69 (⟨zaC,zaD⟩:Frac) (⟨zbo,zbp⟩:Frac))≤(0:Int))) zbo zbp)
 (zme S7 low high zal zar zam zas zaC zaD zz1 zgz (decide ((s69 (⟨zaC,zaD⟩:Frac) (⟨zbF,zbG⟩:Frac))≤(0:Int))) zbF zbG))
def zrQ (P7:Int→Int→Int→Int→Int→Bool) (low:Int) (high:Int) (zal:(Sl Gate)) (zar:(Sl straight)) (zam:(Sl Gate)) (zas:(Sl straight)) (zbF:Int) (zbG:Int) (zbo:Int) (zbp:Int) (zaC:Int) (zaD:Int) (zz1:Int) (zgz:Int) (zfP:Bool):Bool :=
  (cond zfP
 (zmf P7 low high zal zar zam zas zaC zaD zz1 zgz (decide ((s69 (⟨zaC,zaD⟩:Frac) (⟨zbo,zbp⟩:Frac))≤(0:Int))) zbo zbp)
 (zmf P7 low high zal zar zam zas zaC zaD zz1 zgz (decide ((s69 (⟨zaC,zaD⟩:Frac) (⟨zbF,zbG⟩:Frac))≤(0:Int))) zbF zbG))
theorem zz2 (hX7:znP K low high zal zar zam zas X7 P7 S7) (hs:zrQ P7 low high zal zar zam zas zbF zbG zbo zbp zaC zaD zz1 zgz zfP=true) (hk:K (e19 (zrP S7 low high zal zar zam zas zbF zbG zbo zbp zaC zaD zz1 zgz zfP))):z19 K [1,0,1,1,1,1,1,1,1,1,0,1,0,0,1,1,0,0,1,1,1,1,1,0,1] [X7] ⟨[(2,zI low),(3,zI high),(9,zp 9 0),(10,zp 10 0),(12,zp 12 0),(13,zp 13 0),(14,zp 14 0),(15,zp 15 0),(16,zp 16 0),(17,zI (w64 (high+(1:Int)))),(18,zI zz1),(22,zp 22 0),(76,zI (w64 ((w64 (high - low))+(1:Int)))),(77,zI zgz),(106,zB zfP)],[(9,.box 25 (zm (zae (⟨(0:Int),(0:Int)⟩:Frac)))),(10,.box 25 (zm (zae (⟨(0:Int),(0:Int)⟩:Frac)))),(12,.box 25 (zm (zae (⟨(0:Int),(0:Int)⟩:Frac)))),(13,.box 104 (zm (zaS (⟨(⟨zal⟩:list),zar⟩:set)))),(14,.box 104 (zm (zaS (⟨(⟨zam⟩:list),zas⟩:set)))),(15,.box 25 (zm (zae (⟨zaC,zaD⟩:Frac)))),(16,.box 25 (zm (zae (⟨zbF,zbG⟩:Frac)))),(22,.box 25 (zm (zae (⟨zbo,zbp⟩:Frac))))],[]⟩:=zau (by kernel_rfl) (zc hs hk (fun hs hk=>(zrO hX7 hs hk)) (fun hs hk=>(zrO hX7 hs hk)))
def zmg (S7:Int→Int→Int→Int→Int→(Int×Frac×Frac×Int)) (low:Int) (high:Int) (zal:(Sl Gate)) (zar:(Sl straight)) (zam:(Sl Gate)) (zas:(Sl straight)) (zbF:Int) (zbG:Int) (zbo:Int) (zbp:Int) (zDu:Int) (zj7:Int) (zaC:Int) (zaD:Int):(Int×Frac×Frac×Int) :=
  (zrP S7 low high zal zar zam zas zbF zbG zbo zbp zaC zaD zDu zj7 (decide ((s69 (⟨zbo,zbp⟩:Frac) (⟨zbF,zbG⟩:Frac)) < (0:Int))))
def zmh (P7:Int→Int→Int→Int→Int→Bool) (low:Int) (high:Int) (zal:(Sl Gate)) (zar:(Sl straight)) (zam:(Sl Gate)) (zas:(Sl straight)) (zbF:Int) (zbG:Int) (zbo:Int) (zbp:Int) (zDu:Int) (zj7:Int) (zaC:Int) (zaD:Int):Bool :=
  (zrQ P7 low high zal zar zam zas zbF zbG zbo zbp zaC zaD zDu zj7 (decide ((s69 (⟨zbo,zbp⟩:Frac) (⟨zbF,zbG⟩:Frac)) < (0:Int))))
theorem zrR (hX7:znP K low high zal zar zam zas X7 P7 S7) (hs:zmh P7 low high zal zar zam zas zbF zbG zbo zbp zDu zj7 zaC zaD=true) (hk:K (e19 (zmg S7 low high zal zar zam zas zbF zbG zbo zbp zDu zj7 zaC zaD))):z19 K [1,0,1,1,1,1,1,1,1,1,0,1,0,0,1,1,0,0,1,1,1,1,1] [X7] ⟨[(2,zI low),(3,zI high),(9,zp 9 0),(10,zp 10 0),(12,zp 12 0),(13,zp 13 0),(14,zp 14 0),(15,zp 15 0),(16,zp 16 0),(17,zI (w64 (high+(1:Int)))),(18,zI zDu),(20,zp 20 0),(22,zp 22 0),(76,zI (w64 ((w64 (high - low))+(1:Int)))),(77,zI zj7)],[(9,.box 25 (zm (zae (⟨(0:Int),(0:Int)⟩:Frac)))),(10,.box 25 (zm (zae (⟨(0:Int),(0:Int)⟩:Frac)))),(12,.box 25 (zm (zae (⟨(0:Int),(0:Int)⟩:Frac)))),(13,.box 104 (zm (zaS (⟨(⟨zal⟩:list),zar⟩:set)))),(14,.box 104 (zm (zaS (⟨(⟨zam⟩:list),zas⟩:set)))),(15,.box 25 (zm (zae (⟨zaC,zaD⟩:Frac)))),(16,.box 25 (zm (zae (⟨zbF,zbG⟩:Frac)))),(20,.box 25 (zm (zae (⟨zbF,zbG⟩:Frac)))),(22,.box 25 (zm (zae (⟨zbo,zbp⟩:Frac))))],[]⟩:=zau (by kernel_rfl) (zz2 hX7 hs hk)
def zrS (S7:Int→Int→Int→Int→Int→(Int×Frac×Frac×Int)) (low:Int) (high:Int) (zal:(Sl Gate)) (zar:(Sl straight)) (zam:(Sl Gate)) (zas:(Sl straight)) (zdC:Int) (zdD:Int) (zbF:Int) (zbG:Int) (zdb:Int) (zdc:Int) (zbo:Int) (zbp:Int) (zz0:Int) (zgy:Int) (zfO:Bool):(Int×Frac×Frac×Int) :=
  (cond zfO
 (zmg S7 low high zal zar zam zas zbF zbG zbo zbp zz0 zgy zdb zdc)
 (zmg S7 low high zal zar zam zas zbF zbG zbo zbp zz0 zgy zdC zdD))
def zrT (P7:Int→Int→Int→Int→Int→Bool) (low:Int) (high:Int) (zal:(Sl Gate)) (zar:(Sl straight)) (zam:(Sl Gate)) (zas:(Sl straight)) (zdC:Int) (zdD:Int) (zbF:Int) (zbG:Int) (zdb:Int) (zdc:Int) (zbo:Int) (zbp:Int) (zz0:Int) (zgy:Int) (zfO:Bool):Bool :=
  (cond zfO
 (zmh P7 low high zal zar zam zas zbF zbG zbo zbp zz0 zgy zdb zdc)
 (zmh P7 low high zal zar zam zas zbF zbG zbo zbp zz0 zgy zdC zdD))
theorem zz3 (hX7:znP K low high zal zar zam zas X7 P7 S7) (hs:zrT P7 low high zal zar zam zas zdC zdD zbF zbG zdb zdc zbo zbp zz0 zgy zfO=true) (hk:K (e19 (zrS S7 low high zal zar zam zas zdC zdD zbF zbG zdb zdc zbo zbp zz0 zgy zfO))):z19 K [1,0,1,1,1,1,1,1,1,1,0,1,0,0,1,1,0,0,1,1,1,1,0,1] [X7] ⟨[(2,zI low),(3,zI high),(9,zp 9 0),(10,zp 10 0),(12,zp 12 0),(13,zp 13 0),(14,zp 14 0),(15,zp 15 0),(16,zp 16 0),(17,zI (w64 (high+(1:Int)))),(18,zI zz0),(20,zp 20 0),(21,zp 21 0),(22,zp 22 0),(76,zI (w64 ((w64 (high - low))+(1:Int)))),(77,zI zgy),(101,zB zfO)],[(9,.box 25 (zm (zae (⟨(0:Int),(0:Int)⟩:Frac)))),(10,.box 25 (zm (zae (⟨(0:Int),(0:Int)⟩:Frac)))),(12,.box 25 (zm (zae (⟨(0:Int),(0:Int)⟩:Frac)))),(13,.box 104 (zm (zaS (⟨(⟨zal⟩:list),zar⟩:set)))),(14,.box 104 (zm (zaS (⟨(⟨zam⟩:list),zas⟩:set)))),(15,.box 25 (zm (zae (⟨zdC,zdD⟩:Frac)))),(16,.box 25 (zm (zae (⟨zbF,zbG⟩:Frac)))),(20,.box 25 (zm (zae (⟨zbF,zbG⟩:Frac)))),(21,.box 25 (zm (zae (⟨zdb,zdc⟩:Frac)))),(22,.box 25 (zm (zae (⟨zbo,zbp⟩:Frac))))],[]⟩:=zau (by kernel_rfl) (zc hs hk (fun hs hk=>(zrR hX7 hs hk)) (fun hs hk=>(zrR hX7 hs hk)))
def zrU (S7:Int→Int→Int→Int→Int→(Int×Frac×Frac×Int)) (low:Int) (high:Int) (zal:(Sl Gate)) (zar:(Sl straight)) (zam:(Sl Gate)) (zas:(Sl straight)) (zdC:Int) (zdD:Int) (zbF:Int) (zbG:Int) (zgH:Int) (zj4:Int) (zeQ:Int) (zeR:Int) (zj5:Int) (zj6:Int) (zdb:Int) (zdc:Int) (zbo:Int) (zbp:Int):(Int×Frac×Frac×Int) :=
  (zrS S7 low high zal zar zam zas zdC zdD zbF zbG zdb zdc zbo zbp zgH zj4 (decide ((s69 (⟨zdb,zdc⟩:Frac) (⟨zdC,zdD⟩:Frac)) > (0:Int))))
def zrV (P7:Int→Int→Int→Int→Int→Bool) (low:Int) (high:Int) (zal:(Sl Gate)) (zar:(Sl straight)) (zam:(Sl Gate)) (zas:(Sl straight)) (zdC:Int) (zdD:Int) (zbF:Int) (zbG:Int) (zgH:Int) (zj4:Int) (zeQ:Int) (zeR:Int) (zj5:Int) (zj6:Int) (zdb:Int) (zdc:Int) (zbo:Int) (zbp:Int):Bool :=
  (zrT P7 low high zal zar zam zas zdC zdD zbF zbG zdb zdc zbo zbp zgH zj4 (decide ((s69 (⟨zdb,zdc⟩:Frac) (⟨zdC,zdD⟩:Frac)) > (0:Int))))
theorem zz4 (hX7:znP K low high zal zar zam zas X7 P7 S7) (hs:zrV P7 low high zal zar zam zas zdC zdD zbF zbG zgH zj4 zeQ zeR zj5 zj6 zdb zdc zbo zbp=true) (hk:K (e19 (zrU S7 low high zal zar zam zas zdC zdD zbF zbG zgH zj4 zeQ zeR zj5 zj6 zdb zdc zbo zbp))):z19 K [1,0,1,1,1,1,1,1,1,1,0,1,0,0,1,1,0,0,1,1,1] [X7] ⟨[(2,zI low),(3,zI high),(9,zp 9 0),(10,zp 10 0),(12,zp 12 0),(13,zp 13 0),(14,zp 14 0),(15,zp 15 0),(16,zp 16 0),(17,zI (w64 (high+(1:Int)))),(18,zI zgH),(19,zp 19 0),(20,zp 20 0),(21,zp 21 0),(22,zp 22 0),(76,zI (w64 ((w64 (high - low))+(1:Int)))),(77,zI zj4)],[(9,.box 25 (zm (zae (⟨(0:Int),(0:Int)⟩:Frac)))),(10,.box 25 (zm (zae (⟨(0:Int),(0:Int)⟩:Frac)))),(12,.box 25 (zm (zae (⟨(0:Int),(0:Int)⟩:Frac)))),(13,.box 104 (zm (zaS (⟨(⟨zal⟩:list),zar⟩:set)))),(14,.box 104 (zm (zaS (⟨(⟨zam⟩:list),zas⟩:set)))),(15,.box 25 (zm (zae (⟨zeQ,zeR⟩:Frac)))),(16,.box 25 (zm (zae (⟨zj5,zj6⟩:Frac)))),(19,.box 25 (zm (zae (⟨zdC,zdD⟩:Frac)))),(20,.box 25 (zm (zae (⟨zbF,zbG⟩:Frac)))),(21,.box 25 (zm (zae (⟨zdb,zdc⟩:Frac)))),(22,.box 25 (zm (zae (⟨zbo,zbp⟩:Frac))))],[]⟩:=zau (by kernel_rfl) (zz3 hX7 hs hk)
def zvr (S7:Int→Int→Int→Int→Int→(Int×Frac×Frac×Int)) (low:Int) (high:Int) (zal:(Sl Gate)) (zar:(Sl straight)) (zam:(Sl Gate)) (zas:(Sl straight)) (iv8:Int) (zpo:Int) (zeo:Int) (zep:Int) (zj2:Int) (zj3:Int) (zdC:Int) (zdD:Int) (zbF:Int) (zbG:Int):(Int×Frac×Frac×Int) :=
  (zrU S7 low high zal zar zam zas zdC zdD zbF zbG iv8 zpo zeo zep zj2 zj3 (((s68 (⟨(⟨zam⟩:list),zas⟩:set) (w64 (low+iv8))).1).Num) (((s68 (⟨(⟨zam⟩:list),zas⟩:set) (w64 (low+iv8))).1).Den) (((s68 (⟨(⟨zam⟩:list),zas⟩:set) (w64 (low+iv8))).2).Num) (((s68 (⟨(⟨zam⟩:list),zas⟩:set) (w64 (low+iv8))).2).Den))
def zvs (P7:Int→Int→Int→Int→Int→Bool) (low:Int) (high:Int) (zal:(Sl Gate)) (zar:(Sl straight)) (zam:(Sl Gate)) (zas:(Sl straight)) (iv8:Int) (zpo:Int) (zeo:Int) (zep:Int) (zj2:Int) (zj3:Int) (zdC:Int) (zdD:Int) (zbF:Int) (zbG:Int):Bool :=
  (decide ((p68 (⟨(⟨zam⟩:list),zas⟩:set) (w64 (low+iv8))=true)) &&
 (zrV P7 low high zal zar zam zas zdC zdD zbF zbG iv8 zpo zeo zep zj2 zj3 (((s68 (⟨(⟨zam⟩:list),zas⟩:set) (w64 (low+iv8))).1).Num) (((s68 (⟨(⟨zam⟩:list),zas⟩:set) (w64 (low+iv8))).1).Den) (((s68 (⟨(⟨zam⟩:list),zas⟩:set) (w64 (low+iv8))).2).Num) (((s68 (⟨(⟨zam⟩:list),zas⟩:set) (w64 (low+iv8))).2).Den)))
theorem zDv (hX7:znP K low high zal zar zam zas X7 P7 S7) (hs:zvs P7 low high zal zar zam zas iv8 zpo zeo zep zj2 zj3 zdC zdD zbF zbG=true) (hk:K (e19 (zvr S7 low high zal zar zam zas iv8 zpo zeo zep zj2 zj3 zdC zdD zbF zbG))):z19 K [1,0,1,1,1,1,1,1,1,1,0,1,0,0,1,1,0,0,1,1] [X7] ⟨[(2,zI low),(3,zI high),(9,zp 9 0),(10,zp 10 0),(12,zp 12 0),(13,zp 13 0),(14,zp 14 0),(15,zp 15 0),(16,zp 16 0),(17,zI (w64 (high+(1:Int)))),(18,zI iv8),(19,zp 19 0),(20,zp 20 0),(76,zI (w64 ((w64 (high - low))+(1:Int)))),(77,zI zpo)],[(9,.box 25 (zm (zae (⟨(0:Int),(0:Int)⟩:Frac)))),(10,.box 25 (zm (zae (⟨(0:Int),(0:Int)⟩:Frac)))),(12,.box 25 (zm (zae (⟨(0:Int),(0:Int)⟩:Frac)))),(13,.box 104 (zm (zaS (⟨(⟨zal⟩:list),zar⟩:set)))),(14,.box 104 (zm (zaS (⟨(⟨zam⟩:list),zas⟩:set)))),(15,.box 25 (zm (zae (⟨zeo,zep⟩:Frac)))),(16,.box 25 (zm (zae (⟨zj2,zj3⟩:Frac)))),(19,.box 25 (zm (zae (⟨zdC,zdD⟩:Frac)))),(20,.box 25 (zm (zae (⟨zbF,zbG⟩:Frac))))],[]⟩:=zau (by kernel_rfl) (zat hs fun hc hs=>And.intro (And.intro (zE enc_55 3 zam.get) (And.intro (zE zah 3 zas.get) hc)) (zz4 hX7 hs hk))
def zvt (low:Int) (high:Int) (zal:(Sl Gate)) (zar:(Sl straight)) (zam:(Sl Gate)) (zas:(Sl straight)) (S7:Int→Int→Int→Int→Int→(Int×Frac×Frac×Int)) (zcs:Int) (zbx:Int) (zby:Int) (zcG:Int) (zcH:Int):(Int×Frac×Frac×Int) :=
  (cond (decide (zcs < (w64 ((w64 (high - low)) + (1:Int)))))
 (zvr S7 low high zal zar zam zas zcs zcs zbx zby zcG zcH (((s68 (⟨(⟨zal⟩:list),zar⟩:set) (w64 (low+zcs))).1).Num) (((s68 (⟨(⟨zal⟩:list),zar⟩:set) (w64 (low+zcs))).1).Den) (((s68 (⟨(⟨zal⟩:list),zar⟩:set) (w64 (low+zcs))).2).Num) (((s68 (⟨(⟨zal⟩:list),zar⟩:set) (w64 (low+zcs))).2).Den))
 (zpp high (w64 (high+(1:Int))) zbx zby zcG zcH))
def zvu (low:Int) (high:Int) (zal:(Sl Gate)) (zar:(Sl straight)) (zam:(Sl Gate)) (zas:(Sl straight)) (P7:Int→Int→Int→Int→Int→Bool) (zcs:Int) (zbx:Int) (zby:Int) (zcG:Int) (zcH:Int):Bool :=
  (cond (decide (zcs < (w64 ((w64 (high - low)) + (1:Int)))))
 (decide ((p68 (⟨(⟨zal⟩:list),zar⟩:set) (w64 (low+zcs))=true)) &&
 (zvs P7 low high zal zar zam zas zcs zcs zbx zby zcG zcH (((s68 (⟨(⟨zal⟩:list),zar⟩:set) (w64 (low+zcs))).1).Num) (((s68 (⟨(⟨zal⟩:list),zar⟩:set) (w64 (low+zcs))).1).Den) (((s68 (⟨(⟨zal⟩:list),zar⟩:set) (w64 (low+zcs))).2).Num) (((s68 (⟨(⟨zal⟩:list),zar⟩:set) (w64 (low+zcs))).2).Den)))
 true)
def zvv (low:Int) (high:Int) (zal:(Sl Gate)) (zar:(Sl straight)) (zam:(Sl Gate)) (zas:(Sl straight)):Nat→Int→Int→Int→Int→Int→(Int×Frac×Frac×Int):=lpO (fun _ _ _ _ _=>default) (zvt low high zal zar zam zas)
def zvw (low:Int) (high:Int) (zal:(Sl Gate)) (zar:(Sl straight)) (zam:(Sl Gate)) (zas:(Sl straight)):Nat→Int→Int→Int→Int→Int→Bool:=lpO (fun _ _ _ _ _=>false) (zvu low high zal zar zam zas)
def zvx (low:Int) (high:Int) (zal:(Sl Gate)) (zar:(Sl straight)) (zam:(Sl Gate)) (zas:(Sl straight)) (zcs:Int) (zbx:Int) (zby:Int) (zcG:Int) (zcH:Int):(Int×Frac×Frac×Int):=zvv low high zal zar zam zas Fuel zcs zbx zby zcG zcH
def zvy (low:Int) (high:Int) (zal:(Sl Gate)) (zar:(Sl straight)) (zam:(Sl Gate)) (zas:(Sl straight)) (zcs:Int) (zbx:Int) (zby:Int) (zcG:Int) (zcH:Int):Bool:=zvw low high zal zar zam zas Fuel zcs zbx zby zcG zcH
theorem zDw (hs:zvy low high zal zar zam zas zcs zbx zby zcG zcH=true) (hk:K (e19 (zvx low high zal zar zam zas zcs zbx zby zcG zcH))):z19 K [1,0,1,1,1,1,1,1,1,1,0,1,0] [] (zBf low high zal zar zam zas zcs zbx zby zcG zcH) :=
  zl (fun X=>z19 K [1,0,1,1,1,1,1,1,1,1,0,1,0,0] [X]) (by kernel_rfl) fun X7 hX =>
  (show ∀ k, znP K low high zal zar zam zas X7 (zvw low high zal zar zam zas k) (zvv low high zal zar zam zas k) from zdJ _ _ (zvu low high zal zar zam zas) (zvt low high zal zar zam zas) (znP K low high zal zar zam zas X7)
 (by intro _ _ _ _ _ hs;exact absurd hs Bool.false_ne_true)
 (by intro P7 S7 hX7 zcs zbx zby zcG zcH hs hk;exact hX _ (zau (by kernel_rfl) (zc hs hk (fun hs hk=>(zat hs fun hc hs=>And.intro (And.intro (zE enc_55 3 zal.get) (And.intro (zE zah 3 zar.get) hc)) (zDv hX7 hs hk))) (fun hs hk=>(zvq hk)))))) _ hs hk
def zvz (low:Int) (high:Int) (zal:(Sl Gate)) (zar:(Sl straight)) (zam:(Sl Gate)) (zas:(Sl straight)):(Int×Frac×Frac×Int) :=
  (zvx low high zal zar zam zas (0:Int) (0:Int) (0:Int) (0:Int) (0:Int))
def zvA (low:Int) (high:Int) (zal:(Sl Gate)) (zar:(Sl straight)) (zam:(Sl Gate)) (zas:(Sl straight)):Bool :=
  (zvy low high zal zar zam zas (0:Int) (0:Int) (0:Int) (0:Int) (0:Int))
theorem zDx (hs:zvA low high zal zar zam zas=true) (hk:K (e19 (zvz low high zal zar zam zas))):z19 K [1,0,1,1,1,1,1] [] ⟨[(2,zI low),(3,zI high),(9,zp 9 0),(10,zp 10 0),(12,zp 12 0),(13,zp 13 0),(14,zp 14 0)],[(9,.box 25 (zm (zae (⟨(0:Int),(0:Int)⟩:Frac)))),(10,.box 25 (zm (zae (⟨(0:Int),(0:Int)⟩:Frac)))),(12,.box 25 (zm (zae (⟨(0:Int),(0:Int)⟩:Frac)))),(13,.box 104 (zm (zaS (⟨(⟨zal⟩:list),zar⟩:set)))),(14,.box 104 (zm (zaS (⟨(⟨zam⟩:list),zas⟩:set))))],[]⟩:=zau (by kernel_rfl) (zDw hs hk)
def zpq (low:Int) (high:Int) (zal:(Sl Gate)) (zar:(Sl straight)) (zam:(Sl Gate)) (zas:(Sl straight)) (zpn:Bool):(Int×Frac×Frac×Int) :=
  (cond zpn
 ((0:Int),(⟨(0:Int),(0:Int)⟩:Frac),(⟨(0:Int),(0:Int)⟩:Frac),(6:Int))
 (zvz low high zal zar zam zas))
def zpr (low:Int) (high:Int) (zal:(Sl Gate)) (zar:(Sl straight)) (zam:(Sl Gate)) (zas:(Sl straight)) (zpn:Bool):Bool :=
  (cond zpn
 true
 (zvA low high zal zar zam zas))
theorem zvB (hs:zpr low high zal zar zam zas zpn=true) (hk:K (e19 (zpq low high zal zar zam zas zpn))):z19 K [1,0,1,1,1,1,0,1] [] ⟨[(2,zI low),(3,zI high),(9,zp 9 0),(10,zp 10 0),(12,zp 12 0),(13,zp 13 0),(14,zp 14 0),(68,zB zpn)],[(9,.box 25 (zm (zae (⟨(0:Int),(0:Int)⟩:Frac)))),(10,.box 25 (zm (zae (⟨(0:Int),(0:Int)⟩:Frac)))),(12,.box 25 (zm (zae (⟨(0:Int),(0:Int)⟩:Frac)))),(13,.box 104 (zm (zaS (⟨(⟨zal⟩:list),zar⟩:set)))),(14,.box 104 (zm (zaS (⟨(⟨zam⟩:list),zas⟩:set))))],[]⟩:=zau (by kernel_rfl) (zc hs hk (fun hs hk=>hk) (fun hs hk=>(zDx hs hk)))
def zvC (low:Int) (high:Int) (zal:(Sl Gate)) (zar:(Sl straight)) (zam:(Sl Gate)) (zas:(Sl straight)):(Int×Frac×Frac×Int) :=
  (cond (s67 (⟨zal⟩ : list))
 (zpq low high zal zar zam zas true)
 (zpq low high zal zar zam zas (s67 (⟨zam⟩:list))))
def zvD (low:Int) (high:Int) (zal:(Sl Gate)) (zar:(Sl straight)) (zam:(Sl Gate)) (zas:(Sl straight)):Bool :=
  (decide ((p67 (⟨zal⟩:list)=true)) &&
 (cond (s67 (⟨zal⟩ : list))
 (zpr low high zal zar zam zas true)
 (decide ((p67 (⟨zam⟩:list)=true)) &&
 (zpr low high zal zar zam zas (s67 (⟨zam⟩:list))))))
theorem zDy (hs:zvD low high zal zar zam zas=true) (hk:K (e19 (zvC low high zal zar zam zas))):z19 K [1,0,1,1,1,1] [] ⟨[(2,zI low),(3,zI high),(9,zp 9 0),(10,zp 10 0),(12,zp 12 0),(13,zp 13 0),(14,zp 14 0)],[(9,.box 25 (zm (zae (⟨(0:Int),(0:Int)⟩:Frac)))),(10,.box 25 (zm (zae (⟨(0:Int),(0:Int)⟩:Frac)))),(12,.box 25 (zm (zae (⟨(0:Int),(0:Int)⟩:Frac)))),(13,.box 104 (zm (zaS (⟨(⟨zal⟩:list),zar⟩:set)))),(14,.box 104 (zm (zaS (⟨(⟨zam⟩:list),zas⟩:set))))],[]⟩:=zau (by kernel_rfl) (zat hs fun hc hs=>And.intro (And.intro (zE enc_55 3 zal.get) hc) (zc hs hk (fun hs hk=>(zvB hs hk)) (fun hs hk=>(zat hs fun hc hs=>And.intro (And.intro (zE enc_55 3 zam.get) hc) (zvB hs hk)))))
def zps (low:Int) (high:Int) (zal:(Sl Gate)) (zar:(Sl straight)) (zam:(Sl Gate)) (zas:(Sl straight)) (zpm:Bool):(Int×Frac×Frac×Int) :=
  (cond zpm
 ((0:Int),(⟨(0:Int),(0:Int)⟩:Frac),(⟨(0:Int),(0:Int)⟩:Frac),(5:Int))
 (zvC low high zal zar zam zas))
def zpt (low:Int) (high:Int) (zal:(Sl Gate)) (zar:(Sl straight)) (zam:(Sl Gate)) (zas:(Sl straight)) (zpm:Bool):Bool :=
  (cond zpm
 true
 (zvD low high zal zar zam zas))
theorem zvE (hs:zpt low high zal zar zam zas zpm=true) (hk:K (e19 (zps low high zal zar zam zas zpm))):z19 K [1,0,1,1,1,0,1] [] ⟨[(2,zI low),(3,zI high),(9,zp 9 0),(10,zp 10 0),(12,zp 12 0),(13,zp 13 0),(14,zp 14 0),(58,zB zpm)],[(9,.box 25 (zm (zae (⟨(0:Int),(0:Int)⟩:Frac)))),(10,.box 25 (zm (zae (⟨(0:Int),(0:Int)⟩:Frac)))),(12,.box 25 (zm (zae (⟨(0:Int),(0:Int)⟩:Frac)))),(13,.box 104 (zm (zaS (⟨(⟨zal⟩:list),zar⟩:set)))),(14,.box 104 (zm (zaS (⟨(⟨zam⟩:list),zas⟩:set))))],[]⟩:=zau (by kernel_rfl) (zc hs hk (fun hs hk=>hk) (fun hs hk=>(zDy hs hk)))
def zvF (low:Int) (high:Int) (zal:(Sl Gate)) (zar:(Sl straight)) (zam:(Sl Gate)) (zas:(Sl straight)):(Int×Frac×Frac×Int) :=
  (cond (!(s66 (⟨(⟨zal⟩ : list), zar⟩ : set)))
 (zps low high zal zar zam zas true)
 (zps low high zal zar zam zas (!(s66 (⟨(⟨zam⟩:list),zas⟩:set)))))
def zvG (low:Int) (high:Int) (zal:(Sl Gate)) (zar:(Sl straight)) (zam:(Sl Gate)) (zas:(Sl straight)):Bool :=
  (decide ((p66 (⟨(⟨zal⟩:list),zar⟩:set)=true)) &&
 (cond (!(s66 (⟨(⟨zal⟩ : list), zar⟩ : set)))
 (zpt low high zal zar zam zas true)
 (decide ((p66 (⟨(⟨zam⟩:list),zas⟩:set)=true)) &&
 (zpt low high zal zar zam zas (!(s66 (⟨(⟨zam⟩:list),zas⟩:set)))))))
theorem zDz (hs:zvG low high zal zar zam zas=true) (hk:K (e19 (zvF low high zal zar zam zas))) (zDA:zvm=zg enc_55 zal) (zDB:zvn=zg zah zar) (zDC:zvo=zg enc_55 zam) (zDD:zvp=zg zah zas):z19 K [1,0,1,1,1] [] ⟨[(2,zI low),(3,zI high),(9,zp 9 0),(10,zp 10 0),(12,zp 12 0),(13,zp 13 0),(14,zp 14 0)],[(9,.box 25 (zm (zae (⟨(0:Int),(0:Int)⟩:Frac)))),(10,.box 25 (zm (zae (⟨(0:Int),(0:Int)⟩:Frac)))),(12,.box 25 (zm (zae (⟨(0:Int),(0:Int)⟩:Frac)))),(13,.box 104 [.p (.sl zal.len 3 zvm),.p (.sl zar.len 3 zvn)]),(14,.box 104 [.p (.sl zam.len 3 zvo),.p (.sl zas.len 3 zvp)])],[]⟩:=by subst zDA;subst zDB;subst zDC;subst zDD;exact zau (by kernel_rfl) (zat hs fun hc hs=>And.intro (And.intro (zE enc_55 3 zal.get) (And.intro (zE zah 3 zar.get) hc)) (zc hs hk (fun hs hk=>(zvE hs hk)) (fun hs hk=>(zat hs fun hc hs=>And.intro (And.intro (zE enc_55 3 zam.get) (And.intro (zE zah 3 zas.get) hc)) (zvE hs hk)))))
def zvH (a:(Sl Gate)) (b:(Sl Gate)) (low:Int) (high:Int):(Int×Frac×Frac×Int) :=
  (zvF low high ((s65 a).list.Gates) ((s65 a).corners) ((s65 b).list.Gates) ((s65 b).corners))
def zvI (a:(Sl Gate)) (b:(Sl Gate)) (low:Int) (high:Int):Bool :=
  (decide ((p65 a=true)) &&
 (decide ((p65 b=true)) &&
 (zvG low high ((s65 a).list.Gates) ((s65 a).corners) ((s65 b).list.Gates) ((s65 b).corners))))
theorem zDE (hs:zvI a b low high=true) (hk:K (e19 (zvH a b low high))):z19 K [1,0,1,1] [] ⟨[(0,zS enc_55 3 a),(1,zS enc_55 3 b),(2,zI low),(3,zI high),(9,zp 9 0),(10,zp 10 0),(12,zp 12 0)],[(9,.box 25 (zm (zae (⟨(0:Int),(0:Int)⟩:Frac)))),(10,.box 25 (zm (zae (⟨(0:Int),(0:Int)⟩:Frac)))),(12,.box 25 (zm (zae (⟨(0:Int),(0:Int)⟩:Frac))))],[]⟩:=zau (by kernel_rfl) (zat hs fun hc hs=>And.intro (And.intro (zE enc_55 3 a.get) hc) (zat hs fun hc hs=>And.intro (And.intro (zE enc_55 3 b.get) hc) (zDz hs hk rfl rfl rfl rfl)))
def zht (a:(Sl Gate)) (b:(Sl Gate)) (low:Int) (high:Int) (zpl:Bool):(Int×Frac×Frac×Int) :=
  (cond zpl
 ((0:Int),(⟨(0:Int),(0:Int)⟩:Frac),(⟨(0:Int),(0:Int)⟩:Frac),(2:Int))
 (zvH a b low high))
def zhu (a:(Sl Gate)) (b:(Sl Gate)) (low:Int) (high:Int) (zpl:Bool):Bool :=
  (cond zpl
 true
 (zvI a b low high))
theorem zj9 (hs:zhu a b low high zpl=true) (hk:K (e19 (zht a b low high zpl))):z19 K [1,0,1,0,1] [] ⟨[(0,zS enc_55 3 a),(1,zS enc_55 3 b),(2,zI low),(3,zI high),(9,zp 9 0),(10,zp 10 0),(12,zp 12 0),(44,zB zpl)],[(9,.box 25 (zm (zae (⟨(0:Int),(0:Int)⟩:Frac)))),(10,.box 25 (zm (zae (⟨(0:Int),(0:Int)⟩:Frac)))),(12,.box 25 (zm (zae (⟨(0:Int),(0:Int)⟩:Frac))))],[]⟩:=zau (by kernel_rfl) (zc hs hk (fun hs hk=>hk) (fun hs hk=>(zDE hs hk)))
def s19 (a:(Sl Gate)) (b:(Sl Gate)) (low:Int) (high:Int):(Int×Frac×Frac×Int) :=
  (cond (decide (low < (-100000:Int)))
 (zht a b low high true)
 (cond (decide (low > high))
 (zht a b low high true)
 (cond (decide (high > (200000:Int)))
 (zht a b low high true)
 (cond (!(s64 a))
 (zht a b low high true)
 (zht a b low high (!(s64 b)))))))
def p19 (a:(Sl Gate)) (b:(Sl Gate)) (low:Int) (high:Int):Bool :=
  (cond (decide (low < (-100000:Int)))
 (zhu a b low high true)
 (cond (decide (low > high))
 (zhu a b low high true)
 (cond (decide (high > (200000:Int)))
 (zhu a b low high true)
 (decide ((p64 a=true)) &&
 (cond (!(s64 a))
 (zhu a b low high true)
 (decide ((p64 b=true)) &&
 (zhu a b low high (!(s64 b)))))))))
end
theorem q19 (a:(Sl Gate)) (b:(Sl Gate)) (low:Int) (high:Int) (K:List PA→Prop) (hs:p19 a b low high=true) (hk:K (e19 (s19 a b low high))):vcFun Try.prog G19 zDt 19 [.one (.sl a.len 3 (fun i=>enc_55 (a.get i))),.one (.sl b.len 3 (fun i=>enc_55 (b.get i))),.one (.int .i64 low),.one (.int .i64 high)] K :=
  zau (by kernel_rfl) (zc hs hk (fun hs hk=>(zj9 hs hk)) (fun hs hk=>(zc hs hk (fun hs hk=>(zj9 hs hk)) (fun hs hk=>(zc hs hk (fun hs hk=>(zj9 hs hk)) (fun hs hk=>(zat hs fun hc hs=>And.intro (And.intro (zE enc_55 3 a.get) hc) (zc hs hk (fun hs hk=>(zj9 hs hk)) (fun hs hk=>(zat hs fun hc hs=>And.intro (And.intro (zE enc_55 3 b.get) hc) (zj9 hs hk)))))))))))
def zDF : List PA → COut
  | [.one (.sl a0_n a0_s a0_g),.one (.sl a1_n a1_s a1_g),.one (.int .i64 a2),.one (.int .i64 a3)]=>.det (IsE enc_55 3 a0_s a0_g∧IsE enc_55 3 a1_s a1_g∧p19 (⟨a0_n,zad a0_g⟩:(Sl Gate)) (⟨a1_n,zad a1_g⟩:(Sl Gate)) a2 a3=true) [.one (.int .i64 ((s19 (⟨a0_n,zad a0_g⟩:(Sl Gate)) (⟨a1_n,zad a1_g⟩:(Sl Gate)) a2 a3).1)),.agg [.int .i64 (((s19 (⟨a0_n,zad a0_g⟩:(Sl Gate)) (⟨a1_n,zad a1_g⟩:(Sl Gate)) a2 a3).2.1).Num),.int .i64 (((s19 (⟨a0_n,zad a0_g⟩:(Sl Gate)) (⟨a1_n,zad a1_g⟩:(Sl Gate)) a2 a3).2.1).Den)],.agg [.int .i64 (((s19 (⟨a0_n,zad a0_g⟩:(Sl Gate)) (⟨a1_n,zad a1_g⟩:(Sl Gate)) a2 a3).2.2.1).Num),.int .i64 (((s19 (⟨a0_n,zad a0_g⟩:(Sl Gate)) (⟨a1_n,zad a1_g⟩:(Sl Gate)) a2 a3).2.2.1).Den)],.one (.int .i64 ((s19 (⟨a0_n,zad a0_g⟩:(Sl Gate)) (⟨a1_n,zad a1_g⟩:(Sl Gate)) a2 a3).2.2.2))]
  | _=>.no
theorem zH6:zaf Try.prog 19:=⟨_,rfl,rfl,by kernel_rfl⟩
theorem zNR:Ok Try.prog 19 zDF:=zax zLa zH6 fun args K h=>by
  unfold zDF at h
  split at h
  · rename_i a0_n a0_s a0_g a1_n a1_s a1_g a2 a3
    obtain ⟨⟨⟨rfl,a0_f,rfl⟩,⟨rfl,a1_f,rfl⟩,hs⟩,hk⟩:=h
    try rw [zac a0_f] at hs
    try rw [zac a0_f] at hk
    try rw [zac a1_f] at hs
    try rw [zac a1_f] at hk
    exact ⟨(fun _ _=>[]),(fun _=>false),zDt,q19 (⟨a0_n,a0_f⟩:(Sl Gate)) (⟨a1_n,a1_f⟩:(Sl Gate)) a2 a3 K hs hk⟩
  · exact h.elim
abbrev T76:Tabs:=Tabs.nil
theorem zLb:TabsOk Try.prog T76:=TabsOk.nil
abbrev G76:Ctrs:=csm T76 (fun _ _=>[]) (fun _=>false)
def zH7:Ann:=⟨11,[(0,zK [1,2] [2]),(1,zK [3] [])],
 [],
 [],
 [],[]⟩
abbrev R76:=Bool
abbrev e76 (r:R76):List PA:=[.one (.bool r)]
section
variable {K:List PA→Prop} {c0:Int} {l_a0:list}
def s76 (c0:Int) (l_a0:list):Bool :=
  ((l_a0.Gates.get 0).Z == c0)
def p76 (c0:Int) (l_a0:list):Bool :=
  (decide ((0≤(0:Int)∧(0:Int) < (l_a0.Gates.len:Int))) &&
 true)
end
theorem q76 (c0:Int) (l_a0:list) (K:List PA→Prop) (hs:p76 c0 l_a0=true) (hk:K (e76 (s76 c0 l_a0))):vcFun Try.prog G76 zH7 76 [.agg (zb2 l_a0),.one (.fp (enc_3 c0) 0)] K :=
  zau (by kernel_rfl) (zat hs fun hc hs=>And.intro hc hk)
def zDG : List PA → COut
  | [.agg [.sl a0_Gates_n a0_Gates_s a0_Gates_g],.one (.fp [.int .i64 c0] 0)]=>.det (IsE enc_55 3 a0_Gates_s a0_Gates_g∧p76 c0 (⟨(⟨a0_Gates_n,zad a0_Gates_g⟩:(Sl Gate))⟩:list)=true) [.one (.bool (s76 c0 (⟨(⟨a0_Gates_n,zad a0_Gates_g⟩:(Sl Gate))⟩:list)))]
  | _=>.no
theorem zH8:zaf Try.prog 76:=⟨_,rfl,rfl,by kernel_rfl⟩
theorem zNS:Ok Try.prog 76 zDG:=zax zLb zH8 fun args K h=>by
  unfold zDG at h
  split at h
  · rename_i a0_Gates_n a0_Gates_s a0_Gates_g c0
    obtain ⟨⟨⟨rfl,a0_Gates_f,rfl⟩,hs⟩,hk⟩:=h
    try rw [zac a0_Gates_f] at hs
    try rw [zac a0_Gates_f] at hk
    exact ⟨(fun _ _=>[]),(fun _=>false),zH7,q76 c0 (⟨(⟨a0_Gates_n,a0_Gates_f⟩:(Sl Gate))⟩:list) K hs hk⟩
  · exact h.elim
abbrev T77:Tabs:=Tabs.nil
theorem zLc:TabsOk Try.prog T77:=TabsOk.nil
abbrev G77:Ctrs:=csm T77 (fun _ _=>[]) (fun _=>false)
def zH9:Ann:=⟨3,[(0,zK [] []),(1,zK [2] [])],
 [],
 [],
 [],[]⟩
abbrev R77:=Bool
abbrev e77 (r:R77):List PA:=[.one (.bool r)]
section
variable {K:List PA→Prop} {a0_a0:list}
def s77 (a0_a0:list):Bool :=
  false
end
theorem q77 (a0_a0:list) (K:List PA→Prop) (hk:K (e77 (s77 a0_a0))):vcFun Try.prog G77 zH9 77 [.agg (zb2 a0_a0)] K :=
  zau (by kernel_rfl) hk
def zDH : List PA → COut
  | [.agg [.sl a0_Gates_n a0_Gates_s a0_Gates_g]]=>.det (IsE enc_55 3 a0_Gates_s a0_Gates_g) [.one (.bool (s77 (⟨(⟨a0_Gates_n,zad a0_Gates_g⟩:(Sl Gate))⟩:list)))]
  | _=>.no
theorem zIa:zaf Try.prog 77:=⟨_,rfl,rfl,by kernel_rfl⟩
theorem zNT:Ok Try.prog 77 zDH:=zax zLc zIa fun args K h=>by
  unfold zDH at h
  split at h
  · rename_i a0_Gates_n a0_Gates_s a0_Gates_g
    obtain ⟨⟨rfl,a0_Gates_f,rfl⟩,hk⟩:=h
    try rw [zac a0_Gates_f] at hk
    exact ⟨(fun _ _=>[]),(fun _=>false),zH9,q77 (⟨(⟨a0_Gates_n,a0_Gates_f⟩:(Sl Gate))⟩:list) K hk⟩
  · exact h.elim
abbrev T88:Tabs:=Tabs.nil
theorem zLd:TabsOk Try.prog T88:=TabsOk.nil
abbrev G88:Ctrs:=csm T88 (fun _ _=>[]) (fun _=>false)
def zIb:Ann:=⟨3,[(0,zK [] []),(1,zK [2] [])],
 [],
 [],
 [],[]⟩
abbrev R88:=Bool
abbrev e88 (r:R88):List PA:=[.one (.bool r)]
section
variable {K:List PA→Prop} {a0_a0:list}
def s88 (a0_a0:list):Bool :=
  true
end
theorem q88 (a0_a0:list) (K:List PA→Prop) (hk:K (e88 (s88 a0_a0))):vcFun Try.prog G88 zIb 88 [.agg (zb2 a0_a0)] K :=
  zau (by kernel_rfl) hk
def zDI : List PA → COut
  | [.agg [.sl a0_Gates_n a0_Gates_s a0_Gates_g]]=>.det (IsE enc_55 3 a0_Gates_s a0_Gates_g) [.one (.bool (s88 (⟨(⟨a0_Gates_n,zad a0_Gates_g⟩:(Sl Gate))⟩:list)))]
  | _=>.no
theorem zIc:zaf Try.prog 88:=⟨_,rfl,rfl,by kernel_rfl⟩
theorem zNU:Ok Try.prog 88 zDI:=zax zLd zIc fun args K h=>by
  unfold zDI at h
  split at h
  · rename_i a0_Gates_n a0_Gates_s a0_Gates_g
    obtain ⟨⟨rfl,a0_Gates_f,rfl⟩,hk⟩:=h
    try rw [zac a0_Gates_f] at hk
    exact ⟨(fun _ _=>[]),(fun _=>false),zIb,q88 (⟨(⟨a0_Gates_n,a0_Gates_f⟩:(Sl Gate))⟩:list) K hk⟩
  · exact h.elim
abbrev T75:Tabs:=(((((((Tabs.nil.addF 64 zoO).addF 65 zuE).addF 66 zuH).addF 67 zoU).addF 76 zDG).addF 77 zDH).addF 88 zDI)
theorem zLe:TabsOk Try.prog T75:=(((((((TabsOk.nil.addF zHd).addF zKN).addF zKQ).addF zHr).addF zNS).addF zNT).addF zNU)
abbrev G75:Ctrs:=csm T75 (fun _ _=>[]) (fun _=>false)
def zDJ:Ann:=⟨31,[(0,zK [0,1,4] [4]),(1,zK [0,1,4,9] [4]),(2,zK [4,5] [4]),(3,zK [1,4,6] [4,6]),(4,zK [1,4,6,13] [4,6]),(5,zK [4,5] [4]),(6,zK [4,6,18] [4,6]),(7,zK [4,5] [4]),(8,zK [4,5] [4])],
 [],
 [(3,zK [0,1,4] [4])],
 [],[]⟩
abbrev R75:=(set×Int)
abbrev e75 (r:R75):List PA:=[.agg [.sl r.1.list.Gates.len 3 (fun i=>enc_55 (r.1.list.Gates.get i)),.sl r.1.corners.len 3 (fun i=>zah (r.1.corners.get i))],.one (.int .i64 r.2)]
@[irreducible] def z75:=ptF Try.prog G75 zDJ Try.f75
section
variable {K:List PA→Prop} {zaa:(Sl Gate)}
def zvJ (zaa:(Sl Gate)):(set×Int) :=
  (cond (!(s66 (s65 zaa)))
 ((⟨(⟨(⟨0,fun _=>default⟩:(Sl Gate))⟩:list),(⟨0,fun _=>default⟩:(Sl straight))⟩:set),(5:Int))
 (cond (s67 ((s65 zaa).list))
 (cond (!(s77 ((s65 zaa).list)))
 ((⟨(⟨(⟨0,fun _=>default⟩:(Sl Gate))⟩:list),(⟨0,fun _=>default⟩:(Sl straight))⟩:set),(6:Int))
 ((s65 zaa),(0:Int)))
 ((s65 zaa),(0:Int))))
def zvK (zaa:(Sl Gate)):Bool :=
  (decide ((p65 zaa=true)) &&
 (decide ((p66 (s65 zaa)=true)) &&
 (cond (!(s66 (s65 zaa)))
 true
 (decide ((p67 ((s65 zaa).list)=true)) &&
 true))))
theorem zDK (hs:zvK zaa=true) (hk:K (e75 (zvJ zaa))):z75 (Wk K) [1,1] [] ⟨[(0,zS enc_55 3 zaa),(1,zP (.fn 77 [] [])),(4,zp 4 0)],[(4,.box 104 [.p (.nils),.p (.nils)])],[]⟩:=zau (by kernel_rfl) (zat hs fun hc hs=>And.intro (And.intro (zE enc_55 3 zaa.get) hc) (zat hs fun hc hs=>And.intro (And.intro (zE enc_55 3 ((s65 zaa).list.Gates.get)) (And.intro (zE zah 3 ((s65 zaa).corners.get)) hc)) (zc hs hk (fun hs hk=>((wk hk (zc3 (.agg (zc3 (.nil _ _) (zc3 (.nil _ _) zgG))) (zc3 (.one (.rfl _)) zgG))):Wk K [.agg [.nils,.nils],.one (.int .i64 (5:Int))])) (fun hs hk=>(zat hs fun hc hs=>And.intro (And.intro (zE enc_55 3 ((s65 zaa).list.Gates.get)) hc) (zt hk (fun hk=>(And.intro (zE enc_55 3 ((s65 zaa).list.Gates.get)) (zt hk (fun hk=>((wk hk (zc3 (.agg (zc3 (.nil _ _) (zc3 (.nil _ _) zgG))) (zc3 (.one (.rfl _)) zgG))):Wk K [.agg [.nils,.nils],.one (.int .i64 (6:Int))])) (fun hk=>((zdA hk):Wk K [.agg [.sl ((s65 zaa).list.Gates.len) 3 (fun i=>enc_55 ((s65 zaa).list.Gates.get i)),.sl ((s65 zaa).corners.len) 3 (fun i=>zah ((s65 zaa).corners.get i))],.one (.int .i64 (0:Int))]))))) (fun hk=>((zdA hk):Wk K [.agg [.sl ((s65 zaa).list.Gates.len) 3 (fun i=>enc_55 ((s65 zaa).list.Gates.get i)),.sl ((s65 zaa).corners.len) 3 (fun i=>zah ((s65 zaa).corners.get i))],.one (.int .i64 (0:Int))]))))))))
def s75 (zaa:(Sl Gate)):(set×Int) :=
  (cond (!(s64 zaa))
 ((⟨(⟨(⟨0,fun _=>default⟩:(Sl Gate))⟩:list),(⟨0,fun _=>default⟩:(Sl straight))⟩:set),(2:Int))
 (zvJ zaa))
def p75 (zaa:(Sl Gate)):Bool :=
  (decide ((p64 zaa=true)) &&
 (cond (!(s64 zaa))
 true
 (zvK zaa)))
end
theorem q75 (zaa:(Sl Gate)) (K:List PA→Prop) (hs:p75 zaa=true) (hk:K (e75 (s75 zaa))):vcFun Try.prog G75 zDJ 75 [.one (.sl zaa.len 3 (fun i=>enc_55 (zaa.get i))),.one (.fn 77 [] [])] (Wk K) :=
  zau (by kernel_rfl) (zat hs fun hc hs=>And.intro (And.intro (zE enc_55 3 zaa.get) hc) (zc hs hk (fun hs hk=>((wk hk (zc3 (.agg (zc3 (.nil _ _) (zc3 (.nil _ _) zgG))) (zc3 (.one (.rfl _)) zgG))):Wk K [.agg [.nils,.nils],.one (.int .i64 (2:Int))])) (fun hs hk=>(zDK hs hk))))
abbrev zMu:Ctrs:=csm T75 (fun _ _=>[]) (fun _=>false)
def zvL:Ann:=⟨31,[(0,zK [0,1,4] [4]),(1,zK [0,1,4,9] [4]),(2,zK [4,5] [4]),(3,zK [1,4,6] [4,6]),(4,zK [1,4,6,13] [4,6]),(5,zK [4,5] [4]),(6,zK [4,6,18] [4,6]),(7,zK [4,5] [4]),(8,zK [4,5] [4])],
 [],
 [(3,zK [0,1,4] [4])],
 [],[]⟩
abbrev zNV:=(set×Int)
abbrev zMv (r:zNV):List PA:=[.agg [.sl r.1.list.Gates.len 3 (fun i=>enc_55 (r.1.list.Gates.get i)),.sl r.1.corners.len 3 (fun i=>zah (r.1.corners.get i))],.one (.int .i64 r.2)]
@[irreducible] def z75a:=ptF Try.prog zMu zvL Try.f75
section
variable {K:List PA→Prop} {c0:Int} {zaa:(Sl Gate)}
def zrW (c0:Int) (zaa:(Sl Gate)):(set×Int) :=
  (cond (!(s66 (s65 zaa)))
 ((⟨(⟨(⟨0,fun _=>default⟩:(Sl Gate))⟩:list),(⟨0,fun _=>default⟩:(Sl straight))⟩:set),(5:Int))
 (cond (s67 ((s65 zaa).list))
 (cond (!(s76 c0 ((s65 zaa).list)))
 ((⟨(⟨(⟨0,fun _=>default⟩:(Sl Gate))⟩:list),(⟨0,fun _=>default⟩:(Sl straight))⟩:set),(6:Int))
 ((s65 zaa),(0:Int)))
 ((s65 zaa),(0:Int))))
def zrX (c0:Int) (zaa:(Sl Gate)):Bool :=
  (decide ((p65 zaa=true)) &&
 (decide ((p66 (s65 zaa)=true)) &&
 (cond (!(s66 (s65 zaa)))
 true
 (decide ((p67 ((s65 zaa).list)=true)) &&
 (cond (s67 ((s65 zaa).list))
 (decide ((p76 c0 ((s65 zaa).list)=true)) &&
 true)
 true)))))
theorem zz5 (hs:zrX c0 zaa=true) (hk:K (zMv (zrW c0 zaa))):z75a (Wk K) [1,1] [] ⟨[(0,zS enc_55 3 zaa),(1,zP (.fn 76 [] [.fp (enc_3 c0) 0])),(4,zp 4 0)],[(4,.box 104 [.p (.nils),.p (.nils)])],[]⟩:=zau (by kernel_rfl) (zat hs fun hc hs=>And.intro (And.intro (zE enc_55 3 zaa.get) hc) (zat hs fun hc hs=>And.intro (And.intro (zE enc_55 3 ((s65 zaa).list.Gates.get)) (And.intro (zE zah 3 ((s65 zaa).corners.get)) hc)) (zc hs hk (fun hs hk=>((wk hk (zc3 (.agg (zc3 (.nil _ _) (zc3 (.nil _ _) zgG))) (zc3 (.one (.rfl _)) zgG))):Wk K [.agg [.nils,.nils],.one (.int .i64 (5:Int))])) (fun hs hk=>(zat hs fun hc hs=>And.intro (And.intro (zE enc_55 3 ((s65 zaa).list.Gates.get)) hc) (zc hs hk (fun hs hk=>(zat hs fun hc hs=>And.intro (And.intro (zE enc_55 3 ((s65 zaa).list.Gates.get)) hc) (zt hk (fun hk=>((wk hk (zc3 (.agg (zc3 (.nil _ _) (zc3 (.nil _ _) zgG))) (zc3 (.one (.rfl _)) zgG))):Wk K [.agg [.nils,.nils],.one (.int .i64 (6:Int))])) (fun hk=>((zdA hk):Wk K [.agg [.sl ((s65 zaa).list.Gates.len) 3 (fun i=>enc_55 ((s65 zaa).list.Gates.get i)),.sl ((s65 zaa).corners.len) 3 (fun i=>zah ((s65 zaa).corners.get i))],.one (.int .i64 (0:Int))]))))) (fun hs hk=>((zdA hk):Wk K [.agg [.sl ((s65 zaa).list.Gates.len) 3 (fun i=>enc_55 ((s65 zaa).list.Gates.get i)),.sl ((s65 zaa).corners.len) 3 (fun i=>zah ((s65 zaa).corners.get i))],.one (.int .i64 (0:Int))]))))))))
def zsZ (c0:Int) (zaa:(Sl Gate)):(set×Int) :=
  (cond (!(s64 zaa))
 ((⟨(⟨(⟨0,fun _=>default⟩:(Sl Gate))⟩:list),(⟨0,fun _=>default⟩:(Sl straight))⟩:set),(2:Int))
 (zrW c0 zaa))
def zLf (c0:Int) (zaa:(Sl Gate)):Bool :=
  (decide ((p64 zaa=true)) &&
 (cond (!(s64 zaa))
 true
 (zrX c0 zaa)))
end
theorem zNW (c0:Int) (zaa:(Sl Gate)) (K:List PA→Prop) (hs:zLf c0 zaa=true) (hk:K (zMv (zsZ c0 zaa))):vcFun Try.prog zMu zvL 75 [.one (.sl zaa.len 3 (fun i=>enc_55 (zaa.get i))),.one (.fn 76 [] [.fp (enc_3 c0) 0])] (Wk K) :=
  zau (by kernel_rfl) (zat hs fun hc hs=>And.intro (And.intro (zE enc_55 3 zaa.get) hc) (zc hs hk (fun hs hk=>((wk hk (zc3 (.agg (zc3 (.nil _ _) (zc3 (.nil _ _) zgG))) (zc3 (.one (.rfl _)) zgG))):Wk K [.agg [.nils,.nils],.one (.int .i64 (2:Int))])) (fun hs hk=>(zz5 hs hk))))
abbrev zMw:Ctrs:=csm T75 (fun _ _=>[]) (fun _=>false)
def zvM:Ann:=⟨31,[(0,zK [0,1,4] [4]),(1,zK [0,1,4,9] [4]),(2,zK [4,5] [4]),(3,zK [1,4,6] [4,6]),(4,zK [1,4,6,13] [4,6]),(5,zK [4,5] [4]),(6,zK [4,6,18] [4,6]),(7,zK [4,5] [4]),(8,zK [4,5] [4])],
 [],
 [(3,zK [0,1,4] [4])],
 [],[]⟩
abbrev zNX:=(set×Int)
abbrev zMx (r:zNX):List PA:=[.agg [.sl r.1.list.Gates.len 3 (fun i=>enc_55 (r.1.list.Gates.get i)),.sl r.1.corners.len 3 (fun i=>zah (r.1.corners.get i))],.one (.int .i64 r.2)]
@[irreducible] def z75b:=ptF Try.prog zMw zvM Try.f75
section
variable {K:List PA→Prop} {zaa:(Sl Gate)}
def zrY (zaa:(Sl Gate)):(set×Int) :=
  (cond (!(s66 (s65 zaa)))
 ((⟨(⟨(⟨0,fun _=>default⟩:(Sl Gate))⟩:list),(⟨0,fun _=>default⟩:(Sl straight))⟩:set),(5:Int))
 (cond (s67 ((s65 zaa).list))
 (cond (!(s88 ((s65 zaa).list)))
 ((⟨(⟨(⟨0,fun _=>default⟩:(Sl Gate))⟩:list),(⟨0,fun _=>default⟩:(Sl straight))⟩:set),(6:Int))
 ((s65 zaa),(0:Int)))
 ((s65 zaa),(0:Int))))
def zrZ (zaa:(Sl Gate)):Bool :=
  (decide ((p65 zaa=true)) &&
 (decide ((p66 (s65 zaa)=true)) &&
 (cond (!(s66 (s65 zaa)))
 true
 (decide ((p67 ((s65 zaa).list)=true)) &&
 true))))
theorem zz6 (hs:zrZ zaa=true) (hk:K (zMx (zrY zaa))):z75b (Wk K) [1,1] [] ⟨[(0,zS enc_55 3 zaa),(1,zP (.fn 88 [] [])),(4,zp 4 0)],[(4,.box 104 [.p (.nils),.p (.nils)])],[]⟩:=zau (by kernel_rfl) (zat hs fun hc hs=>And.intro (And.intro (zE enc_55 3 zaa.get) hc) (zat hs fun hc hs=>And.intro (And.intro (zE enc_55 3 ((s65 zaa).list.Gates.get)) (And.intro (zE zah 3 ((s65 zaa).corners.get)) hc)) (zc hs hk (fun hs hk=>((wk hk (zc3 (.agg (zc3 (.nil _ _) (zc3 (.nil _ _) zgG))) (zc3 (.one (.rfl _)) zgG))):Wk K [.agg [.nils,.nils],.one (.int .i64 (5:Int))])) (fun hs hk=>(zat hs fun hc hs=>And.intro (And.intro (zE enc_55 3 ((s65 zaa).list.Gates.get)) hc) (zt hk (fun hk=>(And.intro (zE enc_55 3 ((s65 zaa).list.Gates.get)) (zt hk (fun hk=>((wk hk (zc3 (.agg (zc3 (.nil _ _) (zc3 (.nil _ _) zgG))) (zc3 (.one (.rfl _)) zgG))):Wk K [.agg [.nils,.nils],.one (.int .i64 (6:Int))])) (fun hk=>((zdA hk):Wk K [.agg [.sl ((s65 zaa).list.Gates.len) 3 (fun i=>enc_55 ((s65 zaa).list.Gates.get i)),.sl ((s65 zaa).corners.len) 3 (fun i=>zah ((s65 zaa).corners.get i))],.one (.int .i64 (0:Int))]))))) (fun hk=>((zdA hk):Wk K [.agg [.sl ((s65 zaa).list.Gates.len) 3 (fun i=>enc_55 ((s65 zaa).list.Gates.get i)),.sl ((s65 zaa).corners.len) 3 (fun i=>zah ((s65 zaa).corners.get i))],.one (.int .i64 (0:Int))]))))))))
def zGs (zaa:(Sl Gate)):(set×Int) :=
  (cond (!(s64 zaa))
 ((⟨(⟨(⟨0,fun _=>default⟩:(Sl Gate))⟩:list),(⟨0,fun _=>default⟩:(Sl straight))⟩:set),(2:Int))
 (zrY zaa))
def zMy (zaa:(Sl Gate)):Bool :=
  (decide ((p64 zaa=true)) &&
 (cond (!(s64 zaa))
 true
 (zrZ zaa)))
end
theorem zNY (zaa:(Sl Gate)) (K:List PA→Prop) (hs:zMy zaa=true) (hk:K (zMx (zGs zaa))):vcFun Try.prog zMw zvM 75 [.one (.sl zaa.len 3 (fun i=>enc_55 (zaa.get i))),.one (.fn 88 [] [])] (Wk K) :=
  zau (by kernel_rfl) (zat hs fun hc hs=>And.intro (And.intro (zE enc_55 3 zaa.get) hc) (zc hs hk (fun hs hk=>((wk hk (zc3 (.agg (zc3 (.nil _ _) (zc3 (.nil _ _) zgG))) (zc3 (.one (.rfl _)) zgG))):Wk K [.agg [.nils,.nils],.one (.int .i64 (2:Int))])) (fun hs hk=>(zz6 hs hk))))
def zz7 : List PA → COut
  | [.one (.sl a0_n a0_s a0_g),.one (.fn 77 [] [])]=>.det (IsE enc_55 3 a0_s a0_g∧p75 (⟨a0_n,zad a0_g⟩:(Sl Gate))=true) [.agg [.sl (((s75 (⟨a0_n,zad a0_g⟩:(Sl Gate))).1).list.Gates.len) 3 (fun i=>enc_55 (((s75 (⟨a0_n,zad a0_g⟩:(Sl Gate))).1).list.Gates.get i)),.sl (((s75 (⟨a0_n,zad a0_g⟩:(Sl Gate))).1).corners.len) 3 (fun i=>zah (((s75 (⟨a0_n,zad a0_g⟩:(Sl Gate))).1).corners.get i))],.one (.int .i64 ((s75 (⟨a0_n,zad a0_g⟩:(Sl Gate))).2))]
  | [.one (.sl a0_n a0_s a0_g),.one (.fn 76 [] [.fp [.int .i64 c0] 0])]=>.det (IsE enc_55 3 a0_s a0_g∧zLf c0 (⟨a0_n,zad a0_g⟩:(Sl Gate))=true) [.agg [.sl (((zsZ c0 (⟨a0_n,zad a0_g⟩:(Sl Gate))).1).list.Gates.len) 3 (fun i=>enc_55 (((zsZ c0 (⟨a0_n,zad a0_g⟩:(Sl Gate))).1).list.Gates.get i)),.sl (((zsZ c0 (⟨a0_n,zad a0_g⟩:(Sl Gate))).1).corners.len) 3 (fun i=>zah (((zsZ c0 (⟨a0_n,zad a0_g⟩:(Sl Gate))).1).corners.get i))],.one (.int .i64 ((zsZ c0 (⟨a0_n,zad a0_g⟩:(Sl Gate))).2))]
  | [.one (.sl a0_n a0_s a0_g),.one (.fn 88 [] [])]=>.det (IsE enc_55 3 a0_s a0_g∧zMy (⟨a0_n,zad a0_g⟩:(Sl Gate))=true) [.agg [.sl (((zGs (⟨a0_n,zad a0_g⟩:(Sl Gate))).1).list.Gates.len) 3 (fun i=>enc_55 (((zGs (⟨a0_n,zad a0_g⟩:(Sl Gate))).1).list.Gates.get i)),.sl (((zGs (⟨a0_n,zad a0_g⟩:(Sl Gate))).1).corners.len) 3 (fun i=>zah (((zGs (⟨a0_n,zad a0_g⟩:(Sl Gate))).1).corners.get i))],.one (.int .i64 ((zGs (⟨a0_n,zad a0_g⟩:(Sl Gate))).2))]
  | _=>.no
theorem zId:zaf Try.prog 75:=⟨_,rfl,rfl,by kernel_rfl⟩
theorem zMz:Ok Try.prog 75 zz7:=zfG zLe zId fun args K h=>by
  unfold zz7 at h
  split at h
  · rename_i a0_n a0_s a0_g
    obtain ⟨⟨⟨rfl,a0_f,rfl⟩,hs⟩,hk⟩:=h
    try rw [zac a0_f] at hs
    try rw [zac a0_f] at hk
    exact ⟨_,zex zeH _,(fun _ _=>[]),(fun _=>false),zDJ,q75 (⟨a0_n,a0_f⟩:(Sl Gate)) K hs hk⟩
  · rename_i a0_n a0_s a0_g c0
    obtain ⟨⟨⟨rfl,a0_f,rfl⟩,hs⟩,hk⟩:=h
    try rw [zac a0_f] at hs
    try rw [zac a0_f] at hk
    exact ⟨_,zex zeH _,(fun _ _=>[]),(fun _=>false),zvL,zNW c0 (⟨a0_n,a0_f⟩:(Sl Gate)) K hs hk⟩
  · rename_i a0_n a0_s a0_g
    obtain ⟨⟨⟨rfl,a0_f,rfl⟩,hs⟩,hk⟩:=h
    try rw [zac a0_f] at hs
    try rw [zac a0_f] at hk
    exact ⟨_,zex zeH _,(fun _ _=>[]),(fun _=>false),zvM,zNY (⟨a0_n,a0_f⟩:(Sl Gate)) K hs hk⟩
  · exact h.elim
abbrev T30:Tabs:=(((Tabs.nil.addF 68 zzZ).addF 74 zns).addF 75 zz7)
theorem zLg:TabsOk Try.prog T30:=(((TabsOk.nil.addF zMt).addF zGo).addF zMz)
abbrev G30:Ctrs:=csm T30 (fun _ _=>[]) (fun _=>false)
def zDL:Ann:=⟨35,[(0,zK [0,3,4,5] [3,4,5]),(1,zK [0,3,4,5,13] [3,4,5]),(2,zK [4,5,6] [4,5]),(3,zK [3,4,5,7,8] [3,4,5,7]),(4,zK [3,4,5,7,8,23] [3,4,5,7]),(5,zK [4,5,6] [4,5]),(6,zK [4,5,9,10] [4,5,9,10]),(7,zK [4,5,6] [4,5])],
 [],
 [(2,zK [0,3,4,5,13] [3,4,5]),(3,zK [0,3,4,5] [3,4,5]),(4,zK [3,4,5,7,8] [3,4,5,7]),(6,zK [3,4,5,7] [3,4,5,7]),(7,zK [4,5,9,10] [4,5,9,10])],
 [],[]⟩
abbrev R30:=(Frac×Frac×Int)
abbrev e30 (r:R30):List PA:=[.agg [.int .i64 r.1.Num,.int .i64 r.1.Den],.agg [.int .i64 r.2.1.Num,.int .i64 r.2.1.Den],.one (.int .i64 r.2.2)]
@[irreducible] def z30:=ptF Try.prog G30 zDL Try.f30
section
variable {K:List PA→Prop} {zaa:(Sl Gate)} {z:Int} {zpu:Bool} {ev2:Int} {znQ:(Sl Gate)} {znR:(Sl straight)} {zvN:Nat→List PV} {zvO:Nat→List PV} {ziK:(Sl Gate)} {ziL:(Sl straight)} {zvP:Nat→List PV} {zvQ:Nat→List PV} {zmi:Int} {zmj:Int} {zi5:Int} {zi6:Int}
def zvR (zmi:Int) (zmj:Int) (zi5:Int) (zi6:Int):(Frac×Frac×Int) :=
  ((⟨zmi,zmj⟩:Frac),(⟨zi5,zi6⟩:Frac),(0:Int))
theorem zDM (hk:K (e30 (zvR zmi zmj zi5 zi6))):z30 K [1,1,1,1,1] [] ⟨[(4,zp 4 0),(5,zp 5 0),(9,zp 9 0),(10,zp 10 0)],[(4,.box 25 (zm (zae (⟨(0:Int),(0:Int)⟩:Frac)))),(5,.box 25 (zm (zae (⟨(0:Int),(0:Int)⟩:Frac)))),(9,.box 25 (zm (zae (⟨zmi,zmj⟩:Frac)))),(10,.box 25 (zm (zae (⟨zi5,zi6⟩:Frac))))],[]⟩:=zau (by kernel_rfl) hk
def zvS (z:Int) (ziK:(Sl Gate)) (ziL:(Sl straight)):(Frac×Frac×Int) :=
  (zvR (((s68 (⟨(⟨ziK⟩:list),ziL⟩:set) z).1).Num) (((s68 (⟨(⟨ziK⟩:list),ziL⟩:set) z).1).Den) (((s68 (⟨(⟨ziK⟩:list),ziL⟩:set) z).2).Num) (((s68 (⟨(⟨ziK⟩:list),ziL⟩:set) z).2).Den))
def zvT (z:Int) (ziK:(Sl Gate)) (ziL:(Sl straight)):Bool :=
  (decide ((p68 (⟨(⟨ziK⟩:list),ziL⟩:set) z=true)) &&
 true)
theorem zDN (hs:zvT z ziK ziL=true) (hk:K (e30 (zvS z ziK ziL))) (zDO:zvP=zg enc_55 ziK) (zDP:zvQ=zg zah ziL):z30 K [1,1,1,1] [] ⟨[(3,zp 3 0),(4,zp 4 0),(5,zp 5 0),(7,zp 7 0)],[(3,.fbox [.int .i64 z]),(4,.box 25 (zm (zae (⟨(0:Int),(0:Int)⟩:Frac)))),(5,.box 25 (zm (zae (⟨(0:Int),(0:Int)⟩:Frac)))),(7,.box 104 [.p (.sl ziK.len 3 zvP),.p (.sl ziL.len 3 zvQ)])],[]⟩:=by subst zDO;subst zDP;exact zau (by kernel_rfl) (zat hs fun hc hs=>And.intro (And.intro (zE enc_55 3 ziK.get) (And.intro (zE zah 3 ziL.get) hc)) (zDM hk))
def zvU (z:Int) (ev2:Int) (znQ:(Sl Gate)) (znR:(Sl straight)):(Frac×Frac×Int) :=
  (cond (ev2 != (0:Int))
 ((⟨(0:Int),(0:Int)⟩:Frac),(⟨(0:Int),(0:Int)⟩:Frac),ev2)
 (zvS z znQ znR))
def zvV (z:Int) (ev2:Int) (znQ:(Sl Gate)) (znR:(Sl straight)):Bool :=
  (cond (ev2 != (0:Int))
 true
 (zvT z znQ znR))
theorem zDQ (hs:zvV z ev2 znQ znR=true) (hk:K (e30 (zvU z ev2 znQ znR))) (zDR:zvN=zg enc_55 znQ) (zDS:zvO=zg zah znR):z30 K [1,1,1] [] ⟨[(3,zp 3 0),(4,zp 4 0),(5,zp 5 0),(7,zp 7 0),(8,zI ev2)],[(3,.fbox [.int .i64 z]),(4,.box 25 (zm (zae (⟨(0:Int),(0:Int)⟩:Frac)))),(5,.box 25 (zm (zae (⟨(0:Int),(0:Int)⟩:Frac)))),(7,.box 104 [.p (.sl znQ.len 3 zvN),.p (.sl znR.len 3 zvO)])],[]⟩:=by subst zDR;subst zDS;exact zau (by kernel_rfl) (zc hs hk (fun hs hk=>hk) (fun hs hk=>(zDN hs hk rfl rfl)))
def zvW (zaa:(Sl Gate)) (z:Int):(Frac×Frac×Int) :=
  (zvU z ((zsZ z zaa).2) (((zsZ z zaa).1).list.Gates) (((zsZ z zaa).1).corners))
def zvX (zaa:(Sl Gate)) (z:Int):Bool :=
  (decide ((zLf z zaa=true)) &&
 (zvV z ((zsZ z zaa).2) (((zsZ z zaa).1).list.Gates) (((zsZ z zaa).1).corners)))
theorem zDT (hs:zvX zaa z=true) (hk:K (e30 (zvW zaa z))):z30 K [1,1] [] ⟨[(0,zS enc_55 3 zaa),(3,zp 3 0),(4,zp 4 0),(5,zp 5 0)],[(3,.box 3 [zi z]),(4,.box 25 (zm (zae (⟨(0:Int),(0:Int)⟩:Frac)))),(5,.box 25 (zm (zae (⟨(0:Int),(0:Int)⟩:Frac))))],[]⟩:=zau (by kernel_rfl) (zat hs fun hc hs=>And.intro (And.intro (zE enc_55 3 zaa.get) hc) (zDQ hs hk rfl rfl))
def zvY (zaa:(Sl Gate)) (z:Int) (zpu:Bool):(Frac×Frac×Int) :=
  (cond zpu
 ((⟨(0:Int),(0:Int)⟩:Frac),(⟨(0:Int),(0:Int)⟩:Frac),(2:Int))
 (zvW zaa z))
def zvZ (zaa:(Sl Gate)) (z:Int) (zpu:Bool):Bool :=
  (cond zpu
 true
 (zvX zaa z))
theorem zDU (hs:zvZ zaa z zpu=true) (hk:K (e30 (zvY zaa z zpu))):z30 K [1,0,1] [] ⟨[(0,zS enc_55 3 zaa),(3,zp 3 0),(4,zp 4 0),(5,zp 5 0),(13,zB zpu)],[(3,.box 3 [zi z]),(4,.box 25 (zm (zae (⟨(0:Int),(0:Int)⟩:Frac)))),(5,.box 25 (zm (zae (⟨(0:Int),(0:Int)⟩:Frac))))],[]⟩:=zau (by kernel_rfl) (zc hs hk (fun hs hk=>hk) (fun hs hk=>(zDT hs hk)))
def s30 (zaa:(Sl Gate)) (z:Int):(Frac×Frac×Int) :=
  (zvY zaa z (!(s74 z (-100000:Int) (200000:Int))))
def p30 (zaa:(Sl Gate)) (z:Int):Bool :=
  (zvZ zaa z (!(s74 z (-100000:Int) (200000:Int))))
end
theorem q30 (zaa:(Sl Gate)) (z:Int) (K:List PA→Prop) (hs:p30 zaa z=true) (hk:K (e30 (s30 zaa z))):vcFun Try.prog G30 zDL 30 [.one (.sl zaa.len 3 (fun i=>enc_55 (zaa.get i))),.one (.int .i64 z)] K :=
  zau (by kernel_rfl) (zDU hs hk)
def zDV : List PA → COut
  | [.one (.sl a0_n a0_s a0_g),.one (.int .i64 a1)]=>.det (IsE enc_55 3 a0_s a0_g∧p30 (⟨a0_n,zad a0_g⟩:(Sl Gate)) a1=true) [.agg [.int .i64 (((s30 (⟨a0_n,zad a0_g⟩:(Sl Gate)) a1).1).Num),.int .i64 (((s30 (⟨a0_n,zad a0_g⟩:(Sl Gate)) a1).1).Den)],.agg [.int .i64 (((s30 (⟨a0_n,zad a0_g⟩:(Sl Gate)) a1).2.1).Num),.int .i64 (((s30 (⟨a0_n,zad a0_g⟩:(Sl Gate)) a1).2.1).Den)],.one (.int .i64 ((s30 (⟨a0_n,zad a0_g⟩:(Sl Gate)) a1).2.2))]
  | _=>.no
theorem zIe:zaf Try.prog 30:=⟨_,rfl,rfl,by kernel_rfl⟩
theorem zNZ:Ok Try.prog 30 zDV:=zax zLg zIe fun args K h=>by
  unfold zDV at h
  split at h
  · rename_i a0_n a0_s a0_g a1
    obtain ⟨⟨⟨rfl,a0_f,rfl⟩,hs⟩,hk⟩:=h
    try rw [zac a0_f] at hs
    try rw [zac a0_f] at hk
    exact ⟨(fun _ _=>[]),(fun _=>false),zDL,q30 (⟨a0_n,a0_f⟩:(Sl Gate)) a1 K hs hk⟩
  · exact h.elim
abbrev zMA:Tabs:=Tabs.nil
theorem zIf:TabsOk Try.prog zMA:=TabsOk.nil
abbrev zMB:Ctrs:=csm zMA (fun _ _=>[]) (fun _=>false)
def zv1:Ann:=⟨8,[(0,⟨[0],[],[],[],[],[],[]⟩),(1,⟨[0,4],[],[],[],[],[],[]⟩),(2,⟨[2],[],[],[],[],[],[]⟩),(3,⟨[2],[5],[],[],[],[],[]⟩)],
 [],
 [],
 [],[]⟩
theorem zz8 (n : Nat) (get : Nat → List PV) : zt2 Try.prog zMB zv1 105 [.one (.sl n 3 get)] 118 3 24 n get =
  ((True)∧(∃ r1:Bool,(n ≠ 0→r1=false))∧∀ r1:Bool,(n ≠ 0→r1=false) →
 (zcY r1
 (True∧n=0)
 ((((0+n) * 24≤140737488355328∧0+n≤9223372036854775807)) ∧
 (True∧118=118∧3=3∧24=24∧(0+n)=n∧∀ i,i < n→(appG 0 (zcj []) get) i=get i)))):=by kernel_rfl
abbrev zBg:OwnK:=.clone 118 3 24
theorem zDW:zaf Try.prog 105:=⟨_,rfl,rfl,by kernel_rfl⟩
theorem zLh:zlw Try.prog 105 zBg:=zt5 zIf zDW fun n get h1 h2=>by
  refine ⟨fun _ _=>[],fun _=>false,zv1,?_⟩
  show zt2 Try.prog zMB zv1 105 _ _ _ _ _ _
  rw [zz8]
  refine ⟨trivial,⟨decide (n=0),fun h=>decide_eq_false h⟩,fun r1 hr=>?_⟩
  cases r1
  · refine ⟨⟨by omega,by omega⟩,trivial,rfl,rfl,rfl,Nat.zero_add n,fun i _=>rfl⟩
  · exact ⟨trivial,Classical.byContradiction fun h=>by simpa using hr h⟩
abbrev zBh:OwnK:=.sort 118 3 24
theorem zLi:zlw Try.prog 106 zBh:=zuf Try.laysS106 rfl rfl rfl (fun h=>h) ⟨_,rfl,rfl,by kernel_rfl⟩
abbrev zMC:Tabs:=(Tabs.nil.addF 99 zuw)
theorem zIg:TabsOk Try.prog zMC:=(TabsOk.nil.addF zKC)
abbrev zN0:Ctrs:=csm zMC (fun _ _=>[]) (fun _=>false)
def zBi:Ann:=⟨10,[(0,zK [2,3] [2,3]),(1,zK [4] [])],
 [],
 [],
 [],[]⟩
abbrev zN1:=Bool
abbrev e108 (r:zN1):List PA:=[.one (.bool r)]
section
variable {K:List PA→Prop} {s:set} {x:straight}
def zBj (s:set) (x:straight):Bool :=
  (zKA x s.list.Gates)
def zJ6 (s:set) (x:straight):Bool :=
  (decide ((zKB x s.list.Gates=true)) &&
 true)
end
theorem zN2 (s:set) (x:straight) (K:List PA→Prop) (hs:zJ6 s x=true) (hk:K (e108 (zBj s x))):vcFun Try.prog zN0 zBi 108 [.agg (zaS s),.agg (zah x)] K :=
  zau (by kernel_rfl) (zat hs fun hc hs=>And.intro (And.intro (zE enc_55 3 s.list.Gates.get) hc) hk)
def zv2 : List PA → COut
  | [.agg [.sl a0_list_Gates_n a0_list_Gates_s a0_list_Gates_g,.sl a0_corners_n a0_corners_s a0_corners_g],.agg [.int .i64 a1_slope,.int .i64 a1_start,.int .i64 a1_den]]=>.det (IsE enc_55 3 a0_list_Gates_s a0_list_Gates_g∧IsE zah 3 a0_corners_s a0_corners_g∧zJ6 (⟨(⟨(⟨a0_list_Gates_n,zad a0_list_Gates_g⟩:(Sl Gate))⟩:list),(⟨a0_corners_n,zaO a0_corners_g⟩:(Sl straight))⟩:set) (⟨a1_slope,a1_start,a1_den⟩:straight)=true) [.one (.bool (zBj (⟨(⟨(⟨a0_list_Gates_n,zad a0_list_Gates_g⟩:(Sl Gate))⟩:list),(⟨a0_corners_n,zaO a0_corners_g⟩:(Sl straight))⟩:set) (⟨a1_slope,a1_start,a1_den⟩:straight)))]
  | _=>.no
theorem zDX:zaf Try.prog 108:=⟨_,rfl,rfl,by kernel_rfl⟩
theorem zLj:Ok Try.prog 108 zv2:=zax zIg zDX fun args K h=>by
  unfold zv2 at h
  split at h
  · rename_i a0_list_Gates_n a0_list_Gates_s a0_list_Gates_g a0_corners_n a0_corners_s a0_corners_g a1_slope a1_start a1_den
    obtain ⟨⟨⟨rfl,a0_list_Gates_f,rfl⟩,⟨rfl,a0_corners_f,rfl⟩,hs⟩,hk⟩:=h
    try rw [zac a0_list_Gates_f] at hs
    try rw [zac a0_list_Gates_f] at hk
    try rw [zaJ a0_corners_f] at hs
    try rw [zaJ a0_corners_f] at hk
    exact ⟨(fun _ _=>[]),(fun _=>false),zBi,zN2 (⟨(⟨(⟨a0_list_Gates_n,a0_list_Gates_f⟩:(Sl Gate))⟩:list),(⟨a0_corners_n,a0_corners_f⟩:(Sl straight))⟩:set) (⟨a1_slope,a1_start,a1_den⟩:straight) K hs hk⟩
  · exact h.elim
abbrev zMD:Tabs:=(((Tabs.nil.addF 69 zsV).addF 89 zsR).addF 108 zv2)
theorem zIh:TabsOk Try.prog zMD:=(((TabsOk.nil.addF zJ0).addF zJZ).addF zLj)
abbrev zN3:Ctrs:=csm zMD (fun _ _=>[]) (fun _=>false)
def zBk:Ann:=⟨38,[(0,zK [2,3,4] [3,4]),(1,zK [3,4,6,7] [3,4]),(2,zK [6,7,8] []),(3,zK [6,7,8,26] []),(4,zK [5] []),(5,zK [7,8,32] []),(6,zK [5] []),(7,zK [8,34] []),(8,zK [5] []),(9,zK [5] [])],
 [],
 [],
 [],[]⟩
abbrev zN4:=Int
abbrev zN5 (r:zN4):List PA:=[.one (.int .i64 r)]
section
variable {K:List PA→Prop} {c0:set} {a:straight} {b:straight}
def zJ7 (c0:set) (a:straight) (b:straight):Int :=
  (cond (zBj c0 a)
 (cond (zBj c0 b)
 (s69 (s89 a.slope a.den) (s89 b.slope b.den))
 (cond (zBj c0 a)
 (-1:Int)
 (cond (zBj c0 b)
 (1:Int)
 (w64 (0 - (s69 (s89 a.slope a.den) (s89 b.slope b.den)))))))
 (cond (zBj c0 a)
 (-1:Int)
 (cond (zBj c0 b)
 (1:Int)
 (w64 (0 - (s69 (s89 a.slope a.den) (s89 b.slope b.den)))))))
def zJ8 (c0:set) (a:straight) (b:straight):Bool :=
  (decide ((zJ6 c0 a=true)) &&
 (decide ((zJ6 c0 b=true)) &&
 (decide ((p89 a.slope a.den=true)) &&
 (decide ((p89 b.slope b.den=true)) &&
 true))))
end
theorem zN6 (c0:set) (a:straight) (b:straight) (K:List PA→Prop) (hs:zJ8 c0 a b=true) (hk:K (zN5 (zJ7 c0 a b))):vcFun Try.prog zN3 zBk 107 [.agg (zah a),.agg (zah b),.one (.fp (zaS c0) 0)] K :=
  zau (by kernel_rfl) (zat hs fun hc hs=>And.intro (And.intro (zE enc_55 3 c0.list.Gates.get) (And.intro (zE zah 3 c0.corners.get) hc)) (zat hs fun hc hs=>And.intro (And.intro (zE enc_55 3 c0.list.Gates.get) (And.intro (zE zah 3 c0.corners.get) hc)) (zat hs fun hc hs=>And.intro hc (zat hs fun hc hs=>And.intro hc (zt hk (fun hk=>(zt hk (fun hk=>hk) (fun hk=>(zt hk (fun hk=>hk) (fun hk=>(zt hk (fun hk=>hk) (fun hk=>hk))))))) (fun hk=>(zt hk (fun hk=>hk) (fun hk=>(zt hk (fun hk=>hk) (fun hk=>hk))))))))))
def znS : List PA → COut
  | [.agg [.int .i64 a0_slope,.int .i64 a0_start,.int .i64 a0_den],.agg [.int .i64 a1_slope,.int .i64 a1_start,.int .i64 a1_den],.one (.fp [.sl c0_list_Gates_n c0_list_Gates_s c0_list_Gates_g,.sl c0_corners_n c0_corners_s c0_corners_g] 0)]=>.det (IsE enc_55 3 c0_list_Gates_s c0_list_Gates_g∧IsE zah 3 c0_corners_s c0_corners_g∧zJ8 (⟨(⟨(⟨c0_list_Gates_n,zad c0_list_Gates_g⟩:(Sl Gate))⟩:list),(⟨c0_corners_n,zaO c0_corners_g⟩:(Sl straight))⟩:set) (⟨a0_slope,a0_start,a0_den⟩:straight) (⟨a1_slope,a1_start,a1_den⟩:straight)=true) [.one (.int .i64 (zJ7 (⟨(⟨(⟨c0_list_Gates_n,zad c0_list_Gates_g⟩:(Sl Gate))⟩:list),(⟨c0_corners_n,zaO c0_corners_g⟩:(Sl straight))⟩:set) (⟨a0_slope,a0_start,a0_den⟩:straight) (⟨a1_slope,a1_start,a1_den⟩:straight)))]
  | _=>.no
theorem zDY:zaf Try.prog 107:=⟨_,rfl,rfl,by kernel_rfl⟩
theorem zLk:Ok Try.prog 107 znS:=zax zIh zDY fun args K h=>by
  unfold znS at h
  split at h
  · rename_i a0_slope a0_start a0_den a1_slope a1_start a1_den c0_list_Gates_n c0_list_Gates_s c0_list_Gates_g c0_corners_n c0_corners_s c0_corners_g
    obtain ⟨⟨⟨rfl,c0_list_Gates_f,rfl⟩,⟨rfl,c0_corners_f,rfl⟩,hs⟩,hk⟩:=h
    try rw [zac c0_list_Gates_f] at hs
    try rw [zac c0_list_Gates_f] at hk
    try rw [zaJ c0_corners_f] at hs
    try rw [zaJ c0_corners_f] at hk
    exact ⟨(fun _ _=>[]),(fun _=>false),zBk,zN6 (⟨(⟨(⟨c0_list_Gates_n,c0_list_Gates_f⟩:(Sl Gate))⟩:list),(⟨c0_corners_n,c0_corners_f⟩:(Sl straight))⟩:set) (⟨a0_slope,a0_start,a0_den⟩:straight) (⟨a1_slope,a1_start,a1_den⟩:straight) K hs hk⟩
  · exact h.elim
end Go.Proofs
