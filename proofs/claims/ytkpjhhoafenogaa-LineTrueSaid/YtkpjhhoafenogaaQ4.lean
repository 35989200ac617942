/- Part 4 of what the proof rests on: a machine that runs functions of the program on pure values, proved sound; the functions that the law reaches, and what they compute. -/
import Derived.Test.YtkpjhhoafenogaaQ3
import Derived.Sort.OwnSortedInts
import Derived.Lib.SlicesCompact
import Derived.ProofKit
import Derived.Deep.Slices
import Derived.Shelf.SlSortCmp.WholeK
import Derived.Test.YtkpjhhoafenogaaProg
import Derived.Shelf.SlSortCmp.NoneTotal
set_option linter.all false
namespace Go.Pm

structure Tabs where
  fn:List (Nat×(List PA→COut))
  own:List (Nat×OwnK)
  it:List (Nat×(List PA→Option (Prop×List (List PA))))
def zvJ : List (Nat × (List PA → COut)) → Nat → List PA → COut
  | [],_=>fun _=>.no
  | (k,c) :: r,n=>match Nat.beq k n with | true=>c | false=>zvJ r n
def zvK (l:List (Nat×OwnK)) (f:Nat):OwnK:=match lk l f with | some c=>c | none=>.none
def zEh (l:List (Nat×(List PA→Option (Prop×List (List PA))))) (f:Nat):List PA→Option (Prop×List (List PA)):=match lk l f with | some c=>c | none=>fun _=>none
def csm (T:Tabs) (memo:Nat→Int→List Int) (vv:Nat→Bool):Ctrs:=⟨zvJ T.fn,zvK T.own,zEh T.it,memo,vv⟩
abbrev cs (T:Tabs):Ctrs:=csm T (fun _ _=>[]) (fun _=>false)
def Tabs.nil:Tabs:=⟨[],[],[]⟩
def Tabs.addF (T:Tabs) (f:Nat) (c:List PA→COut):Tabs:=⟨(f,c) :: T.fn,T.own,T.it⟩
def Tabs.addO (T:Tabs) (f:Nat) (c:OwnK):Tabs:=⟨T.fn,(f,c) :: T.own,T.it⟩
def Tabs.addI (T:Tabs) (f:Nat) (c:List PA→Option (Prop×List (List PA))):Tabs:=⟨T.fn,T.own,(f,c) :: T.it⟩

theorem zLN {P:Program} {f:Nat} : Ok P f (fun _=>.no):=fun _ _ h=>h.elim
theorem zLO {P:Program} {f:Nat} : zCz P f (fun _=>none):=fun _ _ _ h=>by cases h

structure TabsOk (P : Program) (T : Tabs) : Prop where
  fn:∀ x∈T.fn,Ok P x.1 x.2
  own:∀ x∈T.own,zmm P x.1 x.2
  it:∀ x∈T.it,zCz P x.1 x.2
theorem TabsOk.nil {P:Program} : TabsOk P .nil:=⟨fun _ h=>(by cases h),fun _ h=>(by cases h),fun _ h=>(by cases h)⟩
theorem TabsOk.addF {P:Program} {T:Tabs} (h:TabsOk P T) {f:Nat} {c:List PA→COut} (hc:Ok P f c):TabsOk P (T.addF f c) :=
 ⟨fun x hx=>(List.mem_cons.1 hx).elim (fun e=>by rw [e];exact hc) (fun hx=>h.fn x hx),h.own,h.it⟩
theorem TabsOk.addO {P:Program} {T:Tabs} (h:TabsOk P T) {f:Nat} {c:OwnK} (hc:zmm P f c):TabsOk P (T.addO f c) :=
 ⟨h.fn,fun x hx=>(List.mem_cons.1 hx).elim (fun e=>by rw [e];exact hc) (fun hx=>h.own x hx),h.it⟩
theorem TabsOk.addI {P:Program} {T:Tabs} (h:TabsOk P T) {f:Nat} {c:List PA→Option (Prop×List (List PA))} (hc:zCz P f c):TabsOk P (T.addI f c) :=
 ⟨h.fn,h.own,fun x hx=>(List.mem_cons.1 hx).elim (fun e=>by rw [e];exact hc) (fun hx=>h.it x hx)⟩
theorem TabsOk.all {P:Program} {T:Tabs} (h:TabsOk P T) (memo:Nat→Int→List Int) (vv:Nat→Bool):OkAll P (csm T memo vv):=by
 refine ⟨fun f=>?_,fun f=>?_,fun f=>?_⟩
 ·show Ok P f (zvJ T.fn f)
  have key:∀ l:List (Nat×(List PA→COut)),(∀ x∈l,Ok P x.1 x.2)→Ok P f (zvJ l f):=by
   intro l
   induction l with
   | nil=>intro _;exact zLN
   | cons x l ih =>
    intro hl
    obtain ⟨k,c⟩:=x
    simp only [zvJ]
    split
    ·rename_i e
     have:=hl (k,c) List.mem_cons_self
     rw [← Nat.eq_of_beq_eq_true e];exact this
    ·exact ih fun x hx=>hl x (List.mem_cons_of_mem _ hx)
  exact key T.fn h.fn
 ·show zmm P f (zvK T.own f)
  unfold zvK
  split
  ·rename_i c hc;exact h.own _ (zcI hc)
  ·trivial
 ·show zCz P f (zEh T.it f)
  unfold zEh
  split
  ·rename_i c hc;exact h.it _ (zcI hc)
  ·exact zLO

theorem zaN {P : Program} {T : Tabs} (hT : TabsOk P T) {f : FuncId} {C : List PA → COut} (hc : zah P f)
    (h:∀ args K,(C args).wp K→∃ memo vv ann,vcFun P (csm T memo vv) ann f args K):Ok P f C :=
  zBh (hT.all (fun _ _=>[]) (fun _=>false)) hc h
theorem zIH {P : Program} {T : Tabs} (hT : TabsOk P T) {f : FuncId} {C : List PA → Option (Prop × List (List PA))} (hc : zah P f)
    (h:∀ l caps safe ys,C caps=some (safe,ys)→safe→∃ memo vv ann,vcIter P (csm T memo vv) ann f l caps ys):zCz P f C :=
  zBl (hT.all (fun _ _=>[]) (fun _=>false)) hc h
theorem zvL {P : Program} {T : Tabs} (hT : TabsOk P T) {f : FuncId} {e s b : Nat} (hc : zah P f)
    (h:∀ n get,n * b≤140737488355328→n≤9223372036854775807→∃ memo vv ann,zvI P (csm T memo vv) ann f [.one (.sl n s get)] e s b n get):zmm P f (.clone e s b) :=
  zp7 (hT.all (fun _ _=>[]) (fun _=>false)) hc h

structure Sl (α : Type) where
  len:Nat
  get:Nat→α
instance {α:Type} [Inhabited α]:Inhabited (Sl α):=⟨⟨0,fun _=>default⟩⟩
abbrev w64 (x:Int):Int:=IntKind.i64.wrap x

def IsE {α:Type} (enc:α→List PV) (size s:Nat) (g:Nat→List PV):Prop:=s=size∧∃ f:Nat→α,g=fun i=>enc (f i)
theorem isE {α:Type} {enc:α→List PV} {size:Nat} {f:Nat→α} : IsE enc size size (fun i=>enc (f i)):=⟨rfl,f,rfl⟩
def zdQ {α:Type} (n:Nat) (get new:Nat→α):Nat→α:=fun j=>match Nat.ble n j with | true=>new (j - n) | false=>get j
theorem zBm {α:Type} {enc:α→List PV} {n:Nat} {f h:Nat→α} : appG n (fun i=>enc (f i)) (fun i=>enc (h i))=fun i=>enc (zdQ n f h i):=by
 funext j;simp only [appG,zdQ];cases Nat.ble n j <;> rfl
def zjh {α : Type} (x : α) : List α → Nat → α
  | [],_=>x
  | y :: _,0=>y
  | _ :: r,i+1=>zjh x r i
theorem zeH {α:Type} {enc:α→List PV} {x y:α} {r:List α} : zdt (enc x :: enc y :: r.map enc)=fun i=>enc (zjh x (x :: y :: r) i):=by
 have key:∀ (l:List α) (i:Nat),(match (l.map enc)[i]? with | some z=>z | none=>enc x)=enc (zjh x l i):=by
  intro l
  induction l with
  | nil=>intro i;rfl
  | cons a l ih =>
   intro i
   cases i with
   | zero=>rfl
   | succ i=>simpa [zjh] using ih i
 funext i
 exact key (x :: y :: r) i
theorem zfM {α:Type} {enc:α→List PV} {size:Nat} {x y:α} (r:List α):IsE enc size size (zdt (enc x :: enc y :: r.map enc)):=⟨rfl,_,zeH⟩

theorem zcu {b:Bool} {A B:Prop} {S S':Bool} {α:Type} {K:α→Prop} {x y:α} (h1:S=true→K x→A) (h2:S'=true→K y→B) (hs:cond b S S'=true) (hk:K (cond b x y)):zdd b A B:=by
 cases b
 ·exact h2 hs hk
 ·exact h1 hs hk
theorem zmO {b:Bool} {A B:Prop} {S S':Bool} {α β:Type} {f:α→β} {ys:List β} {x y:List α} (hs:cond b S S'=true) (hk:ys=(cond b x y).map f) (h1:S=true→ys=x.map f→A) (h2:S'=true→ys=y.map f→B):zdd b A B:=by
 cases b
 ·exact h2 hs hk
 ·exact h1 hs hk
theorem itY {α β:Type} {f:α→β} {ys:List β} {p:β} {x r:List α} {l:Nat} {A:List β→Prop} (hk:ys=x.map f) (e:x.map f=p :: r.map f) (h:∀ zs,zs=r.map f→A zs):l=l∧∃ z,ys=p :: z∧A z∧True :=
 ⟨rfl,_,hk.trans e,h _ rfl,trivial⟩
theorem zaD {C A:Prop} [d:Decidable C] {r:Bool} (hs:(decide C && r)=true) (k:C→r=true→A):A:=by
 rw [Bool.and_eq_true] at hs
 exact k (of_decide_eq_true hs.1) hs.2
abbrev Fuel:Nat:=9223372036854775808
def setT {α:Type} (i:Nat) (v:α) (get:Nat→α):Nat→α:=fun j=>match Nat.beq j i with | true=>v | false=>get j
theorem zjV {α:Type} {enc:α→List PV} {n:Nat} {g g':Nat→List PV} {f h:Nat→α} (h1:g=fun i=>enc (f i)) (h2:g'=fun i=>enc (h i)):appG n g g'=fun i=>enc (zdQ n f h i):=by
 subst h1;subst h2;exact zBm
def zNL (P:Program) (G:Ctrs) (ann:Ann) (hd:Nat) (ps:List Nat) (assign body:Code) (X:List (List PA)→St→Prop) (K:Exit→St→Prop) (y:List PA) (rest:List (List PA)) (s:St):Prop :=
 match lk ann.head hd with
 | some k=>match zgW ps y s.env with
  | some env=>vc P G ann assign (zDS (vc P G ann body (zlJ P k (X rest) K)) fun _ _=>False) ⟨env,s.objs,[]⟩
  | none=>False
 | none=>False
def sortB (n:Nat) (p:Nat→Nat→Bool) (c:Nat→Nat→Int):Bool :=
  (List.range n).all fun i => decide (0 ≤ c i i) && (List.range n).all fun j => p i j && (Nat.beq i j || (decide (c i j < 0) && decide (0 ≤ c j i)) || (decide (c j i < 0) && decide (0 ≤ c i j))) &&
    (List.range n).all fun k=>!(decide (c i j < 0) && decide (c j k < 0)) || decide (c i k < 0)
theorem zsY {n:Nat} {p:Nat→Nat→Bool} {c c':Nat→Nat→Int} {s:Nat→Nat→Prop} (h:sortB n p c=true) (hp:∀ i j,p i j=true→s i j) (hc:c'=c):(∀ i j,i < n→j < n→s i j)∧STO n c':=by
 subst hc
 simp only [sortB,List.all_eq_true,List.mem_range,Bool.and_eq_true,Bool.or_eq_true,decide_eq_true_eq,Bool.not_eq_true',Bool.and_eq_false_iff,decide_eq_false_iff_not] at h
 refine ⟨fun i j hi hj=>hp i j ((h i hi).2 j hj).1.1,fun i hi=>(h i hi).1,fun i j hi hj hne=>?_,fun i j k hi hj hk h1 h2=>?_⟩
 ·rcases ((h i hi).2 j hj).1.2 with (h1 | h1) | h1
  ·exact absurd (Nat.eq_of_beq_eq_true h1) hne
  ·exact .inl h1
  ·exact .inr h1
 ·rcases ((h i hi).2 j hj).2 k hk with (h3 | h3) | h3
  ·exact absurd h1 h3
  ·exact absurd h2 h3
  ·exact h3
end Go.Pm
namespace Go.Pm
open Go Go.Sort

/-! Nil slices are slices of length 0. -/
inductive PVle : PV → PV → Prop
  | rfl (p:PV):PVle p p
  | nil (s:Nat) (g:Nat→List PV):PVle .nils (.sl 0 s g)
  | nilm (q:MQ):PVle .nilm (.fm q 0 (fun _=>none))
inductive PAle : PA → PA → Prop
  | one {p q:PV} : PVle p q→PAle (.one p) (.one q)
  | agg {l m:List PV} : RL PVle l m→PAle (.agg l) (.agg m)
theorem zhD {α β:Type} {R:α→β→Prop} : RL R [] []:=trivial
theorem zc9 {α β:Type} {R:α→β→Prop} {a:α} {b:β} {l:List α} {m:List β} (h:R a b) (h':RL R l m):RL R (a :: l) (b :: m):=⟨h,h'⟩
theorem ze6 {α : Type} {R : α → α → Prop} (h : ∀ a, R a a) : ∀ l : List α, RL R l l
  | []=>trivial
  | a :: l=>⟨h a,ze6 h l⟩
theorem zfi (a:PA):PAle a a:=by
 cases a with
 | one p=>exact .one (.rfl p)
 | agg l=>exact .agg (ze6 .rfl l)
def Wk (K:List PA→Prop) (l:List PA):Prop:=∃ l',RL PAle l l'∧K l'
theorem wk {K:List PA→Prop} {l l':List PA} (hk:K l') (h:RL PAle l l'):Wk K l:=⟨l',h,hk⟩
theorem zd7 {K:List PA→Prop} {l:List PA} (hk:K l):Wk K l:=⟨l,ze6 zfi l,hk⟩
theorem zII {h:Fz} {p q:PV} {v:Value} (e:PVle p q) (r:Rep h p v):Rep h q v:=by
 cases e with
 | rfl=>exact r
 | nil s g=>cases r;exact .sl0 s g
 | nilm q=>cases r;exact .fmn q _ (fun _ _=>rfl)
theorem zBn {α β γ : Type} {R : α → β → Prop} {S : α → γ → Prop} {T : γ → β → Prop} (h : ∀ a b c, S a c → R a b → T c b) : ∀ (l : List α) (m : List β) (k : List γ), RL S l k → RL R l m → RL T k m
  | [],[],[],_,_=>trivial
  | a :: l,b :: m,c :: k,hs,hr=>⟨h a b c hs.1 hr.1,zBn h l m k hs.2 hr.2⟩
  | [],_ :: _,[],_,hr=>hr.elim
  | [],_,_ :: _,hs,_=>hs.elim
  | _ :: _,_,[],hs,_=>hs.elim
  | _ :: _,[],_ :: _,_,hr=>hr.elim
theorem zEi {h:Fz} {a b:PA} {v:Value} (e:PAle a b) (r:paR h a v):paR h b v:=by
 cases e with
 | one e=>exact zII e r
 | agg e =>
  obtain ⟨vs,rfl,hv⟩:=r
  exact ⟨vs,rfl,zBn (R:=Rep h) (S:=PVle) (T:=Rep h) (fun _ _ _ e r=>zII e r) _ _ _ e hv⟩
theorem zIJ {h:Fz} {l m:List PA} {v:Value} (e:RL PAle l m) (r:zAO h l v):zAO h m v:=by
 match l,m,e,r with
 | [a],[b],e,r=>exact zEi e.1 r
 | [],[],_,r=>exact r
 | a :: b :: l,c :: d :: m,e,r =>
  obtain ⟨vs,hv,hr⟩:=r
  exact ⟨vs,hv,zBn (R:=paR h) (S:=PAle) (T:=paR h) (fun _ _ _ e r=>zEi e r) _ _ _ e hr⟩
 | [_],_ :: _ :: _,e,_=>exact e.2.elim
 | _ :: _ :: _,[_],e,_=>exact e.2.elim
 | [],_ :: _,e,_=>exact e.elim
 | _ :: _,[],e,_=>exact e.elim
theorem zgi {P : Program} {T : Tabs} (hT : TabsOk P T) {f : FuncId} {C : List PA → COut} (hc : zah P f)
    (h:∀ args K,(C args).wp K→∃ args',RL PAle args args'∧∃ memo vv ann,vcFun P (csm T memo vv) ann f args' (Wk K)):Ok P f C:=by
  intro args K hK w h0 vs hvs hfz
  obtain ⟨args',hle,memo,vv,ann,hv⟩:=h args K hK
  refine ⟨hc,(zvG (hT.all memo vv) hv (zBn (R:=paR h0) (S:=PAle) (T:=paR h0) (fun _ _ _ e r=>zEi e r) _ _ _ hle hvs) hfz).mono ?_⟩
  rintro e w' ⟨h',rs,v,⟨rs',hr,hk⟩,he,hres,rest⟩
  exact ⟨h',rs',v,hk,he,zIJ hr hres,rest⟩
/-! Maps, as typed values; the keys of a map. -/
structure Mp where
  n:Nat
  F:List Int→Option (List Int)
instance:Inhabited Mp:=⟨⟨0,fun _=>none⟩⟩

def zIK (m:Nat) (F:List Int→Option (List Int)) (seen ys:List (List Int)):Prop :=
 ys.Nodup∧(∀ y∈ys,y.length=m∧F y ≠ none∧y ∉ seen)∧∀ c,c.length=m→F c ≠ none→c ∉ seen→c∈ys
def nodupB : List (List Int) → Bool
  | []=>true
  | y :: r=>!r.contains y && nodupB r
def keysB (m n:Nat) (F:List Int→Option (List Int)) (ys:List (List Int)):Bool :=
 Nat.beq ys.length n && ys.all (fun y=>Nat.beq y.length m && (F y).isSome) && nodupB ys
theorem zl6 : ∀ {ys : List (List Int)}, nodupB ys = true ↔ ys.Nodup
  | []=>by simp [nodupB]
  | y :: r=>by simp [nodupB,zl6 (ys:=r)]
theorem zoV {α : Type} [DecidableEq α] : ∀ {l m : List α}, l.Nodup → (∀ x ∈ l, x ∈ m) → m.length ≤ l.length → ∀ x ∈ m, x ∈ l
  | [],m,_,_,hl,x,hx=>by have:m=[]:=List.eq_nil_of_length_eq_zero (by simpa using hl);rw [this] at hx;exact hx
  | a :: l,m,hn,hs,hl,x,hx=>by
    have ha:=hs a List.mem_cons_self
    by_cases h:x=a
    · rw [h];exact List.mem_cons_self
    · have hx2 : x ∈ m.erase a := (List.mem_erase_of_ne h).2 hx
      have hn2:=List.nodup_cons.1 hn
      refine List.mem_cons_of_mem _ (zoV hn2.2 (fun z hz=>?_) ?_ x hx2)
      · have hza : z ≠ a := fun e => hn2.1 (e ▸ hz)
        exact (List.mem_erase_of_ne hza).2 (hs z (List.mem_cons_of_mem _ hz))
      · rw [List.length_erase_of_mem ha];simp at hl;omega
theorem zvM {m n:Nat} {F:List Int→Option (List Int)} {ys:List (List Int)} (h:keysB m n F ys=true) (hf:zIj m n F):zIK m F [] ys:=by
 simp only [keysB,Bool.and_eq_true,List.all_eq_true] at h
 obtain ⟨⟨h1,h2⟩,h3⟩:=h
 have h1:=Nat.eq_of_beq_eq_true h1
 have h3:=zl6.1 h3
 obtain ⟨ks,k1,k2,k3,k4⟩:=hf
 have hy:∀ y∈ys,y.length=m∧F y ≠ none:=fun y hy=>by
  obtain ⟨a,b⟩:=h2 y hy
  refine ⟨Nat.eq_of_beq_eq_true a,fun e=>?_⟩
  rw [e] at b;cases b
 refine ⟨h3,fun y hy'=>⟨(hy y hy').1,(hy y hy').2,by simp⟩,fun c hc hne _=>?_⟩
 exact zoV h3 (fun y hy'=>(k4 y (hy y hy').1).1 (hy y hy').2) (by rw [k1,h1];exact Nat.le_refl _) c ((k4 c hc).1 hne)
theorem zBo {m : Nat} {F : List Int → Option (List Int)} {seen ys : List (List Int)} (h : zIK m F seen ys) {c : List Int} (hc : c.length = m) (hF : F c ≠ none) (hs : c ∉ seen) :
  ys.Perm (c :: ys.erase c)∧zIK m F (c :: seen) (ys.erase c)∧(ys.erase c).length+1=ys.length:=by
 obtain ⟨h1,h2,h3⟩:=h
 have hm:=h3 c hc hF hs
 refine ⟨List.perm_cons_erase hm,⟨h1.erase c,fun y hy=>?_,fun d hd hdF hds=>?_⟩,?_⟩
 ·have := (List.Nodup.mem_erase_iff h1).1 hy
  obtain ⟨a,b,e⟩:=h2 y this.2
  exact ⟨a,b,by simp [this.1,e]⟩
 ·simp only [List.mem_cons, not_or] at hds
  exact (List.mem_erase_of_ne hds.1).2 (h3 d hd hdF hds.2)
 ·rw [List.length_erase_of_mem hm]
  have:0 < ys.length:=List.length_pos_of_mem hm
  omega
theorem zEj {m:Nat} {F:List Int→Option (List Int)} {seen ys:List (List Int)} (h:zIK m F seen ys) (he:∀ c,c.length=m→F c ≠ none→c∈seen):ys=[]:=by
 cases ys with
 | nil=>rfl
 | cons y r =>
  obtain ⟨a,b,e⟩:=h.2.1 y List.mem_cons_self
  exact (e (he y a b)).elim

end Go.Pm
namespace Go.Pm
open Go

theorem zaU {x:Int} (h1 : -9223372036854775808≤x) (h2:x≤9223372036854775807):w64 x=x:=by
 have hb:IntKind.i64.bits=64:=rfl
 have hs:IntKind.i64.signed=true:=rfl
 unfold w64 IntKind.wrap
 rw [hb,hs]
 simp only [Bool.true_and,decide_eq_true_eq]
 split <;> omega
def zlz (c : Nat → Bool) : Nat → Nat → Nat
  | 0,i=>i
  | m+1,i=>match c i with | true=>i | false=>zlz c m (i+1)
theorem zvN {c:Nat→Bool} {m i:Nat} (h:c i=true):zlz c (m+1) i=i:=by simp only [zlz,h]
theorem zvO {c:Nat→Bool} {m i:Nat} (h:c i=false):zlz c (m+1) i=zlz c m (i+1):=by simp only [zlz,h]
theorem zjW (c:Nat→Bool) (m i:Nat):i≤zlz c m i∧zlz c m i≤i+m∧(∀ j,i≤j→j < zlz c m i→c j=false)∧(zlz c m i < i+m→c (zlz c m i)=true):=by
 induction m generalizing i with
 | zero=>exact ⟨Nat.le_refl _,Nat.le_refl _,fun j h1 h2=>absurd h2 (by simp only [zlz];omega),fun h=>absurd h (by simp only [zlz];omega)⟩
 | succ m ih =>
  cases e:c i
  ·rw [zvO e]
   obtain ⟨h1,h2,h3,h4⟩:=ih (i+1)
   refine ⟨by omega,by omega,fun j hj1 hj2=>?_,fun h=>h4 (by omega)⟩
   by_cases hji:j=i
   ·rw [hji];exact e
   ·exact h3 j (by omega) hj2
  ·rw [zvN e]
   exact ⟨Nat.le_refl _,by omega,fun j h1 h2=>absurd h2 (by omega),fun _=>e⟩
def fst (c:Nat→Bool) (n:Nat):Nat:=zlz c n 0
theorem zCN (c:Nat→Bool) (n:Nat):fst c n≤n:=by have:=(zjW c n 0).2.1;simpa [fst] using this
theorem zCO {c:Nat→Bool} {n j:Nat} (h:j < fst c n):c j=false:=(zjW c n 0).2.2.1 j (Nat.zero_le _) h
theorem zCP {c:Nat→Bool} {n:Nat} (h:fst c n < n):c (fst c n)=true:=(zjW c n 0).2.2.2 (by simpa [fst] using h)
theorem zmP {α : Type} {c : α → Bool} {lpS : Nat → Sl α → Int → Int → Int} {lpP : Nat → Sl α → Int → Int → Bool}
    (hS:∀ k s t i,lpS (k+1) s t i=cond (decide (i < t)) (cond (c (s.get i.toNat)) i (lpS k s t (w64 (i+(1:Int))))) (-1:Int))
    (hP:∀ k s t i,lpP (k+1) s t i=cond (decide (i < t)) (decide (0≤i∧i < (s.len:Int)) && cond (c (s.get i.toNat)) true (lpP k s t (w64 (i+(1:Int))))) true)
    (s:Sl α) (hn:s.len≤9223372036854775807):lpP Fuel s (s.len:Int) 0=true∧lpS Fuel s (s.len:Int) 0=if fst (fun i=>c (s.get i)) s.len < s.len then ((fst (fun i=>c (s.get i)) s.len:Nat):Int) else -1:=by
  have key:∀ (m k i:Nat),i+m=s.len→m < k→lpP k s (s.len:Int) (i:Int)=true ∧
      lpS k s (s.len:Int) (i:Int)=if zlz (fun i=>c (s.get i)) m i < s.len then ((zlz (fun i=>c (s.get i)) m i:Nat):Int) else -1:=by
    intro m
    induction m with
    | zero =>
      intro k i hi hk
      obtain ⟨k,rfl⟩:∃ k',k=k'+1:=⟨k - 1,by omega⟩
      rw [hS,hP]
      have e:decide ((i:Int) < (s.len:Int))=false:=decide_eq_false (by omega)
      rw [e]
      have e5 : ¬ zlz (fun i=>c (s.get i)) 0 i < s.len:=by show ¬ i < s.len;omega
      rw [if_neg e5]
      exact ⟨rfl,rfl⟩
    | succ m ih =>
      intro k i hi hk
      obtain ⟨k,rfl⟩:∃ k',k=k'+1:=⟨k - 1,by omega⟩
      rw [hS,hP]
      have e:decide ((i:Int) < (s.len:Int))=true:=decide_eq_true (by omega)
      have e2:decide (0≤(i:Int)∧(i:Int) < (s.len:Int))=true:=decide_eq_true (by omega)
      have e3:w64 ((i:Int)+1)=((i+1:Nat):Int):=by rw [zaU (by omega) (by omega)];omega
      have e4:(i:Int).toNat=i:=by omega
      rw [e,e2,e3,e4]
      cases hc:c (s.get i)
      · rw [zvO (c := fun i => c (s.get i)) hc]
        exact ih k (i+1) (by omega) (by omega)
      · rw [zvN (c := fun i => c (s.get i)) hc, if_pos (by omega)]
        exact ⟨rfl,rfl⟩
  exact key s.len Fuel 0 (by omega) (by simp only [Fuel];omega)

theorem zsZ {good : Nat → Bool} {fin : Bool} {n : Nat} {lpS lpP : Nat → Int → Bool}
    (hS:∀ (k i:Nat),i < n→lpS (k+1) (i:Int)=cond (good i) (lpS k (w64 ((i:Int)+(1:Int)))) false)
    (hE:∀ k,lpS (k+1) (n:Int)=fin)
    (hP:∀ (k i:Nat),i < n→lpP (k+1) (i:Int)=cond (good i) (lpP k (w64 ((i:Int)+(1:Int)))) true)
    (hPE:∀ k,lpP (k+1) (n:Int)=true) (hn:n≤9223372036854775807) :
    lpP Fuel 0=true∧(lpS Fuel 0=true↔(∀ i,i < n→good i=true)∧fin=true):=by
  have key:∀ (m k i:Nat),i+m=n→m < k→lpP k (i:Int)=true∧(lpS k (i:Int)=true↔(∀ j,i≤j→j < n→good j=true)∧fin=true):=by
    intro m
    induction m with
    | zero =>
      intro k i hi hk
      obtain ⟨k,rfl⟩:∃ k',k=k'+1:=⟨k - 1,by omega⟩
      have:i=n:=by omega
      subst this
      rw [hE,hPE]
      exact ⟨rfl,⟨fun h=>⟨fun j h1 h2=>absurd h2 (by omega),h⟩,fun h=>h.2⟩⟩
    | succ m ih =>
      intro k i hi hk
      obtain ⟨k,rfl⟩:∃ k',k=k'+1:=⟨k - 1,by omega⟩
      rw [hS k i (by omega),hP k i (by omega)]
      have e3:w64 ((i:Int)+1)=((i+1:Nat):Int):=by rw [zaU (by omega) (by omega)];omega
      rw [e3]
      obtain ⟨h1,h2⟩:=ih k (i+1) (by omega) (by omega)
      cases hg:good i
      · refine ⟨rfl, ⟨fun h => (by cases h), fun h => ?_⟩⟩
        have:=h.1 i (Nat.le_refl _) (by omega)
        rw [hg] at this;cases this
      · refine ⟨h1, h2.trans ⟨fun h => ⟨fun j hj1 hj2 => ?_, h.2⟩, fun h => ⟨fun j hj1 hj2 => h.1 j (by omega) hj2, h.2⟩⟩⟩
        by_cases hji:j=i
        · rw [hji];exact hg
        · exact h.1 j (by omega) hj2
  have:=key n Fuel 0 (by omega) (by simp only [Fuel];omega)
  simpa using this

end Go.Pm
namespace Go.Pm
open Go Go.Deep

theorem zBp (b o i j:Nat):((⟨b,o,none⟩:Addr).add i).add j=⟨b,o+i+j,none⟩:=by
 simp only [Addr.add]
 by_cases h1:i=0
 ·subst h1
  by_cases h2:j=0
  ·subst h2;rfl
  ·rw [if_neg h2];rfl
 ·rw [if_neg h1]
  by_cases h2:j=0
  ·subst h2;rfl
  ·rw [if_neg h2]
def H0 (w:World):Fz:=fun b=>(w.heap[b]?).map .fz
theorem hw_H0 (w:World):Hw (H0 w) w:=by
 intro b x h
 unfold H0 at h
 cases e:w.heap[b]? with
 | none=>rw [e] at h;cases h
 | some o=>rw [e] at h;cases h;exact ⟨o,rfl,rfl⟩
def wfI (x:Int):Prop:=-9223372036854775808≤x∧x≤9223372036854775807
section
variable {H:Type} {en:TypeId×Value→H} {P:Program} {w:World} {sp:Nat→Bool} {held:Bool}
def Rd (H:Type) (en:TypeId×Value→H) (P:Program) (w:World) (sp:Nat→Bool) (held:Bool) (t:TypeId) {α:Type} (enc:α→List PV) (wf:α→Prop):Prop :=
 ∀ (fuel:Nat) (cs:List Value) (x:DataW H×List MemPlace),DataW.trod en P w 0 sp held fuel t cs=some x→∃ a:α,RL (Rep (H0 w)) (enc a) cs∧wf a
theorem zIL {t:TypeId} (ht:P.underlying t=some (.int .i64)):Rd H en P w sp held t (fun x=>[.int .i64 x]) wfI:=by
 intro fuel cs x h
 obtain ⟨n,rfl,_,hw⟩:=DataW.trod_int ht h
 refine ⟨n,⟨.int _ _,trivial⟩,?_⟩
 simp only [Lit.wf,Bool.and_eq_true,decide_eq_true_eq] at hw
 exact ⟨hw.1,hw.2⟩
theorem zvP {t : TypeId} {fs : Array Field} (ht : P.underlying t = some (.struct fs)) {fuel : Nat} {cs : List Value} {x : DataW H × List MemPlace} (h : DataW.trod en P w 0 sp held fuel t cs = some x) :
  cs.length=P.cellsOf t∧∀ (i:Nat) (f:Field),fs[i]? = some f→∃ n y,DataW.trod en P w 0 sp held n f.type ((cs.drop f.offset).take (P.cellsOf f.type))=some y:=by
 obtain ⟨xs,n,_,_,hl,hx,hf⟩:=DataW.trod_struct ht h
 refine ⟨hl,fun i f hi=>?_⟩
 have hlt:i < xs.length:=by rw [hx];exact (Array.getElem?_eq_some_iff.1 hi).1
 exact ⟨n,xs[i],by rw [hf i f hi,List.getElem?_eq_getElem hlt]⟩
theorem zBq {t e : TypeId} {α : Type} [Inhabited α] {enc : α → List PV} {wf : α → Prop} {s : Nat} (ht : P.underlying t = some (.slice e)) (hc : P.cellsOf e = s) (hs : 0 < s) (hlen : ∀ a, (enc a).length = s)
    (hel:Rd H en P w sp held e enc wf):Rd H en P w sp held t (fun x:Sl α=>[.sl x.len s (fun i=>enc (x.get i))]) (fun x=>x.len≤9223372036854775807∧∀ i,i < x.len→wf (x.get i)):=by
  intro fuel cs x h
  rcases open_slice ht h with ⟨rfl,_⟩ | ⟨a,len,cap,m,n,D,Pl,rfl,_,hl,hm,hmm,_,hget⟩
  · exact ⟨⟨0,default⟩,⟨.sl0 _ _,trivial⟩,Nat.zero_le _,fun i hi=>absurd hi (Nat.not_lt_zero i)⟩
  · by_cases h0 : len = 0
    · subst h0
      exact ⟨⟨0,default⟩,⟨.sle _ _ _ _,trivial⟩,Nat.zero_le _,fun i hi=>absurd hi (Nat.not_lt_zero i)⟩
    · have hlm : len ≤ m := by rw [hmm]; split <;> omega
      rw [hc] at hget
      have hex:∀ i,i < len→∃ y:α,(∃ cs',w.cells? 0 (a.add (i * s)) s=some cs'∧RL (Rep (H0 w)) (enc y) cs')∧wf y:=by
        intro i hi
        obtain ⟨cs',h1,h2⟩:=hget i (by omega)
        obtain ⟨y,h3,h4⟩:=hel _ _ _ h2
        exact ⟨y,⟨cs',h1,h3⟩,h4⟩
      have hch:∃ f:Nat→α,∀ i,i < len→(∃ cs',w.cells? 0 (a.add (i * s)) s=some cs'∧RL (Rep (H0 w)) (enc (f i)) cs')∧wf (f i):=by
        refine ⟨fun i=>if hi:i < len then Classical.choose (hex i hi) else default,fun i hi=>?_⟩
        simp only [dif_pos hi]
        exact Classical.choose_spec (hex i hi)
      obtain ⟨f,hf⟩:=hch
      -- the block
      have hcell:∀ i,i < len→∀ j,j < s→∃ cs',w.cells? 0 (a.add (i * s)) s=some cs'∧RL (Rep (H0 w)) (enc (f i)) cs'∧w.cell? ((a.add (i * s)).add j)=cs'[j]?∧cs'.length=s:=by
        intro i hi j hj
        obtain ⟨⟨cs',h1,h2⟩,_⟩:=hf i hi
        obtain ⟨_,h3,h4⟩:=World.cells?_some h1
        exact ⟨cs',h1,h2,h4 j hj,h3⟩
      obtain ⟨cs0,_,_,hc0,hl0⟩:=hcell 0 (by omega) 0 hs
      have ha0:w.cell? a=cs0[0]?:=by simpa [Addr.add] using hc0
      rw [List.getElem?_eq_getElem (by omega)] at ha0
      obtain ⟨C,ty,fr,hblk,hspot⟩:∃ C ty fr,w.heap[a.block]? = some (.cells C ty fr)∧a.spot=none:=by
        unfold World.cell? at ha0
        split at ha0
        · rename_i C ty fr hb
          refine ⟨C,ty,fr,hb,?_⟩
          cases hsp:a.spot with
          | none=>rfl
          | some k=>rw [hsp] at ha0;simp at ha0
        · cases ha0
      have ea:a=⟨a.block,a.off,none⟩:=by rw [← hspot]
      have hat:∀ i j,i < len→j < s→∃ cs',RL (Rep (H0 w)) (enc (f i)) cs'∧C[a.off+i * s+j]? = cs'[j]?∧cs'.length=s:=by
        intro i j hi hj
        obtain ⟨cs',_,h2,h3,h4⟩:=hcell i hi j hj
        refine ⟨cs',h2,?_,h4⟩
        rw [← h3]
        have e2:(a.add (i * s)).add j=⟨a.block,a.off+i * s+j,none⟩:=(congrArg (fun z:Addr=>(z.add (i * s)).add j) ea).trans (zBp _ _ _ _)
        rw [e2]
        simp [World.cell?,hblk]
      refine ⟨⟨len,f⟩,⟨?_,trivial⟩,by simp only [maxLen] at hm;show len≤_;omega,fun i hi=>(hf i hi).2⟩
      rw [ea]
      refine .sl len s _ a.block a.off cap C ty fr (fun i j=>C.getD (a.off+i * s+j) undef) (by simp [H0,hblk]) hl (fun i _=>hlen _) ?_ ?_
      · intro i j x hi hx
        have hj:j < s:=by have:=(List.getElem?_eq_some_iff.1 hx).1;rw [hlen] at this;exact this
        obtain ⟨cs',h1,h2,h3⟩:=hat i j hi hj
        rw [Array.getD_eq_getD_getElem?,h2,List.getElem?_eq_getElem (by omega)]
        rfl
      · intro i j x hi hx
        have hj:j < s:=by have:=(List.getElem?_eq_some_iff.1 hx).1;rw [hlen] at this;exact this
        obtain ⟨cs',h1,h2,h3⟩:=hat i j hi hj
        obtain ⟨v,hv,hr⟩:=h1.get j x hx
        rw [Array.getD_eq_getD_getElem?,h2,hv]
        exact hr
theorem zhN {α:Type} (l:List α) (o s:Nat):l.drop o=(l.drop o).take s ++ l.drop (o+s):=by
 rw [← List.drop_drop]
 exact (List.take_append_drop s (l.drop o)).symm
def zLP : TypeDesc → Bool
  | .struct _=>false
  | .array _ _=>false
  | _=>true
theorem okWide_one {t:TypeId} {d:TypeDesc} {r:Reach} {base:Nat} {v:Value} (ht:P.underlying t=some d) (hd:zLP d=true) (h:Value.okWide P w r base t v):v.cells.toList=[v]:=by
 unfold Value.okWide at h
 rw [ht] at h
 cases v with
 | agg cs =>
  exfalso
  cases d <;> first | (cases hd;done) | (simp only [Cell.okWide,Cell.ok,ht] at h)
 | _=>rfl
theorem pa_one {h:Fz} {p:PV} {v:Value} (hv:v.cells.toList=[v]) (r:RL (Rep h) [p] v.cells.toList):paR h (.one p) v:=by
 rw [hv] at r
 exact r.1
theorem below_H0 {w':World} (b:Bel (H0 w) w.heap.size w w'):Go.RowKit.Below w.heap.size w w' :=
 ⟨b.os,b.tape,b.output,b.size,fun k hk=>b.block k hk fun F e=>by
  unfold H0 at e
  cases hb:w.heap[k]? <;> rw [hb] at e <;> cases e⟩
end
end Go.Pm
/-
  DERIVED: THE SHELF's CONTRACTS AT THIS DUMP,IN PLAIN WORDS (tools/lay-plain.mjs out of 'YtkpjhhoafenogaaLs.lean',which tools/lay-shelf.mjs wrote): THE SAME DECLARATIONS UNDER THE SAME NAMES: 'import','namespace','open','def','theorem' AND NOTHING ELSE: no command of the shelf's: FOR A HAND-IN. Each laying: the table of numbers ('.._ren') and one theorem,a field a fact of the dump's own or the kernel's comparison;each contract: ONE APPLICATION.
-/
namespace Go.Proofs
open Go.Shelf
def Try.laysS106_ren:Go.Shelf.Ren:=⟨fun | 6=>106 | 15=>122 | 14=>121 | 28=>132 | 29=>133 | 20=>124 | 21=>125 | 22=>126 | 23=>127 | 24=>128 | 25=>129 | 26=>130 | 27=>131 | 46=>134 | 47=>135 | 48=>136 | 49=>137 | 50=>138 | 57=>139 | n=>n,fun | 22=>102 | 24=>118 | 25=>147 | 3=>3 | 39=>156 | 0=>0 | 53=>166 | 55=>168 | 4=>4 | 46=>159 | 45=>158 | 50=>163 | 5=>5 | 9=>9 | 66=>169 | 70=>173 | 76=>175 | 77=>143 | n=>n,fun | n=>n⟩
theorem Try.laysS106 : Go.Proofs.SlLaysF0.n6 Try.prog Try.laysS106_ren := {
  mixed:=by kernel_rfl
  f6:=⟨Try.f106.name,by decide,Try.func106.trans (congrArg some (by kernel_rfl))⟩
  f14:=⟨Try.f121.name,by decide,Try.func121.trans (congrArg some (by kernel_rfl))⟩
  f15:=Try.func122.trans (congrArg some (by kernel_rfl))
  f20:=⟨Try.f124.name,by decide,Try.func124.trans (congrArg some (by kernel_rfl))⟩
  f21:=⟨Try.f125.name,by decide,Try.func125.trans (congrArg some (by kernel_rfl))⟩
  f22:=⟨Try.f126.name,by decide,Try.func126.trans (congrArg some (by kernel_rfl))⟩
  f23:=⟨Try.f127.name,by decide,Try.func127.trans (congrArg some (by kernel_rfl))⟩
  f24:=⟨Try.f128.name,by decide,Try.func128.trans (congrArg some (by kernel_rfl))⟩
  f25:=⟨Try.f129.name,by decide,Try.func129.trans (congrArg some (by kernel_rfl))⟩
  f26:=⟨Try.f130.name,by decide,Try.func130.trans (congrArg some (by kernel_rfl))⟩
  f27:=⟨Try.f131.name,by decide,Try.func131.trans (congrArg some (by kernel_rfl))⟩
  f28:=Try.func132.trans (congrArg some (by kernel_rfl))
  f29:=Try.func133.trans (congrArg some (by kernel_rfl))
  f46:=⟨Try.f134.name,by decide,Try.func134.trans (congrArg some (by kernel_rfl))⟩
  f47:=Try.func135.trans (congrArg some (by kernel_rfl))
  f48:=Try.func136.trans (congrArg some (by kernel_rfl))
  f49:=⟨Try.f137.name,by decide,Try.func137.trans (congrArg some (by kernel_rfl))⟩
  f50:=⟨Try.f138.name,by decide,Try.func138.trans (congrArg some (by kernel_rfl))⟩
  f57:=⟨Try.f139.name,by decide,Try.func139.trans (congrArg some (by kernel_rfl))⟩
  t0:=Try.underlying0
  a0:=Try.isAgg0
  z0:=Try.sizeOf0
  v0:=Try.zeroValue0
  t3:=Try.underlying3
  a3:=Try.isAgg3
  z3:=Try.sizeOf3
  v3:=Try.zeroValue3
  t4:=Try.underlying4
  a4:=Try.isAgg4
  z4:=Try.sizeOf4
  v4:=Try.zeroValue4
  t5:=Try.underlying5
  a5:=Try.isAgg5
  z5:=Try.sizeOf5
  v5:=Try.zeroValue5
  t9:=Try.underlying9
  a9:=Try.isAgg9
  z9:=Try.sizeOf9
  v9:=Try.zeroValue9
  t22:=Try.underlying102
  a22:=Try.isAgg102
  z22:=Try.sizeOf102
  v22:=Try.zeroValue102
  t25:=Try.underlying147
  a25:=Try.isAgg147
  z25:=Try.sizeOf147
  v25:=Try.zeroValue147
  t39:=Try.underlying156
  a39:=Try.isAgg156
  z39:=Try.sizeOf156
  v39:=Try.zeroValue156
  t45:=Try.underlying158
  a45:=Try.isAgg158
  z45:=Try.sizeOf158
  v45:=Try.zeroValue158
  t46:=Try.underlying159
  a46:=Try.isAgg159
  z46:=Try.sizeOf159
  v46:=Try.zeroValue159
  t50:=Try.underlying163
  a50:=Try.isAgg163
  z50:=Try.sizeOf163
  v50:=Try.zeroValue163
  t53:=Try.underlying166
  a53:=Try.isAgg166
  z53:=Try.sizeOf166
  v53:=Try.zeroValue166
  t55:=Try.underlying168
  a55:=Try.isAgg168
  z55:=Try.sizeOf168
  v55:=Try.zeroValue168
  t66:=Try.underlying169
  a66:=Try.isAgg169
  z66:=Try.sizeOf169
  v66:=Try.zeroValue169
  t70:=Try.underlying173
  a70:=Try.isAgg173
  z70:=Try.sizeOf173
  v70:=Try.zeroValue173
  t76:=Try.underlying175
  a76:=Try.isAgg175
  z76:=Try.sizeOf175
  v76:=Try.zeroValue175
  t77:=Try.underlying143
  a77:=Try.isAgg143
  z77:=Try.sizeOf143
  v77:=Try.zeroValue143 }
end Go.Proofs
namespace Go.Pm
open Go.Shelf Go.RowKit Go.Lib Go.Sort Go.Proofs

section perm
variable {c:Nat→Nat→Int}
theorem zha (x : Nat) : ∀ l : List Nat, (zAJ c x l).Perm (x :: l)
  | []=>.refl _
  | y :: r=>by
    unfold zAJ
    split
    · exact .refl _
    · exact ((zha x r).cons y).trans (.swap _ _ _)
theorem zhO (n:Nat):(ziM n c).Perm (List.range n):=by
 unfold ziM
 generalize List.range n=l
 induction l with
 | nil=>exact .refl _
 | cons x l ih=>exact (zha x _).trans (ih.cons x)
def leB (c:Nat→Nat→Int) (a b:Nat):Prop:=¬ c b a < 0
theorem zvQ {n : Nat} (H : STO n c) {x : Nat} (hx : x < n) : ∀ {l : List Nat}, (∀ y ∈ l, y < n) → l.Pairwise (leB c) → (zAJ c x l).Pairwise (leB c)
  | [],_,_=>by simp [zAJ]
  | y :: r,hl,hp=>by
    have hy:=hl y List.mem_cons_self
    rw [List.pairwise_cons] at hp
    unfold zAJ
    split
    · rename_i h
      have h:=of_decide_eq_true h
      rw [List.pairwise_cons]
      refine ⟨fun z hz=>?_,List.pairwise_cons.2 hp⟩
      have hxy:leB c x y:=fun h2=>by
        have:=H.1 x hx
        have:=H.2.2 x y x hx hy hx h h2
        omega
      rcases List.mem_cons.1 hz with rfl | hz
      · exact hxy
      · intro h2
        exact hp.1 z hz (H.2.2 z x y (hl z (List.mem_cons_of_mem _ hz)) hx hy h2 h)
    · rename_i h
      have h:=of_decide_eq_false h
      rw [List.pairwise_cons]
      refine ⟨fun z hz=>?_,zvQ H hx (fun z hz=>hl z (List.mem_cons_of_mem _ hz)) hp.2⟩
      rcases List.mem_cons.1 ((zha x r).mem_iff.1 hz) with rfl | hz
      · exact h
      · exact hp.1 z hz
theorem zs3 {n:Nat} (H:STO n c):(ziM n c).Pairwise (leB c):=by
 have key:∀ l:List Nat,(∀ y∈l,y < n)→(l.foldr (zAJ c) []).Pairwise (leB c)∧∀ y∈l.foldr (zAJ c) [],y < n:=by
  intro l
  induction l with
  | nil=>intro _;exact ⟨List.Pairwise.nil,fun y hy=>by simp at hy⟩
  | cons x l ih =>
   intro h
   obtain ⟨h1,h2⟩:=ih fun y hy=>h y (List.mem_cons_of_mem _ hy)
   have hx:=h x List.mem_cons_self
   refine ⟨zvQ H hx h2 h1,fun y hy=>?_⟩
   rcases List.mem_cons.1 ((zha x _).mem_iff.1 hy) with rfl | hy
   ·exact hx
   ·exact h2 y hy
 exact (key _ fun y hy=>List.mem_range.1 hy).1
theorem zus {n:Nat} (H:STO n c) {l:List Nat} (hp:l.Perm (List.range n)) (hs:l.Pairwise (leB c)):l=ziM n c:=by
 refine List.Perm.eq_of_pairwise (le:=leB c) (fun a b ha hb h1 h2=>?_) hs (zs3 H) (hp.trans (zhO n).symm)
 have ha:=List.mem_range.1 (hp.mem_iff.1 ha)
 have hb:=List.mem_range.1 ((zhO n).mem_iff.1 hb)
 by_cases e:a=b
 ·exact e
 ·rcases H.2.1 a b ha hb e with h | h
  ·exact absurd h.1 h2
  ·exact absurd h.1 h1
end perm

theorem zvR {w w':World} (h1:w'.heap=w.heap) (h2:w'.tape=w.tape) (h3:w'.drawn=w.drawn) (h4:w'.os=w.os) (h5:w'.output=w.output):w'=w:=by
 cases w;cases w';simp_all
theorem zBr {w w':World} {h:Fz} (b:Bel h w.heap.size w w') (hi:∀ k F,h k ≠ some (.inv F)):∃ q os,w'=grow (w.drewN q) os:=by
 refine ⟨w'.drawn - w.drawn,w'.heap.extract w.heap.size w'.heap.size,zvR ?_ b.tape ?_ b.os b.output⟩
 ·show w'.heap = w.heap ++ w'.heap.extract w.heap.size w'.heap.size
  apply Array.ext_getElem?
  intro i
  rw [Array.getElem?_append]
  split
  ·rename_i hl;exact b.block i hl (fun F=>hi i F)
  ·rename_i hl
   rw [Array.getElem?_extract]
   by_cases hlt:i < w'.heap.size
   ·rw [if_pos (by omega)];congr 1;omega
   ·rw [if_neg (by omega),Array.getElem?_eq_none (by omega)]
 ·show w'.drawn = w.drawn + (w'.drawn - w.drawn)
  have:=b.drawn;omega

theorem zoW {w : World} {g q : Nat} {cur : Array Value} {e : TypeId} {fr : Nat × Nat} {off : Nat} (F : Array Value) (hb : w.heap[g]? = some (.cells cur e fr)) :
  ∃ cur',(putRow id (Sort.ahead w q) g off F).heap[g]? = some (.cells cur' e fr)∧cur'.size=cur.size:=by
 refine ⟨putCells id off F cur,?_,by simp [putCells]⟩
 simp [putRow,mapBlock,Sort.ahead,Array.getElem?_modify,hb,onCells]
theorem zjX {w:World} {g q off:Nat} (F:Array Value) {k:Nat} (hk:k ≠ g):(putRow id (Sort.ahead w q) g off F).heap[k]? = w.heap[k]?:=by
 simp [putRow,mapBlock,Sort.ahead,Array.getElem?_modify,Ne.symm hk]

theorem zvS {P:Program} {ρ:Ren} (L:SlLaysF0.n6 P ρ) {e s b:Nat} (he:ρ.t 24=e) (hag:zew P e=some true) (hsz:szT P e=some s) (hM : ¬ zoh) (hc:zah P (ρ.f 6)):zmm P (ρ.f 6) (.sort e s b):=by
 intro w h base v n get gf caps cv ag C hC hcv hag' _ hpos ⟨xs,hown,hr⟩ hone hw hob hbase hn hS hO
 rw [hag] at hag';simp only [Option.some.injEq] at hag';subst hag'
 refine ⟨hc,?_⟩
 have hni:∀ k F,h k ≠ some (.inv F):=fun k F hk=>by obtain ⟨o,_,ho⟩:=hw k _ hk;exact hM ho.2
 have hdr:∀ (w':World) (k:Nat),w.drawn≤w.drawn+k:=fun _ k=>Nat.le_add_right _ _
 have none:∀ (p:Option Addr) (cap:Nat),n=0→v=.slice p 0 cap→Calls P (ρ.f 6) #[v,.func (.func gf) #[] cv.toArray] w fun r w'=>r=.returned (.tuple #[])∧zH4 h w' base e s v n (zpB n (zuJ C caps true get) get)∧GrB w w' v.ownBlock:=by
  rintro p cap rfl rfl
  refine (AnyF.slices_SortFunc_none L p cap _ w).mono ?_
  rintro r w' ⟨rfl,rfl⟩
  exact ⟨rfl,⟨xs,hown,fun i hi=>absurd hi (Nat.not_lt_zero i)⟩,⟨rfl,rfl,rfl,Nat.le_refl _,fun _ _ _=>rfl⟩,Nat.le_refl _⟩
 rcases hown.2 with ⟨h1,h2⟩ | ⟨blk,cap,cur,rfl,hb,hcell,hncap,hcap,hcs,htk⟩
 ·exact none _ _ h2 h1
 by_cases hn0:n=0
 ·subst hn0;exact none _ _ rfl rfl
 have:Inhabited (Fin n):=⟨⟨0,by omega⟩⟩
 let enc:Fin n→List Value:=fun i=>(xs.drop (i.val * s)).take s
 let c:=zuJ C caps true get
 let cf:Fin n→Fin n→Int:=fun x y=>c x.val y.val
 let d:Array (Fin n):=Array.ofFn id
 have hds:d.size=n:=Array.size_ofFn
 have hdi:∀ i (hi:i < n),d[i]! = ⟨i,hi⟩:=fun i hi=>by
  rw [getElem!_pos d i (by rw [hds];exact hi)];simp [d]
 have hlt:blk < w.heap.size:=(Array.getElem?_eq_some_iff.1 hcell).1
 have hbn:h blk=Option.none:=hob blk rfl
 have hmul:∀ i,i < n→i * s+s≤n * s:=fun i hi=>by have:=Nat.mul_le_mul_right s (Nat.succ_le_of_lt hi);rw [Nat.succ_mul] at this;exact this
 have hk:∀ x,(enc x).length=s:=fun x=>by
  have:=hmul x.val x.isLt
  simp only [enc,List.length_take,List.length_drop,hown.1];omega
 have hcur:∀ j,j < n * s→cur[j]? = xs[j]?:=fun j hj=>by
  have:(cur.toList.take (n * s))[j]? = xs[j]?:=by rw [htk]
  rw [List.getElem?_take,if_pos hj] at this;simpa using this
 have hxl:∀ j,j < n * s→∃ u,xs[j]? = some u:=fun j hj=>⟨xs[j]'(by rw [hown.1];exact hj),List.getElem?_eq_getElem _⟩
 have h1:∀ x,∀ u∈enc x,u.oneCell'=true:=fun x u hu=>by
  obtain ⟨j,hj⟩:=List.getElem?_of_mem hu
  obtain ⟨p,_,hp⟩:=(hr x.val x.isLt).get' j u hj
  exact hp.one
 have hflat:∀ j (hj:j < n * s),(flatK enc s d)[j]! = xs[j]'(by rw [hown.1];exact hj):=fun j hj=>by
  have hq:j / s < n:=Nat.div_lt_of_lt_mul (by rw [Nat.mul_comm];exact hj)
  rw [get_flatK _ _ _ _ (by rw [hds];exact hj),hdi _ hq]
  have hm:=Nat.mod_lt j hpos
  have hdm:=Nat.div_add_mod j s
  rw [getElem!_pos _ _ (by rw [hk];exact hm)]
  simp only [enc,List.getElem_take,List.getElem_drop]
  congr 1
  rw [Nat.mul_comm];exact hdm
 have hH:HoldsK enc s w blk 0 d:=fun j hj=>by
  have hj:j < n * s:=by rw [size_flatK,hds] at hj;exact hj
  refine ⟨?_,frozen_of_row w blk _ cur e hcell⟩
  rw [hflat j hj,cell_of hcell,Nat.zero_add,hcur j hj]
  exact List.getElem?_eq_getElem _
 have eg:∀ args w,(callFunc gf args).run P w=.ok (.enter gf args) w:=by
  have hcg:zah P gf:=by
   have hs0:=hS 0 0 (by omega) (by omega)
   unfold zH3 at hs0
   split at hs0
   ·rename_i s0 c0 hat
    have hwp:(C (elP true (get 0) :: elP true (get 0) :: caps.map .one)).wp (fun _=>True):=by
     unfold zAI at hat
     split at hat
     ·rename_i e1;rw [e1];trivial
     ·rename_i e1;simp only [Option.some.injEq,Prod.mk.injEq] at hat;rw [e1];exact ⟨by rw [hat.1];exact hs0,trivial⟩
     ·cases hat
    exact (hC _ _ hwp w h (.agg (enc ⟨0,by omega⟩).toArray :: .agg (enc ⟨0,by omega⟩).toArray :: cv) ⟨⟨_,rfl,hr 0 (by omega)⟩,⟨_,rfl,hr 0 (by omega)⟩,RL.map_left.2 hcv⟩ hw).1
   ·exact hs0.elim
  exact fun args w=>zdg hcg
 have hcmp:CmpLays P gf cv.toArray enc s cf blk 0 d.size w:=by
  intro m os dk hdk x y
  have hs0:=hS x.val y.val x.isLt y.isLt
  unfold zH3 at hs0
  split at hs0
  ·rename_i s0 c0 hat
   have hwp:(C (elP true (get x.val) :: elP true (get y.val) :: caps.map .one)).wp (fun rs=>rs=[.one (.int .i64 (cf x y))]):=by
    have hcv:cf x y=c0:=by show zuJ C caps true get x.val y.val=c0;unfold zuJ;rw [hat]
    rw [hcv]
    unfold zAI at hat
    split at hat
    ·rename_i e1;simp only [Option.some.injEq,Prod.mk.injEq] at hat;rw [e1,hat.2];rfl
    ·rename_i e1;simp only [Option.some.injEq,Prod.mk.injEq] at hat;rw [e1,hat.2];exact ⟨by rw [hat.1];exact hs0,rfl⟩
    ·cases hat
   have hwh:Hw h (sortWorldK enc s w blk 0 m dk os):=hw.same fun k o hk=>by
    have hkb:k ≠ blk:=fun e=>by rw [e,hbn] at hk;cases hk
    have hkl:=hw.lt hk
    show ((putRow id (Sort.ahead w m) blk 0 (flatK enc s dk)).heap ++ os)[k]? = _
    rw [Array.getElem?_append_left (by simpa [putRow,mapBlock,Sort.ahead] using hkl)]
    exact zjX _ hkb
   obtain ⟨_,hrun⟩:=hC _ _ hwp (sortWorldK enc s w blk 0 m dk os) h (.agg (enc x).toArray :: .agg (enc y).toArray :: cv) ⟨⟨_,rfl,hr x.val x.isLt⟩,⟨_,rfl,hr y.val y.isLt⟩,RL.map_left.2 hcv⟩ hwh
   rw [show (#[Value.agg (enc x).toArray,.agg (enc y).toArray] ++ cv.toArray)=(Value.agg (enc x).toArray :: .agg (enc y).toArray :: cv).toArray by simp]
   refine hrun.mono ?_
   rintro e' w' ⟨h',rs,v',hrs,rfl,hres,hbel,_,_,_⟩
   subst hrs
   have hv':v'=.int .i64 (cf x y):=by
    have:Rep h' (.int .i64 (cf x y)) v':=hres
    cases this;rfl
   subst hv'
   exact ⟨rfl,zBr hbel hni⟩
  ·exact hs0.elim
 have hSWO:SWO (ltOf cf):=by
  refine ⟨fun x=>?_,fun x y z hxy hyz=>?_,fun x y z hxy hyz=>?_⟩
  ·have : 0 ≤ c x.val x.val := hO.1 x.val x.isLt
   simp only [ltOf,decide_eq_false_iff_not];show ¬ c x.val x.val < 0;omega
  ·simp only [ltOf, decide_eq_true_eq] at hxy hyz ⊢
   exact hO.2.2 _ _ _ x.isLt y.isLt z.isLt hxy hyz
  ·simp only [ltOf, decide_eq_false_iff_not] at hxy hyz ⊢
   intro hxz
   have hxy : ¬ c x.val y.val < 0:=hxy
   have hyz : ¬ c y.val z.val < 0:=hyz
   have hxz:c x.val z.val < 0:=hxz
   by_cases e1:y.val=z.val
   ·rw [e1] at hxy;exact hxy hxz
   ·by_cases e2 : x.val = y.val
    ·rw [e2] at hxz;exact hyz hxz
    ·have a1 : c z.val y.val < 0 := by rcases hO.2.1 y.val z.val y.isLt z.isLt e1 with h | h; exact absurd h.1 hyz; exact h.1
     exact hxy (hO.2.2 _ _ _ x.isLt z.isLt y.isLt hxz a1)
 have aE:∀ w,(isAgg (ρ.t 24)).run P w=.ok true w:=fun w=>by rw [he];exact zdL hag
 have zE:∀ w,(Go.sizeOf (ρ.t 24)).run P w=.ok s w:=fun w=>by rw [he];exact run_sizeOf hsz
 have hrun:=AnyQ.slices_SortFunc L s aE zE enc hk h1 cf hSWO gf cv.toArray blk 0 cap d w eg hcmp hH hlt (by rw [hds];omega)
 rw [hds] at hrun
 refine hrun.mono ?_
 rintro r w' ⟨rfl,d',m,os,hperm,hsort,rfl⟩
 obtain ⟨hps,_,hpp⟩:=hperm
 have hd's:d'.size=n:=by rw [hps,hds]
 have hall:∀ (z:Array (Fin n)),z.size=n→z.extract 0 n=z:=fun z hz=>Array.ext (by simp [hz]) (fun i h1 h2=>by simp)
 rw [hall d' hd's,hall d hds] at hpp
 have hl:d'.toList.map Fin.val=ziM n c:=by
  refine zus hO ?_ ?_
  ·refine (hpp.map Fin.val).trans ?_
   have:d.toList.map Fin.val=List.range n:=by
    apply List.ext_getElem?
    intro i
    simp only [d,List.getElem?_map]
    by_cases hi:i < n
    ·simp [hi]
    ·rw [List.getElem?_eq_none (by simp;omega),List.getElem?_eq_none (by simp;omega)];rfl
   rw [this]
  ·rw [List.pairwise_map, List.pairwise_iff_getElem]
   intro i j hi hj hij
   have hi':i < n:=by simpa [hd's] using hi
   have hj':j < n:=by simpa [hd's] using hj
   have:=hsort i j (Nat.zero_le _) hij hj'
   rw [getElem!_pos d' j (by omega),getElem!_pos d' i (by omega)] at this
   simp only [ltOf,decide_eq_false_iff_not] at this
   exact this
 have hget:∀ i (hi:i < n),zpB n c get i=get (d'[i]'(by omega)).val:=fun i hi=>by
  unfold zpB
  rw [← hl]
  congr 1
  rw [List.getD_eq_getElem?_getD,List.getElem?_map]
  simp [hd's,hi]
 obtain ⟨cur',hcell',hsz'⟩:=zoW (q:=m) (off:=0) (flatK enc s d') hcell
 have hgrow:(sortWorldK enc s w blk 0 m d' os).heap[blk]? = some (.cells cur' e (0,0)):=by
  show ((putRow id (Sort.ahead w m) blk 0 (flatK enc s d')).heap ++ os)[blk]? = _
  rw [Array.getElem?_append_left (by simpa [putRow,mapBlock,Sort.ahead] using hlt)]
  exact hcell'
 have hH':HoldsK enc s (sortWorldK enc s w blk 0 m d' os) blk 0 d':=holdsK_sortWorldK_c enc s w blk 0 d d' m os hH hlt (by rw [hd's,hds])
 have hcur':∀ j (hj:j < n * s),cur'[j]? = some ((flatK enc s d')[j]!):=fun j hj=>by
  have:=(hH' j (by rw [size_flatK,hd's];exact hj)).1
  rw [cell_of hgrow,Nat.zero_add] at this
  exact this
 refine ⟨rfl,⟨cur'.toList.take (n * s),⟨by rw [List.length_take,Array.length_toList,hsz',hcs];exact Nat.min_eq_left (Nat.mul_le_mul_right s hncap),.inr ⟨blk,cap,cur',rfl,hb,hgrow,hncap,hcap,by rw [hsz',hcs],rfl⟩⟩,fun i hi=>?_⟩,?_⟩
 ·have e1:((cur'.toList.take (n * s)).drop (i * s)).take s=enc (d'[i]'(by omega)):=by
   apply List.ext_getElem?
   intro j
   have hm:=hmul i hi
   rw [List.getElem?_take]
   split
   ·rename_i hj
    rw [List.getElem?_drop,List.getElem?_take,if_pos (by omega),Array.getElem?_toList,hcur' _ (by omega)]
    have hdiv:(i * s+j) / s=i:=by rw [Nat.mul_comm,Nat.mul_add_div hpos,Nat.div_eq_of_lt hj,Nat.add_zero]
    have hmod:(i * s+j) % s=j:=by rw [Nat.mul_comm,Nat.mul_add_mod,Nat.mod_eq_of_lt hj]
    rw [get_flatK _ _ _ _ (by rw [hd's];omega),hdiv,hmod,getElem!_pos d' i (by omega),getElem!_pos _ _ (by rw [hk];exact hj)]
    exact (List.getElem?_eq_getElem _).symm
   ·rename_i hj
    rw [List.getElem?_eq_none (by rw [hk];omega)]
  rw [e1,hget i hi]
  exact hr _ (d'[i]'(by omega)).isLt
 ·refine ⟨⟨rfl, rfl, rfl, ?_, fun k hk hne => ?_⟩, Nat.le_add_right _ _⟩
  ·show w.heap.size ≤ ((putRow id (Sort.ahead w m) blk 0 (flatK enc s d')).heap ++ os).size
   simp [putRow,mapBlock,Sort.ahead]
  ·show ((putRow id (Sort.ahead w m) blk 0 (flatK enc s d')).heap ++ os)[k]? = _
   rw [Array.getElem?_append_left (by simpa [putRow,mapBlock,Sort.ahead] using hk)]
   exact zjX _ fun e=>hne (by rw [e];rfl)
end Go.Pm
namespace Go.Pm

abbrev zI (x:Int):DV:=.one (.c (.p (.int .i64 x)))
abbrev zB (x:Bool):DV:=.one (.c (.p (.bool x)))
abbrev zP (x:PV):DV:=.one (.c (.p x))
abbrev zp (L k:Nat):DV:=.one (.c (.ptr L k))
abbrev zv (L:Nat):DV:=.one (.c (.vec L))
abbrev zs {α:Type} (enc:α→List PV) (s:Nat) (x:Sl α):PV:=.sl x.len s (fun i=>enc (x.get i))
abbrev zS {α:Type} (enc:α→List PV) (s:Nat) (x:Sl α):DV:=zP (zs enc s x)
abbrev zm (l:List PV):List Cl:=l.map Cl.p
abbrev zi (x:Int):Cl:=.p (.int .i64 x)
abbrev zg {α:Type} (enc:α→List PV) (x:Sl α):Nat→List PV:=fun i=>enc (x.get i)
abbrev zK (a b:List Nat):Keep:=⟨a,b,[],[],[],[],[]⟩
theorem zE {α:Type} (enc:α→List PV) (size:Nat) (f:Nat→α):IsE enc size size (fun i=>enc (f i)):=⟨rfl,f,rfl⟩

@[reducible] def lpO {A : Type} (d : A) (st : A → A) : Nat → A
  | 0=>d
  | k+1=>st (lpO d st k)
theorem zgj {A B : Type} (a : A) (b : B) (p : A → A) (s : B → B) (M : A → B → Prop) (h0 : M a b) (h1 : ∀ P S, M P S → M (p P) (s S)) : ∀ k, M (lpO a p k) (lpO b s k)
  | 0=>h0
  | k+1=>h1 _ _ (zgj a b p s M h0 h1 k)
section
variable (P:Program) (Γ:Ctrs) (ann:Ann)
def pt : Code → (Exit → St → Prop) → List Nat → List (St → Prop) → St → Prop
  | .seq a b,K,i :: r,X=>match i with | 0=>pt a (sqK P Γ ann b K) r X | _=>pt b K r X
  | .cond _ a b,K,i :: r,X=>match i with | 0=>pt a K r X | _=>pt b K r X
  | .block id b,K,_ :: r,X=>pt b (zbb id K) r X
  | .loop b,K,_ :: r,x :: X=>pt b (zea P ann (zlI b) x K) r X
  | .scope b,K,_ :: r,X=>pt b (zcm K) r X
  | c,K,_,_=>vc P Γ ann c K
def ptF (fn:Func) (K:List PA→Prop) (l:List Nat) (X:List (St→Prop)):St→Prop :=
 match fn.body with
 | some c=>pt P Γ ann c (zcA P fn K) l X
 | none=>fun _=>False
end

theorem zc {b:Bool} {A B:Prop} {S S':Bool} {α:Type} {e:α→List PA} {K:List PA→Prop} {x y:α} (hs:cond b S S'=true) (hk:K (e (cond b x y))) (h1:S=true→K (e x)→A) (h2:S'=true→K (e y)→B):zdd b A B:=by
 cases b
 ·exact h2 hs hk
 ·exact h1 hs hk
theorem zt {b:Bool} {A B:Prop} {α:Type} {e:α→List PA} {K:List PA→Prop} {x y:α} (hk:K (e (cond b x y))) (h1:K (e x)→A) (h2:K (e y)→B):zdd b A B:=by
 cases b
 ·exact h2 hk
 ·exact h1 hk
theorem zl {at_:Prop} {g:St} (B:(St→Prop)→St→Prop) (e:at_ = ∀ X:St→Prop,(∀ s,B X s→X s)→X g) (h:∀ X:St→Prop,(∀ s,B X s→X s)→X g):at_:=e ▸ h
end Go.Pm
namespace Go.Proofs
open Go Go.Pm
set_option maxRecDepth 100000
set_option linter.unusedVariables false
attribute [local irreducible] Go.Pm.vcFun Go.Pm.vc Go.Pm.vcIter
abbrev zak (x:Int):List PV:=[.int .i64 x]
def zLQ : List PV → Int
  | [.int .i64 x]=>x
  | _=>default
def zc4 (g:Nat→List PV):Nat→Int:=fun i=>zLQ (g i)
theorem zdG (f:Nat→Int):zc4 (fun i=>zak (f i))=f:=rfl
structure Gate where
  Z:Int
  Low:Int
  High:Int
deriving Inhabited
abbrev enc_55 (x:Gate):List PV:=[.int .i64 x.Z,.int .i64 x.Low,.int .i64 x.High]
def zIM : List PV → Gate
  | [.int .i64 x_Z,.int .i64 x_Low,.int .i64 x_High]=>(⟨x_Z,x_Low,x_High⟩:Gate)
  | _=>default
def zae (g:Nat→List PV):Nat→Gate:=fun i=>zIM (g i)
theorem zac (f:Nat→Gate):zae (fun i=>enc_55 (f i))=f:=rfl
abbrev zIN (x:(Sl Gate)):List PV:=[.sl x.len 3 (fun i=>enc_55 (x.get i))]
structure Frac where
  Num:Int
  Den:Int
deriving Inhabited
abbrev zad (x:Frac):List PV:=[.int .i64 x.Num,.int .i64 x.Den]
def zIO : List PV → Frac
  | [.int .i64 x_Num,.int .i64 x_Den]=>(⟨x_Num,x_Den⟩:Frac)
  | _=>default
def zgk (g:Nat→List PV):Nat→Frac:=fun i=>zIO (g i)
theorem zeI (f:Nat→Frac):zgk (fun i=>zad (f i))=f:=rfl
structure Line where
  Slope:Frac
  Start:Frac
deriving Inhabited
abbrev zaL (x:Line):List PV:=[.int .i64 x.Slope.Num,.int .i64 x.Slope.Den,.int .i64 x.Start.Num,.int .i64 x.Start.Den]
def zIP : List PV → Line
  | [.int .i64 x_Slope_Num,.int .i64 x_Slope_Den,.int .i64 x_Start_Num,.int .i64 x_Start_Den]=>(⟨(⟨x_Slope_Num,x_Slope_Den⟩:Frac),(⟨x_Start_Num,x_Start_Den⟩:Frac)⟩:Line)
  | _=>default
def zjY (g:Nat→List PV):Nat→Line:=fun i=>zIP (g i)
theorem zeJ (f:Nat→Line):zjY (fun i=>zaL (f i))=f:=rfl
structure Span where
  Low:Int
  High:Int
deriving Inhabited
abbrev zCQ (x:Span):List PV:=[.int .i64 x.Low,.int .i64 x.High]
structure list where
  Gates:(Sl Gate)
deriving Inhabited
abbrev zcf (x:list):List PV:=[.sl x.Gates.len 3 (fun i=>enc_55 (x.Gates.get i))]
structure straight where
  slope:Int
  start:Int
  den:Int
deriving Inhabited
abbrev zaf (x:straight):List PV:=[.int .i64 x.slope,.int .i64 x.start,.int .i64 x.den]
def zEk : List PV → straight
  | [.int .i64 x_slope,.int .i64 x_start,.int .i64 x_den]=>(⟨x_slope,x_start,x_den⟩:straight)
  | _=>default
def za4 (g:Nat→List PV):Nat→straight:=fun i=>zEk (g i)
theorem za0 (f:Nat→straight):za4 (fun i=>zaf (f i))=f:=rfl
structure set where
  list:list
  corners:(Sl straight)
deriving Inhabited
abbrev za8 (x:set):List PV:=[.sl x.list.Gates.len 3 (fun i=>enc_55 (x.list.Gates.get i)),.sl x.corners.len 3 (fun i=>zaf (x.corners.get i))]
abbrev zcR (x:Mp):List PV:=[.fm (true,2,false,[some .i64]) x.n x.F]
end Go.Proofs
namespace Go.Proofs
open Go Go.Pm
set_option maxRecDepth 100000
set_option linter.unusedVariables false
attribute [local irreducible] Go.Pm.vcFun Go.Pm.vc Go.Pm.vcIter
abbrev T74:Tabs:=Tabs.nil
theorem zLR:TabsOk Try.prog T74:=TabsOk.nil
abbrev G74:Ctrs:=csm T74 (fun _ _=>[]) (fun _=>false)
def zIQ:Ann:=⟨15,[(0,zK [0,1,2] []),(1,zK [6] [])],
 [],
 [],
 [],[]⟩
abbrev R74:=Bool
abbrev e74 (r:R74):List PA:=[.one (.bool r)]
section
variable {K:List PA→Prop} {x:Int} {low:Int} {high:Int}
def s74 (x:Int) (low:Int) (high:Int):Bool :=
  (cond (decide (x ≥ low))
 (decide (x≤high))
 false)
end
theorem q74 (x:Int) (low:Int) (high:Int) (K:List PA→Prop) (hk:K (e74 (s74 x low high))):vcFun Try.prog G74 zIQ 74 [.one (.int .i64 x),.one (.int .i64 low),.one (.int .i64 high)] K :=
  zaK (by kernel_rfl) (zt hk (fun hk=>hk) (fun hk=>hk))
def zmQ : List PA → COut
  | [.one (.int .i64 a0),.one (.int .i64 a1),.one (.int .i64 a2)]=>.tot [.one (.bool (s74 a0 a1 a2))]
  | _=>.no
theorem zIR:zah Try.prog 74:=⟨_,rfl,rfl,by kernel_rfl⟩
theorem zEl:Ok Try.prog 74 zmQ:=zaN zLR zIR fun args K h=>by
  unfold zmQ at h
  split at h
  · rename_i a0 a1 a2
    have hk:=h
    exact ⟨(fun _ _=>[]),(fun _=>false),zIQ,q74 a0 a1 a2 K hk⟩
  · exact h.elim
abbrev zNM:Tabs:=Tabs.nil
theorem zIS:TabsOk Try.prog zNM:=TabsOk.nil
abbrev zOv:Ctrs:=csm zNM (fun _ _=>[]) (fun _=>false)
def zCR:Ann:=⟨12,[(0,zK [1,2] [2]),(1,zK [3] [])],
 [],
 [],
 [],[]⟩
abbrev zOw:=Bool
abbrev zOx (r:zOw):List PA:=[.one (.bool r)]
section
variable {K:List PA→Prop} {c0:list} {g:Gate}
def zEm (c0:list) (g:Gate):Bool :=
  (g.Z != (c0.Gates.get 0).Z)
def zEn (c0:list) (g:Gate):Bool :=
  (decide ((0≤(0:Int)∧(0:Int) < (c0.Gates.len:Int))) &&
 true)
end
theorem zOy (c0:list) (g:Gate) (K:List PA→Prop) (hs:zEn c0 g=true) (hk:K (zOx (zEm c0 g))):vcFun Try.prog zOv zCR 100 [.agg (enc_55 g),.one (.fp (zcf c0) 0)] K :=
  zaK (by kernel_rfl) (zaD hs fun hc hs=>And.intro hc hk)
def zvT : List PA → COut
  | [.agg [.int .i64 a0_Z,.int .i64 a0_Low,.int .i64 a0_High],.one (.fp [.sl c0_Gates_n c0_Gates_s c0_Gates_g] 0)]=>.det (IsE enc_55 3 c0_Gates_s c0_Gates_g∧zEn (⟨(⟨c0_Gates_n,zae c0_Gates_g⟩:(Sl Gate))⟩:list) (⟨a0_Z,a0_Low,a0_High⟩:Gate)=true) [.one (.bool (zEm (⟨(⟨c0_Gates_n,zae c0_Gates_g⟩:(Sl Gate))⟩:list) (⟨a0_Z,a0_Low,a0_High⟩:Gate)))]
  | _=>.no
theorem zEo:zah Try.prog 100:=⟨_,rfl,rfl,by kernel_rfl⟩
theorem zLS:Ok Try.prog 100 zvT:=zaN zIS zEo fun args K h=>by
  unfold zvT at h
  split at h
  · rename_i a0_Z a0_Low a0_High c0_Gates_n c0_Gates_s c0_Gates_g
    obtain ⟨⟨⟨rfl,c0_Gates_f,rfl⟩,hs⟩,hk⟩:=h
    try rw [zac c0_Gates_f] at hs
    try rw [zac c0_Gates_f] at hk
    exact ⟨(fun _ _=>[]),(fun _=>false),zCR,zOy (⟨(⟨c0_Gates_n,c0_Gates_f⟩:(Sl Gate))⟩:list) (⟨a0_Z,a0_Low,a0_High⟩:Gate) K hs hk⟩
  · exact h.elim
abbrev zNN:Tabs:=(Tabs.nil.addF 74 zmQ)
theorem zIT:TabsOk Try.prog zNN:=(TabsOk.nil.addF zEl)
abbrev zOz:Ctrs:=csm zNN (fun _ _=>[]) (fun _=>false)
def zCS:Ann:=⟨24,[(0,zK [2,3] [2,3]),(1,zK [4] [])],
 [],
 [],
 [],[]⟩
abbrev zOA:=Bool
abbrev e118 (r:zOA):List PA:=[.one (.bool r)]
section
variable {K:List PA→Prop} {s:straight} {g:Gate}
def zEp (s:straight) (g:Gate):Bool :=
  (s74 (w64 (s.start+(w64 (s.slope * g.Z)))) (w64 (g.Low * s.den)) (w64 (g.High * s.den)))
end
theorem zOB (s:straight) (g:Gate) (K:List PA→Prop) (hk:K (e118 (zEp s g))):vcFun Try.prog zOz zCS 118 [.agg (zaf s),.agg (enc_55 g)] K :=
  zaK (by kernel_rfl) hk
def zvU : List PA → COut
  | [.agg [.int .i64 a0_slope,.int .i64 a0_start,.int .i64 a0_den],.agg [.int .i64 a1_Z,.int .i64 a1_Low,.int .i64 a1_High]]=>.tot [.one (.bool (zEp (⟨a0_slope,a0_start,a0_den⟩:straight) (⟨a1_Z,a1_Low,a1_High⟩:Gate)))]
  | _=>.no
theorem zEq:zah Try.prog 118:=⟨_,rfl,rfl,by kernel_rfl⟩
theorem zLT:Ok Try.prog 118 zvU:=zaN zIT zEq fun args K h=>by
  unfold zvU at h
  split at h
  · rename_i a0_slope a0_start a0_den a1_Z a1_Low a1_High
    have hk:=h
    exact ⟨(fun _ _=>[]),(fun _=>false),zCS,zOB (⟨a0_slope,a0_start,a0_den⟩:straight) (⟨a1_Z,a1_Low,a1_High⟩:Gate) K hk⟩
  · exact h.elim
abbrev zNO:Tabs:=(Tabs.nil.addF 118 zvU)
theorem zIU:TabsOk Try.prog zNO:=(TabsOk.nil.addF zLT)
abbrev zOC:Ctrs:=csm zNO (fun _ _=>[]) (fun _=>false)
def zCT:Ann:=⟨8,[(0,zK [1,2] [2]),(1,zK [3] [])],
 [],
 [],
 [],[]⟩
abbrev zOD:=Bool
abbrev e117 (r:zOD):List PA:=[.one (.bool r)]
section
variable {K:List PA→Prop} {c0:straight} {g:Gate}
def zEr (c0:straight) (g:Gate):Bool :=
  (!(zEp c0 g))
end
theorem zOE (c0:straight) (g:Gate) (K:List PA→Prop) (hk:K (e117 (zEr c0 g))):vcFun Try.prog zOC zCT 117 [.agg (enc_55 g),.one (.fp (zaf c0) 0)] K :=
  zaK (by kernel_rfl) hk
def zvV : List PA → COut
  | [.agg [.int .i64 a0_Z,.int .i64 a0_Low,.int .i64 a0_High],.one (.fp [.int .i64 c0_slope,.int .i64 c0_start,.int .i64 c0_den] 0)]=>.tot [.one (.bool (zEr (⟨c0_slope,c0_start,c0_den⟩:straight) (⟨a0_Z,a0_Low,a0_High⟩:Gate)))]
  | _=>.no
theorem zEs:zah Try.prog 117:=⟨_,rfl,rfl,by kernel_rfl⟩
theorem zLU:Ok Try.prog 117 zvV:=zaN zIU zEs fun args K h=>by
  unfold zvV at h
  split at h
  · rename_i a0_Z a0_Low a0_High c0_slope c0_start c0_den
    have hk:=h
    exact ⟨(fun _ _=>[]),(fun _=>false),zCT,zOE (⟨c0_slope,c0_start,c0_den⟩:straight) (⟨a0_Z,a0_Low,a0_High⟩:Gate) K hk⟩
  · exact h.elim
abbrev zNP:Tabs:=Tabs.nil
theorem zIV:TabsOk Try.prog zNP:=TabsOk.nil
abbrev zOF:Ctrs:=csm zNP (fun _ _=>[]) (fun _=>false)
def zCU:Ann:=⟨18,[(0,zK [1,2] [2]),(1,zK [3] [])],
 [],
 [],
 [],[]⟩
abbrev zOG:=Bool
abbrev zOH (r:zOG):List PA:=[.one (.bool r)]
section
variable {K:List PA→Prop} {c0:straight} {g:Gate}
def zAz (c0:straight) (g:Gate):Bool :=
  ((w64 (c0.start+(w64 (c0.slope * g.Z)))) == (w64 (g.Low * c0.den)))
end
theorem zOI (c0:straight) (g:Gate) (K:List PA→Prop) (hk:K (zOH (zAz c0 g))):vcFun Try.prog zOF zCU 123 [.agg (enc_55 g),.one (.fp (zaf c0) 0)] K :=
  zaK (by kernel_rfl) hk
def zvW : List PA → COut
  | [.agg [.int .i64 a0_Z,.int .i64 a0_Low,.int .i64 a0_High],.one (.fp [.int .i64 c0_slope,.int .i64 c0_start,.int .i64 c0_den] 0)]=>.tot [.one (.bool (zAz (⟨c0_slope,c0_start,c0_den⟩:straight) (⟨a0_Z,a0_Low,a0_High⟩:Gate)))]
  | _=>.no
theorem zEt:zah Try.prog 123:=⟨_,rfl,rfl,by kernel_rfl⟩
theorem zLV:Ok Try.prog 123 zvW:=zaN zIV zEt fun args K h=>by
  unfold zvW at h
  split at h
  · rename_i a0_Z a0_Low a0_High c0_slope c0_start c0_den
    have hk:=h
    exact ⟨(fun _ _=>[]),(fun _=>false),zCU,zOI (⟨c0_slope,c0_start,c0_den⟩:straight) (⟨a0_Z,a0_Low,a0_High⟩:Gate) K hk⟩
  · exact h.elim
abbrev zLx:Tabs:=(((Tabs.nil.addF 100 zvT).addF 117 zvV).addF 123 zvW)
theorem zIW:TabsOk Try.prog zLx:=(((TabsOk.nil.addF zLS).addF zLU).addF zLV)
abbrev zNQ:Ctrs:=csm zLx (fun _ _=>[]) (fun _=>false)
def zvX:Ann:=⟨19,[(0,zK [0,1] []),(1,zK [0,1,7,8] []),(2,zK [0,1,7,8,9] []),(3,zK [0,1,5,7,8] []),(4,zK [0,1,5,7,8,16] []),(5,zK [4] []),(6,zK [0,1,7,8] []),(7,zK [4] [])],
 [(2,zK [0,1,7,8] [])],
 [(5,zK [0,1,5,7,8,16] [])],
 [],[]⟩
abbrev zOJ:=Int
abbrev e119 (r:zOJ):List PA:=[.one (.int .i64 r)]
@[irreducible] def z119:=ptF Try.prog zNQ zvX Try.f119
def zvY (c0:list) (sv0:(Sl Gate)) (za9:Int) (zb4:Int) (zdi:Nat→List PV):St:=⟨[(0,zP (.sl sv0.len 3 zdi)),(1,zP (.fn 100 [] [.fp (zcf c0) 0])),(7,zI za9),(8,zI zb4)],[],[]⟩
abbrev zvZ (K:List PA→Prop) (c0:list) (X:St→Prop) (P:(Sl Gate)→Int→Int→Bool) (S:(Sl Gate)→Int→Int→Int):Prop:=∀ ⦃sv0:(Sl Gate)⦄ ⦃za9:Int⦄ ⦃zb4:Int⦄ ⦃zdi:Nat→List PV⦄,P sv0 za9 zb4=true→K (e119 (S sv0 za9 zb4))→zdi=zg enc_55 sv0→X (zvY c0 sv0 za9 zb4 zdi)
section
variable {K:List PA→Prop} {c0:list} {s:(Sl Gate)} {sv0:(Sl Gate)} {za9:Int} {zb4:Int} {zdi:Nat→List PV} {X0:St→Prop} {P0:(Sl Gate)→Int→Int→Bool} {S0:(Sl Gate)→Int→Int→Int} {sv1:(Sl Gate)} {iv1:Int} {zgl:Int} {zjZ:Int} {zdR:Bool} {zoX:Nat→List PV}
def zmR (S0:(Sl Gate)→Int→Int→Int) (c0:list) (sv1:(Sl Gate)) (iv1:Int) (zgl:Int) (zjZ:Int) (zdR:Bool):Int :=
  (cond zdR
 iv1
 (S0 sv1 zgl (w64 (zjZ+(1:Int)))))
def zmS (P0:(Sl Gate)→Int→Int→Bool) (c0:list) (sv1:(Sl Gate)) (iv1:Int) (zgl:Int) (zjZ:Int) (zdR:Bool):Bool :=
  (cond zdR
 true
 (P0 sv1 zgl (w64 (zjZ+(1:Int)))))
theorem zBs (hX0:zvZ K c0 X0 P0 S0) (hs:zmS P0 c0 sv1 iv1 zgl zjZ zdR=true) (hk:K (e119 (zmR S0 c0 sv1 iv1 zgl zjZ zdR))) (zv1:zoX=zg enc_55 sv1):z119 K [1,0,1,0,0,1,1,0,0,1,1] [X0] ⟨[(0,zP (.sl sv1.len 3 zoX)),(1,zP (.fn 100 [] [.fp (zcf c0) 0])),(5,zI iv1),(7,zI zgl),(8,zI zjZ),(16,zB zdR)],[],[]⟩:=by subst zv1;exact zaK (by kernel_rfl) (zc hs hk (fun hs hk=>hk) (fun hs hk=>(hX0 hs hk rfl)))
def ziZ (c0:list) (S0:(Sl Gate)→Int→Int→Int) (sv0:(Sl Gate)) (za9:Int) (zb4:Int):Int :=
  (cond (decide (zb4 < za9))
 (zmR S0 c0 sv0 zb4 za9 zb4 (zEm c0 (sv0.get zb4.toNat)))
 (-1:Int))
def zi0 (c0:list) (P0:(Sl Gate)→Int→Int→Bool) (sv0:(Sl Gate)) (za9:Int) (zb4:Int):Bool :=
  (cond (decide (zb4 < za9))
 (decide ((0≤zb4∧zb4 < (sv0.len:Int))) &&
 (decide ((zEn c0 (sv0.get zb4.toNat)=true)) &&
 (zmS P0 c0 sv0 zb4 za9 zb4 (zEm c0 (sv0.get zb4.toNat)))))
 true)
def zi1 (c0:list):Nat→(Sl Gate)→Int→Int→Int:=lpO (fun _ _ _=>default) (ziZ c0)
def zi2 (c0:list):Nat→(Sl Gate)→Int→Int→Bool:=lpO (fun _ _ _=>false) (zi0 c0)
def zs4 (c0:list) (sv0:(Sl Gate)) (za9:Int) (zb4:Int):Int:=zi1 c0 Fuel sv0 za9 zb4
def zs5 (c0:list) (sv0:(Sl Gate)) (za9:Int) (zb4:Int):Bool:=zi2 c0 Fuel sv0 za9 zb4
theorem zBt (hs:zs5 c0 sv0 za9 zb4=true) (hk:K (e119 (zs4 c0 sv0 za9 zb4))) (zj0:zdi=zg enc_55 sv0):z119 K [1,0,1,0] [] (zvY c0 sv0 za9 zb4 zdi) :=
  zl (fun X=>z119 K [1,0,1,0,0] [X]) (by kernel_rfl) fun X0 hX =>
  (show ∀ k, zvZ K c0 X0 (zi2 c0 k) (zi1 c0 k) from zgj _ _ (zi0 c0) (ziZ c0) (zvZ K c0 X0)
 (by intro _ _ _ _ hs;exact absurd hs Bool.false_ne_true)
 (by intro P0 S0 hX0 sv0 za9 zb4 zdi hs hk zj0;subst zj0;exact hX _ (zaK (by kernel_rfl) (zc hs hk (fun hs hk=>(zaD hs fun hc hs=>And.intro hc (zaD hs fun hc hs=>And.intro (And.intro (zE enc_55 3 c0.Gates.get) hc) (zBs hX0 hs hk rfl)))) (fun hs hk=>hk))))) _ hs hk zj0
def zIX (c0:list) (s:(Sl Gate)):Int :=
  (zs4 c0 s (s.len:Int) (0:Int))
def zIY (c0:list) (s:(Sl Gate)):Bool :=
  (zs5 c0 s (s.len:Int) (0:Int))
end
theorem zOK (c0:list) (s:(Sl Gate)) (K:List PA→Prop) (hs:zIY c0 s=true) (hk:K (e119 (zIX c0 s))):vcFun Try.prog zNQ zvX 119 [.one (.sl s.len 3 (fun i=>enc_55 (s.get i))),.one (.fn 100 [] [.fp (zcf c0) 0])] K :=
  zaK (by kernel_rfl) (zBt hs hk rfl)
abbrev zIZ:Ctrs:=csm zLx (fun _ _=>[]) (fun _=>false)
def zp8:Ann:=⟨19,[(0,zK [0,1] []),(1,zK [0,1,7,8] []),(2,zK [0,1,7,8,9] []),(3,zK [0,1,5,7,8] []),(4,zK [0,1,5,7,8,16] []),(5,zK [4] []),(6,zK [0,1,7,8] []),(7,zK [4] [])],
 [(2,zK [0,1,7,8] [])],
 [(5,zK [0,1,5,7,8,16] [])],
 [],[]⟩
abbrev zLW:=Int
abbrev zBu (r:zLW):List PA:=[.one (.int .i64 r)]
@[irreducible] def z119a:=ptF Try.prog zIZ zp8 Try.f119
def zs6 (c0:straight) (sv0:(Sl Gate)) (za9:Int) (zb4:Int) (zdi:Nat→List PV):St:=⟨[(0,zP (.sl sv0.len 3 zdi)),(1,zP (.fn 117 [] [.fp (zaf c0) 0])),(7,zI za9),(8,zI zb4)],[],[]⟩
abbrev zp9 (K:List PA→Prop) (c0:straight) (X:St→Prop) (P:(Sl Gate)→Int→Int→Bool) (S:(Sl Gate)→Int→Int→Int):Prop:=∀ ⦃sv0:(Sl Gate)⦄ ⦃za9:Int⦄ ⦃zb4:Int⦄ ⦃zdi:Nat→List PV⦄,P sv0 za9 zb4=true→K (zBu (S sv0 za9 zb4))→zdi=zg enc_55 sv0→X (zs6 c0 sv0 za9 zb4 zdi)
section
variable {K:List PA→Prop} {c0:straight} {s:(Sl Gate)} {sv0:(Sl Gate)} {za9:Int} {zb4:Int} {zdi:Nat→List PV} {X0:St→Prop} {P0:(Sl Gate)→Int→Int→Bool} {S0:(Sl Gate)→Int→Int→Int} {sv1:(Sl Gate)} {iv1:Int} {zgl:Int} {zjZ:Int} {zdR:Bool} {zoX:Nat→List PV}
def zj1 (S0:(Sl Gate)→Int→Int→Int) (c0:straight) (sv1:(Sl Gate)) (iv1:Int) (zgl:Int) (zjZ:Int) (zdR:Bool):Int :=
  (cond zdR
 iv1
 (S0 sv1 zgl (w64 (zjZ+(1:Int)))))
def zj2 (P0:(Sl Gate)→Int→Int→Bool) (c0:straight) (sv1:(Sl Gate)) (iv1:Int) (zgl:Int) (zjZ:Int) (zdR:Bool):Bool :=
  (cond zdR
 true
 (P0 sv1 zgl (w64 (zjZ+(1:Int)))))
theorem zv2 (hX0:zp9 K c0 X0 P0 S0) (hs:zj2 P0 c0 sv1 iv1 zgl zjZ zdR=true) (hk:K (zBu (zj1 S0 c0 sv1 iv1 zgl zjZ zdR))) (zv1:zoX=zg enc_55 sv1):z119a K [1,0,1,0,0,1,1,0,0,1,1] [X0] ⟨[(0,zP (.sl sv1.len 3 zoX)),(1,zP (.fn 117 [] [.fp (zaf c0) 0])),(5,zI iv1),(7,zI zgl),(8,zI zjZ),(16,zB zdR)],[],[]⟩:=by subst zv1;exact zaK (by kernel_rfl) (zc hs hk (fun hs hk=>hk) (fun hs hk=>(hX0 hs hk rfl)))
def zhb (c0:straight) (S0:(Sl Gate)→Int→Int→Int) (sv0:(Sl Gate)) (za9:Int) (zb4:Int):Int :=
  (cond (decide (zb4 < za9))
 (zj1 S0 c0 sv0 zb4 za9 zb4 (zEr c0 (sv0.get zb4.toNat)))
 (-1:Int))
def zhc (c0:straight) (P0:(Sl Gate)→Int→Int→Bool) (sv0:(Sl Gate)) (za9:Int) (zb4:Int):Bool :=
  (cond (decide (zb4 < za9))
 (decide ((0≤zb4∧zb4 < (sv0.len:Int))) &&
 (zj2 P0 c0 sv0 zb4 za9 zb4 (zEr c0 (sv0.get zb4.toNat))))
 true)
def zhd (c0:straight):Nat→(Sl Gate)→Int→Int→Int:=lpO (fun _ _ _=>default) (zhb c0)
def zhe (c0:straight):Nat→(Sl Gate)→Int→Int→Bool:=lpO (fun _ _ _=>false) (zhc c0)
def zoY (c0:straight) (sv0:(Sl Gate)) (za9:Int) (zb4:Int):Int:=zhd c0 Fuel sv0 za9 zb4
def zoZ (c0:straight) (sv0:(Sl Gate)) (za9:Int) (zb4:Int):Bool:=zhe c0 Fuel sv0 za9 zb4
theorem zv4 (hs:zoZ c0 sv0 za9 zb4=true) (hk:K (zBu (zoY c0 sv0 za9 zb4))) (zj0:zdi=zg enc_55 sv0):z119a K [1,0,1,0] [] (zs6 c0 sv0 za9 zb4 zdi) :=
  zl (fun X=>z119a K [1,0,1,0,0] [X]) (by kernel_rfl) fun X0 hX =>
  (show ∀ k, zp9 K c0 X0 (zhe c0 k) (zhd c0 k) from zgj _ _ (zhc c0) (zhb c0) (zp9 K c0 X0)
 (by intro _ _ _ _ hs;exact absurd hs Bool.false_ne_true)
 (by intro P0 S0 hX0 sv0 za9 zb4 zdi hs hk zj0;subst zj0;exact hX _ (zaK (by kernel_rfl) (zc hs hk (fun hs hk=>(zaD hs fun hc hs=>And.intro hc (zv2 hX0 hs hk rfl))) (fun hs hk=>hk))))) _ hs hk zj0
def zv5 (c0:straight) (s:(Sl Gate)):Int :=
  (zoY c0 s (s.len:Int) (0:Int))
def zv6 (c0:straight) (s:(Sl Gate)):Bool :=
  (zoZ c0 s (s.len:Int) (0:Int))
end
theorem zLX (c0:straight) (s:(Sl Gate)) (K:List PA→Prop) (hs:zv6 c0 s=true) (hk:K (zBu (zv5 c0 s))):vcFun Try.prog zIZ zp8 119 [.one (.sl s.len 3 (fun i=>enc_55 (s.get i))),.one (.fn 117 [] [.fp (zaf c0) 0])] K :=
  zaK (by kernel_rfl) (zv4 hs hk rfl)
abbrev zI0:Ctrs:=csm zLx (fun _ _=>[]) (fun _=>false)
def zqa:Ann:=⟨19,[(0,zK [0,1] []),(1,zK [0,1,7,8] []),(2,zK [0,1,7,8,9] []),(3,zK [0,1,5,7,8] []),(4,zK [0,1,5,7,8,16] []),(5,zK [4] []),(6,zK [0,1,7,8] []),(7,zK [4] [])],
 [(2,zK [0,1,7,8] [])],
 [(5,zK [0,1,5,7,8,16] [])],
 [],[]⟩
abbrev zLY:=Int
abbrev zBv (r:zLY):List PA:=[.one (.int .i64 r)]
@[irreducible] def z119b:=ptF Try.prog zI0 zqa Try.f119
def zs7 (c0:straight) (sv0:(Sl Gate)) (za9:Int) (zb4:Int) (zdi:Nat→List PV):St:=⟨[(0,zP (.sl sv0.len 3 zdi)),(1,zP (.fn 123 [] [.fp (zaf c0) 0])),(7,zI za9),(8,zI zb4)],[],[]⟩
abbrev zqb (K:List PA→Prop) (c0:straight) (X:St→Prop) (P:(Sl Gate)→Int→Int→Bool) (S:(Sl Gate)→Int→Int→Int):Prop:=∀ ⦃sv0:(Sl Gate)⦄ ⦃za9:Int⦄ ⦃zb4:Int⦄ ⦃zdi:Nat→List PV⦄,P sv0 za9 zb4=true→K (zBv (S sv0 za9 zb4))→zdi=zg enc_55 sv0→X (zs7 c0 sv0 za9 zb4 zdi)
section
variable {K:List PA→Prop} {c0:straight} {s:(Sl Gate)} {sv0:(Sl Gate)} {za9:Int} {zb4:Int} {zdi:Nat→List PV} {X0:St→Prop} {P0:(Sl Gate)→Int→Int→Bool} {S0:(Sl Gate)→Int→Int→Int} {sv1:(Sl Gate)} {iv1:Int} {zgl:Int} {zjZ:Int} {zdR:Bool} {zoX:Nat→List PV}
def zj3 (S0:(Sl Gate)→Int→Int→Int) (c0:straight) (sv1:(Sl Gate)) (iv1:Int) (zgl:Int) (zjZ:Int) (zdR:Bool):Int :=
  (cond zdR
 iv1
 (S0 sv1 zgl (w64 (zjZ+(1:Int)))))
def zj4 (P0:(Sl Gate)→Int→Int→Bool) (c0:straight) (sv1:(Sl Gate)) (iv1:Int) (zgl:Int) (zjZ:Int) (zdR:Bool):Bool :=
  (cond zdR
 true
 (P0 sv1 zgl (w64 (zjZ+(1:Int)))))
theorem zv7 (hX0:zqb K c0 X0 P0 S0) (hs:zj4 P0 c0 sv1 iv1 zgl zjZ zdR=true) (hk:K (zBv (zj3 S0 c0 sv1 iv1 zgl zjZ zdR))) (zv1:zoX=zg enc_55 sv1):z119b K [1,0,1,0,0,1,1,0,0,1,1] [X0] ⟨[(0,zP (.sl sv1.len 3 zoX)),(1,zP (.fn 123 [] [.fp (zaf c0) 0])),(5,zI iv1),(7,zI zgl),(8,zI zjZ),(16,zB zdR)],[],[]⟩:=by subst zv1;exact zaK (by kernel_rfl) (zc hs hk (fun hs hk=>hk) (fun hs hk=>(hX0 hs hk rfl)))
def zhf (c0:straight) (S0:(Sl Gate)→Int→Int→Int) (sv0:(Sl Gate)) (za9:Int) (zb4:Int):Int :=
  (cond (decide (zb4 < za9))
 (zj3 S0 c0 sv0 zb4 za9 zb4 (zAz c0 (sv0.get zb4.toNat)))
 (-1:Int))
def zhg (c0:straight) (P0:(Sl Gate)→Int→Int→Bool) (sv0:(Sl Gate)) (za9:Int) (zb4:Int):Bool :=
  (cond (decide (zb4 < za9))
 (decide ((0≤zb4∧zb4 < (sv0.len:Int))) &&
 (zj4 P0 c0 sv0 zb4 za9 zb4 (zAz c0 (sv0.get zb4.toNat))))
 true)
def zhh (c0:straight):Nat→(Sl Gate)→Int→Int→Int:=lpO (fun _ _ _=>default) (zhf c0)
def zhi (c0:straight):Nat→(Sl Gate)→Int→Int→Bool:=lpO (fun _ _ _=>false) (zhg c0)
def zo0 (c0:straight) (sv0:(Sl Gate)) (za9:Int) (zb4:Int):Int:=zhh c0 Fuel sv0 za9 zb4
def zo1 (c0:straight) (sv0:(Sl Gate)) (za9:Int) (zb4:Int):Bool:=zhi c0 Fuel sv0 za9 zb4
theorem zv8 (hs:zo1 c0 sv0 za9 zb4=true) (hk:K (zBv (zo0 c0 sv0 za9 zb4))) (zj0:zdi=zg enc_55 sv0):z119b K [1,0,1,0] [] (zs7 c0 sv0 za9 zb4 zdi) :=
  zl (fun X=>z119b K [1,0,1,0,0] [X]) (by kernel_rfl) fun X0 hX =>
  (show ∀ k, zqb K c0 X0 (zhi c0 k) (zhh c0 k) from zgj _ _ (zhg c0) (zhf c0) (zqb K c0 X0)
 (by intro _ _ _ _ hs;exact absurd hs Bool.false_ne_true)
 (by intro P0 S0 hX0 sv0 za9 zb4 zdi hs hk zj0;subst zj0;exact hX _ (zaK (by kernel_rfl) (zc hs hk (fun hs hk=>(zaD hs fun hc hs=>And.intro hc (zv7 hX0 hs hk rfl))) (fun hs hk=>hk))))) _ hs hk zj0
def zv9 (c0:straight) (s:(Sl Gate)):Int :=
  (zo0 c0 s (s.len:Int) (0:Int))
def zwa (c0:straight) (s:(Sl Gate)):Bool :=
  (zo1 c0 s (s.len:Int) (0:Int))
end
theorem zLZ (c0:straight) (s:(Sl Gate)) (K:List PA→Prop) (hs:zwa c0 s=true) (hk:K (zBv (zv9 c0 s))):vcFun Try.prog zI0 zqa 119 [.one (.sl s.len 3 (fun i=>enc_55 (s.get i))),.one (.fn 123 [] [.fp (zaf c0) 0])] K :=
  zaK (by kernel_rfl) (zv8 hs hk rfl)
def zwb : List PA → COut
  | [.one (.sl a0_n a0_s a0_g),.one (.fn 100 [] [.fp [.sl c0_Gates_n c0_Gates_s c0_Gates_g] 0])]=>.det (IsE enc_55 3 a0_s a0_g∧IsE enc_55 3 c0_Gates_s c0_Gates_g∧zIY (⟨(⟨c0_Gates_n,zae c0_Gates_g⟩:(Sl Gate))⟩:list) (⟨a0_n,zae a0_g⟩:(Sl Gate))=true) [.one (.int .i64 (zIX (⟨(⟨c0_Gates_n,zae c0_Gates_g⟩:(Sl Gate))⟩:list) (⟨a0_n,zae a0_g⟩:(Sl Gate))))]
  | [.one (.sl a0_n a0_s a0_g),.one (.fn 117 [] [.fp [.int .i64 c0_slope,.int .i64 c0_start,.int .i64 c0_den] 0])]=>.det (IsE enc_55 3 a0_s a0_g∧zv6 (⟨c0_slope,c0_start,c0_den⟩:straight) (⟨a0_n,zae a0_g⟩:(Sl Gate))=true) [.one (.int .i64 (zv5 (⟨c0_slope,c0_start,c0_den⟩:straight) (⟨a0_n,zae a0_g⟩:(Sl Gate))))]
  | [.one (.sl a0_n a0_s a0_g),.one (.fn 123 [] [.fp [.int .i64 c0_slope,.int .i64 c0_start,.int .i64 c0_den] 0])]=>.det (IsE enc_55 3 a0_s a0_g∧zwa (⟨c0_slope,c0_start,c0_den⟩:straight) (⟨a0_n,zae a0_g⟩:(Sl Gate))=true) [.one (.int .i64 (zv9 (⟨c0_slope,c0_start,c0_den⟩:straight) (⟨a0_n,zae a0_g⟩:(Sl Gate))))]
  | _=>.no
theorem zEu:zah Try.prog 119:=⟨_,rfl,rfl,by kernel_rfl⟩
theorem zL0:Ok Try.prog 119 zwb:=zaN zIW zEu fun args K h=>by
  unfold zwb at h
  split at h
  · rename_i a0_n a0_s a0_g c0_Gates_n c0_Gates_s c0_Gates_g
    obtain ⟨⟨⟨rfl,a0_f,rfl⟩,⟨rfl,c0_Gates_f,rfl⟩,hs⟩,hk⟩:=h
    try rw [zac a0_f] at hs
    try rw [zac a0_f] at hk
    try rw [zac c0_Gates_f] at hs
    try rw [zac c0_Gates_f] at hk
    exact ⟨(fun _ _=>[]),(fun _=>false),zvX,zOK (⟨(⟨c0_Gates_n,c0_Gates_f⟩:(Sl Gate))⟩:list) (⟨a0_n,a0_f⟩:(Sl Gate)) K hs hk⟩
  · rename_i a0_n a0_s a0_g c0_slope c0_start c0_den
    obtain ⟨⟨⟨rfl,a0_f,rfl⟩,hs⟩,hk⟩:=h
    try rw [zac a0_f] at hs
    try rw [zac a0_f] at hk
    exact ⟨(fun _ _=>[]),(fun _=>false),zp8,zLX (⟨c0_slope,c0_start,c0_den⟩:straight) (⟨a0_n,a0_f⟩:(Sl Gate)) K hs hk⟩
  · rename_i a0_n a0_s a0_g c0_slope c0_start c0_den
    obtain ⟨⟨⟨rfl,a0_f,rfl⟩,hs⟩,hk⟩:=h
    try rw [zac a0_f] at hs
    try rw [zac a0_f] at hk
    exact ⟨(fun _ _=>[]),(fun _=>false),zqa,zLZ (⟨c0_slope,c0_start,c0_den⟩:straight) (⟨a0_n,a0_f⟩:(Sl Gate)) K hs hk⟩
  · exact h.elim
abbrev T99:Tabs:=(Tabs.nil.addF 119 zwb)
theorem zL1:TabsOk Try.prog T99:=(TabsOk.nil.addF zL0)
abbrev G99:Ctrs:=csm T99 (fun _ _=>[]) (fun _=>false)
def zI1:Ann:=⟨9,[(0,zK [0,1] []),(1,zK [4] [])],
 [],
 [],
 [],[]⟩
abbrev R99:=Bool
abbrev e99 (r:R99):List PA:=[.one (.bool r)]
section
variable {K:List PA→Prop} {c0:list} {s:(Sl Gate)}
def s99 (c0:list) (s:(Sl Gate)):Bool :=
  (decide ((zIX c0 s) ≥ (0:Int)))
def p99 (c0:list) (s:(Sl Gate)):Bool :=
  (decide ((zIY c0 s=true)) &&
 true)
end
theorem q99 (c0:list) (s:(Sl Gate)) (K:List PA→Prop) (hs:p99 c0 s=true) (hk:K (e99 (s99 c0 s))):vcFun Try.prog G99 zI1 99 [.one (.sl s.len 3 (fun i=>enc_55 (s.get i))),.one (.fn 100 [] [.fp (zcf c0) 0])] K :=
  zaK (by kernel_rfl) (zaD hs fun hc hs=>And.intro (And.intro (zE enc_55 3 s.get) (And.intro (zE enc_55 3 c0.Gates.get) hc)) hk)
abbrev zOL:Ctrs:=csm T99 (fun _ _=>[]) (fun _=>false)
def zCV:Ann:=⟨9,[(0,zK [0,1] []),(1,zK [4] [])],
 [],
 [],
 [],[]⟩
abbrev zOM:=Bool
abbrev zON (r:zOM):List PA:=[.one (.bool r)]
section
variable {K:List PA→Prop} {c0:straight} {s:(Sl Gate)}
def zLy (c0:straight) (s:(Sl Gate)):Bool :=
  (decide ((zv5 c0 s) ≥ (0:Int)))
def zLz (c0:straight) (s:(Sl Gate)):Bool :=
  (decide ((zv6 c0 s=true)) &&
 true)
end
theorem zOO (c0:straight) (s:(Sl Gate)) (K:List PA→Prop) (hs:zLz c0 s=true) (hk:K (zON (zLy c0 s))):vcFun Try.prog zOL zCV 99 [.one (.sl s.len 3 (fun i=>enc_55 (s.get i))),.one (.fn 117 [] [.fp (zaf c0) 0])] K :=
  zaK (by kernel_rfl) (zaD hs fun hc hs=>And.intro (And.intro (zE enc_55 3 s.get) hc) hk)
abbrev zOP:Ctrs:=csm T99 (fun _ _=>[]) (fun _=>false)
def zCW:Ann:=⟨9,[(0,zK [0,1] []),(1,zK [4] [])],
 [],
 [],
 [],[]⟩
abbrev zOQ:=Bool
abbrev zOR (r:zOQ):List PA:=[.one (.bool r)]
section
variable {K:List PA→Prop} {c0:straight} {s:(Sl Gate)}
def zLA (c0:straight) (s:(Sl Gate)):Bool :=
  (decide ((zv9 c0 s) ≥ (0:Int)))
def zLB (c0:straight) (s:(Sl Gate)):Bool :=
  (decide ((zwa c0 s=true)) &&
 true)
end
theorem zOS (c0:straight) (s:(Sl Gate)) (K:List PA→Prop) (hs:zLB c0 s=true) (hk:K (zOR (zLA c0 s))):vcFun Try.prog zOP zCW 99 [.one (.sl s.len 3 (fun i=>enc_55 (s.get i))),.one (.fn 123 [] [.fp (zaf c0) 0])] K :=
  zaK (by kernel_rfl) (zaD hs fun hc hs=>And.intro (And.intro (zE enc_55 3 s.get) hc) hk)
def zwc : List PA → COut
  | [.one (.sl a0_n a0_s a0_g),.one (.fn 100 [] [.fp [.sl c0_Gates_n c0_Gates_s c0_Gates_g] 0])]=>.det (IsE enc_55 3 a0_s a0_g∧IsE enc_55 3 c0_Gates_s c0_Gates_g∧p99 (⟨(⟨c0_Gates_n,zae c0_Gates_g⟩:(Sl Gate))⟩:list) (⟨a0_n,zae a0_g⟩:(Sl Gate))=true) [.one (.bool (s99 (⟨(⟨c0_Gates_n,zae c0_Gates_g⟩:(Sl Gate))⟩:list) (⟨a0_n,zae a0_g⟩:(Sl Gate))))]
  | [.one (.sl a0_n a0_s a0_g),.one (.fn 117 [] [.fp [.int .i64 c0_slope,.int .i64 c0_start,.int .i64 c0_den] 0])]=>.det (IsE enc_55 3 a0_s a0_g∧zLz (⟨c0_slope,c0_start,c0_den⟩:straight) (⟨a0_n,zae a0_g⟩:(Sl Gate))=true) [.one (.bool (zLy (⟨c0_slope,c0_start,c0_den⟩:straight) (⟨a0_n,zae a0_g⟩:(Sl Gate))))]
  | [.one (.sl a0_n a0_s a0_g),.one (.fn 123 [] [.fp [.int .i64 c0_slope,.int .i64 c0_start,.int .i64 c0_den] 0])]=>.det (IsE enc_55 3 a0_s a0_g∧zLB (⟨c0_slope,c0_start,c0_den⟩:straight) (⟨a0_n,zae a0_g⟩:(Sl Gate))=true) [.one (.bool (zLA (⟨c0_slope,c0_start,c0_den⟩:straight) (⟨a0_n,zae a0_g⟩:(Sl Gate))))]
  | _=>.no
theorem zI2:zah Try.prog 99:=⟨_,rfl,rfl,by kernel_rfl⟩
theorem zL2:Ok Try.prog 99 zwc:=zaN zL1 zI2 fun args K h=>by
  unfold zwc at h
  split at h
  · rename_i a0_n a0_s a0_g c0_Gates_n c0_Gates_s c0_Gates_g
    obtain ⟨⟨⟨rfl,a0_f,rfl⟩,⟨rfl,c0_Gates_f,rfl⟩,hs⟩,hk⟩:=h
    try rw [zac a0_f] at hs
    try rw [zac a0_f] at hk
    try rw [zac c0_Gates_f] at hs
    try rw [zac c0_Gates_f] at hk
    exact ⟨(fun _ _=>[]),(fun _=>false),zI1,q99 (⟨(⟨c0_Gates_n,c0_Gates_f⟩:(Sl Gate))⟩:list) (⟨a0_n,a0_f⟩:(Sl Gate)) K hs hk⟩
  · rename_i a0_n a0_s a0_g c0_slope c0_start c0_den
    obtain ⟨⟨⟨rfl,a0_f,rfl⟩,hs⟩,hk⟩:=h
    try rw [zac a0_f] at hs
    try rw [zac a0_f] at hk
    exact ⟨(fun _ _=>[]),(fun _=>false),zCV,zOO (⟨c0_slope,c0_start,c0_den⟩:straight) (⟨a0_n,a0_f⟩:(Sl Gate)) K hs hk⟩
  · rename_i a0_n a0_s a0_g c0_slope c0_start c0_den
    obtain ⟨⟨⟨rfl,a0_f,rfl⟩,hs⟩,hk⟩:=h
    try rw [zac a0_f] at hs
    try rw [zac a0_f] at hk
    exact ⟨(fun _ _=>[]),(fun _=>false),zCW,zOS (⟨c0_slope,c0_start,c0_den⟩:straight) (⟨a0_n,a0_f⟩:(Sl Gate)) K hs hk⟩
  · exact h.elim
abbrev T67:Tabs:=(Tabs.nil.addF 99 zwc)
theorem zL3:TabsOk Try.prog T67:=(TabsOk.nil.addF zL2)
abbrev G67:Ctrs:=csm T67 (fun _ _=>[]) (fun _=>false)
def zI3:Ann:=⟨8,[(0,zK [1] [1]),(1,zK [2] [])],
 [],
 [],
 [],[]⟩
abbrev R67:=Bool
abbrev e67 (r:R67):List PA:=[.one (.bool r)]
section
variable {K:List PA→Prop} {l_a0:list}
def s67 (l_a0:list):Bool :=
  (!(s99 l_a0 l_a0.Gates))
def p67 (l_a0:list):Bool :=
  (decide ((p99 l_a0 l_a0.Gates=true)) &&
 true)
end
theorem q67 (l_a0:list) (K:List PA→Prop) (hs:p67 l_a0=true) (hk:K (e67 (s67 l_a0))):vcFun Try.prog G67 zI3 67 [.agg (zcf l_a0)] K :=
  zaK (by kernel_rfl) (zaD hs fun hc hs=>And.intro (And.intro (zE enc_55 3 l_a0.Gates.get) (And.intro (zE enc_55 3 l_a0.Gates.get) hc)) hk)
def zo2 : List PA → COut
  | [.agg [.sl a0_Gates_n a0_Gates_s a0_Gates_g]]=>.det (IsE enc_55 3 a0_Gates_s a0_Gates_g∧p67 (⟨(⟨a0_Gates_n,zae a0_Gates_g⟩:(Sl Gate))⟩:list)=true) [.one (.bool (s67 (⟨(⟨a0_Gates_n,zae a0_Gates_g⟩:(Sl Gate))⟩:list)))]
  | _=>.no
theorem zI4:zah Try.prog 67:=⟨_,rfl,rfl,by kernel_rfl⟩
theorem zI5:Ok Try.prog 67 zo2:=zaN zL3 zI4 fun args K h=>by
  unfold zo2 at h
  split at h
  · rename_i a0_Gates_n a0_Gates_s a0_Gates_g
    obtain ⟨⟨⟨rfl,a0_Gates_f,rfl⟩,hs⟩,hk⟩:=h
    try rw [zac a0_Gates_f] at hs
    try rw [zac a0_Gates_f] at hk
    exact ⟨(fun _ _=>[]),(fun _=>false),zI3,q67 (⟨(⟨a0_Gates_n,a0_Gates_f⟩:(Sl Gate))⟩:list) K hs hk⟩
  · exact h.elim
abbrev zNR:Tabs:=Tabs.nil
theorem zI6:TabsOk Try.prog zNR:=TabsOk.nil
abbrev zNS:Ctrs:=csm zNR (fun _ _=>[]) (fun _=>false)
def zwd:Ann:=⟨12,[(0,zK [0,1] []),(1,zK [0,1,6] []),(2,zK [0,1] []),(3,zK [4] [])],
 [(1,zK [0,1] [])],
 [],
 [],[]⟩
abbrev zOT:=Int
abbrev zL4 (r:zOT):List PA:=[.one (.int .i64 r)]
@[irreducible] def z114:=ptF Try.prog zNS zwd Try.f114
def zwe (av0:Int) (bv0:Int):St:=⟨[(0,zI av0),(1,zI bv0)],[],[]⟩
abbrev zCX (K:List PA→Prop) (X:St→Prop) (P:Int→Int→Bool) (S:Int→Int→Int):Prop:=∀ ⦃av0:Int⦄ ⦃bv0:Int⦄,P av0 bv0=true→K (zL4 (S av0 bv0))→X (zwe av0 bv0)
section
variable {K:List PA→Prop} {a:Int} {b:Int} {av0:Int} {bv0:Int} {X0:St→Prop} {P0:Int→Int→Bool} {S0:Int→Int→Int}
def zi3 (S0:Int→Int→Int) (av0:Int) (bv0:Int):Int :=
  (cond (decide (bv0 > (0:Int)))
 (S0 bv0 (av0.tmod bv0))
 av0)
def zi4 (P0:Int→Int→Bool) (av0:Int) (bv0:Int):Bool :=
  (cond (decide (bv0 > (0:Int)))
 (decide ((bv0 ≠ 0)) &&
 (P0 bv0 (av0.tmod bv0)))
 true)
def zi5:Nat→Int→Int→Int:=lpO (fun _ _=>default) (zi3)
def zi6:Nat→Int→Int→Bool:=lpO (fun _ _=>false) (zi4)
def zs8 (av0:Int) (bv0:Int):Int:=zi5 Fuel av0 bv0
def zs9 (av0:Int) (bv0:Int):Bool:=zi6 Fuel av0 bv0
theorem zBw (hs:zs9 av0 bv0=true) (hk:K (zL4 (zs8 av0 bv0))):z114 K [1,0,0] [] (zwe av0 bv0) :=
  zl (fun X=>z114 K [1,0,0,0] [X]) (by kernel_rfl) fun X0 hX =>
  (show ∀ k, zCX K X0 (zi6 k) (zi5 k) from zgj _ _ (zi4) (zi3) (zCX K X0)
 (by intro _ _ hs;exact absurd hs Bool.false_ne_true)
 (by intro P0 S0 hX0 av0 bv0 hs hk;exact hX _ (zaK (by kernel_rfl) (zc hs hk (fun hs hk=>(zaD hs fun hc hs=>And.intro hc (hX0 hs hk))) (fun hs hk=>hk))))) _ hs hk
def zCY (a:Int) (b:Int):Int :=
  (zs8 a b)
def zI7 (a:Int) (b:Int):Bool :=
  (zs9 a b)
end
theorem zOU (a:Int) (b:Int) (K:List PA→Prop) (hs:zI7 a b=true) (hk:K (zL4 (zCY a b))):vcFun Try.prog zNS zwd 114 [.one (.int .i64 a),.one (.int .i64 b)] K :=
  zaK (by kernel_rfl) (zBw hs hk)
def zta : List PA → COut
  | [.one (.int .i64 a0),.one (.int .i64 a1)]=>.det (zI7 a0 a1=true) [.one (.int .i64 (zCY a0 a1))]
  | _=>.no
theorem zEv:zah Try.prog 114:=⟨_,rfl,rfl,by kernel_rfl⟩
theorem zI8:Ok Try.prog 114 zta:=zaN zI6 zEv fun args K h=>by
  unfold zta at h
  split at h
  · rename_i a0 a1
    obtain ⟨hs,hk⟩:=h
    exact ⟨(fun _ _=>[]),(fun _=>false),zwd,zOU a0 a1 K hs hk⟩
  · exact h.elim
abbrev T89:Tabs:=(Tabs.nil.addF 114 zta)
theorem zL5:TabsOk Try.prog T89:=(TabsOk.nil.addF zI8)
abbrev G89:Ctrs:=csm T89 (fun _ _=>[]) (fun _=>false)
def zI9:Ann:=⟨19,[(0,zK [0,1,4] [4]),(1,zK [0,1,4,5] [4]),(2,zK [4] [4])],
 [],
 [],
 [],[]⟩
abbrev R89:=Frac
abbrev e89 (r:R89):List PA:=[.agg [.int .i64 r.Num,.int .i64 r.Den]]
section
variable {K:List PA→Prop} {num:Int} {den:Int}
def s89 (num:Int) (den:Int):Frac :=
  (⟨(w64 (num.tdiv (zCY (if (w64 (0 - num)) > num then (w64 (0 - num)) else num) den))),(w64 (den.tdiv (zCY (if (w64 (0 - num)) > num then (w64 (0 - num)) else num) den)))⟩:Frac)
def p89 (num:Int) (den:Int):Bool :=
  (decide ((zI7 (if (w64 (0 - num)) > num then (w64 (0 - num)) else num) den=true)) &&
 (decide (((zCY (if (w64 (0 - num)) > num then (w64 (0 - num)) else num) den) ≠ 0)) &&
 (decide (((zCY (if (w64 (0 - num)) > num then (w64 (0 - num)) else num) den) ≠ 0)) &&
 true)))
end
theorem q89 (num:Int) (den:Int) (K:List PA→Prop) (hs:p89 num den=true) (hk:K (e89 (s89 num den))):vcFun Try.prog G89 zI9 89 [.one (.int .i64 num),.one (.int .i64 den)] K :=
  zaK (by kernel_rfl) (zaD hs fun hc hs=>And.intro hc (zaD hs fun hc hs=>And.intro hc (zaD hs fun hc hs=>And.intro hc hk)))
def zqc : List PA → COut
  | [.one (.int .i64 a0),.one (.int .i64 a1)]=>.det (p89 a0 a1=true) [.agg [.int .i64 ((s89 a0 a1).Num),.int .i64 ((s89 a0 a1).Den)]]
  | _=>.no
theorem zJa:zah Try.prog 89:=⟨_,rfl,rfl,by kernel_rfl⟩
theorem zLC:Ok Try.prog 89 zqc:=zaN zL5 zJa fun args K h=>by
  unfold zqc at h
  split at h
  · rename_i a0 a1
    obtain ⟨hs,hk⟩:=h
    exact ⟨(fun _ _=>[]),(fun _=>false),zI9,q89 a0 a1 K hs hk⟩
  · exact h.elim
abbrev T98:Tabs:=Tabs.nil
theorem zL6:TabsOk Try.prog T98:=TabsOk.nil
abbrev G98:Ctrs:=csm T98 (fun _ _=>[]) (fun _=>false)
def zEw:Ann:=⟨38,[(0,zK [1,2] [1,2]),(1,zK [1,2,3] [1,2,3]),(2,zK [2,3,18,19,20] [2,3]),(3,zK [2,3,18,19,20,21] [2,3]),(4,zK [2,3,5,18,19,20] [2,3,5]),(5,zK [2,3,18,19,20] [2,3]),(6,zK [2,3,18,19,20] [2,3]),(7,zK [2] [2])],
 [(3,zK [2,3,18,19,20] [2,3])],
 [],
 [],[]⟩
abbrev R98:=Span
abbrev e98 (r:R98):List PA:=[.agg [.int .i64 r.Low,.int .i64 r.High]]
@[irreducible] def z98:=ptF Try.prog G98 zEw Try.f98
def zCZ (l_a0:list) (zcM:Int) (zat:Int) (zau:Int):St:=⟨[(2,zp 2 0),(3,zp 3 0),(18,zS enc_55 3 l_a0.Gates),(19,zI (l_a0.Gates.len:Int)),(20,zI zcM)],[(2,.box 96 (zm (zCQ (⟨(0:Int),(0:Int)⟩:Span)))),(3,.box 96 (zm (zCQ (⟨zat,zau⟩:Span))))],[]⟩
abbrev zJb (K:List PA→Prop) (l_a0:list) (X:St→Prop) (P:Int→Int→Int→Bool) (S:Int→Int→Int→Span):Prop:=∀ ⦃zcM:Int⦄ ⦃zat:Int⦄ ⦃zau:Int⦄,P zcM zat zau=true→K (e98 (S zcM zat zau))→X (zCZ l_a0 zcM zat zau)
section
variable {K:List PA→Prop} {l_a0:list} {zcM:Int} {zat:Int} {zau:Int} {X0:St→Prop} {P0:Int→Int→Int→Bool} {S0:Int→Int→Int→Span}
def zhP (l_a0:list) (S0:Int→Int→Int→Span) (zcM:Int) (zat:Int) (zau:Int):Span :=
  (cond (decide (zcM < (l_a0.Gates.len : Int)))
 (S0 (w64 (zcM+(1:Int))) (if (l_a0.Gates.get zcM.toNat).Low > zat then (l_a0.Gates.get zcM.toNat).Low else zat) (if (l_a0.Gates.get zcM.toNat).High < zau then (l_a0.Gates.get zcM.toNat).High else zau))
 (⟨zat,zau⟩:Span))
def zhQ (l_a0:list) (P0:Int→Int→Int→Bool) (zcM:Int) (zat:Int) (zau:Int):Bool :=
  (cond (decide (zcM < (l_a0.Gates.len : Int)))
 (decide ((0≤zcM∧zcM < (l_a0.Gates.len:Int))) &&
 (P0 (w64 (zcM+(1:Int))) (if (l_a0.Gates.get zcM.toNat).Low > zat then (l_a0.Gates.get zcM.toNat).Low else zat) (if (l_a0.Gates.get zcM.toNat).High < zau then (l_a0.Gates.get zcM.toNat).High else zau)))
 true)
def zhR (l_a0:list):Nat→Int→Int→Int→Span:=lpO (fun _ _ _=>default) (zhP l_a0)
def zhS (l_a0:list):Nat→Int→Int→Int→Bool:=lpO (fun _ _ _=>false) (zhQ l_a0)
def zwf (l_a0:list) (zcM:Int) (zat:Int) (zau:Int):Span:=zhR l_a0 Fuel zcM zat zau
def zwg (l_a0:list) (zcM:Int) (zat:Int) (zau:Int):Bool:=zhS l_a0 Fuel zcM zat zau
theorem zEx (hs:zwg l_a0 zcM zat zau=true) (hk:K (e98 (zwf l_a0 zcM zat zau))):z98 K [1,1,0,1,0] [] (zCZ l_a0 zcM zat zau) :=
  zl (fun X=>z98 K [1,1,0,1,0,0] [X]) (by kernel_rfl) fun X0 hX =>
  (show ∀ k, zJb K l_a0 X0 (zhS l_a0 k) (zhR l_a0 k) from zgj _ _ (zhQ l_a0) (zhP l_a0) (zJb K l_a0 X0)
 (by intro _ _ _ hs;exact absurd hs Bool.false_ne_true)
 (by intro P0 S0 hX0 zcM zat zau hs hk;exact hX _ (zaK (by kernel_rfl) (zc hs hk (fun hs hk=>(zaD hs fun hc hs=>And.intro hc (hX0 hs hk))) (fun hs hk=>hk))))) _ hs hk
def s98 (l_a0:list):Span :=
  (zwf l_a0 (0:Int) ((l_a0.Gates.get 0).Low) ((l_a0.Gates.get 0).High))
def p98 (l_a0:list):Bool :=
  (decide ((0≤(0:Int)∧(0:Int) < (l_a0.Gates.len:Int))) &&
 (decide ((0≤(0:Int)∧(0:Int) < (l_a0.Gates.len:Int))) &&
 (zwg l_a0 (0:Int) ((l_a0.Gates.get 0).Low) ((l_a0.Gates.get 0).High))))
end
theorem q98 (l_a0:list) (K:List PA→Prop) (hs:p98 l_a0=true) (hk:K (e98 (s98 l_a0))):vcFun Try.prog G98 zEw 98 [.agg (zcf l_a0)] K :=
  zaK (by kernel_rfl) (zaD hs fun hc hs=>And.intro hc (zaD hs fun hc hs=>And.intro hc (zEx hs hk)))
def zBx : List PA → COut
  | [.agg [.sl a0_Gates_n a0_Gates_s a0_Gates_g]]=>.det (IsE enc_55 3 a0_Gates_s a0_Gates_g∧p98 (⟨(⟨a0_Gates_n,zae a0_Gates_g⟩:(Sl Gate))⟩:list)=true) [.agg [.int .i64 ((s98 (⟨(⟨a0_Gates_n,zae a0_Gates_g⟩:(Sl Gate))⟩:list)).Low),.int .i64 ((s98 (⟨(⟨a0_Gates_n,zae a0_Gates_g⟩:(Sl Gate))⟩:list)).High)]]
  | _=>.no
theorem zJc:zah Try.prog 98:=⟨_,rfl,rfl,by kernel_rfl⟩
theorem zNT:Ok Try.prog 98 zBx:=zaN zL6 zJc fun args K h=>by
  unfold zBx at h
  split at h
  · rename_i a0_Gates_n a0_Gates_s a0_Gates_g
    obtain ⟨⟨⟨rfl,a0_Gates_f,rfl⟩,hs⟩,hk⟩:=h
    try rw [zac a0_Gates_f] at hs
    try rw [zac a0_Gates_f] at hk
    exact ⟨(fun _ _=>[]),(fun _=>false),zEw,q98 (⟨(⟨a0_Gates_n,a0_Gates_f⟩:(Sl Gate))⟩:list) K hs hk⟩
  · exact h.elim
abbrev T83:Tabs:=Tabs.nil
theorem zL7:TabsOk Try.prog T83:=TabsOk.nil
abbrev G83:Ctrs:=csm T83 (fun _ _=>[]) (fun _=>false)
def zJd:Ann:=⟨8,[(0,zK [1,2] [1,2]),(1,zK [2] [2])],
 [],
 [],
 [],[]⟩
abbrev R83:=Frac
abbrev e83 (r:R83):List PA:=[.agg [.int .i64 r.Num,.int .i64 r.Den]]
section
variable {K:List PA→Prop} {x:straight}
def s83 (x:straight):Frac :=
  (⟨x.slope,x.den⟩:Frac)
end
theorem q83 (x:straight) (K:List PA→Prop) (hk:K (e83 (s83 x))):vcFun Try.prog G83 zJd 83 [.agg (zaf x)] K :=
  zaK (by kernel_rfl) hk
def zEy : List PA → COut
  | [.agg [.int .i64 a0_slope,.int .i64 a0_start,.int .i64 a0_den]]=>.tot [.agg [.int .i64 ((s83 (⟨a0_slope,a0_start,a0_den⟩:straight)).Num),.int .i64 ((s83 (⟨a0_slope,a0_start,a0_den⟩:straight)).Den)]]
  | _=>.no
theorem zJe:zah Try.prog 83:=⟨_,rfl,rfl,by kernel_rfl⟩
theorem zOV:Ok Try.prog 83 zEy:=zaN zL7 zJe fun args K h=>by
  unfold zEy at h
  split at h
  · rename_i a0_slope a0_start a0_den
    have hk:=h
    exact ⟨(fun _ _=>[]),(fun _=>false),zJd,q83 (⟨a0_slope,a0_start,a0_den⟩:straight) K hk⟩
  · exact h.elim
abbrev zNU:Tabs:=Tabs.nil
theorem zJf:TabsOk Try.prog zNU:=TabsOk.nil
abbrev zOW:Ctrs:=csm zNU (fun _ _=>[]) (fun _=>false)
def zC0:Ann:=⟨15,[(0,zK [1,2,4] [2,4]),(1,zK [4] [4])],
 [],
 [],
 [],[]⟩
abbrev zOX:=Frac
abbrev zOY (r:zOX):List PA:=[.agg [.int .i64 r.Num,.int .i64 r.Den]]
section
variable {K:List PA→Prop} {s:straight} {z:Int}
def zJg (s:straight) (z:Int):Frac :=
  (⟨(w64 (s.start+(w64 (s.slope * z)))),s.den⟩:Frac)
end
theorem zOZ (s:straight) (z:Int) (K:List PA→Prop) (hk:K (zOY (zJg s z))):vcFun Try.prog zOW zC0 102 [.agg (zaf s),.one (.int .i64 z)] K :=
  zaK (by kernel_rfl) hk
def zwh : List PA → COut
  | [.agg [.int .i64 a0_slope,.int .i64 a0_start,.int .i64 a0_den],.one (.int .i64 a1)]=>.tot [.agg [.int .i64 ((zJg (⟨a0_slope,a0_start,a0_den⟩:straight) a1).Num),.int .i64 ((zJg (⟨a0_slope,a0_start,a0_den⟩:straight) a1).Den)]]
  | _=>.no
theorem zEz:zah Try.prog 102:=⟨_,rfl,rfl,by kernel_rfl⟩
theorem zL8:Ok Try.prog 102 zwh:=zaN zJf zEz fun args K h=>by
  unfold zwh at h
  split at h
  · rename_i a0_slope a0_start a0_den a1
    have hk:=h
    exact ⟨(fun _ _=>[]),(fun _=>false),zC0,zOZ (⟨a0_slope,a0_start,a0_den⟩:straight) a1 K hk⟩
  · exact h.elim
abbrev zNV:Tabs:=(Tabs.nil.addF 102 zwh)
theorem zJh:TabsOk Try.prog zNV:=(TabsOk.nil.addF zL8)
abbrev zO0:Ctrs:=csm zNV (fun _ _=>[]) (fun _=>false)
def zC1:Ann:=⟨7,[(0,zK [1,2,3] [2,3]),(1,zK [3] [3])],
 [],
 [],
 [],[]⟩
abbrev zO1:=Frac
abbrev zO2 (r:zO1):List PA:=[.agg [.int .i64 r.Num,.int .i64 r.Den]]
section
variable {K:List PA→Prop} {c0:Int} {x:straight}
def zwi (c0:Int) (x:straight):Frac :=
  (zJg x c0)
end
theorem zO3 (c0:Int) (x:straight) (K:List PA→Prop) (hk:K (zO2 (zwi c0 x))):vcFun Try.prog zO0 zC1 101 [.agg (zaf x),.one (.fp (zak c0) 0)] K :=
  zaK (by kernel_rfl) hk
def zwj : List PA → COut
  | [.agg [.int .i64 a0_slope,.int .i64 a0_start,.int .i64 a0_den],.one (.fp [.int .i64 c0] 0)]=>.tot [.agg [.int .i64 ((zwi c0 (⟨a0_slope,a0_start,a0_den⟩:straight)).Num),.int .i64 ((zwi c0 (⟨a0_slope,a0_start,a0_den⟩:straight)).Den)]]
  | _=>.no
theorem zEA:zah Try.prog 101:=⟨_,rfl,rfl,by kernel_rfl⟩
theorem zL9:Ok Try.prog 101 zwj:=zaN zJh zEA fun args K h=>by
  unfold zwj at h
  split at h
  · rename_i a0_slope a0_start a0_den c0
    have hk:=h
    exact ⟨(fun _ _=>[]),(fun _=>false),zC1,zO3 c0 (⟨a0_slope,a0_start,a0_den⟩:straight) K hk⟩
  · exact h.elim
abbrev zNW:Tabs:=Tabs.nil
theorem zJi:TabsOk Try.prog zNW:=TabsOk.nil
abbrev zO4:Ctrs:=csm zNW (fun _ _=>[]) (fun _=>false)
def zC2:Ann:=⟨6,[(0,zK [0] []),(1,zK [2] [])],
 [],
 [],
 [],[]⟩
abbrev zO5:=Bool
abbrev e120 (r:zO5):List PA:=[.one (.bool r)]
section
variable {K:List PA→Prop} {x:Int}
def zC3 (x:Int):Bool :=
  (x != x)
end
theorem zO6 (x:Int) (K:List PA→Prop) (hk:K (e120 (zC3 x))):vcFun Try.prog zO4 zC2 120 [.one (.int .i64 x)] K :=
  zaK (by kernel_rfl) hk
def zwk : List PA → COut
  | [.one (.int .i64 a0)]=>.tot [.one (.bool (zC3 a0))]
  | _=>.no
theorem zEB:zah Try.prog 120:=⟨_,rfl,rfl,by kernel_rfl⟩
theorem zMa:Ok Try.prog 120 zwk:=zaN zJi zEB fun args K h=>by
  unfold zwk at h
  split at h
  · rename_i a0
    have hk:=h
    exact ⟨(fun _ _=>[]),(fun _=>false),zC2,zO6 a0 K hk⟩
  · exact h.elim
abbrev zNX:Tabs:=(Tabs.nil.addF 120 zwk)
theorem zJj:TabsOk Try.prog zNX:=(TabsOk.nil.addF zMa)
abbrev zO7:Ctrs:=csm zNX (fun _ _=>[]) (fun _=>false)
def zC4:Ann:=⟨20,[(0,zK [0,1] []),(1,zK [0,1,5] []),(2,zK [0,1,5,6] []),(3,zK [0,1,6,11] []),(4,zK [12] []),(5,zK [4] []),(6,zK [4] []),(7,zK [0,1,13] []),(8,zK [4] []),(9,zK [0,1,16] []),(10,zK [4] []),(11,zK [19] []),(12,zK [4] []),(13,zK [4] [])],
 [],
 [],
 [],[]⟩
abbrev zO8:=Int
abbrev zO9 (r:zO8):List PA:=[.one (.int .i64 r)]
section
variable {K:List PA→Prop} {x:Int} {y_a1:Int}
def zC5 (x:Int) (y_a1:Int):Int :=
  (cond (zC3 x)
 (cond (zC3 y_a1)
 (0:Int)
 (-1:Int))
 (cond (zC3 y_a1)
 (1:Int)
 (cond (decide (x < y_a1))
 (-1:Int)
 (cond (decide (x > y_a1))
 (1:Int)
 (0:Int)))))
end
theorem zPa (x:Int) (y_a1:Int) (K:List PA→Prop) (hk:K (zO9 (zC5 x y_a1))):vcFun Try.prog zO7 zC4 103 [.one (.int .i64 x),.one (.int .i64 y_a1)] K :=
  zaK (by kernel_rfl) (zt hk (fun hk=>(zt hk (fun hk=>hk) (fun hk=>hk))) (fun hk=>(zt hk (fun hk=>hk) (fun hk=>(zt hk (fun hk=>hk) (fun hk=>(zt hk (fun hk=>hk) (fun hk=>hk))))))))
def zwl : List PA → COut
  | [.one (.int .i64 a0),.one (.int .i64 a1)]=>.tot [.one (.int .i64 (zC5 a0 a1))]
  | _=>.no
theorem zEC:zah Try.prog 103:=⟨_,rfl,rfl,by kernel_rfl⟩
theorem zMb:Ok Try.prog 103 zwl:=zaN zJj zEC fun args K h=>by
  unfold zwl at h
  split at h
  · rename_i a0 a1
    have hk:=h
    exact ⟨(fun _ _=>[]),(fun _=>false),zC4,zPa a0 a1 K hk⟩
  · exact h.elim
abbrev T69:Tabs:=(Tabs.nil.addF 103 zwl)
theorem zMc:TabsOk Try.prog T69:=(TabsOk.nil.addF zMb)
abbrev G69:Ctrs:=csm T69 (fun _ _=>[]) (fun _=>false)
def zJk:Ann:=⟨16,[(0,zK [2,3] [2,3]),(1,zK [4] [])],
 [],
 [],
 [],[]⟩
abbrev R69:=Int
abbrev e69 (r:R69):List PA:=[.one (.int .i64 r)]
section
variable {K:List PA→Prop} {a:Frac} {b:Frac}
def s69 (a:Frac) (b:Frac):Int :=
  (zC5 (w64 (a.Num * b.Den)) (w64 (b.Num * a.Den)))
end
theorem q69 (a:Frac) (b:Frac) (K:List PA→Prop) (hk:K (e69 (s69 a b))):vcFun Try.prog G69 zJk 69 [.agg (zad a),.agg (zad b)] K :=
  zaK (by kernel_rfl) hk
def zqd : List PA → COut
  | [.agg [.int .i64 a0_Num,.int .i64 a0_Den],.agg [.int .i64 a1_Num,.int .i64 a1_Den]]=>.tot [.one (.int .i64 (s69 (⟨a0_Num,a0_Den⟩:Frac) (⟨a1_Num,a1_Den⟩:Frac)))]
  | _=>.no
theorem zJl:zah Try.prog 69:=⟨_,rfl,rfl,by kernel_rfl⟩
theorem zLD:Ok Try.prog 69 zqd:=zaN zMc zJl fun args K h=>by
  unfold zqd at h
  split at h
  · rename_i a0_Num a0_Den a1_Num a1_Den
    have hk:=h
    exact ⟨(fun _ _=>[]),(fun _=>false),zJk,q69 (⟨a0_Num,a0_Den⟩:Frac) (⟨a1_Num,a1_Den⟩:Frac) K hk⟩
  · exact h.elim
abbrev zNY:Tabs:=(Tabs.nil.addF 69 zqd)
theorem zJm:TabsOk Try.prog zNY:=(TabsOk.nil.addF zLD)
abbrev zPb:Ctrs:=csm zNY (fun _ _=>[]) (fun _=>false)
def zC6:Ann:=⟨9,[(0,zK [2,3] [2,3]),(1,zK [4] [])],
 [],
 [],
 [],[]⟩
abbrev zPc:=Bool
abbrev zPd (r:zPc):List PA:=[.one (.bool r)]
section
variable {K:List PA→Prop} {a:Frac} {b:Frac}
def zBy (a:Frac) (b:Frac):Bool :=
  (decide ((s69 a b) < (0:Int)))
end
theorem zPe (a:Frac) (b:Frac) (K:List PA→Prop) (hk:K (zPd (zBy a b))):vcFun Try.prog zPb zC6 112 [.agg (zad a),.agg (zad b)] K :=
  zaK (by kernel_rfl) hk
def zwm : List PA → COut
  | [.agg [.int .i64 a0_Num,.int .i64 a0_Den],.agg [.int .i64 a1_Num,.int .i64 a1_Den]]=>.tot [.one (.bool (zBy (⟨a0_Num,a0_Den⟩:Frac) (⟨a1_Num,a1_Den⟩:Frac)))]
  | _=>.no
theorem zED:zah Try.prog 112:=⟨_,rfl,rfl,by kernel_rfl⟩
theorem zMd:Ok Try.prog 112 zwm:=zaN zJm zED fun args K h=>by
  unfold zwm at h
  split at h
  · rename_i a0_Num a0_Den a1_Num a1_Den
    have hk:=h
    exact ⟨(fun _ _=>[]),(fun _=>false),zC6,zPe (⟨a0_Num,a0_Den⟩:Frac) (⟨a1_Num,a1_Den⟩:Frac) K hk⟩
  · exact h.elim
abbrev zNZ:Tabs:=(Tabs.nil.addF 69 zqd)
theorem zJn:TabsOk Try.prog zNZ:=(TabsOk.nil.addF zLD)
abbrev zPf:Ctrs:=csm zNZ (fun _ _=>[]) (fun _=>false)
def zC7:Ann:=⟨9,[(0,zK [2,3] [2,3]),(1,zK [4] [])],
 [],
 [],
 [],[]⟩
abbrev zPg:=Bool
abbrev zPh (r:zPg):List PA:=[.one (.bool r)]
section
variable {K:List PA→Prop} {a:Frac} {b:Frac}
def zBz (a:Frac) (b:Frac):Bool :=
  (decide ((s69 a b) > (0:Int)))
end
theorem zPi (a:Frac) (b:Frac) (K:List PA→Prop) (hk:K (zPh (zBz a b))):vcFun Try.prog zPf zC7 113 [.agg (zad a),.agg (zad b)] K :=
  zaK (by kernel_rfl) hk
def zwn : List PA → COut
  | [.agg [.int .i64 a0_Num,.int .i64 a0_Den],.agg [.int .i64 a1_Num,.int .i64 a1_Den]]=>.tot [.one (.bool (zBz (⟨a0_Num,a0_Den⟩:Frac) (⟨a1_Num,a1_Den⟩:Frac)))]
  | _=>.no
theorem zEE:zah Try.prog 113:=⟨_,rfl,rfl,by kernel_rfl⟩
theorem zMe:Ok Try.prog 113 zwn:=zaN zJn zEE fun args K h=>by
  unfold zwn at h
  split at h
  · rename_i a0_Num a0_Den a1_Num a1_Den
    have hk:=h
    exact ⟨(fun _ _=>[]),(fun _=>false),zC7,zPi (⟨a0_Num,a0_Den⟩:Frac) (⟨a1_Num,a1_Den⟩:Frac) K hk⟩
  · exact h.elim
abbrev zMf:Tabs:=((Tabs.nil.addF 112 zwm).addF 113 zwn)
theorem zJo:TabsOk Try.prog zMf:=((TabsOk.nil.addF zMd).addF zMe)
abbrev zN0:Ctrs:=csm zMf (fun _ _=>[]) (fun _=>false)
def zwo:Ann:=⟨25,[(0,zK [0,1,4] [4]),(1,zK [0,1,4,5] [4,5]),(2,zK [1,4,5,12,13,14] [4,5]),(3,zK [1,4,5,12,13,14,15] [4,5]),(4,zK [1,4,5,7,12,13,14] [4,5,7]),(5,zK [1,4,5,7,12,13,14,21] [4,5,7]),(6,zK [1,4,5,12,13,14] [4,5]),(7,zK [1,4,5,12,13,14] [4,5]),(8,zK [4] [4])],
 [(3,zK [1,4,5,12,13,14] [4,5])],
 [(6,zK [1,4,5,7,12,13,14,21] [4,5,7])],
 [],[]⟩
abbrev zPj:=Frac
abbrev zLE (r:zPj):List PA:=[.agg [.int .i64 r.Num,.int .i64 r.Den]]
@[irreducible] def z111:=ptF Try.prog zN0 zwo Try.f111
def zwp (l_a0:(Sl Frac)) (zaX:(Sl Frac)) (zai:Int) (zat:Int) (zau:Int) (zcq:Nat→List PV):St:=⟨[(1,zP (.fn 112 [] [])),(4,zp 4 0),(5,zp 5 0),(12,zP (.sl zaX.len 2 zcq)),(13,zI (((l_a0.len:Int) - (1:Int)).toNat:Int)),(14,zI zai)],[(4,.box 25 (zm (zad (⟨(0:Int),(0:Int)⟩:Frac)))),(5,.box 25 (zm (zad (⟨zat,zau⟩:Frac))))],[]⟩
abbrev zwq (K:List PA→Prop) (l_a0:(Sl Frac)) (X:St→Prop) (P:(Sl Frac)→Int→Int→Int→Bool) (S:(Sl Frac)→Int→Int→Int→Frac):Prop:=∀ ⦃zaX:(Sl Frac)⦄ ⦃zai:Int⦄ ⦃zat:Int⦄ ⦃zau:Int⦄ ⦃zcq:Nat→List PV⦄,P zaX zai zat zau=true→K (zLE (S zaX zai zat zau))→zcq=zg zad zaX→X (zwp l_a0 zaX zai zat zau zcq)
section
variable {K:List PA→Prop} {l_a0:(Sl Frac)} {zaX:(Sl Frac)} {zai:Int} {zat:Int} {zau:Int} {zcq:Nat→List PV} {X0:St→Prop} {P0:(Sl Frac)→Int→Int→Int→Bool} {S0:(Sl Frac)→Int→Int→Int→Frac} {zec:(Sl Frac)} {za3:Int} {zgm:Bool} {zcC:Int} {zcD:Int} {zgn:Int} {zgo:Int} {zj5:Nat→List PV}
def zmT (S0:(Sl Frac)→Int→Int→Int→Frac) (l_a0:(Sl Frac)) (zec:(Sl Frac)) (za3:Int) (zgm:Bool) (zcC:Int) (zcD:Int) (zgn:Int) (zgo:Int):Frac :=
  (cond zgm
 (S0 zec (w64 (za3+(1:Int))) zgn zgo)
 (S0 zec (w64 (za3+(1:Int))) zcC zcD))
def zmU (P0:(Sl Frac)→Int→Int→Int→Bool) (l_a0:(Sl Frac)) (zec:(Sl Frac)) (za3:Int) (zgm:Bool) (zcC:Int) (zcD:Int) (zgn:Int) (zgo:Int):Bool :=
  (cond zgm
 (P0 zec (w64 (za3+(1:Int))) zgn zgo)
 (P0 zec (w64 (za3+(1:Int))) zcC zcD))
theorem zBA (hX0:zwq K l_a0 X0 P0 S0) (hs:zmU P0 l_a0 zec za3 zgm zcC zcD zgn zgo=true) (hk:K (zLE (zmT S0 l_a0 zec za3 zgm zcC zcD zgn zgo))) (zqe:zj5=zg zad zec):z111 K [1,1,0,1,0,0,1,1,0,0,1,1] [X0] ⟨[(1,zP (.fn 112 [] [])),(4,zp 4 0),(5,zp 5 0),(7,zp 7 0),(12,zP (.sl zec.len 2 zj5)),(13,zI (((l_a0.len:Int) - (1:Int)).toNat:Int)),(14,zI za3),(21,zB zgm)],[(4,.box 25 (zm (zad (⟨(0:Int),(0:Int)⟩:Frac)))),(5,.box 25 (zm (zad (⟨zcC,zcD⟩:Frac)))),(7,.box 25 (zm (zad (⟨zgn,zgo⟩:Frac))))],[]⟩:=by subst zqe;exact zaK (by kernel_rfl) (zc hs hk (fun hs hk=>(hX0 hs hk rfl)) (fun hs hk=>(hX0 hs hk rfl)))
def zfN (l_a0:(Sl Frac)) (S0:(Sl Frac)→Int→Int→Int→Frac) (zaX:(Sl Frac)) (zai:Int) (zat:Int) (zau:Int):Frac :=
  (cond (decide (zai < (((l_a0.len : Int) - (1:Int)).toNat : Int)))
 (zmT S0 l_a0 zaX zai (zBy (zaX.get zai.toNat) (⟨zat,zau⟩:Frac)) zat zau ((zaX.get zai.toNat).Num) ((zaX.get zai.toNat).Den))
 (⟨zat,zau⟩:Frac))
def zfO (l_a0:(Sl Frac)) (P0:(Sl Frac)→Int→Int→Int→Bool) (zaX:(Sl Frac)) (zai:Int) (zat:Int) (zau:Int):Bool :=
  (cond (decide (zai < (((l_a0.len : Int) - (1:Int)).toNat : Int)))
 (decide ((0≤zai∧zai < (zaX.len:Int))) &&
 (zmU P0 l_a0 zaX zai (zBy (zaX.get zai.toNat) (⟨zat,zau⟩:Frac)) zat zau ((zaX.get zai.toNat).Num) ((zaX.get zai.toNat).Den)))
 true)
def zfP (l_a0:(Sl Frac)):Nat→(Sl Frac)→Int→Int→Int→Frac:=lpO (fun _ _ _ _=>default) (zfN l_a0)
def zfQ (l_a0:(Sl Frac)):Nat→(Sl Frac)→Int→Int→Int→Bool:=lpO (fun _ _ _ _=>false) (zfO l_a0)
def ztb (l_a0:(Sl Frac)) (zaX:(Sl Frac)) (zai:Int) (zat:Int) (zau:Int):Frac:=zfP l_a0 Fuel zaX zai zat zau
def ztc (l_a0:(Sl Frac)) (zaX:(Sl Frac)) (zai:Int) (zat:Int) (zau:Int):Bool:=zfQ l_a0 Fuel zaX zai zat zau
theorem zBB (hs:ztc l_a0 zaX zai zat zau=true) (hk:K (zLE (ztb l_a0 zaX zai zat zau))) (zgp:zcq=zg zad zaX):z111 K [1,1,0,1,0] [] (zwp l_a0 zaX zai zat zau zcq) :=
  zl (fun X=>z111 K [1,1,0,1,0,0] [X]) (by kernel_rfl) fun X0 hX =>
  (show ∀ k, zwq K l_a0 X0 (zfQ l_a0 k) (zfP l_a0 k) from zgj _ _ (zfO l_a0) (zfN l_a0) (zwq K l_a0 X0)
 (by intro _ _ _ _ _ hs;exact absurd hs Bool.false_ne_true)
 (by intro P0 S0 hX0 zaX zai zat zau zcq hs hk zgp;subst zgp;exact hX _ (zaK (by kernel_rfl) (zc hs hk (fun hs hk=>(zaD hs fun hc hs=>And.intro hc (zBA hX0 hs hk rfl))) (fun hs hk=>hk))))) _ hs hk zgp
def zqf (l_a0:(Sl Frac)):Frac :=
  (ztb l_a0 (⟨((l_a0.len:Int) - (1:Int)).toNat,(fun i=>l_a0.get (i+((1:Int).toNat)))⟩:Sl Frac) (0:Int) ((l_a0.get 0).Num) ((l_a0.get 0).Den))
def zH6 (l_a0:(Sl Frac)):Bool :=
  (decide ((0≤(0:Int)∧(0:Int) < (l_a0.len:Int))) &&
 (decide ((0≤(1:Int)∧(1:Int)≤(l_a0.len:Int)∧(l_a0.len:Int)≤(l_a0.len:Int))) &&
 (ztc l_a0 (⟨((l_a0.len:Int) - (1:Int)).toNat,(fun i=>l_a0.get (i+((1:Int).toNat)))⟩:Sl Frac) (0:Int) ((l_a0.get 0).Num) ((l_a0.get 0).Den))))
end
theorem zPk (l_a0:(Sl Frac)) (K:List PA→Prop) (hs:zH6 l_a0=true) (hk:K (zLE (zqf l_a0))):vcFun Try.prog zN0 zwo 111 [.one (.sl l_a0.len 2 (fun i=>zad (l_a0.get i))),.one (.fn 112 [] [])] K :=
  zaK (by kernel_rfl) (zaD hs fun hc hs=>And.intro hc (zaD hs fun hc hs=>And.intro hc (zBB hs hk rfl)))
abbrev zJp:Ctrs:=csm zMf (fun _ _=>[]) (fun _=>false)
def zqg:Ann:=⟨25,[(0,zK [0,1,4] [4]),(1,zK [0,1,4,5] [4,5]),(2,zK [1,4,5,12,13,14] [4,5]),(3,zK [1,4,5,12,13,14,15] [4,5]),(4,zK [1,4,5,7,12,13,14] [4,5,7]),(5,zK [1,4,5,7,12,13,14,21] [4,5,7]),(6,zK [1,4,5,12,13,14] [4,5]),(7,zK [1,4,5,12,13,14] [4,5]),(8,zK [4] [4])],
 [(3,zK [1,4,5,12,13,14] [4,5])],
 [(6,zK [1,4,5,7,12,13,14,21] [4,5,7])],
 [],[]⟩
abbrev zMg:=Frac
abbrev zBC (r:zMg):List PA:=[.agg [.int .i64 r.Num,.int .i64 r.Den]]
@[irreducible] def z111a:=ptF Try.prog zJp zqg Try.f111
def ztd (l_a0:(Sl Frac)) (zaX:(Sl Frac)) (zai:Int) (zat:Int) (zau:Int) (zcq:Nat→List PV):St:=⟨[(1,zP (.fn 113 [] [])),(4,zp 4 0),(5,zp 5 0),(12,zP (.sl zaX.len 2 zcq)),(13,zI (((l_a0.len:Int) - (1:Int)).toNat:Int)),(14,zI zai)],[(4,.box 25 (zm (zad (⟨(0:Int),(0:Int)⟩:Frac)))),(5,.box 25 (zm (zad (⟨zat,zau⟩:Frac))))],[]⟩
abbrev zqh (K:List PA→Prop) (l_a0:(Sl Frac)) (X:St→Prop) (P:(Sl Frac)→Int→Int→Int→Bool) (S:(Sl Frac)→Int→Int→Int→Frac):Prop:=∀ ⦃zaX:(Sl Frac)⦄ ⦃zai:Int⦄ ⦃zat:Int⦄ ⦃zau:Int⦄ ⦃zcq:Nat→List PV⦄,P zaX zai zat zau=true→K (zBC (S zaX zai zat zau))→zcq=zg zad zaX→X (ztd l_a0 zaX zai zat zau zcq)
section
variable {K:List PA→Prop} {l_a0:(Sl Frac)} {zaX:(Sl Frac)} {zai:Int} {zat:Int} {zau:Int} {zcq:Nat→List PV} {X0:St→Prop} {P0:(Sl Frac)→Int→Int→Int→Bool} {S0:(Sl Frac)→Int→Int→Int→Frac} {zec:(Sl Frac)} {za3:Int} {zgm:Bool} {zcC:Int} {zcD:Int} {zgn:Int} {zgo:Int} {zj5:Nat→List PV}
def zj6 (S0:(Sl Frac)→Int→Int→Int→Frac) (l_a0:(Sl Frac)) (zec:(Sl Frac)) (za3:Int) (zgm:Bool) (zcC:Int) (zcD:Int) (zgn:Int) (zgo:Int):Frac :=
  (cond zgm
 (S0 zec (w64 (za3+(1:Int))) zgn zgo)
 (S0 zec (w64 (za3+(1:Int))) zcC zcD))
def zj7 (P0:(Sl Frac)→Int→Int→Int→Bool) (l_a0:(Sl Frac)) (zec:(Sl Frac)) (za3:Int) (zgm:Bool) (zcC:Int) (zcD:Int) (zgn:Int) (zgo:Int):Bool :=
  (cond zgm
 (P0 zec (w64 (za3+(1:Int))) zgn zgo)
 (P0 zec (w64 (za3+(1:Int))) zcC zcD))
theorem zwr (hX0:zqh K l_a0 X0 P0 S0) (hs:zj7 P0 l_a0 zec za3 zgm zcC zcD zgn zgo=true) (hk:K (zBC (zj6 S0 l_a0 zec za3 zgm zcC zcD zgn zgo))) (zqe:zj5=zg zad zec):z111a K [1,1,0,1,0,0,1,1,0,0,1,1] [X0] ⟨[(1,zP (.fn 113 [] [])),(4,zp 4 0),(5,zp 5 0),(7,zp 7 0),(12,zP (.sl zec.len 2 zj5)),(13,zI (((l_a0.len:Int) - (1:Int)).toNat:Int)),(14,zI za3),(21,zB zgm)],[(4,.box 25 (zm (zad (⟨(0:Int),(0:Int)⟩:Frac)))),(5,.box 25 (zm (zad (⟨zcC,zcD⟩:Frac)))),(7,.box 25 (zm (zad (⟨zgn,zgo⟩:Frac))))],[]⟩:=by subst zqe;exact zaK (by kernel_rfl) (zc hs hk (fun hs hk=>(hX0 hs hk rfl)) (fun hs hk=>(hX0 hs hk rfl)))
def zel (l_a0:(Sl Frac)) (S0:(Sl Frac)→Int→Int→Int→Frac) (zaX:(Sl Frac)) (zai:Int) (zat:Int) (zau:Int):Frac :=
  (cond (decide (zai < (((l_a0.len : Int) - (1:Int)).toNat : Int)))
 (zj6 S0 l_a0 zaX zai (zBz (zaX.get zai.toNat) (⟨zat,zau⟩:Frac)) zat zau ((zaX.get zai.toNat).Num) ((zaX.get zai.toNat).Den))
 (⟨zat,zau⟩:Frac))
def zem (l_a0:(Sl Frac)) (P0:(Sl Frac)→Int→Int→Int→Bool) (zaX:(Sl Frac)) (zai:Int) (zat:Int) (zau:Int):Bool :=
  (cond (decide (zai < (((l_a0.len : Int) - (1:Int)).toNat : Int)))
 (decide ((0≤zai∧zai < (zaX.len:Int))) &&
 (zj7 P0 l_a0 zaX zai (zBz (zaX.get zai.toNat) (⟨zat,zau⟩:Frac)) zat zau ((zaX.get zai.toNat).Num) ((zaX.get zai.toNat).Den)))
 true)
def zen (l_a0:(Sl Frac)):Nat→(Sl Frac)→Int→Int→Int→Frac:=lpO (fun _ _ _ _=>default) (zel l_a0)
def zeo (l_a0:(Sl Frac)):Nat→(Sl Frac)→Int→Int→Int→Bool:=lpO (fun _ _ _ _=>false) (zem l_a0)
def zo3 (l_a0:(Sl Frac)) (zaX:(Sl Frac)) (zai:Int) (zat:Int) (zau:Int):Frac:=zen l_a0 Fuel zaX zai zat zau
def zo4 (l_a0:(Sl Frac)) (zaX:(Sl Frac)) (zai:Int) (zat:Int) (zau:Int):Bool:=zeo l_a0 Fuel zaX zai zat zau
theorem zwt (hs:zo4 l_a0 zaX zai zat zau=true) (hk:K (zBC (zo3 l_a0 zaX zai zat zau))) (zgp:zcq=zg zad zaX):z111a K [1,1,0,1,0] [] (ztd l_a0 zaX zai zat zau zcq) :=
  zl (fun X=>z111a K [1,1,0,1,0,0] [X]) (by kernel_rfl) fun X0 hX =>
  (show ∀ k, zqh K l_a0 X0 (zeo l_a0 k) (zen l_a0 k) from zgj _ _ (zem l_a0) (zel l_a0) (zqh K l_a0 X0)
 (by intro _ _ _ _ _ hs;exact absurd hs Bool.false_ne_true)
 (by intro P0 S0 hX0 zaX zai zat zau zcq hs hk zgp;subst zgp;exact hX _ (zaK (by kernel_rfl) (zc hs hk (fun hs hk=>(zaD hs fun hc hs=>And.intro hc (zwr hX0 hs hk rfl))) (fun hs hk=>hk))))) _ hs hk zgp
def s111a (l_a0:(Sl Frac)):Frac :=
  (zo3 l_a0 (⟨((l_a0.len:Int) - (1:Int)).toNat,(fun i=>l_a0.get (i+((1:Int).toNat)))⟩:Sl Frac) (0:Int) ((l_a0.get 0).Num) ((l_a0.get 0).Den))
def zut (l_a0:(Sl Frac)):Bool :=
  (decide ((0≤(0:Int)∧(0:Int) < (l_a0.len:Int))) &&
 (decide ((0≤(1:Int)∧(1:Int)≤(l_a0.len:Int)∧(l_a0.len:Int)≤(l_a0.len:Int))) &&
 (zo4 l_a0 (⟨((l_a0.len:Int) - (1:Int)).toNat,(fun i=>l_a0.get (i+((1:Int).toNat)))⟩:Sl Frac) (0:Int) ((l_a0.get 0).Num) ((l_a0.get 0).Den))))
end
theorem zMh (l_a0:(Sl Frac)) (K:List PA→Prop) (hs:zut l_a0=true) (hk:K (zBC (s111a l_a0))):vcFun Try.prog zJp zqg 111 [.one (.sl l_a0.len 2 (fun i=>zad (l_a0.get i))),.one (.fn 113 [] [])] K :=
  zaK (by kernel_rfl) (zaD hs fun hc hs=>And.intro hc (zaD hs fun hc hs=>And.intro hc (zwt hs hk rfl)))
def zwu : List PA → COut
  | [.one (.sl a0_n a0_s a0_g),.one (.fn 112 [] [])]=>.det (IsE zad 2 a0_s a0_g∧zH6 (⟨a0_n,zgk a0_g⟩:(Sl Frac))=true) [.agg [.int .i64 ((zqf (⟨a0_n,zgk a0_g⟩:(Sl Frac))).Num),.int .i64 ((zqf (⟨a0_n,zgk a0_g⟩:(Sl Frac))).Den)]]
  | [.one (.sl a0_n a0_s a0_g),.one (.fn 113 [] [])]=>.det (IsE zad 2 a0_s a0_g∧zut (⟨a0_n,zgk a0_g⟩:(Sl Frac))=true) [.agg [.int .i64 ((s111a (⟨a0_n,zgk a0_g⟩:(Sl Frac))).Num),.int .i64 ((s111a (⟨a0_n,zgk a0_g⟩:(Sl Frac))).Den)]]
  | _=>.no
theorem zEF:zah Try.prog 111:=⟨_,rfl,rfl,by kernel_rfl⟩
theorem zMi:Ok Try.prog 111 zwu:=zaN zJo zEF fun args K h=>by
  unfold zwu at h
  split at h
  · rename_i a0_n a0_s a0_g
    obtain ⟨⟨⟨rfl,a0_f,rfl⟩,hs⟩,hk⟩:=h
    try rw [zeI a0_f] at hs
    try rw [zeI a0_f] at hk
    exact ⟨(fun _ _=>[]),(fun _=>false),zwo,zPk (⟨a0_n,a0_f⟩:(Sl Frac)) K hs hk⟩
  · rename_i a0_n a0_s a0_g
    obtain ⟨⟨⟨rfl,a0_f,rfl⟩,hs⟩,hk⟩:=h
    try rw [zeI a0_f] at hs
    try rw [zeI a0_f] at hk
    exact ⟨(fun _ _=>[]),(fun _=>false),zqg,zMh (⟨a0_n,a0_f⟩:(Sl Frac)) K hs hk⟩
  · exact h.elim
abbrev T82:Tabs:=((((Tabs.nil.addF 83 zEy).addF 89 zqc).addF 101 zwj).addF 111 zwu)
theorem zMj:TabsOk Try.prog T82:=((((TabsOk.nil.addF zOV).addF zLC).addF zL9).addF zMi)
abbrev G82:Ctrs:=csm T82 (fun _ _=>[]) (fun _=>false)
def zEG:Ann:=⟨39,[(0,zK [1,2,4,5] [2,4,5]),(1,zK [1,2,4,5,6] [2,4,5]),(2,zK [1,4,5,6,12,13,14] [4,5]),(3,zK [1,4,5,6,12,13,14,15] [4,5,23]),(4,zK [1,4,5,6,8,12,13,14] [4,5,8,23]),(5,zK [1,4,5,6,12,13,14] [4,5,23]),(6,zK [1,4,5,6,12,13,14] [4,5,23]),(7,zK [4,5,6,9] [4,5,9,23]),(8,zK [4,5,9,10] [4,5,9,10]),(9,zK [4,5] [4,5])],
 [(3,⟨[1,4,5,6,12,13,14],[4,5,23],[(6,23,25,fun _=>zad default)],[],[],[],[]⟩)],
 [(7,zK [4,5,6] [4,5,23]),(8,zK [4,5,6,9] [4,5,9,23]),(9,zK [4,5,9,10] [4,5,9,10])],
 [],[]⟩
abbrev R82:=(Frac×Frac)
abbrev e82 (r:R82):List PA:=[.agg [.int .i64 r.1.Num,.int .i64 r.1.Den],.agg [.int .i64 r.2.Num,.int .i64 r.2.Den]]
@[irreducible] def z82:=ptF Try.prog G82 zEG Try.f82
def zC8 (c0:Int) (s:set) (zai:Int) (zbe:(Sl Frac)) (zcr:Nat→List PV):St:=⟨[(1,zP (.fn 101 [] [.fp (zak c0) 0])),(4,zp 4 0),(5,zp 5 0),(6,zv 23),(12,zS zaf 3 s.corners),(13,zI (s.corners.len:Int)),(14,zI zai)],[(4,.box 25 (zm (zad (⟨(0:Int),(0:Int)⟩:Frac)))),(5,.box 25 (zm (zad (⟨(0:Int),(0:Int)⟩:Frac)))),(23,.vec 25 2 16 zbe.len zcr)],[]⟩
abbrev zJq (K:List PA→Prop) (c0:Int) (s:set) (X:St→Prop) (P:Int→(Sl Frac)→Bool) (S:Int→(Sl Frac)→(Frac×Frac)):Prop:=∀ ⦃zai:Int⦄ ⦃zbe:(Sl Frac)⦄ ⦃zcr:Nat→List PV⦄,P zai zbe=true→K (e82 (S zai zbe))→zcr=zg zad zbe→X (zC8 c0 s zai zbe zcr)
section
variable {K:List PA→Prop} {c0:Int} {s:set} {zai:Int} {zbe:(Sl Frac)} {zcr:Nat→List PV} {X0:St→Prop} {P0:Int→(Sl Frac)→Bool} {S0:Int→(Sl Frac)→(Frac×Frac)} {zcS:(Sl Frac)} {zj8:Nat→List PV} {zbf:Int} {zbg:Int} {zdm:(Sl Frac)} {zj9:Nat→List PV} {zb7:Int} {zb8:Int}
def zqi (zbf:Int) (zbg:Int) (zb7:Int) (zb8:Int):(Frac×Frac) :=
  ((s89 zbf zbg),(s89 zb7 zb8))
def zqj (zbf:Int) (zbg:Int) (zb7:Int) (zb8:Int):Bool :=
  (decide ((p89 zbf zbg=true)) &&
 (decide ((p89 zb7 zb8=true)) &&
 true))
theorem zEH (hs:zqj zbf zbg zb7 zb8=true) (hk:K (e82 (zqi zbf zbg zb7 zb8))):z82 K [1,1,1,1,1] [] ⟨[(4,zp 4 0),(5,zp 5 0),(9,zp 9 0),(10,zp 10 0)],[(4,.box 25 (zm (zad (⟨(0:Int),(0:Int)⟩:Frac)))),(5,.box 25 (zm (zad (⟨(0:Int),(0:Int)⟩:Frac)))),(9,.box 25 (zm (zad (⟨zbf,zbg⟩:Frac)))),(10,.box 25 (zm (zad (⟨zb7,zb8⟩:Frac))))],[]⟩:=zaK (by kernel_rfl) (zaD hs fun hc hs=>And.intro hc (zaD hs fun hc hs=>And.intro hc hk))
def zqk (zbf:Int) (zbg:Int) (zdm:(Sl Frac)):(Frac×Frac) :=
  (zqi zbf zbg ((s111a zdm).Num) ((s111a zdm).Den))
def zql (zbf:Int) (zbg:Int) (zdm:(Sl Frac)):Bool :=
  (decide ((zut zdm=true)) &&
 (zqj zbf zbg ((s111a zdm).Num) ((s111a zdm).Den)))
theorem zEI (hs:zql zbf zbg zdm=true) (hk:K (e82 (zqk zbf zbg zdm))) (zqm:zj9=zg zad zdm):z82 K [1,1,1,1] [] ⟨[(4,zp 4 0),(5,zp 5 0),(6,zv 23),(9,zp 9 0)],[(4,.box 25 (zm (zad (⟨(0:Int),(0:Int)⟩:Frac)))),(5,.box 25 (zm (zad (⟨(0:Int),(0:Int)⟩:Frac)))),(9,.box 25 (zm (zad (⟨zbf,zbg⟩:Frac)))),(23,.vec 25 2 16 zdm.len zj9)],[]⟩:=by subst zqm;exact zaK (by kernel_rfl) (zaD hs fun hc hs=>And.intro (And.intro (zE zad 2 zdm.get) hc) (zEH hs hk))
def zeK (zcS:(Sl Frac)):(Frac×Frac) :=
  (zqk ((zqf zcS).Num) ((zqf zcS).Den) zcS)
def zmV (zcS:(Sl Frac)):Bool :=
  (decide ((zH6 zcS=true)) &&
 (zql ((zqf zcS).Num) ((zqf zcS).Den) zcS))
theorem zEJ (hs:zmV zcS=true) (hk:K (e82 (zeK zcS))) (zqn:zj8=zg zad zcS):z82 K [1,1,1] [] ⟨[(4,zp 4 0),(5,zp 5 0),(6,zv 23)],[(4,.box 25 (zm (zad (⟨(0:Int),(0:Int)⟩:Frac)))),(5,.box 25 (zm (zad (⟨(0:Int),(0:Int)⟩:Frac)))),(23,.vec 25 2 16 zcS.len zj8)],[]⟩:=by subst zqn;exact zaK (by kernel_rfl) (zaD hs fun hc hs=>And.intro (And.intro (zE zad 2 zcS.get) hc) (zEI hs hk rfl))
def zhT (c0:Int) (s:set) (S0:Int→(Sl Frac)→(Frac×Frac)) (zai:Int) (zbe:(Sl Frac)):(Frac×Frac) :=
  (cond (decide (zai < (s.corners.len : Int)))
 (S0 (w64 (zai+(1:Int))) (⟨(zbe.len+1),(zdQ zbe.len zbe.get (fun _=>(zwi c0 (s.corners.get zai.toNat))))⟩:Sl Frac))
 (zeK zbe))
def zhU (c0:Int) (s:set) (P0:Int→(Sl Frac)→Bool) (zai:Int) (zbe:(Sl Frac)):Bool :=
  (cond (decide (zai < (s.corners.len : Int)))
 (decide ((0≤zai∧zai < (s.corners.len:Int))) &&
 (decide (((zbe.len+1) * 16≤140737488355328∧zbe.len+1≤9223372036854775807)) &&
 (P0 (w64 (zai+(1:Int))) (⟨(zbe.len+1),(zdQ zbe.len zbe.get (fun _=>(zwi c0 (s.corners.get zai.toNat))))⟩:Sl Frac))))
 (zmV zbe))
def zhV (c0:Int) (s:set):Nat→Int→(Sl Frac)→(Frac×Frac):=lpO (fun _ _=>default) (zhT c0 s)
def zhW (c0:Int) (s:set):Nat→Int→(Sl Frac)→Bool:=lpO (fun _ _=>false) (zhU c0 s)
def zwv (c0:Int) (s:set) (zai:Int) (zbe:(Sl Frac)):(Frac×Frac):=zhV c0 s Fuel zai zbe
def zww (c0:Int) (s:set) (zai:Int) (zbe:(Sl Frac)):Bool:=zhW c0 s Fuel zai zbe
theorem zEK (hs:zww c0 s zai zbe=true) (hk:K (e82 (zwv c0 s zai zbe))) (zgq:zcr=zg zad zbe):z82 K [1,1,0,1,0] [] (zC8 c0 s zai zbe zcr) :=
  zl (fun X=>z82 K [1,1,0,1,0,0] [X]) (by kernel_rfl) fun X0 hX =>
  (show ∀ k, zJq K c0 s X0 (zhW c0 s k) (zhV c0 s k) from zgj _ _ (zhU c0 s) (zhT c0 s) (zJq K c0 s X0)
 (by intro _ _ _ hs;exact absurd hs Bool.false_ne_true)
 (by intro P0 S0 hX0 zai zbe zcr hs hk zgq;subst zgq;exact hX _ (zaK (by kernel_rfl) (zc hs hk (fun hs hk=>(zaD hs fun hc hs=>And.intro hc (zaD hs fun hc hs=>And.intro hc (hX0 hs hk (zjV (enc:=zad) (f:=zbe.get) (h:=(fun _=>(zwi c0 (s.corners.get zai.toNat)))) rfl rfl))))) (fun hs hk=>(zEJ hs hk rfl)))))) _ hs hk zgq
def s82 (c0:Int) (s:set):(Frac×Frac) :=
  (zwv c0 s (0:Int) (⟨0,(fun _=>default)⟩:Sl Frac))
def p82 (c0:Int) (s:set):Bool :=
  (zww c0 s (0:Int) (⟨0,(fun _=>default)⟩:Sl Frac))
end
theorem q82 (c0:Int) (s:set) (K:List PA→Prop) (hs:p82 c0 s=true) (hk:K (e82 (s82 c0 s))):vcFun Try.prog G82 zEG 82 [.agg (za8 s),.one (.fn 101 [] [.fp (zak c0) 0])] K :=
  zaK (by kernel_rfl) (zEK hs hk rfl)
abbrev zN1:Ctrs:=csm T82 (fun _ _=>[]) (fun _=>false)
def zwx:Ann:=⟨39,[(0,zK [1,2,4,5] [2,4,5]),(1,zK [1,2,4,5,6] [2,4,5]),(2,zK [1,4,5,6,12,13,14] [4,5]),(3,zK [1,4,5,6,12,13,14,15] [4,5,23]),(4,zK [1,4,5,6,8,12,13,14] [4,5,8,23]),(5,zK [1,4,5,6,12,13,14] [4,5,23]),(6,zK [1,4,5,6,12,13,14] [4,5,23]),(7,zK [4,5,6,9] [4,5,9,23]),(8,zK [4,5,9,10] [4,5,9,10]),(9,zK [4,5] [4,5])],
 [(3,⟨[1,4,5,6,12,13,14],[4,5,23],[(6,23,25,fun _=>zad default)],[],[],[],[]⟩)],
 [(7,zK [4,5,6] [4,5,23]),(8,zK [4,5,6,9] [4,5,9,23]),(9,zK [4,5,9,10] [4,5,9,10])],
 [],[]⟩
abbrev zPl:=(Frac×Frac)
abbrev zH7 (r:zPl):List PA:=[.agg [.int .i64 r.1.Num,.int .i64 r.1.Den],.agg [.int .i64 r.2.Num,.int .i64 r.2.Den]]
@[irreducible] def z82a:=ptF Try.prog zN1 zwx Try.f82
def zwy (s:set) (zai:Int) (zbe:(Sl Frac)) (zcr:Nat→List PV):St:=⟨[(1,zP (.fn 83 [] [])),(4,zp 4 0),(5,zp 5 0),(6,zv 23),(12,zS zaf 3 s.corners),(13,zI (s.corners.len:Int)),(14,zI zai)],[(4,.box 25 (zm (zad (⟨(0:Int),(0:Int)⟩:Frac)))),(5,.box 25 (zm (zad (⟨(0:Int),(0:Int)⟩:Frac)))),(23,.vec 25 2 16 zbe.len zcr)],[]⟩
abbrev zC9 (K:List PA→Prop) (s:set) (X:St→Prop) (P:Int→(Sl Frac)→Bool) (S:Int→(Sl Frac)→(Frac×Frac)):Prop:=∀ ⦃zai:Int⦄ ⦃zbe:(Sl Frac)⦄ ⦃zcr:Nat→List PV⦄,P zai zbe=true→K (zH7 (S zai zbe))→zcr=zg zad zbe→X (zwy s zai zbe zcr)
section
variable {K:List PA→Prop} {s:set} {zai:Int} {zbe:(Sl Frac)} {zcr:Nat→List PV} {X0:St→Prop} {P0:Int→(Sl Frac)→Bool} {S0:Int→(Sl Frac)→(Frac×Frac)} {zcS:(Sl Frac)} {zj8:Nat→List PV} {zbf:Int} {zbg:Int} {zdm:(Sl Frac)} {zj9:Nat→List PV} {zb7:Int} {zb8:Int}
def zte (zbf:Int) (zbg:Int) (zb7:Int) (zb8:Int):(Frac×Frac) :=
  ((s89 zbf zbg),(s89 zb7 zb8))
def ztf (zbf:Int) (zbg:Int) (zb7:Int) (zb8:Int):Bool :=
  (decide ((p89 zbf zbg=true)) &&
 (decide ((p89 zb7 zb8=true)) &&
 true))
theorem zBD (hs:ztf zbf zbg zb7 zb8=true) (hk:K (zH7 (zte zbf zbg zb7 zb8))):z82a K [1,1,1,1,1] [] ⟨[(4,zp 4 0),(5,zp 5 0),(9,zp 9 0),(10,zp 10 0)],[(4,.box 25 (zm (zad (⟨(0:Int),(0:Int)⟩:Frac)))),(5,.box 25 (zm (zad (⟨(0:Int),(0:Int)⟩:Frac)))),(9,.box 25 (zm (zad (⟨zbf,zbg⟩:Frac)))),(10,.box 25 (zm (zad (⟨zb7,zb8⟩:Frac))))],[]⟩:=zaK (by kernel_rfl) (zaD hs fun hc hs=>And.intro hc (zaD hs fun hc hs=>And.intro hc hk))
def ztg (zbf:Int) (zbg:Int) (zdm:(Sl Frac)):(Frac×Frac) :=
  (zte zbf zbg ((s111a zdm).Num) ((s111a zdm).Den))
def zth (zbf:Int) (zbg:Int) (zdm:(Sl Frac)):Bool :=
  (decide ((zut zdm=true)) &&
 (ztf zbf zbg ((s111a zdm).Num) ((s111a zdm).Den)))
theorem zBE (hs:zth zbf zbg zdm=true) (hk:K (zH7 (ztg zbf zbg zdm))) (zqm:zj9=zg zad zdm):z82a K [1,1,1,1] [] ⟨[(4,zp 4 0),(5,zp 5 0),(6,zv 23),(9,zp 9 0)],[(4,.box 25 (zm (zad (⟨(0:Int),(0:Int)⟩:Frac)))),(5,.box 25 (zm (zad (⟨(0:Int),(0:Int)⟩:Frac)))),(9,.box 25 (zm (zad (⟨zbf,zbg⟩:Frac)))),(23,.vec 25 2 16 zdm.len zj9)],[]⟩:=by subst zqm;exact zaK (by kernel_rfl) (zaD hs fun hc hs=>And.intro (And.intro (zE zad 2 zdm.get) hc) (zBD hs hk))
def zti (zcS:(Sl Frac)):(Frac×Frac) :=
  (ztg ((zqf zcS).Num) ((zqf zcS).Den) zcS)
def ztj (zcS:(Sl Frac)):Bool :=
  (decide ((zH6 zcS=true)) &&
 (zth ((zqf zcS).Num) ((zqf zcS).Den) zcS))
theorem zBF (hs:ztj zcS=true) (hk:K (zH7 (zti zcS))) (zqn:zj8=zg zad zcS):z82a K [1,1,1] [] ⟨[(4,zp 4 0),(5,zp 5 0),(6,zv 23)],[(4,.box 25 (zm (zad (⟨(0:Int),(0:Int)⟩:Frac)))),(5,.box 25 (zm (zad (⟨(0:Int),(0:Int)⟩:Frac)))),(23,.vec 25 2 16 zcS.len zj8)],[]⟩:=by subst zqn;exact zaK (by kernel_rfl) (zaD hs fun hc hs=>And.intro (And.intro (zE zad 2 zcS.get) hc) (zBE hs hk rfl))
def zfR (s:set) (S0:Int→(Sl Frac)→(Frac×Frac)) (zai:Int) (zbe:(Sl Frac)):(Frac×Frac) :=
  (cond (decide (zai < (s.corners.len : Int)))
 (S0 (w64 (zai+(1:Int))) (⟨(zbe.len+1),(zdQ zbe.len zbe.get (fun _=>(s83 (s.corners.get zai.toNat))))⟩:Sl Frac))
 (zti zbe))
def zfS (s:set) (P0:Int→(Sl Frac)→Bool) (zai:Int) (zbe:(Sl Frac)):Bool :=
  (cond (decide (zai < (s.corners.len : Int)))
 (decide ((0≤zai∧zai < (s.corners.len:Int))) &&
 (decide (((zbe.len+1) * 16≤140737488355328∧zbe.len+1≤9223372036854775807)) &&
 (P0 (w64 (zai+(1:Int))) (⟨(zbe.len+1),(zdQ zbe.len zbe.get (fun _=>(s83 (s.corners.get zai.toNat))))⟩:Sl Frac))))
 (ztj zbe))
def zfT (s:set):Nat→Int→(Sl Frac)→(Frac×Frac):=lpO (fun _ _=>default) (zfR s)
def zfU (s:set):Nat→Int→(Sl Frac)→Bool:=lpO (fun _ _=>false) (zfS s)
def ztk (s:set) (zai:Int) (zbe:(Sl Frac)):(Frac×Frac):=zfT s Fuel zai zbe
def ztl (s:set) (zai:Int) (zbe:(Sl Frac)):Bool:=zfU s Fuel zai zbe
theorem zBG (hs:ztl s zai zbe=true) (hk:K (zH7 (ztk s zai zbe))) (zgq:zcr=zg zad zbe):z82a K [1,1,0,1,0] [] (zwy s zai zbe zcr) :=
  zl (fun X=>z82a K [1,1,0,1,0,0] [X]) (by kernel_rfl) fun X0 hX =>
  (show ∀ k, zC9 K s X0 (zfU s k) (zfT s k) from zgj _ _ (zfS s) (zfR s) (zC9 K s X0)
 (by intro _ _ _ hs;exact absurd hs Bool.false_ne_true)
 (by intro P0 S0 hX0 zai zbe zcr hs hk zgq;subst zgq;exact hX _ (zaK (by kernel_rfl) (zc hs hk (fun hs hk=>(zaD hs fun hc hs=>And.intro hc (zaD hs fun hc hs=>And.intro hc (hX0 hs hk (zjV (enc:=zad) (f:=zbe.get) (h:=(fun _=>(s83 (s.corners.get zai.toNat)))) rfl rfl))))) (fun hs hk=>(zBF hs hk rfl)))))) _ hs hk zgq
def zuu (s:set):(Frac×Frac) :=
  (ztk s (0:Int) (⟨0,(fun _=>default)⟩:Sl Frac))
def zH8 (s:set):Bool :=
  (ztl s (0:Int) (⟨0,(fun _=>default)⟩:Sl Frac))
end
theorem zPm (s:set) (K:List PA→Prop) (hs:zH8 s=true) (hk:K (zH7 (zuu s))):vcFun Try.prog zN1 zwx 82 [.agg (za8 s),.one (.fn 83 [] [])] K :=
  zaK (by kernel_rfl) (zBG hs hk rfl)
def zBH : List PA → COut
  | [.agg [.sl a0_list_Gates_n a0_list_Gates_s a0_list_Gates_g,.sl a0_corners_n a0_corners_s a0_corners_g],.one (.fn 101 [] [.fp [.int .i64 c0] 0])]=>.det (IsE enc_55 3 a0_list_Gates_s a0_list_Gates_g∧IsE zaf 3 a0_corners_s a0_corners_g∧p82 c0 (⟨(⟨(⟨a0_list_Gates_n,zae a0_list_Gates_g⟩:(Sl Gate))⟩:list),(⟨a0_corners_n,za4 a0_corners_g⟩:(Sl straight))⟩:set)=true) [.agg [.int .i64 (((s82 c0 (⟨(⟨(⟨a0_list_Gates_n,zae a0_list_Gates_g⟩:(Sl Gate))⟩:list),(⟨a0_corners_n,za4 a0_corners_g⟩:(Sl straight))⟩:set)).1).Num),.int .i64 (((s82 c0 (⟨(⟨(⟨a0_list_Gates_n,zae a0_list_Gates_g⟩:(Sl Gate))⟩:list),(⟨a0_corners_n,za4 a0_corners_g⟩:(Sl straight))⟩:set)).1).Den)],.agg [.int .i64 (((s82 c0 (⟨(⟨(⟨a0_list_Gates_n,zae a0_list_Gates_g⟩:(Sl Gate))⟩:list),(⟨a0_corners_n,za4 a0_corners_g⟩:(Sl straight))⟩:set)).2).Num),.int .i64 (((s82 c0 (⟨(⟨(⟨a0_list_Gates_n,zae a0_list_Gates_g⟩:(Sl Gate))⟩:list),(⟨a0_corners_n,za4 a0_corners_g⟩:(Sl straight))⟩:set)).2).Den)]]
  | [.agg [.sl a0_list_Gates_n a0_list_Gates_s a0_list_Gates_g,.sl a0_corners_n a0_corners_s a0_corners_g],.one (.fn 83 [] [])]=>.det (IsE enc_55 3 a0_list_Gates_s a0_list_Gates_g∧IsE zaf 3 a0_corners_s a0_corners_g∧zH8 (⟨(⟨(⟨a0_list_Gates_n,zae a0_list_Gates_g⟩:(Sl Gate))⟩:list),(⟨a0_corners_n,za4 a0_corners_g⟩:(Sl straight))⟩:set)=true) [.agg [.int .i64 (((zuu (⟨(⟨(⟨a0_list_Gates_n,zae a0_list_Gates_g⟩:(Sl Gate))⟩:list),(⟨a0_corners_n,za4 a0_corners_g⟩:(Sl straight))⟩:set)).1).Num),.int .i64 (((zuu (⟨(⟨(⟨a0_list_Gates_n,zae a0_list_Gates_g⟩:(Sl Gate))⟩:list),(⟨a0_corners_n,za4 a0_corners_g⟩:(Sl straight))⟩:set)).1).Den)],.agg [.int .i64 (((zuu (⟨(⟨(⟨a0_list_Gates_n,zae a0_list_Gates_g⟩:(Sl Gate))⟩:list),(⟨a0_corners_n,za4 a0_corners_g⟩:(Sl straight))⟩:set)).2).Num),.int .i64 (((zuu (⟨(⟨(⟨a0_list_Gates_n,zae a0_list_Gates_g⟩:(Sl Gate))⟩:list),(⟨a0_corners_n,za4 a0_corners_g⟩:(Sl straight))⟩:set)).2).Den)]]
  | _=>.no
theorem zJr:zah Try.prog 82:=⟨_,rfl,rfl,by kernel_rfl⟩
theorem zN2:Ok Try.prog 82 zBH:=zaN zMj zJr fun args K h=>by
  unfold zBH at h
  split at h
  · rename_i a0_list_Gates_n a0_list_Gates_s a0_list_Gates_g a0_corners_n a0_corners_s a0_corners_g c0
    obtain ⟨⟨⟨rfl,a0_list_Gates_f,rfl⟩,⟨rfl,a0_corners_f,rfl⟩,hs⟩,hk⟩:=h
    try rw [zac a0_list_Gates_f] at hs
    try rw [zac a0_list_Gates_f] at hk
    try rw [za0 a0_corners_f] at hs
    try rw [za0 a0_corners_f] at hk
    exact ⟨(fun _ _=>[]),(fun _=>false),zEG,q82 c0 (⟨(⟨(⟨a0_list_Gates_n,a0_list_Gates_f⟩:(Sl Gate))⟩:list),(⟨a0_corners_n,a0_corners_f⟩:(Sl straight))⟩:set) K hs hk⟩
  · rename_i a0_list_Gates_n a0_list_Gates_s a0_list_Gates_g a0_corners_n a0_corners_s a0_corners_g
    obtain ⟨⟨⟨rfl,a0_list_Gates_f,rfl⟩,⟨rfl,a0_corners_f,rfl⟩,hs⟩,hk⟩:=h
    try rw [zac a0_list_Gates_f] at hs
    try rw [zac a0_list_Gates_f] at hk
    try rw [za0 a0_corners_f] at hs
    try rw [za0 a0_corners_f] at hk
    exact ⟨(fun _ _=>[]),(fun _=>false),zwx,zPm (⟨(⟨(⟨a0_list_Gates_n,a0_list_Gates_f⟩:(Sl Gate))⟩:list),(⟨a0_corners_n,a0_corners_f⟩:(Sl straight))⟩:set) K hs hk⟩
  · exact h.elim
abbrev T68:Tabs:=((((Tabs.nil.addF 67 zo2).addF 82 zBH).addF 89 zqc).addF 98 zBx)
theorem zMk:TabsOk Try.prog T68:=((((TabsOk.nil.addF zI5).addF zN2).addF zLC).addF zNT)
abbrev G68:Ctrs:=csm T68 (fun _ _=>[]) (fun _=>false)
def zJs:Ann:=⟨24,[(0,zK [2,3,4,5] [2,3,4,5]),(1,zK [2,3,4,5,9] [2,3,4,5]),(2,zK [4,5,6] [4,5,6]),(3,zK [4,5] [4,5]),(4,zK [4,5] [4,5])],
 [],
 [],
 [],[]⟩
abbrev R68:=(Frac×Frac)
abbrev e68 (r:R68):List PA:=[.agg [.int .i64 r.1.Num,.int .i64 r.1.Den],.agg [.int .i64 r.2.Num,.int .i64 r.2.Den]]
section
variable {K:List PA→Prop} {s:set} {z:Int}
def s68 (s:set) (z:Int):(Frac×Frac) :=
  (cond (s67 s.list)
 ((s89 ((s98 s.list).Low) (1:Int)),(s89 ((s98 s.list).High) (1:Int)))
 (((s82 z s).1),((s82 z s).2)))
def p68 (s:set) (z:Int):Bool :=
  (decide ((p67 s.list=true)) &&
 (cond (s67 s.list)
 (decide ((p98 s.list=true)) &&
 (decide ((p89 ((s98 s.list).Low) (1:Int)=true)) &&
 (decide ((p89 ((s98 s.list).High) (1:Int)=true)) &&
 true)))
 (decide ((p82 z s=true)) &&
 true)))
end
theorem q68 (s:set) (z:Int) (K:List PA→Prop) (hs:p68 s z=true) (hk:K (e68 (s68 s z))):vcFun Try.prog G68 zJs 68 [.agg (za8 s),.one (.int .i64 z)] K :=
  zaK (by kernel_rfl) (zaD hs fun hc hs=>And.intro (And.intro (zE enc_55 3 s.list.Gates.get) hc) (zc hs hk (fun hs hk=>(zaD hs fun hc hs=>And.intro (And.intro (zE enc_55 3 s.list.Gates.get) hc) (zaD hs fun hc hs=>And.intro hc (zaD hs fun hc hs=>And.intro hc hk)))) (fun hs hk=>(zaD hs fun hc hs=>And.intro (And.intro (zE enc_55 3 s.list.Gates.get) (And.intro (zE zaf 3 s.corners.get) hc)) hk))))
def zwz : List PA → COut
  | [.agg [.sl a0_list_Gates_n a0_list_Gates_s a0_list_Gates_g,.sl a0_corners_n a0_corners_s a0_corners_g],.one (.int .i64 a1)]=>.det (IsE enc_55 3 a0_list_Gates_s a0_list_Gates_g∧IsE zaf 3 a0_corners_s a0_corners_g∧p68 (⟨(⟨(⟨a0_list_Gates_n,zae a0_list_Gates_g⟩:(Sl Gate))⟩:list),(⟨a0_corners_n,za4 a0_corners_g⟩:(Sl straight))⟩:set) a1=true) [.agg [.int .i64 (((s68 (⟨(⟨(⟨a0_list_Gates_n,zae a0_list_Gates_g⟩:(Sl Gate))⟩:list),(⟨a0_corners_n,za4 a0_corners_g⟩:(Sl straight))⟩:set) a1).1).Num),.int .i64 (((s68 (⟨(⟨(⟨a0_list_Gates_n,zae a0_list_Gates_g⟩:(Sl Gate))⟩:list),(⟨a0_corners_n,za4 a0_corners_g⟩:(Sl straight))⟩:set) a1).1).Den)],.agg [.int .i64 (((s68 (⟨(⟨(⟨a0_list_Gates_n,zae a0_list_Gates_g⟩:(Sl Gate))⟩:list),(⟨a0_corners_n,za4 a0_corners_g⟩:(Sl straight))⟩:set) a1).2).Num),.int .i64 (((s68 (⟨(⟨(⟨a0_list_Gates_n,zae a0_list_Gates_g⟩:(Sl Gate))⟩:list),(⟨a0_corners_n,za4 a0_corners_g⟩:(Sl straight))⟩:set) a1).2).Den)]]
  | _=>.no
theorem zJt:zah Try.prog 68:=⟨_,rfl,rfl,by kernel_rfl⟩
theorem zN3:Ok Try.prog 68 zwz:=zaN zMk zJt fun args K h=>by
  unfold zwz at h
  split at h
  · rename_i a0_list_Gates_n a0_list_Gates_s a0_list_Gates_g a0_corners_n a0_corners_s a0_corners_g a1
    obtain ⟨⟨⟨rfl,a0_list_Gates_f,rfl⟩,⟨rfl,a0_corners_f,rfl⟩,hs⟩,hk⟩:=h
    try rw [zac a0_list_Gates_f] at hs
    try rw [zac a0_list_Gates_f] at hk
    try rw [za0 a0_corners_f] at hs
    try rw [za0 a0_corners_f] at hk
    exact ⟨(fun _ _=>[]),(fun _=>false),zJs,q68 (⟨(⟨(⟨a0_list_Gates_n,a0_list_Gates_f⟩:(Sl Gate))⟩:list),(⟨a0_corners_n,a0_corners_f⟩:(Sl straight))⟩:set) a1 K hs hk⟩
  · exact h.elim
abbrev T87:Tabs:=(Tabs.nil.addF 74 zmQ)
theorem zMl:TabsOk Try.prog T87:=(TabsOk.nil.addF zEl)
abbrev G87:Ctrs:=csm T87 (fun _ _=>[]) (fun _=>false)
def zJu:Ann:=⟨23,[(0,zK [1] [1]),(1,zK [2] [])],
 [],
 [],
 [],[]⟩
abbrev R87:=Bool
abbrev e87 (r:R87):List PA:=[.one (.bool r)]
section
variable {K:List PA→Prop} {g:Gate}
def s87 (g:Gate):Bool :=
  (cond (s74 g.Z (0:Int) (100000:Int))
 (cond (decide (g.Low ≥ (-1000000:Int)))
 (cond (decide (g.Low ≤ g.High))
 (decide (g.High≤(1000000:Int)))
 false)
 false)
 false)
end
theorem q87 (g:Gate) (K:List PA→Prop) (hk:K (e87 (s87 g))):vcFun Try.prog G87 zJu 87 [.agg (enc_55 g)] K :=
  zaK (by kernel_rfl) (zt hk (fun hk=>(zt hk (fun hk=>(zt hk (fun hk=>hk) (fun hk=>hk))) (fun hk=>hk))) (fun hk=>hk))
def zBI : List PA → COut
  | [.agg [.int .i64 a0_Z,.int .i64 a0_Low,.int .i64 a0_High]]=>.tot [.one (.bool (s87 (⟨a0_Z,a0_Low,a0_High⟩:Gate)))]
  | _=>.no
theorem zJv:zah Try.prog 87:=⟨_,rfl,rfl,by kernel_rfl⟩
theorem zPn:Ok Try.prog 87 zBI:=zaN zMl zJv fun args K h=>by
  unfold zBI at h
  split at h
  · rename_i a0_Z a0_Low a0_High
    have hk:=h
    exact ⟨(fun _ _=>[]),(fun _=>false),zJu,q87 (⟨a0_Z,a0_Low,a0_High⟩:Gate) K hk⟩
  · exact h.elim
abbrev T64:Tabs:=((Tabs.nil.addF 74 zmQ).addF 87 zBI)
theorem zMm:TabsOk Try.prog T64:=((TabsOk.nil.addF zEl).addF zPn)
abbrev G64:Ctrs:=csm T64 (fun _ _=>[]) (fun _=>false)
def zEL:Ann:=⟨18,[(0,zK [0] []),(1,zK [0,5,6,7] []),(2,zK [0,5,6,7,8] []),(3,zK [0,4,5,6,7] [4]),(4,zK [0,5,6,7,13] []),(5,zK [2] []),(6,zK [0,5,6,7] []),(7,zK [2] [])],
 [(2,zK [0,5,6,7] [])],
 [(5,zK [0,5,6,7,13] [])],
 [],[]⟩
abbrev R64:=Bool
abbrev e64 (r:R64):List PA:=[.one (.bool r)]
@[irreducible] def z64:=ptF Try.prog G64 zEL Try.f64
def zDa (zaa:(Sl Gate)) (za9:Int):St:=⟨[(0,zS enc_55 3 zaa),(5,zS enc_55 3 zaa),(6,zI (zaa.len:Int)),(7,zI za9)],[],[]⟩
abbrev zEM (K:List PA→Prop) (zaa:(Sl Gate)) (X:St→Prop) (P:Int→Bool) (S:Int→Bool):Prop:=∀ ⦃za9:Int⦄,P za9=true→K (e64 (S za9))→X (zDa zaa za9)
section
variable {K:List PA→Prop} {zaa:(Sl Gate)} {za9:Int} {X0:St→Prop} {P0:Int→Bool} {S0:Int→Bool} {zgl:Int} {zqo:Bool}
def zqp (S0:Int→Bool) (zaa:(Sl Gate)) (zgl:Int) (zqo:Bool):Bool :=
  (cond zqo
 false
 (S0 (w64 (zgl+(1:Int)))))
def zqq (P0:Int→Bool) (zaa:(Sl Gate)) (zgl:Int) (zqo:Bool):Bool :=
  (cond zqo
 true
 (P0 (w64 (zgl+(1:Int)))))
theorem zEN (hX0:zEM K zaa X0 P0 S0) (hs:zqq P0 zaa zgl zqo=true) (hk:K (e64 (zqp S0 zaa zgl zqo))):z64 K [1,0,1,0,0,1,1,0,0,1,1] [X0] ⟨[(0,zS enc_55 3 zaa),(5,zS enc_55 3 zaa),(6,zI (zaa.len:Int)),(7,zI zgl),(13,zB zqo)],[],[]⟩:=zaK (by kernel_rfl) (zc hs hk (fun hs hk=>hk) (fun hs hk=>(hX0 hs hk)))
def zhX (zaa:(Sl Gate)) (S0:Int→Bool) (za9:Int):Bool :=
  (cond (decide (za9 < (zaa.len : Int)))
 (zqp S0 zaa za9 (!(s87 (zaa.get za9.toNat))))
 (s74 (zaa.len:Int) (1:Int) (24:Int)))
def zhY (zaa:(Sl Gate)) (P0:Int→Bool) (za9:Int):Bool :=
  (cond (decide (za9 < (zaa.len : Int)))
 (decide ((0≤za9∧za9 < (zaa.len:Int))) &&
 (zqq P0 zaa za9 (!(s87 (zaa.get za9.toNat)))))
 true)
def zhZ (zaa:(Sl Gate)):Nat→Int→Bool:=lpO (fun _=>default) (zhX zaa)
def zh0 (zaa:(Sl Gate)):Nat→Int→Bool:=lpO (fun _=>false) (zhY zaa)
def zwA (zaa:(Sl Gate)) (za9:Int):Bool:=zhZ zaa Fuel za9
def zwB (zaa:(Sl Gate)) (za9:Int):Bool:=zh0 zaa Fuel za9
theorem zEO (hs:zwB zaa za9=true) (hk:K (e64 (zwA zaa za9))):z64 K [1,0,1,0] [] (zDa zaa za9) :=
  zl (fun X=>z64 K [1,0,1,0,0] [X]) (by kernel_rfl) fun X0 hX =>
  (show ∀ k, zEM K zaa X0 (zh0 zaa k) (zhZ zaa k) from zgj _ _ (zhY zaa) (zhX zaa) (zEM K zaa X0)
 (by intro _ hs;exact absurd hs Bool.false_ne_true)
 (by intro P0 S0 hX0 za9 hs hk;exact hX _ (zaK (by kernel_rfl) (zc hs hk (fun hs hk=>(zaD hs fun hc hs=>And.intro hc (zEN hX0 hs hk))) (fun hs hk=>hk))))) _ hs hk
def s64 (zaa:(Sl Gate)):Bool :=
  (zwA zaa (0:Int))
def p64 (zaa:(Sl Gate)):Bool :=
  (zwB zaa (0:Int))
end
theorem q64 (zaa:(Sl Gate)) (K:List PA→Prop) (hs:p64 zaa=true) (hk:K (e64 (s64 zaa))):vcFun Try.prog G64 zEL 64 [.one (.sl zaa.len 3 (fun i=>enc_55 (zaa.get i)))] K :=
  zaK (by kernel_rfl) (zEO hs hk)
def zqr : List PA → COut
  | [.one (.sl a0_n a0_s a0_g)]=>.det (IsE enc_55 3 a0_s a0_g∧p64 (⟨a0_n,zae a0_g⟩:(Sl Gate))=true) [.one (.bool (s64 (⟨a0_n,zae a0_g⟩:(Sl Gate))))]
  | _=>.no
theorem zJw:zah Try.prog 64:=⟨_,rfl,rfl,by kernel_rfl⟩
theorem zJx:Ok Try.prog 64 zqr:=zaN zMm zJw fun args K h=>by
  unfold zqr at h
  split at h
  · rename_i a0_n a0_s a0_g
    obtain ⟨⟨⟨rfl,a0_f,rfl⟩,hs⟩,hk⟩:=h
    try rw [zac a0_f] at hs
    try rw [zac a0_f] at hk
    exact ⟨(fun _ _=>[]),(fun _=>false),zEL,q64 (⟨a0_n,a0_f⟩:(Sl Gate)) K hs hk⟩
  · exact h.elim
abbrev T79:Tabs:=(Tabs.nil.addF 89 zqc)
theorem zMn:TabsOk Try.prog T79:=(TabsOk.nil.addF zLC)
abbrev G79:Ctrs:=csm T79 (fun _ _=>[]) (fun _=>false)
def zJy:Ann:=⟨14,[(0,zK [1,2] [1,2]),(1,zK [2] [2])],
 [],
 [],
 [],[]⟩
abbrev R79:=Line
abbrev e79 (r:R79):List PA:=[.agg [.int .i64 r.Slope.Num,.int .i64 r.Slope.Den,.int .i64 r.Start.Num,.int .i64 r.Start.Den]]
section
variable {K:List PA→Prop} {s:straight}
def s79 (s:straight):Line :=
  (⟨(s89 s.slope s.den),(s89 s.start s.den)⟩:Line)
def p79 (s:straight):Bool :=
  (decide ((p89 s.slope s.den=true)) &&
 (decide ((p89 s.start s.den=true)) &&
 true))
end
theorem q79 (s:straight) (K:List PA→Prop) (hs:p79 s=true) (hk:K (e79 (s79 s))):vcFun Try.prog G79 zJy 79 [.agg (zaf s)] K :=
  zaK (by kernel_rfl) (zaD hs fun hc hs=>And.intro hc (zaD hs fun hc hs=>And.intro hc hk))
def zBJ : List PA → COut
  | [.agg [.int .i64 a0_slope,.int .i64 a0_start,.int .i64 a0_den]]=>.det (p79 (⟨a0_slope,a0_start,a0_den⟩:straight)=true) [.agg [.int .i64 ((s79 (⟨a0_slope,a0_start,a0_den⟩:straight)).Slope.Num),.int .i64 ((s79 (⟨a0_slope,a0_start,a0_den⟩:straight)).Slope.Den),.int .i64 ((s79 (⟨a0_slope,a0_start,a0_den⟩:straight)).Start.Num),.int .i64 ((s79 (⟨a0_slope,a0_start,a0_den⟩:straight)).Start.Den)]]
  | _=>.no
theorem zJz:zah Try.prog 79:=⟨_,rfl,rfl,by kernel_rfl⟩
theorem zN4:Ok Try.prog 79 zBJ:=zaN zMn zJz fun args K h=>by
  unfold zBJ at h
  split at h
  · rename_i a0_slope a0_start a0_den
    obtain ⟨hs,hk⟩:=h
    exact ⟨(fun _ _=>[]),(fun _=>false),zJy,q79 (⟨a0_slope,a0_start,a0_den⟩:straight) K hs hk⟩
  · exact h.elim
abbrev T96:Tabs:=Tabs.nil
theorem zMo:TabsOk Try.prog T96:=TabsOk.nil
abbrev G96:Ctrs:=csm T96 (fun _ _=>[]) (fun _=>false)
def zEP:Ann:=⟨4,[(0,⟨[1],[1],[],[],[],[],[]⟩),(1,⟨[2],[],[],[],[],[],[]⟩)],
 [],
 [],
 [],[]⟩
theorem zEQ (l_a0 : list) (K : List PA → Prop) :
  vcFun Try.prog G96 zEP 96 [.agg [.sl l_a0.Gates.len 3 (fun i=>enc_55 (l_a0.Gates.get i))]] K =
  (K [.one (.fn 115 [] [.fp (zcf l_a0) 0])]):=by kernel_rfl
theorem q96 (l_a0:list) (K:List PA→Prop) (hk:K [.one (.fn 115 [] [.fp (zcf l_a0) 0])]):vcFun Try.prog G96 zEP 96 [.agg [.sl l_a0.Gates.len 3 (fun i=>enc_55 (l_a0.Gates.get i))]] K:=zaK (zEQ l_a0 K) hk
def zER : List PA → COut
  | [.agg [.sl a0_Gates_n a0_Gates_s a0_Gates_g]]=>.det (IsE enc_55 3 a0_Gates_s a0_Gates_g) [.one (.fn 115 [] [.fp (zcf (⟨(⟨a0_Gates_n,zae a0_Gates_g⟩:(Sl Gate))⟩:list)) 0])]
  | _=>.no
theorem zJA:zah Try.prog 96:=⟨_,rfl,rfl,by kernel_rfl⟩
theorem zPo:Ok Try.prog 96 zER:=zaN zMo zJA fun args K h=>by
  unfold zER at h
  split at h
  · rename_i a0_Gates_n a0_Gates_s a0_Gates_g
    obtain ⟨⟨rfl,a0_Gates_f,rfl⟩,hk⟩:=h
    try rw [zac a0_Gates_f] at hk
    exact ⟨fun _ _=>[],fun _=>false,zEP,q96 (⟨(⟨a0_Gates_n,a0_Gates_f⟩:(Sl Gate))⟩:list) K hk⟩
  · exact h.elim
abbrev T97:Tabs:=(Tabs.nil.addF 99 zwc)
theorem zMp:TabsOk Try.prog T97:=(TabsOk.nil.addF zL2)
abbrev G97:Ctrs:=csm T97 (fun _ _=>[]) (fun _=>false)
def zES:Ann:=⟨11,[(0,zK [2,3] [2,3]),(1,zK [4] [])],
 [],
 [],
 [],[]⟩
abbrev R97:=Bool
abbrev e97 (r:R97):List PA:=[.one (.bool r)]
section
variable {K:List PA→Prop} {s:set} {x:straight}
def s97 (s:set) (x:straight):Bool :=
  (!(zLy x s.list.Gates))
def p97 (s:set) (x:straight):Bool :=
  (decide ((zLz x s.list.Gates=true)) &&
 true)
end
theorem q97 (s:set) (x:straight) (K:List PA→Prop) (hs:p97 s x=true) (hk:K (e97 (s97 s x))):vcFun Try.prog G97 zES 97 [.agg (za8 s),.agg (zaf x)] K :=
  zaK (by kernel_rfl) (zaD hs fun hc hs=>And.intro (And.intro (zE enc_55 3 s.list.Gates.get) hc) hk)
def zET : List PA → COut
  | [.agg [.sl a0_list_Gates_n a0_list_Gates_s a0_list_Gates_g,.sl a0_corners_n a0_corners_s a0_corners_g],.agg [.int .i64 a1_slope,.int .i64 a1_start,.int .i64 a1_den]]=>.det (IsE enc_55 3 a0_list_Gates_s a0_list_Gates_g∧IsE zaf 3 a0_corners_s a0_corners_g∧p97 (⟨(⟨(⟨a0_list_Gates_n,zae a0_list_Gates_g⟩:(Sl Gate))⟩:list),(⟨a0_corners_n,za4 a0_corners_g⟩:(Sl straight))⟩:set) (⟨a1_slope,a1_start,a1_den⟩:straight)=true) [.one (.bool (s97 (⟨(⟨(⟨a0_list_Gates_n,zae a0_list_Gates_g⟩:(Sl Gate))⟩:list),(⟨a0_corners_n,za4 a0_corners_g⟩:(Sl straight))⟩:set) (⟨a1_slope,a1_start,a1_den⟩:straight)))]
  | [.agg [.sl a0_list_Gates_n a0_list_Gates_s a0_list_Gates_g,.nils],.agg [.int .i64 a1_slope,.int .i64 a1_start,.int .i64 a1_den]]=>.det (IsE enc_55 3 a0_list_Gates_s a0_list_Gates_g∧p97 (⟨(⟨(⟨a0_list_Gates_n,zae a0_list_Gates_g⟩:(Sl Gate))⟩:list),(⟨0,fun _=>default⟩:(Sl straight))⟩:set) (⟨a1_slope,a1_start,a1_den⟩:straight)=true) [.one (.bool (s97 (⟨(⟨(⟨a0_list_Gates_n,zae a0_list_Gates_g⟩:(Sl Gate))⟩:list),(⟨0,fun _=>default⟩:(Sl straight))⟩:set) (⟨a1_slope,a1_start,a1_den⟩:straight)))]
  | _=>.no
theorem zJB:zah Try.prog 97:=⟨_,rfl,rfl,by kernel_rfl⟩
theorem zPp:Ok Try.prog 97 zET:=zgi zMp zJB fun args K h=>by
  unfold zET at h
  split at h
  · rename_i a0_list_Gates_n a0_list_Gates_s a0_list_Gates_g a0_corners_n a0_corners_s a0_corners_g a1_slope a1_start a1_den
    obtain ⟨⟨⟨rfl,a0_list_Gates_f,rfl⟩,⟨rfl,a0_corners_f,rfl⟩,hs⟩,hk⟩:=h
    try rw [zac a0_list_Gates_f] at hs
    try rw [zac a0_list_Gates_f] at hk
    try rw [za0 a0_corners_f] at hs
    try rw [za0 a0_corners_f] at hk
    exact ⟨_,ze6 zfi _,(fun _ _=>[]),(fun _=>false),zES,q97 (⟨(⟨(⟨a0_list_Gates_n,a0_list_Gates_f⟩:(Sl Gate))⟩:list),(⟨a0_corners_n,a0_corners_f⟩:(Sl straight))⟩:set) (⟨a1_slope,a1_start,a1_den⟩:straight) (Wk K) hs (zd7 hk)⟩
  · rename_i a0_list_Gates_n a0_list_Gates_s a0_list_Gates_g a1_slope a1_start a1_den
    obtain ⟨⟨⟨rfl,a0_list_Gates_f,rfl⟩,hs⟩,hk⟩:=h
    try rw [zac a0_list_Gates_f] at hs
    try rw [zac a0_list_Gates_f] at hk
    exact ⟨_,(zc9 (.agg (zc9 (.rfl _) (zc9 (.nil _ _) zhD))) (zc9 (zfi _) zhD)),(fun _ _=>[]),(fun _=>false),zES,q97 (⟨(⟨(⟨a0_list_Gates_n,a0_list_Gates_f⟩:(Sl Gate))⟩:list),(⟨0,fun _=>default⟩:(Sl straight))⟩:set) (⟨a1_slope,a1_start,a1_den⟩:straight) (Wk K) hs (zd7 hk)⟩
  · exact h.elim
abbrev zN5:Tabs:=Tabs.nil
theorem zJC:TabsOk Try.prog zN5:=TabsOk.nil
abbrev zN6:Ctrs:=csm zN5 (fun _ _=>[]) (fun _=>false)
def zwC:Ann:=⟨30,[(0,zK [0,1,2,3,8] [8]),(1,zK [0,1,2,3,8,11] [8]),(2,zK [0,1,2,3,8] [8]),(3,zK [8] [8])],
 [],
 [(3,zK [0,1,2,3,8] [8])],
 [],[]⟩
abbrev zPq:=straight
abbrev e116 (r:zPq):List PA:=[.agg [.int .i64 r.slope,.int .i64 r.start,.int .i64 r.den]]
@[irreducible] def z116:=ptF Try.prog zN6 zwC Try.f116
section
variable {K:List PA→Prop} {z:Int} {p:Int} {y_a2:Int} {q:Int} {zv0:Int} {pv0:Int} {yv0:Int} {qv0:Int}
def zi7 (zv0:Int) (pv0:Int) (yv0:Int) (qv0:Int):straight :=
  (⟨(w64 (qv0 - pv0)),(w64 ((w64 (pv0 * yv0)) - (w64 (qv0 * zv0)))),(w64 (yv0 - zv0))⟩:straight)
theorem ztm (hk:K (e116 (zi7 zv0 pv0 yv0 qv0))):z116 K [1,1] [] ⟨[(0,zI zv0),(1,zI pv0),(2,zI yv0),(3,zI qv0),(8,zp 8 0)],[(8,.box 118 (zm (zaf (⟨(0:Int),(0:Int),(0:Int)⟩:straight))))],[]⟩:=zaK (by kernel_rfl) hk
def zls (z:Int) (p:Int) (y_a2:Int) (q:Int):straight :=
  (cond (decide (z > y_a2))
 (zi7 y_a2 q z p)
 (zi7 z p y_a2 q))
end
theorem zPr (z:Int) (p:Int) (y_a2:Int) (q:Int) (K:List PA→Prop) (hk:K (e116 (zls z p y_a2 q))):vcFun Try.prog zN6 zwC 116 [.one (.int .i64 z),.one (.int .i64 p),.one (.int .i64 y_a2),.one (.int .i64 q)] K :=
  zaK (by kernel_rfl) (zt hk (fun hk=>(ztm hk)) (fun hk=>(ztm hk)))
def zwD : List PA → COut
  | [.one (.int .i64 a0),.one (.int .i64 a1),.one (.int .i64 a2),.one (.int .i64 a3)]=>.tot [.agg [.int .i64 ((zls a0 a1 a2 a3).slope),.int .i64 ((zls a0 a1 a2 a3).start),.int .i64 ((zls a0 a1 a2 a3).den)]]
  | _=>.no
theorem zEU:zah Try.prog 116:=⟨_,rfl,rfl,by kernel_rfl⟩
theorem zMq:Ok Try.prog 116 zwD:=zaN zJC zEU fun args K h=>by
  unfold zwD at h
  split at h
  · rename_i a0 a1 a2 a3
    have hk:=h
    exact ⟨(fun _ _=>[]),(fun _=>false),zwC,zPr a0 a1 a2 a3 K hk⟩
  · exact h.elim
abbrev zN7:Tabs:=(Tabs.nil.addF 116 zwD)
theorem zJD:TabsOk Try.prog zN7:=(TabsOk.nil.addF zMq)
abbrev zwE:Ctrs:=csm zN7 (fun _ _=>[]) (fun _=>false)
def zce:Ann:=⟨64,[(0,⟨[0,1,12,13,14],[],[],[],[],[],[]⟩),(1,⟨[0,1,12,13,14,15],[],[],[],[],[],[]⟩),(2,⟨[0,1,3,4,12,13,14],[4],[],[],[],[],[]⟩),(3,⟨[0,1,4,12,13,14,23,24,25],[4],[],[],[],[],[]⟩),(4,⟨[0,1,4,12,13,14,23,24,25,26],[4],[],[],[],[],[]⟩),(5,⟨[0,1,4,6,12,13,14,23,24,25],[4,6],[],[],[],[],[]⟩),(6,⟨[0,1,4,6,12,13,14,23,24,25,33],[4,6],[],[],[],[],[]⟩),(7,⟨[0,1,4,6,12,13,14,23,24,25,38,39],[4,6],[],[],[],[],[]⟩),(8,⟨[0,1,4,6,12,13,14,23,24,25,38,39,40],[4,6],[],[],[],[],[]⟩),(9,⟨[0,1,4,6,8,12,13,14,23,24,25,38,39],[4,6],[],[],[],[],[]⟩),(10,⟨[0,1,4,6,8,12,13,14,23,24,25,38,39,46,47],[4,6],[],[],[],[],[]⟩),(11,⟨[0,1,4,6,8,12,13,14,23,24,25,38,39,46,47,48],[4,6],[],[],[],[],[]⟩),(12,⟨[0,1,4,6,8,10,12,13,14,23,24,25,38,39,46,47],[4,6],[],[],[],[],[]⟩),(13,⟨[0,1,4,6,8,12,13,14,23,24,25,38,39,46,47,59],[4,6],[],[],[],[],[]⟩),(14,⟨[0,1,4,6,8,12,13,14,23,24,25,38,39,46,47],[4,6],[],[],[],[],[]⟩),(15,⟨[0,1,4,6,12,13,14,23,24,25,38,39],[4,6],[],[],[],[],[]⟩),(16,⟨[0,1,4,12,13,14,23,24,25],[4],[],[],[],[],[]⟩),(17,⟨[0,1,12,13,14],[],[],[],[],[],[]⟩)],
 [(1,⟨[0,1,12,13,14],[],[],[],[],[],[]⟩),(4,⟨[0,1,4,12,13,14,23,24,25],[4],[],[],[],[4],[]⟩)],
 [],
 [(8,3,⟨[0,1,4,6,12,13,14,23,24,25,38,39],[4,6],[],[],[],[],[]⟩),(11,3,⟨[0,1,4,6,8,12,13,14,23,24,25,38,39,46,47],[4,6],[],[],[],[],[]⟩)],[13]⟩
def zfj (l:Nat) (a:list) (zai:Int):St:=⟨[(0,.one (.c (.p (.yl l)))),(1,.one (.c (.p (.fp (zcf a) 0)))),(12,.one (.c (.p (.sl a.Gates.len 3 (fun i=>enc_55 (a.Gates.get i)))))),(13,.one (.c (.p (.int .i64 (a.Gates.len:Int))))),(14,.one (.c (.p (.int .i64 zai))))],[],[]⟩
def zhj (l:Nat) (ys:List (List PA)) (a:list) (zai:Int):Prop:=vcY Try.prog zwE zce l (cdF Try.f115 [1,0]) (zde 0 zlw) ys false (zfj l a zai)
def zfk (l:Nat) (a:list) (za3:Int) (zfl:Nat) (zcg:Nat→List PV) (zbG:Int) (zaQ:Int) (zaZ:Int) (za7:Int) (zbr:Int):St:=⟨[(0,.one (.c (.p (.yl l)))),(1,.one (.c (.p (.fp (zcf a) 0)))),(4,.one (.c (.ptr 4 0))),(12,.one (.c (.p (.sl a.Gates.len 3 (fun i=>enc_55 (a.Gates.get i)))))),(13,.one (.c (.p (.int .i64 (a.Gates.len:Int))))),(14,.one (.c (.p (.int .i64 za3)))),(23,.one (.c (.p (.sl zfl 3 zcg)))),(24,.one (.c (.p (.int .i64 zbG)))),(25,.one (.c (.p (.int .i64 zaQ))))],[(4,.fbox [.int .i64 zaZ,.int .i64 za7,.int .i64 zbr])],[]⟩
def zhk (l:Nat) (X0:List (List PA)→Bool→St→Prop) (ys:List (List PA)) (a:list) (za3:Int) (zfl:Nat) (zcg:Nat→List PV) (zbG:Int) (zaQ:Int) (zaZ:Int) (za7:Int) (zbr:Int):Prop:=vcY Try.prog zwE zce l (cdF Try.f115 [1,0,0,1,1,0,0,1,1,0]) (zde 2 (zde 1 (zIk (zIm Try.prog zce 17 (vcY Try.prog zwE zce l (cdF Try.f115 [1,0,0,1,1,1]) (ziO Try.prog zce 1 X0 (zde 0 zlw)))) (ziO Try.prog zce 1 X0 (zde 0 zlw))))) ys false (zfk l a za3 zfl zcg zbG zaQ zaZ za7 zbr)
theorem zBK (l : Nat) (a : list) (ys : List (List PA)) :
  vcIter Try.prog zwE zce 115 l [.one (.fp (zcf a) 0)] ys =
  (zhj l ys a (0:Int)):=by kernel_rfl
def zl7 (l:Nat) (X0:List (List PA)→Bool→St→Prop) (ys:List (List PA)) (a:list) (zai:Int):Prop :=
  (zdd (decide (zai < (a.Gates.len : Int)))
 (((0≤zai∧zai < (a.Gates.len:Int))) ∧
 (((0≤(w64 (zai+(1:Int)))∧(w64 (zai+(1:Int)))≤(a.Gates.len:Int)∧(a.Gates.len:Int)≤(a.Gates.len:Int))) ∧
 (zhk l  X0 ys a zai (((a.Gates.len:Int) - (w64 (zai+(1:Int)))).toNat) (slG (fun i=>enc_55 (a.Gates.get i)) ((w64 (zai+(1:Int))).toNat)) (((a.Gates.len:Int) - (w64 (zai+(1:Int)))).toNat:Int) (0:Int) ((a.Gates.get zai.toNat).Z) ((a.Gates.get zai.toNat).Low) ((a.Gates.get zai.toNat).High))))
 (ys=[]))
theorem zo5 (l : Nat) (X0 : List (List PA) → Bool → St → Prop) (ys : List (List PA)) (a : list) (zai : Int) :
  vcY Try.prog zwE zce l (cd (cdF Try.f115 [1,0]) [0]) (ziO Try.prog zce 1 X0 (zde 0 zlw)) ys false (zfj l a zai) =
  zl7 l X0 ys a zai:=by kernel_rfl
theorem zuv (l : Nat) (ys : List (List PA)) (a : list) (zai : Int)
  (h:∀ X0:List (List PA)→Bool→St→Prop,(∀ (ys:List (List PA)) (zai:Int),zl7 l X0 ys a zai→X0 ys false (zfj l a zai))→X0 ys false (zfj l a zai)) :
  zhj l ys a zai:=by
  have e:zhj l ys a zai=(∀ X:List (List PA)→Bool→St→Prop,(∀ ys q s,vcY Try.prog zwE zce l (cd (cdF Try.f115 [1,0]) [0]) (ziO Try.prog zce 1 X (zde 0 zlw)) ys q s→X ys q s)→X ys false (zfj l a zai)):=by kernel_rfl
  refine zaK e ?_
  intro X hX
  refine h X ?_
  intro ys zai hs
  refine hX _ _ _ ?_
  have e2:=zo5 l X ys a zai
  rw [e2]
  exact hs
def zl8 (l:Nat) (X0:List (List PA)→Bool→St→Prop) (X1:List (List PA)→Bool→St→Prop) (ys:List (List PA)) (a:list) (za3:Int) (zaV:(Sl Gate)) (zbG:Int) (zaQ:Int) (zaZ:Int) (za7:Int) (zbr:Int):Prop :=
  (zdd (decide (zaQ < zbG))
 (((0≤zaQ∧zaQ < (zaV.len:Int))) ∧
 (zdd (zaZ == (zaV.get zaQ.toNat).Z)
 (X1 ys false (zfk l a za3 zaV.len (fun i=>enc_55 (zaV.get i)) zbG (w64 (zaQ+(1:Int))) zaZ za7 zbr))
 (l=l∧∃ r1,ys=[.agg [.int .i64 ((zls zaZ za7 ((zaV.get zaQ.toNat).Z) ((zaV.get zaQ.toNat).Low)).slope),.int .i64 ((zls zaZ za7 ((zaV.get zaQ.toNat).Z) ((zaV.get zaQ.toNat).Low)).start),.int .i64 ((zls zaZ za7 ((zaV.get zaQ.toNat).Z) ((zaV.get zaQ.toNat).Low)).den)]] :: r1 ∧
 (l=l∧∃ r2,r1=[.agg [.int .i64 ((zls zaZ za7 ((zaV.get zaQ.toNat).Z) ((zaV.get zaQ.toNat).High)).slope),.int .i64 ((zls zaZ za7 ((zaV.get zaQ.toNat).Z) ((zaV.get zaQ.toNat).High)).start),.int .i64 ((zls zaZ za7 ((zaV.get zaQ.toNat).Z) ((zaV.get zaQ.toNat).High)).den)]] :: r2 ∧
 (l=l∧∃ r3,r2=[.agg [.int .i64 ((zls zaZ zbr ((zaV.get zaQ.toNat).Z) ((zaV.get zaQ.toNat).Low)).slope),.int .i64 ((zls zaZ zbr ((zaV.get zaQ.toNat).Z) ((zaV.get zaQ.toNat).Low)).start),.int .i64 ((zls zaZ zbr ((zaV.get zaQ.toNat).Z) ((zaV.get zaQ.toNat).Low)).den)]] :: r3 ∧
 (l=l∧∃ r4,r3=[.agg [.int .i64 ((zls zaZ zbr ((zaV.get zaQ.toNat).Z) ((zaV.get zaQ.toNat).High)).slope),.int .i64 ((zls zaZ zbr ((zaV.get zaQ.toNat).Z) ((zaV.get zaQ.toNat).High)).start),.int .i64 ((zls zaZ zbr ((zaV.get zaQ.toNat).Z) ((zaV.get zaQ.toNat).High)).den)]] :: r4 ∧
 (X1 r4 false (zfk l a za3 zaV.len (fun i=>enc_55 (zaV.get i)) zbG (w64 (zaQ+(1:Int))) zaZ za7 zbr))∧True)∧True)∧True)∧True)))
 (X0 ys false (zfj l a (w64 (za3+(1:Int))))))
theorem zo6 (l : Nat) (X0 : List (List PA) → Bool → St → Prop) (X1 : List (List PA) → Bool → St → Prop) (ys : List (List PA)) (a : list) (za3 : Int) (zaV : (Sl Gate)) (zbG : Int) (zaQ : Int) (zaZ : Int) (za7 : Int) (zbr : Int) :
  vcY Try.prog zwE zce l (cd (cdF Try.f115 [1,0,0,1,1,0,0,1,1,0]) [0]) (ziO Try.prog zce 4 X1 (zde 2 (zde 1 (zIk (zIm Try.prog zce 17 (vcY Try.prog zwE zce l (cdF Try.f115 [1,0,0,1,1,1]) (ziO Try.prog zce 1 X0 (zde 0 zlw)))) (ziO Try.prog zce 1 X0 (zde 0 zlw)))))) ys false (zfk l a za3 zaV.len (fun i=>enc_55 (zaV.get i)) zbG zaQ zaZ za7 zbr) =
  zl8 l  X0 X1 ys a za3 zaV zbG zaQ zaZ za7 zbr:=by kernel_rfl
theorem zuw (l : Nat) (X0 : List (List PA) → Bool → St → Prop) (ys : List (List PA)) (a : list) (za3 : Int) (zfl : Nat) (zcg : Nat → List PV) (zbG : Int) (zaQ : Int) (zaZ : Int) (za7 : Int) (zbr : Int)
  (h:∀ X1:List (List PA)→Bool→St→Prop,(∀ (ys:List (List PA)) (za3:Int) (zaV:(Sl Gate)) (zbG:Int) (zaQ:Int) (zaZ:Int) (za7:Int) (zbr:Int),zl8 l  X0 X1 ys a za3 zaV zbG zaQ zaZ za7 zbr→X1 ys false (zfk l a za3 zaV.len (fun i=>enc_55 (zaV.get i)) zbG zaQ zaZ za7 zbr))→X1 ys false (zfk l a za3 zfl zcg zbG zaQ zaZ za7 zbr)) :
  zhk l  X0 ys a za3 zfl zcg zbG zaQ zaZ za7 zbr:=by
  have e:zhk l  X0 ys a za3 zfl zcg zbG zaQ zaZ za7 zbr=(∀ X:List (List PA)→Bool→St→Prop,(∀ ys q s,vcY Try.prog zwE zce l (cd (cdF Try.f115 [1,0,0,1,1,0,0,1,1,0]) [0]) (ziO Try.prog zce 4 X (zde 2 (zde 1 (zIk (zIm Try.prog zce 17 (vcY Try.prog zwE zce l (cdF Try.f115 [1,0,0,1,1,1]) (ziO Try.prog zce 1 X0 (zde 0 zlw)))) (ziO Try.prog zce 1 X0 (zde 0 zlw)))))) ys q s→X ys q s)→X ys false (zfk l a za3 zfl zcg zbG zaQ zaZ za7 zbr)):=by kernel_rfl
  refine zaK e ?_
  intro X hX
  refine h X ?_
  intro ys za3 zaV zbG zaQ zaZ za7 zbr hs
  refine hX _ _ _ ?_
  have e2:=zo6 l  X0 X ys a za3 zaV zbG zaQ zaZ za7 zbr
  rw [e2]
  exact hs
attribute [irreducible] zhj zhk
def zeL (S0:Int→List straight) (a:list) (S1:Int→(Sl Gate)→Int→Int→Int→Int→Int→List straight) (za3:Int) (zaV:(Sl Gate)) (zbG:Int) (zaQ:Int) (zaZ:Int) (za7:Int) (zbr:Int):List straight :=
  (cond (decide (zaQ < zbG))
 (cond (zaZ == (zaV.get zaQ.toNat).Z)
 (S1 za3 zaV zbG (w64 (zaQ+(1:Int))) zaZ za7 zbr)
 ((zls zaZ za7 ((zaV.get zaQ.toNat).Z) ((zaV.get zaQ.toNat).Low)) :: ((zls zaZ za7 ((zaV.get zaQ.toNat).Z) ((zaV.get zaQ.toNat).High)) :: ((zls zaZ zbr ((zaV.get zaQ.toNat).Z) ((zaV.get zaQ.toNat).Low)) :: ((zls zaZ zbr ((zaV.get zaQ.toNat).Z) ((zaV.get zaQ.toNat).High)) :: (S1 za3 zaV zbG (w64 (zaQ+(1:Int))) zaZ za7 zbr))))))
 (S0 (w64 (za3+(1:Int)))))
def zeM (P0:Int→Bool) (a:list) (P1:Int→(Sl Gate)→Int→Int→Int→Int→Int→Bool) (za3:Int) (zaV:(Sl Gate)) (zbG:Int) (zaQ:Int) (zaZ:Int) (za7:Int) (zbr:Int):Bool :=
  (cond (decide (zaQ < zbG))
 (decide ((0≤zaQ∧zaQ < (zaV.len:Int))) &&
 (cond (zaZ == (zaV.get zaQ.toNat).Z)
 (P1 za3 zaV zbG (w64 (zaQ+(1:Int))) zaZ za7 zbr)
 (P1 za3 zaV zbG (w64 (zaQ+(1:Int))) zaZ za7 zbr)))
 (P0 (w64 (za3+(1:Int)))))
def zdx (S0 : Int → List straight) (a : list) : Nat → Int → (Sl Gate) → Int → Int → Int → Int → Int → List straight
  | 0=>fun _ _ _ _ _ _ _=>[]
  | k+1=>zeL S0 a (zdx S0 a k)
def zdy (P0 : Int → Bool) (a : list) : Nat → Int → (Sl Gate) → Int → Int → Int → Int → Int → Bool
  | 0=>fun _ _ _ _ _ _ _=>false
  | k+1=>zeM P0 a (zdy P0 a k)
def zmW (S0:Int→List straight) (a:list) (za3:Int) (zaV:(Sl Gate)) (zbG:Int) (zaQ:Int) (zaZ:Int) (za7:Int) (zbr:Int):List straight:=zdx S0 a Fuel za3 zaV zbG zaQ zaZ za7 zbr
def zmX (P0:Int→Bool) (a:list) (za3:Int) (zaV:(Sl Gate)) (zbG:Int) (zaQ:Int) (zaZ:Int) (za7:Int) (zbr:Int):Bool:=zdy P0 a Fuel za3 zaV zbG zaQ zaZ za7 zbr
theorem zBL (l : Nat) (a : list)
  (X0:List (List PA)→Bool→St→Prop) (P0:Int→Bool) (S0:Int→List straight)
  (hX0:∀ (ys:List (List PA)) (zai:Int),P0 zai=true→ys=(S0 zai).map (fun y=>[.agg (zaf y)])→X0 ys false (zfj l a zai)) (ys:List (List PA)) (za3:Int) (zaV:(Sl Gate)) (zbG:Int) (zaQ:Int) (zaZ:Int) (za7:Int) (zbr:Int) (zcg:Nat→List PV) (zka:zcg=fun i=>enc_55 (zaV.get i)) (hs:zmX P0 a za3 zaV zbG zaQ zaZ za7 zbr=true) (hk:ys=(zmW S0 a za3 zaV zbG zaQ zaZ za7 zbr).map (fun y=>[.agg (zaf y)])):zhk l  X0 ys a za3 zaV.len zcg zbG zaQ zaZ za7 zbr:=by
  refine zuw l  X0 ys a za3 zaV.len zcg zbG zaQ zaZ za7 zbr ?_
  intro X1 hstep
  have key:∀ (k:Nat) (ys:List (List PA)) (za3:Int) (zaV:(Sl Gate)) (zbG:Int) (zaQ:Int) (zaZ:Int) (za7:Int) (zbr:Int) (zcg:Nat→List PV) (zka:zcg=fun i=>enc_55 (zaV.get i)),zdy P0 a k za3 zaV zbG zaQ zaZ za7 zbr=true→ys=(zdx S0 a k za3 zaV zbG zaQ zaZ za7 zbr).map (fun y=>[.agg (zaf y)])→X1 ys false (zfk l a za3 zaV.len zcg zbG zaQ zaZ za7 zbr):=by
    intro k
    induction k with
    | zero=>intro ys za3 zaV zbG zaQ zaZ za7 zbr zcg zka hs;exact absurd hs Bool.false_ne_true
    | succ k ih =>
      intro ys za3 zaV zbG zaQ zaZ za7 zbr zcg zka hs hk
      subst zka
      refine hstep ys za3 zaV zbG zaQ zaZ za7 zbr ?_
      have hs:zeM P0 a (zdy P0 a k) za3 zaV zbG zaQ zaZ za7 zbr=true:=hs
      have hk:ys=(zeL S0 a (zdx S0 a k) za3 zaV zbG zaQ zaZ za7 zbr).map (fun y=>[.agg (zaf y)]):=hk
      unfold zeM at hs
      unfold zeL at hk
      generalize zdx S0 a k=S1 at hk ih
      generalize zdy P0 a k=P1 at hs ih
      have hX1:=ih
      exact (zmO hs hk
 (fun hs hk => (zaD hs fun hc hs => ⟨hc, (zmO hs hk
 (fun hs hk=>(hX1 _ za3 zaV zbG (w64 (zaQ+(1:Int))) zaZ za7 zbr (fun i=>enc_55 (zaV.get i)) rfl hs hk))
 (fun hs hk=>(itY hk rfl (fun _ hk=>(itY hk rfl (fun _ hk=>(itY hk rfl (fun _ hk=>(itY hk rfl (fun _ hk=>(hX1 _ za3 zaV zbG (w64 (zaQ+(1:Int))) zaZ za7 zbr (fun i=>enc_55 (zaV.get i)) rfl hs hk)))))))))))⟩))
 (fun hs hk=>(hX0 _ (w64 (za3+(1:Int))) hs hk)))
  exact key _ _ za3 zaV zbG zaQ zaZ za7 zbr zcg zka hs hk
def zeN (a:list) (S0:Int→List straight) (zai:Int):List straight :=
  (cond (decide (zai < (a.Gates.len : Int)))
 (zmW S0 a zai (⟨((a.Gates.len:Int) - (w64 (zai+(1:Int)))).toNat,(fun i=>a.Gates.get (i+((w64 (zai+(1:Int))).toNat)))⟩:Sl Gate) (((a.Gates.len:Int) - (w64 (zai+(1:Int)))).toNat:Int) (0:Int) ((a.Gates.get zai.toNat).Z) ((a.Gates.get zai.toNat).Low) ((a.Gates.get zai.toNat).High))
 [])
def zeO (a:list) (P0:Int→Bool) (zai:Int):Bool :=
  (cond (decide (zai < (a.Gates.len : Int)))
 (decide ((0≤zai∧zai < (a.Gates.len:Int))) &&
 (decide ((0≤(w64 (zai+(1:Int)))∧(w64 (zai+(1:Int)))≤(a.Gates.len:Int)∧(a.Gates.len:Int)≤(a.Gates.len:Int))) &&
 (zmX P0 a zai (⟨((a.Gates.len:Int) - (w64 (zai+(1:Int)))).toNat,(fun i=>a.Gates.get (i+((w64 (zai+(1:Int))).toNat)))⟩:Sl Gate) (((a.Gates.len:Int) - (w64 (zai+(1:Int)))).toNat:Int) (0:Int) ((a.Gates.get zai.toNat).Z) ((a.Gates.get zai.toNat).Low) ((a.Gates.get zai.toNat).High))))
 true)
def zdz (a : list) : Nat → Int → List straight
  | 0=>fun _=>[]
  | k+1=>zeN a (zdz a k)
def zdA (a : list) : Nat → Int → Bool
  | 0=>fun _=>false
  | k+1=>zeO a (zdA a k)
def ztn (a:list) (zai:Int):List straight:=zdz a Fuel zai
def zto (a:list) (zai:Int):Bool:=zdA a Fuel zai
theorem zBM (l:Nat) (a:list) (ys:List (List PA)) (zai:Int) (hs:zto a zai=true) (hk:ys=(ztn a zai).map (fun y=>[.agg (zaf y)])):zhj l ys a zai:=by
  refine zuv l ys a zai ?_
  intro X0 hstep
  have key:∀ (k:Nat) (ys:List (List PA)) (zai:Int),zdA a k zai=true→ys=(zdz a k zai).map (fun y=>[.agg (zaf y)])→X0 ys false (zfj l a zai):=by
    intro k
    induction k with
    | zero=>intro ys zai hs;exact absurd hs Bool.false_ne_true
    | succ k ih =>
      intro ys zai hs hk
      refine hstep ys zai ?_
      have hs:zeO a (zdA a k) zai=true:=hs
      have hk:ys=(zeN a (zdz a k) zai).map (fun y=>[.agg (zaf y)]):=hk
      unfold zeO at hs
      unfold zeN at hk
      generalize zdz a k=S0 at hk ih
      generalize zdA a k=P0 at hs ih
      have hX0:=ih
      exact (zmO hs hk
 (fun hs hk=>(zaD hs fun hc hs=>⟨hc,(zaD hs fun hc hs=>⟨hc,(zBL l a X0 P0 S0 hX0 _ zai (⟨((a.Gates.len:Int) - (w64 (zai+(1:Int)))).toNat,(fun i=>a.Gates.get (i+((w64 (zai+(1:Int))).toNat)))⟩:Sl Gate) (((a.Gates.len:Int) - (w64 (zai+(1:Int)))).toNat:Int) (0:Int) ((a.Gates.get zai.toNat).Z) ((a.Gates.get zai.toNat).Low) ((a.Gates.get zai.toNat).High) (slG (fun i=>enc_55 (a.Gates.get i)) ((w64 (zai+(1:Int))).toNat)) rfl hs hk)⟩)⟩))
 (fun hs hk=>hk))
  exact key _ _ zai hs hk
def zDb (a:list):List straight :=
  (ztn a (0:Int))
def zEV (a:list):Bool :=
  (zto a (0:Int))
theorem zPs (l:Nat) (a:list) (ys:List (List PA)) (hs:zEV a=true) (hk:ys=(zDb a).map (fun y=>[.agg (zaf y)])):vcIter Try.prog zwE zce 115 l [.one (.fp (zcf a) 0)] ys:=by
  refine zaK (zBK l a ys) ?_
  unfold zEV at hs
  unfold zDb at hk
  exact (zBM l a _ (0:Int) hs hk)
def zEW : List PA → Option (Prop × List (List PA))
  | [.one (.fp [.sl a_Gates_n a_Gates_s a_Gates_g] 0)]=>some (IsE enc_55 3 a_Gates_s a_Gates_g∧zEV (⟨(⟨a_Gates_n,zae a_Gates_g⟩:(Sl Gate))⟩:list)=true,(zDb (⟨(⟨a_Gates_n,zae a_Gates_g⟩:(Sl Gate))⟩:list)).map fun y=>[.agg (zaf y)])
  | _=>none
theorem zEX:zah Try.prog 115:=⟨_,rfl,rfl,by kernel_rfl⟩
theorem zMr:zCz Try.prog 115 zEW:=zIH zJD zEX fun l caps safe ys h hs=>by
  unfold zEW at h
  split at h
  · rename_i a_Gates_n a_Gates_s a_Gates_g
    cases h
    obtain ⟨⟨rfl,a_Gates_f,rfl⟩,hs⟩:=hs
    try rw [zac a_Gates_f] at hs
    try rw [zac a_Gates_f]
    exact ⟨fun _ _=>[],fun _=>false,zce,zPs l (⟨(⟨a_Gates_n,a_Gates_f⟩:(Sl Gate))⟩:list) _ hs rfl⟩
  · cases h
abbrev T65:Tabs:=(((((Tabs.nil.addF 67 zo2).addF 79 zBJ).addF 96 zER).addF 97 zET).addI 115 zEW)
theorem zMs:TabsOk Try.prog T65:=(((((TabsOk.nil.addF zI5).addF zN4).addF zPo).addF zPp).addI zMr)
abbrev G65:Ctrs:=csm T65 (fun _ _=>[]) (fun l=>Nat.beq l 14)
def zhl:Ann:=⟨39,[(0,⟨[0,2],[2],[],[],[],[],[]⟩),(1,⟨[2,3],[2,3],[],[],[],[],[]⟩),(2,⟨[2,3,12],[2,3],[],[],[],[],[]⟩),(3,⟨[2],[2],[],[],[],[],[]⟩),(4,⟨[2,3,4],[2,3,4,14],[],[],[],[],[]⟩),(5,⟨[2,3,4,17],[2,3,4,14],[],[],[],[],[]⟩),(6,⟨[2,3,4,5,17],[2,3,4,5,14,36],[],[],[],[],[]⟩),(7,⟨[2,3,4,5,6,17],[2,3,4,5,6,14,36],[],[],[],[],[]⟩),(8,⟨[2,3,4,5,6,17,29],[2,3,4,5,6,14,36],[],[],[],[],[]⟩),(9,⟨[2,3,4,5,17],[2,3,4,5,14,36],[],[],[],[],[]⟩),(10,⟨[2,3,4,17],[2,3,4,14,36],[],[],[],[],[]⟩),(11,⟨[2],[2,36],[],[],[],[],[]⟩)],
 [(6,⟨[2,3,4,17],[2,3,4,14,36],[],[(3,1,36,118,fun _=>zaf default)],[],[],[]⟩)],
 [(3,⟨[2,3,12],[2,3],[],[],[],[],[]⟩),(4,⟨[2,3],[2,3],[],[],[],[],[]⟩)],
 [],[]⟩
def zJE (zaa:(Sl Gate)) (zaX:Bool):St:=⟨[(2,.one (.c (.ptr 2 0))),(3,.one (.c (.ptr 3 0))),(12,.one (.c (.p (.bool zaX))))],[(2,.box 104 [.p (.nils),.p (.nils)]),(3,.box 104 [.p (.sl zaa.len 3 (fun i=>enc_55 (zaa.get i))),.p (.nils)])],[]⟩
def zmY (K:List PA→Prop) (zaa:(Sl Gate)) (zaX:Bool):Prop:=vc Try.prog G65 zhl (cdF Try.f65 [1,1,0,1]) (sqK Try.prog G65 zhl (cdF Try.f65 [1,1,1]) (zcA Try.prog Try.f65 K)) (zJE zaa zaX)
def zJF (zaa:(Sl Gate)):St:=⟨[(2,.one (.c (.ptr 2 0))),(3,.one (.c (.ptr 3 0)))],[(2,.box 104 [.p (.nils),.p (.nils)]),(3,.box 104 [.p (.sl zaa.len 3 (fun i=>enc_55 (zaa.get i))),.p (.nils)])],[]⟩
def zmZ (K:List PA→Prop) (zaa:(Sl Gate)):Prop:=vc Try.prog G65 zhl (cdF Try.f65 [1,1,1]) (zcA Try.prog Try.f65 K) (zJF zaa)
def zfm (zaa:(Sl Gate)) (zfn:Nat) (zch:Nat→List PV) (zav:Nat) (zaq:(List Int→Option (List Int))):St:=⟨[(2,.one (.c (.ptr 2 0))),(3,.one (.c (.ptr 3 0))),(4,.one (.c (.ptr 4 0))),(17,.one (.c (.p (.fn 115 [] [.fp (zcf (⟨zaa⟩:list)) 0]))))],[(2,.box 104 [.p (.nils),.p (.nils)]),(3,.box 104 [.p (.sl zaa.len 3 (fun i=>enc_55 (zaa.get i))),.vec 36]),(4,.box 136 [.mo 14]),(14,.mo 37 4 (true,4,false,[none]) zav zaq),(36,.vec 118 3 24 zfn zch)],[]⟩
def zkb (K:List PA→Prop) (zaa:(Sl Gate)) (zfn:Nat) (zch:Nat→List PV) (zav:Nat) (zaq:(List Int→Option (List Int))):Prop:=vc Try.prog G65 zhl (cdF Try.f65 [1,1,1,1,0,1,0]) (zbb 0 (sqK Try.prog G65 zhl (cdF Try.f65 [1,1,1,1,1]) (zcA Try.prog Try.f65 K))) (zfm zaa zfn zch zav zaq)
theorem zEY (zaa : (Sl Gate)) (K : List PA → Prop) :
  vcFun Try.prog G65 zhl 65 [.one (.sl zaa.len 3 (fun i=>enc_55 (zaa.get i)))] K =
  ((IsE enc_55 3 3 (fun i=>enc_55 (zaa.get i))∧(p67 (⟨zaa⟩:list)=true)) ∧
 (zmY K zaa (s67 (⟨zaa⟩:list)))):=by kernel_rfl
theorem zEZ (K : List PA → Prop) (zaa : (Sl Gate)) (zaX : Bool) :
  zmY K zaa zaX =
  (zdd zaX
 (K [.agg [.sl zaa.len 3 (fun i=>enc_55 (zaa.get i)),.nils]])
 (zmZ K zaa)):=by kernel_rfl
theorem zE0 (K : List PA → Prop) (zaa : (Sl Gate)) :
  zmZ K zaa =
  ((IsE enc_55 3 3 (fun i=>enc_55 (zaa.get i))) ∧
 (zkb K zaa 0 (fun i=>zaf ((fun _=>default) i)) 0 (fun _=>none))):=by kernel_rfl
def zo7 (K:List PA→Prop) (zaa:(Sl Gate)) (zaO:(Sl straight)) (zav:Nat) (zaq:(List Int→Option (List Int))):Prop :=
  (K [.agg [.sl zaa.len 3 (fun i=>enc_55 (zaa.get i)),.sl zaO.len 3 (fun i=>zaf (zaO.get i))]])
def zo8 (K:List PA→Prop) (X2:List (List PA)→St→Prop) (y2:straight) (rest2:List (List PA)) (zaa:(Sl Gate)) (zaO:(Sl straight)) (zav:Nat) (zaq:(List Int→Option (List Int))):Prop :=
  (((p79 y2=true)) ∧
 (zdd (!((zd3 (zaq [(s79 y2).Slope.Num, (s79 y2).Slope.Den, (s79 y2).Start.Num, (s79 y2).Start.Den]) 0) != 0))
 ((IsE enc_55 3 3 (fun i=>enc_55 (zaa.get i))∧IsE zaf 3 3 (fun i=>zaf (zaO.get i))∧(p97 (⟨(⟨zaa⟩:list),zaO⟩:set) y2=true)) ∧
 (zdd (s97 (⟨(⟨zaa⟩ : list), zaO⟩ : set) y2)
 ((((zaO.len+1) * 24≤140737488355328∧zaO.len+1≤9223372036854775807)) ∧
 (X2 rest2 (zfm zaa (zaO.len+1) (appG zaO.len (fun i=>zaf (zaO.get i)) (fun _=>(zaf y2))) (addN (zaq [(s79 y2).Slope.Num,(s79 y2).Slope.Den,(s79 y2).Start.Num,(s79 y2).Start.Den]) zav) (zlF [(s79 y2).Slope.Num,(s79 y2).Slope.Den,(s79 y2).Start.Num,(s79 y2).Start.Den] [1] zaq))))
 (X2 rest2 (zfm zaa zaO.len (fun i=>zaf (zaO.get i)) zav zaq))))
 (X2 rest2 (zfm zaa zaO.len (fun i=>zaf (zaO.get i)) zav zaq))))
theorem zqs (K:List PA→Prop) (zaa:(Sl Gate)) (zaO:(Sl straight)) (zav:Nat) (zaq:(List Int→Option (List Int))):(zbb 0 (sqK Try.prog G65 zhl (cdF Try.f65 [1,1,1,1,1]) (zcA Try.prog Try.f65 K))) .normal (zfm zaa zaO.len (fun i=>zaf (zaO.get i)) zav zaq)=zo7 K zaa zaO zav zaq:=by kernel_rfl
theorem zqu (K : List PA → Prop) (X2 : List (List PA) → St → Prop) (y2 : straight) (rest2 : List (List PA)) (zaa : (Sl Gate)) (zaO : (Sl straight)) (zav : Nat) (zaq : (List Int → Option (List Int))) :
  zNL Try.prog G65 zhl 6 [18] (cd (cdF Try.f65 [1,1,1,1,0,1,0]) [0]) (cd (cdF Try.f65 [1,1,1,1,0,1,0]) [1]) X2 (zbb 0 (sqK Try.prog G65 zhl (cdF Try.f65 [1,1,1,1,1]) (zcA Try.prog Try.f65 K))) [.agg (zaf y2)] rest2 (zfm zaa zaO.len (fun i=>zaf (zaO.get i)) zav zaq)=zo8 K X2 y2 rest2 zaa zaO zav zaq:=by kernel_rfl
theorem zwF (K : List PA → Prop) (zaa : (Sl Gate)) (zfn : Nat) (zch : Nat → List PV) (zav : Nat) (zaq : (List Int → Option (List Int)))
  (hsafe:IsE enc_55 3 3 (fun i=>enc_55 ((⟨zaa⟩:list).Gates.get i))∧(zEV (⟨zaa⟩:list)=true)) (h:∀ X2:List (List PA)→St→Prop,(∀ (zaO:(Sl straight)) (zav:Nat) (zaq:(List Int→Option (List Int))),zo7 K zaa zaO zav zaq→X2 [] (zfm zaa zaO.len (fun i=>zaf (zaO.get i)) zav zaq))→(∀ (y:straight) (rest:List (List PA)) (zaO:(Sl straight)) (zav:Nat) (zaq:(List Int→Option (List Int))),zo8 K X2 y rest zaa zaO zav zaq→X2 ([.agg (zaf y)] :: rest) (zfm zaa zaO.len (fun i=>zaf (zaO.get i)) zav zaq))→X2 ((zDb (⟨zaa⟩:list)).map fun y=>[.agg (zaf y)]) (zfm zaa zfn zch zav zaq)) :
  zkb K zaa zfn zch zav zaq:=by
  have e:zkb K zaa zfn zch zav zaq=((IsE enc_55 3 3 (fun i=>enc_55 ((⟨zaa⟩:list).Gates.get i))∧(zEV (⟨zaa⟩:list)=true))∧∀ X:List (List PA)→St→Prop,(∀ s,(zbb 0 (sqK Try.prog G65 zhl (cdF Try.f65 [1,1,1,1,1]) (zcA Try.prog Try.f65 K))) .normal s→X [] s)→(∀ y rest s,zNL Try.prog G65 zhl 6 [18] (cd (cdF Try.f65 [1,1,1,1,0,1,0]) [0]) (cd (cdF Try.f65 [1,1,1,1,0,1,0]) [1]) X (zbb 0 (sqK Try.prog G65 zhl (cdF Try.f65 [1,1,1,1,1]) (zcA Try.prog Try.f65 K))) y rest s→X (y :: rest) s)→X ((zDb (⟨zaa⟩:list)).map fun y=>[.agg (zaf y)]) (zfm zaa zfn zch zav zaq)):=by kernel_rfl
  refine zaK e ⟨hsafe,?_⟩
  intro X h0 h1
  refine h X (fun zaO zav zaq hs=>h0 _ ?_) (fun y rest zaO zav zaq hs=>h1 _ rest _ ?_)
  · rw [zqs K zaa zaO zav zaq];exact hs
  · have e2 := zqu K X y rest zaa zaO zav zaq
    rw [e2];exact hs
abbrev e65 (r:set):List PA:=[.agg [.sl r.list.Gates.len 3 (fun i=>enc_55 (r.list.Gates.get i)),.sl r.corners.len 3 (fun i=>zaf (r.corners.get i))]]
attribute [irreducible] zmY zmZ zkb
def zqv (zaa:(Sl Gate)) (zaO:(Sl straight)) (zav:Nat) (zaq:(List Int→Option (List Int))):set :=
  (⟨(⟨zaa⟩:list),zaO⟩:set)
def zqw (zaa:(Sl Gate)) (zaO:(Sl straight)) (zav:Nat) (zaq:(List Int→Option (List Int))):Bool :=
  true
def zkc (zaa:(Sl Gate)) (y2:straight) (S2:(Sl straight)→Nat→(List Int→Option (List Int))→set) (zaO:(Sl straight)) (zav:Nat) (zaq:(List Int→Option (List Int))):set :=
  (cond (!((zd3 (zaq [(s79 y2).Slope.Num, (s79 y2).Slope.Den, (s79 y2).Start.Num, (s79 y2).Start.Den]) 0) != 0))
 (cond (s97 (⟨(⟨zaa⟩ : list), zaO⟩ : set) y2)
 (S2 (⟨(zaO.len+1),(zdQ zaO.len zaO.get (fun _=>y2))⟩:Sl straight) (addN (zaq [(s79 y2).Slope.Num,(s79 y2).Slope.Den,(s79 y2).Start.Num,(s79 y2).Start.Den]) zav) (zlF [(s79 y2).Slope.Num,(s79 y2).Slope.Den,(s79 y2).Start.Num,(s79 y2).Start.Den] [1] zaq))
 (S2 zaO zav zaq))
 (S2 zaO zav zaq))
def zkd (zaa:(Sl Gate)) (y2:straight) (P2:(Sl straight)→Nat→(List Int→Option (List Int))→Bool) (zaO:(Sl straight)) (zav:Nat) (zaq:(List Int→Option (List Int))):Bool :=
  (decide ((p79 y2=true)) &&
 (cond (!((zd3 (zaq [(s79 y2).Slope.Num, (s79 y2).Slope.Den, (s79 y2).Start.Num, (s79 y2).Start.Den]) 0) != 0))
 (decide ((p97 (⟨(⟨zaa⟩:list),zaO⟩:set) y2=true)) &&
 (cond (s97 (⟨(⟨zaa⟩ : list), zaO⟩ : set) y2)
 (decide (((zaO.len+1) * 24≤140737488355328∧zaO.len+1≤9223372036854775807)) &&
 (P2 (⟨(zaO.len+1),(zdQ zaO.len zaO.get (fun _=>y2))⟩:Sl straight) (addN (zaq [(s79 y2).Slope.Num,(s79 y2).Slope.Den,(s79 y2).Start.Num,(s79 y2).Start.Den]) zav) (zlF [(s79 y2).Slope.Num,(s79 y2).Slope.Den,(s79 y2).Start.Num,(s79 y2).Start.Den] [1] zaq)))
 (P2 zaO zav zaq)))
 (P2 zaO zav zaq)))
def zfo (zaa : (Sl Gate)) : List straight → (Sl straight) → Nat → (List Int → Option (List Int)) → set
  | []=>zqv zaa
  | y :: r=>zkc zaa y (zfo zaa r)
def zfp (zaa : (Sl Gate)) : List straight → (Sl straight) → Nat → (List Int → Option (List Int)) → Bool
  | []=>zqw zaa
  | y :: r=>zkd zaa y (zfp zaa r)
def zqx (zaa:(Sl Gate)) (zaO:(Sl straight)) (zav:Nat) (zaq:(List Int→Option (List Int))):set:=zfo zaa (zDb (⟨zaa⟩:list)) zaO zav zaq
def zm0 (zaa:(Sl Gate)) (zaO:(Sl straight)) (zav:Nat) (zaq:(List Int→Option (List Int))):Bool:=decide ((zEV (⟨zaa⟩:list)=true)) && zfp zaa (zDb (⟨zaa⟩:list)) zaO zav zaq
theorem zE1 (K:List PA→Prop) (zaa:(Sl Gate)) (zaO:(Sl straight)) (zav:Nat) (zaq:(List Int→Option (List Int))) (zch:Nat→List PV) (zh1:zch=fun i=>zaf (zaO.get i)) (hs:zm0 zaa zaO zav zaq=true) (hk:K (e65 (zqx zaa zaO zav zaq))):zkb (Wk K) zaa zaO.len zch zav zaq:=by
  unfold zm0 at hs
  rw [Bool.and_eq_true] at hs
  obtain ⟨hsf,hs⟩:=hs
  have hc:=of_decide_eq_true hsf
  refine zwF (Wk K) zaa zaO.len zch zav zaq ⟨isE,hc⟩ ?_
  intro X2 hexit hstep
  have key:∀ (l:List straight) (zaO:(Sl straight)) (zav:Nat) (zaq:(List Int→Option (List Int))) (zch:Nat→List PV) (zh1:zch=fun i=>zaf (zaO.get i)),zfp zaa l zaO zav zaq=true→K (e65 (zfo zaa l zaO zav zaq))→X2 (l.map fun y=>[.agg (zaf y)]) (zfm zaa zaO.len zch zav zaq):=by
    intro l
    induction l with
    | nil =>
      intro zaO zav zaq zch zh1 hs hk
      subst zh1
      refine hexit zaO zav zaq ?_
      have hs:zqw zaa zaO zav zaq=true:=hs
      have hk:K (e65 (zqv zaa zaO zav zaq)):=hk
      unfold zqw at hs
      unfold zqv at hk
      exact (zd7 hk)
    | cons y2 l ih =>
      intro zaO zav zaq zch zh1 hs hk
      subst zh1
      refine hstep y2 _ zaO zav zaq ?_
      have hs:zkd zaa y2 (zfp zaa l) zaO zav zaq=true:=hs
      have hk:K (e65 (zkc zaa y2 (zfo zaa l) zaO zav zaq)):=hk
      unfold zkd at hs
      unfold zkc at hk
      generalize zfo zaa l=S2 at hk ih
      generalize zfp zaa l=P2 at hs ih
      have hX2:=ih
      exact (zaD hs fun hc hs => ⟨hc, (zcu (K := fun r => K (e65 r))
 (fun hs hk => (zaD hs fun hc hs => ⟨⟨isE, isE, hc⟩, (zcu (K := fun r => K (e65 r))
 (fun hs hk=>(zaD hs fun hc hs=>⟨hc,(hX2 (⟨(zaO.len+1),(zdQ zaO.len zaO.get (fun _=>y2))⟩:Sl straight) (addN (zaq [(s79 y2).Slope.Num,(s79 y2).Slope.Den,(s79 y2).Start.Num,(s79 y2).Start.Den]) zav) (zlF [(s79 y2).Slope.Num,(s79 y2).Slope.Den,(s79 y2).Start.Num,(s79 y2).Start.Den] [1] zaq) (appG zaO.len (fun i=>zaf (zaO.get i)) (fun _=>(zaf y2))) (zjV (enc:=zaf) (f:=zaO.get) (h:=(fun _=>y2)) rfl rfl) hs hk)⟩))
 (fun hs hk=>(hX2 zaO zav zaq (fun i=>zaf (zaO.get i)) rfl hs hk)) hs hk)⟩))
 (fun hs hk=>(hX2 zaO zav zaq (fun i=>zaf (zaO.get i)) rfl hs hk)) hs hk)⟩)
  exact key _ zaO zav zaq zch zh1 hs hk
def zm1 (zaa:(Sl Gate)):set :=
  (zqx zaa (⟨0,(fun _=>default)⟩:Sl straight) 0 (fun _=>none))
def zm2 (zaa:(Sl Gate)):Bool :=
  (zm0 zaa (⟨0,(fun _=>default)⟩:Sl straight) 0 (fun _=>none))
theorem zE2 (K:List PA→Prop) (zaa:(Sl Gate)) (hs:zm2 zaa=true) (hk:K (e65 (zm1 zaa))):zmZ (Wk K) zaa:=by
  refine zaK (zE0 (Wk K) zaa) ?_
  unfold zm2 at hs
  unfold zm1 at hk
  exact ⟨isE,(zE1 K zaa (⟨0,(fun _=>default)⟩:Sl straight) 0 (fun _=>none) (fun i=>zaf ((fun _=>default) i)) rfl hs hk)⟩
def zm3 (zaa:(Sl Gate)) (zaX:Bool):set :=
  (cond zaX
 (⟨(⟨zaa⟩:list),(⟨0,fun _=>default⟩:(Sl straight))⟩:set)
 (zm1 zaa))
def zm4 (zaa:(Sl Gate)) (zaX:Bool):Bool :=
  (cond zaX
 true
 (zm2 zaa))
theorem zE3 (K:List PA→Prop) (zaa:(Sl Gate)) (zaX:Bool) (hs:zm4 zaa zaX=true) (hk:K (e65 (zm3 zaa zaX))):zmY (Wk K) zaa zaX:=by
  refine zaK (zEZ (Wk K) zaa zaX) ?_
  unfold zm4 at hs
  unfold zm3 at hk
  exact (zcu (K := fun r => K (e65 r))
 (fun hs hk=>(wk hk (zc9 (.agg (zc9 (.rfl _) (zc9 (.nil _ _) zhD))) zhD)))
 (fun hs hk=>(zE2 K zaa hs hk)) hs hk)
def s65 (zaa:(Sl Gate)):set :=
  (zm3 zaa (s67 (⟨zaa⟩:list)))
def p65 (zaa:(Sl Gate)):Bool :=
  (decide ((p67 (⟨zaa⟩:list)=true)) &&
 (zm4 zaa (s67 (⟨zaa⟩:list))))
theorem q65 (zaa:(Sl Gate)) (K:List PA→Prop) (hs:p65 zaa=true) (hk:K (e65 (s65 zaa))):vcFun Try.prog G65 zhl 65 [.one (.sl zaa.len 3 (fun i=>enc_55 (zaa.get i)))] (Wk K):=by
  refine zaK (zEY zaa (Wk K)) ?_
  unfold p65 at hs
  unfold s65 at hk
  exact (zaD hs fun hc hs=>⟨⟨isE,hc⟩,(zE3 K zaa (s67 (⟨zaa⟩:list)) hs hk)⟩)
def zwG : List PA → COut
  | [.one (.sl a0_n a0_s a0_g)]=>.det (IsE enc_55 3 a0_s a0_g∧p65 (⟨a0_n,zae a0_g⟩:(Sl Gate))=true) [.agg [.sl ((s65 (⟨a0_n,zae a0_g⟩:(Sl Gate))).list.Gates.len) 3 (fun i=>enc_55 ((s65 (⟨a0_n,zae a0_g⟩:(Sl Gate))).list.Gates.get i)),.sl ((s65 (⟨a0_n,zae a0_g⟩:(Sl Gate))).corners.len) 3 (fun i=>zaf ((s65 (⟨a0_n,zae a0_g⟩:(Sl Gate))).corners.get i))]]
  | _=>.no
theorem zJG:zah Try.prog 65:=⟨_,rfl,rfl,by kernel_rfl⟩
theorem zMt:Ok Try.prog 65 zwG:=zgi zMs zJG fun args K h=>by
  unfold zwG at h
  split at h
  · rename_i a0_n a0_s a0_g
    obtain ⟨⟨⟨rfl,a0_f,rfl⟩,hs⟩,hk⟩:=h
    try rw [zac a0_f] at hs
    try rw [zac a0_f] at hk
    exact ⟨_,ze6 zfi _,(fun _ _=>[]),(fun l=>Nat.beq l 14),zhl,q65 (⟨a0_n,a0_f⟩:(Sl Gate)) K hs hk⟩
  · exact h.elim
abbrev T66:Tabs:=((Tabs.nil.addF 67 zo2).addF 98 zBx)
theorem zMu:TabsOk Try.prog T66:=((TabsOk.nil.addF zI5).addF zNT)
abbrev G66:Ctrs:=csm T66 (fun _ _=>[]) (fun _=>false)
def zJH:Ann:=⟨19,[(0,zK [1] [1]),(1,zK [1,3] [1,3]),(2,zK [1,3,9] [1,3]),(3,zK [2] []),(4,zK [2] [])],
 [],
 [],
 [],[]⟩
abbrev R66:=Bool
abbrev e66 (r:R66):List PA:=[.one (.bool r)]
section
variable {K:List PA→Prop} {s:set}
def s66 (s:set):Bool :=
  (cond (s67 s.list)
 (decide ((s98 s.list).Low≤(s98 s.list).High))
 (decide ((s.corners.len:Int) > (0:Int))))
def p66 (s:set):Bool :=
  (decide ((p98 s.list=true)) &&
 (decide ((p67 s.list=true)) &&
 true))
end
theorem q66 (s:set) (K:List PA→Prop) (hs:p66 s=true) (hk:K (e66 (s66 s))):vcFun Try.prog G66 zJH 66 [.agg (za8 s)] K :=
  zaK (by kernel_rfl) (zaD hs fun hc hs=>And.intro (And.intro (zE enc_55 3 s.list.Gates.get) hc) (zaD hs fun hc hs=>And.intro (And.intro (zE enc_55 3 s.list.Gates.get) hc) (zt hk (fun hk=>hk) (fun hk=>hk))))
def zwH : List PA → COut
  | [.agg [.sl a0_list_Gates_n a0_list_Gates_s a0_list_Gates_g,.sl a0_corners_n a0_corners_s a0_corners_g]]=>.det (IsE enc_55 3 a0_list_Gates_s a0_list_Gates_g∧IsE zaf 3 a0_corners_s a0_corners_g∧p66 (⟨(⟨(⟨a0_list_Gates_n,zae a0_list_Gates_g⟩:(Sl Gate))⟩:list),(⟨a0_corners_n,za4 a0_corners_g⟩:(Sl straight))⟩:set)=true) [.one (.bool (s66 (⟨(⟨(⟨a0_list_Gates_n,zae a0_list_Gates_g⟩:(Sl Gate))⟩:list),(⟨a0_corners_n,za4 a0_corners_g⟩:(Sl straight))⟩:set)))]
  | _=>.no
theorem zJI:zah Try.prog 66:=⟨_,rfl,rfl,by kernel_rfl⟩
theorem zMv:Ok Try.prog 66 zwH:=zaN zMu zJI fun args K h=>by
  unfold zwH at h
  split at h
  · rename_i a0_list_Gates_n a0_list_Gates_s a0_list_Gates_g a0_corners_n a0_corners_s a0_corners_g
    obtain ⟨⟨⟨rfl,a0_list_Gates_f,rfl⟩,⟨rfl,a0_corners_f,rfl⟩,hs⟩,hk⟩:=h
    try rw [zac a0_list_Gates_f] at hs
    try rw [zac a0_list_Gates_f] at hk
    try rw [za0 a0_corners_f] at hs
    try rw [za0 a0_corners_f] at hk
    exact ⟨(fun _ _=>[]),(fun _=>false),zJH,q66 (⟨(⟨(⟨a0_list_Gates_n,a0_list_Gates_f⟩:(Sl Gate))⟩:list),(⟨a0_corners_n,a0_corners_f⟩:(Sl straight))⟩:set) K hs hk⟩
  · exact h.elim
abbrev T76:Tabs:=Tabs.nil
theorem zMw:TabsOk Try.prog T76:=TabsOk.nil
abbrev G76:Ctrs:=csm T76 (fun _ _=>[]) (fun _=>false)
def zJJ:Ann:=⟨11,[(0,zK [1,2] [2]),(1,zK [3] [])],
 [],
 [],
 [],[]⟩
abbrev R76:=Bool
abbrev e76 (r:R76):List PA:=[.one (.bool r)]
section
variable {K:List PA→Prop} {c0:Int} {l_a0:list}
def s76 (c0:Int) (l_a0:list):Bool :=
  ((l_a0.Gates.get 0).Z == c0)
def p76 (c0:Int) (l_a0:list):Bool :=
  (decide ((0≤(0:Int)∧(0:Int) < (l_a0.Gates.len:Int))) &&
 true)
end
theorem q76 (c0:Int) (l_a0:list) (K:List PA→Prop) (hs:p76 c0 l_a0=true) (hk:K (e76 (s76 c0 l_a0))):vcFun Try.prog G76 zJJ 76 [.agg (zcf l_a0),.one (.fp (zak c0) 0)] K :=
  zaK (by kernel_rfl) (zaD hs fun hc hs=>And.intro hc hk)
def zE4 : List PA → COut
  | [.agg [.sl a0_Gates_n a0_Gates_s a0_Gates_g],.one (.fp [.int .i64 c0] 0)]=>.det (IsE enc_55 3 a0_Gates_s a0_Gates_g∧p76 c0 (⟨(⟨a0_Gates_n,zae a0_Gates_g⟩:(Sl Gate))⟩:list)=true) [.one (.bool (s76 c0 (⟨(⟨a0_Gates_n,zae a0_Gates_g⟩:(Sl Gate))⟩:list)))]
  | _=>.no
theorem zJK:zah Try.prog 76:=⟨_,rfl,rfl,by kernel_rfl⟩
theorem zPt:Ok Try.prog 76 zE4:=zaN zMw zJK fun args K h=>by
  unfold zE4 at h
  split at h
  · rename_i a0_Gates_n a0_Gates_s a0_Gates_g c0
    obtain ⟨⟨⟨rfl,a0_Gates_f,rfl⟩,hs⟩,hk⟩:=h
    try rw [zac a0_Gates_f] at hs
    try rw [zac a0_Gates_f] at hk
    exact ⟨(fun _ _=>[]),(fun _=>false),zJJ,q76 c0 (⟨(⟨a0_Gates_n,a0_Gates_f⟩:(Sl Gate))⟩:list) K hs hk⟩
  · exact h.elim
abbrev T77:Tabs:=Tabs.nil
theorem zMx:TabsOk Try.prog T77:=TabsOk.nil
abbrev G77:Ctrs:=csm T77 (fun _ _=>[]) (fun _=>false)
def zJL:Ann:=⟨3,[(0,zK [] []),(1,zK [2] [])],
 [],
 [],
 [],[]⟩
abbrev R77:=Bool
abbrev e77 (r:R77):List PA:=[.one (.bool r)]
section
variable {K:List PA→Prop} {a0_a0:list}
def s77 (a0_a0:list):Bool :=
  false
end
theorem q77 (a0_a0:list) (K:List PA→Prop) (hk:K (e77 (s77 a0_a0))):vcFun Try.prog G77 zJL 77 [.agg (zcf a0_a0)] K :=
  zaK (by kernel_rfl) hk
def zE5 : List PA → COut
  | [.agg [.sl a0_Gates_n a0_Gates_s a0_Gates_g]]=>.det (IsE enc_55 3 a0_Gates_s a0_Gates_g) [.one (.bool (s77 (⟨(⟨a0_Gates_n,zae a0_Gates_g⟩:(Sl Gate))⟩:list)))]
  | _=>.no
theorem zJM:zah Try.prog 77:=⟨_,rfl,rfl,by kernel_rfl⟩
theorem zPu:Ok Try.prog 77 zE5:=zaN zMx zJM fun args K h=>by
  unfold zE5 at h
  split at h
  · rename_i a0_Gates_n a0_Gates_s a0_Gates_g
    obtain ⟨⟨rfl,a0_Gates_f,rfl⟩,hk⟩:=h
    try rw [zac a0_Gates_f] at hk
    exact ⟨(fun _ _=>[]),(fun _=>false),zJL,q77 (⟨(⟨a0_Gates_n,a0_Gates_f⟩:(Sl Gate))⟩:list) K hk⟩
  · exact h.elim
abbrev T88:Tabs:=Tabs.nil
theorem zMy:TabsOk Try.prog T88:=TabsOk.nil
abbrev G88:Ctrs:=csm T88 (fun _ _=>[]) (fun _=>false)
def zJN:Ann:=⟨3,[(0,zK [] []),(1,zK [2] [])],
 [],
 [],
 [],[]⟩
abbrev R88:=Bool
abbrev e88 (r:R88):List PA:=[.one (.bool r)]
section
variable {K:List PA→Prop} {a0_a0:list}
def s88 (a0_a0:list):Bool :=
  true
end
theorem q88 (a0_a0:list) (K:List PA→Prop) (hk:K (e88 (s88 a0_a0))):vcFun Try.prog G88 zJN 88 [.agg (zcf a0_a0)] K :=
  zaK (by kernel_rfl) hk
def zE6 : List PA → COut
  | [.agg [.sl a0_Gates_n a0_Gates_s a0_Gates_g]]=>.det (IsE enc_55 3 a0_Gates_s a0_Gates_g) [.one (.bool (s88 (⟨(⟨a0_Gates_n,zae a0_Gates_g⟩:(Sl Gate))⟩:list)))]
  | _=>.no
theorem zJO:zah Try.prog 88:=⟨_,rfl,rfl,by kernel_rfl⟩
theorem zPv:Ok Try.prog 88 zE6:=zaN zMy zJO fun args K h=>by
  unfold zE6 at h
  split at h
  · rename_i a0_Gates_n a0_Gates_s a0_Gates_g
    obtain ⟨⟨rfl,a0_Gates_f,rfl⟩,hk⟩:=h
    try rw [zac a0_Gates_f] at hk
    exact ⟨(fun _ _=>[]),(fun _=>false),zJN,q88 (⟨(⟨a0_Gates_n,a0_Gates_f⟩:(Sl Gate))⟩:list) K hk⟩
  · exact h.elim
abbrev T75:Tabs:=(((((((Tabs.nil.addF 64 zqr).addF 65 zwG).addF 66 zwH).addF 67 zo2).addF 76 zE4).addF 77 zE5).addF 88 zE6)
theorem zMz:TabsOk Try.prog T75:=(((((((TabsOk.nil.addF zJx).addF zMt).addF zMv).addF zI5).addF zPt).addF zPu).addF zPv)
abbrev G75:Ctrs:=csm T75 (fun _ _=>[]) (fun _=>false)
def zE7:Ann:=⟨31,[(0,zK [0,1,4] [4]),(1,zK [0,1,4,9] [4]),(2,zK [4,5] [4]),(3,zK [1,4,6] [4,6]),(4,zK [1,4,6,13] [4,6]),(5,zK [4,5] [4]),(6,zK [4,6,18] [4,6]),(7,zK [4,5] [4]),(8,zK [4,5] [4])],
 [],
 [(3,zK [0,1,4] [4])],
 [],[]⟩
abbrev R75:=(set×Int)
abbrev e75 (r:R75):List PA:=[.agg [.sl r.1.list.Gates.len 3 (fun i=>enc_55 (r.1.list.Gates.get i)),.sl r.1.corners.len 3 (fun i=>zaf (r.1.corners.get i))],.one (.int .i64 r.2)]
@[irreducible] def z75:=ptF Try.prog G75 zE7 Try.f75
section
variable {K:List PA→Prop} {zaa:(Sl Gate)}
def zqy (zaa:(Sl Gate)):(set×Int) :=
  (cond (!(s66 (s65 zaa)))
 ((⟨(⟨(⟨0,fun _=>default⟩:(Sl Gate))⟩:list),(⟨0,fun _=>default⟩:(Sl straight))⟩:set),(5:Int))
 (cond (s67 ((s65 zaa).list))
 (cond (!(s77 ((s65 zaa).list)))
 ((⟨(⟨(⟨0,fun _=>default⟩:(Sl Gate))⟩:list),(⟨0,fun _=>default⟩:(Sl straight))⟩:set),(6:Int))
 ((s65 zaa),(0:Int)))
 ((s65 zaa),(0:Int))))
def zqz (zaa:(Sl Gate)):Bool :=
  (decide ((p65 zaa=true)) &&
 (decide ((p66 (s65 zaa)=true)) &&
 (cond (!(s66 (s65 zaa)))
 true
 (decide ((p67 ((s65 zaa).list)=true)) &&
 true))))
theorem zE8 (hs:zqz zaa=true) (hk:K (e75 (zqy zaa))):z75 (Wk K) [1,1] [] ⟨[(0,zS enc_55 3 zaa),(1,zP (.fn 77 [] [])),(4,zp 4 0)],[(4,.box 104 [.p (.nils),.p (.nils)])],[]⟩:=zaK (by kernel_rfl) (zaD hs fun hc hs=>And.intro (And.intro (zE enc_55 3 zaa.get) hc) (zaD hs fun hc hs=>And.intro (And.intro (zE enc_55 3 ((s65 zaa).list.Gates.get)) (And.intro (zE zaf 3 ((s65 zaa).corners.get)) hc)) (zc hs hk (fun hs hk=>((wk hk (zc9 (.agg (zc9 (.nil _ _) (zc9 (.nil _ _) zhD))) (zc9 (.one (.rfl _)) zhD))):Wk K [.agg [.nils,.nils],.one (.int .i64 (5:Int))])) (fun hs hk=>(zaD hs fun hc hs=>And.intro (And.intro (zE enc_55 3 ((s65 zaa).list.Gates.get)) hc) (zt hk (fun hk=>(And.intro (zE enc_55 3 ((s65 zaa).list.Gates.get)) (zt hk (fun hk=>((wk hk (zc9 (.agg (zc9 (.nil _ _) (zc9 (.nil _ _) zhD))) (zc9 (.one (.rfl _)) zhD))):Wk K [.agg [.nils,.nils],.one (.int .i64 (6:Int))])) (fun hk=>((zd7 hk):Wk K [.agg [.sl ((s65 zaa).list.Gates.len) 3 (fun i=>enc_55 ((s65 zaa).list.Gates.get i)),.sl ((s65 zaa).corners.len) 3 (fun i=>zaf ((s65 zaa).corners.get i))],.one (.int .i64 (0:Int))]))))) (fun hk=>((zd7 hk):Wk K [.agg [.sl ((s65 zaa).list.Gates.len) 3 (fun i=>enc_55 ((s65 zaa).list.Gates.get i)),.sl ((s65 zaa).corners.len) 3 (fun i=>zaf ((s65 zaa).corners.get i))],.one (.int .i64 (0:Int))]))))))))
def s75 (zaa:(Sl Gate)):(set×Int) :=
  (cond (!(s64 zaa))
 ((⟨(⟨(⟨0,fun _=>default⟩:(Sl Gate))⟩:list),(⟨0,fun _=>default⟩:(Sl straight))⟩:set),(2:Int))
 (zqy zaa))
def p75 (zaa:(Sl Gate)):Bool :=
  (decide ((p64 zaa=true)) &&
 (cond (!(s64 zaa))
 true
 (zqz zaa)))
end
theorem q75 (zaa:(Sl Gate)) (K:List PA→Prop) (hs:p75 zaa=true) (hk:K (e75 (s75 zaa))):vcFun Try.prog G75 zE7 75 [.one (.sl zaa.len 3 (fun i=>enc_55 (zaa.get i))),.one (.fn 77 [] [])] (Wk K) :=
  zaK (by kernel_rfl) (zaD hs fun hc hs=>And.intro (And.intro (zE enc_55 3 zaa.get) hc) (zc hs hk (fun hs hk=>((wk hk (zc9 (.agg (zc9 (.nil _ _) (zc9 (.nil _ _) zhD))) (zc9 (.one (.rfl _)) zhD))):Wk K [.agg [.nils,.nils],.one (.int .i64 (2:Int))])) (fun hs hk=>(zE8 hs hk))))
abbrev zN8:Ctrs:=csm T75 (fun _ _=>[]) (fun _=>false)
def zwI:Ann:=⟨31,[(0,zK [0,1,4] [4]),(1,zK [0,1,4,9] [4]),(2,zK [4,5] [4]),(3,zK [1,4,6] [4,6]),(4,zK [1,4,6,13] [4,6]),(5,zK [4,5] [4]),(6,zK [4,6,18] [4,6]),(7,zK [4,5] [4]),(8,zK [4,5] [4])],
 [],
 [(3,zK [0,1,4] [4])],
 [],[]⟩
abbrev zPw:=(set×Int)
abbrev zN9 (r:zPw):List PA:=[.agg [.sl r.1.list.Gates.len 3 (fun i=>enc_55 (r.1.list.Gates.get i)),.sl r.1.corners.len 3 (fun i=>zaf (r.1.corners.get i))],.one (.int .i64 r.2)]
@[irreducible] def z75a:=ptF Try.prog zN8 zwI Try.f75
section
variable {K:List PA→Prop} {c0:Int} {zaa:(Sl Gate)}
def zm5 (c0:Int) (zaa:(Sl Gate)):(set×Int) :=
  (cond (!(s66 (s65 zaa)))
 ((⟨(⟨(⟨0,fun _=>default⟩:(Sl Gate))⟩:list),(⟨0,fun _=>default⟩:(Sl straight))⟩:set),(5:Int))
 (cond (s67 ((s65 zaa).list))
 (cond (!(s76 c0 ((s65 zaa).list)))
 ((⟨(⟨(⟨0,fun _=>default⟩:(Sl Gate))⟩:list),(⟨0,fun _=>default⟩:(Sl straight))⟩:set),(6:Int))
 ((s65 zaa),(0:Int)))
 ((s65 zaa),(0:Int))))
def zm6 (c0:Int) (zaa:(Sl Gate)):Bool :=
  (decide ((p65 zaa=true)) &&
 (decide ((p66 (s65 zaa)=true)) &&
 (cond (!(s66 (s65 zaa)))
 true
 (decide ((p67 ((s65 zaa).list)=true)) &&
 (cond (s67 ((s65 zaa).list))
 (decide ((p76 c0 ((s65 zaa).list)=true)) &&
 true)
 true)))))
theorem zBN (hs:zm6 c0 zaa=true) (hk:K (zN9 (zm5 c0 zaa))):z75a (Wk K) [1,1] [] ⟨[(0,zS enc_55 3 zaa),(1,zP (.fn 76 [] [.fp (zak c0) 0])),(4,zp 4 0)],[(4,.box 104 [.p (.nils),.p (.nils)])],[]⟩:=zaK (by kernel_rfl) (zaD hs fun hc hs=>And.intro (And.intro (zE enc_55 3 zaa.get) hc) (zaD hs fun hc hs=>And.intro (And.intro (zE enc_55 3 ((s65 zaa).list.Gates.get)) (And.intro (zE zaf 3 ((s65 zaa).corners.get)) hc)) (zc hs hk (fun hs hk=>((wk hk (zc9 (.agg (zc9 (.nil _ _) (zc9 (.nil _ _) zhD))) (zc9 (.one (.rfl _)) zhD))):Wk K [.agg [.nils,.nils],.one (.int .i64 (5:Int))])) (fun hs hk=>(zaD hs fun hc hs=>And.intro (And.intro (zE enc_55 3 ((s65 zaa).list.Gates.get)) hc) (zc hs hk (fun hs hk=>(zaD hs fun hc hs=>And.intro (And.intro (zE enc_55 3 ((s65 zaa).list.Gates.get)) hc) (zt hk (fun hk=>((wk hk (zc9 (.agg (zc9 (.nil _ _) (zc9 (.nil _ _) zhD))) (zc9 (.one (.rfl _)) zhD))):Wk K [.agg [.nils,.nils],.one (.int .i64 (6:Int))])) (fun hk=>((zd7 hk):Wk K [.agg [.sl ((s65 zaa).list.Gates.len) 3 (fun i=>enc_55 ((s65 zaa).list.Gates.get i)),.sl ((s65 zaa).corners.len) 3 (fun i=>zaf ((s65 zaa).corners.get i))],.one (.int .i64 (0:Int))]))))) (fun hs hk=>((zd7 hk):Wk K [.agg [.sl ((s65 zaa).list.Gates.len) 3 (fun i=>enc_55 ((s65 zaa).list.Gates.get i)),.sl ((s65 zaa).corners.len) 3 (fun i=>zaf ((s65 zaa).corners.get i))],.one (.int .i64 (0:Int))]))))))))
def zps (c0:Int) (zaa:(Sl Gate)):(set×Int) :=
  (cond (!(s64 zaa))
 ((⟨(⟨(⟨0,fun _=>default⟩:(Sl Gate))⟩:list),(⟨0,fun _=>default⟩:(Sl straight))⟩:set),(2:Int))
 (zm5 c0 zaa))
def zE9 (c0:Int) (zaa:(Sl Gate)):Bool :=
  (decide ((p64 zaa=true)) &&
 (cond (!(s64 zaa))
 true
 (zm6 c0 zaa)))
end
theorem zPx (c0:Int) (zaa:(Sl Gate)) (K:List PA→Prop) (hs:zE9 c0 zaa=true) (hk:K (zN9 (zps c0 zaa))):vcFun Try.prog zN8 zwI 75 [.one (.sl zaa.len 3 (fun i=>enc_55 (zaa.get i))),.one (.fn 76 [] [.fp (zak c0) 0])] (Wk K) :=
  zaK (by kernel_rfl) (zaD hs fun hc hs=>And.intro (And.intro (zE enc_55 3 zaa.get) hc) (zc hs hk (fun hs hk=>((wk hk (zc9 (.agg (zc9 (.nil _ _) (zc9 (.nil _ _) zhD))) (zc9 (.one (.rfl _)) zhD))):Wk K [.agg [.nils,.nils],.one (.int .i64 (2:Int))])) (fun hs hk=>(zBN hs hk))))
abbrev zOa:Ctrs:=csm T75 (fun _ _=>[]) (fun _=>false)
def zwJ:Ann:=⟨31,[(0,zK [0,1,4] [4]),(1,zK [0,1,4,9] [4]),(2,zK [4,5] [4]),(3,zK [1,4,6] [4,6]),(4,zK [1,4,6,13] [4,6]),(5,zK [4,5] [4]),(6,zK [4,6,18] [4,6]),(7,zK [4,5] [4]),(8,zK [4,5] [4])],
 [],
 [(3,zK [0,1,4] [4])],
 [],[]⟩
abbrev zPy:=(set×Int)
abbrev zOb (r:zPy):List PA:=[.agg [.sl r.1.list.Gates.len 3 (fun i=>enc_55 (r.1.list.Gates.get i)),.sl r.1.corners.len 3 (fun i=>zaf (r.1.corners.get i))],.one (.int .i64 r.2)]
@[irreducible] def z75b:=ptF Try.prog zOa zwJ Try.f75
section
variable {K:List PA→Prop} {zaa:(Sl Gate)}
def zm7 (zaa:(Sl Gate)):(set×Int) :=
  (cond (!(s66 (s65 zaa)))
 ((⟨(⟨(⟨0,fun _=>default⟩:(Sl Gate))⟩:list),(⟨0,fun _=>default⟩:(Sl straight))⟩:set),(5:Int))
 (cond (s67 ((s65 zaa).list))
 (cond (!(s88 ((s65 zaa).list)))
 ((⟨(⟨(⟨0,fun _=>default⟩:(Sl Gate))⟩:list),(⟨0,fun _=>default⟩:(Sl straight))⟩:set),(6:Int))
 ((s65 zaa),(0:Int)))
 ((s65 zaa),(0:Int))))
def zm8 (zaa:(Sl Gate)):Bool :=
  (decide ((p65 zaa=true)) &&
 (decide ((p66 (s65 zaa)=true)) &&
 (cond (!(s66 (s65 zaa)))
 true
 (decide ((p67 ((s65 zaa).list)=true)) &&
 true))))
theorem zBO (hs:zm8 zaa=true) (hk:K (zOb (zm7 zaa))):z75b (Wk K) [1,1] [] ⟨[(0,zS enc_55 3 zaa),(1,zP (.fn 88 [] [])),(4,zp 4 0)],[(4,.box 104 [.p (.nils),.p (.nils)])],[]⟩:=zaK (by kernel_rfl) (zaD hs fun hc hs=>And.intro (And.intro (zE enc_55 3 zaa.get) hc) (zaD hs fun hc hs=>And.intro (And.intro (zE enc_55 3 ((s65 zaa).list.Gates.get)) (And.intro (zE zaf 3 ((s65 zaa).corners.get)) hc)) (zc hs hk (fun hs hk=>((wk hk (zc9 (.agg (zc9 (.nil _ _) (zc9 (.nil _ _) zhD))) (zc9 (.one (.rfl _)) zhD))):Wk K [.agg [.nils,.nils],.one (.int .i64 (5:Int))])) (fun hs hk=>(zaD hs fun hc hs=>And.intro (And.intro (zE enc_55 3 ((s65 zaa).list.Gates.get)) hc) (zt hk (fun hk=>(And.intro (zE enc_55 3 ((s65 zaa).list.Gates.get)) (zt hk (fun hk=>((wk hk (zc9 (.agg (zc9 (.nil _ _) (zc9 (.nil _ _) zhD))) (zc9 (.one (.rfl _)) zhD))):Wk K [.agg [.nils,.nils],.one (.int .i64 (6:Int))])) (fun hk=>((zd7 hk):Wk K [.agg [.sl ((s65 zaa).list.Gates.len) 3 (fun i=>enc_55 ((s65 zaa).list.Gates.get i)),.sl ((s65 zaa).corners.len) 3 (fun i=>zaf ((s65 zaa).corners.get i))],.one (.int .i64 (0:Int))]))))) (fun hk=>((zd7 hk):Wk K [.agg [.sl ((s65 zaa).list.Gates.len) 3 (fun i=>enc_55 ((s65 zaa).list.Gates.get i)),.sl ((s65 zaa).corners.len) 3 (fun i=>zaf ((s65 zaa).corners.get i))],.one (.int .i64 (0:Int))]))))))))
def zAA (zaa:(Sl Gate)):(set×Int) :=
  (cond (!(s64 zaa))
 ((⟨(⟨(⟨0,fun _=>default⟩:(Sl Gate))⟩:list),(⟨0,fun _=>default⟩:(Sl straight))⟩:set),(2:Int))
 (zm7 zaa))
def zH9 (zaa:(Sl Gate)):Bool :=
  (decide ((p64 zaa=true)) &&
 (cond (!(s64 zaa))
 true
 (zm8 zaa)))
end
theorem zPz (zaa:(Sl Gate)) (K:List PA→Prop) (hs:zH9 zaa=true) (hk:K (zOb (zAA zaa))):vcFun Try.prog zOa zwJ 75 [.one (.sl zaa.len 3 (fun i=>enc_55 (zaa.get i))),.one (.fn 88 [] [])] (Wk K) :=
  zaK (by kernel_rfl) (zaD hs fun hc hs=>And.intro (And.intro (zE enc_55 3 zaa.get) hc) (zc hs hk (fun hs hk=>((wk hk (zc9 (.agg (zc9 (.nil _ _) (zc9 (.nil _ _) zhD))) (zc9 (.one (.rfl _)) zhD))):Wk K [.agg [.nils,.nils],.one (.int .i64 (2:Int))])) (fun hs hk=>(zBO hs hk))))
def zux : List PA → COut
  | [.one (.sl a0_n a0_s a0_g),.one (.fn 77 [] [])]=>.det (IsE enc_55 3 a0_s a0_g∧p75 (⟨a0_n,zae a0_g⟩:(Sl Gate))=true) [.agg [.sl (((s75 (⟨a0_n,zae a0_g⟩:(Sl Gate))).1).list.Gates.len) 3 (fun i=>enc_55 (((s75 (⟨a0_n,zae a0_g⟩:(Sl Gate))).1).list.Gates.get i)),.sl (((s75 (⟨a0_n,zae a0_g⟩:(Sl Gate))).1).corners.len) 3 (fun i=>zaf (((s75 (⟨a0_n,zae a0_g⟩:(Sl Gate))).1).corners.get i))],.one (.int .i64 ((s75 (⟨a0_n,zae a0_g⟩:(Sl Gate))).2))]
  | [.one (.sl a0_n a0_s a0_g),.one (.fn 76 [] [.fp [.int .i64 c0] 0])]=>.det (IsE enc_55 3 a0_s a0_g∧zE9 c0 (⟨a0_n,zae a0_g⟩:(Sl Gate))=true) [.agg [.sl (((zps c0 (⟨a0_n,zae a0_g⟩:(Sl Gate))).1).list.Gates.len) 3 (fun i=>enc_55 (((zps c0 (⟨a0_n,zae a0_g⟩:(Sl Gate))).1).list.Gates.get i)),.sl (((zps c0 (⟨a0_n,zae a0_g⟩:(Sl Gate))).1).corners.len) 3 (fun i=>zaf (((zps c0 (⟨a0_n,zae a0_g⟩:(Sl Gate))).1).corners.get i))],.one (.int .i64 ((zps c0 (⟨a0_n,zae a0_g⟩:(Sl Gate))).2))]
  | [.one (.sl a0_n a0_s a0_g),.one (.fn 88 [] [])]=>.det (IsE enc_55 3 a0_s a0_g∧zH9 (⟨a0_n,zae a0_g⟩:(Sl Gate))=true) [.agg [.sl (((zAA (⟨a0_n,zae a0_g⟩:(Sl Gate))).1).list.Gates.len) 3 (fun i=>enc_55 (((zAA (⟨a0_n,zae a0_g⟩:(Sl Gate))).1).list.Gates.get i)),.sl (((zAA (⟨a0_n,zae a0_g⟩:(Sl Gate))).1).corners.len) 3 (fun i=>zaf (((zAA (⟨a0_n,zae a0_g⟩:(Sl Gate))).1).corners.get i))],.one (.int .i64 ((zAA (⟨a0_n,zae a0_g⟩:(Sl Gate))).2))]
  | _=>.no
theorem zJP:zah Try.prog 75:=⟨_,rfl,rfl,by kernel_rfl⟩
theorem zMA:Ok Try.prog 75 zux:=zgi zMz zJP fun args K h=>by
  unfold zux at h
  split at h
  · rename_i a0_n a0_s a0_g
    obtain ⟨⟨⟨rfl,a0_f,rfl⟩,hs⟩,hk⟩:=h
    try rw [zac a0_f] at hs
    try rw [zac a0_f] at hk
    exact ⟨_,ze6 zfi _,(fun _ _=>[]),(fun _=>false),zE7,q75 (⟨a0_n,a0_f⟩:(Sl Gate)) K hs hk⟩
  · rename_i a0_n a0_s a0_g c0
    obtain ⟨⟨⟨rfl,a0_f,rfl⟩,hs⟩,hk⟩:=h
    try rw [zac a0_f] at hs
    try rw [zac a0_f] at hk
    exact ⟨_,ze6 zfi _,(fun _ _=>[]),(fun _=>false),zwI,zPx c0 (⟨a0_n,a0_f⟩:(Sl Gate)) K hs hk⟩
  · rename_i a0_n a0_s a0_g
    obtain ⟨⟨⟨rfl,a0_f,rfl⟩,hs⟩,hk⟩:=h
    try rw [zac a0_f] at hs
    try rw [zac a0_f] at hk
    exact ⟨_,ze6 zfi _,(fun _ _=>[]),(fun _=>false),zwJ,zPz (⟨a0_n,a0_f⟩:(Sl Gate)) K hs hk⟩
  · exact h.elim
abbrev T30:Tabs:=(((Tabs.nil.addF 68 zwz).addF 74 zmQ).addF 75 zux)
theorem zMB:TabsOk Try.prog T30:=(((TabsOk.nil.addF zN3).addF zEl).addF zMA)
abbrev G30:Ctrs:=csm T30 (fun _ _=>[]) (fun _=>false)
def zFa:Ann:=⟨35,[(0,zK [0,3,4,5] [3,4,5]),(1,zK [0,3,4,5,13] [3,4,5]),(2,zK [4,5,6] [4,5]),(3,zK [3,4,5,7,8] [3,4,5,7]),(4,zK [3,4,5,7,8,23] [3,4,5,7]),(5,zK [4,5,6] [4,5]),(6,zK [4,5,9,10] [4,5,9,10]),(7,zK [4,5,6] [4,5])],
 [],
 [(2,zK [0,3,4,5,13] [3,4,5]),(3,zK [0,3,4,5] [3,4,5]),(4,zK [3,4,5,7,8] [3,4,5,7]),(6,zK [3,4,5,7] [3,4,5,7]),(7,zK [4,5,9,10] [4,5,9,10])],
 [],[]⟩
abbrev R30:=(Frac×Frac×Int)
abbrev e30 (r:R30):List PA:=[.agg [.int .i64 r.1.Num,.int .i64 r.1.Den],.agg [.int .i64 r.2.1.Num,.int .i64 r.2.1.Den],.one (.int .i64 r.2.2)]
@[irreducible] def z30:=ptF Try.prog G30 zFa Try.f30
section
variable {K:List PA→Prop} {zaa:(Sl Gate)} {z:Int} {zqA:Bool} {ev2:Int} {zm9:(Sl Gate)} {zna:(Sl straight)} {zqB:Nat→List PV} {zqC:Nat→List PV} {zh2:(Sl Gate)} {zh3:(Sl straight)} {zqD:Nat→List PV} {zqE:Nat→List PV} {znb:Int} {znc:Int} {zi8:Int} {zi9:Int}
def zqF (znb:Int) (znc:Int) (zi8:Int) (zi9:Int):(Frac×Frac×Int) :=
  ((⟨znb,znc⟩:Frac),(⟨zi8,zi9⟩:Frac),(0:Int))
theorem zFb (hk:K (e30 (zqF znb znc zi8 zi9))):z30 K [1,1,1,1,1] [] ⟨[(4,zp 4 0),(5,zp 5 0),(9,zp 9 0),(10,zp 10 0)],[(4,.box 25 (zm (zad (⟨(0:Int),(0:Int)⟩:Frac)))),(5,.box 25 (zm (zad (⟨(0:Int),(0:Int)⟩:Frac)))),(9,.box 25 (zm (zad (⟨znb,znc⟩:Frac)))),(10,.box 25 (zm (zad (⟨zi8,zi9⟩:Frac))))],[]⟩:=zaK (by kernel_rfl) hk
def zqG (z:Int) (zh2:(Sl Gate)) (zh3:(Sl straight)):(Frac×Frac×Int) :=
  (zqF (((s68 (⟨(⟨zh2⟩:list),zh3⟩:set) z).1).Num) (((s68 (⟨(⟨zh2⟩:list),zh3⟩:set) z).1).Den) (((s68 (⟨(⟨zh2⟩:list),zh3⟩:set) z).2).Num) (((s68 (⟨(⟨zh2⟩:list),zh3⟩:set) z).2).Den))
def zqH (z:Int) (zh2:(Sl Gate)) (zh3:(Sl straight)):Bool :=
  (decide ((p68 (⟨(⟨zh2⟩:list),zh3⟩:set) z=true)) &&
 true)
theorem zFc (hs:zqH z zh2 zh3=true) (hk:K (e30 (zqG z zh2 zh3))) (zFd:zqD=zg enc_55 zh2) (zFe:zqE=zg zaf zh3):z30 K [1,1,1,1] [] ⟨[(3,zp 3 0),(4,zp 4 0),(5,zp 5 0),(7,zp 7 0)],[(3,.fbox [.int .i64 z]),(4,.box 25 (zm (zad (⟨(0:Int),(0:Int)⟩:Frac)))),(5,.box 25 (zm (zad (⟨(0:Int),(0:Int)⟩:Frac)))),(7,.box 104 [.p (.sl zh2.len 3 zqD),.p (.sl zh3.len 3 zqE)])],[]⟩:=by subst zFd;subst zFe;exact zaK (by kernel_rfl) (zaD hs fun hc hs=>And.intro (And.intro (zE enc_55 3 zh2.get) (And.intro (zE zaf 3 zh3.get) hc)) (zFb hk))
def znd (z:Int) (ev2:Int) (zm9:(Sl Gate)) (zna:(Sl straight)):(Frac×Frac×Int) :=
  (cond (ev2 != (0:Int))
 ((⟨(0:Int),(0:Int)⟩:Frac),(⟨(0:Int),(0:Int)⟩:Frac),ev2)
 (zqG z zm9 zna))
def zne (z:Int) (ev2:Int) (zm9:(Sl Gate)) (zna:(Sl straight)):Bool :=
  (cond (ev2 != (0:Int))
 true
 (zqH z zm9 zna))
theorem zFf (hs:zne z ev2 zm9 zna=true) (hk:K (e30 (znd z ev2 zm9 zna))) (zFg:zqB=zg enc_55 zm9) (zFh:zqC=zg zaf zna):z30 K [1,1,1] [] ⟨[(3,zp 3 0),(4,zp 4 0),(5,zp 5 0),(7,zp 7 0),(8,zI ev2)],[(3,.fbox [.int .i64 z]),(4,.box 25 (zm (zad (⟨(0:Int),(0:Int)⟩:Frac)))),(5,.box 25 (zm (zad (⟨(0:Int),(0:Int)⟩:Frac)))),(7,.box 104 [.p (.sl zm9.len 3 zqB),.p (.sl zna.len 3 zqC)])],[]⟩:=by subst zFg;subst zFh;exact zaK (by kernel_rfl) (zc hs hk (fun hs hk=>hk) (fun hs hk=>(zFc hs hk rfl rfl)))
def zqI (zaa:(Sl Gate)) (z:Int):(Frac×Frac×Int) :=
  (znd z ((zps z zaa).2) (((zps z zaa).1).list.Gates) (((zps z zaa).1).corners))
def zqJ (zaa:(Sl Gate)) (z:Int):Bool :=
  (decide ((zE9 z zaa=true)) &&
 (zne z ((zps z zaa).2) (((zps z zaa).1).list.Gates) (((zps z zaa).1).corners)))
theorem zFi (hs:zqJ zaa z=true) (hk:K (e30 (zqI zaa z))):z30 K [1,1] [] ⟨[(0,zS enc_55 3 zaa),(3,zp 3 0),(4,zp 4 0),(5,zp 5 0)],[(3,.box 3 [zi z]),(4,.box 25 (zm (zad (⟨(0:Int),(0:Int)⟩:Frac)))),(5,.box 25 (zm (zad (⟨(0:Int),(0:Int)⟩:Frac))))],[]⟩:=zaK (by kernel_rfl) (zaD hs fun hc hs=>And.intro (And.intro (zE enc_55 3 zaa.get) hc) (zFf hs hk rfl rfl))
def zqK (zaa:(Sl Gate)) (z:Int) (zqA:Bool):(Frac×Frac×Int) :=
  (cond zqA
 ((⟨(0:Int),(0:Int)⟩:Frac),(⟨(0:Int),(0:Int)⟩:Frac),(2:Int))
 (zqI zaa z))
def zqL (zaa:(Sl Gate)) (z:Int) (zqA:Bool):Bool :=
  (cond zqA
 true
 (zqJ zaa z))
theorem zFj (hs:zqL zaa z zqA=true) (hk:K (e30 (zqK zaa z zqA))):z30 K [1,0,1] [] ⟨[(0,zS enc_55 3 zaa),(3,zp 3 0),(4,zp 4 0),(5,zp 5 0),(13,zB zqA)],[(3,.box 3 [zi z]),(4,.box 25 (zm (zad (⟨(0:Int),(0:Int)⟩:Frac)))),(5,.box 25 (zm (zad (⟨(0:Int),(0:Int)⟩:Frac))))],[]⟩:=zaK (by kernel_rfl) (zc hs hk (fun hs hk=>hk) (fun hs hk=>(zFi hs hk)))
def s30 (zaa:(Sl Gate)) (z:Int):(Frac×Frac×Int) :=
  (zqK zaa z (!(s74 z (-100000:Int) (200000:Int))))
def p30 (zaa:(Sl Gate)) (z:Int):Bool :=
  (zqL zaa z (!(s74 z (-100000:Int) (200000:Int))))
end
theorem q30 (zaa:(Sl Gate)) (z:Int) (K:List PA→Prop) (hs:p30 zaa z=true) (hk:K (e30 (s30 zaa z))):vcFun Try.prog G30 zFa 30 [.one (.sl zaa.len 3 (fun i=>enc_55 (zaa.get i))),.one (.int .i64 z)] K :=
  zaK (by kernel_rfl) (zFj hs hk)
def zBP : List PA → COut
  | [.one (.sl a0_n a0_s a0_g),.one (.int .i64 a1)]=>.det (IsE enc_55 3 a0_s a0_g∧p30 (⟨a0_n,zae a0_g⟩:(Sl Gate)) a1=true) [.agg [.int .i64 (((s30 (⟨a0_n,zae a0_g⟩:(Sl Gate)) a1).1).Num),.int .i64 (((s30 (⟨a0_n,zae a0_g⟩:(Sl Gate)) a1).1).Den)],.agg [.int .i64 (((s30 (⟨a0_n,zae a0_g⟩:(Sl Gate)) a1).2.1).Num),.int .i64 (((s30 (⟨a0_n,zae a0_g⟩:(Sl Gate)) a1).2.1).Den)],.one (.int .i64 ((s30 (⟨a0_n,zae a0_g⟩:(Sl Gate)) a1).2.2))]
  | _=>.no
theorem zJQ:zah Try.prog 30:=⟨_,rfl,rfl,by kernel_rfl⟩
theorem zOc:Ok Try.prog 30 zBP:=zaN zMB zJQ fun args K h=>by
  unfold zBP at h
  split at h
  · rename_i a0_n a0_s a0_g a1
    obtain ⟨⟨⟨rfl,a0_f,rfl⟩,hs⟩,hk⟩:=h
    try rw [zac a0_f] at hs
    try rw [zac a0_f] at hk
    exact ⟨(fun _ _=>[]),(fun _=>false),zFa,q30 (⟨a0_n,a0_f⟩:(Sl Gate)) a1 K hs hk⟩
  · exact h.elim
abbrev zOd:Tabs:=Tabs.nil
theorem zJR:TabsOk Try.prog zOd:=TabsOk.nil
abbrev zOe:Ctrs:=csm zOd (fun _ _=>[]) (fun _=>false)
def zwK:Ann:=⟨8,[(0,⟨[0],[],[],[],[],[],[]⟩),(1,⟨[0,4],[],[],[],[],[],[]⟩),(2,⟨[2],[],[],[],[],[],[]⟩),(3,⟨[2],[5],[],[],[],[],[]⟩)],
 [],
 [],
 [],[]⟩
theorem zBQ (n : Nat) (get : Nat → List PV) : zvI Try.prog zOe zwK 105 [.one (.sl n 3 get)] 118 3 24 n get =
  ((True)∧(∃ r1:Bool,(n ≠ 0→r1=false))∧∀ r1:Bool,(n ≠ 0→r1=false) →
 (zdd r1
 (True∧n=0)
 ((((0+n) * 24≤140737488355328∧0+n≤9223372036854775807)) ∧
 (True∧118=118∧3=3∧24=24∧(0+n)=n∧∀ i,i < n→(appG 0 (zdt []) get) i=get i)))):=by kernel_rfl
abbrev zDc:OwnK:=.clone 118 3 24
theorem zFk:zah Try.prog 105:=⟨_,rfl,rfl,by kernel_rfl⟩
theorem zMC:zmm Try.prog 105 zDc:=zvL zJR zFk fun n get h1 h2=>by
  refine ⟨fun _ _=>[],fun _=>false,zwK,?_⟩
  show zvI Try.prog zOe zwK 105 _ _ _ _ _ _
  rw [zBQ]
  refine ⟨trivial,⟨decide (n=0),fun h=>decide_eq_false h⟩,fun r1 hr=>?_⟩
  cases r1
  · refine ⟨⟨by omega,by omega⟩,trivial,rfl,rfl,rfl,Nat.zero_add n,fun i _=>rfl⟩
  · exact ⟨trivial,Classical.byContradiction fun h=>by simpa using hr h⟩
abbrev zDd:OwnK:=.sort 118 3 24
theorem zMD:zmm Try.prog 106 zDd:=zvS Try.laysS106 rfl rfl rfl (fun h=>h) ⟨_,rfl,rfl,by kernel_rfl⟩
abbrev zOf:Tabs:=(Tabs.nil.addF 99 zwc)
theorem zJS:TabsOk Try.prog zOf:=(TabsOk.nil.addF zL2)
abbrev zPA:Ctrs:=csm zOf (fun _ _=>[]) (fun _=>false)
def zDe:Ann:=⟨10,[(0,zK [2,3] [2,3]),(1,zK [4] [])],
 [],
 [],
 [],[]⟩
abbrev zPB:=Bool
abbrev e108 (r:zPB):List PA:=[.one (.bool r)]
section
variable {K:List PA→Prop} {s:set} {x:straight}
def zuG (s:set) (x:straight):Bool :=
  (zLA x s.list.Gates)
def zIa (s:set) (x:straight):Bool :=
  (decide ((zLB x s.list.Gates=true)) &&
 true)
end
theorem zPC (s:set) (x:straight) (K:List PA→Prop) (hs:zIa s x=true) (hk:K (e108 (zuG s x))):vcFun Try.prog zPA zDe 108 [.agg (za8 s),.agg (zaf x)] K :=
  zaK (by kernel_rfl) (zaD hs fun hc hs=>And.intro (And.intro (zE enc_55 3 s.list.Gates.get) hc) hk)
def zwL : List PA → COut
  | [.agg [.sl a0_list_Gates_n a0_list_Gates_s a0_list_Gates_g,.sl a0_corners_n a0_corners_s a0_corners_g],.agg [.int .i64 a1_slope,.int .i64 a1_start,.int .i64 a1_den]]=>.det (IsE enc_55 3 a0_list_Gates_s a0_list_Gates_g∧IsE zaf 3 a0_corners_s a0_corners_g∧zIa (⟨(⟨(⟨a0_list_Gates_n,zae a0_list_Gates_g⟩:(Sl Gate))⟩:list),(⟨a0_corners_n,za4 a0_corners_g⟩:(Sl straight))⟩:set) (⟨a1_slope,a1_start,a1_den⟩:straight)=true) [.one (.bool (zuG (⟨(⟨(⟨a0_list_Gates_n,zae a0_list_Gates_g⟩:(Sl Gate))⟩:list),(⟨a0_corners_n,za4 a0_corners_g⟩:(Sl straight))⟩:set) (⟨a1_slope,a1_start,a1_den⟩:straight)))]
  | _=>.no
theorem zFl:zah Try.prog 108:=⟨_,rfl,rfl,by kernel_rfl⟩
theorem zME:Ok Try.prog 108 zwL:=zaN zJS zFl fun args K h=>by
  unfold zwL at h
  split at h
  · rename_i a0_list_Gates_n a0_list_Gates_s a0_list_Gates_g a0_corners_n a0_corners_s a0_corners_g a1_slope a1_start a1_den
    obtain ⟨⟨⟨rfl,a0_list_Gates_f,rfl⟩,⟨rfl,a0_corners_f,rfl⟩,hs⟩,hk⟩:=h
    try rw [zac a0_list_Gates_f] at hs
    try rw [zac a0_list_Gates_f] at hk
    try rw [za0 a0_corners_f] at hs
    try rw [za0 a0_corners_f] at hk
    exact ⟨(fun _ _=>[]),(fun _=>false),zDe,zPC (⟨(⟨(⟨a0_list_Gates_n,a0_list_Gates_f⟩:(Sl Gate))⟩:list),(⟨a0_corners_n,a0_corners_f⟩:(Sl straight))⟩:set) (⟨a1_slope,a1_start,a1_den⟩:straight) K hs hk⟩
  · exact h.elim
abbrev zOg:Tabs:=(((Tabs.nil.addF 69 zqd).addF 89 zqc).addF 108 zwL)
theorem zJT:TabsOk Try.prog zOg:=(((TabsOk.nil.addF zLD).addF zLC).addF zME)
abbrev zPD:Ctrs:=csm zOg (fun _ _=>[]) (fun _=>false)
def zDf:Ann:=⟨38,[(0,zK [2,3,4] [3,4]),(1,zK [3,4,6,7] [3,4]),(2,zK [6,7,8] []),(3,zK [6,7,8,26] []),(4,zK [5] []),(5,zK [7,8,32] []),(6,zK [5] []),(7,zK [8,34] []),(8,zK [5] []),(9,zK [5] [])],
 [],
 [],
 [],[]⟩
abbrev zPE:=Int
abbrev zPF (r:zPE):List PA:=[.one (.int .i64 r)]
section
variable {K:List PA→Prop} {c0:set} {a:straight} {b:straight}
def zDg (c0:set) (a:straight) (b:straight):Int :=
  (cond (zuG c0 a)
 (cond (zuG c0 b)
 (s69 (s89 a.slope a.den) (s89 b.slope b.den))
 (cond (zuG c0 a)
 (-1:Int)
 (cond (zuG c0 b)
 (1:Int)
 (w64 (0 - (s69 (s89 a.slope a.den) (s89 b.slope b.den)))))))
 (cond (zuG c0 a)
 (-1:Int)
 (cond (zuG c0 b)
 (1:Int)
 (w64 (0 - (s69 (s89 a.slope a.den) (s89 b.slope b.den)))))))
def zDh (c0:set) (a:straight) (b:straight):Bool :=
  (decide ((zIa c0 a=true)) &&
 (decide ((zIa c0 b=true)) &&
 (decide ((p89 a.slope a.den=true)) &&
 (decide ((p89 b.slope b.den=true)) &&
 true))))
end
theorem zPG (c0:set) (a:straight) (b:straight) (K:List PA→Prop) (hs:zDh c0 a b=true) (hk:K (zPF (zDg c0 a b))):vcFun Try.prog zPD zDf 107 [.agg (zaf a),.agg (zaf b),.one (.fp (za8 c0) 0)] K :=
  zaK (by kernel_rfl) (zaD hs fun hc hs=>And.intro (And.intro (zE enc_55 3 c0.list.Gates.get) (And.intro (zE zaf 3 c0.corners.get) hc)) (zaD hs fun hc hs=>And.intro (And.intro (zE enc_55 3 c0.list.Gates.get) (And.intro (zE zaf 3 c0.corners.get) hc)) (zaD hs fun hc hs=>And.intro hc (zaD hs fun hc hs=>And.intro hc (zt hk (fun hk=>(zt hk (fun hk=>hk) (fun hk=>(zt hk (fun hk=>hk) (fun hk=>(zt hk (fun hk=>hk) (fun hk=>hk))))))) (fun hk=>(zt hk (fun hk=>hk) (fun hk=>(zt hk (fun hk=>hk) (fun hk=>hk))))))))))
def zo9 : List PA → COut
  | [.agg [.int .i64 a0_slope,.int .i64 a0_start,.int .i64 a0_den],.agg [.int .i64 a1_slope,.int .i64 a1_start,.int .i64 a1_den],.one (.fp [.sl c0_list_Gates_n c0_list_Gates_s c0_list_Gates_g,.sl c0_corners_n c0_corners_s c0_corners_g] 0)]=>.det (IsE enc_55 3 c0_list_Gates_s c0_list_Gates_g∧IsE zaf 3 c0_corners_s c0_corners_g∧zDh (⟨(⟨(⟨c0_list_Gates_n,zae c0_list_Gates_g⟩:(Sl Gate))⟩:list),(⟨c0_corners_n,za4 c0_corners_g⟩:(Sl straight))⟩:set) (⟨a0_slope,a0_start,a0_den⟩:straight) (⟨a1_slope,a1_start,a1_den⟩:straight)=true) [.one (.int .i64 (zDg (⟨(⟨(⟨c0_list_Gates_n,zae c0_list_Gates_g⟩:(Sl Gate))⟩:list),(⟨c0_corners_n,za4 c0_corners_g⟩:(Sl straight))⟩:set) (⟨a0_slope,a0_start,a0_den⟩:straight) (⟨a1_slope,a1_start,a1_den⟩:straight)))]
  | _=>.no
theorem zFm:zah Try.prog 107:=⟨_,rfl,rfl,by kernel_rfl⟩
theorem zMF:Ok Try.prog 107 zo9:=zaN zJT zFm fun args K h=>by
  unfold zo9 at h
  split at h
  · rename_i a0_slope a0_start a0_den a1_slope a1_start a1_den c0_list_Gates_n c0_list_Gates_s c0_list_Gates_g c0_corners_n c0_corners_s c0_corners_g
    obtain ⟨⟨⟨rfl,c0_list_Gates_f,rfl⟩,⟨rfl,c0_corners_f,rfl⟩,hs⟩,hk⟩:=h
    try rw [zac c0_list_Gates_f] at hs
    try rw [zac c0_list_Gates_f] at hk
    try rw [za0 c0_corners_f] at hs
    try rw [za0 c0_corners_f] at hk
    exact ⟨(fun _ _=>[]),(fun _=>false),zDf,zPG (⟨(⟨(⟨c0_list_Gates_n,c0_list_Gates_f⟩:(Sl Gate))⟩:list),(⟨c0_corners_n,c0_corners_f⟩:(Sl straight))⟩:set) (⟨a0_slope,a0_start,a0_den⟩:straight) (⟨a1_slope,a1_start,a1_den⟩:straight) K hs hk⟩
  · exact h.elim
abbrev T78:Tabs:=(((Tabs.nil.addO 105 zDc).addO 106 zDd).addF 107 zo9)
theorem zMG:TabsOk Try.prog T78:=(((TabsOk.nil.addO zMC).addO zMD).addF zMF)
abbrev G78:Ctrs:=csm T78 (fun _ _=>[]) (fun _=>false)
def zJU:Ann:=⟨11,[(0,zK [1] [1]),(1,zK [1,3] [1,6]),(2,zK [3] [6]),(3,zK [2] [6])],
 [],
 [],
 [],[]⟩
abbrev R78:=(Sl straight)
abbrev e78 (r:R78):List PA:=[.one (.sl r.len 3 (fun i=>zaf (r.get i)))]
section
variable {K:List PA→Prop} {s:set}
def s78 (s:set):(Sl straight) :=
  (⟨s.corners.len,(zpB s.corners.len (fun i j=>(zDg s (s.corners.get i) (s.corners.get j))) s.corners.get)⟩:(Sl straight))
def p78 (s:set):Bool :=
  (decide ((s.corners.len * 24≤140737488355328∧s.corners.len≤9223372036854775807)) &&
 (decide ((s.corners.len≤4611686018427387)∧(sortB s.corners.len (fun i j=>decide (zDh s (s.corners.get i) (s.corners.get j)=true)) (fun i j=>(zDg s (s.corners.get i) (s.corners.get j)))=true)) &&
 true))
end
theorem q78 (s:set) (K:List PA→Prop) (hs:p78 s=true) (hk:K (e78 (s78 s))):vcFun Try.prog G78 zJU 78 [.agg (za8 s)] K :=
  zaK (by kernel_rfl) (zaD hs fun hc hs=>And.intro hc (zaD hs fun hc hs=>And.intro (And.intro (hc.1) ((zsY (hc.2) (fun i j h=>(show IsE enc_55 3 3 (fun i=>enc_55 (s.list.Gates.get i))∧IsE zaf 3 3 (fun i=>zaf (s.corners.get i))∧(zDh s (s.corners.get i) (s.corners.get j)=true) from ⟨isE,isE,(of_decide_eq_true h)⟩)) rfl):(∀ i j,i < s.corners.len→j < s.corners.len→zH3 (zo9) [.fp (za8 s) 0] true (fun i=>zaf (s.corners.get i)) i j)∧STO s.corners.len (zuJ (zo9) [.fp (za8 s) 0] true (fun i=>zaf (s.corners.get i))))) hk))
def zFn : List PA → COut
  | [.agg [.sl a0_list_Gates_n a0_list_Gates_s a0_list_Gates_g,.sl a0_corners_n a0_corners_s a0_corners_g]]=>.det (IsE enc_55 3 a0_list_Gates_s a0_list_Gates_g∧IsE zaf 3 a0_corners_s a0_corners_g∧p78 (⟨(⟨(⟨a0_list_Gates_n,zae a0_list_Gates_g⟩:(Sl Gate))⟩:list),(⟨a0_corners_n,za4 a0_corners_g⟩:(Sl straight))⟩:set)=true) [.one (.sl ((s78 (⟨(⟨(⟨a0_list_Gates_n,zae a0_list_Gates_g⟩:(Sl Gate))⟩:list),(⟨a0_corners_n,za4 a0_corners_g⟩:(Sl straight))⟩:set)).len) 3 (fun i=>zaf ((s78 (⟨(⟨(⟨a0_list_Gates_n,zae a0_list_Gates_g⟩:(Sl Gate))⟩:list),(⟨a0_corners_n,za4 a0_corners_g⟩:(Sl straight))⟩:set)).get i)))]
  | _=>.no
theorem zJV:zah Try.prog 78:=⟨_,rfl,rfl,by kernel_rfl⟩
theorem zPH:Ok Try.prog 78 zFn:=zaN zMG zJV fun args K h=>by
  unfold zFn at h
  split at h
  · rename_i a0_list_Gates_n a0_list_Gates_s a0_list_Gates_g a0_corners_n a0_corners_s a0_corners_g
    obtain ⟨⟨⟨rfl,a0_list_Gates_f,rfl⟩,⟨rfl,a0_corners_f,rfl⟩,hs⟩,hk⟩:=h
    try rw [zac a0_list_Gates_f] at hs
    try rw [zac a0_list_Gates_f] at hk
    try rw [za0 a0_corners_f] at hs
    try rw [za0 a0_corners_f] at hk
    exact ⟨(fun _ _=>[]),(fun _=>false),zJU,q78 (⟨(⟨(⟨a0_list_Gates_n,a0_list_Gates_f⟩:(Sl Gate))⟩:list),(⟨a0_corners_n,a0_corners_f⟩:(Sl straight))⟩:set) K hs hk⟩
  · exact h.elim
abbrev T31:Tabs:=(((Tabs.nil.addF 75 zux).addF 78 zFn).addF 79 zBJ)
theorem zMH:TabsOk Try.prog T31:=(((TabsOk.nil.addF zMA).addF zPH).addF zN4)
abbrev G31:Ctrs:=csm T31 (fun _ _=>[]) (fun _=>false)
def zFo:Ann:=⟨31,[(0,zK [0] []),(1,zK [4,5] [4]),(2,zK [4,5,15] [4]),(3,zK [2,3] []),(4,zK [4,6] [4]),(5,zK [6,18,19,20] []),(6,zK [6,18,19,20,21] [28]),(7,zK [6,8,18,19,20] [8,28]),(8,zK [6,18,19,20] [28]),(9,zK [6,18,19,20] [28]),(10,zK [2,3] [28])],
 [(6,⟨[6,18,19,20],[28],[(6,28,37,fun _=>zaL default)],[],[],[],[]⟩)],
 [(2,zK [4,5] [4]),(4,zK [4] [4]),(6,zK [6,18,19,20] [])],
 [],[]⟩
abbrev R31:=((Sl Line)×Int)
abbrev e31 (r:R31):List PA:=[.one (.sl r.1.len 4 (fun i=>zaL (r.1.get i))),.one (.int .i64 r.2)]
@[irreducible] def z31:=ptF Try.prog G31 zFo Try.f31
def zDi (zck:(Sl straight)) (zcz:Int) (zdj:Int) (zcN:(Sl Line)) (zfq:Nat→List PV):St:=⟨[(6,zv 28),(18,zS zaf 3 zck),(19,zI zcz),(20,zI zdj)],[(28,.vec 37 4 32 zcN.len zfq)],[]⟩
abbrev zJW (K:List PA→Prop) (zck:(Sl straight)) (zcz:Int) (X:St→Prop) (P:Int→(Sl Line)→Bool) (S:Int→(Sl Line)→((Sl Line)×Int)):Prop:=∀ ⦃zdj:Int⦄ ⦃zcN:(Sl Line)⦄ ⦃zfq:Nat→List PV⦄,P zdj zcN=true→K (e31 (S zdj zcN))→zfq=zg zaL zcN→X (zDi zck zcz zdj zcN zfq)
section
variable {K:List PA→Prop} {zaa:(Sl Gate)} {ev0:Int} {zeP:(Sl Gate)} {zeQ:(Sl straight)} {zke:Nat→List PV} {zkf:Nat→List PV} {ziQ:(Sl Gate)} {ziR:(Sl straight)} {zwM:Nat→List PV} {zwN:Nat→List PV} {zck:(Sl straight)} {zcz:Int} {zwO:Nat→List PV} {zdj:Int} {zcN:(Sl Line)} {zfq:Nat→List PV} {X3:St→Prop} {P3:Int→(Sl Line)→Bool} {S3:Int→(Sl Line)→((Sl Line)×Int)}
def zh4 (zck:(Sl straight)) (zcz:Int) (S3:Int→(Sl Line)→((Sl Line)×Int)) (zdj:Int) (zcN:(Sl Line)):((Sl Line)×Int) :=
  (cond (decide (zdj < zcz))
 (S3 (w64 (zdj+(1:Int))) (⟨(zcN.len+1),(zdQ zcN.len zcN.get (fun _=>(s79 (zck.get zdj.toNat))))⟩:Sl Line))
 (zcN,(0:Int)))
def zh5 (zck:(Sl straight)) (zcz:Int) (P3:Int→(Sl Line)→Bool) (zdj:Int) (zcN:(Sl Line)):Bool :=
  (cond (decide (zdj < zcz))
 (decide ((0≤zdj∧zdj < (zck.len:Int))) &&
 (decide ((p79 (zck.get zdj.toNat)=true)) &&
 (decide (((zcN.len+1) * 32≤140737488355328∧zcN.len+1≤9223372036854775807)) &&
 (P3 (w64 (zdj+(1:Int))) (⟨(zcN.len+1),(zdQ zcN.len zcN.get (fun _=>(s79 (zck.get zdj.toNat))))⟩:Sl Line)))))
 true)
def zh6 (zck:(Sl straight)) (zcz:Int):Nat→Int→(Sl Line)→((Sl Line)×Int):=lpO (fun _ _=>default) (zh4 zck zcz)
def zh7 (zck:(Sl straight)) (zcz:Int):Nat→Int→(Sl Line)→Bool:=lpO (fun _ _=>false) (zh5 zck zcz)
def zqM (zck:(Sl straight)) (zcz:Int) (zdj:Int) (zcN:(Sl Line)):((Sl Line)×Int):=zh6 zck zcz Fuel zdj zcN
def znf (zck:(Sl straight)) (zcz:Int) (zdj:Int) (zcN:(Sl Line)):Bool:=zh7 zck zcz Fuel zdj zcN
theorem zFp (hs:znf zck zcz zdj zcN=true) (hk:K (e31 (zqM zck zcz zdj zcN))) (zqN:zfq=zg zaL zcN):z31 (Wk K) [1,1,1,1,0,1,0] [] (zDi zck zcz zdj zcN zfq) :=
  zl (fun X=>z31 (Wk K) [1,1,1,1,0,1,0,0] [X]) (by kernel_rfl) fun X3 hX =>
  (show ∀ k, zJW K zck zcz X3 (zh7 zck zcz k) (zh6 zck zcz k) from zgj _ _ (zh5 zck zcz) (zh4 zck zcz) (zJW K zck zcz X3)
 (by intro _ _ _ hs;exact absurd hs Bool.false_ne_true)
 (by intro P3 S3 hX3 zdj zcN zfq hs hk zqN;subst zqN;exact hX _ (zaK (by kernel_rfl) (zc hs hk (fun hs hk=>(zaD hs fun hc hs=>And.intro hc (zaD hs fun hc hs=>And.intro hc (zaD hs fun hc hs=>And.intro hc (hX3 hs hk (zjV (enc:=zaL) (f:=zcN.get) (h:=(fun _=>(s79 (zck.get zdj.toNat)))) rfl rfl)))))) (fun hs hk=>((zd7 hk):Wk K [.one (.sl zcN.len 4 (fun i=>zaL (zcN.get i))),.one (.int .i64 (0:Int))])))))) _ hs hk zqN
def zqO (zck:(Sl straight)) (zcz:Int):((Sl Line)×Int) :=
  (zqM zck zcz (0:Int) (⟨0,(fun _=>default)⟩:Sl Line))
def zqP (zck:(Sl straight)) (zcz:Int):Bool :=
  (znf zck zcz (0:Int) (⟨0,(fun _=>default)⟩:Sl Line))
theorem zFq (hs:zqP zck zcz=true) (hk:K (e31 (zqO zck zcz))) (zFr:zwO=zg zaf zck):z31 (Wk K) [1,1,1,1,0,1] [] ⟨[(6,zP (.nils)),(18,zP (.sl zck.len 3 zwO)),(19,zI zcz),(20,zI (0:Int))],[],[]⟩:=by subst zFr;exact zaK (by kernel_rfl) (zFp hs hk rfl)
def zqQ (ziQ:(Sl Gate)) (ziR:(Sl straight)):((Sl Line)×Int) :=
  (zqO (s78 (⟨(⟨ziQ⟩:list),ziR⟩:set)) ((s78 (⟨(⟨ziQ⟩:list),ziR⟩:set)).len:Int))
def zqR (ziQ:(Sl Gate)) (ziR:(Sl straight)):Bool :=
  (decide ((p78 (⟨(⟨ziQ⟩:list),ziR⟩:set)=true)) &&
 (zqP (s78 (⟨(⟨ziQ⟩:list),ziR⟩:set)) ((s78 (⟨(⟨ziQ⟩:list),ziR⟩:set)).len:Int)))
theorem zFs (hs:zqR ziQ ziR=true) (hk:K (e31 (zqQ ziQ ziR))) (zFt:zwM=zg enc_55 ziQ) (zFu:zwN=zg zaf ziR):z31 (Wk K) [1,1,1] [] ⟨[(4,zp 4 0)],[(4,.box 104 [.p (.sl ziQ.len 3 zwM),.p (.sl ziR.len 3 zwN)])],[]⟩:=by subst zFt;subst zFu;exact zaK (by kernel_rfl) (zaD hs fun hc hs=>And.intro (And.intro (zE enc_55 3 ziQ.get) (And.intro (zE zaf 3 ziR.get) hc)) (zFq hs hk rfl))
def zng (ev0:Int) (zeP:(Sl Gate)) (zeQ:(Sl straight)):((Sl Line)×Int) :=
  (cond (ev0 != (0:Int))
 ((⟨0,fun _=>default⟩:(Sl Line)),ev0)
 (zqQ zeP zeQ))
def znh (ev0:Int) (zeP:(Sl Gate)) (zeQ:(Sl straight)):Bool :=
  (cond (ev0 != (0:Int))
 true
 (zqR zeP zeQ))
theorem zFv (hs:znh ev0 zeP zeQ=true) (hk:K (e31 (zng ev0 zeP zeQ))) (zqS:zke=zg enc_55 zeP) (zqT:zkf=zg zaf zeQ):z31 (Wk K) [1,1] [] ⟨[(4,zp 4 0),(5,zI ev0)],[(4,.box 104 [.p (.sl zeP.len 3 zke),.p (.sl zeQ.len 3 zkf)])],[]⟩:=by subst zqS;subst zqT;exact zaK (by kernel_rfl) (zc hs hk (fun hs hk=>((wk hk (zc9 (.one (.nil _ _)) (zc9 (.one (.rfl _)) zhD))):Wk K [.one (.nils),.one (.int .i64 ev0)])) (fun hs hk=>(zFs hs hk rfl rfl)))
def s31 (zaa:(Sl Gate)):((Sl Line)×Int) :=
  (zng ((s75 zaa).2) (((s75 zaa).1).list.Gates) (((s75 zaa).1).corners))
def p31 (zaa:(Sl Gate)):Bool :=
  (decide ((p75 zaa=true)) &&
 (znh ((s75 zaa).2) (((s75 zaa).1).list.Gates) (((s75 zaa).1).corners)))
end
theorem q31 (zaa:(Sl Gate)) (K:List PA→Prop) (hs:p31 zaa=true) (hk:K (e31 (s31 zaa))):vcFun Try.prog G31 zFo 31 [.one (.sl zaa.len 3 (fun i=>enc_55 (zaa.get i)))] (Wk K) :=
  zaK (by kernel_rfl) (zaD hs fun hc hs=>And.intro (And.intro (zE enc_55 3 zaa.get) hc) (zFv hs hk rfl rfl))
def zBR : List PA → COut
  | [.one (.sl a0_n a0_s a0_g)]=>.det (IsE enc_55 3 a0_s a0_g∧p31 (⟨a0_n,zae a0_g⟩:(Sl Gate))=true) [.one (.sl (((s31 (⟨a0_n,zae a0_g⟩:(Sl Gate))).1).len) 4 (fun i=>zaL (((s31 (⟨a0_n,zae a0_g⟩:(Sl Gate))).1).get i))),.one (.int .i64 ((s31 (⟨a0_n,zae a0_g⟩:(Sl Gate))).2))]
  | _=>.no
theorem zJX:zah Try.prog 31:=⟨_,rfl,rfl,by kernel_rfl⟩
theorem zOh:Ok Try.prog 31 zBR:=zgi zMH zJX fun args K h=>by
  unfold zBR at h
  split at h
  · rename_i a0_n a0_s a0_g
    obtain ⟨⟨⟨rfl,a0_f,rfl⟩,hs⟩,hk⟩:=h
    try rw [zac a0_f] at hs
    try rw [zac a0_f] at hk
    exact ⟨_,ze6 zfi _,(fun _ _=>[]),(fun _=>false),zFo,q31 (⟨a0_n,a0_f⟩:(Sl Gate)) K hs hk⟩
  · exact h.elim
abbrev T19:Tabs:=((((((Tabs.nil.addF 64 zqr).addF 65 zwG).addF 66 zwH).addF 67 zo2).addF 68 zwz).addF 69 zqd)
theorem zMI:TabsOk Try.prog T19:=((((((TabsOk.nil.addF zJx).addF zMt).addF zMv).addF zI5).addF zN3).addF zLD)
abbrev G19:Ctrs:=csm T19 (fun _ _=>[]) (fun _=>false)
def zFw:Ann:=⟨124,[(0,zK [0,1,2,3,9,10] [9,10]),(1,zK [0,1,2,3,9,10,12] [9,10,12]),(2,zK [0,1,2,3,9,10,12,44] [9,10,12]),(3,zK [8,9,10,11] [9,10]),(4,zK [2,3,9,10,12,13,14] [9,10,12,13,14]),(5,zK [2,3,9,10,12,13,14,58] [9,10,12,13,14]),(6,zK [8,9,10,11] [9,10]),(7,zK [2,3,9,10,12,13,14,68] [9,10,12,13,14]),(8,zK [8,9,10,11] [9,10]),(9,zK [2,3,9,10,12,13,14,15,16] [9,10,12,13,14,15,16]),(10,zK [2,3,9,10,12,13,14,15,16,17] [9,10,12,13,14,15,16]),(11,zK [2,3,9,10,12,13,14,15,16,17,76,77] [9,10,12,13,14,15,16]),(12,zK [2,3,9,10,12,13,14,15,16,17,76,77,78] [9,10,12,13,14,15,16]),(13,zK [2,3,9,10,12,13,14,15,16,17,18,76,77] [9,10,12,13,14,15,16]),(14,zK [2,3,9,10,12,13,14,15,16,17,18,19,20,76,77] [9,10,12,13,14,15,16,19,20]),(15,zK [2,3,9,10,12,13,14,15,16,17,18,19,20,21,22,76,77] [9,10,12,13,14,15,16,19,20,21,22]),(16,zK [2,3,9,10,12,13,14,15,16,17,18,19,20,21,22,76,77] [9,10,12,13,14,15,16,19,20,21,22]),(17,zK [2,3,9,10,12,13,14,15,16,17,18,20,21,22,76,77,101] [9,10,12,13,14,15,16,20,21,22]),(18,zK [2,3,9,10,12,13,14,15,16,17,18,20,22,76,77] [9,10,12,13,14,15,16,20,22]),(19,zK [2,3,9,10,12,13,14,15,16,17,18,22,76,77,106] [9,10,12,13,14,15,16,22]),(20,zK [2,3,9,10,12,13,14,15,16,17,18,76,77] [9,10,12,13,14,15,16]),(21,zK [2,3,9,10,12,13,14,15,16,17,18,76,77,111] [9,10,12,13,14,15,16]),(22,zK [3,9,10,12,15,16,17] [9,10,12,15,16]),(23,zK [2,3,9,10,12,13,14,15,16,17,76,77] [9,10,12,13,14,15,16]),(24,zK [9,10,12,15,16,17,118] [9,10,12,15,16]),(25,zK [8,9,10,11] [9,10]),(26,zK [8,9,10,11] [9,10])],
 [(12,zK [2,3,9,10,12,13,14,15,16,17,76,77] [9,10,12,13,14,15,16])],
 [(3,zK [0,1,2,3,9,10,12,44] [9,10,12]),(4,zK [0,1,2,3,9,10,12] [9,10,12]),(5,zK [2,3,9,10,12,13,14] [9,10,12,13,14]),(6,zK [2,3,9,10,12,13,14,58] [9,10,12,13,14]),(7,zK [2,3,9,10,12,13,14] [9,10,12,13,14]),(8,zK [2,3,9,10,12,13,14,68] [9,10,12,13,14]),(9,zK [2,3,9,10,12,13,14] [9,10,12,13,14]),(15,zK [2,3,9,10,12,13,14,15,16,17,18,19,20,76,77] [9,10,12,13,14,15,16,19,20]),(24,zK [3,9,10,12,15,16,17] [9,10,12,15,16]),(16,zK [2,3,9,10,12,13,14,15,16,17,18,19,20,21,22,76,77] [9,10,12,13,14,15,16,19,20,21,22]),(18,zK [2,3,9,10,12,13,14,15,16,17,18,20,21,22,76,77,101] [9,10,12,13,14,15,16,20,21,22]),(19,zK [2,3,9,10,12,13,14,15,16,17,18,20,22,76,77] [9,10,12,13,14,15,16,20,22]),(20,zK [2,3,9,10,12,13,14,15,16,17,18,22,76,77,106] [9,10,12,13,14,15,16,22]),(22,zK [2,3,9,10,12,13,14,15,16,17,18,76,77,111] [9,10,12,13,14,15,16])],
 [],[]⟩
abbrev R19:=(Int×Frac×Frac×Int)
abbrev e19 (r:R19):List PA:=[.one (.int .i64 r.1),.agg [.int .i64 r.2.1.Num,.int .i64 r.2.1.Den],.agg [.int .i64 r.2.2.1.Num,.int .i64 r.2.2.1.Den],.one (.int .i64 r.2.2.2)]
@[irreducible] def z19:=ptF Try.prog G19 zFw Try.f19
def zDj (low:Int) (high:Int) (zar:(Sl Gate)) (zaw:(Sl straight)) (zas:(Sl Gate)) (zax:(Sl straight)) (zcE:Int) (zbH:Int) (zbI:Int) (zcT:Int) (zcU:Int):St:=⟨[(2,zI low),(3,zI high),(9,zp 9 0),(10,zp 10 0),(12,zp 12 0),(13,zp 13 0),(14,zp 14 0),(15,zp 15 0),(16,zp 16 0),(17,zI (w64 (high+(1:Int)))),(76,zI (w64 ((w64 (high - low))+(1:Int)))),(77,zI zcE)],[(9,.box 25 (zm (zad (⟨(0:Int),(0:Int)⟩:Frac)))),(10,.box 25 (zm (zad (⟨(0:Int),(0:Int)⟩:Frac)))),(12,.box 25 (zm (zad (⟨(0:Int),(0:Int)⟩:Frac)))),(13,.box 104 (zm (za8 (⟨(⟨zar⟩:list),zaw⟩:set)))),(14,.box 104 (zm (za8 (⟨(⟨zas⟩:list),zax⟩:set)))),(15,.box 25 (zm (zad (⟨zbH,zbI⟩:Frac)))),(16,.box 25 (zm (zad (⟨zcT,zcU⟩:Frac))))],[]⟩
abbrev zpa (K:List PA→Prop) (low:Int) (high:Int) (zar:(Sl Gate)) (zaw:(Sl straight)) (zas:(Sl Gate)) (zax:(Sl straight)) (X:St→Prop) (P:Int→Int→Int→Int→Int→Bool) (S:Int→Int→Int→Int→Int→(Int×Frac×Frac×Int)):Prop:=∀ ⦃zcE:Int⦄ ⦃zbH:Int⦄ ⦃zbI:Int⦄ ⦃zcT:Int⦄ ⦃zcU:Int⦄,P zcE zbH zbI zcT zcU=true→K (e19 (S zcE zbH zbI zcT zcU))→X (zDj low high zar zaw zas zax zcE zbH zbI zcT zcU)
section
variable {K:List PA→Prop} {a:(Sl Gate)} {b:(Sl Gate)} {low:Int} {high:Int} {zqU:Bool} {zar:(Sl Gate)} {zaw:(Sl straight)} {zas:(Sl Gate)} {zax:(Sl straight)} {zwP:Nat→List PV} {zwQ:Nat→List PV} {zwR:Nat→List PV} {zwS:Nat→List PV} {zqV:Bool} {zqW:Bool} {zcE:Int} {zbH:Int} {zbI:Int} {zcT:Int} {zcU:Int} {X7:St→Prop} {P7:Int→Int→Int→Int→Int→Bool} {S7:Int→Int→Int→Int→Int→(Int×Frac×Frac×Int)} {iv8:Int} {zqX:Int} {zeR:Int} {zeS:Int} {zkg:Int} {zkh:Int} {zdS:Int} {zdT:Int} {zbP:Int} {zbQ:Int} {zJY:Int} {zja:Int} {zjb:Int} {ztp:Int} {ztq:Int} {zda:Int} {zki:Int} {zfr:Int} {zfs:Int} {zkj:Int} {zkk:Int} {zdp:Int} {zdq:Int} {zby:Int} {zbz:Int} {zpb:Int} {zhm:Int} {zgr:Bool} {zFx:Int} {zkl:Int} {zaR:Int} {zaS:Int} {zjc:Int} {zhn:Int} {zgs:Bool} {ztr:Int} {zkm:Int} {zgt:Bool} {zft:Int} {zfu:Int}
def zqY (high:Int) (zJY:Int) (zja:Int) (zjb:Int) (ztp:Int) (ztq:Int):(Int×Frac×Frac×Int) :=
  (cond (decide (zJY > high))
 ((0:Int),(⟨(0:Int),(0:Int)⟩:Frac),(⟨(0:Int),(0:Int)⟩:Frac),(5:Int))
 (zJY,(⟨zja,zjb⟩:Frac),(⟨ztp,ztq⟩:Frac),(0:Int)))
theorem zwT (hk:K (e19 (zqY high zJY zja zjb ztp ztq))):z19 K [1,0,1,1,1,1,1,1,1,1,1] [] ⟨[(3,zI high),(9,zp 9 0),(10,zp 10 0),(12,zp 12 0),(15,zp 15 0),(16,zp 16 0),(17,zI zJY)],[(9,.box 25 (zm (zad (⟨(0:Int),(0:Int)⟩:Frac)))),(10,.box 25 (zm (zad (⟨(0:Int),(0:Int)⟩:Frac)))),(12,.box 25 (zm (zad (⟨(0:Int),(0:Int)⟩:Frac)))),(15,.box 25 (zm (zad (⟨zja,zjb⟩:Frac)))),(16,.box 25 (zm (zad (⟨ztp,ztq⟩:Frac))))],[]⟩:=zaK (by kernel_rfl) (zt hk (fun hk=>hk) (fun hk=>hk))
def zni (S7:Int→Int→Int→Int→Int→(Int×Frac×Frac×Int)) (low:Int) (high:Int) (zar:(Sl Gate)) (zaw:(Sl straight)) (zas:(Sl Gate)) (zax:(Sl straight)) (zaR:Int) (zaS:Int) (ztr:Int) (zkm:Int) (zgt:Bool) (zft:Int) (zfu:Int):(Int×Frac×Frac×Int) :=
  (cond zgt
 (zqY high (w64 (low+ztr)) zaR zaS zft zfu)
 (S7 (w64 (zkm+(1:Int))) zaR zaS zft zfu))
def znj (P7:Int→Int→Int→Int→Int→Bool) (low:Int) (high:Int) (zar:(Sl Gate)) (zaw:(Sl straight)) (zas:(Sl Gate)) (zax:(Sl straight)) (zaR:Int) (zaS:Int) (ztr:Int) (zkm:Int) (zgt:Bool) (zft:Int) (zfu:Int):Bool :=
  (cond zgt
 true
 (P7 (w64 (zkm+(1:Int))) zaR zaS zft zfu))
theorem zts (hX7:zpa K low high zar zaw zas zax X7 P7 S7) (hs:znj P7 low high zar zaw zas zax zaR zaS ztr zkm zgt zft zfu=true) (hk:K (e19 (zni S7 low high zar zaw zas zax zaR zaS ztr zkm zgt zft zfu))):z19 K [1,0,1,1,1,1,1,1,1,1,0,1,0,0,1,1,0,0,1,1,1,1,1,1,1] [X7] ⟨[(2,zI low),(3,zI high),(9,zp 9 0),(10,zp 10 0),(12,zp 12 0),(13,zp 13 0),(14,zp 14 0),(15,zp 15 0),(16,zp 16 0),(17,zI (w64 (high+(1:Int)))),(18,zI ztr),(76,zI (w64 ((w64 (high - low))+(1:Int)))),(77,zI zkm),(111,zB zgt)],[(9,.box 25 (zm (zad (⟨(0:Int),(0:Int)⟩:Frac)))),(10,.box 25 (zm (zad (⟨(0:Int),(0:Int)⟩:Frac)))),(12,.box 25 (zm (zad (⟨(0:Int),(0:Int)⟩:Frac)))),(13,.box 104 (zm (za8 (⟨(⟨zar⟩:list),zaw⟩:set)))),(14,.box 104 (zm (za8 (⟨(⟨zas⟩:list),zax⟩:set)))),(15,.box 25 (zm (zad (⟨zaR,zaS⟩:Frac)))),(16,.box 25 (zm (zad (⟨zft,zfu⟩:Frac))))],[]⟩:=zaK (by kernel_rfl) (zc hs hk (fun hs hk=>(zwT hk)) (fun hs hk=>(hX7 hs hk)))
def ztt (S7:Int→Int→Int→Int→Int→(Int×Frac×Frac×Int)) (low:Int) (high:Int) (zar:(Sl Gate)) (zaw:(Sl straight)) (zas:(Sl Gate)) (zax:(Sl straight)) (zbP:Int) (zbQ:Int) (zby:Int) (zbz:Int) (zaR:Int) (zaS:Int) (zjc:Int) (zhn:Int) (zgs:Bool):(Int×Frac×Frac×Int) :=
  (cond zgs
 (zni S7 low high zar zaw zas zax zaR zaS zjc zhn (decide ((s69 (⟨zaR,zaS⟩:Frac) (⟨zby,zbz⟩:Frac))≤(0:Int))) zby zbz)
 (zni S7 low high zar zaw zas zax zaR zaS zjc zhn (decide ((s69 (⟨zaR,zaS⟩:Frac) (⟨zbP,zbQ⟩:Frac))≤(0:Int))) zbP zbQ))
def ztu (P7:Int→Int→Int→Int→Int→Bool) (low:Int) (high:Int) (zar:(Sl Gate)) (zaw:(Sl straight)) (zas:(Sl Gate)) (zax:(Sl straight)) (zbP:Int) (zbQ:Int) (zby:Int) (zbz:Int) (zaR:Int) (zaS:Int) (zjc:Int) (zhn:Int) (zgs:Bool):Bool :=
  (cond zgs
 (znj P7 low high zar zaw zas zax zaR zaS zjc zhn (decide ((s69 (⟨zaR,zaS⟩:Frac) (⟨zby,zbz⟩:Frac))≤(0:Int))) zby zbz)
 (znj P7 low high zar zaw zas zax zaR zaS zjc zhn (decide ((s69 (⟨zaR,zaS⟩:Frac) (⟨zbP,zbQ⟩:Frac))≤(0:Int))) zbP zbQ))
theorem zBS (hX7:zpa K low high zar zaw zas zax X7 P7 S7) (hs:ztu P7 low high zar zaw zas zax zbP zbQ zby zbz zaR zaS zjc zhn zgs=true) (hk:K (e19 (ztt S7 low high zar zaw zas zax zbP zbQ zby zbz zaR zaS zjc zhn zgs))):z19 K [1,0,1,1,1,1,1,1,1,1,0,1,0,0,1,1,0,0,1,1,1,1,1,0,1] [X7] ⟨[(2,zI low),(3,zI high),(9,zp 9 0),(10,zp 10 0),(12,zp 12 0),(13,zp 13 0),(14,zp 14 0),(15,zp 15 0),(16,zp 16 0),(17,zI (w64 (high+(1:Int)))),(18,zI zjc),(22,zp 22 0),(76,zI (w64 ((w64 (high - low))+(1:Int)))),(77,zI zhn),(106,zB zgs)],[(9,.box 25 (zm (zad (⟨(0:Int),(0:Int)⟩:Frac)))),(10,.box 25 (zm (zad (⟨(0:Int),(0:Int)⟩:Frac)))),(12,.box 25 (zm (zad (⟨(0:Int),(0:Int)⟩:Frac)))),(13,.box 104 (zm (za8 (⟨(⟨zar⟩:list),zaw⟩:set)))),(14,.box 104 (zm (za8 (⟨(⟨zas⟩:list),zax⟩:set)))),(15,.box 25 (zm (zad (⟨zaR,zaS⟩:Frac)))),(16,.box 25 (zm (zad (⟨zbP,zbQ⟩:Frac)))),(22,.box 25 (zm (zad (⟨zby,zbz⟩:Frac))))],[]⟩:=zaK (by kernel_rfl) (zc hs hk (fun hs hk=>(zts hX7 hs hk)) (fun hs hk=>(zts hX7 hs hk)))
def znk (S7:Int→Int→Int→Int→Int→(Int×Frac×Frac×Int)) (low:Int) (high:Int) (zar:(Sl Gate)) (zaw:(Sl straight)) (zas:(Sl Gate)) (zax:(Sl straight)) (zbP:Int) (zbQ:Int) (zby:Int) (zbz:Int) (zFx:Int) (zkl:Int) (zaR:Int) (zaS:Int):(Int×Frac×Frac×Int) :=
  (ztt S7 low high zar zaw zas zax zbP zbQ zby zbz zaR zaS zFx zkl (decide ((s69 (⟨zby,zbz⟩:Frac) (⟨zbP,zbQ⟩:Frac)) < (0:Int))))
def znl (P7:Int→Int→Int→Int→Int→Bool) (low:Int) (high:Int) (zar:(Sl Gate)) (zaw:(Sl straight)) (zas:(Sl Gate)) (zax:(Sl straight)) (zbP:Int) (zbQ:Int) (zby:Int) (zbz:Int) (zFx:Int) (zkl:Int) (zaR:Int) (zaS:Int):Bool :=
  (ztu P7 low high zar zaw zas zax zbP zbQ zby zbz zaR zaS zFx zkl (decide ((s69 (⟨zby,zbz⟩:Frac) (⟨zbP,zbQ⟩:Frac)) < (0:Int))))
theorem ztv (hX7:zpa K low high zar zaw zas zax X7 P7 S7) (hs:znl P7 low high zar zaw zas zax zbP zbQ zby zbz zFx zkl zaR zaS=true) (hk:K (e19 (znk S7 low high zar zaw zas zax zbP zbQ zby zbz zFx zkl zaR zaS))):z19 K [1,0,1,1,1,1,1,1,1,1,0,1,0,0,1,1,0,0,1,1,1,1,1] [X7] ⟨[(2,zI low),(3,zI high),(9,zp 9 0),(10,zp 10 0),(12,zp 12 0),(13,zp 13 0),(14,zp 14 0),(15,zp 15 0),(16,zp 16 0),(17,zI (w64 (high+(1:Int)))),(18,zI zFx),(20,zp 20 0),(22,zp 22 0),(76,zI (w64 ((w64 (high - low))+(1:Int)))),(77,zI zkl)],[(9,.box 25 (zm (zad (⟨(0:Int),(0:Int)⟩:Frac)))),(10,.box 25 (zm (zad (⟨(0:Int),(0:Int)⟩:Frac)))),(12,.box 25 (zm (zad (⟨(0:Int),(0:Int)⟩:Frac)))),(13,.box 104 (zm (za8 (⟨(⟨zar⟩:list),zaw⟩:set)))),(14,.box 104 (zm (za8 (⟨(⟨zas⟩:list),zax⟩:set)))),(15,.box 25 (zm (zad (⟨zaR,zaS⟩:Frac)))),(16,.box 25 (zm (zad (⟨zbP,zbQ⟩:Frac)))),(20,.box 25 (zm (zad (⟨zbP,zbQ⟩:Frac)))),(22,.box 25 (zm (zad (⟨zby,zbz⟩:Frac))))],[]⟩:=zaK (by kernel_rfl) (zBS hX7 hs hk)
def ztw (S7:Int→Int→Int→Int→Int→(Int×Frac×Frac×Int)) (low:Int) (high:Int) (zar:(Sl Gate)) (zaw:(Sl straight)) (zas:(Sl Gate)) (zax:(Sl straight)) (zdS:Int) (zdT:Int) (zbP:Int) (zbQ:Int) (zdp:Int) (zdq:Int) (zby:Int) (zbz:Int) (zpb:Int) (zhm:Int) (zgr:Bool):(Int×Frac×Frac×Int) :=
  (cond zgr
 (znk S7 low high zar zaw zas zax zbP zbQ zby zbz zpb zhm zdp zdq)
 (znk S7 low high zar zaw zas zax zbP zbQ zby zbz zpb zhm zdS zdT))
def ztx (P7:Int→Int→Int→Int→Int→Bool) (low:Int) (high:Int) (zar:(Sl Gate)) (zaw:(Sl straight)) (zas:(Sl Gate)) (zax:(Sl straight)) (zdS:Int) (zdT:Int) (zbP:Int) (zbQ:Int) (zdp:Int) (zdq:Int) (zby:Int) (zbz:Int) (zpb:Int) (zhm:Int) (zgr:Bool):Bool :=
  (cond zgr
 (znl P7 low high zar zaw zas zax zbP zbQ zby zbz zpb zhm zdp zdq)
 (znl P7 low high zar zaw zas zax zbP zbQ zby zbz zpb zhm zdS zdT))
theorem zBT (hX7:zpa K low high zar zaw zas zax X7 P7 S7) (hs:ztx P7 low high zar zaw zas zax zdS zdT zbP zbQ zdp zdq zby zbz zpb zhm zgr=true) (hk:K (e19 (ztw S7 low high zar zaw zas zax zdS zdT zbP zbQ zdp zdq zby zbz zpb zhm zgr))):z19 K [1,0,1,1,1,1,1,1,1,1,0,1,0,0,1,1,0,0,1,1,1,1,0,1] [X7] ⟨[(2,zI low),(3,zI high),(9,zp 9 0),(10,zp 10 0),(12,zp 12 0),(13,zp 13 0),(14,zp 14 0),(15,zp 15 0),(16,zp 16 0),(17,zI (w64 (high+(1:Int)))),(18,zI zpb),(20,zp 20 0),(21,zp 21 0),(22,zp 22 0),(76,zI (w64 ((w64 (high - low))+(1:Int)))),(77,zI zhm),(101,zB zgr)],[(9,.box 25 (zm (zad (⟨(0:Int),(0:Int)⟩:Frac)))),(10,.box 25 (zm (zad (⟨(0:Int),(0:Int)⟩:Frac)))),(12,.box 25 (zm (zad (⟨(0:Int),(0:Int)⟩:Frac)))),(13,.box 104 (zm (za8 (⟨(⟨zar⟩:list),zaw⟩:set)))),(14,.box 104 (zm (za8 (⟨(⟨zas⟩:list),zax⟩:set)))),(15,.box 25 (zm (zad (⟨zdS,zdT⟩:Frac)))),(16,.box 25 (zm (zad (⟨zbP,zbQ⟩:Frac)))),(20,.box 25 (zm (zad (⟨zbP,zbQ⟩:Frac)))),(21,.box 25 (zm (zad (⟨zdp,zdq⟩:Frac)))),(22,.box 25 (zm (zad (⟨zby,zbz⟩:Frac))))],[]⟩:=zaK (by kernel_rfl) (zc hs hk (fun hs hk=>(ztv hX7 hs hk)) (fun hs hk=>(ztv hX7 hs hk)))
def zty (S7:Int→Int→Int→Int→Int→(Int×Frac×Frac×Int)) (low:Int) (high:Int) (zar:(Sl Gate)) (zaw:(Sl straight)) (zas:(Sl Gate)) (zax:(Sl straight)) (zdS:Int) (zdT:Int) (zbP:Int) (zbQ:Int) (zda:Int) (zki:Int) (zfr:Int) (zfs:Int) (zkj:Int) (zkk:Int) (zdp:Int) (zdq:Int) (zby:Int) (zbz:Int):(Int×Frac×Frac×Int) :=
  (ztw S7 low high zar zaw zas zax zdS zdT zbP zbQ zdp zdq zby zbz zda zki (decide ((s69 (⟨zdp,zdq⟩:Frac) (⟨zdS,zdT⟩:Frac)) > (0:Int))))
def ztz (P7:Int→Int→Int→Int→Int→Bool) (low:Int) (high:Int) (zar:(Sl Gate)) (zaw:(Sl straight)) (zas:(Sl Gate)) (zax:(Sl straight)) (zdS:Int) (zdT:Int) (zbP:Int) (zbQ:Int) (zda:Int) (zki:Int) (zfr:Int) (zfs:Int) (zkj:Int) (zkk:Int) (zdp:Int) (zdq:Int) (zby:Int) (zbz:Int):Bool :=
  (ztx P7 low high zar zaw zas zax zdS zdT zbP zbQ zdp zdq zby zbz zda zki (decide ((s69 (⟨zdp,zdq⟩:Frac) (⟨zdS,zdT⟩:Frac)) > (0:Int))))
theorem zBU (hX7:zpa K low high zar zaw zas zax X7 P7 S7) (hs:ztz P7 low high zar zaw zas zax zdS zdT zbP zbQ zda zki zfr zfs zkj zkk zdp zdq zby zbz=true) (hk:K (e19 (zty S7 low high zar zaw zas zax zdS zdT zbP zbQ zda zki zfr zfs zkj zkk zdp zdq zby zbz))):z19 K [1,0,1,1,1,1,1,1,1,1,0,1,0,0,1,1,0,0,1,1,1] [X7] ⟨[(2,zI low),(3,zI high),(9,zp 9 0),(10,zp 10 0),(12,zp 12 0),(13,zp 13 0),(14,zp 14 0),(15,zp 15 0),(16,zp 16 0),(17,zI (w64 (high+(1:Int)))),(18,zI zda),(19,zp 19 0),(20,zp 20 0),(21,zp 21 0),(22,zp 22 0),(76,zI (w64 ((w64 (high - low))+(1:Int)))),(77,zI zki)],[(9,.box 25 (zm (zad (⟨(0:Int),(0:Int)⟩:Frac)))),(10,.box 25 (zm (zad (⟨(0:Int),(0:Int)⟩:Frac)))),(12,.box 25 (zm (zad (⟨(0:Int),(0:Int)⟩:Frac)))),(13,.box 104 (zm (za8 (⟨(⟨zar⟩:list),zaw⟩:set)))),(14,.box 104 (zm (za8 (⟨(⟨zas⟩:list),zax⟩:set)))),(15,.box 25 (zm (zad (⟨zfr,zfs⟩:Frac)))),(16,.box 25 (zm (zad (⟨zkj,zkk⟩:Frac)))),(19,.box 25 (zm (zad (⟨zdS,zdT⟩:Frac)))),(20,.box 25 (zm (zad (⟨zbP,zbQ⟩:Frac)))),(21,.box 25 (zm (zad (⟨zdp,zdq⟩:Frac)))),(22,.box 25 (zm (zad (⟨zby,zbz⟩:Frac))))],[]⟩:=zaK (by kernel_rfl) (zBT hX7 hs hk)
def zwU (S7:Int→Int→Int→Int→Int→(Int×Frac×Frac×Int)) (low:Int) (high:Int) (zar:(Sl Gate)) (zaw:(Sl straight)) (zas:(Sl Gate)) (zax:(Sl straight)) (iv8:Int) (zqX:Int) (zeR:Int) (zeS:Int) (zkg:Int) (zkh:Int) (zdS:Int) (zdT:Int) (zbP:Int) (zbQ:Int):(Int×Frac×Frac×Int) :=
  (zty S7 low high zar zaw zas zax zdS zdT zbP zbQ iv8 zqX zeR zeS zkg zkh (((s68 (⟨(⟨zas⟩:list),zax⟩:set) (w64 (low+iv8))).1).Num) (((s68 (⟨(⟨zas⟩:list),zax⟩:set) (w64 (low+iv8))).1).Den) (((s68 (⟨(⟨zas⟩:list),zax⟩:set) (w64 (low+iv8))).2).Num) (((s68 (⟨(⟨zas⟩:list),zax⟩:set) (w64 (low+iv8))).2).Den))
def zwV (P7:Int→Int→Int→Int→Int→Bool) (low:Int) (high:Int) (zar:(Sl Gate)) (zaw:(Sl straight)) (zas:(Sl Gate)) (zax:(Sl straight)) (iv8:Int) (zqX:Int) (zeR:Int) (zeS:Int) (zkg:Int) (zkh:Int) (zdS:Int) (zdT:Int) (zbP:Int) (zbQ:Int):Bool :=
  (decide ((p68 (⟨(⟨zas⟩:list),zax⟩:set) (w64 (low+iv8))=true)) &&
 (ztz P7 low high zar zaw zas zax zdS zdT zbP zbQ iv8 zqX zeR zeS zkg zkh (((s68 (⟨(⟨zas⟩:list),zax⟩:set) (w64 (low+iv8))).1).Num) (((s68 (⟨(⟨zas⟩:list),zax⟩:set) (w64 (low+iv8))).1).Den) (((s68 (⟨(⟨zas⟩:list),zax⟩:set) (w64 (low+iv8))).2).Num) (((s68 (⟨(⟨zas⟩:list),zax⟩:set) (w64 (low+iv8))).2).Den)))
theorem zFy (hX7:zpa K low high zar zaw zas zax X7 P7 S7) (hs:zwV P7 low high zar zaw zas zax iv8 zqX zeR zeS zkg zkh zdS zdT zbP zbQ=true) (hk:K (e19 (zwU S7 low high zar zaw zas zax iv8 zqX zeR zeS zkg zkh zdS zdT zbP zbQ))):z19 K [1,0,1,1,1,1,1,1,1,1,0,1,0,0,1,1,0,0,1,1] [X7] ⟨[(2,zI low),(3,zI high),(9,zp 9 0),(10,zp 10 0),(12,zp 12 0),(13,zp 13 0),(14,zp 14 0),(15,zp 15 0),(16,zp 16 0),(17,zI (w64 (high+(1:Int)))),(18,zI iv8),(19,zp 19 0),(20,zp 20 0),(76,zI (w64 ((w64 (high - low))+(1:Int)))),(77,zI zqX)],[(9,.box 25 (zm (zad (⟨(0:Int),(0:Int)⟩:Frac)))),(10,.box 25 (zm (zad (⟨(0:Int),(0:Int)⟩:Frac)))),(12,.box 25 (zm (zad (⟨(0:Int),(0:Int)⟩:Frac)))),(13,.box 104 (zm (za8 (⟨(⟨zar⟩:list),zaw⟩:set)))),(14,.box 104 (zm (za8 (⟨(⟨zas⟩:list),zax⟩:set)))),(15,.box 25 (zm (zad (⟨zeR,zeS⟩:Frac)))),(16,.box 25 (zm (zad (⟨zkg,zkh⟩:Frac)))),(19,.box 25 (zm (zad (⟨zdS,zdT⟩:Frac)))),(20,.box 25 (zm (zad (⟨zbP,zbQ⟩:Frac))))],[]⟩:=zaK (by kernel_rfl) (zaD hs fun hc hs=>And.intro (And.intro (zE enc_55 3 zas.get) (And.intro (zE zaf 3 zax.get) hc)) (zBU hX7 hs hk))
def zwW (low:Int) (high:Int) (zar:(Sl Gate)) (zaw:(Sl straight)) (zas:(Sl Gate)) (zax:(Sl straight)) (S7:Int→Int→Int→Int→Int→(Int×Frac×Frac×Int)) (zcE:Int) (zbH:Int) (zbI:Int) (zcT:Int) (zcU:Int):(Int×Frac×Frac×Int) :=
  (cond (decide (zcE < (w64 ((w64 (high - low)) + (1:Int)))))
 (zwU S7 low high zar zaw zas zax zcE zcE zbH zbI zcT zcU (((s68 (⟨(⟨zar⟩:list),zaw⟩:set) (w64 (low+zcE))).1).Num) (((s68 (⟨(⟨zar⟩:list),zaw⟩:set) (w64 (low+zcE))).1).Den) (((s68 (⟨(⟨zar⟩:list),zaw⟩:set) (w64 (low+zcE))).2).Num) (((s68 (⟨(⟨zar⟩:list),zaw⟩:set) (w64 (low+zcE))).2).Den))
 (zqY high (w64 (high+(1:Int))) zbH zbI zcT zcU))
def zwX (low:Int) (high:Int) (zar:(Sl Gate)) (zaw:(Sl straight)) (zas:(Sl Gate)) (zax:(Sl straight)) (P7:Int→Int→Int→Int→Int→Bool) (zcE:Int) (zbH:Int) (zbI:Int) (zcT:Int) (zcU:Int):Bool :=
  (cond (decide (zcE < (w64 ((w64 (high - low)) + (1:Int)))))
 (decide ((p68 (⟨(⟨zar⟩:list),zaw⟩:set) (w64 (low+zcE))=true)) &&
 (zwV P7 low high zar zaw zas zax zcE zcE zbH zbI zcT zcU (((s68 (⟨(⟨zar⟩:list),zaw⟩:set) (w64 (low+zcE))).1).Num) (((s68 (⟨(⟨zar⟩:list),zaw⟩:set) (w64 (low+zcE))).1).Den) (((s68 (⟨(⟨zar⟩:list),zaw⟩:set) (w64 (low+zcE))).2).Num) (((s68 (⟨(⟨zar⟩:list),zaw⟩:set) (w64 (low+zcE))).2).Den)))
 true)
def zwY (low:Int) (high:Int) (zar:(Sl Gate)) (zaw:(Sl straight)) (zas:(Sl Gate)) (zax:(Sl straight)):Nat→Int→Int→Int→Int→Int→(Int×Frac×Frac×Int):=lpO (fun _ _ _ _ _=>default) (zwW low high zar zaw zas zax)
def zwZ (low:Int) (high:Int) (zar:(Sl Gate)) (zaw:(Sl straight)) (zas:(Sl Gate)) (zax:(Sl straight)):Nat→Int→Int→Int→Int→Int→Bool:=lpO (fun _ _ _ _ _=>false) (zwX low high zar zaw zas zax)
def zw0 (low:Int) (high:Int) (zar:(Sl Gate)) (zaw:(Sl straight)) (zas:(Sl Gate)) (zax:(Sl straight)) (zcE:Int) (zbH:Int) (zbI:Int) (zcT:Int) (zcU:Int):(Int×Frac×Frac×Int):=zwY low high zar zaw zas zax Fuel zcE zbH zbI zcT zcU
def zw1 (low:Int) (high:Int) (zar:(Sl Gate)) (zaw:(Sl straight)) (zas:(Sl Gate)) (zax:(Sl straight)) (zcE:Int) (zbH:Int) (zbI:Int) (zcT:Int) (zcU:Int):Bool:=zwZ low high zar zaw zas zax Fuel zcE zbH zbI zcT zcU
theorem zFz (hs:zw1 low high zar zaw zas zax zcE zbH zbI zcT zcU=true) (hk:K (e19 (zw0 low high zar zaw zas zax zcE zbH zbI zcT zcU))):z19 K [1,0,1,1,1,1,1,1,1,1,0,1,0] [] (zDj low high zar zaw zas zax zcE zbH zbI zcT zcU) :=
  zl (fun X=>z19 K [1,0,1,1,1,1,1,1,1,1,0,1,0,0] [X]) (by kernel_rfl) fun X7 hX =>
  (show ∀ k, zpa K low high zar zaw zas zax X7 (zwZ low high zar zaw zas zax k) (zwY low high zar zaw zas zax k) from zgj _ _ (zwX low high zar zaw zas zax) (zwW low high zar zaw zas zax) (zpa K low high zar zaw zas zax X7)
 (by intro _ _ _ _ _ hs;exact absurd hs Bool.false_ne_true)
 (by intro P7 S7 hX7 zcE zbH zbI zcT zcU hs hk;exact hX _ (zaK (by kernel_rfl) (zc hs hk (fun hs hk=>(zaD hs fun hc hs=>And.intro (And.intro (zE enc_55 3 zar.get) (And.intro (zE zaf 3 zaw.get) hc)) (zFy hX7 hs hk))) (fun hs hk=>(zwT hk)))))) _ hs hk
def zw2 (low:Int) (high:Int) (zar:(Sl Gate)) (zaw:(Sl straight)) (zas:(Sl Gate)) (zax:(Sl straight)):(Int×Frac×Frac×Int) :=
  (zw0 low high zar zaw zas zax (0:Int) (0:Int) (0:Int) (0:Int) (0:Int))
def zw3 (low:Int) (high:Int) (zar:(Sl Gate)) (zaw:(Sl straight)) (zas:(Sl Gate)) (zax:(Sl straight)):Bool :=
  (zw1 low high zar zaw zas zax (0:Int) (0:Int) (0:Int) (0:Int) (0:Int))
theorem zFA (hs:zw3 low high zar zaw zas zax=true) (hk:K (e19 (zw2 low high zar zaw zas zax))):z19 K [1,0,1,1,1,1,1] [] ⟨[(2,zI low),(3,zI high),(9,zp 9 0),(10,zp 10 0),(12,zp 12 0),(13,zp 13 0),(14,zp 14 0)],[(9,.box 25 (zm (zad (⟨(0:Int),(0:Int)⟩:Frac)))),(10,.box 25 (zm (zad (⟨(0:Int),(0:Int)⟩:Frac)))),(12,.box 25 (zm (zad (⟨(0:Int),(0:Int)⟩:Frac)))),(13,.box 104 (zm (za8 (⟨(⟨zar⟩:list),zaw⟩:set)))),(14,.box 104 (zm (za8 (⟨(⟨zas⟩:list),zax⟩:set))))],[]⟩:=zaK (by kernel_rfl) (zFz hs hk)
def zqZ (low:Int) (high:Int) (zar:(Sl Gate)) (zaw:(Sl straight)) (zas:(Sl Gate)) (zax:(Sl straight)) (zqW:Bool):(Int×Frac×Frac×Int) :=
  (cond zqW
 ((0:Int),(⟨(0:Int),(0:Int)⟩:Frac),(⟨(0:Int),(0:Int)⟩:Frac),(6:Int))
 (zw2 low high zar zaw zas zax))
def zq0 (low:Int) (high:Int) (zar:(Sl Gate)) (zaw:(Sl straight)) (zas:(Sl Gate)) (zax:(Sl straight)) (zqW:Bool):Bool :=
  (cond zqW
 true
 (zw3 low high zar zaw zas zax))
theorem zw4 (hs:zq0 low high zar zaw zas zax zqW=true) (hk:K (e19 (zqZ low high zar zaw zas zax zqW))):z19 K [1,0,1,1,1,1,0,1] [] ⟨[(2,zI low),(3,zI high),(9,zp 9 0),(10,zp 10 0),(12,zp 12 0),(13,zp 13 0),(14,zp 14 0),(68,zB zqW)],[(9,.box 25 (zm (zad (⟨(0:Int),(0:Int)⟩:Frac)))),(10,.box 25 (zm (zad (⟨(0:Int),(0:Int)⟩:Frac)))),(12,.box 25 (zm (zad (⟨(0:Int),(0:Int)⟩:Frac)))),(13,.box 104 (zm (za8 (⟨(⟨zar⟩:list),zaw⟩:set)))),(14,.box 104 (zm (za8 (⟨(⟨zas⟩:list),zax⟩:set))))],[]⟩:=zaK (by kernel_rfl) (zc hs hk (fun hs hk=>hk) (fun hs hk=>(zFA hs hk)))
def zw5 (low:Int) (high:Int) (zar:(Sl Gate)) (zaw:(Sl straight)) (zas:(Sl Gate)) (zax:(Sl straight)):(Int×Frac×Frac×Int) :=
  (cond (s67 (⟨zar⟩ : list))
 (zqZ low high zar zaw zas zax true)
 (zqZ low high zar zaw zas zax (s67 (⟨zas⟩:list))))
def zw6 (low:Int) (high:Int) (zar:(Sl Gate)) (zaw:(Sl straight)) (zas:(Sl Gate)) (zax:(Sl straight)):Bool :=
  (decide ((p67 (⟨zar⟩:list)=true)) &&
 (cond (s67 (⟨zar⟩ : list))
 (zq0 low high zar zaw zas zax true)
 (decide ((p67 (⟨zas⟩:list)=true)) &&
 (zq0 low high zar zaw zas zax (s67 (⟨zas⟩:list))))))
theorem zFB (hs:zw6 low high zar zaw zas zax=true) (hk:K (e19 (zw5 low high zar zaw zas zax))):z19 K [1,0,1,1,1,1] [] ⟨[(2,zI low),(3,zI high),(9,zp 9 0),(10,zp 10 0),(12,zp 12 0),(13,zp 13 0),(14,zp 14 0)],[(9,.box 25 (zm (zad (⟨(0:Int),(0:Int)⟩:Frac)))),(10,.box 25 (zm (zad (⟨(0:Int),(0:Int)⟩:Frac)))),(12,.box 25 (zm (zad (⟨(0:Int),(0:Int)⟩:Frac)))),(13,.box 104 (zm (za8 (⟨(⟨zar⟩:list),zaw⟩:set)))),(14,.box 104 (zm (za8 (⟨(⟨zas⟩:list),zax⟩:set))))],[]⟩:=zaK (by kernel_rfl) (zaD hs fun hc hs=>And.intro (And.intro (zE enc_55 3 zar.get) hc) (zc hs hk (fun hs hk=>(zw4 hs hk)) (fun hs hk=>(zaD hs fun hc hs=>And.intro (And.intro (zE enc_55 3 zas.get) hc) (zw4 hs hk)))))
def zq1 (low:Int) (high:Int) (zar:(Sl Gate)) (zaw:(Sl straight)) (zas:(Sl Gate)) (zax:(Sl straight)) (zqV:Bool):(Int×Frac×Frac×Int) :=
  (cond zqV
 ((0:Int),(⟨(0:Int),(0:Int)⟩:Frac),(⟨(0:Int),(0:Int)⟩:Frac),(5:Int))
 (zw5 low high zar zaw zas zax))
def zq2 (low:Int) (high:Int) (zar:(Sl Gate)) (zaw:(Sl straight)) (zas:(Sl Gate)) (zax:(Sl straight)) (zqV:Bool):Bool :=
  (cond zqV
 true
 (zw6 low high zar zaw zas zax))
theorem zw7 (hs:zq2 low high zar zaw zas zax zqV=true) (hk:K (e19 (zq1 low high zar zaw zas zax zqV))):z19 K [1,0,1,1,1,0,1] [] ⟨[(2,zI low),(3,zI high),(9,zp 9 0),(10,zp 10 0),(12,zp 12 0),(13,zp 13 0),(14,zp 14 0),(58,zB zqV)],[(9,.box 25 (zm (zad (⟨(0:Int),(0:Int)⟩:Frac)))),(10,.box 25 (zm (zad (⟨(0:Int),(0:Int)⟩:Frac)))),(12,.box 25 (zm (zad (⟨(0:Int),(0:Int)⟩:Frac)))),(13,.box 104 (zm (za8 (⟨(⟨zar⟩:list),zaw⟩:set)))),(14,.box 104 (zm (za8 (⟨(⟨zas⟩:list),zax⟩:set))))],[]⟩:=zaK (by kernel_rfl) (zc hs hk (fun hs hk=>hk) (fun hs hk=>(zFB hs hk)))
def zw8 (low:Int) (high:Int) (zar:(Sl Gate)) (zaw:(Sl straight)) (zas:(Sl Gate)) (zax:(Sl straight)):(Int×Frac×Frac×Int) :=
  (cond (!(s66 (⟨(⟨zar⟩ : list), zaw⟩ : set)))
 (zq1 low high zar zaw zas zax true)
 (zq1 low high zar zaw zas zax (!(s66 (⟨(⟨zas⟩:list),zax⟩:set)))))
def zw9 (low:Int) (high:Int) (zar:(Sl Gate)) (zaw:(Sl straight)) (zas:(Sl Gate)) (zax:(Sl straight)):Bool :=
  (decide ((p66 (⟨(⟨zar⟩:list),zaw⟩:set)=true)) &&
 (cond (!(s66 (⟨(⟨zar⟩ : list), zaw⟩ : set)))
 (zq2 low high zar zaw zas zax true)
 (decide ((p66 (⟨(⟨zas⟩:list),zax⟩:set)=true)) &&
 (zq2 low high zar zaw zas zax (!(s66 (⟨(⟨zas⟩:list),zax⟩:set)))))))
theorem zFC (hs:zw9 low high zar zaw zas zax=true) (hk:K (e19 (zw8 low high zar zaw zas zax))) (zFD:zwP=zg enc_55 zar) (zFE:zwQ=zg zaf zaw) (zFF:zwR=zg enc_55 zas) (zFG:zwS=zg zaf zax):z19 K [1,0,1,1,1] [] ⟨[(2,zI low),(3,zI high),(9,zp 9 0),(10,zp 10 0),(12,zp 12 0),(13,zp 13 0),(14,zp 14 0)],[(9,.box 25 (zm (zad (⟨(0:Int),(0:Int)⟩:Frac)))),(10,.box 25 (zm (zad (⟨(0:Int),(0:Int)⟩:Frac)))),(12,.box 25 (zm (zad (⟨(0:Int),(0:Int)⟩:Frac)))),(13,.box 104 [.p (.sl zar.len 3 zwP),.p (.sl zaw.len 3 zwQ)]),(14,.box 104 [.p (.sl zas.len 3 zwR),.p (.sl zax.len 3 zwS)])],[]⟩:=by subst zFD;subst zFE;subst zFF;subst zFG;exact zaK (by kernel_rfl) (zaD hs fun hc hs=>And.intro (And.intro (zE enc_55 3 zar.get) (And.intro (zE zaf 3 zaw.get) hc)) (zc hs hk (fun hs hk=>(zw7 hs hk)) (fun hs hk=>(zaD hs fun hc hs=>And.intro (And.intro (zE enc_55 3 zas.get) (And.intro (zE zaf 3 zax.get) hc)) (zw7 hs hk)))))
def zxa (a:(Sl Gate)) (b:(Sl Gate)) (low:Int) (high:Int):(Int×Frac×Frac×Int) :=
  (zw8 low high ((s65 a).list.Gates) ((s65 a).corners) ((s65 b).list.Gates) ((s65 b).corners))
def zxb (a:(Sl Gate)) (b:(Sl Gate)) (low:Int) (high:Int):Bool :=
  (decide ((p65 a=true)) &&
 (decide ((p65 b=true)) &&
 (zw9 low high ((s65 a).list.Gates) ((s65 a).corners) ((s65 b).list.Gates) ((s65 b).corners))))
theorem zFH (hs:zxb a b low high=true) (hk:K (e19 (zxa a b low high))):z19 K [1,0,1,1] [] ⟨[(0,zS enc_55 3 a),(1,zS enc_55 3 b),(2,zI low),(3,zI high),(9,zp 9 0),(10,zp 10 0),(12,zp 12 0)],[(9,.box 25 (zm (zad (⟨(0:Int),(0:Int)⟩:Frac)))),(10,.box 25 (zm (zad (⟨(0:Int),(0:Int)⟩:Frac)))),(12,.box 25 (zm (zad (⟨(0:Int),(0:Int)⟩:Frac))))],[]⟩:=zaK (by kernel_rfl) (zaD hs fun hc hs=>And.intro (And.intro (zE enc_55 3 a.get) hc) (zaD hs fun hc hs=>And.intro (And.intro (zE enc_55 3 b.get) hc) (zFC hs hk rfl rfl rfl rfl)))
def zh8 (a:(Sl Gate)) (b:(Sl Gate)) (low:Int) (high:Int) (zqU:Bool):(Int×Frac×Frac×Int) :=
  (cond zqU
 ((0:Int),(⟨(0:Int),(0:Int)⟩:Frac),(⟨(0:Int),(0:Int)⟩:Frac),(2:Int))
 (zxa a b low high))
def zh9 (a:(Sl Gate)) (b:(Sl Gate)) (low:Int) (high:Int) (zqU:Bool):Bool :=
  (cond zqU
 true
 (zxb a b low high))
theorem zkn (hs:zh9 a b low high zqU=true) (hk:K (e19 (zh8 a b low high zqU))):z19 K [1,0,1,0,1] [] ⟨[(0,zS enc_55 3 a),(1,zS enc_55 3 b),(2,zI low),(3,zI high),(9,zp 9 0),(10,zp 10 0),(12,zp 12 0),(44,zB zqU)],[(9,.box 25 (zm (zad (⟨(0:Int),(0:Int)⟩:Frac)))),(10,.box 25 (zm (zad (⟨(0:Int),(0:Int)⟩:Frac)))),(12,.box 25 (zm (zad (⟨(0:Int),(0:Int)⟩:Frac))))],[]⟩:=zaK (by kernel_rfl) (zc hs hk (fun hs hk=>hk) (fun hs hk=>(zFH hs hk)))
def s19 (a:(Sl Gate)) (b:(Sl Gate)) (low:Int) (high:Int):(Int×Frac×Frac×Int) :=
  (cond (decide (low < (-100000:Int)))
 (zh8 a b low high true)
 (cond (decide (low > high))
 (zh8 a b low high true)
 (cond (decide (high > (200000:Int)))
 (zh8 a b low high true)
 (cond (!(s64 a))
 (zh8 a b low high true)
 (zh8 a b low high (!(s64 b)))))))
def p19 (a:(Sl Gate)) (b:(Sl Gate)) (low:Int) (high:Int):Bool :=
  (cond (decide (low < (-100000:Int)))
 (zh9 a b low high true)
 (cond (decide (low > high))
 (zh9 a b low high true)
 (cond (decide (high > (200000:Int)))
 (zh9 a b low high true)
 (decide ((p64 a=true)) &&
 (cond (!(s64 a))
 (zh9 a b low high true)
 (decide ((p64 b=true)) &&
 (zh9 a b low high (!(s64 b)))))))))
end
theorem q19 (a:(Sl Gate)) (b:(Sl Gate)) (low:Int) (high:Int) (K:List PA→Prop) (hs:p19 a b low high=true) (hk:K (e19 (s19 a b low high))):vcFun Try.prog G19 zFw 19 [.one (.sl a.len 3 (fun i=>enc_55 (a.get i))),.one (.sl b.len 3 (fun i=>enc_55 (b.get i))),.one (.int .i64 low),.one (.int .i64 high)] K :=
  zaK (by kernel_rfl) (zc hs hk (fun hs hk=>(zkn hs hk)) (fun hs hk=>(zc hs hk (fun hs hk=>(zkn hs hk)) (fun hs hk=>(zc hs hk (fun hs hk=>(zkn hs hk)) (fun hs hk=>(zaD hs fun hc hs=>And.intro (And.intro (zE enc_55 3 a.get) hc) (zc hs hk (fun hs hk=>(zkn hs hk)) (fun hs hk=>(zaD hs fun hc hs=>And.intro (And.intro (zE enc_55 3 b.get) hc) (zkn hs hk)))))))))))
def zFI : List PA → COut
  | [.one (.sl a0_n a0_s a0_g),.one (.sl a1_n a1_s a1_g),.one (.int .i64 a2),.one (.int .i64 a3)]=>.det (IsE enc_55 3 a0_s a0_g∧IsE enc_55 3 a1_s a1_g∧p19 (⟨a0_n,zae a0_g⟩:(Sl Gate)) (⟨a1_n,zae a1_g⟩:(Sl Gate)) a2 a3=true) [.one (.int .i64 ((s19 (⟨a0_n,zae a0_g⟩:(Sl Gate)) (⟨a1_n,zae a1_g⟩:(Sl Gate)) a2 a3).1)),.agg [.int .i64 (((s19 (⟨a0_n,zae a0_g⟩:(Sl Gate)) (⟨a1_n,zae a1_g⟩:(Sl Gate)) a2 a3).2.1).Num),.int .i64 (((s19 (⟨a0_n,zae a0_g⟩:(Sl Gate)) (⟨a1_n,zae a1_g⟩:(Sl Gate)) a2 a3).2.1).Den)],.agg [.int .i64 (((s19 (⟨a0_n,zae a0_g⟩:(Sl Gate)) (⟨a1_n,zae a1_g⟩:(Sl Gate)) a2 a3).2.2.1).Num),.int .i64 (((s19 (⟨a0_n,zae a0_g⟩:(Sl Gate)) (⟨a1_n,zae a1_g⟩:(Sl Gate)) a2 a3).2.2.1).Den)],.one (.int .i64 ((s19 (⟨a0_n,zae a0_g⟩:(Sl Gate)) (⟨a1_n,zae a1_g⟩:(Sl Gate)) a2 a3).2.2.2))]
  | _=>.no
theorem zJZ:zah Try.prog 19:=⟨_,rfl,rfl,by kernel_rfl⟩
theorem zPI:Ok Try.prog 19 zFI:=zaN zMI zJZ fun args K h=>by
  unfold zFI at h
  split at h
  · rename_i a0_n a0_s a0_g a1_n a1_s a1_g a2 a3
    obtain ⟨⟨⟨rfl,a0_f,rfl⟩,⟨rfl,a1_f,rfl⟩,hs⟩,hk⟩:=h
    try rw [zac a0_f] at hs
    try rw [zac a0_f] at hk
    try rw [zac a1_f] at hs
    try rw [zac a1_f] at hk
    exact ⟨(fun _ _=>[]),(fun _=>false),zFw,q19 (⟨a0_n,a0_f⟩:(Sl Gate)) (⟨a1_n,a1_f⟩:(Sl Gate)) a2 a3 K hs hk⟩
  · exact h.elim
abbrev T34:Tabs:=Tabs.nil
theorem zMJ:TabsOk Try.prog T34:=TabsOk.nil
abbrev G34:Ctrs:=csm T34 (fun _ _=>[]) (fun _=>false)
def zFJ:Ann:=⟨26,[(0,zK [0,1] []),(1,zK [0,1,10] []),(2,zK [4] []),(3,zK [0,1,5] []),(4,zK [0,1,5,14] []),(5,zK [0,1,5] []),(6,zK [0,1,5,25] []),(7,zK [4] []),(8,zK [4] [])],
 [(4,zK [0,1,5] [])],
 [(3,zK [0,1] [])],
 [],[]⟩
abbrev R34:=Bool
abbrev e34 (r:R34):List PA:=[.one (.bool r)]
@[irreducible] def z34:=ptF Try.prog G34 zFJ Try.f34
def zDk (a:(Sl Line)) (b:(Sl Line)) (iv1:Int):St:=⟨[(0,zS zaL 4 a),(1,zS zaL 4 b),(5,zI iv1)],[],[]⟩
abbrev zJ0 (K:List PA→Prop) (a:(Sl Line)) (b:(Sl Line)) (X:St→Prop) (P:Int→Bool) (S:Int→Bool):Prop:=∀ ⦃iv1:Int⦄,P iv1=true→K (e34 (S iv1))→X (zDk a b iv1)
section
variable {K:List PA→Prop} {a:(Sl Line)} {b:(Sl Line)} {iv1:Int} {X1:St→Prop} {P1:Int→Bool} {S1:Int→Bool}
def zxc (a:(Sl Line)) (b:(Sl Line)) (S1:Int→Bool) (iv1:Int):Bool :=
  (cond (decide (iv1 < (a.len : Int)))
 (cond (!(match (match ((a.get iv1.toNat).Slope.Num == (b.get iv1.toNat).Slope.Num) with | true => (match ((a.get iv1.toNat).Slope.Den == (b.get iv1.toNat).Slope.Den) with | true => true | false => false) | false => false) with | true => (match (match ((a.get iv1.toNat).Start.Num == (b.get iv1.toNat).Start.Num) with | true => (match ((a.get iv1.toNat).Start.Den == (b.get iv1.toNat).Start.Den) with | true => true | false => false) | false => false) with | true => true | false => false) | false => false))
 false
 (S1 (w64 (iv1+(1:Int)))))
 true)
def zxd (a:(Sl Line)) (b:(Sl Line)) (P1:Int→Bool) (iv1:Int):Bool :=
  (cond (decide (iv1 < (a.len : Int)))
 (decide ((0≤iv1∧iv1 < (a.len:Int))) &&
 (decide ((0≤iv1∧iv1 < (b.len:Int))) &&
 (cond (!(match (match ((a.get iv1.toNat).Slope.Num == (b.get iv1.toNat).Slope.Num) with | true => (match ((a.get iv1.toNat).Slope.Den == (b.get iv1.toNat).Slope.Den) with | true => true | false => false) | false => false) with | true => (match (match ((a.get iv1.toNat).Start.Num == (b.get iv1.toNat).Start.Num) with | true => (match ((a.get iv1.toNat).Start.Den == (b.get iv1.toNat).Start.Den) with | true => true | false => false) | false => false) with | true => true | false => false) | false => false))
 true
 (P1 (w64 (iv1+(1:Int)))))))
 true)
def zxe (a:(Sl Line)) (b:(Sl Line)):Nat→Int→Bool:=lpO (fun _=>default) (zxc a b)
def zxf (a:(Sl Line)) (b:(Sl Line)):Nat→Int→Bool:=lpO (fun _=>false) (zxd a b)
def zxg (a:(Sl Line)) (b:(Sl Line)) (iv1:Int):Bool:=zxe a b Fuel iv1
def zxh (a:(Sl Line)) (b:(Sl Line)) (iv1:Int):Bool:=zxf a b Fuel iv1
theorem zFK (hs:zxh a b iv1=true) (hk:K (e34 (zxg a b iv1))):z34 K [1,1,0,1,0] [] (zDk a b iv1) :=
  zl (fun X=>z34 K [1,1,0,1,0,0] [X]) (by kernel_rfl) fun X1 hX =>
  (show ∀ k, zJ0 K a b X1 (zxf a b k) (zxe a b k) from zgj _ _ (zxd a b) (zxc a b) (zJ0 K a b X1)
 (by intro _ hs;exact absurd hs Bool.false_ne_true)
 (by intro P1 S1 hX1 iv1 hs hk;exact hX _ (zaK (by kernel_rfl) (zc hs hk (fun hs hk=>(zaD hs fun hc hs=>And.intro hc (zaD hs fun hc hs=>And.intro hc (zc hs hk (fun hs hk=>hk) (fun hs hk=>(hX1 hs hk)))))) (fun hs hk=>hk))))) _ hs hk
def zxi (a:(Sl Line)) (b:(Sl Line)):Bool :=
  (zxg a b (0:Int))
def zxj (a:(Sl Line)) (b:(Sl Line)):Bool :=
  (zxh a b (0:Int))
theorem zFL (hs:zxj a b=true) (hk:K (e34 (zxi a b))):z34 K [1,1] [] ⟨[(0,zS zaL 4 a),(1,zS zaL 4 b)],[],[]⟩:=zaK (by kernel_rfl) (zFK hs hk)
def s34 (a:(Sl Line)) (b:(Sl Line)):Bool :=
  (cond ((a.len : Int) != (b.len : Int))
 false
 (zxi a b))
def p34 (a:(Sl Line)) (b:(Sl Line)):Bool :=
  (cond ((a.len : Int) != (b.len : Int))
 true
 (zxj a b))
end
theorem q34 (a:(Sl Line)) (b:(Sl Line)) (K:List PA→Prop) (hs:p34 a b=true) (hk:K (e34 (s34 a b))):vcFun Try.prog G34 zFJ 34 [.one (.sl a.len 4 (fun i=>zaL (a.get i))),.one (.sl b.len 4 (fun i=>zaL (b.get i)))] K :=
  zaK (by kernel_rfl) (zc hs hk (fun hs hk=>hk) (fun hs hk=>(zFL hs hk)))
def zFM : List PA → COut
  | [.one (.sl a0_n a0_s a0_g),.one (.sl a1_n a1_s a1_g)]=>.det (IsE zaL 4 a0_s a0_g∧IsE zaL 4 a1_s a1_g∧p34 (⟨a0_n,zjY a0_g⟩:(Sl Line)) (⟨a1_n,zjY a1_g⟩:(Sl Line))=true) [.one (.bool (s34 (⟨a0_n,zjY a0_g⟩:(Sl Line)) (⟨a1_n,zjY a1_g⟩:(Sl Line))))]
  | _=>.no
theorem zJ1:zah Try.prog 34:=⟨_,rfl,rfl,by kernel_rfl⟩
theorem zPJ:Ok Try.prog 34 zFM:=zaN zMJ zJ1 fun args K h=>by
  unfold zFM at h
  split at h
  · rename_i a0_n a0_s a0_g a1_n a1_s a1_g
    obtain ⟨⟨⟨rfl,a0_f,rfl⟩,⟨rfl,a1_f,rfl⟩,hs⟩,hk⟩:=h
    try rw [zeJ a0_f] at hs
    try rw [zeJ a0_f] at hk
    try rw [zeJ a1_f] at hs
    try rw [zeJ a1_f] at hk
    exact ⟨(fun _ _=>[]),(fun _=>false),zFJ,q34 (⟨a0_n,a0_f⟩:(Sl Line)) (⟨a1_n,a1_f⟩:(Sl Line)) K hs hk⟩
  · exact h.elim
abbrev T84:Tabs:=((Tabs.nil.addF 65 zwG).addF 66 zwH)
theorem zMK:TabsOk Try.prog T84:=((TabsOk.nil.addF zMt).addF zMv)
abbrev G84:Ctrs:=csm T84 (fun _ _=>[]) (fun _=>false)
def zFN:Ann:=⟨25,[(0,zK [0,1] []),(1,zK [0,1,5] []),(2,zK [0,5,8,9,10] []),(3,zK [0,5,8,9,10,11] [20]),(4,zK [0,5,7,8,9,10] [20]),(5,zK [0,5,8,9,10] [20]),(6,zK [0,5,8,9,10] [20]),(7,zK [4] [])],
 [(3,⟨[0,5,8,9,10],[20],[(5,20,55,fun _=>enc_55 default)],[],[],[],[]⟩)],
 [],
 [],[]⟩
abbrev R84:=Bool
abbrev e84 (r:R84):List PA:=[.one (.bool r)]
@[irreducible] def z84:=ptF Try.prog G84 zFN Try.f84
def zDl (zaa:(Sl Gate)) (l_a1:(Sl Int)) (zc7:Int) (zcx:(Sl Gate)) (zfv:Nat→List PV):St:=⟨[(0,zS enc_55 3 zaa),(5,zv 20),(8,zS zak 1 l_a1),(9,zI (l_a1.len:Int)),(10,zI zc7)],[(20,.vec 55 3 24 zcx.len zfv)],[]⟩
abbrev zJ2 (K:List PA→Prop) (zaa:(Sl Gate)) (l_a1:(Sl Int)) (X:St→Prop) (P:Int→(Sl Gate)→Bool) (S:Int→(Sl Gate)→Bool):Prop:=∀ ⦃zc7:Int⦄ ⦃zcx:(Sl Gate)⦄ ⦃zfv:Nat→List PV⦄,P zc7 zcx=true→K (e84 (S zc7 zcx))→zfv=zg enc_55 zcx→X (zDl zaa l_a1 zc7 zcx zfv)
section
variable {K:List PA→Prop} {zaa:(Sl Gate)} {l_a1:(Sl Int)} {zc7:Int} {zcx:(Sl Gate)} {zfv:Nat→List PV} {X0:St→Prop} {P0:Int→(Sl Gate)→Bool} {S0:Int→(Sl Gate)→Bool}
def zxk (zaa:(Sl Gate)) (l_a1:(Sl Int)) (S0:Int→(Sl Gate)→Bool) (zc7:Int) (zcx:(Sl Gate)):Bool :=
  (cond (decide (zc7 < (l_a1.len : Int)))
 (S0 (w64 (zc7+(1:Int))) (⟨(zcx.len+1),(zdQ zcx.len zcx.get (fun _=>(zaa.get ((l_a1.get zc7.toNat).toNat))))⟩:Sl Gate))
 (s66 (s65 zcx)))
def zxl (zaa:(Sl Gate)) (l_a1:(Sl Int)) (P0:Int→(Sl Gate)→Bool) (zc7:Int) (zcx:(Sl Gate)):Bool :=
  (cond (decide (zc7 < (l_a1.len : Int)))
 (decide ((0≤zc7∧zc7 < (l_a1.len:Int))) &&
 (decide ((0≤(l_a1.get zc7.toNat)∧(l_a1.get zc7.toNat) < (zaa.len:Int))) &&
 (decide (((zcx.len+1) * 24≤140737488355328∧zcx.len+1≤9223372036854775807)) &&
 (P0 (w64 (zc7+(1:Int))) (⟨(zcx.len+1),(zdQ zcx.len zcx.get (fun _=>(zaa.get ((l_a1.get zc7.toNat).toNat))))⟩:Sl Gate)))))
 (decide ((p65 zcx=true)) &&
 (decide ((p66 (s65 zcx)=true)) &&
 true)))
def zxm (zaa:(Sl Gate)) (l_a1:(Sl Int)):Nat→Int→(Sl Gate)→Bool:=lpO (fun _ _=>default) (zxk zaa l_a1)
def zxn (zaa:(Sl Gate)) (l_a1:(Sl Int)):Nat→Int→(Sl Gate)→Bool:=lpO (fun _ _=>false) (zxl zaa l_a1)
def zxo (zaa:(Sl Gate)) (l_a1:(Sl Int)) (zc7:Int) (zcx:(Sl Gate)):Bool:=zxm zaa l_a1 Fuel zc7 zcx
def zxp (zaa:(Sl Gate)) (l_a1:(Sl Int)) (zc7:Int) (zcx:(Sl Gate)):Bool:=zxn zaa l_a1 Fuel zc7 zcx
theorem zFO (hs:zxp zaa l_a1 zc7 zcx=true) (hk:K (e84 (zxo zaa l_a1 zc7 zcx))) (zq3:zfv=zg enc_55 zcx):z84 K [1,1,0,1,0] [] (zDl zaa l_a1 zc7 zcx zfv) :=
  zl (fun X=>z84 K [1,1,0,1,0,0] [X]) (by kernel_rfl) fun X0 hX =>
  (show ∀ k, zJ2 K zaa l_a1 X0 (zxn zaa l_a1 k) (zxm zaa l_a1 k) from zgj _ _ (zxl zaa l_a1) (zxk zaa l_a1) (zJ2 K zaa l_a1 X0)
 (by intro _ _ _ hs;exact absurd hs Bool.false_ne_true)
 (by intro P0 S0 hX0 zc7 zcx zfv hs hk zq3;subst zq3;exact hX _ (zaK (by kernel_rfl) (zc hs hk (fun hs hk=>(zaD hs fun hc hs=>And.intro hc (zaD hs fun hc hs=>And.intro hc (zaD hs fun hc hs=>And.intro hc (hX0 hs hk (zjV (enc:=enc_55) (f:=zcx.get) (h:=(fun _=>(zaa.get ((l_a1.get zc7.toNat).toNat)))) rfl rfl)))))) (fun hs hk=>(zaD hs fun hc hs=>And.intro (And.intro (zE enc_55 3 zcx.get) hc) (zaD hs fun hc hs=>And.intro (And.intro (zE enc_55 3 ((s65 zcx).list.Gates.get)) (And.intro (zE zaf 3 ((s65 zcx).corners.get)) hc)) hk))))))) _ hs hk zq3
def s84 (zaa:(Sl Gate)) (l_a1:(Sl Int)):Bool :=
  (zxo zaa l_a1 (0:Int) (⟨0,(fun _=>default)⟩:Sl Gate))
def p84 (zaa:(Sl Gate)) (l_a1:(Sl Int)):Bool :=
  (zxp zaa l_a1 (0:Int) (⟨0,(fun _=>default)⟩:Sl Gate))
end
theorem q84 (zaa:(Sl Gate)) (l_a1:(Sl Int)) (K:List PA→Prop) (hs:p84 zaa l_a1=true) (hk:K (e84 (s84 zaa l_a1))):vcFun Try.prog G84 zFN 84 [.one (.sl zaa.len 3 (fun i=>enc_55 (zaa.get i))),.one (.sl l_a1.len 1 (fun i=>zak (l_a1.get i)))] K :=
  zaK (by kernel_rfl) (zFO hs hk rfl)
def zFP : List PA → COut
  | [.one (.sl a0_n a0_s a0_g),.one (.sl a1_n a1_s a1_g)]=>.det (IsE enc_55 3 a0_s a0_g∧IsE zak 1 a1_s a1_g∧p84 (⟨a0_n,zae a0_g⟩:(Sl Gate)) (⟨a1_n,zc4 a1_g⟩:(Sl Int))=true) [.one (.bool (s84 (⟨a0_n,zae a0_g⟩:(Sl Gate)) (⟨a1_n,zc4 a1_g⟩:(Sl Int))))]
  | _=>.no
theorem zJ3:zah Try.prog 84:=⟨_,rfl,rfl,by kernel_rfl⟩
theorem zPK:Ok Try.prog 84 zFP:=zaN zMK zJ3 fun args K h=>by
  unfold zFP at h
  split at h
  · rename_i a0_n a0_s a0_g a1_n a1_s a1_g
    obtain ⟨⟨⟨rfl,a0_f,rfl⟩,⟨rfl,a1_f,rfl⟩,hs⟩,hk⟩:=h
    try rw [zac a0_f] at hs
    try rw [zac a0_f] at hk
    try rw [zdG a1_f] at hs
    try rw [zdG a1_f] at hk
    exact ⟨(fun _ _=>[]),(fun _=>false),zFN,q84 (⟨a0_n,a0_f⟩:(Sl Gate)) (⟨a1_n,a1_f⟩:(Sl Int)) K hs hk⟩
  · exact h.elim
end Go.Proofs
