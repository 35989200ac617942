/- Part 4 of what the proof rests on: a machine that runs functions of the program on pure values, proved sound; the functions that the law reaches, and what they compute. -/
import Derived.Test.YtkpjhhoafenogaaQ3
import Derived.Sort.OwnSortedInts
import Derived.Lib.SlicesCompact
import Derived.ProofKit
import Derived.Deep.Slices
import Derived.OpenShut
import Derived.Shelf.SlSortCmp.WholeK
import Derived.Test.YtkpjhhoafenogaaProg
import Derived.Shelf.SlSortCmp.NoneTotal
set_option linter.all false
namespace Go.Pm

structure Tabs where
  fn:List (Nat×(List PA→COut))
  own:List (Nat×OwnK)
  it:List (Nat×(List PA→Option (Prop×List (List PA))))
def zu7 : List (Nat × (List PA → COut)) → Nat → List PA → COut
  | [],_=>fun _=>.no
  | (k,c) :: r,n=>match Nat.beq k n with | true=>c | false=>zu7 r n
def zu8 (l:List (Nat×OwnK)) (f:Nat):OwnK:=match lk l f with | some c=>c | none=>.none
def zDh (l:List (Nat×(List PA→Option (Prop×List (List PA))))) (f:Nat):List PA→Option (Prop×List (List PA)):=match lk l f with | some c=>c | none=>fun _=>none
def csm (T:Tabs) (memo:Nat→Int→List Int) (vv:Nat→Bool):Ctrs:=⟨zu7 T.fn,zu8 T.own,zDh T.it,memo,vv⟩
abbrev cs (T:Tabs):Ctrs:=csm T (fun _ _=>[]) (fun _=>false)
def Tabs.nil:Tabs:=⟨[],[],[]⟩
def Tabs.addF (T:Tabs) (f:Nat) (c:List PA→COut):Tabs:=⟨(f,c) :: T.fn,T.own,T.it⟩
def Tabs.addO (T:Tabs) (f:Nat) (c:OwnK):Tabs:=⟨T.fn,(f,c) :: T.own,T.it⟩
def Tabs.addI (T:Tabs) (f:Nat) (c:List PA→Option (Prop×List (List PA))):Tabs:=⟨T.fn,T.own,(f,c) :: T.it⟩

theorem zLc {P:Program} {f:Nat} : Ok P f (fun _=>.no):=fun _ _ h=>h.elim
theorem zLd {P:Program} {f:Nat} : zBv P f (fun _=>none):=fun _ _ _ h=>by cases h

structure TabsOk (P : Program) (T : Tabs) : Prop where
  fn:∀ x∈T.fn,Ok P x.1 x.2
  own:∀ x∈T.own,zlS P x.1 x.2
  it:∀ x∈T.it,zBv P x.1 x.2
theorem TabsOk.nil {P:Program} : TabsOk P .nil:=⟨fun _ h=>(by cases h),fun _ h=>(by cases h),fun _ h=>(by cases h)⟩
theorem TabsOk.addF {P:Program} {T:Tabs} (h:TabsOk P T) {f:Nat} {c:List PA→COut} (hc:Ok P f c):TabsOk P (T.addF f c) :=
 ⟨fun x hx=>(List.mem_cons.1 hx).elim (fun e=>by rw [e];exact hc) (fun hx=>h.fn x hx),h.own,h.it⟩
theorem TabsOk.addO {P:Program} {T:Tabs} (h:TabsOk P T) {f:Nat} {c:OwnK} (hc:zlS P f c):TabsOk P (T.addO f c) :=
 ⟨h.fn,fun x hx=>(List.mem_cons.1 hx).elim (fun e=>by rw [e];exact hc) (fun hx=>h.own x hx),h.it⟩
theorem TabsOk.addI {P:Program} {T:Tabs} (h:TabsOk P T) {f:Nat} {c:List PA→Option (Prop×List (List PA))} (hc:zBv P f c):TabsOk P (T.addI f c) :=
 ⟨h.fn,h.own,fun x hx=>(List.mem_cons.1 hx).elim (fun e=>by rw [e];exact hc) (fun hx=>h.it x hx)⟩
theorem TabsOk.all {P:Program} {T:Tabs} (h:TabsOk P T) (memo:Nat→Int→List Int) (vv:Nat→Bool):OkAll P (csm T memo vv):=by
 refine ⟨fun f=>?_,fun f=>?_,fun f=>?_⟩
 ·show Ok P f (zu7 T.fn f)
  have key:∀ l:List (Nat×(List PA→COut)),(∀ x∈l,Ok P x.1 x.2)→Ok P f (zu7 l f):=by
   intro l
   induction l with
   | nil=>intro _;exact zLc
   | cons x l ih =>
    intro hl
    obtain ⟨k,c⟩:=x
    simp only [zu7]
    split
    ·rename_i e
     have:=hl (k,c) List.mem_cons_self
     rw [← Nat.eq_of_beq_eq_true e];exact this
    ·exact ih fun x hx=>hl x (List.mem_cons_of_mem _ hx)
  exact key T.fn h.fn
 ·show zlS P f (zu8 T.own f)
  unfold zu8
  split
  ·rename_i c hc;exact h.own _ (zcv hc)
  ·trivial
 ·show zBv P f (zDh T.it f)
  unfold zDh
  split
  ·rename_i c hc;exact h.it _ (zcv hc)
  ·exact zLd

theorem zaz {P : Program} {T : Tabs} (hT : TabsOk P T) {f : FuncId} {C : List PA → COut} (hc : zah P f)
    (h:∀ args K,(C args).wp K→∃ memo vv ann,vcFun P (csm T memo vv) ann f args K):Ok P f C :=
  zAg (hT.all (fun _ _=>[]) (fun _=>false)) hc h
theorem zIe {P : Program} {T : Tabs} (hT : TabsOk P T) {f : FuncId} {C : List PA → Option (Prop × List (List PA))} (hc : zah P f)
    (h:∀ l caps safe ys,C caps=some (safe,ys)→safe→∃ memo vv ann,vcIter P (csm T memo vv) ann f l caps ys):zBv P f C :=
  zAk (hT.all (fun _ _=>[]) (fun _=>false)) hc h
theorem zu9 {P : Program} {T : Tabs} (hT : TabsOk P T) {f : FuncId} {e s b : Nat} (hc : zah P f)
    (h:∀ n get,n * b≤140737488355328→n≤9223372036854775807→∃ memo vv ann,zu6 P (csm T memo vv) ann f [.one (.sl n s get)] e s b n get):zlS P f (.clone e s b) :=
  zpC (hT.all (fun _ _=>[]) (fun _=>false)) hc h

structure Sl (α : Type) where
  len:Nat
  get:Nat→α
instance {α:Type} [Inhabited α]:Inhabited (Sl α):=⟨⟨0,fun _=>default⟩⟩
abbrev w64 (x:Int):Int:=IntKind.i64.wrap x

def IsE {α:Type} (enc:α→List PV) (size s:Nat) (g:Nat→List PV):Prop:=s=size∧∃ f:Nat→α,g=fun i=>enc (f i)
theorem isE {α:Type} {enc:α→List PV} {size:Nat} {f:Nat→α} : IsE enc size size (fun i=>enc (f i)):=⟨rfl,f,rfl⟩
def zc7 {α:Type} (n:Nat) (get new:Nat→α):Nat→α:=fun j=>match Nat.ble n j with | true=>new (j - n) | false=>get j
theorem zAl {α:Type} {enc:α→List PV} {n:Nat} {f h:Nat→α} : appG n (fun i=>enc (f i)) (fun i=>enc (h i))=fun i=>enc (zc7 n f h i):=by
 funext j;simp only [appG,zc7];cases Nat.ble n j <;> rfl
def zgU {α : Type} (x : α) : List α → Nat → α
  | [],_=>x
  | y :: _,0=>y
  | _ :: r,i+1=>zgU x r i
theorem zdg {α:Type} {enc:α→List PV} {x y:α} {r:List α} : zcn (enc x :: enc y :: r.map enc)=fun i=>enc (zgU x (x :: y :: r) i):=by
 have key:∀ (l:List α) (i:Nat),(match (l.map enc)[i]? with | some z=>z | none=>enc x)=enc (zgU x l i):=by
  intro l
  induction l with
  | nil=>intro i;rfl
  | cons a l ih =>
   intro i
   cases i with
   | zero=>rfl
   | succ i=>simpa [zgU] using ih i
 funext i
 exact key (x :: y :: r) i
theorem zfp {α:Type} {enc:α→List PV} {size:Nat} {x y:α} (r:List α):IsE enc size size (zcn (enc x :: enc y :: r.map enc)):=⟨rfl,_,zdg⟩

theorem zcg {b:Bool} {A B:Prop} {S S':Bool} {α:Type} {K:α→Prop} {x y:α} (h1:S=true→K x→A) (h2:S'=true→K y→B) (hs:cond b S S'=true) (hk:K (cond b x y)):zcL b A B:=by
 cases b
 ·exact h2 hs hk
 ·exact h1 hs hk
theorem zmk {b:Bool} {A B:Prop} {S S':Bool} {α β:Type} {f:α→β} {ys:List β} {x y:List α} (hs:cond b S S'=true) (hk:ys=(cond b x y).map f) (h1:S=true→ys=x.map f→A) (h2:S'=true→ys=y.map f→B):zcL b A B:=by
 cases b
 ·exact h2 hs hk
 ·exact h1 hs hk
theorem itY {α β:Type} {f:α→β} {ys:List β} {p:β} {x r:List α} {l:Nat} {A:List β→Prop} (hk:ys=x.map f) (e:x.map f=p :: r.map f) (h:∀ zs,zs=r.map f→A zs):l=l∧∃ z,ys=p :: z∧A z∧True :=
 ⟨rfl,_,hk.trans e,h _ rfl,trivial⟩
theorem zaw {C A:Prop} [d:Decidable C] {r:Bool} (hs:(decide C && r)=true) (k:C→r=true→A):A:=by
 rw [Bool.and_eq_true] at hs
 exact k (of_decide_eq_true hs.1) hs.2
abbrev Fuel:Nat:=9223372036854775808
def setT {α:Type} (i:Nat) (v:α) (get:Nat→α):Nat→α:=fun j=>match Nat.beq j i with | true=>v | false=>get j
theorem zim {α:Type} {enc:α→List PV} {n:Nat} {g g':Nat→List PV} {f h:Nat→α} (h1:g=fun i=>enc (f i)) (h2:g'=fun i=>enc (h i)):appG n g g'=fun i=>enc (zc7 n f h i):=by
 subst h1;subst h2;exact zAl
def zM8 (P:Program) (G:Ctrs) (ann:Ann) (hd:Nat) (ps:List Nat) (assign body:Code) (X:List (List PA)→St→Prop) (K:Exit→St→Prop) (y:List PA) (rest:List (List PA)) (s:St):Prop :=
 match lk ann.head hd with
 | some k=>match zgd ps y s.env with
  | some env=>vc P G ann assign (zCS (vc P G ann body (zli P k (X rest) K)) fun _ _=>False) ⟨env,s.objs,[]⟩
  | none=>False
 | none=>False
def sortB (n:Nat) (p:Nat→Nat→Bool) (c:Nat→Nat→Int):Bool :=
  (List.range n).all fun i => decide (0 ≤ c i i) && (List.range n).all fun j => p i j && (Nat.beq i j || (decide (c i j < 0) && decide (0 ≤ c j i)) || (decide (c j i < 0) && decide (0 ≤ c i j))) &&
    (List.range n).all fun k=>!(decide (c i j < 0) && decide (c j k < 0)) || decide (c i k < 0)
theorem zse {n:Nat} {p:Nat→Nat→Bool} {c c':Nat→Nat→Int} {s:Nat→Nat→Prop} (h:sortB n p c=true) (hp:∀ i j,p i j=true→s i j) (hc:c'=c):(∀ i j,i < n→j < n→s i j)∧STO n c':=by
 subst hc
 simp only [sortB,List.all_eq_true,List.mem_range,Bool.and_eq_true,Bool.or_eq_true,decide_eq_true_eq,Bool.not_eq_true',Bool.and_eq_false_iff,decide_eq_false_iff_not] at h
 refine ⟨fun i j hi hj=>hp i j ((h i hi).2 j hj).1.1,fun i hi=>(h i hi).1,fun i j hi hj hne=>?_,fun i j k hi hj hk h1 h2=>?_⟩
 ·rcases ((h i hi).2 j hj).1.2 with (h1 | h1) | h1
  ·exact absurd (Nat.eq_of_beq_eq_true h1) hne
  ·exact .inl h1
  ·exact .inr h1
 ·rcases ((h i hi).2 j hj).2 k hk with (h3 | h3) | h3
  ·exact absurd h1 h3
  ·exact absurd h2 h3
  ·exact h3
end Go.Pm
namespace Go.Pm
open Go Go.Sort

/-! Nil slices are slices of length 0. -/
inductive PVle : PV → PV → Prop
  | rfl (p:PV):PVle p p
  | nil (s:Nat) (g:Nat→List PV):PVle .nils (.sl 0 s g)
  | nilm (q:MQ):PVle .nilm (.fm q 0 (fun _=>none))
inductive PAle : PA → PA → Prop
  | one {p q:PV} : PVle p q→PAle (.one p) (.one q)
  | agg {l m:List PV} : RL PVle l m→PAle (.agg l) (.agg m)
theorem zg2 {α β:Type} {R:α→β→Prop} : RL R [] []:=trivial
theorem zc4 {α β:Type} {R:α→β→Prop} {a:α} {b:β} {l:List α} {m:List β} (h:R a b) (h':RL R l m):RL R (a :: l) (b :: m):=⟨h,h'⟩
theorem zeT {α : Type} {R : α → α → Prop} (h : ∀ a, R a a) : ∀ l : List α, RL R l l
  | []=>trivial
  | a :: l=>⟨h a,zeT h l⟩
theorem zfA (a:PA):PAle a a:=by
 cases a with
 | one p=>exact .one (.rfl p)
 | agg l=>exact .agg (zeT .rfl l)
def Wk (K:List PA→Prop) (l:List PA):Prop:=∃ l',RL PAle l l'∧K l'
theorem wk {K:List PA→Prop} {l l':List PA} (hk:K l') (h:RL PAle l l'):Wk K l:=⟨l',h,hk⟩
theorem zea {K:List PA→Prop} {l:List PA} (hk:K l):Wk K l:=⟨l,zeT zfA l,hk⟩
theorem zIf {h:Fz} {p q:PV} {v:Value} (e:PVle p q) (r:Rep h p v):Rep h q v:=by
 cases e with
 | rfl=>exact r
 | nil s g=>cases r;exact .sl0 s g
 | nilm q=>cases r;exact .fmn q _ (fun _ _=>rfl)
theorem zAm {α β γ : Type} {R : α → β → Prop} {S : α → γ → Prop} {T : γ → β → Prop} (h : ∀ a b c, S a c → R a b → T c b) : ∀ (l : List α) (m : List β) (k : List γ), RL S l k → RL R l m → RL T k m
  | [],[],[],_,_=>trivial
  | a :: l,b :: m,c :: k,hs,hr=>⟨h a b c hs.1 hr.1,zAm h l m k hs.2 hr.2⟩
  | [],_ :: _,[],_,hr=>hr.elim
  | [],_,_ :: _,hs,_=>hs.elim
  | _ :: _,_,[],hs,_=>hs.elim
  | _ :: _,[],_ :: _,_,hr=>hr.elim
theorem zDi {h:Fz} {a b:PA} {v:Value} (e:PAle a b) (r:paR h a v):paR h b v:=by
 cases e with
 | one e=>exact zIf e r
 | agg e =>
  obtain ⟨vs,rfl,hv⟩:=r
  exact ⟨vs,rfl,zAm (R:=Rep h) (S:=PVle) (T:=Rep h) (fun _ _ _ e r=>zIf e r) _ _ _ e hv⟩
theorem zIg {h:Fz} {l m:List PA} {v:Value} (e:RL PAle l m) (r:zzN h l v):zzN h m v:=by
 match l,m,e,r with
 | [a],[b],e,r=>exact zDi e.1 r
 | [],[],_,r=>exact r
 | a :: b :: l,c :: d :: m,e,r =>
  obtain ⟨vs,hv,hr⟩:=r
  exact ⟨vs,hv,zAm (R:=paR h) (S:=PAle) (T:=paR h) (fun _ _ _ e r=>zDi e r) _ _ _ e hr⟩
 | [_],_ :: _ :: _,e,_=>exact e.2.elim
 | _ :: _ :: _,[_],e,_=>exact e.2.elim
 | [],_ :: _,e,_=>exact e.elim
 | _ :: _,[],e,_=>exact e.elim
theorem zg3 {P : Program} {T : Tabs} (hT : TabsOk P T) {f : FuncId} {C : List PA → COut} (hc : zah P f)
    (h:∀ args K,(C args).wp K→∃ args',RL PAle args args'∧∃ memo vv ann,vcFun P (csm T memo vv) ann f args' (Wk K)):Ok P f C:=by
  intro args K hK w h0 vs hvs hfz
  obtain ⟨args',hle,memo,vv,ann,hv⟩:=h args K hK
  refine ⟨hc,(zu4 (hT.all memo vv) hv (zAm (R:=paR h0) (S:=PAle) (T:=paR h0) (fun _ _ _ e r=>zDi e r) _ _ _ hle hvs) hfz).mono ?_⟩
  rintro e w' ⟨h',rs,v,⟨rs',hr,hk⟩,he,hres,rest⟩
  exact ⟨h',rs',v,hk,he,zIg hr hres,rest⟩
/-! Maps, as typed values; the keys of a map. -/
structure Mp where
  n:Nat
  F:List Int→Option (List Int)
instance:Inhabited Mp:=⟨⟨0,fun _=>none⟩⟩

def zIh (m:Nat) (F:List Int→Option (List Int)) (seen ys:List (List Int)):Prop :=
 ys.Nodup∧(∀ y∈ys,y.length=m∧F y ≠ none∧y ∉ seen)∧∀ c,c.length=m→F c ≠ none→c ∉ seen→c∈ys
def nodupB : List (List Int) → Bool
  | []=>true
  | y :: r=>!r.contains y && nodupB r
def keysB (m n:Nat) (F:List Int→Option (List Int)) (ys:List (List Int)):Bool :=
 Nat.beq ys.length n && ys.all (fun y=>Nat.beq y.length m && (F y).isSome) && nodupB ys
theorem zlF : ∀ {ys : List (List Int)}, nodupB ys = true ↔ ys.Nodup
  | []=>by simp [nodupB]
  | y :: r=>by simp [nodupB,zlF (ys:=r)]
theorem zoh {α : Type} [DecidableEq α] : ∀ {l m : List α}, l.Nodup → (∀ x ∈ l, x ∈ m) → m.length ≤ l.length → ∀ x ∈ m, x ∈ l
  | [],m,_,_,hl,x,hx=>by have:m=[]:=List.eq_nil_of_length_eq_zero (by simpa using hl);rw [this] at hx;exact hx
  | a :: l,m,hn,hs,hl,x,hx=>by
    have ha:=hs a List.mem_cons_self
    by_cases h:x=a
    · rw [h];exact List.mem_cons_self
    · have hx2 : x ∈ m.erase a := (List.mem_erase_of_ne h).2 hx
      have hn2:=List.nodup_cons.1 hn
      refine List.mem_cons_of_mem _ (zoh hn2.2 (fun z hz=>?_) ?_ x hx2)
      · have hza : z ≠ a := fun e => hn2.1 (e ▸ hz)
        exact (List.mem_erase_of_ne hza).2 (hs z (List.mem_cons_of_mem _ hz))
      · rw [List.length_erase_of_mem ha];simp at hl;omega
theorem zva {m n:Nat} {F:List Int→Option (List Int)} {ys:List (List Int)} (h:keysB m n F ys=true) (hf:zHQ m n F):zIh m F [] ys:=by
 simp only [keysB,Bool.and_eq_true,List.all_eq_true] at h
 obtain ⟨⟨h1,h2⟩,h3⟩:=h
 have h1:=Nat.eq_of_beq_eq_true h1
 have h3:=zlF.1 h3
 obtain ⟨ks,k1,k2,k3,k4⟩:=hf
 have hy:∀ y∈ys,y.length=m∧F y ≠ none:=fun y hy=>by
  obtain ⟨a,b⟩:=h2 y hy
  refine ⟨Nat.eq_of_beq_eq_true a,fun e=>?_⟩
  rw [e] at b;cases b
 refine ⟨h3,fun y hy'=>⟨(hy y hy').1,(hy y hy').2,by simp⟩,fun c hc hne _=>?_⟩
 exact zoh h3 (fun y hy'=>(k4 y (hy y hy').1).1 (hy y hy').2) (by rw [k1,h1];exact Nat.le_refl _) c ((k4 c hc).1 hne)
theorem zAn {m : Nat} {F : List Int → Option (List Int)} {seen ys : List (List Int)} (h : zIh m F seen ys) {c : List Int} (hc : c.length = m) (hF : F c ≠ none) (hs : c ∉ seen) :
  ys.Perm (c :: ys.erase c)∧zIh m F (c :: seen) (ys.erase c)∧(ys.erase c).length+1=ys.length:=by
 obtain ⟨h1,h2,h3⟩:=h
 have hm:=h3 c hc hF hs
 refine ⟨List.perm_cons_erase hm,⟨h1.erase c,fun y hy=>?_,fun d hd hdF hds=>?_⟩,?_⟩
 ·have := (List.Nodup.mem_erase_iff h1).1 hy
  obtain ⟨a,b,e⟩:=h2 y this.2
  exact ⟨a,b,by simp [this.1,e]⟩
 ·simp only [List.mem_cons, not_or] at hds
  exact (List.mem_erase_of_ne hds.1).2 (h3 d hd hdF hds.2)
 ·rw [List.length_erase_of_mem hm]
  have:0 < ys.length:=List.length_pos_of_mem hm
  omega
theorem zDj {m:Nat} {F:List Int→Option (List Int)} {seen ys:List (List Int)} (h:zIh m F seen ys) (he:∀ c,c.length=m→F c ≠ none→c∈seen):ys=[]:=by
 cases ys with
 | nil=>rfl
 | cons y r =>
  obtain ⟨a,b,e⟩:=h.2.1 y List.mem_cons_self
  exact (e (he y a b)).elim

end Go.Pm
namespace Go.Pm
open Go

theorem zaR {x:Int} (h1 : -9223372036854775808≤x) (h2:x≤9223372036854775807):w64 x=x:=by
 have hb:IntKind.i64.bits=64:=rfl
 have hs:IntKind.i64.signed=true:=rfl
 unfold w64 IntKind.wrap
 rw [hb,hs]
 simp only [Bool.true_and,decide_eq_true_eq]
 split <;> omega
def zk9 (c : Nat → Bool) : Nat → Nat → Nat
  | 0,i=>i
  | m+1,i=>match c i with | true=>i | false=>zk9 c m (i+1)
theorem zvb {c:Nat→Bool} {m i:Nat} (h:c i=true):zk9 c (m+1) i=i:=by simp only [zk9,h]
theorem zvc {c:Nat→Bool} {m i:Nat} (h:c i=false):zk9 c (m+1) i=zk9 c m (i+1):=by simp only [zk9,h]
theorem zjx (c:Nat→Bool) (m i:Nat):i≤zk9 c m i∧zk9 c m i≤i+m∧(∀ j,i≤j→j < zk9 c m i→c j=false)∧(zk9 c m i < i+m→c (zk9 c m i)=true):=by
 induction m generalizing i with
 | zero=>exact ⟨Nat.le_refl _,Nat.le_refl _,fun j h1 h2=>absurd h2 (by simp only [zk9];omega),fun h=>absurd h (by simp only [zk9];omega)⟩
 | succ m ih =>
  cases e:c i
  ·rw [zvc e]
   obtain ⟨h1,h2,h3,h4⟩:=ih (i+1)
   refine ⟨by omega,by omega,fun j hj1 hj2=>?_,fun h=>h4 (by omega)⟩
   by_cases hji:j=i
   ·rw [hji];exact e
   ·exact h3 j (by omega) hj2
  ·rw [zvb e]
   exact ⟨Nat.le_refl _,by omega,fun j h1 h2=>absurd h2 (by omega),fun _=>e⟩
def fst (c:Nat→Bool) (n:Nat):Nat:=zk9 c n 0
theorem zBJ (c:Nat→Bool) (n:Nat):fst c n≤n:=by have:=(zjx c n 0).2.1;simpa [fst] using this
theorem zBK {c:Nat→Bool} {n j:Nat} (h:j < fst c n):c j=false:=(zjx c n 0).2.2.1 j (Nat.zero_le _) h
theorem zBL {c:Nat→Bool} {n:Nat} (h:fst c n < n):c (fst c n)=true:=(zjx c n 0).2.2.2 (by simpa [fst] using h)
theorem zml {α : Type} {c : α → Bool} {lpS : Nat → Sl α → Int → Int → Int} {lpP : Nat → Sl α → Int → Int → Bool}
    (hS:∀ k s t i,lpS (k+1) s t i=cond (decide (i < t)) (cond (c (s.get i.toNat)) i (lpS k s t (w64 (i+(1:Int))))) (-1:Int))
    (hP:∀ k s t i,lpP (k+1) s t i=cond (decide (i < t)) (decide (0≤i∧i < (s.len:Int)) && cond (c (s.get i.toNat)) true (lpP k s t (w64 (i+(1:Int))))) true)
    (s:Sl α) (hn:s.len≤9223372036854775807):lpP Fuel s (s.len:Int) 0=true∧lpS Fuel s (s.len:Int) 0=if fst (fun i=>c (s.get i)) s.len < s.len then ((fst (fun i=>c (s.get i)) s.len:Nat):Int) else -1:=by
  have key:∀ (m k i:Nat),i+m=s.len→m < k→lpP k s (s.len:Int) (i:Int)=true ∧
      lpS k s (s.len:Int) (i:Int)=if zk9 (fun i=>c (s.get i)) m i < s.len then ((zk9 (fun i=>c (s.get i)) m i:Nat):Int) else -1:=by
    intro m
    induction m with
    | zero =>
      intro k i hi hk
      obtain ⟨k,rfl⟩:∃ k',k=k'+1:=⟨k - 1,by omega⟩
      rw [hS,hP]
      have e:decide ((i:Int) < (s.len:Int))=false:=decide_eq_false (by omega)
      rw [e]
      have e5 : ¬ zk9 (fun i=>c (s.get i)) 0 i < s.len:=by show ¬ i < s.len;omega
      rw [if_neg e5]
      exact ⟨rfl,rfl⟩
    | succ m ih =>
      intro k i hi hk
      obtain ⟨k,rfl⟩:∃ k',k=k'+1:=⟨k - 1,by omega⟩
      rw [hS,hP]
      have e:decide ((i:Int) < (s.len:Int))=true:=decide_eq_true (by omega)
      have e2:decide (0≤(i:Int)∧(i:Int) < (s.len:Int))=true:=decide_eq_true (by omega)
      have e3:w64 ((i:Int)+1)=((i+1:Nat):Int):=by rw [zaR (by omega) (by omega)];omega
      have e4:(i:Int).toNat=i:=by omega
      rw [e,e2,e3,e4]
      cases hc:c (s.get i)
      · rw [zvc (c := fun i => c (s.get i)) hc]
        exact ih k (i+1) (by omega) (by omega)
      · rw [zvb (c := fun i => c (s.get i)) hc, if_pos (by omega)]
        exact ⟨rfl,rfl⟩
  exact key s.len Fuel 0 (by omega) (by simp only [Fuel];omega)

theorem zsf {good : Nat → Bool} {fin : Bool} {n : Nat} {lpS lpP : Nat → Int → Bool}
    (hS:∀ (k i:Nat),i < n→lpS (k+1) (i:Int)=cond (good i) (lpS k (w64 ((i:Int)+(1:Int)))) false)
    (hE:∀ k,lpS (k+1) (n:Int)=fin)
    (hP:∀ (k i:Nat),i < n→lpP (k+1) (i:Int)=cond (good i) (lpP k (w64 ((i:Int)+(1:Int)))) true)
    (hPE:∀ k,lpP (k+1) (n:Int)=true) (hn:n≤9223372036854775807) :
    lpP Fuel 0=true∧(lpS Fuel 0=true↔(∀ i,i < n→good i=true)∧fin=true):=by
  have key:∀ (m k i:Nat),i+m=n→m < k→lpP k (i:Int)=true∧(lpS k (i:Int)=true↔(∀ j,i≤j→j < n→good j=true)∧fin=true):=by
    intro m
    induction m with
    | zero =>
      intro k i hi hk
      obtain ⟨k,rfl⟩:∃ k',k=k'+1:=⟨k - 1,by omega⟩
      have:i=n:=by omega
      subst this
      rw [hE,hPE]
      exact ⟨rfl,⟨fun h=>⟨fun j h1 h2=>absurd h2 (by omega),h⟩,fun h=>h.2⟩⟩
    | succ m ih =>
      intro k i hi hk
      obtain ⟨k,rfl⟩:∃ k',k=k'+1:=⟨k - 1,by omega⟩
      rw [hS k i (by omega),hP k i (by omega)]
      have e3:w64 ((i:Int)+1)=((i+1:Nat):Int):=by rw [zaR (by omega) (by omega)];omega
      rw [e3]
      obtain ⟨h1,h2⟩:=ih k (i+1) (by omega) (by omega)
      cases hg:good i
      · refine ⟨rfl, ⟨fun h => (by cases h), fun h => ?_⟩⟩
        have:=h.1 i (Nat.le_refl _) (by omega)
        rw [hg] at this;cases this
      · refine ⟨h1, h2.trans ⟨fun h => ⟨fun j hj1 hj2 => ?_, h.2⟩, fun h => ⟨fun j hj1 hj2 => h.1 j (by omega) hj2, h.2⟩⟩⟩
        by_cases hji:j=i
        · rw [hji];exact hg
        · exact h.1 j (by omega) hj2
  have:=key n Fuel 0 (by omega) (by simp only [Fuel];omega)
  simpa using this

end Go.Pm
namespace Go.Pm
open Go Go.Deep

theorem zAo (b o i j:Nat):((⟨b,o,none⟩:Addr).add i).add j=⟨b,o+i+j,none⟩:=by
 simp only [Addr.add]
 by_cases h1:i=0
 ·subst h1
  by_cases h2:j=0
  ·subst h2;rfl
  ·rw [if_neg h2];rfl
 ·rw [if_neg h1]
  by_cases h2:j=0
  ·subst h2;rfl
  ·rw [if_neg h2]
def H0 (w:World):Fz:=fun b=>(w.heap[b]?).map .fz
theorem hw_H0 (w:World):Hw (H0 w) w:=by
 intro b x h
 unfold H0 at h
 cases e:w.heap[b]? with
 | none=>rw [e] at h;cases h
 | some o=>rw [e] at h;cases h;exact ⟨o,rfl,rfl⟩
def wfI (x:Int):Prop:=-9223372036854775808≤x∧x≤9223372036854775807
section
variable {H:Type} {en:TypeId×Value→H} {P:Program} {w:World} {sp:Nat→Bool} {held:Bool}
def Rd (H:Type) (en:TypeId×Value→H) (P:Program) (w:World) (sp:Nat→Bool) (held:Bool) (t:TypeId) {α:Type} (enc:α→List PV) (wf:α→Prop):Prop :=
 ∀ (fuel:Nat) (cs:List Value) (x:DataW H×List MemPlace),DataW.trod en P w 0 sp held fuel t cs=some x→∃ a:α,RL (Rep (H0 w)) (enc a) cs∧wf a
theorem zIi {t:TypeId} (ht:P.underlying t=some (.int .i64)):Rd H en P w sp held t (fun x=>[.int .i64 x]) wfI:=by
 intro fuel cs x h
 obtain ⟨n,rfl,_,hw⟩:=DataW.trod_int ht h
 refine ⟨n,⟨.int _ _,trivial⟩,?_⟩
 simp only [Lit.wf,Bool.and_eq_true,decide_eq_true_eq] at hw
 exact ⟨hw.1,hw.2⟩
theorem zvd {t : TypeId} {fs : Array Field} (ht : P.underlying t = some (.struct fs)) {fuel : Nat} {cs : List Value} {x : DataW H × List MemPlace} (h : DataW.trod en P w 0 sp held fuel t cs = some x) :
  cs.length=P.cellsOf t∧∀ (i:Nat) (f:Field),fs[i]? = some f→∃ n y,DataW.trod en P w 0 sp held n f.type ((cs.drop f.offset).take (P.cellsOf f.type))=some y:=by
 obtain ⟨xs,n,_,_,hl,hx,hf⟩:=DataW.trod_struct ht h
 refine ⟨hl,fun i f hi=>?_⟩
 have hlt:i < xs.length:=by rw [hx];exact (Array.getElem?_eq_some_iff.1 hi).1
 exact ⟨n,xs[i],by rw [hf i f hi,List.getElem?_eq_getElem hlt]⟩
theorem zAp {t e : TypeId} {α : Type} [Inhabited α] {enc : α → List PV} {wf : α → Prop} {s : Nat} (ht : P.underlying t = some (.slice e)) (hc : P.cellsOf e = s) (hs : 0 < s) (hlen : ∀ a, (enc a).length = s)
    (hel:Rd H en P w sp held e enc wf):Rd H en P w sp held t (fun x:Sl α=>[.sl x.len s (fun i=>enc (x.get i))]) (fun x=>x.len≤9223372036854775807∧∀ i,i < x.len→wf (x.get i)):=by
  intro fuel cs x h
  rcases open_slice ht h with ⟨rfl,_⟩ | ⟨a,len,cap,m,n,D,Pl,rfl,_,hl,hm,hmm,_,hget⟩
  · exact ⟨⟨0,default⟩,⟨.sl0 _ _,trivial⟩,Nat.zero_le _,fun i hi=>absurd hi (Nat.not_lt_zero i)⟩
  · by_cases h0 : len = 0
    · subst h0
      exact ⟨⟨0,default⟩,⟨.sle _ _ _ _,trivial⟩,Nat.zero_le _,fun i hi=>absurd hi (Nat.not_lt_zero i)⟩
    · have hlm : len ≤ m := by rw [hmm]; split <;> omega
      rw [hc] at hget
      have hex:∀ i,i < len→∃ y:α,(∃ cs',w.cells? 0 (a.add (i * s)) s=some cs'∧RL (Rep (H0 w)) (enc y) cs')∧wf y:=by
        intro i hi
        obtain ⟨cs',h1,h2⟩:=hget i (by omega)
        obtain ⟨y,h3,h4⟩:=hel _ _ _ h2
        exact ⟨y,⟨cs',h1,h3⟩,h4⟩
      have hch:∃ f:Nat→α,∀ i,i < len→(∃ cs',w.cells? 0 (a.add (i * s)) s=some cs'∧RL (Rep (H0 w)) (enc (f i)) cs')∧wf (f i):=by
        refine ⟨fun i=>if hi:i < len then Classical.choose (hex i hi) else default,fun i hi=>?_⟩
        simp only [dif_pos hi]
        exact Classical.choose_spec (hex i hi)
      obtain ⟨f,hf⟩:=hch
      -- the block
      have hcell:∀ i,i < len→∀ j,j < s→∃ cs',w.cells? 0 (a.add (i * s)) s=some cs'∧RL (Rep (H0 w)) (enc (f i)) cs'∧w.cell? ((a.add (i * s)).add j)=cs'[j]?∧cs'.length=s:=by
        intro i hi j hj
        obtain ⟨⟨cs',h1,h2⟩,_⟩:=hf i hi
        obtain ⟨_,h3,h4⟩:=World.cells?_some h1
        exact ⟨cs',h1,h2,h4 j hj,h3⟩
      obtain ⟨cs0,_,_,hc0,hl0⟩:=hcell 0 (by omega) 0 hs
      have ha0:w.cell? a=cs0[0]?:=by simpa [Addr.add] using hc0
      rw [List.getElem?_eq_getElem (by omega)] at ha0
      obtain ⟨C,ty,fr,hblk,hspot⟩:∃ C ty fr,w.heap[a.block]? = some (.cells C ty fr)∧a.spot=none:=by
        unfold World.cell? at ha0
        split at ha0
        · rename_i C ty fr hb
          refine ⟨C,ty,fr,hb,?_⟩
          cases hsp:a.spot with
          | none=>rfl
          | some k=>rw [hsp] at ha0;simp at ha0
        · cases ha0
      have ea:a=⟨a.block,a.off,none⟩:=by rw [← hspot]
      have hat:∀ i j,i < len→j < s→∃ cs',RL (Rep (H0 w)) (enc (f i)) cs'∧C[a.off+i * s+j]? = cs'[j]?∧cs'.length=s:=by
        intro i j hi hj
        obtain ⟨cs',_,h2,h3,h4⟩:=hcell i hi j hj
        refine ⟨cs',h2,?_,h4⟩
        rw [← h3]
        have e2:(a.add (i * s)).add j=⟨a.block,a.off+i * s+j,none⟩:=(congrArg (fun z:Addr=>(z.add (i * s)).add j) ea).trans (zAo _ _ _ _)
        rw [e2]
        simp [World.cell?,hblk]
      refine ⟨⟨len,f⟩,⟨?_,trivial⟩,by simp only [maxLen] at hm;show len≤_;omega,fun i hi=>(hf i hi).2⟩
      rw [ea]
      refine .sl len s _ a.block a.off cap C ty fr (fun i j=>C.getD (a.off+i * s+j) undef) (by simp [H0,hblk]) hl (fun i _=>hlen _) ?_ ?_
      · intro i j x hi hx
        have hj:j < s:=by have:=(List.getElem?_eq_some_iff.1 hx).1;rw [hlen] at this;exact this
        obtain ⟨cs',h1,h2,h3⟩:=hat i j hi hj
        rw [Array.getD_eq_getD_getElem?,h2,List.getElem?_eq_getElem (by omega)]
        rfl
      · intro i j x hi hx
        have hj:j < s:=by have:=(List.getElem?_eq_some_iff.1 hx).1;rw [hlen] at this;exact this
        obtain ⟨cs',h1,h2,h3⟩:=hat i j hi hj
        obtain ⟨v,hv,hr⟩:=h1.get j x hx
        rw [Array.getD_eq_getD_getElem?,h2,hv]
        exact hr
theorem zg4 {α:Type} (l:List α) (o s:Nat):l.drop o=(l.drop o).take s ++ l.drop (o+s):=by
 rw [← List.drop_drop]
 exact (List.take_append_drop s (l.drop o)).symm
def zLe : TypeDesc → Bool
  | .struct _=>false
  | .array _ _=>false
  | _=>true
theorem okWide_one {t:TypeId} {d:TypeDesc} {r:Reach} {base:Nat} {v:Value} (ht:P.underlying t=some d) (hd:zLe d=true) (h:Value.okWide P w r base t v):v.cells.toList=[v]:=by
 unfold Value.okWide at h
 rw [ht] at h
 cases v with
 | agg cs =>
  exfalso
  cases d <;> first | (cases hd;done) | (simp only [Cell.okWide,Cell.ok,ht] at h)
 | _=>rfl
theorem pa_one {h:Fz} {p:PV} {v:Value} (hv:v.cells.toList=[v]) (r:RL (Rep h) [p] v.cells.toList):paR h (.one p) v:=by
 rw [hv] at r
 exact r.1
theorem below_H0 {w':World} (b:Bel (H0 w) w.heap.size w w'):Go.RowKit.Below w.heap.size w w' :=
 ⟨b.os,b.tape,b.output,b.size,fun k hk=>b.block k hk fun F e=>by
  unfold H0 at e
  cases hb:w.heap[k]? <;> rw [hb] at e <;> cases e⟩
end
end Go.Pm
/-
  DERIVED: THE SHELF's CONTRACTS AT THIS DUMP,IN PLAIN WORDS (tools/lay-plain.mjs out of 'YtkpjhhoafenogaaLs.lean',which tools/lay-shelf.mjs wrote): THE SAME DECLARATIONS UNDER THE SAME NAMES: 'import','namespace','open','def','theorem' AND NOTHING ELSE: no command of the shelf's: FOR A HAND-IN. Each laying: the table of numbers ('.._ren') and one theorem,a field a fact of the dump's own or the kernel's comparison;each contract: ONE APPLICATION.
-/
namespace Go.Proofs
open Go.Shelf
def Try.laysS106_ren:Go.Shelf.Ren:=⟨fun | 6=>106 | 15=>122 | 14=>121 | 28=>132 | 29=>133 | 20=>124 | 21=>125 | 22=>126 | 23=>127 | 24=>128 | 25=>129 | 26=>130 | 27=>131 | 46=>134 | 47=>135 | 48=>136 | 49=>137 | 50=>138 | 57=>139 | n=>n,fun | 22=>102 | 24=>118 | 25=>147 | 3=>3 | 39=>156 | 0=>0 | 53=>166 | 55=>168 | 4=>4 | 46=>159 | 45=>158 | 50=>163 | 5=>5 | 9=>9 | 66=>169 | 70=>173 | 76=>175 | 77=>143 | n=>n,fun | n=>n⟩
theorem Try.laysS106 : Go.Proofs.SlLaysF0.n6 Try.prog Try.laysS106_ren := {
  mixed:=by kernel_rfl
  f6:=⟨Try.f106.name,by decide,Try.func106.trans (congrArg some (by kernel_rfl))⟩
  f14:=⟨Try.f121.name,by decide,Try.func121.trans (congrArg some (by kernel_rfl))⟩
  f15:=Try.func122.trans (congrArg some (by kernel_rfl))
  f20:=⟨Try.f124.name,by decide,Try.func124.trans (congrArg some (by kernel_rfl))⟩
  f21:=⟨Try.f125.name,by decide,Try.func125.trans (congrArg some (by kernel_rfl))⟩
  f22:=⟨Try.f126.name,by decide,Try.func126.trans (congrArg some (by kernel_rfl))⟩
  f23:=⟨Try.f127.name,by decide,Try.func127.trans (congrArg some (by kernel_rfl))⟩
  f24:=⟨Try.f128.name,by decide,Try.func128.trans (congrArg some (by kernel_rfl))⟩
  f25:=⟨Try.f129.name,by decide,Try.func129.trans (congrArg some (by kernel_rfl))⟩
  f26:=⟨Try.f130.name,by decide,Try.func130.trans (congrArg some (by kernel_rfl))⟩
  f27:=⟨Try.f131.name,by decide,Try.func131.trans (congrArg some (by kernel_rfl))⟩
  f28:=Try.func132.trans (congrArg some (by kernel_rfl))
  f29:=Try.func133.trans (congrArg some (by kernel_rfl))
  f46:=⟨Try.f134.name,by decide,Try.func134.trans (congrArg some (by kernel_rfl))⟩
  f47:=Try.func135.trans (congrArg some (by kernel_rfl))
  f48:=Try.func136.trans (congrArg some (by kernel_rfl))
  f49:=⟨Try.f137.name,by decide,Try.func137.trans (congrArg some (by kernel_rfl))⟩
  f50:=⟨Try.f138.name,by decide,Try.func138.trans (congrArg some (by kernel_rfl))⟩
  f57:=⟨Try.f139.name,by decide,Try.func139.trans (congrArg some (by kernel_rfl))⟩
  t0:=Try.underlying0
  a0:=Try.isAgg0
  z0:=Try.sizeOf0
  v0:=Try.zeroValue0
  t3:=Try.underlying3
  a3:=Try.isAgg3
  z3:=Try.sizeOf3
  v3:=Try.zeroValue3
  t4:=Try.underlying4
  a4:=Try.isAgg4
  z4:=Try.sizeOf4
  v4:=Try.zeroValue4
  t5:=Try.underlying5
  a5:=Try.isAgg5
  z5:=Try.sizeOf5
  v5:=Try.zeroValue5
  t9:=Try.underlying9
  a9:=Try.isAgg9
  z9:=Try.sizeOf9
  v9:=Try.zeroValue9
  t22:=Try.underlying102
  a22:=Try.isAgg102
  z22:=Try.sizeOf102
  v22:=Try.zeroValue102
  t25:=Try.underlying147
  a25:=Try.isAgg147
  z25:=Try.sizeOf147
  v25:=Try.zeroValue147
  t39:=Try.underlying156
  a39:=Try.isAgg156
  z39:=Try.sizeOf156
  v39:=Try.zeroValue156
  t45:=Try.underlying158
  a45:=Try.isAgg158
  z45:=Try.sizeOf158
  v45:=Try.zeroValue158
  t46:=Try.underlying159
  a46:=Try.isAgg159
  z46:=Try.sizeOf159
  v46:=Try.zeroValue159
  t50:=Try.underlying163
  a50:=Try.isAgg163
  z50:=Try.sizeOf163
  v50:=Try.zeroValue163
  t53:=Try.underlying166
  a53:=Try.isAgg166
  z53:=Try.sizeOf166
  v53:=Try.zeroValue166
  t55:=Try.underlying168
  a55:=Try.isAgg168
  z55:=Try.sizeOf168
  v55:=Try.zeroValue168
  t66:=Try.underlying169
  a66:=Try.isAgg169
  z66:=Try.sizeOf169
  v66:=Try.zeroValue169
  t70:=Try.underlying173
  a70:=Try.isAgg173
  z70:=Try.sizeOf173
  v70:=Try.zeroValue173
  t76:=Try.underlying175
  a76:=Try.isAgg175
  z76:=Try.sizeOf175
  v76:=Try.zeroValue175
  t77:=Try.underlying143
  a77:=Try.isAgg143
  z77:=Try.sizeOf143
  v77:=Try.zeroValue143 }
end Go.Proofs
namespace Go.Pm
open Go.Shelf Go.RowKit Go.Lib Go.Sort Go.Proofs

section perm
variable {c:Nat→Nat→Int}
theorem zgr (x : Nat) : ∀ l : List Nat, (zzI c x l).Perm (x :: l)
  | []=>.refl _
  | y :: r=>by
    unfold zzI
    split
    · exact .refl _
    · exact ((zgr x r).cons y).trans (.swap _ _ _)
theorem zg5 (n:Nat):(ziq n c).Perm (List.range n):=by
 unfold ziq
 generalize List.range n=l
 induction l with
 | nil=>exact .refl _
 | cons x l ih=>exact (zgr x _).trans (ih.cons x)
def leB (c:Nat→Nat→Int) (a b:Nat):Prop:=¬ c b a < 0
theorem zve {n : Nat} (H : STO n c) {x : Nat} (hx : x < n) : ∀ {l : List Nat}, (∀ y ∈ l, y < n) → l.Pairwise (leB c) → (zzI c x l).Pairwise (leB c)
  | [],_,_=>by simp [zzI]
  | y :: r,hl,hp=>by
    have hy:=hl y List.mem_cons_self
    rw [List.pairwise_cons] at hp
    unfold zzI
    split
    · rename_i h
      have h:=of_decide_eq_true h
      rw [List.pairwise_cons]
      refine ⟨fun z hz=>?_,List.pairwise_cons.2 hp⟩
      have hxy:leB c x y:=fun h2=>by
        have:=H.1 x hx
        have:=H.2.2 x y x hx hy hx h h2
        omega
      rcases List.mem_cons.1 hz with rfl | hz
      · exact hxy
      · intro h2
        exact hp.1 z hz (H.2.2 z x y (hl z (List.mem_cons_of_mem _ hz)) hx hy h2 h)
    · rename_i h
      have h:=of_decide_eq_false h
      rw [List.pairwise_cons]
      refine ⟨fun z hz=>?_,zve H hx (fun z hz=>hl z (List.mem_cons_of_mem _ hz)) hp.2⟩
      rcases List.mem_cons.1 ((zgr x r).mem_iff.1 hz) with rfl | hz
      · exact h
      · exact hp.1 z hz
theorem zsg {n:Nat} (H:STO n c):(ziq n c).Pairwise (leB c):=by
 have key:∀ l:List Nat,(∀ y∈l,y < n)→(l.foldr (zzI c) []).Pairwise (leB c)∧∀ y∈l.foldr (zzI c) [],y < n:=by
  intro l
  induction l with
  | nil=>intro _;exact ⟨List.Pairwise.nil,fun y hy=>by simp at hy⟩
  | cons x l ih =>
   intro h
   obtain ⟨h1,h2⟩:=ih fun y hy=>h y (List.mem_cons_of_mem _ hy)
   have hx:=h x List.mem_cons_self
   refine ⟨zve H hx h2 h1,fun y hy=>?_⟩
   rcases List.mem_cons.1 ((zgr x _).mem_iff.1 hy) with rfl | hy
   ·exact hx
   ·exact h2 y hy
 exact (key _ fun y hy=>List.mem_range.1 hy).1
theorem ztT {n:Nat} (H:STO n c) {l:List Nat} (hp:l.Perm (List.range n)) (hs:l.Pairwise (leB c)):l=ziq n c:=by
 refine List.Perm.eq_of_pairwise (le:=leB c) (fun a b ha hb h1 h2=>?_) hs (zsg H) (hp.trans (zg5 n).symm)
 have ha:=List.mem_range.1 (hp.mem_iff.1 ha)
 have hb:=List.mem_range.1 ((zg5 n).mem_iff.1 hb)
 by_cases e:a=b
 ·exact e
 ·rcases H.2.1 a b ha hb e with h | h
  ·exact absurd h.1 h2
  ·exact absurd h.1 h1
end perm

theorem zvf {w w':World} (h1:w'.heap=w.heap) (h2:w'.tape=w.tape) (h3:w'.drawn=w.drawn) (h4:w'.os=w.os) (h5:w'.output=w.output):w'=w:=by
 cases w;cases w';simp_all
theorem zAq {w w':World} {h:Fz} (b:Bel h w.heap.size w w') (hi:∀ k F,h k ≠ some (.inv F)):∃ q os,w'=grow (w.drewN q) os:=by
 refine ⟨w'.drawn - w.drawn,w'.heap.extract w.heap.size w'.heap.size,zvf ?_ b.tape ?_ b.os b.output⟩
 ·show w'.heap = w.heap ++ w'.heap.extract w.heap.size w'.heap.size
  apply Array.ext_getElem?
  intro i
  rw [Array.getElem?_append]
  split
  ·rename_i hl;exact b.block i hl (fun F=>hi i F)
  ·rename_i hl
   rw [Array.getElem?_extract]
   by_cases hlt:i < w'.heap.size
   ·rw [if_pos (by omega)];congr 1;omega
   ·rw [if_neg (by omega),Array.getElem?_eq_none (by omega)]
 ·show w'.drawn = w.drawn + (w'.drawn - w.drawn)
  have:=b.drawn;omega

theorem zoi {w : World} {g q : Nat} {cur : Array Value} {e : TypeId} {fr : Nat × Nat} {off : Nat} (F : Array Value) (hb : w.heap[g]? = some (.cells cur e fr)) :
  ∃ cur',(putRow id (Sort.ahead w q) g off F).heap[g]? = some (.cells cur' e fr)∧cur'.size=cur.size:=by
 refine ⟨putCells id off F cur,?_,by simp [putCells]⟩
 simp [putRow,mapBlock,Sort.ahead,Array.getElem?_modify,hb,onCells]
theorem zjy {w:World} {g q off:Nat} (F:Array Value) {k:Nat} (hk:k ≠ g):(putRow id (Sort.ahead w q) g off F).heap[k]? = w.heap[k]?:=by
 simp [putRow,mapBlock,Sort.ahead,Array.getElem?_modify,Ne.symm hk]

theorem zvg {P:Program} {ρ:Ren} (L:SlLaysF0.n6 P ρ) {e s b:Nat} (he:ρ.t 24=e) (hag:zeh P e=some true) (hsz:szT P e=some s) (hM : ¬ znD) (hc:zah P (ρ.f 6)):zlS P (ρ.f 6) (.sort e s b):=by
 intro w h base v n get gf caps cv ag C hC hcv hag' _ hpos ⟨xs,hown,hr⟩ hone hw hob hbase hn hS hO
 rw [hag] at hag';simp only [Option.some.injEq] at hag';subst hag'
 refine ⟨hc,?_⟩
 have hni:∀ k F,h k ≠ some (.inv F):=fun k F hk=>by obtain ⟨o,_,ho⟩:=hw k _ hk;exact hM ho.2
 have hdr:∀ (w':World) (k:Nat),w.drawn≤w.drawn+k:=fun _ k=>Nat.le_add_right _ _
 have none:∀ (p:Option Addr) (cap:Nat),n=0→v=.slice p 0 cap→Calls P (ρ.f 6) #[v,.func (.func gf) #[] cv.toArray] w fun r w'=>r=.returned (.tuple #[])∧zHz h w' base e s v n (zo6 n (zt4 C caps true get) get)∧GrB w w' v.ownBlock:=by
  rintro p cap rfl rfl
  refine (AnyF.slices_SortFunc_none L p cap _ w).mono ?_
  rintro r w' ⟨rfl,rfl⟩
  exact ⟨rfl,⟨xs,hown,fun i hi=>absurd hi (Nat.not_lt_zero i)⟩,⟨rfl,rfl,rfl,Nat.le_refl _,fun _ _ _=>rfl⟩,Nat.le_refl _⟩
 rcases hown.2 with ⟨h1,h2⟩ | ⟨blk,cap,cur,rfl,hb,hcell,hncap,hcap,hcs,htk⟩
 ·exact none _ _ h2 h1
 by_cases hn0:n=0
 ·subst hn0;exact none _ _ rfl rfl
 have:Inhabited (Fin n):=⟨⟨0,by omega⟩⟩
 let enc:Fin n→List Value:=fun i=>(xs.drop (i.val * s)).take s
 let c:=zt4 C caps true get
 let cf:Fin n→Fin n→Int:=fun x y=>c x.val y.val
 let d:Array (Fin n):=Array.ofFn id
 have hds:d.size=n:=Array.size_ofFn
 have hdi:∀ i (hi:i < n),d[i]! = ⟨i,hi⟩:=fun i hi=>by
  rw [getElem!_pos d i (by rw [hds];exact hi)];simp [d]
 have hlt:blk < w.heap.size:=(Array.getElem?_eq_some_iff.1 hcell).1
 have hbn:h blk=Option.none:=hob blk rfl
 have hmul:∀ i,i < n→i * s+s≤n * s:=fun i hi=>by have:=Nat.mul_le_mul_right s (Nat.succ_le_of_lt hi);rw [Nat.succ_mul] at this;exact this
 have hk:∀ x,(enc x).length=s:=fun x=>by
  have:=hmul x.val x.isLt
  simp only [enc,List.length_take,List.length_drop,hown.1];omega
 have hcur:∀ j,j < n * s→cur[j]? = xs[j]?:=fun j hj=>by
  have:(cur.toList.take (n * s))[j]? = xs[j]?:=by rw [htk]
  rw [List.getElem?_take,if_pos hj] at this;simpa using this
 have hxl:∀ j,j < n * s→∃ u,xs[j]? = some u:=fun j hj=>⟨xs[j]'(by rw [hown.1];exact hj),List.getElem?_eq_getElem _⟩
 have h1:∀ x,∀ u∈enc x,u.oneCell'=true:=fun x u hu=>by
  obtain ⟨j,hj⟩:=List.getElem?_of_mem hu
  obtain ⟨p,_,hp⟩:=(hr x.val x.isLt).get' j u hj
  exact hp.one
 have hflat:∀ j (hj:j < n * s),(flatK enc s d)[j]! = xs[j]'(by rw [hown.1];exact hj):=fun j hj=>by
  have hq:j / s < n:=Nat.div_lt_of_lt_mul (by rw [Nat.mul_comm];exact hj)
  rw [get_flatK _ _ _ _ (by rw [hds];exact hj),hdi _ hq]
  have hm:=Nat.mod_lt j hpos
  have hdm:=Nat.div_add_mod j s
  rw [getElem!_pos _ _ (by rw [hk];exact hm)]
  simp only [enc,List.getElem_take,List.getElem_drop]
  congr 1
  rw [Nat.mul_comm];exact hdm
 have hH:HoldsK enc s w blk 0 d:=fun j hj=>by
  have hj:j < n * s:=by rw [size_flatK,hds] at hj;exact hj
  refine ⟨?_,frozen_of_row w blk _ cur e hcell⟩
  rw [hflat j hj,cell_of hcell,Nat.zero_add,hcur j hj]
  exact List.getElem?_eq_getElem _
 have eg:∀ args w,(callFunc gf args).run P w=.ok (.enter gf args) w:=by
  have hcg:zah P gf:=by
   have hs0:=hS 0 0 (by omega) (by omega)
   unfold zHy at hs0
   split at hs0
   ·rename_i s0 c0 hat
    have hwp:(C (elP true (get 0) :: elP true (get 0) :: caps.map .one)).wp (fun _=>True):=by
     unfold zzH at hat
     split at hat
     ·rename_i e1;rw [e1];trivial
     ·rename_i e1;simp only [Option.some.injEq,Prod.mk.injEq] at hat;rw [e1];exact ⟨by rw [hat.1];exact hs0,trivial⟩
     ·cases hat
    exact (hC _ _ hwp w h (.agg (enc ⟨0,by omega⟩).toArray :: .agg (enc ⟨0,by omega⟩).toArray :: cv) ⟨⟨_,rfl,hr 0 (by omega)⟩,⟨_,rfl,hr 0 (by omega)⟩,RL.map_left.2 hcv⟩ hw).1
   ·exact hs0.elim
  exact fun args w=>zc0 hcg
 have hcmp:CmpLays P gf cv.toArray enc s cf blk 0 d.size w:=by
  intro m os dk hdk x y
  have hs0:=hS x.val y.val x.isLt y.isLt
  unfold zHy at hs0
  split at hs0
  ·rename_i s0 c0 hat
   have hwp:(C (elP true (get x.val) :: elP true (get y.val) :: caps.map .one)).wp (fun rs=>rs=[.one (.int .i64 (cf x y))]):=by
    have hcv:cf x y=c0:=by show zt4 C caps true get x.val y.val=c0;unfold zt4;rw [hat]
    rw [hcv]
    unfold zzH at hat
    split at hat
    ·rename_i e1;simp only [Option.some.injEq,Prod.mk.injEq] at hat;rw [e1,hat.2];rfl
    ·rename_i e1;simp only [Option.some.injEq,Prod.mk.injEq] at hat;rw [e1,hat.2];exact ⟨by rw [hat.1];exact hs0,rfl⟩
    ·cases hat
   have hwh:Hw h (sortWorldK enc s w blk 0 m dk os):=hw.same fun k o hk=>by
    have hkb:k ≠ blk:=fun e=>by rw [e,hbn] at hk;cases hk
    have hkl:=hw.lt hk
    show ((putRow id (Sort.ahead w m) blk 0 (flatK enc s dk)).heap ++ os)[k]? = _
    rw [Array.getElem?_append_left (by simpa [putRow,mapBlock,Sort.ahead] using hkl)]
    exact zjy _ hkb
   obtain ⟨_,hrun⟩:=hC _ _ hwp (sortWorldK enc s w blk 0 m dk os) h (.agg (enc x).toArray :: .agg (enc y).toArray :: cv) ⟨⟨_,rfl,hr x.val x.isLt⟩,⟨_,rfl,hr y.val y.isLt⟩,RL.map_left.2 hcv⟩ hwh
   rw [show (#[Value.agg (enc x).toArray,.agg (enc y).toArray] ++ cv.toArray)=(Value.agg (enc x).toArray :: .agg (enc y).toArray :: cv).toArray by simp]
   refine hrun.mono ?_
   rintro e' w' ⟨h',rs,v',hrs,rfl,hres,hbel,_,_,_⟩
   subst hrs
   have hv':v'=.int .i64 (cf x y):=by
    have:Rep h' (.int .i64 (cf x y)) v':=hres
    cases this;rfl
   subst hv'
   exact ⟨rfl,zAq hbel hni⟩
  ·exact hs0.elim
 have hSWO:SWO (ltOf cf):=by
  refine ⟨fun x=>?_,fun x y z hxy hyz=>?_,fun x y z hxy hyz=>?_⟩
  ·have : 0 ≤ c x.val x.val := hO.1 x.val x.isLt
   simp only [ltOf,decide_eq_false_iff_not];show ¬ c x.val x.val < 0;omega
  ·simp only [ltOf, decide_eq_true_eq] at hxy hyz ⊢
   exact hO.2.2 _ _ _ x.isLt y.isLt z.isLt hxy hyz
  ·simp only [ltOf, decide_eq_false_iff_not] at hxy hyz ⊢
   intro hxz
   have hxy : ¬ c x.val y.val < 0:=hxy
   have hyz : ¬ c y.val z.val < 0:=hyz
   have hxz:c x.val z.val < 0:=hxz
   by_cases e1:y.val=z.val
   ·rw [e1] at hxy;exact hxy hxz
   ·by_cases e2 : x.val = y.val
    ·rw [e2] at hxz;exact hyz hxz
    ·have a1 : c z.val y.val < 0 := by rcases hO.2.1 y.val z.val y.isLt z.isLt e1 with h | h; exact absurd h.1 hyz; exact h.1
     exact hxy (hO.2.2 _ _ _ x.isLt z.isLt y.isLt hxz a1)
 have aE:∀ w,(isAgg (ρ.t 24)).run P w=.ok true w:=fun w=>by rw [he];exact zds hag
 have zE:∀ w,(Go.sizeOf (ρ.t 24)).run P w=.ok s w:=fun w=>by rw [he];exact run_sizeOf hsz
 have hrun:=AnyQ.slices_SortFunc L s aE zE enc hk h1 cf hSWO gf cv.toArray blk 0 cap d w eg hcmp hH hlt (by rw [hds];omega)
 rw [hds] at hrun
 refine hrun.mono ?_
 rintro r w' ⟨rfl,d',m,os,hperm,hsort,rfl⟩
 obtain ⟨hps,_,hpp⟩:=hperm
 have hd's:d'.size=n:=by rw [hps,hds]
 have hall:∀ (z:Array (Fin n)),z.size=n→z.extract 0 n=z:=fun z hz=>Array.ext (by simp [hz]) (fun i h1 h2=>by simp)
 rw [hall d' hd's,hall d hds] at hpp
 have hl:d'.toList.map Fin.val=ziq n c:=by
  refine ztT hO ?_ ?_
  ·refine (hpp.map Fin.val).trans ?_
   have:d.toList.map Fin.val=List.range n:=by
    apply List.ext_getElem?
    intro i
    simp only [d,List.getElem?_map]
    by_cases hi:i < n
    ·simp [hi]
    ·rw [List.getElem?_eq_none (by simp;omega),List.getElem?_eq_none (by simp;omega)];rfl
   rw [this]
  ·rw [List.pairwise_map, List.pairwise_iff_getElem]
   intro i j hi hj hij
   have hi':i < n:=by simpa [hd's] using hi
   have hj':j < n:=by simpa [hd's] using hj
   have:=hsort i j (Nat.zero_le _) hij hj'
   rw [getElem!_pos d' j (by omega),getElem!_pos d' i (by omega)] at this
   simp only [ltOf,decide_eq_false_iff_not] at this
   exact this
 have hget:∀ i (hi:i < n),zo6 n c get i=get (d'[i]'(by omega)).val:=fun i hi=>by
  unfold zo6
  rw [← hl]
  congr 1
  rw [List.getD_eq_getElem?_getD,List.getElem?_map]
  simp [hd's,hi]
 obtain ⟨cur',hcell',hsz'⟩:=zoi (q:=m) (off:=0) (flatK enc s d') hcell
 have hgrow:(sortWorldK enc s w blk 0 m d' os).heap[blk]? = some (.cells cur' e (0,0)):=by
  show ((putRow id (Sort.ahead w m) blk 0 (flatK enc s d')).heap ++ os)[blk]? = _
  rw [Array.getElem?_append_left (by simpa [putRow,mapBlock,Sort.ahead] using hlt)]
  exact hcell'
 have hH':HoldsK enc s (sortWorldK enc s w blk 0 m d' os) blk 0 d':=holdsK_sortWorldK_c enc s w blk 0 d d' m os hH hlt (by rw [hd's,hds])
 have hcur':∀ j (hj:j < n * s),cur'[j]? = some ((flatK enc s d')[j]!):=fun j hj=>by
  have:=(hH' j (by rw [size_flatK,hd's];exact hj)).1
  rw [cell_of hgrow,Nat.zero_add] at this
  exact this
 refine ⟨rfl,⟨cur'.toList.take (n * s),⟨by rw [List.length_take,Array.length_toList,hsz',hcs];exact Nat.min_eq_left (Nat.mul_le_mul_right s hncap),.inr ⟨blk,cap,cur',rfl,hb,hgrow,hncap,hcap,by rw [hsz',hcs],rfl⟩⟩,fun i hi=>?_⟩,?_⟩
 ·have e1:((cur'.toList.take (n * s)).drop (i * s)).take s=enc (d'[i]'(by omega)):=by
   apply List.ext_getElem?
   intro j
   have hm:=hmul i hi
   rw [List.getElem?_take]
   split
   ·rename_i hj
    rw [List.getElem?_drop,List.getElem?_take,if_pos (by omega),Array.getElem?_toList,hcur' _ (by omega)]
    have hdiv:(i * s+j) / s=i:=by rw [Nat.mul_comm,Nat.mul_add_div hpos,Nat.div_eq_of_lt hj,Nat.add_zero]
    have hmod:(i * s+j) % s=j:=by rw [Nat.mul_comm,Nat.mul_add_mod,Nat.mod_eq_of_lt hj]
    rw [get_flatK _ _ _ _ (by rw [hd's];omega),hdiv,hmod,getElem!_pos d' i (by omega),getElem!_pos _ _ (by rw [hk];exact hj)]
    exact (List.getElem?_eq_getElem _).symm
   ·rename_i hj
    rw [List.getElem?_eq_none (by rw [hk];omega)]
  rw [e1,hget i hi]
  exact hr _ (d'[i]'(by omega)).isLt
 ·refine ⟨⟨rfl, rfl, rfl, ?_, fun k hk hne => ?_⟩, Nat.le_add_right _ _⟩
  ·show w.heap.size ≤ ((putRow id (Sort.ahead w m) blk 0 (flatK enc s d')).heap ++ os).size
   simp [putRow,mapBlock,Sort.ahead]
  ·show ((putRow id (Sort.ahead w m) blk 0 (flatK enc s d')).heap ++ os)[k]? = _
   rw [Array.getElem?_append_left (by simpa [putRow,mapBlock,Sort.ahead] using hk)]
   exact zjy _ fun e=>hne (by rw [e];rfl)
end Go.Pm
namespace Go.Pm

abbrev zI (x:Int):DV:=.one (.c (.p (.int .i64 x)))
abbrev zB (x:Bool):DV:=.one (.c (.p (.bool x)))
abbrev zP (x:PV):DV:=.one (.c (.p x))
abbrev zp (L k:Nat):DV:=.one (.c (.ptr L k))
abbrev zv (L:Nat):DV:=.one (.c (.vec L))
abbrev zs {α:Type} (enc:α→List PV) (s:Nat) (x:Sl α):PV:=.sl x.len s (fun i=>enc (x.get i))
abbrev zS {α:Type} (enc:α→List PV) (s:Nat) (x:Sl α):DV:=zP (zs enc s x)
abbrev zm (l:List PV):List Cl:=l.map Cl.p
abbrev zi (x:Int):Cl:=.p (.int .i64 x)
abbrev zg {α:Type} (enc:α→List PV) (x:Sl α):Nat→List PV:=fun i=>enc (x.get i)
abbrev zK (a b:List Nat):Keep:=⟨a,b,[],[],[],[],[]⟩
theorem zE {α:Type} (enc:α→List PV) (size:Nat) (f:Nat→α):IsE enc size size (fun i=>enc (f i)):=⟨rfl,f,rfl⟩

@[reducible] def lpO {A : Type} (d : A) (st : A → A) : Nat → A
  | 0=>d
  | k+1=>st (lpO d st k)
theorem zfu {A B : Type} (a : A) (b : B) (p : A → A) (s : B → B) (M : A → B → Prop) (h0 : M a b) (h1 : ∀ P S, M P S → M (p P) (s S)) : ∀ k, M (lpO a p k) (lpO b s k)
  | 0=>h0
  | k+1=>h1 _ _ (zfu a b p s M h0 h1 k)
theorem zy {α:Type} {y:Sl α} {P:Sl α→Prop} (h:P y):P ⟨y.len,y.get⟩:=h

section
variable (P:Program) (Γ:Ctrs) (ann:Ann)
def pt : Code → (Exit → St → Prop) → List Nat → List (St → Prop) → St → Prop
  | .seq a b,K,i :: r,X=>match i with | 0=>pt a (sqK P Γ ann b K) r X | _=>pt b K r X
  | .cond _ a b,K,i :: r,X=>match i with | 0=>pt a K r X | _=>pt b K r X
  | .block id b,K,_ :: r,X=>pt b (zaY id K) r X
  | .loop b,K,_ :: r,x :: X=>pt b (zdO P ann (zlh b) x K) r X
  | .scope b,K,_ :: r,X=>pt b (zb8 K) r X
  | c,K,_,_=>vc P Γ ann c K
def ptF (fn:Func) (K:List PA→Prop) (l:List Nat) (X:List (St→Prop)):St→Prop :=
 match fn.body with
 | some c=>pt P Γ ann c (zco P fn K) l X
 | none=>fun _=>False
end

theorem zc {b:Bool} {A B:Prop} {S S':Bool} {α:Type} {e:α→List PA} {K:List PA→Prop} {x y:α} (hs:cond b S S'=true) (hk:K (e (cond b x y))) (h1:S=true→K (e x)→A) (h2:S'=true→K (e y)→B):zcL b A B:=by
 cases b
 ·exact h2 hs hk
 ·exact h1 hs hk
theorem zt {b:Bool} {A B:Prop} {α:Type} {e:α→List PA} {K:List PA→Prop} {x y:α} (hk:K (e (cond b x y))) (h1:K (e x)→A) (h2:K (e y)→B):zcL b A B:=by
 cases b
 ·exact h2 hk
 ·exact h1 hk
theorem zf {α β:Type} (y:Sl α) (f:Sl α→β):f ⟨y.len,y.get⟩=f y:=rfl
theorem zq {b b':Bool} {A B:Prop} (e:b'=b) (h:zcL b A B):zcL b' A B:=e ▸ h
theorem zl {at_:Prop} {g:St} (B:(St→Prop)→St→Prop) (e:at_ = ∀ X:St→Prop,(∀ s,B X s→X s)→X g) (h:∀ X:St→Prop,(∀ s,B X s→X s)→X g):at_:=e ▸ h
end Go.Pm
namespace Go.Proofs
open Go Go.Pm
set_option maxRecDepth 100000
set_option linter.unusedVariables false
attribute [local irreducible] Go.Pm.vcFun Go.Pm.vc Go.Pm.vcIter
abbrev zaj (x:Int):List PV:=[.int .i64 x]
def zLf : List PV → Int
  | [.int .i64 x]=>x
  | _=>default
def zbc (g:Nat→List PV):Nat→Int:=fun i=>zLf (g i)
theorem zb0 (f:Nat→Int):zbc (fun i=>zaj (f i))=f:=rfl
structure Gate where
  Z:Int
  Low:Int
  High:Int
deriving Inhabited
abbrev enc_55 (x:Gate):List PV:=[.int .i64 x.Z,.int .i64 x.Low,.int .i64 x.High]
def zIj : List PV → Gate
  | [.int .i64 x_Z,.int .i64 x_Low,.int .i64 x_High]=>(⟨x_Z,x_Low,x_High⟩:Gate)
  | _=>default
def zad (g:Nat→List PV):Nat→Gate:=fun i=>zIj (g i)
theorem zac (f:Nat→Gate):zad (fun i=>enc_55 (f i))=f:=rfl
abbrev zIk (x:(Sl Gate)):List PV:=[.sl x.len 3 (fun i=>enc_55 (x.get i))]
structure Frac where
  Num:Int
  Den:Int
deriving Inhabited
abbrev zae (x:Frac):List PV:=[.int .i64 x.Num,.int .i64 x.Den]
def zIl : List PV → Frac
  | [.int .i64 x_Num,.int .i64 x_Den]=>(⟨x_Num,x_Den⟩:Frac)
  | _=>default
def zfN (g:Nat→List PV):Nat→Frac:=fun i=>zIl (g i)
theorem zes (f:Nat→Frac):zfN (fun i=>zae (f i))=f:=rfl
structure Line where
  Slope:Frac
  Start:Frac
deriving Inhabited
abbrev zbs (x:Line):List PV:=[.int .i64 x.Slope.Num,.int .i64 x.Slope.Den,.int .i64 x.Start.Num,.int .i64 x.Start.Den]
def zIm : List PV → Line
  | [.int .i64 x_Slope_Num,.int .i64 x_Slope_Den,.int .i64 x_Start_Num,.int .i64 x_Start_Den]=>(⟨(⟨x_Slope_Num,x_Slope_Den⟩:Frac),(⟨x_Start_Num,x_Start_Den⟩:Frac)⟩:Line)
  | _=>default
def zjz (g:Nat→List PV):Nat→Line:=fun i=>zIm (g i)
theorem zet (f:Nat→Line):zjz (fun i=>zbs (f i))=f:=rfl
structure Span where
  Low:Int
  High:Int
deriving Inhabited
abbrev zBM (x:Span):List PV:=[.int .i64 x.Low,.int .i64 x.High]
structure list where
  Gates:(Sl Gate)
deriving Inhabited
abbrev zb1 (x:list):List PV:=[.sl x.Gates.len 3 (fun i=>enc_55 (x.Gates.get i))]
structure straight where
  slope:Int
  start:Int
  den:Int
deriving Inhabited
abbrev zaf (x:straight):List PV:=[.int .i64 x.slope,.int .i64 x.start,.int .i64 x.den]
def zDk : List PV → straight
  | [.int .i64 x_slope,.int .i64 x_start,.int .i64 x_den]=>(⟨x_slope,x_start,x_den⟩:straight)
  | _=>default
def zaQ (g:Nat→List PV):Nat→straight:=fun i=>zDk (g i)
theorem zaL (f:Nat→straight):zaQ (fun i=>zaf (f i))=f:=rfl
structure set where
  list:list
  corners:(Sl straight)
deriving Inhabited
abbrev zaV (x:set):List PV:=[.sl x.list.Gates.len 3 (fun i=>enc_55 (x.list.Gates.get i)),.sl x.corners.len 3 (fun i=>zaf (x.corners.get i))]
abbrev zcC (x:Mp):List PV:=[.fm (true,2,false,[some .i64]) x.n x.F]
end Go.Proofs
namespace Go.Proofs
open Go Go.Pm
set_option maxRecDepth 100000
set_option linter.unusedVariables false
attribute [local irreducible] Go.Pm.vcFun Go.Pm.vc Go.Pm.vcIter
abbrev T74:Tabs:=Tabs.nil
theorem zLg:TabsOk Try.prog T74:=TabsOk.nil
abbrev G74:Ctrs:=csm T74 (fun _ _=>[]) (fun _=>false)
def zIn:Ann:=⟨15,[(0,zK [0,1,2] []),(1,zK [6] [])],
 [],
 [],
 [],[]⟩
abbrev R74:=Bool
abbrev e74 (r:R74):List PA:=[.one (.bool r)]
section
variable {K:List PA→Prop} {x:Int} {low:Int} {high:Int}
def s74 (x:Int) (low:Int) (high:Int):Bool :=
  (cond (decide (x ≥ low))
 (decide (x≤high))
 false)
end
theorem q74 (x:Int) (low:Int) (high:Int) (K:List PA→Prop) (hk:K (e74 (s74 x low high))):vcFun Try.prog G74 zIn 74 [.one (.int .i64 x),.one (.int .i64 low),.one (.int .i64 high)] K :=
  zax (by kernel_rfl) (zt hk (fun hk=>hk) (fun hk=>hk))
def zoj : List PA → COut
  | [.one (.int .i64 a0),.one (.int .i64 a1),.one (.int .i64 a2)]=>.tot [.one (.bool (s74 a0 a1 a2))]
  | _=>.no
theorem zIo:zah Try.prog 74:=⟨_,rfl,rfl,by kernel_rfl⟩
theorem zHB:Ok Try.prog 74 zoj:=zaz zLg zIo fun args K h=>by
  unfold zoj at h
  split at h
  · rename_i a0 a1 a2
    have hk:=h
    exact ⟨(fun _ _=>[]),(fun _=>false),zIn,q74 a0 a1 a2 K hk⟩
  · exact h.elim
abbrev T87:Tabs:=(Tabs.nil.addF 74 zoj)
theorem zLh:TabsOk Try.prog T87:=(TabsOk.nil.addF zHB)
abbrev G87:Ctrs:=csm T87 (fun _ _=>[]) (fun _=>false)
def zIp:Ann:=⟨23,[(0,zK [1] [1]),(1,zK [2] [])],
 [],
 [],
 [],[]⟩
abbrev R87:=Bool
abbrev e87 (r:R87):List PA:=[.one (.bool r)]
section
variable {K:List PA→Prop} {g:Gate}
def s87 (g:Gate):Bool :=
  (cond (s74 g.Z (0:Int) (100000:Int))
 (cond (decide (g.Low ≥ (-1000000:Int)))
 (cond (decide (g.Low ≤ g.High))
 (decide (g.High≤(1000000:Int)))
 false)
 false)
 false)
end
theorem q87 (g:Gate) (K:List PA→Prop) (hk:K (e87 (s87 g))):vcFun Try.prog G87 zIp 87 [.agg (enc_55 g)] K :=
  zax (by kernel_rfl) (zt hk (fun hk=>(zt hk (fun hk=>(zt hk (fun hk=>hk) (fun hk=>hk))) (fun hk=>hk))) (fun hk=>hk))
def zAr : List PA → COut
  | [.agg [.int .i64 a0_Z,.int .i64 a0_Low,.int .i64 a0_High]]=>.tot [.one (.bool (s87 (⟨a0_Z,a0_Low,a0_High⟩:Gate)))]
  | _=>.no
theorem zIq:zah Try.prog 87:=⟨_,rfl,rfl,by kernel_rfl⟩
theorem zNV:Ok Try.prog 87 zAr:=zaz zLh zIq fun args K h=>by
  unfold zAr at h
  split at h
  · rename_i a0_Z a0_Low a0_High
    have hk:=h
    exact ⟨(fun _ _=>[]),(fun _=>false),zIp,q87 (⟨a0_Z,a0_Low,a0_High⟩:Gate) K hk⟩
  · exact h.elim
abbrev T64:Tabs:=((Tabs.nil.addF 74 zoj).addF 87 zAr)
theorem zLi:TabsOk Try.prog T64:=((TabsOk.nil.addF zHB).addF zNV)
abbrev G64:Ctrs:=csm T64 (fun _ _=>[]) (fun _=>false)
def zDl:Ann:=⟨18,[(0,zK [0] []),(1,zK [0,5,6,7] []),(2,zK [0,5,6,7,8] []),(3,zK [0,4,5,6,7] [4]),(4,zK [0,5,6,7,13] []),(5,zK [2] []),(6,zK [0,5,6,7] []),(7,zK [2] [])],
 [(2,zK [0,5,6,7] [])],
 [(5,zK [0,5,6,7,13] [])],
 [],[]⟩
abbrev R64:=Bool
abbrev e64 (r:R64):List PA:=[.one (.bool r)]
@[irreducible] def z64:=ptF Try.prog G64 zDl Try.f64
def zBN (zaa:(Sl Gate)) (zaW:Int):St:=⟨[(0,zS enc_55 3 zaa),(5,zS enc_55 3 zaa),(6,zI (zaa.len:Int)),(7,zI zaW)],[],[]⟩
abbrev zDm (K:List PA→Prop) (zaa:(Sl Gate)) (X:St→Prop) (P:Int→Bool) (S:Int→Bool):Prop:=∀ ⦃zaW:Int⦄,P zaW=true→K (e64 (S zaW))→X (zBN zaa zaW)
section
variable {K:List PA→Prop} {zaa:(Sl Gate)} {zaW:Int} {X0:St→Prop} {P0:Int→Bool} {S0:Int→Bool} {zfO:Int} {zpD:Bool}
def zpE (S0:Int→Bool) (zaa:(Sl Gate)) (zfO:Int) (zpD:Bool):Bool :=
  (cond zpD
 false
 (S0 (w64 (zfO+(1:Int)))))
def zpF (P0:Int→Bool) (zaa:(Sl Gate)) (zfO:Int) (zpD:Bool):Bool :=
  (cond zpD
 true
 (P0 (w64 (zfO+(1:Int)))))
theorem zDn (hX0:zDm K zaa X0 P0 S0) (hs:zpF P0 zaa zfO zpD=true) (hk:K (e64 (zpE S0 zaa zfO zpD))):z64 K [1,0,1,0,0,1,1,0,0,1,1] [X0] ⟨[(0,zS enc_55 3 zaa),(5,zS enc_55 3 zaa),(6,zI (zaa.len:Int)),(7,zI zfO),(13,zB zpD)],[],[]⟩:=zax (by kernel_rfl) (zc hs hk (fun hs hk=>hk) (fun hs hk=>(hX0 hs hk)))
def zg6 (zaa:(Sl Gate)) (S0:Int→Bool) (zaW:Int):Bool :=
  (cond (decide (zaW < (zaa.len : Int)))
 (zpE S0 zaa zaW (!(s87 (zaa.get zaW.toNat))))
 (s74 (zaa.len:Int) (1:Int) (24:Int)))
def zg7 (zaa:(Sl Gate)) (P0:Int→Bool) (zaW:Int):Bool :=
  (cond (decide (zaW < (zaa.len : Int)))
 (decide ((0≤zaW∧zaW < (zaa.len:Int))) &&
 (zpF P0 zaa zaW (!(s87 (zaa.get zaW.toNat)))))
 true)
def zg8 (zaa:(Sl Gate)):Nat→Int→Bool:=lpO (fun _=>default) (zg6 zaa)
def zg9 (zaa:(Sl Gate)):Nat→Int→Bool:=lpO (fun _=>false) (zg7 zaa)
def zvh (zaa:(Sl Gate)) (zaW:Int):Bool:=zg8 zaa Fuel zaW
def zvi (zaa:(Sl Gate)) (zaW:Int):Bool:=zg9 zaa Fuel zaW
theorem zDo (hs:zvi zaa zaW=true) (hk:K (e64 (zvh zaa zaW))):z64 K [1,0,1,0] [] (zBN zaa zaW) :=
  zl (fun X=>z64 K [1,0,1,0,0] [X]) (by kernel_rfl) fun X0 hX =>
  (show ∀ k, zDm K zaa X0 (zg9 zaa k) (zg8 zaa k) from zfu _ _ (zg7 zaa) (zg6 zaa) (zDm K zaa X0)
 (by intro _ hs;exact absurd hs Bool.false_ne_true)
 (by intro P0 S0 hX0 zaW hs hk;exact hX _ (zax (by kernel_rfl) (zc hs hk (fun hs hk=>(zaw hs fun hc hs=>And.intro hc (zDn hX0 hs hk))) (fun hs hk=>hk))))) _ hs hk
def s64 (zaa:(Sl Gate)):Bool :=
  (zvh zaa (0:Int))
def p64 (zaa:(Sl Gate)):Bool :=
  (zvi zaa (0:Int))
end
theorem q64 (zaa:(Sl Gate)) (K:List PA→Prop) (hs:p64 zaa=true) (hk:K (e64 (s64 zaa))):vcFun Try.prog G64 zDl 64 [.one (.sl zaa.len 3 (fun i=>enc_55 (zaa.get i)))] K :=
  zax (by kernel_rfl) (zDo hs hk)
def zpG : List PA → COut
  | [.one (.sl a0_n a0_s a0_g)]=>.det (IsE enc_55 3 a0_s a0_g∧p64 (⟨a0_n,zad a0_g⟩:(Sl Gate))=true) [.one (.bool (s64 (⟨a0_n,zad a0_g⟩:(Sl Gate))))]
  | _=>.no
theorem zIr:zah Try.prog 64:=⟨_,rfl,rfl,by kernel_rfl⟩
theorem zIs:Ok Try.prog 64 zpG:=zaz zLi zIr fun args K h=>by
  unfold zpG at h
  split at h
  · rename_i a0_n a0_s a0_g
    obtain ⟨⟨⟨rfl,a0_f,rfl⟩,hs⟩,hk⟩:=h
    try rw [zac a0_f] at hs
    try rw [zac a0_f] at hk
    exact ⟨(fun _ _=>[]),(fun _=>false),zDl,q64 (⟨a0_n,a0_f⟩:(Sl Gate)) K hs hk⟩
  · exact h.elim
abbrev zM9:Tabs:=Tabs.nil
theorem zIt:TabsOk Try.prog zM9:=TabsOk.nil
abbrev zNW:Ctrs:=csm zM9 (fun _ _=>[]) (fun _=>false)
def zBO:Ann:=⟨12,[(0,zK [1,2] [2]),(1,zK [3] [])],
 [],
 [],
 [],[]⟩
abbrev zNX:=Bool
abbrev zNY (r:zNX):List PA:=[.one (.bool r)]
section
variable {K:List PA→Prop} {c0:list} {g:Gate}
def zDp (c0:list) (g:Gate):Bool :=
  (g.Z != (c0.Gates.get 0).Z)
def zDq (c0:list) (g:Gate):Bool :=
  (decide ((0≤(0:Int)∧(0:Int) < (c0.Gates.len:Int))) &&
 true)
end
theorem zNZ (c0:list) (g:Gate) (K:List PA→Prop) (hs:zDq c0 g=true) (hk:K (zNY (zDp c0 g))):vcFun Try.prog zNW zBO 100 [.agg (enc_55 g),.one (.fp (zb1 c0) 0)] K :=
  zax (by kernel_rfl) (zaw hs fun hc hs=>And.intro hc hk)
def zvj : List PA → COut
  | [.agg [.int .i64 a0_Z,.int .i64 a0_Low,.int .i64 a0_High],.one (.fp [.sl c0_Gates_n c0_Gates_s c0_Gates_g] 0)]=>.det (IsE enc_55 3 c0_Gates_s c0_Gates_g∧zDq (⟨(⟨c0_Gates_n,zad c0_Gates_g⟩:(Sl Gate))⟩:list) (⟨a0_Z,a0_Low,a0_High⟩:Gate)=true) [.one (.bool (zDp (⟨(⟨c0_Gates_n,zad c0_Gates_g⟩:(Sl Gate))⟩:list) (⟨a0_Z,a0_Low,a0_High⟩:Gate)))]
  | _=>.no
theorem zDr:zah Try.prog 100:=⟨_,rfl,rfl,by kernel_rfl⟩
theorem zLj:Ok Try.prog 100 zvj:=zaz zIt zDr fun args K h=>by
  unfold zvj at h
  split at h
  · rename_i a0_Z a0_Low a0_High c0_Gates_n c0_Gates_s c0_Gates_g
    obtain ⟨⟨⟨rfl,c0_Gates_f,rfl⟩,hs⟩,hk⟩:=h
    try rw [zac c0_Gates_f] at hs
    try rw [zac c0_Gates_f] at hk
    exact ⟨(fun _ _=>[]),(fun _=>false),zBO,zNZ (⟨(⟨c0_Gates_n,c0_Gates_f⟩:(Sl Gate))⟩:list) (⟨a0_Z,a0_Low,a0_High⟩:Gate) K hs hk⟩
  · exact h.elim
abbrev zNa:Tabs:=(Tabs.nil.addF 74 zoj)
theorem zIu:TabsOk Try.prog zNa:=(TabsOk.nil.addF zHB)
abbrev zN0:Ctrs:=csm zNa (fun _ _=>[]) (fun _=>false)
def zBP:Ann:=⟨24,[(0,zK [2,3] [2,3]),(1,zK [4] [])],
 [],
 [],
 [],[]⟩
abbrev zN1:=Bool
abbrev e118 (r:zN1):List PA:=[.one (.bool r)]
section
variable {K:List PA→Prop} {s:straight} {g:Gate}
def zDs (s:straight) (g:Gate):Bool :=
  (s74 (w64 (s.start+(w64 (s.slope * g.Z)))) (w64 (g.Low * s.den)) (w64 (g.High * s.den)))
end
theorem zN2 (s:straight) (g:Gate) (K:List PA→Prop) (hk:K (e118 (zDs s g))):vcFun Try.prog zN0 zBP 118 [.agg (zaf s),.agg (enc_55 g)] K :=
  zax (by kernel_rfl) hk
def zvk : List PA → COut
  | [.agg [.int .i64 a0_slope,.int .i64 a0_start,.int .i64 a0_den],.agg [.int .i64 a1_Z,.int .i64 a1_Low,.int .i64 a1_High]]=>.tot [.one (.bool (zDs (⟨a0_slope,a0_start,a0_den⟩:straight) (⟨a1_Z,a1_Low,a1_High⟩:Gate)))]
  | _=>.no
theorem zDt:zah Try.prog 118:=⟨_,rfl,rfl,by kernel_rfl⟩
theorem zLk:Ok Try.prog 118 zvk:=zaz zIu zDt fun args K h=>by
  unfold zvk at h
  split at h
  · rename_i a0_slope a0_start a0_den a1_Z a1_Low a1_High
    have hk:=h
    exact ⟨(fun _ _=>[]),(fun _=>false),zBP,zN2 (⟨a0_slope,a0_start,a0_den⟩:straight) (⟨a1_Z,a1_Low,a1_High⟩:Gate) K hk⟩
  · exact h.elim
abbrev zNb:Tabs:=(Tabs.nil.addF 118 zvk)
theorem zIv:TabsOk Try.prog zNb:=(TabsOk.nil.addF zLk)
abbrev zN3:Ctrs:=csm zNb (fun _ _=>[]) (fun _=>false)
def zBQ:Ann:=⟨8,[(0,zK [1,2] [2]),(1,zK [3] [])],
 [],
 [],
 [],[]⟩
abbrev zN4:=Bool
abbrev e117 (r:zN4):List PA:=[.one (.bool r)]
section
variable {K:List PA→Prop} {c0:straight} {g:Gate}
def zDu (c0:straight) (g:Gate):Bool :=
  (!(zDs c0 g))
end
theorem zN5 (c0:straight) (g:Gate) (K:List PA→Prop) (hk:K (e117 (zDu c0 g))):vcFun Try.prog zN3 zBQ 117 [.agg (enc_55 g),.one (.fp (zaf c0) 0)] K :=
  zax (by kernel_rfl) hk
def zvl : List PA → COut
  | [.agg [.int .i64 a0_Z,.int .i64 a0_Low,.int .i64 a0_High],.one (.fp [.int .i64 c0_slope,.int .i64 c0_start,.int .i64 c0_den] 0)]=>.tot [.one (.bool (zDu (⟨c0_slope,c0_start,c0_den⟩:straight) (⟨a0_Z,a0_Low,a0_High⟩:Gate)))]
  | _=>.no
theorem zDv:zah Try.prog 117:=⟨_,rfl,rfl,by kernel_rfl⟩
theorem zLl:Ok Try.prog 117 zvl:=zaz zIv zDv fun args K h=>by
  unfold zvl at h
  split at h
  · rename_i a0_Z a0_Low a0_High c0_slope c0_start c0_den
    have hk:=h
    exact ⟨(fun _ _=>[]),(fun _=>false),zBQ,zN5 (⟨c0_slope,c0_start,c0_den⟩:straight) (⟨a0_Z,a0_Low,a0_High⟩:Gate) K hk⟩
  · exact h.elim
abbrev zNc:Tabs:=Tabs.nil
theorem zIw:TabsOk Try.prog zNc:=TabsOk.nil
abbrev zN6:Ctrs:=csm zNc (fun _ _=>[]) (fun _=>false)
def zBR:Ann:=⟨18,[(0,zK [1,2] [2]),(1,zK [3] [])],
 [],
 [],
 [],[]⟩
abbrev zN7:=Bool
abbrev zN8 (r:zN7):List PA:=[.one (.bool r)]
section
variable {K:List PA→Prop} {c0:straight} {g:Gate}
def zzy (c0:straight) (g:Gate):Bool :=
  ((w64 (c0.start+(w64 (c0.slope * g.Z)))) == (w64 (g.Low * c0.den)))
end
theorem zN9 (c0:straight) (g:Gate) (K:List PA→Prop) (hk:K (zN8 (zzy c0 g))):vcFun Try.prog zN6 zBR 123 [.agg (enc_55 g),.one (.fp (zaf c0) 0)] K :=
  zax (by kernel_rfl) hk
def zvm : List PA → COut
  | [.agg [.int .i64 a0_Z,.int .i64 a0_Low,.int .i64 a0_High],.one (.fp [.int .i64 c0_slope,.int .i64 c0_start,.int .i64 c0_den] 0)]=>.tot [.one (.bool (zzy (⟨c0_slope,c0_start,c0_den⟩:straight) (⟨a0_Z,a0_Low,a0_High⟩:Gate)))]
  | _=>.no
theorem zDw:zah Try.prog 123:=⟨_,rfl,rfl,by kernel_rfl⟩
theorem zLm:Ok Try.prog 123 zvm:=zaz zIw zDw fun args K h=>by
  unfold zvm at h
  split at h
  · rename_i a0_Z a0_Low a0_High c0_slope c0_start c0_den
    have hk:=h
    exact ⟨(fun _ _=>[]),(fun _=>false),zBR,zN9 (⟨c0_slope,c0_start,c0_den⟩:straight) (⟨a0_Z,a0_Low,a0_High⟩:Gate) K hk⟩
  · exact h.elim
abbrev zKP:Tabs:=(((Tabs.nil.addF 100 zvj).addF 117 zvl).addF 123 zvm)
theorem zIx:TabsOk Try.prog zKP:=(((TabsOk.nil.addF zLj).addF zLl).addF zLm)
abbrev zNd:Ctrs:=csm zKP (fun _ _=>[]) (fun _=>false)
def zvn:Ann:=⟨19,[(0,zK [0,1] []),(1,zK [0,1,7,8] []),(2,zK [0,1,7,8,9] []),(3,zK [0,1,5,7,8] []),(4,zK [0,1,5,7,8,16] []),(5,zK [4] []),(6,zK [0,1,7,8] []),(7,zK [4] [])],
 [(2,zK [0,1,7,8] [])],
 [(5,zK [0,1,5,7,8,16] [])],
 [],[]⟩
abbrev zOa:=Int
abbrev e119 (r:zOa):List PA:=[.one (.int .i64 r)]
@[irreducible] def z119:=ptF Try.prog zNd zvn Try.f119
def zvo (c0:list) (sv0:(Sl Gate)) (zaW:Int) (zbP:Int) (zc2:Nat→List PV):St:=⟨[(0,zP (.sl sv0.len 3 zc2)),(1,zP (.fn 100 [] [.fp (zb1 c0) 0])),(7,zI zaW),(8,zI zbP)],[],[]⟩
abbrev zvp (K:List PA→Prop) (c0:list) (X:St→Prop) (P:(Sl Gate)→Int→Int→Bool) (S:(Sl Gate)→Int→Int→Int):Prop:=∀ ⦃sv0:(Sl Gate)⦄ ⦃zaW:Int⦄ ⦃zbP:Int⦄ ⦃zc2:Nat→List PV⦄,P sv0 zaW zbP=true→K (e119 (S sv0 zaW zbP))→zc2=zg enc_55 sv0→X (zvo c0 sv0 zaW zbP zc2)
section
variable {K:List PA→Prop} {c0:list} {s:(Sl Gate)} {sv0:(Sl Gate)} {zaW:Int} {zbP:Int} {zc2:Nat→List PV} {X0:St→Prop} {P0:(Sl Gate)→Int→Int→Bool} {S0:(Sl Gate)→Int→Int→Int} {sv1:(Sl Gate)} {iv1:Int} {zfO:Int} {zjA:Int} {zdx:Bool} {zok:Nat→List PV}
def zmm (S0:(Sl Gate)→Int→Int→Int) (c0:list) (sv1:(Sl Gate)) (iv1:Int) (zfO:Int) (zjA:Int) (zdx:Bool):Int :=
  (cond zdx
 iv1
 (S0 sv1 zfO (w64 (zjA+(1:Int)))))
def zmn (P0:(Sl Gate)→Int→Int→Bool) (c0:list) (sv1:(Sl Gate)) (iv1:Int) (zfO:Int) (zjA:Int) (zdx:Bool):Bool :=
  (cond zdx
 true
 (P0 sv1 zfO (w64 (zjA+(1:Int)))))
theorem zAs (hX0:zvp K c0 X0 P0 S0) (hs:zmn P0 c0 sv1 iv1 zfO zjA zdx=true) (hk:K (e119 (zmm S0 c0 sv1 iv1 zfO zjA zdx))) (zvq:zok=zg enc_55 sv1):z119 K [1,0,1,0,0,1,1,0,0,1,1] [X0] ⟨[(0,zP (.sl sv1.len 3 zok)),(1,zP (.fn 100 [] [.fp (zb1 c0) 0])),(5,zI iv1),(7,zI zfO),(8,zI zjA),(16,zB zdx)],[],[]⟩:=by subst zvq;exact zax (by kernel_rfl) (zc hs hk (fun hs hk=>hk) (fun hs hk=>(hX0 hs hk rfl)))
def ziD (c0:list) (S0:(Sl Gate)→Int→Int→Int) (sv0:(Sl Gate)) (zaW:Int) (zbP:Int):Int :=
  (cond (decide (zbP < zaW))
 (zmm S0 c0 sv0 zbP zaW zbP (zDp c0 (sv0.get zbP.toNat)))
 (-1:Int))
def ziE (c0:list) (P0:(Sl Gate)→Int→Int→Bool) (sv0:(Sl Gate)) (zaW:Int) (zbP:Int):Bool :=
  (cond (decide (zbP < zaW))
 (decide ((0≤zbP∧zbP < (sv0.len:Int))) &&
 (decide ((zDq c0 (sv0.get zbP.toNat)=true)) &&
 (zmn P0 c0 sv0 zbP zaW zbP (zDp c0 (sv0.get zbP.toNat)))))
 true)
def ziF (c0:list):Nat→(Sl Gate)→Int→Int→Int:=lpO (fun _ _ _=>default) (ziD c0)
def ziG (c0:list):Nat→(Sl Gate)→Int→Int→Bool:=lpO (fun _ _ _=>false) (ziE c0)
def zsh (c0:list) (sv0:(Sl Gate)) (zaW:Int) (zbP:Int):Int:=ziF c0 Fuel sv0 zaW zbP
def zsi (c0:list) (sv0:(Sl Gate)) (zaW:Int) (zbP:Int):Bool:=ziG c0 Fuel sv0 zaW zbP
theorem zAt (hs:zsi c0 sv0 zaW zbP=true) (hk:K (e119 (zsh c0 sv0 zaW zbP))) (zjB:zc2=zg enc_55 sv0):z119 K [1,0,1,0] [] (zvo c0 sv0 zaW zbP zc2) :=
  zl (fun X=>z119 K [1,0,1,0,0] [X]) (by kernel_rfl) fun X0 hX =>
  (show ∀ k, zvp K c0 X0 (ziG c0 k) (ziF c0 k) from zfu _ _ (ziE c0) (ziD c0) (zvp K c0 X0)
 (by intro _ _ _ _ hs;exact absurd hs Bool.false_ne_true)
 (by intro P0 S0 hX0 sv0 zaW zbP zc2 hs hk zjB;subst zjB;exact hX _ (zax (by kernel_rfl) (zc hs hk (fun hs hk=>(zaw hs fun hc hs=>And.intro hc (zaw hs fun hc hs=>And.intro (And.intro (zE enc_55 3 c0.Gates.get) hc) (zAs hX0 hs hk rfl)))) (fun hs hk=>hk))))) _ hs hk zjB
def zIy (c0:list) (s:(Sl Gate)):Int :=
  (zsh c0 s (s.len:Int) (0:Int))
def zIz (c0:list) (s:(Sl Gate)):Bool :=
  (zsi c0 s (s.len:Int) (0:Int))
end
theorem zOb (c0:list) (s:(Sl Gate)) (K:List PA→Prop) (hs:zIz c0 s=true) (hk:K (e119 (zIy c0 s))):vcFun Try.prog zNd zvn 119 [.one (.sl s.len 3 (fun i=>enc_55 (s.get i))),.one (.fn 100 [] [.fp (zb1 c0) 0])] K :=
  zax (by kernel_rfl) (zAt hs hk rfl)
abbrev zIA:Ctrs:=csm zKP (fun _ _=>[]) (fun _=>false)
def zpH:Ann:=⟨19,[(0,zK [0,1] []),(1,zK [0,1,7,8] []),(2,zK [0,1,7,8,9] []),(3,zK [0,1,5,7,8] []),(4,zK [0,1,5,7,8,16] []),(5,zK [4] []),(6,zK [0,1,7,8] []),(7,zK [4] [])],
 [(2,zK [0,1,7,8] [])],
 [(5,zK [0,1,5,7,8,16] [])],
 [],[]⟩
abbrev zLn:=Int
abbrev zAu (r:zLn):List PA:=[.one (.int .i64 r)]
@[irreducible] def z119a:=ptF Try.prog zIA zpH Try.f119
def zsj (c0:straight) (sv0:(Sl Gate)) (zaW:Int) (zbP:Int) (zc2:Nat→List PV):St:=⟨[(0,zP (.sl sv0.len 3 zc2)),(1,zP (.fn 117 [] [.fp (zaf c0) 0])),(7,zI zaW),(8,zI zbP)],[],[]⟩
abbrev zpI (K:List PA→Prop) (c0:straight) (X:St→Prop) (P:(Sl Gate)→Int→Int→Bool) (S:(Sl Gate)→Int→Int→Int):Prop:=∀ ⦃sv0:(Sl Gate)⦄ ⦃zaW:Int⦄ ⦃zbP:Int⦄ ⦃zc2:Nat→List PV⦄,P sv0 zaW zbP=true→K (zAu (S sv0 zaW zbP))→zc2=zg enc_55 sv0→X (zsj c0 sv0 zaW zbP zc2)
section
variable {K:List PA→Prop} {c0:straight} {s:(Sl Gate)} {sv0:(Sl Gate)} {zaW:Int} {zbP:Int} {zc2:Nat→List PV} {X0:St→Prop} {P0:(Sl Gate)→Int→Int→Bool} {S0:(Sl Gate)→Int→Int→Int} {sv1:(Sl Gate)} {iv1:Int} {zfO:Int} {zjA:Int} {zdx:Bool} {zok:Nat→List PV}
def zjC (S0:(Sl Gate)→Int→Int→Int) (c0:straight) (sv1:(Sl Gate)) (iv1:Int) (zfO:Int) (zjA:Int) (zdx:Bool):Int :=
  (cond zdx
 iv1
 (S0 sv1 zfO (w64 (zjA+(1:Int)))))
def zjD (P0:(Sl Gate)→Int→Int→Bool) (c0:straight) (sv1:(Sl Gate)) (iv1:Int) (zfO:Int) (zjA:Int) (zdx:Bool):Bool :=
  (cond zdx
 true
 (P0 sv1 zfO (w64 (zjA+(1:Int)))))
theorem zvr (hX0:zpI K c0 X0 P0 S0) (hs:zjD P0 c0 sv1 iv1 zfO zjA zdx=true) (hk:K (zAu (zjC S0 c0 sv1 iv1 zfO zjA zdx))) (zvq:zok=zg enc_55 sv1):z119a K [1,0,1,0,0,1,1,0,0,1,1] [X0] ⟨[(0,zP (.sl sv1.len 3 zok)),(1,zP (.fn 117 [] [.fp (zaf c0) 0])),(5,zI iv1),(7,zI zfO),(8,zI zjA),(16,zB zdx)],[],[]⟩:=by subst zvq;exact zax (by kernel_rfl) (zc hs hk (fun hs hk=>hk) (fun hs hk=>(hX0 hs hk rfl)))
def zgs (c0:straight) (S0:(Sl Gate)→Int→Int→Int) (sv0:(Sl Gate)) (zaW:Int) (zbP:Int):Int :=
  (cond (decide (zbP < zaW))
 (zjC S0 c0 sv0 zbP zaW zbP (zDu c0 (sv0.get zbP.toNat)))
 (-1:Int))
def zgt (c0:straight) (P0:(Sl Gate)→Int→Int→Bool) (sv0:(Sl Gate)) (zaW:Int) (zbP:Int):Bool :=
  (cond (decide (zbP < zaW))
 (decide ((0≤zbP∧zbP < (sv0.len:Int))) &&
 (zjD P0 c0 sv0 zbP zaW zbP (zDu c0 (sv0.get zbP.toNat))))
 true)
def zgu (c0:straight):Nat→(Sl Gate)→Int→Int→Int:=lpO (fun _ _ _=>default) (zgs c0)
def zgv (c0:straight):Nat→(Sl Gate)→Int→Int→Bool:=lpO (fun _ _ _=>false) (zgt c0)
def zol (c0:straight) (sv0:(Sl Gate)) (zaW:Int) (zbP:Int):Int:=zgu c0 Fuel sv0 zaW zbP
def zom (c0:straight) (sv0:(Sl Gate)) (zaW:Int) (zbP:Int):Bool:=zgv c0 Fuel sv0 zaW zbP
theorem zvs (hs:zom c0 sv0 zaW zbP=true) (hk:K (zAu (zol c0 sv0 zaW zbP))) (zjB:zc2=zg enc_55 sv0):z119a K [1,0,1,0] [] (zsj c0 sv0 zaW zbP zc2) :=
  zl (fun X=>z119a K [1,0,1,0,0] [X]) (by kernel_rfl) fun X0 hX =>
  (show ∀ k, zpI K c0 X0 (zgv c0 k) (zgu c0 k) from zfu _ _ (zgt c0) (zgs c0) (zpI K c0 X0)
 (by intro _ _ _ _ hs;exact absurd hs Bool.false_ne_true)
 (by intro P0 S0 hX0 sv0 zaW zbP zc2 hs hk zjB;subst zjB;exact hX _ (zax (by kernel_rfl) (zc hs hk (fun hs hk=>(zaw hs fun hc hs=>And.intro hc (zvr hX0 hs hk rfl))) (fun hs hk=>hk))))) _ hs hk zjB
def zvt (c0:straight) (s:(Sl Gate)):Int :=
  (zol c0 s (s.len:Int) (0:Int))
def zvu (c0:straight) (s:(Sl Gate)):Bool :=
  (zom c0 s (s.len:Int) (0:Int))
end
theorem zLo (c0:straight) (s:(Sl Gate)) (K:List PA→Prop) (hs:zvu c0 s=true) (hk:K (zAu (zvt c0 s))):vcFun Try.prog zIA zpH 119 [.one (.sl s.len 3 (fun i=>enc_55 (s.get i))),.one (.fn 117 [] [.fp (zaf c0) 0])] K :=
  zax (by kernel_rfl) (zvs hs hk rfl)
abbrev zIB:Ctrs:=csm zKP (fun _ _=>[]) (fun _=>false)
def zpJ:Ann:=⟨19,[(0,zK [0,1] []),(1,zK [0,1,7,8] []),(2,zK [0,1,7,8,9] []),(3,zK [0,1,5,7,8] []),(4,zK [0,1,5,7,8,16] []),(5,zK [4] []),(6,zK [0,1,7,8] []),(7,zK [4] [])],
 [(2,zK [0,1,7,8] [])],
 [(5,zK [0,1,5,7,8,16] [])],
 [],[]⟩
abbrev zLp:=Int
abbrev zAv (r:zLp):List PA:=[.one (.int .i64 r)]
@[irreducible] def z119b:=ptF Try.prog zIB zpJ Try.f119
def zsk (c0:straight) (sv0:(Sl Gate)) (zaW:Int) (zbP:Int) (zc2:Nat→List PV):St:=⟨[(0,zP (.sl sv0.len 3 zc2)),(1,zP (.fn 123 [] [.fp (zaf c0) 0])),(7,zI zaW),(8,zI zbP)],[],[]⟩
abbrev zpK (K:List PA→Prop) (c0:straight) (X:St→Prop) (P:(Sl Gate)→Int→Int→Bool) (S:(Sl Gate)→Int→Int→Int):Prop:=∀ ⦃sv0:(Sl Gate)⦄ ⦃zaW:Int⦄ ⦃zbP:Int⦄ ⦃zc2:Nat→List PV⦄,P sv0 zaW zbP=true→K (zAv (S sv0 zaW zbP))→zc2=zg enc_55 sv0→X (zsk c0 sv0 zaW zbP zc2)
section
variable {K:List PA→Prop} {c0:straight} {s:(Sl Gate)} {sv0:(Sl Gate)} {zaW:Int} {zbP:Int} {zc2:Nat→List PV} {X0:St→Prop} {P0:(Sl Gate)→Int→Int→Bool} {S0:(Sl Gate)→Int→Int→Int} {sv1:(Sl Gate)} {iv1:Int} {zfO:Int} {zjA:Int} {zdx:Bool} {zok:Nat→List PV}
def zjE (S0:(Sl Gate)→Int→Int→Int) (c0:straight) (sv1:(Sl Gate)) (iv1:Int) (zfO:Int) (zjA:Int) (zdx:Bool):Int :=
  (cond zdx
 iv1
 (S0 sv1 zfO (w64 (zjA+(1:Int)))))
def zjF (P0:(Sl Gate)→Int→Int→Bool) (c0:straight) (sv1:(Sl Gate)) (iv1:Int) (zfO:Int) (zjA:Int) (zdx:Bool):Bool :=
  (cond zdx
 true
 (P0 sv1 zfO (w64 (zjA+(1:Int)))))
theorem zvv (hX0:zpK K c0 X0 P0 S0) (hs:zjF P0 c0 sv1 iv1 zfO zjA zdx=true) (hk:K (zAv (zjE S0 c0 sv1 iv1 zfO zjA zdx))) (zvq:zok=zg enc_55 sv1):z119b K [1,0,1,0,0,1,1,0,0,1,1] [X0] ⟨[(0,zP (.sl sv1.len 3 zok)),(1,zP (.fn 123 [] [.fp (zaf c0) 0])),(5,zI iv1),(7,zI zfO),(8,zI zjA),(16,zB zdx)],[],[]⟩:=by subst zvq;exact zax (by kernel_rfl) (zc hs hk (fun hs hk=>hk) (fun hs hk=>(hX0 hs hk rfl)))
def zgw (c0:straight) (S0:(Sl Gate)→Int→Int→Int) (sv0:(Sl Gate)) (zaW:Int) (zbP:Int):Int :=
  (cond (decide (zbP < zaW))
 (zjE S0 c0 sv0 zbP zaW zbP (zzy c0 (sv0.get zbP.toNat)))
 (-1:Int))
def zgx (c0:straight) (P0:(Sl Gate)→Int→Int→Bool) (sv0:(Sl Gate)) (zaW:Int) (zbP:Int):Bool :=
  (cond (decide (zbP < zaW))
 (decide ((0≤zbP∧zbP < (sv0.len:Int))) &&
 (zjF P0 c0 sv0 zbP zaW zbP (zzy c0 (sv0.get zbP.toNat))))
 true)
def zgy (c0:straight):Nat→(Sl Gate)→Int→Int→Int:=lpO (fun _ _ _=>default) (zgw c0)
def zgz (c0:straight):Nat→(Sl Gate)→Int→Int→Bool:=lpO (fun _ _ _=>false) (zgx c0)
def zon (c0:straight) (sv0:(Sl Gate)) (zaW:Int) (zbP:Int):Int:=zgy c0 Fuel sv0 zaW zbP
def zoo (c0:straight) (sv0:(Sl Gate)) (zaW:Int) (zbP:Int):Bool:=zgz c0 Fuel sv0 zaW zbP
theorem zvw (hs:zoo c0 sv0 zaW zbP=true) (hk:K (zAv (zon c0 sv0 zaW zbP))) (zjB:zc2=zg enc_55 sv0):z119b K [1,0,1,0] [] (zsk c0 sv0 zaW zbP zc2) :=
  zl (fun X=>z119b K [1,0,1,0,0] [X]) (by kernel_rfl) fun X0 hX =>
  (show ∀ k, zpK K c0 X0 (zgz c0 k) (zgy c0 k) from zfu _ _ (zgx c0) (zgw c0) (zpK K c0 X0)
 (by intro _ _ _ _ hs;exact absurd hs Bool.false_ne_true)
 (by intro P0 S0 hX0 sv0 zaW zbP zc2 hs hk zjB;subst zjB;exact hX _ (zax (by kernel_rfl) (zc hs hk (fun hs hk=>(zaw hs fun hc hs=>And.intro hc (zvv hX0 hs hk rfl))) (fun hs hk=>hk))))) _ hs hk zjB
def zvx (c0:straight) (s:(Sl Gate)):Int :=
  (zon c0 s (s.len:Int) (0:Int))
def zvy (c0:straight) (s:(Sl Gate)):Bool :=
  (zoo c0 s (s.len:Int) (0:Int))
end
theorem zLq (c0:straight) (s:(Sl Gate)) (K:List PA→Prop) (hs:zvy c0 s=true) (hk:K (zAv (zvx c0 s))):vcFun Try.prog zIB zpJ 119 [.one (.sl s.len 3 (fun i=>enc_55 (s.get i))),.one (.fn 123 [] [.fp (zaf c0) 0])] K :=
  zax (by kernel_rfl) (zvw hs hk rfl)
def zvz : List PA → COut
  | [.one (.sl a0_n a0_s a0_g),.one (.fn 100 [] [.fp [.sl c0_Gates_n c0_Gates_s c0_Gates_g] 0])]=>.det (IsE enc_55 3 a0_s a0_g∧IsE enc_55 3 c0_Gates_s c0_Gates_g∧zIz (⟨(⟨c0_Gates_n,zad c0_Gates_g⟩:(Sl Gate))⟩:list) (⟨a0_n,zad a0_g⟩:(Sl Gate))=true) [.one (.int .i64 (zIy (⟨(⟨c0_Gates_n,zad c0_Gates_g⟩:(Sl Gate))⟩:list) (⟨a0_n,zad a0_g⟩:(Sl Gate))))]
  | [.one (.sl a0_n a0_s a0_g),.one (.fn 117 [] [.fp [.int .i64 c0_slope,.int .i64 c0_start,.int .i64 c0_den] 0])]=>.det (IsE enc_55 3 a0_s a0_g∧zvu (⟨c0_slope,c0_start,c0_den⟩:straight) (⟨a0_n,zad a0_g⟩:(Sl Gate))=true) [.one (.int .i64 (zvt (⟨c0_slope,c0_start,c0_den⟩:straight) (⟨a0_n,zad a0_g⟩:(Sl Gate))))]
  | [.one (.sl a0_n a0_s a0_g),.one (.fn 123 [] [.fp [.int .i64 c0_slope,.int .i64 c0_start,.int .i64 c0_den] 0])]=>.det (IsE enc_55 3 a0_s a0_g∧zvy (⟨c0_slope,c0_start,c0_den⟩:straight) (⟨a0_n,zad a0_g⟩:(Sl Gate))=true) [.one (.int .i64 (zvx (⟨c0_slope,c0_start,c0_den⟩:straight) (⟨a0_n,zad a0_g⟩:(Sl Gate))))]
  | _=>.no
theorem zDx:zah Try.prog 119:=⟨_,rfl,rfl,by kernel_rfl⟩
theorem zLr:Ok Try.prog 119 zvz:=zaz zIx zDx fun args K h=>by
  unfold zvz at h
  split at h
  · rename_i a0_n a0_s a0_g c0_Gates_n c0_Gates_s c0_Gates_g
    obtain ⟨⟨⟨rfl,a0_f,rfl⟩,⟨rfl,c0_Gates_f,rfl⟩,hs⟩,hk⟩:=h
    try rw [zac a0_f] at hs
    try rw [zac a0_f] at hk
    try rw [zac c0_Gates_f] at hs
    try rw [zac c0_Gates_f] at hk
    exact ⟨(fun _ _=>[]),(fun _=>false),zvn,zOb (⟨(⟨c0_Gates_n,c0_Gates_f⟩:(Sl Gate))⟩:list) (⟨a0_n,a0_f⟩:(Sl Gate)) K hs hk⟩
  · rename_i a0_n a0_s a0_g c0_slope c0_start c0_den
    obtain ⟨⟨⟨rfl,a0_f,rfl⟩,hs⟩,hk⟩:=h
    try rw [zac a0_f] at hs
    try rw [zac a0_f] at hk
    exact ⟨(fun _ _=>[]),(fun _=>false),zpH,zLo (⟨c0_slope,c0_start,c0_den⟩:straight) (⟨a0_n,a0_f⟩:(Sl Gate)) K hs hk⟩
  · rename_i a0_n a0_s a0_g c0_slope c0_start c0_den
    obtain ⟨⟨⟨rfl,a0_f,rfl⟩,hs⟩,hk⟩:=h
    try rw [zac a0_f] at hs
    try rw [zac a0_f] at hk
    exact ⟨(fun _ _=>[]),(fun _=>false),zpJ,zLq (⟨c0_slope,c0_start,c0_den⟩:straight) (⟨a0_n,a0_f⟩:(Sl Gate)) K hs hk⟩
  · exact h.elim
abbrev T99:Tabs:=(Tabs.nil.addF 119 zvz)
theorem zLs:TabsOk Try.prog T99:=(TabsOk.nil.addF zLr)
abbrev G99:Ctrs:=csm T99 (fun _ _=>[]) (fun _=>false)
def zIC:Ann:=⟨9,[(0,zK [0,1] []),(1,zK [4] [])],
 [],
 [],
 [],[]⟩
abbrev R99:=Bool
abbrev e99 (r:R99):List PA:=[.one (.bool r)]
section
variable {K:List PA→Prop} {c0:list} {s:(Sl Gate)}
def s99 (c0:list) (s:(Sl Gate)):Bool :=
  (decide ((zIy c0 s) ≥ (0:Int)))
def p99 (c0:list) (s:(Sl Gate)):Bool :=
  (decide ((zIz c0 s=true)) &&
 true)
end
theorem q99 (c0:list) (s:(Sl Gate)) (K:List PA→Prop) (hs:p99 c0 s=true) (hk:K (e99 (s99 c0 s))):vcFun Try.prog G99 zIC 99 [.one (.sl s.len 3 (fun i=>enc_55 (s.get i))),.one (.fn 100 [] [.fp (zb1 c0) 0])] K :=
  zax (by kernel_rfl) (zaw hs fun hc hs=>And.intro (And.intro (zE enc_55 3 s.get) (And.intro (zE enc_55 3 c0.Gates.get) hc)) hk)
abbrev zOc:Ctrs:=csm T99 (fun _ _=>[]) (fun _=>false)
def zBS:Ann:=⟨9,[(0,zK [0,1] []),(1,zK [4] [])],
 [],
 [],
 [],[]⟩
abbrev zOd:=Bool
abbrev zOe (r:zOd):List PA:=[.one (.bool r)]
section
variable {K:List PA→Prop} {c0:straight} {s:(Sl Gate)}
def zKQ (c0:straight) (s:(Sl Gate)):Bool :=
  (decide ((zvt c0 s) ≥ (0:Int)))
def zKR (c0:straight) (s:(Sl Gate)):Bool :=
  (decide ((zvu c0 s=true)) &&
 true)
end
theorem zOf (c0:straight) (s:(Sl Gate)) (K:List PA→Prop) (hs:zKR c0 s=true) (hk:K (zOe (zKQ c0 s))):vcFun Try.prog zOc zBS 99 [.one (.sl s.len 3 (fun i=>enc_55 (s.get i))),.one (.fn 117 [] [.fp (zaf c0) 0])] K :=
  zax (by kernel_rfl) (zaw hs fun hc hs=>And.intro (And.intro (zE enc_55 3 s.get) hc) hk)
abbrev zOg:Ctrs:=csm T99 (fun _ _=>[]) (fun _=>false)
def zBT:Ann:=⟨9,[(0,zK [0,1] []),(1,zK [4] [])],
 [],
 [],
 [],[]⟩
abbrev zOh:=Bool
abbrev zOi (r:zOh):List PA:=[.one (.bool r)]
section
variable {K:List PA→Prop} {c0:straight} {s:(Sl Gate)}
def zKS (c0:straight) (s:(Sl Gate)):Bool :=
  (decide ((zvx c0 s) ≥ (0:Int)))
def zKT (c0:straight) (s:(Sl Gate)):Bool :=
  (decide ((zvy c0 s=true)) &&
 true)
end
theorem zOj (c0:straight) (s:(Sl Gate)) (K:List PA→Prop) (hs:zKT c0 s=true) (hk:K (zOi (zKS c0 s))):vcFun Try.prog zOg zBT 99 [.one (.sl s.len 3 (fun i=>enc_55 (s.get i))),.one (.fn 123 [] [.fp (zaf c0) 0])] K :=
  zax (by kernel_rfl) (zaw hs fun hc hs=>And.intro (And.intro (zE enc_55 3 s.get) hc) hk)
def zvA : List PA → COut
  | [.one (.sl a0_n a0_s a0_g),.one (.fn 100 [] [.fp [.sl c0_Gates_n c0_Gates_s c0_Gates_g] 0])]=>.det (IsE enc_55 3 a0_s a0_g∧IsE enc_55 3 c0_Gates_s c0_Gates_g∧p99 (⟨(⟨c0_Gates_n,zad c0_Gates_g⟩:(Sl Gate))⟩:list) (⟨a0_n,zad a0_g⟩:(Sl Gate))=true) [.one (.bool (s99 (⟨(⟨c0_Gates_n,zad c0_Gates_g⟩:(Sl Gate))⟩:list) (⟨a0_n,zad a0_g⟩:(Sl Gate))))]
  | [.one (.sl a0_n a0_s a0_g),.one (.fn 117 [] [.fp [.int .i64 c0_slope,.int .i64 c0_start,.int .i64 c0_den] 0])]=>.det (IsE enc_55 3 a0_s a0_g∧zKR (⟨c0_slope,c0_start,c0_den⟩:straight) (⟨a0_n,zad a0_g⟩:(Sl Gate))=true) [.one (.bool (zKQ (⟨c0_slope,c0_start,c0_den⟩:straight) (⟨a0_n,zad a0_g⟩:(Sl Gate))))]
  | [.one (.sl a0_n a0_s a0_g),.one (.fn 123 [] [.fp [.int .i64 c0_slope,.int .i64 c0_start,.int .i64 c0_den] 0])]=>.det (IsE enc_55 3 a0_s a0_g∧zKT (⟨c0_slope,c0_start,c0_den⟩:straight) (⟨a0_n,zad a0_g⟩:(Sl Gate))=true) [.one (.bool (zKS (⟨c0_slope,c0_start,c0_den⟩:straight) (⟨a0_n,zad a0_g⟩:(Sl Gate))))]
  | _=>.no
theorem zID:zah Try.prog 99:=⟨_,rfl,rfl,by kernel_rfl⟩
theorem zLt:Ok Try.prog 99 zvA:=zaz zLs zID fun args K h=>by
  unfold zvA at h
  split at h
  · rename_i a0_n a0_s a0_g c0_Gates_n c0_Gates_s c0_Gates_g
    obtain ⟨⟨⟨rfl,a0_f,rfl⟩,⟨rfl,c0_Gates_f,rfl⟩,hs⟩,hk⟩:=h
    try rw [zac a0_f] at hs
    try rw [zac a0_f] at hk
    try rw [zac c0_Gates_f] at hs
    try rw [zac c0_Gates_f] at hk
    exact ⟨(fun _ _=>[]),(fun _=>false),zIC,q99 (⟨(⟨c0_Gates_n,c0_Gates_f⟩:(Sl Gate))⟩:list) (⟨a0_n,a0_f⟩:(Sl Gate)) K hs hk⟩
  · rename_i a0_n a0_s a0_g c0_slope c0_start c0_den
    obtain ⟨⟨⟨rfl,a0_f,rfl⟩,hs⟩,hk⟩:=h
    try rw [zac a0_f] at hs
    try rw [zac a0_f] at hk
    exact ⟨(fun _ _=>[]),(fun _=>false),zBS,zOf (⟨c0_slope,c0_start,c0_den⟩:straight) (⟨a0_n,a0_f⟩:(Sl Gate)) K hs hk⟩
  · rename_i a0_n a0_s a0_g c0_slope c0_start c0_den
    obtain ⟨⟨⟨rfl,a0_f,rfl⟩,hs⟩,hk⟩:=h
    try rw [zac a0_f] at hs
    try rw [zac a0_f] at hk
    exact ⟨(fun _ _=>[]),(fun _=>false),zBT,zOj (⟨c0_slope,c0_start,c0_den⟩:straight) (⟨a0_n,a0_f⟩:(Sl Gate)) K hs hk⟩
  · exact h.elim
abbrev T67:Tabs:=(Tabs.nil.addF 99 zvA)
theorem zLu:TabsOk Try.prog T67:=(TabsOk.nil.addF zLt)
abbrev G67:Ctrs:=csm T67 (fun _ _=>[]) (fun _=>false)
def zIE:Ann:=⟨8,[(0,zK [1] [1]),(1,zK [2] [])],
 [],
 [],
 [],[]⟩
abbrev R67:=Bool
abbrev e67 (r:R67):List PA:=[.one (.bool r)]
section
variable {K:List PA→Prop} {l_a0:list}
def s67 (l_a0:list):Bool :=
  (!(s99 l_a0 l_a0.Gates))
def p67 (l_a0:list):Bool :=
  (decide ((p99 l_a0 l_a0.Gates=true)) &&
 true)
end
theorem q67 (l_a0:list) (K:List PA→Prop) (hs:p67 l_a0=true) (hk:K (e67 (s67 l_a0))):vcFun Try.prog G67 zIE 67 [.agg (zb1 l_a0)] K :=
  zax (by kernel_rfl) (zaw hs fun hc hs=>And.intro (And.intro (zE enc_55 3 l_a0.Gates.get) (And.intro (zE enc_55 3 l_a0.Gates.get) hc)) hk)
def zop : List PA → COut
  | [.agg [.sl a0_Gates_n a0_Gates_s a0_Gates_g]]=>.det (IsE enc_55 3 a0_Gates_s a0_Gates_g∧p67 (⟨(⟨a0_Gates_n,zad a0_Gates_g⟩:(Sl Gate))⟩:list)=true) [.one (.bool (s67 (⟨(⟨a0_Gates_n,zad a0_Gates_g⟩:(Sl Gate))⟩:list)))]
  | _=>.no
theorem zIF:zah Try.prog 67:=⟨_,rfl,rfl,by kernel_rfl⟩
theorem zIG:Ok Try.prog 67 zop:=zaz zLu zIF fun args K h=>by
  unfold zop at h
  split at h
  · rename_i a0_Gates_n a0_Gates_s a0_Gates_g
    obtain ⟨⟨⟨rfl,a0_Gates_f,rfl⟩,hs⟩,hk⟩:=h
    try rw [zac a0_Gates_f] at hs
    try rw [zac a0_Gates_f] at hk
    exact ⟨(fun _ _=>[]),(fun _=>false),zIE,q67 (⟨(⟨a0_Gates_n,a0_Gates_f⟩:(Sl Gate))⟩:list) K hs hk⟩
  · exact h.elim
abbrev zNe:Tabs:=Tabs.nil
theorem zIH:TabsOk Try.prog zNe:=TabsOk.nil
abbrev zNf:Ctrs:=csm zNe (fun _ _=>[]) (fun _=>false)
def zvB:Ann:=⟨12,[(0,zK [0,1] []),(1,zK [0,1,6] []),(2,zK [0,1] []),(3,zK [4] [])],
 [(1,zK [0,1] [])],
 [],
 [],[]⟩
abbrev zOk:=Int
abbrev zLv (r:zOk):List PA:=[.one (.int .i64 r)]
@[irreducible] def z114:=ptF Try.prog zNf zvB Try.f114
def zvC (av0:Int) (bv0:Int):St:=⟨[(0,zI av0),(1,zI bv0)],[],[]⟩
abbrev zBU (K:List PA→Prop) (X:St→Prop) (P:Int→Int→Bool) (S:Int→Int→Int):Prop:=∀ ⦃av0:Int⦄ ⦃bv0:Int⦄,P av0 bv0=true→K (zLv (S av0 bv0))→X (zvC av0 bv0)
section
variable {K:List PA→Prop} {a:Int} {b:Int} {av0:Int} {bv0:Int} {X0:St→Prop} {P0:Int→Int→Bool} {S0:Int→Int→Int}
def ziH (S0:Int→Int→Int) (av0:Int) (bv0:Int):Int :=
  (cond (decide (bv0 > (0:Int)))
 (S0 bv0 (av0.tmod bv0))
 av0)
def ziI (P0:Int→Int→Bool) (av0:Int) (bv0:Int):Bool :=
  (cond (decide (bv0 > (0:Int)))
 (decide ((bv0 ≠ 0)) &&
 (P0 bv0 (av0.tmod bv0)))
 true)
def ziJ:Nat→Int→Int→Int:=lpO (fun _ _=>default) (ziH)
def ziK:Nat→Int→Int→Bool:=lpO (fun _ _=>false) (ziI)
def zsl (av0:Int) (bv0:Int):Int:=ziJ Fuel av0 bv0
def zsm (av0:Int) (bv0:Int):Bool:=ziK Fuel av0 bv0
theorem zAw (hs:zsm av0 bv0=true) (hk:K (zLv (zsl av0 bv0))):z114 K [1,0,0] [] (zvC av0 bv0) :=
  zl (fun X=>z114 K [1,0,0,0] [X]) (by kernel_rfl) fun X0 hX =>
  (show ∀ k, zBU K X0 (ziK k) (ziJ k) from zfu _ _ (ziI) (ziH) (zBU K X0)
 (by intro _ _ hs;exact absurd hs Bool.false_ne_true)
 (by intro P0 S0 hX0 av0 bv0 hs hk;exact hX _ (zax (by kernel_rfl) (zc hs hk (fun hs hk=>(zaw hs fun hc hs=>And.intro hc (hX0 hs hk))) (fun hs hk=>hk))))) _ hs hk
def zDy (a:Int) (b:Int):Int :=
  (zsl a b)
def zKU (a:Int) (b:Int):Bool :=
  (zsm a b)
end
theorem zOl (a:Int) (b:Int) (K:List PA→Prop) (hs:zKU a b=true) (hk:K (zLv (zDy a b))):vcFun Try.prog zNf zvB 114 [.one (.int .i64 a),.one (.int .i64 b)] K :=
  zax (by kernel_rfl) (zAw hs hk)
def zvD : List PA → COut
  | [.one (.int .i64 a0),.one (.int .i64 a1)]=>.det (zKU a0 a1=true) [.one (.int .i64 (zDy a0 a1))]
  | _=>.no
theorem zDz:zah Try.prog 114:=⟨_,rfl,rfl,by kernel_rfl⟩
theorem zLw:Ok Try.prog 114 zvD:=zaz zIH zDz fun args K h=>by
  unfold zvD at h
  split at h
  · rename_i a0 a1
    obtain ⟨hs,hk⟩:=h
    exact ⟨(fun _ _=>[]),(fun _=>false),zvB,zOl a0 a1 K hs hk⟩
  · exact h.elim
abbrev T89:Tabs:=(Tabs.nil.addF 114 zvD)
theorem zLx:TabsOk Try.prog T89:=(TabsOk.nil.addF zLw)
abbrev G89:Ctrs:=csm T89 (fun _ _=>[]) (fun _=>false)
def zII:Ann:=⟨19,[(0,zK [0,1,4] [4]),(1,zK [0,1,4,5] [4]),(2,zK [4] [4])],
 [],
 [],
 [],[]⟩
abbrev R89:=Frac
abbrev e89 (r:R89):List PA:=[.agg [.int .i64 r.Num,.int .i64 r.Den]]
section
variable {K:List PA→Prop} {num:Int} {den:Int}
def s89 (num:Int) (den:Int):Frac :=
  (⟨(w64 (num.tdiv (zDy (if (w64 (0 - num)) > num then (w64 (0 - num)) else num) den))),(w64 (den.tdiv (zDy (if (w64 (0 - num)) > num then (w64 (0 - num)) else num) den)))⟩:Frac)
def p89 (num:Int) (den:Int):Bool :=
  (decide ((zKU (if (w64 (0 - num)) > num then (w64 (0 - num)) else num) den=true)) &&
 (decide (((zDy (if (w64 (0 - num)) > num then (w64 (0 - num)) else num) den) ≠ 0)) &&
 (decide (((zDy (if (w64 (0 - num)) > num then (w64 (0 - num)) else num) den) ≠ 0)) &&
 true)))
end
theorem q89 (num:Int) (den:Int) (K:List PA→Prop) (hs:p89 num den=true) (hk:K (e89 (s89 num den))):vcFun Try.prog G89 zII 89 [.one (.int .i64 num),.one (.int .i64 den)] K :=
  zax (by kernel_rfl) (zaw hs fun hc hs=>And.intro hc (zaw hs fun hc hs=>And.intro hc (zaw hs fun hc hs=>And.intro hc hk)))
def zpL : List PA → COut
  | [.one (.int .i64 a0),.one (.int .i64 a1)]=>.det (p89 a0 a1=true) [.agg [.int .i64 ((s89 a0 a1).Num),.int .i64 ((s89 a0 a1).Den)]]
  | _=>.no
theorem zIJ:zah Try.prog 89:=⟨_,rfl,rfl,by kernel_rfl⟩
theorem zKV:Ok Try.prog 89 zpL:=zaz zLx zIJ fun args K h=>by
  unfold zpL at h
  split at h
  · rename_i a0 a1
    obtain ⟨hs,hk⟩:=h
    exact ⟨(fun _ _=>[]),(fun _=>false),zII,q89 a0 a1 K hs hk⟩
  · exact h.elim
abbrev T79:Tabs:=(Tabs.nil.addF 89 zpL)
theorem zLy:TabsOk Try.prog T79:=(TabsOk.nil.addF zKV)
abbrev G79:Ctrs:=csm T79 (fun _ _=>[]) (fun _=>false)
def zIK:Ann:=⟨14,[(0,zK [1,2] [1,2]),(1,zK [2] [2])],
 [],
 [],
 [],[]⟩
abbrev R79:=Line
abbrev e79 (r:R79):List PA:=[.agg [.int .i64 r.Slope.Num,.int .i64 r.Slope.Den,.int .i64 r.Start.Num,.int .i64 r.Start.Den]]
section
variable {K:List PA→Prop} {s:straight}
def s79 (s:straight):Line :=
  (⟨(s89 s.slope s.den),(s89 s.start s.den)⟩:Line)
def p79 (s:straight):Bool :=
  (decide ((p89 s.slope s.den=true)) &&
 (decide ((p89 s.start s.den=true)) &&
 true))
end
theorem q79 (s:straight) (K:List PA→Prop) (hs:p79 s=true) (hk:K (e79 (s79 s))):vcFun Try.prog G79 zIK 79 [.agg (zaf s)] K :=
  zax (by kernel_rfl) (zaw hs fun hc hs=>And.intro hc (zaw hs fun hc hs=>And.intro hc hk))
def zAx : List PA → COut
  | [.agg [.int .i64 a0_slope,.int .i64 a0_start,.int .i64 a0_den]]=>.det (p79 (⟨a0_slope,a0_start,a0_den⟩:straight)=true) [.agg [.int .i64 ((s79 (⟨a0_slope,a0_start,a0_den⟩:straight)).Slope.Num),.int .i64 ((s79 (⟨a0_slope,a0_start,a0_den⟩:straight)).Slope.Den),.int .i64 ((s79 (⟨a0_slope,a0_start,a0_den⟩:straight)).Start.Num),.int .i64 ((s79 (⟨a0_slope,a0_start,a0_den⟩:straight)).Start.Den)]]
  | _=>.no
theorem zIL:zah Try.prog 79:=⟨_,rfl,rfl,by kernel_rfl⟩
theorem zNg:Ok Try.prog 79 zAx:=zaz zLy zIL fun args K h=>by
  unfold zAx at h
  split at h
  · rename_i a0_slope a0_start a0_den
    obtain ⟨hs,hk⟩:=h
    exact ⟨(fun _ _=>[]),(fun _=>false),zIK,q79 (⟨a0_slope,a0_start,a0_den⟩:straight) K hs hk⟩
  · exact h.elim
abbrev T96:Tabs:=Tabs.nil
theorem zLz:TabsOk Try.prog T96:=TabsOk.nil
abbrev G96:Ctrs:=csm T96 (fun _ _=>[]) (fun _=>false)
def zDA:Ann:=⟨4,[(0,⟨[1],[1],[],[],[],[],[]⟩),(1,⟨[2],[],[],[],[],[],[]⟩)],
 [],
 [],
 [],[]⟩
theorem zDB (l_a0 : list) (K : List PA → Prop) :
  vcFun Try.prog G96 zDA 96 [.agg [.sl l_a0.Gates.len 3 (fun i=>enc_55 (l_a0.Gates.get i))]] K =
  (K [.one (.fn 115 [] [.fp (zb1 l_a0) 0])]):=by kernel_rfl
theorem q96 (l_a0:list) (K:List PA→Prop) (hk:K [.one (.fn 115 [] [.fp (zb1 l_a0) 0])]):vcFun Try.prog G96 zDA 96 [.agg [.sl l_a0.Gates.len 3 (fun i=>enc_55 (l_a0.Gates.get i))]] K:=zax (zDB l_a0 K) hk
def zDC : List PA → COut
  | [.agg [.sl a0_Gates_n a0_Gates_s a0_Gates_g]]=>.det (IsE enc_55 3 a0_Gates_s a0_Gates_g) [.one (.fn 115 [] [.fp (zb1 (⟨(⟨a0_Gates_n,zad a0_Gates_g⟩:(Sl Gate))⟩:list)) 0])]
  | _=>.no
theorem zIM:zah Try.prog 96:=⟨_,rfl,rfl,by kernel_rfl⟩
theorem zOm:Ok Try.prog 96 zDC:=zaz zLz zIM fun args K h=>by
  unfold zDC at h
  split at h
  · rename_i a0_Gates_n a0_Gates_s a0_Gates_g
    obtain ⟨⟨rfl,a0_Gates_f,rfl⟩,hk⟩:=h
    try rw [zac a0_Gates_f] at hk
    exact ⟨fun _ _=>[],fun _=>false,zDA,q96 (⟨(⟨a0_Gates_n,a0_Gates_f⟩:(Sl Gate))⟩:list) K hk⟩
  · exact h.elim
abbrev T97:Tabs:=(Tabs.nil.addF 99 zvA)
theorem zLA:TabsOk Try.prog T97:=(TabsOk.nil.addF zLt)
abbrev G97:Ctrs:=csm T97 (fun _ _=>[]) (fun _=>false)
def zDD:Ann:=⟨11,[(0,zK [2,3] [2,3]),(1,zK [4] [])],
 [],
 [],
 [],[]⟩
abbrev R97:=Bool
abbrev e97 (r:R97):List PA:=[.one (.bool r)]
section
variable {K:List PA→Prop} {s:set} {x:straight}
def s97 (s:set) (x:straight):Bool :=
  (!(zKQ x s.list.Gates))
def p97 (s:set) (x:straight):Bool :=
  (decide ((zKR x s.list.Gates=true)) &&
 true)
end
theorem q97 (s:set) (x:straight) (K:List PA→Prop) (hs:p97 s x=true) (hk:K (e97 (s97 s x))):vcFun Try.prog G97 zDD 97 [.agg (zaV s),.agg (zaf x)] K :=
  zax (by kernel_rfl) (zaw hs fun hc hs=>And.intro (And.intro (zE enc_55 3 s.list.Gates.get) hc) hk)
def zDE : List PA → COut
  | [.agg [.sl a0_list_Gates_n a0_list_Gates_s a0_list_Gates_g,.sl a0_corners_n a0_corners_s a0_corners_g],.agg [.int .i64 a1_slope,.int .i64 a1_start,.int .i64 a1_den]]=>.det (IsE enc_55 3 a0_list_Gates_s a0_list_Gates_g∧IsE zaf 3 a0_corners_s a0_corners_g∧p97 (⟨(⟨(⟨a0_list_Gates_n,zad a0_list_Gates_g⟩:(Sl Gate))⟩:list),(⟨a0_corners_n,zaQ a0_corners_g⟩:(Sl straight))⟩:set) (⟨a1_slope,a1_start,a1_den⟩:straight)=true) [.one (.bool (s97 (⟨(⟨(⟨a0_list_Gates_n,zad a0_list_Gates_g⟩:(Sl Gate))⟩:list),(⟨a0_corners_n,zaQ a0_corners_g⟩:(Sl straight))⟩:set) (⟨a1_slope,a1_start,a1_den⟩:straight)))]
  | [.agg [.sl a0_list_Gates_n a0_list_Gates_s a0_list_Gates_g,.nils],.agg [.int .i64 a1_slope,.int .i64 a1_start,.int .i64 a1_den]]=>.det (IsE enc_55 3 a0_list_Gates_s a0_list_Gates_g∧p97 (⟨(⟨(⟨a0_list_Gates_n,zad a0_list_Gates_g⟩:(Sl Gate))⟩:list),(⟨0,fun _=>default⟩:(Sl straight))⟩:set) (⟨a1_slope,a1_start,a1_den⟩:straight)=true) [.one (.bool (s97 (⟨(⟨(⟨a0_list_Gates_n,zad a0_list_Gates_g⟩:(Sl Gate))⟩:list),(⟨0,fun _=>default⟩:(Sl straight))⟩:set) (⟨a1_slope,a1_start,a1_den⟩:straight)))]
  | _=>.no
theorem zIN:zah Try.prog 97:=⟨_,rfl,rfl,by kernel_rfl⟩
theorem zOn:Ok Try.prog 97 zDE:=zg3 zLA zIN fun args K h=>by
  unfold zDE at h
  split at h
  · rename_i a0_list_Gates_n a0_list_Gates_s a0_list_Gates_g a0_corners_n a0_corners_s a0_corners_g a1_slope a1_start a1_den
    obtain ⟨⟨⟨rfl,a0_list_Gates_f,rfl⟩,⟨rfl,a0_corners_f,rfl⟩,hs⟩,hk⟩:=h
    try rw [zac a0_list_Gates_f] at hs
    try rw [zac a0_list_Gates_f] at hk
    try rw [zaL a0_corners_f] at hs
    try rw [zaL a0_corners_f] at hk
    exact ⟨_,zeT zfA _,(fun _ _=>[]),(fun _=>false),zDD,q97 (⟨(⟨(⟨a0_list_Gates_n,a0_list_Gates_f⟩:(Sl Gate))⟩:list),(⟨a0_corners_n,a0_corners_f⟩:(Sl straight))⟩:set) (⟨a1_slope,a1_start,a1_den⟩:straight) (Wk K) hs (zea hk)⟩
  · rename_i a0_list_Gates_n a0_list_Gates_s a0_list_Gates_g a1_slope a1_start a1_den
    obtain ⟨⟨⟨rfl,a0_list_Gates_f,rfl⟩,hs⟩,hk⟩:=h
    try rw [zac a0_list_Gates_f] at hs
    try rw [zac a0_list_Gates_f] at hk
    exact ⟨_,(zc4 (.agg (zc4 (.rfl _) (zc4 (.nil _ _) zg2))) (zc4 (zfA _) zg2)),(fun _ _=>[]),(fun _=>false),zDD,q97 (⟨(⟨(⟨a0_list_Gates_n,a0_list_Gates_f⟩:(Sl Gate))⟩:list),(⟨0,fun _=>default⟩:(Sl straight))⟩:set) (⟨a1_slope,a1_start,a1_den⟩:straight) (Wk K) hs (zea hk)⟩
  · exact h.elim
abbrev zNh:Tabs:=Tabs.nil
theorem zIO:TabsOk Try.prog zNh:=TabsOk.nil
abbrev zNi:Ctrs:=csm zNh (fun _ _=>[]) (fun _=>false)
def zvE:Ann:=⟨30,[(0,zK [0,1,2,3,8] [8]),(1,zK [0,1,2,3,8,11] [8]),(2,zK [0,1,2,3,8] [8]),(3,zK [8] [8])],
 [],
 [(3,zK [0,1,2,3,8] [8])],
 [],[]⟩
abbrev zOo:=straight
abbrev e116 (r:zOo):List PA:=[.agg [.int .i64 r.slope,.int .i64 r.start,.int .i64 r.den]]
@[irreducible] def z116:=ptF Try.prog zNi zvE Try.f116
section
variable {K:List PA→Prop} {z:Int} {p:Int} {y_a2:Int} {q:Int} {zv0:Int} {pv0:Int} {yv0:Int} {qv0:Int}
def ziL (zv0:Int) (pv0:Int) (yv0:Int) (qv0:Int):straight :=
  (⟨(w64 (qv0 - pv0)),(w64 ((w64 (pv0 * yv0)) - (w64 (qv0 * zv0)))),(w64 (yv0 - zv0))⟩:straight)
theorem zsn (hk:K (e116 (ziL zv0 pv0 yv0 qv0))):z116 K [1,1] [] ⟨[(0,zI zv0),(1,zI pv0),(2,zI yv0),(3,zI qv0),(8,zp 8 0)],[(8,.box 118 (zm (zaf (⟨(0:Int),(0:Int),(0:Int)⟩:straight))))],[]⟩:=zax (by kernel_rfl) hk
def zk1 (z:Int) (p:Int) (y_a2:Int) (q:Int):straight :=
  (cond (decide (z > y_a2))
 (ziL y_a2 q z p)
 (ziL z p y_a2 q))
end
theorem zOp (z:Int) (p:Int) (y_a2:Int) (q:Int) (K:List PA→Prop) (hk:K (e116 (zk1 z p y_a2 q))):vcFun Try.prog zNi zvE 116 [.one (.int .i64 z),.one (.int .i64 p),.one (.int .i64 y_a2),.one (.int .i64 q)] K :=
  zax (by kernel_rfl) (zt hk (fun hk=>(zsn hk)) (fun hk=>(zsn hk)))
def zvF : List PA → COut
  | [.one (.int .i64 a0),.one (.int .i64 a1),.one (.int .i64 a2),.one (.int .i64 a3)]=>.tot [.agg [.int .i64 ((zk1 a0 a1 a2 a3).slope),.int .i64 ((zk1 a0 a1 a2 a3).start),.int .i64 ((zk1 a0 a1 a2 a3).den)]]
  | _=>.no
theorem zDF:zah Try.prog 116:=⟨_,rfl,rfl,by kernel_rfl⟩
theorem zLB:Ok Try.prog 116 zvF:=zaz zIO zDF fun args K h=>by
  unfold zvF at h
  split at h
  · rename_i a0 a1 a2 a3
    have hk:=h
    exact ⟨(fun _ _=>[]),(fun _=>false),zvE,zOp a0 a1 a2 a3 K hk⟩
  · exact h.elim
abbrev zNj:Tabs:=(Tabs.nil.addF 116 zvF)
theorem zIP:TabsOk Try.prog zNj:=(TabsOk.nil.addF zLB)
abbrev zvG:Ctrs:=csm zNj (fun _ _=>[]) (fun _=>false)
def zbZ:Ann:=⟨64,[(0,⟨[0,1,12,13,14],[],[],[],[],[],[]⟩),(1,⟨[0,1,12,13,14,15],[],[],[],[],[],[]⟩),(2,⟨[0,1,3,4,12,13,14],[4],[],[],[],[],[]⟩),(3,⟨[0,1,4,12,13,14,23,24,25],[4],[],[],[],[],[]⟩),(4,⟨[0,1,4,12,13,14,23,24,25,26],[4],[],[],[],[],[]⟩),(5,⟨[0,1,4,6,12,13,14,23,24,25],[4,6],[],[],[],[],[]⟩),(6,⟨[0,1,4,6,12,13,14,23,24,25,33],[4,6],[],[],[],[],[]⟩),(7,⟨[0,1,4,6,12,13,14,23,24,25,38,39],[4,6],[],[],[],[],[]⟩),(8,⟨[0,1,4,6,12,13,14,23,24,25,38,39,40],[4,6],[],[],[],[],[]⟩),(9,⟨[0,1,4,6,8,12,13,14,23,24,25,38,39],[4,6],[],[],[],[],[]⟩),(10,⟨[0,1,4,6,8,12,13,14,23,24,25,38,39,46,47],[4,6],[],[],[],[],[]⟩),(11,⟨[0,1,4,6,8,12,13,14,23,24,25,38,39,46,47,48],[4,6],[],[],[],[],[]⟩),(12,⟨[0,1,4,6,8,10,12,13,14,23,24,25,38,39,46,47],[4,6],[],[],[],[],[]⟩),(13,⟨[0,1,4,6,8,12,13,14,23,24,25,38,39,46,47,59],[4,6],[],[],[],[],[]⟩),(14,⟨[0,1,4,6,8,12,13,14,23,24,25,38,39,46,47],[4,6],[],[],[],[],[]⟩),(15,⟨[0,1,4,6,12,13,14,23,24,25,38,39],[4,6],[],[],[],[],[]⟩),(16,⟨[0,1,4,12,13,14,23,24,25],[4],[],[],[],[],[]⟩),(17,⟨[0,1,12,13,14],[],[],[],[],[],[]⟩)],
 [(1,⟨[0,1,12,13,14],[],[],[],[],[],[]⟩),(4,⟨[0,1,4,12,13,14,23,24,25],[4],[],[],[],[4],[]⟩)],
 [],
 [(8,3,⟨[0,1,4,6,12,13,14,23,24,25,38,39],[4,6],[],[],[],[],[]⟩),(11,3,⟨[0,1,4,6,8,12,13,14,23,24,25,38,39,46,47],[4,6],[],[],[],[],[]⟩)],[13]⟩
def zeU (l:Nat) (a:list) (zai:Int):St:=⟨[(0,.one (.c (.p (.yl l)))),(1,.one (.c (.p (.fp (zb1 a) 0)))),(12,.one (.c (.p (.sl a.Gates.len 3 (fun i=>enc_55 (a.Gates.get i)))))),(13,.one (.c (.p (.int .i64 (a.Gates.len:Int))))),(14,.one (.c (.p (.int .i64 zai))))],[],[]⟩
def zgA (l:Nat) (ys:List (List PA)) (a:list) (zai:Int):Prop:=vcY Try.prog zvG zbZ l (cdF Try.f115 [1,0]) (zcY 0 zk6) ys false (zeU l a zai)
def zeV (l:Nat) (a:list) (zaP:Int) (zeW:Nat) (zb2:Nat→List PV) (zbv:Int) (zaC:Int) (zaU:Int) (zbe:Int) (zbg:Int):St:=⟨[(0,.one (.c (.p (.yl l)))),(1,.one (.c (.p (.fp (zb1 a) 0)))),(4,.one (.c (.ptr 4 0))),(12,.one (.c (.p (.sl a.Gates.len 3 (fun i=>enc_55 (a.Gates.get i)))))),(13,.one (.c (.p (.int .i64 (a.Gates.len:Int))))),(14,.one (.c (.p (.int .i64 zaP)))),(23,.one (.c (.p (.sl zeW 3 zb2)))),(24,.one (.c (.p (.int .i64 zbv)))),(25,.one (.c (.p (.int .i64 zaC))))],[(4,.fbox [.int .i64 zaU,.int .i64 zbe,.int .i64 zbg])],[]⟩
def zgB (l:Nat) (X0:List (List PA)→Bool→St→Prop) (ys:List (List PA)) (a:list) (zaP:Int) (zeW:Nat) (zb2:Nat→List PV) (zbv:Int) (zaC:Int) (zaU:Int) (zbe:Int) (zbg:Int):Prop:=vcY Try.prog zvG zbZ l (cdF Try.f115 [1,0,0,1,1,0,0,1,1,0]) (zcY 2 (zcY 1 (zHR (zHT Try.prog zbZ 17 (vcY Try.prog zvG zbZ l (cdF Try.f115 [1,0,0,1,1,1]) (zis Try.prog zbZ 1 X0 (zcY 0 zk6)))) (zis Try.prog zbZ 1 X0 (zcY 0 zk6))))) ys false (zeV l a zaP zeW zb2 zbv zaC zaU zbe zbg)
theorem zAy (l : Nat) (a : list) (ys : List (List PA)) :
  vcIter Try.prog zvG zbZ 115 l [.one (.fp (zb1 a) 0)] ys =
  (zgA l ys a (0:Int)):=by kernel_rfl
def zlG (l:Nat) (X0:List (List PA)→Bool→St→Prop) (ys:List (List PA)) (a:list) (zai:Int):Prop :=
  (zcL (decide (zai < (a.Gates.len : Int)))
 (((0≤zai∧zai < (a.Gates.len:Int))) ∧
 (((0≤(w64 (zai+(1:Int)))∧(w64 (zai+(1:Int)))≤(a.Gates.len:Int)∧(a.Gates.len:Int)≤(a.Gates.len:Int))) ∧
 (zgB l  X0 ys a zai (((a.Gates.len:Int) - (w64 (zai+(1:Int)))).toNat) (slG (fun i=>enc_55 (a.Gates.get i)) ((w64 (zai+(1:Int))).toNat)) (((a.Gates.len:Int) - (w64 (zai+(1:Int)))).toNat:Int) (0:Int) ((a.Gates.get zai.toNat).Z) ((a.Gates.get zai.toNat).Low) ((a.Gates.get zai.toNat).High))))
 (ys=[]))
theorem zoq (l : Nat) (X0 : List (List PA) → Bool → St → Prop) (ys : List (List PA)) (a : list) (zai : Int) :
  vcY Try.prog zvG zbZ l (cd (cdF Try.f115 [1,0]) [0]) (zis Try.prog zbZ 1 X0 (zcY 0 zk6)) ys false (zeU l a zai) =
  zlG l X0 ys a zai:=by kernel_rfl
theorem ztU (l : Nat) (ys : List (List PA)) (a : list) (zai : Int)
  (h:∀ X0:List (List PA)→Bool→St→Prop,(∀ (ys:List (List PA)) (zai:Int),zlG l X0 ys a zai→X0 ys false (zeU l a zai))→X0 ys false (zeU l a zai)) :
  zgA l ys a zai:=by
  have e:zgA l ys a zai=(∀ X:List (List PA)→Bool→St→Prop,(∀ ys q s,vcY Try.prog zvG zbZ l (cd (cdF Try.f115 [1,0]) [0]) (zis Try.prog zbZ 1 X (zcY 0 zk6)) ys q s→X ys q s)→X ys false (zeU l a zai)):=by kernel_rfl
  refine zax e ?_
  intro X hX
  refine h X ?_
  intro ys zai hs
  refine hX _ _ _ ?_
  have e2:=zoq l X ys a zai
  rw [e2]
  exact hs
def zlH (l:Nat) (X0:List (List PA)→Bool→St→Prop) (X1:List (List PA)→Bool→St→Prop) (ys:List (List PA)) (a:list) (zaP:Int) (zaG:(Sl Gate)) (zbv:Int) (zaC:Int) (zaU:Int) (zbe:Int) (zbg:Int):Prop :=
  (zcL (decide (zaC < zbv))
 (((0≤zaC∧zaC < (zaG.len:Int))) ∧
 (zcL (zaU == (zaG.get zaC.toNat).Z)
 (X1 ys false (zeV l a zaP zaG.len (fun i=>enc_55 (zaG.get i)) zbv (w64 (zaC+(1:Int))) zaU zbe zbg))
 (l=l∧∃ r1,ys=[.agg [.int .i64 ((zk1 zaU zbe ((zaG.get zaC.toNat).Z) ((zaG.get zaC.toNat).Low)).slope),.int .i64 ((zk1 zaU zbe ((zaG.get zaC.toNat).Z) ((zaG.get zaC.toNat).Low)).start),.int .i64 ((zk1 zaU zbe ((zaG.get zaC.toNat).Z) ((zaG.get zaC.toNat).Low)).den)]] :: r1 ∧
 (l=l∧∃ r2,r1=[.agg [.int .i64 ((zk1 zaU zbe ((zaG.get zaC.toNat).Z) ((zaG.get zaC.toNat).High)).slope),.int .i64 ((zk1 zaU zbe ((zaG.get zaC.toNat).Z) ((zaG.get zaC.toNat).High)).start),.int .i64 ((zk1 zaU zbe ((zaG.get zaC.toNat).Z) ((zaG.get zaC.toNat).High)).den)]] :: r2 ∧
 (l=l∧∃ r3,r2=[.agg [.int .i64 ((zk1 zaU zbg ((zaG.get zaC.toNat).Z) ((zaG.get zaC.toNat).Low)).slope),.int .i64 ((zk1 zaU zbg ((zaG.get zaC.toNat).Z) ((zaG.get zaC.toNat).Low)).start),.int .i64 ((zk1 zaU zbg ((zaG.get zaC.toNat).Z) ((zaG.get zaC.toNat).Low)).den)]] :: r3 ∧
 (l=l∧∃ r4,r3=[.agg [.int .i64 ((zk1 zaU zbg ((zaG.get zaC.toNat).Z) ((zaG.get zaC.toNat).High)).slope),.int .i64 ((zk1 zaU zbg ((zaG.get zaC.toNat).Z) ((zaG.get zaC.toNat).High)).start),.int .i64 ((zk1 zaU zbg ((zaG.get zaC.toNat).Z) ((zaG.get zaC.toNat).High)).den)]] :: r4 ∧
 (X1 r4 false (zeV l a zaP zaG.len (fun i=>enc_55 (zaG.get i)) zbv (w64 (zaC+(1:Int))) zaU zbe zbg))∧True)∧True)∧True)∧True)))
 (X0 ys false (zeU l a (w64 (zaP+(1:Int))))))
theorem zor (l : Nat) (X0 : List (List PA) → Bool → St → Prop) (X1 : List (List PA) → Bool → St → Prop) (ys : List (List PA)) (a : list) (zaP : Int) (zaG : (Sl Gate)) (zbv : Int) (zaC : Int) (zaU : Int) (zbe : Int) (zbg : Int) :
  vcY Try.prog zvG zbZ l (cd (cdF Try.f115 [1,0,0,1,1,0,0,1,1,0]) [0]) (zis Try.prog zbZ 4 X1 (zcY 2 (zcY 1 (zHR (zHT Try.prog zbZ 17 (vcY Try.prog zvG zbZ l (cdF Try.f115 [1,0,0,1,1,1]) (zis Try.prog zbZ 1 X0 (zcY 0 zk6)))) (zis Try.prog zbZ 1 X0 (zcY 0 zk6)))))) ys false (zeV l a zaP zaG.len (fun i=>enc_55 (zaG.get i)) zbv zaC zaU zbe zbg) =
  zlH l  X0 X1 ys a zaP zaG zbv zaC zaU zbe zbg:=by kernel_rfl
theorem ztV (l : Nat) (X0 : List (List PA) → Bool → St → Prop) (ys : List (List PA)) (a : list) (zaP : Int) (zeW : Nat) (zb2 : Nat → List PV) (zbv : Int) (zaC : Int) (zaU : Int) (zbe : Int) (zbg : Int)
  (h:∀ X1:List (List PA)→Bool→St→Prop,(∀ (ys:List (List PA)) (zaP:Int) (zaG:(Sl Gate)) (zbv:Int) (zaC:Int) (zaU:Int) (zbe:Int) (zbg:Int),zlH l  X0 X1 ys a zaP zaG zbv zaC zaU zbe zbg→X1 ys false (zeV l a zaP zaG.len (fun i=>enc_55 (zaG.get i)) zbv zaC zaU zbe zbg))→X1 ys false (zeV l a zaP zeW zb2 zbv zaC zaU zbe zbg)) :
  zgB l  X0 ys a zaP zeW zb2 zbv zaC zaU zbe zbg:=by
  have e:zgB l  X0 ys a zaP zeW zb2 zbv zaC zaU zbe zbg=(∀ X:List (List PA)→Bool→St→Prop,(∀ ys q s,vcY Try.prog zvG zbZ l (cd (cdF Try.f115 [1,0,0,1,1,0,0,1,1,0]) [0]) (zis Try.prog zbZ 4 X (zcY 2 (zcY 1 (zHR (zHT Try.prog zbZ 17 (vcY Try.prog zvG zbZ l (cdF Try.f115 [1,0,0,1,1,1]) (zis Try.prog zbZ 1 X0 (zcY 0 zk6)))) (zis Try.prog zbZ 1 X0 (zcY 0 zk6)))))) ys q s→X ys q s)→X ys false (zeV l a zaP zeW zb2 zbv zaC zaU zbe zbg)):=by kernel_rfl
  refine zax e ?_
  intro X hX
  refine h X ?_
  intro ys zaP zaG zbv zaC zaU zbe zbg hs
  refine hX _ _ _ ?_
  have e2:=zor l  X0 X ys a zaP zaG zbv zaC zaU zbe zbg
  rw [e2]
  exact hs
attribute [irreducible] zgA zgB
def zeu (S0:Int→List straight) (a:list) (S1:Int→(Sl Gate)→Int→Int→Int→Int→Int→List straight) (zaP:Int) (zaG:(Sl Gate)) (zbv:Int) (zaC:Int) (zaU:Int) (zbe:Int) (zbg:Int):List straight :=
  (cond (decide (zaC < zbv))
 (cond (zaU == (zaG.get zaC.toNat).Z)
 (S1 zaP zaG zbv (w64 (zaC+(1:Int))) zaU zbe zbg)
 ((zk1 zaU zbe ((zaG.get zaC.toNat).Z) ((zaG.get zaC.toNat).Low)) :: ((zk1 zaU zbe ((zaG.get zaC.toNat).Z) ((zaG.get zaC.toNat).High)) :: ((zk1 zaU zbg ((zaG.get zaC.toNat).Z) ((zaG.get zaC.toNat).Low)) :: ((zk1 zaU zbg ((zaG.get zaC.toNat).Z) ((zaG.get zaC.toNat).High)) :: (S1 zaP zaG zbv (w64 (zaC+(1:Int))) zaU zbe zbg))))))
 (S0 (w64 (zaP+(1:Int)))))
def zev (P0:Int→Bool) (a:list) (P1:Int→(Sl Gate)→Int→Int→Int→Int→Int→Bool) (zaP:Int) (zaG:(Sl Gate)) (zbv:Int) (zaC:Int) (zaU:Int) (zbe:Int) (zbg:Int):Bool :=
  (cond (decide (zaC < zbv))
 (decide ((0≤zaC∧zaC < (zaG.len:Int))) &&
 (cond (zaU == (zaG.get zaC.toNat).Z)
 (P1 zaP zaG zbv (w64 (zaC+(1:Int))) zaU zbe zbg)
 (P1 zaP zaG zbv (w64 (zaC+(1:Int))) zaU zbe zbg)))
 (P0 (w64 (zaP+(1:Int)))))
def zdh (S0 : Int → List straight) (a : list) : Nat → Int → (Sl Gate) → Int → Int → Int → Int → Int → List straight
  | 0=>fun _ _ _ _ _ _ _=>[]
  | k+1=>zeu S0 a (zdh S0 a k)
def zdi (P0 : Int → Bool) (a : list) : Nat → Int → (Sl Gate) → Int → Int → Int → Int → Int → Bool
  | 0=>fun _ _ _ _ _ _ _=>false
  | k+1=>zev P0 a (zdi P0 a k)
def zmo (S0:Int→List straight) (a:list) (zaP:Int) (zaG:(Sl Gate)) (zbv:Int) (zaC:Int) (zaU:Int) (zbe:Int) (zbg:Int):List straight:=zdh S0 a Fuel zaP zaG zbv zaC zaU zbe zbg
def zmp (P0:Int→Bool) (a:list) (zaP:Int) (zaG:(Sl Gate)) (zbv:Int) (zaC:Int) (zaU:Int) (zbe:Int) (zbg:Int):Bool:=zdi P0 a Fuel zaP zaG zbv zaC zaU zbe zbg
theorem zAz (l : Nat) (a : list)
  (X0:List (List PA)→Bool→St→Prop) (P0:Int→Bool) (S0:Int→List straight)
  (hX0:∀ (ys:List (List PA)) (zai:Int),P0 zai=true→ys=(S0 zai).map (fun y=>[.agg (zaf y)])→X0 ys false (zeU l a zai)) (ys:List (List PA)) (zaP:Int) (zaG:(Sl Gate)) (zbv:Int) (zaC:Int) (zaU:Int) (zbe:Int) (zbg:Int) (zb2:Nat→List PV) (zjG:zb2=fun i=>enc_55 (zaG.get i)) (hs:zmp P0 a zaP zaG zbv zaC zaU zbe zbg=true) (hk:ys=(zmo S0 a zaP zaG zbv zaC zaU zbe zbg).map (fun y=>[.agg (zaf y)])):zgB l  X0 ys a zaP zaG.len zb2 zbv zaC zaU zbe zbg:=by
  refine ztV l  X0 ys a zaP zaG.len zb2 zbv zaC zaU zbe zbg ?_
  intro X1 hstep
  have key:∀ (k:Nat) (ys:List (List PA)) (zaP:Int) (zaG:(Sl Gate)) (zbv:Int) (zaC:Int) (zaU:Int) (zbe:Int) (zbg:Int) (zb2:Nat→List PV) (zjG:zb2=fun i=>enc_55 (zaG.get i)),zdi P0 a k zaP zaG zbv zaC zaU zbe zbg=true→ys=(zdh S0 a k zaP zaG zbv zaC zaU zbe zbg).map (fun y=>[.agg (zaf y)])→X1 ys false (zeV l a zaP zaG.len zb2 zbv zaC zaU zbe zbg):=by
    intro k
    induction k with
    | zero=>intro ys zaP zaG zbv zaC zaU zbe zbg zb2 zjG hs;exact absurd hs Bool.false_ne_true
    | succ k ih =>
      intro ys zaP zaG zbv zaC zaU zbe zbg zb2 zjG hs hk
      subst zjG
      refine hstep ys zaP zaG zbv zaC zaU zbe zbg ?_
      have hs:zev P0 a (zdi P0 a k) zaP zaG zbv zaC zaU zbe zbg=true:=hs
      have hk:ys=(zeu S0 a (zdh S0 a k) zaP zaG zbv zaC zaU zbe zbg).map (fun y=>[.agg (zaf y)]):=hk
      unfold zev at hs
      unfold zeu at hk
      generalize zdh S0 a k=S1 at hk ih
      generalize zdi P0 a k=P1 at hs ih
      have hX1:=ih
      exact (zmk hs hk
 (fun hs hk => (zaw hs fun hc hs => ⟨hc, (zmk hs hk
 (fun hs hk=>(hX1 _ zaP zaG zbv (w64 (zaC+(1:Int))) zaU zbe zbg (fun i=>enc_55 (zaG.get i)) rfl hs hk))
 (fun hs hk=>(itY hk rfl (fun _ hk=>(itY hk rfl (fun _ hk=>(itY hk rfl (fun _ hk=>(itY hk rfl (fun _ hk=>(hX1 _ zaP zaG zbv (w64 (zaC+(1:Int))) zaU zbe zbg (fun i=>enc_55 (zaG.get i)) rfl hs hk)))))))))))⟩))
 (fun hs hk=>(hX0 _ (w64 (zaP+(1:Int))) hs hk)))
  exact key _ _ zaP zaG zbv zaC zaU zbe zbg zb2 zjG hs hk
def zew (a:list) (S0:Int→List straight) (zai:Int):List straight :=
  (cond (decide (zai < (a.Gates.len : Int)))
 (zmo S0 a zai (⟨((a.Gates.len:Int) - (w64 (zai+(1:Int)))).toNat,(fun i=>a.Gates.get (i+((w64 (zai+(1:Int))).toNat)))⟩:Sl Gate) (((a.Gates.len:Int) - (w64 (zai+(1:Int)))).toNat:Int) (0:Int) ((a.Gates.get zai.toNat).Z) ((a.Gates.get zai.toNat).Low) ((a.Gates.get zai.toNat).High))
 [])
def zex (a:list) (P0:Int→Bool) (zai:Int):Bool :=
  (cond (decide (zai < (a.Gates.len : Int)))
 (decide ((0≤zai∧zai < (a.Gates.len:Int))) &&
 (decide ((0≤(w64 (zai+(1:Int)))∧(w64 (zai+(1:Int)))≤(a.Gates.len:Int)∧(a.Gates.len:Int)≤(a.Gates.len:Int))) &&
 (zmp P0 a zai (⟨((a.Gates.len:Int) - (w64 (zai+(1:Int)))).toNat,(fun i=>a.Gates.get (i+((w64 (zai+(1:Int))).toNat)))⟩:Sl Gate) (((a.Gates.len:Int) - (w64 (zai+(1:Int)))).toNat:Int) (0:Int) ((a.Gates.get zai.toNat).Z) ((a.Gates.get zai.toNat).Low) ((a.Gates.get zai.toNat).High))))
 true)
def zdj (a : list) : Nat → Int → List straight
  | 0=>fun _=>[]
  | k+1=>zew a (zdj a k)
def zdk (a : list) : Nat → Int → Bool
  | 0=>fun _=>false
  | k+1=>zex a (zdk a k)
def zso (a:list) (zai:Int):List straight:=zdj a Fuel zai
def zsp (a:list) (zai:Int):Bool:=zdk a Fuel zai
theorem zAA (l:Nat) (a:list) (ys:List (List PA)) (zai:Int) (hs:zsp a zai=true) (hk:ys=(zso a zai).map (fun y=>[.agg (zaf y)])):zgA l ys a zai:=by
  refine ztU l ys a zai ?_
  intro X0 hstep
  have key:∀ (k:Nat) (ys:List (List PA)) (zai:Int),zdk a k zai=true→ys=(zdj a k zai).map (fun y=>[.agg (zaf y)])→X0 ys false (zeU l a zai):=by
    intro k
    induction k with
    | zero=>intro ys zai hs;exact absurd hs Bool.false_ne_true
    | succ k ih =>
      intro ys zai hs hk
      refine hstep ys zai ?_
      have hs:zex a (zdk a k) zai=true:=hs
      have hk:ys=(zew a (zdj a k) zai).map (fun y=>[.agg (zaf y)]):=hk
      unfold zex at hs
      unfold zew at hk
      generalize zdj a k=S0 at hk ih
      generalize zdk a k=P0 at hs ih
      have hX0:=ih
      exact (zmk hs hk
 (fun hs hk=>(zaw hs fun hc hs=>⟨hc,(zaw hs fun hc hs=>⟨hc,(zAz l a X0 P0 S0 hX0 _ zai (⟨((a.Gates.len:Int) - (w64 (zai+(1:Int)))).toNat,(fun i=>a.Gates.get (i+((w64 (zai+(1:Int))).toNat)))⟩:Sl Gate) (((a.Gates.len:Int) - (w64 (zai+(1:Int)))).toNat:Int) (0:Int) ((a.Gates.get zai.toNat).Z) ((a.Gates.get zai.toNat).Low) ((a.Gates.get zai.toNat).High) (slG (fun i=>enc_55 (a.Gates.get i)) ((w64 (zai+(1:Int))).toNat)) rfl hs hk)⟩)⟩))
 (fun hs hk=>hk))
  exact key _ _ zai hs hk
def zBV (a:list):List straight :=
  (zso a (0:Int))
def zDG (a:list):Bool :=
  (zsp a (0:Int))
theorem zOq (l:Nat) (a:list) (ys:List (List PA)) (hs:zDG a=true) (hk:ys=(zBV a).map (fun y=>[.agg (zaf y)])):vcIter Try.prog zvG zbZ 115 l [.one (.fp (zb1 a) 0)] ys:=by
  refine zax (zAy l a ys) ?_
  unfold zDG at hs
  unfold zBV at hk
  exact (zAA l a _ (0:Int) hs hk)
def zDH : List PA → Option (Prop × List (List PA))
  | [.one (.fp [.sl a_Gates_n a_Gates_s a_Gates_g] 0)]=>some (IsE enc_55 3 a_Gates_s a_Gates_g∧zDG (⟨(⟨a_Gates_n,zad a_Gates_g⟩:(Sl Gate))⟩:list)=true,(zBV (⟨(⟨a_Gates_n,zad a_Gates_g⟩:(Sl Gate))⟩:list)).map fun y=>[.agg (zaf y)])
  | _=>none
theorem zDI:zah Try.prog 115:=⟨_,rfl,rfl,by kernel_rfl⟩
theorem zLC:zBv Try.prog 115 zDH:=zIe zIP zDI fun l caps safe ys h hs=>by
  unfold zDH at h
  split at h
  · rename_i a_Gates_n a_Gates_s a_Gates_g
    cases h
    obtain ⟨⟨rfl,a_Gates_f,rfl⟩,hs⟩:=hs
    try rw [zac a_Gates_f] at hs
    try rw [zac a_Gates_f]
    exact ⟨fun _ _=>[],fun _=>false,zbZ,zOq l (⟨(⟨a_Gates_n,a_Gates_f⟩:(Sl Gate))⟩:list) _ hs rfl⟩
  · cases h
abbrev T65:Tabs:=(((((Tabs.nil.addF 67 zop).addF 79 zAx).addF 96 zDC).addF 97 zDE).addI 115 zDH)
theorem zLD:TabsOk Try.prog T65:=(((((TabsOk.nil.addF zIG).addF zNg).addF zOm).addF zOn).addI zLC)
abbrev G65:Ctrs:=csm T65 (fun _ _=>[]) (fun l=>Nat.beq l 14)
def zgC:Ann:=⟨39,[(0,⟨[0,2],[2],[],[],[],[],[]⟩),(1,⟨[2,3],[2,3],[],[],[],[],[]⟩),(2,⟨[2,3,12],[2,3],[],[],[],[],[]⟩),(3,⟨[2],[2],[],[],[],[],[]⟩),(4,⟨[2,3,4],[2,3,4,14],[],[],[],[],[]⟩),(5,⟨[2,3,4,17],[2,3,4,14],[],[],[],[],[]⟩),(6,⟨[2,3,4,5,17],[2,3,4,5,14,36],[],[],[],[],[]⟩),(7,⟨[2,3,4,5,6,17],[2,3,4,5,6,14,36],[],[],[],[],[]⟩),(8,⟨[2,3,4,5,6,17,29],[2,3,4,5,6,14,36],[],[],[],[],[]⟩),(9,⟨[2,3,4,5,17],[2,3,4,5,14,36],[],[],[],[],[]⟩),(10,⟨[2,3,4,17],[2,3,4,14,36],[],[],[],[],[]⟩),(11,⟨[2],[2,36],[],[],[],[],[]⟩)],
 [(6,⟨[2,3,4,17],[2,3,4,14,36],[],[(3,1,36,118,fun _=>zaf default)],[],[],[]⟩)],
 [(3,⟨[2,3,12],[2,3],[],[],[],[],[]⟩),(4,⟨[2,3],[2,3],[],[],[],[],[]⟩)],
 [],[]⟩
def zIQ (zaa:(Sl Gate)) (zaI:Bool):St:=⟨[(2,.one (.c (.ptr 2 0))),(3,.one (.c (.ptr 3 0))),(12,.one (.c (.p (.bool zaI))))],[(2,.box 104 [.p (.nils),.p (.nils)]),(3,.box 104 [.p (.sl zaa.len 3 (fun i=>enc_55 (zaa.get i))),.p (.nils)])],[]⟩
def zmq (K:List PA→Prop) (zaa:(Sl Gate)) (zaI:Bool):Prop:=vc Try.prog G65 zgC (cdF Try.f65 [1,1,0,1]) (sqK Try.prog G65 zgC (cdF Try.f65 [1,1,1]) (zco Try.prog Try.f65 K)) (zIQ zaa zaI)
def zIR (zaa:(Sl Gate)):St:=⟨[(2,.one (.c (.ptr 2 0))),(3,.one (.c (.ptr 3 0)))],[(2,.box 104 [.p (.nils),.p (.nils)]),(3,.box 104 [.p (.sl zaa.len 3 (fun i=>enc_55 (zaa.get i))),.p (.nils)])],[]⟩
def zmr (K:List PA→Prop) (zaa:(Sl Gate)):Prop:=vc Try.prog G65 zgC (cdF Try.f65 [1,1,1]) (zco Try.prog Try.f65 K) (zIR zaa)
def zeX (zaa:(Sl Gate)) (zeY:Nat) (zb3:Nat→List PV) (zar:Nat) (zal:(List Int→Option (List Int))):St:=⟨[(2,.one (.c (.ptr 2 0))),(3,.one (.c (.ptr 3 0))),(4,.one (.c (.ptr 4 0))),(17,.one (.c (.p (.fn 115 [] [.fp (zb1 (⟨zaa⟩:list)) 0]))))],[(2,.box 104 [.p (.nils),.p (.nils)]),(3,.box 104 [.p (.sl zaa.len 3 (fun i=>enc_55 (zaa.get i))),.vec 36]),(4,.box 136 [.mo 14]),(14,.mo 37 4 (true,4,false,[none]) zar zal),(36,.vec 118 3 24 zeY zb3)],[]⟩
def zjH (K:List PA→Prop) (zaa:(Sl Gate)) (zeY:Nat) (zb3:Nat→List PV) (zar:Nat) (zal:(List Int→Option (List Int))):Prop:=vc Try.prog G65 zgC (cdF Try.f65 [1,1,1,1,0,1,0]) (zaY 0 (sqK Try.prog G65 zgC (cdF Try.f65 [1,1,1,1,1]) (zco Try.prog Try.f65 K))) (zeX zaa zeY zb3 zar zal)
theorem zDJ (zaa : (Sl Gate)) (K : List PA → Prop) :
  vcFun Try.prog G65 zgC 65 [.one (.sl zaa.len 3 (fun i=>enc_55 (zaa.get i)))] K =
  ((IsE enc_55 3 3 (fun i=>enc_55 (zaa.get i))∧(p67 (⟨zaa⟩:list)=true)) ∧
 (zmq K zaa (s67 (⟨zaa⟩:list)))):=by kernel_rfl
theorem zDK (K : List PA → Prop) (zaa : (Sl Gate)) (zaI : Bool) :
  zmq K zaa zaI =
  (zcL zaI
 (K [.agg [.sl zaa.len 3 (fun i=>enc_55 (zaa.get i)),.nils]])
 (zmr K zaa)):=by kernel_rfl
theorem zDL (K : List PA → Prop) (zaa : (Sl Gate)) :
  zmr K zaa =
  ((IsE enc_55 3 3 (fun i=>enc_55 (zaa.get i))) ∧
 (zjH K zaa 0 (fun i=>zaf ((fun _=>default) i)) 0 (fun _=>none))):=by kernel_rfl
def zos (K:List PA→Prop) (zaa:(Sl Gate)) (zaA:(Sl straight)) (zar:Nat) (zal:(List Int→Option (List Int))):Prop :=
  (K [.agg [.sl zaa.len 3 (fun i=>enc_55 (zaa.get i)),.sl zaA.len 3 (fun i=>zaf (zaA.get i))]])
def zot (K:List PA→Prop) (X2:List (List PA)→St→Prop) (y2:straight) (rest2:List (List PA)) (zaa:(Sl Gate)) (zaA:(Sl straight)) (zar:Nat) (zal:(List Int→Option (List Int))):Prop :=
  (((p79 y2=true)) ∧
 (zcL (!((zdI (zal [(s79 y2).Slope.Num, (s79 y2).Slope.Den, (s79 y2).Start.Num, (s79 y2).Start.Den]) 0) != 0))
 ((IsE enc_55 3 3 (fun i=>enc_55 (zaa.get i))∧IsE zaf 3 3 (fun i=>zaf (zaA.get i))∧(p97 (⟨(⟨zaa⟩:list),zaA⟩:set) y2=true)) ∧
 (zcL (s97 (⟨(⟨zaa⟩ : list), zaA⟩ : set) y2)
 ((((zaA.len+1) * 24≤140737488355328∧zaA.len+1≤9223372036854775807)) ∧
 (X2 rest2 (zeX zaa (zaA.len+1) (appG zaA.len (fun i=>zaf (zaA.get i)) (fun _=>(zaf y2))) (addN (zal [(s79 y2).Slope.Num,(s79 y2).Slope.Den,(s79 y2).Start.Num,(s79 y2).Start.Den]) zar) (zle [(s79 y2).Slope.Num,(s79 y2).Slope.Den,(s79 y2).Start.Num,(s79 y2).Start.Den] [1] zal))))
 (X2 rest2 (zeX zaa zaA.len (fun i=>zaf (zaA.get i)) zar zal))))
 (X2 rest2 (zeX zaa zaA.len (fun i=>zaf (zaA.get i)) zar zal))))
theorem zpM (K:List PA→Prop) (zaa:(Sl Gate)) (zaA:(Sl straight)) (zar:Nat) (zal:(List Int→Option (List Int))):(zaY 0 (sqK Try.prog G65 zgC (cdF Try.f65 [1,1,1,1,1]) (zco Try.prog Try.f65 K))) .normal (zeX zaa zaA.len (fun i=>zaf (zaA.get i)) zar zal)=zos K zaa zaA zar zal:=by kernel_rfl
theorem zpN (K : List PA → Prop) (X2 : List (List PA) → St → Prop) (y2 : straight) (rest2 : List (List PA)) (zaa : (Sl Gate)) (zaA : (Sl straight)) (zar : Nat) (zal : (List Int → Option (List Int))) :
  zM8 Try.prog G65 zgC 6 [18] (cd (cdF Try.f65 [1,1,1,1,0,1,0]) [0]) (cd (cdF Try.f65 [1,1,1,1,0,1,0]) [1]) X2 (zaY 0 (sqK Try.prog G65 zgC (cdF Try.f65 [1,1,1,1,1]) (zco Try.prog Try.f65 K))) [.agg (zaf y2)] rest2 (zeX zaa zaA.len (fun i=>zaf (zaA.get i)) zar zal)=zot K X2 y2 rest2 zaa zaA zar zal:=by kernel_rfl
theorem zvH (K : List PA → Prop) (zaa : (Sl Gate)) (zeY : Nat) (zb3 : Nat → List PV) (zar : Nat) (zal : (List Int → Option (List Int)))
  (hsafe:IsE enc_55 3 3 (fun i=>enc_55 ((⟨zaa⟩:list).Gates.get i))∧(zDG (⟨zaa⟩:list)=true)) (h:∀ X2:List (List PA)→St→Prop,(∀ (zaA:(Sl straight)) (zar:Nat) (zal:(List Int→Option (List Int))),zos K zaa zaA zar zal→X2 [] (zeX zaa zaA.len (fun i=>zaf (zaA.get i)) zar zal))→(∀ (y:straight) (rest:List (List PA)) (zaA:(Sl straight)) (zar:Nat) (zal:(List Int→Option (List Int))),zot K X2 y rest zaa zaA zar zal→X2 ([.agg (zaf y)] :: rest) (zeX zaa zaA.len (fun i=>zaf (zaA.get i)) zar zal))→X2 ((zBV (⟨zaa⟩:list)).map fun y=>[.agg (zaf y)]) (zeX zaa zeY zb3 zar zal)) :
  zjH K zaa zeY zb3 zar zal:=by
  have e:zjH K zaa zeY zb3 zar zal=((IsE enc_55 3 3 (fun i=>enc_55 ((⟨zaa⟩:list).Gates.get i))∧(zDG (⟨zaa⟩:list)=true))∧∀ X:List (List PA)→St→Prop,(∀ s,(zaY 0 (sqK Try.prog G65 zgC (cdF Try.f65 [1,1,1,1,1]) (zco Try.prog Try.f65 K))) .normal s→X [] s)→(∀ y rest s,zM8 Try.prog G65 zgC 6 [18] (cd (cdF Try.f65 [1,1,1,1,0,1,0]) [0]) (cd (cdF Try.f65 [1,1,1,1,0,1,0]) [1]) X (zaY 0 (sqK Try.prog G65 zgC (cdF Try.f65 [1,1,1,1,1]) (zco Try.prog Try.f65 K))) y rest s→X (y :: rest) s)→X ((zBV (⟨zaa⟩:list)).map fun y=>[.agg (zaf y)]) (zeX zaa zeY zb3 zar zal)):=by kernel_rfl
  refine zax e ⟨hsafe,?_⟩
  intro X h0 h1
  refine h X (fun zaA zar zal hs=>h0 _ ?_) (fun y rest zaA zar zal hs=>h1 _ rest _ ?_)
  · rw [zpM K zaa zaA zar zal];exact hs
  · have e2 := zpN K X y rest zaa zaA zar zal
    rw [e2];exact hs
abbrev e65 (r:set):List PA:=[.agg [.sl r.list.Gates.len 3 (fun i=>enc_55 (r.list.Gates.get i)),.sl r.corners.len 3 (fun i=>zaf (r.corners.get i))]]
attribute [irreducible] zmq zmr zjH
def zpO (zaa:(Sl Gate)) (zaA:(Sl straight)) (zar:Nat) (zal:(List Int→Option (List Int))):set :=
  (⟨(⟨zaa⟩:list),zaA⟩:set)
def zpP (zaa:(Sl Gate)) (zaA:(Sl straight)) (zar:Nat) (zal:(List Int→Option (List Int))):Bool :=
  true
def zjI (zaa:(Sl Gate)) (y2:straight) (S2:(Sl straight)→Nat→(List Int→Option (List Int))→set) (zaA:(Sl straight)) (zar:Nat) (zal:(List Int→Option (List Int))):set :=
  (cond (!((zdI (zal [(s79 y2).Slope.Num, (s79 y2).Slope.Den, (s79 y2).Start.Num, (s79 y2).Start.Den]) 0) != 0))
 (cond (s97 (⟨(⟨zaa⟩ : list), zaA⟩ : set) y2)
 (S2 (⟨(zaA.len+1),(zc7 zaA.len zaA.get (fun _=>y2))⟩:Sl straight) (addN (zal [(s79 y2).Slope.Num,(s79 y2).Slope.Den,(s79 y2).Start.Num,(s79 y2).Start.Den]) zar) (zle [(s79 y2).Slope.Num,(s79 y2).Slope.Den,(s79 y2).Start.Num,(s79 y2).Start.Den] [1] zal))
 (S2 zaA zar zal))
 (S2 zaA zar zal))
def zjJ (zaa:(Sl Gate)) (y2:straight) (P2:(Sl straight)→Nat→(List Int→Option (List Int))→Bool) (zaA:(Sl straight)) (zar:Nat) (zal:(List Int→Option (List Int))):Bool :=
  (decide ((p79 y2=true)) &&
 (cond (!((zdI (zal [(s79 y2).Slope.Num, (s79 y2).Slope.Den, (s79 y2).Start.Num, (s79 y2).Start.Den]) 0) != 0))
 (decide ((p97 (⟨(⟨zaa⟩:list),zaA⟩:set) y2=true)) &&
 (cond (s97 (⟨(⟨zaa⟩ : list), zaA⟩ : set) y2)
 (decide (((zaA.len+1) * 24≤140737488355328∧zaA.len+1≤9223372036854775807)) &&
 (P2 (⟨(zaA.len+1),(zc7 zaA.len zaA.get (fun _=>y2))⟩:Sl straight) (addN (zal [(s79 y2).Slope.Num,(s79 y2).Slope.Den,(s79 y2).Start.Num,(s79 y2).Start.Den]) zar) (zle [(s79 y2).Slope.Num,(s79 y2).Slope.Den,(s79 y2).Start.Num,(s79 y2).Start.Den] [1] zal)))
 (P2 zaA zar zal)))
 (P2 zaA zar zal)))
def zeZ (zaa : (Sl Gate)) : List straight → (Sl straight) → Nat → (List Int → Option (List Int)) → set
  | []=>zpO zaa
  | y :: r=>zjI zaa y (zeZ zaa r)
def ze0 (zaa : (Sl Gate)) : List straight → (Sl straight) → Nat → (List Int → Option (List Int)) → Bool
  | []=>zpP zaa
  | y :: r=>zjJ zaa y (ze0 zaa r)
def zpQ (zaa:(Sl Gate)) (zaA:(Sl straight)) (zar:Nat) (zal:(List Int→Option (List Int))):set:=zeZ zaa (zBV (⟨zaa⟩:list)) zaA zar zal
def zms (zaa:(Sl Gate)) (zaA:(Sl straight)) (zar:Nat) (zal:(List Int→Option (List Int))):Bool:=decide ((zDG (⟨zaa⟩:list)=true)) && ze0 zaa (zBV (⟨zaa⟩:list)) zaA zar zal
theorem zDM (K:List PA→Prop) (zaa:(Sl Gate)) (zaA:(Sl straight)) (zar:Nat) (zal:(List Int→Option (List Int))) (zb3:Nat→List PV) (zha:zb3=fun i=>zaf (zaA.get i)) (hs:zms zaa zaA zar zal=true) (hk:K (e65 (zpQ zaa zaA zar zal))):zjH (Wk K) zaa zaA.len zb3 zar zal:=by
  unfold zms at hs
  rw [Bool.and_eq_true] at hs
  obtain ⟨hsf,hs⟩:=hs
  have hc:=of_decide_eq_true hsf
  refine zvH (Wk K) zaa zaA.len zb3 zar zal ⟨isE,hc⟩ ?_
  intro X2 hexit hstep
  have key:∀ (l:List straight) (zaA:(Sl straight)) (zar:Nat) (zal:(List Int→Option (List Int))) (zb3:Nat→List PV) (zha:zb3=fun i=>zaf (zaA.get i)),ze0 zaa l zaA zar zal=true→K (e65 (zeZ zaa l zaA zar zal))→X2 (l.map fun y=>[.agg (zaf y)]) (zeX zaa zaA.len zb3 zar zal):=by
    intro l
    induction l with
    | nil =>
      intro zaA zar zal zb3 zha hs hk
      subst zha
      refine hexit zaA zar zal ?_
      have hs:zpP zaa zaA zar zal=true:=hs
      have hk:K (e65 (zpO zaa zaA zar zal)):=hk
      unfold zpP at hs
      unfold zpO at hk
      exact (zea hk)
    | cons y2 l ih =>
      intro zaA zar zal zb3 zha hs hk
      subst zha
      refine hstep y2 _ zaA zar zal ?_
      have hs:zjJ zaa y2 (ze0 zaa l) zaA zar zal=true:=hs
      have hk:K (e65 (zjI zaa y2 (zeZ zaa l) zaA zar zal)):=hk
      unfold zjJ at hs
      unfold zjI at hk
      generalize zeZ zaa l=S2 at hk ih
      generalize ze0 zaa l=P2 at hs ih
      have hX2:=ih
      exact (zaw hs fun hc hs => ⟨hc, (zcg (K := fun r => K (e65 r))
 (fun hs hk => (zaw hs fun hc hs => ⟨⟨isE, isE, hc⟩, (zcg (K := fun r => K (e65 r))
 (fun hs hk=>(zaw hs fun hc hs=>⟨hc,(hX2 (⟨(zaA.len+1),(zc7 zaA.len zaA.get (fun _=>y2))⟩:Sl straight) (addN (zal [(s79 y2).Slope.Num,(s79 y2).Slope.Den,(s79 y2).Start.Num,(s79 y2).Start.Den]) zar) (zle [(s79 y2).Slope.Num,(s79 y2).Slope.Den,(s79 y2).Start.Num,(s79 y2).Start.Den] [1] zal) (appG zaA.len (fun i=>zaf (zaA.get i)) (fun _=>(zaf y2))) (zim (enc:=zaf) (f:=zaA.get) (h:=(fun _=>y2)) rfl rfl) hs hk)⟩))
 (fun hs hk=>(hX2 zaA zar zal (fun i=>zaf (zaA.get i)) rfl hs hk)) hs hk)⟩))
 (fun hs hk=>(hX2 zaA zar zal (fun i=>zaf (zaA.get i)) rfl hs hk)) hs hk)⟩)
  exact key _ zaA zar zal zb3 zha hs hk
def zmt (zaa:(Sl Gate)):set :=
  (zpQ zaa (⟨0,(fun _=>default)⟩:Sl straight) 0 (fun _=>none))
def zmu (zaa:(Sl Gate)):Bool :=
  (zms zaa (⟨0,(fun _=>default)⟩:Sl straight) 0 (fun _=>none))
theorem zDN (K:List PA→Prop) (zaa:(Sl Gate)) (hs:zmu zaa=true) (hk:K (e65 (zmt zaa))):zmr (Wk K) zaa:=by
  refine zax (zDL (Wk K) zaa) ?_
  unfold zmu at hs
  unfold zmt at hk
  exact ⟨isE,(zDM K zaa (⟨0,(fun _=>default)⟩:Sl straight) 0 (fun _=>none) (fun i=>zaf ((fun _=>default) i)) rfl hs hk)⟩
def zmv (zaa:(Sl Gate)) (zaI:Bool):set :=
  (cond zaI
 (⟨(⟨zaa⟩:list),(⟨0,fun _=>default⟩:(Sl straight))⟩:set)
 (zmt zaa))
def zmw (zaa:(Sl Gate)) (zaI:Bool):Bool :=
  (cond zaI
 true
 (zmu zaa))
theorem zDO (K:List PA→Prop) (zaa:(Sl Gate)) (zaI:Bool) (hs:zmw zaa zaI=true) (hk:K (e65 (zmv zaa zaI))):zmq (Wk K) zaa zaI:=by
  refine zax (zDK (Wk K) zaa zaI) ?_
  unfold zmw at hs
  unfold zmv at hk
  exact (zcg (K := fun r => K (e65 r))
 (fun hs hk=>(wk hk (zc4 (.agg (zc4 (.rfl _) (zc4 (.nil _ _) zg2))) zg2)))
 (fun hs hk=>(zDN K zaa hs hk)) hs hk)
def s65 (zaa:(Sl Gate)):set :=
  (zmv zaa (s67 (⟨zaa⟩:list)))
def p65 (zaa:(Sl Gate)):Bool :=
  (decide ((p67 (⟨zaa⟩:list)=true)) &&
 (zmw zaa (s67 (⟨zaa⟩:list))))
theorem q65 (zaa:(Sl Gate)) (K:List PA→Prop) (hs:p65 zaa=true) (hk:K (e65 (s65 zaa))):vcFun Try.prog G65 zgC 65 [.one (.sl zaa.len 3 (fun i=>enc_55 (zaa.get i)))] (Wk K):=by
  refine zax (zDJ zaa (Wk K)) ?_
  unfold p65 at hs
  unfold s65 at hk
  exact (zaw hs fun hc hs=>⟨⟨isE,hc⟩,(zDO K zaa (s67 (⟨zaa⟩:list)) hs hk)⟩)
def zvI : List PA → COut
  | [.one (.sl a0_n a0_s a0_g)]=>.det (IsE enc_55 3 a0_s a0_g∧p65 (⟨a0_n,zad a0_g⟩:(Sl Gate))=true) [.agg [.sl ((s65 (⟨a0_n,zad a0_g⟩:(Sl Gate))).list.Gates.len) 3 (fun i=>enc_55 ((s65 (⟨a0_n,zad a0_g⟩:(Sl Gate))).list.Gates.get i)),.sl ((s65 (⟨a0_n,zad a0_g⟩:(Sl Gate))).corners.len) 3 (fun i=>zaf ((s65 (⟨a0_n,zad a0_g⟩:(Sl Gate))).corners.get i))]]
  | _=>.no
theorem zIS:zah Try.prog 65:=⟨_,rfl,rfl,by kernel_rfl⟩
theorem zLE:Ok Try.prog 65 zvI:=zg3 zLD zIS fun args K h=>by
  unfold zvI at h
  split at h
  · rename_i a0_n a0_s a0_g
    obtain ⟨⟨⟨rfl,a0_f,rfl⟩,hs⟩,hk⟩:=h
    try rw [zac a0_f] at hs
    try rw [zac a0_f] at hk
    exact ⟨_,zeT zfA _,(fun _ _=>[]),(fun l=>Nat.beq l 14),zgC,q65 (⟨a0_n,a0_f⟩:(Sl Gate)) K hs hk⟩
  · exact h.elim
abbrev T98:Tabs:=Tabs.nil
theorem zLF:TabsOk Try.prog T98:=TabsOk.nil
abbrev G98:Ctrs:=csm T98 (fun _ _=>[]) (fun _=>false)
def zDP:Ann:=⟨38,[(0,zK [1,2] [1,2]),(1,zK [1,2,3] [1,2,3]),(2,zK [2,3,18,19,20] [2,3]),(3,zK [2,3,18,19,20,21] [2,3]),(4,zK [2,3,5,18,19,20] [2,3,5]),(5,zK [2,3,18,19,20] [2,3]),(6,zK [2,3,18,19,20] [2,3]),(7,zK [2] [2])],
 [(3,zK [2,3,18,19,20] [2,3])],
 [],
 [],[]⟩
abbrev R98:=Span
abbrev e98 (r:R98):List PA:=[.agg [.int .i64 r.Low,.int .i64 r.High]]
@[irreducible] def z98:=ptF Try.prog G98 zDP Try.f98
def zBW (l_a0:list) (zcx:Int) (zao:Int) (zaq:Int):St:=⟨[(2,zp 2 0),(3,zp 3 0),(18,zS enc_55 3 l_a0.Gates),(19,zI (l_a0.Gates.len:Int)),(20,zI zcx)],[(2,.box 96 (zm (zBM (⟨(0:Int),(0:Int)⟩:Span)))),(3,.box 96 (zm (zBM (⟨zao,zaq⟩:Span))))],[]⟩
abbrev zIT (K:List PA→Prop) (l_a0:list) (X:St→Prop) (P:Int→Int→Int→Bool) (S:Int→Int→Int→Span):Prop:=∀ ⦃zcx:Int⦄ ⦃zao:Int⦄ ⦃zaq:Int⦄,P zcx zao zaq=true→K (e98 (S zcx zao zaq))→X (zBW l_a0 zcx zao zaq)
section
variable {K:List PA→Prop} {l_a0:list} {zcx:Int} {zao:Int} {zaq:Int} {X0:St→Prop} {P0:Int→Int→Int→Bool} {S0:Int→Int→Int→Span}
def zhb (l_a0:list) (S0:Int→Int→Int→Span) (zcx:Int) (zao:Int) (zaq:Int):Span :=
  (cond (decide (zcx < (l_a0.Gates.len : Int)))
 (S0 (w64 (zcx+(1:Int))) (if (l_a0.Gates.get zcx.toNat).Low > zao then (l_a0.Gates.get zcx.toNat).Low else zao) (if (l_a0.Gates.get zcx.toNat).High < zaq then (l_a0.Gates.get zcx.toNat).High else zaq))
 (⟨zao,zaq⟩:Span))
def zhc (l_a0:list) (P0:Int→Int→Int→Bool) (zcx:Int) (zao:Int) (zaq:Int):Bool :=
  (cond (decide (zcx < (l_a0.Gates.len : Int)))
 (decide ((0≤zcx∧zcx < (l_a0.Gates.len:Int))) &&
 (P0 (w64 (zcx+(1:Int))) (if (l_a0.Gates.get zcx.toNat).Low > zao then (l_a0.Gates.get zcx.toNat).Low else zao) (if (l_a0.Gates.get zcx.toNat).High < zaq then (l_a0.Gates.get zcx.toNat).High else zaq)))
 true)
def zhd (l_a0:list):Nat→Int→Int→Int→Span:=lpO (fun _ _ _=>default) (zhb l_a0)
def zhe (l_a0:list):Nat→Int→Int→Int→Bool:=lpO (fun _ _ _=>false) (zhc l_a0)
def zvJ (l_a0:list) (zcx:Int) (zao:Int) (zaq:Int):Span:=zhd l_a0 Fuel zcx zao zaq
def zvK (l_a0:list) (zcx:Int) (zao:Int) (zaq:Int):Bool:=zhe l_a0 Fuel zcx zao zaq
theorem zDQ (hs:zvK l_a0 zcx zao zaq=true) (hk:K (e98 (zvJ l_a0 zcx zao zaq))):z98 K [1,1,0,1,0] [] (zBW l_a0 zcx zao zaq) :=
  zl (fun X=>z98 K [1,1,0,1,0,0] [X]) (by kernel_rfl) fun X0 hX =>
  (show ∀ k, zIT K l_a0 X0 (zhe l_a0 k) (zhd l_a0 k) from zfu _ _ (zhc l_a0) (zhb l_a0) (zIT K l_a0 X0)
 (by intro _ _ _ hs;exact absurd hs Bool.false_ne_true)
 (by intro P0 S0 hX0 zcx zao zaq hs hk;exact hX _ (zax (by kernel_rfl) (zc hs hk (fun hs hk=>(zaw hs fun hc hs=>And.intro hc (hX0 hs hk))) (fun hs hk=>hk))))) _ hs hk
def s98 (l_a0:list):Span :=
  (zvJ l_a0 (0:Int) ((l_a0.Gates.get 0).Low) ((l_a0.Gates.get 0).High))
def p98 (l_a0:list):Bool :=
  (decide ((0≤(0:Int)∧(0:Int) < (l_a0.Gates.len:Int))) &&
 (decide ((0≤(0:Int)∧(0:Int) < (l_a0.Gates.len:Int))) &&
 (zvK l_a0 (0:Int) ((l_a0.Gates.get 0).Low) ((l_a0.Gates.get 0).High))))
end
theorem q98 (l_a0:list) (K:List PA→Prop) (hs:p98 l_a0=true) (hk:K (e98 (s98 l_a0))):vcFun Try.prog G98 zDP 98 [.agg (zb1 l_a0)] K :=
  zax (by kernel_rfl) (zaw hs fun hc hs=>And.intro hc (zaw hs fun hc hs=>And.intro hc (zDQ hs hk)))
def zAB : List PA → COut
  | [.agg [.sl a0_Gates_n a0_Gates_s a0_Gates_g]]=>.det (IsE enc_55 3 a0_Gates_s a0_Gates_g∧p98 (⟨(⟨a0_Gates_n,zad a0_Gates_g⟩:(Sl Gate))⟩:list)=true) [.agg [.int .i64 ((s98 (⟨(⟨a0_Gates_n,zad a0_Gates_g⟩:(Sl Gate))⟩:list)).Low),.int .i64 ((s98 (⟨(⟨a0_Gates_n,zad a0_Gates_g⟩:(Sl Gate))⟩:list)).High)]]
  | _=>.no
theorem zIU:zah Try.prog 98:=⟨_,rfl,rfl,by kernel_rfl⟩
theorem zNk:Ok Try.prog 98 zAB:=zaz zLF zIU fun args K h=>by
  unfold zAB at h
  split at h
  · rename_i a0_Gates_n a0_Gates_s a0_Gates_g
    obtain ⟨⟨⟨rfl,a0_Gates_f,rfl⟩,hs⟩,hk⟩:=h
    try rw [zac a0_Gates_f] at hs
    try rw [zac a0_Gates_f] at hk
    exact ⟨(fun _ _=>[]),(fun _=>false),zDP,q98 (⟨(⟨a0_Gates_n,a0_Gates_f⟩:(Sl Gate))⟩:list) K hs hk⟩
  · exact h.elim
abbrev T66:Tabs:=((Tabs.nil.addF 67 zop).addF 98 zAB)
theorem zLG:TabsOk Try.prog T66:=((TabsOk.nil.addF zIG).addF zNk)
abbrev G66:Ctrs:=csm T66 (fun _ _=>[]) (fun _=>false)
def zIV:Ann:=⟨19,[(0,zK [1] [1]),(1,zK [1,3] [1,3]),(2,zK [1,3,9] [1,3]),(3,zK [2] []),(4,zK [2] [])],
 [],
 [],
 [],[]⟩
abbrev R66:=Bool
abbrev e66 (r:R66):List PA:=[.one (.bool r)]
section
variable {K:List PA→Prop} {s:set}
def s66 (s:set):Bool :=
  (cond (s67 s.list)
 (decide ((s98 s.list).Low≤(s98 s.list).High))
 (decide ((s.corners.len:Int) > (0:Int))))
def p66 (s:set):Bool :=
  (decide ((p98 s.list=true)) &&
 (decide ((p67 s.list=true)) &&
 true))
end
theorem q66 (s:set) (K:List PA→Prop) (hs:p66 s=true) (hk:K (e66 (s66 s))):vcFun Try.prog G66 zIV 66 [.agg (zaV s)] K :=
  zax (by kernel_rfl) (zaw hs fun hc hs=>And.intro (And.intro (zE enc_55 3 s.list.Gates.get) hc) (zaw hs fun hc hs=>And.intro (And.intro (zE enc_55 3 s.list.Gates.get) hc) (zt hk (fun hk=>hk) (fun hk=>hk))))
def zvL : List PA → COut
  | [.agg [.sl a0_list_Gates_n a0_list_Gates_s a0_list_Gates_g,.sl a0_corners_n a0_corners_s a0_corners_g]]=>.det (IsE enc_55 3 a0_list_Gates_s a0_list_Gates_g∧IsE zaf 3 a0_corners_s a0_corners_g∧p66 (⟨(⟨(⟨a0_list_Gates_n,zad a0_list_Gates_g⟩:(Sl Gate))⟩:list),(⟨a0_corners_n,zaQ a0_corners_g⟩:(Sl straight))⟩:set)=true) [.one (.bool (s66 (⟨(⟨(⟨a0_list_Gates_n,zad a0_list_Gates_g⟩:(Sl Gate))⟩:list),(⟨a0_corners_n,zaQ a0_corners_g⟩:(Sl straight))⟩:set)))]
  | _=>.no
theorem zIW:zah Try.prog 66:=⟨_,rfl,rfl,by kernel_rfl⟩
theorem zLH:Ok Try.prog 66 zvL:=zaz zLG zIW fun args K h=>by
  unfold zvL at h
  split at h
  · rename_i a0_list_Gates_n a0_list_Gates_s a0_list_Gates_g a0_corners_n a0_corners_s a0_corners_g
    obtain ⟨⟨⟨rfl,a0_list_Gates_f,rfl⟩,⟨rfl,a0_corners_f,rfl⟩,hs⟩,hk⟩:=h
    try rw [zac a0_list_Gates_f] at hs
    try rw [zac a0_list_Gates_f] at hk
    try rw [zaL a0_corners_f] at hs
    try rw [zaL a0_corners_f] at hk
    exact ⟨(fun _ _=>[]),(fun _=>false),zIV,q66 (⟨(⟨(⟨a0_list_Gates_n,a0_list_Gates_f⟩:(Sl Gate))⟩:list),(⟨a0_corners_n,a0_corners_f⟩:(Sl straight))⟩:set) K hs hk⟩
  · exact h.elim
abbrev T84:Tabs:=((Tabs.nil.addF 65 zvI).addF 66 zvL)
theorem zLI:TabsOk Try.prog T84:=((TabsOk.nil.addF zLE).addF zLH)
abbrev G84:Ctrs:=csm T84 (fun _ _=>[]) (fun _=>false)
def zDR:Ann:=⟨25,[(0,zK [0,1] []),(1,zK [0,1,5] []),(2,zK [0,5,8,9,10] []),(3,zK [0,5,8,9,10,11] [20]),(4,zK [0,5,7,8,9,10] [20]),(5,zK [0,5,8,9,10] [20]),(6,zK [0,5,8,9,10] [20]),(7,zK [4] [])],
 [(3,⟨[0,5,8,9,10],[20],[(5,20,55,fun _=>enc_55 default)],[],[],[],[]⟩)],
 [],
 [],[]⟩
abbrev R84:=Bool
abbrev e84 (r:R84):List PA:=[.one (.bool r)]
@[irreducible] def z84:=ptF Try.prog G84 zDR Try.f84
def zBX (zaa:(Sl Gate)) (l_a1:(Sl Int)) (zcU:Int) (zcj:(Sl Gate)) (ze1:Nat→List PV):St:=⟨[(0,zS enc_55 3 zaa),(5,zv 20),(8,zS zaj 1 l_a1),(9,zI (l_a1.len:Int)),(10,zI zcU)],[(20,.vec 55 3 24 zcj.len ze1)],[]⟩
abbrev zIX (K:List PA→Prop) (zaa:(Sl Gate)) (l_a1:(Sl Int)) (X:St→Prop) (P:Int→(Sl Gate)→Bool) (S:Int→(Sl Gate)→Bool):Prop:=∀ ⦃zcU:Int⦄ ⦃zcj:(Sl Gate)⦄ ⦃ze1:Nat→List PV⦄,P zcU zcj=true→K (e84 (S zcU zcj))→ze1=zg enc_55 zcj→X (zBX zaa l_a1 zcU zcj ze1)
section
variable {K:List PA→Prop} {zaa:(Sl Gate)} {l_a1:(Sl Int)} {zcU:Int} {zcj:(Sl Gate)} {ze1:Nat→List PV} {X0:St→Prop} {P0:Int→(Sl Gate)→Bool} {S0:Int→(Sl Gate)→Bool}
def zhf (zaa:(Sl Gate)) (l_a1:(Sl Int)) (S0:Int→(Sl Gate)→Bool) (zcU:Int) (zcj:(Sl Gate)):Bool :=
  (cond (decide (zcU < (l_a1.len : Int)))
 (S0 (w64 (zcU+(1:Int))) (⟨(zcj.len+1),(zc7 zcj.len zcj.get (fun _=>(zaa.get ((l_a1.get zcU.toNat).toNat))))⟩:Sl Gate))
 (s66 (s65 zcj)))
def zhg (zaa:(Sl Gate)) (l_a1:(Sl Int)) (P0:Int→(Sl Gate)→Bool) (zcU:Int) (zcj:(Sl Gate)):Bool :=
  (cond (decide (zcU < (l_a1.len : Int)))
 (decide ((0≤zcU∧zcU < (l_a1.len:Int))) &&
 (decide ((0≤(l_a1.get zcU.toNat)∧(l_a1.get zcU.toNat) < (zaa.len:Int))) &&
 (decide (((zcj.len+1) * 24≤140737488355328∧zcj.len+1≤9223372036854775807)) &&
 (P0 (w64 (zcU+(1:Int))) (⟨(zcj.len+1),(zc7 zcj.len zcj.get (fun _=>(zaa.get ((l_a1.get zcU.toNat).toNat))))⟩:Sl Gate)))))
 (decide ((p65 zcj=true)) &&
 (decide ((p66 (s65 zcj)=true)) &&
 true)))
def zhh (zaa:(Sl Gate)) (l_a1:(Sl Int)):Nat→Int→(Sl Gate)→Bool:=lpO (fun _ _=>default) (zhf zaa l_a1)
def zhi (zaa:(Sl Gate)) (l_a1:(Sl Int)):Nat→Int→(Sl Gate)→Bool:=lpO (fun _ _=>false) (zhg zaa l_a1)
def zvM (zaa:(Sl Gate)) (l_a1:(Sl Int)) (zcU:Int) (zcj:(Sl Gate)):Bool:=zhh zaa l_a1 Fuel zcU zcj
def zvN (zaa:(Sl Gate)) (l_a1:(Sl Int)) (zcU:Int) (zcj:(Sl Gate)):Bool:=zhi zaa l_a1 Fuel zcU zcj
theorem zDS (hs:zvN zaa l_a1 zcU zcj=true) (hk:K (e84 (zvM zaa l_a1 zcU zcj))) (zpR:ze1=zg enc_55 zcj):z84 K [1,1,0,1,0] [] (zBX zaa l_a1 zcU zcj ze1) :=
  zl (fun X=>z84 K [1,1,0,1,0,0] [X]) (by kernel_rfl) fun X0 hX =>
  (show ∀ k, zIX K zaa l_a1 X0 (zhi zaa l_a1 k) (zhh zaa l_a1 k) from zfu _ _ (zhg zaa l_a1) (zhf zaa l_a1) (zIX K zaa l_a1 X0)
 (by intro _ _ _ hs;exact absurd hs Bool.false_ne_true)
 (by intro P0 S0 hX0 zcU zcj ze1 hs hk zpR;subst zpR;exact hX _ (zax (by kernel_rfl) (zc hs hk (fun hs hk=>(zaw hs fun hc hs=>And.intro hc (zaw hs fun hc hs=>And.intro hc (zaw hs fun hc hs=>And.intro hc (hX0 hs hk (zim (enc:=enc_55) (f:=zcj.get) (h:=(fun _=>(zaa.get ((l_a1.get zcU.toNat).toNat)))) rfl rfl)))))) (fun hs hk=>(zaw hs fun hc hs=>And.intro (And.intro (zE enc_55 3 zcj.get) hc) (zaw hs fun hc hs=>And.intro (And.intro (zE enc_55 3 ((s65 zcj).list.Gates.get)) (And.intro (zE zaf 3 ((s65 zcj).corners.get)) hc)) hk))))))) _ hs hk zpR
def s84 (zaa:(Sl Gate)) (l_a1:(Sl Int)):Bool :=
  (zvM zaa l_a1 (0:Int) (⟨0,(fun _=>default)⟩:Sl Gate))
def p84 (zaa:(Sl Gate)) (l_a1:(Sl Int)):Bool :=
  (zvN zaa l_a1 (0:Int) (⟨0,(fun _=>default)⟩:Sl Gate))
end
theorem q84 (zaa:(Sl Gate)) (l_a1:(Sl Int)) (K:List PA→Prop) (hs:p84 zaa l_a1=true) (hk:K (e84 (s84 zaa l_a1))):vcFun Try.prog G84 zDR 84 [.one (.sl zaa.len 3 (fun i=>enc_55 (zaa.get i))),.one (.sl l_a1.len 1 (fun i=>zaj (l_a1.get i)))] K :=
  zax (by kernel_rfl) (zDS hs hk rfl)
def zAC : List PA → COut
  | [.one (.sl a0_n a0_s a0_g),.one (.sl a1_n a1_s a1_g)]=>.det (IsE enc_55 3 a0_s a0_g∧IsE zaj 1 a1_s a1_g∧p84 (⟨a0_n,zad a0_g⟩:(Sl Gate)) (⟨a1_n,zbc a1_g⟩:(Sl Int))=true) [.one (.bool (s84 (⟨a0_n,zad a0_g⟩:(Sl Gate)) (⟨a1_n,zbc a1_g⟩:(Sl Int))))]
  | _=>.no
theorem zIY:zah Try.prog 84:=⟨_,rfl,rfl,by kernel_rfl⟩
theorem zNl:Ok Try.prog 84 zAC:=zaz zLI zIY fun args K h=>by
  unfold zAC at h
  split at h
  · rename_i a0_n a0_s a0_g a1_n a1_s a1_g
    obtain ⟨⟨⟨rfl,a0_f,rfl⟩,⟨rfl,a1_f,rfl⟩,hs⟩,hk⟩:=h
    try rw [zac a0_f] at hs
    try rw [zac a0_f] at hk
    try rw [zb0 a1_f] at hs
    try rw [zb0 a1_f] at hk
    exact ⟨(fun _ _=>[]),(fun _=>false),zDR,q84 (⟨a0_n,a0_f⟩:(Sl Gate)) (⟨a1_n,a1_f⟩:(Sl Int)) K hs hk⟩
  · exact h.elim
abbrev T38:Tabs:=((Tabs.nil.addF 64 zpG).addF 84 zAC)
theorem zLJ:TabsOk Try.prog T38:=((TabsOk.nil.addF zIs).addF zNl)
abbrev G38:Ctrs:=csm T38 (fun _ _=>[]) (fun _=>false)
def zDT:Ann:=⟨66,[(0,zK [0] []),(1,zK [0,12] []),(2,zK [2,3] []),(3,zK [0,4] []),(4,zK [0,4,15,16] []),(5,zK [0,4,15,16,17] []),(6,zK [0,4,5,15,16] []),(7,zK [0,4,5,6,15,16] []),(8,zK [0,4,5,6,15,16,23] []),(9,zK [0,4,5,6,15,16] []),(10,zK [0,4,5,6,15,16,31] []),(11,zK [2,3] [34]),(12,zK [0,4,15,16] []),(13,zK [0,4,36,37] []),(14,zK [0,4,36,37,38] []),(15,zK [0,4,7,36,37] []),(16,zK [0,4,7,8,36,37] []),(17,zK [0,4,7,8,36,37,44] []),(18,zK [0,4,7,8,36,37] []),(19,zK [0,4,7,8,9,36,37] []),(20,zK [0,4,7,8,9,36,37,51] []),(21,zK [0,4,7,8,9,36,37] []),(22,zK [0,4,7,8,9,36,37,60] []),(23,zK [2,3] [64]),(24,zK [0,4,36,37] []),(25,zK [2,3] [])],
 [(5,zK [0,4,15,16] []),(8,zK [0,4,5,6,15,16] []),(14,zK [0,4,36,37] []),(17,zK [0,4,7,8,36,37] []),(20,zK [0,4,7,8,9,36,37] [])],
 [(2,zK [0,12] []),(3,zK [0] []),(13,zK [0,4] []),(11,zK [0,4,5,6,15,16,31] []),(23,zK [0,4,7,8,9,36,37,60] [])],
 [],[]⟩
abbrev R38:=((Sl Int)×Int)
abbrev e38 (r:R38):List PA:=[.one (.sl r.1.len 1 (fun i=>zaj (r.1.get i))),.one (.int .i64 r.2)]
@[irreducible] def z38:=ptF Try.prog G38 zDT Try.f38
def zBY (zaa:(Sl Gate)) (zbh:Int):St:=⟨[(0,zS enc_55 3 zaa),(4,zI (zaa.len:Int)),(15,zI (zaa.len:Int)),(16,zI zbh)],[],[]⟩
abbrev zAD (K:List PA→Prop) (zaa:(Sl Gate)) (X:St→Prop) (P:Int→Bool) (S:Int→((Sl Int)×Int)):Prop:=∀ ⦃zbh:Int⦄,P zbh=true→K (e38 (S zbh))→X (zBY zaa zbh)
def zBZ (zaa:(Sl Gate)) (iv3:Int) (jv3:Int) (zcD:Int):St:=⟨[(0,zS enc_55 3 zaa),(4,zI (zaa.len:Int)),(5,zI iv3),(6,zI jv3),(15,zI (zaa.len:Int)),(16,zI zcD)],[],[]⟩
abbrev zDU (K:List PA→Prop) (zaa:(Sl Gate)) (X:St→Prop) (P:Int→Int→Int→Bool) (S:Int→Int→Int→((Sl Int)×Int)):Prop:=∀ ⦃iv3:Int⦄ ⦃jv3:Int⦄ ⦃zcD:Int⦄,P iv3 jv3 zcD=true→K (e38 (S iv3 jv3 zcD))→X (zBZ zaa iv3 jv3 zcD)
def zB0 (zaa:(Sl Gate)) (zdl:Int):St:=⟨[(0,zS enc_55 3 zaa),(4,zI (zaa.len:Int)),(36,zI (zaa.len:Int)),(37,zI zdl)],[],[]⟩
abbrev zvO (K:List PA→Prop) (zaa:(Sl Gate)) (X:St→Prop) (P:Int→Bool) (S:Int→((Sl Int)×Int)):Prop:=∀ ⦃zdl:Int⦄,P zdl=true→K (e38 (S zdl))→X (zB0 zaa zdl)
def zB1 (zaa:(Sl Gate)) (iv7:Int) (jv7:Int) (zeb:Int):St:=⟨[(0,zS enc_55 3 zaa),(4,zI (zaa.len:Int)),(7,zI iv7),(8,zI jv7),(36,zI (zaa.len:Int)),(37,zI zeb)],[],[]⟩
abbrev zAE (K:List PA→Prop) (zaa:(Sl Gate)) (X:St→Prop) (P:Int→Int→Int→Bool) (S:Int→Int→Int→((Sl Int)×Int)):Prop:=∀ ⦃iv7:Int⦄ ⦃jv7:Int⦄ ⦃zeb:Int⦄,P iv7 jv7 zeb=true→K (e38 (S iv7 jv7 zeb))→X (zB1 zaa iv7 jv7 zeb)
def zB2 (zaa:(Sl Gate)) (iv8:Int) (jv8:Int) (kv8:Int) (zec:Int):St:=⟨[(0,zS enc_55 3 zaa),(4,zI (zaa.len:Int)),(7,zI iv8),(8,zI jv8),(9,zI kv8),(36,zI (zaa.len:Int)),(37,zI zec)],[],[]⟩
abbrev zDV (K:List PA→Prop) (zaa:(Sl Gate)) (X:St→Prop) (P:Int→Int→Int→Int→Bool) (S:Int→Int→Int→Int→((Sl Int)×Int)):Prop:=∀ ⦃iv8:Int⦄ ⦃jv8:Int⦄ ⦃kv8:Int⦄ ⦃zec:Int⦄,P iv8 jv8 kv8 zec=true→K (e38 (S iv8 jv8 kv8 zec))→X (zB2 zaa iv8 jv8 kv8 zec)
section
variable {K:List PA→Prop} {zaa:(Sl Gate)} {zaI:Bool} {zbh:Int} {X2:St→Prop} {P2:Int→Bool} {S2:Int→((Sl Int)×Int)} {iv3:Int} {jv3:Int} {zcD:Int} {X3:St→Prop} {P3:Int→Int→Int→Bool} {S3:Int→Int→Int→((Sl Int)×Int)} {iv5:Int} {jv5:Int} {zpS:Int} {zpT:Bool} {zdl:Int} {X6:St→Prop} {P6:Int→Bool} {S6:Int→((Sl Int)×Int)} {iv7:Int} {jv7:Int} {zeb:Int} {X7:St→Prop} {P7:Int→Int→Int→Bool} {S7:Int→Int→Int→((Sl Int)×Int)} {iv8:Int} {jv8:Int} {kv8:Int} {zec:Int} {X8:St→Prop} {P8:Int→Int→Int→Int→Bool} {S8:Int→Int→Int→Int→((Sl Int)×Int)} {iv9:Int} {jv9:Int} {kv9:Int} {zpU:Int} {zpV:Bool}
def zmx (S6:Int→((Sl Int)×Int)) (S7:Int→Int→Int→((Sl Int)×Int)) (S8:Int→Int→Int→Int→((Sl Int)×Int)) (zaa:(Sl Gate)) (iv9:Int) (jv9:Int) (kv9:Int) (zpU:Int) (zpV:Bool):((Sl Int)×Int) :=
  (cond zpV
 ((⟨3,(zgU iv9 [iv9,jv9,kv9])⟩:(Sl Int)),(0:Int))
 (S8 iv9 jv9 (w64 (kv9+(1:Int))) zpU))
def zpW (P6:Int→Bool) (P7:Int→Int→Int→Bool) (P8:Int→Int→Int→Int→Bool) (zaa:(Sl Gate)) (iv9:Int) (jv9:Int) (kv9:Int) (zpU:Int) (zpV:Bool):Bool :=
  (cond zpV
 true
 (P8 iv9 jv9 (w64 (kv9+(1:Int))) zpU))
theorem zDW (hX6:zvO K zaa X6 P6 S6) (hX7:zAE K zaa X7 P7 S7) (hX8:zDV K zaa X8 P8 S8) (hs:zpW P6 P7 P8 zaa iv9 jv9 kv9 zpU zpV=true) (hk:K (e38 (zmx S6 S7 S8 zaa iv9 jv9 kv9 zpU zpV))):z38 (Wk K) [1,1,1,1,0,1,0,0,1,1,0,0,1,1,0,0,1,0,0,1,0,0,1,0,0,1] [X6,X7,X8] ⟨[(0,zS enc_55 3 zaa),(4,zI (zaa.len:Int)),(7,zI iv9),(8,zI jv9),(9,zI kv9),(36,zI (zaa.len:Int)),(37,zI zpU),(60,zB zpV)],[],[]⟩:=zax (by kernel_rfl) (zc hs hk (fun hs hk=>((zea (Eq.mpr (congrArg K (congrArg (fun (g_:Nat→List PV)=>([.one (.sl 3 1 g_),.one (.int .i64 (0:Int))]:List PA)) (zdg (enc:=zaj) (x:=iv9) (y:=jv9) (r:=[kv9])))) hk)):Wk K [.one (.sl 3 1 (zcn [(zaj iv9),(zaj jv9),(zaj kv9)])),.one (.int .i64 (0:Int))])) (fun hs hk=>(hX8 hs hk)))
def zdQ (S6:Int→((Sl Int)×Int)) (S7:Int→Int→Int→((Sl Int)×Int)) (zaa:(Sl Gate)) (S8:Int→Int→Int→Int→((Sl Int)×Int)) (iv8:Int) (jv8:Int) (kv8:Int) (zec:Int):((Sl Int)×Int) :=
  (cond (decide (kv8 < (zaa.len : Int)))
 (zmx S6 S7 S8 zaa iv8 jv8 kv8 zec (!(s84 zaa (⟨3,zbc (zcn [(zaj iv8),(zaj jv8),(zaj kv8)])⟩:(Sl Int)))))
 (S7 iv8 (w64 (jv8+(1:Int))) zec))
def zhj (P6:Int→Bool) (P7:Int→Int→Int→Bool) (zaa:(Sl Gate)) (P8:Int→Int→Int→Int→Bool) (iv8:Int) (jv8:Int) (kv8:Int) (zec:Int):Bool :=
  (cond (decide (kv8 < (zaa.len : Int)))
 (decide ((p84 zaa (⟨3,zbc (zcn [(zaj iv8),(zaj jv8),(zaj kv8)])⟩:(Sl Int))=true)) &&
 (zpW P6 P7 P8 zaa iv8 jv8 kv8 zec (!(s84 zaa (⟨3,zbc (zcn [(zaj iv8),(zaj jv8),(zaj kv8)])⟩:(Sl Int))))))
 (P7 iv8 (w64 (jv8+(1:Int))) zec))
def zdR (S6:Int→((Sl Int)×Int)) (S7:Int→Int→Int→((Sl Int)×Int)) (zaa:(Sl Gate)):Nat→Int→Int→Int→Int→((Sl Int)×Int):=lpO (fun _ _ _ _=>default) (zdQ S6 S7 zaa)
def zhk (P6:Int→Bool) (P7:Int→Int→Int→Bool) (zaa:(Sl Gate)):Nat→Int→Int→Int→Int→Bool:=lpO (fun _ _ _ _=>false) (zhj P6 P7 zaa)
def zmy (S6:Int→((Sl Int)×Int)) (S7:Int→Int→Int→((Sl Int)×Int)) (zaa:(Sl Gate)) (iv8:Int) (jv8:Int) (kv8:Int) (zec:Int):((Sl Int)×Int):=zdR S6 S7 zaa Fuel iv8 jv8 kv8 zec
def zpX (P6:Int→Bool) (P7:Int→Int→Int→Bool) (zaa:(Sl Gate)) (iv8:Int) (jv8:Int) (kv8:Int) (zec:Int):Bool:=zhk P6 P7 zaa Fuel iv8 jv8 kv8 zec
theorem zDX (hX6:zvO K zaa X6 P6 S6) (hX7:zAE K zaa X7 P7 S7) (hs:zpX P6 P7 zaa iv8 jv8 kv8 zec=true) (hk:K (e38 (zmy S6 S7 zaa iv8 jv8 kv8 zec))):z38 (Wk K) [1,1,1,1,0,1,0,0,1,1,0,0,1,1,0,0,1,0,0,1,0] [X6,X7] (zB2 zaa iv8 jv8 kv8 zec) :=
  zl (fun X=>z38 (Wk K) [1,1,1,1,0,1,0,0,1,1,0,0,1,1,0,0,1,0,0,1,0,0] [X6,X7,X]) (by kernel_rfl) fun X8 hX =>
  (show ∀ k, zDV K zaa X8 (zhk P6 P7 zaa k) (zdR S6 S7 zaa k) from zfu _ _ (zhj P6 P7 zaa) (zdQ S6 S7 zaa) (zDV K zaa X8)
 (by intro _ _ _ _ hs;exact absurd hs Bool.false_ne_true)
 (by intro P8 S8 hX8 iv8 jv8 kv8 zec hs hk;exact hX _ (zax (by kernel_rfl) (zc hs hk (fun hs hk=>(zaw hs fun hc hs=>And.intro (And.intro (zE enc_55 3 zaa.get) (And.intro ((zfp [kv8]):IsE zaj 1 1 (zcn [(zaj iv8),(zaj jv8),(zaj kv8)])) hc)) (zDW hX6 hX7 hX8 hs hk))) (fun hs hk=>(hX7 hs hk)))))) _ hs hk
def zdS (S6:Int→((Sl Int)×Int)) (zaa:(Sl Gate)) (S7:Int→Int→Int→((Sl Int)×Int)) (iv7:Int) (jv7:Int) (zeb:Int):((Sl Int)×Int) :=
  (cond (decide (jv7 < (zaa.len : Int)))
 (zmy S6 S7 zaa iv7 jv7 (w64 (jv7+(1:Int))) zeb)
 (S6 (w64 (zeb+(1:Int)))))
def zhl (P6:Int→Bool) (zaa:(Sl Gate)) (P7:Int→Int→Int→Bool) (iv7:Int) (jv7:Int) (zeb:Int):Bool :=
  (cond (decide (jv7 < (zaa.len : Int)))
 (zpX P6 P7 zaa iv7 jv7 (w64 (jv7+(1:Int))) zeb)
 (P6 (w64 (zeb+(1:Int)))))
def zdT (S6:Int→((Sl Int)×Int)) (zaa:(Sl Gate)):Nat→Int→Int→Int→((Sl Int)×Int):=lpO (fun _ _ _=>default) (zdS S6 zaa)
def zhm (P6:Int→Bool) (zaa:(Sl Gate)):Nat→Int→Int→Int→Bool:=lpO (fun _ _ _=>false) (zhl P6 zaa)
def zmz (S6:Int→((Sl Int)×Int)) (zaa:(Sl Gate)) (iv7:Int) (jv7:Int) (zeb:Int):((Sl Int)×Int):=zdT S6 zaa Fuel iv7 jv7 zeb
def zpY (P6:Int→Bool) (zaa:(Sl Gate)) (iv7:Int) (jv7:Int) (zeb:Int):Bool:=zhm P6 zaa Fuel iv7 jv7 zeb
theorem zDY (hX6:zvO K zaa X6 P6 S6) (hs:zpY P6 zaa iv7 jv7 zeb=true) (hk:K (e38 (zmz S6 zaa iv7 jv7 zeb))):z38 (Wk K) [1,1,1,1,0,1,0,0,1,1,0,0,1,1,0] [X6] (zB1 zaa iv7 jv7 zeb) :=
  zl (fun X=>z38 (Wk K) [1,1,1,1,0,1,0,0,1,1,0,0,1,1,0,0] [X6,X]) (by kernel_rfl) fun X7 hX =>
  (show ∀ k, zAE K zaa X7 (zhm P6 zaa k) (zdT S6 zaa k) from zfu _ _ (zhl P6 zaa) (zdS S6 zaa) (zAE K zaa X7)
 (by intro _ _ _ hs;exact absurd hs Bool.false_ne_true)
 (by intro P7 S7 hX7 iv7 jv7 zeb hs hk;exact hX _ (zax (by kernel_rfl) (zc hs hk (fun hs hk=>(zDX hX6 hX7 hs hk)) (fun hs hk=>(hX6 hs hk)))))) _ hs hk
def zdU (zaa:(Sl Gate)) (S6:Int→((Sl Int)×Int)) (zdl:Int):((Sl Int)×Int) :=
  (cond (decide (zdl < (zaa.len : Int)))
 (zmz S6 zaa zdl (w64 (zdl+(1:Int))) zdl)
 ((⟨0,fun _=>default⟩:(Sl Int)),(7:Int)))
def zhn (zaa:(Sl Gate)) (P6:Int→Bool) (zdl:Int):Bool :=
  (cond (decide (zdl < (zaa.len : Int)))
 (zpY P6 zaa zdl (w64 (zdl+(1:Int))) zdl)
 true)
def zdV (zaa:(Sl Gate)):Nat→Int→((Sl Int)×Int):=lpO (fun _=>default) (zdU zaa)
def zho (zaa:(Sl Gate)):Nat→Int→Bool:=lpO (fun _=>false) (zhn zaa)
def zvP (zaa:(Sl Gate)) (zdl:Int):((Sl Int)×Int):=zdV zaa Fuel zdl
def zvQ (zaa:(Sl Gate)) (zdl:Int):Bool:=zho zaa Fuel zdl
theorem zDZ (hs:zvQ zaa zdl=true) (hk:K (e38 (zvP zaa zdl))):z38 (Wk K) [1,1,1,1,0,1,0] [] (zB0 zaa zdl) :=
  zl (fun X=>z38 (Wk K) [1,1,1,1,0,1,0,0] [X]) (by kernel_rfl) fun X6 hX =>
  (show ∀ k, zvO K zaa X6 (zho zaa k) (zdV zaa k) from zfu _ _ (zhn zaa) (zdU zaa) (zvO K zaa X6)
 (by intro _ hs;exact absurd hs Bool.false_ne_true)
 (by intro P6 S6 hX6 zdl hs hk;exact hX _ (zax (by kernel_rfl) (zc hs hk (fun hs hk=>(zDY hX6 hs hk)) (fun hs hk=>((wk hk (zc4 (.one (.nil _ _)) (zc4 (.one (.rfl _)) zg2))):Wk K [.one (.nils),.one (.int .i64 (7:Int))])))))) _ hs hk
def zmA (S2:Int→((Sl Int)×Int)) (S3:Int→Int→Int→((Sl Int)×Int)) (zaa:(Sl Gate)) (iv5:Int) (jv5:Int) (zpS:Int) (zpT:Bool):((Sl Int)×Int) :=
  (cond zpT
 ((⟨2,(zgU iv5 [iv5,jv5])⟩:(Sl Int)),(0:Int))
 (S3 iv5 (w64 (jv5+(1:Int))) zpS))
def zpZ (P2:Int→Bool) (P3:Int→Int→Int→Bool) (zaa:(Sl Gate)) (iv5:Int) (jv5:Int) (zpS:Int) (zpT:Bool):Bool :=
  (cond zpT
 true
 (P3 iv5 (w64 (jv5+(1:Int))) zpS))
theorem zD0 (hX2:zAD K zaa X2 P2 S2) (hX3:zDU K zaa X3 P3 S3) (hs:zpZ P2 P3 zaa iv5 jv5 zpS zpT=true) (hk:K (e38 (zmA S2 S3 zaa iv5 jv5 zpS zpT))):z38 (Wk K) [1,1,1,0,1,0,0,1,1,0,0,1,1,0,0,1,0,0,1] [X2,X3] ⟨[(0,zS enc_55 3 zaa),(4,zI (zaa.len:Int)),(5,zI iv5),(6,zI jv5),(15,zI (zaa.len:Int)),(16,zI zpS),(31,zB zpT)],[],[]⟩:=zax (by kernel_rfl) (zc hs hk (fun hs hk=>((zea (Eq.mpr (congrArg K (congrArg (fun (g_:Nat→List PV)=>([.one (.sl 2 1 g_),.one (.int .i64 (0:Int))]:List PA)) (zdg (enc:=zaj) (x:=iv5) (y:=jv5) (r:=[])))) hk)):Wk K [.one (.sl 2 1 (zcn [(zaj iv5),(zaj jv5)])),.one (.int .i64 (0:Int))])) (fun hs hk=>(hX3 hs hk)))
def zmB (zaa:(Sl Gate)):((Sl Int)×Int) :=
  (zvP zaa (0:Int))
def zvR (zaa:(Sl Gate)):Bool :=
  (zvQ zaa (0:Int))
theorem zD1 (hs:zvR zaa=true) (hk:K (e38 (zmB zaa))):z38 (Wk K) [1,1,1,1] [] ⟨[(0,zS enc_55 3 zaa),(4,zI (zaa.len:Int))],[],[]⟩:=zax (by kernel_rfl) (zDZ hs hk)
def zdW (S2:Int→((Sl Int)×Int)) (zaa:(Sl Gate)) (S3:Int→Int→Int→((Sl Int)×Int)) (iv3:Int) (jv3:Int) (zcD:Int):((Sl Int)×Int) :=
  (cond (decide (jv3 < (zaa.len : Int)))
 (zmA S2 S3 zaa iv3 jv3 zcD (!(s84 zaa (⟨2,zbc (zcn [(zaj iv3),(zaj jv3)])⟩:(Sl Int)))))
 (S2 (w64 (zcD+(1:Int)))))
def zhp (P2:Int→Bool) (zaa:(Sl Gate)) (P3:Int→Int→Int→Bool) (iv3:Int) (jv3:Int) (zcD:Int):Bool :=
  (cond (decide (jv3 < (zaa.len : Int)))
 (decide ((p84 zaa (⟨2,zbc (zcn [(zaj iv3),(zaj jv3)])⟩:(Sl Int))=true)) &&
 (zpZ P2 P3 zaa iv3 jv3 zcD (!(s84 zaa (⟨2,zbc (zcn [(zaj iv3),(zaj jv3)])⟩:(Sl Int))))))
 (P2 (w64 (zcD+(1:Int)))))
def zdX (S2:Int→((Sl Int)×Int)) (zaa:(Sl Gate)):Nat→Int→Int→Int→((Sl Int)×Int):=lpO (fun _ _ _=>default) (zdW S2 zaa)
def zhq (P2:Int→Bool) (zaa:(Sl Gate)):Nat→Int→Int→Int→Bool:=lpO (fun _ _ _=>false) (zhp P2 zaa)
def zmC (S2:Int→((Sl Int)×Int)) (zaa:(Sl Gate)) (iv3:Int) (jv3:Int) (zcD:Int):((Sl Int)×Int):=zdX S2 zaa Fuel iv3 jv3 zcD
def zp0 (P2:Int→Bool) (zaa:(Sl Gate)) (iv3:Int) (jv3:Int) (zcD:Int):Bool:=zhq P2 zaa Fuel iv3 jv3 zcD
theorem zD2 (hX2:zAD K zaa X2 P2 S2) (hs:zp0 P2 zaa iv3 jv3 zcD=true) (hk:K (e38 (zmC S2 zaa iv3 jv3 zcD))):z38 (Wk K) [1,1,1,0,1,0,0,1,1,0,0,1,1,0] [X2] (zBZ zaa iv3 jv3 zcD) :=
  zl (fun X=>z38 (Wk K) [1,1,1,0,1,0,0,1,1,0,0,1,1,0,0] [X2,X]) (by kernel_rfl) fun X3 hX =>
  (show ∀ k, zDU K zaa X3 (zhq P2 zaa k) (zdX S2 zaa k) from zfu _ _ (zhp P2 zaa) (zdW S2 zaa) (zDU K zaa X3)
 (by intro _ _ _ hs;exact absurd hs Bool.false_ne_true)
 (by intro P3 S3 hX3 iv3 jv3 zcD hs hk;exact hX _ (zax (by kernel_rfl) (zc hs hk (fun hs hk=>(zaw hs fun hc hs=>And.intro (And.intro (zE enc_55 3 zaa.get) (And.intro ((zfp []):IsE zaj 1 1 (zcn [(zaj iv3),(zaj jv3)])) hc)) (zD0 hX2 hX3 hs hk))) (fun hs hk=>(hX2 hs hk)))))) _ hs hk
def zdY (zaa:(Sl Gate)) (S2:Int→((Sl Int)×Int)) (zbh:Int):((Sl Int)×Int) :=
  (cond (decide (zbh < (zaa.len : Int)))
 (zmC S2 zaa zbh (w64 (zbh+(1:Int))) zbh)
 (zmB zaa))
def zhr (zaa:(Sl Gate)) (P2:Int→Bool) (zbh:Int):Bool :=
  (cond (decide (zbh < (zaa.len : Int)))
 (zp0 P2 zaa zbh (w64 (zbh+(1:Int))) zbh)
 (zvR zaa))
def zdZ (zaa:(Sl Gate)):Nat→Int→((Sl Int)×Int):=lpO (fun _=>default) (zdY zaa)
def zhs (zaa:(Sl Gate)):Nat→Int→Bool:=lpO (fun _=>false) (zhr zaa)
def zvS (zaa:(Sl Gate)) (zbh:Int):((Sl Int)×Int):=zdZ zaa Fuel zbh
def zvT (zaa:(Sl Gate)) (zbh:Int):Bool:=zhs zaa Fuel zbh
theorem zD3 (hs:zvT zaa zbh=true) (hk:K (e38 (zvS zaa zbh))):z38 (Wk K) [1,1,1,0,1,0] [] (zBY zaa zbh) :=
  zl (fun X=>z38 (Wk K) [1,1,1,0,1,0,0] [X]) (by kernel_rfl) fun X2 hX =>
  (show ∀ k, zAD K zaa X2 (zhs zaa k) (zdZ zaa k) from zfu _ _ (zhr zaa) (zdY zaa) (zAD K zaa X2)
 (by intro _ hs;exact absurd hs Bool.false_ne_true)
 (by intro P2 S2 hX2 zbh hs hk;exact hX _ (zax (by kernel_rfl) (zc hs hk (fun hs hk=>(zD2 hX2 hs hk)) (fun hs hk=>(zD1 hs hk)))))) _ hs hk
def zp1 (zaa:(Sl Gate)):((Sl Int)×Int) :=
  (zvS zaa (0:Int))
def zp2 (zaa:(Sl Gate)):Bool :=
  (zvT zaa (0:Int))
theorem zD4 (hs:zp2 zaa=true) (hk:K (e38 (zp1 zaa))):z38 (Wk K) [1,1] [] ⟨[(0,zS enc_55 3 zaa)],[],[]⟩:=zax (by kernel_rfl) (zD3 hs hk)
def zp3 (zaa:(Sl Gate)) (zaI:Bool):((Sl Int)×Int) :=
  (cond zaI
 ((⟨0,fun _=>default⟩:(Sl Int)),(2:Int))
 (zp1 zaa))
def zp4 (zaa:(Sl Gate)) (zaI:Bool):Bool :=
  (cond zaI
 true
 (zp2 zaa))
theorem zD5 (hs:zp4 zaa zaI=true) (hk:K (e38 (zp3 zaa zaI))):z38 (Wk K) [1,0,1] [] ⟨[(0,zS enc_55 3 zaa),(12,zB zaI)],[],[]⟩:=zax (by kernel_rfl) (zc hs hk (fun hs hk=>((wk hk (zc4 (.one (.nil _ _)) (zc4 (.one (.rfl _)) zg2))):Wk K [.one (.nils),.one (.int .i64 (2:Int))])) (fun hs hk=>(zD4 hs hk)))
def s38 (zaa:(Sl Gate)):((Sl Int)×Int) :=
  (zp3 zaa (!(s64 zaa)))
def p38 (zaa:(Sl Gate)):Bool :=
  (decide ((p64 zaa=true)) &&
 (zp4 zaa (!(s64 zaa))))
end
theorem q38 (zaa:(Sl Gate)) (K:List PA→Prop) (hs:p38 zaa=true) (hk:K (e38 (s38 zaa))):vcFun Try.prog G38 zDT 38 [.one (.sl zaa.len 3 (fun i=>enc_55 (zaa.get i)))] (Wk K) :=
  zax (by kernel_rfl) (zaw hs fun hc hs=>And.intro (And.intro (zE enc_55 3 zaa.get) hc) (zD5 hs hk))
def zAF : List PA → COut
  | [.one (.sl a0_n a0_s a0_g)]=>.det (IsE enc_55 3 a0_s a0_g∧p38 (⟨a0_n,zad a0_g⟩:(Sl Gate))=true) [.one (.sl (((s38 (⟨a0_n,zad a0_g⟩:(Sl Gate))).1).len) 1 (fun i=>zaj (((s38 (⟨a0_n,zad a0_g⟩:(Sl Gate))).1).get i))),.one (.int .i64 ((s38 (⟨a0_n,zad a0_g⟩:(Sl Gate))).2))]
  | _=>.no
theorem zIZ:zah Try.prog 38:=⟨_,rfl,rfl,by kernel_rfl⟩
theorem zNm:Ok Try.prog 38 zAF:=zg3 zLJ zIZ fun args K h=>by
  unfold zAF at h
  split at h
  · rename_i a0_n a0_s a0_g
    obtain ⟨⟨⟨rfl,a0_f,rfl⟩,hs⟩,hk⟩:=h
    try rw [zac a0_f] at hs
    try rw [zac a0_f] at hk
    exact ⟨_,zeT zfA _,(fun _ _=>[]),(fun _=>false),zDT,q38 (⟨a0_n,a0_f⟩:(Sl Gate)) K hs hk⟩
  · exact h.elim
abbrev zNn:Tabs:=Tabs.nil
theorem zI0:TabsOk Try.prog zNn:=TabsOk.nil
abbrev zOr:Ctrs:=csm zNn (fun _ _=>[]) (fun _=>false)
def zB3:Ann:=⟨6,[(0,zK [0] []),(1,zK [2] [])],
 [],
 [],
 [],[]⟩
abbrev zOs:=Bool
abbrev e120 (r:zOs):List PA:=[.one (.bool r)]
section
variable {K:List PA→Prop} {x:Int}
def zB4 (x:Int):Bool :=
  (x != x)
end
theorem zOt (x:Int) (K:List PA→Prop) (hk:K (e120 (zB4 x))):vcFun Try.prog zOr zB3 120 [.one (.int .i64 x)] K :=
  zax (by kernel_rfl) hk
def zvU : List PA → COut
  | [.one (.int .i64 a0)]=>.tot [.one (.bool (zB4 a0))]
  | _=>.no
theorem zD6:zah Try.prog 120:=⟨_,rfl,rfl,by kernel_rfl⟩
theorem zLK:Ok Try.prog 120 zvU:=zaz zI0 zD6 fun args K h=>by
  unfold zvU at h
  split at h
  · rename_i a0
    have hk:=h
    exact ⟨(fun _ _=>[]),(fun _=>false),zB3,zOt a0 K hk⟩
  · exact h.elim
abbrev zNo:Tabs:=(Tabs.nil.addF 120 zvU)
theorem zI1:TabsOk Try.prog zNo:=(TabsOk.nil.addF zLK)
abbrev zOu:Ctrs:=csm zNo (fun _ _=>[]) (fun _=>false)
def zB5:Ann:=⟨20,[(0,zK [0,1] []),(1,zK [0,1,5] []),(2,zK [0,1,5,6] []),(3,zK [0,1,6,11] []),(4,zK [12] []),(5,zK [4] []),(6,zK [4] []),(7,zK [0,1,13] []),(8,zK [4] []),(9,zK [0,1,16] []),(10,zK [4] []),(11,zK [19] []),(12,zK [4] []),(13,zK [4] [])],
 [],
 [],
 [],[]⟩
abbrev zOv:=Int
abbrev zOw (r:zOv):List PA:=[.one (.int .i64 r)]
section
variable {K:List PA→Prop} {x:Int} {y_a1:Int}
def zB6 (x:Int) (y_a1:Int):Int :=
  (cond (zB4 x)
 (cond (zB4 y_a1)
 (0:Int)
 (-1:Int))
 (cond (zB4 y_a1)
 (1:Int)
 (cond (decide (x < y_a1))
 (-1:Int)
 (cond (decide (x > y_a1))
 (1:Int)
 (0:Int)))))
end
theorem zOx (x:Int) (y_a1:Int) (K:List PA→Prop) (hk:K (zOw (zB6 x y_a1))):vcFun Try.prog zOu zB5 103 [.one (.int .i64 x),.one (.int .i64 y_a1)] K :=
  zax (by kernel_rfl) (zt hk (fun hk=>(zt hk (fun hk=>hk) (fun hk=>hk))) (fun hk=>(zt hk (fun hk=>hk) (fun hk=>(zt hk (fun hk=>hk) (fun hk=>(zt hk (fun hk=>hk) (fun hk=>hk))))))))
def zvV : List PA → COut
  | [.one (.int .i64 a0),.one (.int .i64 a1)]=>.tot [.one (.int .i64 (zB6 a0 a1))]
  | _=>.no
theorem zD7:zah Try.prog 103:=⟨_,rfl,rfl,by kernel_rfl⟩
theorem zLL:Ok Try.prog 103 zvV:=zaz zI1 zD7 fun args K h=>by
  unfold zvV at h
  split at h
  · rename_i a0 a1
    have hk:=h
    exact ⟨(fun _ _=>[]),(fun _=>false),zB5,zOx a0 a1 K hk⟩
  · exact h.elim
abbrev T69:Tabs:=(Tabs.nil.addF 103 zvV)
theorem zLM:TabsOk Try.prog T69:=(TabsOk.nil.addF zLL)
abbrev G69:Ctrs:=csm T69 (fun _ _=>[]) (fun _=>false)
def zI2:Ann:=⟨16,[(0,zK [2,3] [2,3]),(1,zK [4] [])],
 [],
 [],
 [],[]⟩
abbrev R69:=Int
abbrev e69 (r:R69):List PA:=[.one (.int .i64 r)]
section
variable {K:List PA→Prop} {a:Frac} {b:Frac}
def s69 (a:Frac) (b:Frac):Int :=
  (zB6 (w64 (a.Num * b.Den)) (w64 (b.Num * a.Den)))
end
theorem q69 (a:Frac) (b:Frac) (K:List PA→Prop) (hk:K (e69 (s69 a b))):vcFun Try.prog G69 zI2 69 [.agg (zae a),.agg (zae b)] K :=
  zax (by kernel_rfl) hk
def zp5 : List PA → COut
  | [.agg [.int .i64 a0_Num,.int .i64 a0_Den],.agg [.int .i64 a1_Num,.int .i64 a1_Den]]=>.tot [.one (.int .i64 (s69 (⟨a0_Num,a0_Den⟩:Frac) (⟨a1_Num,a1_Den⟩:Frac)))]
  | _=>.no
theorem zI3:zah Try.prog 69:=⟨_,rfl,rfl,by kernel_rfl⟩
theorem zKW:Ok Try.prog 69 zp5:=zaz zLM zI3 fun args K h=>by
  unfold zp5 at h
  split at h
  · rename_i a0_Num a0_Den a1_Num a1_Den
    have hk:=h
    exact ⟨(fun _ _=>[]),(fun _=>false),zI2,q69 (⟨a0_Num,a0_Den⟩:Frac) (⟨a1_Num,a1_Den⟩:Frac) K hk⟩
  · exact h.elim
abbrev T83:Tabs:=Tabs.nil
theorem zLN:TabsOk Try.prog T83:=TabsOk.nil
abbrev G83:Ctrs:=csm T83 (fun _ _=>[]) (fun _=>false)
def zI4:Ann:=⟨8,[(0,zK [1,2] [1,2]),(1,zK [2] [2])],
 [],
 [],
 [],[]⟩
abbrev R83:=Frac
abbrev e83 (r:R83):List PA:=[.agg [.int .i64 r.Num,.int .i64 r.Den]]
section
variable {K:List PA→Prop} {x:straight}
def s83 (x:straight):Frac :=
  (⟨x.slope,x.den⟩:Frac)
end
theorem q83 (x:straight) (K:List PA→Prop) (hk:K (e83 (s83 x))):vcFun Try.prog G83 zI4 83 [.agg (zaf x)] K :=
  zax (by kernel_rfl) hk
def zD8 : List PA → COut
  | [.agg [.int .i64 a0_slope,.int .i64 a0_start,.int .i64 a0_den]]=>.tot [.agg [.int .i64 ((s83 (⟨a0_slope,a0_start,a0_den⟩:straight)).Num),.int .i64 ((s83 (⟨a0_slope,a0_start,a0_den⟩:straight)).Den)]]
  | _=>.no
theorem zI5:zah Try.prog 83:=⟨_,rfl,rfl,by kernel_rfl⟩
theorem zOy:Ok Try.prog 83 zD8:=zaz zLN zI5 fun args K h=>by
  unfold zD8 at h
  split at h
  · rename_i a0_slope a0_start a0_den
    have hk:=h
    exact ⟨(fun _ _=>[]),(fun _=>false),zI4,q83 (⟨a0_slope,a0_start,a0_den⟩:straight) K hk⟩
  · exact h.elim
abbrev zNp:Tabs:=Tabs.nil
theorem zI6:TabsOk Try.prog zNp:=TabsOk.nil
abbrev zOz:Ctrs:=csm zNp (fun _ _=>[]) (fun _=>false)
def zB7:Ann:=⟨15,[(0,zK [1,2,4] [2,4]),(1,zK [4] [4])],
 [],
 [],
 [],[]⟩
abbrev zOA:=Frac
abbrev zOB (r:zOA):List PA:=[.agg [.int .i64 r.Num,.int .i64 r.Den]]
section
variable {K:List PA→Prop} {s:straight} {z:Int}
def zKX (s:straight) (z:Int):Frac :=
  (⟨(w64 (s.start+(w64 (s.slope * z)))),s.den⟩:Frac)
end
theorem zOC (s:straight) (z:Int) (K:List PA→Prop) (hk:K (zOB (zKX s z))):vcFun Try.prog zOz zB7 102 [.agg (zaf s),.one (.int .i64 z)] K :=
  zax (by kernel_rfl) hk
def zvW : List PA → COut
  | [.agg [.int .i64 a0_slope,.int .i64 a0_start,.int .i64 a0_den],.one (.int .i64 a1)]=>.tot [.agg [.int .i64 ((zKX (⟨a0_slope,a0_start,a0_den⟩:straight) a1).Num),.int .i64 ((zKX (⟨a0_slope,a0_start,a0_den⟩:straight) a1).Den)]]
  | _=>.no
theorem zD9:zah Try.prog 102:=⟨_,rfl,rfl,by kernel_rfl⟩
theorem zLO:Ok Try.prog 102 zvW:=zaz zI6 zD9 fun args K h=>by
  unfold zvW at h
  split at h
  · rename_i a0_slope a0_start a0_den a1
    have hk:=h
    exact ⟨(fun _ _=>[]),(fun _=>false),zB7,zOC (⟨a0_slope,a0_start,a0_den⟩:straight) a1 K hk⟩
  · exact h.elim
abbrev zNq:Tabs:=(Tabs.nil.addF 102 zvW)
theorem zI7:TabsOk Try.prog zNq:=(TabsOk.nil.addF zLO)
abbrev zOD:Ctrs:=csm zNq (fun _ _=>[]) (fun _=>false)
def zB8:Ann:=⟨7,[(0,zK [1,2,3] [2,3]),(1,zK [3] [3])],
 [],
 [],
 [],[]⟩
abbrev zOE:=Frac
abbrev zOF (r:zOE):List PA:=[.agg [.int .i64 r.Num,.int .i64 r.Den]]
section
variable {K:List PA→Prop} {c0:Int} {x:straight}
def zHC (c0:Int) (x:straight):Frac :=
  (zKX x c0)
end
theorem zOG (c0:Int) (x:straight) (K:List PA→Prop) (hk:K (zOF (zHC c0 x))):vcFun Try.prog zOD zB8 101 [.agg (zaf x),.one (.fp (zaj c0) 0)] K :=
  zax (by kernel_rfl) hk
def zvX : List PA → COut
  | [.agg [.int .i64 a0_slope,.int .i64 a0_start,.int .i64 a0_den],.one (.fp [.int .i64 c0] 0)]=>.tot [.agg [.int .i64 ((zHC c0 (⟨a0_slope,a0_start,a0_den⟩:straight)).Num),.int .i64 ((zHC c0 (⟨a0_slope,a0_start,a0_den⟩:straight)).Den)]]
  | _=>.no
theorem zEa:zah Try.prog 101:=⟨_,rfl,rfl,by kernel_rfl⟩
theorem zLP:Ok Try.prog 101 zvX:=zaz zI7 zEa fun args K h=>by
  unfold zvX at h
  split at h
  · rename_i a0_slope a0_start a0_den c0
    have hk:=h
    exact ⟨(fun _ _=>[]),(fun _=>false),zB8,zOG c0 (⟨a0_slope,a0_start,a0_den⟩:straight) K hk⟩
  · exact h.elim
abbrev zNr:Tabs:=(Tabs.nil.addF 69 zp5)
theorem zI8:TabsOk Try.prog zNr:=(TabsOk.nil.addF zKW)
abbrev zOH:Ctrs:=csm zNr (fun _ _=>[]) (fun _=>false)
def zB9:Ann:=⟨9,[(0,zK [2,3] [2,3]),(1,zK [4] [])],
 [],
 [],
 [],[]⟩
abbrev zOI:=Bool
abbrev zOJ (r:zOI):List PA:=[.one (.bool r)]
section
variable {K:List PA→Prop} {a:Frac} {b:Frac}
def zKY (a:Frac) (b:Frac):Bool :=
  (decide ((s69 a b) < (0:Int)))
end
theorem zOK (a:Frac) (b:Frac) (K:List PA→Prop) (hk:K (zOJ (zKY a b))):vcFun Try.prog zOH zB9 112 [.agg (zae a),.agg (zae b)] K :=
  zax (by kernel_rfl) hk
def zvY : List PA → COut
  | [.agg [.int .i64 a0_Num,.int .i64 a0_Den],.agg [.int .i64 a1_Num,.int .i64 a1_Den]]=>.tot [.one (.bool (zKY (⟨a0_Num,a0_Den⟩:Frac) (⟨a1_Num,a1_Den⟩:Frac)))]
  | _=>.no
theorem zEb:zah Try.prog 112:=⟨_,rfl,rfl,by kernel_rfl⟩
theorem zLQ:Ok Try.prog 112 zvY:=zaz zI8 zEb fun args K h=>by
  unfold zvY at h
  split at h
  · rename_i a0_Num a0_Den a1_Num a1_Den
    have hk:=h
    exact ⟨(fun _ _=>[]),(fun _=>false),zB9,zOK (⟨a0_Num,a0_Den⟩:Frac) (⟨a1_Num,a1_Den⟩:Frac) K hk⟩
  · exact h.elim
abbrev zNs:Tabs:=(Tabs.nil.addF 69 zp5)
theorem zI9:TabsOk Try.prog zNs:=(TabsOk.nil.addF zKW)
abbrev zOL:Ctrs:=csm zNs (fun _ _=>[]) (fun _=>false)
def zCa:Ann:=⟨9,[(0,zK [2,3] [2,3]),(1,zK [4] [])],
 [],
 [],
 [],[]⟩
abbrev zOM:=Bool
abbrev zON (r:zOM):List PA:=[.one (.bool r)]
section
variable {K:List PA→Prop} {a:Frac} {b:Frac}
def zKZ (a:Frac) (b:Frac):Bool :=
  (decide ((s69 a b) > (0:Int)))
end
theorem zOO (a:Frac) (b:Frac) (K:List PA→Prop) (hk:K (zON (zKZ a b))):vcFun Try.prog zOL zCa 113 [.agg (zae a),.agg (zae b)] K :=
  zax (by kernel_rfl) hk
def zvZ : List PA → COut
  | [.agg [.int .i64 a0_Num,.int .i64 a0_Den],.agg [.int .i64 a1_Num,.int .i64 a1_Den]]=>.tot [.one (.bool (zKZ (⟨a0_Num,a0_Den⟩:Frac) (⟨a1_Num,a1_Den⟩:Frac)))]
  | _=>.no
theorem zEc:zah Try.prog 113:=⟨_,rfl,rfl,by kernel_rfl⟩
theorem zLR:Ok Try.prog 113 zvZ:=zaz zI9 zEc fun args K h=>by
  unfold zvZ at h
  split at h
  · rename_i a0_Num a0_Den a1_Num a1_Den
    have hk:=h
    exact ⟨(fun _ _=>[]),(fun _=>false),zCa,zOO (⟨a0_Num,a0_Den⟩:Frac) (⟨a1_Num,a1_Den⟩:Frac) K hk⟩
  · exact h.elim
abbrev zLS:Tabs:=((Tabs.nil.addF 112 zvY).addF 113 zvZ)
theorem zJa:TabsOk Try.prog zLS:=((TabsOk.nil.addF zLQ).addF zLR)
abbrev zNt:Ctrs:=csm zLS (fun _ _=>[]) (fun _=>false)
def zv1:Ann:=⟨25,[(0,zK [0,1,4] [4]),(1,zK [0,1,4,5] [4,5]),(2,zK [1,4,5,12,13,14] [4,5]),(3,zK [1,4,5,12,13,14,15] [4,5]),(4,zK [1,4,5,7,12,13,14] [4,5,7]),(5,zK [1,4,5,7,12,13,14,21] [4,5,7]),(6,zK [1,4,5,12,13,14] [4,5]),(7,zK [1,4,5,12,13,14] [4,5]),(8,zK [4] [4])],
 [(3,zK [1,4,5,12,13,14] [4,5])],
 [(6,zK [1,4,5,7,12,13,14,21] [4,5,7])],
 [],[]⟩
abbrev zOP:=Frac
abbrev zK1 (r:zOP):List PA:=[.agg [.int .i64 r.Num,.int .i64 r.Den]]
@[irreducible] def z111:=ptF Try.prog zNt zv1 Try.f111
def zv2 (l_a0:(Sl Frac)) (zaI:(Sl Frac)) (zai:Int) (zao:Int) (zaq:Int) (zcc:Nat→List PV):St:=⟨[(1,zP (.fn 112 [] [])),(4,zp 4 0),(5,zp 5 0),(12,zP (.sl zaI.len 2 zcc)),(13,zI (((l_a0.len:Int) - (1:Int)).toNat:Int)),(14,zI zai)],[(4,.box 25 (zm (zae (⟨(0:Int),(0:Int)⟩:Frac)))),(5,.box 25 (zm (zae (⟨zao,zaq⟩:Frac))))],[]⟩
abbrev zv4 (K:List PA→Prop) (l_a0:(Sl Frac)) (X:St→Prop) (P:(Sl Frac)→Int→Int→Int→Bool) (S:(Sl Frac)→Int→Int→Int→Frac):Prop:=∀ ⦃zaI:(Sl Frac)⦄ ⦃zai:Int⦄ ⦃zao:Int⦄ ⦃zaq:Int⦄ ⦃zcc:Nat→List PV⦄,P zaI zai zao zaq=true→K (zK1 (S zaI zai zao zaq))→zcc=zg zae zaI→X (zv2 l_a0 zaI zai zao zaq zcc)
section
variable {K:List PA→Prop} {l_a0:(Sl Frac)} {zaI:(Sl Frac)} {zai:Int} {zao:Int} {zaq:Int} {zcc:Nat→List PV} {X0:St→Prop} {P0:(Sl Frac)→Int→Int→Int→Bool} {S0:(Sl Frac)→Int→Int→Int→Frac} {zd0:(Sl Frac)} {zaP:Int} {zfP:Bool} {zcq:Int} {zcr:Int} {zfQ:Int} {zfR:Int} {zjK:Nat→List PV}
def zsq (S0:(Sl Frac)→Int→Int→Int→Frac) (l_a0:(Sl Frac)) (zd0:(Sl Frac)) (zaP:Int) (zfP:Bool) (zcq:Int) (zcr:Int) (zfQ:Int) (zfR:Int):Frac :=
  (cond zfP
 (S0 zd0 (w64 (zaP+(1:Int))) zfQ zfR)
 (S0 zd0 (w64 (zaP+(1:Int))) zcq zcr))
def zsr (P0:(Sl Frac)→Int→Int→Int→Bool) (l_a0:(Sl Frac)) (zd0:(Sl Frac)) (zaP:Int) (zfP:Bool) (zcq:Int) (zcr:Int) (zfQ:Int) (zfR:Int):Bool :=
  (cond zfP
 (P0 zd0 (w64 (zaP+(1:Int))) zfQ zfR)
 (P0 zd0 (w64 (zaP+(1:Int))) zcq zcr))
theorem zAG (hX0:zv4 K l_a0 X0 P0 S0) (hs:zsr P0 l_a0 zd0 zaP zfP zcq zcr zfQ zfR=true) (hk:K (zK1 (zsq S0 l_a0 zd0 zaP zfP zcq zcr zfQ zfR))) (zp6:zjK=zg zae zd0):z111 K [1,1,0,1,0,0,1,1,0,0,1,1] [X0] ⟨[(1,zP (.fn 112 [] [])),(4,zp 4 0),(5,zp 5 0),(7,zp 7 0),(12,zP (.sl zd0.len 2 zjK)),(13,zI (((l_a0.len:Int) - (1:Int)).toNat:Int)),(14,zI zaP),(21,zB zfP)],[(4,.box 25 (zm (zae (⟨(0:Int),(0:Int)⟩:Frac)))),(5,.box 25 (zm (zae (⟨zcq,zcr⟩:Frac)))),(7,.box 25 (zm (zae (⟨zfQ,zfR⟩:Frac))))],[]⟩:=by subst zp6;exact zax (by kernel_rfl) (zc hs hk (fun hs hk=>(hX0 hs hk rfl)) (fun hs hk=>(hX0 hs hk rfl)))
def zss (l_a0:(Sl Frac)) (S0:(Sl Frac)→Int→Int→Int→Frac) (zaI:(Sl Frac)) (zai:Int) (zao:Int) (zaq:Int):Frac :=
  (cond (decide (zai < (((l_a0.len : Int) - (1:Int)).toNat : Int)))
 (zsq S0 l_a0 zaI zai (zKY (zaI.get zai.toNat) (⟨zao,zaq⟩:Frac)) zao zaq ((zaI.get zai.toNat).Num) ((zaI.get zai.toNat).Den))
 (⟨zao,zaq⟩:Frac))
def zst (l_a0:(Sl Frac)) (P0:(Sl Frac)→Int→Int→Int→Bool) (zaI:(Sl Frac)) (zai:Int) (zao:Int) (zaq:Int):Bool :=
  (cond (decide (zai < (((l_a0.len : Int) - (1:Int)).toNat : Int)))
 (decide ((0≤zai∧zai < (zaI.len:Int))) &&
 (zsr P0 l_a0 zaI zai (zKY (zaI.get zai.toNat) (⟨zao,zaq⟩:Frac)) zao zaq ((zaI.get zai.toNat).Num) ((zaI.get zai.toNat).Den)))
 true)
def zsu (l_a0:(Sl Frac)):Nat→(Sl Frac)→Int→Int→Int→Frac:=lpO (fun _ _ _ _=>default) (zss l_a0)
def zsv (l_a0:(Sl Frac)):Nat→(Sl Frac)→Int→Int→Int→Bool:=lpO (fun _ _ _ _=>false) (zst l_a0)
def zsw (l_a0:(Sl Frac)) (zaI:(Sl Frac)) (zai:Int) (zao:Int) (zaq:Int):Frac:=zsu l_a0 Fuel zaI zai zao zaq
def zsx (l_a0:(Sl Frac)) (zaI:(Sl Frac)) (zai:Int) (zao:Int) (zaq:Int):Bool:=zsv l_a0 Fuel zaI zai zao zaq
theorem zAH (hs:zsx l_a0 zaI zai zao zaq=true) (hk:K (zK1 (zsw l_a0 zaI zai zao zaq))) (zfS:zcc=zg zae zaI):z111 K [1,1,0,1,0] [] (zv2 l_a0 zaI zai zao zaq zcc) :=
  zl (fun X=>z111 K [1,1,0,1,0,0] [X]) (by kernel_rfl) fun X0 hX =>
  (show ∀ k, zv4 K l_a0 X0 (zsv l_a0 k) (zsu l_a0 k) from zfu _ _ (zst l_a0) (zss l_a0) (zv4 K l_a0 X0)
 (by intro _ _ _ _ _ hs;exact absurd hs Bool.false_ne_true)
 (by intro P0 S0 hX0 zaI zai zao zaq zcc hs hk zfS;subst zfS;exact hX _ (zax (by kernel_rfl) (zc hs hk (fun hs hk=>(zaw hs fun hc hs=>And.intro hc (zAG hX0 hs hk rfl))) (fun hs hk=>hk))))) _ hs hk zfS
def zv5 (l_a0:(Sl Frac)):Frac :=
  (zsw l_a0 (⟨((l_a0.len:Int) - (1:Int)).toNat,(fun i=>l_a0.get (i+((1:Int).toNat)))⟩:Sl Frac) (0:Int) ((l_a0.get 0).Num) ((l_a0.get 0).Den))
def zK2 (l_a0:(Sl Frac)):Bool :=
  (decide ((0≤(0:Int)∧(0:Int) < (l_a0.len:Int))) &&
 (decide ((0≤(1:Int)∧(1:Int)≤(l_a0.len:Int)∧(l_a0.len:Int)≤(l_a0.len:Int))) &&
 (zsx l_a0 (⟨((l_a0.len:Int) - (1:Int)).toNat,(fun i=>l_a0.get (i+((1:Int).toNat)))⟩:Sl Frac) (0:Int) ((l_a0.get 0).Num) ((l_a0.get 0).Den))))
end
theorem zOQ (l_a0:(Sl Frac)) (K:List PA→Prop) (hs:zK2 l_a0=true) (hk:K (zK1 (zv5 l_a0))):vcFun Try.prog zNt zv1 111 [.one (.sl l_a0.len 2 (fun i=>zae (l_a0.get i))),.one (.fn 112 [] [])] K :=
  zax (by kernel_rfl) (zaw hs fun hc hs=>And.intro hc (zaw hs fun hc hs=>And.intro hc (zAH hs hk rfl)))
abbrev zJb:Ctrs:=csm zLS (fun _ _=>[]) (fun _=>false)
def zp7:Ann:=⟨25,[(0,zK [0,1,4] [4]),(1,zK [0,1,4,5] [4,5]),(2,zK [1,4,5,12,13,14] [4,5]),(3,zK [1,4,5,12,13,14,15] [4,5]),(4,zK [1,4,5,7,12,13,14] [4,5,7]),(5,zK [1,4,5,7,12,13,14,21] [4,5,7]),(6,zK [1,4,5,12,13,14] [4,5]),(7,zK [1,4,5,12,13,14] [4,5]),(8,zK [4] [4])],
 [(3,zK [1,4,5,12,13,14] [4,5])],
 [(6,zK [1,4,5,7,12,13,14,21] [4,5,7])],
 [],[]⟩
abbrev zLT:=Frac
abbrev zAI (r:zLT):List PA:=[.agg [.int .i64 r.Num,.int .i64 r.Den]]
@[irreducible] def z111a:=ptF Try.prog zJb zp7 Try.f111
def zsy (l_a0:(Sl Frac)) (zaI:(Sl Frac)) (zai:Int) (zao:Int) (zaq:Int) (zcc:Nat→List PV):St:=⟨[(1,zP (.fn 113 [] [])),(4,zp 4 0),(5,zp 5 0),(12,zP (.sl zaI.len 2 zcc)),(13,zI (((l_a0.len:Int) - (1:Int)).toNat:Int)),(14,zI zai)],[(4,.box 25 (zm (zae (⟨(0:Int),(0:Int)⟩:Frac)))),(5,.box 25 (zm (zae (⟨zao,zaq⟩:Frac))))],[]⟩
abbrev zp8 (K:List PA→Prop) (l_a0:(Sl Frac)) (X:St→Prop) (P:(Sl Frac)→Int→Int→Int→Bool) (S:(Sl Frac)→Int→Int→Int→Frac):Prop:=∀ ⦃zaI:(Sl Frac)⦄ ⦃zai:Int⦄ ⦃zao:Int⦄ ⦃zaq:Int⦄ ⦃zcc:Nat→List PV⦄,P zaI zai zao zaq=true→K (zAI (S zaI zai zao zaq))→zcc=zg zae zaI→X (zsy l_a0 zaI zai zao zaq zcc)
section
variable {K:List PA→Prop} {l_a0:(Sl Frac)} {zaI:(Sl Frac)} {zai:Int} {zao:Int} {zaq:Int} {zcc:Nat→List PV} {X0:St→Prop} {P0:(Sl Frac)→Int→Int→Int→Bool} {S0:(Sl Frac)→Int→Int→Int→Frac} {zd0:(Sl Frac)} {zaP:Int} {zfP:Bool} {zcq:Int} {zcr:Int} {zfQ:Int} {zfR:Int} {zjK:Nat→List PV}
def zou (S0:(Sl Frac)→Int→Int→Int→Frac) (l_a0:(Sl Frac)) (zd0:(Sl Frac)) (zaP:Int) (zfP:Bool) (zcq:Int) (zcr:Int) (zfQ:Int) (zfR:Int):Frac :=
  (cond zfP
 (S0 zd0 (w64 (zaP+(1:Int))) zfQ zfR)
 (S0 zd0 (w64 (zaP+(1:Int))) zcq zcr))
def zov (P0:(Sl Frac)→Int→Int→Int→Bool) (l_a0:(Sl Frac)) (zd0:(Sl Frac)) (zaP:Int) (zfP:Bool) (zcq:Int) (zcr:Int) (zfQ:Int) (zfR:Int):Bool :=
  (cond zfP
 (P0 zd0 (w64 (zaP+(1:Int))) zfQ zfR)
 (P0 zd0 (w64 (zaP+(1:Int))) zcq zcr))
theorem zv6 (hX0:zp8 K l_a0 X0 P0 S0) (hs:zov P0 l_a0 zd0 zaP zfP zcq zcr zfQ zfR=true) (hk:K (zAI (zou S0 l_a0 zd0 zaP zfP zcq zcr zfQ zfR))) (zp6:zjK=zg zae zd0):z111a K [1,1,0,1,0,0,1,1,0,0,1,1] [X0] ⟨[(1,zP (.fn 113 [] [])),(4,zp 4 0),(5,zp 5 0),(7,zp 7 0),(12,zP (.sl zd0.len 2 zjK)),(13,zI (((l_a0.len:Int) - (1:Int)).toNat:Int)),(14,zI zaP),(21,zB zfP)],[(4,.box 25 (zm (zae (⟨(0:Int),(0:Int)⟩:Frac)))),(5,.box 25 (zm (zae (⟨zcq,zcr⟩:Frac)))),(7,.box 25 (zm (zae (⟨zfQ,zfR⟩:Frac))))],[]⟩:=by subst zp6;exact zax (by kernel_rfl) (zc hs hk (fun hs hk=>(hX0 hs hk rfl)) (fun hs hk=>(hX0 hs hk rfl)))
def zow (l_a0:(Sl Frac)) (S0:(Sl Frac)→Int→Int→Int→Frac) (zaI:(Sl Frac)) (zai:Int) (zao:Int) (zaq:Int):Frac :=
  (cond (decide (zai < (((l_a0.len : Int) - (1:Int)).toNat : Int)))
 (zou S0 l_a0 zaI zai (zKZ (zaI.get zai.toNat) (⟨zao,zaq⟩:Frac)) zao zaq ((zaI.get zai.toNat).Num) ((zaI.get zai.toNat).Den))
 (⟨zao,zaq⟩:Frac))
def zox (l_a0:(Sl Frac)) (P0:(Sl Frac)→Int→Int→Int→Bool) (zaI:(Sl Frac)) (zai:Int) (zao:Int) (zaq:Int):Bool :=
  (cond (decide (zai < (((l_a0.len : Int) - (1:Int)).toNat : Int)))
 (decide ((0≤zai∧zai < (zaI.len:Int))) &&
 (zov P0 l_a0 zaI zai (zKZ (zaI.get zai.toNat) (⟨zao,zaq⟩:Frac)) zao zaq ((zaI.get zai.toNat).Num) ((zaI.get zai.toNat).Den)))
 true)
def zoy (l_a0:(Sl Frac)):Nat→(Sl Frac)→Int→Int→Int→Frac:=lpO (fun _ _ _ _=>default) (zow l_a0)
def zoz (l_a0:(Sl Frac)):Nat→(Sl Frac)→Int→Int→Int→Bool:=lpO (fun _ _ _ _=>false) (zox l_a0)
def zoA (l_a0:(Sl Frac)) (zaI:(Sl Frac)) (zai:Int) (zao:Int) (zaq:Int):Frac:=zoy l_a0 Fuel zaI zai zao zaq
def zoB (l_a0:(Sl Frac)) (zaI:(Sl Frac)) (zai:Int) (zao:Int) (zaq:Int):Bool:=zoz l_a0 Fuel zaI zai zao zaq
theorem zv7 (hs:zoB l_a0 zaI zai zao zaq=true) (hk:K (zAI (zoA l_a0 zaI zai zao zaq))) (zfS:zcc=zg zae zaI):z111a K [1,1,0,1,0] [] (zsy l_a0 zaI zai zao zaq zcc) :=
  zl (fun X=>z111a K [1,1,0,1,0,0] [X]) (by kernel_rfl) fun X0 hX =>
  (show ∀ k, zp8 K l_a0 X0 (zoz l_a0 k) (zoy l_a0 k) from zfu _ _ (zox l_a0) (zow l_a0) (zp8 K l_a0 X0)
 (by intro _ _ _ _ _ hs;exact absurd hs Bool.false_ne_true)
 (by intro P0 S0 hX0 zaI zai zao zaq zcc hs hk zfS;subst zfS;exact hX _ (zax (by kernel_rfl) (zc hs hk (fun hs hk=>(zaw hs fun hc hs=>And.intro hc (zv6 hX0 hs hk rfl))) (fun hs hk=>hk))))) _ hs hk zfS
def s111a (l_a0:(Sl Frac)):Frac :=
  (zoA l_a0 (⟨((l_a0.len:Int) - (1:Int)).toNat,(fun i=>l_a0.get (i+((1:Int).toNat)))⟩:Sl Frac) (0:Int) ((l_a0.get 0).Num) ((l_a0.get 0).Den))
def zAJ (l_a0:(Sl Frac)):Bool :=
  (decide ((0≤(0:Int)∧(0:Int) < (l_a0.len:Int))) &&
 (decide ((0≤(1:Int)∧(1:Int)≤(l_a0.len:Int)∧(l_a0.len:Int)≤(l_a0.len:Int))) &&
 (zoB l_a0 (⟨((l_a0.len:Int) - (1:Int)).toNat,(fun i=>l_a0.get (i+((1:Int).toNat)))⟩:Sl Frac) (0:Int) ((l_a0.get 0).Num) ((l_a0.get 0).Den))))
end
theorem zLU (l_a0:(Sl Frac)) (K:List PA→Prop) (hs:zAJ l_a0=true) (hk:K (zAI (s111a l_a0))):vcFun Try.prog zJb zp7 111 [.one (.sl l_a0.len 2 (fun i=>zae (l_a0.get i))),.one (.fn 113 [] [])] K :=
  zax (by kernel_rfl) (zaw hs fun hc hs=>And.intro hc (zaw hs fun hc hs=>And.intro hc (zv7 hs hk rfl)))
def zv8 : List PA → COut
  | [.one (.sl a0_n a0_s a0_g),.one (.fn 112 [] [])]=>.det (IsE zae 2 a0_s a0_g∧zK2 (⟨a0_n,zfN a0_g⟩:(Sl Frac))=true) [.agg [.int .i64 ((zv5 (⟨a0_n,zfN a0_g⟩:(Sl Frac))).Num),.int .i64 ((zv5 (⟨a0_n,zfN a0_g⟩:(Sl Frac))).Den)]]
  | [.one (.sl a0_n a0_s a0_g),.one (.fn 113 [] [])]=>.det (IsE zae 2 a0_s a0_g∧zAJ (⟨a0_n,zfN a0_g⟩:(Sl Frac))=true) [.agg [.int .i64 ((s111a (⟨a0_n,zfN a0_g⟩:(Sl Frac))).Num),.int .i64 ((s111a (⟨a0_n,zfN a0_g⟩:(Sl Frac))).Den)]]
  | _=>.no
theorem zEd:zah Try.prog 111:=⟨_,rfl,rfl,by kernel_rfl⟩
theorem zLV:Ok Try.prog 111 zv8:=zaz zJa zEd fun args K h=>by
  unfold zv8 at h
  split at h
  · rename_i a0_n a0_s a0_g
    obtain ⟨⟨⟨rfl,a0_f,rfl⟩,hs⟩,hk⟩:=h
    try rw [zes a0_f] at hs
    try rw [zes a0_f] at hk
    exact ⟨(fun _ _=>[]),(fun _=>false),zv1,zOQ (⟨a0_n,a0_f⟩:(Sl Frac)) K hs hk⟩
  · rename_i a0_n a0_s a0_g
    obtain ⟨⟨⟨rfl,a0_f,rfl⟩,hs⟩,hk⟩:=h
    try rw [zes a0_f] at hs
    try rw [zes a0_f] at hk
    exact ⟨(fun _ _=>[]),(fun _=>false),zp7,zLU (⟨a0_n,a0_f⟩:(Sl Frac)) K hs hk⟩
  · exact h.elim
abbrev T82:Tabs:=((((Tabs.nil.addF 83 zD8).addF 89 zpL).addF 101 zvX).addF 111 zv8)
theorem zLW:TabsOk Try.prog T82:=((((TabsOk.nil.addF zOy).addF zKV).addF zLP).addF zLV)
abbrev G82:Ctrs:=csm T82 (fun _ _=>[]) (fun _=>false)
def zEe:Ann:=⟨39,[(0,zK [1,2,4,5] [2,4,5]),(1,zK [1,2,4,5,6] [2,4,5]),(2,zK [1,4,5,6,12,13,14] [4,5]),(3,zK [1,4,5,6,12,13,14,15] [4,5,23]),(4,zK [1,4,5,6,8,12,13,14] [4,5,8,23]),(5,zK [1,4,5,6,12,13,14] [4,5,23]),(6,zK [1,4,5,6,12,13,14] [4,5,23]),(7,zK [4,5,6,9] [4,5,9,23]),(8,zK [4,5,9,10] [4,5,9,10]),(9,zK [4,5] [4,5])],
 [(3,⟨[1,4,5,6,12,13,14],[4,5,23],[(6,23,25,fun _=>zae default)],[],[],[],[]⟩)],
 [(7,zK [4,5,6] [4,5,23]),(8,zK [4,5,6,9] [4,5,9,23]),(9,zK [4,5,9,10] [4,5,9,10])],
 [],[]⟩
abbrev R82:=(Frac×Frac)
abbrev e82 (r:R82):List PA:=[.agg [.int .i64 r.1.Num,.int .i64 r.1.Den],.agg [.int .i64 r.2.Num,.int .i64 r.2.Den]]
@[irreducible] def z82:=ptF Try.prog G82 zEe Try.f82
def zCb (c0:Int) (s:set) (zai:Int) (za1:(Sl Frac)) (zcd:Nat→List PV):St:=⟨[(1,zP (.fn 101 [] [.fp (zaj c0) 0])),(4,zp 4 0),(5,zp 5 0),(6,zv 23),(12,zS zaf 3 s.corners),(13,zI (s.corners.len:Int)),(14,zI zai)],[(4,.box 25 (zm (zae (⟨(0:Int),(0:Int)⟩:Frac)))),(5,.box 25 (zm (zae (⟨(0:Int),(0:Int)⟩:Frac)))),(23,.vec 25 2 16 za1.len zcd)],[]⟩
abbrev zJc (K:List PA→Prop) (c0:Int) (s:set) (X:St→Prop) (P:Int→(Sl Frac)→Bool) (S:Int→(Sl Frac)→(Frac×Frac)):Prop:=∀ ⦃zai:Int⦄ ⦃za1:(Sl Frac)⦄ ⦃zcd:Nat→List PV⦄,P zai za1=true→K (e82 (S zai za1))→zcd=zg zae za1→X (zCb c0 s zai za1 zcd)
section
variable {K:List PA→Prop} {c0:Int} {s:set} {zai:Int} {za1:(Sl Frac)} {zcd:Nat→List PV} {X0:St→Prop} {P0:Int→(Sl Frac)→Bool} {S0:Int→(Sl Frac)→(Frac×Frac)} {zcE:(Sl Frac)} {zjL:Nat→List PV} {za2:Int} {za3:Int} {zc8:(Sl Frac)} {zjM:Nat→List PV} {zbS:Int} {zbT:Int}
def zv9 (za2:Int) (za3:Int) (zbS:Int) (zbT:Int):(Frac×Frac) :=
  ((s89 za2 za3),(s89 zbS zbT))
def zwa (za2:Int) (za3:Int) (zbS:Int) (zbT:Int):Bool :=
  (decide ((p89 za2 za3=true)) &&
 (decide ((p89 zbS zbT=true)) &&
 true))
theorem zEf (hs:zwa za2 za3 zbS zbT=true) (hk:K (e82 (zv9 za2 za3 zbS zbT))):z82 K [1,1,1,1,1] [] ⟨[(4,zp 4 0),(5,zp 5 0),(9,zp 9 0),(10,zp 10 0)],[(4,.box 25 (zm (zae (⟨(0:Int),(0:Int)⟩:Frac)))),(5,.box 25 (zm (zae (⟨(0:Int),(0:Int)⟩:Frac)))),(9,.box 25 (zm (zae (⟨za2,za3⟩:Frac)))),(10,.box 25 (zm (zae (⟨zbS,zbT⟩:Frac))))],[]⟩:=zax (by kernel_rfl) (zaw hs fun hc hs=>And.intro hc (zaw hs fun hc hs=>And.intro hc hk))
def zwb (za2:Int) (za3:Int) (zc8:(Sl Frac)):(Frac×Frac) :=
  (zv9 za2 za3 ((s111a zc8).Num) ((s111a zc8).Den))
def zwc (za2:Int) (za3:Int) (zc8:(Sl Frac)):Bool :=
  (decide ((zAJ zc8=true)) &&
 (zwa za2 za3 ((s111a zc8).Num) ((s111a zc8).Den)))
theorem zEg (hs:zwc za2 za3 zc8=true) (hk:K (e82 (zwb za2 za3 zc8))) (zp9:zjM=zg zae zc8):z82 K [1,1,1,1] [] ⟨[(4,zp 4 0),(5,zp 5 0),(6,zv 23),(9,zp 9 0)],[(4,.box 25 (zm (zae (⟨(0:Int),(0:Int)⟩:Frac)))),(5,.box 25 (zm (zae (⟨(0:Int),(0:Int)⟩:Frac)))),(9,.box 25 (zm (zae (⟨za2,za3⟩:Frac)))),(23,.vec 25 2 16 zc8.len zjM)],[]⟩:=by subst zp9;exact zax (by kernel_rfl) (zaw hs fun hc hs=>And.intro (And.intro (zE zae 2 zc8.get) hc) (zEf hs hk))
def zwd (zcE:(Sl Frac)):(Frac×Frac) :=
  (zwb ((zv5 zcE).Num) ((zv5 zcE).Den) zcE)
def zwe (zcE:(Sl Frac)):Bool :=
  (decide ((zK2 zcE=true)) &&
 (zwc ((zv5 zcE).Num) ((zv5 zcE).Den) zcE))
theorem zEh (hs:zwe zcE=true) (hk:K (e82 (zwd zcE))) (zqa:zjL=zg zae zcE):z82 K [1,1,1] [] ⟨[(4,zp 4 0),(5,zp 5 0),(6,zv 23)],[(4,.box 25 (zm (zae (⟨(0:Int),(0:Int)⟩:Frac)))),(5,.box 25 (zm (zae (⟨(0:Int),(0:Int)⟩:Frac)))),(23,.vec 25 2 16 zcE.len zjL)],[]⟩:=by subst zqa;exact zax (by kernel_rfl) (zaw hs fun hc hs=>And.intro (And.intro (zE zae 2 zcE.get) hc) (zEg hs hk rfl))
def zwf (c0:Int) (s:set) (S0:Int→(Sl Frac)→(Frac×Frac)) (zai:Int) (za1:(Sl Frac)):(Frac×Frac) :=
  (cond (decide (zai < (s.corners.len : Int)))
 (S0 (w64 (zai+(1:Int))) (⟨(za1.len+1),(zc7 za1.len za1.get (fun _=>(zHC c0 (s.corners.get zai.toNat))))⟩:Sl Frac))
 (zwd za1))
def zwg (c0:Int) (s:set) (P0:Int→(Sl Frac)→Bool) (zai:Int) (za1:(Sl Frac)):Bool :=
  (cond (decide (zai < (s.corners.len : Int)))
 (decide ((0≤zai∧zai < (s.corners.len:Int))) &&
 (decide (((za1.len+1) * 16≤140737488355328∧za1.len+1≤9223372036854775807)) &&
 (P0 (w64 (zai+(1:Int))) (⟨(za1.len+1),(zc7 za1.len za1.get (fun _=>(zHC c0 (s.corners.get zai.toNat))))⟩:Sl Frac))))
 (zwe za1))
def zwh (c0:Int) (s:set):Nat→Int→(Sl Frac)→(Frac×Frac):=lpO (fun _ _=>default) (zwf c0 s)
def zwi (c0:Int) (s:set):Nat→Int→(Sl Frac)→Bool:=lpO (fun _ _=>false) (zwg c0 s)
def zwj (c0:Int) (s:set) (zai:Int) (za1:(Sl Frac)):(Frac×Frac):=zwh c0 s Fuel zai za1
def zwk (c0:Int) (s:set) (zai:Int) (za1:(Sl Frac)):Bool:=zwi c0 s Fuel zai za1
theorem zEi (hs:zwk c0 s zai za1=true) (hk:K (e82 (zwj c0 s zai za1))) (zfT:zcd=zg zae za1):z82 K [1,1,0,1,0] [] (zCb c0 s zai za1 zcd) :=
  zl (fun X=>z82 K [1,1,0,1,0,0] [X]) (by kernel_rfl) fun X0 hX =>
  (show ∀ k, zJc K c0 s X0 (zwi c0 s k) (zwh c0 s k) from zfu _ _ (zwg c0 s) (zwf c0 s) (zJc K c0 s X0)
 (by intro _ _ _ hs;exact absurd hs Bool.false_ne_true)
 (by intro P0 S0 hX0 zai za1 zcd hs hk zfT;subst zfT;exact hX _ (zax (by kernel_rfl) (zc hs hk (fun hs hk=>(zaw hs fun hc hs=>And.intro hc (zaw hs fun hc hs=>And.intro hc (hX0 hs hk (zim (enc:=zae) (f:=za1.get) (h:=(fun _=>(zHC c0 (s.corners.get zai.toNat)))) rfl rfl))))) (fun hs hk=>(zEh hs hk rfl)))))) _ hs hk zfT
def s82 (c0:Int) (s:set):(Frac×Frac) :=
  (zwj c0 s (0:Int) (⟨0,(fun _=>default)⟩:Sl Frac))
def p82 (c0:Int) (s:set):Bool :=
  (zwk c0 s (0:Int) (⟨0,(fun _=>default)⟩:Sl Frac))
end
theorem q82 (c0:Int) (s:set) (K:List PA→Prop) (hs:p82 c0 s=true) (hk:K (e82 (s82 c0 s))):vcFun Try.prog G82 zEe 82 [.agg (zaV s),.one (.fn 101 [] [.fp (zaj c0) 0])] K :=
  zax (by kernel_rfl) (zEi hs hk rfl)
abbrev zNu:Ctrs:=csm T82 (fun _ _=>[]) (fun _=>false)
def zwl:Ann:=⟨39,[(0,zK [1,2,4,5] [2,4,5]),(1,zK [1,2,4,5,6] [2,4,5]),(2,zK [1,4,5,6,12,13,14] [4,5]),(3,zK [1,4,5,6,12,13,14,15] [4,5,23]),(4,zK [1,4,5,6,8,12,13,14] [4,5,8,23]),(5,zK [1,4,5,6,12,13,14] [4,5,23]),(6,zK [1,4,5,6,12,13,14] [4,5,23]),(7,zK [4,5,6,9] [4,5,9,23]),(8,zK [4,5,9,10] [4,5,9,10]),(9,zK [4,5] [4,5])],
 [(3,⟨[1,4,5,6,12,13,14],[4,5,23],[(6,23,25,fun _=>zae default)],[],[],[],[]⟩)],
 [(7,zK [4,5,6] [4,5,23]),(8,zK [4,5,6,9] [4,5,9,23]),(9,zK [4,5,9,10] [4,5,9,10])],
 [],[]⟩
abbrev zOR:=(Frac×Frac)
abbrev zHD (r:zOR):List PA:=[.agg [.int .i64 r.1.Num,.int .i64 r.1.Den],.agg [.int .i64 r.2.Num,.int .i64 r.2.Den]]
@[irreducible] def z82a:=ptF Try.prog zNu zwl Try.f82
def zwm (s:set) (zai:Int) (za1:(Sl Frac)) (zcd:Nat→List PV):St:=⟨[(1,zP (.fn 83 [] [])),(4,zp 4 0),(5,zp 5 0),(6,zv 23),(12,zS zaf 3 s.corners),(13,zI (s.corners.len:Int)),(14,zI zai)],[(4,.box 25 (zm (zae (⟨(0:Int),(0:Int)⟩:Frac)))),(5,.box 25 (zm (zae (⟨(0:Int),(0:Int)⟩:Frac)))),(23,.vec 25 2 16 za1.len zcd)],[]⟩
abbrev zCc (K:List PA→Prop) (s:set) (X:St→Prop) (P:Int→(Sl Frac)→Bool) (S:Int→(Sl Frac)→(Frac×Frac)):Prop:=∀ ⦃zai:Int⦄ ⦃za1:(Sl Frac)⦄ ⦃zcd:Nat→List PV⦄,P zai za1=true→K (zHD (S zai za1))→zcd=zg zae za1→X (zwm s zai za1 zcd)
section
variable {K:List PA→Prop} {s:set} {zai:Int} {za1:(Sl Frac)} {zcd:Nat→List PV} {X0:St→Prop} {P0:Int→(Sl Frac)→Bool} {S0:Int→(Sl Frac)→(Frac×Frac)} {zcE:(Sl Frac)} {zjL:Nat→List PV} {za2:Int} {za3:Int} {zc8:(Sl Frac)} {zjM:Nat→List PV} {zbS:Int} {zbT:Int}
def zsz (za2:Int) (za3:Int) (zbS:Int) (zbT:Int):(Frac×Frac) :=
  ((s89 za2 za3),(s89 zbS zbT))
def zsA (za2:Int) (za3:Int) (zbS:Int) (zbT:Int):Bool :=
  (decide ((p89 za2 za3=true)) &&
 (decide ((p89 zbS zbT=true)) &&
 true))
theorem zAK (hs:zsA za2 za3 zbS zbT=true) (hk:K (zHD (zsz za2 za3 zbS zbT))):z82a K [1,1,1,1,1] [] ⟨[(4,zp 4 0),(5,zp 5 0),(9,zp 9 0),(10,zp 10 0)],[(4,.box 25 (zm (zae (⟨(0:Int),(0:Int)⟩:Frac)))),(5,.box 25 (zm (zae (⟨(0:Int),(0:Int)⟩:Frac)))),(9,.box 25 (zm (zae (⟨za2,za3⟩:Frac)))),(10,.box 25 (zm (zae (⟨zbS,zbT⟩:Frac))))],[]⟩:=zax (by kernel_rfl) (zaw hs fun hc hs=>And.intro hc (zaw hs fun hc hs=>And.intro hc hk))
def zsB (za2:Int) (za3:Int) (zc8:(Sl Frac)):(Frac×Frac) :=
  (zsz za2 za3 ((s111a zc8).Num) ((s111a zc8).Den))
def zsC (za2:Int) (za3:Int) (zc8:(Sl Frac)):Bool :=
  (decide ((zAJ zc8=true)) &&
 (zsA za2 za3 ((s111a zc8).Num) ((s111a zc8).Den)))
theorem zAL (hs:zsC za2 za3 zc8=true) (hk:K (zHD (zsB za2 za3 zc8))) (zp9:zjM=zg zae zc8):z82a K [1,1,1,1] [] ⟨[(4,zp 4 0),(5,zp 5 0),(6,zv 23),(9,zp 9 0)],[(4,.box 25 (zm (zae (⟨(0:Int),(0:Int)⟩:Frac)))),(5,.box 25 (zm (zae (⟨(0:Int),(0:Int)⟩:Frac)))),(9,.box 25 (zm (zae (⟨za2,za3⟩:Frac)))),(23,.vec 25 2 16 zc8.len zjM)],[]⟩:=by subst zp9;exact zax (by kernel_rfl) (zaw hs fun hc hs=>And.intro (And.intro (zE zae 2 zc8.get) hc) (zAK hs hk))
def zsD (zcE:(Sl Frac)):(Frac×Frac) :=
  (zsB ((zv5 zcE).Num) ((zv5 zcE).Den) zcE)
def zsE (zcE:(Sl Frac)):Bool :=
  (decide ((zK2 zcE=true)) &&
 (zsC ((zv5 zcE).Num) ((zv5 zcE).Den) zcE))
theorem zAM (hs:zsE zcE=true) (hk:K (zHD (zsD zcE))) (zqa:zjL=zg zae zcE):z82a K [1,1,1] [] ⟨[(4,zp 4 0),(5,zp 5 0),(6,zv 23)],[(4,.box 25 (zm (zae (⟨(0:Int),(0:Int)⟩:Frac)))),(5,.box 25 (zm (zae (⟨(0:Int),(0:Int)⟩:Frac)))),(23,.vec 25 2 16 zcE.len zjL)],[]⟩:=by subst zqa;exact zax (by kernel_rfl) (zaw hs fun hc hs=>And.intro (And.intro (zE zae 2 zcE.get) hc) (zAL hs hk rfl))
def zsF (s:set) (S0:Int→(Sl Frac)→(Frac×Frac)) (zai:Int) (za1:(Sl Frac)):(Frac×Frac) :=
  (cond (decide (zai < (s.corners.len : Int)))
 (S0 (w64 (zai+(1:Int))) (⟨(za1.len+1),(zc7 za1.len za1.get (fun _=>(s83 (s.corners.get zai.toNat))))⟩:Sl Frac))
 (zsD za1))
def zsG (s:set) (P0:Int→(Sl Frac)→Bool) (zai:Int) (za1:(Sl Frac)):Bool :=
  (cond (decide (zai < (s.corners.len : Int)))
 (decide ((0≤zai∧zai < (s.corners.len:Int))) &&
 (decide (((za1.len+1) * 16≤140737488355328∧za1.len+1≤9223372036854775807)) &&
 (P0 (w64 (zai+(1:Int))) (⟨(za1.len+1),(zc7 za1.len za1.get (fun _=>(s83 (s.corners.get zai.toNat))))⟩:Sl Frac))))
 (zsE za1))
def zsH (s:set):Nat→Int→(Sl Frac)→(Frac×Frac):=lpO (fun _ _=>default) (zsF s)
def zsI (s:set):Nat→Int→(Sl Frac)→Bool:=lpO (fun _ _=>false) (zsG s)
def zsJ (s:set) (zai:Int) (za1:(Sl Frac)):(Frac×Frac):=zsH s Fuel zai za1
def zsK (s:set) (zai:Int) (za1:(Sl Frac)):Bool:=zsI s Fuel zai za1
theorem zAN (hs:zsK s zai za1=true) (hk:K (zHD (zsJ s zai za1))) (zfT:zcd=zg zae za1):z82a K [1,1,0,1,0] [] (zwm s zai za1 zcd) :=
  zl (fun X=>z82a K [1,1,0,1,0,0] [X]) (by kernel_rfl) fun X0 hX =>
  (show ∀ k, zCc K s X0 (zsI s k) (zsH s k) from zfu _ _ (zsG s) (zsF s) (zCc K s X0)
 (by intro _ _ _ hs;exact absurd hs Bool.false_ne_true)
 (by intro P0 S0 hX0 zai za1 zcd hs hk zfT;subst zfT;exact hX _ (zax (by kernel_rfl) (zc hs hk (fun hs hk=>(zaw hs fun hc hs=>And.intro hc (zaw hs fun hc hs=>And.intro hc (hX0 hs hk (zim (enc:=zae) (f:=za1.get) (h:=(fun _=>(s83 (s.corners.get zai.toNat)))) rfl rfl))))) (fun hs hk=>(zAM hs hk rfl)))))) _ hs hk zfT
def zJd (s:set):(Frac×Frac) :=
  (zsJ s (0:Int) (⟨0,(fun _=>default)⟩:Sl Frac))
def zNv (s:set):Bool :=
  (zsK s (0:Int) (⟨0,(fun _=>default)⟩:Sl Frac))
end
theorem zOS (s:set) (K:List PA→Prop) (hs:zNv s=true) (hk:K (zHD (zJd s))):vcFun Try.prog zNu zwl 82 [.agg (zaV s),.one (.fn 83 [] [])] K :=
  zax (by kernel_rfl) (zAN hs hk rfl)
def zAO : List PA → COut
  | [.agg [.sl a0_list_Gates_n a0_list_Gates_s a0_list_Gates_g,.sl a0_corners_n a0_corners_s a0_corners_g],.one (.fn 101 [] [.fp [.int .i64 c0] 0])]=>.det (IsE enc_55 3 a0_list_Gates_s a0_list_Gates_g∧IsE zaf 3 a0_corners_s a0_corners_g∧p82 c0 (⟨(⟨(⟨a0_list_Gates_n,zad a0_list_Gates_g⟩:(Sl Gate))⟩:list),(⟨a0_corners_n,zaQ a0_corners_g⟩:(Sl straight))⟩:set)=true) [.agg [.int .i64 (((s82 c0 (⟨(⟨(⟨a0_list_Gates_n,zad a0_list_Gates_g⟩:(Sl Gate))⟩:list),(⟨a0_corners_n,zaQ a0_corners_g⟩:(Sl straight))⟩:set)).1).Num),.int .i64 (((s82 c0 (⟨(⟨(⟨a0_list_Gates_n,zad a0_list_Gates_g⟩:(Sl Gate))⟩:list),(⟨a0_corners_n,zaQ a0_corners_g⟩:(Sl straight))⟩:set)).1).Den)],.agg [.int .i64 (((s82 c0 (⟨(⟨(⟨a0_list_Gates_n,zad a0_list_Gates_g⟩:(Sl Gate))⟩:list),(⟨a0_corners_n,zaQ a0_corners_g⟩:(Sl straight))⟩:set)).2).Num),.int .i64 (((s82 c0 (⟨(⟨(⟨a0_list_Gates_n,zad a0_list_Gates_g⟩:(Sl Gate))⟩:list),(⟨a0_corners_n,zaQ a0_corners_g⟩:(Sl straight))⟩:set)).2).Den)]]
  | [.agg [.sl a0_list_Gates_n a0_list_Gates_s a0_list_Gates_g,.sl a0_corners_n a0_corners_s a0_corners_g],.one (.fn 83 [] [])]=>.det (IsE enc_55 3 a0_list_Gates_s a0_list_Gates_g∧IsE zaf 3 a0_corners_s a0_corners_g∧zNv (⟨(⟨(⟨a0_list_Gates_n,zad a0_list_Gates_g⟩:(Sl Gate))⟩:list),(⟨a0_corners_n,zaQ a0_corners_g⟩:(Sl straight))⟩:set)=true) [.agg [.int .i64 (((zJd (⟨(⟨(⟨a0_list_Gates_n,zad a0_list_Gates_g⟩:(Sl Gate))⟩:list),(⟨a0_corners_n,zaQ a0_corners_g⟩:(Sl straight))⟩:set)).1).Num),.int .i64 (((zJd (⟨(⟨(⟨a0_list_Gates_n,zad a0_list_Gates_g⟩:(Sl Gate))⟩:list),(⟨a0_corners_n,zaQ a0_corners_g⟩:(Sl straight))⟩:set)).1).Den)],.agg [.int .i64 (((zJd (⟨(⟨(⟨a0_list_Gates_n,zad a0_list_Gates_g⟩:(Sl Gate))⟩:list),(⟨a0_corners_n,zaQ a0_corners_g⟩:(Sl straight))⟩:set)).2).Num),.int .i64 (((zJd (⟨(⟨(⟨a0_list_Gates_n,zad a0_list_Gates_g⟩:(Sl Gate))⟩:list),(⟨a0_corners_n,zaQ a0_corners_g⟩:(Sl straight))⟩:set)).2).Den)]]
  | _=>.no
theorem zJe:zah Try.prog 82:=⟨_,rfl,rfl,by kernel_rfl⟩
theorem zOT:Ok Try.prog 82 zAO:=zaz zLW zJe fun args K h=>by
  unfold zAO at h
  split at h
  · rename_i a0_list_Gates_n a0_list_Gates_s a0_list_Gates_g a0_corners_n a0_corners_s a0_corners_g c0
    obtain ⟨⟨⟨rfl,a0_list_Gates_f,rfl⟩,⟨rfl,a0_corners_f,rfl⟩,hs⟩,hk⟩:=h
    try rw [zac a0_list_Gates_f] at hs
    try rw [zac a0_list_Gates_f] at hk
    try rw [zaL a0_corners_f] at hs
    try rw [zaL a0_corners_f] at hk
    exact ⟨(fun _ _=>[]),(fun _=>false),zEe,q82 c0 (⟨(⟨(⟨a0_list_Gates_n,a0_list_Gates_f⟩:(Sl Gate))⟩:list),(⟨a0_corners_n,a0_corners_f⟩:(Sl straight))⟩:set) K hs hk⟩
  · rename_i a0_list_Gates_n a0_list_Gates_s a0_list_Gates_g a0_corners_n a0_corners_s a0_corners_g
    obtain ⟨⟨⟨rfl,a0_list_Gates_f,rfl⟩,⟨rfl,a0_corners_f,rfl⟩,hs⟩,hk⟩:=h
    try rw [zac a0_list_Gates_f] at hs
    try rw [zac a0_list_Gates_f] at hk
    try rw [zaL a0_corners_f] at hs
    try rw [zaL a0_corners_f] at hk
    exact ⟨(fun _ _=>[]),(fun _=>false),zwl,zOS (⟨(⟨(⟨a0_list_Gates_n,a0_list_Gates_f⟩:(Sl Gate))⟩:list),(⟨a0_corners_n,a0_corners_f⟩:(Sl straight))⟩:set) K hs hk⟩
  · exact h.elim
abbrev T68:Tabs:=((((Tabs.nil.addF 67 zop).addF 82 zAO).addF 89 zpL).addF 98 zAB)
theorem zLX:TabsOk Try.prog T68:=((((TabsOk.nil.addF zIG).addF zOT).addF zKV).addF zNk)
abbrev G68:Ctrs:=csm T68 (fun _ _=>[]) (fun _=>false)
def zJf:Ann:=⟨24,[(0,zK [2,3,4,5] [2,3,4,5]),(1,zK [2,3,4,5,9] [2,3,4,5]),(2,zK [4,5,6] [4,5,6]),(3,zK [4,5] [4,5]),(4,zK [4,5] [4,5])],
 [],
 [],
 [],[]⟩
abbrev R68:=(Frac×Frac)
abbrev e68 (r:R68):List PA:=[.agg [.int .i64 r.1.Num,.int .i64 r.1.Den],.agg [.int .i64 r.2.Num,.int .i64 r.2.Den]]
section
variable {K:List PA→Prop} {s:set} {z:Int}
def s68 (s:set) (z:Int):(Frac×Frac) :=
  (cond (s67 s.list)
 ((s89 ((s98 s.list).Low) (1:Int)),(s89 ((s98 s.list).High) (1:Int)))
 (((s82 z s).1),((s82 z s).2)))
def p68 (s:set) (z:Int):Bool :=
  (decide ((p67 s.list=true)) &&
 (cond (s67 s.list)
 (decide ((p98 s.list=true)) &&
 (decide ((p89 ((s98 s.list).Low) (1:Int)=true)) &&
 (decide ((p89 ((s98 s.list).High) (1:Int)=true)) &&
 true)))
 (decide ((p82 z s=true)) &&
 true)))
end
theorem q68 (s:set) (z:Int) (K:List PA→Prop) (hs:p68 s z=true) (hk:K (e68 (s68 s z))):vcFun Try.prog G68 zJf 68 [.agg (zaV s),.one (.int .i64 z)] K :=
  zax (by kernel_rfl) (zaw hs fun hc hs=>And.intro (And.intro (zE enc_55 3 s.list.Gates.get) hc) (zc hs hk (fun hs hk=>(zaw hs fun hc hs=>And.intro (And.intro (zE enc_55 3 s.list.Gates.get) hc) (zaw hs fun hc hs=>And.intro hc (zaw hs fun hc hs=>And.intro hc hk)))) (fun hs hk=>(zaw hs fun hc hs=>And.intro (And.intro (zE enc_55 3 s.list.Gates.get) (And.intro (zE zaf 3 s.corners.get) hc)) hk))))
def zwn : List PA → COut
  | [.agg [.sl a0_list_Gates_n a0_list_Gates_s a0_list_Gates_g,.sl a0_corners_n a0_corners_s a0_corners_g],.one (.int .i64 a1)]=>.det (IsE enc_55 3 a0_list_Gates_s a0_list_Gates_g∧IsE zaf 3 a0_corners_s a0_corners_g∧p68 (⟨(⟨(⟨a0_list_Gates_n,zad a0_list_Gates_g⟩:(Sl Gate))⟩:list),(⟨a0_corners_n,zaQ a0_corners_g⟩:(Sl straight))⟩:set) a1=true) [.agg [.int .i64 (((s68 (⟨(⟨(⟨a0_list_Gates_n,zad a0_list_Gates_g⟩:(Sl Gate))⟩:list),(⟨a0_corners_n,zaQ a0_corners_g⟩:(Sl straight))⟩:set) a1).1).Num),.int .i64 (((s68 (⟨(⟨(⟨a0_list_Gates_n,zad a0_list_Gates_g⟩:(Sl Gate))⟩:list),(⟨a0_corners_n,zaQ a0_corners_g⟩:(Sl straight))⟩:set) a1).1).Den)],.agg [.int .i64 (((s68 (⟨(⟨(⟨a0_list_Gates_n,zad a0_list_Gates_g⟩:(Sl Gate))⟩:list),(⟨a0_corners_n,zaQ a0_corners_g⟩:(Sl straight))⟩:set) a1).2).Num),.int .i64 (((s68 (⟨(⟨(⟨a0_list_Gates_n,zad a0_list_Gates_g⟩:(Sl Gate))⟩:list),(⟨a0_corners_n,zaQ a0_corners_g⟩:(Sl straight))⟩:set) a1).2).Den)]]
  | _=>.no
theorem zJg:zah Try.prog 68:=⟨_,rfl,rfl,by kernel_rfl⟩
theorem zNw:Ok Try.prog 68 zwn:=zaz zLX zJg fun args K h=>by
  unfold zwn at h
  split at h
  · rename_i a0_list_Gates_n a0_list_Gates_s a0_list_Gates_g a0_corners_n a0_corners_s a0_corners_g a1
    obtain ⟨⟨⟨rfl,a0_list_Gates_f,rfl⟩,⟨rfl,a0_corners_f,rfl⟩,hs⟩,hk⟩:=h
    try rw [zac a0_list_Gates_f] at hs
    try rw [zac a0_list_Gates_f] at hk
    try rw [zaL a0_corners_f] at hs
    try rw [zaL a0_corners_f] at hk
    exact ⟨(fun _ _=>[]),(fun _=>false),zJf,q68 (⟨(⟨(⟨a0_list_Gates_n,a0_list_Gates_f⟩:(Sl Gate))⟩:list),(⟨a0_corners_n,a0_corners_f⟩:(Sl straight))⟩:set) a1 K hs hk⟩
  · exact h.elim
abbrev T19:Tabs:=((((((Tabs.nil.addF 64 zpG).addF 65 zvI).addF 66 zvL).addF 67 zop).addF 68 zwn).addF 69 zp5)
theorem zLY:TabsOk Try.prog T19:=((((((TabsOk.nil.addF zIs).addF zLE).addF zLH).addF zIG).addF zNw).addF zKW)
abbrev G19:Ctrs:=csm T19 (fun _ _=>[]) (fun _=>false)
def zEj:Ann:=⟨124,[(0,zK [0,1,2,3,9,10] [9,10]),(1,zK [0,1,2,3,9,10,12] [9,10,12]),(2,zK [0,1,2,3,9,10,12,44] [9,10,12]),(3,zK [8,9,10,11] [9,10]),(4,zK [2,3,9,10,12,13,14] [9,10,12,13,14]),(5,zK [2,3,9,10,12,13,14,58] [9,10,12,13,14]),(6,zK [8,9,10,11] [9,10]),(7,zK [2,3,9,10,12,13,14,68] [9,10,12,13,14]),(8,zK [8,9,10,11] [9,10]),(9,zK [2,3,9,10,12,13,14,15,16] [9,10,12,13,14,15,16]),(10,zK [2,3,9,10,12,13,14,15,16,17] [9,10,12,13,14,15,16]),(11,zK [2,3,9,10,12,13,14,15,16,17,76,77] [9,10,12,13,14,15,16]),(12,zK [2,3,9,10,12,13,14,15,16,17,76,77,78] [9,10,12,13,14,15,16]),(13,zK [2,3,9,10,12,13,14,15,16,17,18,76,77] [9,10,12,13,14,15,16]),(14,zK [2,3,9,10,12,13,14,15,16,17,18,19,20,76,77] [9,10,12,13,14,15,16,19,20]),(15,zK [2,3,9,10,12,13,14,15,16,17,18,19,20,21,22,76,77] [9,10,12,13,14,15,16,19,20,21,22]),(16,zK [2,3,9,10,12,13,14,15,16,17,18,19,20,21,22,76,77] [9,10,12,13,14,15,16,19,20,21,22]),(17,zK [2,3,9,10,12,13,14,15,16,17,18,20,21,22,76,77,101] [9,10,12,13,14,15,16,20,21,22]),(18,zK [2,3,9,10,12,13,14,15,16,17,18,20,22,76,77] [9,10,12,13,14,15,16,20,22]),(19,zK [2,3,9,10,12,13,14,15,16,17,18,22,76,77,106] [9,10,12,13,14,15,16,22]),(20,zK [2,3,9,10,12,13,14,15,16,17,18,76,77] [9,10,12,13,14,15,16]),(21,zK [2,3,9,10,12,13,14,15,16,17,18,76,77,111] [9,10,12,13,14,15,16]),(22,zK [3,9,10,12,15,16,17] [9,10,12,15,16]),(23,zK [2,3,9,10,12,13,14,15,16,17,76,77] [9,10,12,13,14,15,16]),(24,zK [9,10,12,15,16,17,118] [9,10,12,15,16]),(25,zK [8,9,10,11] [9,10]),(26,zK [8,9,10,11] [9,10])],
 [(12,zK [2,3,9,10,12,13,14,15,16,17,76,77] [9,10,12,13,14,15,16])],
 [(3,zK [0,1,2,3,9,10,12,44] [9,10,12]),(4,zK [0,1,2,3,9,10,12] [9,10,12]),(5,zK [2,3,9,10,12,13,14] [9,10,12,13,14]),(6,zK [2,3,9,10,12,13,14,58] [9,10,12,13,14]),(7,zK [2,3,9,10,12,13,14] [9,10,12,13,14]),(8,zK [2,3,9,10,12,13,14,68] [9,10,12,13,14]),(9,zK [2,3,9,10,12,13,14] [9,10,12,13,14]),(15,zK [2,3,9,10,12,13,14,15,16,17,18,19,20,76,77] [9,10,12,13,14,15,16,19,20]),(24,zK [3,9,10,12,15,16,17] [9,10,12,15,16]),(16,zK [2,3,9,10,12,13,14,15,16,17,18,19,20,21,22,76,77] [9,10,12,13,14,15,16,19,20,21,22]),(18,zK [2,3,9,10,12,13,14,15,16,17,18,20,21,22,76,77,101] [9,10,12,13,14,15,16,20,21,22]),(19,zK [2,3,9,10,12,13,14,15,16,17,18,20,22,76,77] [9,10,12,13,14,15,16,20,22]),(20,zK [2,3,9,10,12,13,14,15,16,17,18,22,76,77,106] [9,10,12,13,14,15,16,22]),(22,zK [2,3,9,10,12,13,14,15,16,17,18,76,77,111] [9,10,12,13,14,15,16])],
 [],[]⟩
abbrev R19:=(Int×Frac×Frac×Int)
abbrev e19 (r:R19):List PA:=[.one (.int .i64 r.1),.agg [.int .i64 r.2.1.Num,.int .i64 r.2.1.Den],.agg [.int .i64 r.2.2.1.Num,.int .i64 r.2.2.1.Den],.one (.int .i64 r.2.2.2)]
@[irreducible] def z19:=ptF Try.prog G19 zEj Try.f19
def zCd (low:Int) (high:Int) (zam:(Sl Gate)) (zas:(Sl straight)) (zan:(Sl Gate)) (zat:(Sl straight)) (zcs:Int) (zbw:Int) (zbx:Int) (zcF:Int) (zcG:Int):St:=⟨[(2,zI low),(3,zI high),(9,zp 9 0),(10,zp 10 0),(12,zp 12 0),(13,zp 13 0),(14,zp 14 0),(15,zp 15 0),(16,zp 16 0),(17,zI (w64 (high+(1:Int)))),(76,zI (w64 ((w64 (high - low))+(1:Int)))),(77,zI zcs)],[(9,.box 25 (zm (zae (⟨(0:Int),(0:Int)⟩:Frac)))),(10,.box 25 (zm (zae (⟨(0:Int),(0:Int)⟩:Frac)))),(12,.box 25 (zm (zae (⟨(0:Int),(0:Int)⟩:Frac)))),(13,.box 104 (zm (zaV (⟨(⟨zam⟩:list),zas⟩:set)))),(14,.box 104 (zm (zaV (⟨(⟨zan⟩:list),zat⟩:set)))),(15,.box 25 (zm (zae (⟨zbw,zbx⟩:Frac)))),(16,.box 25 (zm (zae (⟨zcF,zcG⟩:Frac))))],[]⟩
abbrev zoC (K:List PA→Prop) (low:Int) (high:Int) (zam:(Sl Gate)) (zas:(Sl straight)) (zan:(Sl Gate)) (zat:(Sl straight)) (X:St→Prop) (P:Int→Int→Int→Int→Int→Bool) (S:Int→Int→Int→Int→Int→(Int×Frac×Frac×Int)):Prop:=∀ ⦃zcs:Int⦄ ⦃zbw:Int⦄ ⦃zbx:Int⦄ ⦃zcF:Int⦄ ⦃zcG:Int⦄,P zcs zbw zbx zcF zcG=true→K (e19 (S zcs zbw zbx zcF zcG))→X (zCd low high zam zas zan zat zcs zbw zbx zcF zcG)
section
variable {K:List PA→Prop} {a:(Sl Gate)} {b:(Sl Gate)} {low:Int} {high:Int} {zqb:Bool} {zam:(Sl Gate)} {zas:(Sl straight)} {zan:(Sl Gate)} {zat:(Sl straight)} {zwo:Nat→List PV} {zwp:Nat→List PV} {zwq:Nat→List PV} {zwr:Nat→List PV} {zqc:Bool} {zqd:Bool} {zcs:Int} {zbw:Int} {zbx:Int} {zcF:Int} {zcG:Int} {X7:St→Prop} {P7:Int→Int→Int→Int→Int→Bool} {S7:Int→Int→Int→Int→Int→(Int×Frac×Frac×Int)} {iv8:Int} {zqe:Int} {zey:Int} {zez:Int} {zjN:Int} {zjO:Int} {zdy:Int} {zdz:Int} {zbD:Int} {zbE:Int} {zJh:Int} {ziM:Int} {ziN:Int} {zsL:Int} {zsM:Int} {zgR:Int} {zjP:Int} {ze2:Int} {ze3:Int} {zjQ:Int} {zjR:Int} {zc9:Int} {zda:Int} {zbn:Int} {zbo:Int} {zAP:Int} {zgD:Int} {zfU:Bool} {zEk:Int} {zjS:Int} {zaD:Int} {zaE:Int} {zAQ:Int} {zgE:Int} {zfV:Bool} {zHE:Int} {zjT:Int} {zfW:Bool} {ze4:Int} {ze5:Int}
def zqf (high:Int) (zJh:Int) (ziM:Int) (ziN:Int) (zsL:Int) (zsM:Int):(Int×Frac×Frac×Int) :=
  (cond (decide (zJh > high))
 ((0:Int),(⟨(0:Int),(0:Int)⟩:Frac),(⟨(0:Int),(0:Int)⟩:Frac),(5:Int))
 (zJh,(⟨ziM,ziN⟩:Frac),(⟨zsL,zsM⟩:Frac),(0:Int)))
theorem zwt (hk:K (e19 (zqf high zJh ziM ziN zsL zsM))):z19 K [1,0,1,1,1,1,1,1,1,1,1] [] ⟨[(3,zI high),(9,zp 9 0),(10,zp 10 0),(12,zp 12 0),(15,zp 15 0),(16,zp 16 0),(17,zI zJh)],[(9,.box 25 (zm (zae (⟨(0:Int),(0:Int)⟩:Frac)))),(10,.box 25 (zm (zae (⟨(0:Int),(0:Int)⟩:Frac)))),(12,.box 25 (zm (zae (⟨(0:Int),(0:Int)⟩:Frac)))),(15,.box 25 (zm (zae (⟨ziM,ziN⟩:Frac)))),(16,.box 25 (zm (zae (⟨zsL,zsM⟩:Frac))))],[]⟩:=zax (by kernel_rfl) (zt hk (fun hk=>hk) (fun hk=>hk))
def zmD (S7:Int→Int→Int→Int→Int→(Int×Frac×Frac×Int)) (low:Int) (high:Int) (zam:(Sl Gate)) (zas:(Sl straight)) (zan:(Sl Gate)) (zat:(Sl straight)) (zaD:Int) (zaE:Int) (zHE:Int) (zjT:Int) (zfW:Bool) (ze4:Int) (ze5:Int):(Int×Frac×Frac×Int) :=
  (cond zfW
 (zqf high (w64 (low+zHE)) zaD zaE ze4 ze5)
 (S7 (w64 (zjT+(1:Int))) zaD zaE ze4 ze5))
def zmE (P7:Int→Int→Int→Int→Int→Bool) (low:Int) (high:Int) (zam:(Sl Gate)) (zas:(Sl straight)) (zan:(Sl Gate)) (zat:(Sl straight)) (zaD:Int) (zaE:Int) (zHE:Int) (zjT:Int) (zfW:Bool) (ze4:Int) (ze5:Int):Bool :=
  (cond zfW
 true
 (P7 (w64 (zjT+(1:Int))) zaD zaE ze4 ze5))
theorem zsN (hX7:zoC K low high zam zas zan zat X7 P7 S7) (hs:zmE P7 low high zam zas zan zat zaD zaE zHE zjT zfW ze4 ze5=true) (hk:K (e19 (zmD S7 low high zam zas zan zat zaD zaE zHE zjT zfW ze4 ze5))):z19 K [1,0,1,1,1,1,1,1,1,1,0,1,0,0,1,1,0,0,1,1,1,1,1,1,1] [X7] ⟨[(2,zI low),(3,zI high),(9,zp 9 0),(10,zp 10 0),(12,zp 12 0),(13,zp 13 0),(14,zp 14 0),(15,zp 15 0),(16,zp 16 0),(17,zI (w64 (high+(1:Int)))),(18,zI zHE),(76,zI (w64 ((w64 (high - low))+(1:Int)))),(77,zI zjT),(111,zB zfW)],[(9,.box 25 (zm (zae (⟨(0:Int),(0:Int)⟩:Frac)))),(10,.box 25 (zm (zae (⟨(0:Int),(0:Int)⟩:Frac)))),(12,.box 25 (zm (zae (⟨(0:Int),(0:Int)⟩:Frac)))),(13,.box 104 (zm (zaV (⟨(⟨zam⟩:list),zas⟩:set)))),(14,.box 104 (zm (zaV (⟨(⟨zan⟩:list),zat⟩:set)))),(15,.box 25 (zm (zae (⟨zaD,zaE⟩:Frac)))),(16,.box 25 (zm (zae (⟨ze4,ze5⟩:Frac))))],[]⟩:=zax (by kernel_rfl) (zc hs hk (fun hs hk=>(zwt hk)) (fun hs hk=>(hX7 hs hk)))
def zsO (S7:Int→Int→Int→Int→Int→(Int×Frac×Frac×Int)) (low:Int) (high:Int) (zam:(Sl Gate)) (zas:(Sl straight)) (zan:(Sl Gate)) (zat:(Sl straight)) (zbD:Int) (zbE:Int) (zbn:Int) (zbo:Int) (zaD:Int) (zaE:Int) (zAQ:Int) (zgE:Int) (zfV:Bool):(Int×Frac×Frac×Int) :=
  (cond zfV
 (zmD S7 low high zam zas zan zat zaD zaE zAQ zgE (decide ((s69 (⟨zaD,zaE⟩:Frac) (⟨zbn,zbo⟩:Frac))≤(0:Int))) zbn zbo)
 (zmD S7 low high zam zas zan zat zaD zaE zAQ zgE (decide ((s69 (⟨zaD,zaE⟩:Frac) (⟨zbD,zbE⟩:Frac))≤(0:Int))) zbD zbE))
def zsP (P7:Int→Int→Int→Int→Int→Bool) (low:Int) (high:Int) (zam:(Sl Gate)) (zas:(Sl straight)) (zan:(Sl Gate)) (zat:(Sl straight)) (zbD:Int) (zbE:Int) (zbn:Int) (zbo:Int) (zaD:Int) (zaE:Int) (zAQ:Int) (zgE:Int) (zfV:Bool):Bool :=
  (cond zfV
 (zmE P7 low high zam zas zan zat zaD zaE zAQ zgE (decide ((s69 (⟨zaD,zaE⟩:Frac) (⟨zbn,zbo⟩:Frac))≤(0:Int))) zbn zbo)
 (zmE P7 low high zam zas zan zat zaD zaE zAQ zgE (decide ((s69 (⟨zaD,zaE⟩:Frac) (⟨zbD,zbE⟩:Frac))≤(0:Int))) zbD zbE))
theorem zAR (hX7:zoC K low high zam zas zan zat X7 P7 S7) (hs:zsP P7 low high zam zas zan zat zbD zbE zbn zbo zaD zaE zAQ zgE zfV=true) (hk:K (e19 (zsO S7 low high zam zas zan zat zbD zbE zbn zbo zaD zaE zAQ zgE zfV))):z19 K [1,0,1,1,1,1,1,1,1,1,0,1,0,0,1,1,0,0,1,1,1,1,1,0,1] [X7] ⟨[(2,zI low),(3,zI high),(9,zp 9 0),(10,zp 10 0),(12,zp 12 0),(13,zp 13 0),(14,zp 14 0),(15,zp 15 0),(16,zp 16 0),(17,zI (w64 (high+(1:Int)))),(18,zI zAQ),(22,zp 22 0),(76,zI (w64 ((w64 (high - low))+(1:Int)))),(77,zI zgE),(106,zB zfV)],[(9,.box 25 (zm (zae (⟨(0:Int),(0:Int)⟩:Frac)))),(10,.box 25 (zm (zae (⟨(0:Int),(0:Int)⟩:Frac)))),(12,.box 25 (zm (zae (⟨(0:Int),(0:Int)⟩:Frac)))),(13,.box 104 (zm (zaV (⟨(⟨zam⟩:list),zas⟩:set)))),(14,.box 104 (zm (zaV (⟨(⟨zan⟩:list),zat⟩:set)))),(15,.box 25 (zm (zae (⟨zaD,zaE⟩:Frac)))),(16,.box 25 (zm (zae (⟨zbD,zbE⟩:Frac)))),(22,.box 25 (zm (zae (⟨zbn,zbo⟩:Frac))))],[]⟩:=zax (by kernel_rfl) (zc hs hk (fun hs hk=>(zsN hX7 hs hk)) (fun hs hk=>(zsN hX7 hs hk)))
def zmF (S7:Int→Int→Int→Int→Int→(Int×Frac×Frac×Int)) (low:Int) (high:Int) (zam:(Sl Gate)) (zas:(Sl straight)) (zan:(Sl Gate)) (zat:(Sl straight)) (zbD:Int) (zbE:Int) (zbn:Int) (zbo:Int) (zEk:Int) (zjS:Int) (zaD:Int) (zaE:Int):(Int×Frac×Frac×Int) :=
  (zsO S7 low high zam zas zan zat zbD zbE zbn zbo zaD zaE zEk zjS (decide ((s69 (⟨zbn,zbo⟩:Frac) (⟨zbD,zbE⟩:Frac)) < (0:Int))))
def zmG (P7:Int→Int→Int→Int→Int→Bool) (low:Int) (high:Int) (zam:(Sl Gate)) (zas:(Sl straight)) (zan:(Sl Gate)) (zat:(Sl straight)) (zbD:Int) (zbE:Int) (zbn:Int) (zbo:Int) (zEk:Int) (zjS:Int) (zaD:Int) (zaE:Int):Bool :=
  (zsP P7 low high zam zas zan zat zbD zbE zbn zbo zaD zaE zEk zjS (decide ((s69 (⟨zbn,zbo⟩:Frac) (⟨zbD,zbE⟩:Frac)) < (0:Int))))
theorem zsQ (hX7:zoC K low high zam zas zan zat X7 P7 S7) (hs:zmG P7 low high zam zas zan zat zbD zbE zbn zbo zEk zjS zaD zaE=true) (hk:K (e19 (zmF S7 low high zam zas zan zat zbD zbE zbn zbo zEk zjS zaD zaE))):z19 K [1,0,1,1,1,1,1,1,1,1,0,1,0,0,1,1,0,0,1,1,1,1,1] [X7] ⟨[(2,zI low),(3,zI high),(9,zp 9 0),(10,zp 10 0),(12,zp 12 0),(13,zp 13 0),(14,zp 14 0),(15,zp 15 0),(16,zp 16 0),(17,zI (w64 (high+(1:Int)))),(18,zI zEk),(20,zp 20 0),(22,zp 22 0),(76,zI (w64 ((w64 (high - low))+(1:Int)))),(77,zI zjS)],[(9,.box 25 (zm (zae (⟨(0:Int),(0:Int)⟩:Frac)))),(10,.box 25 (zm (zae (⟨(0:Int),(0:Int)⟩:Frac)))),(12,.box 25 (zm (zae (⟨(0:Int),(0:Int)⟩:Frac)))),(13,.box 104 (zm (zaV (⟨(⟨zam⟩:list),zas⟩:set)))),(14,.box 104 (zm (zaV (⟨(⟨zan⟩:list),zat⟩:set)))),(15,.box 25 (zm (zae (⟨zaD,zaE⟩:Frac)))),(16,.box 25 (zm (zae (⟨zbD,zbE⟩:Frac)))),(20,.box 25 (zm (zae (⟨zbD,zbE⟩:Frac)))),(22,.box 25 (zm (zae (⟨zbn,zbo⟩:Frac))))],[]⟩:=zax (by kernel_rfl) (zAR hX7 hs hk)
def zsR (S7:Int→Int→Int→Int→Int→(Int×Frac×Frac×Int)) (low:Int) (high:Int) (zam:(Sl Gate)) (zas:(Sl straight)) (zan:(Sl Gate)) (zat:(Sl straight)) (zdy:Int) (zdz:Int) (zbD:Int) (zbE:Int) (zc9:Int) (zda:Int) (zbn:Int) (zbo:Int) (zAP:Int) (zgD:Int) (zfU:Bool):(Int×Frac×Frac×Int) :=
  (cond zfU
 (zmF S7 low high zam zas zan zat zbD zbE zbn zbo zAP zgD zc9 zda)
 (zmF S7 low high zam zas zan zat zbD zbE zbn zbo zAP zgD zdy zdz))
def zsS (P7:Int→Int→Int→Int→Int→Bool) (low:Int) (high:Int) (zam:(Sl Gate)) (zas:(Sl straight)) (zan:(Sl Gate)) (zat:(Sl straight)) (zdy:Int) (zdz:Int) (zbD:Int) (zbE:Int) (zc9:Int) (zda:Int) (zbn:Int) (zbo:Int) (zAP:Int) (zgD:Int) (zfU:Bool):Bool :=
  (cond zfU
 (zmG P7 low high zam zas zan zat zbD zbE zbn zbo zAP zgD zc9 zda)
 (zmG P7 low high zam zas zan zat zbD zbE zbn zbo zAP zgD zdy zdz))
theorem zAS (hX7:zoC K low high zam zas zan zat X7 P7 S7) (hs:zsS P7 low high zam zas zan zat zdy zdz zbD zbE zc9 zda zbn zbo zAP zgD zfU=true) (hk:K (e19 (zsR S7 low high zam zas zan zat zdy zdz zbD zbE zc9 zda zbn zbo zAP zgD zfU))):z19 K [1,0,1,1,1,1,1,1,1,1,0,1,0,0,1,1,0,0,1,1,1,1,0,1] [X7] ⟨[(2,zI low),(3,zI high),(9,zp 9 0),(10,zp 10 0),(12,zp 12 0),(13,zp 13 0),(14,zp 14 0),(15,zp 15 0),(16,zp 16 0),(17,zI (w64 (high+(1:Int)))),(18,zI zAP),(20,zp 20 0),(21,zp 21 0),(22,zp 22 0),(76,zI (w64 ((w64 (high - low))+(1:Int)))),(77,zI zgD),(101,zB zfU)],[(9,.box 25 (zm (zae (⟨(0:Int),(0:Int)⟩:Frac)))),(10,.box 25 (zm (zae (⟨(0:Int),(0:Int)⟩:Frac)))),(12,.box 25 (zm (zae (⟨(0:Int),(0:Int)⟩:Frac)))),(13,.box 104 (zm (zaV (⟨(⟨zam⟩:list),zas⟩:set)))),(14,.box 104 (zm (zaV (⟨(⟨zan⟩:list),zat⟩:set)))),(15,.box 25 (zm (zae (⟨zdy,zdz⟩:Frac)))),(16,.box 25 (zm (zae (⟨zbD,zbE⟩:Frac)))),(20,.box 25 (zm (zae (⟨zbD,zbE⟩:Frac)))),(21,.box 25 (zm (zae (⟨zc9,zda⟩:Frac)))),(22,.box 25 (zm (zae (⟨zbn,zbo⟩:Frac))))],[]⟩:=zax (by kernel_rfl) (zc hs hk (fun hs hk=>(zsQ hX7 hs hk)) (fun hs hk=>(zsQ hX7 hs hk)))
def zsU (S7:Int→Int→Int→Int→Int→(Int×Frac×Frac×Int)) (low:Int) (high:Int) (zam:(Sl Gate)) (zas:(Sl straight)) (zan:(Sl Gate)) (zat:(Sl straight)) (zdy:Int) (zdz:Int) (zbD:Int) (zbE:Int) (zgR:Int) (zjP:Int) (ze2:Int) (ze3:Int) (zjQ:Int) (zjR:Int) (zc9:Int) (zda:Int) (zbn:Int) (zbo:Int):(Int×Frac×Frac×Int) :=
  (zsR S7 low high zam zas zan zat zdy zdz zbD zbE zc9 zda zbn zbo zgR zjP (decide ((s69 (⟨zc9,zda⟩:Frac) (⟨zdy,zdz⟩:Frac)) > (0:Int))))
def zsV (P7:Int→Int→Int→Int→Int→Bool) (low:Int) (high:Int) (zam:(Sl Gate)) (zas:(Sl straight)) (zan:(Sl Gate)) (zat:(Sl straight)) (zdy:Int) (zdz:Int) (zbD:Int) (zbE:Int) (zgR:Int) (zjP:Int) (ze2:Int) (ze3:Int) (zjQ:Int) (zjR:Int) (zc9:Int) (zda:Int) (zbn:Int) (zbo:Int):Bool :=
  (zsS P7 low high zam zas zan zat zdy zdz zbD zbE zc9 zda zbn zbo zgR zjP (decide ((s69 (⟨zc9,zda⟩:Frac) (⟨zdy,zdz⟩:Frac)) > (0:Int))))
theorem zAT (hX7:zoC K low high zam zas zan zat X7 P7 S7) (hs:zsV P7 low high zam zas zan zat zdy zdz zbD zbE zgR zjP ze2 ze3 zjQ zjR zc9 zda zbn zbo=true) (hk:K (e19 (zsU S7 low high zam zas zan zat zdy zdz zbD zbE zgR zjP ze2 ze3 zjQ zjR zc9 zda zbn zbo))):z19 K [1,0,1,1,1,1,1,1,1,1,0,1,0,0,1,1,0,0,1,1,1] [X7] ⟨[(2,zI low),(3,zI high),(9,zp 9 0),(10,zp 10 0),(12,zp 12 0),(13,zp 13 0),(14,zp 14 0),(15,zp 15 0),(16,zp 16 0),(17,zI (w64 (high+(1:Int)))),(18,zI zgR),(19,zp 19 0),(20,zp 20 0),(21,zp 21 0),(22,zp 22 0),(76,zI (w64 ((w64 (high - low))+(1:Int)))),(77,zI zjP)],[(9,.box 25 (zm (zae (⟨(0:Int),(0:Int)⟩:Frac)))),(10,.box 25 (zm (zae (⟨(0:Int),(0:Int)⟩:Frac)))),(12,.box 25 (zm (zae (⟨(0:Int),(0:Int)⟩:Frac)))),(13,.box 104 (zm (zaV (⟨(⟨zam⟩:list),zas⟩:set)))),(14,.box 104 (zm (zaV (⟨(⟨zan⟩:list),zat⟩:set)))),(15,.box 25 (zm (zae (⟨ze2,ze3⟩:Frac)))),(16,.box 25 (zm (zae (⟨zjQ,zjR⟩:Frac)))),(19,.box 25 (zm (zae (⟨zdy,zdz⟩:Frac)))),(20,.box 25 (zm (zae (⟨zbD,zbE⟩:Frac)))),(21,.box 25 (zm (zae (⟨zc9,zda⟩:Frac)))),(22,.box 25 (zm (zae (⟨zbn,zbo⟩:Frac))))],[]⟩:=zax (by kernel_rfl) (zAS hX7 hs hk)
def zwu (S7:Int→Int→Int→Int→Int→(Int×Frac×Frac×Int)) (low:Int) (high:Int) (zam:(Sl Gate)) (zas:(Sl straight)) (zan:(Sl Gate)) (zat:(Sl straight)) (iv8:Int) (zqe:Int) (zey:Int) (zez:Int) (zjN:Int) (zjO:Int) (zdy:Int) (zdz:Int) (zbD:Int) (zbE:Int):(Int×Frac×Frac×Int) :=
  (zsU S7 low high zam zas zan zat zdy zdz zbD zbE iv8 zqe zey zez zjN zjO (((s68 (⟨(⟨zan⟩:list),zat⟩:set) (w64 (low+iv8))).1).Num) (((s68 (⟨(⟨zan⟩:list),zat⟩:set) (w64 (low+iv8))).1).Den) (((s68 (⟨(⟨zan⟩:list),zat⟩:set) (w64 (low+iv8))).2).Num) (((s68 (⟨(⟨zan⟩:list),zat⟩:set) (w64 (low+iv8))).2).Den))
def zwv (P7:Int→Int→Int→Int→Int→Bool) (low:Int) (high:Int) (zam:(Sl Gate)) (zas:(Sl straight)) (zan:(Sl Gate)) (zat:(Sl straight)) (iv8:Int) (zqe:Int) (zey:Int) (zez:Int) (zjN:Int) (zjO:Int) (zdy:Int) (zdz:Int) (zbD:Int) (zbE:Int):Bool :=
  (decide ((p68 (⟨(⟨zan⟩:list),zat⟩:set) (w64 (low+iv8))=true)) &&
 (zsV P7 low high zam zas zan zat zdy zdz zbD zbE iv8 zqe zey zez zjN zjO (((s68 (⟨(⟨zan⟩:list),zat⟩:set) (w64 (low+iv8))).1).Num) (((s68 (⟨(⟨zan⟩:list),zat⟩:set) (w64 (low+iv8))).1).Den) (((s68 (⟨(⟨zan⟩:list),zat⟩:set) (w64 (low+iv8))).2).Num) (((s68 (⟨(⟨zan⟩:list),zat⟩:set) (w64 (low+iv8))).2).Den)))
theorem zEl (hX7:zoC K low high zam zas zan zat X7 P7 S7) (hs:zwv P7 low high zam zas zan zat iv8 zqe zey zez zjN zjO zdy zdz zbD zbE=true) (hk:K (e19 (zwu S7 low high zam zas zan zat iv8 zqe zey zez zjN zjO zdy zdz zbD zbE))):z19 K [1,0,1,1,1,1,1,1,1,1,0,1,0,0,1,1,0,0,1,1] [X7] ⟨[(2,zI low),(3,zI high),(9,zp 9 0),(10,zp 10 0),(12,zp 12 0),(13,zp 13 0),(14,zp 14 0),(15,zp 15 0),(16,zp 16 0),(17,zI (w64 (high+(1:Int)))),(18,zI iv8),(19,zp 19 0),(20,zp 20 0),(76,zI (w64 ((w64 (high - low))+(1:Int)))),(77,zI zqe)],[(9,.box 25 (zm (zae (⟨(0:Int),(0:Int)⟩:Frac)))),(10,.box 25 (zm (zae (⟨(0:Int),(0:Int)⟩:Frac)))),(12,.box 25 (zm (zae (⟨(0:Int),(0:Int)⟩:Frac)))),(13,.box 104 (zm (zaV (⟨(⟨zam⟩:list),zas⟩:set)))),(14,.box 104 (zm (zaV (⟨(⟨zan⟩:list),zat⟩:set)))),(15,.box 25 (zm (zae (⟨zey,zez⟩:Frac)))),(16,.box 25 (zm (zae (⟨zjN,zjO⟩:Frac)))),(19,.box 25 (zm (zae (⟨zdy,zdz⟩:Frac)))),(20,.box 25 (zm (zae (⟨zbD,zbE⟩:Frac))))],[]⟩:=zax (by kernel_rfl) (zaw hs fun hc hs=>And.intro (And.intro (zE enc_55 3 zan.get) (And.intro (zE zaf 3 zat.get) hc)) (zAT hX7 hs hk))
def zww (low:Int) (high:Int) (zam:(Sl Gate)) (zas:(Sl straight)) (zan:(Sl Gate)) (zat:(Sl straight)) (S7:Int→Int→Int→Int→Int→(Int×Frac×Frac×Int)) (zcs:Int) (zbw:Int) (zbx:Int) (zcF:Int) (zcG:Int):(Int×Frac×Frac×Int) :=
  (cond (decide (zcs < (w64 ((w64 (high - low)) + (1:Int)))))
 (zwu S7 low high zam zas zan zat zcs zcs zbw zbx zcF zcG (((s68 (⟨(⟨zam⟩:list),zas⟩:set) (w64 (low+zcs))).1).Num) (((s68 (⟨(⟨zam⟩:list),zas⟩:set) (w64 (low+zcs))).1).Den) (((s68 (⟨(⟨zam⟩:list),zas⟩:set) (w64 (low+zcs))).2).Num) (((s68 (⟨(⟨zam⟩:list),zas⟩:set) (w64 (low+zcs))).2).Den))
 (zqf high (w64 (high+(1:Int))) zbw zbx zcF zcG))
def zwx (low:Int) (high:Int) (zam:(Sl Gate)) (zas:(Sl straight)) (zan:(Sl Gate)) (zat:(Sl straight)) (P7:Int→Int→Int→Int→Int→Bool) (zcs:Int) (zbw:Int) (zbx:Int) (zcF:Int) (zcG:Int):Bool :=
  (cond (decide (zcs < (w64 ((w64 (high - low)) + (1:Int)))))
 (decide ((p68 (⟨(⟨zam⟩:list),zas⟩:set) (w64 (low+zcs))=true)) &&
 (zwv P7 low high zam zas zan zat zcs zcs zbw zbx zcF zcG (((s68 (⟨(⟨zam⟩:list),zas⟩:set) (w64 (low+zcs))).1).Num) (((s68 (⟨(⟨zam⟩:list),zas⟩:set) (w64 (low+zcs))).1).Den) (((s68 (⟨(⟨zam⟩:list),zas⟩:set) (w64 (low+zcs))).2).Num) (((s68 (⟨(⟨zam⟩:list),zas⟩:set) (w64 (low+zcs))).2).Den)))
 true)
def zwy (low:Int) (high:Int) (zam:(Sl Gate)) (zas:(Sl straight)) (zan:(Sl Gate)) (zat:(Sl straight)):Nat→Int→Int→Int→Int→Int→(Int×Frac×Frac×Int):=lpO (fun _ _ _ _ _=>default) (zww low high zam zas zan zat)
def zwz (low:Int) (high:Int) (zam:(Sl Gate)) (zas:(Sl straight)) (zan:(Sl Gate)) (zat:(Sl straight)):Nat→Int→Int→Int→Int→Int→Bool:=lpO (fun _ _ _ _ _=>false) (zwx low high zam zas zan zat)
def zwA (low:Int) (high:Int) (zam:(Sl Gate)) (zas:(Sl straight)) (zan:(Sl Gate)) (zat:(Sl straight)) (zcs:Int) (zbw:Int) (zbx:Int) (zcF:Int) (zcG:Int):(Int×Frac×Frac×Int):=zwy low high zam zas zan zat Fuel zcs zbw zbx zcF zcG
def zwB (low:Int) (high:Int) (zam:(Sl Gate)) (zas:(Sl straight)) (zan:(Sl Gate)) (zat:(Sl straight)) (zcs:Int) (zbw:Int) (zbx:Int) (zcF:Int) (zcG:Int):Bool:=zwz low high zam zas zan zat Fuel zcs zbw zbx zcF zcG
theorem zEm (hs:zwB low high zam zas zan zat zcs zbw zbx zcF zcG=true) (hk:K (e19 (zwA low high zam zas zan zat zcs zbw zbx zcF zcG))):z19 K [1,0,1,1,1,1,1,1,1,1,0,1,0] [] (zCd low high zam zas zan zat zcs zbw zbx zcF zcG) :=
  zl (fun X=>z19 K [1,0,1,1,1,1,1,1,1,1,0,1,0,0] [X]) (by kernel_rfl) fun X7 hX =>
  (show ∀ k, zoC K low high zam zas zan zat X7 (zwz low high zam zas zan zat k) (zwy low high zam zas zan zat k) from zfu _ _ (zwx low high zam zas zan zat) (zww low high zam zas zan zat) (zoC K low high zam zas zan zat X7)
 (by intro _ _ _ _ _ hs;exact absurd hs Bool.false_ne_true)
 (by intro P7 S7 hX7 zcs zbw zbx zcF zcG hs hk;exact hX _ (zax (by kernel_rfl) (zc hs hk (fun hs hk=>(zaw hs fun hc hs=>And.intro (And.intro (zE enc_55 3 zam.get) (And.intro (zE zaf 3 zas.get) hc)) (zEl hX7 hs hk))) (fun hs hk=>(zwt hk)))))) _ hs hk
def zwC (low:Int) (high:Int) (zam:(Sl Gate)) (zas:(Sl straight)) (zan:(Sl Gate)) (zat:(Sl straight)):(Int×Frac×Frac×Int) :=
  (zwA low high zam zas zan zat (0:Int) (0:Int) (0:Int) (0:Int) (0:Int))
def zwD (low:Int) (high:Int) (zam:(Sl Gate)) (zas:(Sl straight)) (zan:(Sl Gate)) (zat:(Sl straight)):Bool :=
  (zwB low high zam zas zan zat (0:Int) (0:Int) (0:Int) (0:Int) (0:Int))
theorem zEn (hs:zwD low high zam zas zan zat=true) (hk:K (e19 (zwC low high zam zas zan zat))):z19 K [1,0,1,1,1,1,1] [] ⟨[(2,zI low),(3,zI high),(9,zp 9 0),(10,zp 10 0),(12,zp 12 0),(13,zp 13 0),(14,zp 14 0)],[(9,.box 25 (zm (zae (⟨(0:Int),(0:Int)⟩:Frac)))),(10,.box 25 (zm (zae (⟨(0:Int),(0:Int)⟩:Frac)))),(12,.box 25 (zm (zae (⟨(0:Int),(0:Int)⟩:Frac)))),(13,.box 104 (zm (zaV (⟨(⟨zam⟩:list),zas⟩:set)))),(14,.box 104 (zm (zaV (⟨(⟨zan⟩:list),zat⟩:set))))],[]⟩:=zax (by kernel_rfl) (zEm hs hk)
def zqg (low:Int) (high:Int) (zam:(Sl Gate)) (zas:(Sl straight)) (zan:(Sl Gate)) (zat:(Sl straight)) (zqd:Bool):(Int×Frac×Frac×Int) :=
  (cond zqd
 ((0:Int),(⟨(0:Int),(0:Int)⟩:Frac),(⟨(0:Int),(0:Int)⟩:Frac),(6:Int))
 (zwC low high zam zas zan zat))
def zqh (low:Int) (high:Int) (zam:(Sl Gate)) (zas:(Sl straight)) (zan:(Sl Gate)) (zat:(Sl straight)) (zqd:Bool):Bool :=
  (cond zqd
 true
 (zwD low high zam zas zan zat))
theorem zwE (hs:zqh low high zam zas zan zat zqd=true) (hk:K (e19 (zqg low high zam zas zan zat zqd))):z19 K [1,0,1,1,1,1,0,1] [] ⟨[(2,zI low),(3,zI high),(9,zp 9 0),(10,zp 10 0),(12,zp 12 0),(13,zp 13 0),(14,zp 14 0),(68,zB zqd)],[(9,.box 25 (zm (zae (⟨(0:Int),(0:Int)⟩:Frac)))),(10,.box 25 (zm (zae (⟨(0:Int),(0:Int)⟩:Frac)))),(12,.box 25 (zm (zae (⟨(0:Int),(0:Int)⟩:Frac)))),(13,.box 104 (zm (zaV (⟨(⟨zam⟩:list),zas⟩:set)))),(14,.box 104 (zm (zaV (⟨(⟨zan⟩:list),zat⟩:set))))],[]⟩:=zax (by kernel_rfl) (zc hs hk (fun hs hk=>hk) (fun hs hk=>(zEn hs hk)))
def zwF (low:Int) (high:Int) (zam:(Sl Gate)) (zas:(Sl straight)) (zan:(Sl Gate)) (zat:(Sl straight)):(Int×Frac×Frac×Int) :=
  (cond (s67 (⟨zam⟩ : list))
 (zqg low high zam zas zan zat true)
 (zqg low high zam zas zan zat (s67 (⟨zan⟩:list))))
def zwG (low:Int) (high:Int) (zam:(Sl Gate)) (zas:(Sl straight)) (zan:(Sl Gate)) (zat:(Sl straight)):Bool :=
  (decide ((p67 (⟨zam⟩:list)=true)) &&
 (cond (s67 (⟨zam⟩ : list))
 (zqh low high zam zas zan zat true)
 (decide ((p67 (⟨zan⟩:list)=true)) &&
 (zqh low high zam zas zan zat (s67 (⟨zan⟩:list))))))
theorem zEo (hs:zwG low high zam zas zan zat=true) (hk:K (e19 (zwF low high zam zas zan zat))):z19 K [1,0,1,1,1,1] [] ⟨[(2,zI low),(3,zI high),(9,zp 9 0),(10,zp 10 0),(12,zp 12 0),(13,zp 13 0),(14,zp 14 0)],[(9,.box 25 (zm (zae (⟨(0:Int),(0:Int)⟩:Frac)))),(10,.box 25 (zm (zae (⟨(0:Int),(0:Int)⟩:Frac)))),(12,.box 25 (zm (zae (⟨(0:Int),(0:Int)⟩:Frac)))),(13,.box 104 (zm (zaV (⟨(⟨zam⟩:list),zas⟩:set)))),(14,.box 104 (zm (zaV (⟨(⟨zan⟩:list),zat⟩:set))))],[]⟩:=zax (by kernel_rfl) (zaw hs fun hc hs=>And.intro (And.intro (zE enc_55 3 zam.get) hc) (zc hs hk (fun hs hk=>(zwE hs hk)) (fun hs hk=>(zaw hs fun hc hs=>And.intro (And.intro (zE enc_55 3 zan.get) hc) (zwE hs hk)))))
def zqi (low:Int) (high:Int) (zam:(Sl Gate)) (zas:(Sl straight)) (zan:(Sl Gate)) (zat:(Sl straight)) (zqc:Bool):(Int×Frac×Frac×Int) :=
  (cond zqc
 ((0:Int),(⟨(0:Int),(0:Int)⟩:Frac),(⟨(0:Int),(0:Int)⟩:Frac),(5:Int))
 (zwF low high zam zas zan zat))
def zqj (low:Int) (high:Int) (zam:(Sl Gate)) (zas:(Sl straight)) (zan:(Sl Gate)) (zat:(Sl straight)) (zqc:Bool):Bool :=
  (cond zqc
 true
 (zwG low high zam zas zan zat))
theorem zwH (hs:zqj low high zam zas zan zat zqc=true) (hk:K (e19 (zqi low high zam zas zan zat zqc))):z19 K [1,0,1,1,1,0,1] [] ⟨[(2,zI low),(3,zI high),(9,zp 9 0),(10,zp 10 0),(12,zp 12 0),(13,zp 13 0),(14,zp 14 0),(58,zB zqc)],[(9,.box 25 (zm (zae (⟨(0:Int),(0:Int)⟩:Frac)))),(10,.box 25 (zm (zae (⟨(0:Int),(0:Int)⟩:Frac)))),(12,.box 25 (zm (zae (⟨(0:Int),(0:Int)⟩:Frac)))),(13,.box 104 (zm (zaV (⟨(⟨zam⟩:list),zas⟩:set)))),(14,.box 104 (zm (zaV (⟨(⟨zan⟩:list),zat⟩:set))))],[]⟩:=zax (by kernel_rfl) (zc hs hk (fun hs hk=>hk) (fun hs hk=>(zEo hs hk)))
def zwI (low:Int) (high:Int) (zam:(Sl Gate)) (zas:(Sl straight)) (zan:(Sl Gate)) (zat:(Sl straight)):(Int×Frac×Frac×Int) :=
  (cond (!(s66 (⟨(⟨zam⟩ : list), zas⟩ : set)))
 (zqi low high zam zas zan zat true)
 (zqi low high zam zas zan zat (!(s66 (⟨(⟨zan⟩:list),zat⟩:set)))))
def zwJ (low:Int) (high:Int) (zam:(Sl Gate)) (zas:(Sl straight)) (zan:(Sl Gate)) (zat:(Sl straight)):Bool :=
  (decide ((p66 (⟨(⟨zam⟩:list),zas⟩:set)=true)) &&
 (cond (!(s66 (⟨(⟨zam⟩ : list), zas⟩ : set)))
 (zqj low high zam zas zan zat true)
 (decide ((p66 (⟨(⟨zan⟩:list),zat⟩:set)=true)) &&
 (zqj low high zam zas zan zat (!(s66 (⟨(⟨zan⟩:list),zat⟩:set)))))))
theorem zEp (hs:zwJ low high zam zas zan zat=true) (hk:K (e19 (zwI low high zam zas zan zat))) (zEq:zwo=zg enc_55 zam) (zEr:zwp=zg zaf zas) (zEs:zwq=zg enc_55 zan) (zEt:zwr=zg zaf zat):z19 K [1,0,1,1,1] [] ⟨[(2,zI low),(3,zI high),(9,zp 9 0),(10,zp 10 0),(12,zp 12 0),(13,zp 13 0),(14,zp 14 0)],[(9,.box 25 (zm (zae (⟨(0:Int),(0:Int)⟩:Frac)))),(10,.box 25 (zm (zae (⟨(0:Int),(0:Int)⟩:Frac)))),(12,.box 25 (zm (zae (⟨(0:Int),(0:Int)⟩:Frac)))),(13,.box 104 [.p (.sl zam.len 3 zwo),.p (.sl zas.len 3 zwp)]),(14,.box 104 [.p (.sl zan.len 3 zwq),.p (.sl zat.len 3 zwr)])],[]⟩:=by subst zEq;subst zEr;subst zEs;subst zEt;exact zax (by kernel_rfl) (zaw hs fun hc hs=>And.intro (And.intro (zE enc_55 3 zam.get) (And.intro (zE zaf 3 zas.get) hc)) (zc hs hk (fun hs hk=>(zwH hs hk)) (fun hs hk=>(zaw hs fun hc hs=>And.intro (And.intro (zE enc_55 3 zan.get) (And.intro (zE zaf 3 zat.get) hc)) (zwH hs hk)))))
def zwK (a:(Sl Gate)) (b:(Sl Gate)) (low:Int) (high:Int):(Int×Frac×Frac×Int) :=
  (zwI low high ((s65 a).list.Gates) ((s65 a).corners) ((s65 b).list.Gates) ((s65 b).corners))
def zwL (a:(Sl Gate)) (b:(Sl Gate)) (low:Int) (high:Int):Bool :=
  (decide ((p65 a=true)) &&
 (decide ((p65 b=true)) &&
 (zwJ low high ((s65 a).list.Gates) ((s65 a).corners) ((s65 b).list.Gates) ((s65 b).corners))))
theorem zEu (hs:zwL a b low high=true) (hk:K (e19 (zwK a b low high))):z19 K [1,0,1,1] [] ⟨[(0,zS enc_55 3 a),(1,zS enc_55 3 b),(2,zI low),(3,zI high),(9,zp 9 0),(10,zp 10 0),(12,zp 12 0)],[(9,.box 25 (zm (zae (⟨(0:Int),(0:Int)⟩:Frac)))),(10,.box 25 (zm (zae (⟨(0:Int),(0:Int)⟩:Frac)))),(12,.box 25 (zm (zae (⟨(0:Int),(0:Int)⟩:Frac))))],[]⟩:=zax (by kernel_rfl) (zaw hs fun hc hs=>And.intro (And.intro (zE enc_55 3 a.get) hc) (zaw hs fun hc hs=>And.intro (And.intro (zE enc_55 3 b.get) hc) (zEp hs hk rfl rfl rfl rfl)))
def zht (a:(Sl Gate)) (b:(Sl Gate)) (low:Int) (high:Int) (zqb:Bool):(Int×Frac×Frac×Int) :=
  (cond zqb
 ((0:Int),(⟨(0:Int),(0:Int)⟩:Frac),(⟨(0:Int),(0:Int)⟩:Frac),(2:Int))
 (zwK a b low high))
def zhu (a:(Sl Gate)) (b:(Sl Gate)) (low:Int) (high:Int) (zqb:Bool):Bool :=
  (cond zqb
 true
 (zwL a b low high))
theorem zjU (hs:zhu a b low high zqb=true) (hk:K (e19 (zht a b low high zqb))):z19 K [1,0,1,0,1] [] ⟨[(0,zS enc_55 3 a),(1,zS enc_55 3 b),(2,zI low),(3,zI high),(9,zp 9 0),(10,zp 10 0),(12,zp 12 0),(44,zB zqb)],[(9,.box 25 (zm (zae (⟨(0:Int),(0:Int)⟩:Frac)))),(10,.box 25 (zm (zae (⟨(0:Int),(0:Int)⟩:Frac)))),(12,.box 25 (zm (zae (⟨(0:Int),(0:Int)⟩:Frac))))],[]⟩:=zax (by kernel_rfl) (zc hs hk (fun hs hk=>hk) (fun hs hk=>(zEu hs hk)))
def s19 (a:(Sl Gate)) (b:(Sl Gate)) (low:Int) (high:Int):(Int×Frac×Frac×Int) :=
  (cond (decide (low < (-100000:Int)))
 (zht a b low high true)
 (cond (decide (low > high))
 (zht a b low high true)
 (cond (decide (high > (200000:Int)))
 (zht a b low high true)
 (cond (!(s64 a))
 (zht a b low high true)
 (zht a b low high (!(s64 b)))))))
def p19 (a:(Sl Gate)) (b:(Sl Gate)) (low:Int) (high:Int):Bool :=
  (cond (decide (low < (-100000:Int)))
 (zhu a b low high true)
 (cond (decide (low > high))
 (zhu a b low high true)
 (cond (decide (high > (200000:Int)))
 (zhu a b low high true)
 (decide ((p64 a=true)) &&
 (cond (!(s64 a))
 (zhu a b low high true)
 (decide ((p64 b=true)) &&
 (zhu a b low high (!(s64 b)))))))))
end
theorem q19 (a:(Sl Gate)) (b:(Sl Gate)) (low:Int) (high:Int) (K:List PA→Prop) (hs:p19 a b low high=true) (hk:K (e19 (s19 a b low high))):vcFun Try.prog G19 zEj 19 [.one (.sl a.len 3 (fun i=>enc_55 (a.get i))),.one (.sl b.len 3 (fun i=>enc_55 (b.get i))),.one (.int .i64 low),.one (.int .i64 high)] K :=
  zax (by kernel_rfl) (zc hs hk (fun hs hk=>(zjU hs hk)) (fun hs hk=>(zc hs hk (fun hs hk=>(zjU hs hk)) (fun hs hk=>(zc hs hk (fun hs hk=>(zjU hs hk)) (fun hs hk=>(zaw hs fun hc hs=>And.intro (And.intro (zE enc_55 3 a.get) hc) (zc hs hk (fun hs hk=>(zjU hs hk)) (fun hs hk=>(zaw hs fun hc hs=>And.intro (And.intro (zE enc_55 3 b.get) hc) (zjU hs hk)))))))))))
def zEv : List PA → COut
  | [.one (.sl a0_n a0_s a0_g),.one (.sl a1_n a1_s a1_g),.one (.int .i64 a2),.one (.int .i64 a3)]=>.det (IsE enc_55 3 a0_s a0_g∧IsE enc_55 3 a1_s a1_g∧p19 (⟨a0_n,zad a0_g⟩:(Sl Gate)) (⟨a1_n,zad a1_g⟩:(Sl Gate)) a2 a3=true) [.one (.int .i64 ((s19 (⟨a0_n,zad a0_g⟩:(Sl Gate)) (⟨a1_n,zad a1_g⟩:(Sl Gate)) a2 a3).1)),.agg [.int .i64 (((s19 (⟨a0_n,zad a0_g⟩:(Sl Gate)) (⟨a1_n,zad a1_g⟩:(Sl Gate)) a2 a3).2.1).Num),.int .i64 (((s19 (⟨a0_n,zad a0_g⟩:(Sl Gate)) (⟨a1_n,zad a1_g⟩:(Sl Gate)) a2 a3).2.1).Den)],.agg [.int .i64 (((s19 (⟨a0_n,zad a0_g⟩:(Sl Gate)) (⟨a1_n,zad a1_g⟩:(Sl Gate)) a2 a3).2.2.1).Num),.int .i64 (((s19 (⟨a0_n,zad a0_g⟩:(Sl Gate)) (⟨a1_n,zad a1_g⟩:(Sl Gate)) a2 a3).2.2.1).Den)],.one (.int .i64 ((s19 (⟨a0_n,zad a0_g⟩:(Sl Gate)) (⟨a1_n,zad a1_g⟩:(Sl Gate)) a2 a3).2.2.2))]
  | _=>.no
theorem zJi:zah Try.prog 19:=⟨_,rfl,rfl,by kernel_rfl⟩
theorem zOU:Ok Try.prog 19 zEv:=zaz zLY zJi fun args K h=>by
  unfold zEv at h
  split at h
  · rename_i a0_n a0_s a0_g a1_n a1_s a1_g a2 a3
    obtain ⟨⟨⟨rfl,a0_f,rfl⟩,⟨rfl,a1_f,rfl⟩,hs⟩,hk⟩:=h
    try rw [zac a0_f] at hs
    try rw [zac a0_f] at hk
    try rw [zac a1_f] at hs
    try rw [zac a1_f] at hk
    exact ⟨(fun _ _=>[]),(fun _=>false),zEj,q19 (⟨a0_n,a0_f⟩:(Sl Gate)) (⟨a1_n,a1_f⟩:(Sl Gate)) a2 a3 K hs hk⟩
  · exact h.elim
abbrev T76:Tabs:=Tabs.nil
theorem zLZ:TabsOk Try.prog T76:=TabsOk.nil
abbrev G76:Ctrs:=csm T76 (fun _ _=>[]) (fun _=>false)
def zJj:Ann:=⟨11,[(0,zK [1,2] [2]),(1,zK [3] [])],
 [],
 [],
 [],[]⟩
abbrev R76:=Bool
abbrev e76 (r:R76):List PA:=[.one (.bool r)]
section
variable {K:List PA→Prop} {c0:Int} {l_a0:list}
def s76 (c0:Int) (l_a0:list):Bool :=
  ((l_a0.Gates.get 0).Z == c0)
def p76 (c0:Int) (l_a0:list):Bool :=
  (decide ((0≤(0:Int)∧(0:Int) < (l_a0.Gates.len:Int))) &&
 true)
end
theorem q76 (c0:Int) (l_a0:list) (K:List PA→Prop) (hs:p76 c0 l_a0=true) (hk:K (e76 (s76 c0 l_a0))):vcFun Try.prog G76 zJj 76 [.agg (zb1 l_a0),.one (.fp (zaj c0) 0)] K :=
  zax (by kernel_rfl) (zaw hs fun hc hs=>And.intro hc hk)
def zEw : List PA → COut
  | [.agg [.sl a0_Gates_n a0_Gates_s a0_Gates_g],.one (.fp [.int .i64 c0] 0)]=>.det (IsE enc_55 3 a0_Gates_s a0_Gates_g∧p76 c0 (⟨(⟨a0_Gates_n,zad a0_Gates_g⟩:(Sl Gate))⟩:list)=true) [.one (.bool (s76 c0 (⟨(⟨a0_Gates_n,zad a0_Gates_g⟩:(Sl Gate))⟩:list)))]
  | _=>.no
theorem zJk:zah Try.prog 76:=⟨_,rfl,rfl,by kernel_rfl⟩
theorem zOV:Ok Try.prog 76 zEw:=zaz zLZ zJk fun args K h=>by
  unfold zEw at h
  split at h
  · rename_i a0_Gates_n a0_Gates_s a0_Gates_g c0
    obtain ⟨⟨⟨rfl,a0_Gates_f,rfl⟩,hs⟩,hk⟩:=h
    try rw [zac a0_Gates_f] at hs
    try rw [zac a0_Gates_f] at hk
    exact ⟨(fun _ _=>[]),(fun _=>false),zJj,q76 c0 (⟨(⟨a0_Gates_n,a0_Gates_f⟩:(Sl Gate))⟩:list) K hs hk⟩
  · exact h.elim
abbrev T77:Tabs:=Tabs.nil
theorem zL0:TabsOk Try.prog T77:=TabsOk.nil
abbrev G77:Ctrs:=csm T77 (fun _ _=>[]) (fun _=>false)
def zJl:Ann:=⟨3,[(0,zK [] []),(1,zK [2] [])],
 [],
 [],
 [],[]⟩
abbrev R77:=Bool
abbrev e77 (r:R77):List PA:=[.one (.bool r)]
section
variable {K:List PA→Prop} {a0_a0:list}
def s77 (a0_a0:list):Bool :=
  false
end
theorem q77 (a0_a0:list) (K:List PA→Prop) (hk:K (e77 (s77 a0_a0))):vcFun Try.prog G77 zJl 77 [.agg (zb1 a0_a0)] K :=
  zax (by kernel_rfl) hk
def zEx : List PA → COut
  | [.agg [.sl a0_Gates_n a0_Gates_s a0_Gates_g]]=>.det (IsE enc_55 3 a0_Gates_s a0_Gates_g) [.one (.bool (s77 (⟨(⟨a0_Gates_n,zad a0_Gates_g⟩:(Sl Gate))⟩:list)))]
  | _=>.no
theorem zJm:zah Try.prog 77:=⟨_,rfl,rfl,by kernel_rfl⟩
theorem zOW:Ok Try.prog 77 zEx:=zaz zL0 zJm fun args K h=>by
  unfold zEx at h
  split at h
  · rename_i a0_Gates_n a0_Gates_s a0_Gates_g
    obtain ⟨⟨rfl,a0_Gates_f,rfl⟩,hk⟩:=h
    try rw [zac a0_Gates_f] at hk
    exact ⟨(fun _ _=>[]),(fun _=>false),zJl,q77 (⟨(⟨a0_Gates_n,a0_Gates_f⟩:(Sl Gate))⟩:list) K hk⟩
  · exact h.elim
abbrev T88:Tabs:=Tabs.nil
theorem zL1:TabsOk Try.prog T88:=TabsOk.nil
abbrev G88:Ctrs:=csm T88 (fun _ _=>[]) (fun _=>false)
def zJn:Ann:=⟨3,[(0,zK [] []),(1,zK [2] [])],
 [],
 [],
 [],[]⟩
abbrev R88:=Bool
abbrev e88 (r:R88):List PA:=[.one (.bool r)]
section
variable {K:List PA→Prop} {a0_a0:list}
def s88 (a0_a0:list):Bool :=
  true
end
theorem q88 (a0_a0:list) (K:List PA→Prop) (hk:K (e88 (s88 a0_a0))):vcFun Try.prog G88 zJn 88 [.agg (zb1 a0_a0)] K :=
  zax (by kernel_rfl) hk
def zEy : List PA → COut
  | [.agg [.sl a0_Gates_n a0_Gates_s a0_Gates_g]]=>.det (IsE enc_55 3 a0_Gates_s a0_Gates_g) [.one (.bool (s88 (⟨(⟨a0_Gates_n,zad a0_Gates_g⟩:(Sl Gate))⟩:list)))]
  | _=>.no
theorem zJo:zah Try.prog 88:=⟨_,rfl,rfl,by kernel_rfl⟩
theorem zOX:Ok Try.prog 88 zEy:=zaz zL1 zJo fun args K h=>by
  unfold zEy at h
  split at h
  · rename_i a0_Gates_n a0_Gates_s a0_Gates_g
    obtain ⟨⟨rfl,a0_Gates_f,rfl⟩,hk⟩:=h
    try rw [zac a0_Gates_f] at hk
    exact ⟨(fun _ _=>[]),(fun _=>false),zJn,q88 (⟨(⟨a0_Gates_n,a0_Gates_f⟩:(Sl Gate))⟩:list) K hk⟩
  · exact h.elim
abbrev T75:Tabs:=(((((((Tabs.nil.addF 64 zpG).addF 65 zvI).addF 66 zvL).addF 67 zop).addF 76 zEw).addF 77 zEx).addF 88 zEy)
theorem zL2:TabsOk Try.prog T75:=(((((((TabsOk.nil.addF zIs).addF zLE).addF zLH).addF zIG).addF zOV).addF zOW).addF zOX)
abbrev G75:Ctrs:=csm T75 (fun _ _=>[]) (fun _=>false)
def zEz:Ann:=⟨31,[(0,zK [0,1,4] [4]),(1,zK [0,1,4,9] [4]),(2,zK [4,5] [4]),(3,zK [1,4,6] [4,6]),(4,zK [1,4,6,13] [4,6]),(5,zK [4,5] [4]),(6,zK [4,6,18] [4,6]),(7,zK [4,5] [4]),(8,zK [4,5] [4])],
 [],
 [(3,zK [0,1,4] [4])],
 [],[]⟩
abbrev R75:=(set×Int)
abbrev e75 (r:R75):List PA:=[.agg [.sl r.1.list.Gates.len 3 (fun i=>enc_55 (r.1.list.Gates.get i)),.sl r.1.corners.len 3 (fun i=>zaf (r.1.corners.get i))],.one (.int .i64 r.2)]
@[irreducible] def z75:=ptF Try.prog G75 zEz Try.f75
section
variable {K:List PA→Prop} {zaa:(Sl Gate)}
def zqk (zaa:(Sl Gate)):(set×Int) :=
  (cond (!(s66 (s65 zaa)))
 ((⟨(⟨(⟨0,fun _=>default⟩:(Sl Gate))⟩:list),(⟨0,fun _=>default⟩:(Sl straight))⟩:set),(5:Int))
 (cond (s67 ((s65 zaa).list))
 (cond (!(s77 ((s65 zaa).list)))
 ((⟨(⟨(⟨0,fun _=>default⟩:(Sl Gate))⟩:list),(⟨0,fun _=>default⟩:(Sl straight))⟩:set),(6:Int))
 ((s65 zaa),(0:Int)))
 ((s65 zaa),(0:Int))))
def zql (zaa:(Sl Gate)):Bool :=
  (decide ((p65 zaa=true)) &&
 (decide ((p66 (s65 zaa)=true)) &&
 (cond (!(s66 (s65 zaa)))
 true
 (decide ((p67 ((s65 zaa).list)=true)) &&
 true))))
theorem zEA (hs:zql zaa=true) (hk:K (e75 (zqk zaa))):z75 (Wk K) [1,1] [] ⟨[(0,zS enc_55 3 zaa),(1,zP (.fn 77 [] [])),(4,zp 4 0)],[(4,.box 104 [.p (.nils),.p (.nils)])],[]⟩:=zax (by kernel_rfl) (zaw hs fun hc hs=>And.intro (And.intro (zE enc_55 3 zaa.get) hc) (zaw hs fun hc hs=>And.intro (And.intro (zE enc_55 3 ((s65 zaa).list.Gates.get)) (And.intro (zE zaf 3 ((s65 zaa).corners.get)) hc)) (zc hs hk (fun hs hk=>((wk hk (zc4 (.agg (zc4 (.nil _ _) (zc4 (.nil _ _) zg2))) (zc4 (.one (.rfl _)) zg2))):Wk K [.agg [.nils,.nils],.one (.int .i64 (5:Int))])) (fun hs hk=>(zaw hs fun hc hs=>And.intro (And.intro (zE enc_55 3 ((s65 zaa).list.Gates.get)) hc) (zt hk (fun hk=>(And.intro (zE enc_55 3 ((s65 zaa).list.Gates.get)) (zt hk (fun hk=>((wk hk (zc4 (.agg (zc4 (.nil _ _) (zc4 (.nil _ _) zg2))) (zc4 (.one (.rfl _)) zg2))):Wk K [.agg [.nils,.nils],.one (.int .i64 (6:Int))])) (fun hk=>((zea hk):Wk K [.agg [.sl ((s65 zaa).list.Gates.len) 3 (fun i=>enc_55 ((s65 zaa).list.Gates.get i)),.sl ((s65 zaa).corners.len) 3 (fun i=>zaf ((s65 zaa).corners.get i))],.one (.int .i64 (0:Int))]))))) (fun hk=>((zea hk):Wk K [.agg [.sl ((s65 zaa).list.Gates.len) 3 (fun i=>enc_55 ((s65 zaa).list.Gates.get i)),.sl ((s65 zaa).corners.len) 3 (fun i=>zaf ((s65 zaa).corners.get i))],.one (.int .i64 (0:Int))]))))))))
def s75 (zaa:(Sl Gate)):(set×Int) :=
  (cond (!(s64 zaa))
 ((⟨(⟨(⟨0,fun _=>default⟩:(Sl Gate))⟩:list),(⟨0,fun _=>default⟩:(Sl straight))⟩:set),(2:Int))
 (zqk zaa))
def p75 (zaa:(Sl Gate)):Bool :=
  (decide ((p64 zaa=true)) &&
 (cond (!(s64 zaa))
 true
 (zql zaa)))
end
theorem q75 (zaa:(Sl Gate)) (K:List PA→Prop) (hs:p75 zaa=true) (hk:K (e75 (s75 zaa))):vcFun Try.prog G75 zEz 75 [.one (.sl zaa.len 3 (fun i=>enc_55 (zaa.get i))),.one (.fn 77 [] [])] (Wk K) :=
  zax (by kernel_rfl) (zaw hs fun hc hs=>And.intro (And.intro (zE enc_55 3 zaa.get) hc) (zc hs hk (fun hs hk=>((wk hk (zc4 (.agg (zc4 (.nil _ _) (zc4 (.nil _ _) zg2))) (zc4 (.one (.rfl _)) zg2))):Wk K [.agg [.nils,.nils],.one (.int .i64 (2:Int))])) (fun hs hk=>(zEA hs hk))))
abbrev zNx:Ctrs:=csm T75 (fun _ _=>[]) (fun _=>false)
def zwM:Ann:=⟨31,[(0,zK [0,1,4] [4]),(1,zK [0,1,4,9] [4]),(2,zK [4,5] [4]),(3,zK [1,4,6] [4,6]),(4,zK [1,4,6,13] [4,6]),(5,zK [4,5] [4]),(6,zK [4,6,18] [4,6]),(7,zK [4,5] [4]),(8,zK [4,5] [4])],
 [],
 [(3,zK [0,1,4] [4])],
 [],[]⟩
abbrev zOY:=(set×Int)
abbrev zNy (r:zOY):List PA:=[.agg [.sl r.1.list.Gates.len 3 (fun i=>enc_55 (r.1.list.Gates.get i)),.sl r.1.corners.len 3 (fun i=>zaf (r.1.corners.get i))],.one (.int .i64 r.2)]
@[irreducible] def z75a:=ptF Try.prog zNx zwM Try.f75
section
variable {K:List PA→Prop} {c0:Int} {zaa:(Sl Gate)}
def zmH (c0:Int) (zaa:(Sl Gate)):(set×Int) :=
  (cond (!(s66 (s65 zaa)))
 ((⟨(⟨(⟨0,fun _=>default⟩:(Sl Gate))⟩:list),(⟨0,fun _=>default⟩:(Sl straight))⟩:set),(5:Int))
 (cond (s67 ((s65 zaa).list))
 (cond (!(s76 c0 ((s65 zaa).list)))
 ((⟨(⟨(⟨0,fun _=>default⟩:(Sl Gate))⟩:list),(⟨0,fun _=>default⟩:(Sl straight))⟩:set),(6:Int))
 ((s65 zaa),(0:Int)))
 ((s65 zaa),(0:Int))))
def zmI (c0:Int) (zaa:(Sl Gate)):Bool :=
  (decide ((p65 zaa=true)) &&
 (decide ((p66 (s65 zaa)=true)) &&
 (cond (!(s66 (s65 zaa)))
 true
 (decide ((p67 ((s65 zaa).list)=true)) &&
 (cond (s67 ((s65 zaa).list))
 (decide ((p76 c0 ((s65 zaa).list)=true)) &&
 true)
 true)))))
theorem zAU (hs:zmI c0 zaa=true) (hk:K (zNy (zmH c0 zaa))):z75a (Wk K) [1,1] [] ⟨[(0,zS enc_55 3 zaa),(1,zP (.fn 76 [] [.fp (zaj c0) 0])),(4,zp 4 0)],[(4,.box 104 [.p (.nils),.p (.nils)])],[]⟩:=zax (by kernel_rfl) (zaw hs fun hc hs=>And.intro (And.intro (zE enc_55 3 zaa.get) hc) (zaw hs fun hc hs=>And.intro (And.intro (zE enc_55 3 ((s65 zaa).list.Gates.get)) (And.intro (zE zaf 3 ((s65 zaa).corners.get)) hc)) (zc hs hk (fun hs hk=>((wk hk (zc4 (.agg (zc4 (.nil _ _) (zc4 (.nil _ _) zg2))) (zc4 (.one (.rfl _)) zg2))):Wk K [.agg [.nils,.nils],.one (.int .i64 (5:Int))])) (fun hs hk=>(zaw hs fun hc hs=>And.intro (And.intro (zE enc_55 3 ((s65 zaa).list.Gates.get)) hc) (zc hs hk (fun hs hk=>(zaw hs fun hc hs=>And.intro (And.intro (zE enc_55 3 ((s65 zaa).list.Gates.get)) hc) (zt hk (fun hk=>((wk hk (zc4 (.agg (zc4 (.nil _ _) (zc4 (.nil _ _) zg2))) (zc4 (.one (.rfl _)) zg2))):Wk K [.agg [.nils,.nils],.one (.int .i64 (6:Int))])) (fun hk=>((zea hk):Wk K [.agg [.sl ((s65 zaa).list.Gates.len) 3 (fun i=>enc_55 ((s65 zaa).list.Gates.get i)),.sl ((s65 zaa).corners.len) 3 (fun i=>zaf ((s65 zaa).corners.get i))],.one (.int .i64 (0:Int))]))))) (fun hs hk=>((zea hk):Wk K [.agg [.sl ((s65 zaa).list.Gates.len) 3 (fun i=>enc_55 ((s65 zaa).list.Gates.get i)),.sl ((s65 zaa).corners.len) 3 (fun i=>zaf ((s65 zaa).corners.get i))],.one (.int .i64 (0:Int))]))))))))
def zoX (c0:Int) (zaa:(Sl Gate)):(set×Int) :=
  (cond (!(s64 zaa))
 ((⟨(⟨(⟨0,fun _=>default⟩:(Sl Gate))⟩:list),(⟨0,fun _=>default⟩:(Sl straight))⟩:set),(2:Int))
 (zmH c0 zaa))
def zEB (c0:Int) (zaa:(Sl Gate)):Bool :=
  (decide ((p64 zaa=true)) &&
 (cond (!(s64 zaa))
 true
 (zmI c0 zaa)))
end
theorem zOZ (c0:Int) (zaa:(Sl Gate)) (K:List PA→Prop) (hs:zEB c0 zaa=true) (hk:K (zNy (zoX c0 zaa))):vcFun Try.prog zNx zwM 75 [.one (.sl zaa.len 3 (fun i=>enc_55 (zaa.get i))),.one (.fn 76 [] [.fp (zaj c0) 0])] (Wk K) :=
  zax (by kernel_rfl) (zaw hs fun hc hs=>And.intro (And.intro (zE enc_55 3 zaa.get) hc) (zc hs hk (fun hs hk=>((wk hk (zc4 (.agg (zc4 (.nil _ _) (zc4 (.nil _ _) zg2))) (zc4 (.one (.rfl _)) zg2))):Wk K [.agg [.nils,.nils],.one (.int .i64 (2:Int))])) (fun hs hk=>(zAU hs hk))))
abbrev zNz:Ctrs:=csm T75 (fun _ _=>[]) (fun _=>false)
def zwN:Ann:=⟨31,[(0,zK [0,1,4] [4]),(1,zK [0,1,4,9] [4]),(2,zK [4,5] [4]),(3,zK [1,4,6] [4,6]),(4,zK [1,4,6,13] [4,6]),(5,zK [4,5] [4]),(6,zK [4,6,18] [4,6]),(7,zK [4,5] [4]),(8,zK [4,5] [4])],
 [],
 [(3,zK [0,1,4] [4])],
 [],[]⟩
abbrev zO0:=(set×Int)
abbrev zNA (r:zO0):List PA:=[.agg [.sl r.1.list.Gates.len 3 (fun i=>enc_55 (r.1.list.Gates.get i)),.sl r.1.corners.len 3 (fun i=>zaf (r.1.corners.get i))],.one (.int .i64 r.2)]
@[irreducible] def z75b:=ptF Try.prog zNz zwN Try.f75
section
variable {K:List PA→Prop} {zaa:(Sl Gate)}
def zmJ (zaa:(Sl Gate)):(set×Int) :=
  (cond (!(s66 (s65 zaa)))
 ((⟨(⟨(⟨0,fun _=>default⟩:(Sl Gate))⟩:list),(⟨0,fun _=>default⟩:(Sl straight))⟩:set),(5:Int))
 (cond (s67 ((s65 zaa).list))
 (cond (!(s88 ((s65 zaa).list)))
 ((⟨(⟨(⟨0,fun _=>default⟩:(Sl Gate))⟩:list),(⟨0,fun _=>default⟩:(Sl straight))⟩:set),(6:Int))
 ((s65 zaa),(0:Int)))
 ((s65 zaa),(0:Int))))
def zmK (zaa:(Sl Gate)):Bool :=
  (decide ((p65 zaa=true)) &&
 (decide ((p66 (s65 zaa)=true)) &&
 (cond (!(s66 (s65 zaa)))
 true
 (decide ((p67 ((s65 zaa).list)=true)) &&
 true))))
theorem zAV (hs:zmK zaa=true) (hk:K (zNA (zmJ zaa))):z75b (Wk K) [1,1] [] ⟨[(0,zS enc_55 3 zaa),(1,zP (.fn 88 [] [])),(4,zp 4 0)],[(4,.box 104 [.p (.nils),.p (.nils)])],[]⟩:=zax (by kernel_rfl) (zaw hs fun hc hs=>And.intro (And.intro (zE enc_55 3 zaa.get) hc) (zaw hs fun hc hs=>And.intro (And.intro (zE enc_55 3 ((s65 zaa).list.Gates.get)) (And.intro (zE zaf 3 ((s65 zaa).corners.get)) hc)) (zc hs hk (fun hs hk=>((wk hk (zc4 (.agg (zc4 (.nil _ _) (zc4 (.nil _ _) zg2))) (zc4 (.one (.rfl _)) zg2))):Wk K [.agg [.nils,.nils],.one (.int .i64 (5:Int))])) (fun hs hk=>(zaw hs fun hc hs=>And.intro (And.intro (zE enc_55 3 ((s65 zaa).list.Gates.get)) hc) (zt hk (fun hk=>(And.intro (zE enc_55 3 ((s65 zaa).list.Gates.get)) (zt hk (fun hk=>((wk hk (zc4 (.agg (zc4 (.nil _ _) (zc4 (.nil _ _) zg2))) (zc4 (.one (.rfl _)) zg2))):Wk K [.agg [.nils,.nils],.one (.int .i64 (6:Int))])) (fun hk=>((zea hk):Wk K [.agg [.sl ((s65 zaa).list.Gates.len) 3 (fun i=>enc_55 ((s65 zaa).list.Gates.get i)),.sl ((s65 zaa).corners.len) 3 (fun i=>zaf ((s65 zaa).corners.get i))],.one (.int .i64 (0:Int))]))))) (fun hk=>((zea hk):Wk K [.agg [.sl ((s65 zaa).list.Gates.len) 3 (fun i=>enc_55 ((s65 zaa).list.Gates.get i)),.sl ((s65 zaa).corners.len) 3 (fun i=>zaf ((s65 zaa).corners.get i))],.one (.int .i64 (0:Int))]))))))))
def zzz (zaa:(Sl Gate)):(set×Int) :=
  (cond (!(s64 zaa))
 ((⟨(⟨(⟨0,fun _=>default⟩:(Sl Gate))⟩:list),(⟨0,fun _=>default⟩:(Sl straight))⟩:set),(2:Int))
 (zmJ zaa))
def zHF (zaa:(Sl Gate)):Bool :=
  (decide ((p64 zaa=true)) &&
 (cond (!(s64 zaa))
 true
 (zmK zaa)))
end
theorem zO1 (zaa:(Sl Gate)) (K:List PA→Prop) (hs:zHF zaa=true) (hk:K (zNA (zzz zaa))):vcFun Try.prog zNz zwN 75 [.one (.sl zaa.len 3 (fun i=>enc_55 (zaa.get i))),.one (.fn 88 [] [])] (Wk K) :=
  zax (by kernel_rfl) (zaw hs fun hc hs=>And.intro (And.intro (zE enc_55 3 zaa.get) hc) (zc hs hk (fun hs hk=>((wk hk (zc4 (.agg (zc4 (.nil _ _) (zc4 (.nil _ _) zg2))) (zc4 (.one (.rfl _)) zg2))):Wk K [.agg [.nils,.nils],.one (.int .i64 (2:Int))])) (fun hs hk=>(zAV hs hk))))
def ztW : List PA → COut
  | [.one (.sl a0_n a0_s a0_g),.one (.fn 77 [] [])]=>.det (IsE enc_55 3 a0_s a0_g∧p75 (⟨a0_n,zad a0_g⟩:(Sl Gate))=true) [.agg [.sl (((s75 (⟨a0_n,zad a0_g⟩:(Sl Gate))).1).list.Gates.len) 3 (fun i=>enc_55 (((s75 (⟨a0_n,zad a0_g⟩:(Sl Gate))).1).list.Gates.get i)),.sl (((s75 (⟨a0_n,zad a0_g⟩:(Sl Gate))).1).corners.len) 3 (fun i=>zaf (((s75 (⟨a0_n,zad a0_g⟩:(Sl Gate))).1).corners.get i))],.one (.int .i64 ((s75 (⟨a0_n,zad a0_g⟩:(Sl Gate))).2))]
  | [.one (.sl a0_n a0_s a0_g),.one (.fn 76 [] [.fp [.int .i64 c0] 0])]=>.det (IsE enc_55 3 a0_s a0_g∧zEB c0 (⟨a0_n,zad a0_g⟩:(Sl Gate))=true) [.agg [.sl (((zoX c0 (⟨a0_n,zad a0_g⟩:(Sl Gate))).1).list.Gates.len) 3 (fun i=>enc_55 (((zoX c0 (⟨a0_n,zad a0_g⟩:(Sl Gate))).1).list.Gates.get i)),.sl (((zoX c0 (⟨a0_n,zad a0_g⟩:(Sl Gate))).1).corners.len) 3 (fun i=>zaf (((zoX c0 (⟨a0_n,zad a0_g⟩:(Sl Gate))).1).corners.get i))],.one (.int .i64 ((zoX c0 (⟨a0_n,zad a0_g⟩:(Sl Gate))).2))]
  | [.one (.sl a0_n a0_s a0_g),.one (.fn 88 [] [])]=>.det (IsE enc_55 3 a0_s a0_g∧zHF (⟨a0_n,zad a0_g⟩:(Sl Gate))=true) [.agg [.sl (((zzz (⟨a0_n,zad a0_g⟩:(Sl Gate))).1).list.Gates.len) 3 (fun i=>enc_55 (((zzz (⟨a0_n,zad a0_g⟩:(Sl Gate))).1).list.Gates.get i)),.sl (((zzz (⟨a0_n,zad a0_g⟩:(Sl Gate))).1).corners.len) 3 (fun i=>zaf (((zzz (⟨a0_n,zad a0_g⟩:(Sl Gate))).1).corners.get i))],.one (.int .i64 ((zzz (⟨a0_n,zad a0_g⟩:(Sl Gate))).2))]
  | _=>.no
theorem zJp:zah Try.prog 75:=⟨_,rfl,rfl,by kernel_rfl⟩
theorem zNB:Ok Try.prog 75 ztW:=zg3 zL2 zJp fun args K h=>by
  unfold ztW at h
  split at h
  · rename_i a0_n a0_s a0_g
    obtain ⟨⟨⟨rfl,a0_f,rfl⟩,hs⟩,hk⟩:=h
    try rw [zac a0_f] at hs
    try rw [zac a0_f] at hk
    exact ⟨_,zeT zfA _,(fun _ _=>[]),(fun _=>false),zEz,q75 (⟨a0_n,a0_f⟩:(Sl Gate)) K hs hk⟩
  · rename_i a0_n a0_s a0_g c0
    obtain ⟨⟨⟨rfl,a0_f,rfl⟩,hs⟩,hk⟩:=h
    try rw [zac a0_f] at hs
    try rw [zac a0_f] at hk
    exact ⟨_,zeT zfA _,(fun _ _=>[]),(fun _=>false),zwM,zOZ c0 (⟨a0_n,a0_f⟩:(Sl Gate)) K hs hk⟩
  · rename_i a0_n a0_s a0_g
    obtain ⟨⟨⟨rfl,a0_f,rfl⟩,hs⟩,hk⟩:=h
    try rw [zac a0_f] at hs
    try rw [zac a0_f] at hk
    exact ⟨_,zeT zfA _,(fun _ _=>[]),(fun _=>false),zwN,zO1 (⟨a0_n,a0_f⟩:(Sl Gate)) K hs hk⟩
  · exact h.elim
abbrev T30:Tabs:=(((Tabs.nil.addF 68 zwn).addF 74 zoj).addF 75 ztW)
theorem zL3:TabsOk Try.prog T30:=(((TabsOk.nil.addF zNw).addF zHB).addF zNB)
abbrev G30:Ctrs:=csm T30 (fun _ _=>[]) (fun _=>false)
def zEC:Ann:=⟨35,[(0,zK [0,3,4,5] [3,4,5]),(1,zK [0,3,4,5,13] [3,4,5]),(2,zK [4,5,6] [4,5]),(3,zK [3,4,5,7,8] [3,4,5,7]),(4,zK [3,4,5,7,8,23] [3,4,5,7]),(5,zK [4,5,6] [4,5]),(6,zK [4,5,9,10] [4,5,9,10]),(7,zK [4,5,6] [4,5])],
 [],
 [(2,zK [0,3,4,5,13] [3,4,5]),(3,zK [0,3,4,5] [3,4,5]),(4,zK [3,4,5,7,8] [3,4,5,7]),(6,zK [3,4,5,7] [3,4,5,7]),(7,zK [4,5,9,10] [4,5,9,10])],
 [],[]⟩
abbrev R30:=(Frac×Frac×Int)
abbrev e30 (r:R30):List PA:=[.agg [.int .i64 r.1.Num,.int .i64 r.1.Den],.agg [.int .i64 r.2.1.Num,.int .i64 r.2.1.Den],.one (.int .i64 r.2.2)]
@[irreducible] def z30:=ptF Try.prog G30 zEC Try.f30
section
variable {K:List PA→Prop} {zaa:(Sl Gate)} {z:Int} {zqm:Bool} {ev2:Int} {zmL:(Sl Gate)} {zmM:(Sl straight)} {zqn:Nat→List PV} {zqo:Nat→List PV} {zhv:(Sl Gate)} {zhw:(Sl straight)} {zqp:Nat→List PV} {zqq:Nat→List PV} {zmN:Int} {zmO:Int} {ziO:Int} {ziP:Int}
def zwO (zmN:Int) (zmO:Int) (ziO:Int) (ziP:Int):(Frac×Frac×Int) :=
  ((⟨zmN,zmO⟩:Frac),(⟨ziO,ziP⟩:Frac),(0:Int))
theorem zED (hk:K (e30 (zwO zmN zmO ziO ziP))):z30 K [1,1,1,1,1] [] ⟨[(4,zp 4 0),(5,zp 5 0),(9,zp 9 0),(10,zp 10 0)],[(4,.box 25 (zm (zae (⟨(0:Int),(0:Int)⟩:Frac)))),(5,.box 25 (zm (zae (⟨(0:Int),(0:Int)⟩:Frac)))),(9,.box 25 (zm (zae (⟨zmN,zmO⟩:Frac)))),(10,.box 25 (zm (zae (⟨ziO,ziP⟩:Frac))))],[]⟩:=zax (by kernel_rfl) hk
def zwP (z:Int) (zhv:(Sl Gate)) (zhw:(Sl straight)):(Frac×Frac×Int) :=
  (zwO (((s68 (⟨(⟨zhv⟩:list),zhw⟩:set) z).1).Num) (((s68 (⟨(⟨zhv⟩:list),zhw⟩:set) z).1).Den) (((s68 (⟨(⟨zhv⟩:list),zhw⟩:set) z).2).Num) (((s68 (⟨(⟨zhv⟩:list),zhw⟩:set) z).2).Den))
def zwQ (z:Int) (zhv:(Sl Gate)) (zhw:(Sl straight)):Bool :=
  (decide ((p68 (⟨(⟨zhv⟩:list),zhw⟩:set) z=true)) &&
 true)
theorem zEE (hs:zwQ z zhv zhw=true) (hk:K (e30 (zwP z zhv zhw))) (zEF:zqp=zg enc_55 zhv) (zEG:zqq=zg zaf zhw):z30 K [1,1,1,1] [] ⟨[(3,zp 3 0),(4,zp 4 0),(5,zp 5 0),(7,zp 7 0)],[(3,.fbox [.int .i64 z]),(4,.box 25 (zm (zae (⟨(0:Int),(0:Int)⟩:Frac)))),(5,.box 25 (zm (zae (⟨(0:Int),(0:Int)⟩:Frac)))),(7,.box 104 [.p (.sl zhv.len 3 zqp),.p (.sl zhw.len 3 zqq)])],[]⟩:=by subst zEF;subst zEG;exact zax (by kernel_rfl) (zaw hs fun hc hs=>And.intro (And.intro (zE enc_55 3 zhv.get) (And.intro (zE zaf 3 zhw.get) hc)) (zED hk))
def zwR (z:Int) (ev2:Int) (zmL:(Sl Gate)) (zmM:(Sl straight)):(Frac×Frac×Int) :=
  (cond (ev2 != (0:Int))
 ((⟨(0:Int),(0:Int)⟩:Frac),(⟨(0:Int),(0:Int)⟩:Frac),ev2)
 (zwP z zmL zmM))
def zwS (z:Int) (ev2:Int) (zmL:(Sl Gate)) (zmM:(Sl straight)):Bool :=
  (cond (ev2 != (0:Int))
 true
 (zwQ z zmL zmM))
theorem zEH (hs:zwS z ev2 zmL zmM=true) (hk:K (e30 (zwR z ev2 zmL zmM))) (zEI:zqn=zg enc_55 zmL) (zEJ:zqo=zg zaf zmM):z30 K [1,1,1] [] ⟨[(3,zp 3 0),(4,zp 4 0),(5,zp 5 0),(7,zp 7 0),(8,zI ev2)],[(3,.fbox [.int .i64 z]),(4,.box 25 (zm (zae (⟨(0:Int),(0:Int)⟩:Frac)))),(5,.box 25 (zm (zae (⟨(0:Int),(0:Int)⟩:Frac)))),(7,.box 104 [.p (.sl zmL.len 3 zqn),.p (.sl zmM.len 3 zqo)])],[]⟩:=by subst zEI;subst zEJ;exact zax (by kernel_rfl) (zc hs hk (fun hs hk=>hk) (fun hs hk=>(zEE hs hk rfl rfl)))
def zwT (zaa:(Sl Gate)) (z:Int):(Frac×Frac×Int) :=
  (zwR z ((zoX z zaa).2) (((zoX z zaa).1).list.Gates) (((zoX z zaa).1).corners))
def zwU (zaa:(Sl Gate)) (z:Int):Bool :=
  (decide ((zEB z zaa=true)) &&
 (zwS z ((zoX z zaa).2) (((zoX z zaa).1).list.Gates) (((zoX z zaa).1).corners)))
theorem zEK (hs:zwU zaa z=true) (hk:K (e30 (zwT zaa z))):z30 K [1,1] [] ⟨[(0,zS enc_55 3 zaa),(3,zp 3 0),(4,zp 4 0),(5,zp 5 0)],[(3,.box 3 [zi z]),(4,.box 25 (zm (zae (⟨(0:Int),(0:Int)⟩:Frac)))),(5,.box 25 (zm (zae (⟨(0:Int),(0:Int)⟩:Frac))))],[]⟩:=zax (by kernel_rfl) (zaw hs fun hc hs=>And.intro (And.intro (zE enc_55 3 zaa.get) hc) (zEH hs hk rfl rfl))
def zwV (zaa:(Sl Gate)) (z:Int) (zqm:Bool):(Frac×Frac×Int) :=
  (cond zqm
 ((⟨(0:Int),(0:Int)⟩:Frac),(⟨(0:Int),(0:Int)⟩:Frac),(2:Int))
 (zwT zaa z))
def zwW (zaa:(Sl Gate)) (z:Int) (zqm:Bool):Bool :=
  (cond zqm
 true
 (zwU zaa z))
theorem zEL (hs:zwW zaa z zqm=true) (hk:K (e30 (zwV zaa z zqm))):z30 K [1,0,1] [] ⟨[(0,zS enc_55 3 zaa),(3,zp 3 0),(4,zp 4 0),(5,zp 5 0),(13,zB zqm)],[(3,.box 3 [zi z]),(4,.box 25 (zm (zae (⟨(0:Int),(0:Int)⟩:Frac)))),(5,.box 25 (zm (zae (⟨(0:Int),(0:Int)⟩:Frac))))],[]⟩:=zax (by kernel_rfl) (zc hs hk (fun hs hk=>hk) (fun hs hk=>(zEK hs hk)))
def s30 (zaa:(Sl Gate)) (z:Int):(Frac×Frac×Int) :=
  (zwV zaa z (!(s74 z (-100000:Int) (200000:Int))))
def p30 (zaa:(Sl Gate)) (z:Int):Bool :=
  (zwW zaa z (!(s74 z (-100000:Int) (200000:Int))))
end
theorem q30 (zaa:(Sl Gate)) (z:Int) (K:List PA→Prop) (hs:p30 zaa z=true) (hk:K (e30 (s30 zaa z))):vcFun Try.prog G30 zEC 30 [.one (.sl zaa.len 3 (fun i=>enc_55 (zaa.get i))),.one (.int .i64 z)] K :=
  zax (by kernel_rfl) (zEL hs hk)
def zEM : List PA → COut
  | [.one (.sl a0_n a0_s a0_g),.one (.int .i64 a1)]=>.det (IsE enc_55 3 a0_s a0_g∧p30 (⟨a0_n,zad a0_g⟩:(Sl Gate)) a1=true) [.agg [.int .i64 (((s30 (⟨a0_n,zad a0_g⟩:(Sl Gate)) a1).1).Num),.int .i64 (((s30 (⟨a0_n,zad a0_g⟩:(Sl Gate)) a1).1).Den)],.agg [.int .i64 (((s30 (⟨a0_n,zad a0_g⟩:(Sl Gate)) a1).2.1).Num),.int .i64 (((s30 (⟨a0_n,zad a0_g⟩:(Sl Gate)) a1).2.1).Den)],.one (.int .i64 ((s30 (⟨a0_n,zad a0_g⟩:(Sl Gate)) a1).2.2))]
  | _=>.no
theorem zJq:zah Try.prog 30:=⟨_,rfl,rfl,by kernel_rfl⟩
theorem zO2:Ok Try.prog 30 zEM:=zaz zL3 zJq fun args K h=>by
  unfold zEM at h
  split at h
  · rename_i a0_n a0_s a0_g a1
    obtain ⟨⟨⟨rfl,a0_f,rfl⟩,hs⟩,hk⟩:=h
    try rw [zac a0_f] at hs
    try rw [zac a0_f] at hk
    exact ⟨(fun _ _=>[]),(fun _=>false),zEC,q30 (⟨a0_n,a0_f⟩:(Sl Gate)) a1 K hs hk⟩
  · exact h.elim
abbrev zNC:Tabs:=Tabs.nil
theorem zJr:TabsOk Try.prog zNC:=TabsOk.nil
abbrev zND:Ctrs:=csm zNC (fun _ _=>[]) (fun _=>false)
def zwX:Ann:=⟨8,[(0,⟨[0],[],[],[],[],[],[]⟩),(1,⟨[0,4],[],[],[],[],[],[]⟩),(2,⟨[2],[],[],[],[],[],[]⟩),(3,⟨[2],[5],[],[],[],[],[]⟩)],
 [],
 [],
 [],[]⟩
theorem zAW (n : Nat) (get : Nat → List PV) : zu6 Try.prog zND zwX 105 [.one (.sl n 3 get)] 118 3 24 n get =
  ((True)∧(∃ r1:Bool,(n ≠ 0→r1=false))∧∀ r1:Bool,(n ≠ 0→r1=false) →
 (zcL r1
 (True∧n=0)
 ((((0+n) * 24≤140737488355328∧0+n≤9223372036854775807)) ∧
 (True∧118=118∧3=3∧24=24∧(0+n)=n∧∀ i,i < n→(appG 0 (zcn []) get) i=get i)))):=by kernel_rfl
abbrev zCe:OwnK:=.clone 118 3 24
theorem zEN:zah Try.prog 105:=⟨_,rfl,rfl,by kernel_rfl⟩
theorem zL4:zlS Try.prog 105 zCe:=zu9 zJr zEN fun n get h1 h2=>by
  refine ⟨fun _ _=>[],fun _=>false,zwX,?_⟩
  show zu6 Try.prog zND zwX 105 _ _ _ _ _ _
  rw [zAW]
  refine ⟨trivial,⟨decide (n=0),fun h=>decide_eq_false h⟩,fun r1 hr=>?_⟩
  cases r1
  · refine ⟨⟨by omega,by omega⟩,trivial,rfl,rfl,rfl,Nat.zero_add n,fun i _=>rfl⟩
  · exact ⟨trivial,Classical.byContradiction fun h=>by simpa using hr h⟩
abbrev zCf:OwnK:=.sort 118 3 24
theorem zL5:zlS Try.prog 106 zCf:=zvg Try.laysS106 rfl rfl rfl (fun h=>h) ⟨_,rfl,rfl,by kernel_rfl⟩
abbrev zNE:Tabs:=(Tabs.nil.addF 99 zvA)
theorem zJs:TabsOk Try.prog zNE:=(TabsOk.nil.addF zLt)
abbrev zO3:Ctrs:=csm zNE (fun _ _=>[]) (fun _=>false)
def zCg:Ann:=⟨10,[(0,zK [2,3] [2,3]),(1,zK [4] [])],
 [],
 [],
 [],[]⟩
abbrev zO4:=Bool
abbrev e108 (r:zO4):List PA:=[.one (.bool r)]
section
variable {K:List PA→Prop} {s:set} {x:straight}
def zt2 (s:set) (x:straight):Bool :=
  (zKS x s.list.Gates)
def zHG (s:set) (x:straight):Bool :=
  (decide ((zKT x s.list.Gates=true)) &&
 true)
end
theorem zO5 (s:set) (x:straight) (K:List PA→Prop) (hs:zHG s x=true) (hk:K (e108 (zt2 s x))):vcFun Try.prog zO3 zCg 108 [.agg (zaV s),.agg (zaf x)] K :=
  zax (by kernel_rfl) (zaw hs fun hc hs=>And.intro (And.intro (zE enc_55 3 s.list.Gates.get) hc) hk)
def zwY : List PA → COut
  | [.agg [.sl a0_list_Gates_n a0_list_Gates_s a0_list_Gates_g,.sl a0_corners_n a0_corners_s a0_corners_g],.agg [.int .i64 a1_slope,.int .i64 a1_start,.int .i64 a1_den]]=>.det (IsE enc_55 3 a0_list_Gates_s a0_list_Gates_g∧IsE zaf 3 a0_corners_s a0_corners_g∧zHG (⟨(⟨(⟨a0_list_Gates_n,zad a0_list_Gates_g⟩:(Sl Gate))⟩:list),(⟨a0_corners_n,zaQ a0_corners_g⟩:(Sl straight))⟩:set) (⟨a1_slope,a1_start,a1_den⟩:straight)=true) [.one (.bool (zt2 (⟨(⟨(⟨a0_list_Gates_n,zad a0_list_Gates_g⟩:(Sl Gate))⟩:list),(⟨a0_corners_n,zaQ a0_corners_g⟩:(Sl straight))⟩:set) (⟨a1_slope,a1_start,a1_den⟩:straight)))]
  | _=>.no
theorem zEO:zah Try.prog 108:=⟨_,rfl,rfl,by kernel_rfl⟩
theorem zL6:Ok Try.prog 108 zwY:=zaz zJs zEO fun args K h=>by
  unfold zwY at h
  split at h
  · rename_i a0_list_Gates_n a0_list_Gates_s a0_list_Gates_g a0_corners_n a0_corners_s a0_corners_g a1_slope a1_start a1_den
    obtain ⟨⟨⟨rfl,a0_list_Gates_f,rfl⟩,⟨rfl,a0_corners_f,rfl⟩,hs⟩,hk⟩:=h
    try rw [zac a0_list_Gates_f] at hs
    try rw [zac a0_list_Gates_f] at hk
    try rw [zaL a0_corners_f] at hs
    try rw [zaL a0_corners_f] at hk
    exact ⟨(fun _ _=>[]),(fun _=>false),zCg,zO5 (⟨(⟨(⟨a0_list_Gates_n,a0_list_Gates_f⟩:(Sl Gate))⟩:list),(⟨a0_corners_n,a0_corners_f⟩:(Sl straight))⟩:set) (⟨a1_slope,a1_start,a1_den⟩:straight) K hs hk⟩
  · exact h.elim
abbrev zNF:Tabs:=(((Tabs.nil.addF 69 zp5).addF 89 zpL).addF 108 zwY)
theorem zJt:TabsOk Try.prog zNF:=(((TabsOk.nil.addF zKW).addF zKV).addF zL6)
abbrev zO6:Ctrs:=csm zNF (fun _ _=>[]) (fun _=>false)
def zCh:Ann:=⟨38,[(0,zK [2,3,4] [3,4]),(1,zK [3,4,6,7] [3,4]),(2,zK [6,7,8] []),(3,zK [6,7,8,26] []),(4,zK [5] []),(5,zK [7,8,32] []),(6,zK [5] []),(7,zK [8,34] []),(8,zK [5] []),(9,zK [5] [])],
 [],
 [],
 [],[]⟩
abbrev zO7:=Int
abbrev zO8 (r:zO7):List PA:=[.one (.int .i64 r)]
section
variable {K:List PA→Prop} {c0:set} {a:straight} {b:straight}
def zCi (c0:set) (a:straight) (b:straight):Int :=
  (cond (zt2 c0 a)
 (cond (zt2 c0 b)
 (s69 (s89 a.slope a.den) (s89 b.slope b.den))
 (cond (zt2 c0 a)
 (-1:Int)
 (cond (zt2 c0 b)
 (1:Int)
 (w64 (0 - (s69 (s89 a.slope a.den) (s89 b.slope b.den)))))))
 (cond (zt2 c0 a)
 (-1:Int)
 (cond (zt2 c0 b)
 (1:Int)
 (w64 (0 - (s69 (s89 a.slope a.den) (s89 b.slope b.den)))))))
def zCj (c0:set) (a:straight) (b:straight):Bool :=
  (decide ((zHG c0 a=true)) &&
 (decide ((zHG c0 b=true)) &&
 (decide ((p89 a.slope a.den=true)) &&
 (decide ((p89 b.slope b.den=true)) &&
 true))))
end
theorem zO9 (c0:set) (a:straight) (b:straight) (K:List PA→Prop) (hs:zCj c0 a b=true) (hk:K (zO8 (zCi c0 a b))):vcFun Try.prog zO6 zCh 107 [.agg (zaf a),.agg (zaf b),.one (.fp (zaV c0) 0)] K :=
  zax (by kernel_rfl) (zaw hs fun hc hs=>And.intro (And.intro (zE enc_55 3 c0.list.Gates.get) (And.intro (zE zaf 3 c0.corners.get) hc)) (zaw hs fun hc hs=>And.intro (And.intro (zE enc_55 3 c0.list.Gates.get) (And.intro (zE zaf 3 c0.corners.get) hc)) (zaw hs fun hc hs=>And.intro hc (zaw hs fun hc hs=>And.intro hc (zt hk (fun hk=>(zt hk (fun hk=>hk) (fun hk=>(zt hk (fun hk=>hk) (fun hk=>(zt hk (fun hk=>hk) (fun hk=>hk))))))) (fun hk=>(zt hk (fun hk=>hk) (fun hk=>(zt hk (fun hk=>hk) (fun hk=>hk))))))))))
def zoD : List PA → COut
  | [.agg [.int .i64 a0_slope,.int .i64 a0_start,.int .i64 a0_den],.agg [.int .i64 a1_slope,.int .i64 a1_start,.int .i64 a1_den],.one (.fp [.sl c0_list_Gates_n c0_list_Gates_s c0_list_Gates_g,.sl c0_corners_n c0_corners_s c0_corners_g] 0)]=>.det (IsE enc_55 3 c0_list_Gates_s c0_list_Gates_g∧IsE zaf 3 c0_corners_s c0_corners_g∧zCj (⟨(⟨(⟨c0_list_Gates_n,zad c0_list_Gates_g⟩:(Sl Gate))⟩:list),(⟨c0_corners_n,zaQ c0_corners_g⟩:(Sl straight))⟩:set) (⟨a0_slope,a0_start,a0_den⟩:straight) (⟨a1_slope,a1_start,a1_den⟩:straight)=true) [.one (.int .i64 (zCi (⟨(⟨(⟨c0_list_Gates_n,zad c0_list_Gates_g⟩:(Sl Gate))⟩:list),(⟨c0_corners_n,zaQ c0_corners_g⟩:(Sl straight))⟩:set) (⟨a0_slope,a0_start,a0_den⟩:straight) (⟨a1_slope,a1_start,a1_den⟩:straight)))]
  | _=>.no
theorem zEP:zah Try.prog 107:=⟨_,rfl,rfl,by kernel_rfl⟩
theorem zL7:Ok Try.prog 107 zoD:=zaz zJt zEP fun args K h=>by
  unfold zoD at h
  split at h
  · rename_i a0_slope a0_start a0_den a1_slope a1_start a1_den c0_list_Gates_n c0_list_Gates_s c0_list_Gates_g c0_corners_n c0_corners_s c0_corners_g
    obtain ⟨⟨⟨rfl,c0_list_Gates_f,rfl⟩,⟨rfl,c0_corners_f,rfl⟩,hs⟩,hk⟩:=h
    try rw [zac c0_list_Gates_f] at hs
    try rw [zac c0_list_Gates_f] at hk
    try rw [zaL c0_corners_f] at hs
    try rw [zaL c0_corners_f] at hk
    exact ⟨(fun _ _=>[]),(fun _=>false),zCh,zO9 (⟨(⟨(⟨c0_list_Gates_n,c0_list_Gates_f⟩:(Sl Gate))⟩:list),(⟨c0_corners_n,c0_corners_f⟩:(Sl straight))⟩:set) (⟨a0_slope,a0_start,a0_den⟩:straight) (⟨a1_slope,a1_start,a1_den⟩:straight) K hs hk⟩
  · exact h.elim
abbrev T78:Tabs:=(((Tabs.nil.addO 105 zCe).addO 106 zCf).addF 107 zoD)
theorem zL8:TabsOk Try.prog T78:=(((TabsOk.nil.addO zL4).addO zL5).addF zL7)
abbrev G78:Ctrs:=csm T78 (fun _ _=>[]) (fun _=>false)
def zJu:Ann:=⟨11,[(0,zK [1] [1]),(1,zK [1,3] [1,6]),(2,zK [3] [6]),(3,zK [2] [6])],
 [],
 [],
 [],[]⟩
abbrev R78:=(Sl straight)
abbrev e78 (r:R78):List PA:=[.one (.sl r.len 3 (fun i=>zaf (r.get i)))]
section
variable {K:List PA→Prop} {s:set}
def s78 (s:set):(Sl straight) :=
  (⟨s.corners.len,(zo6 s.corners.len (fun i j=>(zCi s (s.corners.get i) (s.corners.get j))) s.corners.get)⟩:(Sl straight))
def p78 (s:set):Bool :=
  (decide ((s.corners.len * 24≤140737488355328∧s.corners.len≤9223372036854775807)) &&
 (decide ((s.corners.len≤4611686018427387)∧(sortB s.corners.len (fun i j=>decide (zCj s (s.corners.get i) (s.corners.get j)=true)) (fun i j=>(zCi s (s.corners.get i) (s.corners.get j)))=true)) &&
 true))
end
theorem q78 (s:set) (K:List PA→Prop) (hs:p78 s=true) (hk:K (e78 (s78 s))):vcFun Try.prog G78 zJu 78 [.agg (zaV s)] K :=
  zax (by kernel_rfl) (zaw hs fun hc hs=>And.intro hc (zaw hs fun hc hs=>And.intro (And.intro (hc.1) ((zse (hc.2) (fun i j h=>(show IsE enc_55 3 3 (fun i=>enc_55 (s.list.Gates.get i))∧IsE zaf 3 3 (fun i=>zaf (s.corners.get i))∧(zCj s (s.corners.get i) (s.corners.get j)=true) from ⟨isE,isE,(of_decide_eq_true h)⟩)) rfl):(∀ i j,i < s.corners.len→j < s.corners.len→zHy (zoD) [.fp (zaV s) 0] true (fun i=>zaf (s.corners.get i)) i j)∧STO s.corners.len (zt4 (zoD) [.fp (zaV s) 0] true (fun i=>zaf (s.corners.get i))))) hk))
def zEQ : List PA → COut
  | [.agg [.sl a0_list_Gates_n a0_list_Gates_s a0_list_Gates_g,.sl a0_corners_n a0_corners_s a0_corners_g]]=>.det (IsE enc_55 3 a0_list_Gates_s a0_list_Gates_g∧IsE zaf 3 a0_corners_s a0_corners_g∧p78 (⟨(⟨(⟨a0_list_Gates_n,zad a0_list_Gates_g⟩:(Sl Gate))⟩:list),(⟨a0_corners_n,zaQ a0_corners_g⟩:(Sl straight))⟩:set)=true) [.one (.sl ((s78 (⟨(⟨(⟨a0_list_Gates_n,zad a0_list_Gates_g⟩:(Sl Gate))⟩:list),(⟨a0_corners_n,zaQ a0_corners_g⟩:(Sl straight))⟩:set)).len) 3 (fun i=>zaf ((s78 (⟨(⟨(⟨a0_list_Gates_n,zad a0_list_Gates_g⟩:(Sl Gate))⟩:list),(⟨a0_corners_n,zaQ a0_corners_g⟩:(Sl straight))⟩:set)).get i)))]
  | _=>.no
theorem zJv:zah Try.prog 78:=⟨_,rfl,rfl,by kernel_rfl⟩
theorem zPa:Ok Try.prog 78 zEQ:=zaz zL8 zJv fun args K h=>by
  unfold zEQ at h
  split at h
  · rename_i a0_list_Gates_n a0_list_Gates_s a0_list_Gates_g a0_corners_n a0_corners_s a0_corners_g
    obtain ⟨⟨⟨rfl,a0_list_Gates_f,rfl⟩,⟨rfl,a0_corners_f,rfl⟩,hs⟩,hk⟩:=h
    try rw [zac a0_list_Gates_f] at hs
    try rw [zac a0_list_Gates_f] at hk
    try rw [zaL a0_corners_f] at hs
    try rw [zaL a0_corners_f] at hk
    exact ⟨(fun _ _=>[]),(fun _=>false),zJu,q78 (⟨(⟨(⟨a0_list_Gates_n,a0_list_Gates_f⟩:(Sl Gate))⟩:list),(⟨a0_corners_n,a0_corners_f⟩:(Sl straight))⟩:set) K hs hk⟩
  · exact h.elim
end Go.Proofs
