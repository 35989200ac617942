/- Part 4 of what the proof rests on: a machine that runs functions of the program on pure values, proved sound; the functions that the law reaches, and what they compute. -/
import Derived.Test.YtkpjhhoafenogaaQ3
import Derived.Sort.OwnSortedInts
import Derived.Lib.SlicesCompact
import Derived.ProofKit
import Derived.Deep.Slices
import Derived.OpenShut
import Derived.Shelf.SlSortCmp.WholeK
import Derived.Test.YtkpjhhoafenogaaProg
import Derived.Shelf.SlSortCmp.NoneTotal
set_option linter.all false
namespace Go.Pm

structure Tabs where
  fn:List (Nat×(List PA→COut))
  own:List (Nat×OwnK)
  it:List (Nat×(List PA→Option (Prop×List (List PA))))
def zux : List (Nat × (List PA → COut)) → Nat → List PA → COut
  | [],_=>fun _=>.no
  | (k,c) :: r,n=>match Nat.beq k n with | true=>c | false=>zux r n
def zuy (l:List (Nat×OwnK)) (f:Nat):OwnK:=match lk l f with | some c=>c | none=>.none
def zDk (l:List (Nat×(List PA→Option (Prop×List (List PA))))) (f:Nat):List PA→Option (Prop×List (List PA)):=match lk l f with | some c=>c | none=>fun _=>none
def csm (T:Tabs) (memo:Nat→Int→List Int) (vv:Nat→Bool):Ctrs:=⟨zux T.fn,zuy T.own,zDk T.it,memo,vv⟩
abbrev cs (T:Tabs):Ctrs:=csm T (fun _ _=>[]) (fun _=>false)
def Tabs.nil:Tabs:=⟨[],[],[]⟩
def Tabs.addF (T:Tabs) (f:Nat) (c:List PA→COut):Tabs:=⟨(f,c) :: T.fn,T.own,T.it⟩
def Tabs.addO (T:Tabs) (f:Nat) (c:OwnK):Tabs:=⟨T.fn,(f,c) :: T.own,T.it⟩
def Tabs.addI (T:Tabs) (f:Nat) (c:List PA→Option (Prop×List (List PA))):Tabs:=⟨T.fn,T.own,(f,c) :: T.it⟩

theorem zKz {P:Program} {f:Nat} : Ok P f (fun _=>.no):=fun _ _ h=>h.elim
theorem zKA {P:Program} {f:Nat} : zBF P f (fun _=>none):=fun _ _ _ h=>by cases h

structure TabsOk (P : Program) (T : Tabs) : Prop where
  fn:∀ x∈T.fn,Ok P x.1 x.2
  own:∀ x∈T.own,zlL P x.1 x.2
  it:∀ x∈T.it,zBF P x.1 x.2
theorem TabsOk.nil {P:Program} : TabsOk P .nil:=⟨fun _ h=>(by cases h),fun _ h=>(by cases h),fun _ h=>(by cases h)⟩
theorem TabsOk.addF {P:Program} {T:Tabs} (h:TabsOk P T) {f:Nat} {c:List PA→COut} (hc:Ok P f c):TabsOk P (T.addF f c) :=
 ⟨fun x hx=>(List.mem_cons.1 hx).elim (fun e=>by rw [e];exact hc) (fun hx=>h.fn x hx),h.own,h.it⟩
theorem TabsOk.addO {P:Program} {T:Tabs} (h:TabsOk P T) {f:Nat} {c:OwnK} (hc:zlL P f c):TabsOk P (T.addO f c) :=
 ⟨h.fn,fun x hx=>(List.mem_cons.1 hx).elim (fun e=>by rw [e];exact hc) (fun hx=>h.own x hx),h.it⟩
theorem TabsOk.addI {P:Program} {T:Tabs} (h:TabsOk P T) {f:Nat} {c:List PA→Option (Prop×List (List PA))} (hc:zBF P f c):TabsOk P (T.addI f c) :=
 ⟨h.fn,h.own,fun x hx=>(List.mem_cons.1 hx).elim (fun e=>by rw [e];exact hc) (fun hx=>h.it x hx)⟩
theorem TabsOk.all {P:Program} {T:Tabs} (h:TabsOk P T) (memo:Nat→Int→List Int) (vv:Nat→Bool):OkAll P (csm T memo vv):=by
 refine ⟨fun f=>?_,fun f=>?_,fun f=>?_⟩
 ·show Ok P f (zux T.fn f)
  have key:∀ l:List (Nat×(List PA→COut)),(∀ x∈l,Ok P x.1 x.2)→Ok P f (zux l f):=by
   intro l
   induction l with
   | nil=>intro _;exact zKz
   | cons x l ih =>
    intro hl
    obtain ⟨k,c⟩:=x
    simp only [zux]
    split
    ·rename_i e
     have:=hl (k,c) List.mem_cons_self
     rw [← Nat.eq_of_beq_eq_true e];exact this
    ·exact ih fun x hx=>hl x (List.mem_cons_of_mem _ hx)
  exact key T.fn h.fn
 ·show zlL P f (zuy T.own f)
  unfold zuy
  split
  ·rename_i c hc;exact h.own _ (zcu hc)
  ·trivial
 ·show zBF P f (zDk T.it f)
  unfold zDk
  split
  ·rename_i c hc;exact h.it _ (zcu hc)
  ·exact zKA

theorem zaz {P : Program} {T : Tabs} (hT : TabsOk P T) {f : FuncId} {C : List PA → COut} (hc : zah P f)
    (h:∀ args K,(C args).wp K→∃ memo vv ann,vcFun P (csm T memo vv) ann f args K):Ok P f C :=
  zAk (hT.all (fun _ _=>[]) (fun _=>false)) hc h
theorem zHz {P : Program} {T : Tabs} (hT : TabsOk P T) {f : FuncId} {C : List PA → Option (Prop × List (List PA))} (hc : zah P f)
    (h:∀ l caps safe ys,C caps=some (safe,ys)→safe→∃ memo vv ann,vcIter P (csm T memo vv) ann f l caps ys):zBF P f C :=
  zAo (hT.all (fun _ _=>[]) (fun _=>false)) hc h
theorem zuz {P : Program} {T : Tabs} (hT : TabsOk P T) {f : FuncId} {e s b : Nat} (hc : zah P f)
    (h:∀ n get,n * b≤140737488355328→n≤9223372036854775807→∃ memo vv ann,zuw P (csm T memo vv) ann f [.one (.sl n s get)] e s b n get):zlL P f (.clone e s b) :=
  zpq (hT.all (fun _ _=>[]) (fun _=>false)) hc h

structure Sl (α : Type) where
  len:Nat
  get:Nat→α
instance {α:Type} [Inhabited α]:Inhabited (Sl α):=⟨⟨0,fun _=>default⟩⟩
abbrev w64 (x:Int):Int:=IntKind.i64.wrap x

def IsE {α:Type} (enc:α→List PV) (size s:Nat) (g:Nat→List PV):Prop:=s=size∧∃ f:Nat→α,g=fun i=>enc (f i)
theorem isE {α:Type} {enc:α→List PV} {size:Nat} {f:Nat→α} : IsE enc size size (fun i=>enc (f i)):=⟨rfl,f,rfl⟩
def zd5 {α:Type} (n:Nat) (get new:Nat→α):Nat→α:=fun j=>match Nat.ble n j with | true=>new (j - n) | false=>get j
theorem zAp {α:Type} {enc:α→List PV} {n:Nat} {f h:Nat→α} : appG n (fun i=>enc (f i)) (fun i=>enc (h i))=fun i=>enc (zd5 n f h i):=by
 funext j;simp only [appG,zd5];cases Nat.ble n j <;> rfl
def ziH {α : Type} (x : α) : List α → Nat → α
  | [],_=>x
  | y :: _,0=>y
  | _ :: r,i+1=>ziH x r i
theorem zeq {α:Type} {enc:α→List PV} {x y:α} {r:List α} : zdf (enc x :: enc y :: r.map enc)=fun i=>enc (ziH x (x :: y :: r) i):=by
 have key:∀ (l:List α) (i:Nat),(match (l.map enc)[i]? with | some z=>z | none=>enc x)=enc (ziH x l i):=by
  intro l
  induction l with
  | nil=>intro i;rfl
  | cons a l ih =>
   intro i
   cases i with
   | zero=>rfl
   | succ i=>simpa [ziH] using ih i
 funext i
 exact key (x :: y :: r) i
theorem zfm {α:Type} {enc:α→List PV} {size:Nat} {x y:α} (r:List α):IsE enc size size (zdf (enc x :: enc y :: r.map enc)):=⟨rfl,_,zeq⟩

theorem zcf {b:Bool} {A B:Prop} {S S':Bool} {α:Type} {K:α→Prop} {x y:α} (h1:S=true→K x→A) (h2:S'=true→K y→B) (hs:cond b S S'=true) (hk:K (cond b x y)):zcY b A B:=by
 cases b
 ·exact h2 hs hk
 ·exact h1 hs hk
theorem zmd {b:Bool} {A B:Prop} {S S':Bool} {α β:Type} {f:α→β} {ys:List β} {x y:List α} (hs:cond b S S'=true) (hk:ys=(cond b x y).map f) (h1:S=true→ys=x.map f→A) (h2:S'=true→ys=y.map f→B):zcY b A B:=by
 cases b
 ·exact h2 hs hk
 ·exact h1 hs hk
theorem itY {α β:Type} {f:α→β} {ys:List β} {p:β} {x r:List α} {l:Nat} {A:List β→Prop} (hk:ys=x.map f) (e:x.map f=p :: r.map f) (h:∀ zs,zs=r.map f→A zs):l=l∧∃ z,ys=p :: z∧A z∧True :=
 ⟨rfl,_,hk.trans e,h _ rfl,trivial⟩
theorem zaw {C A:Prop} [d:Decidable C] {r:Bool} (hs:(decide C && r)=true) (k:C→r=true→A):A:=by
 rw [Bool.and_eq_true] at hs
 exact k (of_decide_eq_true hs.1) hs.2
abbrev Fuel:Nat:=9223372036854775808
def setT {α:Type} (i:Nat) (v:α) (get:Nat→α):Nat→α:=fun j=>match Nat.beq j i with | true=>v | false=>get j
theorem zjk {α:Type} {enc:α→List PV} {n:Nat} {g g':Nat→List PV} {f h:Nat→α} (h1:g=fun i=>enc (f i)) (h2:g'=fun i=>enc (h i)):appG n g g'=fun i=>enc (zd5 n f h i):=by
 subst h1;subst h2;exact zAp
def zMw (P:Program) (G:Ctrs) (ann:Ann) (hd:Nat) (ps:List Nat) (assign body:Code) (X:List (List PA)→St→Prop) (K:Exit→St→Prop) (y:List PA) (rest:List (List PA)) (s:St):Prop :=
 match lk ann.head hd with
 | some k=>match zgp ps y s.env with
  | some env=>vc P G ann assign (zCV (vc P G ann body (zk8 P k (X rest) K)) fun _ _=>False) ⟨env,s.objs,[]⟩
  | none=>False
 | none=>False
def sortB (n:Nat) (p:Nat→Nat→Bool) (c:Nat→Nat→Int):Bool :=
  (List.range n).all fun i => decide (0 ≤ c i i) && (List.range n).all fun j => p i j && (Nat.beq i j || (decide (c i j < 0) && decide (0 ≤ c j i)) || (decide (c j i < 0) && decide (0 ≤ c i j))) &&
    (List.range n).all fun k=>!(decide (c i j < 0) && decide (c j k < 0)) || decide (c i k < 0)
theorem zAq {n:Nat} {p:Nat→Nat→Bool} {c c':Nat→Nat→Int} {s:Nat→Nat→Prop} (h:sortB n p c=true) (hp:∀ i j,p i j=true→s i j) (hc:c'=c):(∀ i j,i < n→j < n→s i j)∧STO n c':=by
 subst hc
 simp only [sortB,List.all_eq_true,List.mem_range,Bool.and_eq_true,Bool.or_eq_true,decide_eq_true_eq,Bool.not_eq_true',Bool.and_eq_false_iff,decide_eq_false_iff_not] at h
 refine ⟨fun i j hi hj=>hp i j ((h i hi).2 j hj).1.1,fun i hi=>(h i hi).1,fun i j hi hj hne=>?_,fun i j k hi hj hk h1 h2=>?_⟩
 ·rcases ((h i hi).2 j hj).1.2 with (h1 | h1) | h1
  ·exact absurd (Nat.eq_of_beq_eq_true h1) hne
  ·exact .inl h1
  ·exact .inr h1
 ·rcases ((h i hi).2 j hj).2 k hk with (h3 | h3) | h3
  ·exact absurd h1 h3
  ·exact absurd h2 h3
  ·exact h3
end Go.Pm
namespace Go.Pm
open Go Go.Sort

/-! Nil slices are slices of length 0. -/
inductive PVle : PV → PV → Prop
  | rfl (p:PV):PVle p p
  | nil (s:Nat) (g:Nat→List PV):PVle .nils (.sl 0 s g)
  | nilm (q:MQ):PVle .nilm (.fm q 0 (fun _=>none))
inductive PAle : PA → PA → Prop
  | one {p q:PV} : PVle p q→PAle (.one p) (.one q)
  | agg {l m:List PV} : RL PVle l m→PAle (.agg l) (.agg m)
theorem zgX {α β:Type} {R:α→β→Prop} : RL R [] []:=trivial
theorem zc5 {α β:Type} {R:α→β→Prop} {a:α} {b:β} {l:List α} {m:List β} (h:R a b) (h':RL R l m):RL R (a :: l) (b :: m):=⟨h,h'⟩
theorem zeU {α : Type} {R : α → α → Prop} (h : ∀ a, R a a) : ∀ l : List α, RL R l l
  | []=>trivial
  | a :: l=>⟨h a,zeU h l⟩
theorem zfF (a:PA):PAle a a:=by
 cases a with
 | one p=>exact .one (.rfl p)
 | agg l=>exact .agg (zeU .rfl l)
def Wk (K:List PA→Prop) (l:List PA):Prop:=∃ l',RL PAle l l'∧K l'
theorem wk {K:List PA→Prop} {l l':List PA} (hk:K l') (h:RL PAle l l'):Wk K l:=⟨l',h,hk⟩
theorem zd6 {K:List PA→Prop} {l:List PA} (hk:K l):Wk K l:=⟨l,zeU zfF l,hk⟩
theorem zHA {h:Fz} {p q:PV} {v:Value} (e:PVle p q) (r:Rep h p v):Rep h q v:=by
 cases e with
 | rfl=>exact r
 | nil s g=>cases r;exact .sl0 s g
 | nilm q=>cases r;exact .fmn q _ (fun _ _=>rfl)
theorem zAr {α β γ : Type} {R : α → β → Prop} {S : α → γ → Prop} {T : γ → β → Prop} (h : ∀ a b c, S a c → R a b → T c b) : ∀ (l : List α) (m : List β) (k : List γ), RL S l k → RL R l m → RL T k m
  | [],[],[],_,_=>trivial
  | a :: l,b :: m,c :: k,hs,hr=>⟨h a b c hs.1 hr.1,zAr h l m k hs.2 hr.2⟩
  | [],_ :: _,[],_,hr=>hr.elim
  | [],_,_ :: _,hs,_=>hs.elim
  | _ :: _,_,[],hs,_=>hs.elim
  | _ :: _,[],_ :: _,_,hr=>hr.elim
theorem zDl {h:Fz} {a b:PA} {v:Value} (e:PAle a b) (r:paR h a v):paR h b v:=by
 cases e with
 | one e=>exact zHA e r
 | agg e =>
  obtain ⟨vs,rfl,hv⟩:=r
  exact ⟨vs,rfl,zAr (R:=Rep h) (S:=PVle) (T:=Rep h) (fun _ _ _ e r=>zHA e r) _ _ _ e hv⟩
theorem zHB {h:Fz} {l m:List PA} {v:Value} (e:RL PAle l m) (r:zzR h l v):zzR h m v:=by
 match l,m,e,r with
 | [a],[b],e,r=>exact zDl e.1 r
 | [],[],_,r=>exact r
 | a :: b :: l,c :: d :: m,e,r =>
  obtain ⟨vs,hv,hr⟩:=r
  exact ⟨vs,hv,zAr (R:=paR h) (S:=PAle) (T:=paR h) (fun _ _ _ e r=>zDl e r) _ _ _ e hr⟩
 | [_],_ :: _ :: _,e,_=>exact e.2.elim
 | _ :: _ :: _,[_],e,_=>exact e.2.elim
 | [],_ :: _,e,_=>exact e.elim
 | _ :: _,[],e,_=>exact e.elim
theorem zg8 {P : Program} {T : Tabs} (hT : TabsOk P T) {f : FuncId} {C : List PA → COut} (hc : zah P f)
    (h:∀ args K,(C args).wp K→∃ args',RL PAle args args'∧∃ memo vv ann,vcFun P (csm T memo vv) ann f args' (Wk K)):Ok P f C:=by
  intro args K hK w h0 vs hvs hfz
  obtain ⟨args',hle,memo,vv,ann,hv⟩:=h args K hK
  refine ⟨hc,(zuu (hT.all memo vv) hv (zAr (R:=paR h0) (S:=PAle) (T:=paR h0) (fun _ _ _ e r=>zDl e r) _ _ _ hle hvs) hfz).mono ?_⟩
  rintro e w' ⟨h',rs,v,⟨rs',hr,hk⟩,he,hres,rest⟩
  exact ⟨h',rs',v,hk,he,zHB hr hres,rest⟩
/-! Maps, as typed values; the keys of a map. -/
structure Mp where
  n:Nat
  F:List Int→Option (List Int)
instance:Inhabited Mp:=⟨⟨0,fun _=>none⟩⟩

def zHC (m:Nat) (F:List Int→Option (List Int)) (seen ys:List (List Int)):Prop :=
 ys.Nodup∧(∀ y∈ys,y.length=m∧F y ≠ none∧y ∉ seen)∧∀ c,c.length=m→F c ≠ none→c ∉ seen→c∈ys
def nodupB : List (List Int) → Bool
  | []=>true
  | y :: r=>!r.contains y && nodupB r
def keysB (m n:Nat) (F:List Int→Option (List Int)) (ys:List (List Int)):Bool :=
 Nat.beq ys.length n && ys.all (fun y=>Nat.beq y.length m && (F y).isSome) && nodupB ys
theorem zlv : ∀ {ys : List (List Int)}, nodupB ys = true ↔ ys.Nodup
  | []=>by simp [nodupB]
  | y :: r=>by simp [nodupB,zlv (ys:=r)]
theorem zn6 {α : Type} [DecidableEq α] : ∀ {l m : List α}, l.Nodup → (∀ x ∈ l, x ∈ m) → m.length ≤ l.length → ∀ x ∈ m, x ∈ l
  | [],m,_,_,hl,x,hx=>by have:m=[]:=List.eq_nil_of_length_eq_zero (by simpa using hl);rw [this] at hx;exact hx
  | a :: l,m,hn,hs,hl,x,hx=>by
    have ha:=hs a List.mem_cons_self
    by_cases h:x=a
    · rw [h];exact List.mem_cons_self
    · have hx2 : x ∈ m.erase a := (List.mem_erase_of_ne h).2 hx
      have hn2:=List.nodup_cons.1 hn
      refine List.mem_cons_of_mem _ (zn6 hn2.2 (fun z hz=>?_) ?_ x hx2)
      · have hza : z ≠ a := fun e => hn2.1 (e ▸ hz)
        exact (List.mem_erase_of_ne hza).2 (hs z (List.mem_cons_of_mem _ hz))
      · rw [List.length_erase_of_mem ha];simp at hl;omega
theorem zuA {m n:Nat} {F:List Int→Option (List Int)} {ys:List (List Int)} (h:keysB m n F ys=true) (hf:zHb m n F):zHC m F [] ys:=by
 simp only [keysB,Bool.and_eq_true,List.all_eq_true] at h
 obtain ⟨⟨h1,h2⟩,h3⟩:=h
 have h1:=Nat.eq_of_beq_eq_true h1
 have h3:=zlv.1 h3
 obtain ⟨ks,k1,k2,k3,k4⟩:=hf
 have hy:∀ y∈ys,y.length=m∧F y ≠ none:=fun y hy=>by
  obtain ⟨a,b⟩:=h2 y hy
  refine ⟨Nat.eq_of_beq_eq_true a,fun e=>?_⟩
  rw [e] at b;cases b
 refine ⟨h3,fun y hy'=>⟨(hy y hy').1,(hy y hy').2,by simp⟩,fun c hc hne _=>?_⟩
 exact zn6 h3 (fun y hy'=>(k4 y (hy y hy').1).1 (hy y hy').2) (by rw [k1,h1];exact Nat.le_refl _) c ((k4 c hc).1 hne)
theorem zAs {m : Nat} {F : List Int → Option (List Int)} {seen ys : List (List Int)} (h : zHC m F seen ys) {c : List Int} (hc : c.length = m) (hF : F c ≠ none) (hs : c ∉ seen) :
  ys.Perm (c :: ys.erase c)∧zHC m F (c :: seen) (ys.erase c)∧(ys.erase c).length+1=ys.length:=by
 obtain ⟨h1,h2,h3⟩:=h
 have hm:=h3 c hc hF hs
 refine ⟨List.perm_cons_erase hm,⟨h1.erase c,fun y hy=>?_,fun d hd hdF hds=>?_⟩,?_⟩
 ·have := (List.Nodup.mem_erase_iff h1).1 hy
  obtain ⟨a,b,e⟩:=h2 y this.2
  exact ⟨a,b,by simp [this.1,e]⟩
 ·simp only [List.mem_cons, not_or] at hds
  exact (List.mem_erase_of_ne hds.1).2 (h3 d hd hdF hds.2)
 ·rw [List.length_erase_of_mem hm]
  have:0 < ys.length:=List.length_pos_of_mem hm
  omega
theorem zDm {m:Nat} {F:List Int→Option (List Int)} {seen ys:List (List Int)} (h:zHC m F seen ys) (he:∀ c,c.length=m→F c ≠ none→c∈seen):ys=[]:=by
 cases ys with
 | nil=>rfl
 | cons y r =>
  obtain ⟨a,b,e⟩:=h.2.1 y List.mem_cons_self
  exact (e (he y a b)).elim

end Go.Pm
namespace Go.Pm
open Go

theorem zaG {x:Int} (h1 : -9223372036854775808≤x) (h2:x≤9223372036854775807):w64 x=x:=by
 have hb:IntKind.i64.bits=64:=rfl
 have hs:IntKind.i64.signed=true:=rfl
 unfold w64 IntKind.wrap
 rw [hb,hs]
 simp only [Bool.true_and,decide_eq_true_eq]
 split <;> omega
def zkO (c : Nat → Bool) : Nat → Nat → Nat
  | 0,i=>i
  | m+1,i=>match c i with | true=>i | false=>zkO c m (i+1)
theorem zuB {c:Nat→Bool} {m i:Nat} (h:c i=true):zkO c (m+1) i=i:=by simp only [zkO,h]
theorem zuC {c:Nat→Bool} {m i:Nat} (h:c i=false):zkO c (m+1) i=zkO c m (i+1):=by simp only [zkO,h]
theorem zjl (c:Nat→Bool) (m i:Nat):i≤zkO c m i∧zkO c m i≤i+m∧(∀ j,i≤j→j < zkO c m i→c j=false)∧(zkO c m i < i+m→c (zkO c m i)=true):=by
 induction m generalizing i with
 | zero=>exact ⟨Nat.le_refl _,Nat.le_refl _,fun j h1 h2=>absurd h2 (by simp only [zkO];omega),fun h=>absurd h (by simp only [zkO];omega)⟩
 | succ m ih =>
  cases e:c i
  ·rw [zuC e]
   obtain ⟨h1,h2,h3,h4⟩:=ih (i+1)
   refine ⟨by omega,by omega,fun j hj1 hj2=>?_,fun h=>h4 (by omega)⟩
   by_cases hji:j=i
   ·rw [hji];exact e
   ·exact h3 j (by omega) hj2
  ·rw [zuB e]
   exact ⟨Nat.le_refl _,by omega,fun j h1 h2=>absurd h2 (by omega),fun _=>e⟩
def fst (c:Nat→Bool) (n:Nat):Nat:=zkO c n 0
theorem zBT (c:Nat→Bool) (n:Nat):fst c n≤n:=by have:=(zjl c n 0).2.1;simpa [fst] using this
theorem zBU {c:Nat→Bool} {n j:Nat} (h:j < fst c n):c j=false:=(zjl c n 0).2.2.1 j (Nat.zero_le _) h
theorem zBV {c:Nat→Bool} {n:Nat} (h:fst c n < n):c (fst c n)=true:=(zjl c n 0).2.2.2 (by simpa [fst] using h)
theorem zrR {α : Type} {c : α → Bool} {lpS : Nat → Sl α → Int → Int → Int} {lpP : Nat → Sl α → Int → Int → Bool}
    (hS:∀ k s t i,lpS (k+1) s t i=cond (decide (i < t)) (cond (c (s.get i.toNat)) i (lpS k s t (w64 (i+(1:Int))))) (-1:Int))
    (hP:∀ k s t i,lpP (k+1) s t i=cond (decide (i < t)) (decide (0≤i∧i < (s.len:Int)) && cond (c (s.get i.toNat)) true (lpP k s t (w64 (i+(1:Int))))) true)
    (s:Sl α) (hn:s.len≤9223372036854775807):lpP Fuel s (s.len:Int) 0=true∧lpS Fuel s (s.len:Int) 0=if fst (fun i=>c (s.get i)) s.len < s.len then ((fst (fun i=>c (s.get i)) s.len:Nat):Int) else -1:=by
  have key:∀ (m k i:Nat),i+m=s.len→m < k→lpP k s (s.len:Int) (i:Int)=true ∧
      lpS k s (s.len:Int) (i:Int)=if zkO (fun i=>c (s.get i)) m i < s.len then ((zkO (fun i=>c (s.get i)) m i:Nat):Int) else -1:=by
    intro m
    induction m with
    | zero =>
      intro k i hi hk
      obtain ⟨k,rfl⟩:∃ k',k=k'+1:=⟨k - 1,by omega⟩
      rw [hS,hP]
      have e:decide ((i:Int) < (s.len:Int))=false:=decide_eq_false (by omega)
      rw [e]
      have e5 : ¬ zkO (fun i=>c (s.get i)) 0 i < s.len:=by show ¬ i < s.len;omega
      rw [if_neg e5]
      exact ⟨rfl,rfl⟩
    | succ m ih =>
      intro k i hi hk
      obtain ⟨k,rfl⟩:∃ k',k=k'+1:=⟨k - 1,by omega⟩
      rw [hS,hP]
      have e:decide ((i:Int) < (s.len:Int))=true:=decide_eq_true (by omega)
      have e2:decide (0≤(i:Int)∧(i:Int) < (s.len:Int))=true:=decide_eq_true (by omega)
      have e3:w64 ((i:Int)+1)=((i+1:Nat):Int):=by rw [zaG (by omega) (by omega)];omega
      have e4:(i:Int).toNat=i:=by omega
      rw [e,e2,e3,e4]
      cases hc:c (s.get i)
      · rw [zuC (c := fun i => c (s.get i)) hc]
        exact ih k (i+1) (by omega) (by omega)
      · rw [zuB (c := fun i => c (s.get i)) hc, if_pos (by omega)]
        exact ⟨rfl,rfl⟩
  exact key s.len Fuel 0 (by omega) (by simp only [Fuel];omega)

theorem zrS {good : Nat → Bool} {fin : Bool} {n : Nat} {lpS lpP : Nat → Int → Bool}
    (hS:∀ (k i:Nat),i < n→lpS (k+1) (i:Int)=cond (good i) (lpS k (w64 ((i:Int)+(1:Int)))) false)
    (hE:∀ k,lpS (k+1) (n:Int)=fin)
    (hP:∀ (k i:Nat),i < n→lpP (k+1) (i:Int)=cond (good i) (lpP k (w64 ((i:Int)+(1:Int)))) true)
    (hPE:∀ k,lpP (k+1) (n:Int)=true) (hn:n≤9223372036854775807) :
    lpP Fuel 0=true∧(lpS Fuel 0=true↔(∀ i,i < n→good i=true)∧fin=true):=by
  have key:∀ (m k i:Nat),i+m=n→m < k→lpP k (i:Int)=true∧(lpS k (i:Int)=true↔(∀ j,i≤j→j < n→good j=true)∧fin=true):=by
    intro m
    induction m with
    | zero =>
      intro k i hi hk
      obtain ⟨k,rfl⟩:∃ k',k=k'+1:=⟨k - 1,by omega⟩
      have:i=n:=by omega
      subst this
      rw [hE,hPE]
      exact ⟨rfl,⟨fun h=>⟨fun j h1 h2=>absurd h2 (by omega),h⟩,fun h=>h.2⟩⟩
    | succ m ih =>
      intro k i hi hk
      obtain ⟨k,rfl⟩:∃ k',k=k'+1:=⟨k - 1,by omega⟩
      rw [hS k i (by omega),hP k i (by omega)]
      have e3:w64 ((i:Int)+1)=((i+1:Nat):Int):=by rw [zaG (by omega) (by omega)];omega
      rw [e3]
      obtain ⟨h1,h2⟩:=ih k (i+1) (by omega) (by omega)
      cases hg:good i
      · refine ⟨rfl, ⟨fun h => (by cases h), fun h => ?_⟩⟩
        have:=h.1 i (Nat.le_refl _) (by omega)
        rw [hg] at this;cases this
      · refine ⟨h1, h2.trans ⟨fun h => ⟨fun j hj1 hj2 => ?_, h.2⟩, fun h => ⟨fun j hj1 hj2 => h.1 j (by omega) hj2, h.2⟩⟩⟩
        by_cases hji:j=i
        · rw [hji];exact hg
        · exact h.1 j (by omega) hj2
  have:=key n Fuel 0 (by omega) (by simp only [Fuel];omega)
  simpa using this

end Go.Pm
namespace Go.Pm
open Go Go.Deep

theorem zAt (b o i j:Nat):((⟨b,o,none⟩:Addr).add i).add j=⟨b,o+i+j,none⟩:=by
 simp only [Addr.add]
 by_cases h1:i=0
 ·subst h1
  by_cases h2:j=0
  ·subst h2;rfl
  ·rw [if_neg h2];rfl
 ·rw [if_neg h1]
  by_cases h2:j=0
  ·subst h2;rfl
  ·rw [if_neg h2]
def H0 (w:World):Fz:=fun b=>(w.heap[b]?).map .fz
theorem hw_H0 (w:World):Hw (H0 w) w:=by
 intro b x h
 unfold H0 at h
 cases e:w.heap[b]? with
 | none=>rw [e] at h;cases h
 | some o=>rw [e] at h;cases h;exact ⟨o,rfl,rfl⟩
def wfI (x:Int):Prop:=-9223372036854775808≤x∧x≤9223372036854775807
section
variable {H:Type} {en:TypeId×Value→H} {P:Program} {w:World} {sp:Nat→Bool} {held:Bool}
def Rd (H:Type) (en:TypeId×Value→H) (P:Program) (w:World) (sp:Nat→Bool) (held:Bool) (t:TypeId) {α:Type} (enc:α→List PV) (wf:α→Prop):Prop :=
 ∀ (fuel:Nat) (cs:List Value) (x:DataW H×List MemPlace),DataW.trod en P w 0 sp held fuel t cs=some x→∃ a:α,RL (Rep (H0 w)) (enc a) cs∧wf a
theorem zHD {t:TypeId} (ht:P.underlying t=some (.int .i64)):Rd H en P w sp held t (fun x=>[.int .i64 x]) wfI:=by
 intro fuel cs x h
 obtain ⟨n,rfl,_,hw⟩:=DataW.trod_int ht h
 refine ⟨n,⟨.int _ _,trivial⟩,?_⟩
 simp only [Lit.wf,Bool.and_eq_true,decide_eq_true_eq] at hw
 exact ⟨hw.1,hw.2⟩
theorem zuD {t : TypeId} {fs : Array Field} (ht : P.underlying t = some (.struct fs)) {fuel : Nat} {cs : List Value} {x : DataW H × List MemPlace} (h : DataW.trod en P w 0 sp held fuel t cs = some x) :
  cs.length=P.cellsOf t∧∀ (i:Nat) (f:Field),fs[i]? = some f→∃ n y,DataW.trod en P w 0 sp held n f.type ((cs.drop f.offset).take (P.cellsOf f.type))=some y:=by
 obtain ⟨xs,n,_,_,hl,hx,hf⟩:=DataW.trod_struct ht h
 refine ⟨hl,fun i f hi=>?_⟩
 have hlt:i < xs.length:=by rw [hx];exact (Array.getElem?_eq_some_iff.1 hi).1
 exact ⟨n,xs[i],by rw [hf i f hi,List.getElem?_eq_getElem hlt]⟩
theorem zAu {t e : TypeId} {k : Nat} (ht : P.underlying t = some (.array k e)) {fuel : Nat} {cs : List Value} {x : DataW H × List MemPlace} (h : DataW.trod en P w 0 sp held fuel t cs = some x) :
  cs.length=P.cellsOf t∧∀ i,i < k→∃ n y,DataW.trod en P w 0 sp held n e ((cs.drop (i * P.cellsOf e)).take (P.cellsOf e))=some y:=by
 obtain ⟨xs,n,_,_,hl,hx,hf⟩:=DataW.trod_array ht h
 refine ⟨hl,fun i hi=>?_⟩
 have hlt:i < xs.length:=by omega
 exact ⟨n,xs[i],by rw [hf i hi,List.getElem?_eq_getElem hlt]⟩
theorem zAv {t e : TypeId} {α : Type} [Inhabited α] {enc : α → List PV} {wf : α → Prop} {s : Nat} (ht : P.underlying t = some (.slice e)) (hc : P.cellsOf e = s) (hs : 0 < s) (hlen : ∀ a, (enc a).length = s)
    (hel:Rd H en P w sp held e enc wf):Rd H en P w sp held t (fun x:Sl α=>[.sl x.len s (fun i=>enc (x.get i))]) (fun x=>x.len≤9223372036854775807∧∀ i,i < x.len→wf (x.get i)):=by
  intro fuel cs x h
  rcases open_slice ht h with ⟨rfl,_⟩ | ⟨a,len,cap,m,n,D,Pl,rfl,_,hl,hm,hmm,_,hget⟩
  · exact ⟨⟨0,default⟩,⟨.sl0 _ _,trivial⟩,Nat.zero_le _,fun i hi=>absurd hi (Nat.not_lt_zero i)⟩
  · by_cases h0 : len = 0
    · subst h0
      exact ⟨⟨0,default⟩,⟨.sle _ _ _ _,trivial⟩,Nat.zero_le _,fun i hi=>absurd hi (Nat.not_lt_zero i)⟩
    · have hlm : len ≤ m := by rw [hmm]; split <;> omega
      rw [hc] at hget
      have hex:∀ i,i < len→∃ y:α,(∃ cs',w.cells? 0 (a.add (i * s)) s=some cs'∧RL (Rep (H0 w)) (enc y) cs')∧wf y:=by
        intro i hi
        obtain ⟨cs',h1,h2⟩:=hget i (by omega)
        obtain ⟨y,h3,h4⟩:=hel _ _ _ h2
        exact ⟨y,⟨cs',h1,h3⟩,h4⟩
      have hch:∃ f:Nat→α,∀ i,i < len→(∃ cs',w.cells? 0 (a.add (i * s)) s=some cs'∧RL (Rep (H0 w)) (enc (f i)) cs')∧wf (f i):=by
        refine ⟨fun i=>if hi:i < len then Classical.choose (hex i hi) else default,fun i hi=>?_⟩
        simp only [dif_pos hi]
        exact Classical.choose_spec (hex i hi)
      obtain ⟨f,hf⟩:=hch
      -- the block
      have hcell:∀ i,i < len→∀ j,j < s→∃ cs',w.cells? 0 (a.add (i * s)) s=some cs'∧RL (Rep (H0 w)) (enc (f i)) cs'∧w.cell? ((a.add (i * s)).add j)=cs'[j]?∧cs'.length=s:=by
        intro i hi j hj
        obtain ⟨⟨cs',h1,h2⟩,_⟩:=hf i hi
        obtain ⟨_,h3,h4⟩:=World.cells?_some h1
        exact ⟨cs',h1,h2,h4 j hj,h3⟩
      obtain ⟨cs0,_,_,hc0,hl0⟩:=hcell 0 (by omega) 0 hs
      have ha0:w.cell? a=cs0[0]?:=by simpa [Addr.add] using hc0
      rw [List.getElem?_eq_getElem (by omega)] at ha0
      obtain ⟨C,ty,fr,hblk,hspot⟩:∃ C ty fr,w.heap[a.block]? = some (.cells C ty fr)∧a.spot=none:=by
        unfold World.cell? at ha0
        split at ha0
        · rename_i C ty fr hb
          refine ⟨C,ty,fr,hb,?_⟩
          cases hsp:a.spot with
          | none=>rfl
          | some k=>rw [hsp] at ha0;simp at ha0
        · cases ha0
      have ea:a=⟨a.block,a.off,none⟩:=by rw [← hspot]
      have hat:∀ i j,i < len→j < s→∃ cs',RL (Rep (H0 w)) (enc (f i)) cs'∧C[a.off+i * s+j]? = cs'[j]?∧cs'.length=s:=by
        intro i j hi hj
        obtain ⟨cs',_,h2,h3,h4⟩:=hcell i hi j hj
        refine ⟨cs',h2,?_,h4⟩
        rw [← h3]
        have e2:(a.add (i * s)).add j=⟨a.block,a.off+i * s+j,none⟩:=(congrArg (fun z:Addr=>(z.add (i * s)).add j) ea).trans (zAt _ _ _ _)
        rw [e2]
        simp [World.cell?,hblk]
      refine ⟨⟨len,f⟩,⟨?_,trivial⟩,by simp only [maxLen] at hm;show len≤_;omega,fun i hi=>(hf i hi).2⟩
      rw [ea]
      refine .sl len s _ a.block a.off cap C ty fr (fun i j=>C.getD (a.off+i * s+j) undef) (by simp [H0,hblk]) hl (fun i _=>hlen _) ?_ ?_
      · intro i j x hi hx
        have hj:j < s:=by have:=(List.getElem?_eq_some_iff.1 hx).1;rw [hlen] at this;exact this
        obtain ⟨cs',h1,h2,h3⟩:=hat i j hi hj
        rw [Array.getD_eq_getD_getElem?,h2,List.getElem?_eq_getElem (by omega)]
        rfl
      · intro i j x hi hx
        have hj:j < s:=by have:=(List.getElem?_eq_some_iff.1 hx).1;rw [hlen] at this;exact this
        obtain ⟨cs',h1,h2,h3⟩:=hat i j hi hj
        obtain ⟨v,hv,hr⟩:=h1.get j x hx
        rw [Array.getD_eq_getD_getElem?,h2,hv]
        exact hr
theorem zcS {α:Type} (l:List α) (o s:Nat):l.drop o=(l.drop o).take s ++ l.drop (o+s):=by
 rw [← List.drop_drop]
 exact (List.take_append_drop s (l.drop o)).symm
theorem okWide_aggA {t e:TypeId} {k:Nat} {r:Reach} {base:Nat} {v:Value} (ht:P.underlying t=some (.array k e)) (h:Value.okWide P w r base t v):∃ cs,v=.agg cs:=by
 unfold Value.okWide at h
 rw [ht] at h
 obtain ⟨cs,hv,_⟩:=h
 exact ⟨cs,hv⟩
def zKB : TypeDesc → Bool
  | .struct _=>false
  | .array _ _=>false
  | _=>true
theorem okWide_one {t:TypeId} {d:TypeDesc} {r:Reach} {base:Nat} {v:Value} (ht:P.underlying t=some d) (hd:zKB d=true) (h:Value.okWide P w r base t v):v.cells.toList=[v]:=by
 unfold Value.okWide at h
 rw [ht] at h
 cases v with
 | agg cs =>
  exfalso
  cases d <;> first | (cases hd;done) | (simp only [Cell.okWide,Cell.ok,ht] at h)
 | _=>rfl
theorem pa_one {h:Fz} {p:PV} {v:Value} (hv:v.cells.toList=[v]) (r:RL (Rep h) [p] v.cells.toList):paR h (.one p) v:=by
 rw [hv] at r
 exact r.1
theorem pa_agg {h:Fz} {l:List PV} {v:Value} (hv:∃ cs,v=.agg cs) (r:RL (Rep h) l v.cells.toList):paR h (.agg l) v:=by
 obtain ⟨cs,rfl⟩:=hv
 exact ⟨cs.toList,by simp,r⟩
theorem below_H0 {w':World} (b:Bel (H0 w) w.heap.size w w'):Go.RowKit.Below w.heap.size w w' :=
 ⟨b.os,b.tape,b.output,b.size,fun k hk=>b.block k hk fun F e=>by
  unfold H0 at e
  cases hb:w.heap[k]? <;> rw [hb] at e <;> cases e⟩
end
end Go.Pm
/-
  DERIVED: THE SHELF's CONTRACTS AT THIS DUMP,IN PLAIN WORDS (tools/lay-plain.mjs out of 'YtkpjhhoafenogaaLs.lean',which tools/lay-shelf.mjs wrote): THE SAME DECLARATIONS UNDER THE SAME NAMES: 'import','namespace','open','def','theorem' AND NOTHING ELSE: no command of the shelf's: FOR A HAND-IN. Each laying: the table of numbers ('.._ren') and one theorem,a field a fact of the dump's own or the kernel's comparison;each contract: ONE APPLICATION.
-/
namespace Go.Proofs
open Go.Shelf
def Try.laysS106_ren:Go.Shelf.Ren:=⟨fun | 6=>106 | 15=>122 | 14=>121 | 28=>132 | 29=>133 | 20=>124 | 21=>125 | 22=>126 | 23=>127 | 24=>128 | 25=>129 | 26=>130 | 27=>131 | 46=>134 | 47=>135 | 48=>136 | 49=>137 | 50=>138 | 57=>139 | n=>n,fun | 22=>102 | 24=>118 | 25=>147 | 3=>3 | 39=>156 | 0=>0 | 53=>166 | 55=>168 | 4=>4 | 46=>159 | 45=>158 | 50=>163 | 5=>5 | 9=>9 | 66=>169 | 70=>173 | 76=>175 | 77=>143 | n=>n,fun | n=>n⟩
theorem Try.laysS106 : Go.Proofs.SlLaysF0.n6 Try.prog Try.laysS106_ren := {
  mixed:=by kernel_rfl
  f6:=⟨Try.f106.name,by decide,Try.func106.trans (congrArg some (by kernel_rfl))⟩
  f14:=⟨Try.f121.name,by decide,Try.func121.trans (congrArg some (by kernel_rfl))⟩
  f15:=Try.func122.trans (congrArg some (by kernel_rfl))
  f20:=⟨Try.f124.name,by decide,Try.func124.trans (congrArg some (by kernel_rfl))⟩
  f21:=⟨Try.f125.name,by decide,Try.func125.trans (congrArg some (by kernel_rfl))⟩
  f22:=⟨Try.f126.name,by decide,Try.func126.trans (congrArg some (by kernel_rfl))⟩
  f23:=⟨Try.f127.name,by decide,Try.func127.trans (congrArg some (by kernel_rfl))⟩
  f24:=⟨Try.f128.name,by decide,Try.func128.trans (congrArg some (by kernel_rfl))⟩
  f25:=⟨Try.f129.name,by decide,Try.func129.trans (congrArg some (by kernel_rfl))⟩
  f26:=⟨Try.f130.name,by decide,Try.func130.trans (congrArg some (by kernel_rfl))⟩
  f27:=⟨Try.f131.name,by decide,Try.func131.trans (congrArg some (by kernel_rfl))⟩
  f28:=Try.func132.trans (congrArg some (by kernel_rfl))
  f29:=Try.func133.trans (congrArg some (by kernel_rfl))
  f46:=⟨Try.f134.name,by decide,Try.func134.trans (congrArg some (by kernel_rfl))⟩
  f47:=Try.func135.trans (congrArg some (by kernel_rfl))
  f48:=Try.func136.trans (congrArg some (by kernel_rfl))
  f49:=⟨Try.f137.name,by decide,Try.func137.trans (congrArg some (by kernel_rfl))⟩
  f50:=⟨Try.f138.name,by decide,Try.func138.trans (congrArg some (by kernel_rfl))⟩
  f57:=⟨Try.f139.name,by decide,Try.func139.trans (congrArg some (by kernel_rfl))⟩
  t0:=Try.underlying0
  a0:=Try.isAgg0
  z0:=Try.sizeOf0
  v0:=Try.zeroValue0
  t3:=Try.underlying3
  a3:=Try.isAgg3
  z3:=Try.sizeOf3
  v3:=Try.zeroValue3
  t4:=Try.underlying4
  a4:=Try.isAgg4
  z4:=Try.sizeOf4
  v4:=Try.zeroValue4
  t5:=Try.underlying5
  a5:=Try.isAgg5
  z5:=Try.sizeOf5
  v5:=Try.zeroValue5
  t9:=Try.underlying9
  a9:=Try.isAgg9
  z9:=Try.sizeOf9
  v9:=Try.zeroValue9
  t22:=Try.underlying102
  a22:=Try.isAgg102
  z22:=Try.sizeOf102
  v22:=Try.zeroValue102
  t25:=Try.underlying147
  a25:=Try.isAgg147
  z25:=Try.sizeOf147
  v25:=Try.zeroValue147
  t39:=Try.underlying156
  a39:=Try.isAgg156
  z39:=Try.sizeOf156
  v39:=Try.zeroValue156
  t45:=Try.underlying158
  a45:=Try.isAgg158
  z45:=Try.sizeOf158
  v45:=Try.zeroValue158
  t46:=Try.underlying159
  a46:=Try.isAgg159
  z46:=Try.sizeOf159
  v46:=Try.zeroValue159
  t50:=Try.underlying163
  a50:=Try.isAgg163
  z50:=Try.sizeOf163
  v50:=Try.zeroValue163
  t53:=Try.underlying166
  a53:=Try.isAgg166
  z53:=Try.sizeOf166
  v53:=Try.zeroValue166
  t55:=Try.underlying168
  a55:=Try.isAgg168
  z55:=Try.sizeOf168
  v55:=Try.zeroValue168
  t66:=Try.underlying169
  a66:=Try.isAgg169
  z66:=Try.sizeOf169
  v66:=Try.zeroValue169
  t70:=Try.underlying173
  a70:=Try.isAgg173
  z70:=Try.sizeOf173
  v70:=Try.zeroValue173
  t76:=Try.underlying175
  a76:=Try.isAgg175
  z76:=Try.sizeOf175
  v76:=Try.zeroValue175
  t77:=Try.underlying143
  a77:=Try.isAgg143
  z77:=Try.sizeOf143
  v77:=Try.zeroValue143 }
end Go.Proofs
namespace Go.Pm
open Go.Shelf Go.RowKit Go.Lib Go.Sort Go.Proofs

section perm
variable {c:Nat→Nat→Int}
theorem zgD (x : Nat) : ∀ l : List Nat, (zzM c x l).Perm (x :: l)
  | []=>.refl _
  | y :: r=>by
    unfold zzM
    split
    · exact .refl _
    · exact ((zgD x r).cons y).trans (.swap _ _ _)
theorem zlw (n:Nat):(zsK n c).Perm (List.range n):=by
 unfold zsK
 generalize List.range n=l
 induction l with
 | nil=>exact .refl _
 | cons x l ih=>exact (zgD x _).trans (ih.cons x)
def leB (c:Nat→Nat→Int) (a b:Nat):Prop:=¬ c b a < 0
theorem zuE {n : Nat} (H : STO n c) {x : Nat} (hx : x < n) : ∀ {l : List Nat}, (∀ y ∈ l, y < n) → l.Pairwise (leB c) → (zzM c x l).Pairwise (leB c)
  | [],_,_=>by simp [zzM]
  | y :: r,hl,hp=>by
    have hy:=hl y List.mem_cons_self
    rw [List.pairwise_cons] at hp
    unfold zzM
    split
    · rename_i h
      have h:=of_decide_eq_true h
      rw [List.pairwise_cons]
      refine ⟨fun z hz=>?_,List.pairwise_cons.2 hp⟩
      have hxy:leB c x y:=fun h2=>by
        have:=H.1 x hx
        have:=H.2.2 x y x hx hy hx h h2
        omega
      rcases List.mem_cons.1 hz with rfl | hz
      · exact hxy
      · intro h2
        exact hp.1 z hz (H.2.2 z x y (hl z (List.mem_cons_of_mem _ hz)) hx hy h2 h)
    · rename_i h
      have h:=of_decide_eq_false h
      rw [List.pairwise_cons]
      refine ⟨fun z hz=>?_,zuE H hx (fun z hz=>hl z (List.mem_cons_of_mem _ hz)) hp.2⟩
      rcases List.mem_cons.1 ((zgD x r).mem_iff.1 hz) with rfl | hz
      · exact h
      · exact hp.1 z hz
theorem zAw {n:Nat} (H:STO n c):(zsK n c).Pairwise (leB c):=by
 have key:∀ l:List Nat,(∀ y∈l,y < n)→(l.foldr (zzM c) []).Pairwise (leB c)∧∀ y∈l.foldr (zzM c) [],y < n:=by
  intro l
  induction l with
  | nil=>intro _;exact ⟨List.Pairwise.nil,fun y hy=>by simp at hy⟩
  | cons x l ih =>
   intro h
   obtain ⟨h1,h2⟩:=ih fun y hy=>h y (List.mem_cons_of_mem _ hy)
   have hx:=h x List.mem_cons_self
   refine ⟨zuE H hx h2 h1,fun y hy=>?_⟩
   rcases List.mem_cons.1 ((zgD x _).mem_iff.1 hy) with rfl | hy
   ·exact hx
   ·exact h2 y hy
 exact (key _ fun y hy=>List.mem_range.1 hy).1
theorem zte {n:Nat} (H:STO n c) {l:List Nat} (hp:l.Perm (List.range n)) (hs:l.Pairwise (leB c)):l=zsK n c:=by
 refine List.Perm.eq_of_pairwise (le:=leB c) (fun a b ha hb h1 h2=>?_) hs (zAw H) (hp.trans (zlw n).symm)
 have ha:=List.mem_range.1 (hp.mem_iff.1 ha)
 have hb:=List.mem_range.1 ((zlw n).mem_iff.1 hb)
 by_cases e:a=b
 ·exact e
 ·rcases H.2.1 a b ha hb e with h | h
  ·exact absurd h.1 h2
  ·exact absurd h.1 h1
end perm

theorem zuF {w w':World} (h1:w'.heap=w.heap) (h2:w'.tape=w.tape) (h3:w'.drawn=w.drawn) (h4:w'.os=w.os) (h5:w'.output=w.output):w'=w:=by
 cases w;cases w';simp_all
theorem zAx {w w':World} {h:Fz} (b:Bel h w.heap.size w w') (hi:∀ k F,h k ≠ some (.inv F)):∃ q os,w'=grow (w.drewN q) os:=by
 refine ⟨w'.drawn - w.drawn,w'.heap.extract w.heap.size w'.heap.size,zuF ?_ b.tape ?_ b.os b.output⟩
 ·show w'.heap = w.heap ++ w'.heap.extract w.heap.size w'.heap.size
  apply Array.ext_getElem?
  intro i
  rw [Array.getElem?_append]
  split
  ·rename_i hl;exact b.block i hl (fun F=>hi i F)
  ·rename_i hl
   rw [Array.getElem?_extract]
   by_cases hlt:i < w'.heap.size
   ·rw [if_pos (by omega)];congr 1;omega
   ·rw [if_neg (by omega),Array.getElem?_eq_none (by omega)]
 ·show w'.drawn = w.drawn + (w'.drawn - w.drawn)
  have:=b.drawn;omega

theorem zn7 {w : World} {g q : Nat} {cur : Array Value} {e : TypeId} {fr : Nat × Nat} {off : Nat} (F : Array Value) (hb : w.heap[g]? = some (.cells cur e fr)) :
  ∃ cur',(putRow id (Sort.ahead w q) g off F).heap[g]? = some (.cells cur' e fr)∧cur'.size=cur.size:=by
 refine ⟨putCells id off F cur,?_,by simp [putCells]⟩
 simp [putRow,mapBlock,Sort.ahead,Array.getElem?_modify,hb,onCells]
theorem zjm {w:World} {g q off:Nat} (F:Array Value) {k:Nat} (hk:k ≠ g):(putRow id (Sort.ahead w q) g off F).heap[k]? = w.heap[k]?:=by
 simp [putRow,mapBlock,Sort.ahead,Array.getElem?_modify,Ne.symm hk]

theorem zuG {P:Program} {ρ:Ren} (L:SlLaysF0.n6 P ρ) {e s b:Nat} (he:ρ.t 24=e) (hag:zef P e=some true) (hsz:szT P e=some s) (hM : ¬ zns) (hc:zah P (ρ.f 6)):zlL P (ρ.f 6) (.sort e s b):=by
 intro w h base v n get gf caps cv ag C hC hcv hag' _ hpos ⟨xs,hown,hr⟩ hone hw hob hbase hn hS hO
 rw [hag] at hag';simp only [Option.some.injEq] at hag';subst hag'
 refine ⟨hc,?_⟩
 have hni:∀ k F,h k ≠ some (.inv F):=fun k F hk=>by obtain ⟨o,_,ho⟩:=hw k _ hk;exact hM ho.2
 have hdr:∀ (w':World) (k:Nat),w.drawn≤w.drawn+k:=fun _ k=>Nat.le_add_right _ _
 have none:∀ (p:Option Addr) (cap:Nat),n=0→v=.slice p 0 cap→Calls P (ρ.f 6) #[v,.func (.func gf) #[] cv.toArray] w fun r w'=>r=.returned (.tuple #[])∧zGX h w' base e s v n (zoU n (ztv C caps true get) get)∧GrB w w' v.ownBlock:=by
  rintro p cap rfl rfl
  refine (AnyF.slices_SortFunc_none L p cap _ w).mono ?_
  rintro r w' ⟨rfl,rfl⟩
  exact ⟨rfl,⟨xs,hown,fun i hi=>absurd hi (Nat.not_lt_zero i)⟩,⟨rfl,rfl,rfl,Nat.le_refl _,fun _ _ _=>rfl⟩,Nat.le_refl _⟩
 rcases hown.2 with ⟨h1,h2⟩ | ⟨blk,cap,cur,rfl,hb,hcell,hncap,hcap,hcs,htk⟩
 ·exact none _ _ h2 h1
 by_cases hn0:n=0
 ·subst hn0;exact none _ _ rfl rfl
 have:Inhabited (Fin n):=⟨⟨0,by omega⟩⟩
 let enc:Fin n→List Value:=fun i=>(xs.drop (i.val * s)).take s
 let c:=ztv C caps true get
 let cf:Fin n→Fin n→Int:=fun x y=>c x.val y.val
 let d:Array (Fin n):=Array.ofFn id
 have hds:d.size=n:=Array.size_ofFn
 have hdi:∀ i (hi:i < n),d[i]! = ⟨i,hi⟩:=fun i hi=>by
  rw [getElem!_pos d i (by rw [hds];exact hi)];simp [d]
 have hlt:blk < w.heap.size:=(Array.getElem?_eq_some_iff.1 hcell).1
 have hbn:h blk=Option.none:=hob blk rfl
 have hmul:∀ i,i < n→i * s+s≤n * s:=fun i hi=>by have:=Nat.mul_le_mul_right s (Nat.succ_le_of_lt hi);rw [Nat.succ_mul] at this;exact this
 have hk:∀ x,(enc x).length=s:=fun x=>by
  have:=hmul x.val x.isLt
  simp only [enc,List.length_take,List.length_drop,hown.1];omega
 have hcur:∀ j,j < n * s→cur[j]? = xs[j]?:=fun j hj=>by
  have:(cur.toList.take (n * s))[j]? = xs[j]?:=by rw [htk]
  rw [List.getElem?_take,if_pos hj] at this;simpa using this
 have hxl:∀ j,j < n * s→∃ u,xs[j]? = some u:=fun j hj=>⟨xs[j]'(by rw [hown.1];exact hj),List.getElem?_eq_getElem _⟩
 have h1:∀ x,∀ u∈enc x,u.oneCell'=true:=fun x u hu=>by
  obtain ⟨j,hj⟩:=List.getElem?_of_mem hu
  obtain ⟨p,_,hp⟩:=(hr x.val x.isLt).get' j u hj
  exact hp.one
 have hflat:∀ j (hj:j < n * s),(flatK enc s d)[j]! = xs[j]'(by rw [hown.1];exact hj):=fun j hj=>by
  have hq:j / s < n:=Nat.div_lt_of_lt_mul (by rw [Nat.mul_comm];exact hj)
  rw [get_flatK _ _ _ _ (by rw [hds];exact hj),hdi _ hq]
  have hm:=Nat.mod_lt j hpos
  have hdm:=Nat.div_add_mod j s
  rw [getElem!_pos _ _ (by rw [hk];exact hm)]
  simp only [enc,List.getElem_take,List.getElem_drop]
  congr 1
  rw [Nat.mul_comm];exact hdm
 have hH:HoldsK enc s w blk 0 d:=fun j hj=>by
  have hj:j < n * s:=by rw [size_flatK,hds] at hj;exact hj
  refine ⟨?_,frozen_of_row w blk _ cur e hcell⟩
  rw [hflat j hj,cell_of hcell,Nat.zero_add,hcur j hj]
  exact List.getElem?_eq_getElem _
 have eg:∀ args w,(callFunc gf args).run P w=.ok (.enter gf args) w:=by
  have hcg:zah P gf:=by
   have hs0:=hS 0 0 (by omega) (by omega)
   unfold zGW at hs0
   split at hs0
   ·rename_i s0 c0 hat
    have hwp:(C (elP true (get 0) :: elP true (get 0) :: caps.map .one)).wp (fun _=>True):=by
     unfold zzL at hat
     split at hat
     ·rename_i e1;rw [e1];trivial
     ·rename_i e1;simp only [Option.some.injEq,Prod.mk.injEq] at hat;rw [e1];exact ⟨by rw [hat.1];exact hs0,trivial⟩
     ·cases hat
    exact (hC _ _ hwp w h (.agg (enc ⟨0,by omega⟩).toArray :: .agg (enc ⟨0,by omega⟩).toArray :: cv) ⟨⟨_,rfl,hr 0 (by omega)⟩,⟨_,rfl,hr 0 (by omega)⟩,RL.map_left.2 hcv⟩ hw).1
   ·exact hs0.elim
  exact fun args w=>zc1 hcg
 have hcmp:CmpLays P gf cv.toArray enc s cf blk 0 d.size w:=by
  intro m os dk hdk x y
  have hs0:=hS x.val y.val x.isLt y.isLt
  unfold zGW at hs0
  split at hs0
  ·rename_i s0 c0 hat
   have hwp:(C (elP true (get x.val) :: elP true (get y.val) :: caps.map .one)).wp (fun rs=>rs=[.one (.int .i64 (cf x y))]):=by
    have hcv:cf x y=c0:=by show ztv C caps true get x.val y.val=c0;unfold ztv;rw [hat]
    rw [hcv]
    unfold zzL at hat
    split at hat
    ·rename_i e1;simp only [Option.some.injEq,Prod.mk.injEq] at hat;rw [e1,hat.2];rfl
    ·rename_i e1;simp only [Option.some.injEq,Prod.mk.injEq] at hat;rw [e1,hat.2];exact ⟨by rw [hat.1];exact hs0,rfl⟩
    ·cases hat
   have hwh:Hw h (sortWorldK enc s w blk 0 m dk os):=hw.same fun k o hk=>by
    have hkb:k ≠ blk:=fun e=>by rw [e,hbn] at hk;cases hk
    have hkl:=hw.lt hk
    show ((putRow id (Sort.ahead w m) blk 0 (flatK enc s dk)).heap ++ os)[k]? = _
    rw [Array.getElem?_append_left (by simpa [putRow,mapBlock,Sort.ahead] using hkl)]
    exact zjm _ hkb
   obtain ⟨_,hrun⟩:=hC _ _ hwp (sortWorldK enc s w blk 0 m dk os) h (.agg (enc x).toArray :: .agg (enc y).toArray :: cv) ⟨⟨_,rfl,hr x.val x.isLt⟩,⟨_,rfl,hr y.val y.isLt⟩,RL.map_left.2 hcv⟩ hwh
   rw [show (#[Value.agg (enc x).toArray,.agg (enc y).toArray] ++ cv.toArray)=(Value.agg (enc x).toArray :: .agg (enc y).toArray :: cv).toArray by simp]
   refine hrun.mono ?_
   rintro e' w' ⟨h',rs,v',hrs,rfl,hres,hbel,_,_,_⟩
   subst hrs
   have hv':v'=.int .i64 (cf x y):=by
    have:Rep h' (.int .i64 (cf x y)) v':=hres
    cases this;rfl
   subst hv'
   exact ⟨rfl,zAx hbel hni⟩
  ·exact hs0.elim
 have hSWO:SWO (ltOf cf):=by
  refine ⟨fun x=>?_,fun x y z hxy hyz=>?_,fun x y z hxy hyz=>?_⟩
  ·have : 0 ≤ c x.val x.val := hO.1 x.val x.isLt
   simp only [ltOf,decide_eq_false_iff_not];show ¬ c x.val x.val < 0;omega
  ·simp only [ltOf, decide_eq_true_eq] at hxy hyz ⊢
   exact hO.2.2 _ _ _ x.isLt y.isLt z.isLt hxy hyz
  ·simp only [ltOf, decide_eq_false_iff_not] at hxy hyz ⊢
   intro hxz
   have hxy : ¬ c x.val y.val < 0:=hxy
   have hyz : ¬ c y.val z.val < 0:=hyz
   have hxz:c x.val z.val < 0:=hxz
   by_cases e1:y.val=z.val
   ·rw [e1] at hxy;exact hxy hxz
   ·by_cases e2 : x.val = y.val
    ·rw [e2] at hxz;exact hyz hxz
    ·have a1 : c z.val y.val < 0 := by rcases hO.2.1 y.val z.val y.isLt z.isLt e1 with h | h; exact absurd h.1 hyz; exact h.1
     exact hxy (hO.2.2 _ _ _ x.isLt z.isLt y.isLt hxz a1)
 have aE:∀ w,(isAgg (ρ.t 24)).run P w=.ok true w:=fun w=>by rw [he];exact zdw hag
 have zE:∀ w,(Go.sizeOf (ρ.t 24)).run P w=.ok s w:=fun w=>by rw [he];exact run_sizeOf hsz
 have hrun:=AnyQ.slices_SortFunc L s aE zE enc hk h1 cf hSWO gf cv.toArray blk 0 cap d w eg hcmp hH hlt (by rw [hds];omega)
 rw [hds] at hrun
 refine hrun.mono ?_
 rintro r w' ⟨rfl,d',m,os,hperm,hsort,rfl⟩
 obtain ⟨hps,_,hpp⟩:=hperm
 have hd's:d'.size=n:=by rw [hps,hds]
 have hall:∀ (z:Array (Fin n)),z.size=n→z.extract 0 n=z:=fun z hz=>Array.ext (by simp [hz]) (fun i h1 h2=>by simp)
 rw [hall d' hd's,hall d hds] at hpp
 have hl:d'.toList.map Fin.val=zsK n c:=by
  refine zte hO ?_ ?_
  ·refine (hpp.map Fin.val).trans ?_
   have:d.toList.map Fin.val=List.range n:=by
    apply List.ext_getElem?
    intro i
    simp only [d,List.getElem?_map]
    by_cases hi:i < n
    ·simp [hi]
    ·rw [List.getElem?_eq_none (by simp;omega),List.getElem?_eq_none (by simp;omega)];rfl
   rw [this]
  ·rw [List.pairwise_map, List.pairwise_iff_getElem]
   intro i j hi hj hij
   have hi':i < n:=by simpa [hd's] using hi
   have hj':j < n:=by simpa [hd's] using hj
   have:=hsort i j (Nat.zero_le _) hij hj'
   rw [getElem!_pos d' j (by omega),getElem!_pos d' i (by omega)] at this
   simp only [ltOf,decide_eq_false_iff_not] at this
   exact this
 have hget:∀ i (hi:i < n),zoU n c get i=get (d'[i]'(by omega)).val:=fun i hi=>by
  unfold zoU
  rw [← hl]
  congr 1
  rw [List.getD_eq_getElem?_getD,List.getElem?_map]
  simp [hd's,hi]
 obtain ⟨cur',hcell',hsz'⟩:=zn7 (q:=m) (off:=0) (flatK enc s d') hcell
 have hgrow:(sortWorldK enc s w blk 0 m d' os).heap[blk]? = some (.cells cur' e (0,0)):=by
  show ((putRow id (Sort.ahead w m) blk 0 (flatK enc s d')).heap ++ os)[blk]? = _
  rw [Array.getElem?_append_left (by simpa [putRow,mapBlock,Sort.ahead] using hlt)]
  exact hcell'
 have hH':HoldsK enc s (sortWorldK enc s w blk 0 m d' os) blk 0 d':=holdsK_sortWorldK_c enc s w blk 0 d d' m os hH hlt (by rw [hd's,hds])
 have hcur':∀ j (hj:j < n * s),cur'[j]? = some ((flatK enc s d')[j]!):=fun j hj=>by
  have:=(hH' j (by rw [size_flatK,hd's];exact hj)).1
  rw [cell_of hgrow,Nat.zero_add] at this
  exact this
 refine ⟨rfl,⟨cur'.toList.take (n * s),⟨by rw [List.length_take,Array.length_toList,hsz',hcs];exact Nat.min_eq_left (Nat.mul_le_mul_right s hncap),.inr ⟨blk,cap,cur',rfl,hb,hgrow,hncap,hcap,by rw [hsz',hcs],rfl⟩⟩,fun i hi=>?_⟩,?_⟩
 ·have e1:((cur'.toList.take (n * s)).drop (i * s)).take s=enc (d'[i]'(by omega)):=by
   apply List.ext_getElem?
   intro j
   have hm:=hmul i hi
   rw [List.getElem?_take]
   split
   ·rename_i hj
    rw [List.getElem?_drop,List.getElem?_take,if_pos (by omega),Array.getElem?_toList,hcur' _ (by omega)]
    have hdiv:(i * s+j) / s=i:=by rw [Nat.mul_comm,Nat.mul_add_div hpos,Nat.div_eq_of_lt hj,Nat.add_zero]
    have hmod:(i * s+j) % s=j:=by rw [Nat.mul_comm,Nat.mul_add_mod,Nat.mod_eq_of_lt hj]
    rw [get_flatK _ _ _ _ (by rw [hd's];omega),hdiv,hmod,getElem!_pos d' i (by omega),getElem!_pos _ _ (by rw [hk];exact hj)]
    exact (List.getElem?_eq_getElem _).symm
   ·rename_i hj
    rw [List.getElem?_eq_none (by rw [hk];omega)]
  rw [e1,hget i hi]
  exact hr _ (d'[i]'(by omega)).isLt
 ·refine ⟨⟨rfl, rfl, rfl, ?_, fun k hk hne => ?_⟩, Nat.le_add_right _ _⟩
  ·show w.heap.size ≤ ((putRow id (Sort.ahead w m) blk 0 (flatK enc s d')).heap ++ os).size
   simp [putRow,mapBlock,Sort.ahead]
  ·show ((putRow id (Sort.ahead w m) blk 0 (flatK enc s d')).heap ++ os)[k]? = _
   rw [Array.getElem?_append_left (by simpa [putRow,mapBlock,Sort.ahead] using hk)]
   exact zjm _ fun e=>hne (by rw [e];rfl)
end Go.Pm
namespace Go.Pm

abbrev zI (x:Int):DV:=.one (.c (.p (.int .i64 x)))
abbrev zB (x:Bool):DV:=.one (.c (.p (.bool x)))
abbrev zP (x:PV):DV:=.one (.c (.p x))
abbrev zp (L k:Nat):DV:=.one (.c (.ptr L k))
abbrev zv (L:Nat):DV:=.one (.c (.vec L))
abbrev zs {α:Type} (enc:α→List PV) (s:Nat) (x:Sl α):PV:=.sl x.len s (fun i=>enc (x.get i))
abbrev zS {α:Type} (enc:α→List PV) (s:Nat) (x:Sl α):DV:=zP (zs enc s x)
abbrev zm (l:List PV):List Cl:=l.map Cl.p
abbrev zi (x:Int):Cl:=.p (.int .i64 x)
abbrev zg {α:Type} (enc:α→List PV) (x:Sl α):Nat→List PV:=fun i=>enc (x.get i)
abbrev zK (a b:List Nat):Keep:=⟨a,b,[],[],[],[],[]⟩
theorem zE {α:Type} (enc:α→List PV) (size:Nat) (f:Nat→α):IsE enc size size (fun i=>enc (f i)):=⟨rfl,f,rfl⟩

@[reducible] def lpO {A : Type} (d : A) (st : A → A) : Nat → A
  | 0=>d
  | k+1=>st (lpO d st k)
theorem zgh {A B : Type} (a : A) (b : B) (p : A → A) (s : B → B) (M : A → B → Prop) (h0 : M a b) (h1 : ∀ P S, M P S → M (p P) (s S)) : ∀ k, M (lpO a p k) (lpO b s k)
  | 0=>h0
  | k+1=>h1 _ _ (zgh a b p s M h0 h1 k)
section
variable (P:Program) (Γ:Ctrs) (ann:Ann)
def pt : Code → (Exit → St → Prop) → List Nat → List (St → Prop) → St → Prop
  | .seq a b,K,i :: r,X=>match i with | 0=>pt a (sqK P Γ ann b K) r X | _=>pt b K r X
  | .cond _ a b,K,i :: r,X=>match i with | 0=>pt a K r X | _=>pt b K r X
  | .block id b,K,_ :: r,X=>pt b (zaZ id K) r X
  | .loop b,K,_ :: r,x :: X=>pt b (zdT P ann (zk7 b) x K) r X
  | .scope b,K,_ :: r,X=>pt b (zb7 K) r X
  | c,K,_,_=>vc P Γ ann c K
def ptF (fn:Func) (K:List PA→Prop) (l:List Nat) (X:List (St→Prop)):St→Prop :=
 match fn.body with
 | some c=>pt P Γ ann c (zcn P fn K) l X
 | none=>fun _=>False
end

theorem zc {b:Bool} {A B:Prop} {S S':Bool} {α:Type} {e:α→List PA} {K:List PA→Prop} {x y:α} (hs:cond b S S'=true) (hk:K (e (cond b x y))) (h1:S=true→K (e x)→A) (h2:S'=true→K (e y)→B):zcY b A B:=by
 cases b
 ·exact h2 hs hk
 ·exact h1 hs hk
theorem zt {b:Bool} {A B:Prop} {α:Type} {e:α→List PA} {K:List PA→Prop} {x y:α} (hk:K (e (cond b x y))) (h1:K (e x)→A) (h2:K (e y)→B):zcY b A B:=by
 cases b
 ·exact h2 hk
 ·exact h1 hk
theorem zl {at_:Prop} {g:St} (B:(St→Prop)→St→Prop) (e:at_ = ∀ X:St→Prop,(∀ s,B X s→X s)→X g) (h:∀ X:St→Prop,(∀ s,B X s→X s)→X g):at_:=e ▸ h
end Go.Pm
namespace Go.Proofs
open Go Go.Pm
set_option maxRecDepth 100000
set_option linter.unusedVariables false
attribute [local irreducible] Go.Pm.vcFun Go.Pm.vc Go.Pm.vcIter
abbrev zal (x:Int):List PV:=[.int .i64 x]
def zKC : List PV → Int
  | [.int .i64 x]=>x
  | _=>default
def zcP (g:Nat→List PV):Nat→Int:=fun i=>zKC (g i)
theorem zds (f:Nat→Int):zcP (fun i=>zal (f i))=f:=rfl
structure Gate where
  Z:Int
  Low:Int
  High:Int
deriving Inhabited
abbrev enc_55 (x:Gate):List PV:=[.int .i64 x.Z,.int .i64 x.Low,.int .i64 x.High]
def zHE : List PV → Gate
  | [.int .i64 x_Z,.int .i64 x_Low,.int .i64 x_High]=>(⟨x_Z,x_Low,x_High⟩:Gate)
  | _=>default
def zad (g:Nat→List PV):Nat→Gate:=fun i=>zHE (g i)
theorem zac (f:Nat→Gate):zad (fun i=>enc_55 (f i))=f:=rfl
abbrev zHF (x:(Sl Gate)):List PV:=[.sl x.len 3 (fun i=>enc_55 (x.get i))]
structure Frac where
  Num:Int
  Den:Int
deriving Inhabited
abbrev zae (x:Frac):List PV:=[.int .i64 x.Num,.int .i64 x.Den]
def zHG : List PV → Frac
  | [.int .i64 x_Num,.int .i64 x_Den]=>(⟨x_Num,x_Den⟩:Frac)
  | _=>default
def zfU (g:Nat→List PV):Nat→Frac:=fun i=>zHG (g i)
theorem zer (f:Nat→Frac):zfU (fun i=>zae (f i))=f:=rfl
abbrev enc_34 (x:(Int×Int×Int×Int)):List PV:=[.int .i64 x.1,.int .i64 x.2.1,.int .i64 x.2.2.1,.int .i64 x.2.2.2]
structure Line where
  Slope:Frac
  Start:Frac
deriving Inhabited
abbrev zbf (x:Line):List PV:=[.int .i64 x.Slope.Num,.int .i64 x.Slope.Den,.int .i64 x.Start.Num,.int .i64 x.Start.Den]
def zHH : List PV → Line
  | [.int .i64 x_Slope_Num,.int .i64 x_Slope_Den,.int .i64 x_Start_Num,.int .i64 x_Start_Den]=>(⟨(⟨x_Slope_Num,x_Slope_Den⟩:Frac),(⟨x_Start_Num,x_Start_Den⟩:Frac)⟩:Line)
  | _=>default
def zjn (g:Nat→List PV):Nat→Line:=fun i=>zHH (g i)
theorem zes (f:Nat→Line):zjn (fun i=>zbf (f i))=f:=rfl
structure Span where
  Low:Int
  High:Int
deriving Inhabited
abbrev zBW (x:Span):List PV:=[.int .i64 x.Low,.int .i64 x.High]
structure list where
  Gates:(Sl Gate)
deriving Inhabited
abbrev zb0 (x:list):List PV:=[.sl x.Gates.len 3 (fun i=>enc_55 (x.Gates.get i))]
structure straight where
  slope:Int
  start:Int
  den:Int
deriving Inhabited
abbrev zaf (x:straight):List PV:=[.int .i64 x.slope,.int .i64 x.start,.int .i64 x.den]
def zDn : List PV → straight
  | [.int .i64 x_slope,.int .i64 x_start,.int .i64 x_den]=>(⟨x_slope,x_start,x_den⟩:straight)
  | _=>default
def zaQ (g:Nat→List PV):Nat→straight:=fun i=>zDn (g i)
theorem zaM (f:Nat→straight):zaQ (fun i=>zaf (f i))=f:=rfl
structure set where
  list:list
  corners:(Sl straight)
deriving Inhabited
abbrev zaW (x:set):List PV:=[.sl x.list.Gates.len 3 (fun i=>enc_55 (x.list.Gates.get i)),.sl x.corners.len 3 (fun i=>zaf (x.corners.get i))]
abbrev zcB (x:Mp):List PV:=[.fm (true,2,false,[some .i64]) x.n x.F]
end Go.Proofs
namespace Go.Proofs
open Go Go.Pm
set_option maxRecDepth 100000
set_option linter.unusedVariables false
attribute [local irreducible] Go.Pm.vcFun Go.Pm.vc Go.Pm.vcIter
abbrev T74:Tabs:=Tabs.nil
theorem zKD:TabsOk Try.prog T74:=TabsOk.nil
abbrev G74:Ctrs:=csm T74 (fun _ _=>[]) (fun _=>false)
def zHI:Ann:=⟨15,[(0,zK [0,1,2] []),(1,zK [6] [])],
 [],
 [],
 [],[]⟩
abbrev R74:=Bool
abbrev e74 (r:R74):List PA:=[.one (.bool r)]
section
variable {K:List PA→Prop} {x:Int} {low:Int} {high:Int}
def s74 (x:Int) (low:Int) (high:Int):Bool :=
  (cond (decide (x ≥ low))
 (decide (x≤high))
 false)
end
theorem q74 (x:Int) (low:Int) (high:Int) (K:List PA→Prop) (hk:K (e74 (s74 x low high))):vcFun Try.prog G74 zHI 74 [.one (.int .i64 x),.one (.int .i64 low),.one (.int .i64 high)] K :=
  zax (by kernel_rfl) (zt hk (fun hk=>hk) (fun hk=>hk))
def zpr : List PA → COut
  | [.one (.int .i64 a0),.one (.int .i64 a1),.one (.int .i64 a2)]=>.tot [.one (.bool (s74 a0 a1 a2))]
  | _=>.no
theorem zHJ:zah Try.prog 74:=⟨_,rfl,rfl,by kernel_rfl⟩
theorem zHK:Ok Try.prog 74 zpr:=zaz zKD zHJ fun args K h=>by
  unfold zpr at h
  split at h
  · rename_i a0 a1 a2
    have hk:=h
    exact ⟨(fun _ _=>[]),(fun _=>false),zHI,q74 a0 a1 a2 K hk⟩
  · exact h.elim
abbrev T87:Tabs:=(Tabs.nil.addF 74 zpr)
theorem zKE:TabsOk Try.prog T87:=(TabsOk.nil.addF zHK)
abbrev G87:Ctrs:=csm T87 (fun _ _=>[]) (fun _=>false)
def zHL:Ann:=⟨23,[(0,zK [1] [1]),(1,zK [2] [])],
 [],
 [],
 [],[]⟩
abbrev R87:=Bool
abbrev e87 (r:R87):List PA:=[.one (.bool r)]
section
variable {K:List PA→Prop} {g:Gate}
def s87 (g:Gate):Bool :=
  (cond (s74 g.Z (0:Int) (100000:Int))
 (cond (decide (g.Low ≥ (-1000000:Int)))
 (cond (decide (g.Low ≤ g.High))
 (decide (g.High≤(1000000:Int)))
 false)
 false)
 false)
end
theorem q87 (g:Gate) (K:List PA→Prop) (hk:K (e87 (s87 g))):vcFun Try.prog G87 zHL 87 [.agg (enc_55 g)] K :=
  zax (by kernel_rfl) (zt hk (fun hk=>(zt hk (fun hk=>(zt hk (fun hk=>hk) (fun hk=>hk))) (fun hk=>hk))) (fun hk=>hk))
def zAy : List PA → COut
  | [.agg [.int .i64 a0_Z,.int .i64 a0_Low,.int .i64 a0_High]]=>.tot [.one (.bool (s87 (⟨a0_Z,a0_Low,a0_High⟩:Gate)))]
  | _=>.no
theorem zHM:zah Try.prog 87:=⟨_,rfl,rfl,by kernel_rfl⟩
theorem zNk:Ok Try.prog 87 zAy:=zaz zKE zHM fun args K h=>by
  unfold zAy at h
  split at h
  · rename_i a0_Z a0_Low a0_High
    have hk:=h
    exact ⟨(fun _ _=>[]),(fun _=>false),zHL,q87 (⟨a0_Z,a0_Low,a0_High⟩:Gate) K hk⟩
  · exact h.elim
abbrev T64:Tabs:=((Tabs.nil.addF 74 zpr).addF 87 zAy)
theorem zKF:TabsOk Try.prog T64:=((TabsOk.nil.addF zHK).addF zNk)
abbrev G64:Ctrs:=csm T64 (fun _ _=>[]) (fun _=>false)
def zDo:Ann:=⟨18,[(0,zK [0] []),(1,zK [0,5,6,7] []),(2,zK [0,5,6,7,8] []),(3,zK [0,4,5,6,7] [4]),(4,zK [0,5,6,7,13] []),(5,zK [2] []),(6,zK [0,5,6,7] []),(7,zK [2] [])],
 [(2,zK [0,5,6,7] [])],
 [(5,zK [0,5,6,7,13] [])],
 [],[]⟩
abbrev R64:=Bool
abbrev e64 (r:R64):List PA:=[.one (.bool r)]
@[irreducible] def z64:=ptF Try.prog G64 zDo Try.f64
def zBX (zaa:(Sl Gate)) (zaX:Int):St:=⟨[(0,zS enc_55 3 zaa),(5,zS enc_55 3 zaa),(6,zI (zaa.len:Int)),(7,zI zaX)],[],[]⟩
abbrev zDp (K:List PA→Prop) (zaa:(Sl Gate)) (X:St→Prop) (P:Int→Bool) (S:Int→Bool):Prop:=∀ ⦃zaX:Int⦄,P zaX=true→K (e64 (S zaX))→X (zBX zaa zaX)
section
variable {K:List PA→Prop} {zaa:(Sl Gate)} {zaX:Int} {X0:St→Prop} {P0:Int→Bool} {S0:Int→Bool} {zfV:Int} {zps:Bool}
def zpt (S0:Int→Bool) (zaa:(Sl Gate)) (zfV:Int) (zps:Bool):Bool :=
  (cond zps
 false
 (S0 (w64 (zfV+(1:Int)))))
def zpu (P0:Int→Bool) (zaa:(Sl Gate)) (zfV:Int) (zps:Bool):Bool :=
  (cond zps
 true
 (P0 (w64 (zfV+(1:Int)))))
theorem zDq (hX0:zDp K zaa X0 P0 S0) (hs:zpu P0 zaa zfV zps=true) (hk:K (e64 (zpt S0 zaa zfV zps))):z64 K [1,0,1,0,0,1,1,0,0,1,1] [X0] ⟨[(0,zS enc_55 3 zaa),(5,zS enc_55 3 zaa),(6,zI (zaa.len:Int)),(7,zI zfV),(13,zB zps)],[],[]⟩:=zax (by kernel_rfl) (zc hs hk (fun hs hk=>hk) (fun hs hk=>(hX0 hs hk)))
def zg9 (zaa:(Sl Gate)) (S0:Int→Bool) (zaX:Int):Bool :=
  (cond (decide (zaX < (zaa.len : Int)))
 (zpt S0 zaa zaX (!(s87 (zaa.get zaX.toNat))))
 (s74 (zaa.len:Int) (1:Int) (24:Int)))
def zha (zaa:(Sl Gate)) (P0:Int→Bool) (zaX:Int):Bool :=
  (cond (decide (zaX < (zaa.len : Int)))
 (decide ((0≤zaX∧zaX < (zaa.len:Int))) &&
 (zpu P0 zaa zaX (!(s87 (zaa.get zaX.toNat)))))
 true)
def zhb (zaa:(Sl Gate)):Nat→Int→Bool:=lpO (fun _=>default) (zg9 zaa)
def zhc (zaa:(Sl Gate)):Nat→Int→Bool:=lpO (fun _=>false) (zha zaa)
def zuH (zaa:(Sl Gate)) (zaX:Int):Bool:=zhb zaa Fuel zaX
def zuI (zaa:(Sl Gate)) (zaX:Int):Bool:=zhc zaa Fuel zaX
theorem zDr (hs:zuI zaa zaX=true) (hk:K (e64 (zuH zaa zaX))):z64 K [1,0,1,0] [] (zBX zaa zaX) :=
  zl (fun X=>z64 K [1,0,1,0,0] [X]) (by kernel_rfl) fun X0 hX =>
  (show ∀ k, zDp K zaa X0 (zhc zaa k) (zhb zaa k) from zgh _ _ (zha zaa) (zg9 zaa) (zDp K zaa X0)
 (by intro _ hs;exact absurd hs Bool.false_ne_true)
 (by intro P0 S0 hX0 zaX hs hk;exact hX _ (zax (by kernel_rfl) (zc hs hk (fun hs hk=>(zaw hs fun hc hs=>And.intro hc (zDq hX0 hs hk))) (fun hs hk=>hk))))) _ hs hk
def s64 (zaa:(Sl Gate)):Bool :=
  (zuH zaa (0:Int))
def p64 (zaa:(Sl Gate)):Bool :=
  (zuI zaa (0:Int))
end
theorem q64 (zaa:(Sl Gate)) (K:List PA→Prop) (hs:p64 zaa=true) (hk:K (e64 (s64 zaa))):vcFun Try.prog G64 zDo 64 [.one (.sl zaa.len 3 (fun i=>enc_55 (zaa.get i)))] K :=
  zax (by kernel_rfl) (zDr hs hk)
def ztf : List PA → COut
  | [.one (.sl a0_n a0_s a0_g)]=>.det (IsE enc_55 3 a0_s a0_g∧p64 (⟨a0_n,zad a0_g⟩:(Sl Gate))=true) [.one (.bool (s64 (⟨a0_n,zad a0_g⟩:(Sl Gate))))]
  | _=>.no
theorem zHN:zah Try.prog 64:=⟨_,rfl,rfl,by kernel_rfl⟩
theorem zKc:Ok Try.prog 64 ztf:=zaz zKF zHN fun args K h=>by
  unfold ztf at h
  split at h
  · rename_i a0_n a0_s a0_g
    obtain ⟨⟨⟨rfl,a0_f,rfl⟩,hs⟩,hk⟩:=h
    try rw [zac a0_f] at hs
    try rw [zac a0_f] at hk
    exact ⟨(fun _ _=>[]),(fun _=>false),zDo,q64 (⟨a0_n,a0_f⟩:(Sl Gate)) K hs hk⟩
  · exact h.elim
abbrev zMx:Tabs:=Tabs.nil
theorem zHO:TabsOk Try.prog zMx:=TabsOk.nil
abbrev zNl:Ctrs:=csm zMx (fun _ _=>[]) (fun _=>false)
def zBY:Ann:=⟨12,[(0,zK [1,2] [2]),(1,zK [3] [])],
 [],
 [],
 [],[]⟩
abbrev zNm:=Bool
abbrev zNn (r:zNm):List PA:=[.one (.bool r)]
section
variable {K:List PA→Prop} {c0:list} {g:Gate}
def zDs (c0:list) (g:Gate):Bool :=
  (g.Z != (c0.Gates.get 0).Z)
def zDt (c0:list) (g:Gate):Bool :=
  (decide ((0≤(0:Int)∧(0:Int) < (c0.Gates.len:Int))) &&
 true)
end
theorem zNo (c0:list) (g:Gate) (K:List PA→Prop) (hs:zDt c0 g=true) (hk:K (zNn (zDs c0 g))):vcFun Try.prog zNl zBY 100 [.agg (enc_55 g),.one (.fp (zb0 c0) 0)] K :=
  zax (by kernel_rfl) (zaw hs fun hc hs=>And.intro hc hk)
def zuJ : List PA → COut
  | [.agg [.int .i64 a0_Z,.int .i64 a0_Low,.int .i64 a0_High],.one (.fp [.sl c0_Gates_n c0_Gates_s c0_Gates_g] 0)]=>.det (IsE enc_55 3 c0_Gates_s c0_Gates_g∧zDt (⟨(⟨c0_Gates_n,zad c0_Gates_g⟩:(Sl Gate))⟩:list) (⟨a0_Z,a0_Low,a0_High⟩:Gate)=true) [.one (.bool (zDs (⟨(⟨c0_Gates_n,zad c0_Gates_g⟩:(Sl Gate))⟩:list) (⟨a0_Z,a0_Low,a0_High⟩:Gate)))]
  | _=>.no
theorem zDu:zah Try.prog 100:=⟨_,rfl,rfl,by kernel_rfl⟩
theorem zKG:Ok Try.prog 100 zuJ:=zaz zHO zDu fun args K h=>by
  unfold zuJ at h
  split at h
  · rename_i a0_Z a0_Low a0_High c0_Gates_n c0_Gates_s c0_Gates_g
    obtain ⟨⟨⟨rfl,c0_Gates_f,rfl⟩,hs⟩,hk⟩:=h
    try rw [zac c0_Gates_f] at hs
    try rw [zac c0_Gates_f] at hk
    exact ⟨(fun _ _=>[]),(fun _=>false),zBY,zNo (⟨(⟨c0_Gates_n,c0_Gates_f⟩:(Sl Gate))⟩:list) (⟨a0_Z,a0_Low,a0_High⟩:Gate) K hs hk⟩
  · exact h.elim
abbrev zMy:Tabs:=(Tabs.nil.addF 74 zpr)
theorem zHP:TabsOk Try.prog zMy:=(TabsOk.nil.addF zHK)
abbrev zNp:Ctrs:=csm zMy (fun _ _=>[]) (fun _=>false)
def zBZ:Ann:=⟨24,[(0,zK [2,3] [2,3]),(1,zK [4] [])],
 [],
 [],
 [],[]⟩
abbrev zNq:=Bool
abbrev e118 (r:zNq):List PA:=[.one (.bool r)]
section
variable {K:List PA→Prop} {s:straight} {g:Gate}
def zDv (s:straight) (g:Gate):Bool :=
  (s74 (w64 (s.start+(w64 (s.slope * g.Z)))) (w64 (g.Low * s.den)) (w64 (g.High * s.den)))
end
theorem zNr (s:straight) (g:Gate) (K:List PA→Prop) (hk:K (e118 (zDv s g))):vcFun Try.prog zNp zBZ 118 [.agg (zaf s),.agg (enc_55 g)] K :=
  zax (by kernel_rfl) hk
def zuK : List PA → COut
  | [.agg [.int .i64 a0_slope,.int .i64 a0_start,.int .i64 a0_den],.agg [.int .i64 a1_Z,.int .i64 a1_Low,.int .i64 a1_High]]=>.tot [.one (.bool (zDv (⟨a0_slope,a0_start,a0_den⟩:straight) (⟨a1_Z,a1_Low,a1_High⟩:Gate)))]
  | _=>.no
theorem zDw:zah Try.prog 118:=⟨_,rfl,rfl,by kernel_rfl⟩
theorem zKH:Ok Try.prog 118 zuK:=zaz zHP zDw fun args K h=>by
  unfold zuK at h
  split at h
  · rename_i a0_slope a0_start a0_den a1_Z a1_Low a1_High
    have hk:=h
    exact ⟨(fun _ _=>[]),(fun _=>false),zBZ,zNr (⟨a0_slope,a0_start,a0_den⟩:straight) (⟨a1_Z,a1_Low,a1_High⟩:Gate) K hk⟩
  · exact h.elim
abbrev zMz:Tabs:=(Tabs.nil.addF 118 zuK)
theorem zHQ:TabsOk Try.prog zMz:=(TabsOk.nil.addF zKH)
abbrev zNs:Ctrs:=csm zMz (fun _ _=>[]) (fun _=>false)
def zB0:Ann:=⟨8,[(0,zK [1,2] [2]),(1,zK [3] [])],
 [],
 [],
 [],[]⟩
abbrev zNt:=Bool
abbrev e117 (r:zNt):List PA:=[.one (.bool r)]
section
variable {K:List PA→Prop} {c0:straight} {g:Gate}
def zDx (c0:straight) (g:Gate):Bool :=
  (!(zDv c0 g))
end
theorem zNu (c0:straight) (g:Gate) (K:List PA→Prop) (hk:K (e117 (zDx c0 g))):vcFun Try.prog zNs zB0 117 [.agg (enc_55 g),.one (.fp (zaf c0) 0)] K :=
  zax (by kernel_rfl) hk
def zuL : List PA → COut
  | [.agg [.int .i64 a0_Z,.int .i64 a0_Low,.int .i64 a0_High],.one (.fp [.int .i64 c0_slope,.int .i64 c0_start,.int .i64 c0_den] 0)]=>.tot [.one (.bool (zDx (⟨c0_slope,c0_start,c0_den⟩:straight) (⟨a0_Z,a0_Low,a0_High⟩:Gate)))]
  | _=>.no
theorem zDy:zah Try.prog 117:=⟨_,rfl,rfl,by kernel_rfl⟩
theorem zKI:Ok Try.prog 117 zuL:=zaz zHQ zDy fun args K h=>by
  unfold zuL at h
  split at h
  · rename_i a0_Z a0_Low a0_High c0_slope c0_start c0_den
    have hk:=h
    exact ⟨(fun _ _=>[]),(fun _=>false),zB0,zNu (⟨c0_slope,c0_start,c0_den⟩:straight) (⟨a0_Z,a0_Low,a0_High⟩:Gate) K hk⟩
  · exact h.elim
abbrev zMA:Tabs:=Tabs.nil
theorem zHR:TabsOk Try.prog zMA:=TabsOk.nil
abbrev zNv:Ctrs:=csm zMA (fun _ _=>[]) (fun _=>false)
def zB1:Ann:=⟨18,[(0,zK [1,2] [2]),(1,zK [3] [])],
 [],
 [],
 [],[]⟩
abbrev zNw:=Bool
abbrev zNx (r:zNw):List PA:=[.one (.bool r)]
section
variable {K:List PA→Prop} {c0:straight} {g:Gate}
def zKd (c0:straight) (g:Gate):Bool :=
  ((w64 (c0.start+(w64 (c0.slope * g.Z)))) == (w64 (g.Low * c0.den)))
end
theorem zNy (c0:straight) (g:Gate) (K:List PA→Prop) (hk:K (zNx (zKd c0 g))):vcFun Try.prog zNv zB1 123 [.agg (enc_55 g),.one (.fp (zaf c0) 0)] K :=
  zax (by kernel_rfl) hk
def zuM : List PA → COut
  | [.agg [.int .i64 a0_Z,.int .i64 a0_Low,.int .i64 a0_High],.one (.fp [.int .i64 c0_slope,.int .i64 c0_start,.int .i64 c0_den] 0)]=>.tot [.one (.bool (zKd (⟨c0_slope,c0_start,c0_den⟩:straight) (⟨a0_Z,a0_Low,a0_High⟩:Gate)))]
  | _=>.no
theorem zDz:zah Try.prog 123:=⟨_,rfl,rfl,by kernel_rfl⟩
theorem zKJ:Ok Try.prog 123 zuM:=zaz zHR zDz fun args K h=>by
  unfold zuM at h
  split at h
  · rename_i a0_Z a0_Low a0_High c0_slope c0_start c0_den
    have hk:=h
    exact ⟨(fun _ _=>[]),(fun _=>false),zB1,zNy (⟨c0_slope,c0_start,c0_den⟩:straight) (⟨a0_Z,a0_Low,a0_High⟩:Gate) K hk⟩
  · exact h.elim
abbrev zKe:Tabs:=(((Tabs.nil.addF 100 zuJ).addF 117 zuL).addF 123 zuM)
theorem zHS:TabsOk Try.prog zKe:=(((TabsOk.nil.addF zKG).addF zKI).addF zKJ)
abbrev zMB:Ctrs:=csm zKe (fun _ _=>[]) (fun _=>false)
def zuN:Ann:=⟨19,[(0,zK [0,1] []),(1,zK [0,1,7,8] []),(2,zK [0,1,7,8,9] []),(3,zK [0,1,5,7,8] []),(4,zK [0,1,5,7,8,16] []),(5,zK [4] []),(6,zK [0,1,7,8] []),(7,zK [4] [])],
 [(2,zK [0,1,7,8] [])],
 [(5,zK [0,1,5,7,8,16] [])],
 [],[]⟩
abbrev zNz:=Int
abbrev e119 (r:zNz):List PA:=[.one (.int .i64 r)]
@[irreducible] def z119:=ptF Try.prog zMB zuN Try.f119
def zuO (c0:list) (sv0:(Sl Gate)) (zaX:Int) (zbL:Int) (zc3:Nat→List PV):St:=⟨[(0,zP (.sl sv0.len 3 zc3)),(1,zP (.fn 100 [] [.fp (zb0 c0) 0])),(7,zI zaX),(8,zI zbL)],[],[]⟩
abbrev zuP (K:List PA→Prop) (c0:list) (X:St→Prop) (P:(Sl Gate)→Int→Int→Bool) (S:(Sl Gate)→Int→Int→Int):Prop:=∀ ⦃sv0:(Sl Gate)⦄ ⦃zaX:Int⦄ ⦃zbL:Int⦄ ⦃zc3:Nat→List PV⦄,P sv0 zaX zbL=true→K (e119 (S sv0 zaX zbL))→zc3=zg enc_55 sv0→X (zuO c0 sv0 zaX zbL zc3)
section
variable {K:List PA→Prop} {c0:list} {s:(Sl Gate)} {sv0:(Sl Gate)} {zaX:Int} {zbL:Int} {zc3:Nat→List PV} {X0:St→Prop} {P0:(Sl Gate)→Int→Int→Bool} {S0:(Sl Gate)→Int→Int→Int} {sv1:(Sl Gate)} {iv1:Int} {zfV:Int} {zjo:Int} {zdB:Bool} {zn8:Nat→List PV}
def zme (S0:(Sl Gate)→Int→Int→Int) (c0:list) (sv1:(Sl Gate)) (iv1:Int) (zfV:Int) (zjo:Int) (zdB:Bool):Int :=
  (cond zdB
 iv1
 (S0 sv1 zfV (w64 (zjo+(1:Int)))))
def zmf (P0:(Sl Gate)→Int→Int→Bool) (c0:list) (sv1:(Sl Gate)) (iv1:Int) (zfV:Int) (zjo:Int) (zdB:Bool):Bool :=
  (cond zdB
 true
 (P0 sv1 zfV (w64 (zjo+(1:Int)))))
theorem zAz (hX0:zuP K c0 X0 P0 S0) (hs:zmf P0 c0 sv1 iv1 zfV zjo zdB=true) (hk:K (e119 (zme S0 c0 sv1 iv1 zfV zjo zdB))) (zuQ:zn8=zg enc_55 sv1):z119 K [1,0,1,0,0,1,1,0,0,1,1] [X0] ⟨[(0,zP (.sl sv1.len 3 zn8)),(1,zP (.fn 100 [] [.fp (zb0 c0) 0])),(5,zI iv1),(7,zI zfV),(8,zI zjo),(16,zB zdB)],[],[]⟩:=by subst zuQ;exact zax (by kernel_rfl) (zc hs hk (fun hs hk=>hk) (fun hs hk=>(hX0 hs hk rfl)))
def zin (c0:list) (S0:(Sl Gate)→Int→Int→Int) (sv0:(Sl Gate)) (zaX:Int) (zbL:Int):Int :=
  (cond (decide (zbL < zaX))
 (zme S0 c0 sv0 zbL zaX zbL (zDs c0 (sv0.get zbL.toNat)))
 (-1:Int))
def zio (c0:list) (P0:(Sl Gate)→Int→Int→Bool) (sv0:(Sl Gate)) (zaX:Int) (zbL:Int):Bool :=
  (cond (decide (zbL < zaX))
 (decide ((0≤zbL∧zbL < (sv0.len:Int))) &&
 (decide ((zDt c0 (sv0.get zbL.toNat)=true)) &&
 (zmf P0 c0 sv0 zbL zaX zbL (zDs c0 (sv0.get zbL.toNat)))))
 true)
def ziq (c0:list):Nat→(Sl Gate)→Int→Int→Int:=lpO (fun _ _ _=>default) (zin c0)
def zir (c0:list):Nat→(Sl Gate)→Int→Int→Bool:=lpO (fun _ _ _=>false) (zio c0)
def zrT (c0:list) (sv0:(Sl Gate)) (zaX:Int) (zbL:Int):Int:=ziq c0 Fuel sv0 zaX zbL
def zrU (c0:list) (sv0:(Sl Gate)) (zaX:Int) (zbL:Int):Bool:=zir c0 Fuel sv0 zaX zbL
theorem zAA (hs:zrU c0 sv0 zaX zbL=true) (hk:K (e119 (zrT c0 sv0 zaX zbL))) (zjq:zc3=zg enc_55 sv0):z119 K [1,0,1,0] [] (zuO c0 sv0 zaX zbL zc3) :=
  zl (fun X=>z119 K [1,0,1,0,0] [X]) (by kernel_rfl) fun X0 hX =>
  (show ∀ k, zuP K c0 X0 (zir c0 k) (ziq c0 k) from zgh _ _ (zio c0) (zin c0) (zuP K c0 X0)
 (by intro _ _ _ _ hs;exact absurd hs Bool.false_ne_true)
 (by intro P0 S0 hX0 sv0 zaX zbL zc3 hs hk zjq;subst zjq;exact hX _ (zax (by kernel_rfl) (zc hs hk (fun hs hk=>(zaw hs fun hc hs=>And.intro hc (zaw hs fun hc hs=>And.intro (And.intro (zE enc_55 3 c0.Gates.get) hc) (zAz hX0 hs hk rfl)))) (fun hs hk=>hk))))) _ hs hk zjq
def zHT (c0:list) (s:(Sl Gate)):Int :=
  (zrT c0 s (s.len:Int) (0:Int))
def zHU (c0:list) (s:(Sl Gate)):Bool :=
  (zrU c0 s (s.len:Int) (0:Int))
end
theorem zNA (c0:list) (s:(Sl Gate)) (K:List PA→Prop) (hs:zHU c0 s=true) (hk:K (e119 (zHT c0 s))):vcFun Try.prog zMB zuN 119 [.one (.sl s.len 3 (fun i=>enc_55 (s.get i))),.one (.fn 100 [] [.fp (zb0 c0) 0])] K :=
  zax (by kernel_rfl) (zAA hs hk rfl)
abbrev zHV:Ctrs:=csm zKe (fun _ _=>[]) (fun _=>false)
def zpv:Ann:=⟨19,[(0,zK [0,1] []),(1,zK [0,1,7,8] []),(2,zK [0,1,7,8,9] []),(3,zK [0,1,5,7,8] []),(4,zK [0,1,5,7,8,16] []),(5,zK [4] []),(6,zK [0,1,7,8] []),(7,zK [4] [])],
 [(2,zK [0,1,7,8] [])],
 [(5,zK [0,1,5,7,8,16] [])],
 [],[]⟩
abbrev zKK:=Int
abbrev zAB (r:zKK):List PA:=[.one (.int .i64 r)]
@[irreducible] def z119a:=ptF Try.prog zHV zpv Try.f119
def zrV (c0:straight) (sv0:(Sl Gate)) (zaX:Int) (zbL:Int) (zc3:Nat→List PV):St:=⟨[(0,zP (.sl sv0.len 3 zc3)),(1,zP (.fn 117 [] [.fp (zaf c0) 0])),(7,zI zaX),(8,zI zbL)],[],[]⟩
abbrev zpw (K:List PA→Prop) (c0:straight) (X:St→Prop) (P:(Sl Gate)→Int→Int→Bool) (S:(Sl Gate)→Int→Int→Int):Prop:=∀ ⦃sv0:(Sl Gate)⦄ ⦃zaX:Int⦄ ⦃zbL:Int⦄ ⦃zc3:Nat→List PV⦄,P sv0 zaX zbL=true→K (zAB (S sv0 zaX zbL))→zc3=zg enc_55 sv0→X (zrV c0 sv0 zaX zbL zc3)
section
variable {K:List PA→Prop} {c0:straight} {s:(Sl Gate)} {sv0:(Sl Gate)} {zaX:Int} {zbL:Int} {zc3:Nat→List PV} {X0:St→Prop} {P0:(Sl Gate)→Int→Int→Bool} {S0:(Sl Gate)→Int→Int→Int} {sv1:(Sl Gate)} {iv1:Int} {zfV:Int} {zjo:Int} {zdB:Bool} {zn8:Nat→List PV}
def zjr (S0:(Sl Gate)→Int→Int→Int) (c0:straight) (sv1:(Sl Gate)) (iv1:Int) (zfV:Int) (zjo:Int) (zdB:Bool):Int :=
  (cond zdB
 iv1
 (S0 sv1 zfV (w64 (zjo+(1:Int)))))
def zjs (P0:(Sl Gate)→Int→Int→Bool) (c0:straight) (sv1:(Sl Gate)) (iv1:Int) (zfV:Int) (zjo:Int) (zdB:Bool):Bool :=
  (cond zdB
 true
 (P0 sv1 zfV (w64 (zjo+(1:Int)))))
theorem zuR (hX0:zpw K c0 X0 P0 S0) (hs:zjs P0 c0 sv1 iv1 zfV zjo zdB=true) (hk:K (zAB (zjr S0 c0 sv1 iv1 zfV zjo zdB))) (zuQ:zn8=zg enc_55 sv1):z119a K [1,0,1,0,0,1,1,0,0,1,1] [X0] ⟨[(0,zP (.sl sv1.len 3 zn8)),(1,zP (.fn 117 [] [.fp (zaf c0) 0])),(5,zI iv1),(7,zI zfV),(8,zI zjo),(16,zB zdB)],[],[]⟩:=by subst zuQ;exact zax (by kernel_rfl) (zc hs hk (fun hs hk=>hk) (fun hs hk=>(hX0 hs hk rfl)))
def zgE (c0:straight) (S0:(Sl Gate)→Int→Int→Int) (sv0:(Sl Gate)) (zaX:Int) (zbL:Int):Int :=
  (cond (decide (zbL < zaX))
 (zjr S0 c0 sv0 zbL zaX zbL (zDx c0 (sv0.get zbL.toNat)))
 (-1:Int))
def zgF (c0:straight) (P0:(Sl Gate)→Int→Int→Bool) (sv0:(Sl Gate)) (zaX:Int) (zbL:Int):Bool :=
  (cond (decide (zbL < zaX))
 (decide ((0≤zbL∧zbL < (sv0.len:Int))) &&
 (zjs P0 c0 sv0 zbL zaX zbL (zDx c0 (sv0.get zbL.toNat))))
 true)
def zgG (c0:straight):Nat→(Sl Gate)→Int→Int→Int:=lpO (fun _ _ _=>default) (zgE c0)
def zgH (c0:straight):Nat→(Sl Gate)→Int→Int→Bool:=lpO (fun _ _ _=>false) (zgF c0)
def zn9 (c0:straight) (sv0:(Sl Gate)) (zaX:Int) (zbL:Int):Int:=zgG c0 Fuel sv0 zaX zbL
def zoa (c0:straight) (sv0:(Sl Gate)) (zaX:Int) (zbL:Int):Bool:=zgH c0 Fuel sv0 zaX zbL
theorem zuS (hs:zoa c0 sv0 zaX zbL=true) (hk:K (zAB (zn9 c0 sv0 zaX zbL))) (zjq:zc3=zg enc_55 sv0):z119a K [1,0,1,0] [] (zrV c0 sv0 zaX zbL zc3) :=
  zl (fun X=>z119a K [1,0,1,0,0] [X]) (by kernel_rfl) fun X0 hX =>
  (show ∀ k, zpw K c0 X0 (zgH c0 k) (zgG c0 k) from zgh _ _ (zgF c0) (zgE c0) (zpw K c0 X0)
 (by intro _ _ _ _ hs;exact absurd hs Bool.false_ne_true)
 (by intro P0 S0 hX0 sv0 zaX zbL zc3 hs hk zjq;subst zjq;exact hX _ (zax (by kernel_rfl) (zc hs hk (fun hs hk=>(zaw hs fun hc hs=>And.intro hc (zuR hX0 hs hk rfl))) (fun hs hk=>hk))))) _ hs hk zjq
def zuT (c0:straight) (s:(Sl Gate)):Int :=
  (zn9 c0 s (s.len:Int) (0:Int))
def zuU (c0:straight) (s:(Sl Gate)):Bool :=
  (zoa c0 s (s.len:Int) (0:Int))
end
theorem zKL (c0:straight) (s:(Sl Gate)) (K:List PA→Prop) (hs:zuU c0 s=true) (hk:K (zAB (zuT c0 s))):vcFun Try.prog zHV zpv 119 [.one (.sl s.len 3 (fun i=>enc_55 (s.get i))),.one (.fn 117 [] [.fp (zaf c0) 0])] K :=
  zax (by kernel_rfl) (zuS hs hk rfl)
abbrev zHW:Ctrs:=csm zKe (fun _ _=>[]) (fun _=>false)
def zpx:Ann:=⟨19,[(0,zK [0,1] []),(1,zK [0,1,7,8] []),(2,zK [0,1,7,8,9] []),(3,zK [0,1,5,7,8] []),(4,zK [0,1,5,7,8,16] []),(5,zK [4] []),(6,zK [0,1,7,8] []),(7,zK [4] [])],
 [(2,zK [0,1,7,8] [])],
 [(5,zK [0,1,5,7,8,16] [])],
 [],[]⟩
abbrev zKM:=Int
abbrev zAC (r:zKM):List PA:=[.one (.int .i64 r)]
@[irreducible] def z119b:=ptF Try.prog zHW zpx Try.f119
def zrW (c0:straight) (sv0:(Sl Gate)) (zaX:Int) (zbL:Int) (zc3:Nat→List PV):St:=⟨[(0,zP (.sl sv0.len 3 zc3)),(1,zP (.fn 123 [] [.fp (zaf c0) 0])),(7,zI zaX),(8,zI zbL)],[],[]⟩
abbrev zpy (K:List PA→Prop) (c0:straight) (X:St→Prop) (P:(Sl Gate)→Int→Int→Bool) (S:(Sl Gate)→Int→Int→Int):Prop:=∀ ⦃sv0:(Sl Gate)⦄ ⦃zaX:Int⦄ ⦃zbL:Int⦄ ⦃zc3:Nat→List PV⦄,P sv0 zaX zbL=true→K (zAC (S sv0 zaX zbL))→zc3=zg enc_55 sv0→X (zrW c0 sv0 zaX zbL zc3)
section
variable {K:List PA→Prop} {c0:straight} {s:(Sl Gate)} {sv0:(Sl Gate)} {zaX:Int} {zbL:Int} {zc3:Nat→List PV} {X0:St→Prop} {P0:(Sl Gate)→Int→Int→Bool} {S0:(Sl Gate)→Int→Int→Int} {sv1:(Sl Gate)} {iv1:Int} {zfV:Int} {zjo:Int} {zdB:Bool} {zn8:Nat→List PV}
def zob (S0:(Sl Gate)→Int→Int→Int) (c0:straight) (sv1:(Sl Gate)) (iv1:Int) (zfV:Int) (zjo:Int) (zdB:Bool):Int :=
  (cond zdB
 iv1
 (S0 sv1 zfV (w64 (zjo+(1:Int)))))
def zoc (P0:(Sl Gate)→Int→Int→Bool) (c0:straight) (sv1:(Sl Gate)) (iv1:Int) (zfV:Int) (zjo:Int) (zdB:Bool):Bool :=
  (cond zdB
 true
 (P0 sv1 zfV (w64 (zjo+(1:Int)))))
theorem zuV (hX0:zpy K c0 X0 P0 S0) (hs:zoc P0 c0 sv1 iv1 zfV zjo zdB=true) (hk:K (zAC (zob S0 c0 sv1 iv1 zfV zjo zdB))) (zuQ:zn8=zg enc_55 sv1):z119b K [1,0,1,0,0,1,1,0,0,1,1] [X0] ⟨[(0,zP (.sl sv1.len 3 zn8)),(1,zP (.fn 123 [] [.fp (zaf c0) 0])),(5,zI iv1),(7,zI zfV),(8,zI zjo),(16,zB zdB)],[],[]⟩:=by subst zuQ;exact zax (by kernel_rfl) (zc hs hk (fun hs hk=>hk) (fun hs hk=>(hX0 hs hk rfl)))
def zod (c0:straight) (S0:(Sl Gate)→Int→Int→Int) (sv0:(Sl Gate)) (zaX:Int) (zbL:Int):Int :=
  (cond (decide (zbL < zaX))
 (zob S0 c0 sv0 zbL zaX zbL (zKd c0 (sv0.get zbL.toNat)))
 (-1:Int))
def zoe (c0:straight) (P0:(Sl Gate)→Int→Int→Bool) (sv0:(Sl Gate)) (zaX:Int) (zbL:Int):Bool :=
  (cond (decide (zbL < zaX))
 (decide ((0≤zbL∧zbL < (sv0.len:Int))) &&
 (zoc P0 c0 sv0 zbL zaX zbL (zKd c0 (sv0.get zbL.toNat))))
 true)
def zof (c0:straight):Nat→(Sl Gate)→Int→Int→Int:=lpO (fun _ _ _=>default) (zod c0)
def zog (c0:straight):Nat→(Sl Gate)→Int→Int→Bool:=lpO (fun _ _ _=>false) (zoe c0)
def zoh (c0:straight) (sv0:(Sl Gate)) (zaX:Int) (zbL:Int):Int:=zof c0 Fuel sv0 zaX zbL
def zoi (c0:straight) (sv0:(Sl Gate)) (zaX:Int) (zbL:Int):Bool:=zog c0 Fuel sv0 zaX zbL
theorem zuW (hs:zoi c0 sv0 zaX zbL=true) (hk:K (zAC (zoh c0 sv0 zaX zbL))) (zjq:zc3=zg enc_55 sv0):z119b K [1,0,1,0] [] (zrW c0 sv0 zaX zbL zc3) :=
  zl (fun X=>z119b K [1,0,1,0,0] [X]) (by kernel_rfl) fun X0 hX =>
  (show ∀ k, zpy K c0 X0 (zog c0 k) (zof c0 k) from zgh _ _ (zoe c0) (zod c0) (zpy K c0 X0)
 (by intro _ _ _ _ hs;exact absurd hs Bool.false_ne_true)
 (by intro P0 S0 hX0 sv0 zaX zbL zc3 hs hk zjq;subst zjq;exact hX _ (zax (by kernel_rfl) (zc hs hk (fun hs hk=>(zaw hs fun hc hs=>And.intro hc (zuV hX0 hs hk rfl))) (fun hs hk=>hk))))) _ hs hk zjq
def zDA (c0:straight) (s:(Sl Gate)):Int :=
  (zoh c0 s (s.len:Int) (0:Int))
def zDB (c0:straight) (s:(Sl Gate)):Bool :=
  (zoi c0 s (s.len:Int) (0:Int))
end
theorem zKN (c0:straight) (s:(Sl Gate)) (K:List PA→Prop) (hs:zDB c0 s=true) (hk:K (zAC (zDA c0 s))):vcFun Try.prog zHW zpx 119 [.one (.sl s.len 3 (fun i=>enc_55 (s.get i))),.one (.fn 123 [] [.fp (zaf c0) 0])] K :=
  zax (by kernel_rfl) (zuW hs hk rfl)
def zuX : List PA → COut
  | [.one (.sl a0_n a0_s a0_g),.one (.fn 100 [] [.fp [.sl c0_Gates_n c0_Gates_s c0_Gates_g] 0])]=>.det (IsE enc_55 3 a0_s a0_g∧IsE enc_55 3 c0_Gates_s c0_Gates_g∧zHU (⟨(⟨c0_Gates_n,zad c0_Gates_g⟩:(Sl Gate))⟩:list) (⟨a0_n,zad a0_g⟩:(Sl Gate))=true) [.one (.int .i64 (zHT (⟨(⟨c0_Gates_n,zad c0_Gates_g⟩:(Sl Gate))⟩:list) (⟨a0_n,zad a0_g⟩:(Sl Gate))))]
  | [.one (.sl a0_n a0_s a0_g),.one (.fn 117 [] [.fp [.int .i64 c0_slope,.int .i64 c0_start,.int .i64 c0_den] 0])]=>.det (IsE enc_55 3 a0_s a0_g∧zuU (⟨c0_slope,c0_start,c0_den⟩:straight) (⟨a0_n,zad a0_g⟩:(Sl Gate))=true) [.one (.int .i64 (zuT (⟨c0_slope,c0_start,c0_den⟩:straight) (⟨a0_n,zad a0_g⟩:(Sl Gate))))]
  | [.one (.sl a0_n a0_s a0_g),.one (.fn 123 [] [.fp [.int .i64 c0_slope,.int .i64 c0_start,.int .i64 c0_den] 0])]=>.det (IsE enc_55 3 a0_s a0_g∧zDB (⟨c0_slope,c0_start,c0_den⟩:straight) (⟨a0_n,zad a0_g⟩:(Sl Gate))=true) [.one (.int .i64 (zDA (⟨c0_slope,c0_start,c0_den⟩:straight) (⟨a0_n,zad a0_g⟩:(Sl Gate))))]
  | _=>.no
theorem zDC:zah Try.prog 119:=⟨_,rfl,rfl,by kernel_rfl⟩
theorem zKO:Ok Try.prog 119 zuX:=zaz zHS zDC fun args K h=>by
  unfold zuX at h
  split at h
  · rename_i a0_n a0_s a0_g c0_Gates_n c0_Gates_s c0_Gates_g
    obtain ⟨⟨⟨rfl,a0_f,rfl⟩,⟨rfl,c0_Gates_f,rfl⟩,hs⟩,hk⟩:=h
    try rw [zac a0_f] at hs
    try rw [zac a0_f] at hk
    try rw [zac c0_Gates_f] at hs
    try rw [zac c0_Gates_f] at hk
    exact ⟨(fun _ _=>[]),(fun _=>false),zuN,zNA (⟨(⟨c0_Gates_n,c0_Gates_f⟩:(Sl Gate))⟩:list) (⟨a0_n,a0_f⟩:(Sl Gate)) K hs hk⟩
  · rename_i a0_n a0_s a0_g c0_slope c0_start c0_den
    obtain ⟨⟨⟨rfl,a0_f,rfl⟩,hs⟩,hk⟩:=h
    try rw [zac a0_f] at hs
    try rw [zac a0_f] at hk
    exact ⟨(fun _ _=>[]),(fun _=>false),zpv,zKL (⟨c0_slope,c0_start,c0_den⟩:straight) (⟨a0_n,a0_f⟩:(Sl Gate)) K hs hk⟩
  · rename_i a0_n a0_s a0_g c0_slope c0_start c0_den
    obtain ⟨⟨⟨rfl,a0_f,rfl⟩,hs⟩,hk⟩:=h
    try rw [zac a0_f] at hs
    try rw [zac a0_f] at hk
    exact ⟨(fun _ _=>[]),(fun _=>false),zpx,zKN (⟨c0_slope,c0_start,c0_den⟩:straight) (⟨a0_n,a0_f⟩:(Sl Gate)) K hs hk⟩
  · exact h.elim
abbrev T99:Tabs:=(Tabs.nil.addF 119 zuX)
theorem zKP:TabsOk Try.prog T99:=(TabsOk.nil.addF zKO)
abbrev G99:Ctrs:=csm T99 (fun _ _=>[]) (fun _=>false)
def zHX:Ann:=⟨9,[(0,zK [0,1] []),(1,zK [4] [])],
 [],
 [],
 [],[]⟩
abbrev R99:=Bool
abbrev e99 (r:R99):List PA:=[.one (.bool r)]
section
variable {K:List PA→Prop} {c0:list} {s:(Sl Gate)}
def s99 (c0:list) (s:(Sl Gate)):Bool :=
  (decide ((zHT c0 s) ≥ (0:Int)))
def p99 (c0:list) (s:(Sl Gate)):Bool :=
  (decide ((zHU c0 s=true)) &&
 true)
end
theorem q99 (c0:list) (s:(Sl Gate)) (K:List PA→Prop) (hs:p99 c0 s=true) (hk:K (e99 (s99 c0 s))):vcFun Try.prog G99 zHX 99 [.one (.sl s.len 3 (fun i=>enc_55 (s.get i))),.one (.fn 100 [] [.fp (zb0 c0) 0])] K :=
  zax (by kernel_rfl) (zaw hs fun hc hs=>And.intro (And.intro (zE enc_55 3 s.get) (And.intro (zE enc_55 3 c0.Gates.get) hc)) hk)
abbrev zNB:Ctrs:=csm T99 (fun _ _=>[]) (fun _=>false)
def zB2:Ann:=⟨9,[(0,zK [0,1] []),(1,zK [4] [])],
 [],
 [],
 [],[]⟩
abbrev zNC:=Bool
abbrev zND (r:zNC):List PA:=[.one (.bool r)]
section
variable {K:List PA→Prop} {c0:straight} {s:(Sl Gate)}
def zKf (c0:straight) (s:(Sl Gate)):Bool :=
  (decide ((zuT c0 s) ≥ (0:Int)))
def zKg (c0:straight) (s:(Sl Gate)):Bool :=
  (decide ((zuU c0 s=true)) &&
 true)
end
theorem zNE (c0:straight) (s:(Sl Gate)) (K:List PA→Prop) (hs:zKg c0 s=true) (hk:K (zND (zKf c0 s))):vcFun Try.prog zNB zB2 99 [.one (.sl s.len 3 (fun i=>enc_55 (s.get i))),.one (.fn 117 [] [.fp (zaf c0) 0])] K :=
  zax (by kernel_rfl) (zaw hs fun hc hs=>And.intro (And.intro (zE enc_55 3 s.get) hc) hk)
abbrev zNF:Ctrs:=csm T99 (fun _ _=>[]) (fun _=>false)
def zB3:Ann:=⟨9,[(0,zK [0,1] []),(1,zK [4] [])],
 [],
 [],
 [],[]⟩
abbrev zNG:=Bool
abbrev zNH (r:zNG):List PA:=[.one (.bool r)]
section
variable {K:List PA→Prop} {c0:straight} {s:(Sl Gate)}
def zKQ (c0:straight) (s:(Sl Gate)):Bool :=
  (decide ((zDA c0 s) ≥ (0:Int)))
def zKR (c0:straight) (s:(Sl Gate)):Bool :=
  (decide ((zDB c0 s=true)) &&
 true)
end
theorem zNI (c0:straight) (s:(Sl Gate)) (K:List PA→Prop) (hs:zKR c0 s=true) (hk:K (zNH (zKQ c0 s))):vcFun Try.prog zNF zB3 99 [.one (.sl s.len 3 (fun i=>enc_55 (s.get i))),.one (.fn 123 [] [.fp (zaf c0) 0])] K :=
  zax (by kernel_rfl) (zaw hs fun hc hs=>And.intro (And.intro (zE enc_55 3 s.get) hc) hk)
def zuY : List PA → COut
  | [.one (.sl a0_n a0_s a0_g),.one (.fn 100 [] [.fp [.sl c0_Gates_n c0_Gates_s c0_Gates_g] 0])]=>.det (IsE enc_55 3 a0_s a0_g∧IsE enc_55 3 c0_Gates_s c0_Gates_g∧p99 (⟨(⟨c0_Gates_n,zad c0_Gates_g⟩:(Sl Gate))⟩:list) (⟨a0_n,zad a0_g⟩:(Sl Gate))=true) [.one (.bool (s99 (⟨(⟨c0_Gates_n,zad c0_Gates_g⟩:(Sl Gate))⟩:list) (⟨a0_n,zad a0_g⟩:(Sl Gate))))]
  | [.one (.sl a0_n a0_s a0_g),.one (.fn 117 [] [.fp [.int .i64 c0_slope,.int .i64 c0_start,.int .i64 c0_den] 0])]=>.det (IsE enc_55 3 a0_s a0_g∧zKg (⟨c0_slope,c0_start,c0_den⟩:straight) (⟨a0_n,zad a0_g⟩:(Sl Gate))=true) [.one (.bool (zKf (⟨c0_slope,c0_start,c0_den⟩:straight) (⟨a0_n,zad a0_g⟩:(Sl Gate))))]
  | [.one (.sl a0_n a0_s a0_g),.one (.fn 123 [] [.fp [.int .i64 c0_slope,.int .i64 c0_start,.int .i64 c0_den] 0])]=>.det (IsE enc_55 3 a0_s a0_g∧zKR (⟨c0_slope,c0_start,c0_den⟩:straight) (⟨a0_n,zad a0_g⟩:(Sl Gate))=true) [.one (.bool (zKQ (⟨c0_slope,c0_start,c0_den⟩:straight) (⟨a0_n,zad a0_g⟩:(Sl Gate))))]
  | _=>.no
theorem zHY:zah Try.prog 99:=⟨_,rfl,rfl,by kernel_rfl⟩
theorem zKS:Ok Try.prog 99 zuY:=zaz zKP zHY fun args K h=>by
  unfold zuY at h
  split at h
  · rename_i a0_n a0_s a0_g c0_Gates_n c0_Gates_s c0_Gates_g
    obtain ⟨⟨⟨rfl,a0_f,rfl⟩,⟨rfl,c0_Gates_f,rfl⟩,hs⟩,hk⟩:=h
    try rw [zac a0_f] at hs
    try rw [zac a0_f] at hk
    try rw [zac c0_Gates_f] at hs
    try rw [zac c0_Gates_f] at hk
    exact ⟨(fun _ _=>[]),(fun _=>false),zHX,q99 (⟨(⟨c0_Gates_n,c0_Gates_f⟩:(Sl Gate))⟩:list) (⟨a0_n,a0_f⟩:(Sl Gate)) K hs hk⟩
  · rename_i a0_n a0_s a0_g c0_slope c0_start c0_den
    obtain ⟨⟨⟨rfl,a0_f,rfl⟩,hs⟩,hk⟩:=h
    try rw [zac a0_f] at hs
    try rw [zac a0_f] at hk
    exact ⟨(fun _ _=>[]),(fun _=>false),zB2,zNE (⟨c0_slope,c0_start,c0_den⟩:straight) (⟨a0_n,a0_f⟩:(Sl Gate)) K hs hk⟩
  · rename_i a0_n a0_s a0_g c0_slope c0_start c0_den
    obtain ⟨⟨⟨rfl,a0_f,rfl⟩,hs⟩,hk⟩:=h
    try rw [zac a0_f] at hs
    try rw [zac a0_f] at hk
    exact ⟨(fun _ _=>[]),(fun _=>false),zB3,zNI (⟨c0_slope,c0_start,c0_den⟩:straight) (⟨a0_n,a0_f⟩:(Sl Gate)) K hs hk⟩
  · exact h.elim
abbrev T67:Tabs:=(Tabs.nil.addF 99 zuY)
theorem zKT:TabsOk Try.prog T67:=(TabsOk.nil.addF zKS)
abbrev G67:Ctrs:=csm T67 (fun _ _=>[]) (fun _=>false)
def zHZ:Ann:=⟨8,[(0,zK [1] [1]),(1,zK [2] [])],
 [],
 [],
 [],[]⟩
abbrev R67:=Bool
abbrev e67 (r:R67):List PA:=[.one (.bool r)]
section
variable {K:List PA→Prop} {l_a0:list}
def s67 (l_a0:list):Bool :=
  (!(s99 l_a0 l_a0.Gates))
def p67 (l_a0:list):Bool :=
  (decide ((p99 l_a0 l_a0.Gates=true)) &&
 true)
end
theorem q67 (l_a0:list) (K:List PA→Prop) (hs:p67 l_a0=true) (hk:K (e67 (s67 l_a0))):vcFun Try.prog G67 zHZ 67 [.agg (zb0 l_a0)] K :=
  zax (by kernel_rfl) (zaw hs fun hc hs=>And.intro (And.intro (zE enc_55 3 l_a0.Gates.get) (And.intro (zE enc_55 3 l_a0.Gates.get) hc)) hk)
def zoj : List PA → COut
  | [.agg [.sl a0_Gates_n a0_Gates_s a0_Gates_g]]=>.det (IsE enc_55 3 a0_Gates_s a0_Gates_g∧p67 (⟨(⟨a0_Gates_n,zad a0_Gates_g⟩:(Sl Gate))⟩:list)=true) [.one (.bool (s67 (⟨(⟨a0_Gates_n,zad a0_Gates_g⟩:(Sl Gate))⟩:list)))]
  | _=>.no
theorem zH0:zah Try.prog 67:=⟨_,rfl,rfl,by kernel_rfl⟩
theorem zH1:Ok Try.prog 67 zoj:=zaz zKT zH0 fun args K h=>by
  unfold zoj at h
  split at h
  · rename_i a0_Gates_n a0_Gates_s a0_Gates_g
    obtain ⟨⟨⟨rfl,a0_Gates_f,rfl⟩,hs⟩,hk⟩:=h
    try rw [zac a0_Gates_f] at hs
    try rw [zac a0_Gates_f] at hk
    exact ⟨(fun _ _=>[]),(fun _=>false),zHZ,q67 (⟨(⟨a0_Gates_n,a0_Gates_f⟩:(Sl Gate))⟩:list) K hs hk⟩
  · exact h.elim
abbrev zMC:Tabs:=Tabs.nil
theorem zH2:TabsOk Try.prog zMC:=TabsOk.nil
abbrev zMD:Ctrs:=csm zMC (fun _ _=>[]) (fun _=>false)
def zuZ:Ann:=⟨12,[(0,zK [0,1] []),(1,zK [0,1,6] []),(2,zK [0,1] []),(3,zK [4] [])],
 [(1,zK [0,1] [])],
 [],
 [],[]⟩
abbrev zNJ:=Int
abbrev zKU (r:zNJ):List PA:=[.one (.int .i64 r)]
@[irreducible] def z114:=ptF Try.prog zMD zuZ Try.f114
def zu0 (av0:Int) (bv0:Int):St:=⟨[(0,zI av0),(1,zI bv0)],[],[]⟩
abbrev zB4 (K:List PA→Prop) (X:St→Prop) (P:Int→Int→Bool) (S:Int→Int→Int):Prop:=∀ ⦃av0:Int⦄ ⦃bv0:Int⦄,P av0 bv0=true→K (zKU (S av0 bv0))→X (zu0 av0 bv0)
section
variable {K:List PA→Prop} {a:Int} {b:Int} {av0:Int} {bv0:Int} {X0:St→Prop} {P0:Int→Int→Bool} {S0:Int→Int→Int}
def zis (S0:Int→Int→Int) (av0:Int) (bv0:Int):Int :=
  (cond (decide (bv0 > (0:Int)))
 (S0 bv0 (av0.tmod bv0))
 av0)
def zit (P0:Int→Int→Bool) (av0:Int) (bv0:Int):Bool :=
  (cond (decide (bv0 > (0:Int)))
 (decide ((bv0 ≠ 0)) &&
 (P0 bv0 (av0.tmod bv0)))
 true)
def ziu:Nat→Int→Int→Int:=lpO (fun _ _=>default) (zis)
def ziv:Nat→Int→Int→Bool:=lpO (fun _ _=>false) (zit)
def zrX (av0:Int) (bv0:Int):Int:=ziu Fuel av0 bv0
def zrY (av0:Int) (bv0:Int):Bool:=ziv Fuel av0 bv0
theorem zAD (hs:zrY av0 bv0=true) (hk:K (zKU (zrX av0 bv0))):z114 K [1,0,0] [] (zu0 av0 bv0) :=
  zl (fun X=>z114 K [1,0,0,0] [X]) (by kernel_rfl) fun X0 hX =>
  (show ∀ k, zB4 K X0 (ziv k) (ziu k) from zgh _ _ (zit) (zis) (zB4 K X0)
 (by intro _ _ hs;exact absurd hs Bool.false_ne_true)
 (by intro P0 S0 hX0 av0 bv0 hs hk;exact hX _ (zax (by kernel_rfl) (zc hs hk (fun hs hk=>(zaw hs fun hc hs=>And.intro hc (hX0 hs hk))) (fun hs hk=>hk))))) _ hs hk
def zDD (a:Int) (b:Int):Int :=
  (zrX a b)
def zKh (a:Int) (b:Int):Bool :=
  (zrY a b)
end
theorem zNK (a:Int) (b:Int) (K:List PA→Prop) (hs:zKh a b=true) (hk:K (zKU (zDD a b))):vcFun Try.prog zMD zuZ 114 [.one (.int .i64 a),.one (.int .i64 b)] K :=
  zax (by kernel_rfl) (zAD hs hk)
def zu1 : List PA → COut
  | [.one (.int .i64 a0),.one (.int .i64 a1)]=>.det (zKh a0 a1=true) [.one (.int .i64 (zDD a0 a1))]
  | _=>.no
theorem zDE:zah Try.prog 114:=⟨_,rfl,rfl,by kernel_rfl⟩
theorem zKV:Ok Try.prog 114 zu1:=zaz zH2 zDE fun args K h=>by
  unfold zu1 at h
  split at h
  · rename_i a0 a1
    obtain ⟨hs,hk⟩:=h
    exact ⟨(fun _ _=>[]),(fun _=>false),zuZ,zNK a0 a1 K hs hk⟩
  · exact h.elim
abbrev T89:Tabs:=(Tabs.nil.addF 114 zu1)
theorem zKW:TabsOk Try.prog T89:=(TabsOk.nil.addF zKV)
abbrev G89:Ctrs:=csm T89 (fun _ _=>[]) (fun _=>false)
def zH3:Ann:=⟨19,[(0,zK [0,1,4] [4]),(1,zK [0,1,4,5] [4]),(2,zK [4] [4])],
 [],
 [],
 [],[]⟩
abbrev R89:=Frac
abbrev e89 (r:R89):List PA:=[.agg [.int .i64 r.Num,.int .i64 r.Den]]
section
variable {K:List PA→Prop} {num:Int} {den:Int}
def s89 (num:Int) (den:Int):Frac :=
  (⟨(w64 (num.tdiv (zDD (if (w64 (0 - num)) > num then (w64 (0 - num)) else num) den))),(w64 (den.tdiv (zDD (if (w64 (0 - num)) > num then (w64 (0 - num)) else num) den)))⟩:Frac)
def p89 (num:Int) (den:Int):Bool :=
  (decide ((zKh (if (w64 (0 - num)) > num then (w64 (0 - num)) else num) den=true)) &&
 (decide (((zDD (if (w64 (0 - num)) > num then (w64 (0 - num)) else num) den) ≠ 0)) &&
 (decide (((zDD (if (w64 (0 - num)) > num then (w64 (0 - num)) else num) den) ≠ 0)) &&
 true)))
end
theorem q89 (num:Int) (den:Int) (K:List PA→Prop) (hs:p89 num den=true) (hk:K (e89 (s89 num den))):vcFun Try.prog G89 zH3 89 [.one (.int .i64 num),.one (.int .i64 den)] K :=
  zax (by kernel_rfl) (zaw hs fun hc hs=>And.intro hc (zaw hs fun hc hs=>And.intro hc (zaw hs fun hc hs=>And.intro hc hk)))
def zpz : List PA → COut
  | [.one (.int .i64 a0),.one (.int .i64 a1)]=>.det (p89 a0 a1=true) [.agg [.int .i64 ((s89 a0 a1).Num),.int .i64 ((s89 a0 a1).Den)]]
  | _=>.no
theorem zH4:zah Try.prog 89:=⟨_,rfl,rfl,by kernel_rfl⟩
theorem zKi:Ok Try.prog 89 zpz:=zaz zKW zH4 fun args K h=>by
  unfold zpz at h
  split at h
  · rename_i a0 a1
    obtain ⟨hs,hk⟩:=h
    exact ⟨(fun _ _=>[]),(fun _=>false),zH3,q89 a0 a1 K hs hk⟩
  · exact h.elim
abbrev T79:Tabs:=(Tabs.nil.addF 89 zpz)
theorem zKX:TabsOk Try.prog T79:=(TabsOk.nil.addF zKi)
abbrev G79:Ctrs:=csm T79 (fun _ _=>[]) (fun _=>false)
def zH5:Ann:=⟨14,[(0,zK [1,2] [1,2]),(1,zK [2] [2])],
 [],
 [],
 [],[]⟩
abbrev R79:=Line
abbrev e79 (r:R79):List PA:=[.agg [.int .i64 r.Slope.Num,.int .i64 r.Slope.Den,.int .i64 r.Start.Num,.int .i64 r.Start.Den]]
section
variable {K:List PA→Prop} {s:straight}
def s79 (s:straight):Line :=
  (⟨(s89 s.slope s.den),(s89 s.start s.den)⟩:Line)
def p79 (s:straight):Bool :=
  (decide ((p89 s.slope s.den=true)) &&
 (decide ((p89 s.start s.den=true)) &&
 true))
end
theorem q79 (s:straight) (K:List PA→Prop) (hs:p79 s=true) (hk:K (e79 (s79 s))):vcFun Try.prog G79 zH5 79 [.agg (zaf s)] K :=
  zax (by kernel_rfl) (zaw hs fun hc hs=>And.intro hc (zaw hs fun hc hs=>And.intro hc hk))
def zAE : List PA → COut
  | [.agg [.int .i64 a0_slope,.int .i64 a0_start,.int .i64 a0_den]]=>.det (p79 (⟨a0_slope,a0_start,a0_den⟩:straight)=true) [.agg [.int .i64 ((s79 (⟨a0_slope,a0_start,a0_den⟩:straight)).Slope.Num),.int .i64 ((s79 (⟨a0_slope,a0_start,a0_den⟩:straight)).Slope.Den),.int .i64 ((s79 (⟨a0_slope,a0_start,a0_den⟩:straight)).Start.Num),.int .i64 ((s79 (⟨a0_slope,a0_start,a0_den⟩:straight)).Start.Den)]]
  | _=>.no
theorem zH6:zah Try.prog 79:=⟨_,rfl,rfl,by kernel_rfl⟩
theorem zME:Ok Try.prog 79 zAE:=zaz zKX zH6 fun args K h=>by
  unfold zAE at h
  split at h
  · rename_i a0_slope a0_start a0_den
    obtain ⟨hs,hk⟩:=h
    exact ⟨(fun _ _=>[]),(fun _=>false),zH5,q79 (⟨a0_slope,a0_start,a0_den⟩:straight) K hs hk⟩
  · exact h.elim
abbrev T96:Tabs:=Tabs.nil
theorem zKY:TabsOk Try.prog T96:=TabsOk.nil
abbrev G96:Ctrs:=csm T96 (fun _ _=>[]) (fun _=>false)
def zDF:Ann:=⟨4,[(0,⟨[1],[1],[],[],[],[],[]⟩),(1,⟨[2],[],[],[],[],[],[]⟩)],
 [],
 [],
 [],[]⟩
theorem zDG (l_a0 : list) (K : List PA → Prop) :
  vcFun Try.prog G96 zDF 96 [.agg [.sl l_a0.Gates.len 3 (fun i=>enc_55 (l_a0.Gates.get i))]] K =
  (K [.one (.fn 115 [] [.fp (zb0 l_a0) 0])]):=by kernel_rfl
theorem q96 (l_a0:list) (K:List PA→Prop) (hk:K [.one (.fn 115 [] [.fp (zb0 l_a0) 0])]):vcFun Try.prog G96 zDF 96 [.agg [.sl l_a0.Gates.len 3 (fun i=>enc_55 (l_a0.Gates.get i))]] K:=zax (zDG l_a0 K) hk
def zDH : List PA → COut
  | [.agg [.sl a0_Gates_n a0_Gates_s a0_Gates_g]]=>.det (IsE enc_55 3 a0_Gates_s a0_Gates_g) [.one (.fn 115 [] [.fp (zb0 (⟨(⟨a0_Gates_n,zad a0_Gates_g⟩:(Sl Gate))⟩:list)) 0])]
  | _=>.no
theorem zH7:zah Try.prog 96:=⟨_,rfl,rfl,by kernel_rfl⟩
theorem zNL:Ok Try.prog 96 zDH:=zaz zKY zH7 fun args K h=>by
  unfold zDH at h
  split at h
  · rename_i a0_Gates_n a0_Gates_s a0_Gates_g
    obtain ⟨⟨rfl,a0_Gates_f,rfl⟩,hk⟩:=h
    try rw [zac a0_Gates_f] at hk
    exact ⟨fun _ _=>[],fun _=>false,zDF,q96 (⟨(⟨a0_Gates_n,a0_Gates_f⟩:(Sl Gate))⟩:list) K hk⟩
  · exact h.elim
abbrev T97:Tabs:=(Tabs.nil.addF 99 zuY)
theorem zKZ:TabsOk Try.prog T97:=(TabsOk.nil.addF zKS)
abbrev G97:Ctrs:=csm T97 (fun _ _=>[]) (fun _=>false)
def zDI:Ann:=⟨11,[(0,zK [2,3] [2,3]),(1,zK [4] [])],
 [],
 [],
 [],[]⟩
abbrev R97:=Bool
abbrev e97 (r:R97):List PA:=[.one (.bool r)]
section
variable {K:List PA→Prop} {s:set} {x:straight}
def s97 (s:set) (x:straight):Bool :=
  (!(zKf x s.list.Gates))
def p97 (s:set) (x:straight):Bool :=
  (decide ((zKg x s.list.Gates=true)) &&
 true)
end
theorem q97 (s:set) (x:straight) (K:List PA→Prop) (hs:p97 s x=true) (hk:K (e97 (s97 s x))):vcFun Try.prog G97 zDI 97 [.agg (zaW s),.agg (zaf x)] K :=
  zax (by kernel_rfl) (zaw hs fun hc hs=>And.intro (And.intro (zE enc_55 3 s.list.Gates.get) hc) hk)
def zDJ : List PA → COut
  | [.agg [.sl a0_list_Gates_n a0_list_Gates_s a0_list_Gates_g,.sl a0_corners_n a0_corners_s a0_corners_g],.agg [.int .i64 a1_slope,.int .i64 a1_start,.int .i64 a1_den]]=>.det (IsE enc_55 3 a0_list_Gates_s a0_list_Gates_g∧IsE zaf 3 a0_corners_s a0_corners_g∧p97 (⟨(⟨(⟨a0_list_Gates_n,zad a0_list_Gates_g⟩:(Sl Gate))⟩:list),(⟨a0_corners_n,zaQ a0_corners_g⟩:(Sl straight))⟩:set) (⟨a1_slope,a1_start,a1_den⟩:straight)=true) [.one (.bool (s97 (⟨(⟨(⟨a0_list_Gates_n,zad a0_list_Gates_g⟩:(Sl Gate))⟩:list),(⟨a0_corners_n,zaQ a0_corners_g⟩:(Sl straight))⟩:set) (⟨a1_slope,a1_start,a1_den⟩:straight)))]
  | [.agg [.sl a0_list_Gates_n a0_list_Gates_s a0_list_Gates_g,.nils],.agg [.int .i64 a1_slope,.int .i64 a1_start,.int .i64 a1_den]]=>.det (IsE enc_55 3 a0_list_Gates_s a0_list_Gates_g∧p97 (⟨(⟨(⟨a0_list_Gates_n,zad a0_list_Gates_g⟩:(Sl Gate))⟩:list),(⟨0,fun _=>default⟩:(Sl straight))⟩:set) (⟨a1_slope,a1_start,a1_den⟩:straight)=true) [.one (.bool (s97 (⟨(⟨(⟨a0_list_Gates_n,zad a0_list_Gates_g⟩:(Sl Gate))⟩:list),(⟨0,fun _=>default⟩:(Sl straight))⟩:set) (⟨a1_slope,a1_start,a1_den⟩:straight)))]
  | _=>.no
theorem zH8:zah Try.prog 97:=⟨_,rfl,rfl,by kernel_rfl⟩
theorem zNM:Ok Try.prog 97 zDJ:=zg8 zKZ zH8 fun args K h=>by
  unfold zDJ at h
  split at h
  · rename_i a0_list_Gates_n a0_list_Gates_s a0_list_Gates_g a0_corners_n a0_corners_s a0_corners_g a1_slope a1_start a1_den
    obtain ⟨⟨⟨rfl,a0_list_Gates_f,rfl⟩,⟨rfl,a0_corners_f,rfl⟩,hs⟩,hk⟩:=h
    try rw [zac a0_list_Gates_f] at hs
    try rw [zac a0_list_Gates_f] at hk
    try rw [zaM a0_corners_f] at hs
    try rw [zaM a0_corners_f] at hk
    exact ⟨_,zeU zfF _,(fun _ _=>[]),(fun _=>false),zDI,q97 (⟨(⟨(⟨a0_list_Gates_n,a0_list_Gates_f⟩:(Sl Gate))⟩:list),(⟨a0_corners_n,a0_corners_f⟩:(Sl straight))⟩:set) (⟨a1_slope,a1_start,a1_den⟩:straight) (Wk K) hs (zd6 hk)⟩
  · rename_i a0_list_Gates_n a0_list_Gates_s a0_list_Gates_g a1_slope a1_start a1_den
    obtain ⟨⟨⟨rfl,a0_list_Gates_f,rfl⟩,hs⟩,hk⟩:=h
    try rw [zac a0_list_Gates_f] at hs
    try rw [zac a0_list_Gates_f] at hk
    exact ⟨_,(zc5 (.agg (zc5 (.rfl _) (zc5 (.nil _ _) zgX))) (zc5 (zfF _) zgX)),(fun _ _=>[]),(fun _=>false),zDI,q97 (⟨(⟨(⟨a0_list_Gates_n,a0_list_Gates_f⟩:(Sl Gate))⟩:list),(⟨0,fun _=>default⟩:(Sl straight))⟩:set) (⟨a1_slope,a1_start,a1_den⟩:straight) (Wk K) hs (zd6 hk)⟩
  · exact h.elim
abbrev zMF:Tabs:=Tabs.nil
theorem zH9:TabsOk Try.prog zMF:=TabsOk.nil
abbrev zMG:Ctrs:=csm zMF (fun _ _=>[]) (fun _=>false)
def zu3:Ann:=⟨30,[(0,zK [0,1,2,3,8] [8]),(1,zK [0,1,2,3,8,11] [8]),(2,zK [0,1,2,3,8] [8]),(3,zK [8] [8])],
 [],
 [(3,zK [0,1,2,3,8] [8])],
 [],[]⟩
abbrev zNN:=straight
abbrev e116 (r:zNN):List PA:=[.agg [.int .i64 r.slope,.int .i64 r.start,.int .i64 r.den]]
@[irreducible] def z116:=ptF Try.prog zMG zu3 Try.f116
section
variable {K:List PA→Prop} {z:Int} {p:Int} {y_a2:Int} {q:Int} {zv0:Int} {pv0:Int} {yv0:Int} {qv0:Int}
def ziw (zv0:Int) (pv0:Int) (yv0:Int) (qv0:Int):straight :=
  (⟨(w64 (qv0 - pv0)),(w64 ((w64 (pv0 * yv0)) - (w64 (qv0 * zv0)))),(w64 (yv0 - zv0))⟩:straight)
theorem zrZ (hk:K (e116 (ziw zv0 pv0 yv0 qv0))):z116 K [1,1] [] ⟨[(0,zI zv0),(1,zI pv0),(2,zI yv0),(3,zI qv0),(8,zp 8 0)],[(8,.box 118 (zm (zaf (⟨(0:Int),(0:Int),(0:Int)⟩:straight))))],[]⟩:=zax (by kernel_rfl) hk
def zkG (z:Int) (p:Int) (y_a2:Int) (q:Int):straight :=
  (cond (decide (z > y_a2))
 (ziw y_a2 q z p)
 (ziw z p y_a2 q))
end
theorem zNO (z:Int) (p:Int) (y_a2:Int) (q:Int) (K:List PA→Prop) (hk:K (e116 (zkG z p y_a2 q))):vcFun Try.prog zMG zu3 116 [.one (.int .i64 z),.one (.int .i64 p),.one (.int .i64 y_a2),.one (.int .i64 q)] K :=
  zax (by kernel_rfl) (zt hk (fun hk=>(zrZ hk)) (fun hk=>(zrZ hk)))
def zu4 : List PA → COut
  | [.one (.int .i64 a0),.one (.int .i64 a1),.one (.int .i64 a2),.one (.int .i64 a3)]=>.tot [.agg [.int .i64 ((zkG a0 a1 a2 a3).slope),.int .i64 ((zkG a0 a1 a2 a3).start),.int .i64 ((zkG a0 a1 a2 a3).den)]]
  | _=>.no
theorem zDK:zah Try.prog 116:=⟨_,rfl,rfl,by kernel_rfl⟩
theorem zK1:Ok Try.prog 116 zu4:=zaz zH9 zDK fun args K h=>by
  unfold zu4 at h
  split at h
  · rename_i a0 a1 a2 a3
    have hk:=h
    exact ⟨(fun _ _=>[]),(fun _=>false),zu3,zNO a0 a1 a2 a3 K hk⟩
  · exact h.elim
abbrev zMH:Tabs:=(Tabs.nil.addF 116 zu4)
theorem zIa:TabsOk Try.prog zMH:=(TabsOk.nil.addF zK1)
abbrev zu5:Ctrs:=csm zMH (fun _ _=>[]) (fun _=>false)
def zbZ:Ann:=⟨64,[(0,⟨[0,1,12,13,14],[],[],[],[],[],[]⟩),(1,⟨[0,1,12,13,14,15],[],[],[],[],[],[]⟩),(2,⟨[0,1,3,4,12,13,14],[4],[],[],[],[],[]⟩),(3,⟨[0,1,4,12,13,14,23,24,25],[4],[],[],[],[],[]⟩),(4,⟨[0,1,4,12,13,14,23,24,25,26],[4],[],[],[],[],[]⟩),(5,⟨[0,1,4,6,12,13,14,23,24,25],[4,6],[],[],[],[],[]⟩),(6,⟨[0,1,4,6,12,13,14,23,24,25,33],[4,6],[],[],[],[],[]⟩),(7,⟨[0,1,4,6,12,13,14,23,24,25,38,39],[4,6],[],[],[],[],[]⟩),(8,⟨[0,1,4,6,12,13,14,23,24,25,38,39,40],[4,6],[],[],[],[],[]⟩),(9,⟨[0,1,4,6,8,12,13,14,23,24,25,38,39],[4,6],[],[],[],[],[]⟩),(10,⟨[0,1,4,6,8,12,13,14,23,24,25,38,39,46,47],[4,6],[],[],[],[],[]⟩),(11,⟨[0,1,4,6,8,12,13,14,23,24,25,38,39,46,47,48],[4,6],[],[],[],[],[]⟩),(12,⟨[0,1,4,6,8,10,12,13,14,23,24,25,38,39,46,47],[4,6],[],[],[],[],[]⟩),(13,⟨[0,1,4,6,8,12,13,14,23,24,25,38,39,46,47,59],[4,6],[],[],[],[],[]⟩),(14,⟨[0,1,4,6,8,12,13,14,23,24,25,38,39,46,47],[4,6],[],[],[],[],[]⟩),(15,⟨[0,1,4,6,12,13,14,23,24,25,38,39],[4,6],[],[],[],[],[]⟩),(16,⟨[0,1,4,12,13,14,23,24,25],[4],[],[],[],[],[]⟩),(17,⟨[0,1,12,13,14],[],[],[],[],[],[]⟩)],
 [(1,⟨[0,1,12,13,14],[],[],[],[],[],[]⟩),(4,⟨[0,1,4,12,13,14,23,24,25],[4],[],[],[],[4],[]⟩)],
 [],
 [(8,3,⟨[0,1,4,6,12,13,14,23,24,25,38,39],[4,6],[],[],[],[],[]⟩),(11,3,⟨[0,1,4,6,8,12,13,14,23,24,25,38,39,46,47],[4,6],[],[],[],[],[]⟩)],[13]⟩
def zeV (l:Nat) (a:list) (zai:Int):St:=⟨[(0,.one (.c (.p (.yl l)))),(1,.one (.c (.p (.fp (zb0 a) 0)))),(12,.one (.c (.p (.sl a.Gates.len 3 (fun i=>enc_55 (a.Gates.get i)))))),(13,.one (.c (.p (.int .i64 (a.Gates.len:Int))))),(14,.one (.c (.p (.int .i64 zai))))],[],[]⟩
def zgI (l:Nat) (ys:List (List PA)) (a:list) (zai:Int):Prop:=vcY Try.prog zu5 zbZ l (cdF Try.f115 [1,0]) (zcZ 0 zkL) ys false (zeV l a zai)
def zeW (l:Nat) (a:list) (zaP:Int) (zeX:Nat) (zb1:Nat→List PV) (zbu:Int) (zaC:Int) (zaL:Int) (zaV:Int) (zbi:Int):St:=⟨[(0,.one (.c (.p (.yl l)))),(1,.one (.c (.p (.fp (zb0 a) 0)))),(4,.one (.c (.ptr 4 0))),(12,.one (.c (.p (.sl a.Gates.len 3 (fun i=>enc_55 (a.Gates.get i)))))),(13,.one (.c (.p (.int .i64 (a.Gates.len:Int))))),(14,.one (.c (.p (.int .i64 zaP)))),(23,.one (.c (.p (.sl zeX 3 zb1)))),(24,.one (.c (.p (.int .i64 zbu)))),(25,.one (.c (.p (.int .i64 zaC))))],[(4,.fbox [.int .i64 zaL,.int .i64 zaV,.int .i64 zbi])],[]⟩
def zgJ (l:Nat) (X0:List (List PA)→Bool→St→Prop) (ys:List (List PA)) (a:list) (zaP:Int) (zeX:Nat) (zb1:Nat→List PV) (zbu:Int) (zaC:Int) (zaL:Int) (zaV:Int) (zbi:Int):Prop:=vcY Try.prog zu5 zbZ l (cdF Try.f115 [1,0,0,1,1,0,0,1,1,0]) (zcZ 2 (zcZ 1 (zHc (zHe Try.prog zbZ 17 (vcY Try.prog zu5 zbZ l (cdF Try.f115 [1,0,0,1,1,1]) (zia Try.prog zbZ 1 X0 (zcZ 0 zkL)))) (zia Try.prog zbZ 1 X0 (zcZ 0 zkL))))) ys false (zeW l a zaP zeX zb1 zbu zaC zaL zaV zbi)
theorem zAF (l : Nat) (a : list) (ys : List (List PA)) :
  vcIter Try.prog zu5 zbZ 115 l [.one (.fp (zb0 a) 0)] ys =
  (zgI l ys a (0:Int)):=by kernel_rfl
def zlx (l:Nat) (X0:List (List PA)→Bool→St→Prop) (ys:List (List PA)) (a:list) (zai:Int):Prop :=
  (zcY (decide (zai < (a.Gates.len : Int)))
 (((0≤zai∧zai < (a.Gates.len:Int))) ∧
 (((0≤(w64 (zai+(1:Int)))∧(w64 (zai+(1:Int)))≤(a.Gates.len:Int)∧(a.Gates.len:Int)≤(a.Gates.len:Int))) ∧
 (zgJ l  X0 ys a zai (((a.Gates.len:Int) - (w64 (zai+(1:Int)))).toNat) (slG (fun i=>enc_55 (a.Gates.get i)) ((w64 (zai+(1:Int))).toNat)) (((a.Gates.len:Int) - (w64 (zai+(1:Int)))).toNat:Int) (0:Int) ((a.Gates.get zai.toNat).Z) ((a.Gates.get zai.toNat).Low) ((a.Gates.get zai.toNat).High))))
 (ys=[]))
theorem zok (l : Nat) (X0 : List (List PA) → Bool → St → Prop) (ys : List (List PA)) (a : list) (zai : Int) :
  vcY Try.prog zu5 zbZ l (cd (cdF Try.f115 [1,0]) [0]) (zia Try.prog zbZ 1 X0 (zcZ 0 zkL)) ys false (zeV l a zai) =
  zlx l X0 ys a zai:=by kernel_rfl
theorem ztg (l : Nat) (ys : List (List PA)) (a : list) (zai : Int)
  (h:∀ X0:List (List PA)→Bool→St→Prop,(∀ (ys:List (List PA)) (zai:Int),zlx l X0 ys a zai→X0 ys false (zeV l a zai))→X0 ys false (zeV l a zai)) :
  zgI l ys a zai:=by
  have e:zgI l ys a zai=(∀ X:List (List PA)→Bool→St→Prop,(∀ ys q s,vcY Try.prog zu5 zbZ l (cd (cdF Try.f115 [1,0]) [0]) (zia Try.prog zbZ 1 X (zcZ 0 zkL)) ys q s→X ys q s)→X ys false (zeV l a zai)):=by kernel_rfl
  refine zax e ?_
  intro X hX
  refine h X ?_
  intro ys zai hs
  refine hX _ _ _ ?_
  have e2:=zok l X ys a zai
  rw [e2]
  exact hs
def zly (l:Nat) (X0:List (List PA)→Bool→St→Prop) (X1:List (List PA)→Bool→St→Prop) (ys:List (List PA)) (a:list) (zaP:Int) (zaH:(Sl Gate)) (zbu:Int) (zaC:Int) (zaL:Int) (zaV:Int) (zbi:Int):Prop :=
  (zcY (decide (zaC < zbu))
 (((0≤zaC∧zaC < (zaH.len:Int))) ∧
 (zcY (zaL == (zaH.get zaC.toNat).Z)
 (X1 ys false (zeW l a zaP zaH.len (fun i=>enc_55 (zaH.get i)) zbu (w64 (zaC+(1:Int))) zaL zaV zbi))
 (l=l∧∃ r1,ys=[.agg [.int .i64 ((zkG zaL zaV ((zaH.get zaC.toNat).Z) ((zaH.get zaC.toNat).Low)).slope),.int .i64 ((zkG zaL zaV ((zaH.get zaC.toNat).Z) ((zaH.get zaC.toNat).Low)).start),.int .i64 ((zkG zaL zaV ((zaH.get zaC.toNat).Z) ((zaH.get zaC.toNat).Low)).den)]] :: r1 ∧
 (l=l∧∃ r2,r1=[.agg [.int .i64 ((zkG zaL zaV ((zaH.get zaC.toNat).Z) ((zaH.get zaC.toNat).High)).slope),.int .i64 ((zkG zaL zaV ((zaH.get zaC.toNat).Z) ((zaH.get zaC.toNat).High)).start),.int .i64 ((zkG zaL zaV ((zaH.get zaC.toNat).Z) ((zaH.get zaC.toNat).High)).den)]] :: r2 ∧
 (l=l∧∃ r3,r2=[.agg [.int .i64 ((zkG zaL zbi ((zaH.get zaC.toNat).Z) ((zaH.get zaC.toNat).Low)).slope),.int .i64 ((zkG zaL zbi ((zaH.get zaC.toNat).Z) ((zaH.get zaC.toNat).Low)).start),.int .i64 ((zkG zaL zbi ((zaH.get zaC.toNat).Z) ((zaH.get zaC.toNat).Low)).den)]] :: r3 ∧
 (l=l∧∃ r4,r3=[.agg [.int .i64 ((zkG zaL zbi ((zaH.get zaC.toNat).Z) ((zaH.get zaC.toNat).High)).slope),.int .i64 ((zkG zaL zbi ((zaH.get zaC.toNat).Z) ((zaH.get zaC.toNat).High)).start),.int .i64 ((zkG zaL zbi ((zaH.get zaC.toNat).Z) ((zaH.get zaC.toNat).High)).den)]] :: r4 ∧
 (X1 r4 false (zeW l a zaP zaH.len (fun i=>enc_55 (zaH.get i)) zbu (w64 (zaC+(1:Int))) zaL zaV zbi))∧True)∧True)∧True)∧True)))
 (X0 ys false (zeV l a (w64 (zaP+(1:Int))))))
theorem zol (l : Nat) (X0 : List (List PA) → Bool → St → Prop) (X1 : List (List PA) → Bool → St → Prop) (ys : List (List PA)) (a : list) (zaP : Int) (zaH : (Sl Gate)) (zbu : Int) (zaC : Int) (zaL : Int) (zaV : Int) (zbi : Int) :
  vcY Try.prog zu5 zbZ l (cd (cdF Try.f115 [1,0,0,1,1,0,0,1,1,0]) [0]) (zia Try.prog zbZ 4 X1 (zcZ 2 (zcZ 1 (zHc (zHe Try.prog zbZ 17 (vcY Try.prog zu5 zbZ l (cdF Try.f115 [1,0,0,1,1,1]) (zia Try.prog zbZ 1 X0 (zcZ 0 zkL)))) (zia Try.prog zbZ 1 X0 (zcZ 0 zkL)))))) ys false (zeW l a zaP zaH.len (fun i=>enc_55 (zaH.get i)) zbu zaC zaL zaV zbi) =
  zly l  X0 X1 ys a zaP zaH zbu zaC zaL zaV zbi:=by kernel_rfl
theorem zth (l : Nat) (X0 : List (List PA) → Bool → St → Prop) (ys : List (List PA)) (a : list) (zaP : Int) (zeX : Nat) (zb1 : Nat → List PV) (zbu : Int) (zaC : Int) (zaL : Int) (zaV : Int) (zbi : Int)
  (h:∀ X1:List (List PA)→Bool→St→Prop,(∀ (ys:List (List PA)) (zaP:Int) (zaH:(Sl Gate)) (zbu:Int) (zaC:Int) (zaL:Int) (zaV:Int) (zbi:Int),zly l  X0 X1 ys a zaP zaH zbu zaC zaL zaV zbi→X1 ys false (zeW l a zaP zaH.len (fun i=>enc_55 (zaH.get i)) zbu zaC zaL zaV zbi))→X1 ys false (zeW l a zaP zeX zb1 zbu zaC zaL zaV zbi)) :
  zgJ l  X0 ys a zaP zeX zb1 zbu zaC zaL zaV zbi:=by
  have e:zgJ l  X0 ys a zaP zeX zb1 zbu zaC zaL zaV zbi=(∀ X:List (List PA)→Bool→St→Prop,(∀ ys q s,vcY Try.prog zu5 zbZ l (cd (cdF Try.f115 [1,0,0,1,1,0,0,1,1,0]) [0]) (zia Try.prog zbZ 4 X (zcZ 2 (zcZ 1 (zHc (zHe Try.prog zbZ 17 (vcY Try.prog zu5 zbZ l (cdF Try.f115 [1,0,0,1,1,1]) (zia Try.prog zbZ 1 X0 (zcZ 0 zkL)))) (zia Try.prog zbZ 1 X0 (zcZ 0 zkL)))))) ys q s→X ys q s)→X ys false (zeW l a zaP zeX zb1 zbu zaC zaL zaV zbi)):=by kernel_rfl
  refine zax e ?_
  intro X hX
  refine h X ?_
  intro ys zaP zaH zbu zaC zaL zaV zbi hs
  refine hX _ _ _ ?_
  have e2:=zol l  X0 X ys a zaP zaH zbu zaC zaL zaV zbi
  rw [e2]
  exact hs
attribute [irreducible] zgI zgJ
def zet (S0:Int→List straight) (a:list) (S1:Int→(Sl Gate)→Int→Int→Int→Int→Int→List straight) (zaP:Int) (zaH:(Sl Gate)) (zbu:Int) (zaC:Int) (zaL:Int) (zaV:Int) (zbi:Int):List straight :=
  (cond (decide (zaC < zbu))
 (cond (zaL == (zaH.get zaC.toNat).Z)
 (S1 zaP zaH zbu (w64 (zaC+(1:Int))) zaL zaV zbi)
 ((zkG zaL zaV ((zaH.get zaC.toNat).Z) ((zaH.get zaC.toNat).Low)) :: ((zkG zaL zaV ((zaH.get zaC.toNat).Z) ((zaH.get zaC.toNat).High)) :: ((zkG zaL zbi ((zaH.get zaC.toNat).Z) ((zaH.get zaC.toNat).Low)) :: ((zkG zaL zbi ((zaH.get zaC.toNat).Z) ((zaH.get zaC.toNat).High)) :: (S1 zaP zaH zbu (w64 (zaC+(1:Int))) zaL zaV zbi))))))
 (S0 (w64 (zaP+(1:Int)))))
def zeu (P0:Int→Bool) (a:list) (P1:Int→(Sl Gate)→Int→Int→Int→Int→Int→Bool) (zaP:Int) (zaH:(Sl Gate)) (zbu:Int) (zaC:Int) (zaL:Int) (zaV:Int) (zbi:Int):Bool :=
  (cond (decide (zaC < zbu))
 (decide ((0≤zaC∧zaC < (zaH.len:Int))) &&
 (cond (zaL == (zaH.get zaC.toNat).Z)
 (P1 zaP zaH zbu (w64 (zaC+(1:Int))) zaL zaV zbi)
 (P1 zaP zaH zbu (w64 (zaC+(1:Int))) zaL zaV zbi)))
 (P0 (w64 (zaP+(1:Int)))))
def zdj (S0 : Int → List straight) (a : list) : Nat → Int → (Sl Gate) → Int → Int → Int → Int → Int → List straight
  | 0=>fun _ _ _ _ _ _ _=>[]
  | k+1=>zet S0 a (zdj S0 a k)
def zdk (P0 : Int → Bool) (a : list) : Nat → Int → (Sl Gate) → Int → Int → Int → Int → Int → Bool
  | 0=>fun _ _ _ _ _ _ _=>false
  | k+1=>zeu P0 a (zdk P0 a k)
def zmg (S0:Int→List straight) (a:list) (zaP:Int) (zaH:(Sl Gate)) (zbu:Int) (zaC:Int) (zaL:Int) (zaV:Int) (zbi:Int):List straight:=zdj S0 a Fuel zaP zaH zbu zaC zaL zaV zbi
def zmh (P0:Int→Bool) (a:list) (zaP:Int) (zaH:(Sl Gate)) (zbu:Int) (zaC:Int) (zaL:Int) (zaV:Int) (zbi:Int):Bool:=zdk P0 a Fuel zaP zaH zbu zaC zaL zaV zbi
theorem zAG (l : Nat) (a : list)
  (X0:List (List PA)→Bool→St→Prop) (P0:Int→Bool) (S0:Int→List straight)
  (hX0:∀ (ys:List (List PA)) (zai:Int),P0 zai=true→ys=(S0 zai).map (fun y=>[.agg (zaf y)])→X0 ys false (zeV l a zai)) (ys:List (List PA)) (zaP:Int) (zaH:(Sl Gate)) (zbu:Int) (zaC:Int) (zaL:Int) (zaV:Int) (zbi:Int) (zb1:Nat→List PV) (zjt:zb1=fun i=>enc_55 (zaH.get i)) (hs:zmh P0 a zaP zaH zbu zaC zaL zaV zbi=true) (hk:ys=(zmg S0 a zaP zaH zbu zaC zaL zaV zbi).map (fun y=>[.agg (zaf y)])):zgJ l  X0 ys a zaP zaH.len zb1 zbu zaC zaL zaV zbi:=by
  refine zth l  X0 ys a zaP zaH.len zb1 zbu zaC zaL zaV zbi ?_
  intro X1 hstep
  have key:∀ (k:Nat) (ys:List (List PA)) (zaP:Int) (zaH:(Sl Gate)) (zbu:Int) (zaC:Int) (zaL:Int) (zaV:Int) (zbi:Int) (zb1:Nat→List PV) (zjt:zb1=fun i=>enc_55 (zaH.get i)),zdk P0 a k zaP zaH zbu zaC zaL zaV zbi=true→ys=(zdj S0 a k zaP zaH zbu zaC zaL zaV zbi).map (fun y=>[.agg (zaf y)])→X1 ys false (zeW l a zaP zaH.len zb1 zbu zaC zaL zaV zbi):=by
    intro k
    induction k with
    | zero=>intro ys zaP zaH zbu zaC zaL zaV zbi zb1 zjt hs;exact absurd hs Bool.false_ne_true
    | succ k ih =>
      intro ys zaP zaH zbu zaC zaL zaV zbi zb1 zjt hs hk
      subst zjt
      refine hstep ys zaP zaH zbu zaC zaL zaV zbi ?_
      have hs:zeu P0 a (zdk P0 a k) zaP zaH zbu zaC zaL zaV zbi=true:=hs
      have hk:ys=(zet S0 a (zdj S0 a k) zaP zaH zbu zaC zaL zaV zbi).map (fun y=>[.agg (zaf y)]):=hk
      unfold zeu at hs
      unfold zet at hk
      generalize zdj S0 a k=S1 at hk ih
      generalize zdk P0 a k=P1 at hs ih
      have hX1:=ih
      exact (zmd hs hk
 (fun hs hk => (zaw hs fun hc hs => ⟨hc, (zmd hs hk
 (fun hs hk=>(hX1 _ zaP zaH zbu (w64 (zaC+(1:Int))) zaL zaV zbi (fun i=>enc_55 (zaH.get i)) rfl hs hk))
 (fun hs hk=>(itY hk rfl (fun _ hk=>(itY hk rfl (fun _ hk=>(itY hk rfl (fun _ hk=>(itY hk rfl (fun _ hk=>(hX1 _ zaP zaH zbu (w64 (zaC+(1:Int))) zaL zaV zbi (fun i=>enc_55 (zaH.get i)) rfl hs hk)))))))))))⟩))
 (fun hs hk=>(hX0 _ (w64 (zaP+(1:Int))) hs hk)))
  exact key _ _ zaP zaH zbu zaC zaL zaV zbi zb1 zjt hs hk
def zev (a:list) (S0:Int→List straight) (zai:Int):List straight :=
  (cond (decide (zai < (a.Gates.len : Int)))
 (zmg S0 a zai (⟨((a.Gates.len:Int) - (w64 (zai+(1:Int)))).toNat,(fun i=>a.Gates.get (i+((w64 (zai+(1:Int))).toNat)))⟩:Sl Gate) (((a.Gates.len:Int) - (w64 (zai+(1:Int)))).toNat:Int) (0:Int) ((a.Gates.get zai.toNat).Z) ((a.Gates.get zai.toNat).Low) ((a.Gates.get zai.toNat).High))
 [])
def zew (a:list) (P0:Int→Bool) (zai:Int):Bool :=
  (cond (decide (zai < (a.Gates.len : Int)))
 (decide ((0≤zai∧zai < (a.Gates.len:Int))) &&
 (decide ((0≤(w64 (zai+(1:Int)))∧(w64 (zai+(1:Int)))≤(a.Gates.len:Int)∧(a.Gates.len:Int)≤(a.Gates.len:Int))) &&
 (zmh P0 a zai (⟨((a.Gates.len:Int) - (w64 (zai+(1:Int)))).toNat,(fun i=>a.Gates.get (i+((w64 (zai+(1:Int))).toNat)))⟩:Sl Gate) (((a.Gates.len:Int) - (w64 (zai+(1:Int)))).toNat:Int) (0:Int) ((a.Gates.get zai.toNat).Z) ((a.Gates.get zai.toNat).Low) ((a.Gates.get zai.toNat).High))))
 true)
def zdl (a : list) : Nat → Int → List straight
  | 0=>fun _=>[]
  | k+1=>zev a (zdl a k)
def zdm (a : list) : Nat → Int → Bool
  | 0=>fun _=>false
  | k+1=>zew a (zdm a k)
def zr0 (a:list) (zai:Int):List straight:=zdl a Fuel zai
def zr1 (a:list) (zai:Int):Bool:=zdm a Fuel zai
theorem zAH (l:Nat) (a:list) (ys:List (List PA)) (zai:Int) (hs:zr1 a zai=true) (hk:ys=(zr0 a zai).map (fun y=>[.agg (zaf y)])):zgI l ys a zai:=by
  refine ztg l ys a zai ?_
  intro X0 hstep
  have key:∀ (k:Nat) (ys:List (List PA)) (zai:Int),zdm a k zai=true→ys=(zdl a k zai).map (fun y=>[.agg (zaf y)])→X0 ys false (zeV l a zai):=by
    intro k
    induction k with
    | zero=>intro ys zai hs;exact absurd hs Bool.false_ne_true
    | succ k ih =>
      intro ys zai hs hk
      refine hstep ys zai ?_
      have hs:zew a (zdm a k) zai=true:=hs
      have hk:ys=(zev a (zdl a k) zai).map (fun y=>[.agg (zaf y)]):=hk
      unfold zew at hs
      unfold zev at hk
      generalize zdl a k=S0 at hk ih
      generalize zdm a k=P0 at hs ih
      have hX0:=ih
      exact (zmd hs hk
 (fun hs hk=>(zaw hs fun hc hs=>⟨hc,(zaw hs fun hc hs=>⟨hc,(zAG l a X0 P0 S0 hX0 _ zai (⟨((a.Gates.len:Int) - (w64 (zai+(1:Int)))).toNat,(fun i=>a.Gates.get (i+((w64 (zai+(1:Int))).toNat)))⟩:Sl Gate) (((a.Gates.len:Int) - (w64 (zai+(1:Int)))).toNat:Int) (0:Int) ((a.Gates.get zai.toNat).Z) ((a.Gates.get zai.toNat).Low) ((a.Gates.get zai.toNat).High) (slG (fun i=>enc_55 (a.Gates.get i)) ((w64 (zai+(1:Int))).toNat)) rfl hs hk)⟩)⟩))
 (fun hs hk=>hk))
  exact key _ _ zai hs hk
def zB5 (a:list):List straight :=
  (zr0 a (0:Int))
def zDL (a:list):Bool :=
  (zr1 a (0:Int))
theorem zNP (l:Nat) (a:list) (ys:List (List PA)) (hs:zDL a=true) (hk:ys=(zB5 a).map (fun y=>[.agg (zaf y)])):vcIter Try.prog zu5 zbZ 115 l [.one (.fp (zb0 a) 0)] ys:=by
  refine zax (zAF l a ys) ?_
  unfold zDL at hs
  unfold zB5 at hk
  exact (zAH l a _ (0:Int) hs hk)
def zDM : List PA → Option (Prop × List (List PA))
  | [.one (.fp [.sl a_Gates_n a_Gates_s a_Gates_g] 0)]=>some (IsE enc_55 3 a_Gates_s a_Gates_g∧zDL (⟨(⟨a_Gates_n,zad a_Gates_g⟩:(Sl Gate))⟩:list)=true,(zB5 (⟨(⟨a_Gates_n,zad a_Gates_g⟩:(Sl Gate))⟩:list)).map fun y=>[.agg (zaf y)])
  | _=>none
theorem zDN:zah Try.prog 115:=⟨_,rfl,rfl,by kernel_rfl⟩
theorem zK2:zBF Try.prog 115 zDM:=zHz zIa zDN fun l caps safe ys h hs=>by
  unfold zDM at h
  split at h
  · rename_i a_Gates_n a_Gates_s a_Gates_g
    cases h
    obtain ⟨⟨rfl,a_Gates_f,rfl⟩,hs⟩:=hs
    try rw [zac a_Gates_f] at hs
    try rw [zac a_Gates_f]
    exact ⟨fun _ _=>[],fun _=>false,zbZ,zNP l (⟨(⟨a_Gates_n,a_Gates_f⟩:(Sl Gate))⟩:list) _ hs rfl⟩
  · cases h
abbrev T65:Tabs:=(((((Tabs.nil.addF 67 zoj).addF 79 zAE).addF 96 zDH).addF 97 zDJ).addI 115 zDM)
theorem zK3:TabsOk Try.prog T65:=(((((TabsOk.nil.addF zH1).addF zME).addF zNL).addF zNM).addI zK2)
abbrev G65:Ctrs:=csm T65 (fun _ _=>[]) (fun l=>Nat.beq l 14)
def zgK:Ann:=⟨39,[(0,⟨[0,2],[2],[],[],[],[],[]⟩),(1,⟨[2,3],[2,3],[],[],[],[],[]⟩),(2,⟨[2,3,12],[2,3],[],[],[],[],[]⟩),(3,⟨[2],[2],[],[],[],[],[]⟩),(4,⟨[2,3,4],[2,3,4,14],[],[],[],[],[]⟩),(5,⟨[2,3,4,17],[2,3,4,14],[],[],[],[],[]⟩),(6,⟨[2,3,4,5,17],[2,3,4,5,14,36],[],[],[],[],[]⟩),(7,⟨[2,3,4,5,6,17],[2,3,4,5,6,14,36],[],[],[],[],[]⟩),(8,⟨[2,3,4,5,6,17,29],[2,3,4,5,6,14,36],[],[],[],[],[]⟩),(9,⟨[2,3,4,5,17],[2,3,4,5,14,36],[],[],[],[],[]⟩),(10,⟨[2,3,4,17],[2,3,4,14,36],[],[],[],[],[]⟩),(11,⟨[2],[2,36],[],[],[],[],[]⟩)],
 [(6,⟨[2,3,4,17],[2,3,4,14,36],[],[(3,1,36,118,fun _=>zaf default)],[],[],[]⟩)],
 [(3,⟨[2,3,12],[2,3],[],[],[],[],[]⟩),(4,⟨[2,3],[2,3],[],[],[],[],[]⟩)],
 [],[]⟩
def zIb (zaa:(Sl Gate)) (zaJ:Bool):St:=⟨[(2,.one (.c (.ptr 2 0))),(3,.one (.c (.ptr 3 0))),(12,.one (.c (.p (.bool zaJ))))],[(2,.box 104 [.p (.nils),.p (.nils)]),(3,.box 104 [.p (.sl zaa.len 3 (fun i=>enc_55 (zaa.get i))),.p (.nils)])],[]⟩
def zmi (K:List PA→Prop) (zaa:(Sl Gate)) (zaJ:Bool):Prop:=vc Try.prog G65 zgK (cdF Try.f65 [1,1,0,1]) (sqK Try.prog G65 zgK (cdF Try.f65 [1,1,1]) (zcn Try.prog Try.f65 K)) (zIb zaa zaJ)
def zIc (zaa:(Sl Gate)):St:=⟨[(2,.one (.c (.ptr 2 0))),(3,.one (.c (.ptr 3 0)))],[(2,.box 104 [.p (.nils),.p (.nils)]),(3,.box 104 [.p (.sl zaa.len 3 (fun i=>enc_55 (zaa.get i))),.p (.nils)])],[]⟩
def zmj (K:List PA→Prop) (zaa:(Sl Gate)):Prop:=vc Try.prog G65 zgK (cdF Try.f65 [1,1,1]) (zcn Try.prog Try.f65 K) (zIc zaa)
def zeY (zaa:(Sl Gate)) (zeZ:Nat) (zb2:Nat→List PV) (zar:Nat) (zak:(List Int→Option (List Int))):St:=⟨[(2,.one (.c (.ptr 2 0))),(3,.one (.c (.ptr 3 0))),(4,.one (.c (.ptr 4 0))),(17,.one (.c (.p (.fn 115 [] [.fp (zb0 (⟨zaa⟩:list)) 0]))))],[(2,.box 104 [.p (.nils),.p (.nils)]),(3,.box 104 [.p (.sl zaa.len 3 (fun i=>enc_55 (zaa.get i))),.vec 36]),(4,.box 136 [.mo 14]),(14,.mo 37 4 (true,4,false,[none]) zar zak),(36,.vec 118 3 24 zeZ zb2)],[]⟩
def zju (K:List PA→Prop) (zaa:(Sl Gate)) (zeZ:Nat) (zb2:Nat→List PV) (zar:Nat) (zak:(List Int→Option (List Int))):Prop:=vc Try.prog G65 zgK (cdF Try.f65 [1,1,1,1,0,1,0]) (zaZ 0 (sqK Try.prog G65 zgK (cdF Try.f65 [1,1,1,1,1]) (zcn Try.prog Try.f65 K))) (zeY zaa zeZ zb2 zar zak)
theorem zDO (zaa : (Sl Gate)) (K : List PA → Prop) :
  vcFun Try.prog G65 zgK 65 [.one (.sl zaa.len 3 (fun i=>enc_55 (zaa.get i)))] K =
  ((IsE enc_55 3 3 (fun i=>enc_55 (zaa.get i))∧(p67 (⟨zaa⟩:list)=true)) ∧
 (zmi K zaa (s67 (⟨zaa⟩:list)))):=by kernel_rfl
theorem zDP (K : List PA → Prop) (zaa : (Sl Gate)) (zaJ : Bool) :
  zmi K zaa zaJ =
  (zcY zaJ
 (K [.agg [.sl zaa.len 3 (fun i=>enc_55 (zaa.get i)),.nils]])
 (zmj K zaa)):=by kernel_rfl
theorem zDQ (K : List PA → Prop) (zaa : (Sl Gate)) :
  zmj K zaa =
  ((IsE enc_55 3 3 (fun i=>enc_55 (zaa.get i))) ∧
 (zju K zaa 0 (fun i=>zaf ((fun _=>default) i)) 0 (fun _=>none))):=by kernel_rfl
def zom (K:List PA→Prop) (zaa:(Sl Gate)) (zaA:(Sl straight)) (zar:Nat) (zak:(List Int→Option (List Int))):Prop :=
  (K [.agg [.sl zaa.len 3 (fun i=>enc_55 (zaa.get i)),.sl zaA.len 3 (fun i=>zaf (zaA.get i))]])
def zon (K:List PA→Prop) (X2:List (List PA)→St→Prop) (y2:straight) (rest2:List (List PA)) (zaa:(Sl Gate)) (zaA:(Sl straight)) (zar:Nat) (zak:(List Int→Option (List Int))):Prop :=
  (((p79 y2=true)) ∧
 (zcY (!((zdN (zak [(s79 y2).Slope.Num, (s79 y2).Slope.Den, (s79 y2).Start.Num, (s79 y2).Start.Den]) 0) != 0))
 ((IsE enc_55 3 3 (fun i=>enc_55 (zaa.get i))∧IsE zaf 3 3 (fun i=>zaf (zaA.get i))∧(p97 (⟨(⟨zaa⟩:list),zaA⟩:set) y2=true)) ∧
 (zcY (s97 (⟨(⟨zaa⟩ : list), zaA⟩ : set) y2)
 ((((zaA.len+1) * 24≤140737488355328∧zaA.len+1≤9223372036854775807)) ∧
 (X2 rest2 (zeY zaa (zaA.len+1) (appG zaA.len (fun i=>zaf (zaA.get i)) (fun _=>(zaf y2))) (addN (zak [(s79 y2).Slope.Num,(s79 y2).Slope.Den,(s79 y2).Start.Num,(s79 y2).Start.Den]) zar) (zk4 [(s79 y2).Slope.Num,(s79 y2).Slope.Den,(s79 y2).Start.Num,(s79 y2).Start.Den] [1] zak))))
 (X2 rest2 (zeY zaa zaA.len (fun i=>zaf (zaA.get i)) zar zak))))
 (X2 rest2 (zeY zaa zaA.len (fun i=>zaf (zaA.get i)) zar zak))))
theorem zpA (K:List PA→Prop) (zaa:(Sl Gate)) (zaA:(Sl straight)) (zar:Nat) (zak:(List Int→Option (List Int))):(zaZ 0 (sqK Try.prog G65 zgK (cdF Try.f65 [1,1,1,1,1]) (zcn Try.prog Try.f65 K))) .normal (zeY zaa zaA.len (fun i=>zaf (zaA.get i)) zar zak)=zom K zaa zaA zar zak:=by kernel_rfl
theorem zpB (K : List PA → Prop) (X2 : List (List PA) → St → Prop) (y2 : straight) (rest2 : List (List PA)) (zaa : (Sl Gate)) (zaA : (Sl straight)) (zar : Nat) (zak : (List Int → Option (List Int))) :
  zMw Try.prog G65 zgK 6 [18] (cd (cdF Try.f65 [1,1,1,1,0,1,0]) [0]) (cd (cdF Try.f65 [1,1,1,1,0,1,0]) [1]) X2 (zaZ 0 (sqK Try.prog G65 zgK (cdF Try.f65 [1,1,1,1,1]) (zcn Try.prog Try.f65 K))) [.agg (zaf y2)] rest2 (zeY zaa zaA.len (fun i=>zaf (zaA.get i)) zar zak)=zon K X2 y2 rest2 zaa zaA zar zak:=by kernel_rfl
theorem zu6 (K : List PA → Prop) (zaa : (Sl Gate)) (zeZ : Nat) (zb2 : Nat → List PV) (zar : Nat) (zak : (List Int → Option (List Int)))
  (hsafe:IsE enc_55 3 3 (fun i=>enc_55 ((⟨zaa⟩:list).Gates.get i))∧(zDL (⟨zaa⟩:list)=true)) (h:∀ X2:List (List PA)→St→Prop,(∀ (zaA:(Sl straight)) (zar:Nat) (zak:(List Int→Option (List Int))),zom K zaa zaA zar zak→X2 [] (zeY zaa zaA.len (fun i=>zaf (zaA.get i)) zar zak))→(∀ (y:straight) (rest:List (List PA)) (zaA:(Sl straight)) (zar:Nat) (zak:(List Int→Option (List Int))),zon K X2 y rest zaa zaA zar zak→X2 ([.agg (zaf y)] :: rest) (zeY zaa zaA.len (fun i=>zaf (zaA.get i)) zar zak))→X2 ((zB5 (⟨zaa⟩:list)).map fun y=>[.agg (zaf y)]) (zeY zaa zeZ zb2 zar zak)) :
  zju K zaa zeZ zb2 zar zak:=by
  have e:zju K zaa zeZ zb2 zar zak=((IsE enc_55 3 3 (fun i=>enc_55 ((⟨zaa⟩:list).Gates.get i))∧(zDL (⟨zaa⟩:list)=true))∧∀ X:List (List PA)→St→Prop,(∀ s,(zaZ 0 (sqK Try.prog G65 zgK (cdF Try.f65 [1,1,1,1,1]) (zcn Try.prog Try.f65 K))) .normal s→X [] s)→(∀ y rest s,zMw Try.prog G65 zgK 6 [18] (cd (cdF Try.f65 [1,1,1,1,0,1,0]) [0]) (cd (cdF Try.f65 [1,1,1,1,0,1,0]) [1]) X (zaZ 0 (sqK Try.prog G65 zgK (cdF Try.f65 [1,1,1,1,1]) (zcn Try.prog Try.f65 K))) y rest s→X (y :: rest) s)→X ((zB5 (⟨zaa⟩:list)).map fun y=>[.agg (zaf y)]) (zeY zaa zeZ zb2 zar zak)):=by kernel_rfl
  refine zax e ⟨hsafe,?_⟩
  intro X h0 h1
  refine h X (fun zaA zar zak hs=>h0 _ ?_) (fun y rest zaA zar zak hs=>h1 _ rest _ ?_)
  · rw [zpA K zaa zaA zar zak];exact hs
  · have e2 := zpB K X y rest zaa zaA zar zak
    rw [e2];exact hs
abbrev e65 (r:set):List PA:=[.agg [.sl r.list.Gates.len 3 (fun i=>enc_55 (r.list.Gates.get i)),.sl r.corners.len 3 (fun i=>zaf (r.corners.get i))]]
attribute [irreducible] zmi zmj zju
def zpC (zaa:(Sl Gate)) (zaA:(Sl straight)) (zar:Nat) (zak:(List Int→Option (List Int))):set :=
  (⟨(⟨zaa⟩:list),zaA⟩:set)
def zpD (zaa:(Sl Gate)) (zaA:(Sl straight)) (zar:Nat) (zak:(List Int→Option (List Int))):Bool :=
  true
def zjv (zaa:(Sl Gate)) (y2:straight) (S2:(Sl straight)→Nat→(List Int→Option (List Int))→set) (zaA:(Sl straight)) (zar:Nat) (zak:(List Int→Option (List Int))):set :=
  (cond (!((zdN (zak [(s79 y2).Slope.Num, (s79 y2).Slope.Den, (s79 y2).Start.Num, (s79 y2).Start.Den]) 0) != 0))
 (cond (s97 (⟨(⟨zaa⟩ : list), zaA⟩ : set) y2)
 (S2 (⟨(zaA.len+1),(zd5 zaA.len zaA.get (fun _=>y2))⟩:Sl straight) (addN (zak [(s79 y2).Slope.Num,(s79 y2).Slope.Den,(s79 y2).Start.Num,(s79 y2).Start.Den]) zar) (zk4 [(s79 y2).Slope.Num,(s79 y2).Slope.Den,(s79 y2).Start.Num,(s79 y2).Start.Den] [1] zak))
 (S2 zaA zar zak))
 (S2 zaA zar zak))
def zjw (zaa:(Sl Gate)) (y2:straight) (P2:(Sl straight)→Nat→(List Int→Option (List Int))→Bool) (zaA:(Sl straight)) (zar:Nat) (zak:(List Int→Option (List Int))):Bool :=
  (decide ((p79 y2=true)) &&
 (cond (!((zdN (zak [(s79 y2).Slope.Num, (s79 y2).Slope.Den, (s79 y2).Start.Num, (s79 y2).Start.Den]) 0) != 0))
 (decide ((p97 (⟨(⟨zaa⟩:list),zaA⟩:set) y2=true)) &&
 (cond (s97 (⟨(⟨zaa⟩ : list), zaA⟩ : set) y2)
 (decide (((zaA.len+1) * 24≤140737488355328∧zaA.len+1≤9223372036854775807)) &&
 (P2 (⟨(zaA.len+1),(zd5 zaA.len zaA.get (fun _=>y2))⟩:Sl straight) (addN (zak [(s79 y2).Slope.Num,(s79 y2).Slope.Den,(s79 y2).Start.Num,(s79 y2).Start.Den]) zar) (zk4 [(s79 y2).Slope.Num,(s79 y2).Slope.Den,(s79 y2).Start.Num,(s79 y2).Start.Den] [1] zak)))
 (P2 zaA zar zak)))
 (P2 zaA zar zak)))
def ze0 (zaa : (Sl Gate)) : List straight → (Sl straight) → Nat → (List Int → Option (List Int)) → set
  | []=>zpC zaa
  | y :: r=>zjv zaa y (ze0 zaa r)
def ze1 (zaa : (Sl Gate)) : List straight → (Sl straight) → Nat → (List Int → Option (List Int)) → Bool
  | []=>zpD zaa
  | y :: r=>zjw zaa y (ze1 zaa r)
def zpE (zaa:(Sl Gate)) (zaA:(Sl straight)) (zar:Nat) (zak:(List Int→Option (List Int))):set:=ze0 zaa (zB5 (⟨zaa⟩:list)) zaA zar zak
def zmk (zaa:(Sl Gate)) (zaA:(Sl straight)) (zar:Nat) (zak:(List Int→Option (List Int))):Bool:=decide ((zDL (⟨zaa⟩:list)=true)) && ze1 zaa (zB5 (⟨zaa⟩:list)) zaA zar zak
theorem zDR (K:List PA→Prop) (zaa:(Sl Gate)) (zaA:(Sl straight)) (zar:Nat) (zak:(List Int→Option (List Int))) (zb2:Nat→List PV) (zhd:zb2=fun i=>zaf (zaA.get i)) (hs:zmk zaa zaA zar zak=true) (hk:K (e65 (zpE zaa zaA zar zak))):zju (Wk K) zaa zaA.len zb2 zar zak:=by
  unfold zmk at hs
  rw [Bool.and_eq_true] at hs
  obtain ⟨hsf,hs⟩:=hs
  have hc:=of_decide_eq_true hsf
  refine zu6 (Wk K) zaa zaA.len zb2 zar zak ⟨isE,hc⟩ ?_
  intro X2 hexit hstep
  have key:∀ (l:List straight) (zaA:(Sl straight)) (zar:Nat) (zak:(List Int→Option (List Int))) (zb2:Nat→List PV) (zhd:zb2=fun i=>zaf (zaA.get i)),ze1 zaa l zaA zar zak=true→K (e65 (ze0 zaa l zaA zar zak))→X2 (l.map fun y=>[.agg (zaf y)]) (zeY zaa zaA.len zb2 zar zak):=by
    intro l
    induction l with
    | nil =>
      intro zaA zar zak zb2 zhd hs hk
      subst zhd
      refine hexit zaA zar zak ?_
      have hs:zpD zaa zaA zar zak=true:=hs
      have hk:K (e65 (zpC zaa zaA zar zak)):=hk
      unfold zpD at hs
      unfold zpC at hk
      exact (zd6 hk)
    | cons y2 l ih =>
      intro zaA zar zak zb2 zhd hs hk
      subst zhd
      refine hstep y2 _ zaA zar zak ?_
      have hs:zjw zaa y2 (ze1 zaa l) zaA zar zak=true:=hs
      have hk:K (e65 (zjv zaa y2 (ze0 zaa l) zaA zar zak)):=hk
      unfold zjw at hs
      unfold zjv at hk
      generalize ze0 zaa l=S2 at hk ih
      generalize ze1 zaa l=P2 at hs ih
      have hX2:=ih
      exact (zaw hs fun hc hs => ⟨hc, (zcf (K := fun r => K (e65 r))
 (fun hs hk => (zaw hs fun hc hs => ⟨⟨isE, isE, hc⟩, (zcf (K := fun r => K (e65 r))
 (fun hs hk=>(zaw hs fun hc hs=>⟨hc,(hX2 (⟨(zaA.len+1),(zd5 zaA.len zaA.get (fun _=>y2))⟩:Sl straight) (addN (zak [(s79 y2).Slope.Num,(s79 y2).Slope.Den,(s79 y2).Start.Num,(s79 y2).Start.Den]) zar) (zk4 [(s79 y2).Slope.Num,(s79 y2).Slope.Den,(s79 y2).Start.Num,(s79 y2).Start.Den] [1] zak) (appG zaA.len (fun i=>zaf (zaA.get i)) (fun _=>(zaf y2))) (zjk (enc:=zaf) (f:=zaA.get) (h:=(fun _=>y2)) rfl rfl) hs hk)⟩))
 (fun hs hk=>(hX2 zaA zar zak (fun i=>zaf (zaA.get i)) rfl hs hk)) hs hk)⟩))
 (fun hs hk=>(hX2 zaA zar zak (fun i=>zaf (zaA.get i)) rfl hs hk)) hs hk)⟩)
  exact key _ zaA zar zak zb2 zhd hs hk
def zml (zaa:(Sl Gate)):set :=
  (zpE zaa (⟨0,(fun _=>default)⟩:Sl straight) 0 (fun _=>none))
def zmm (zaa:(Sl Gate)):Bool :=
  (zmk zaa (⟨0,(fun _=>default)⟩:Sl straight) 0 (fun _=>none))
theorem zDS (K:List PA→Prop) (zaa:(Sl Gate)) (hs:zmm zaa=true) (hk:K (e65 (zml zaa))):zmj (Wk K) zaa:=by
  refine zax (zDQ (Wk K) zaa) ?_
  unfold zmm at hs
  unfold zml at hk
  exact ⟨isE,(zDR K zaa (⟨0,(fun _=>default)⟩:Sl straight) 0 (fun _=>none) (fun i=>zaf ((fun _=>default) i)) rfl hs hk)⟩
def zmn (zaa:(Sl Gate)) (zaJ:Bool):set :=
  (cond zaJ
 (⟨(⟨zaa⟩:list),(⟨0,fun _=>default⟩:(Sl straight))⟩:set)
 (zml zaa))
def zmo (zaa:(Sl Gate)) (zaJ:Bool):Bool :=
  (cond zaJ
 true
 (zmm zaa))
theorem zDT (K:List PA→Prop) (zaa:(Sl Gate)) (zaJ:Bool) (hs:zmo zaa zaJ=true) (hk:K (e65 (zmn zaa zaJ))):zmi (Wk K) zaa zaJ:=by
  refine zax (zDP (Wk K) zaa zaJ) ?_
  unfold zmo at hs
  unfold zmn at hk
  exact (zcf (K := fun r => K (e65 r))
 (fun hs hk=>(wk hk (zc5 (.agg (zc5 (.rfl _) (zc5 (.nil _ _) zgX))) zgX)))
 (fun hs hk=>(zDS K zaa hs hk)) hs hk)
def s65 (zaa:(Sl Gate)):set :=
  (zmn zaa (s67 (⟨zaa⟩:list)))
def p65 (zaa:(Sl Gate)):Bool :=
  (decide ((p67 (⟨zaa⟩:list)=true)) &&
 (zmo zaa (s67 (⟨zaa⟩:list))))
theorem q65 (zaa:(Sl Gate)) (K:List PA→Prop) (hs:p65 zaa=true) (hk:K (e65 (s65 zaa))):vcFun Try.prog G65 zgK 65 [.one (.sl zaa.len 3 (fun i=>enc_55 (zaa.get i)))] (Wk K):=by
  refine zax (zDO zaa (Wk K)) ?_
  unfold p65 at hs
  unfold s65 at hk
  exact (zaw hs fun hc hs=>⟨⟨isE,hc⟩,(zDT K zaa (s67 (⟨zaa⟩:list)) hs hk)⟩)
def zu7 : List PA → COut
  | [.one (.sl a0_n a0_s a0_g)]=>.det (IsE enc_55 3 a0_s a0_g∧p65 (⟨a0_n,zad a0_g⟩:(Sl Gate))=true) [.agg [.sl ((s65 (⟨a0_n,zad a0_g⟩:(Sl Gate))).list.Gates.len) 3 (fun i=>enc_55 ((s65 (⟨a0_n,zad a0_g⟩:(Sl Gate))).list.Gates.get i)),.sl ((s65 (⟨a0_n,zad a0_g⟩:(Sl Gate))).corners.len) 3 (fun i=>zaf ((s65 (⟨a0_n,zad a0_g⟩:(Sl Gate))).corners.get i))]]
  | _=>.no
theorem zId:zah Try.prog 65:=⟨_,rfl,rfl,by kernel_rfl⟩
theorem zK4:Ok Try.prog 65 zu7:=zg8 zK3 zId fun args K h=>by
  unfold zu7 at h
  split at h
  · rename_i a0_n a0_s a0_g
    obtain ⟨⟨⟨rfl,a0_f,rfl⟩,hs⟩,hk⟩:=h
    try rw [zac a0_f] at hs
    try rw [zac a0_f] at hk
    exact ⟨_,zeU zfF _,(fun _ _=>[]),(fun l=>Nat.beq l 14),zgK,q65 (⟨a0_n,a0_f⟩:(Sl Gate)) K hs hk⟩
  · exact h.elim
abbrev T98:Tabs:=Tabs.nil
theorem zK5:TabsOk Try.prog T98:=TabsOk.nil
abbrev G98:Ctrs:=csm T98 (fun _ _=>[]) (fun _=>false)
def zDU:Ann:=⟨38,[(0,zK [1,2] [1,2]),(1,zK [1,2,3] [1,2,3]),(2,zK [2,3,18,19,20] [2,3]),(3,zK [2,3,18,19,20,21] [2,3]),(4,zK [2,3,5,18,19,20] [2,3,5]),(5,zK [2,3,18,19,20] [2,3]),(6,zK [2,3,18,19,20] [2,3]),(7,zK [2] [2])],
 [(3,zK [2,3,18,19,20] [2,3])],
 [],
 [],[]⟩
abbrev R98:=Span
abbrev e98 (r:R98):List PA:=[.agg [.int .i64 r.Low,.int .i64 r.High]]
@[irreducible] def z98:=ptF Try.prog G98 zDU Try.f98
def zB6 (l_a0:list) (zcx:Int) (zao:Int) (zaq:Int):St:=⟨[(2,zp 2 0),(3,zp 3 0),(18,zS enc_55 3 l_a0.Gates),(19,zI (l_a0.Gates.len:Int)),(20,zI zcx)],[(2,.box 96 (zm (zBW (⟨(0:Int),(0:Int)⟩:Span)))),(3,.box 96 (zm (zBW (⟨zao,zaq⟩:Span))))],[]⟩
abbrev zIe (K:List PA→Prop) (l_a0:list) (X:St→Prop) (P:Int→Int→Int→Bool) (S:Int→Int→Int→Span):Prop:=∀ ⦃zcx:Int⦄ ⦃zao:Int⦄ ⦃zaq:Int⦄,P zcx zao zaq=true→K (e98 (S zcx zao zaq))→X (zB6 l_a0 zcx zao zaq)
section
variable {K:List PA→Prop} {l_a0:list} {zcx:Int} {zao:Int} {zaq:Int} {X0:St→Prop} {P0:Int→Int→Int→Bool} {S0:Int→Int→Int→Span}
def zhe (l_a0:list) (S0:Int→Int→Int→Span) (zcx:Int) (zao:Int) (zaq:Int):Span :=
  (cond (decide (zcx < (l_a0.Gates.len : Int)))
 (S0 (w64 (zcx+(1:Int))) (if (l_a0.Gates.get zcx.toNat).Low > zao then (l_a0.Gates.get zcx.toNat).Low else zao) (if (l_a0.Gates.get zcx.toNat).High < zaq then (l_a0.Gates.get zcx.toNat).High else zaq))
 (⟨zao,zaq⟩:Span))
def zhf (l_a0:list) (P0:Int→Int→Int→Bool) (zcx:Int) (zao:Int) (zaq:Int):Bool :=
  (cond (decide (zcx < (l_a0.Gates.len : Int)))
 (decide ((0≤zcx∧zcx < (l_a0.Gates.len:Int))) &&
 (P0 (w64 (zcx+(1:Int))) (if (l_a0.Gates.get zcx.toNat).Low > zao then (l_a0.Gates.get zcx.toNat).Low else zao) (if (l_a0.Gates.get zcx.toNat).High < zaq then (l_a0.Gates.get zcx.toNat).High else zaq)))
 true)
def zhg (l_a0:list):Nat→Int→Int→Int→Span:=lpO (fun _ _ _=>default) (zhe l_a0)
def zhh (l_a0:list):Nat→Int→Int→Int→Bool:=lpO (fun _ _ _=>false) (zhf l_a0)
def zu8 (l_a0:list) (zcx:Int) (zao:Int) (zaq:Int):Span:=zhg l_a0 Fuel zcx zao zaq
def zu9 (l_a0:list) (zcx:Int) (zao:Int) (zaq:Int):Bool:=zhh l_a0 Fuel zcx zao zaq
theorem zDV (hs:zu9 l_a0 zcx zao zaq=true) (hk:K (e98 (zu8 l_a0 zcx zao zaq))):z98 K [1,1,0,1,0] [] (zB6 l_a0 zcx zao zaq) :=
  zl (fun X=>z98 K [1,1,0,1,0,0] [X]) (by kernel_rfl) fun X0 hX =>
  (show ∀ k, zIe K l_a0 X0 (zhh l_a0 k) (zhg l_a0 k) from zgh _ _ (zhf l_a0) (zhe l_a0) (zIe K l_a0 X0)
 (by intro _ _ _ hs;exact absurd hs Bool.false_ne_true)
 (by intro P0 S0 hX0 zcx zao zaq hs hk;exact hX _ (zax (by kernel_rfl) (zc hs hk (fun hs hk=>(zaw hs fun hc hs=>And.intro hc (hX0 hs hk))) (fun hs hk=>hk))))) _ hs hk
def s98 (l_a0:list):Span :=
  (zu8 l_a0 (0:Int) ((l_a0.Gates.get 0).Low) ((l_a0.Gates.get 0).High))
def p98 (l_a0:list):Bool :=
  (decide ((0≤(0:Int)∧(0:Int) < (l_a0.Gates.len:Int))) &&
 (decide ((0≤(0:Int)∧(0:Int) < (l_a0.Gates.len:Int))) &&
 (zu9 l_a0 (0:Int) ((l_a0.Gates.get 0).Low) ((l_a0.Gates.get 0).High))))
end
theorem q98 (l_a0:list) (K:List PA→Prop) (hs:p98 l_a0=true) (hk:K (e98 (s98 l_a0))):vcFun Try.prog G98 zDU 98 [.agg (zb0 l_a0)] K :=
  zax (by kernel_rfl) (zaw hs fun hc hs=>And.intro hc (zaw hs fun hc hs=>And.intro hc (zDV hs hk)))
def zAI : List PA → COut
  | [.agg [.sl a0_Gates_n a0_Gates_s a0_Gates_g]]=>.det (IsE enc_55 3 a0_Gates_s a0_Gates_g∧p98 (⟨(⟨a0_Gates_n,zad a0_Gates_g⟩:(Sl Gate))⟩:list)=true) [.agg [.int .i64 ((s98 (⟨(⟨a0_Gates_n,zad a0_Gates_g⟩:(Sl Gate))⟩:list)).Low),.int .i64 ((s98 (⟨(⟨a0_Gates_n,zad a0_Gates_g⟩:(Sl Gate))⟩:list)).High)]]
  | _=>.no
theorem zIf:zah Try.prog 98:=⟨_,rfl,rfl,by kernel_rfl⟩
theorem zMI:Ok Try.prog 98 zAI:=zaz zK5 zIf fun args K h=>by
  unfold zAI at h
  split at h
  · rename_i a0_Gates_n a0_Gates_s a0_Gates_g
    obtain ⟨⟨⟨rfl,a0_Gates_f,rfl⟩,hs⟩,hk⟩:=h
    try rw [zac a0_Gates_f] at hs
    try rw [zac a0_Gates_f] at hk
    exact ⟨(fun _ _=>[]),(fun _=>false),zDU,q98 (⟨(⟨a0_Gates_n,a0_Gates_f⟩:(Sl Gate))⟩:list) K hs hk⟩
  · exact h.elim
abbrev T66:Tabs:=((Tabs.nil.addF 67 zoj).addF 98 zAI)
theorem zK6:TabsOk Try.prog T66:=((TabsOk.nil.addF zH1).addF zMI)
abbrev G66:Ctrs:=csm T66 (fun _ _=>[]) (fun _=>false)
def zIg:Ann:=⟨19,[(0,zK [1] [1]),(1,zK [1,3] [1,3]),(2,zK [1,3,9] [1,3]),(3,zK [2] []),(4,zK [2] [])],
 [],
 [],
 [],[]⟩
abbrev R66:=Bool
abbrev e66 (r:R66):List PA:=[.one (.bool r)]
section
variable {K:List PA→Prop} {s:set}
def s66 (s:set):Bool :=
  (cond (s67 s.list)
 (decide ((s98 s.list).Low≤(s98 s.list).High))
 (decide ((s.corners.len:Int) > (0:Int))))
def p66 (s:set):Bool :=
  (decide ((p98 s.list=true)) &&
 (decide ((p67 s.list=true)) &&
 true))
end
theorem q66 (s:set) (K:List PA→Prop) (hs:p66 s=true) (hk:K (e66 (s66 s))):vcFun Try.prog G66 zIg 66 [.agg (zaW s)] K :=
  zax (by kernel_rfl) (zaw hs fun hc hs=>And.intro (And.intro (zE enc_55 3 s.list.Gates.get) hc) (zaw hs fun hc hs=>And.intro (And.intro (zE enc_55 3 s.list.Gates.get) hc) (zt hk (fun hk=>hk) (fun hk=>hk))))
def zva : List PA → COut
  | [.agg [.sl a0_list_Gates_n a0_list_Gates_s a0_list_Gates_g,.sl a0_corners_n a0_corners_s a0_corners_g]]=>.det (IsE enc_55 3 a0_list_Gates_s a0_list_Gates_g∧IsE zaf 3 a0_corners_s a0_corners_g∧p66 (⟨(⟨(⟨a0_list_Gates_n,zad a0_list_Gates_g⟩:(Sl Gate))⟩:list),(⟨a0_corners_n,zaQ a0_corners_g⟩:(Sl straight))⟩:set)=true) [.one (.bool (s66 (⟨(⟨(⟨a0_list_Gates_n,zad a0_list_Gates_g⟩:(Sl Gate))⟩:list),(⟨a0_corners_n,zaQ a0_corners_g⟩:(Sl straight))⟩:set)))]
  | _=>.no
theorem zIh:zah Try.prog 66:=⟨_,rfl,rfl,by kernel_rfl⟩
theorem zK7:Ok Try.prog 66 zva:=zaz zK6 zIh fun args K h=>by
  unfold zva at h
  split at h
  · rename_i a0_list_Gates_n a0_list_Gates_s a0_list_Gates_g a0_corners_n a0_corners_s a0_corners_g
    obtain ⟨⟨⟨rfl,a0_list_Gates_f,rfl⟩,⟨rfl,a0_corners_f,rfl⟩,hs⟩,hk⟩:=h
    try rw [zac a0_list_Gates_f] at hs
    try rw [zac a0_list_Gates_f] at hk
    try rw [zaM a0_corners_f] at hs
    try rw [zaM a0_corners_f] at hk
    exact ⟨(fun _ _=>[]),(fun _=>false),zIg,q66 (⟨(⟨(⟨a0_list_Gates_n,a0_list_Gates_f⟩:(Sl Gate))⟩:list),(⟨a0_corners_n,a0_corners_f⟩:(Sl straight))⟩:set) K hs hk⟩
  · exact h.elim
abbrev zMJ:Tabs:=Tabs.nil
theorem zIi:TabsOk Try.prog zMJ:=TabsOk.nil
abbrev zNQ:Ctrs:=csm zMJ (fun _ _=>[]) (fun _=>false)
def zB7:Ann:=⟨6,[(0,zK [0] []),(1,zK [2] [])],
 [],
 [],
 [],[]⟩
abbrev zNR:=Bool
abbrev e120 (r:zNR):List PA:=[.one (.bool r)]
section
variable {K:List PA→Prop} {x:Int}
def zDW (x:Int):Bool :=
  (x != x)
end
theorem zNS (x:Int) (K:List PA→Prop) (hk:K (e120 (zDW x))):vcFun Try.prog zNQ zB7 120 [.one (.int .i64 x)] K :=
  zax (by kernel_rfl) hk
def zvb : List PA → COut
  | [.one (.int .i64 a0)]=>.tot [.one (.bool (zDW a0))]
  | _=>.no
theorem zDX:zah Try.prog 120:=⟨_,rfl,rfl,by kernel_rfl⟩
theorem zK8:Ok Try.prog 120 zvb:=zaz zIi zDX fun args K h=>by
  unfold zvb at h
  split at h
  · rename_i a0
    have hk:=h
    exact ⟨(fun _ _=>[]),(fun _=>false),zB7,zNS a0 K hk⟩
  · exact h.elim
abbrev zMK:Tabs:=(Tabs.nil.addF 120 zvb)
theorem zIj:TabsOk Try.prog zMK:=(TabsOk.nil.addF zK8)
abbrev zNT:Ctrs:=csm zMK (fun _ _=>[]) (fun _=>false)
def zB8:Ann:=⟨20,[(0,zK [0,1] []),(1,zK [0,1,5] []),(2,zK [0,1,5,6] []),(3,zK [0,1,6,11] []),(4,zK [12] []),(5,zK [4] []),(6,zK [4] []),(7,zK [0,1,13] []),(8,zK [4] []),(9,zK [0,1,16] []),(10,zK [4] []),(11,zK [19] []),(12,zK [4] []),(13,zK [4] [])],
 [],
 [],
 [],[]⟩
abbrev zNU:=Int
abbrev zNV (r:zNU):List PA:=[.one (.int .i64 r)]
section
variable {K:List PA→Prop} {x:Int} {y_a1:Int}
def zDY (x:Int) (y_a1:Int):Int :=
  (cond (zDW x)
 (cond (zDW y_a1)
 (0:Int)
 (-1:Int))
 (cond (zDW y_a1)
 (1:Int)
 (cond (decide (x < y_a1))
 (-1:Int)
 (cond (decide (x > y_a1))
 (1:Int)
 (0:Int)))))
end
theorem zNW (x:Int) (y_a1:Int) (K:List PA→Prop) (hk:K (zNV (zDY x y_a1))):vcFun Try.prog zNT zB8 103 [.one (.int .i64 x),.one (.int .i64 y_a1)] K :=
  zax (by kernel_rfl) (zt hk (fun hk=>(zt hk (fun hk=>hk) (fun hk=>hk))) (fun hk=>(zt hk (fun hk=>hk) (fun hk=>(zt hk (fun hk=>hk) (fun hk=>(zt hk (fun hk=>hk) (fun hk=>hk))))))))
def zvc : List PA → COut
  | [.one (.int .i64 a0),.one (.int .i64 a1)]=>.tot [.one (.int .i64 (zDY a0 a1))]
  | _=>.no
theorem zDZ:zah Try.prog 103:=⟨_,rfl,rfl,by kernel_rfl⟩
theorem zK9:Ok Try.prog 103 zvc:=zaz zIj zDZ fun args K h=>by
  unfold zvc at h
  split at h
  · rename_i a0 a1
    have hk:=h
    exact ⟨(fun _ _=>[]),(fun _=>false),zB8,zNW a0 a1 K hk⟩
  · exact h.elim
abbrev T69:Tabs:=(Tabs.nil.addF 103 zvc)
theorem zLa:TabsOk Try.prog T69:=(TabsOk.nil.addF zK9)
abbrev G69:Ctrs:=csm T69 (fun _ _=>[]) (fun _=>false)
def zIk:Ann:=⟨16,[(0,zK [2,3] [2,3]),(1,zK [4] [])],
 [],
 [],
 [],[]⟩
abbrev R69:=Int
abbrev e69 (r:R69):List PA:=[.one (.int .i64 r)]
section
variable {K:List PA→Prop} {a:Frac} {b:Frac}
def s69 (a:Frac) (b:Frac):Int :=
  (zDY (w64 (a.Num * b.Den)) (w64 (b.Num * a.Den)))
end
theorem q69 (a:Frac) (b:Frac) (K:List PA→Prop) (hk:K (e69 (s69 a b))):vcFun Try.prog G69 zIk 69 [.agg (zae a),.agg (zae b)] K :=
  zax (by kernel_rfl) hk
def zpF : List PA → COut
  | [.agg [.int .i64 a0_Num,.int .i64 a0_Den],.agg [.int .i64 a1_Num,.int .i64 a1_Den]]=>.tot [.one (.int .i64 (s69 (⟨a0_Num,a0_Den⟩:Frac) (⟨a1_Num,a1_Den⟩:Frac)))]
  | _=>.no
theorem zIl:zah Try.prog 69:=⟨_,rfl,rfl,by kernel_rfl⟩
theorem zKj:Ok Try.prog 69 zpF:=zaz zLa zIl fun args K h=>by
  unfold zpF at h
  split at h
  · rename_i a0_Num a0_Den a1_Num a1_Den
    have hk:=h
    exact ⟨(fun _ _=>[]),(fun _=>false),zIk,q69 (⟨a0_Num,a0_Den⟩:Frac) (⟨a1_Num,a1_Den⟩:Frac) K hk⟩
  · exact h.elim
abbrev T83:Tabs:=Tabs.nil
theorem zLb:TabsOk Try.prog T83:=TabsOk.nil
abbrev G83:Ctrs:=csm T83 (fun _ _=>[]) (fun _=>false)
def zIm:Ann:=⟨8,[(0,zK [1,2] [1,2]),(1,zK [2] [2])],
 [],
 [],
 [],[]⟩
abbrev R83:=Frac
abbrev e83 (r:R83):List PA:=[.agg [.int .i64 r.Num,.int .i64 r.Den]]
section
variable {K:List PA→Prop} {x:straight}
def s83 (x:straight):Frac :=
  (⟨x.slope,x.den⟩:Frac)
end
theorem q83 (x:straight) (K:List PA→Prop) (hk:K (e83 (s83 x))):vcFun Try.prog G83 zIm 83 [.agg (zaf x)] K :=
  zax (by kernel_rfl) hk
def zD0 : List PA → COut
  | [.agg [.int .i64 a0_slope,.int .i64 a0_start,.int .i64 a0_den]]=>.tot [.agg [.int .i64 ((s83 (⟨a0_slope,a0_start,a0_den⟩:straight)).Num),.int .i64 ((s83 (⟨a0_slope,a0_start,a0_den⟩:straight)).Den)]]
  | _=>.no
theorem zIn:zah Try.prog 83:=⟨_,rfl,rfl,by kernel_rfl⟩
theorem zNX:Ok Try.prog 83 zD0:=zaz zLb zIn fun args K h=>by
  unfold zD0 at h
  split at h
  · rename_i a0_slope a0_start a0_den
    have hk:=h
    exact ⟨(fun _ _=>[]),(fun _=>false),zIm,q83 (⟨a0_slope,a0_start,a0_den⟩:straight) K hk⟩
  · exact h.elim
abbrev zML:Tabs:=Tabs.nil
theorem zIo:TabsOk Try.prog zML:=TabsOk.nil
abbrev zNY:Ctrs:=csm zML (fun _ _=>[]) (fun _=>false)
def zB9:Ann:=⟨15,[(0,zK [1,2,4] [2,4]),(1,zK [4] [4])],
 [],
 [],
 [],[]⟩
abbrev zNZ:=Frac
abbrev zN0 (r:zNZ):List PA:=[.agg [.int .i64 r.Num,.int .i64 r.Den]]
section
variable {K:List PA→Prop} {s:straight} {z:Int}
def zIp (s:straight) (z:Int):Frac :=
  (⟨(w64 (s.start+(w64 (s.slope * z)))),s.den⟩:Frac)
end
theorem zN1 (s:straight) (z:Int) (K:List PA→Prop) (hk:K (zN0 (zIp s z))):vcFun Try.prog zNY zB9 102 [.agg (zaf s),.one (.int .i64 z)] K :=
  zax (by kernel_rfl) hk
def zvd : List PA → COut
  | [.agg [.int .i64 a0_slope,.int .i64 a0_start,.int .i64 a0_den],.one (.int .i64 a1)]=>.tot [.agg [.int .i64 ((zIp (⟨a0_slope,a0_start,a0_den⟩:straight) a1).Num),.int .i64 ((zIp (⟨a0_slope,a0_start,a0_den⟩:straight) a1).Den)]]
  | _=>.no
theorem zD1:zah Try.prog 102:=⟨_,rfl,rfl,by kernel_rfl⟩
theorem zLc:Ok Try.prog 102 zvd:=zaz zIo zD1 fun args K h=>by
  unfold zvd at h
  split at h
  · rename_i a0_slope a0_start a0_den a1
    have hk:=h
    exact ⟨(fun _ _=>[]),(fun _=>false),zB9,zN1 (⟨a0_slope,a0_start,a0_den⟩:straight) a1 K hk⟩
  · exact h.elim
abbrev zMM:Tabs:=(Tabs.nil.addF 102 zvd)
theorem zIq:TabsOk Try.prog zMM:=(TabsOk.nil.addF zLc)
abbrev zN2:Ctrs:=csm zMM (fun _ _=>[]) (fun _=>false)
def zCa:Ann:=⟨7,[(0,zK [1,2,3] [2,3]),(1,zK [3] [3])],
 [],
 [],
 [],[]⟩
abbrev zN3:=Frac
abbrev zN4 (r:zN3):List PA:=[.agg [.int .i64 r.Num,.int .i64 r.Den]]
section
variable {K:List PA→Prop} {c0:Int} {x:straight}
def zve (c0:Int) (x:straight):Frac :=
  (zIp x c0)
end
theorem zN5 (c0:Int) (x:straight) (K:List PA→Prop) (hk:K (zN4 (zve c0 x))):vcFun Try.prog zN2 zCa 101 [.agg (zaf x),.one (.fp (zal c0) 0)] K :=
  zax (by kernel_rfl) hk
def zvf : List PA → COut
  | [.agg [.int .i64 a0_slope,.int .i64 a0_start,.int .i64 a0_den],.one (.fp [.int .i64 c0] 0)]=>.tot [.agg [.int .i64 ((zve c0 (⟨a0_slope,a0_start,a0_den⟩:straight)).Num),.int .i64 ((zve c0 (⟨a0_slope,a0_start,a0_den⟩:straight)).Den)]]
  | _=>.no
theorem zD2:zah Try.prog 101:=⟨_,rfl,rfl,by kernel_rfl⟩
theorem zLd:Ok Try.prog 101 zvf:=zaz zIq zD2 fun args K h=>by
  unfold zvf at h
  split at h
  · rename_i a0_slope a0_start a0_den c0
    have hk:=h
    exact ⟨(fun _ _=>[]),(fun _=>false),zCa,zN5 c0 (⟨a0_slope,a0_start,a0_den⟩:straight) K hk⟩
  · exact h.elim
abbrev zMN:Tabs:=(Tabs.nil.addF 69 zpF)
theorem zIr:TabsOk Try.prog zMN:=(TabsOk.nil.addF zKj)
abbrev zN6:Ctrs:=csm zMN (fun _ _=>[]) (fun _=>false)
def zCb:Ann:=⟨9,[(0,zK [2,3] [2,3]),(1,zK [4] [])],
 [],
 [],
 [],[]⟩
abbrev zN7:=Bool
abbrev zN8 (r:zN7):List PA:=[.one (.bool r)]
section
variable {K:List PA→Prop} {a:Frac} {b:Frac}
def zAJ (a:Frac) (b:Frac):Bool :=
  (decide ((s69 a b) < (0:Int)))
end
theorem zN9 (a:Frac) (b:Frac) (K:List PA→Prop) (hk:K (zN8 (zAJ a b))):vcFun Try.prog zN6 zCb 112 [.agg (zae a),.agg (zae b)] K :=
  zax (by kernel_rfl) hk
def zvg : List PA → COut
  | [.agg [.int .i64 a0_Num,.int .i64 a0_Den],.agg [.int .i64 a1_Num,.int .i64 a1_Den]]=>.tot [.one (.bool (zAJ (⟨a0_Num,a0_Den⟩:Frac) (⟨a1_Num,a1_Den⟩:Frac)))]
  | _=>.no
theorem zD3:zah Try.prog 112:=⟨_,rfl,rfl,by kernel_rfl⟩
theorem zLe:Ok Try.prog 112 zvg:=zaz zIr zD3 fun args K h=>by
  unfold zvg at h
  split at h
  · rename_i a0_Num a0_Den a1_Num a1_Den
    have hk:=h
    exact ⟨(fun _ _=>[]),(fun _=>false),zCb,zN9 (⟨a0_Num,a0_Den⟩:Frac) (⟨a1_Num,a1_Den⟩:Frac) K hk⟩
  · exact h.elim
abbrev zMO:Tabs:=(Tabs.nil.addF 69 zpF)
theorem zIs:TabsOk Try.prog zMO:=(TabsOk.nil.addF zKj)
abbrev zOa:Ctrs:=csm zMO (fun _ _=>[]) (fun _=>false)
def zCc:Ann:=⟨9,[(0,zK [2,3] [2,3]),(1,zK [4] [])],
 [],
 [],
 [],[]⟩
abbrev zOb:=Bool
abbrev zOc (r:zOb):List PA:=[.one (.bool r)]
section
variable {K:List PA→Prop} {a:Frac} {b:Frac}
def zAK (a:Frac) (b:Frac):Bool :=
  (decide ((s69 a b) > (0:Int)))
end
theorem zOd (a:Frac) (b:Frac) (K:List PA→Prop) (hk:K (zOc (zAK a b))):vcFun Try.prog zOa zCc 113 [.agg (zae a),.agg (zae b)] K :=
  zax (by kernel_rfl) hk
def zvh : List PA → COut
  | [.agg [.int .i64 a0_Num,.int .i64 a0_Den],.agg [.int .i64 a1_Num,.int .i64 a1_Den]]=>.tot [.one (.bool (zAK (⟨a0_Num,a0_Den⟩:Frac) (⟨a1_Num,a1_Den⟩:Frac)))]
  | _=>.no
theorem zD4:zah Try.prog 113:=⟨_,rfl,rfl,by kernel_rfl⟩
theorem zLf:Ok Try.prog 113 zvh:=zaz zIs zD4 fun args K h=>by
  unfold zvh at h
  split at h
  · rename_i a0_Num a0_Den a1_Num a1_Den
    have hk:=h
    exact ⟨(fun _ _=>[]),(fun _=>false),zCc,zOd (⟨a0_Num,a0_Den⟩:Frac) (⟨a1_Num,a1_Den⟩:Frac) K hk⟩
  · exact h.elim
abbrev zLg:Tabs:=((Tabs.nil.addF 112 zvg).addF 113 zvh)
theorem zIt:TabsOk Try.prog zLg:=((TabsOk.nil.addF zLe).addF zLf)
abbrev zMP:Ctrs:=csm zLg (fun _ _=>[]) (fun _=>false)
def zvi:Ann:=⟨25,[(0,zK [0,1,4] [4]),(1,zK [0,1,4,5] [4,5]),(2,zK [1,4,5,12,13,14] [4,5]),(3,zK [1,4,5,12,13,14,15] [4,5]),(4,zK [1,4,5,7,12,13,14] [4,5,7]),(5,zK [1,4,5,7,12,13,14,21] [4,5,7]),(6,zK [1,4,5,12,13,14] [4,5]),(7,zK [1,4,5,12,13,14] [4,5]),(8,zK [4] [4])],
 [(3,zK [1,4,5,12,13,14] [4,5])],
 [(6,zK [1,4,5,7,12,13,14,21] [4,5,7])],
 [],[]⟩
abbrev zOe:=Frac
abbrev zKk (r:zOe):List PA:=[.agg [.int .i64 r.Num,.int .i64 r.Den]]
@[irreducible] def z111:=ptF Try.prog zMP zvi Try.f111
def zvj (l_a0:(Sl Frac)) (zaJ:(Sl Frac)) (zai:Int) (zao:Int) (zaq:Int) (zcb:Nat→List PV):St:=⟨[(1,zP (.fn 112 [] [])),(4,zp 4 0),(5,zp 5 0),(12,zP (.sl zaJ.len 2 zcb)),(13,zI (((l_a0.len:Int) - (1:Int)).toNat:Int)),(14,zI zai)],[(4,.box 25 (zm (zae (⟨(0:Int),(0:Int)⟩:Frac)))),(5,.box 25 (zm (zae (⟨zao,zaq⟩:Frac))))],[]⟩
abbrev zvk (K:List PA→Prop) (l_a0:(Sl Frac)) (X:St→Prop) (P:(Sl Frac)→Int→Int→Int→Bool) (S:(Sl Frac)→Int→Int→Int→Frac):Prop:=∀ ⦃zaJ:(Sl Frac)⦄ ⦃zai:Int⦄ ⦃zao:Int⦄ ⦃zaq:Int⦄ ⦃zcb:Nat→List PV⦄,P zaJ zai zao zaq=true→K (zKk (S zaJ zai zao zaq))→zcb=zg zae zaJ→X (zvj l_a0 zaJ zai zao zaq zcb)
section
variable {K:List PA→Prop} {l_a0:(Sl Frac)} {zaJ:(Sl Frac)} {zai:Int} {zao:Int} {zaq:Int} {zcb:Nat→List PV} {X0:St→Prop} {P0:(Sl Frac)→Int→Int→Int→Bool} {S0:(Sl Frac)→Int→Int→Int→Frac} {zdV:(Sl Frac)} {zaP:Int} {zfW:Bool} {zcp:Int} {zcq:Int} {zfX:Int} {zfY:Int} {zjx:Nat→List PV}
def zmp (S0:(Sl Frac)→Int→Int→Int→Frac) (l_a0:(Sl Frac)) (zdV:(Sl Frac)) (zaP:Int) (zfW:Bool) (zcp:Int) (zcq:Int) (zfX:Int) (zfY:Int):Frac :=
  (cond zfW
 (S0 zdV (w64 (zaP+(1:Int))) zfX zfY)
 (S0 zdV (w64 (zaP+(1:Int))) zcp zcq))
def zmq (P0:(Sl Frac)→Int→Int→Int→Bool) (l_a0:(Sl Frac)) (zdV:(Sl Frac)) (zaP:Int) (zfW:Bool) (zcp:Int) (zcq:Int) (zfX:Int) (zfY:Int):Bool :=
  (cond zfW
 (P0 zdV (w64 (zaP+(1:Int))) zfX zfY)
 (P0 zdV (w64 (zaP+(1:Int))) zcp zcq))
theorem zAL (hX0:zvk K l_a0 X0 P0 S0) (hs:zmq P0 l_a0 zdV zaP zfW zcp zcq zfX zfY=true) (hk:K (zKk (zmp S0 l_a0 zdV zaP zfW zcp zcq zfX zfY))) (zpG:zjx=zg zae zdV):z111 K [1,1,0,1,0,0,1,1,0,0,1,1] [X0] ⟨[(1,zP (.fn 112 [] [])),(4,zp 4 0),(5,zp 5 0),(7,zp 7 0),(12,zP (.sl zdV.len 2 zjx)),(13,zI (((l_a0.len:Int) - (1:Int)).toNat:Int)),(14,zI zaP),(21,zB zfW)],[(4,.box 25 (zm (zae (⟨(0:Int),(0:Int)⟩:Frac)))),(5,.box 25 (zm (zae (⟨zcp,zcq⟩:Frac)))),(7,.box 25 (zm (zae (⟨zfX,zfY⟩:Frac))))],[]⟩:=by subst zpG;exact zax (by kernel_rfl) (zc hs hk (fun hs hk=>(hX0 hs hk rfl)) (fun hs hk=>(hX0 hs hk rfl)))
def zfn (l_a0:(Sl Frac)) (S0:(Sl Frac)→Int→Int→Int→Frac) (zaJ:(Sl Frac)) (zai:Int) (zao:Int) (zaq:Int):Frac :=
  (cond (decide (zai < (((l_a0.len : Int) - (1:Int)).toNat : Int)))
 (zmp S0 l_a0 zaJ zai (zAJ (zaJ.get zai.toNat) (⟨zao,zaq⟩:Frac)) zao zaq ((zaJ.get zai.toNat).Num) ((zaJ.get zai.toNat).Den))
 (⟨zao,zaq⟩:Frac))
def zfo (l_a0:(Sl Frac)) (P0:(Sl Frac)→Int→Int→Int→Bool) (zaJ:(Sl Frac)) (zai:Int) (zao:Int) (zaq:Int):Bool :=
  (cond (decide (zai < (((l_a0.len : Int) - (1:Int)).toNat : Int)))
 (decide ((0≤zai∧zai < (zaJ.len:Int))) &&
 (zmq P0 l_a0 zaJ zai (zAJ (zaJ.get zai.toNat) (⟨zao,zaq⟩:Frac)) zao zaq ((zaJ.get zai.toNat).Num) ((zaJ.get zai.toNat).Den)))
 true)
def zfp (l_a0:(Sl Frac)):Nat→(Sl Frac)→Int→Int→Int→Frac:=lpO (fun _ _ _ _=>default) (zfn l_a0)
def zfq (l_a0:(Sl Frac)):Nat→(Sl Frac)→Int→Int→Int→Bool:=lpO (fun _ _ _ _=>false) (zfo l_a0)
def zr2 (l_a0:(Sl Frac)) (zaJ:(Sl Frac)) (zai:Int) (zao:Int) (zaq:Int):Frac:=zfp l_a0 Fuel zaJ zai zao zaq
def zr3 (l_a0:(Sl Frac)) (zaJ:(Sl Frac)) (zai:Int) (zao:Int) (zaq:Int):Bool:=zfq l_a0 Fuel zaJ zai zao zaq
theorem zAM (hs:zr3 l_a0 zaJ zai zao zaq=true) (hk:K (zKk (zr2 l_a0 zaJ zai zao zaq))) (zfZ:zcb=zg zae zaJ):z111 K [1,1,0,1,0] [] (zvj l_a0 zaJ zai zao zaq zcb) :=
  zl (fun X=>z111 K [1,1,0,1,0,0] [X]) (by kernel_rfl) fun X0 hX =>
  (show ∀ k, zvk K l_a0 X0 (zfq l_a0 k) (zfp l_a0 k) from zgh _ _ (zfo l_a0) (zfn l_a0) (zvk K l_a0 X0)
 (by intro _ _ _ _ _ hs;exact absurd hs Bool.false_ne_true)
 (by intro P0 S0 hX0 zaJ zai zao zaq zcb hs hk zfZ;subst zfZ;exact hX _ (zax (by kernel_rfl) (zc hs hk (fun hs hk=>(zaw hs fun hc hs=>And.intro hc (zAL hX0 hs hk rfl))) (fun hs hk=>hk))))) _ hs hk zfZ
def zpH (l_a0:(Sl Frac)):Frac :=
  (zr2 l_a0 (⟨((l_a0.len:Int) - (1:Int)).toNat,(fun i=>l_a0.get (i+((1:Int).toNat)))⟩:Sl Frac) (0:Int) ((l_a0.get 0).Num) ((l_a0.get 0).Den))
def zGZ (l_a0:(Sl Frac)):Bool :=
  (decide ((0≤(0:Int)∧(0:Int) < (l_a0.len:Int))) &&
 (decide ((0≤(1:Int)∧(1:Int)≤(l_a0.len:Int)∧(l_a0.len:Int)≤(l_a0.len:Int))) &&
 (zr3 l_a0 (⟨((l_a0.len:Int) - (1:Int)).toNat,(fun i=>l_a0.get (i+((1:Int).toNat)))⟩:Sl Frac) (0:Int) ((l_a0.get 0).Num) ((l_a0.get 0).Den))))
end
theorem zOf (l_a0:(Sl Frac)) (K:List PA→Prop) (hs:zGZ l_a0=true) (hk:K (zKk (zpH l_a0))):vcFun Try.prog zMP zvi 111 [.one (.sl l_a0.len 2 (fun i=>zae (l_a0.get i))),.one (.fn 112 [] [])] K :=
  zax (by kernel_rfl) (zaw hs fun hc hs=>And.intro hc (zaw hs fun hc hs=>And.intro hc (zAM hs hk rfl)))
abbrev zIu:Ctrs:=csm zLg (fun _ _=>[]) (fun _=>false)
def zpI:Ann:=⟨25,[(0,zK [0,1,4] [4]),(1,zK [0,1,4,5] [4,5]),(2,zK [1,4,5,12,13,14] [4,5]),(3,zK [1,4,5,12,13,14,15] [4,5]),(4,zK [1,4,5,7,12,13,14] [4,5,7]),(5,zK [1,4,5,7,12,13,14,21] [4,5,7]),(6,zK [1,4,5,12,13,14] [4,5]),(7,zK [1,4,5,12,13,14] [4,5]),(8,zK [4] [4])],
 [(3,zK [1,4,5,12,13,14] [4,5])],
 [(6,zK [1,4,5,7,12,13,14,21] [4,5,7])],
 [],[]⟩
abbrev zLh:=Frac
abbrev zAN (r:zLh):List PA:=[.agg [.int .i64 r.Num,.int .i64 r.Den]]
@[irreducible] def z111a:=ptF Try.prog zIu zpI Try.f111
def zr4 (l_a0:(Sl Frac)) (zaJ:(Sl Frac)) (zai:Int) (zao:Int) (zaq:Int) (zcb:Nat→List PV):St:=⟨[(1,zP (.fn 113 [] [])),(4,zp 4 0),(5,zp 5 0),(12,zP (.sl zaJ.len 2 zcb)),(13,zI (((l_a0.len:Int) - (1:Int)).toNat:Int)),(14,zI zai)],[(4,.box 25 (zm (zae (⟨(0:Int),(0:Int)⟩:Frac)))),(5,.box 25 (zm (zae (⟨zao,zaq⟩:Frac))))],[]⟩
abbrev zpJ (K:List PA→Prop) (l_a0:(Sl Frac)) (X:St→Prop) (P:(Sl Frac)→Int→Int→Int→Bool) (S:(Sl Frac)→Int→Int→Int→Frac):Prop:=∀ ⦃zaJ:(Sl Frac)⦄ ⦃zai:Int⦄ ⦃zao:Int⦄ ⦃zaq:Int⦄ ⦃zcb:Nat→List PV⦄,P zaJ zai zao zaq=true→K (zAN (S zaJ zai zao zaq))→zcb=zg zae zaJ→X (zr4 l_a0 zaJ zai zao zaq zcb)
section
variable {K:List PA→Prop} {l_a0:(Sl Frac)} {zaJ:(Sl Frac)} {zai:Int} {zao:Int} {zaq:Int} {zcb:Nat→List PV} {X0:St→Prop} {P0:(Sl Frac)→Int→Int→Int→Bool} {S0:(Sl Frac)→Int→Int→Int→Frac} {zdV:(Sl Frac)} {zaP:Int} {zfW:Bool} {zcp:Int} {zcq:Int} {zfX:Int} {zfY:Int} {zjx:Nat→List PV}
def zjy (S0:(Sl Frac)→Int→Int→Int→Frac) (l_a0:(Sl Frac)) (zdV:(Sl Frac)) (zaP:Int) (zfW:Bool) (zcp:Int) (zcq:Int) (zfX:Int) (zfY:Int):Frac :=
  (cond zfW
 (S0 zdV (w64 (zaP+(1:Int))) zfX zfY)
 (S0 zdV (w64 (zaP+(1:Int))) zcp zcq))
def zjz (P0:(Sl Frac)→Int→Int→Int→Bool) (l_a0:(Sl Frac)) (zdV:(Sl Frac)) (zaP:Int) (zfW:Bool) (zcp:Int) (zcq:Int) (zfX:Int) (zfY:Int):Bool :=
  (cond zfW
 (P0 zdV (w64 (zaP+(1:Int))) zfX zfY)
 (P0 zdV (w64 (zaP+(1:Int))) zcp zcq))
theorem zvl (hX0:zpJ K l_a0 X0 P0 S0) (hs:zjz P0 l_a0 zdV zaP zfW zcp zcq zfX zfY=true) (hk:K (zAN (zjy S0 l_a0 zdV zaP zfW zcp zcq zfX zfY))) (zpG:zjx=zg zae zdV):z111a K [1,1,0,1,0,0,1,1,0,0,1,1] [X0] ⟨[(1,zP (.fn 113 [] [])),(4,zp 4 0),(5,zp 5 0),(7,zp 7 0),(12,zP (.sl zdV.len 2 zjx)),(13,zI (((l_a0.len:Int) - (1:Int)).toNat:Int)),(14,zI zaP),(21,zB zfW)],[(4,.box 25 (zm (zae (⟨(0:Int),(0:Int)⟩:Frac)))),(5,.box 25 (zm (zae (⟨zcp,zcq⟩:Frac)))),(7,.box 25 (zm (zae (⟨zfX,zfY⟩:Frac))))],[]⟩:=by subst zpG;exact zax (by kernel_rfl) (zc hs hk (fun hs hk=>(hX0 hs hk rfl)) (fun hs hk=>(hX0 hs hk rfl)))
def zd7 (l_a0:(Sl Frac)) (S0:(Sl Frac)→Int→Int→Int→Frac) (zaJ:(Sl Frac)) (zai:Int) (zao:Int) (zaq:Int):Frac :=
  (cond (decide (zai < (((l_a0.len : Int) - (1:Int)).toNat : Int)))
 (zjy S0 l_a0 zaJ zai (zAK (zaJ.get zai.toNat) (⟨zao,zaq⟩:Frac)) zao zaq ((zaJ.get zai.toNat).Num) ((zaJ.get zai.toNat).Den))
 (⟨zao,zaq⟩:Frac))
def zd8 (l_a0:(Sl Frac)) (P0:(Sl Frac)→Int→Int→Int→Bool) (zaJ:(Sl Frac)) (zai:Int) (zao:Int) (zaq:Int):Bool :=
  (cond (decide (zai < (((l_a0.len : Int) - (1:Int)).toNat : Int)))
 (decide ((0≤zai∧zai < (zaJ.len:Int))) &&
 (zjz P0 l_a0 zaJ zai (zAK (zaJ.get zai.toNat) (⟨zao,zaq⟩:Frac)) zao zaq ((zaJ.get zai.toNat).Num) ((zaJ.get zai.toNat).Den)))
 true)
def zd9 (l_a0:(Sl Frac)):Nat→(Sl Frac)→Int→Int→Int→Frac:=lpO (fun _ _ _ _=>default) (zd7 l_a0)
def zea (l_a0:(Sl Frac)):Nat→(Sl Frac)→Int→Int→Int→Bool:=lpO (fun _ _ _ _=>false) (zd8 l_a0)
def zoo (l_a0:(Sl Frac)) (zaJ:(Sl Frac)) (zai:Int) (zao:Int) (zaq:Int):Frac:=zd9 l_a0 Fuel zaJ zai zao zaq
def zop (l_a0:(Sl Frac)) (zaJ:(Sl Frac)) (zai:Int) (zao:Int) (zaq:Int):Bool:=zea l_a0 Fuel zaJ zai zao zaq
theorem zvm (hs:zop l_a0 zaJ zai zao zaq=true) (hk:K (zAN (zoo l_a0 zaJ zai zao zaq))) (zfZ:zcb=zg zae zaJ):z111a K [1,1,0,1,0] [] (zr4 l_a0 zaJ zai zao zaq zcb) :=
  zl (fun X=>z111a K [1,1,0,1,0,0] [X]) (by kernel_rfl) fun X0 hX =>
  (show ∀ k, zpJ K l_a0 X0 (zea l_a0 k) (zd9 l_a0 k) from zgh _ _ (zd8 l_a0) (zd7 l_a0) (zpJ K l_a0 X0)
 (by intro _ _ _ _ _ hs;exact absurd hs Bool.false_ne_true)
 (by intro P0 S0 hX0 zaJ zai zao zaq zcb hs hk zfZ;subst zfZ;exact hX _ (zax (by kernel_rfl) (zc hs hk (fun hs hk=>(zaw hs fun hc hs=>And.intro hc (zvl hX0 hs hk rfl))) (fun hs hk=>hk))))) _ hs hk zfZ
def s111a (l_a0:(Sl Frac)):Frac :=
  (zoo l_a0 (⟨((l_a0.len:Int) - (1:Int)).toNat,(fun i=>l_a0.get (i+((1:Int).toNat)))⟩:Sl Frac) (0:Int) ((l_a0.get 0).Num) ((l_a0.get 0).Den))
def zti (l_a0:(Sl Frac)):Bool :=
  (decide ((0≤(0:Int)∧(0:Int) < (l_a0.len:Int))) &&
 (decide ((0≤(1:Int)∧(1:Int)≤(l_a0.len:Int)∧(l_a0.len:Int)≤(l_a0.len:Int))) &&
 (zop l_a0 (⟨((l_a0.len:Int) - (1:Int)).toNat,(fun i=>l_a0.get (i+((1:Int).toNat)))⟩:Sl Frac) (0:Int) ((l_a0.get 0).Num) ((l_a0.get 0).Den))))
end
theorem zLi (l_a0:(Sl Frac)) (K:List PA→Prop) (hs:zti l_a0=true) (hk:K (zAN (s111a l_a0))):vcFun Try.prog zIu zpI 111 [.one (.sl l_a0.len 2 (fun i=>zae (l_a0.get i))),.one (.fn 113 [] [])] K :=
  zax (by kernel_rfl) (zaw hs fun hc hs=>And.intro hc (zaw hs fun hc hs=>And.intro hc (zvm hs hk rfl)))
def zvn : List PA → COut
  | [.one (.sl a0_n a0_s a0_g),.one (.fn 112 [] [])]=>.det (IsE zae 2 a0_s a0_g∧zGZ (⟨a0_n,zfU a0_g⟩:(Sl Frac))=true) [.agg [.int .i64 ((zpH (⟨a0_n,zfU a0_g⟩:(Sl Frac))).Num),.int .i64 ((zpH (⟨a0_n,zfU a0_g⟩:(Sl Frac))).Den)]]
  | [.one (.sl a0_n a0_s a0_g),.one (.fn 113 [] [])]=>.det (IsE zae 2 a0_s a0_g∧zti (⟨a0_n,zfU a0_g⟩:(Sl Frac))=true) [.agg [.int .i64 ((s111a (⟨a0_n,zfU a0_g⟩:(Sl Frac))).Num),.int .i64 ((s111a (⟨a0_n,zfU a0_g⟩:(Sl Frac))).Den)]]
  | _=>.no
theorem zD5:zah Try.prog 111:=⟨_,rfl,rfl,by kernel_rfl⟩
theorem zLj:Ok Try.prog 111 zvn:=zaz zIt zD5 fun args K h=>by
  unfold zvn at h
  split at h
  · rename_i a0_n a0_s a0_g
    obtain ⟨⟨⟨rfl,a0_f,rfl⟩,hs⟩,hk⟩:=h
    try rw [zer a0_f] at hs
    try rw [zer a0_f] at hk
    exact ⟨(fun _ _=>[]),(fun _=>false),zvi,zOf (⟨a0_n,a0_f⟩:(Sl Frac)) K hs hk⟩
  · rename_i a0_n a0_s a0_g
    obtain ⟨⟨⟨rfl,a0_f,rfl⟩,hs⟩,hk⟩:=h
    try rw [zer a0_f] at hs
    try rw [zer a0_f] at hk
    exact ⟨(fun _ _=>[]),(fun _=>false),zpI,zLi (⟨a0_n,a0_f⟩:(Sl Frac)) K hs hk⟩
  · exact h.elim
abbrev T82:Tabs:=((((Tabs.nil.addF 83 zD0).addF 89 zpz).addF 101 zvf).addF 111 zvn)
theorem zLk:TabsOk Try.prog T82:=((((TabsOk.nil.addF zNX).addF zKi).addF zLd).addF zLj)
abbrev G82:Ctrs:=csm T82 (fun _ _=>[]) (fun _=>false)
def zD6:Ann:=⟨39,[(0,zK [1,2,4,5] [2,4,5]),(1,zK [1,2,4,5,6] [2,4,5]),(2,zK [1,4,5,6,12,13,14] [4,5]),(3,zK [1,4,5,6,12,13,14,15] [4,5,23]),(4,zK [1,4,5,6,8,12,13,14] [4,5,8,23]),(5,zK [1,4,5,6,12,13,14] [4,5,23]),(6,zK [1,4,5,6,12,13,14] [4,5,23]),(7,zK [4,5,6,9] [4,5,9,23]),(8,zK [4,5,9,10] [4,5,9,10]),(9,zK [4,5] [4,5])],
 [(3,⟨[1,4,5,6,12,13,14],[4,5,23],[(6,23,25,fun _=>zae default)],[],[],[],[]⟩)],
 [(7,zK [4,5,6] [4,5,23]),(8,zK [4,5,6,9] [4,5,9,23]),(9,zK [4,5,9,10] [4,5,9,10])],
 [],[]⟩
abbrev R82:=(Frac×Frac)
abbrev e82 (r:R82):List PA:=[.agg [.int .i64 r.1.Num,.int .i64 r.1.Den],.agg [.int .i64 r.2.Num,.int .i64 r.2.Den]]
@[irreducible] def z82:=ptF Try.prog G82 zD6 Try.f82
def zCd (c0:Int) (s:set) (zai:Int) (za2:(Sl Frac)) (zcc:Nat→List PV):St:=⟨[(1,zP (.fn 101 [] [.fp (zal c0) 0])),(4,zp 4 0),(5,zp 5 0),(6,zv 23),(12,zS zaf 3 s.corners),(13,zI (s.corners.len:Int)),(14,zI zai)],[(4,.box 25 (zm (zae (⟨(0:Int),(0:Int)⟩:Frac)))),(5,.box 25 (zm (zae (⟨(0:Int),(0:Int)⟩:Frac)))),(23,.vec 25 2 16 za2.len zcc)],[]⟩
abbrev zIv (K:List PA→Prop) (c0:Int) (s:set) (X:St→Prop) (P:Int→(Sl Frac)→Bool) (S:Int→(Sl Frac)→(Frac×Frac)):Prop:=∀ ⦃zai:Int⦄ ⦃za2:(Sl Frac)⦄ ⦃zcc:Nat→List PV⦄,P zai za2=true→K (e82 (S zai za2))→zcc=zg zae za2→X (zCd c0 s zai za2 zcc)
section
variable {K:List PA→Prop} {c0:Int} {s:set} {zai:Int} {za2:(Sl Frac)} {zcc:Nat→List PV} {X0:St→Prop} {P0:Int→(Sl Frac)→Bool} {S0:Int→(Sl Frac)→(Frac×Frac)} {zcC:(Sl Frac)} {zjA:Nat→List PV} {za3:Int} {za4:Int} {zc8:(Sl Frac)} {zjB:Nat→List PV} {zbS:Int} {zbT:Int}
def zpK (za3:Int) (za4:Int) (zbS:Int) (zbT:Int):(Frac×Frac) :=
  ((s89 za3 za4),(s89 zbS zbT))
def zpL (za3:Int) (za4:Int) (zbS:Int) (zbT:Int):Bool :=
  (decide ((p89 za3 za4=true)) &&
 (decide ((p89 zbS zbT=true)) &&
 true))
theorem zD7 (hs:zpL za3 za4 zbS zbT=true) (hk:K (e82 (zpK za3 za4 zbS zbT))):z82 K [1,1,1,1,1] [] ⟨[(4,zp 4 0),(5,zp 5 0),(9,zp 9 0),(10,zp 10 0)],[(4,.box 25 (zm (zae (⟨(0:Int),(0:Int)⟩:Frac)))),(5,.box 25 (zm (zae (⟨(0:Int),(0:Int)⟩:Frac)))),(9,.box 25 (zm (zae (⟨za3,za4⟩:Frac)))),(10,.box 25 (zm (zae (⟨zbS,zbT⟩:Frac))))],[]⟩:=zax (by kernel_rfl) (zaw hs fun hc hs=>And.intro hc (zaw hs fun hc hs=>And.intro hc hk))
def zpM (za3:Int) (za4:Int) (zc8:(Sl Frac)):(Frac×Frac) :=
  (zpK za3 za4 ((s111a zc8).Num) ((s111a zc8).Den))
def zpN (za3:Int) (za4:Int) (zc8:(Sl Frac)):Bool :=
  (decide ((zti zc8=true)) &&
 (zpL za3 za4 ((s111a zc8).Num) ((s111a zc8).Den)))
theorem zD8 (hs:zpN za3 za4 zc8=true) (hk:K (e82 (zpM za3 za4 zc8))) (zpO:zjB=zg zae zc8):z82 K [1,1,1,1] [] ⟨[(4,zp 4 0),(5,zp 5 0),(6,zv 23),(9,zp 9 0)],[(4,.box 25 (zm (zae (⟨(0:Int),(0:Int)⟩:Frac)))),(5,.box 25 (zm (zae (⟨(0:Int),(0:Int)⟩:Frac)))),(9,.box 25 (zm (zae (⟨za3,za4⟩:Frac)))),(23,.vec 25 2 16 zc8.len zjB)],[]⟩:=by subst zpO;exact zax (by kernel_rfl) (zaw hs fun hc hs=>And.intro (And.intro (zE zae 2 zc8.get) hc) (zD7 hs hk))
def zex (zcC:(Sl Frac)):(Frac×Frac) :=
  (zpM ((zpH zcC).Num) ((zpH zcC).Den) zcC)
def zmr (zcC:(Sl Frac)):Bool :=
  (decide ((zGZ zcC=true)) &&
 (zpN ((zpH zcC).Num) ((zpH zcC).Den) zcC))
theorem zD9 (hs:zmr zcC=true) (hk:K (e82 (zex zcC))) (zpP:zjA=zg zae zcC):z82 K [1,1,1] [] ⟨[(4,zp 4 0),(5,zp 5 0),(6,zv 23)],[(4,.box 25 (zm (zae (⟨(0:Int),(0:Int)⟩:Frac)))),(5,.box 25 (zm (zae (⟨(0:Int),(0:Int)⟩:Frac)))),(23,.vec 25 2 16 zcC.len zjA)],[]⟩:=by subst zpP;exact zax (by kernel_rfl) (zaw hs fun hc hs=>And.intro (And.intro (zE zae 2 zcC.get) hc) (zD8 hs hk rfl))
def zhi (c0:Int) (s:set) (S0:Int→(Sl Frac)→(Frac×Frac)) (zai:Int) (za2:(Sl Frac)):(Frac×Frac) :=
  (cond (decide (zai < (s.corners.len : Int)))
 (S0 (w64 (zai+(1:Int))) (⟨(za2.len+1),(zd5 za2.len za2.get (fun _=>(zve c0 (s.corners.get zai.toNat))))⟩:Sl Frac))
 (zex za2))
def zhj (c0:Int) (s:set) (P0:Int→(Sl Frac)→Bool) (zai:Int) (za2:(Sl Frac)):Bool :=
  (cond (decide (zai < (s.corners.len : Int)))
 (decide ((0≤zai∧zai < (s.corners.len:Int))) &&
 (decide (((za2.len+1) * 16≤140737488355328∧za2.len+1≤9223372036854775807)) &&
 (P0 (w64 (zai+(1:Int))) (⟨(za2.len+1),(zd5 za2.len za2.get (fun _=>(zve c0 (s.corners.get zai.toNat))))⟩:Sl Frac))))
 (zmr za2))
def zhk (c0:Int) (s:set):Nat→Int→(Sl Frac)→(Frac×Frac):=lpO (fun _ _=>default) (zhi c0 s)
def zhl (c0:Int) (s:set):Nat→Int→(Sl Frac)→Bool:=lpO (fun _ _=>false) (zhj c0 s)
def zvo (c0:Int) (s:set) (zai:Int) (za2:(Sl Frac)):(Frac×Frac):=zhk c0 s Fuel zai za2
def zvp (c0:Int) (s:set) (zai:Int) (za2:(Sl Frac)):Bool:=zhl c0 s Fuel zai za2
theorem zEa (hs:zvp c0 s zai za2=true) (hk:K (e82 (zvo c0 s zai za2))) (zf0:zcc=zg zae za2):z82 K [1,1,0,1,0] [] (zCd c0 s zai za2 zcc) :=
  zl (fun X=>z82 K [1,1,0,1,0,0] [X]) (by kernel_rfl) fun X0 hX =>
  (show ∀ k, zIv K c0 s X0 (zhl c0 s k) (zhk c0 s k) from zgh _ _ (zhj c0 s) (zhi c0 s) (zIv K c0 s X0)
 (by intro _ _ _ hs;exact absurd hs Bool.false_ne_true)
 (by intro P0 S0 hX0 zai za2 zcc hs hk zf0;subst zf0;exact hX _ (zax (by kernel_rfl) (zc hs hk (fun hs hk=>(zaw hs fun hc hs=>And.intro hc (zaw hs fun hc hs=>And.intro hc (hX0 hs hk (zjk (enc:=zae) (f:=za2.get) (h:=(fun _=>(zve c0 (s.corners.get zai.toNat)))) rfl rfl))))) (fun hs hk=>(zD9 hs hk rfl)))))) _ hs hk zf0
def s82 (c0:Int) (s:set):(Frac×Frac) :=
  (zvo c0 s (0:Int) (⟨0,(fun _=>default)⟩:Sl Frac))
def p82 (c0:Int) (s:set):Bool :=
  (zvp c0 s (0:Int) (⟨0,(fun _=>default)⟩:Sl Frac))
end
theorem q82 (c0:Int) (s:set) (K:List PA→Prop) (hs:p82 c0 s=true) (hk:K (e82 (s82 c0 s))):vcFun Try.prog G82 zD6 82 [.agg (zaW s),.one (.fn 101 [] [.fp (zal c0) 0])] K :=
  zax (by kernel_rfl) (zEa hs hk rfl)
abbrev zMQ:Ctrs:=csm T82 (fun _ _=>[]) (fun _=>false)
def zvq:Ann:=⟨39,[(0,zK [1,2,4,5] [2,4,5]),(1,zK [1,2,4,5,6] [2,4,5]),(2,zK [1,4,5,6,12,13,14] [4,5]),(3,zK [1,4,5,6,12,13,14,15] [4,5,23]),(4,zK [1,4,5,6,8,12,13,14] [4,5,8,23]),(5,zK [1,4,5,6,12,13,14] [4,5,23]),(6,zK [1,4,5,6,12,13,14] [4,5,23]),(7,zK [4,5,6,9] [4,5,9,23]),(8,zK [4,5,9,10] [4,5,9,10]),(9,zK [4,5] [4,5])],
 [(3,⟨[1,4,5,6,12,13,14],[4,5,23],[(6,23,25,fun _=>zae default)],[],[],[],[]⟩)],
 [(7,zK [4,5,6] [4,5,23]),(8,zK [4,5,6,9] [4,5,9,23]),(9,zK [4,5,9,10] [4,5,9,10])],
 [],[]⟩
abbrev zOg:=(Frac×Frac)
abbrev zG0 (r:zOg):List PA:=[.agg [.int .i64 r.1.Num,.int .i64 r.1.Den],.agg [.int .i64 r.2.Num,.int .i64 r.2.Den]]
@[irreducible] def z82a:=ptF Try.prog zMQ zvq Try.f82
def zvr (s:set) (zai:Int) (za2:(Sl Frac)) (zcc:Nat→List PV):St:=⟨[(1,zP (.fn 83 [] [])),(4,zp 4 0),(5,zp 5 0),(6,zv 23),(12,zS zaf 3 s.corners),(13,zI (s.corners.len:Int)),(14,zI zai)],[(4,.box 25 (zm (zae (⟨(0:Int),(0:Int)⟩:Frac)))),(5,.box 25 (zm (zae (⟨(0:Int),(0:Int)⟩:Frac)))),(23,.vec 25 2 16 za2.len zcc)],[]⟩
abbrev zCe (K:List PA→Prop) (s:set) (X:St→Prop) (P:Int→(Sl Frac)→Bool) (S:Int→(Sl Frac)→(Frac×Frac)):Prop:=∀ ⦃zai:Int⦄ ⦃za2:(Sl Frac)⦄ ⦃zcc:Nat→List PV⦄,P zai za2=true→K (zG0 (S zai za2))→zcc=zg zae za2→X (zvr s zai za2 zcc)
section
variable {K:List PA→Prop} {s:set} {zai:Int} {za2:(Sl Frac)} {zcc:Nat→List PV} {X0:St→Prop} {P0:Int→(Sl Frac)→Bool} {S0:Int→(Sl Frac)→(Frac×Frac)} {zcC:(Sl Frac)} {zjA:Nat→List PV} {za3:Int} {za4:Int} {zc8:(Sl Frac)} {zjB:Nat→List PV} {zbS:Int} {zbT:Int}
def zr5 (za3:Int) (za4:Int) (zbS:Int) (zbT:Int):(Frac×Frac) :=
  ((s89 za3 za4),(s89 zbS zbT))
def zr6 (za3:Int) (za4:Int) (zbS:Int) (zbT:Int):Bool :=
  (decide ((p89 za3 za4=true)) &&
 (decide ((p89 zbS zbT=true)) &&
 true))
theorem zAO (hs:zr6 za3 za4 zbS zbT=true) (hk:K (zG0 (zr5 za3 za4 zbS zbT))):z82a K [1,1,1,1,1] [] ⟨[(4,zp 4 0),(5,zp 5 0),(9,zp 9 0),(10,zp 10 0)],[(4,.box 25 (zm (zae (⟨(0:Int),(0:Int)⟩:Frac)))),(5,.box 25 (zm (zae (⟨(0:Int),(0:Int)⟩:Frac)))),(9,.box 25 (zm (zae (⟨za3,za4⟩:Frac)))),(10,.box 25 (zm (zae (⟨zbS,zbT⟩:Frac))))],[]⟩:=zax (by kernel_rfl) (zaw hs fun hc hs=>And.intro hc (zaw hs fun hc hs=>And.intro hc hk))
def zr7 (za3:Int) (za4:Int) (zc8:(Sl Frac)):(Frac×Frac) :=
  (zr5 za3 za4 ((s111a zc8).Num) ((s111a zc8).Den))
def zr8 (za3:Int) (za4:Int) (zc8:(Sl Frac)):Bool :=
  (decide ((zti zc8=true)) &&
 (zr6 za3 za4 ((s111a zc8).Num) ((s111a zc8).Den)))
theorem zAP (hs:zr8 za3 za4 zc8=true) (hk:K (zG0 (zr7 za3 za4 zc8))) (zpO:zjB=zg zae zc8):z82a K [1,1,1,1] [] ⟨[(4,zp 4 0),(5,zp 5 0),(6,zv 23),(9,zp 9 0)],[(4,.box 25 (zm (zae (⟨(0:Int),(0:Int)⟩:Frac)))),(5,.box 25 (zm (zae (⟨(0:Int),(0:Int)⟩:Frac)))),(9,.box 25 (zm (zae (⟨za3,za4⟩:Frac)))),(23,.vec 25 2 16 zc8.len zjB)],[]⟩:=by subst zpO;exact zax (by kernel_rfl) (zaw hs fun hc hs=>And.intro (And.intro (zE zae 2 zc8.get) hc) (zAO hs hk))
def zr9 (zcC:(Sl Frac)):(Frac×Frac) :=
  (zr7 ((zpH zcC).Num) ((zpH zcC).Den) zcC)
def zsa (zcC:(Sl Frac)):Bool :=
  (decide ((zGZ zcC=true)) &&
 (zr8 ((zpH zcC).Num) ((zpH zcC).Den) zcC))
theorem zAQ (hs:zsa zcC=true) (hk:K (zG0 (zr9 zcC))) (zpP:zjA=zg zae zcC):z82a K [1,1,1] [] ⟨[(4,zp 4 0),(5,zp 5 0),(6,zv 23)],[(4,.box 25 (zm (zae (⟨(0:Int),(0:Int)⟩:Frac)))),(5,.box 25 (zm (zae (⟨(0:Int),(0:Int)⟩:Frac)))),(23,.vec 25 2 16 zcC.len zjA)],[]⟩:=by subst zpP;exact zax (by kernel_rfl) (zaw hs fun hc hs=>And.intro (And.intro (zE zae 2 zcC.get) hc) (zAP hs hk rfl))
def zfr (s:set) (S0:Int→(Sl Frac)→(Frac×Frac)) (zai:Int) (za2:(Sl Frac)):(Frac×Frac) :=
  (cond (decide (zai < (s.corners.len : Int)))
 (S0 (w64 (zai+(1:Int))) (⟨(za2.len+1),(zd5 za2.len za2.get (fun _=>(s83 (s.corners.get zai.toNat))))⟩:Sl Frac))
 (zr9 za2))
def zfs (s:set) (P0:Int→(Sl Frac)→Bool) (zai:Int) (za2:(Sl Frac)):Bool :=
  (cond (decide (zai < (s.corners.len : Int)))
 (decide ((0≤zai∧zai < (s.corners.len:Int))) &&
 (decide (((za2.len+1) * 16≤140737488355328∧za2.len+1≤9223372036854775807)) &&
 (P0 (w64 (zai+(1:Int))) (⟨(za2.len+1),(zd5 za2.len za2.get (fun _=>(s83 (s.corners.get zai.toNat))))⟩:Sl Frac))))
 (zsa za2))
def zft (s:set):Nat→Int→(Sl Frac)→(Frac×Frac):=lpO (fun _ _=>default) (zfr s)
def zfu (s:set):Nat→Int→(Sl Frac)→Bool:=lpO (fun _ _=>false) (zfs s)
def zsb (s:set) (zai:Int) (za2:(Sl Frac)):(Frac×Frac):=zft s Fuel zai za2
def zsc (s:set) (zai:Int) (za2:(Sl Frac)):Bool:=zfu s Fuel zai za2
theorem zAR (hs:zsc s zai za2=true) (hk:K (zG0 (zsb s zai za2))) (zf0:zcc=zg zae za2):z82a K [1,1,0,1,0] [] (zvr s zai za2 zcc) :=
  zl (fun X=>z82a K [1,1,0,1,0,0] [X]) (by kernel_rfl) fun X0 hX =>
  (show ∀ k, zCe K s X0 (zfu s k) (zft s k) from zgh _ _ (zfs s) (zfr s) (zCe K s X0)
 (by intro _ _ _ hs;exact absurd hs Bool.false_ne_true)
 (by intro P0 S0 hX0 zai za2 zcc hs hk zf0;subst zf0;exact hX _ (zax (by kernel_rfl) (zc hs hk (fun hs hk=>(zaw hs fun hc hs=>And.intro hc (zaw hs fun hc hs=>And.intro hc (hX0 hs hk (zjk (enc:=zae) (f:=za2.get) (h:=(fun _=>(s83 (s.corners.get zai.toNat)))) rfl rfl))))) (fun hs hk=>(zAQ hs hk rfl)))))) _ hs hk zf0
def zAS (s:set):(Frac×Frac) :=
  (zsb s (0:Int) (⟨0,(fun _=>default)⟩:Sl Frac))
def zKl (s:set):Bool :=
  (zsc s (0:Int) (⟨0,(fun _=>default)⟩:Sl Frac))
end
theorem zOh (s:set) (K:List PA→Prop) (hs:zKl s=true) (hk:K (zG0 (zAS s))):vcFun Try.prog zMQ zvq 82 [.agg (zaW s),.one (.fn 83 [] [])] K :=
  zax (by kernel_rfl) (zAR hs hk rfl)
def zAT : List PA → COut
  | [.agg [.sl a0_list_Gates_n a0_list_Gates_s a0_list_Gates_g,.sl a0_corners_n a0_corners_s a0_corners_g],.one (.fn 101 [] [.fp [.int .i64 c0] 0])]=>.det (IsE enc_55 3 a0_list_Gates_s a0_list_Gates_g∧IsE zaf 3 a0_corners_s a0_corners_g∧p82 c0 (⟨(⟨(⟨a0_list_Gates_n,zad a0_list_Gates_g⟩:(Sl Gate))⟩:list),(⟨a0_corners_n,zaQ a0_corners_g⟩:(Sl straight))⟩:set)=true) [.agg [.int .i64 (((s82 c0 (⟨(⟨(⟨a0_list_Gates_n,zad a0_list_Gates_g⟩:(Sl Gate))⟩:list),(⟨a0_corners_n,zaQ a0_corners_g⟩:(Sl straight))⟩:set)).1).Num),.int .i64 (((s82 c0 (⟨(⟨(⟨a0_list_Gates_n,zad a0_list_Gates_g⟩:(Sl Gate))⟩:list),(⟨a0_corners_n,zaQ a0_corners_g⟩:(Sl straight))⟩:set)).1).Den)],.agg [.int .i64 (((s82 c0 (⟨(⟨(⟨a0_list_Gates_n,zad a0_list_Gates_g⟩:(Sl Gate))⟩:list),(⟨a0_corners_n,zaQ a0_corners_g⟩:(Sl straight))⟩:set)).2).Num),.int .i64 (((s82 c0 (⟨(⟨(⟨a0_list_Gates_n,zad a0_list_Gates_g⟩:(Sl Gate))⟩:list),(⟨a0_corners_n,zaQ a0_corners_g⟩:(Sl straight))⟩:set)).2).Den)]]
  | [.agg [.sl a0_list_Gates_n a0_list_Gates_s a0_list_Gates_g,.sl a0_corners_n a0_corners_s a0_corners_g],.one (.fn 83 [] [])]=>.det (IsE enc_55 3 a0_list_Gates_s a0_list_Gates_g∧IsE zaf 3 a0_corners_s a0_corners_g∧zKl (⟨(⟨(⟨a0_list_Gates_n,zad a0_list_Gates_g⟩:(Sl Gate))⟩:list),(⟨a0_corners_n,zaQ a0_corners_g⟩:(Sl straight))⟩:set)=true) [.agg [.int .i64 (((zAS (⟨(⟨(⟨a0_list_Gates_n,zad a0_list_Gates_g⟩:(Sl Gate))⟩:list),(⟨a0_corners_n,zaQ a0_corners_g⟩:(Sl straight))⟩:set)).1).Num),.int .i64 (((zAS (⟨(⟨(⟨a0_list_Gates_n,zad a0_list_Gates_g⟩:(Sl Gate))⟩:list),(⟨a0_corners_n,zaQ a0_corners_g⟩:(Sl straight))⟩:set)).1).Den)],.agg [.int .i64 (((zAS (⟨(⟨(⟨a0_list_Gates_n,zad a0_list_Gates_g⟩:(Sl Gate))⟩:list),(⟨a0_corners_n,zaQ a0_corners_g⟩:(Sl straight))⟩:set)).2).Num),.int .i64 (((zAS (⟨(⟨(⟨a0_list_Gates_n,zad a0_list_Gates_g⟩:(Sl Gate))⟩:list),(⟨a0_corners_n,zaQ a0_corners_g⟩:(Sl straight))⟩:set)).2).Den)]]
  | _=>.no
theorem zIw:zah Try.prog 82:=⟨_,rfl,rfl,by kernel_rfl⟩
theorem zOi:Ok Try.prog 82 zAT:=zaz zLk zIw fun args K h=>by
  unfold zAT at h
  split at h
  · rename_i a0_list_Gates_n a0_list_Gates_s a0_list_Gates_g a0_corners_n a0_corners_s a0_corners_g c0
    obtain ⟨⟨⟨rfl,a0_list_Gates_f,rfl⟩,⟨rfl,a0_corners_f,rfl⟩,hs⟩,hk⟩:=h
    try rw [zac a0_list_Gates_f] at hs
    try rw [zac a0_list_Gates_f] at hk
    try rw [zaM a0_corners_f] at hs
    try rw [zaM a0_corners_f] at hk
    exact ⟨(fun _ _=>[]),(fun _=>false),zD6,q82 c0 (⟨(⟨(⟨a0_list_Gates_n,a0_list_Gates_f⟩:(Sl Gate))⟩:list),(⟨a0_corners_n,a0_corners_f⟩:(Sl straight))⟩:set) K hs hk⟩
  · rename_i a0_list_Gates_n a0_list_Gates_s a0_list_Gates_g a0_corners_n a0_corners_s a0_corners_g
    obtain ⟨⟨⟨rfl,a0_list_Gates_f,rfl⟩,⟨rfl,a0_corners_f,rfl⟩,hs⟩,hk⟩:=h
    try rw [zac a0_list_Gates_f] at hs
    try rw [zac a0_list_Gates_f] at hk
    try rw [zaM a0_corners_f] at hs
    try rw [zaM a0_corners_f] at hk
    exact ⟨(fun _ _=>[]),(fun _=>false),zvq,zOh (⟨(⟨(⟨a0_list_Gates_n,a0_list_Gates_f⟩:(Sl Gate))⟩:list),(⟨a0_corners_n,a0_corners_f⟩:(Sl straight))⟩:set) K hs hk⟩
  · exact h.elim
abbrev T68:Tabs:=((((Tabs.nil.addF 67 zoj).addF 82 zAT).addF 89 zpz).addF 98 zAI)
theorem zLl:TabsOk Try.prog T68:=((((TabsOk.nil.addF zH1).addF zOi).addF zKi).addF zMI)
abbrev G68:Ctrs:=csm T68 (fun _ _=>[]) (fun _=>false)
def zIx:Ann:=⟨24,[(0,zK [2,3,4,5] [2,3,4,5]),(1,zK [2,3,4,5,9] [2,3,4,5]),(2,zK [4,5,6] [4,5,6]),(3,zK [4,5] [4,5]),(4,zK [4,5] [4,5])],
 [],
 [],
 [],[]⟩
abbrev R68:=(Frac×Frac)
abbrev e68 (r:R68):List PA:=[.agg [.int .i64 r.1.Num,.int .i64 r.1.Den],.agg [.int .i64 r.2.Num,.int .i64 r.2.Den]]
section
variable {K:List PA→Prop} {s:set} {z:Int}
def s68 (s:set) (z:Int):(Frac×Frac) :=
  (cond (s67 s.list)
 ((s89 ((s98 s.list).Low) (1:Int)),(s89 ((s98 s.list).High) (1:Int)))
 (((s82 z s).1),((s82 z s).2)))
def p68 (s:set) (z:Int):Bool :=
  (decide ((p67 s.list=true)) &&
 (cond (s67 s.list)
 (decide ((p98 s.list=true)) &&
 (decide ((p89 ((s98 s.list).Low) (1:Int)=true)) &&
 (decide ((p89 ((s98 s.list).High) (1:Int)=true)) &&
 true)))
 (decide ((p82 z s=true)) &&
 true)))
end
theorem q68 (s:set) (z:Int) (K:List PA→Prop) (hs:p68 s z=true) (hk:K (e68 (s68 s z))):vcFun Try.prog G68 zIx 68 [.agg (zaW s),.one (.int .i64 z)] K :=
  zax (by kernel_rfl) (zaw hs fun hc hs=>And.intro (And.intro (zE enc_55 3 s.list.Gates.get) hc) (zc hs hk (fun hs hk=>(zaw hs fun hc hs=>And.intro (And.intro (zE enc_55 3 s.list.Gates.get) hc) (zaw hs fun hc hs=>And.intro hc (zaw hs fun hc hs=>And.intro hc hk)))) (fun hs hk=>(zaw hs fun hc hs=>And.intro (And.intro (zE enc_55 3 s.list.Gates.get) (And.intro (zE zaf 3 s.corners.get) hc)) hk))))
def zvs : List PA → COut
  | [.agg [.sl a0_list_Gates_n a0_list_Gates_s a0_list_Gates_g,.sl a0_corners_n a0_corners_s a0_corners_g],.one (.int .i64 a1)]=>.det (IsE enc_55 3 a0_list_Gates_s a0_list_Gates_g∧IsE zaf 3 a0_corners_s a0_corners_g∧p68 (⟨(⟨(⟨a0_list_Gates_n,zad a0_list_Gates_g⟩:(Sl Gate))⟩:list),(⟨a0_corners_n,zaQ a0_corners_g⟩:(Sl straight))⟩:set) a1=true) [.agg [.int .i64 (((s68 (⟨(⟨(⟨a0_list_Gates_n,zad a0_list_Gates_g⟩:(Sl Gate))⟩:list),(⟨a0_corners_n,zaQ a0_corners_g⟩:(Sl straight))⟩:set) a1).1).Num),.int .i64 (((s68 (⟨(⟨(⟨a0_list_Gates_n,zad a0_list_Gates_g⟩:(Sl Gate))⟩:list),(⟨a0_corners_n,zaQ a0_corners_g⟩:(Sl straight))⟩:set) a1).1).Den)],.agg [.int .i64 (((s68 (⟨(⟨(⟨a0_list_Gates_n,zad a0_list_Gates_g⟩:(Sl Gate))⟩:list),(⟨a0_corners_n,zaQ a0_corners_g⟩:(Sl straight))⟩:set) a1).2).Num),.int .i64 (((s68 (⟨(⟨(⟨a0_list_Gates_n,zad a0_list_Gates_g⟩:(Sl Gate))⟩:list),(⟨a0_corners_n,zaQ a0_corners_g⟩:(Sl straight))⟩:set) a1).2).Den)]]
  | _=>.no
theorem zIy:zah Try.prog 68:=⟨_,rfl,rfl,by kernel_rfl⟩
theorem zMR:Ok Try.prog 68 zvs:=zaz zLl zIy fun args K h=>by
  unfold zvs at h
  split at h
  · rename_i a0_list_Gates_n a0_list_Gates_s a0_list_Gates_g a0_corners_n a0_corners_s a0_corners_g a1
    obtain ⟨⟨⟨rfl,a0_list_Gates_f,rfl⟩,⟨rfl,a0_corners_f,rfl⟩,hs⟩,hk⟩:=h
    try rw [zac a0_list_Gates_f] at hs
    try rw [zac a0_list_Gates_f] at hk
    try rw [zaM a0_corners_f] at hs
    try rw [zaM a0_corners_f] at hk
    exact ⟨(fun _ _=>[]),(fun _=>false),zIx,q68 (⟨(⟨(⟨a0_list_Gates_n,a0_list_Gates_f⟩:(Sl Gate))⟩:list),(⟨a0_corners_n,a0_corners_f⟩:(Sl straight))⟩:set) a1 K hs hk⟩
  · exact h.elim
abbrev T19:Tabs:=((((((Tabs.nil.addF 64 ztf).addF 65 zu7).addF 66 zva).addF 67 zoj).addF 68 zvs).addF 69 zpF)
theorem zLm:TabsOk Try.prog T19:=((((((TabsOk.nil.addF zKc).addF zK4).addF zK7).addF zH1).addF zMR).addF zKj)
abbrev G19:Ctrs:=csm T19 (fun _ _=>[]) (fun _=>false)
def zEb:Ann:=⟨124,[(0,zK [0,1,2,3,9,10] [9,10]),(1,zK [0,1,2,3,9,10,12] [9,10,12]),(2,zK [0,1,2,3,9,10,12,44] [9,10,12]),(3,zK [8,9,10,11] [9,10]),(4,zK [2,3,9,10,12,13,14] [9,10,12,13,14]),(5,zK [2,3,9,10,12,13,14,58] [9,10,12,13,14]),(6,zK [8,9,10,11] [9,10]),(7,zK [2,3,9,10,12,13,14,68] [9,10,12,13,14]),(8,zK [8,9,10,11] [9,10]),(9,zK [2,3,9,10,12,13,14,15,16] [9,10,12,13,14,15,16]),(10,zK [2,3,9,10,12,13,14,15,16,17] [9,10,12,13,14,15,16]),(11,zK [2,3,9,10,12,13,14,15,16,17,76,77] [9,10,12,13,14,15,16]),(12,zK [2,3,9,10,12,13,14,15,16,17,76,77,78] [9,10,12,13,14,15,16]),(13,zK [2,3,9,10,12,13,14,15,16,17,18,76,77] [9,10,12,13,14,15,16]),(14,zK [2,3,9,10,12,13,14,15,16,17,18,19,20,76,77] [9,10,12,13,14,15,16,19,20]),(15,zK [2,3,9,10,12,13,14,15,16,17,18,19,20,21,22,76,77] [9,10,12,13,14,15,16,19,20,21,22]),(16,zK [2,3,9,10,12,13,14,15,16,17,18,19,20,21,22,76,77] [9,10,12,13,14,15,16,19,20,21,22]),(17,zK [2,3,9,10,12,13,14,15,16,17,18,20,21,22,76,77,101] [9,10,12,13,14,15,16,20,21,22]),(18,zK [2,3,9,10,12,13,14,15,16,17,18,20,22,76,77] [9,10,12,13,14,15,16,20,22]),(19,zK [2,3,9,10,12,13,14,15,16,17,18,22,76,77,106] [9,10,12,13,14,15,16,22]),(20,zK [2,3,9,10,12,13,14,15,16,17,18,76,77] [9,10,12,13,14,15,16]),(21,zK [2,3,9,10,12,13,14,15,16,17,18,76,77,111] [9,10,12,13,14,15,16]),(22,zK [3,9,10,12,15,16,17] [9,10,12,15,16]),(23,zK [2,3,9,10,12,13,14,15,16,17,76,77] [9,10,12,13,14,15,16]),(24,zK [9,10,12,15,16,17,118] [9,10,12,15,16]),(25,zK [8,9,10,11] [9,10]),(26,zK [8,9,10,11] [9,10])],
 [(12,zK [2,3,9,10,12,13,14,15,16,17,76,77] [9,10,12,13,14,15,16])],
 [(3,zK [0,1,2,3,9,10,12,44] [9,10,12]),(4,zK [0,1,2,3,9,10,12] [9,10,12]),(5,zK [2,3,9,10,12,13,14] [9,10,12,13,14]),(6,zK [2,3,9,10,12,13,14,58] [9,10,12,13,14]),(7,zK [2,3,9,10,12,13,14] [9,10,12,13,14]),(8,zK [2,3,9,10,12,13,14,68] [9,10,12,13,14]),(9,zK [2,3,9,10,12,13,14] [9,10,12,13,14]),(15,zK [2,3,9,10,12,13,14,15,16,17,18,19,20,76,77] [9,10,12,13,14,15,16,19,20]),(24,zK [3,9,10,12,15,16,17] [9,10,12,15,16]),(16,zK [2,3,9,10,12,13,14,15,16,17,18,19,20,21,22,76,77] [9,10,12,13,14,15,16,19,20,21,22]),(18,zK [2,3,9,10,12,13,14,15,16,17,18,20,21,22,76,77,101] [9,10,12,13,14,15,16,20,21,22]),(19,zK [2,3,9,10,12,13,14,15,16,17,18,20,22,76,77] [9,10,12,13,14,15,16,20,22]),(20,zK [2,3,9,10,12,13,14,15,16,17,18,22,76,77,106] [9,10,12,13,14,15,16,22]),(22,zK [2,3,9,10,12,13,14,15,16,17,18,76,77,111] [9,10,12,13,14,15,16])],
 [],[]⟩
abbrev R19:=(Int×Frac×Frac×Int)
abbrev e19 (r:R19):List PA:=[.one (.int .i64 r.1),.agg [.int .i64 r.2.1.Num,.int .i64 r.2.1.Den],.agg [.int .i64 r.2.2.1.Num,.int .i64 r.2.2.1.Den],.one (.int .i64 r.2.2.2)]
@[irreducible] def z19:=ptF Try.prog G19 zEb Try.f19
def zCf (low:Int) (high:Int) (zam:(Sl Gate)) (zas:(Sl straight)) (zan:(Sl Gate)) (zat:(Sl straight)) (zcr:Int) (zbv:Int) (zbw:Int) (zcD:Int) (zcE:Int):St:=⟨[(2,zI low),(3,zI high),(9,zp 9 0),(10,zp 10 0),(12,zp 12 0),(13,zp 13 0),(14,zp 14 0),(15,zp 15 0),(16,zp 16 0),(17,zI (w64 (high+(1:Int)))),(76,zI (w64 ((w64 (high - low))+(1:Int)))),(77,zI zcr)],[(9,.box 25 (zm (zae (⟨(0:Int),(0:Int)⟩:Frac)))),(10,.box 25 (zm (zae (⟨(0:Int),(0:Int)⟩:Frac)))),(12,.box 25 (zm (zae (⟨(0:Int),(0:Int)⟩:Frac)))),(13,.box 104 (zm (zaW (⟨(⟨zam⟩:list),zas⟩:set)))),(14,.box 104 (zm (zaW (⟨(⟨zan⟩:list),zat⟩:set)))),(15,.box 25 (zm (zae (⟨zbv,zbw⟩:Frac)))),(16,.box 25 (zm (zae (⟨zcD,zcE⟩:Frac))))],[]⟩
abbrev zoq (K:List PA→Prop) (low:Int) (high:Int) (zam:(Sl Gate)) (zas:(Sl straight)) (zan:(Sl Gate)) (zat:(Sl straight)) (X:St→Prop) (P:Int→Int→Int→Int→Int→Bool) (S:Int→Int→Int→Int→Int→(Int×Frac×Frac×Int)):Prop:=∀ ⦃zcr:Int⦄ ⦃zbv:Int⦄ ⦃zbw:Int⦄ ⦃zcD:Int⦄ ⦃zcE:Int⦄,P zcr zbv zbw zcD zcE=true→K (e19 (S zcr zbv zbw zcD zcE))→X (zCf low high zam zas zan zat zcr zbv zbw zcD zcE)
section
variable {K:List PA→Prop} {a:(Sl Gate)} {b:(Sl Gate)} {low:Int} {high:Int} {zpQ:Bool} {zam:(Sl Gate)} {zas:(Sl straight)} {zan:(Sl Gate)} {zat:(Sl straight)} {zvt:Nat→List PV} {zvu:Nat→List PV} {zvv:Nat→List PV} {zvw:Nat→List PV} {zpR:Bool} {zpS:Bool} {zcr:Int} {zbv:Int} {zbw:Int} {zcD:Int} {zcE:Int} {X7:St→Prop} {P7:Int→Int→Int→Int→Int→Bool} {S7:Int→Int→Int→Int→Int→(Int×Frac×Frac×Int)} {iv8:Int} {zpT:Int} {zey:Int} {zez:Int} {zjC:Int} {zjD:Int} {zdC:Int} {zdD:Int} {zbD:Int} {zbE:Int} {zIz:Int} {zix:Int} {ziy:Int} {zsd:Int} {zse:Int} {zgY:Int} {zjE:Int} {ze2:Int} {ze3:Int} {zjF:Int} {zjG:Int} {zda:Int} {zdb:Int} {zbo:Int} {zbp:Int} {zAU:Int} {zgL:Int} {zf1:Bool} {zEc:Int} {zjH:Int} {zaD:Int} {zaE:Int} {zAV:Int} {zgM:Int} {zf2:Bool} {zG1:Int} {zjI:Int} {zf3:Bool} {ze4:Int} {ze5:Int}
def zjJ (high:Int) (zIz:Int) (zix:Int) (ziy:Int) (zsd:Int) (zse:Int):(Int×Frac×Frac×Int) :=
  (cond (decide (zIz > high))
 ((0:Int),(⟨(0:Int),(0:Int)⟩:Frac),(⟨(0:Int),(0:Int)⟩:Frac),(5:Int))
 (zIz,(⟨zix,ziy⟩:Frac),(⟨zsd,zse⟩:Frac),(0:Int)))
theorem zvx (hk:K (e19 (zjJ high zIz zix ziy zsd zse))):z19 K [1,0,1,1,1,1,1,1,1,1,1] [] ⟨[(3,zI high),(9,zp 9 0),(10,zp 10 0),(12,zp 12 0),(15,zp 15 0),(16,zp 16 0),(17,zI zIz)],[(9,.box 25 (zm (zae (⟨(0:Int),(0:Int)⟩:Frac)))),(10,.box 25 (zm (zae (⟨(0:Int),(0:Int)⟩:Frac)))),(12,.box 25 (zm (zae (⟨(0:Int),(0:Int)⟩:Frac)))),(15,.box 25 (zm (zae (⟨zix,ziy⟩:Frac)))),(16,.box 25 (zm (zae (⟨zsd,zse⟩:Frac))))],[]⟩:=zax (by kernel_rfl) (zt hk (fun hk=>hk) (fun hk=>hk))
def ziz (S7:Int→Int→Int→Int→Int→(Int×Frac×Frac×Int)) (low:Int) (high:Int) (zam:(Sl Gate)) (zas:(Sl straight)) (zan:(Sl Gate)) (zat:(Sl straight)) (zaD:Int) (zaE:Int) (zG1:Int) (zjI:Int) (zf3:Bool) (ze4:Int) (ze5:Int):(Int×Frac×Frac×Int) :=
  (cond zf3
 (zjJ high (w64 (low+zG1)) zaD zaE ze4 ze5)
 (S7 (w64 (zjI+(1:Int))) zaD zaE ze4 ze5))
def ziA (P7:Int→Int→Int→Int→Int→Bool) (low:Int) (high:Int) (zam:(Sl Gate)) (zas:(Sl straight)) (zan:(Sl Gate)) (zat:(Sl straight)) (zaD:Int) (zaE:Int) (zG1:Int) (zjI:Int) (zf3:Bool) (ze4:Int) (ze5:Int):Bool :=
  (cond zf3
 true
 (P7 (w64 (zjI+(1:Int))) zaD zaE ze4 ze5))
theorem zsf (hX7:zoq K low high zam zas zan zat X7 P7 S7) (hs:ziA P7 low high zam zas zan zat zaD zaE zG1 zjI zf3 ze4 ze5=true) (hk:K (e19 (ziz S7 low high zam zas zan zat zaD zaE zG1 zjI zf3 ze4 ze5))):z19 K [1,0,1,1,1,1,1,1,1,1,0,1,0,0,1,1,0,0,1,1,1,1,1,1,1] [X7] ⟨[(2,zI low),(3,zI high),(9,zp 9 0),(10,zp 10 0),(12,zp 12 0),(13,zp 13 0),(14,zp 14 0),(15,zp 15 0),(16,zp 16 0),(17,zI (w64 (high+(1:Int)))),(18,zI zG1),(76,zI (w64 ((w64 (high - low))+(1:Int)))),(77,zI zjI),(111,zB zf3)],[(9,.box 25 (zm (zae (⟨(0:Int),(0:Int)⟩:Frac)))),(10,.box 25 (zm (zae (⟨(0:Int),(0:Int)⟩:Frac)))),(12,.box 25 (zm (zae (⟨(0:Int),(0:Int)⟩:Frac)))),(13,.box 104 (zm (zaW (⟨(⟨zam⟩:list),zas⟩:set)))),(14,.box 104 (zm (zaW (⟨(⟨zan⟩:list),zat⟩:set)))),(15,.box 25 (zm (zae (⟨zaD,zaE⟩:Frac)))),(16,.box 25 (zm (zae (⟨ze4,ze5⟩:Frac))))],[]⟩:=zax (by kernel_rfl) (zc hs hk (fun hs hk=>(zvx hk)) (fun hs hk=>(hX7 hs hk)))
def zms (S7:Int→Int→Int→Int→Int→(Int×Frac×Frac×Int)) (low:Int) (high:Int) (zam:(Sl Gate)) (zas:(Sl straight)) (zan:(Sl Gate)) (zat:(Sl straight)) (zbD:Int) (zbE:Int) (zbo:Int) (zbp:Int) (zaD:Int) (zaE:Int) (zAV:Int) (zgM:Int) (zf2:Bool):(Int×Frac×Frac×Int) :=
  (cond zf2
 (ziz S7 low high zam zas zan zat zaD zaE zAV zgM (decide ((s69 (⟨zaD,zaE⟩:Frac) (⟨zbo,zbp⟩:Frac))≤(0:Int))) zbo zbp)
 (ziz S7 low high zam zas zan zat zaD zaE zAV zgM (decide ((s69 (⟨zaD,zaE⟩:Frac) (⟨zbD,zbE⟩:Frac))≤(0:Int))) zbD zbE))
def zmt (P7:Int→Int→Int→Int→Int→Bool) (low:Int) (high:Int) (zam:(Sl Gate)) (zas:(Sl straight)) (zan:(Sl Gate)) (zat:(Sl straight)) (zbD:Int) (zbE:Int) (zbo:Int) (zbp:Int) (zaD:Int) (zaE:Int) (zAV:Int) (zgM:Int) (zf2:Bool):Bool :=
  (cond zf2
 (ziA P7 low high zam zas zan zat zaD zaE zAV zgM (decide ((s69 (⟨zaD,zaE⟩:Frac) (⟨zbo,zbp⟩:Frac))≤(0:Int))) zbo zbp)
 (ziA P7 low high zam zas zan zat zaD zaE zAV zgM (decide ((s69 (⟨zaD,zaE⟩:Frac) (⟨zbD,zbE⟩:Frac))≤(0:Int))) zbD zbE))
theorem zAW (hX7:zoq K low high zam zas zan zat X7 P7 S7) (hs:zmt P7 low high zam zas zan zat zbD zbE zbo zbp zaD zaE zAV zgM zf2=true) (hk:K (e19 (zms S7 low high zam zas zan zat zbD zbE zbo zbp zaD zaE zAV zgM zf2))):z19 K [1,0,1,1,1,1,1,1,1,1,0,1,0,0,1,1,0,0,1,1,1,1,1,0,1] [X7] ⟨[(2,zI low),(3,zI high),(9,zp 9 0),(10,zp 10 0),(12,zp 12 0),(13,zp 13 0),(14,zp 14 0),(15,zp 15 0),(16,zp 16 0),(17,zI (w64 (high+(1:Int)))),(18,zI zAV),(22,zp 22 0),(76,zI (w64 ((w64 (high - low))+(1:Int)))),(77,zI zgM),(106,zB zf2)],[(9,.box 25 (zm (zae (⟨(0:Int),(0:Int)⟩:Frac)))),(10,.box 25 (zm (zae (⟨(0:Int),(0:Int)⟩:Frac)))),(12,.box 25 (zm (zae (⟨(0:Int),(0:Int)⟩:Frac)))),(13,.box 104 (zm (zaW (⟨(⟨zam⟩:list),zas⟩:set)))),(14,.box 104 (zm (zaW (⟨(⟨zan⟩:list),zat⟩:set)))),(15,.box 25 (zm (zae (⟨zaD,zaE⟩:Frac)))),(16,.box 25 (zm (zae (⟨zbD,zbE⟩:Frac)))),(22,.box 25 (zm (zae (⟨zbo,zbp⟩:Frac))))],[]⟩:=zax (by kernel_rfl) (zc hs hk (fun hs hk=>(zsf hX7 hs hk)) (fun hs hk=>(zsf hX7 hs hk)))
def ziB (S7:Int→Int→Int→Int→Int→(Int×Frac×Frac×Int)) (low:Int) (high:Int) (zam:(Sl Gate)) (zas:(Sl straight)) (zan:(Sl Gate)) (zat:(Sl straight)) (zbD:Int) (zbE:Int) (zbo:Int) (zbp:Int) (zEc:Int) (zjH:Int) (zaD:Int) (zaE:Int):(Int×Frac×Frac×Int) :=
  (zms S7 low high zam zas zan zat zbD zbE zbo zbp zaD zaE zEc zjH (decide ((s69 (⟨zbo,zbp⟩:Frac) (⟨zbD,zbE⟩:Frac)) < (0:Int))))
def ziC (P7:Int→Int→Int→Int→Int→Bool) (low:Int) (high:Int) (zam:(Sl Gate)) (zas:(Sl straight)) (zan:(Sl Gate)) (zat:(Sl straight)) (zbD:Int) (zbE:Int) (zbo:Int) (zbp:Int) (zEc:Int) (zjH:Int) (zaD:Int) (zaE:Int):Bool :=
  (zmt P7 low high zam zas zan zat zbD zbE zbo zbp zaD zaE zEc zjH (decide ((s69 (⟨zbo,zbp⟩:Frac) (⟨zbD,zbE⟩:Frac)) < (0:Int))))
theorem zsg (hX7:zoq K low high zam zas zan zat X7 P7 S7) (hs:ziC P7 low high zam zas zan zat zbD zbE zbo zbp zEc zjH zaD zaE=true) (hk:K (e19 (ziB S7 low high zam zas zan zat zbD zbE zbo zbp zEc zjH zaD zaE))):z19 K [1,0,1,1,1,1,1,1,1,1,0,1,0,0,1,1,0,0,1,1,1,1,1] [X7] ⟨[(2,zI low),(3,zI high),(9,zp 9 0),(10,zp 10 0),(12,zp 12 0),(13,zp 13 0),(14,zp 14 0),(15,zp 15 0),(16,zp 16 0),(17,zI (w64 (high+(1:Int)))),(18,zI zEc),(20,zp 20 0),(22,zp 22 0),(76,zI (w64 ((w64 (high - low))+(1:Int)))),(77,zI zjH)],[(9,.box 25 (zm (zae (⟨(0:Int),(0:Int)⟩:Frac)))),(10,.box 25 (zm (zae (⟨(0:Int),(0:Int)⟩:Frac)))),(12,.box 25 (zm (zae (⟨(0:Int),(0:Int)⟩:Frac)))),(13,.box 104 (zm (zaW (⟨(⟨zam⟩:list),zas⟩:set)))),(14,.box 104 (zm (zaW (⟨(⟨zan⟩:list),zat⟩:set)))),(15,.box 25 (zm (zae (⟨zaD,zaE⟩:Frac)))),(16,.box 25 (zm (zae (⟨zbD,zbE⟩:Frac)))),(20,.box 25 (zm (zae (⟨zbD,zbE⟩:Frac)))),(22,.box 25 (zm (zae (⟨zbo,zbp⟩:Frac))))],[]⟩:=zax (by kernel_rfl) (zAW hX7 hs hk)
def zmu (S7:Int→Int→Int→Int→Int→(Int×Frac×Frac×Int)) (low:Int) (high:Int) (zam:(Sl Gate)) (zas:(Sl straight)) (zan:(Sl Gate)) (zat:(Sl straight)) (zdC:Int) (zdD:Int) (zbD:Int) (zbE:Int) (zda:Int) (zdb:Int) (zbo:Int) (zbp:Int) (zAU:Int) (zgL:Int) (zf1:Bool):(Int×Frac×Frac×Int) :=
  (cond zf1
 (ziB S7 low high zam zas zan zat zbD zbE zbo zbp zAU zgL zda zdb)
 (ziB S7 low high zam zas zan zat zbD zbE zbo zbp zAU zgL zdC zdD))
def zmv (P7:Int→Int→Int→Int→Int→Bool) (low:Int) (high:Int) (zam:(Sl Gate)) (zas:(Sl straight)) (zan:(Sl Gate)) (zat:(Sl straight)) (zdC:Int) (zdD:Int) (zbD:Int) (zbE:Int) (zda:Int) (zdb:Int) (zbo:Int) (zbp:Int) (zAU:Int) (zgL:Int) (zf1:Bool):Bool :=
  (cond zf1
 (ziC P7 low high zam zas zan zat zbD zbE zbo zbp zAU zgL zda zdb)
 (ziC P7 low high zam zas zan zat zbD zbE zbo zbp zAU zgL zdC zdD))
theorem zAX (hX7:zoq K low high zam zas zan zat X7 P7 S7) (hs:zmv P7 low high zam zas zan zat zdC zdD zbD zbE zda zdb zbo zbp zAU zgL zf1=true) (hk:K (e19 (zmu S7 low high zam zas zan zat zdC zdD zbD zbE zda zdb zbo zbp zAU zgL zf1))):z19 K [1,0,1,1,1,1,1,1,1,1,0,1,0,0,1,1,0,0,1,1,1,1,0,1] [X7] ⟨[(2,zI low),(3,zI high),(9,zp 9 0),(10,zp 10 0),(12,zp 12 0),(13,zp 13 0),(14,zp 14 0),(15,zp 15 0),(16,zp 16 0),(17,zI (w64 (high+(1:Int)))),(18,zI zAU),(20,zp 20 0),(21,zp 21 0),(22,zp 22 0),(76,zI (w64 ((w64 (high - low))+(1:Int)))),(77,zI zgL),(101,zB zf1)],[(9,.box 25 (zm (zae (⟨(0:Int),(0:Int)⟩:Frac)))),(10,.box 25 (zm (zae (⟨(0:Int),(0:Int)⟩:Frac)))),(12,.box 25 (zm (zae (⟨(0:Int),(0:Int)⟩:Frac)))),(13,.box 104 (zm (zaW (⟨(⟨zam⟩:list),zas⟩:set)))),(14,.box 104 (zm (zaW (⟨(⟨zan⟩:list),zat⟩:set)))),(15,.box 25 (zm (zae (⟨zdC,zdD⟩:Frac)))),(16,.box 25 (zm (zae (⟨zbD,zbE⟩:Frac)))),(20,.box 25 (zm (zae (⟨zbD,zbE⟩:Frac)))),(21,.box 25 (zm (zae (⟨zda,zdb⟩:Frac)))),(22,.box 25 (zm (zae (⟨zbo,zbp⟩:Frac))))],[]⟩:=zax (by kernel_rfl) (zc hs hk (fun hs hk=>(zsg hX7 hs hk)) (fun hs hk=>(zsg hX7 hs hk)))
def zmw (S7:Int→Int→Int→Int→Int→(Int×Frac×Frac×Int)) (low:Int) (high:Int) (zam:(Sl Gate)) (zas:(Sl straight)) (zan:(Sl Gate)) (zat:(Sl straight)) (zdC:Int) (zdD:Int) (zbD:Int) (zbE:Int) (zgY:Int) (zjE:Int) (ze2:Int) (ze3:Int) (zjF:Int) (zjG:Int) (zda:Int) (zdb:Int) (zbo:Int) (zbp:Int):(Int×Frac×Frac×Int) :=
  (zmu S7 low high zam zas zan zat zdC zdD zbD zbE zda zdb zbo zbp zgY zjE (decide ((s69 (⟨zda,zdb⟩:Frac) (⟨zdC,zdD⟩:Frac)) > (0:Int))))
def zmx (P7:Int→Int→Int→Int→Int→Bool) (low:Int) (high:Int) (zam:(Sl Gate)) (zas:(Sl straight)) (zan:(Sl Gate)) (zat:(Sl straight)) (zdC:Int) (zdD:Int) (zbD:Int) (zbE:Int) (zgY:Int) (zjE:Int) (ze2:Int) (ze3:Int) (zjF:Int) (zjG:Int) (zda:Int) (zdb:Int) (zbo:Int) (zbp:Int):Bool :=
  (zmv P7 low high zam zas zan zat zdC zdD zbD zbE zda zdb zbo zbp zgY zjE (decide ((s69 (⟨zda,zdb⟩:Frac) (⟨zdC,zdD⟩:Frac)) > (0:Int))))
theorem zAY (hX7:zoq K low high zam zas zan zat X7 P7 S7) (hs:zmx P7 low high zam zas zan zat zdC zdD zbD zbE zgY zjE ze2 ze3 zjF zjG zda zdb zbo zbp=true) (hk:K (e19 (zmw S7 low high zam zas zan zat zdC zdD zbD zbE zgY zjE ze2 ze3 zjF zjG zda zdb zbo zbp))):z19 K [1,0,1,1,1,1,1,1,1,1,0,1,0,0,1,1,0,0,1,1,1] [X7] ⟨[(2,zI low),(3,zI high),(9,zp 9 0),(10,zp 10 0),(12,zp 12 0),(13,zp 13 0),(14,zp 14 0),(15,zp 15 0),(16,zp 16 0),(17,zI (w64 (high+(1:Int)))),(18,zI zgY),(19,zp 19 0),(20,zp 20 0),(21,zp 21 0),(22,zp 22 0),(76,zI (w64 ((w64 (high - low))+(1:Int)))),(77,zI zjE)],[(9,.box 25 (zm (zae (⟨(0:Int),(0:Int)⟩:Frac)))),(10,.box 25 (zm (zae (⟨(0:Int),(0:Int)⟩:Frac)))),(12,.box 25 (zm (zae (⟨(0:Int),(0:Int)⟩:Frac)))),(13,.box 104 (zm (zaW (⟨(⟨zam⟩:list),zas⟩:set)))),(14,.box 104 (zm (zaW (⟨(⟨zan⟩:list),zat⟩:set)))),(15,.box 25 (zm (zae (⟨ze2,ze3⟩:Frac)))),(16,.box 25 (zm (zae (⟨zjF,zjG⟩:Frac)))),(19,.box 25 (zm (zae (⟨zdC,zdD⟩:Frac)))),(20,.box 25 (zm (zae (⟨zbD,zbE⟩:Frac)))),(21,.box 25 (zm (zae (⟨zda,zdb⟩:Frac)))),(22,.box 25 (zm (zae (⟨zbo,zbp⟩:Frac))))],[]⟩:=zax (by kernel_rfl) (zAX hX7 hs hk)
def zpU (S7:Int→Int→Int→Int→Int→(Int×Frac×Frac×Int)) (low:Int) (high:Int) (zam:(Sl Gate)) (zas:(Sl straight)) (zan:(Sl Gate)) (zat:(Sl straight)) (iv8:Int) (zpT:Int) (zey:Int) (zez:Int) (zjC:Int) (zjD:Int) (zdC:Int) (zdD:Int) (zbD:Int) (zbE:Int):(Int×Frac×Frac×Int) :=
  (zmw S7 low high zam zas zan zat zdC zdD zbD zbE iv8 zpT zey zez zjC zjD (((s68 (⟨(⟨zan⟩:list),zat⟩:set) (w64 (low+iv8))).1).Num) (((s68 (⟨(⟨zan⟩:list),zat⟩:set) (w64 (low+iv8))).1).Den) (((s68 (⟨(⟨zan⟩:list),zat⟩:set) (w64 (low+iv8))).2).Num) (((s68 (⟨(⟨zan⟩:list),zat⟩:set) (w64 (low+iv8))).2).Den))
def zpV (P7:Int→Int→Int→Int→Int→Bool) (low:Int) (high:Int) (zam:(Sl Gate)) (zas:(Sl straight)) (zan:(Sl Gate)) (zat:(Sl straight)) (iv8:Int) (zpT:Int) (zey:Int) (zez:Int) (zjC:Int) (zjD:Int) (zdC:Int) (zdD:Int) (zbD:Int) (zbE:Int):Bool :=
  (decide ((p68 (⟨(⟨zan⟩:list),zat⟩:set) (w64 (low+iv8))=true)) &&
 (zmx P7 low high zam zas zan zat zdC zdD zbD zbE iv8 zpT zey zez zjC zjD (((s68 (⟨(⟨zan⟩:list),zat⟩:set) (w64 (low+iv8))).1).Num) (((s68 (⟨(⟨zan⟩:list),zat⟩:set) (w64 (low+iv8))).1).Den) (((s68 (⟨(⟨zan⟩:list),zat⟩:set) (w64 (low+iv8))).2).Num) (((s68 (⟨(⟨zan⟩:list),zat⟩:set) (w64 (low+iv8))).2).Den)))
theorem zEd (hX7:zoq K low high zam zas zan zat X7 P7 S7) (hs:zpV P7 low high zam zas zan zat iv8 zpT zey zez zjC zjD zdC zdD zbD zbE=true) (hk:K (e19 (zpU S7 low high zam zas zan zat iv8 zpT zey zez zjC zjD zdC zdD zbD zbE))):z19 K [1,0,1,1,1,1,1,1,1,1,0,1,0,0,1,1,0,0,1,1] [X7] ⟨[(2,zI low),(3,zI high),(9,zp 9 0),(10,zp 10 0),(12,zp 12 0),(13,zp 13 0),(14,zp 14 0),(15,zp 15 0),(16,zp 16 0),(17,zI (w64 (high+(1:Int)))),(18,zI iv8),(19,zp 19 0),(20,zp 20 0),(76,zI (w64 ((w64 (high - low))+(1:Int)))),(77,zI zpT)],[(9,.box 25 (zm (zae (⟨(0:Int),(0:Int)⟩:Frac)))),(10,.box 25 (zm (zae (⟨(0:Int),(0:Int)⟩:Frac)))),(12,.box 25 (zm (zae (⟨(0:Int),(0:Int)⟩:Frac)))),(13,.box 104 (zm (zaW (⟨(⟨zam⟩:list),zas⟩:set)))),(14,.box 104 (zm (zaW (⟨(⟨zan⟩:list),zat⟩:set)))),(15,.box 25 (zm (zae (⟨zey,zez⟩:Frac)))),(16,.box 25 (zm (zae (⟨zjC,zjD⟩:Frac)))),(19,.box 25 (zm (zae (⟨zdC,zdD⟩:Frac)))),(20,.box 25 (zm (zae (⟨zbD,zbE⟩:Frac))))],[]⟩:=zax (by kernel_rfl) (zaw hs fun hc hs=>And.intro (And.intro (zE enc_55 3 zan.get) (And.intro (zE zaf 3 zat.get) hc)) (zAY hX7 hs hk))
def zf4 (low:Int) (high:Int) (zam:(Sl Gate)) (zas:(Sl straight)) (zan:(Sl Gate)) (zat:(Sl straight)) (S7:Int→Int→Int→Int→Int→(Int×Frac×Frac×Int)) (zcr:Int) (zbv:Int) (zbw:Int) (zcD:Int) (zcE:Int):(Int×Frac×Frac×Int) :=
  (cond (decide (zcr < (w64 ((w64 (high - low)) + (1:Int)))))
 (zpU S7 low high zam zas zan zat zcr zcr zbv zbw zcD zcE (((s68 (⟨(⟨zam⟩:list),zas⟩:set) (w64 (low+zcr))).1).Num) (((s68 (⟨(⟨zam⟩:list),zas⟩:set) (w64 (low+zcr))).1).Den) (((s68 (⟨(⟨zam⟩:list),zas⟩:set) (w64 (low+zcr))).2).Num) (((s68 (⟨(⟨zam⟩:list),zas⟩:set) (w64 (low+zcr))).2).Den))
 (zjJ high (w64 (high+(1:Int))) zbv zbw zcD zcE))
def zf5 (low:Int) (high:Int) (zam:(Sl Gate)) (zas:(Sl straight)) (zan:(Sl Gate)) (zat:(Sl straight)) (P7:Int→Int→Int→Int→Int→Bool) (zcr:Int) (zbv:Int) (zbw:Int) (zcD:Int) (zcE:Int):Bool :=
  (cond (decide (zcr < (w64 ((w64 (high - low)) + (1:Int)))))
 (decide ((p68 (⟨(⟨zam⟩:list),zas⟩:set) (w64 (low+zcr))=true)) &&
 (zpV P7 low high zam zas zan zat zcr zcr zbv zbw zcD zcE (((s68 (⟨(⟨zam⟩:list),zas⟩:set) (w64 (low+zcr))).1).Num) (((s68 (⟨(⟨zam⟩:list),zas⟩:set) (w64 (low+zcr))).1).Den) (((s68 (⟨(⟨zam⟩:list),zas⟩:set) (w64 (low+zcr))).2).Num) (((s68 (⟨(⟨zam⟩:list),zas⟩:set) (w64 (low+zcr))).2).Den)))
 true)
def zhm (low:Int) (high:Int) (zam:(Sl Gate)) (zas:(Sl straight)) (zan:(Sl Gate)) (zat:(Sl straight)):Nat→Int→Int→Int→Int→Int→(Int×Frac×Frac×Int):=lpO (fun _ _ _ _ _=>default) (zf4 low high zam zas zan zat)
def zhn (low:Int) (high:Int) (zam:(Sl Gate)) (zas:(Sl straight)) (zan:(Sl Gate)) (zat:(Sl straight)):Nat→Int→Int→Int→Int→Int→Bool:=lpO (fun _ _ _ _ _=>false) (zf5 low high zam zas zan zat)
def zvy (low:Int) (high:Int) (zam:(Sl Gate)) (zas:(Sl straight)) (zan:(Sl Gate)) (zat:(Sl straight)) (zcr:Int) (zbv:Int) (zbw:Int) (zcD:Int) (zcE:Int):(Int×Frac×Frac×Int):=zhm low high zam zas zan zat Fuel zcr zbv zbw zcD zcE
def zvz (low:Int) (high:Int) (zam:(Sl Gate)) (zas:(Sl straight)) (zan:(Sl Gate)) (zat:(Sl straight)) (zcr:Int) (zbv:Int) (zbw:Int) (zcD:Int) (zcE:Int):Bool:=zhn low high zam zas zan zat Fuel zcr zbv zbw zcD zcE
theorem zEe (hs:zvz low high zam zas zan zat zcr zbv zbw zcD zcE=true) (hk:K (e19 (zvy low high zam zas zan zat zcr zbv zbw zcD zcE))):z19 K [1,0,1,1,1,1,1,1,1,1,0,1,0] [] (zCf low high zam zas zan zat zcr zbv zbw zcD zcE) :=
  zl (fun X=>z19 K [1,0,1,1,1,1,1,1,1,1,0,1,0,0] [X]) (by kernel_rfl) fun X7 hX =>
  (show ∀ k, zoq K low high zam zas zan zat X7 (zhn low high zam zas zan zat k) (zhm low high zam zas zan zat k) from zgh _ _ (zf5 low high zam zas zan zat) (zf4 low high zam zas zan zat) (zoq K low high zam zas zan zat X7)
 (by intro _ _ _ _ _ hs;exact absurd hs Bool.false_ne_true)
 (by intro P7 S7 hX7 zcr zbv zbw zcD zcE hs hk;exact hX _ (zax (by kernel_rfl) (zc hs hk (fun hs hk=>(zaw hs fun hc hs=>And.intro (And.intro (zE enc_55 3 zam.get) (And.intro (zE zaf 3 zas.get) hc)) (zEd hX7 hs hk))) (fun hs hk=>(zvx hk)))))) _ hs hk
def zvA (low:Int) (high:Int) (zam:(Sl Gate)) (zas:(Sl straight)) (zan:(Sl Gate)) (zat:(Sl straight)):(Int×Frac×Frac×Int) :=
  (zvy low high zam zas zan zat (0:Int) (0:Int) (0:Int) (0:Int) (0:Int))
def zvB (low:Int) (high:Int) (zam:(Sl Gate)) (zas:(Sl straight)) (zan:(Sl Gate)) (zat:(Sl straight)):Bool :=
  (zvz low high zam zas zan zat (0:Int) (0:Int) (0:Int) (0:Int) (0:Int))
theorem zEf (hs:zvB low high zam zas zan zat=true) (hk:K (e19 (zvA low high zam zas zan zat))):z19 K [1,0,1,1,1,1,1] [] ⟨[(2,zI low),(3,zI high),(9,zp 9 0),(10,zp 10 0),(12,zp 12 0),(13,zp 13 0),(14,zp 14 0)],[(9,.box 25 (zm (zae (⟨(0:Int),(0:Int)⟩:Frac)))),(10,.box 25 (zm (zae (⟨(0:Int),(0:Int)⟩:Frac)))),(12,.box 25 (zm (zae (⟨(0:Int),(0:Int)⟩:Frac)))),(13,.box 104 (zm (zaW (⟨(⟨zam⟩:list),zas⟩:set)))),(14,.box 104 (zm (zaW (⟨(⟨zan⟩:list),zat⟩:set))))],[]⟩:=zax (by kernel_rfl) (zEe hs hk)
def zmy (low:Int) (high:Int) (zam:(Sl Gate)) (zas:(Sl straight)) (zan:(Sl Gate)) (zat:(Sl straight)) (zpS:Bool):(Int×Frac×Frac×Int) :=
  (cond zpS
 ((0:Int),(⟨(0:Int),(0:Int)⟩:Frac),(⟨(0:Int),(0:Int)⟩:Frac),(6:Int))
 (zvA low high zam zas zan zat))
def zmz (low:Int) (high:Int) (zam:(Sl Gate)) (zas:(Sl straight)) (zan:(Sl Gate)) (zat:(Sl straight)) (zpS:Bool):Bool :=
  (cond zpS
 true
 (zvB low high zam zas zan zat))
theorem zvC (hs:zmz low high zam zas zan zat zpS=true) (hk:K (e19 (zmy low high zam zas zan zat zpS))):z19 K [1,0,1,1,1,1,0,1] [] ⟨[(2,zI low),(3,zI high),(9,zp 9 0),(10,zp 10 0),(12,zp 12 0),(13,zp 13 0),(14,zp 14 0),(68,zB zpS)],[(9,.box 25 (zm (zae (⟨(0:Int),(0:Int)⟩:Frac)))),(10,.box 25 (zm (zae (⟨(0:Int),(0:Int)⟩:Frac)))),(12,.box 25 (zm (zae (⟨(0:Int),(0:Int)⟩:Frac)))),(13,.box 104 (zm (zaW (⟨(⟨zam⟩:list),zas⟩:set)))),(14,.box 104 (zm (zaW (⟨(⟨zan⟩:list),zat⟩:set))))],[]⟩:=zax (by kernel_rfl) (zc hs hk (fun hs hk=>hk) (fun hs hk=>(zEf hs hk)))
def zpW (low:Int) (high:Int) (zam:(Sl Gate)) (zas:(Sl straight)) (zan:(Sl Gate)) (zat:(Sl straight)):(Int×Frac×Frac×Int) :=
  (cond (s67 (⟨zam⟩ : list))
 (zmy low high zam zas zan zat true)
 (zmy low high zam zas zan zat (s67 (⟨zan⟩:list))))
def zpX (low:Int) (high:Int) (zam:(Sl Gate)) (zas:(Sl straight)) (zan:(Sl Gate)) (zat:(Sl straight)):Bool :=
  (decide ((p67 (⟨zam⟩:list)=true)) &&
 (cond (s67 (⟨zam⟩ : list))
 (zmz low high zam zas zan zat true)
 (decide ((p67 (⟨zan⟩:list)=true)) &&
 (zmz low high zam zas zan zat (s67 (⟨zan⟩:list))))))
theorem zEg (hs:zpX low high zam zas zan zat=true) (hk:K (e19 (zpW low high zam zas zan zat))):z19 K [1,0,1,1,1,1] [] ⟨[(2,zI low),(3,zI high),(9,zp 9 0),(10,zp 10 0),(12,zp 12 0),(13,zp 13 0),(14,zp 14 0)],[(9,.box 25 (zm (zae (⟨(0:Int),(0:Int)⟩:Frac)))),(10,.box 25 (zm (zae (⟨(0:Int),(0:Int)⟩:Frac)))),(12,.box 25 (zm (zae (⟨(0:Int),(0:Int)⟩:Frac)))),(13,.box 104 (zm (zaW (⟨(⟨zam⟩:list),zas⟩:set)))),(14,.box 104 (zm (zaW (⟨(⟨zan⟩:list),zat⟩:set))))],[]⟩:=zax (by kernel_rfl) (zaw hs fun hc hs=>And.intro (And.intro (zE enc_55 3 zam.get) hc) (zc hs hk (fun hs hk=>(zvC hs hk)) (fun hs hk=>(zaw hs fun hc hs=>And.intro (And.intro (zE enc_55 3 zan.get) hc) (zvC hs hk)))))
def zmA (low:Int) (high:Int) (zam:(Sl Gate)) (zas:(Sl straight)) (zan:(Sl Gate)) (zat:(Sl straight)) (zpR:Bool):(Int×Frac×Frac×Int) :=
  (cond zpR
 ((0:Int),(⟨(0:Int),(0:Int)⟩:Frac),(⟨(0:Int),(0:Int)⟩:Frac),(5:Int))
 (zpW low high zam zas zan zat))
def zmB (low:Int) (high:Int) (zam:(Sl Gate)) (zas:(Sl straight)) (zan:(Sl Gate)) (zat:(Sl straight)) (zpR:Bool):Bool :=
  (cond zpR
 true
 (zpX low high zam zas zan zat))
theorem zvD (hs:zmB low high zam zas zan zat zpR=true) (hk:K (e19 (zmA low high zam zas zan zat zpR))):z19 K [1,0,1,1,1,0,1] [] ⟨[(2,zI low),(3,zI high),(9,zp 9 0),(10,zp 10 0),(12,zp 12 0),(13,zp 13 0),(14,zp 14 0),(58,zB zpR)],[(9,.box 25 (zm (zae (⟨(0:Int),(0:Int)⟩:Frac)))),(10,.box 25 (zm (zae (⟨(0:Int),(0:Int)⟩:Frac)))),(12,.box 25 (zm (zae (⟨(0:Int),(0:Int)⟩:Frac)))),(13,.box 104 (zm (zaW (⟨(⟨zam⟩:list),zas⟩:set)))),(14,.box 104 (zm (zaW (⟨(⟨zan⟩:list),zat⟩:set))))],[]⟩:=zax (by kernel_rfl) (zc hs hk (fun hs hk=>hk) (fun hs hk=>(zEg hs hk)))
def zpY (low:Int) (high:Int) (zam:(Sl Gate)) (zas:(Sl straight)) (zan:(Sl Gate)) (zat:(Sl straight)):(Int×Frac×Frac×Int) :=
  (cond (!(s66 (⟨(⟨zam⟩ : list), zas⟩ : set)))
 (zmA low high zam zas zan zat true)
 (zmA low high zam zas zan zat (!(s66 (⟨(⟨zan⟩:list),zat⟩:set)))))
def zpZ (low:Int) (high:Int) (zam:(Sl Gate)) (zas:(Sl straight)) (zan:(Sl Gate)) (zat:(Sl straight)):Bool :=
  (decide ((p66 (⟨(⟨zam⟩:list),zas⟩:set)=true)) &&
 (cond (!(s66 (⟨(⟨zam⟩ : list), zas⟩ : set)))
 (zmB low high zam zas zan zat true)
 (decide ((p66 (⟨(⟨zan⟩:list),zat⟩:set)=true)) &&
 (zmB low high zam zas zan zat (!(s66 (⟨(⟨zan⟩:list),zat⟩:set)))))))
theorem zEh (hs:zpZ low high zam zas zan zat=true) (hk:K (e19 (zpY low high zam zas zan zat))) (zEi:zvt=zg enc_55 zam) (zEj:zvu=zg zaf zas) (zEk:zvv=zg enc_55 zan) (zEl:zvw=zg zaf zat):z19 K [1,0,1,1,1] [] ⟨[(2,zI low),(3,zI high),(9,zp 9 0),(10,zp 10 0),(12,zp 12 0),(13,zp 13 0),(14,zp 14 0)],[(9,.box 25 (zm (zae (⟨(0:Int),(0:Int)⟩:Frac)))),(10,.box 25 (zm (zae (⟨(0:Int),(0:Int)⟩:Frac)))),(12,.box 25 (zm (zae (⟨(0:Int),(0:Int)⟩:Frac)))),(13,.box 104 [.p (.sl zam.len 3 zvt),.p (.sl zas.len 3 zvu)]),(14,.box 104 [.p (.sl zan.len 3 zvv),.p (.sl zat.len 3 zvw)])],[]⟩:=by subst zEi;subst zEj;subst zEk;subst zEl;exact zax (by kernel_rfl) (zaw hs fun hc hs=>And.intro (And.intro (zE enc_55 3 zam.get) (And.intro (zE zaf 3 zas.get) hc)) (zc hs hk (fun hs hk=>(zvD hs hk)) (fun hs hk=>(zaw hs fun hc hs=>And.intro (And.intro (zE enc_55 3 zan.get) (And.intro (zE zaf 3 zat.get) hc)) (zvD hs hk)))))
def zp0 (a:(Sl Gate)) (b:(Sl Gate)) (low:Int) (high:Int):(Int×Frac×Frac×Int) :=
  (zpY low high ((s65 a).list.Gates) ((s65 a).corners) ((s65 b).list.Gates) ((s65 b).corners))
def zp1 (a:(Sl Gate)) (b:(Sl Gate)) (low:Int) (high:Int):Bool :=
  (decide ((p65 a=true)) &&
 (decide ((p65 b=true)) &&
 (zpZ low high ((s65 a).list.Gates) ((s65 a).corners) ((s65 b).list.Gates) ((s65 b).corners))))
theorem zEm (hs:zp1 a b low high=true) (hk:K (e19 (zp0 a b low high))):z19 K [1,0,1,1] [] ⟨[(0,zS enc_55 3 a),(1,zS enc_55 3 b),(2,zI low),(3,zI high),(9,zp 9 0),(10,zp 10 0),(12,zp 12 0)],[(9,.box 25 (zm (zae (⟨(0:Int),(0:Int)⟩:Frac)))),(10,.box 25 (zm (zae (⟨(0:Int),(0:Int)⟩:Frac)))),(12,.box 25 (zm (zae (⟨(0:Int),(0:Int)⟩:Frac))))],[]⟩:=zax (by kernel_rfl) (zaw hs fun hc hs=>And.intro (And.intro (zE enc_55 3 a.get) hc) (zaw hs fun hc hs=>And.intro (And.intro (zE enc_55 3 b.get) hc) (zEh hs hk rfl rfl rfl rfl)))
def zf6 (a:(Sl Gate)) (b:(Sl Gate)) (low:Int) (high:Int) (zpQ:Bool):(Int×Frac×Frac×Int) :=
  (cond zpQ
 ((0:Int),(⟨(0:Int),(0:Int)⟩:Frac),(⟨(0:Int),(0:Int)⟩:Frac),(2:Int))
 (zp0 a b low high))
def zf7 (a:(Sl Gate)) (b:(Sl Gate)) (low:Int) (high:Int) (zpQ:Bool):Bool :=
  (cond zpQ
 true
 (zp1 a b low high))
theorem zjK (hs:zf7 a b low high zpQ=true) (hk:K (e19 (zf6 a b low high zpQ))):z19 K [1,0,1,0,1] [] ⟨[(0,zS enc_55 3 a),(1,zS enc_55 3 b),(2,zI low),(3,zI high),(9,zp 9 0),(10,zp 10 0),(12,zp 12 0),(44,zB zpQ)],[(9,.box 25 (zm (zae (⟨(0:Int),(0:Int)⟩:Frac)))),(10,.box 25 (zm (zae (⟨(0:Int),(0:Int)⟩:Frac)))),(12,.box 25 (zm (zae (⟨(0:Int),(0:Int)⟩:Frac))))],[]⟩:=zax (by kernel_rfl) (zc hs hk (fun hs hk=>hk) (fun hs hk=>(zEm hs hk)))
def s19 (a:(Sl Gate)) (b:(Sl Gate)) (low:Int) (high:Int):(Int×Frac×Frac×Int) :=
  (cond (decide (low < (-100000:Int)))
 (zf6 a b low high true)
 (cond (decide (low > high))
 (zf6 a b low high true)
 (cond (decide (high > (200000:Int)))
 (zf6 a b low high true)
 (cond (!(s64 a))
 (zf6 a b low high true)
 (zf6 a b low high (!(s64 b)))))))
def p19 (a:(Sl Gate)) (b:(Sl Gate)) (low:Int) (high:Int):Bool :=
  (cond (decide (low < (-100000:Int)))
 (zf7 a b low high true)
 (cond (decide (low > high))
 (zf7 a b low high true)
 (cond (decide (high > (200000:Int)))
 (zf7 a b low high true)
 (decide ((p64 a=true)) &&
 (cond (!(s64 a))
 (zf7 a b low high true)
 (decide ((p64 b=true)) &&
 (zf7 a b low high (!(s64 b)))))))))
end
theorem q19 (a:(Sl Gate)) (b:(Sl Gate)) (low:Int) (high:Int) (K:List PA→Prop) (hs:p19 a b low high=true) (hk:K (e19 (s19 a b low high))):vcFun Try.prog G19 zEb 19 [.one (.sl a.len 3 (fun i=>enc_55 (a.get i))),.one (.sl b.len 3 (fun i=>enc_55 (b.get i))),.one (.int .i64 low),.one (.int .i64 high)] K :=
  zax (by kernel_rfl) (zc hs hk (fun hs hk=>(zjK hs hk)) (fun hs hk=>(zc hs hk (fun hs hk=>(zjK hs hk)) (fun hs hk=>(zc hs hk (fun hs hk=>(zjK hs hk)) (fun hs hk=>(zaw hs fun hc hs=>And.intro (And.intro (zE enc_55 3 a.get) hc) (zc hs hk (fun hs hk=>(zjK hs hk)) (fun hs hk=>(zaw hs fun hc hs=>And.intro (And.intro (zE enc_55 3 b.get) hc) (zjK hs hk)))))))))))
def zAZ : List PA → COut
  | [.one (.sl a0_n a0_s a0_g),.one (.sl a1_n a1_s a1_g),.one (.int .i64 a2),.one (.int .i64 a3)]=>.det (IsE enc_55 3 a0_s a0_g∧IsE enc_55 3 a1_s a1_g∧p19 (⟨a0_n,zad a0_g⟩:(Sl Gate)) (⟨a1_n,zad a1_g⟩:(Sl Gate)) a2 a3=true) [.one (.int .i64 ((s19 (⟨a0_n,zad a0_g⟩:(Sl Gate)) (⟨a1_n,zad a1_g⟩:(Sl Gate)) a2 a3).1)),.agg [.int .i64 (((s19 (⟨a0_n,zad a0_g⟩:(Sl Gate)) (⟨a1_n,zad a1_g⟩:(Sl Gate)) a2 a3).2.1).Num),.int .i64 (((s19 (⟨a0_n,zad a0_g⟩:(Sl Gate)) (⟨a1_n,zad a1_g⟩:(Sl Gate)) a2 a3).2.1).Den)],.agg [.int .i64 (((s19 (⟨a0_n,zad a0_g⟩:(Sl Gate)) (⟨a1_n,zad a1_g⟩:(Sl Gate)) a2 a3).2.2.1).Num),.int .i64 (((s19 (⟨a0_n,zad a0_g⟩:(Sl Gate)) (⟨a1_n,zad a1_g⟩:(Sl Gate)) a2 a3).2.2.1).Den)],.one (.int .i64 ((s19 (⟨a0_n,zad a0_g⟩:(Sl Gate)) (⟨a1_n,zad a1_g⟩:(Sl Gate)) a2 a3).2.2.2))]
  | _=>.no
theorem zIA:zah Try.prog 19:=⟨_,rfl,rfl,by kernel_rfl⟩
theorem zMS:Ok Try.prog 19 zAZ:=zaz zLm zIA fun args K h=>by
  unfold zAZ at h
  split at h
  · rename_i a0_n a0_s a0_g a1_n a1_s a1_g a2 a3
    obtain ⟨⟨⟨rfl,a0_f,rfl⟩,⟨rfl,a1_f,rfl⟩,hs⟩,hk⟩:=h
    try rw [zac a0_f] at hs
    try rw [zac a0_f] at hk
    try rw [zac a1_f] at hs
    try rw [zac a1_f] at hk
    exact ⟨(fun _ _=>[]),(fun _=>false),zEb,q19 (⟨a0_n,a0_f⟩:(Sl Gate)) (⟨a1_n,a1_f⟩:(Sl Gate)) a2 a3 K hs hk⟩
  · exact h.elim
abbrev T76:Tabs:=Tabs.nil
theorem zLn:TabsOk Try.prog T76:=TabsOk.nil
abbrev G76:Ctrs:=csm T76 (fun _ _=>[]) (fun _=>false)
def zIB:Ann:=⟨11,[(0,zK [1,2] [2]),(1,zK [3] [])],
 [],
 [],
 [],[]⟩
abbrev R76:=Bool
abbrev e76 (r:R76):List PA:=[.one (.bool r)]
section
variable {K:List PA→Prop} {c0:Int} {l_a0:list}
def s76 (c0:Int) (l_a0:list):Bool :=
  ((l_a0.Gates.get 0).Z == c0)
def p76 (c0:Int) (l_a0:list):Bool :=
  (decide ((0≤(0:Int)∧(0:Int) < (l_a0.Gates.len:Int))) &&
 true)
end
theorem q76 (c0:Int) (l_a0:list) (K:List PA→Prop) (hs:p76 c0 l_a0=true) (hk:K (e76 (s76 c0 l_a0))):vcFun Try.prog G76 zIB 76 [.agg (zb0 l_a0),.one (.fp (zal c0) 0)] K :=
  zax (by kernel_rfl) (zaw hs fun hc hs=>And.intro hc hk)
def zEn : List PA → COut
  | [.agg [.sl a0_Gates_n a0_Gates_s a0_Gates_g],.one (.fp [.int .i64 c0] 0)]=>.det (IsE enc_55 3 a0_Gates_s a0_Gates_g∧p76 c0 (⟨(⟨a0_Gates_n,zad a0_Gates_g⟩:(Sl Gate))⟩:list)=true) [.one (.bool (s76 c0 (⟨(⟨a0_Gates_n,zad a0_Gates_g⟩:(Sl Gate))⟩:list)))]
  | _=>.no
theorem zIC:zah Try.prog 76:=⟨_,rfl,rfl,by kernel_rfl⟩
theorem zOj:Ok Try.prog 76 zEn:=zaz zLn zIC fun args K h=>by
  unfold zEn at h
  split at h
  · rename_i a0_Gates_n a0_Gates_s a0_Gates_g c0
    obtain ⟨⟨⟨rfl,a0_Gates_f,rfl⟩,hs⟩,hk⟩:=h
    try rw [zac a0_Gates_f] at hs
    try rw [zac a0_Gates_f] at hk
    exact ⟨(fun _ _=>[]),(fun _=>false),zIB,q76 c0 (⟨(⟨a0_Gates_n,a0_Gates_f⟩:(Sl Gate))⟩:list) K hs hk⟩
  · exact h.elim
abbrev T77:Tabs:=Tabs.nil
theorem zLo:TabsOk Try.prog T77:=TabsOk.nil
abbrev G77:Ctrs:=csm T77 (fun _ _=>[]) (fun _=>false)
def zID:Ann:=⟨3,[(0,zK [] []),(1,zK [2] [])],
 [],
 [],
 [],[]⟩
abbrev R77:=Bool
abbrev e77 (r:R77):List PA:=[.one (.bool r)]
section
variable {K:List PA→Prop} {a0_a0:list}
def s77 (a0_a0:list):Bool :=
  false
end
theorem q77 (a0_a0:list) (K:List PA→Prop) (hk:K (e77 (s77 a0_a0))):vcFun Try.prog G77 zID 77 [.agg (zb0 a0_a0)] K :=
  zax (by kernel_rfl) hk
def zEo : List PA → COut
  | [.agg [.sl a0_Gates_n a0_Gates_s a0_Gates_g]]=>.det (IsE enc_55 3 a0_Gates_s a0_Gates_g) [.one (.bool (s77 (⟨(⟨a0_Gates_n,zad a0_Gates_g⟩:(Sl Gate))⟩:list)))]
  | _=>.no
theorem zIE:zah Try.prog 77:=⟨_,rfl,rfl,by kernel_rfl⟩
theorem zOk:Ok Try.prog 77 zEo:=zaz zLo zIE fun args K h=>by
  unfold zEo at h
  split at h
  · rename_i a0_Gates_n a0_Gates_s a0_Gates_g
    obtain ⟨⟨rfl,a0_Gates_f,rfl⟩,hk⟩:=h
    try rw [zac a0_Gates_f] at hk
    exact ⟨(fun _ _=>[]),(fun _=>false),zID,q77 (⟨(⟨a0_Gates_n,a0_Gates_f⟩:(Sl Gate))⟩:list) K hk⟩
  · exact h.elim
abbrev T88:Tabs:=Tabs.nil
theorem zLp:TabsOk Try.prog T88:=TabsOk.nil
abbrev G88:Ctrs:=csm T88 (fun _ _=>[]) (fun _=>false)
def zIF:Ann:=⟨3,[(0,zK [] []),(1,zK [2] [])],
 [],
 [],
 [],[]⟩
abbrev R88:=Bool
abbrev e88 (r:R88):List PA:=[.one (.bool r)]
section
variable {K:List PA→Prop} {a0_a0:list}
def s88 (a0_a0:list):Bool :=
  true
end
theorem q88 (a0_a0:list) (K:List PA→Prop) (hk:K (e88 (s88 a0_a0))):vcFun Try.prog G88 zIF 88 [.agg (zb0 a0_a0)] K :=
  zax (by kernel_rfl) hk
def zEp : List PA → COut
  | [.agg [.sl a0_Gates_n a0_Gates_s a0_Gates_g]]=>.det (IsE enc_55 3 a0_Gates_s a0_Gates_g) [.one (.bool (s88 (⟨(⟨a0_Gates_n,zad a0_Gates_g⟩:(Sl Gate))⟩:list)))]
  | _=>.no
theorem zIG:zah Try.prog 88:=⟨_,rfl,rfl,by kernel_rfl⟩
theorem zOl:Ok Try.prog 88 zEp:=zaz zLp zIG fun args K h=>by
  unfold zEp at h
  split at h
  · rename_i a0_Gates_n a0_Gates_s a0_Gates_g
    obtain ⟨⟨rfl,a0_Gates_f,rfl⟩,hk⟩:=h
    try rw [zac a0_Gates_f] at hk
    exact ⟨(fun _ _=>[]),(fun _=>false),zIF,q88 (⟨(⟨a0_Gates_n,a0_Gates_f⟩:(Sl Gate))⟩:list) K hk⟩
  · exact h.elim
abbrev T75:Tabs:=(((((((Tabs.nil.addF 64 ztf).addF 65 zu7).addF 66 zva).addF 67 zoj).addF 76 zEn).addF 77 zEo).addF 88 zEp)
theorem zLq:TabsOk Try.prog T75:=(((((((TabsOk.nil.addF zKc).addF zK4).addF zK7).addF zH1).addF zOj).addF zOk).addF zOl)
abbrev G75:Ctrs:=csm T75 (fun _ _=>[]) (fun _=>false)
def zEq:Ann:=⟨31,[(0,zK [0,1,4] [4]),(1,zK [0,1,4,9] [4]),(2,zK [4,5] [4]),(3,zK [1,4,6] [4,6]),(4,zK [1,4,6,13] [4,6]),(5,zK [4,5] [4]),(6,zK [4,6,18] [4,6]),(7,zK [4,5] [4]),(8,zK [4,5] [4])],
 [],
 [(3,zK [0,1,4] [4])],
 [],[]⟩
abbrev R75:=(set×Int)
abbrev e75 (r:R75):List PA:=[.agg [.sl r.1.list.Gates.len 3 (fun i=>enc_55 (r.1.list.Gates.get i)),.sl r.1.corners.len 3 (fun i=>zaf (r.1.corners.get i))],.one (.int .i64 r.2)]
@[irreducible] def z75:=ptF Try.prog G75 zEq Try.f75
section
variable {K:List PA→Prop} {zaa:(Sl Gate)}
def zp2 (zaa:(Sl Gate)):(set×Int) :=
  (cond (!(s66 (s65 zaa)))
 ((⟨(⟨(⟨0,fun _=>default⟩:(Sl Gate))⟩:list),(⟨0,fun _=>default⟩:(Sl straight))⟩:set),(5:Int))
 (cond (s67 ((s65 zaa).list))
 (cond (!(s77 ((s65 zaa).list)))
 ((⟨(⟨(⟨0,fun _=>default⟩:(Sl Gate))⟩:list),(⟨0,fun _=>default⟩:(Sl straight))⟩:set),(6:Int))
 ((s65 zaa),(0:Int)))
 ((s65 zaa),(0:Int))))
def zp3 (zaa:(Sl Gate)):Bool :=
  (decide ((p65 zaa=true)) &&
 (decide ((p66 (s65 zaa)=true)) &&
 (cond (!(s66 (s65 zaa)))
 true
 (decide ((p67 ((s65 zaa).list)=true)) &&
 true))))
theorem zEr (hs:zp3 zaa=true) (hk:K (e75 (zp2 zaa))):z75 (Wk K) [1,1] [] ⟨[(0,zS enc_55 3 zaa),(1,zP (.fn 77 [] [])),(4,zp 4 0)],[(4,.box 104 [.p (.nils),.p (.nils)])],[]⟩:=zax (by kernel_rfl) (zaw hs fun hc hs=>And.intro (And.intro (zE enc_55 3 zaa.get) hc) (zaw hs fun hc hs=>And.intro (And.intro (zE enc_55 3 ((s65 zaa).list.Gates.get)) (And.intro (zE zaf 3 ((s65 zaa).corners.get)) hc)) (zc hs hk (fun hs hk=>((wk hk (zc5 (.agg (zc5 (.nil _ _) (zc5 (.nil _ _) zgX))) (zc5 (.one (.rfl _)) zgX))):Wk K [.agg [.nils,.nils],.one (.int .i64 (5:Int))])) (fun hs hk=>(zaw hs fun hc hs=>And.intro (And.intro (zE enc_55 3 ((s65 zaa).list.Gates.get)) hc) (zt hk (fun hk=>(And.intro (zE enc_55 3 ((s65 zaa).list.Gates.get)) (zt hk (fun hk=>((wk hk (zc5 (.agg (zc5 (.nil _ _) (zc5 (.nil _ _) zgX))) (zc5 (.one (.rfl _)) zgX))):Wk K [.agg [.nils,.nils],.one (.int .i64 (6:Int))])) (fun hk=>((zd6 hk):Wk K [.agg [.sl ((s65 zaa).list.Gates.len) 3 (fun i=>enc_55 ((s65 zaa).list.Gates.get i)),.sl ((s65 zaa).corners.len) 3 (fun i=>zaf ((s65 zaa).corners.get i))],.one (.int .i64 (0:Int))]))))) (fun hk=>((zd6 hk):Wk K [.agg [.sl ((s65 zaa).list.Gates.len) 3 (fun i=>enc_55 ((s65 zaa).list.Gates.get i)),.sl ((s65 zaa).corners.len) 3 (fun i=>zaf ((s65 zaa).corners.get i))],.one (.int .i64 (0:Int))]))))))))
def s75 (zaa:(Sl Gate)):(set×Int) :=
  (cond (!(s64 zaa))
 ((⟨(⟨(⟨0,fun _=>default⟩:(Sl Gate))⟩:list),(⟨0,fun _=>default⟩:(Sl straight))⟩:set),(2:Int))
 (zp2 zaa))
def p75 (zaa:(Sl Gate)):Bool :=
  (decide ((p64 zaa=true)) &&
 (cond (!(s64 zaa))
 true
 (zp3 zaa)))
end
theorem q75 (zaa:(Sl Gate)) (K:List PA→Prop) (hs:p75 zaa=true) (hk:K (e75 (s75 zaa))):vcFun Try.prog G75 zEq 75 [.one (.sl zaa.len 3 (fun i=>enc_55 (zaa.get i))),.one (.fn 77 [] [])] (Wk K) :=
  zax (by kernel_rfl) (zaw hs fun hc hs=>And.intro (And.intro (zE enc_55 3 zaa.get) hc) (zc hs hk (fun hs hk=>((wk hk (zc5 (.agg (zc5 (.nil _ _) (zc5 (.nil _ _) zgX))) (zc5 (.one (.rfl _)) zgX))):Wk K [.agg [.nils,.nils],.one (.int .i64 (2:Int))])) (fun hs hk=>(zEr hs hk))))
abbrev zMT:Ctrs:=csm T75 (fun _ _=>[]) (fun _=>false)
def zvE:Ann:=⟨31,[(0,zK [0,1,4] [4]),(1,zK [0,1,4,9] [4]),(2,zK [4,5] [4]),(3,zK [1,4,6] [4,6]),(4,zK [1,4,6,13] [4,6]),(5,zK [4,5] [4]),(6,zK [4,6,18] [4,6]),(7,zK [4,5] [4]),(8,zK [4,5] [4])],
 [],
 [(3,zK [0,1,4] [4])],
 [],[]⟩
abbrev zOm:=(set×Int)
abbrev zMU (r:zOm):List PA:=[.agg [.sl r.1.list.Gates.len 3 (fun i=>enc_55 (r.1.list.Gates.get i)),.sl r.1.corners.len 3 (fun i=>zaf (r.1.corners.get i))],.one (.int .i64 r.2)]
@[irreducible] def z75a:=ptF Try.prog zMT zvE Try.f75
section
variable {K:List PA→Prop} {c0:Int} {zaa:(Sl Gate)}
def zmC (c0:Int) (zaa:(Sl Gate)):(set×Int) :=
  (cond (!(s66 (s65 zaa)))
 ((⟨(⟨(⟨0,fun _=>default⟩:(Sl Gate))⟩:list),(⟨0,fun _=>default⟩:(Sl straight))⟩:set),(5:Int))
 (cond (s67 ((s65 zaa).list))
 (cond (!(s76 c0 ((s65 zaa).list)))
 ((⟨(⟨(⟨0,fun _=>default⟩:(Sl Gate))⟩:list),(⟨0,fun _=>default⟩:(Sl straight))⟩:set),(6:Int))
 ((s65 zaa),(0:Int)))
 ((s65 zaa),(0:Int))))
def zmD (c0:Int) (zaa:(Sl Gate)):Bool :=
  (decide ((p65 zaa=true)) &&
 (decide ((p66 (s65 zaa)=true)) &&
 (cond (!(s66 (s65 zaa)))
 true
 (decide ((p67 ((s65 zaa).list)=true)) &&
 (cond (s67 ((s65 zaa).list))
 (decide ((p76 c0 ((s65 zaa).list)=true)) &&
 true)
 true)))))
theorem zA0 (hs:zmD c0 zaa=true) (hk:K (zMU (zmC c0 zaa))):z75a (Wk K) [1,1] [] ⟨[(0,zS enc_55 3 zaa),(1,zP (.fn 76 [] [.fp (zal c0) 0])),(4,zp 4 0)],[(4,.box 104 [.p (.nils),.p (.nils)])],[]⟩:=zax (by kernel_rfl) (zaw hs fun hc hs=>And.intro (And.intro (zE enc_55 3 zaa.get) hc) (zaw hs fun hc hs=>And.intro (And.intro (zE enc_55 3 ((s65 zaa).list.Gates.get)) (And.intro (zE zaf 3 ((s65 zaa).corners.get)) hc)) (zc hs hk (fun hs hk=>((wk hk (zc5 (.agg (zc5 (.nil _ _) (zc5 (.nil _ _) zgX))) (zc5 (.one (.rfl _)) zgX))):Wk K [.agg [.nils,.nils],.one (.int .i64 (5:Int))])) (fun hs hk=>(zaw hs fun hc hs=>And.intro (And.intro (zE enc_55 3 ((s65 zaa).list.Gates.get)) hc) (zc hs hk (fun hs hk=>(zaw hs fun hc hs=>And.intro (And.intro (zE enc_55 3 ((s65 zaa).list.Gates.get)) hc) (zt hk (fun hk=>((wk hk (zc5 (.agg (zc5 (.nil _ _) (zc5 (.nil _ _) zgX))) (zc5 (.one (.rfl _)) zgX))):Wk K [.agg [.nils,.nils],.one (.int .i64 (6:Int))])) (fun hk=>((zd6 hk):Wk K [.agg [.sl ((s65 zaa).list.Gates.len) 3 (fun i=>enc_55 ((s65 zaa).list.Gates.get i)),.sl ((s65 zaa).corners.len) 3 (fun i=>zaf ((s65 zaa).corners.get i))],.one (.int .i64 (0:Int))]))))) (fun hs hk=>((zd6 hk):Wk K [.agg [.sl ((s65 zaa).list.Gates.len) 3 (fun i=>enc_55 ((s65 zaa).list.Gates.get i)),.sl ((s65 zaa).corners.len) 3 (fun i=>zaf ((s65 zaa).corners.get i))],.one (.int .i64 (0:Int))]))))))))
def zoL (c0:Int) (zaa:(Sl Gate)):(set×Int) :=
  (cond (!(s64 zaa))
 ((⟨(⟨(⟨0,fun _=>default⟩:(Sl Gate))⟩:list),(⟨0,fun _=>default⟩:(Sl straight))⟩:set),(2:Int))
 (zmC c0 zaa))
def zEs (c0:Int) (zaa:(Sl Gate)):Bool :=
  (decide ((p64 zaa=true)) &&
 (cond (!(s64 zaa))
 true
 (zmD c0 zaa)))
end
theorem zOn (c0:Int) (zaa:(Sl Gate)) (K:List PA→Prop) (hs:zEs c0 zaa=true) (hk:K (zMU (zoL c0 zaa))):vcFun Try.prog zMT zvE 75 [.one (.sl zaa.len 3 (fun i=>enc_55 (zaa.get i))),.one (.fn 76 [] [.fp (zal c0) 0])] (Wk K) :=
  zax (by kernel_rfl) (zaw hs fun hc hs=>And.intro (And.intro (zE enc_55 3 zaa.get) hc) (zc hs hk (fun hs hk=>((wk hk (zc5 (.agg (zc5 (.nil _ _) (zc5 (.nil _ _) zgX))) (zc5 (.one (.rfl _)) zgX))):Wk K [.agg [.nils,.nils],.one (.int .i64 (2:Int))])) (fun hs hk=>(zA0 hs hk))))
abbrev zMV:Ctrs:=csm T75 (fun _ _=>[]) (fun _=>false)
def zvF:Ann:=⟨31,[(0,zK [0,1,4] [4]),(1,zK [0,1,4,9] [4]),(2,zK [4,5] [4]),(3,zK [1,4,6] [4,6]),(4,zK [1,4,6,13] [4,6]),(5,zK [4,5] [4]),(6,zK [4,6,18] [4,6]),(7,zK [4,5] [4]),(8,zK [4,5] [4])],
 [],
 [(3,zK [0,1,4] [4])],
 [],[]⟩
abbrev zOo:=(set×Int)
abbrev zMW (r:zOo):List PA:=[.agg [.sl r.1.list.Gates.len 3 (fun i=>enc_55 (r.1.list.Gates.get i)),.sl r.1.corners.len 3 (fun i=>zaf (r.1.corners.get i))],.one (.int .i64 r.2)]
@[irreducible] def z75b:=ptF Try.prog zMV zvF Try.f75
section
variable {K:List PA→Prop} {zaa:(Sl Gate)}
def zmE (zaa:(Sl Gate)):(set×Int) :=
  (cond (!(s66 (s65 zaa)))
 ((⟨(⟨(⟨0,fun _=>default⟩:(Sl Gate))⟩:list),(⟨0,fun _=>default⟩:(Sl straight))⟩:set),(5:Int))
 (cond (s67 ((s65 zaa).list))
 (cond (!(s88 ((s65 zaa).list)))
 ((⟨(⟨(⟨0,fun _=>default⟩:(Sl Gate))⟩:list),(⟨0,fun _=>default⟩:(Sl straight))⟩:set),(6:Int))
 ((s65 zaa),(0:Int)))
 ((s65 zaa),(0:Int))))
def zmF (zaa:(Sl Gate)):Bool :=
  (decide ((p65 zaa=true)) &&
 (decide ((p66 (s65 zaa)=true)) &&
 (cond (!(s66 (s65 zaa)))
 true
 (decide ((p67 ((s65 zaa).list)=true)) &&
 true))))
theorem zA1 (hs:zmF zaa=true) (hk:K (zMW (zmE zaa))):z75b (Wk K) [1,1] [] ⟨[(0,zS enc_55 3 zaa),(1,zP (.fn 88 [] [])),(4,zp 4 0)],[(4,.box 104 [.p (.nils),.p (.nils)])],[]⟩:=zax (by kernel_rfl) (zaw hs fun hc hs=>And.intro (And.intro (zE enc_55 3 zaa.get) hc) (zaw hs fun hc hs=>And.intro (And.intro (zE enc_55 3 ((s65 zaa).list.Gates.get)) (And.intro (zE zaf 3 ((s65 zaa).corners.get)) hc)) (zc hs hk (fun hs hk=>((wk hk (zc5 (.agg (zc5 (.nil _ _) (zc5 (.nil _ _) zgX))) (zc5 (.one (.rfl _)) zgX))):Wk K [.agg [.nils,.nils],.one (.int .i64 (5:Int))])) (fun hs hk=>(zaw hs fun hc hs=>And.intro (And.intro (zE enc_55 3 ((s65 zaa).list.Gates.get)) hc) (zt hk (fun hk=>(And.intro (zE enc_55 3 ((s65 zaa).list.Gates.get)) (zt hk (fun hk=>((wk hk (zc5 (.agg (zc5 (.nil _ _) (zc5 (.nil _ _) zgX))) (zc5 (.one (.rfl _)) zgX))):Wk K [.agg [.nils,.nils],.one (.int .i64 (6:Int))])) (fun hk=>((zd6 hk):Wk K [.agg [.sl ((s65 zaa).list.Gates.len) 3 (fun i=>enc_55 ((s65 zaa).list.Gates.get i)),.sl ((s65 zaa).corners.len) 3 (fun i=>zaf ((s65 zaa).corners.get i))],.one (.int .i64 (0:Int))]))))) (fun hk=>((zd6 hk):Wk K [.agg [.sl ((s65 zaa).list.Gates.len) 3 (fun i=>enc_55 ((s65 zaa).list.Gates.get i)),.sl ((s65 zaa).corners.len) 3 (fun i=>zaf ((s65 zaa).corners.get i))],.one (.int .i64 (0:Int))]))))))))
def zzE (zaa:(Sl Gate)):(set×Int) :=
  (cond (!(s64 zaa))
 ((⟨(⟨(⟨0,fun _=>default⟩:(Sl Gate))⟩:list),(⟨0,fun _=>default⟩:(Sl straight))⟩:set),(2:Int))
 (zmE zaa))
def zG2 (zaa:(Sl Gate)):Bool :=
  (decide ((p64 zaa=true)) &&
 (cond (!(s64 zaa))
 true
 (zmF zaa)))
end
theorem zOp (zaa:(Sl Gate)) (K:List PA→Prop) (hs:zG2 zaa=true) (hk:K (zMW (zzE zaa))):vcFun Try.prog zMV zvF 75 [.one (.sl zaa.len 3 (fun i=>enc_55 (zaa.get i))),.one (.fn 88 [] [])] (Wk K) :=
  zax (by kernel_rfl) (zaw hs fun hc hs=>And.intro (And.intro (zE enc_55 3 zaa.get) hc) (zc hs hk (fun hs hk=>((wk hk (zc5 (.agg (zc5 (.nil _ _) (zc5 (.nil _ _) zgX))) (zc5 (.one (.rfl _)) zgX))):Wk K [.agg [.nils,.nils],.one (.int .i64 (2:Int))])) (fun hs hk=>(zA1 hs hk))))
def ztj : List PA → COut
  | [.one (.sl a0_n a0_s a0_g),.one (.fn 77 [] [])]=>.det (IsE enc_55 3 a0_s a0_g∧p75 (⟨a0_n,zad a0_g⟩:(Sl Gate))=true) [.agg [.sl (((s75 (⟨a0_n,zad a0_g⟩:(Sl Gate))).1).list.Gates.len) 3 (fun i=>enc_55 (((s75 (⟨a0_n,zad a0_g⟩:(Sl Gate))).1).list.Gates.get i)),.sl (((s75 (⟨a0_n,zad a0_g⟩:(Sl Gate))).1).corners.len) 3 (fun i=>zaf (((s75 (⟨a0_n,zad a0_g⟩:(Sl Gate))).1).corners.get i))],.one (.int .i64 ((s75 (⟨a0_n,zad a0_g⟩:(Sl Gate))).2))]
  | [.one (.sl a0_n a0_s a0_g),.one (.fn 76 [] [.fp [.int .i64 c0] 0])]=>.det (IsE enc_55 3 a0_s a0_g∧zEs c0 (⟨a0_n,zad a0_g⟩:(Sl Gate))=true) [.agg [.sl (((zoL c0 (⟨a0_n,zad a0_g⟩:(Sl Gate))).1).list.Gates.len) 3 (fun i=>enc_55 (((zoL c0 (⟨a0_n,zad a0_g⟩:(Sl Gate))).1).list.Gates.get i)),.sl (((zoL c0 (⟨a0_n,zad a0_g⟩:(Sl Gate))).1).corners.len) 3 (fun i=>zaf (((zoL c0 (⟨a0_n,zad a0_g⟩:(Sl Gate))).1).corners.get i))],.one (.int .i64 ((zoL c0 (⟨a0_n,zad a0_g⟩:(Sl Gate))).2))]
  | [.one (.sl a0_n a0_s a0_g),.one (.fn 88 [] [])]=>.det (IsE enc_55 3 a0_s a0_g∧zG2 (⟨a0_n,zad a0_g⟩:(Sl Gate))=true) [.agg [.sl (((zzE (⟨a0_n,zad a0_g⟩:(Sl Gate))).1).list.Gates.len) 3 (fun i=>enc_55 (((zzE (⟨a0_n,zad a0_g⟩:(Sl Gate))).1).list.Gates.get i)),.sl (((zzE (⟨a0_n,zad a0_g⟩:(Sl Gate))).1).corners.len) 3 (fun i=>zaf (((zzE (⟨a0_n,zad a0_g⟩:(Sl Gate))).1).corners.get i))],.one (.int .i64 ((zzE (⟨a0_n,zad a0_g⟩:(Sl Gate))).2))]
  | _=>.no
theorem zIH:zah Try.prog 75:=⟨_,rfl,rfl,by kernel_rfl⟩
theorem zMX:Ok Try.prog 75 ztj:=zg8 zLq zIH fun args K h=>by
  unfold ztj at h
  split at h
  · rename_i a0_n a0_s a0_g
    obtain ⟨⟨⟨rfl,a0_f,rfl⟩,hs⟩,hk⟩:=h
    try rw [zac a0_f] at hs
    try rw [zac a0_f] at hk
    exact ⟨_,zeU zfF _,(fun _ _=>[]),(fun _=>false),zEq,q75 (⟨a0_n,a0_f⟩:(Sl Gate)) K hs hk⟩
  · rename_i a0_n a0_s a0_g c0
    obtain ⟨⟨⟨rfl,a0_f,rfl⟩,hs⟩,hk⟩:=h
    try rw [zac a0_f] at hs
    try rw [zac a0_f] at hk
    exact ⟨_,zeU zfF _,(fun _ _=>[]),(fun _=>false),zvE,zOn c0 (⟨a0_n,a0_f⟩:(Sl Gate)) K hs hk⟩
  · rename_i a0_n a0_s a0_g
    obtain ⟨⟨⟨rfl,a0_f,rfl⟩,hs⟩,hk⟩:=h
    try rw [zac a0_f] at hs
    try rw [zac a0_f] at hk
    exact ⟨_,zeU zfF _,(fun _ _=>[]),(fun _=>false),zvF,zOp (⟨a0_n,a0_f⟩:(Sl Gate)) K hs hk⟩
  · exact h.elim
abbrev T30:Tabs:=(((Tabs.nil.addF 68 zvs).addF 74 zpr).addF 75 ztj)
theorem zLr:TabsOk Try.prog T30:=(((TabsOk.nil.addF zMR).addF zHK).addF zMX)
abbrev G30:Ctrs:=csm T30 (fun _ _=>[]) (fun _=>false)
def zEt:Ann:=⟨35,[(0,zK [0,3,4,5] [3,4,5]),(1,zK [0,3,4,5,13] [3,4,5]),(2,zK [4,5,6] [4,5]),(3,zK [3,4,5,7,8] [3,4,5,7]),(4,zK [3,4,5,7,8,23] [3,4,5,7]),(5,zK [4,5,6] [4,5]),(6,zK [4,5,9,10] [4,5,9,10]),(7,zK [4,5,6] [4,5])],
 [],
 [(2,zK [0,3,4,5,13] [3,4,5]),(3,zK [0,3,4,5] [3,4,5]),(4,zK [3,4,5,7,8] [3,4,5,7]),(6,zK [3,4,5,7] [3,4,5,7]),(7,zK [4,5,9,10] [4,5,9,10])],
 [],[]⟩
abbrev R30:=(Frac×Frac×Int)
abbrev e30 (r:R30):List PA:=[.agg [.int .i64 r.1.Num,.int .i64 r.1.Den],.agg [.int .i64 r.2.1.Num,.int .i64 r.2.1.Den],.one (.int .i64 r.2.2)]
@[irreducible] def z30:=ptF Try.prog G30 zEt Try.f30
section
variable {K:List PA→Prop} {zaa:(Sl Gate)} {z:Int} {zp4:Bool} {ev2:Int} {zck:(Sl Gate)} {zcl:(Sl straight)} {zp5:Nat→List PV} {zp6:Nat→List PV} {zho:(Sl Gate)} {zhp:(Sl straight)} {zp7:Nat→List PV} {zp8:Nat→List PV} {zmG:Int} {zmH:Int} {ziD:Int} {ziE:Int}
def zp9 (zmG:Int) (zmH:Int) (ziD:Int) (ziE:Int):(Frac×Frac×Int) :=
  ((⟨zmG,zmH⟩:Frac),(⟨ziD,ziE⟩:Frac),(0:Int))
theorem zEu (hk:K (e30 (zp9 zmG zmH ziD ziE))):z30 K [1,1,1,1,1] [] ⟨[(4,zp 4 0),(5,zp 5 0),(9,zp 9 0),(10,zp 10 0)],[(4,.box 25 (zm (zae (⟨(0:Int),(0:Int)⟩:Frac)))),(5,.box 25 (zm (zae (⟨(0:Int),(0:Int)⟩:Frac)))),(9,.box 25 (zm (zae (⟨zmG,zmH⟩:Frac)))),(10,.box 25 (zm (zae (⟨ziD,ziE⟩:Frac))))],[]⟩:=zax (by kernel_rfl) hk
def zqa (z:Int) (zho:(Sl Gate)) (zhp:(Sl straight)):(Frac×Frac×Int) :=
  (zp9 (((s68 (⟨(⟨zho⟩:list),zhp⟩:set) z).1).Num) (((s68 (⟨(⟨zho⟩:list),zhp⟩:set) z).1).Den) (((s68 (⟨(⟨zho⟩:list),zhp⟩:set) z).2).Num) (((s68 (⟨(⟨zho⟩:list),zhp⟩:set) z).2).Den))
def zqb (z:Int) (zho:(Sl Gate)) (zhp:(Sl straight)):Bool :=
  (decide ((p68 (⟨(⟨zho⟩:list),zhp⟩:set) z=true)) &&
 true)
theorem zEv (hs:zqb z zho zhp=true) (hk:K (e30 (zqa z zho zhp))) (zEw:zp7=zg enc_55 zho) (zEx:zp8=zg zaf zhp):z30 K [1,1,1,1] [] ⟨[(3,zp 3 0),(4,zp 4 0),(5,zp 5 0),(7,zp 7 0)],[(3,.fbox [.int .i64 z]),(4,.box 25 (zm (zae (⟨(0:Int),(0:Int)⟩:Frac)))),(5,.box 25 (zm (zae (⟨(0:Int),(0:Int)⟩:Frac)))),(7,.box 104 [.p (.sl zho.len 3 zp7),.p (.sl zhp.len 3 zp8)])],[]⟩:=by subst zEw;subst zEx;exact zax (by kernel_rfl) (zaw hs fun hc hs=>And.intro (And.intro (zE enc_55 3 zho.get) (And.intro (zE zaf 3 zhp.get) hc)) (zEu hk))
def zmI (z:Int) (ev2:Int) (zck:(Sl Gate)) (zcl:(Sl straight)):(Frac×Frac×Int) :=
  (cond (ev2 != (0:Int))
 ((⟨(0:Int),(0:Int)⟩:Frac),(⟨(0:Int),(0:Int)⟩:Frac),ev2)
 (zqa z zck zcl))
def zmJ (z:Int) (ev2:Int) (zck:(Sl Gate)) (zcl:(Sl straight)):Bool :=
  (cond (ev2 != (0:Int))
 true
 (zqb z zck zcl))
theorem zEy (hs:zmJ z ev2 zck zcl=true) (hk:K (e30 (zmI z ev2 zck zcl))) (zEz:zp5=zg enc_55 zck) (zEA:zp6=zg zaf zcl):z30 K [1,1,1] [] ⟨[(3,zp 3 0),(4,zp 4 0),(5,zp 5 0),(7,zp 7 0),(8,zI ev2)],[(3,.fbox [.int .i64 z]),(4,.box 25 (zm (zae (⟨(0:Int),(0:Int)⟩:Frac)))),(5,.box 25 (zm (zae (⟨(0:Int),(0:Int)⟩:Frac)))),(7,.box 104 [.p (.sl zck.len 3 zp5),.p (.sl zcl.len 3 zp6)])],[]⟩:=by subst zEz;subst zEA;exact zax (by kernel_rfl) (zc hs hk (fun hs hk=>hk) (fun hs hk=>(zEv hs hk rfl rfl)))
def zqc (zaa:(Sl Gate)) (z:Int):(Frac×Frac×Int) :=
  (zmI z ((zoL z zaa).2) (((zoL z zaa).1).list.Gates) (((zoL z zaa).1).corners))
def zqd (zaa:(Sl Gate)) (z:Int):Bool :=
  (decide ((zEs z zaa=true)) &&
 (zmJ z ((zoL z zaa).2) (((zoL z zaa).1).list.Gates) (((zoL z zaa).1).corners)))
theorem zEB (hs:zqd zaa z=true) (hk:K (e30 (zqc zaa z))):z30 K [1,1] [] ⟨[(0,zS enc_55 3 zaa),(3,zp 3 0),(4,zp 4 0),(5,zp 5 0)],[(3,.box 3 [zi z]),(4,.box 25 (zm (zae (⟨(0:Int),(0:Int)⟩:Frac)))),(5,.box 25 (zm (zae (⟨(0:Int),(0:Int)⟩:Frac))))],[]⟩:=zax (by kernel_rfl) (zaw hs fun hc hs=>And.intro (And.intro (zE enc_55 3 zaa.get) hc) (zEy hs hk rfl rfl))
def zqe (zaa:(Sl Gate)) (z:Int) (zp4:Bool):(Frac×Frac×Int) :=
  (cond zp4
 ((⟨(0:Int),(0:Int)⟩:Frac),(⟨(0:Int),(0:Int)⟩:Frac),(2:Int))
 (zqc zaa z))
def zqf (zaa:(Sl Gate)) (z:Int) (zp4:Bool):Bool :=
  (cond zp4
 true
 (zqd zaa z))
theorem zEC (hs:zqf zaa z zp4=true) (hk:K (e30 (zqe zaa z zp4))):z30 K [1,0,1] [] ⟨[(0,zS enc_55 3 zaa),(3,zp 3 0),(4,zp 4 0),(5,zp 5 0),(13,zB zp4)],[(3,.box 3 [zi z]),(4,.box 25 (zm (zae (⟨(0:Int),(0:Int)⟩:Frac)))),(5,.box 25 (zm (zae (⟨(0:Int),(0:Int)⟩:Frac))))],[]⟩:=zax (by kernel_rfl) (zc hs hk (fun hs hk=>hk) (fun hs hk=>(zEB hs hk)))
def s30 (zaa:(Sl Gate)) (z:Int):(Frac×Frac×Int) :=
  (zqe zaa z (!(s74 z (-100000:Int) (200000:Int))))
def p30 (zaa:(Sl Gate)) (z:Int):Bool :=
  (zqf zaa z (!(s74 z (-100000:Int) (200000:Int))))
end
theorem q30 (zaa:(Sl Gate)) (z:Int) (K:List PA→Prop) (hs:p30 zaa z=true) (hk:K (e30 (s30 zaa z))):vcFun Try.prog G30 zEt 30 [.one (.sl zaa.len 3 (fun i=>enc_55 (zaa.get i))),.one (.int .i64 z)] K :=
  zax (by kernel_rfl) (zEC hs hk)
def zA2 : List PA → COut
  | [.one (.sl a0_n a0_s a0_g),.one (.int .i64 a1)]=>.det (IsE enc_55 3 a0_s a0_g∧p30 (⟨a0_n,zad a0_g⟩:(Sl Gate)) a1=true) [.agg [.int .i64 (((s30 (⟨a0_n,zad a0_g⟩:(Sl Gate)) a1).1).Num),.int .i64 (((s30 (⟨a0_n,zad a0_g⟩:(Sl Gate)) a1).1).Den)],.agg [.int .i64 (((s30 (⟨a0_n,zad a0_g⟩:(Sl Gate)) a1).2.1).Num),.int .i64 (((s30 (⟨a0_n,zad a0_g⟩:(Sl Gate)) a1).2.1).Den)],.one (.int .i64 ((s30 (⟨a0_n,zad a0_g⟩:(Sl Gate)) a1).2.2))]
  | _=>.no
theorem zII:zah Try.prog 30:=⟨_,rfl,rfl,by kernel_rfl⟩
theorem zMY:Ok Try.prog 30 zA2:=zaz zLr zII fun args K h=>by
  unfold zA2 at h
  split at h
  · rename_i a0_n a0_s a0_g a1
    obtain ⟨⟨⟨rfl,a0_f,rfl⟩,hs⟩,hk⟩:=h
    try rw [zac a0_f] at hs
    try rw [zac a0_f] at hk
    exact ⟨(fun _ _=>[]),(fun _=>false),zEt,q30 (⟨a0_n,a0_f⟩:(Sl Gate)) a1 K hs hk⟩
  · exact h.elim
abbrev zMZ:Tabs:=Tabs.nil
theorem zIJ:TabsOk Try.prog zMZ:=TabsOk.nil
abbrev zM0:Ctrs:=csm zMZ (fun _ _=>[]) (fun _=>false)
def zvG:Ann:=⟨8,[(0,⟨[0],[],[],[],[],[],[]⟩),(1,⟨[0,4],[],[],[],[],[],[]⟩),(2,⟨[2],[],[],[],[],[],[]⟩),(3,⟨[2],[5],[],[],[],[],[]⟩)],
 [],
 [],
 [],[]⟩
theorem zA3 (n : Nat) (get : Nat → List PV) : zuw Try.prog zM0 zvG 105 [.one (.sl n 3 get)] 118 3 24 n get =
  ((True)∧(∃ r1:Bool,(n ≠ 0→r1=false))∧∀ r1:Bool,(n ≠ 0→r1=false) →
 (zcY r1
 (True∧n=0)
 ((((0+n) * 24≤140737488355328∧0+n≤9223372036854775807)) ∧
 (True∧118=118∧3=3∧24=24∧(0+n)=n∧∀ i,i < n→(appG 0 (zdf []) get) i=get i)))):=by kernel_rfl
abbrev zCg:OwnK:=.clone 118 3 24
theorem zED:zah Try.prog 105:=⟨_,rfl,rfl,by kernel_rfl⟩
theorem zLs:zlL Try.prog 105 zCg:=zuz zIJ zED fun n get h1 h2=>by
  refine ⟨fun _ _=>[],fun _=>false,zvG,?_⟩
  show zuw Try.prog zM0 zvG 105 _ _ _ _ _ _
  rw [zA3]
  refine ⟨trivial,⟨decide (n=0),fun h=>decide_eq_false h⟩,fun r1 hr=>?_⟩
  cases r1
  · refine ⟨⟨by omega,by omega⟩,trivial,rfl,rfl,rfl,Nat.zero_add n,fun i _=>rfl⟩
  · exact ⟨trivial,Classical.byContradiction fun h=>by simpa using hr h⟩
abbrev zCh:OwnK:=.sort 118 3 24
theorem zLt:zlL Try.prog 106 zCh:=zuG Try.laysS106 rfl rfl rfl (fun h=>h) ⟨_,rfl,rfl,by kernel_rfl⟩
abbrev zM1:Tabs:=(Tabs.nil.addF 99 zuY)
theorem zIK:TabsOk Try.prog zM1:=(TabsOk.nil.addF zKS)
abbrev zOq:Ctrs:=csm zM1 (fun _ _=>[]) (fun _=>false)
def zCi:Ann:=⟨10,[(0,zK [2,3] [2,3]),(1,zK [4] [])],
 [],
 [],
 [],[]⟩
abbrev zOr:=Bool
abbrev e108 (r:zOr):List PA:=[.one (.bool r)]
section
variable {K:List PA→Prop} {s:set} {x:straight}
def zCj (s:set) (x:straight):Bool :=
  (zKQ x s.list.Gates)
def zKm (s:set) (x:straight):Bool :=
  (decide ((zKR x s.list.Gates=true)) &&
 true)
end
theorem zOs (s:set) (x:straight) (K:List PA→Prop) (hs:zKm s x=true) (hk:K (e108 (zCj s x))):vcFun Try.prog zOq zCi 108 [.agg (zaW s),.agg (zaf x)] K :=
  zax (by kernel_rfl) (zaw hs fun hc hs=>And.intro (And.intro (zE enc_55 3 s.list.Gates.get) hc) hk)
def zvH : List PA → COut
  | [.agg [.sl a0_list_Gates_n a0_list_Gates_s a0_list_Gates_g,.sl a0_corners_n a0_corners_s a0_corners_g],.agg [.int .i64 a1_slope,.int .i64 a1_start,.int .i64 a1_den]]=>.det (IsE enc_55 3 a0_list_Gates_s a0_list_Gates_g∧IsE zaf 3 a0_corners_s a0_corners_g∧zKm (⟨(⟨(⟨a0_list_Gates_n,zad a0_list_Gates_g⟩:(Sl Gate))⟩:list),(⟨a0_corners_n,zaQ a0_corners_g⟩:(Sl straight))⟩:set) (⟨a1_slope,a1_start,a1_den⟩:straight)=true) [.one (.bool (zCj (⟨(⟨(⟨a0_list_Gates_n,zad a0_list_Gates_g⟩:(Sl Gate))⟩:list),(⟨a0_corners_n,zaQ a0_corners_g⟩:(Sl straight))⟩:set) (⟨a1_slope,a1_start,a1_den⟩:straight)))]
  | _=>.no
theorem zEE:zah Try.prog 108:=⟨_,rfl,rfl,by kernel_rfl⟩
theorem zLu:Ok Try.prog 108 zvH:=zaz zIK zEE fun args K h=>by
  unfold zvH at h
  split at h
  · rename_i a0_list_Gates_n a0_list_Gates_s a0_list_Gates_g a0_corners_n a0_corners_s a0_corners_g a1_slope a1_start a1_den
    obtain ⟨⟨⟨rfl,a0_list_Gates_f,rfl⟩,⟨rfl,a0_corners_f,rfl⟩,hs⟩,hk⟩:=h
    try rw [zac a0_list_Gates_f] at hs
    try rw [zac a0_list_Gates_f] at hk
    try rw [zaM a0_corners_f] at hs
    try rw [zaM a0_corners_f] at hk
    exact ⟨(fun _ _=>[]),(fun _=>false),zCi,zOs (⟨(⟨(⟨a0_list_Gates_n,a0_list_Gates_f⟩:(Sl Gate))⟩:list),(⟨a0_corners_n,a0_corners_f⟩:(Sl straight))⟩:set) (⟨a1_slope,a1_start,a1_den⟩:straight) K hs hk⟩
  · exact h.elim
abbrev zM2:Tabs:=(((Tabs.nil.addF 69 zpF).addF 89 zpz).addF 108 zvH)
theorem zIL:TabsOk Try.prog zM2:=(((TabsOk.nil.addF zKj).addF zKi).addF zLu)
abbrev zOt:Ctrs:=csm zM2 (fun _ _=>[]) (fun _=>false)
def zCk:Ann:=⟨38,[(0,zK [2,3,4] [3,4]),(1,zK [3,4,6,7] [3,4]),(2,zK [6,7,8] []),(3,zK [6,7,8,26] []),(4,zK [5] []),(5,zK [7,8,32] []),(6,zK [5] []),(7,zK [8,34] []),(8,zK [5] []),(9,zK [5] [])],
 [],
 [],
 [],[]⟩
abbrev zOu:=Int
abbrev zOv (r:zOu):List PA:=[.one (.int .i64 r)]
section
variable {K:List PA→Prop} {c0:set} {a:straight} {b:straight}
def zKn (c0:set) (a:straight) (b:straight):Int :=
  (cond (zCj c0 a)
 (cond (zCj c0 b)
 (s69 (s89 a.slope a.den) (s89 b.slope b.den))
 (cond (zCj c0 a)
 (-1:Int)
 (cond (zCj c0 b)
 (1:Int)
 (w64 (0 - (s69 (s89 a.slope a.den) (s89 b.slope b.den)))))))
 (cond (zCj c0 a)
 (-1:Int)
 (cond (zCj c0 b)
 (1:Int)
 (w64 (0 - (s69 (s89 a.slope a.den) (s89 b.slope b.den)))))))
def zKo (c0:set) (a:straight) (b:straight):Bool :=
  (decide ((zKm c0 a=true)) &&
 (decide ((zKm c0 b=true)) &&
 (decide ((p89 a.slope a.den=true)) &&
 (decide ((p89 b.slope b.den=true)) &&
 true))))
end
theorem zOw (c0:set) (a:straight) (b:straight) (K:List PA→Prop) (hs:zKo c0 a b=true) (hk:K (zOv (zKn c0 a b))):vcFun Try.prog zOt zCk 107 [.agg (zaf a),.agg (zaf b),.one (.fp (zaW c0) 0)] K :=
  zax (by kernel_rfl) (zaw hs fun hc hs=>And.intro (And.intro (zE enc_55 3 c0.list.Gates.get) (And.intro (zE zaf 3 c0.corners.get) hc)) (zaw hs fun hc hs=>And.intro (And.intro (zE enc_55 3 c0.list.Gates.get) (And.intro (zE zaf 3 c0.corners.get) hc)) (zaw hs fun hc hs=>And.intro hc (zaw hs fun hc hs=>And.intro hc (zt hk (fun hk=>(zt hk (fun hk=>hk) (fun hk=>(zt hk (fun hk=>hk) (fun hk=>(zt hk (fun hk=>hk) (fun hk=>hk))))))) (fun hk=>(zt hk (fun hk=>hk) (fun hk=>(zt hk (fun hk=>hk) (fun hk=>hk))))))))))
def zor : List PA → COut
  | [.agg [.int .i64 a0_slope,.int .i64 a0_start,.int .i64 a0_den],.agg [.int .i64 a1_slope,.int .i64 a1_start,.int .i64 a1_den],.one (.fp [.sl c0_list_Gates_n c0_list_Gates_s c0_list_Gates_g,.sl c0_corners_n c0_corners_s c0_corners_g] 0)]=>.det (IsE enc_55 3 c0_list_Gates_s c0_list_Gates_g∧IsE zaf 3 c0_corners_s c0_corners_g∧zKo (⟨(⟨(⟨c0_list_Gates_n,zad c0_list_Gates_g⟩:(Sl Gate))⟩:list),(⟨c0_corners_n,zaQ c0_corners_g⟩:(Sl straight))⟩:set) (⟨a0_slope,a0_start,a0_den⟩:straight) (⟨a1_slope,a1_start,a1_den⟩:straight)=true) [.one (.int .i64 (zKn (⟨(⟨(⟨c0_list_Gates_n,zad c0_list_Gates_g⟩:(Sl Gate))⟩:list),(⟨c0_corners_n,zaQ c0_corners_g⟩:(Sl straight))⟩:set) (⟨a0_slope,a0_start,a0_den⟩:straight) (⟨a1_slope,a1_start,a1_den⟩:straight)))]
  | _=>.no
theorem zEF:zah Try.prog 107:=⟨_,rfl,rfl,by kernel_rfl⟩
theorem zLv:Ok Try.prog 107 zor:=zaz zIL zEF fun args K h=>by
  unfold zor at h
  split at h
  · rename_i a0_slope a0_start a0_den a1_slope a1_start a1_den c0_list_Gates_n c0_list_Gates_s c0_list_Gates_g c0_corners_n c0_corners_s c0_corners_g
    obtain ⟨⟨⟨rfl,c0_list_Gates_f,rfl⟩,⟨rfl,c0_corners_f,rfl⟩,hs⟩,hk⟩:=h
    try rw [zac c0_list_Gates_f] at hs
    try rw [zac c0_list_Gates_f] at hk
    try rw [zaM c0_corners_f] at hs
    try rw [zaM c0_corners_f] at hk
    exact ⟨(fun _ _=>[]),(fun _=>false),zCk,zOw (⟨(⟨(⟨c0_list_Gates_n,c0_list_Gates_f⟩:(Sl Gate))⟩:list),(⟨c0_corners_n,c0_corners_f⟩:(Sl straight))⟩:set) (⟨a0_slope,a0_start,a0_den⟩:straight) (⟨a1_slope,a1_start,a1_den⟩:straight) K hs hk⟩
  · exact h.elim
abbrev T78:Tabs:=(((Tabs.nil.addO 105 zCg).addO 106 zCh).addF 107 zor)
theorem zLw:TabsOk Try.prog T78:=(((TabsOk.nil.addO zLs).addO zLt).addF zLv)
abbrev G78:Ctrs:=csm T78 (fun _ _=>[]) (fun _=>false)
def zIM:Ann:=⟨11,[(0,zK [1] [1]),(1,zK [1,3] [1,6]),(2,zK [3] [6]),(3,zK [2] [6])],
 [],
 [],
 [],[]⟩
abbrev R78:=(Sl straight)
abbrev e78 (r:R78):List PA:=[.one (.sl r.len 3 (fun i=>zaf (r.get i)))]
section
variable {K:List PA→Prop} {s:set}
def s78 (s:set):(Sl straight) :=
  (⟨s.corners.len,(zoU s.corners.len (fun i j=>(zKn s (s.corners.get i) (s.corners.get j))) s.corners.get)⟩:(Sl straight))
def p78 (s:set):Bool :=
  (decide ((s.corners.len * 24≤140737488355328∧s.corners.len≤9223372036854775807)) &&
 (decide ((s.corners.len≤4611686018427387)∧(sortB s.corners.len (fun i j=>decide (zKo s (s.corners.get i) (s.corners.get j)=true)) (fun i j=>(zKn s (s.corners.get i) (s.corners.get j)))=true)) &&
 true))
end
theorem q78 (s:set) (K:List PA→Prop) (hs:p78 s=true) (hk:K (e78 (s78 s))):vcFun Try.prog G78 zIM 78 [.agg (zaW s)] K :=
  zax (by kernel_rfl) (zaw hs fun hc hs=>And.intro hc (zaw hs fun hc hs=>And.intro (And.intro (hc.1) ((zAq (hc.2) (fun i j h=>(show IsE enc_55 3 3 (fun i=>enc_55 (s.list.Gates.get i))∧IsE zaf 3 3 (fun i=>zaf (s.corners.get i))∧(zKo s (s.corners.get i) (s.corners.get j)=true) from ⟨isE,isE,(of_decide_eq_true h)⟩)) rfl):(∀ i j,i < s.corners.len→j < s.corners.len→zGW (zor) [.fp (zaW s) 0] true (fun i=>zaf (s.corners.get i)) i j)∧STO s.corners.len (ztv (zor) [.fp (zaW s) 0] true (fun i=>zaf (s.corners.get i))))) hk))
def zEG : List PA → COut
  | [.agg [.sl a0_list_Gates_n a0_list_Gates_s a0_list_Gates_g,.sl a0_corners_n a0_corners_s a0_corners_g]]=>.det (IsE enc_55 3 a0_list_Gates_s a0_list_Gates_g∧IsE zaf 3 a0_corners_s a0_corners_g∧p78 (⟨(⟨(⟨a0_list_Gates_n,zad a0_list_Gates_g⟩:(Sl Gate))⟩:list),(⟨a0_corners_n,zaQ a0_corners_g⟩:(Sl straight))⟩:set)=true) [.one (.sl ((s78 (⟨(⟨(⟨a0_list_Gates_n,zad a0_list_Gates_g⟩:(Sl Gate))⟩:list),(⟨a0_corners_n,zaQ a0_corners_g⟩:(Sl straight))⟩:set)).len) 3 (fun i=>zaf ((s78 (⟨(⟨(⟨a0_list_Gates_n,zad a0_list_Gates_g⟩:(Sl Gate))⟩:list),(⟨a0_corners_n,zaQ a0_corners_g⟩:(Sl straight))⟩:set)).get i)))]
  | _=>.no
theorem zIN:zah Try.prog 78:=⟨_,rfl,rfl,by kernel_rfl⟩
theorem zOx:Ok Try.prog 78 zEG:=zaz zLw zIN fun args K h=>by
  unfold zEG at h
  split at h
  · rename_i a0_list_Gates_n a0_list_Gates_s a0_list_Gates_g a0_corners_n a0_corners_s a0_corners_g
    obtain ⟨⟨⟨rfl,a0_list_Gates_f,rfl⟩,⟨rfl,a0_corners_f,rfl⟩,hs⟩,hk⟩:=h
    try rw [zac a0_list_Gates_f] at hs
    try rw [zac a0_list_Gates_f] at hk
    try rw [zaM a0_corners_f] at hs
    try rw [zaM a0_corners_f] at hk
    exact ⟨(fun _ _=>[]),(fun _=>false),zIM,q78 (⟨(⟨(⟨a0_list_Gates_n,a0_list_Gates_f⟩:(Sl Gate))⟩:list),(⟨a0_corners_n,a0_corners_f⟩:(Sl straight))⟩:set) K hs hk⟩
  · exact h.elim
abbrev T31:Tabs:=(((Tabs.nil.addF 75 ztj).addF 78 zEG).addF 79 zAE)
theorem zLx:TabsOk Try.prog T31:=(((TabsOk.nil.addF zMX).addF zOx).addF zME)
abbrev G31:Ctrs:=csm T31 (fun _ _=>[]) (fun _=>false)
def zEH:Ann:=⟨31,[(0,zK [0] []),(1,zK [4,5] [4]),(2,zK [4,5,15] [4]),(3,zK [2,3] []),(4,zK [4,6] [4]),(5,zK [6,18,19,20] []),(6,zK [6,18,19,20,21] [28]),(7,zK [6,8,18,19,20] [8,28]),(8,zK [6,18,19,20] [28]),(9,zK [6,18,19,20] [28]),(10,zK [2,3] [28])],
 [(6,⟨[6,18,19,20],[28],[(6,28,37,fun _=>zbf default)],[],[],[],[]⟩)],
 [(2,zK [4,5] [4]),(4,zK [4] [4]),(6,zK [6,18,19,20] [])],
 [],[]⟩
abbrev R31:=((Sl Line)×Int)
abbrev e31 (r:R31):List PA:=[.one (.sl r.1.len 4 (fun i=>zbf (r.1.get i))),.one (.int .i64 r.2)]
@[irreducible] def z31:=ptF Try.prog G31 zEH Try.f31
def zCl (zb5:(Sl straight)) (zcm:Int) (zc4:Int) (zcy:(Sl Line)) (ze6:Nat→List PV):St:=⟨[(6,zv 28),(18,zS zaf 3 zb5),(19,zI zcm),(20,zI zc4)],[(28,.vec 37 4 32 zcy.len ze6)],[]⟩
abbrev zIO (K:List PA→Prop) (zb5:(Sl straight)) (zcm:Int) (X:St→Prop) (P:Int→(Sl Line)→Bool) (S:Int→(Sl Line)→((Sl Line)×Int)):Prop:=∀ ⦃zc4:Int⦄ ⦃zcy:(Sl Line)⦄ ⦃ze6:Nat→List PV⦄,P zc4 zcy=true→K (e31 (S zc4 zcy))→ze6=zg zbf zcy→X (zCl zb5 zcm zc4 zcy ze6)
section
variable {K:List PA→Prop} {zaa:(Sl Gate)} {ev0:Int} {zmK:(Sl Gate)} {zmL:(Sl straight)} {zqg:Nat→List PV} {zqh:Nat→List PV} {zic:(Sl Gate)} {zid:(Sl straight)} {zvI:Nat→List PV} {zvJ:Nat→List PV} {zb5:(Sl straight)} {zcm:Int} {zvK:Nat→List PV} {zc4:Int} {zcy:(Sl Line)} {ze6:Nat→List PV} {X3:St→Prop} {P3:Int→(Sl Line)→Bool} {S3:Int→(Sl Line)→((Sl Line)×Int)}
def zvL (zb5:(Sl straight)) (zcm:Int) (S3:Int→(Sl Line)→((Sl Line)×Int)) (zc4:Int) (zcy:(Sl Line)):((Sl Line)×Int) :=
  (cond (decide (zc4 < zcm))
 (S3 (w64 (zc4+(1:Int))) (⟨(zcy.len+1),(zd5 zcy.len zcy.get (fun _=>(s79 (zb5.get zc4.toNat))))⟩:Sl Line))
 (zcy,(0:Int)))
def zvM (zb5:(Sl straight)) (zcm:Int) (P3:Int→(Sl Line)→Bool) (zc4:Int) (zcy:(Sl Line)):Bool :=
  (cond (decide (zc4 < zcm))
 (decide ((0≤zc4∧zc4 < (zb5.len:Int))) &&
 (decide ((p79 (zb5.get zc4.toNat)=true)) &&
 (decide (((zcy.len+1) * 32≤140737488355328∧zcy.len+1≤9223372036854775807)) &&
 (P3 (w64 (zc4+(1:Int))) (⟨(zcy.len+1),(zd5 zcy.len zcy.get (fun _=>(s79 (zb5.get zc4.toNat))))⟩:Sl Line)))))
 true)
def zvN (zb5:(Sl straight)) (zcm:Int):Nat→Int→(Sl Line)→((Sl Line)×Int):=lpO (fun _ _=>default) (zvL zb5 zcm)
def zvO (zb5:(Sl straight)) (zcm:Int):Nat→Int→(Sl Line)→Bool:=lpO (fun _ _=>false) (zvM zb5 zcm)
def zvP (zb5:(Sl straight)) (zcm:Int) (zc4:Int) (zcy:(Sl Line)):((Sl Line)×Int):=zvN zb5 zcm Fuel zc4 zcy
def zvQ (zb5:(Sl straight)) (zcm:Int) (zc4:Int) (zcy:(Sl Line)):Bool:=zvO zb5 zcm Fuel zc4 zcy
theorem zEI (hs:zvQ zb5 zcm zc4 zcy=true) (hk:K (e31 (zvP zb5 zcm zc4 zcy))) (zqi:ze6=zg zbf zcy):z31 (Wk K) [1,1,1,1,0,1,0] [] (zCl zb5 zcm zc4 zcy ze6) :=
  zl (fun X=>z31 (Wk K) [1,1,1,1,0,1,0,0] [X]) (by kernel_rfl) fun X3 hX =>
  (show ∀ k, zIO K zb5 zcm X3 (zvO zb5 zcm k) (zvN zb5 zcm k) from zgh _ _ (zvM zb5 zcm) (zvL zb5 zcm) (zIO K zb5 zcm X3)
 (by intro _ _ _ hs;exact absurd hs Bool.false_ne_true)
 (by intro P3 S3 hX3 zc4 zcy ze6 hs hk zqi;subst zqi;exact hX _ (zax (by kernel_rfl) (zc hs hk (fun hs hk=>(zaw hs fun hc hs=>And.intro hc (zaw hs fun hc hs=>And.intro hc (zaw hs fun hc hs=>And.intro hc (hX3 hs hk (zjk (enc:=zbf) (f:=zcy.get) (h:=(fun _=>(s79 (zb5.get zc4.toNat)))) rfl rfl)))))) (fun hs hk=>((zd6 hk):Wk K [.one (.sl zcy.len 4 (fun i=>zbf (zcy.get i))),.one (.int .i64 (0:Int))])))))) _ hs hk zqi
def zvR (zb5:(Sl straight)) (zcm:Int):((Sl Line)×Int) :=
  (zvP zb5 zcm (0:Int) (⟨0,(fun _=>default)⟩:Sl Line))
def zvS (zb5:(Sl straight)) (zcm:Int):Bool :=
  (zvQ zb5 zcm (0:Int) (⟨0,(fun _=>default)⟩:Sl Line))
theorem zEJ (hs:zvS zb5 zcm=true) (hk:K (e31 (zvR zb5 zcm))) (zEK:zvK=zg zaf zb5):z31 (Wk K) [1,1,1,1,0,1] [] ⟨[(6,zP (.nils)),(18,zP (.sl zb5.len 3 zvK)),(19,zI zcm),(20,zI (0:Int))],[],[]⟩:=by subst zEK;exact zax (by kernel_rfl) (zEI hs hk rfl)
def zvT (zic:(Sl Gate)) (zid:(Sl straight)):((Sl Line)×Int) :=
  (zvR (s78 (⟨(⟨zic⟩:list),zid⟩:set)) ((s78 (⟨(⟨zic⟩:list),zid⟩:set)).len:Int))
def zvU (zic:(Sl Gate)) (zid:(Sl straight)):Bool :=
  (decide ((p78 (⟨(⟨zic⟩:list),zid⟩:set)=true)) &&
 (zvS (s78 (⟨(⟨zic⟩:list),zid⟩:set)) ((s78 (⟨(⟨zic⟩:list),zid⟩:set)).len:Int)))
theorem zEL (hs:zvU zic zid=true) (hk:K (e31 (zvT zic zid))) (zEM:zvI=zg enc_55 zic) (zEN:zvJ=zg zaf zid):z31 (Wk K) [1,1,1] [] ⟨[(4,zp 4 0)],[(4,.box 104 [.p (.sl zic.len 3 zvI),.p (.sl zid.len 3 zvJ)])],[]⟩:=by subst zEM;subst zEN;exact zax (by kernel_rfl) (zaw hs fun hc hs=>And.intro (And.intro (zE enc_55 3 zic.get) (And.intro (zE zaf 3 zid.get) hc)) (zEJ hs hk rfl))
def zvV (ev0:Int) (zmK:(Sl Gate)) (zmL:(Sl straight)):((Sl Line)×Int) :=
  (cond (ev0 != (0:Int))
 ((⟨0,fun _=>default⟩:(Sl Line)),ev0)
 (zvT zmK zmL))
def zvW (ev0:Int) (zmK:(Sl Gate)) (zmL:(Sl straight)):Bool :=
  (cond (ev0 != (0:Int))
 true
 (zvU zmK zmL))
theorem zEO (hs:zvW ev0 zmK zmL=true) (hk:K (e31 (zvV ev0 zmK zmL))) (zEP:zqg=zg enc_55 zmK) (zEQ:zqh=zg zaf zmL):z31 (Wk K) [1,1] [] ⟨[(4,zp 4 0),(5,zI ev0)],[(4,.box 104 [.p (.sl zmK.len 3 zqg),.p (.sl zmL.len 3 zqh)])],[]⟩:=by subst zEP;subst zEQ;exact zax (by kernel_rfl) (zc hs hk (fun hs hk=>((wk hk (zc5 (.one (.nil _ _)) (zc5 (.one (.rfl _)) zgX))):Wk K [.one (.nils),.one (.int .i64 ev0)])) (fun hs hk=>(zEL hs hk rfl rfl)))
def s31 (zaa:(Sl Gate)):((Sl Line)×Int) :=
  (zvV ((s75 zaa).2) (((s75 zaa).1).list.Gates) (((s75 zaa).1).corners))
def p31 (zaa:(Sl Gate)):Bool :=
  (decide ((p75 zaa=true)) &&
 (zvW ((s75 zaa).2) (((s75 zaa).1).list.Gates) (((s75 zaa).1).corners)))
end
theorem q31 (zaa:(Sl Gate)) (K:List PA→Prop) (hs:p31 zaa=true) (hk:K (e31 (s31 zaa))):vcFun Try.prog G31 zEH 31 [.one (.sl zaa.len 3 (fun i=>enc_55 (zaa.get i)))] (Wk K) :=
  zax (by kernel_rfl) (zaw hs fun hc hs=>And.intro (And.intro (zE enc_55 3 zaa.get) hc) (zEO hs hk rfl rfl))
def zER : List PA → COut
  | [.one (.sl a0_n a0_s a0_g)]=>.det (IsE enc_55 3 a0_s a0_g∧p31 (⟨a0_n,zad a0_g⟩:(Sl Gate))=true) [.one (.sl (((s31 (⟨a0_n,zad a0_g⟩:(Sl Gate))).1).len) 4 (fun i=>zbf (((s31 (⟨a0_n,zad a0_g⟩:(Sl Gate))).1).get i))),.one (.int .i64 ((s31 (⟨a0_n,zad a0_g⟩:(Sl Gate))).2))]
  | _=>.no
theorem zIP:zah Try.prog 31:=⟨_,rfl,rfl,by kernel_rfl⟩
theorem zOy:Ok Try.prog 31 zER:=zg8 zLx zIP fun args K h=>by
  unfold zER at h
  split at h
  · rename_i a0_n a0_s a0_g
    obtain ⟨⟨⟨rfl,a0_f,rfl⟩,hs⟩,hk⟩:=h
    try rw [zac a0_f] at hs
    try rw [zac a0_f] at hk
    exact ⟨_,zeU zfF _,(fun _ _=>[]),(fun _=>false),zEH,q31 (⟨a0_n,a0_f⟩:(Sl Gate)) K hs hk⟩
  · exact h.elim
abbrev T34:Tabs:=Tabs.nil
theorem zLy:TabsOk Try.prog T34:=TabsOk.nil
abbrev G34:Ctrs:=csm T34 (fun _ _=>[]) (fun _=>false)
def zES:Ann:=⟨26,[(0,zK [0,1] []),(1,zK [0,1,10] []),(2,zK [4] []),(3,zK [0,1,5] []),(4,zK [0,1,5,14] []),(5,zK [0,1,5] []),(6,zK [0,1,5,25] []),(7,zK [4] []),(8,zK [4] [])],
 [(4,zK [0,1,5] [])],
 [(3,zK [0,1] [])],
 [],[]⟩
abbrev R34:=Bool
abbrev e34 (r:R34):List PA:=[.one (.bool r)]
@[irreducible] def z34:=ptF Try.prog G34 zES Try.f34
def zCm (a:(Sl Line)) (b:(Sl Line)) (iv1:Int):St:=⟨[(0,zS zbf 4 a),(1,zS zbf 4 b),(5,zI iv1)],[],[]⟩
abbrev zIQ (K:List PA→Prop) (a:(Sl Line)) (b:(Sl Line)) (X:St→Prop) (P:Int→Bool) (S:Int→Bool):Prop:=∀ ⦃iv1:Int⦄,P iv1=true→K (e34 (S iv1))→X (zCm a b iv1)
section
variable {K:List PA→Prop} {a:(Sl Line)} {b:(Sl Line)} {iv1:Int} {X1:St→Prop} {P1:Int→Bool} {S1:Int→Bool}
def zvX (a:(Sl Line)) (b:(Sl Line)) (S1:Int→Bool) (iv1:Int):Bool :=
  (cond (decide (iv1 < (a.len : Int)))
 (cond (!(match (match ((a.get iv1.toNat).Slope.Num == (b.get iv1.toNat).Slope.Num) with | true => (match ((a.get iv1.toNat).Slope.Den == (b.get iv1.toNat).Slope.Den) with | true => true | false => false) | false => false) with | true => (match (match ((a.get iv1.toNat).Start.Num == (b.get iv1.toNat).Start.Num) with | true => (match ((a.get iv1.toNat).Start.Den == (b.get iv1.toNat).Start.Den) with | true => true | false => false) | false => false) with | true => true | false => false) | false => false))
 false
 (S1 (w64 (iv1+(1:Int)))))
 true)
def zvY (a:(Sl Line)) (b:(Sl Line)) (P1:Int→Bool) (iv1:Int):Bool :=
  (cond (decide (iv1 < (a.len : Int)))
 (decide ((0≤iv1∧iv1 < (a.len:Int))) &&
 (decide ((0≤iv1∧iv1 < (b.len:Int))) &&
 (cond (!(match (match ((a.get iv1.toNat).Slope.Num == (b.get iv1.toNat).Slope.Num) with | true => (match ((a.get iv1.toNat).Slope.Den == (b.get iv1.toNat).Slope.Den) with | true => true | false => false) | false => false) with | true => (match (match ((a.get iv1.toNat).Start.Num == (b.get iv1.toNat).Start.Num) with | true => (match ((a.get iv1.toNat).Start.Den == (b.get iv1.toNat).Start.Den) with | true => true | false => false) | false => false) with | true => true | false => false) | false => false))
 true
 (P1 (w64 (iv1+(1:Int)))))))
 true)
def zvZ (a:(Sl Line)) (b:(Sl Line)):Nat→Int→Bool:=lpO (fun _=>default) (zvX a b)
def zv7 (a:(Sl Line)) (b:(Sl Line)):Nat→Int→Bool:=lpO (fun _=>false) (zvY a b)
def zv8 (a:(Sl Line)) (b:(Sl Line)) (iv1:Int):Bool:=zvZ a b Fuel iv1
def zv9 (a:(Sl Line)) (b:(Sl Line)) (iv1:Int):Bool:=zv7 a b Fuel iv1
theorem zET (hs:zv9 a b iv1=true) (hk:K (e34 (zv8 a b iv1))):z34 K [1,1,0,1,0] [] (zCm a b iv1) :=
  zl (fun X=>z34 K [1,1,0,1,0,0] [X]) (by kernel_rfl) fun X1 hX =>
  (show ∀ k, zIQ K a b X1 (zv7 a b k) (zvZ a b k) from zgh _ _ (zvY a b) (zvX a b) (zIQ K a b X1)
 (by intro _ hs;exact absurd hs Bool.false_ne_true)
 (by intro P1 S1 hX1 iv1 hs hk;exact hX _ (zax (by kernel_rfl) (zc hs hk (fun hs hk=>(zaw hs fun hc hs=>And.intro hc (zaw hs fun hc hs=>And.intro hc (zc hs hk (fun hs hk=>hk) (fun hs hk=>(hX1 hs hk)))))) (fun hs hk=>hk))))) _ hs hk
def zwa (a:(Sl Line)) (b:(Sl Line)):Bool :=
  (zv8 a b (0:Int))
def zwb (a:(Sl Line)) (b:(Sl Line)):Bool :=
  (zv9 a b (0:Int))
theorem zEU (hs:zwb a b=true) (hk:K (e34 (zwa a b))):z34 K [1,1] [] ⟨[(0,zS zbf 4 a),(1,zS zbf 4 b)],[],[]⟩:=zax (by kernel_rfl) (zET hs hk)
def s34 (a:(Sl Line)) (b:(Sl Line)):Bool :=
  (cond ((a.len : Int) != (b.len : Int))
 false
 (zwa a b))
def p34 (a:(Sl Line)) (b:(Sl Line)):Bool :=
  (cond ((a.len : Int) != (b.len : Int))
 true
 (zwb a b))
end
theorem q34 (a:(Sl Line)) (b:(Sl Line)) (K:List PA→Prop) (hs:p34 a b=true) (hk:K (e34 (s34 a b))):vcFun Try.prog G34 zES 34 [.one (.sl a.len 4 (fun i=>zbf (a.get i))),.one (.sl b.len 4 (fun i=>zbf (b.get i)))] K :=
  zax (by kernel_rfl) (zc hs hk (fun hs hk=>hk) (fun hs hk=>(zEU hs hk)))
def zEV : List PA → COut
  | [.one (.sl a0_n a0_s a0_g),.one (.sl a1_n a1_s a1_g)]=>.det (IsE zbf 4 a0_s a0_g∧IsE zbf 4 a1_s a1_g∧p34 (⟨a0_n,zjn a0_g⟩:(Sl Line)) (⟨a1_n,zjn a1_g⟩:(Sl Line))=true) [.one (.bool (s34 (⟨a0_n,zjn a0_g⟩:(Sl Line)) (⟨a1_n,zjn a1_g⟩:(Sl Line))))]
  | _=>.no
theorem zIR:zah Try.prog 34:=⟨_,rfl,rfl,by kernel_rfl⟩
theorem zOz:Ok Try.prog 34 zEV:=zaz zLy zIR fun args K h=>by
  unfold zEV at h
  split at h
  · rename_i a0_n a0_s a0_g a1_n a1_s a1_g
    obtain ⟨⟨⟨rfl,a0_f,rfl⟩,⟨rfl,a1_f,rfl⟩,hs⟩,hk⟩:=h
    try rw [zes a0_f] at hs
    try rw [zes a0_f] at hk
    try rw [zes a1_f] at hs
    try rw [zes a1_f] at hk
    exact ⟨(fun _ _=>[]),(fun _=>false),zES,q34 (⟨a0_n,a0_f⟩:(Sl Line)) (⟨a1_n,a1_f⟩:(Sl Line)) K hs hk⟩
  · exact h.elim
abbrev T84:Tabs:=((Tabs.nil.addF 65 zu7).addF 66 zva)
theorem zLz:TabsOk Try.prog T84:=((TabsOk.nil.addF zK4).addF zK7)
abbrev G84:Ctrs:=csm T84 (fun _ _=>[]) (fun _=>false)
def zEW:Ann:=⟨25,[(0,zK [0,1] []),(1,zK [0,1,5] []),(2,zK [0,5,8,9,10] []),(3,zK [0,5,8,9,10,11] [20]),(4,zK [0,5,7,8,9,10] [20]),(5,zK [0,5,8,9,10] [20]),(6,zK [0,5,8,9,10] [20]),(7,zK [4] [])],
 [(3,⟨[0,5,8,9,10],[20],[(5,20,55,fun _=>enc_55 default)],[],[],[],[]⟩)],
 [],
 [],[]⟩
abbrev R84:=Bool
abbrev e84 (r:R84):List PA:=[.one (.bool r)]
@[irreducible] def z84:=ptF Try.prog G84 zEW Try.f84
def zCn (zaa:(Sl Gate)) (l_a1:(Sl Int)) (zcT:Int) (zci:(Sl Gate)) (ze7:Nat→List PV):St:=⟨[(0,zS enc_55 3 zaa),(5,zv 20),(8,zS zal 1 l_a1),(9,zI (l_a1.len:Int)),(10,zI zcT)],[(20,.vec 55 3 24 zci.len ze7)],[]⟩
abbrev zIS (K:List PA→Prop) (zaa:(Sl Gate)) (l_a1:(Sl Int)) (X:St→Prop) (P:Int→(Sl Gate)→Bool) (S:Int→(Sl Gate)→Bool):Prop:=∀ ⦃zcT:Int⦄ ⦃zci:(Sl Gate)⦄ ⦃ze7:Nat→List PV⦄,P zcT zci=true→K (e84 (S zcT zci))→ze7=zg enc_55 zci→X (zCn zaa l_a1 zcT zci ze7)
section
variable {K:List PA→Prop} {zaa:(Sl Gate)} {l_a1:(Sl Int)} {zcT:Int} {zci:(Sl Gate)} {ze7:Nat→List PV} {X0:St→Prop} {P0:Int→(Sl Gate)→Bool} {S0:Int→(Sl Gate)→Bool}
def zwc (zaa:(Sl Gate)) (l_a1:(Sl Int)) (S0:Int→(Sl Gate)→Bool) (zcT:Int) (zci:(Sl Gate)):Bool :=
  (cond (decide (zcT < (l_a1.len : Int)))
 (S0 (w64 (zcT+(1:Int))) (⟨(zci.len+1),(zd5 zci.len zci.get (fun _=>(zaa.get ((l_a1.get zcT.toNat).toNat))))⟩:Sl Gate))
 (s66 (s65 zci)))
def zwd (zaa:(Sl Gate)) (l_a1:(Sl Int)) (P0:Int→(Sl Gate)→Bool) (zcT:Int) (zci:(Sl Gate)):Bool :=
  (cond (decide (zcT < (l_a1.len : Int)))
 (decide ((0≤zcT∧zcT < (l_a1.len:Int))) &&
 (decide ((0≤(l_a1.get zcT.toNat)∧(l_a1.get zcT.toNat) < (zaa.len:Int))) &&
 (decide (((zci.len+1) * 24≤140737488355328∧zci.len+1≤9223372036854775807)) &&
 (P0 (w64 (zcT+(1:Int))) (⟨(zci.len+1),(zd5 zci.len zci.get (fun _=>(zaa.get ((l_a1.get zcT.toNat).toNat))))⟩:Sl Gate)))))
 (decide ((p65 zci=true)) &&
 (decide ((p66 (s65 zci)=true)) &&
 true)))
def zwe (zaa:(Sl Gate)) (l_a1:(Sl Int)):Nat→Int→(Sl Gate)→Bool:=lpO (fun _ _=>default) (zwc zaa l_a1)
def zwf (zaa:(Sl Gate)) (l_a1:(Sl Int)):Nat→Int→(Sl Gate)→Bool:=lpO (fun _ _=>false) (zwd zaa l_a1)
def zwg (zaa:(Sl Gate)) (l_a1:(Sl Int)) (zcT:Int) (zci:(Sl Gate)):Bool:=zwe zaa l_a1 Fuel zcT zci
def zwh (zaa:(Sl Gate)) (l_a1:(Sl Int)) (zcT:Int) (zci:(Sl Gate)):Bool:=zwf zaa l_a1 Fuel zcT zci
theorem zEX (hs:zwh zaa l_a1 zcT zci=true) (hk:K (e84 (zwg zaa l_a1 zcT zci))) (zqj:ze7=zg enc_55 zci):z84 K [1,1,0,1,0] [] (zCn zaa l_a1 zcT zci ze7) :=
  zl (fun X=>z84 K [1,1,0,1,0,0] [X]) (by kernel_rfl) fun X0 hX =>
  (show ∀ k, zIS K zaa l_a1 X0 (zwf zaa l_a1 k) (zwe zaa l_a1 k) from zgh _ _ (zwd zaa l_a1) (zwc zaa l_a1) (zIS K zaa l_a1 X0)
 (by intro _ _ _ hs;exact absurd hs Bool.false_ne_true)
 (by intro P0 S0 hX0 zcT zci ze7 hs hk zqj;subst zqj;exact hX _ (zax (by kernel_rfl) (zc hs hk (fun hs hk=>(zaw hs fun hc hs=>And.intro hc (zaw hs fun hc hs=>And.intro hc (zaw hs fun hc hs=>And.intro hc (hX0 hs hk (zjk (enc:=enc_55) (f:=zci.get) (h:=(fun _=>(zaa.get ((l_a1.get zcT.toNat).toNat)))) rfl rfl)))))) (fun hs hk=>(zaw hs fun hc hs=>And.intro (And.intro (zE enc_55 3 zci.get) hc) (zaw hs fun hc hs=>And.intro (And.intro (zE enc_55 3 ((s65 zci).list.Gates.get)) (And.intro (zE zaf 3 ((s65 zci).corners.get)) hc)) hk))))))) _ hs hk zqj
def s84 (zaa:(Sl Gate)) (l_a1:(Sl Int)):Bool :=
  (zwg zaa l_a1 (0:Int) (⟨0,(fun _=>default)⟩:Sl Gate))
def p84 (zaa:(Sl Gate)) (l_a1:(Sl Int)):Bool :=
  (zwh zaa l_a1 (0:Int) (⟨0,(fun _=>default)⟩:Sl Gate))
end
theorem q84 (zaa:(Sl Gate)) (l_a1:(Sl Int)) (K:List PA→Prop) (hs:p84 zaa l_a1=true) (hk:K (e84 (s84 zaa l_a1))):vcFun Try.prog G84 zEW 84 [.one (.sl zaa.len 3 (fun i=>enc_55 (zaa.get i))),.one (.sl l_a1.len 1 (fun i=>zal (l_a1.get i)))] K :=
  zax (by kernel_rfl) (zEX hs hk rfl)
def zEY : List PA → COut
  | [.one (.sl a0_n a0_s a0_g),.one (.sl a1_n a1_s a1_g)]=>.det (IsE enc_55 3 a0_s a0_g∧IsE zal 1 a1_s a1_g∧p84 (⟨a0_n,zad a0_g⟩:(Sl Gate)) (⟨a1_n,zcP a1_g⟩:(Sl Int))=true) [.one (.bool (s84 (⟨a0_n,zad a0_g⟩:(Sl Gate)) (⟨a1_n,zcP a1_g⟩:(Sl Int))))]
  | _=>.no
theorem zIT:zah Try.prog 84:=⟨_,rfl,rfl,by kernel_rfl⟩
theorem zOA:Ok Try.prog 84 zEY:=zaz zLz zIT fun args K h=>by
  unfold zEY at h
  split at h
  · rename_i a0_n a0_s a0_g a1_n a1_s a1_g
    obtain ⟨⟨⟨rfl,a0_f,rfl⟩,⟨rfl,a1_f,rfl⟩,hs⟩,hk⟩:=h
    try rw [zac a0_f] at hs
    try rw [zac a0_f] at hk
    try rw [zds a1_f] at hs
    try rw [zds a1_f] at hk
    exact ⟨(fun _ _=>[]),(fun _=>false),zEW,q84 (⟨a0_n,a0_f⟩:(Sl Gate)) (⟨a1_n,a1_f⟩:(Sl Int)) K hs hk⟩
  · exact h.elim
end Go.Proofs
