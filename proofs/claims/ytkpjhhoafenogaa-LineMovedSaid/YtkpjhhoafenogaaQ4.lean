/- Part 4 of what the proof rests on: a machine that runs functions of the program on pure values, proved sound; the functions that the law reaches, and what they compute. -/
import Derived.Test.YtkpjhhoafenogaaQ3
import Derived.Sort.OwnSortedInts
import Derived.Lib.SlicesCompact
import Derived.ProofKit
import Derived.Deep.Slices
import Derived.OpenShut
import Derived.Shelf.SlSortCmp.WholeK
import Derived.Test.YtkpjhhoafenogaaProg
import Derived.Shelf.SlSortCmp.NoneTotal
set_option linter.all false
namespace Go.Pm

structure Tabs where
  fn:List (Nat×(List PA→COut))
  own:List (Nat×OwnK)
  it:List (Nat×(List PA→Option (Prop×List (List PA))))
def zvM : List (Nat × (List PA → COut)) → Nat → List PA → COut
  | [],_=>fun _=>.no
  | (k,c) :: r,n=>match Nat.beq k n with | true=>c | false=>zvM r n
def zvN (l:List (Nat×OwnK)) (f:Nat):OwnK:=match lk l f with | some c=>c | none=>.none
def zD6 (l:List (Nat×(List PA→Option (Prop×List (List PA))))) (f:Nat):List PA→Option (Prop×List (List PA)):=match lk l f with | some c=>c | none=>fun _=>none
def csm (T:Tabs) (memo:Nat→Int→List Int) (vv:Nat→Bool):Ctrs:=⟨zvM T.fn,zvN T.own,zD6 T.it,memo,vv⟩
abbrev cs (T:Tabs):Ctrs:=csm T (fun _ _=>[]) (fun _=>false)
def Tabs.nil:Tabs:=⟨[],[],[]⟩
def Tabs.addF (T:Tabs) (f:Nat) (c:List PA→COut):Tabs:=⟨(f,c) :: T.fn,T.own,T.it⟩
def Tabs.addO (T:Tabs) (f:Nat) (c:OwnK):Tabs:=⟨T.fn,(f,c) :: T.own,T.it⟩
def Tabs.addI (T:Tabs) (f:Nat) (c:List PA→Option (Prop×List (List PA))):Tabs:=⟨T.fn,T.own,(f,c) :: T.it⟩

theorem zLu {P:Program} {f:Nat} : Ok P f (fun _=>.no):=fun _ _ h=>h.elim
theorem zLv {P:Program} {f:Nat} : zCn P f (fun _=>none):=fun _ _ _ h=>by cases h

structure TabsOk (P : Program) (T : Tabs) : Prop where
  fn:∀ x∈T.fn,Ok P x.1 x.2
  own:∀ x∈T.own,zmD P x.1 x.2
  it:∀ x∈T.it,zCn P x.1 x.2
theorem TabsOk.nil {P:Program} : TabsOk P .nil:=⟨fun _ h=>(by cases h),fun _ h=>(by cases h),fun _ h=>(by cases h)⟩
theorem TabsOk.addF {P:Program} {T:Tabs} (h:TabsOk P T) {f:Nat} {c:List PA→COut} (hc:Ok P f c):TabsOk P (T.addF f c) :=
 ⟨fun x hx=>(List.mem_cons.1 hx).elim (fun e=>by rw [e];exact hc) (fun hx=>h.fn x hx),h.own,h.it⟩
theorem TabsOk.addO {P:Program} {T:Tabs} (h:TabsOk P T) {f:Nat} {c:OwnK} (hc:zmD P f c):TabsOk P (T.addO f c) :=
 ⟨h.fn,fun x hx=>(List.mem_cons.1 hx).elim (fun e=>by rw [e];exact hc) (fun hx=>h.own x hx),h.it⟩
theorem TabsOk.addI {P:Program} {T:Tabs} (h:TabsOk P T) {f:Nat} {c:List PA→Option (Prop×List (List PA))} (hc:zCn P f c):TabsOk P (T.addI f c) :=
 ⟨h.fn,h.own,fun x hx=>(List.mem_cons.1 hx).elim (fun e=>by rw [e];exact hc) (fun hx=>h.it x hx)⟩
theorem TabsOk.all {P:Program} {T:Tabs} (h:TabsOk P T) (memo:Nat→Int→List Int) (vv:Nat→Bool):OkAll P (csm T memo vv):=by
 refine ⟨fun f=>?_,fun f=>?_,fun f=>?_⟩
 ·show Ok P f (zvM T.fn f)
  have key:∀ l:List (Nat×(List PA→COut)),(∀ x∈l,Ok P x.1 x.2)→Ok P f (zvM l f):=by
   intro l
   induction l with
   | nil=>intro _;exact zLu
   | cons x l ih =>
    intro hl
    obtain ⟨k,c⟩:=x
    simp only [zvM]
    split
    ·rename_i e
     have:=hl (k,c) List.mem_cons_self
     rw [← Nat.eq_of_beq_eq_true e];exact this
    ·exact ih fun x hx=>hl x (List.mem_cons_of_mem _ hx)
  exact key T.fn h.fn
 ·show zmD P f (zvN T.own f)
  unfold zvN
  split
  ·rename_i c hc;exact h.own _ (zcI hc)
  ·trivial
 ·show zCn P f (zD6 T.it f)
  unfold zD6
  split
  ·rename_i c hc;exact h.it _ (zcI hc)
  ·exact zLv

theorem zaN {P : Program} {T : Tabs} (hT : TabsOk P T) {f : FuncId} {C : List PA → COut} (hc : zai P f)
    (h:∀ args K,(C args).wp K→∃ memo vv ann,vcFun P (csm T memo vv) ann f args K):Ok P f C :=
  zA3 (hT.all (fun _ _=>[]) (fun _=>false)) hc h
theorem zIv {P : Program} {T : Tabs} (hT : TabsOk P T) {f : FuncId} {C : List PA → Option (Prop × List (List PA))} (hc : zai P f)
    (h:∀ l caps safe ys,C caps=some (safe,ys)→safe→∃ memo vv ann,vcIter P (csm T memo vv) ann f l caps ys):zCn P f C :=
  zA7 (hT.all (fun _ _=>[]) (fun _=>false)) hc h
theorem zvO {P : Program} {T : Tabs} (hT : TabsOk P T) {f : FuncId} {e s b : Nat} (hc : zai P f)
    (h:∀ n get,n * b≤140737488355328→n≤9223372036854775807→∃ memo vv ann,zvL P (csm T memo vv) ann f [.one (.sl n s get)] e s b n get):zmD P f (.clone e s b) :=
  zqp (hT.all (fun _ _=>[]) (fun _=>false)) hc h

structure Sl (α : Type) where
  len:Nat
  get:Nat→α
instance {α:Type} [Inhabited α]:Inhabited (Sl α):=⟨⟨0,fun _=>default⟩⟩
abbrev w64 (x:Int):Int:=IntKind.i64.wrap x

def IsE {α:Type} (enc:α→List PV) (size s:Nat) (g:Nat→List PV):Prop:=s=size∧∃ f:Nat→α,g=fun i=>enc (f i)
theorem isE {α:Type} {enc:α→List PV} {size:Nat} {f:Nat→α} : IsE enc size size (fun i=>enc (f i)):=⟨rfl,f,rfl⟩
def zdv {α:Type} (n:Nat) (get new:Nat→α):Nat→α:=fun j=>match Nat.ble n j with | true=>new (j - n) | false=>get j
theorem zA8 {α:Type} {enc:α→List PV} {n:Nat} {f h:Nat→α} : appG n (fun i=>enc (f i)) (fun i=>enc (h i))=fun i=>enc (zdv n f h i):=by
 funext j;simp only [appG,zdv];cases Nat.ble n j <;> rfl
def zhn {α : Type} (x : α) : List α → Nat → α
  | [],_=>x
  | y :: _,0=>y
  | _ :: r,i+1=>zhn x r i
theorem zeL {α:Type} {enc:α→List PV} {x y:α} {r:List α} : zcK (enc x :: enc y :: r.map enc)=fun i=>enc (zhn x (x :: y :: r) i):=by
 have key:∀ (l:List α) (i:Nat),(match (l.map enc)[i]? with | some z=>z | none=>enc x)=enc (zhn x l i):=by
  intro l
  induction l with
  | nil=>intro i;rfl
  | cons a l ih =>
   intro i
   cases i with
   | zero=>rfl
   | succ i=>simpa [zhn] using ih i
 funext i
 exact key (x :: y :: r) i
theorem zfJ {α:Type} {enc:α→List PV} {size:Nat} {x y:α} (r:List α):IsE enc size size (zcK (enc x :: enc y :: r.map enc)):=⟨rfl,_,zeL⟩

theorem zcu {b:Bool} {A B:Prop} {S S':Bool} {α:Type} {K:α→Prop} {x y:α} (h1:S=true→K x→A) (h2:S'=true→K y→B) (hs:cond b S S'=true) (hk:K (cond b x y)):zda b A B:=by
 cases b
 ·exact h2 hs hk
 ·exact h1 hs hk
theorem zm5 {b:Bool} {A B:Prop} {S S':Bool} {α β:Type} {f:α→β} {ys:List β} {x y:List α} (hs:cond b S S'=true) (hk:ys=(cond b x y).map f) (h1:S=true→ys=x.map f→A) (h2:S'=true→ys=y.map f→B):zda b A B:=by
 cases b
 ·exact h2 hs hk
 ·exact h1 hs hk
theorem itY {α β:Type} {f:α→β} {ys:List β} {p:β} {x r:List α} {l:Nat} {A:List β→Prop} (hk:ys=x.map f) (e:x.map f=p :: r.map f) (h:∀ zs,zs=r.map f→A zs):l=l∧∃ z,ys=p :: z∧A z∧True :=
 ⟨rfl,_,hk.trans e,h _ rfl,trivial⟩
theorem zaw {C A:Prop} [d:Decidable C] {r:Bool} (hs:(decide C && r)=true) (k:C→r=true→A):A:=by
 rw [Bool.and_eq_true] at hs
 exact k (of_decide_eq_true hs.1) hs.2
abbrev Fuel:Nat:=9223372036854775808
def setT {α:Type} (i:Nat) (v:α) (get:Nat→α):Nat→α:=fun j=>match Nat.beq j i with | true=>v | false=>get j
theorem zjJ {α:Type} {enc:α→List PV} {n:Nat} {g g':Nat→List PV} {f h:Nat→α} (h1:g=fun i=>enc (f i)) (h2:g'=fun i=>enc (h i)):appG n g g'=fun i=>enc (zdv n f h i):=by
 subst h1;subst h2;exact zA8
def zNt (P:Program) (G:Ctrs) (ann:Ann) (hd:Nat) (ps:List Nat) (assign body:Code) (X:List (List PA)→St→Prop) (K:Exit→St→Prop) (y:List PA) (rest:List (List PA)) (s:St):Prop :=
 match lk ann.head hd with
 | some k=>match zgI ps y s.env with
  | some env=>vc P G ann assign (zDH (vc P G ann body (zlY P k (X rest) K)) fun _ _=>False) ⟨env,s.objs,[]⟩
  | none=>False
 | none=>False
def sortB (n:Nat) (p:Nat→Nat→Bool) (c:Nat→Nat→Int):Bool :=
  (List.range n).all fun i => decide (0 ≤ c i i) && (List.range n).all fun j => p i j && (Nat.beq i j || (decide (c i j < 0) && decide (0 ≤ c j i)) || (decide (c j i < 0) && decide (0 ≤ c i j))) &&
    (List.range n).all fun k=>!(decide (c i j < 0) && decide (c j k < 0)) || decide (c i k < 0)
theorem zA9 {n:Nat} {p:Nat→Nat→Bool} {c c':Nat→Nat→Int} {s:Nat→Nat→Prop} (h:sortB n p c=true) (hp:∀ i j,p i j=true→s i j) (hc:c'=c):(∀ i j,i < n→j < n→s i j)∧STO n c':=by
 subst hc
 simp only [sortB,List.all_eq_true,List.mem_range,Bool.and_eq_true,Bool.or_eq_true,decide_eq_true_eq,Bool.not_eq_true',Bool.and_eq_false_iff,decide_eq_false_iff_not] at h
 refine ⟨fun i j hi hj=>hp i j ((h i hi).2 j hj).1.1,fun i hi=>(h i hi).1,fun i j hi hj hne=>?_,fun i j k hi hj hk h1 h2=>?_⟩
 ·rcases ((h i hi).2 j hj).1.2 with (h1 | h1) | h1
  ·exact absurd (Nat.eq_of_beq_eq_true h1) hne
  ·exact .inl h1
  ·exact .inr h1
 ·rcases ((h i hi).2 j hj).2 k hk with (h3 | h3) | h3
  ·exact absurd h1 h3
  ·exact absurd h2 h3
  ·exact h3
end Go.Pm
namespace Go.Pm
open Go Go.Sort

/-! Nil slices are slices of length 0. -/
inductive PVle : PV → PV → Prop
  | rfl (p:PV):PVle p p
  | nil (s:Nat) (g:Nat→List PV):PVle .nils (.sl 0 s g)
  | nilm (q:MQ):PVle .nilm (.fm q 0 (fun _=>none))
inductive PAle : PA → PA → Prop
  | one {p q:PV} : PVle p q→PAle (.one p) (.one q)
  | agg {l m:List PV} : RL PVle l m→PAle (.agg l) (.agg m)
theorem zhv {α β:Type} {R:α→β→Prop} : RL R [] []:=trivial
theorem zdh {α β:Type} {R:α→β→Prop} {a:α} {b:β} {l:List α} {m:List β} (h:R a b) (h':RL R l m):RL R (a :: l) (b :: m):=⟨h,h'⟩
theorem zfj {α : Type} {R : α → α → Prop} (h : ∀ a, R a a) : ∀ l : List α, RL R l l
  | []=>trivial
  | a :: l=>⟨h a,zfj h l⟩
theorem zf2 (a:PA):PAle a a:=by
 cases a with
 | one p=>exact .one (.rfl p)
 | agg l=>exact .agg (zfj .rfl l)
def Wk (K:List PA→Prop) (l:List PA):Prop:=∃ l',RL PAle l l'∧K l'
theorem wk {K:List PA→Prop} {l l':List PA} (hk:K l') (h:RL PAle l l'):Wk K l:=⟨l',h,hk⟩
theorem zep {K:List PA→Prop} {l:List PA} (hk:K l):Wk K l:=⟨l,zfj zf2 l,hk⟩
theorem zIw {h:Fz} {p q:PV} {v:Value} (e:PVle p q) (r:Rep h p v):Rep h q v:=by
 cases e with
 | rfl=>exact r
 | nil s g=>cases r;exact .sl0 s g
 | nilm q=>cases r;exact .fmn q _ (fun _ _=>rfl)
theorem zBa {α β γ : Type} {R : α → β → Prop} {S : α → γ → Prop} {T : γ → β → Prop} (h : ∀ a b c, S a c → R a b → T c b) : ∀ (l : List α) (m : List β) (k : List γ), RL S l k → RL R l m → RL T k m
  | [],[],[],_,_=>trivial
  | a :: l,b :: m,c :: k,hs,hr=>⟨h a b c hs.1 hr.1,zBa h l m k hs.2 hr.2⟩
  | [],_ :: _,[],_,hr=>hr.elim
  | [],_,_ :: _,hs,_=>hs.elim
  | _ :: _,_,[],hs,_=>hs.elim
  | _ :: _,[],_ :: _,_,hr=>hr.elim
theorem zD7 {h:Fz} {a b:PA} {v:Value} (e:PAle a b) (r:paR h a v):paR h b v:=by
 cases e with
 | one e=>exact zIw e r
 | agg e =>
  obtain ⟨vs,rfl,hv⟩:=r
  exact ⟨vs,rfl,zBa (R:=Rep h) (S:=PVle) (T:=Rep h) (fun _ _ _ e r=>zIw e r) _ _ _ e hv⟩
theorem zIx {h:Fz} {l m:List PA} {v:Value} (e:RL PAle l m) (r:zAA h l v):zAA h m v:=by
 match l,m,e,r with
 | [a],[b],e,r=>exact zD7 e.1 r
 | [],[],_,r=>exact r
 | a :: b :: l,c :: d :: m,e,r =>
  obtain ⟨vs,hv,hr⟩:=r
  exact ⟨vs,hv,zBa (R:=paR h) (S:=PAle) (T:=paR h) (fun _ _ _ e r=>zD7 e r) _ _ _ e hr⟩
 | [_],_ :: _ :: _,e,_=>exact e.2.elim
 | _ :: _ :: _,[_],e,_=>exact e.2.elim
 | [],_ :: _,e,_=>exact e.elim
 | _ :: _,[],e,_=>exact e.elim
theorem zhw {P : Program} {T : Tabs} (hT : TabsOk P T) {f : FuncId} {C : List PA → COut} (hc : zai P f)
    (h:∀ args K,(C args).wp K→∃ args',RL PAle args args'∧∃ memo vv ann,vcFun P (csm T memo vv) ann f args' (Wk K)):Ok P f C:=by
  intro args K hK w h0 vs hvs hfz
  obtain ⟨args',hle,memo,vv,ann,hv⟩:=h args K hK
  refine ⟨hc,(zvJ (hT.all memo vv) hv (zBa (R:=paR h0) (S:=PAle) (T:=paR h0) (fun _ _ _ e r=>zD7 e r) _ _ _ hle hvs) hfz).mono ?_⟩
  rintro e w' ⟨h',rs,v,⟨rs',hr,hk⟩,he,hres,rest⟩
  exact ⟨h',rs',v,hk,he,zIx hr hres,rest⟩
/-! Maps, as typed values; the keys of a map. -/
structure Mp where
  n:Nat
  F:List Int→Option (List Int)
instance:Inhabited Mp:=⟨⟨0,fun _=>none⟩⟩

def zIy (m:Nat) (F:List Int→Option (List Int)) (seen ys:List (List Int)):Prop :=
 ys.Nodup∧(∀ y∈ys,y.length=m∧F y ≠ none∧y ∉ seen)∧∀ c,c.length=m→F c ≠ none→c ∉ seen→c∈ys
def nodupB : List (List Int) → Bool
  | []=>true
  | y :: r=>!r.contains y && nodupB r
def keysB (m n:Nat) (F:List Int→Option (List Int)) (ys:List (List Int)):Bool :=
 Nat.beq ys.length n && ys.all (fun y=>Nat.beq y.length m && (F y).isSome) && nodupB ys
theorem zml : ∀ {ys : List (List Int)}, nodupB ys = true ↔ ys.Nodup
  | []=>by simp [nodupB]
  | y :: r=>by simp [nodupB,zml (ys:=r)]
theorem zo1 {α : Type} [DecidableEq α] : ∀ {l m : List α}, l.Nodup → (∀ x ∈ l, x ∈ m) → m.length ≤ l.length → ∀ x ∈ m, x ∈ l
  | [],m,_,_,hl,x,hx=>by have:m=[]:=List.eq_nil_of_length_eq_zero (by simpa using hl);rw [this] at hx;exact hx
  | a :: l,m,hn,hs,hl,x,hx=>by
    have ha:=hs a List.mem_cons_self
    by_cases h:x=a
    · rw [h];exact List.mem_cons_self
    · have hx2 : x ∈ m.erase a := (List.mem_erase_of_ne h).2 hx
      have hn2:=List.nodup_cons.1 hn
      refine List.mem_cons_of_mem _ (zo1 hn2.2 (fun z hz=>?_) ?_ x hx2)
      · have hza : z ≠ a := fun e => hn2.1 (e ▸ hz)
        exact (List.mem_erase_of_ne hza).2 (hs z (List.mem_cons_of_mem _ hz))
      · rw [List.length_erase_of_mem ha];simp at hl;omega
theorem zvP {m n:Nat} {F:List Int→Option (List Int)} {ys:List (List Int)} (h:keysB m n F ys=true) (hf:zH7 m n F):zIy m F [] ys:=by
 simp only [keysB,Bool.and_eq_true,List.all_eq_true] at h
 obtain ⟨⟨h1,h2⟩,h3⟩:=h
 have h1:=Nat.eq_of_beq_eq_true h1
 have h3:=zml.1 h3
 obtain ⟨ks,k1,k2,k3,k4⟩:=hf
 have hy:∀ y∈ys,y.length=m∧F y ≠ none:=fun y hy=>by
  obtain ⟨a,b⟩:=h2 y hy
  refine ⟨Nat.eq_of_beq_eq_true a,fun e=>?_⟩
  rw [e] at b;cases b
 refine ⟨h3,fun y hy'=>⟨(hy y hy').1,(hy y hy').2,by simp⟩,fun c hc hne _=>?_⟩
 exact zo1 h3 (fun y hy'=>(k4 y (hy y hy').1).1 (hy y hy').2) (by rw [k1,h1];exact Nat.le_refl _) c ((k4 c hc).1 hne)
theorem zBb {m : Nat} {F : List Int → Option (List Int)} {seen ys : List (List Int)} (h : zIy m F seen ys) {c : List Int} (hc : c.length = m) (hF : F c ≠ none) (hs : c ∉ seen) :
  ys.Perm (c :: ys.erase c)∧zIy m F (c :: seen) (ys.erase c)∧(ys.erase c).length+1=ys.length:=by
 obtain ⟨h1,h2,h3⟩:=h
 have hm:=h3 c hc hF hs
 refine ⟨List.perm_cons_erase hm,⟨h1.erase c,fun y hy=>?_,fun d hd hdF hds=>?_⟩,?_⟩
 ·have := (List.Nodup.mem_erase_iff h1).1 hy
  obtain ⟨a,b,e⟩:=h2 y this.2
  exact ⟨a,b,by simp [this.1,e]⟩
 ·simp only [List.mem_cons, not_or] at hds
  exact (List.mem_erase_of_ne hds.1).2 (h3 d hd hdF hds.2)
 ·rw [List.length_erase_of_mem hm]
  have:0 < ys.length:=List.length_pos_of_mem hm
  omega
theorem zD8 {m:Nat} {F:List Int→Option (List Int)} {seen ys:List (List Int)} (h:zIy m F seen ys) (he:∀ c,c.length=m→F c ≠ none→c∈seen):ys=[]:=by
 cases ys with
 | nil=>rfl
 | cons y r =>
  obtain ⟨a,b,e⟩:=h.2.1 y List.mem_cons_self
  exact (e (he y a b)).elim

end Go.Pm
namespace Go.Pm
open Go

theorem zaC {x:Int} (h1 : -9223372036854775808≤x) (h2:x≤9223372036854775807):w64 x=x:=by
 have hb:IntKind.i64.bits=64:=rfl
 have hs:IntKind.i64.signed=true:=rfl
 unfold w64 IntKind.wrap
 rw [hb,hs]
 simp only [Bool.true_and,decide_eq_true_eq]
 split <;> omega
def zlM (c : Nat → Bool) : Nat → Nat → Nat
  | 0,i=>i
  | m+1,i=>match c i with | true=>i | false=>zlM c m (i+1)
theorem zvQ {c:Nat→Bool} {m i:Nat} (h:c i=true):zlM c (m+1) i=i:=by simp only [zlM,h]
theorem zvR {c:Nat→Bool} {m i:Nat} (h:c i=false):zlM c (m+1) i=zlM c m (i+1):=by simp only [zlM,h]
theorem zjK (c:Nat→Bool) (m i:Nat):i≤zlM c m i∧zlM c m i≤i+m∧(∀ j,i≤j→j < zlM c m i→c j=false)∧(zlM c m i < i+m→c (zlM c m i)=true):=by
 induction m generalizing i with
 | zero=>exact ⟨Nat.le_refl _,Nat.le_refl _,fun j h1 h2=>absurd h2 (by simp only [zlM];omega),fun h=>absurd h (by simp only [zlM];omega)⟩
 | succ m ih =>
  cases e:c i
  ·rw [zvR e]
   obtain ⟨h1,h2,h3,h4⟩:=ih (i+1)
   refine ⟨by omega,by omega,fun j hj1 hj2=>?_,fun h=>h4 (by omega)⟩
   by_cases hji:j=i
   ·rw [hji];exact e
   ·exact h3 j (by omega) hj2
  ·rw [zvQ e]
   exact ⟨Nat.le_refl _,by omega,fun j h1 h2=>absurd h2 (by omega),fun _=>e⟩
def fst (c:Nat→Bool) (n:Nat):Nat:=zlM c n 0
theorem zCB (c:Nat→Bool) (n:Nat):fst c n≤n:=by have:=(zjK c n 0).2.1;simpa [fst] using this
theorem zCC {c:Nat→Bool} {n j:Nat} (h:j < fst c n):c j=false:=(zjK c n 0).2.2.1 j (Nat.zero_le _) h
theorem zCD {c:Nat→Bool} {n:Nat} (h:fst c n < n):c (fst c n)=true:=(zjK c n 0).2.2.2 (by simpa [fst] using h)
theorem zsX {α : Type} {c : α → Bool} {lpS : Nat → Sl α → Int → Int → Int} {lpP : Nat → Sl α → Int → Int → Bool}
    (hS:∀ k s t i,lpS (k+1) s t i=cond (decide (i < t)) (cond (c (s.get i.toNat)) i (lpS k s t (w64 (i+(1:Int))))) (-1:Int))
    (hP:∀ k s t i,lpP (k+1) s t i=cond (decide (i < t)) (decide (0≤i∧i < (s.len:Int)) && cond (c (s.get i.toNat)) true (lpP k s t (w64 (i+(1:Int))))) true)
    (s:Sl α) (hn:s.len≤9223372036854775807):lpP Fuel s (s.len:Int) 0=true∧lpS Fuel s (s.len:Int) 0=if fst (fun i=>c (s.get i)) s.len < s.len then ((fst (fun i=>c (s.get i)) s.len:Nat):Int) else -1:=by
  have key:∀ (m k i:Nat),i+m=s.len→m < k→lpP k s (s.len:Int) (i:Int)=true ∧
      lpS k s (s.len:Int) (i:Int)=if zlM (fun i=>c (s.get i)) m i < s.len then ((zlM (fun i=>c (s.get i)) m i:Nat):Int) else -1:=by
    intro m
    induction m with
    | zero =>
      intro k i hi hk
      obtain ⟨k,rfl⟩:∃ k',k=k'+1:=⟨k - 1,by omega⟩
      rw [hS,hP]
      have e:decide ((i:Int) < (s.len:Int))=false:=decide_eq_false (by omega)
      rw [e]
      have e5 : ¬ zlM (fun i=>c (s.get i)) 0 i < s.len:=by show ¬ i < s.len;omega
      rw [if_neg e5]
      exact ⟨rfl,rfl⟩
    | succ m ih =>
      intro k i hi hk
      obtain ⟨k,rfl⟩:∃ k',k=k'+1:=⟨k - 1,by omega⟩
      rw [hS,hP]
      have e:decide ((i:Int) < (s.len:Int))=true:=decide_eq_true (by omega)
      have e2:decide (0≤(i:Int)∧(i:Int) < (s.len:Int))=true:=decide_eq_true (by omega)
      have e3:w64 ((i:Int)+1)=((i+1:Nat):Int):=by rw [zaC (by omega) (by omega)];omega
      have e4:(i:Int).toNat=i:=by omega
      rw [e,e2,e3,e4]
      cases hc:c (s.get i)
      · rw [zvR (c := fun i => c (s.get i)) hc]
        exact ih k (i+1) (by omega) (by omega)
      · rw [zvQ (c := fun i => c (s.get i)) hc, if_pos (by omega)]
        exact ⟨rfl,rfl⟩
  exact key s.len Fuel 0 (by omega) (by simp only [Fuel];omega)

theorem zsY {good : Nat → Bool} {fin : Bool} {n : Nat} {lpS lpP : Nat → Int → Bool}
    (hS:∀ (k i:Nat),i < n→lpS (k+1) (i:Int)=cond (good i) (lpS k (w64 ((i:Int)+(1:Int)))) false)
    (hE:∀ k,lpS (k+1) (n:Int)=fin)
    (hP:∀ (k i:Nat),i < n→lpP (k+1) (i:Int)=cond (good i) (lpP k (w64 ((i:Int)+(1:Int)))) true)
    (hPE:∀ k,lpP (k+1) (n:Int)=true) (hn:n≤9223372036854775807) :
    lpP Fuel 0=true∧(lpS Fuel 0=true↔(∀ i,i < n→good i=true)∧fin=true):=by
  have key:∀ (m k i:Nat),i+m=n→m < k→lpP k (i:Int)=true∧(lpS k (i:Int)=true↔(∀ j,i≤j→j < n→good j=true)∧fin=true):=by
    intro m
    induction m with
    | zero =>
      intro k i hi hk
      obtain ⟨k,rfl⟩:∃ k',k=k'+1:=⟨k - 1,by omega⟩
      have:i=n:=by omega
      subst this
      rw [hE,hPE]
      exact ⟨rfl,⟨fun h=>⟨fun j h1 h2=>absurd h2 (by omega),h⟩,fun h=>h.2⟩⟩
    | succ m ih =>
      intro k i hi hk
      obtain ⟨k,rfl⟩:∃ k',k=k'+1:=⟨k - 1,by omega⟩
      rw [hS k i (by omega),hP k i (by omega)]
      have e3:w64 ((i:Int)+1)=((i+1:Nat):Int):=by rw [zaC (by omega) (by omega)];omega
      rw [e3]
      obtain ⟨h1,h2⟩:=ih k (i+1) (by omega) (by omega)
      cases hg:good i
      · refine ⟨rfl, ⟨fun h => (by cases h), fun h => ?_⟩⟩
        have:=h.1 i (Nat.le_refl _) (by omega)
        rw [hg] at this;cases this
      · refine ⟨h1, h2.trans ⟨fun h => ⟨fun j hj1 hj2 => ?_, h.2⟩, fun h => ⟨fun j hj1 hj2 => h.1 j (by omega) hj2, h.2⟩⟩⟩
        by_cases hji:j=i
        · rw [hji];exact hg
        · exact h.1 j (by omega) hj2
  have:=key n Fuel 0 (by omega) (by simp only [Fuel];omega)
  simpa using this

end Go.Pm
namespace Go.Pm
open Go Go.Deep

theorem zBc (b o i j:Nat):((⟨b,o,none⟩:Addr).add i).add j=⟨b,o+i+j,none⟩:=by
 simp only [Addr.add]
 by_cases h1:i=0
 ·subst h1
  by_cases h2:j=0
  ·subst h2;rfl
  ·rw [if_neg h2];rfl
 ·rw [if_neg h1]
  by_cases h2:j=0
  ·subst h2;rfl
  ·rw [if_neg h2]
def H0 (w:World):Fz:=fun b=>(w.heap[b]?).map .fz
theorem hw_H0 (w:World):Hw (H0 w) w:=by
 intro b x h
 unfold H0 at h
 cases e:w.heap[b]? with
 | none=>rw [e] at h;cases h
 | some o=>rw [e] at h;cases h;exact ⟨o,rfl,rfl⟩
def wfI (x:Int):Prop:=-9223372036854775808≤x∧x≤9223372036854775807
section
variable {H:Type} {en:TypeId×Value→H} {P:Program} {w:World} {sp:Nat→Bool} {held:Bool}
def Rd (H:Type) (en:TypeId×Value→H) (P:Program) (w:World) (sp:Nat→Bool) (held:Bool) (t:TypeId) {α:Type} (enc:α→List PV) (wf:α→Prop):Prop :=
 ∀ (fuel:Nat) (cs:List Value) (x:DataW H×List MemPlace),DataW.trod en P w 0 sp held fuel t cs=some x→∃ a:α,RL (Rep (H0 w)) (enc a) cs∧wf a
theorem zIz {t:TypeId} (ht:P.underlying t=some (.int .i64)):Rd H en P w sp held t (fun x=>[.int .i64 x]) wfI:=by
 intro fuel cs x h
 obtain ⟨n,rfl,_,hw⟩:=DataW.trod_int ht h
 refine ⟨n,⟨.int _ _,trivial⟩,?_⟩
 simp only [Lit.wf,Bool.and_eq_true,decide_eq_true_eq] at hw
 exact ⟨hw.1,hw.2⟩
theorem zvS {t : TypeId} {fs : Array Field} (ht : P.underlying t = some (.struct fs)) {fuel : Nat} {cs : List Value} {x : DataW H × List MemPlace} (h : DataW.trod en P w 0 sp held fuel t cs = some x) :
  cs.length=P.cellsOf t∧∀ (i:Nat) (f:Field),fs[i]? = some f→∃ n y,DataW.trod en P w 0 sp held n f.type ((cs.drop f.offset).take (P.cellsOf f.type))=some y:=by
 obtain ⟨xs,n,_,_,hl,hx,hf⟩:=DataW.trod_struct ht h
 refine ⟨hl,fun i f hi=>?_⟩
 have hlt:i < xs.length:=by rw [hx];exact (Array.getElem?_eq_some_iff.1 hi).1
 exact ⟨n,xs[i],by rw [hf i f hi,List.getElem?_eq_getElem hlt]⟩
theorem zBd {t e : TypeId} {α : Type} [Inhabited α] {enc : α → List PV} {wf : α → Prop} {s : Nat} (ht : P.underlying t = some (.slice e)) (hc : P.cellsOf e = s) (hs : 0 < s) (hlen : ∀ a, (enc a).length = s)
    (hel:Rd H en P w sp held e enc wf):Rd H en P w sp held t (fun x:Sl α=>[.sl x.len s (fun i=>enc (x.get i))]) (fun x=>x.len≤9223372036854775807∧∀ i,i < x.len→wf (x.get i)):=by
  intro fuel cs x h
  rcases open_slice ht h with ⟨rfl,_⟩ | ⟨a,len,cap,m,n,D,Pl,rfl,_,hl,hm,hmm,_,hget⟩
  · exact ⟨⟨0,default⟩,⟨.sl0 _ _,trivial⟩,Nat.zero_le _,fun i hi=>absurd hi (Nat.not_lt_zero i)⟩
  · by_cases h0 : len = 0
    · subst h0
      exact ⟨⟨0,default⟩,⟨.sle _ _ _ _,trivial⟩,Nat.zero_le _,fun i hi=>absurd hi (Nat.not_lt_zero i)⟩
    · have hlm : len ≤ m := by rw [hmm]; split <;> omega
      rw [hc] at hget
      have hex:∀ i,i < len→∃ y:α,(∃ cs',w.cells? 0 (a.add (i * s)) s=some cs'∧RL (Rep (H0 w)) (enc y) cs')∧wf y:=by
        intro i hi
        obtain ⟨cs',h1,h2⟩:=hget i (by omega)
        obtain ⟨y,h3,h4⟩:=hel _ _ _ h2
        exact ⟨y,⟨cs',h1,h3⟩,h4⟩
      have hch:∃ f:Nat→α,∀ i,i < len→(∃ cs',w.cells? 0 (a.add (i * s)) s=some cs'∧RL (Rep (H0 w)) (enc (f i)) cs')∧wf (f i):=by
        refine ⟨fun i=>if hi:i < len then Classical.choose (hex i hi) else default,fun i hi=>?_⟩
        simp only [dif_pos hi]
        exact Classical.choose_spec (hex i hi)
      obtain ⟨f,hf⟩:=hch
      -- the block
      have hcell:∀ i,i < len→∀ j,j < s→∃ cs',w.cells? 0 (a.add (i * s)) s=some cs'∧RL (Rep (H0 w)) (enc (f i)) cs'∧w.cell? ((a.add (i * s)).add j)=cs'[j]?∧cs'.length=s:=by
        intro i hi j hj
        obtain ⟨⟨cs',h1,h2⟩,_⟩:=hf i hi
        obtain ⟨_,h3,h4⟩:=World.cells?_some h1
        exact ⟨cs',h1,h2,h4 j hj,h3⟩
      obtain ⟨cs0,_,_,hc0,hl0⟩:=hcell 0 (by omega) 0 hs
      have ha0:w.cell? a=cs0[0]?:=by simpa [Addr.add] using hc0
      rw [List.getElem?_eq_getElem (by omega)] at ha0
      obtain ⟨C,ty,fr,hblk,hspot⟩:∃ C ty fr,w.heap[a.block]? = some (.cells C ty fr)∧a.spot=none:=by
        unfold World.cell? at ha0
        split at ha0
        · rename_i C ty fr hb
          refine ⟨C,ty,fr,hb,?_⟩
          cases hsp:a.spot with
          | none=>rfl
          | some k=>rw [hsp] at ha0;simp at ha0
        · cases ha0
      have ea:a=⟨a.block,a.off,none⟩:=by rw [← hspot]
      have hat:∀ i j,i < len→j < s→∃ cs',RL (Rep (H0 w)) (enc (f i)) cs'∧C[a.off+i * s+j]? = cs'[j]?∧cs'.length=s:=by
        intro i j hi hj
        obtain ⟨cs',_,h2,h3,h4⟩:=hcell i hi j hj
        refine ⟨cs',h2,?_,h4⟩
        rw [← h3]
        have e2:(a.add (i * s)).add j=⟨a.block,a.off+i * s+j,none⟩:=(congrArg (fun z:Addr=>(z.add (i * s)).add j) ea).trans (zBc _ _ _ _)
        rw [e2]
        simp [World.cell?,hblk]
      refine ⟨⟨len,f⟩,⟨?_,trivial⟩,by simp only [maxLen] at hm;show len≤_;omega,fun i hi=>(hf i hi).2⟩
      rw [ea]
      refine .sl len s _ a.block a.off cap C ty fr (fun i j=>C.getD (a.off+i * s+j) undef) (by simp [H0,hblk]) hl (fun i _=>hlen _) ?_ ?_
      · intro i j x hi hx
        have hj:j < s:=by have:=(List.getElem?_eq_some_iff.1 hx).1;rw [hlen] at this;exact this
        obtain ⟨cs',h1,h2,h3⟩:=hat i j hi hj
        rw [Array.getD_eq_getD_getElem?,h2,List.getElem?_eq_getElem (by omega)]
        rfl
      · intro i j x hi hx
        have hj:j < s:=by have:=(List.getElem?_eq_some_iff.1 hx).1;rw [hlen] at this;exact this
        obtain ⟨cs',h1,h2,h3⟩:=hat i j hi hj
        obtain ⟨v,hv,hr⟩:=h1.get j x hx
        rw [Array.getD_eq_getD_getElem?,h2,hv]
        exact hr
theorem zhx {α:Type} (l:List α) (o s:Nat):l.drop o=(l.drop o).take s ++ l.drop (o+s):=by
 rw [← List.drop_drop]
 exact (List.take_append_drop s (l.drop o)).symm
def zLw : TypeDesc → Bool
  | .struct _=>false
  | .array _ _=>false
  | _=>true
theorem okWide_one {t:TypeId} {d:TypeDesc} {r:Reach} {base:Nat} {v:Value} (ht:P.underlying t=some d) (hd:zLw d=true) (h:Value.okWide P w r base t v):v.cells.toList=[v]:=by
 unfold Value.okWide at h
 rw [ht] at h
 cases v with
 | agg cs =>
  exfalso
  cases d <;> first | (cases hd;done) | (simp only [Cell.okWide,Cell.ok,ht] at h)
 | _=>rfl
theorem pa_one {h:Fz} {p:PV} {v:Value} (hv:v.cells.toList=[v]) (r:RL (Rep h) [p] v.cells.toList):paR h (.one p) v:=by
 rw [hv] at r
 exact r.1
theorem below_H0 {w':World} (b:Bel (H0 w) w.heap.size w w'):Go.RowKit.Below w.heap.size w w' :=
 ⟨b.os,b.tape,b.output,b.size,fun k hk=>b.block k hk fun F e=>by
  unfold H0 at e
  cases hb:w.heap[k]? <;> rw [hb] at e <;> cases e⟩
end
end Go.Pm
/-
  DERIVED: THE SHELF's CONTRACTS AT THIS DUMP,IN PLAIN WORDS (tools/lay-plain.mjs out of 'YtkpjhhoafenogaaLs.lean',which tools/lay-shelf.mjs wrote): THE SAME DECLARATIONS UNDER THE SAME NAMES: 'import','namespace','open','def','theorem' AND NOTHING ELSE: no command of the shelf's: FOR A HAND-IN. Each laying: the table of numbers ('.._ren') and one theorem,a field a fact of the dump's own or the kernel's comparison;each contract: ONE APPLICATION.
-/
namespace Go.Proofs
open Go.Shelf
def Try.laysS106_ren:Go.Shelf.Ren:=⟨fun | 6=>106 | 15=>122 | 14=>121 | 28=>132 | 29=>133 | 20=>124 | 21=>125 | 22=>126 | 23=>127 | 24=>128 | 25=>129 | 26=>130 | 27=>131 | 46=>134 | 47=>135 | 48=>136 | 49=>137 | 50=>138 | 57=>139 | n=>n,fun | 22=>102 | 24=>118 | 25=>147 | 3=>3 | 39=>156 | 0=>0 | 53=>166 | 55=>168 | 4=>4 | 46=>159 | 45=>158 | 50=>163 | 5=>5 | 9=>9 | 66=>169 | 70=>173 | 76=>175 | 77=>143 | n=>n,fun | n=>n⟩
theorem Try.laysS106 : Go.Proofs.SlLaysF0.n6 Try.prog Try.laysS106_ren := {
  mixed:=by kernel_rfl
  f6:=⟨Try.f106.name,by decide,Try.func106.trans (congrArg some (by kernel_rfl))⟩
  f14:=⟨Try.f121.name,by decide,Try.func121.trans (congrArg some (by kernel_rfl))⟩
  f15:=Try.func122.trans (congrArg some (by kernel_rfl))
  f20:=⟨Try.f124.name,by decide,Try.func124.trans (congrArg some (by kernel_rfl))⟩
  f21:=⟨Try.f125.name,by decide,Try.func125.trans (congrArg some (by kernel_rfl))⟩
  f22:=⟨Try.f126.name,by decide,Try.func126.trans (congrArg some (by kernel_rfl))⟩
  f23:=⟨Try.f127.name,by decide,Try.func127.trans (congrArg some (by kernel_rfl))⟩
  f24:=⟨Try.f128.name,by decide,Try.func128.trans (congrArg some (by kernel_rfl))⟩
  f25:=⟨Try.f129.name,by decide,Try.func129.trans (congrArg some (by kernel_rfl))⟩
  f26:=⟨Try.f130.name,by decide,Try.func130.trans (congrArg some (by kernel_rfl))⟩
  f27:=⟨Try.f131.name,by decide,Try.func131.trans (congrArg some (by kernel_rfl))⟩
  f28:=Try.func132.trans (congrArg some (by kernel_rfl))
  f29:=Try.func133.trans (congrArg some (by kernel_rfl))
  f46:=⟨Try.f134.name,by decide,Try.func134.trans (congrArg some (by kernel_rfl))⟩
  f47:=Try.func135.trans (congrArg some (by kernel_rfl))
  f48:=Try.func136.trans (congrArg some (by kernel_rfl))
  f49:=⟨Try.f137.name,by decide,Try.func137.trans (congrArg some (by kernel_rfl))⟩
  f50:=⟨Try.f138.name,by decide,Try.func138.trans (congrArg some (by kernel_rfl))⟩
  f57:=⟨Try.f139.name,by decide,Try.func139.trans (congrArg some (by kernel_rfl))⟩
  t0:=Try.underlying0
  a0:=Try.isAgg0
  z0:=Try.sizeOf0
  v0:=Try.zeroValue0
  t3:=Try.underlying3
  a3:=Try.isAgg3
  z3:=Try.sizeOf3
  v3:=Try.zeroValue3
  t4:=Try.underlying4
  a4:=Try.isAgg4
  z4:=Try.sizeOf4
  v4:=Try.zeroValue4
  t5:=Try.underlying5
  a5:=Try.isAgg5
  z5:=Try.sizeOf5
  v5:=Try.zeroValue5
  t9:=Try.underlying9
  a9:=Try.isAgg9
  z9:=Try.sizeOf9
  v9:=Try.zeroValue9
  t22:=Try.underlying102
  a22:=Try.isAgg102
  z22:=Try.sizeOf102
  v22:=Try.zeroValue102
  t25:=Try.underlying147
  a25:=Try.isAgg147
  z25:=Try.sizeOf147
  v25:=Try.zeroValue147
  t39:=Try.underlying156
  a39:=Try.isAgg156
  z39:=Try.sizeOf156
  v39:=Try.zeroValue156
  t45:=Try.underlying158
  a45:=Try.isAgg158
  z45:=Try.sizeOf158
  v45:=Try.zeroValue158
  t46:=Try.underlying159
  a46:=Try.isAgg159
  z46:=Try.sizeOf159
  v46:=Try.zeroValue159
  t50:=Try.underlying163
  a50:=Try.isAgg163
  z50:=Try.sizeOf163
  v50:=Try.zeroValue163
  t53:=Try.underlying166
  a53:=Try.isAgg166
  z53:=Try.sizeOf166
  v53:=Try.zeroValue166
  t55:=Try.underlying168
  a55:=Try.isAgg168
  z55:=Try.sizeOf168
  v55:=Try.zeroValue168
  t66:=Try.underlying169
  a66:=Try.isAgg169
  z66:=Try.sizeOf169
  v66:=Try.zeroValue169
  t70:=Try.underlying173
  a70:=Try.isAgg173
  z70:=Try.sizeOf173
  v70:=Try.zeroValue173
  t76:=Try.underlying175
  a76:=Try.isAgg175
  z76:=Try.sizeOf175
  v76:=Try.zeroValue175
  t77:=Try.underlying143
  a77:=Try.isAgg143
  z77:=Try.sizeOf143
  v77:=Try.zeroValue143 }
end Go.Proofs
namespace Go.Pm
open Go.Shelf Go.RowKit Go.Lib Go.Sort Go.Proofs

section perm
variable {c:Nat→Nat→Int}
theorem zgW (x : Nat) : ∀ l : List Nat, (zAv c x l).Perm (x :: l)
  | []=>.refl _
  | y :: r=>by
    unfold zAv
    split
    · exact .refl _
    · exact ((zgW x r).cons y).trans (.swap _ _ _)
theorem zmm (n:Nat):(zt3 n c).Perm (List.range n):=by
 unfold zt3
 generalize List.range n=l
 induction l with
 | nil=>exact .refl _
 | cons x l ih=>exact (zgW x _).trans (ih.cons x)
def leB (c:Nat→Nat→Int) (a b:Nat):Prop:=¬ c b a < 0
theorem zvT {n : Nat} (H : STO n c) {x : Nat} (hx : x < n) : ∀ {l : List Nat}, (∀ y ∈ l, y < n) → l.Pairwise (leB c) → (zAv c x l).Pairwise (leB c)
  | [],_,_=>by simp [zAv]
  | y :: r,hl,hp=>by
    have hy:=hl y List.mem_cons_self
    rw [List.pairwise_cons] at hp
    unfold zAv
    split
    · rename_i h
      have h:=of_decide_eq_true h
      rw [List.pairwise_cons]
      refine ⟨fun z hz=>?_,List.pairwise_cons.2 hp⟩
      have hxy:leB c x y:=fun h2=>by
        have:=H.1 x hx
        have:=H.2.2 x y x hx hy hx h h2
        omega
      rcases List.mem_cons.1 hz with rfl | hz
      · exact hxy
      · intro h2
        exact hp.1 z hz (H.2.2 z x y (hl z (List.mem_cons_of_mem _ hz)) hx hy h2 h)
    · rename_i h
      have h:=of_decide_eq_false h
      rw [List.pairwise_cons]
      refine ⟨fun z hz=>?_,zvT H hx (fun z hz=>hl z (List.mem_cons_of_mem _ hz)) hp.2⟩
      rcases List.mem_cons.1 ((zgW x r).mem_iff.1 hz) with rfl | hz
      · exact h
      · exact hp.1 z hz
theorem zBe {n:Nat} (H:STO n c):(zt3 n c).Pairwise (leB c):=by
 have key:∀ l:List Nat,(∀ y∈l,y < n)→(l.foldr (zAv c) []).Pairwise (leB c)∧∀ y∈l.foldr (zAv c) [],y < n:=by
  intro l
  induction l with
  | nil=>intro _;exact ⟨List.Pairwise.nil,fun y hy=>by simp at hy⟩
  | cons x l ih =>
   intro h
   obtain ⟨h1,h2⟩:=ih fun y hy=>h y (List.mem_cons_of_mem _ hy)
   have hx:=h x List.mem_cons_self
   refine ⟨zvT H hx h2 h1,fun y hy=>?_⟩
   rcases List.mem_cons.1 ((zgW x _).mem_iff.1 hy) with rfl | hy
   ·exact hx
   ·exact h2 y hy
 exact (key _ fun y hy=>List.mem_range.1 hy).1
theorem zuw {n:Nat} (H:STO n c) {l:List Nat} (hp:l.Perm (List.range n)) (hs:l.Pairwise (leB c)):l=zt3 n c:=by
 refine List.Perm.eq_of_pairwise (le:=leB c) (fun a b ha hb h1 h2=>?_) hs (zBe H) (hp.trans (zmm n).symm)
 have ha:=List.mem_range.1 (hp.mem_iff.1 ha)
 have hb:=List.mem_range.1 ((zmm n).mem_iff.1 hb)
 by_cases e:a=b
 ·exact e
 ·rcases H.2.1 a b ha hb e with h | h
  ·exact absurd h.1 h2
  ·exact absurd h.1 h1
end perm

theorem zvU {w w':World} (h1:w'.heap=w.heap) (h2:w'.tape=w.tape) (h3:w'.drawn=w.drawn) (h4:w'.os=w.os) (h5:w'.output=w.output):w'=w:=by
 cases w;cases w';simp_all
theorem zBf {w w':World} {h:Fz} (b:Bel h w.heap.size w w') (hi:∀ k F,h k ≠ some (.inv F)):∃ q os,w'=grow (w.drewN q) os:=by
 refine ⟨w'.drawn - w.drawn,w'.heap.extract w.heap.size w'.heap.size,zvU ?_ b.tape ?_ b.os b.output⟩
 ·show w'.heap = w.heap ++ w'.heap.extract w.heap.size w'.heap.size
  apply Array.ext_getElem?
  intro i
  rw [Array.getElem?_append]
  split
  ·rename_i hl;exact b.block i hl (fun F=>hi i F)
  ·rename_i hl
   rw [Array.getElem?_extract]
   by_cases hlt:i < w'.heap.size
   ·rw [if_pos (by omega)];congr 1;omega
   ·rw [if_neg (by omega),Array.getElem?_eq_none (by omega)]
 ·show w'.drawn = w.drawn + (w'.drawn - w.drawn)
  have:=b.drawn;omega

theorem zo2 {w : World} {g q : Nat} {cur : Array Value} {e : TypeId} {fr : Nat × Nat} {off : Nat} (F : Array Value) (hb : w.heap[g]? = some (.cells cur e fr)) :
  ∃ cur',(putRow id (Sort.ahead w q) g off F).heap[g]? = some (.cells cur' e fr)∧cur'.size=cur.size:=by
 refine ⟨putCells id off F cur,?_,by simp [putCells]⟩
 simp [putRow,mapBlock,Sort.ahead,Array.getElem?_modify,hb,onCells]
theorem zjL {w:World} {g q off:Nat} (F:Array Value) {k:Nat} (hk:k ≠ g):(putRow id (Sort.ahead w q) g off F).heap[k]? = w.heap[k]?:=by
 simp [putRow,mapBlock,Sort.ahead,Array.getElem?_modify,Ne.symm hk]

theorem zvV {P:Program} {ρ:Ren} (L:SlLaysF0.n6 P ρ) {e s b:Nat} (he:ρ.t 24=e) (hag:zeA P e=some true) (hsz:szT P e=some s) (hM : ¬ zon) (hc:zai P (ρ.f 6)):zmD P (ρ.f 6) (.sort e s b):=by
 intro w h base v n get gf caps cv ag C hC hcv hag' _ hpos ⟨xs,hown,hr⟩ hone hw hob hbase hn hS hO
 rw [hag] at hag';simp only [Option.some.injEq] at hag';subst hag'
 refine ⟨hc,?_⟩
 have hni:∀ k F,h k ≠ some (.inv F):=fun k F hk=>by obtain ⟨o,_,ho⟩:=hw k _ hk;exact hM ho.2
 have hdr:∀ (w':World) (k:Nat),w.drawn≤w.drawn+k:=fun _ k=>Nat.le_add_right _ _
 have none:∀ (p:Option Addr) (cap:Nat),n=0→v=.slice p 0 cap→Calls P (ρ.f 6) #[v,.func (.func gf) #[] cv.toArray] w fun r w'=>r=.returned (.tuple #[])∧zHS h w' base e s v n (zpT n (zuM C caps true get) get)∧GrB w w' v.ownBlock:=by
  rintro p cap rfl rfl
  refine (AnyF.slices_SortFunc_none L p cap _ w).mono ?_
  rintro r w' ⟨rfl,rfl⟩
  exact ⟨rfl,⟨xs,hown,fun i hi=>absurd hi (Nat.not_lt_zero i)⟩,⟨rfl,rfl,rfl,Nat.le_refl _,fun _ _ _=>rfl⟩,Nat.le_refl _⟩
 rcases hown.2 with ⟨h1,h2⟩ | ⟨blk,cap,cur,rfl,hb,hcell,hncap,hcap,hcs,htk⟩
 ·exact none _ _ h2 h1
 by_cases hn0:n=0
 ·subst hn0;exact none _ _ rfl rfl
 have:Inhabited (Fin n):=⟨⟨0,by omega⟩⟩
 let enc:Fin n→List Value:=fun i=>(xs.drop (i.val * s)).take s
 let c:=zuM C caps true get
 let cf:Fin n→Fin n→Int:=fun x y=>c x.val y.val
 let d:Array (Fin n):=Array.ofFn id
 have hds:d.size=n:=Array.size_ofFn
 have hdi:∀ i (hi:i < n),d[i]! = ⟨i,hi⟩:=fun i hi=>by
  rw [getElem!_pos d i (by rw [hds];exact hi)];simp [d]
 have hlt:blk < w.heap.size:=(Array.getElem?_eq_some_iff.1 hcell).1
 have hbn:h blk=Option.none:=hob blk rfl
 have hmul:∀ i,i < n→i * s+s≤n * s:=fun i hi=>by have:=Nat.mul_le_mul_right s (Nat.succ_le_of_lt hi);rw [Nat.succ_mul] at this;exact this
 have hk:∀ x,(enc x).length=s:=fun x=>by
  have:=hmul x.val x.isLt
  simp only [enc,List.length_take,List.length_drop,hown.1];omega
 have hcur:∀ j,j < n * s→cur[j]? = xs[j]?:=fun j hj=>by
  have:(cur.toList.take (n * s))[j]? = xs[j]?:=by rw [htk]
  rw [List.getElem?_take,if_pos hj] at this;simpa using this
 have hxl:∀ j,j < n * s→∃ u,xs[j]? = some u:=fun j hj=>⟨xs[j]'(by rw [hown.1];exact hj),List.getElem?_eq_getElem _⟩
 have h1:∀ x,∀ u∈enc x,u.oneCell'=true:=fun x u hu=>by
  obtain ⟨j,hj⟩:=List.getElem?_of_mem hu
  obtain ⟨p,_,hp⟩:=(hr x.val x.isLt).get' j u hj
  exact hp.one
 have hflat:∀ j (hj:j < n * s),(flatK enc s d)[j]! = xs[j]'(by rw [hown.1];exact hj):=fun j hj=>by
  have hq:j / s < n:=Nat.div_lt_of_lt_mul (by rw [Nat.mul_comm];exact hj)
  rw [get_flatK _ _ _ _ (by rw [hds];exact hj),hdi _ hq]
  have hm:=Nat.mod_lt j hpos
  have hdm:=Nat.div_add_mod j s
  rw [getElem!_pos _ _ (by rw [hk];exact hm)]
  simp only [enc,List.getElem_take,List.getElem_drop]
  congr 1
  rw [Nat.mul_comm];exact hdm
 have hH:HoldsK enc s w blk 0 d:=fun j hj=>by
  have hj:j < n * s:=by rw [size_flatK,hds] at hj;exact hj
  refine ⟨?_,frozen_of_row w blk _ cur e hcell⟩
  rw [hflat j hj,cell_of hcell,Nat.zero_add,hcur j hj]
  exact List.getElem?_eq_getElem _
 have eg:∀ args w,(callFunc gf args).run P w=.ok (.enter gf args) w:=by
  have hcg:zai P gf:=by
   have hs0:=hS 0 0 (by omega) (by omega)
   unfold zHR at hs0
   split at hs0
   ·rename_i s0 c0 hat
    have hwp:(C (elP true (get 0) :: elP true (get 0) :: caps.map .one)).wp (fun _=>True):=by
     unfold zAu at hat
     split at hat
     ·rename_i e1;rw [e1];trivial
     ·rename_i e1;simp only [Option.some.injEq,Prod.mk.injEq] at hat;rw [e1];exact ⟨by rw [hat.1];exact hs0,trivial⟩
     ·cases hat
    exact (hC _ _ hwp w h (.agg (enc ⟨0,by omega⟩).toArray :: .agg (enc ⟨0,by omega⟩).toArray :: cv) ⟨⟨_,rfl,hr 0 (by omega)⟩,⟨_,rfl,hr 0 (by omega)⟩,RL.map_left.2 hcv⟩ hw).1
   ·exact hs0.elim
  exact fun args w=>zdd hcg
 have hcmp:CmpLays P gf cv.toArray enc s cf blk 0 d.size w:=by
  intro m os dk hdk x y
  have hs0:=hS x.val y.val x.isLt y.isLt
  unfold zHR at hs0
  split at hs0
  ·rename_i s0 c0 hat
   have hwp:(C (elP true (get x.val) :: elP true (get y.val) :: caps.map .one)).wp (fun rs=>rs=[.one (.int .i64 (cf x y))]):=by
    have hcv:cf x y=c0:=by show zuM C caps true get x.val y.val=c0;unfold zuM;rw [hat]
    rw [hcv]
    unfold zAu at hat
    split at hat
    ·rename_i e1;simp only [Option.some.injEq,Prod.mk.injEq] at hat;rw [e1,hat.2];rfl
    ·rename_i e1;simp only [Option.some.injEq,Prod.mk.injEq] at hat;rw [e1,hat.2];exact ⟨by rw [hat.1];exact hs0,rfl⟩
    ·cases hat
   have hwh:Hw h (sortWorldK enc s w blk 0 m dk os):=hw.same fun k o hk=>by
    have hkb:k ≠ blk:=fun e=>by rw [e,hbn] at hk;cases hk
    have hkl:=hw.lt hk
    show ((putRow id (Sort.ahead w m) blk 0 (flatK enc s dk)).heap ++ os)[k]? = _
    rw [Array.getElem?_append_left (by simpa [putRow,mapBlock,Sort.ahead] using hkl)]
    exact zjL _ hkb
   obtain ⟨_,hrun⟩:=hC _ _ hwp (sortWorldK enc s w blk 0 m dk os) h (.agg (enc x).toArray :: .agg (enc y).toArray :: cv) ⟨⟨_,rfl,hr x.val x.isLt⟩,⟨_,rfl,hr y.val y.isLt⟩,RL.map_left.2 hcv⟩ hwh
   rw [show (#[Value.agg (enc x).toArray,.agg (enc y).toArray] ++ cv.toArray)=(Value.agg (enc x).toArray :: .agg (enc y).toArray :: cv).toArray by simp]
   refine hrun.mono ?_
   rintro e' w' ⟨h',rs,v',hrs,rfl,hres,hbel,_,_,_⟩
   subst hrs
   have hv':v'=.int .i64 (cf x y):=by
    have:Rep h' (.int .i64 (cf x y)) v':=hres
    cases this;rfl
   subst hv'
   exact ⟨rfl,zBf hbel hni⟩
  ·exact hs0.elim
 have hSWO:SWO (ltOf cf):=by
  refine ⟨fun x=>?_,fun x y z hxy hyz=>?_,fun x y z hxy hyz=>?_⟩
  ·have : 0 ≤ c x.val x.val := hO.1 x.val x.isLt
   simp only [ltOf,decide_eq_false_iff_not];show ¬ c x.val x.val < 0;omega
  ·simp only [ltOf, decide_eq_true_eq] at hxy hyz ⊢
   exact hO.2.2 _ _ _ x.isLt y.isLt z.isLt hxy hyz
  ·simp only [ltOf, decide_eq_false_iff_not] at hxy hyz ⊢
   intro hxz
   have hxy : ¬ c x.val y.val < 0:=hxy
   have hyz : ¬ c y.val z.val < 0:=hyz
   have hxz:c x.val z.val < 0:=hxz
   by_cases e1:y.val=z.val
   ·rw [e1] at hxy;exact hxy hxz
   ·by_cases e2 : x.val = y.val
    ·rw [e2] at hxz;exact hyz hxz
    ·have a1 : c z.val y.val < 0 := by rcases hO.2.1 y.val z.val y.isLt z.isLt e1 with h | h; exact absurd h.1 hyz; exact h.1
     exact hxy (hO.2.2 _ _ _ x.isLt z.isLt y.isLt hxz a1)
 have aE:∀ w,(isAgg (ρ.t 24)).run P w=.ok true w:=fun w=>by rw [he];exact zdJ hag
 have zE:∀ w,(Go.sizeOf (ρ.t 24)).run P w=.ok s w:=fun w=>by rw [he];exact run_sizeOf hsz
 have hrun:=AnyQ.slices_SortFunc L s aE zE enc hk h1 cf hSWO gf cv.toArray blk 0 cap d w eg hcmp hH hlt (by rw [hds];omega)
 rw [hds] at hrun
 refine hrun.mono ?_
 rintro r w' ⟨rfl,d',m,os,hperm,hsort,rfl⟩
 obtain ⟨hps,_,hpp⟩:=hperm
 have hd's:d'.size=n:=by rw [hps,hds]
 have hall:∀ (z:Array (Fin n)),z.size=n→z.extract 0 n=z:=fun z hz=>Array.ext (by simp [hz]) (fun i h1 h2=>by simp)
 rw [hall d' hd's,hall d hds] at hpp
 have hl:d'.toList.map Fin.val=zt3 n c:=by
  refine zuw hO ?_ ?_
  ·refine (hpp.map Fin.val).trans ?_
   have:d.toList.map Fin.val=List.range n:=by
    apply List.ext_getElem?
    intro i
    simp only [d,List.getElem?_map]
    by_cases hi:i < n
    ·simp [hi]
    ·rw [List.getElem?_eq_none (by simp;omega),List.getElem?_eq_none (by simp;omega)];rfl
   rw [this]
  ·rw [List.pairwise_map, List.pairwise_iff_getElem]
   intro i j hi hj hij
   have hi':i < n:=by simpa [hd's] using hi
   have hj':j < n:=by simpa [hd's] using hj
   have:=hsort i j (Nat.zero_le _) hij hj'
   rw [getElem!_pos d' j (by omega),getElem!_pos d' i (by omega)] at this
   simp only [ltOf,decide_eq_false_iff_not] at this
   exact this
 have hget:∀ i (hi:i < n),zpT n c get i=get (d'[i]'(by omega)).val:=fun i hi=>by
  unfold zpT
  rw [← hl]
  congr 1
  rw [List.getD_eq_getElem?_getD,List.getElem?_map]
  simp [hd's,hi]
 obtain ⟨cur',hcell',hsz'⟩:=zo2 (q:=m) (off:=0) (flatK enc s d') hcell
 have hgrow:(sortWorldK enc s w blk 0 m d' os).heap[blk]? = some (.cells cur' e (0,0)):=by
  show ((putRow id (Sort.ahead w m) blk 0 (flatK enc s d')).heap ++ os)[blk]? = _
  rw [Array.getElem?_append_left (by simpa [putRow,mapBlock,Sort.ahead] using hlt)]
  exact hcell'
 have hH':HoldsK enc s (sortWorldK enc s w blk 0 m d' os) blk 0 d':=holdsK_sortWorldK_c enc s w blk 0 d d' m os hH hlt (by rw [hd's,hds])
 have hcur':∀ j (hj:j < n * s),cur'[j]? = some ((flatK enc s d')[j]!):=fun j hj=>by
  have:=(hH' j (by rw [size_flatK,hd's];exact hj)).1
  rw [cell_of hgrow,Nat.zero_add] at this
  exact this
 refine ⟨rfl,⟨cur'.toList.take (n * s),⟨by rw [List.length_take,Array.length_toList,hsz',hcs];exact Nat.min_eq_left (Nat.mul_le_mul_right s hncap),.inr ⟨blk,cap,cur',rfl,hb,hgrow,hncap,hcap,by rw [hsz',hcs],rfl⟩⟩,fun i hi=>?_⟩,?_⟩
 ·have e1:((cur'.toList.take (n * s)).drop (i * s)).take s=enc (d'[i]'(by omega)):=by
   apply List.ext_getElem?
   intro j
   have hm:=hmul i hi
   rw [List.getElem?_take]
   split
   ·rename_i hj
    rw [List.getElem?_drop,List.getElem?_take,if_pos (by omega),Array.getElem?_toList,hcur' _ (by omega)]
    have hdiv:(i * s+j) / s=i:=by rw [Nat.mul_comm,Nat.mul_add_div hpos,Nat.div_eq_of_lt hj,Nat.add_zero]
    have hmod:(i * s+j) % s=j:=by rw [Nat.mul_comm,Nat.mul_add_mod,Nat.mod_eq_of_lt hj]
    rw [get_flatK _ _ _ _ (by rw [hd's];omega),hdiv,hmod,getElem!_pos d' i (by omega),getElem!_pos _ _ (by rw [hk];exact hj)]
    exact (List.getElem?_eq_getElem _).symm
   ·rename_i hj
    rw [List.getElem?_eq_none (by rw [hk];omega)]
  rw [e1,hget i hi]
  exact hr _ (d'[i]'(by omega)).isLt
 ·refine ⟨⟨rfl, rfl, rfl, ?_, fun k hk hne => ?_⟩, Nat.le_add_right _ _⟩
  ·show w.heap.size ≤ ((putRow id (Sort.ahead w m) blk 0 (flatK enc s d')).heap ++ os).size
   simp [putRow,mapBlock,Sort.ahead]
  ·show ((putRow id (Sort.ahead w m) blk 0 (flatK enc s d')).heap ++ os)[k]? = _
   rw [Array.getElem?_append_left (by simpa [putRow,mapBlock,Sort.ahead] using hk)]
   exact zjL _ fun e=>hne (by rw [e];rfl)
end Go.Pm
namespace Go.Pm

abbrev zI (x:Int):DV:=.one (.c (.p (.int .i64 x)))
abbrev zB (x:Bool):DV:=.one (.c (.p (.bool x)))
abbrev zP (x:PV):DV:=.one (.c (.p x))
abbrev zp (L k:Nat):DV:=.one (.c (.ptr L k))
abbrev zv (L:Nat):DV:=.one (.c (.vec L))
abbrev zs {α:Type} (enc:α→List PV) (s:Nat) (x:Sl α):PV:=.sl x.len s (fun i=>enc (x.get i))
abbrev zS {α:Type} (enc:α→List PV) (s:Nat) (x:Sl α):DV:=zP (zs enc s x)
abbrev zm (l:List PV):List Cl:=l.map Cl.p
abbrev zi (x:Int):Cl:=.p (.int .i64 x)
abbrev zg {α:Type} (enc:α→List PV) (x:Sl α):Nat→List PV:=fun i=>enc (x.get i)
abbrev zK (a b:List Nat):Keep:=⟨a,b,[],[],[],[],[]⟩
theorem zE {α:Type} (enc:α→List PV) (size:Nat) (f:Nat→α):IsE enc size size (fun i=>enc (f i)):=⟨rfl,f,rfl⟩

@[reducible] def lpO {A : Type} (d : A) (st : A → A) : Nat → A
  | 0=>d
  | k+1=>st (lpO d st k)
theorem zgX {A B : Type} (a : A) (b : B) (p : A → A) (s : B → B) (M : A → B → Prop) (h0 : M a b) (h1 : ∀ P S, M P S → M (p P) (s S)) : ∀ k, M (lpO a p k) (lpO b s k)
  | 0=>h0
  | k+1=>h1 _ _ (zgX a b p s M h0 h1 k)
section
variable (P:Program) (Γ:Ctrs) (ann:Ann)
def pt : Code → (Exit → St → Prop) → List Nat → List (St → Prop) → St → Prop
  | .seq a b,K,i :: r,X=>match i with | 0=>pt a (sqK P Γ ann b K) r X | _=>pt b K r X
  | .cond _ a b,K,i :: r,X=>match i with | 0=>pt a K r X | _=>pt b K r X
  | .block id b,K,_ :: r,X=>pt b (za6 id K) r X
  | .loop b,K,_ :: r,x :: X=>pt b (zd2 P ann (zlX b) x K) r X
  | .scope b,K,_ :: r,X=>pt b (zcm K) r X
  | c,K,_,_=>vc P Γ ann c K
def ptF (fn:Func) (K:List PA→Prop) (l:List Nat) (X:List (St→Prop)):St→Prop :=
 match fn.body with
 | some c=>pt P Γ ann c (zcA P fn K) l X
 | none=>fun _=>False
end

theorem zc {b:Bool} {A B:Prop} {S S':Bool} {α:Type} {e:α→List PA} {K:List PA→Prop} {x y:α} (hs:cond b S S'=true) (hk:K (e (cond b x y))) (h1:S=true→K (e x)→A) (h2:S'=true→K (e y)→B):zda b A B:=by
 cases b
 ·exact h2 hs hk
 ·exact h1 hs hk
theorem zt {b:Bool} {A B:Prop} {α:Type} {e:α→List PA} {K:List PA→Prop} {x y:α} (hk:K (e (cond b x y))) (h1:K (e x)→A) (h2:K (e y)→B):zda b A B:=by
 cases b
 ·exact h2 hk
 ·exact h1 hk
theorem zl {at_:Prop} {g:St} (B:(St→Prop)→St→Prop) (e:at_ = ∀ X:St→Prop,(∀ s,B X s→X s)→X g) (h:∀ X:St→Prop,(∀ s,B X s→X s)→X g):at_:=e ▸ h
end Go.Pm
namespace Go.Proofs
open Go Go.Pm
set_option maxRecDepth 100000
set_option linter.unusedVariables false
attribute [local irreducible] Go.Pm.vcFun Go.Pm.vc Go.Pm.vcIter
abbrev zaj (x:Int):List PV:=[.int .i64 x]
def zLx : List PV → Int
  | [.int .i64 x]=>x
  | _=>default
def zbN (g:Nat→List PV):Nat→Int:=fun i=>zLx (g i)
theorem zdE (f:Nat→Int):zbN (fun i=>zaj (f i))=f:=rfl
structure Gate where
  Z:Int
  Low:Int
  High:Int
deriving Inhabited
abbrev enc_55 (x:Gate):List PV:=[.int .i64 x.Z,.int .i64 x.Low,.int .i64 x.High]
def zIA : List PV → Gate
  | [.int .i64 x_Z,.int .i64 x_Low,.int .i64 x_High]=>(⟨x_Z,x_Low,x_High⟩:Gate)
  | _=>default
def zad (g:Nat→List PV):Nat→Gate:=fun i=>zIA (g i)
theorem zae (f:Nat→Gate):zad (fun i=>enc_55 (f i))=f:=rfl
abbrev zIB (x:(Sl Gate)):List PV:=[.sl x.len 3 (fun i=>enc_55 (x.get i))]
structure Frac where
  Num:Int
  Den:Int
deriving Inhabited
abbrev zac (x:Frac):List PV:=[.int .i64 x.Num,.int .i64 x.Den]
def zIC : List PV → Frac
  | [.int .i64 x_Num,.int .i64 x_Den]=>(⟨x_Num,x_Den⟩:Frac)
  | _=>default
def zgh (g:Nat→List PV):Nat→Frac:=fun i=>zIC (g i)
theorem zeM (f:Nat→Frac):zgh (fun i=>zac (f i))=f:=rfl
structure Line where
  Slope:Frac
  Start:Frac
deriving Inhabited
abbrev zbY (x:Line):List PV:=[.int .i64 x.Slope.Num,.int .i64 x.Slope.Den,.int .i64 x.Start.Num,.int .i64 x.Start.Den]
def zID : List PV → Line
  | [.int .i64 x_Slope_Num,.int .i64 x_Slope_Den,.int .i64 x_Start_Num,.int .i64 x_Start_Den]=>(⟨(⟨x_Slope_Num,x_Slope_Den⟩:Frac),(⟨x_Start_Num,x_Start_Den⟩:Frac)⟩:Line)
  | _=>default
def zjM (g:Nat→List PV):Nat→Line:=fun i=>zID (g i)
theorem zeN (f:Nat→Line):zjM (fun i=>zbY (f i))=f:=rfl
structure Span where
  Low:Int
  High:Int
deriving Inhabited
abbrev zCE (x:Span):List PV:=[.int .i64 x.Low,.int .i64 x.High]
structure list where
  Gates:(Sl Gate)
deriving Inhabited
abbrev zce (x:list):List PV:=[.sl x.Gates.len 3 (fun i=>enc_55 (x.Gates.get i))]
structure straight where
  slope:Int
  start:Int
  den:Int
deriving Inhabited
abbrev zaf (x:straight):List PV:=[.int .i64 x.slope,.int .i64 x.start,.int .i64 x.den]
def zD9 : List PV → straight
  | [.int .i64 x_slope,.int .i64 x_start,.int .i64 x_den]=>(⟨x_slope,x_start,x_den⟩:straight)
  | _=>default
def zaX (g:Nat→List PV):Nat→straight:=fun i=>zD9 (g i)
theorem zaQ (f:Nat→straight):zaX (fun i=>zaf (f i))=f:=rfl
structure set where
  list:list
  corners:(Sl straight)
deriving Inhabited
abbrev za3 (x:set):List PV:=[.sl x.list.Gates.len 3 (fun i=>enc_55 (x.list.Gates.get i)),.sl x.corners.len 3 (fun i=>zaf (x.corners.get i))]
abbrev zcP (x:Mp):List PV:=[.fm (true,2,false,[some .i64]) x.n x.F]
end Go.Proofs
namespace Go.Proofs
open Go Go.Pm
set_option maxRecDepth 100000
set_option linter.unusedVariables false
attribute [local irreducible] Go.Pm.vcFun Go.Pm.vc Go.Pm.vcIter
abbrev T74:Tabs:=Tabs.nil
theorem zLy:TabsOk Try.prog T74:=TabsOk.nil
abbrev G74:Ctrs:=csm T74 (fun _ _=>[]) (fun _=>false)
def zIE:Ann:=⟨15,[(0,zK [0,1,2] []),(1,zK [6] [])],
 [],
 [],
 [],[]⟩
abbrev R74:=Bool
abbrev e74 (r:R74):List PA:=[.one (.bool r)]
section
variable {K:List PA→Prop} {x:Int} {low:Int} {high:Int}
def s74 (x:Int) (low:Int) (high:Int):Bool :=
  (cond (decide (x ≥ low))
 (decide (x≤high))
 false)
end
theorem q74 (x:Int) (low:Int) (high:Int) (K:List PA→Prop) (hk:K (e74 (s74 x low high))):vcFun Try.prog G74 zIE 74 [.one (.int .i64 x),.one (.int .i64 low),.one (.int .i64 high)] K :=
  zay (by kernel_rfl) (zt hk (fun hk=>hk) (fun hk=>hk))
def zqq : List PA → COut
  | [.one (.int .i64 a0),.one (.int .i64 a1),.one (.int .i64 a2)]=>.tot [.one (.bool (s74 a0 a1 a2))]
  | _=>.no
theorem zIF:zai Try.prog 74:=⟨_,rfl,rfl,by kernel_rfl⟩
theorem zIG:Ok Try.prog 74 zqq:=zaN zLy zIF fun args K h=>by
  unfold zqq at h
  split at h
  · rename_i a0 a1 a2
    have hk:=h
    exact ⟨(fun _ _=>[]),(fun _=>false),zIE,q74 a0 a1 a2 K hk⟩
  · exact h.elim
abbrev zNu:Tabs:=Tabs.nil
theorem zIH:TabsOk Try.prog zNu:=TabsOk.nil
abbrev zOi:Ctrs:=csm zNu (fun _ _=>[]) (fun _=>false)
def zCF:Ann:=⟨12,[(0,zK [1,2] [2]),(1,zK [3] [])],
 [],
 [],
 [],[]⟩
abbrev zOj:=Bool
abbrev zOk (r:zOj):List PA:=[.one (.bool r)]
section
variable {K:List PA→Prop} {c0:list} {g:Gate}
def zEa (c0:list) (g:Gate):Bool :=
  (g.Z != (c0.Gates.get 0).Z)
def zEb (c0:list) (g:Gate):Bool :=
  (decide ((0≤(0:Int)∧(0:Int) < (c0.Gates.len:Int))) &&
 true)
end
theorem zOl (c0:list) (g:Gate) (K:List PA→Prop) (hs:zEb c0 g=true) (hk:K (zOk (zEa c0 g))):vcFun Try.prog zOi zCF 100 [.agg (enc_55 g),.one (.fp (zce c0) 0)] K :=
  zay (by kernel_rfl) (zaw hs fun hc hs=>And.intro hc hk)
def zvW : List PA → COut
  | [.agg [.int .i64 a0_Z,.int .i64 a0_Low,.int .i64 a0_High],.one (.fp [.sl c0_Gates_n c0_Gates_s c0_Gates_g] 0)]=>.det (IsE enc_55 3 c0_Gates_s c0_Gates_g∧zEb (⟨(⟨c0_Gates_n,zad c0_Gates_g⟩:(Sl Gate))⟩:list) (⟨a0_Z,a0_Low,a0_High⟩:Gate)=true) [.one (.bool (zEa (⟨(⟨c0_Gates_n,zad c0_Gates_g⟩:(Sl Gate))⟩:list) (⟨a0_Z,a0_Low,a0_High⟩:Gate)))]
  | _=>.no
theorem zEc:zai Try.prog 100:=⟨_,rfl,rfl,by kernel_rfl⟩
theorem zLz:Ok Try.prog 100 zvW:=zaN zIH zEc fun args K h=>by
  unfold zvW at h
  split at h
  · rename_i a0_Z a0_Low a0_High c0_Gates_n c0_Gates_s c0_Gates_g
    obtain ⟨⟨⟨rfl,c0_Gates_f,rfl⟩,hs⟩,hk⟩:=h
    try rw [zae c0_Gates_f] at hs
    try rw [zae c0_Gates_f] at hk
    exact ⟨(fun _ _=>[]),(fun _=>false),zCF,zOl (⟨(⟨c0_Gates_n,c0_Gates_f⟩:(Sl Gate))⟩:list) (⟨a0_Z,a0_Low,a0_High⟩:Gate) K hs hk⟩
  · exact h.elim
abbrev zNv:Tabs:=(Tabs.nil.addF 74 zqq)
theorem zII:TabsOk Try.prog zNv:=(TabsOk.nil.addF zIG)
abbrev zOm:Ctrs:=csm zNv (fun _ _=>[]) (fun _=>false)
def zCG:Ann:=⟨24,[(0,zK [2,3] [2,3]),(1,zK [4] [])],
 [],
 [],
 [],[]⟩
abbrev zOn:=Bool
abbrev e118 (r:zOn):List PA:=[.one (.bool r)]
section
variable {K:List PA→Prop} {s:straight} {g:Gate}
def zEd (s:straight) (g:Gate):Bool :=
  (s74 (w64 (s.start+(w64 (s.slope * g.Z)))) (w64 (g.Low * s.den)) (w64 (g.High * s.den)))
end
theorem zOo (s:straight) (g:Gate) (K:List PA→Prop) (hk:K (e118 (zEd s g))):vcFun Try.prog zOm zCG 118 [.agg (zaf s),.agg (enc_55 g)] K :=
  zay (by kernel_rfl) hk
def zvX : List PA → COut
  | [.agg [.int .i64 a0_slope,.int .i64 a0_start,.int .i64 a0_den],.agg [.int .i64 a1_Z,.int .i64 a1_Low,.int .i64 a1_High]]=>.tot [.one (.bool (zEd (⟨a0_slope,a0_start,a0_den⟩:straight) (⟨a1_Z,a1_Low,a1_High⟩:Gate)))]
  | _=>.no
theorem zEe:zai Try.prog 118:=⟨_,rfl,rfl,by kernel_rfl⟩
theorem zLA:Ok Try.prog 118 zvX:=zaN zII zEe fun args K h=>by
  unfold zvX at h
  split at h
  · rename_i a0_slope a0_start a0_den a1_Z a1_Low a1_High
    have hk:=h
    exact ⟨(fun _ _=>[]),(fun _=>false),zCG,zOo (⟨a0_slope,a0_start,a0_den⟩:straight) (⟨a1_Z,a1_Low,a1_High⟩:Gate) K hk⟩
  · exact h.elim
abbrev zNw:Tabs:=(Tabs.nil.addF 118 zvX)
theorem zIJ:TabsOk Try.prog zNw:=(TabsOk.nil.addF zLA)
abbrev zOp:Ctrs:=csm zNw (fun _ _=>[]) (fun _=>false)
def zCH:Ann:=⟨8,[(0,zK [1,2] [2]),(1,zK [3] [])],
 [],
 [],
 [],[]⟩
abbrev zOq:=Bool
abbrev e117 (r:zOq):List PA:=[.one (.bool r)]
section
variable {K:List PA→Prop} {c0:straight} {g:Gate}
def zEf (c0:straight) (g:Gate):Bool :=
  (!(zEd c0 g))
end
theorem zOr (c0:straight) (g:Gate) (K:List PA→Prop) (hk:K (e117 (zEf c0 g))):vcFun Try.prog zOp zCH 117 [.agg (enc_55 g),.one (.fp (zaf c0) 0)] K :=
  zay (by kernel_rfl) hk
def zvY : List PA → COut
  | [.agg [.int .i64 a0_Z,.int .i64 a0_Low,.int .i64 a0_High],.one (.fp [.int .i64 c0_slope,.int .i64 c0_start,.int .i64 c0_den] 0)]=>.tot [.one (.bool (zEf (⟨c0_slope,c0_start,c0_den⟩:straight) (⟨a0_Z,a0_Low,a0_High⟩:Gate)))]
  | _=>.no
theorem zEg:zai Try.prog 117:=⟨_,rfl,rfl,by kernel_rfl⟩
theorem zLB:Ok Try.prog 117 zvY:=zaN zIJ zEg fun args K h=>by
  unfold zvY at h
  split at h
  · rename_i a0_Z a0_Low a0_High c0_slope c0_start c0_den
    have hk:=h
    exact ⟨(fun _ _=>[]),(fun _=>false),zCH,zOr (⟨c0_slope,c0_start,c0_den⟩:straight) (⟨a0_Z,a0_Low,a0_High⟩:Gate) K hk⟩
  · exact h.elim
abbrev zNx:Tabs:=Tabs.nil
theorem zIK:TabsOk Try.prog zNx:=TabsOk.nil
abbrev zOs:Ctrs:=csm zNx (fun _ _=>[]) (fun _=>false)
def zCI:Ann:=⟨18,[(0,zK [1,2] [2]),(1,zK [3] [])],
 [],
 [],
 [],[]⟩
abbrev zOt:=Bool
abbrev zOu (r:zOt):List PA:=[.one (.bool r)]
section
variable {K:List PA→Prop} {c0:straight} {g:Gate}
def zK9 (c0:straight) (g:Gate):Bool :=
  ((w64 (c0.start+(w64 (c0.slope * g.Z)))) == (w64 (g.Low * c0.den)))
end
theorem zOv (c0:straight) (g:Gate) (K:List PA→Prop) (hk:K (zOu (zK9 c0 g))):vcFun Try.prog zOs zCI 123 [.agg (enc_55 g),.one (.fp (zaf c0) 0)] K :=
  zay (by kernel_rfl) hk
def zvZ : List PA → COut
  | [.agg [.int .i64 a0_Z,.int .i64 a0_Low,.int .i64 a0_High],.one (.fp [.int .i64 c0_slope,.int .i64 c0_start,.int .i64 c0_den] 0)]=>.tot [.one (.bool (zK9 (⟨c0_slope,c0_start,c0_den⟩:straight) (⟨a0_Z,a0_Low,a0_High⟩:Gate)))]
  | _=>.no
theorem zEh:zai Try.prog 123:=⟨_,rfl,rfl,by kernel_rfl⟩
theorem zLC:Ok Try.prog 123 zvZ:=zaN zIK zEh fun args K h=>by
  unfold zvZ at h
  split at h
  · rename_i a0_Z a0_Low a0_High c0_slope c0_start c0_den
    have hk:=h
    exact ⟨(fun _ _=>[]),(fun _=>false),zCI,zOv (⟨c0_slope,c0_start,c0_den⟩:straight) (⟨a0_Z,a0_Low,a0_High⟩:Gate) K hk⟩
  · exact h.elim
abbrev zLa:Tabs:=(((Tabs.nil.addF 100 zvW).addF 117 zvY).addF 123 zvZ)
theorem zIL:TabsOk Try.prog zLa:=(((TabsOk.nil.addF zLz).addF zLB).addF zLC)
abbrev zNy:Ctrs:=csm zLa (fun _ _=>[]) (fun _=>false)
def zv1:Ann:=⟨19,[(0,zK [0,1] []),(1,zK [0,1,7,8] []),(2,zK [0,1,7,8,9] []),(3,zK [0,1,5,7,8] []),(4,zK [0,1,5,7,8,16] []),(5,zK [4] []),(6,zK [0,1,7,8] []),(7,zK [4] [])],
 [(2,zK [0,1,7,8] [])],
 [(5,zK [0,1,5,7,8,16] [])],
 [],[]⟩
abbrev zOw:=Int
abbrev e119 (r:zOw):List PA:=[.one (.int .i64 r)]
@[irreducible] def z119:=ptF Try.prog zNy zv1 Try.f119
def zv2 (c0:list) (sv0:(Sl Gate)) (za4:Int) (zb3:Int) (zdf:Nat→List PV):St:=⟨[(0,zP (.sl sv0.len 3 zdf)),(1,zP (.fn 100 [] [.fp (zce c0) 0])),(7,zI za4),(8,zI zb3)],[],[]⟩
abbrev zv4 (K:List PA→Prop) (c0:list) (X:St→Prop) (P:(Sl Gate)→Int→Int→Bool) (S:(Sl Gate)→Int→Int→Int):Prop:=∀ ⦃sv0:(Sl Gate)⦄ ⦃za4:Int⦄ ⦃zb3:Int⦄ ⦃zdf:Nat→List PV⦄,P sv0 za4 zb3=true→K (e119 (S sv0 za4 zb3))→zdf=zg enc_55 sv0→X (zv2 c0 sv0 za4 zb3 zdf)
section
variable {K:List PA→Prop} {c0:list} {s:(Sl Gate)} {sv0:(Sl Gate)} {za4:Int} {zb3:Int} {zdf:Nat→List PV} {X0:St→Prop} {P0:(Sl Gate)→Int→Int→Bool} {S0:(Sl Gate)→Int→Int→Int} {sv1:(Sl Gate)} {iv1:Int} {zgi:Int} {zjN:Int} {zdO:Bool} {zo3:Nat→List PV}
def zm6 (S0:(Sl Gate)→Int→Int→Int) (c0:list) (sv1:(Sl Gate)) (iv1:Int) (zgi:Int) (zjN:Int) (zdO:Bool):Int :=
  (cond zdO
 iv1
 (S0 sv1 zgi (w64 (zjN+(1:Int)))))
def zm7 (P0:(Sl Gate)→Int→Int→Bool) (c0:list) (sv1:(Sl Gate)) (iv1:Int) (zgi:Int) (zjN:Int) (zdO:Bool):Bool :=
  (cond zdO
 true
 (P0 sv1 zgi (w64 (zjN+(1:Int)))))
theorem zBg (hX0:zv4 K c0 X0 P0 S0) (hs:zm7 P0 c0 sv1 iv1 zgi zjN zdO=true) (hk:K (e119 (zm6 S0 c0 sv1 iv1 zgi zjN zdO))) (zv5:zo3=zg enc_55 sv1):z119 K [1,0,1,0,0,1,1,0,0,1,1] [X0] ⟨[(0,zP (.sl sv1.len 3 zo3)),(1,zP (.fn 100 [] [.fp (zce c0) 0])),(5,zI iv1),(7,zI zgi),(8,zI zjN),(16,zB zdO)],[],[]⟩:=by subst zv5;exact zay (by kernel_rfl) (zc hs hk (fun hs hk=>hk) (fun hs hk=>(hX0 hs hk rfl)))
def ziQ (c0:list) (S0:(Sl Gate)→Int→Int→Int) (sv0:(Sl Gate)) (za4:Int) (zb3:Int):Int :=
  (cond (decide (zb3 < za4))
 (zm6 S0 c0 sv0 zb3 za4 zb3 (zEa c0 (sv0.get zb3.toNat)))
 (-1:Int))
def ziR (c0:list) (P0:(Sl Gate)→Int→Int→Bool) (sv0:(Sl Gate)) (za4:Int) (zb3:Int):Bool :=
  (cond (decide (zb3 < za4))
 (decide ((0≤zb3∧zb3 < (sv0.len:Int))) &&
 (decide ((zEb c0 (sv0.get zb3.toNat)=true)) &&
 (zm7 P0 c0 sv0 zb3 za4 zb3 (zEa c0 (sv0.get zb3.toNat)))))
 true)
def ziS (c0:list):Nat→(Sl Gate)→Int→Int→Int:=lpO (fun _ _ _=>default) (ziQ c0)
def ziT (c0:list):Nat→(Sl Gate)→Int→Int→Bool:=lpO (fun _ _ _=>false) (ziR c0)
def zsZ (c0:list) (sv0:(Sl Gate)) (za4:Int) (zb3:Int):Int:=ziS c0 Fuel sv0 za4 zb3
def zs3 (c0:list) (sv0:(Sl Gate)) (za4:Int) (zb3:Int):Bool:=ziT c0 Fuel sv0 za4 zb3
theorem zBh (hs:zs3 c0 sv0 za4 zb3=true) (hk:K (e119 (zsZ c0 sv0 za4 zb3))) (zjO:zdf=zg enc_55 sv0):z119 K [1,0,1,0] [] (zv2 c0 sv0 za4 zb3 zdf) :=
  zl (fun X=>z119 K [1,0,1,0,0] [X]) (by kernel_rfl) fun X0 hX =>
  (show ∀ k, zv4 K c0 X0 (ziT c0 k) (ziS c0 k) from zgX _ _ (ziR c0) (ziQ c0) (zv4 K c0 X0)
 (by intro _ _ _ _ hs;exact absurd hs Bool.false_ne_true)
 (by intro P0 S0 hX0 sv0 za4 zb3 zdf hs hk zjO;subst zjO;exact hX _ (zay (by kernel_rfl) (zc hs hk (fun hs hk=>(zaw hs fun hc hs=>And.intro hc (zaw hs fun hc hs=>And.intro (And.intro (zE enc_55 3 c0.Gates.get) hc) (zBg hX0 hs hk rfl)))) (fun hs hk=>hk))))) _ hs hk zjO
def zIM (c0:list) (s:(Sl Gate)):Int :=
  (zsZ c0 s (s.len:Int) (0:Int))
def zIN (c0:list) (s:(Sl Gate)):Bool :=
  (zs3 c0 s (s.len:Int) (0:Int))
end
theorem zOx (c0:list) (s:(Sl Gate)) (K:List PA→Prop) (hs:zIN c0 s=true) (hk:K (e119 (zIM c0 s))):vcFun Try.prog zNy zv1 119 [.one (.sl s.len 3 (fun i=>enc_55 (s.get i))),.one (.fn 100 [] [.fp (zce c0) 0])] K :=
  zay (by kernel_rfl) (zBh hs hk rfl)
abbrev zIO:Ctrs:=csm zLa (fun _ _=>[]) (fun _=>false)
def zqr:Ann:=⟨19,[(0,zK [0,1] []),(1,zK [0,1,7,8] []),(2,zK [0,1,7,8,9] []),(3,zK [0,1,5,7,8] []),(4,zK [0,1,5,7,8,16] []),(5,zK [4] []),(6,zK [0,1,7,8] []),(7,zK [4] [])],
 [(2,zK [0,1,7,8] [])],
 [(5,zK [0,1,5,7,8,16] [])],
 [],[]⟩
abbrev zLD:=Int
abbrev zBi (r:zLD):List PA:=[.one (.int .i64 r)]
@[irreducible] def z119a:=ptF Try.prog zIO zqr Try.f119
def zs4 (c0:straight) (sv0:(Sl Gate)) (za4:Int) (zb3:Int) (zdf:Nat→List PV):St:=⟨[(0,zP (.sl sv0.len 3 zdf)),(1,zP (.fn 117 [] [.fp (zaf c0) 0])),(7,zI za4),(8,zI zb3)],[],[]⟩
abbrev zqs (K:List PA→Prop) (c0:straight) (X:St→Prop) (P:(Sl Gate)→Int→Int→Bool) (S:(Sl Gate)→Int→Int→Int):Prop:=∀ ⦃sv0:(Sl Gate)⦄ ⦃za4:Int⦄ ⦃zb3:Int⦄ ⦃zdf:Nat→List PV⦄,P sv0 za4 zb3=true→K (zBi (S sv0 za4 zb3))→zdf=zg enc_55 sv0→X (zs4 c0 sv0 za4 zb3 zdf)
section
variable {K:List PA→Prop} {c0:straight} {s:(Sl Gate)} {sv0:(Sl Gate)} {za4:Int} {zb3:Int} {zdf:Nat→List PV} {X0:St→Prop} {P0:(Sl Gate)→Int→Int→Bool} {S0:(Sl Gate)→Int→Int→Int} {sv1:(Sl Gate)} {iv1:Int} {zgi:Int} {zjN:Int} {zdO:Bool} {zo3:Nat→List PV}
def zjP (S0:(Sl Gate)→Int→Int→Int) (c0:straight) (sv1:(Sl Gate)) (iv1:Int) (zgi:Int) (zjN:Int) (zdO:Bool):Int :=
  (cond zdO
 iv1
 (S0 sv1 zgi (w64 (zjN+(1:Int)))))
def zjQ (P0:(Sl Gate)→Int→Int→Bool) (c0:straight) (sv1:(Sl Gate)) (iv1:Int) (zgi:Int) (zjN:Int) (zdO:Bool):Bool :=
  (cond zdO
 true
 (P0 sv1 zgi (w64 (zjN+(1:Int)))))
theorem zv6 (hX0:zqs K c0 X0 P0 S0) (hs:zjQ P0 c0 sv1 iv1 zgi zjN zdO=true) (hk:K (zBi (zjP S0 c0 sv1 iv1 zgi zjN zdO))) (zv5:zo3=zg enc_55 sv1):z119a K [1,0,1,0,0,1,1,0,0,1,1] [X0] ⟨[(0,zP (.sl sv1.len 3 zo3)),(1,zP (.fn 117 [] [.fp (zaf c0) 0])),(5,zI iv1),(7,zI zgi),(8,zI zjN),(16,zB zdO)],[],[]⟩:=by subst zv5;exact zay (by kernel_rfl) (zc hs hk (fun hs hk=>hk) (fun hs hk=>(hX0 hs hk rfl)))
def zgY (c0:straight) (S0:(Sl Gate)→Int→Int→Int) (sv0:(Sl Gate)) (za4:Int) (zb3:Int):Int :=
  (cond (decide (zb3 < za4))
 (zjP S0 c0 sv0 zb3 za4 zb3 (zEf c0 (sv0.get zb3.toNat)))
 (-1:Int))
def zgZ (c0:straight) (P0:(Sl Gate)→Int→Int→Bool) (sv0:(Sl Gate)) (za4:Int) (zb3:Int):Bool :=
  (cond (decide (zb3 < za4))
 (decide ((0≤zb3∧zb3 < (sv0.len:Int))) &&
 (zjQ P0 c0 sv0 zb3 za4 zb3 (zEf c0 (sv0.get zb3.toNat))))
 true)
def zg0 (c0:straight):Nat→(Sl Gate)→Int→Int→Int:=lpO (fun _ _ _=>default) (zgY c0)
def zg1 (c0:straight):Nat→(Sl Gate)→Int→Int→Bool:=lpO (fun _ _ _=>false) (zgZ c0)
def zo4 (c0:straight) (sv0:(Sl Gate)) (za4:Int) (zb3:Int):Int:=zg0 c0 Fuel sv0 za4 zb3
def zo5 (c0:straight) (sv0:(Sl Gate)) (za4:Int) (zb3:Int):Bool:=zg1 c0 Fuel sv0 za4 zb3
theorem zv7 (hs:zo5 c0 sv0 za4 zb3=true) (hk:K (zBi (zo4 c0 sv0 za4 zb3))) (zjO:zdf=zg enc_55 sv0):z119a K [1,0,1,0] [] (zs4 c0 sv0 za4 zb3 zdf) :=
  zl (fun X=>z119a K [1,0,1,0,0] [X]) (by kernel_rfl) fun X0 hX =>
  (show ∀ k, zqs K c0 X0 (zg1 c0 k) (zg0 c0 k) from zgX _ _ (zgZ c0) (zgY c0) (zqs K c0 X0)
 (by intro _ _ _ _ hs;exact absurd hs Bool.false_ne_true)
 (by intro P0 S0 hX0 sv0 za4 zb3 zdf hs hk zjO;subst zjO;exact hX _ (zay (by kernel_rfl) (zc hs hk (fun hs hk=>(zaw hs fun hc hs=>And.intro hc (zv6 hX0 hs hk rfl))) (fun hs hk=>hk))))) _ hs hk zjO
def zv8 (c0:straight) (s:(Sl Gate)):Int :=
  (zo4 c0 s (s.len:Int) (0:Int))
def zv9 (c0:straight) (s:(Sl Gate)):Bool :=
  (zo5 c0 s (s.len:Int) (0:Int))
end
theorem zLE (c0:straight) (s:(Sl Gate)) (K:List PA→Prop) (hs:zv9 c0 s=true) (hk:K (zBi (zv8 c0 s))):vcFun Try.prog zIO zqr 119 [.one (.sl s.len 3 (fun i=>enc_55 (s.get i))),.one (.fn 117 [] [.fp (zaf c0) 0])] K :=
  zay (by kernel_rfl) (zv7 hs hk rfl)
abbrev zIP:Ctrs:=csm zLa (fun _ _=>[]) (fun _=>false)
def zqu:Ann:=⟨19,[(0,zK [0,1] []),(1,zK [0,1,7,8] []),(2,zK [0,1,7,8,9] []),(3,zK [0,1,5,7,8] []),(4,zK [0,1,5,7,8,16] []),(5,zK [4] []),(6,zK [0,1,7,8] []),(7,zK [4] [])],
 [(2,zK [0,1,7,8] [])],
 [(5,zK [0,1,5,7,8,16] [])],
 [],[]⟩
abbrev zLF:=Int
abbrev zBj (r:zLF):List PA:=[.one (.int .i64 r)]
@[irreducible] def z119b:=ptF Try.prog zIP zqu Try.f119
def zs5 (c0:straight) (sv0:(Sl Gate)) (za4:Int) (zb3:Int) (zdf:Nat→List PV):St:=⟨[(0,zP (.sl sv0.len 3 zdf)),(1,zP (.fn 123 [] [.fp (zaf c0) 0])),(7,zI za4),(8,zI zb3)],[],[]⟩
abbrev zqv (K:List PA→Prop) (c0:straight) (X:St→Prop) (P:(Sl Gate)→Int→Int→Bool) (S:(Sl Gate)→Int→Int→Int):Prop:=∀ ⦃sv0:(Sl Gate)⦄ ⦃za4:Int⦄ ⦃zb3:Int⦄ ⦃zdf:Nat→List PV⦄,P sv0 za4 zb3=true→K (zBj (S sv0 za4 zb3))→zdf=zg enc_55 sv0→X (zs5 c0 sv0 za4 zb3 zdf)
section
variable {K:List PA→Prop} {c0:straight} {s:(Sl Gate)} {sv0:(Sl Gate)} {za4:Int} {zb3:Int} {zdf:Nat→List PV} {X0:St→Prop} {P0:(Sl Gate)→Int→Int→Bool} {S0:(Sl Gate)→Int→Int→Int} {sv1:(Sl Gate)} {iv1:Int} {zgi:Int} {zjN:Int} {zdO:Bool} {zo3:Nat→List PV}
def zo6 (S0:(Sl Gate)→Int→Int→Int) (c0:straight) (sv1:(Sl Gate)) (iv1:Int) (zgi:Int) (zjN:Int) (zdO:Bool):Int :=
  (cond zdO
 iv1
 (S0 sv1 zgi (w64 (zjN+(1:Int)))))
def zo7 (P0:(Sl Gate)→Int→Int→Bool) (c0:straight) (sv1:(Sl Gate)) (iv1:Int) (zgi:Int) (zjN:Int) (zdO:Bool):Bool :=
  (cond zdO
 true
 (P0 sv1 zgi (w64 (zjN+(1:Int)))))
theorem zwa (hX0:zqv K c0 X0 P0 S0) (hs:zo7 P0 c0 sv1 iv1 zgi zjN zdO=true) (hk:K (zBj (zo6 S0 c0 sv1 iv1 zgi zjN zdO))) (zv5:zo3=zg enc_55 sv1):z119b K [1,0,1,0,0,1,1,0,0,1,1] [X0] ⟨[(0,zP (.sl sv1.len 3 zo3)),(1,zP (.fn 123 [] [.fp (zaf c0) 0])),(5,zI iv1),(7,zI zgi),(8,zI zjN),(16,zB zdO)],[],[]⟩:=by subst zv5;exact zay (by kernel_rfl) (zc hs hk (fun hs hk=>hk) (fun hs hk=>(hX0 hs hk rfl)))
def zo8 (c0:straight) (S0:(Sl Gate)→Int→Int→Int) (sv0:(Sl Gate)) (za4:Int) (zb3:Int):Int :=
  (cond (decide (zb3 < za4))
 (zo6 S0 c0 sv0 zb3 za4 zb3 (zK9 c0 (sv0.get zb3.toNat)))
 (-1:Int))
def zo9 (c0:straight) (P0:(Sl Gate)→Int→Int→Bool) (sv0:(Sl Gate)) (za4:Int) (zb3:Int):Bool :=
  (cond (decide (zb3 < za4))
 (decide ((0≤zb3∧zb3 < (sv0.len:Int))) &&
 (zo7 P0 c0 sv0 zb3 za4 zb3 (zK9 c0 (sv0.get zb3.toNat))))
 true)
def zpa (c0:straight):Nat→(Sl Gate)→Int→Int→Int:=lpO (fun _ _ _=>default) (zo8 c0)
def zpb (c0:straight):Nat→(Sl Gate)→Int→Int→Bool:=lpO (fun _ _ _=>false) (zo9 c0)
def zpc (c0:straight) (sv0:(Sl Gate)) (za4:Int) (zb3:Int):Int:=zpa c0 Fuel sv0 za4 zb3
def zpd (c0:straight) (sv0:(Sl Gate)) (za4:Int) (zb3:Int):Bool:=zpb c0 Fuel sv0 za4 zb3
theorem zwb (hs:zpd c0 sv0 za4 zb3=true) (hk:K (zBj (zpc c0 sv0 za4 zb3))) (zjO:zdf=zg enc_55 sv0):z119b K [1,0,1,0] [] (zs5 c0 sv0 za4 zb3 zdf) :=
  zl (fun X=>z119b K [1,0,1,0,0] [X]) (by kernel_rfl) fun X0 hX =>
  (show ∀ k, zqv K c0 X0 (zpb c0 k) (zpa c0 k) from zgX _ _ (zo9 c0) (zo8 c0) (zqv K c0 X0)
 (by intro _ _ _ _ hs;exact absurd hs Bool.false_ne_true)
 (by intro P0 S0 hX0 sv0 za4 zb3 zdf hs hk zjO;subst zjO;exact hX _ (zay (by kernel_rfl) (zc hs hk (fun hs hk=>(zaw hs fun hc hs=>And.intro hc (zwa hX0 hs hk rfl))) (fun hs hk=>hk))))) _ hs hk zjO
def zEi (c0:straight) (s:(Sl Gate)):Int :=
  (zpc c0 s (s.len:Int) (0:Int))
def zEj (c0:straight) (s:(Sl Gate)):Bool :=
  (zpd c0 s (s.len:Int) (0:Int))
end
theorem zLG (c0:straight) (s:(Sl Gate)) (K:List PA→Prop) (hs:zEj c0 s=true) (hk:K (zBj (zEi c0 s))):vcFun Try.prog zIP zqu 119 [.one (.sl s.len 3 (fun i=>enc_55 (s.get i))),.one (.fn 123 [] [.fp (zaf c0) 0])] K :=
  zay (by kernel_rfl) (zwb hs hk rfl)
def zwc : List PA → COut
  | [.one (.sl a0_n a0_s a0_g),.one (.fn 100 [] [.fp [.sl c0_Gates_n c0_Gates_s c0_Gates_g] 0])]=>.det (IsE enc_55 3 a0_s a0_g∧IsE enc_55 3 c0_Gates_s c0_Gates_g∧zIN (⟨(⟨c0_Gates_n,zad c0_Gates_g⟩:(Sl Gate))⟩:list) (⟨a0_n,zad a0_g⟩:(Sl Gate))=true) [.one (.int .i64 (zIM (⟨(⟨c0_Gates_n,zad c0_Gates_g⟩:(Sl Gate))⟩:list) (⟨a0_n,zad a0_g⟩:(Sl Gate))))]
  | [.one (.sl a0_n a0_s a0_g),.one (.fn 117 [] [.fp [.int .i64 c0_slope,.int .i64 c0_start,.int .i64 c0_den] 0])]=>.det (IsE enc_55 3 a0_s a0_g∧zv9 (⟨c0_slope,c0_start,c0_den⟩:straight) (⟨a0_n,zad a0_g⟩:(Sl Gate))=true) [.one (.int .i64 (zv8 (⟨c0_slope,c0_start,c0_den⟩:straight) (⟨a0_n,zad a0_g⟩:(Sl Gate))))]
  | [.one (.sl a0_n a0_s a0_g),.one (.fn 123 [] [.fp [.int .i64 c0_slope,.int .i64 c0_start,.int .i64 c0_den] 0])]=>.det (IsE enc_55 3 a0_s a0_g∧zEj (⟨c0_slope,c0_start,c0_den⟩:straight) (⟨a0_n,zad a0_g⟩:(Sl Gate))=true) [.one (.int .i64 (zEi (⟨c0_slope,c0_start,c0_den⟩:straight) (⟨a0_n,zad a0_g⟩:(Sl Gate))))]
  | _=>.no
theorem zEk:zai Try.prog 119:=⟨_,rfl,rfl,by kernel_rfl⟩
theorem zLH:Ok Try.prog 119 zwc:=zaN zIL zEk fun args K h=>by
  unfold zwc at h
  split at h
  · rename_i a0_n a0_s a0_g c0_Gates_n c0_Gates_s c0_Gates_g
    obtain ⟨⟨⟨rfl,a0_f,rfl⟩,⟨rfl,c0_Gates_f,rfl⟩,hs⟩,hk⟩:=h
    try rw [zae a0_f] at hs
    try rw [zae a0_f] at hk
    try rw [zae c0_Gates_f] at hs
    try rw [zae c0_Gates_f] at hk
    exact ⟨(fun _ _=>[]),(fun _=>false),zv1,zOx (⟨(⟨c0_Gates_n,c0_Gates_f⟩:(Sl Gate))⟩:list) (⟨a0_n,a0_f⟩:(Sl Gate)) K hs hk⟩
  · rename_i a0_n a0_s a0_g c0_slope c0_start c0_den
    obtain ⟨⟨⟨rfl,a0_f,rfl⟩,hs⟩,hk⟩:=h
    try rw [zae a0_f] at hs
    try rw [zae a0_f] at hk
    exact ⟨(fun _ _=>[]),(fun _=>false),zqr,zLE (⟨c0_slope,c0_start,c0_den⟩:straight) (⟨a0_n,a0_f⟩:(Sl Gate)) K hs hk⟩
  · rename_i a0_n a0_s a0_g c0_slope c0_start c0_den
    obtain ⟨⟨⟨rfl,a0_f,rfl⟩,hs⟩,hk⟩:=h
    try rw [zae a0_f] at hs
    try rw [zae a0_f] at hk
    exact ⟨(fun _ _=>[]),(fun _=>false),zqu,zLG (⟨c0_slope,c0_start,c0_den⟩:straight) (⟨a0_n,a0_f⟩:(Sl Gate)) K hs hk⟩
  · exact h.elim
abbrev T99:Tabs:=(Tabs.nil.addF 119 zwc)
theorem zLI:TabsOk Try.prog T99:=(TabsOk.nil.addF zLH)
abbrev G99:Ctrs:=csm T99 (fun _ _=>[]) (fun _=>false)
def zIQ:Ann:=⟨9,[(0,zK [0,1] []),(1,zK [4] [])],
 [],
 [],
 [],[]⟩
abbrev R99:=Bool
abbrev e99 (r:R99):List PA:=[.one (.bool r)]
section
variable {K:List PA→Prop} {c0:list} {s:(Sl Gate)}
def s99 (c0:list) (s:(Sl Gate)):Bool :=
  (decide ((zIM c0 s) ≥ (0:Int)))
def p99 (c0:list) (s:(Sl Gate)):Bool :=
  (decide ((zIN c0 s=true)) &&
 true)
end
theorem q99 (c0:list) (s:(Sl Gate)) (K:List PA→Prop) (hs:p99 c0 s=true) (hk:K (e99 (s99 c0 s))):vcFun Try.prog G99 zIQ 99 [.one (.sl s.len 3 (fun i=>enc_55 (s.get i))),.one (.fn 100 [] [.fp (zce c0) 0])] K :=
  zay (by kernel_rfl) (zaw hs fun hc hs=>And.intro (And.intro (zE enc_55 3 s.get) (And.intro (zE enc_55 3 c0.Gates.get) hc)) hk)
abbrev zOy:Ctrs:=csm T99 (fun _ _=>[]) (fun _=>false)
def zCJ:Ann:=⟨9,[(0,zK [0,1] []),(1,zK [4] [])],
 [],
 [],
 [],[]⟩
abbrev zOz:=Bool
abbrev zOA (r:zOz):List PA:=[.one (.bool r)]
section
variable {K:List PA→Prop} {c0:straight} {s:(Sl Gate)}
def zLb (c0:straight) (s:(Sl Gate)):Bool :=
  (decide ((zv8 c0 s) ≥ (0:Int)))
def zLc (c0:straight) (s:(Sl Gate)):Bool :=
  (decide ((zv9 c0 s=true)) &&
 true)
end
theorem zOB (c0:straight) (s:(Sl Gate)) (K:List PA→Prop) (hs:zLc c0 s=true) (hk:K (zOA (zLb c0 s))):vcFun Try.prog zOy zCJ 99 [.one (.sl s.len 3 (fun i=>enc_55 (s.get i))),.one (.fn 117 [] [.fp (zaf c0) 0])] K :=
  zay (by kernel_rfl) (zaw hs fun hc hs=>And.intro (And.intro (zE enc_55 3 s.get) hc) hk)
abbrev zOC:Ctrs:=csm T99 (fun _ _=>[]) (fun _=>false)
def zCK:Ann:=⟨9,[(0,zK [0,1] []),(1,zK [4] [])],
 [],
 [],
 [],[]⟩
abbrev zOD:=Bool
abbrev zOE (r:zOD):List PA:=[.one (.bool r)]
section
variable {K:List PA→Prop} {c0:straight} {s:(Sl Gate)}
def zLJ (c0:straight) (s:(Sl Gate)):Bool :=
  (decide ((zEi c0 s) ≥ (0:Int)))
def zLK (c0:straight) (s:(Sl Gate)):Bool :=
  (decide ((zEj c0 s=true)) &&
 true)
end
theorem zOF (c0:straight) (s:(Sl Gate)) (K:List PA→Prop) (hs:zLK c0 s=true) (hk:K (zOE (zLJ c0 s))):vcFun Try.prog zOC zCK 99 [.one (.sl s.len 3 (fun i=>enc_55 (s.get i))),.one (.fn 123 [] [.fp (zaf c0) 0])] K :=
  zay (by kernel_rfl) (zaw hs fun hc hs=>And.intro (And.intro (zE enc_55 3 s.get) hc) hk)
def zwd : List PA → COut
  | [.one (.sl a0_n a0_s a0_g),.one (.fn 100 [] [.fp [.sl c0_Gates_n c0_Gates_s c0_Gates_g] 0])]=>.det (IsE enc_55 3 a0_s a0_g∧IsE enc_55 3 c0_Gates_s c0_Gates_g∧p99 (⟨(⟨c0_Gates_n,zad c0_Gates_g⟩:(Sl Gate))⟩:list) (⟨a0_n,zad a0_g⟩:(Sl Gate))=true) [.one (.bool (s99 (⟨(⟨c0_Gates_n,zad c0_Gates_g⟩:(Sl Gate))⟩:list) (⟨a0_n,zad a0_g⟩:(Sl Gate))))]
  | [.one (.sl a0_n a0_s a0_g),.one (.fn 117 [] [.fp [.int .i64 c0_slope,.int .i64 c0_start,.int .i64 c0_den] 0])]=>.det (IsE enc_55 3 a0_s a0_g∧zLc (⟨c0_slope,c0_start,c0_den⟩:straight) (⟨a0_n,zad a0_g⟩:(Sl Gate))=true) [.one (.bool (zLb (⟨c0_slope,c0_start,c0_den⟩:straight) (⟨a0_n,zad a0_g⟩:(Sl Gate))))]
  | [.one (.sl a0_n a0_s a0_g),.one (.fn 123 [] [.fp [.int .i64 c0_slope,.int .i64 c0_start,.int .i64 c0_den] 0])]=>.det (IsE enc_55 3 a0_s a0_g∧zLK (⟨c0_slope,c0_start,c0_den⟩:straight) (⟨a0_n,zad a0_g⟩:(Sl Gate))=true) [.one (.bool (zLJ (⟨c0_slope,c0_start,c0_den⟩:straight) (⟨a0_n,zad a0_g⟩:(Sl Gate))))]
  | _=>.no
theorem zIR:zai Try.prog 99:=⟨_,rfl,rfl,by kernel_rfl⟩
theorem zLL:Ok Try.prog 99 zwd:=zaN zLI zIR fun args K h=>by
  unfold zwd at h
  split at h
  · rename_i a0_n a0_s a0_g c0_Gates_n c0_Gates_s c0_Gates_g
    obtain ⟨⟨⟨rfl,a0_f,rfl⟩,⟨rfl,c0_Gates_f,rfl⟩,hs⟩,hk⟩:=h
    try rw [zae a0_f] at hs
    try rw [zae a0_f] at hk
    try rw [zae c0_Gates_f] at hs
    try rw [zae c0_Gates_f] at hk
    exact ⟨(fun _ _=>[]),(fun _=>false),zIQ,q99 (⟨(⟨c0_Gates_n,c0_Gates_f⟩:(Sl Gate))⟩:list) (⟨a0_n,a0_f⟩:(Sl Gate)) K hs hk⟩
  · rename_i a0_n a0_s a0_g c0_slope c0_start c0_den
    obtain ⟨⟨⟨rfl,a0_f,rfl⟩,hs⟩,hk⟩:=h
    try rw [zae a0_f] at hs
    try rw [zae a0_f] at hk
    exact ⟨(fun _ _=>[]),(fun _=>false),zCJ,zOB (⟨c0_slope,c0_start,c0_den⟩:straight) (⟨a0_n,a0_f⟩:(Sl Gate)) K hs hk⟩
  · rename_i a0_n a0_s a0_g c0_slope c0_start c0_den
    obtain ⟨⟨⟨rfl,a0_f,rfl⟩,hs⟩,hk⟩:=h
    try rw [zae a0_f] at hs
    try rw [zae a0_f] at hk
    exact ⟨(fun _ _=>[]),(fun _=>false),zCK,zOF (⟨c0_slope,c0_start,c0_den⟩:straight) (⟨a0_n,a0_f⟩:(Sl Gate)) K hs hk⟩
  · exact h.elim
abbrev T67:Tabs:=(Tabs.nil.addF 99 zwd)
theorem zLM:TabsOk Try.prog T67:=(TabsOk.nil.addF zLL)
abbrev G67:Ctrs:=csm T67 (fun _ _=>[]) (fun _=>false)
def zIS:Ann:=⟨8,[(0,zK [1] [1]),(1,zK [2] [])],
 [],
 [],
 [],[]⟩
abbrev R67:=Bool
abbrev e67 (r:R67):List PA:=[.one (.bool r)]
section
variable {K:List PA→Prop} {l_a0:list}
def s67 (l_a0:list):Bool :=
  (!(s99 l_a0 l_a0.Gates))
def p67 (l_a0:list):Bool :=
  (decide ((p99 l_a0 l_a0.Gates=true)) &&
 true)
end
theorem q67 (l_a0:list) (K:List PA→Prop) (hs:p67 l_a0=true) (hk:K (e67 (s67 l_a0))):vcFun Try.prog G67 zIS 67 [.agg (zce l_a0)] K :=
  zay (by kernel_rfl) (zaw hs fun hc hs=>And.intro (And.intro (zE enc_55 3 l_a0.Gates.get) (And.intro (zE enc_55 3 l_a0.Gates.get) hc)) hk)
def zpe : List PA → COut
  | [.agg [.sl a0_Gates_n a0_Gates_s a0_Gates_g]]=>.det (IsE enc_55 3 a0_Gates_s a0_Gates_g∧p67 (⟨(⟨a0_Gates_n,zad a0_Gates_g⟩:(Sl Gate))⟩:list)=true) [.one (.bool (s67 (⟨(⟨a0_Gates_n,zad a0_Gates_g⟩:(Sl Gate))⟩:list)))]
  | _=>.no
theorem zIT:zai Try.prog 67:=⟨_,rfl,rfl,by kernel_rfl⟩
theorem zIU:Ok Try.prog 67 zpe:=zaN zLM zIT fun args K h=>by
  unfold zpe at h
  split at h
  · rename_i a0_Gates_n a0_Gates_s a0_Gates_g
    obtain ⟨⟨⟨rfl,a0_Gates_f,rfl⟩,hs⟩,hk⟩:=h
    try rw [zae a0_Gates_f] at hs
    try rw [zae a0_Gates_f] at hk
    exact ⟨(fun _ _=>[]),(fun _=>false),zIS,q67 (⟨(⟨a0_Gates_n,a0_Gates_f⟩:(Sl Gate))⟩:list) K hs hk⟩
  · exact h.elim
abbrev zNz:Tabs:=Tabs.nil
theorem zIV:TabsOk Try.prog zNz:=TabsOk.nil
abbrev zNA:Ctrs:=csm zNz (fun _ _=>[]) (fun _=>false)
def zwe:Ann:=⟨12,[(0,zK [0,1] []),(1,zK [0,1,6] []),(2,zK [0,1] []),(3,zK [4] [])],
 [(1,zK [0,1] [])],
 [],
 [],[]⟩
abbrev zOG:=Int
abbrev zLN (r:zOG):List PA:=[.one (.int .i64 r)]
@[irreducible] def z114:=ptF Try.prog zNA zwe Try.f114
def zwf (av0:Int) (bv0:Int):St:=⟨[(0,zI av0),(1,zI bv0)],[],[]⟩
abbrev zCL (K:List PA→Prop) (X:St→Prop) (P:Int→Int→Bool) (S:Int→Int→Int):Prop:=∀ ⦃av0:Int⦄ ⦃bv0:Int⦄,P av0 bv0=true→K (zLN (S av0 bv0))→X (zwf av0 bv0)
section
variable {K:List PA→Prop} {a:Int} {b:Int} {av0:Int} {bv0:Int} {X0:St→Prop} {P0:Int→Int→Bool} {S0:Int→Int→Int}
def ziU (S0:Int→Int→Int) (av0:Int) (bv0:Int):Int :=
  (cond (decide (bv0 > (0:Int)))
 (S0 bv0 (av0.tmod bv0))
 av0)
def ziV (P0:Int→Int→Bool) (av0:Int) (bv0:Int):Bool :=
  (cond (decide (bv0 > (0:Int)))
 (decide ((bv0 ≠ 0)) &&
 (P0 bv0 (av0.tmod bv0)))
 true)
def ziW:Nat→Int→Int→Int:=lpO (fun _ _=>default) (ziU)
def ziX:Nat→Int→Int→Bool:=lpO (fun _ _=>false) (ziV)
def zs6 (av0:Int) (bv0:Int):Int:=ziW Fuel av0 bv0
def zs7 (av0:Int) (bv0:Int):Bool:=ziX Fuel av0 bv0
theorem zBk (hs:zs7 av0 bv0=true) (hk:K (zLN (zs6 av0 bv0))):z114 K [1,0,0] [] (zwf av0 bv0) :=
  zl (fun X=>z114 K [1,0,0,0] [X]) (by kernel_rfl) fun X0 hX =>
  (show ∀ k, zCL K X0 (ziX k) (ziW k) from zgX _ _ (ziV) (ziU) (zCL K X0)
 (by intro _ _ hs;exact absurd hs Bool.false_ne_true)
 (by intro P0 S0 hX0 av0 bv0 hs hk;exact hX _ (zay (by kernel_rfl) (zc hs hk (fun hs hk=>(zaw hs fun hc hs=>And.intro hc (hX0 hs hk))) (fun hs hk=>hk))))) _ hs hk
def zEl (a:Int) (b:Int):Int :=
  (zs6 a b)
def zLd (a:Int) (b:Int):Bool :=
  (zs7 a b)
end
theorem zOH (a:Int) (b:Int) (K:List PA→Prop) (hs:zLd a b=true) (hk:K (zLN (zEl a b))):vcFun Try.prog zNA zwe 114 [.one (.int .i64 a),.one (.int .i64 b)] K :=
  zay (by kernel_rfl) (zBk hs hk)
def zwg : List PA → COut
  | [.one (.int .i64 a0),.one (.int .i64 a1)]=>.det (zLd a0 a1=true) [.one (.int .i64 (zEl a0 a1))]
  | _=>.no
theorem zEm:zai Try.prog 114:=⟨_,rfl,rfl,by kernel_rfl⟩
theorem zLO:Ok Try.prog 114 zwg:=zaN zIV zEm fun args K h=>by
  unfold zwg at h
  split at h
  · rename_i a0 a1
    obtain ⟨hs,hk⟩:=h
    exact ⟨(fun _ _=>[]),(fun _=>false),zwe,zOH a0 a1 K hs hk⟩
  · exact h.elim
abbrev T89:Tabs:=(Tabs.nil.addF 114 zwg)
theorem zLP:TabsOk Try.prog T89:=(TabsOk.nil.addF zLO)
abbrev G89:Ctrs:=csm T89 (fun _ _=>[]) (fun _=>false)
def zIW:Ann:=⟨19,[(0,zK [0,1,4] [4]),(1,zK [0,1,4,5] [4]),(2,zK [4] [4])],
 [],
 [],
 [],[]⟩
abbrev R89:=Frac
abbrev e89 (r:R89):List PA:=[.agg [.int .i64 r.Num,.int .i64 r.Den]]
section
variable {K:List PA→Prop} {num:Int} {den:Int}
def s89 (num:Int) (den:Int):Frac :=
  (⟨(w64 (num.tdiv (zEl (if (w64 (0 - num)) > num then (w64 (0 - num)) else num) den))),(w64 (den.tdiv (zEl (if (w64 (0 - num)) > num then (w64 (0 - num)) else num) den)))⟩:Frac)
def p89 (num:Int) (den:Int):Bool :=
  (decide ((zLd (if (w64 (0 - num)) > num then (w64 (0 - num)) else num) den=true)) &&
 (decide (((zEl (if (w64 (0 - num)) > num then (w64 (0 - num)) else num) den) ≠ 0)) &&
 (decide (((zEl (if (w64 (0 - num)) > num then (w64 (0 - num)) else num) den) ≠ 0)) &&
 true)))
end
theorem q89 (num:Int) (den:Int) (K:List PA→Prop) (hs:p89 num den=true) (hk:K (e89 (s89 num den))):vcFun Try.prog G89 zIW 89 [.one (.int .i64 num),.one (.int .i64 den)] K :=
  zay (by kernel_rfl) (zaw hs fun hc hs=>And.intro hc (zaw hs fun hc hs=>And.intro hc (zaw hs fun hc hs=>And.intro hc hk)))
def zqw : List PA → COut
  | [.one (.int .i64 a0),.one (.int .i64 a1)]=>.det (p89 a0 a1=true) [.agg [.int .i64 ((s89 a0 a1).Num),.int .i64 ((s89 a0 a1).Den)]]
  | _=>.no
theorem zIX:zai Try.prog 89:=⟨_,rfl,rfl,by kernel_rfl⟩
theorem zLe:Ok Try.prog 89 zqw:=zaN zLP zIX fun args K h=>by
  unfold zqw at h
  split at h
  · rename_i a0 a1
    obtain ⟨hs,hk⟩:=h
    exact ⟨(fun _ _=>[]),(fun _=>false),zIW,q89 a0 a1 K hs hk⟩
  · exact h.elim
abbrev T98:Tabs:=Tabs.nil
theorem zLQ:TabsOk Try.prog T98:=TabsOk.nil
abbrev G98:Ctrs:=csm T98 (fun _ _=>[]) (fun _=>false)
def zEn:Ann:=⟨38,[(0,zK [1,2] [1,2]),(1,zK [1,2,3] [1,2,3]),(2,zK [2,3,18,19,20] [2,3]),(3,zK [2,3,18,19,20,21] [2,3]),(4,zK [2,3,5,18,19,20] [2,3,5]),(5,zK [2,3,18,19,20] [2,3]),(6,zK [2,3,18,19,20] [2,3]),(7,zK [2] [2])],
 [(3,zK [2,3,18,19,20] [2,3])],
 [],
 [],[]⟩
abbrev R98:=Span
abbrev e98 (r:R98):List PA:=[.agg [.int .i64 r.Low,.int .i64 r.High]]
@[irreducible] def z98:=ptF Try.prog G98 zEn Try.f98
def zCM (l_a0:list) (zcL:Int) (zaq:Int) (zar:Int):St:=⟨[(2,zp 2 0),(3,zp 3 0),(18,zS enc_55 3 l_a0.Gates),(19,zI (l_a0.Gates.len:Int)),(20,zI zcL)],[(2,.box 96 (zm (zCE (⟨(0:Int),(0:Int)⟩:Span)))),(3,.box 96 (zm (zCE (⟨zaq,zar⟩:Span))))],[]⟩
abbrev zIY (K:List PA→Prop) (l_a0:list) (X:St→Prop) (P:Int→Int→Int→Bool) (S:Int→Int→Int→Span):Prop:=∀ ⦃zcL:Int⦄ ⦃zaq:Int⦄ ⦃zar:Int⦄,P zcL zaq zar=true→K (e98 (S zcL zaq zar))→X (zCM l_a0 zcL zaq zar)
section
variable {K:List PA→Prop} {l_a0:list} {zcL:Int} {zaq:Int} {zar:Int} {X0:St→Prop} {P0:Int→Int→Int→Bool} {S0:Int→Int→Int→Span}
def zhy (l_a0:list) (S0:Int→Int→Int→Span) (zcL:Int) (zaq:Int) (zar:Int):Span :=
  (cond (decide (zcL < (l_a0.Gates.len : Int)))
 (S0 (w64 (zcL+(1:Int))) (if (l_a0.Gates.get zcL.toNat).Low > zaq then (l_a0.Gates.get zcL.toNat).Low else zaq) (if (l_a0.Gates.get zcL.toNat).High < zar then (l_a0.Gates.get zcL.toNat).High else zar))
 (⟨zaq,zar⟩:Span))
def zhz (l_a0:list) (P0:Int→Int→Int→Bool) (zcL:Int) (zaq:Int) (zar:Int):Bool :=
  (cond (decide (zcL < (l_a0.Gates.len : Int)))
 (decide ((0≤zcL∧zcL < (l_a0.Gates.len:Int))) &&
 (P0 (w64 (zcL+(1:Int))) (if (l_a0.Gates.get zcL.toNat).Low > zaq then (l_a0.Gates.get zcL.toNat).Low else zaq) (if (l_a0.Gates.get zcL.toNat).High < zar then (l_a0.Gates.get zcL.toNat).High else zar)))
 true)
def zhA (l_a0:list):Nat→Int→Int→Int→Span:=lpO (fun _ _ _=>default) (zhy l_a0)
def zhB (l_a0:list):Nat→Int→Int→Int→Bool:=lpO (fun _ _ _=>false) (zhz l_a0)
def zwh (l_a0:list) (zcL:Int) (zaq:Int) (zar:Int):Span:=zhA l_a0 Fuel zcL zaq zar
def zwi (l_a0:list) (zcL:Int) (zaq:Int) (zar:Int):Bool:=zhB l_a0 Fuel zcL zaq zar
theorem zEo (hs:zwi l_a0 zcL zaq zar=true) (hk:K (e98 (zwh l_a0 zcL zaq zar))):z98 K [1,1,0,1,0] [] (zCM l_a0 zcL zaq zar) :=
  zl (fun X=>z98 K [1,1,0,1,0,0] [X]) (by kernel_rfl) fun X0 hX =>
  (show ∀ k, zIY K l_a0 X0 (zhB l_a0 k) (zhA l_a0 k) from zgX _ _ (zhz l_a0) (zhy l_a0) (zIY K l_a0 X0)
 (by intro _ _ _ hs;exact absurd hs Bool.false_ne_true)
 (by intro P0 S0 hX0 zcL zaq zar hs hk;exact hX _ (zay (by kernel_rfl) (zc hs hk (fun hs hk=>(zaw hs fun hc hs=>And.intro hc (hX0 hs hk))) (fun hs hk=>hk))))) _ hs hk
def s98 (l_a0:list):Span :=
  (zwh l_a0 (0:Int) ((l_a0.Gates.get 0).Low) ((l_a0.Gates.get 0).High))
def p98 (l_a0:list):Bool :=
  (decide ((0≤(0:Int)∧(0:Int) < (l_a0.Gates.len:Int))) &&
 (decide ((0≤(0:Int)∧(0:Int) < (l_a0.Gates.len:Int))) &&
 (zwi l_a0 (0:Int) ((l_a0.Gates.get 0).Low) ((l_a0.Gates.get 0).High))))
end
theorem q98 (l_a0:list) (K:List PA→Prop) (hs:p98 l_a0=true) (hk:K (e98 (s98 l_a0))):vcFun Try.prog G98 zEn 98 [.agg (zce l_a0)] K :=
  zay (by kernel_rfl) (zaw hs fun hc hs=>And.intro hc (zaw hs fun hc hs=>And.intro hc (zEo hs hk)))
def zBl : List PA → COut
  | [.agg [.sl a0_Gates_n a0_Gates_s a0_Gates_g]]=>.det (IsE enc_55 3 a0_Gates_s a0_Gates_g∧p98 (⟨(⟨a0_Gates_n,zad a0_Gates_g⟩:(Sl Gate))⟩:list)=true) [.agg [.int .i64 ((s98 (⟨(⟨a0_Gates_n,zad a0_Gates_g⟩:(Sl Gate))⟩:list)).Low),.int .i64 ((s98 (⟨(⟨a0_Gates_n,zad a0_Gates_g⟩:(Sl Gate))⟩:list)).High)]]
  | _=>.no
theorem zIZ:zai Try.prog 98:=⟨_,rfl,rfl,by kernel_rfl⟩
theorem zNB:Ok Try.prog 98 zBl:=zaN zLQ zIZ fun args K h=>by
  unfold zBl at h
  split at h
  · rename_i a0_Gates_n a0_Gates_s a0_Gates_g
    obtain ⟨⟨⟨rfl,a0_Gates_f,rfl⟩,hs⟩,hk⟩:=h
    try rw [zae a0_Gates_f] at hs
    try rw [zae a0_Gates_f] at hk
    exact ⟨(fun _ _=>[]),(fun _=>false),zEn,q98 (⟨(⟨a0_Gates_n,a0_Gates_f⟩:(Sl Gate))⟩:list) K hs hk⟩
  · exact h.elim
abbrev T83:Tabs:=Tabs.nil
theorem zLR:TabsOk Try.prog T83:=TabsOk.nil
abbrev G83:Ctrs:=csm T83 (fun _ _=>[]) (fun _=>false)
def zI0:Ann:=⟨8,[(0,zK [1,2] [1,2]),(1,zK [2] [2])],
 [],
 [],
 [],[]⟩
abbrev R83:=Frac
abbrev e83 (r:R83):List PA:=[.agg [.int .i64 r.Num,.int .i64 r.Den]]
section
variable {K:List PA→Prop} {x:straight}
def s83 (x:straight):Frac :=
  (⟨x.slope,x.den⟩:Frac)
end
theorem q83 (x:straight) (K:List PA→Prop) (hk:K (e83 (s83 x))):vcFun Try.prog G83 zI0 83 [.agg (zaf x)] K :=
  zay (by kernel_rfl) hk
def zEp : List PA → COut
  | [.agg [.int .i64 a0_slope,.int .i64 a0_start,.int .i64 a0_den]]=>.tot [.agg [.int .i64 ((s83 (⟨a0_slope,a0_start,a0_den⟩:straight)).Num),.int .i64 ((s83 (⟨a0_slope,a0_start,a0_den⟩:straight)).Den)]]
  | _=>.no
theorem zI1:zai Try.prog 83:=⟨_,rfl,rfl,by kernel_rfl⟩
theorem zOI:Ok Try.prog 83 zEp:=zaN zLR zI1 fun args K h=>by
  unfold zEp at h
  split at h
  · rename_i a0_slope a0_start a0_den
    have hk:=h
    exact ⟨(fun _ _=>[]),(fun _=>false),zI0,q83 (⟨a0_slope,a0_start,a0_den⟩:straight) K hk⟩
  · exact h.elim
abbrev zNC:Tabs:=Tabs.nil
theorem zI2:TabsOk Try.prog zNC:=TabsOk.nil
abbrev zOJ:Ctrs:=csm zNC (fun _ _=>[]) (fun _=>false)
def zCN:Ann:=⟨15,[(0,zK [1,2,4] [2,4]),(1,zK [4] [4])],
 [],
 [],
 [],[]⟩
abbrev zOK:=Frac
abbrev zOL (r:zOK):List PA:=[.agg [.int .i64 r.Num,.int .i64 r.Den]]
section
variable {K:List PA→Prop} {s:straight} {z:Int}
def zI3 (s:straight) (z:Int):Frac :=
  (⟨(w64 (s.start+(w64 (s.slope * z)))),s.den⟩:Frac)
end
theorem zOM (s:straight) (z:Int) (K:List PA→Prop) (hk:K (zOL (zI3 s z))):vcFun Try.prog zOJ zCN 102 [.agg (zaf s),.one (.int .i64 z)] K :=
  zay (by kernel_rfl) hk
def zwj : List PA → COut
  | [.agg [.int .i64 a0_slope,.int .i64 a0_start,.int .i64 a0_den],.one (.int .i64 a1)]=>.tot [.agg [.int .i64 ((zI3 (⟨a0_slope,a0_start,a0_den⟩:straight) a1).Num),.int .i64 ((zI3 (⟨a0_slope,a0_start,a0_den⟩:straight) a1).Den)]]
  | _=>.no
theorem zEq:zai Try.prog 102:=⟨_,rfl,rfl,by kernel_rfl⟩
theorem zLS:Ok Try.prog 102 zwj:=zaN zI2 zEq fun args K h=>by
  unfold zwj at h
  split at h
  · rename_i a0_slope a0_start a0_den a1
    have hk:=h
    exact ⟨(fun _ _=>[]),(fun _=>false),zCN,zOM (⟨a0_slope,a0_start,a0_den⟩:straight) a1 K hk⟩
  · exact h.elim
abbrev zND:Tabs:=(Tabs.nil.addF 102 zwj)
theorem zI4:TabsOk Try.prog zND:=(TabsOk.nil.addF zLS)
abbrev zON:Ctrs:=csm zND (fun _ _=>[]) (fun _=>false)
def zCO:Ann:=⟨7,[(0,zK [1,2,3] [2,3]),(1,zK [3] [3])],
 [],
 [],
 [],[]⟩
abbrev zOO:=Frac
abbrev zOP (r:zOO):List PA:=[.agg [.int .i64 r.Num,.int .i64 r.Den]]
section
variable {K:List PA→Prop} {c0:Int} {x:straight}
def zwk (c0:Int) (x:straight):Frac :=
  (zI3 x c0)
end
theorem zOQ (c0:Int) (x:straight) (K:List PA→Prop) (hk:K (zOP (zwk c0 x))):vcFun Try.prog zON zCO 101 [.agg (zaf x),.one (.fp (zaj c0) 0)] K :=
  zay (by kernel_rfl) hk
def zwl : List PA → COut
  | [.agg [.int .i64 a0_slope,.int .i64 a0_start,.int .i64 a0_den],.one (.fp [.int .i64 c0] 0)]=>.tot [.agg [.int .i64 ((zwk c0 (⟨a0_slope,a0_start,a0_den⟩:straight)).Num),.int .i64 ((zwk c0 (⟨a0_slope,a0_start,a0_den⟩:straight)).Den)]]
  | _=>.no
theorem zEr:zai Try.prog 101:=⟨_,rfl,rfl,by kernel_rfl⟩
theorem zLT:Ok Try.prog 101 zwl:=zaN zI4 zEr fun args K h=>by
  unfold zwl at h
  split at h
  · rename_i a0_slope a0_start a0_den c0
    have hk:=h
    exact ⟨(fun _ _=>[]),(fun _=>false),zCO,zOQ c0 (⟨a0_slope,a0_start,a0_den⟩:straight) K hk⟩
  · exact h.elim
abbrev zNE:Tabs:=Tabs.nil
theorem zI5:TabsOk Try.prog zNE:=TabsOk.nil
abbrev zOR:Ctrs:=csm zNE (fun _ _=>[]) (fun _=>false)
def zCP:Ann:=⟨6,[(0,zK [0] []),(1,zK [2] [])],
 [],
 [],
 [],[]⟩
abbrev zOS:=Bool
abbrev e120 (r:zOS):List PA:=[.one (.bool r)]
section
variable {K:List PA→Prop} {x:Int}
def zEs (x:Int):Bool :=
  (x != x)
end
theorem zOT (x:Int) (K:List PA→Prop) (hk:K (e120 (zEs x))):vcFun Try.prog zOR zCP 120 [.one (.int .i64 x)] K :=
  zay (by kernel_rfl) hk
def zwm : List PA → COut
  | [.one (.int .i64 a0)]=>.tot [.one (.bool (zEs a0))]
  | _=>.no
theorem zEt:zai Try.prog 120:=⟨_,rfl,rfl,by kernel_rfl⟩
theorem zLU:Ok Try.prog 120 zwm:=zaN zI5 zEt fun args K h=>by
  unfold zwm at h
  split at h
  · rename_i a0
    have hk:=h
    exact ⟨(fun _ _=>[]),(fun _=>false),zCP,zOT a0 K hk⟩
  · exact h.elim
abbrev zNF:Tabs:=(Tabs.nil.addF 120 zwm)
theorem zI6:TabsOk Try.prog zNF:=(TabsOk.nil.addF zLU)
abbrev zOU:Ctrs:=csm zNF (fun _ _=>[]) (fun _=>false)
def zCQ:Ann:=⟨20,[(0,zK [0,1] []),(1,zK [0,1,5] []),(2,zK [0,1,5,6] []),(3,zK [0,1,6,11] []),(4,zK [12] []),(5,zK [4] []),(6,zK [4] []),(7,zK [0,1,13] []),(8,zK [4] []),(9,zK [0,1,16] []),(10,zK [4] []),(11,zK [19] []),(12,zK [4] []),(13,zK [4] [])],
 [],
 [],
 [],[]⟩
abbrev zOV:=Int
abbrev zOW (r:zOV):List PA:=[.one (.int .i64 r)]
section
variable {K:List PA→Prop} {x:Int} {y_a1:Int}
def zEu (x:Int) (y_a1:Int):Int :=
  (cond (zEs x)
 (cond (zEs y_a1)
 (0:Int)
 (-1:Int))
 (cond (zEs y_a1)
 (1:Int)
 (cond (decide (x < y_a1))
 (-1:Int)
 (cond (decide (x > y_a1))
 (1:Int)
 (0:Int)))))
end
theorem zOX (x:Int) (y_a1:Int) (K:List PA→Prop) (hk:K (zOW (zEu x y_a1))):vcFun Try.prog zOU zCQ 103 [.one (.int .i64 x),.one (.int .i64 y_a1)] K :=
  zay (by kernel_rfl) (zt hk (fun hk=>(zt hk (fun hk=>hk) (fun hk=>hk))) (fun hk=>(zt hk (fun hk=>hk) (fun hk=>(zt hk (fun hk=>hk) (fun hk=>(zt hk (fun hk=>hk) (fun hk=>hk))))))))
def zwn : List PA → COut
  | [.one (.int .i64 a0),.one (.int .i64 a1)]=>.tot [.one (.int .i64 (zEu a0 a1))]
  | _=>.no
theorem zEv:zai Try.prog 103:=⟨_,rfl,rfl,by kernel_rfl⟩
theorem zLV:Ok Try.prog 103 zwn:=zaN zI6 zEv fun args K h=>by
  unfold zwn at h
  split at h
  · rename_i a0 a1
    have hk:=h
    exact ⟨(fun _ _=>[]),(fun _=>false),zCQ,zOX a0 a1 K hk⟩
  · exact h.elim
abbrev T69:Tabs:=(Tabs.nil.addF 103 zwn)
theorem zLW:TabsOk Try.prog T69:=(TabsOk.nil.addF zLV)
abbrev G69:Ctrs:=csm T69 (fun _ _=>[]) (fun _=>false)
def zI7:Ann:=⟨16,[(0,zK [2,3] [2,3]),(1,zK [4] [])],
 [],
 [],
 [],[]⟩
abbrev R69:=Int
abbrev e69 (r:R69):List PA:=[.one (.int .i64 r)]
section
variable {K:List PA→Prop} {a:Frac} {b:Frac}
def s69 (a:Frac) (b:Frac):Int :=
  (zEu (w64 (a.Num * b.Den)) (w64 (b.Num * a.Den)))
end
theorem q69 (a:Frac) (b:Frac) (K:List PA→Prop) (hk:K (e69 (s69 a b))):vcFun Try.prog G69 zI7 69 [.agg (zac a),.agg (zac b)] K :=
  zay (by kernel_rfl) hk
def zqx : List PA → COut
  | [.agg [.int .i64 a0_Num,.int .i64 a0_Den],.agg [.int .i64 a1_Num,.int .i64 a1_Den]]=>.tot [.one (.int .i64 (s69 (⟨a0_Num,a0_Den⟩:Frac) (⟨a1_Num,a1_Den⟩:Frac)))]
  | _=>.no
theorem zI8:zai Try.prog 69:=⟨_,rfl,rfl,by kernel_rfl⟩
theorem zLf:Ok Try.prog 69 zqx:=zaN zLW zI8 fun args K h=>by
  unfold zqx at h
  split at h
  · rename_i a0_Num a0_Den a1_Num a1_Den
    have hk:=h
    exact ⟨(fun _ _=>[]),(fun _=>false),zI7,q69 (⟨a0_Num,a0_Den⟩:Frac) (⟨a1_Num,a1_Den⟩:Frac) K hk⟩
  · exact h.elim
abbrev zNG:Tabs:=(Tabs.nil.addF 69 zqx)
theorem zI9:TabsOk Try.prog zNG:=(TabsOk.nil.addF zLf)
abbrev zOY:Ctrs:=csm zNG (fun _ _=>[]) (fun _=>false)
def zCR:Ann:=⟨9,[(0,zK [2,3] [2,3]),(1,zK [4] [])],
 [],
 [],
 [],[]⟩
abbrev zOZ:=Bool
abbrev zO0 (r:zOZ):List PA:=[.one (.bool r)]
section
variable {K:List PA→Prop} {a:Frac} {b:Frac}
def zBm (a:Frac) (b:Frac):Bool :=
  (decide ((s69 a b) < (0:Int)))
end
theorem zO1 (a:Frac) (b:Frac) (K:List PA→Prop) (hk:K (zO0 (zBm a b))):vcFun Try.prog zOY zCR 112 [.agg (zac a),.agg (zac b)] K :=
  zay (by kernel_rfl) hk
def zwo : List PA → COut
  | [.agg [.int .i64 a0_Num,.int .i64 a0_Den],.agg [.int .i64 a1_Num,.int .i64 a1_Den]]=>.tot [.one (.bool (zBm (⟨a0_Num,a0_Den⟩:Frac) (⟨a1_Num,a1_Den⟩:Frac)))]
  | _=>.no
theorem zEw:zai Try.prog 112:=⟨_,rfl,rfl,by kernel_rfl⟩
theorem zLX:Ok Try.prog 112 zwo:=zaN zI9 zEw fun args K h=>by
  unfold zwo at h
  split at h
  · rename_i a0_Num a0_Den a1_Num a1_Den
    have hk:=h
    exact ⟨(fun _ _=>[]),(fun _=>false),zCR,zO1 (⟨a0_Num,a0_Den⟩:Frac) (⟨a1_Num,a1_Den⟩:Frac) K hk⟩
  · exact h.elim
abbrev zNH:Tabs:=(Tabs.nil.addF 69 zqx)
theorem zJa:TabsOk Try.prog zNH:=(TabsOk.nil.addF zLf)
abbrev zO2:Ctrs:=csm zNH (fun _ _=>[]) (fun _=>false)
def zCS:Ann:=⟨9,[(0,zK [2,3] [2,3]),(1,zK [4] [])],
 [],
 [],
 [],[]⟩
abbrev zO3:=Bool
abbrev zO4 (r:zO3):List PA:=[.one (.bool r)]
section
variable {K:List PA→Prop} {a:Frac} {b:Frac}
def zBn (a:Frac) (b:Frac):Bool :=
  (decide ((s69 a b) > (0:Int)))
end
theorem zO5 (a:Frac) (b:Frac) (K:List PA→Prop) (hk:K (zO4 (zBn a b))):vcFun Try.prog zO2 zCS 113 [.agg (zac a),.agg (zac b)] K :=
  zay (by kernel_rfl) hk
def zwp : List PA → COut
  | [.agg [.int .i64 a0_Num,.int .i64 a0_Den],.agg [.int .i64 a1_Num,.int .i64 a1_Den]]=>.tot [.one (.bool (zBn (⟨a0_Num,a0_Den⟩:Frac) (⟨a1_Num,a1_Den⟩:Frac)))]
  | _=>.no
theorem zEx:zai Try.prog 113:=⟨_,rfl,rfl,by kernel_rfl⟩
theorem zLY:Ok Try.prog 113 zwp:=zaN zJa zEx fun args K h=>by
  unfold zwp at h
  split at h
  · rename_i a0_Num a0_Den a1_Num a1_Den
    have hk:=h
    exact ⟨(fun _ _=>[]),(fun _=>false),zCS,zO5 (⟨a0_Num,a0_Den⟩:Frac) (⟨a1_Num,a1_Den⟩:Frac) K hk⟩
  · exact h.elim
abbrev zLZ:Tabs:=((Tabs.nil.addF 112 zwo).addF 113 zwp)
theorem zJb:TabsOk Try.prog zLZ:=((TabsOk.nil.addF zLX).addF zLY)
abbrev zNI:Ctrs:=csm zLZ (fun _ _=>[]) (fun _=>false)
def zwq:Ann:=⟨25,[(0,zK [0,1,4] [4]),(1,zK [0,1,4,5] [4,5]),(2,zK [1,4,5,12,13,14] [4,5]),(3,zK [1,4,5,12,13,14,15] [4,5]),(4,zK [1,4,5,7,12,13,14] [4,5,7]),(5,zK [1,4,5,7,12,13,14,21] [4,5,7]),(6,zK [1,4,5,12,13,14] [4,5]),(7,zK [1,4,5,12,13,14] [4,5]),(8,zK [4] [4])],
 [(3,zK [1,4,5,12,13,14] [4,5])],
 [(6,zK [1,4,5,7,12,13,14,21] [4,5,7])],
 [],[]⟩
abbrev zO6:=Frac
abbrev zLg (r:zO6):List PA:=[.agg [.int .i64 r.Num,.int .i64 r.Den]]
@[irreducible] def z111:=ptF Try.prog zNI zwq Try.f111
def zwr (l_a0:(Sl Frac)) (zaL:(Sl Frac)) (zah:Int) (zaq:Int) (zar:Int) (zcq:Nat→List PV):St:=⟨[(1,zP (.fn 112 [] [])),(4,zp 4 0),(5,zp 5 0),(12,zP (.sl zaL.len 2 zcq)),(13,zI (((l_a0.len:Int) - (1:Int)).toNat:Int)),(14,zI zah)],[(4,.box 25 (zm (zac (⟨(0:Int),(0:Int)⟩:Frac)))),(5,.box 25 (zm (zac (⟨zaq,zar⟩:Frac))))],[]⟩
abbrev zwt (K:List PA→Prop) (l_a0:(Sl Frac)) (X:St→Prop) (P:(Sl Frac)→Int→Int→Int→Bool) (S:(Sl Frac)→Int→Int→Int→Frac):Prop:=∀ ⦃zaL:(Sl Frac)⦄ ⦃zah:Int⦄ ⦃zaq:Int⦄ ⦃zar:Int⦄ ⦃zcq:Nat→List PV⦄,P zaL zah zaq zar=true→K (zLg (S zaL zah zaq zar))→zcq=zg zac zaL→X (zwr l_a0 zaL zah zaq zar zcq)
section
variable {K:List PA→Prop} {l_a0:(Sl Frac)} {zaL:(Sl Frac)} {zah:Int} {zaq:Int} {zar:Int} {zcq:Nat→List PV} {X0:St→Prop} {P0:(Sl Frac)→Int→Int→Int→Bool} {S0:(Sl Frac)→Int→Int→Int→Frac} {zd4:(Sl Frac)} {zaW:Int} {zgj:Bool} {zcC:Int} {zcD:Int} {zgk:Int} {zgl:Int} {zjR:Nat→List PV}
def zm8 (S0:(Sl Frac)→Int→Int→Int→Frac) (l_a0:(Sl Frac)) (zd4:(Sl Frac)) (zaW:Int) (zgj:Bool) (zcC:Int) (zcD:Int) (zgk:Int) (zgl:Int):Frac :=
  (cond zgj
 (S0 zd4 (w64 (zaW+(1:Int))) zgk zgl)
 (S0 zd4 (w64 (zaW+(1:Int))) zcC zcD))
def zm9 (P0:(Sl Frac)→Int→Int→Int→Bool) (l_a0:(Sl Frac)) (zd4:(Sl Frac)) (zaW:Int) (zgj:Bool) (zcC:Int) (zcD:Int) (zgk:Int) (zgl:Int):Bool :=
  (cond zgj
 (P0 zd4 (w64 (zaW+(1:Int))) zgk zgl)
 (P0 zd4 (w64 (zaW+(1:Int))) zcC zcD))
theorem zBo (hX0:zwt K l_a0 X0 P0 S0) (hs:zm9 P0 l_a0 zd4 zaW zgj zcC zcD zgk zgl=true) (hk:K (zLg (zm8 S0 l_a0 zd4 zaW zgj zcC zcD zgk zgl))) (zqy:zjR=zg zac zd4):z111 K [1,1,0,1,0,0,1,1,0,0,1,1] [X0] ⟨[(1,zP (.fn 112 [] [])),(4,zp 4 0),(5,zp 5 0),(7,zp 7 0),(12,zP (.sl zd4.len 2 zjR)),(13,zI (((l_a0.len:Int) - (1:Int)).toNat:Int)),(14,zI zaW),(21,zB zgj)],[(4,.box 25 (zm (zac (⟨(0:Int),(0:Int)⟩:Frac)))),(5,.box 25 (zm (zac (⟨zcC,zcD⟩:Frac)))),(7,.box 25 (zm (zac (⟨zgk,zgl⟩:Frac))))],[]⟩:=by subst zqy;exact zay (by kernel_rfl) (zc hs hk (fun hs hk=>(hX0 hs hk rfl)) (fun hs hk=>(hX0 hs hk rfl)))
def zfK (l_a0:(Sl Frac)) (S0:(Sl Frac)→Int→Int→Int→Frac) (zaL:(Sl Frac)) (zah:Int) (zaq:Int) (zar:Int):Frac :=
  (cond (decide (zah < (((l_a0.len : Int) - (1:Int)).toNat : Int)))
 (zm8 S0 l_a0 zaL zah (zBm (zaL.get zah.toNat) (⟨zaq,zar⟩:Frac)) zaq zar ((zaL.get zah.toNat).Num) ((zaL.get zah.toNat).Den))
 (⟨zaq,zar⟩:Frac))
def zfL (l_a0:(Sl Frac)) (P0:(Sl Frac)→Int→Int→Int→Bool) (zaL:(Sl Frac)) (zah:Int) (zaq:Int) (zar:Int):Bool :=
  (cond (decide (zah < (((l_a0.len : Int) - (1:Int)).toNat : Int)))
 (decide ((0≤zah∧zah < (zaL.len:Int))) &&
 (zm9 P0 l_a0 zaL zah (zBm (zaL.get zah.toNat) (⟨zaq,zar⟩:Frac)) zaq zar ((zaL.get zah.toNat).Num) ((zaL.get zah.toNat).Den)))
 true)
def zfM (l_a0:(Sl Frac)):Nat→(Sl Frac)→Int→Int→Int→Frac:=lpO (fun _ _ _ _=>default) (zfK l_a0)
def zfN (l_a0:(Sl Frac)):Nat→(Sl Frac)→Int→Int→Int→Bool:=lpO (fun _ _ _ _=>false) (zfL l_a0)
def zs8 (l_a0:(Sl Frac)) (zaL:(Sl Frac)) (zah:Int) (zaq:Int) (zar:Int):Frac:=zfM l_a0 Fuel zaL zah zaq zar
def zs9 (l_a0:(Sl Frac)) (zaL:(Sl Frac)) (zah:Int) (zaq:Int) (zar:Int):Bool:=zfN l_a0 Fuel zaL zah zaq zar
theorem zBp (hs:zs9 l_a0 zaL zah zaq zar=true) (hk:K (zLg (zs8 l_a0 zaL zah zaq zar))) (zgm:zcq=zg zac zaL):z111 K [1,1,0,1,0] [] (zwr l_a0 zaL zah zaq zar zcq) :=
  zl (fun X=>z111 K [1,1,0,1,0,0] [X]) (by kernel_rfl) fun X0 hX =>
  (show ∀ k, zwt K l_a0 X0 (zfN l_a0 k) (zfM l_a0 k) from zgX _ _ (zfL l_a0) (zfK l_a0) (zwt K l_a0 X0)
 (by intro _ _ _ _ _ hs;exact absurd hs Bool.false_ne_true)
 (by intro P0 S0 hX0 zaL zah zaq zar zcq hs hk zgm;subst zgm;exact hX _ (zay (by kernel_rfl) (zc hs hk (fun hs hk=>(zaw hs fun hc hs=>And.intro hc (zBo hX0 hs hk rfl))) (fun hs hk=>hk))))) _ hs hk zgm
def zqz (l_a0:(Sl Frac)):Frac :=
  (zs8 l_a0 (⟨((l_a0.len:Int) - (1:Int)).toNat,(fun i=>l_a0.get (i+((1:Int).toNat)))⟩:Sl Frac) (0:Int) ((l_a0.get 0).Num) ((l_a0.get 0).Den))
def zHU (l_a0:(Sl Frac)):Bool :=
  (decide ((0≤(0:Int)∧(0:Int) < (l_a0.len:Int))) &&
 (decide ((0≤(1:Int)∧(1:Int)≤(l_a0.len:Int)∧(l_a0.len:Int)≤(l_a0.len:Int))) &&
 (zs9 l_a0 (⟨((l_a0.len:Int) - (1:Int)).toNat,(fun i=>l_a0.get (i+((1:Int).toNat)))⟩:Sl Frac) (0:Int) ((l_a0.get 0).Num) ((l_a0.get 0).Den))))
end
theorem zO7 (l_a0:(Sl Frac)) (K:List PA→Prop) (hs:zHU l_a0=true) (hk:K (zLg (zqz l_a0))):vcFun Try.prog zNI zwq 111 [.one (.sl l_a0.len 2 (fun i=>zac (l_a0.get i))),.one (.fn 112 [] [])] K :=
  zay (by kernel_rfl) (zaw hs fun hc hs=>And.intro hc (zaw hs fun hc hs=>And.intro hc (zBp hs hk rfl)))
abbrev zJc:Ctrs:=csm zLZ (fun _ _=>[]) (fun _=>false)
def zqA:Ann:=⟨25,[(0,zK [0,1,4] [4]),(1,zK [0,1,4,5] [4,5]),(2,zK [1,4,5,12,13,14] [4,5]),(3,zK [1,4,5,12,13,14,15] [4,5]),(4,zK [1,4,5,7,12,13,14] [4,5,7]),(5,zK [1,4,5,7,12,13,14,21] [4,5,7]),(6,zK [1,4,5,12,13,14] [4,5]),(7,zK [1,4,5,12,13,14] [4,5]),(8,zK [4] [4])],
 [(3,zK [1,4,5,12,13,14] [4,5])],
 [(6,zK [1,4,5,7,12,13,14,21] [4,5,7])],
 [],[]⟩
abbrev zL0:=Frac
abbrev zBq (r:zL0):List PA:=[.agg [.int .i64 r.Num,.int .i64 r.Den]]
@[irreducible] def z111a:=ptF Try.prog zJc zqA Try.f111
def zta (l_a0:(Sl Frac)) (zaL:(Sl Frac)) (zah:Int) (zaq:Int) (zar:Int) (zcq:Nat→List PV):St:=⟨[(1,zP (.fn 113 [] [])),(4,zp 4 0),(5,zp 5 0),(12,zP (.sl zaL.len 2 zcq)),(13,zI (((l_a0.len:Int) - (1:Int)).toNat:Int)),(14,zI zah)],[(4,.box 25 (zm (zac (⟨(0:Int),(0:Int)⟩:Frac)))),(5,.box 25 (zm (zac (⟨zaq,zar⟩:Frac))))],[]⟩
abbrev zqB (K:List PA→Prop) (l_a0:(Sl Frac)) (X:St→Prop) (P:(Sl Frac)→Int→Int→Int→Bool) (S:(Sl Frac)→Int→Int→Int→Frac):Prop:=∀ ⦃zaL:(Sl Frac)⦄ ⦃zah:Int⦄ ⦃zaq:Int⦄ ⦃zar:Int⦄ ⦃zcq:Nat→List PV⦄,P zaL zah zaq zar=true→K (zBq (S zaL zah zaq zar))→zcq=zg zac zaL→X (zta l_a0 zaL zah zaq zar zcq)
section
variable {K:List PA→Prop} {l_a0:(Sl Frac)} {zaL:(Sl Frac)} {zah:Int} {zaq:Int} {zar:Int} {zcq:Nat→List PV} {X0:St→Prop} {P0:(Sl Frac)→Int→Int→Int→Bool} {S0:(Sl Frac)→Int→Int→Int→Frac} {zd4:(Sl Frac)} {zaW:Int} {zgj:Bool} {zcC:Int} {zcD:Int} {zgk:Int} {zgl:Int} {zjR:Nat→List PV}
def zjS (S0:(Sl Frac)→Int→Int→Int→Frac) (l_a0:(Sl Frac)) (zd4:(Sl Frac)) (zaW:Int) (zgj:Bool) (zcC:Int) (zcD:Int) (zgk:Int) (zgl:Int):Frac :=
  (cond zgj
 (S0 zd4 (w64 (zaW+(1:Int))) zgk zgl)
 (S0 zd4 (w64 (zaW+(1:Int))) zcC zcD))
def zjT (P0:(Sl Frac)→Int→Int→Int→Bool) (l_a0:(Sl Frac)) (zd4:(Sl Frac)) (zaW:Int) (zgj:Bool) (zcC:Int) (zcD:Int) (zgk:Int) (zgl:Int):Bool :=
  (cond zgj
 (P0 zd4 (w64 (zaW+(1:Int))) zgk zgl)
 (P0 zd4 (w64 (zaW+(1:Int))) zcC zcD))
theorem zwu (hX0:zqB K l_a0 X0 P0 S0) (hs:zjT P0 l_a0 zd4 zaW zgj zcC zcD zgk zgl=true) (hk:K (zBq (zjS S0 l_a0 zd4 zaW zgj zcC zcD zgk zgl))) (zqy:zjR=zg zac zd4):z111a K [1,1,0,1,0,0,1,1,0,0,1,1] [X0] ⟨[(1,zP (.fn 113 [] [])),(4,zp 4 0),(5,zp 5 0),(7,zp 7 0),(12,zP (.sl zd4.len 2 zjR)),(13,zI (((l_a0.len:Int) - (1:Int)).toNat:Int)),(14,zI zaW),(21,zB zgj)],[(4,.box 25 (zm (zac (⟨(0:Int),(0:Int)⟩:Frac)))),(5,.box 25 (zm (zac (⟨zcC,zcD⟩:Frac)))),(7,.box 25 (zm (zac (⟨zgk,zgl⟩:Frac))))],[]⟩:=by subst zqy;exact zay (by kernel_rfl) (zc hs hk (fun hs hk=>(hX0 hs hk rfl)) (fun hs hk=>(hX0 hs hk rfl)))
def zeq (l_a0:(Sl Frac)) (S0:(Sl Frac)→Int→Int→Int→Frac) (zaL:(Sl Frac)) (zah:Int) (zaq:Int) (zar:Int):Frac :=
  (cond (decide (zah < (((l_a0.len : Int) - (1:Int)).toNat : Int)))
 (zjS S0 l_a0 zaL zah (zBn (zaL.get zah.toNat) (⟨zaq,zar⟩:Frac)) zaq zar ((zaL.get zah.toNat).Num) ((zaL.get zah.toNat).Den))
 (⟨zaq,zar⟩:Frac))
def zer (l_a0:(Sl Frac)) (P0:(Sl Frac)→Int→Int→Int→Bool) (zaL:(Sl Frac)) (zah:Int) (zaq:Int) (zar:Int):Bool :=
  (cond (decide (zah < (((l_a0.len : Int) - (1:Int)).toNat : Int)))
 (decide ((0≤zah∧zah < (zaL.len:Int))) &&
 (zjT P0 l_a0 zaL zah (zBn (zaL.get zah.toNat) (⟨zaq,zar⟩:Frac)) zaq zar ((zaL.get zah.toNat).Num) ((zaL.get zah.toNat).Den)))
 true)
def zes (l_a0:(Sl Frac)):Nat→(Sl Frac)→Int→Int→Int→Frac:=lpO (fun _ _ _ _=>default) (zeq l_a0)
def zet (l_a0:(Sl Frac)):Nat→(Sl Frac)→Int→Int→Int→Bool:=lpO (fun _ _ _ _=>false) (zer l_a0)
def zpf (l_a0:(Sl Frac)) (zaL:(Sl Frac)) (zah:Int) (zaq:Int) (zar:Int):Frac:=zes l_a0 Fuel zaL zah zaq zar
def zpg (l_a0:(Sl Frac)) (zaL:(Sl Frac)) (zah:Int) (zaq:Int) (zar:Int):Bool:=zet l_a0 Fuel zaL zah zaq zar
theorem zwv (hs:zpg l_a0 zaL zah zaq zar=true) (hk:K (zBq (zpf l_a0 zaL zah zaq zar))) (zgm:zcq=zg zac zaL):z111a K [1,1,0,1,0] [] (zta l_a0 zaL zah zaq zar zcq) :=
  zl (fun X=>z111a K [1,1,0,1,0,0] [X]) (by kernel_rfl) fun X0 hX =>
  (show ∀ k, zqB K l_a0 X0 (zet l_a0 k) (zes l_a0 k) from zgX _ _ (zer l_a0) (zeq l_a0) (zqB K l_a0 X0)
 (by intro _ _ _ _ _ hs;exact absurd hs Bool.false_ne_true)
 (by intro P0 S0 hX0 zaL zah zaq zar zcq hs hk zgm;subst zgm;exact hX _ (zay (by kernel_rfl) (zc hs hk (fun hs hk=>(zaw hs fun hc hs=>And.intro hc (zwu hX0 hs hk rfl))) (fun hs hk=>hk))))) _ hs hk zgm
def s111a (l_a0:(Sl Frac)):Frac :=
  (zpf l_a0 (⟨((l_a0.len:Int) - (1:Int)).toNat,(fun i=>l_a0.get (i+((1:Int).toNat)))⟩:Sl Frac) (0:Int) ((l_a0.get 0).Num) ((l_a0.get 0).Den))
def zux (l_a0:(Sl Frac)):Bool :=
  (decide ((0≤(0:Int)∧(0:Int) < (l_a0.len:Int))) &&
 (decide ((0≤(1:Int)∧(1:Int)≤(l_a0.len:Int)∧(l_a0.len:Int)≤(l_a0.len:Int))) &&
 (zpg l_a0 (⟨((l_a0.len:Int) - (1:Int)).toNat,(fun i=>l_a0.get (i+((1:Int).toNat)))⟩:Sl Frac) (0:Int) ((l_a0.get 0).Num) ((l_a0.get 0).Den))))
end
theorem zL1 (l_a0:(Sl Frac)) (K:List PA→Prop) (hs:zux l_a0=true) (hk:K (zBq (s111a l_a0))):vcFun Try.prog zJc zqA 111 [.one (.sl l_a0.len 2 (fun i=>zac (l_a0.get i))),.one (.fn 113 [] [])] K :=
  zay (by kernel_rfl) (zaw hs fun hc hs=>And.intro hc (zaw hs fun hc hs=>And.intro hc (zwv hs hk rfl)))
def zww : List PA → COut
  | [.one (.sl a0_n a0_s a0_g),.one (.fn 112 [] [])]=>.det (IsE zac 2 a0_s a0_g∧zHU (⟨a0_n,zgh a0_g⟩:(Sl Frac))=true) [.agg [.int .i64 ((zqz (⟨a0_n,zgh a0_g⟩:(Sl Frac))).Num),.int .i64 ((zqz (⟨a0_n,zgh a0_g⟩:(Sl Frac))).Den)]]
  | [.one (.sl a0_n a0_s a0_g),.one (.fn 113 [] [])]=>.det (IsE zac 2 a0_s a0_g∧zux (⟨a0_n,zgh a0_g⟩:(Sl Frac))=true) [.agg [.int .i64 ((s111a (⟨a0_n,zgh a0_g⟩:(Sl Frac))).Num),.int .i64 ((s111a (⟨a0_n,zgh a0_g⟩:(Sl Frac))).Den)]]
  | _=>.no
theorem zEy:zai Try.prog 111:=⟨_,rfl,rfl,by kernel_rfl⟩
theorem zL2:Ok Try.prog 111 zww:=zaN zJb zEy fun args K h=>by
  unfold zww at h
  split at h
  · rename_i a0_n a0_s a0_g
    obtain ⟨⟨⟨rfl,a0_f,rfl⟩,hs⟩,hk⟩:=h
    try rw [zeM a0_f] at hs
    try rw [zeM a0_f] at hk
    exact ⟨(fun _ _=>[]),(fun _=>false),zwq,zO7 (⟨a0_n,a0_f⟩:(Sl Frac)) K hs hk⟩
  · rename_i a0_n a0_s a0_g
    obtain ⟨⟨⟨rfl,a0_f,rfl⟩,hs⟩,hk⟩:=h
    try rw [zeM a0_f] at hs
    try rw [zeM a0_f] at hk
    exact ⟨(fun _ _=>[]),(fun _=>false),zqA,zL1 (⟨a0_n,a0_f⟩:(Sl Frac)) K hs hk⟩
  · exact h.elim
abbrev T82:Tabs:=((((Tabs.nil.addF 83 zEp).addF 89 zqw).addF 101 zwl).addF 111 zww)
theorem zL3:TabsOk Try.prog T82:=((((TabsOk.nil.addF zOI).addF zLe).addF zLT).addF zL2)
abbrev G82:Ctrs:=csm T82 (fun _ _=>[]) (fun _=>false)
def zEz:Ann:=⟨39,[(0,zK [1,2,4,5] [2,4,5]),(1,zK [1,2,4,5,6] [2,4,5]),(2,zK [1,4,5,6,12,13,14] [4,5]),(3,zK [1,4,5,6,12,13,14,15] [4,5,23]),(4,zK [1,4,5,6,8,12,13,14] [4,5,8,23]),(5,zK [1,4,5,6,12,13,14] [4,5,23]),(6,zK [1,4,5,6,12,13,14] [4,5,23]),(7,zK [4,5,6,9] [4,5,9,23]),(8,zK [4,5,9,10] [4,5,9,10]),(9,zK [4,5] [4,5])],
 [(3,⟨[1,4,5,6,12,13,14],[4,5,23],[(6,23,25,fun _=>zac default)],[],[],[],[]⟩)],
 [(7,zK [4,5,6] [4,5,23]),(8,zK [4,5,6,9] [4,5,9,23]),(9,zK [4,5,9,10] [4,5,9,10])],
 [],[]⟩
abbrev R82:=(Frac×Frac)
abbrev e82 (r:R82):List PA:=[.agg [.int .i64 r.1.Num,.int .i64 r.1.Den],.agg [.int .i64 r.2.Num,.int .i64 r.2.Den]]
@[irreducible] def z82:=ptF Try.prog G82 zEz Try.f82
def zCT (c0:Int) (s:set) (zah:Int) (za9:(Sl Frac)) (zcr:Nat→List PV):St:=⟨[(1,zP (.fn 101 [] [.fp (zaj c0) 0])),(4,zp 4 0),(5,zp 5 0),(6,zv 23),(12,zS zaf 3 s.corners),(13,zI (s.corners.len:Int)),(14,zI zah)],[(4,.box 25 (zm (zac (⟨(0:Int),(0:Int)⟩:Frac)))),(5,.box 25 (zm (zac (⟨(0:Int),(0:Int)⟩:Frac)))),(23,.vec 25 2 16 za9.len zcr)],[]⟩
abbrev zJd (K:List PA→Prop) (c0:Int) (s:set) (X:St→Prop) (P:Int→(Sl Frac)→Bool) (S:Int→(Sl Frac)→(Frac×Frac)):Prop:=∀ ⦃zah:Int⦄ ⦃za9:(Sl Frac)⦄ ⦃zcr:Nat→List PV⦄,P zah za9=true→K (e82 (S zah za9))→zcr=zg zac za9→X (zCT c0 s zah za9 zcr)
section
variable {K:List PA→Prop} {c0:Int} {s:set} {zah:Int} {za9:(Sl Frac)} {zcr:Nat→List PV} {X0:St→Prop} {P0:Int→(Sl Frac)→Bool} {S0:Int→(Sl Frac)→(Frac×Frac)} {zcQ:(Sl Frac)} {zjU:Nat→List PV} {zba:Int} {zbb:Int} {zdk:(Sl Frac)} {zjV:Nat→List PV} {zb6:Int} {zb7:Int}
def zqC (zba:Int) (zbb:Int) (zb6:Int) (zb7:Int):(Frac×Frac) :=
  ((s89 zba zbb),(s89 zb6 zb7))
def zqD (zba:Int) (zbb:Int) (zb6:Int) (zb7:Int):Bool :=
  (decide ((p89 zba zbb=true)) &&
 (decide ((p89 zb6 zb7=true)) &&
 true))
theorem zEA (hs:zqD zba zbb zb6 zb7=true) (hk:K (e82 (zqC zba zbb zb6 zb7))):z82 K [1,1,1,1,1] [] ⟨[(4,zp 4 0),(5,zp 5 0),(9,zp 9 0),(10,zp 10 0)],[(4,.box 25 (zm (zac (⟨(0:Int),(0:Int)⟩:Frac)))),(5,.box 25 (zm (zac (⟨(0:Int),(0:Int)⟩:Frac)))),(9,.box 25 (zm (zac (⟨zba,zbb⟩:Frac)))),(10,.box 25 (zm (zac (⟨zb6,zb7⟩:Frac))))],[]⟩:=zay (by kernel_rfl) (zaw hs fun hc hs=>And.intro hc (zaw hs fun hc hs=>And.intro hc hk))
def zqE (zba:Int) (zbb:Int) (zdk:(Sl Frac)):(Frac×Frac) :=
  (zqC zba zbb ((s111a zdk).Num) ((s111a zdk).Den))
def zqF (zba:Int) (zbb:Int) (zdk:(Sl Frac)):Bool :=
  (decide ((zux zdk=true)) &&
 (zqD zba zbb ((s111a zdk).Num) ((s111a zdk).Den)))
theorem zEB (hs:zqF zba zbb zdk=true) (hk:K (e82 (zqE zba zbb zdk))) (zqG:zjV=zg zac zdk):z82 K [1,1,1,1] [] ⟨[(4,zp 4 0),(5,zp 5 0),(6,zv 23),(9,zp 9 0)],[(4,.box 25 (zm (zac (⟨(0:Int),(0:Int)⟩:Frac)))),(5,.box 25 (zm (zac (⟨(0:Int),(0:Int)⟩:Frac)))),(9,.box 25 (zm (zac (⟨zba,zbb⟩:Frac)))),(23,.vec 25 2 16 zdk.len zjV)],[]⟩:=by subst zqG;exact zay (by kernel_rfl) (zaw hs fun hc hs=>And.intro (And.intro (zE zac 2 zdk.get) hc) (zEA hs hk))
def zeO (zcQ:(Sl Frac)):(Frac×Frac) :=
  (zqE ((zqz zcQ).Num) ((zqz zcQ).Den) zcQ)
def zna (zcQ:(Sl Frac)):Bool :=
  (decide ((zHU zcQ=true)) &&
 (zqF ((zqz zcQ).Num) ((zqz zcQ).Den) zcQ))
theorem zEC (hs:zna zcQ=true) (hk:K (e82 (zeO zcQ))) (zqH:zjU=zg zac zcQ):z82 K [1,1,1] [] ⟨[(4,zp 4 0),(5,zp 5 0),(6,zv 23)],[(4,.box 25 (zm (zac (⟨(0:Int),(0:Int)⟩:Frac)))),(5,.box 25 (zm (zac (⟨(0:Int),(0:Int)⟩:Frac)))),(23,.vec 25 2 16 zcQ.len zjU)],[]⟩:=by subst zqH;exact zay (by kernel_rfl) (zaw hs fun hc hs=>And.intro (And.intro (zE zac 2 zcQ.get) hc) (zEB hs hk rfl))
def zhC (c0:Int) (s:set) (S0:Int→(Sl Frac)→(Frac×Frac)) (zah:Int) (za9:(Sl Frac)):(Frac×Frac) :=
  (cond (decide (zah < (s.corners.len : Int)))
 (S0 (w64 (zah+(1:Int))) (⟨(za9.len+1),(zdv za9.len za9.get (fun _=>(zwk c0 (s.corners.get zah.toNat))))⟩:Sl Frac))
 (zeO za9))
def zhD (c0:Int) (s:set) (P0:Int→(Sl Frac)→Bool) (zah:Int) (za9:(Sl Frac)):Bool :=
  (cond (decide (zah < (s.corners.len : Int)))
 (decide ((0≤zah∧zah < (s.corners.len:Int))) &&
 (decide (((za9.len+1) * 16≤140737488355328∧za9.len+1≤9223372036854775807)) &&
 (P0 (w64 (zah+(1:Int))) (⟨(za9.len+1),(zdv za9.len za9.get (fun _=>(zwk c0 (s.corners.get zah.toNat))))⟩:Sl Frac))))
 (zna za9))
def zhE (c0:Int) (s:set):Nat→Int→(Sl Frac)→(Frac×Frac):=lpO (fun _ _=>default) (zhC c0 s)
def zhF (c0:Int) (s:set):Nat→Int→(Sl Frac)→Bool:=lpO (fun _ _=>false) (zhD c0 s)
def zwx (c0:Int) (s:set) (zah:Int) (za9:(Sl Frac)):(Frac×Frac):=zhE c0 s Fuel zah za9
def zwy (c0:Int) (s:set) (zah:Int) (za9:(Sl Frac)):Bool:=zhF c0 s Fuel zah za9
theorem zED (hs:zwy c0 s zah za9=true) (hk:K (e82 (zwx c0 s zah za9))) (zgn:zcr=zg zac za9):z82 K [1,1,0,1,0] [] (zCT c0 s zah za9 zcr) :=
  zl (fun X=>z82 K [1,1,0,1,0,0] [X]) (by kernel_rfl) fun X0 hX =>
  (show ∀ k, zJd K c0 s X0 (zhF c0 s k) (zhE c0 s k) from zgX _ _ (zhD c0 s) (zhC c0 s) (zJd K c0 s X0)
 (by intro _ _ _ hs;exact absurd hs Bool.false_ne_true)
 (by intro P0 S0 hX0 zah za9 zcr hs hk zgn;subst zgn;exact hX _ (zay (by kernel_rfl) (zc hs hk (fun hs hk=>(zaw hs fun hc hs=>And.intro hc (zaw hs fun hc hs=>And.intro hc (hX0 hs hk (zjJ (enc:=zac) (f:=za9.get) (h:=(fun _=>(zwk c0 (s.corners.get zah.toNat)))) rfl rfl))))) (fun hs hk=>(zEC hs hk rfl)))))) _ hs hk zgn
def s82 (c0:Int) (s:set):(Frac×Frac) :=
  (zwx c0 s (0:Int) (⟨0,(fun _=>default)⟩:Sl Frac))
def p82 (c0:Int) (s:set):Bool :=
  (zwy c0 s (0:Int) (⟨0,(fun _=>default)⟩:Sl Frac))
end
theorem q82 (c0:Int) (s:set) (K:List PA→Prop) (hs:p82 c0 s=true) (hk:K (e82 (s82 c0 s))):vcFun Try.prog G82 zEz 82 [.agg (za3 s),.one (.fn 101 [] [.fp (zaj c0) 0])] K :=
  zay (by kernel_rfl) (zED hs hk rfl)
abbrev zNJ:Ctrs:=csm T82 (fun _ _=>[]) (fun _=>false)
def zwz:Ann:=⟨39,[(0,zK [1,2,4,5] [2,4,5]),(1,zK [1,2,4,5,6] [2,4,5]),(2,zK [1,4,5,6,12,13,14] [4,5]),(3,zK [1,4,5,6,12,13,14,15] [4,5,23]),(4,zK [1,4,5,6,8,12,13,14] [4,5,8,23]),(5,zK [1,4,5,6,12,13,14] [4,5,23]),(6,zK [1,4,5,6,12,13,14] [4,5,23]),(7,zK [4,5,6,9] [4,5,9,23]),(8,zK [4,5,9,10] [4,5,9,10]),(9,zK [4,5] [4,5])],
 [(3,⟨[1,4,5,6,12,13,14],[4,5,23],[(6,23,25,fun _=>zac default)],[],[],[],[]⟩)],
 [(7,zK [4,5,6] [4,5,23]),(8,zK [4,5,6,9] [4,5,9,23]),(9,zK [4,5,9,10] [4,5,9,10])],
 [],[]⟩
abbrev zO8:=(Frac×Frac)
abbrev zHV (r:zO8):List PA:=[.agg [.int .i64 r.1.Num,.int .i64 r.1.Den],.agg [.int .i64 r.2.Num,.int .i64 r.2.Den]]
@[irreducible] def z82a:=ptF Try.prog zNJ zwz Try.f82
def zwA (s:set) (zah:Int) (za9:(Sl Frac)) (zcr:Nat→List PV):St:=⟨[(1,zP (.fn 83 [] [])),(4,zp 4 0),(5,zp 5 0),(6,zv 23),(12,zS zaf 3 s.corners),(13,zI (s.corners.len:Int)),(14,zI zah)],[(4,.box 25 (zm (zac (⟨(0:Int),(0:Int)⟩:Frac)))),(5,.box 25 (zm (zac (⟨(0:Int),(0:Int)⟩:Frac)))),(23,.vec 25 2 16 za9.len zcr)],[]⟩
abbrev zCU (K:List PA→Prop) (s:set) (X:St→Prop) (P:Int→(Sl Frac)→Bool) (S:Int→(Sl Frac)→(Frac×Frac)):Prop:=∀ ⦃zah:Int⦄ ⦃za9:(Sl Frac)⦄ ⦃zcr:Nat→List PV⦄,P zah za9=true→K (zHV (S zah za9))→zcr=zg zac za9→X (zwA s zah za9 zcr)
section
variable {K:List PA→Prop} {s:set} {zah:Int} {za9:(Sl Frac)} {zcr:Nat→List PV} {X0:St→Prop} {P0:Int→(Sl Frac)→Bool} {S0:Int→(Sl Frac)→(Frac×Frac)} {zcQ:(Sl Frac)} {zjU:Nat→List PV} {zba:Int} {zbb:Int} {zdk:(Sl Frac)} {zjV:Nat→List PV} {zb6:Int} {zb7:Int}
def ztb (zba:Int) (zbb:Int) (zb6:Int) (zb7:Int):(Frac×Frac) :=
  ((s89 zba zbb),(s89 zb6 zb7))
def ztc (zba:Int) (zbb:Int) (zb6:Int) (zb7:Int):Bool :=
  (decide ((p89 zba zbb=true)) &&
 (decide ((p89 zb6 zb7=true)) &&
 true))
theorem zBr (hs:ztc zba zbb zb6 zb7=true) (hk:K (zHV (ztb zba zbb zb6 zb7))):z82a K [1,1,1,1,1] [] ⟨[(4,zp 4 0),(5,zp 5 0),(9,zp 9 0),(10,zp 10 0)],[(4,.box 25 (zm (zac (⟨(0:Int),(0:Int)⟩:Frac)))),(5,.box 25 (zm (zac (⟨(0:Int),(0:Int)⟩:Frac)))),(9,.box 25 (zm (zac (⟨zba,zbb⟩:Frac)))),(10,.box 25 (zm (zac (⟨zb6,zb7⟩:Frac))))],[]⟩:=zay (by kernel_rfl) (zaw hs fun hc hs=>And.intro hc (zaw hs fun hc hs=>And.intro hc hk))
def ztd (zba:Int) (zbb:Int) (zdk:(Sl Frac)):(Frac×Frac) :=
  (ztb zba zbb ((s111a zdk).Num) ((s111a zdk).Den))
def zte (zba:Int) (zbb:Int) (zdk:(Sl Frac)):Bool :=
  (decide ((zux zdk=true)) &&
 (ztc zba zbb ((s111a zdk).Num) ((s111a zdk).Den)))
theorem zBs (hs:zte zba zbb zdk=true) (hk:K (zHV (ztd zba zbb zdk))) (zqG:zjV=zg zac zdk):z82a K [1,1,1,1] [] ⟨[(4,zp 4 0),(5,zp 5 0),(6,zv 23),(9,zp 9 0)],[(4,.box 25 (zm (zac (⟨(0:Int),(0:Int)⟩:Frac)))),(5,.box 25 (zm (zac (⟨(0:Int),(0:Int)⟩:Frac)))),(9,.box 25 (zm (zac (⟨zba,zbb⟩:Frac)))),(23,.vec 25 2 16 zdk.len zjV)],[]⟩:=by subst zqG;exact zay (by kernel_rfl) (zaw hs fun hc hs=>And.intro (And.intro (zE zac 2 zdk.get) hc) (zBr hs hk))
def ztf (zcQ:(Sl Frac)):(Frac×Frac) :=
  (ztd ((zqz zcQ).Num) ((zqz zcQ).Den) zcQ)
def ztg (zcQ:(Sl Frac)):Bool :=
  (decide ((zHU zcQ=true)) &&
 (zte ((zqz zcQ).Num) ((zqz zcQ).Den) zcQ))
theorem zBt (hs:ztg zcQ=true) (hk:K (zHV (ztf zcQ))) (zqH:zjU=zg zac zcQ):z82a K [1,1,1] [] ⟨[(4,zp 4 0),(5,zp 5 0),(6,zv 23)],[(4,.box 25 (zm (zac (⟨(0:Int),(0:Int)⟩:Frac)))),(5,.box 25 (zm (zac (⟨(0:Int),(0:Int)⟩:Frac)))),(23,.vec 25 2 16 zcQ.len zjU)],[]⟩:=by subst zqH;exact zay (by kernel_rfl) (zaw hs fun hc hs=>And.intro (And.intro (zE zac 2 zcQ.get) hc) (zBs hs hk rfl))
def zfO (s:set) (S0:Int→(Sl Frac)→(Frac×Frac)) (zah:Int) (za9:(Sl Frac)):(Frac×Frac) :=
  (cond (decide (zah < (s.corners.len : Int)))
 (S0 (w64 (zah+(1:Int))) (⟨(za9.len+1),(zdv za9.len za9.get (fun _=>(s83 (s.corners.get zah.toNat))))⟩:Sl Frac))
 (ztf za9))
def zfP (s:set) (P0:Int→(Sl Frac)→Bool) (zah:Int) (za9:(Sl Frac)):Bool :=
  (cond (decide (zah < (s.corners.len : Int)))
 (decide ((0≤zah∧zah < (s.corners.len:Int))) &&
 (decide (((za9.len+1) * 16≤140737488355328∧za9.len+1≤9223372036854775807)) &&
 (P0 (w64 (zah+(1:Int))) (⟨(za9.len+1),(zdv za9.len za9.get (fun _=>(s83 (s.corners.get zah.toNat))))⟩:Sl Frac))))
 (ztg za9))
def zfQ (s:set):Nat→Int→(Sl Frac)→(Frac×Frac):=lpO (fun _ _=>default) (zfO s)
def zfR (s:set):Nat→Int→(Sl Frac)→Bool:=lpO (fun _ _=>false) (zfP s)
def zth (s:set) (zah:Int) (za9:(Sl Frac)):(Frac×Frac):=zfQ s Fuel zah za9
def zti (s:set) (zah:Int) (za9:(Sl Frac)):Bool:=zfR s Fuel zah za9
theorem zBu (hs:zti s zah za9=true) (hk:K (zHV (zth s zah za9))) (zgn:zcr=zg zac za9):z82a K [1,1,0,1,0] [] (zwA s zah za9 zcr) :=
  zl (fun X=>z82a K [1,1,0,1,0,0] [X]) (by kernel_rfl) fun X0 hX =>
  (show ∀ k, zCU K s X0 (zfR s k) (zfQ s k) from zgX _ _ (zfP s) (zfO s) (zCU K s X0)
 (by intro _ _ _ hs;exact absurd hs Bool.false_ne_true)
 (by intro P0 S0 hX0 zah za9 zcr hs hk zgn;subst zgn;exact hX _ (zay (by kernel_rfl) (zc hs hk (fun hs hk=>(zaw hs fun hc hs=>And.intro hc (zaw hs fun hc hs=>And.intro hc (hX0 hs hk (zjJ (enc:=zac) (f:=za9.get) (h:=(fun _=>(s83 (s.corners.get zah.toNat)))) rfl rfl))))) (fun hs hk=>(zBt hs hk rfl)))))) _ hs hk zgn
def zuy (s:set):(Frac×Frac) :=
  (zth s (0:Int) (⟨0,(fun _=>default)⟩:Sl Frac))
def zHW (s:set):Bool :=
  (zti s (0:Int) (⟨0,(fun _=>default)⟩:Sl Frac))
end
theorem zO9 (s:set) (K:List PA→Prop) (hs:zHW s=true) (hk:K (zHV (zuy s))):vcFun Try.prog zNJ zwz 82 [.agg (za3 s),.one (.fn 83 [] [])] K :=
  zay (by kernel_rfl) (zBu hs hk rfl)
def zBv : List PA → COut
  | [.agg [.sl a0_list_Gates_n a0_list_Gates_s a0_list_Gates_g,.sl a0_corners_n a0_corners_s a0_corners_g],.one (.fn 101 [] [.fp [.int .i64 c0] 0])]=>.det (IsE enc_55 3 a0_list_Gates_s a0_list_Gates_g∧IsE zaf 3 a0_corners_s a0_corners_g∧p82 c0 (⟨(⟨(⟨a0_list_Gates_n,zad a0_list_Gates_g⟩:(Sl Gate))⟩:list),(⟨a0_corners_n,zaX a0_corners_g⟩:(Sl straight))⟩:set)=true) [.agg [.int .i64 (((s82 c0 (⟨(⟨(⟨a0_list_Gates_n,zad a0_list_Gates_g⟩:(Sl Gate))⟩:list),(⟨a0_corners_n,zaX a0_corners_g⟩:(Sl straight))⟩:set)).1).Num),.int .i64 (((s82 c0 (⟨(⟨(⟨a0_list_Gates_n,zad a0_list_Gates_g⟩:(Sl Gate))⟩:list),(⟨a0_corners_n,zaX a0_corners_g⟩:(Sl straight))⟩:set)).1).Den)],.agg [.int .i64 (((s82 c0 (⟨(⟨(⟨a0_list_Gates_n,zad a0_list_Gates_g⟩:(Sl Gate))⟩:list),(⟨a0_corners_n,zaX a0_corners_g⟩:(Sl straight))⟩:set)).2).Num),.int .i64 (((s82 c0 (⟨(⟨(⟨a0_list_Gates_n,zad a0_list_Gates_g⟩:(Sl Gate))⟩:list),(⟨a0_corners_n,zaX a0_corners_g⟩:(Sl straight))⟩:set)).2).Den)]]
  | [.agg [.sl a0_list_Gates_n a0_list_Gates_s a0_list_Gates_g,.sl a0_corners_n a0_corners_s a0_corners_g],.one (.fn 83 [] [])]=>.det (IsE enc_55 3 a0_list_Gates_s a0_list_Gates_g∧IsE zaf 3 a0_corners_s a0_corners_g∧zHW (⟨(⟨(⟨a0_list_Gates_n,zad a0_list_Gates_g⟩:(Sl Gate))⟩:list),(⟨a0_corners_n,zaX a0_corners_g⟩:(Sl straight))⟩:set)=true) [.agg [.int .i64 (((zuy (⟨(⟨(⟨a0_list_Gates_n,zad a0_list_Gates_g⟩:(Sl Gate))⟩:list),(⟨a0_corners_n,zaX a0_corners_g⟩:(Sl straight))⟩:set)).1).Num),.int .i64 (((zuy (⟨(⟨(⟨a0_list_Gates_n,zad a0_list_Gates_g⟩:(Sl Gate))⟩:list),(⟨a0_corners_n,zaX a0_corners_g⟩:(Sl straight))⟩:set)).1).Den)],.agg [.int .i64 (((zuy (⟨(⟨(⟨a0_list_Gates_n,zad a0_list_Gates_g⟩:(Sl Gate))⟩:list),(⟨a0_corners_n,zaX a0_corners_g⟩:(Sl straight))⟩:set)).2).Num),.int .i64 (((zuy (⟨(⟨(⟨a0_list_Gates_n,zad a0_list_Gates_g⟩:(Sl Gate))⟩:list),(⟨a0_corners_n,zaX a0_corners_g⟩:(Sl straight))⟩:set)).2).Den)]]
  | _=>.no
theorem zJe:zai Try.prog 82:=⟨_,rfl,rfl,by kernel_rfl⟩
theorem zNK:Ok Try.prog 82 zBv:=zaN zL3 zJe fun args K h=>by
  unfold zBv at h
  split at h
  · rename_i a0_list_Gates_n a0_list_Gates_s a0_list_Gates_g a0_corners_n a0_corners_s a0_corners_g c0
    obtain ⟨⟨⟨rfl,a0_list_Gates_f,rfl⟩,⟨rfl,a0_corners_f,rfl⟩,hs⟩,hk⟩:=h
    try rw [zae a0_list_Gates_f] at hs
    try rw [zae a0_list_Gates_f] at hk
    try rw [zaQ a0_corners_f] at hs
    try rw [zaQ a0_corners_f] at hk
    exact ⟨(fun _ _=>[]),(fun _=>false),zEz,q82 c0 (⟨(⟨(⟨a0_list_Gates_n,a0_list_Gates_f⟩:(Sl Gate))⟩:list),(⟨a0_corners_n,a0_corners_f⟩:(Sl straight))⟩:set) K hs hk⟩
  · rename_i a0_list_Gates_n a0_list_Gates_s a0_list_Gates_g a0_corners_n a0_corners_s a0_corners_g
    obtain ⟨⟨⟨rfl,a0_list_Gates_f,rfl⟩,⟨rfl,a0_corners_f,rfl⟩,hs⟩,hk⟩:=h
    try rw [zae a0_list_Gates_f] at hs
    try rw [zae a0_list_Gates_f] at hk
    try rw [zaQ a0_corners_f] at hs
    try rw [zaQ a0_corners_f] at hk
    exact ⟨(fun _ _=>[]),(fun _=>false),zwz,zO9 (⟨(⟨(⟨a0_list_Gates_n,a0_list_Gates_f⟩:(Sl Gate))⟩:list),(⟨a0_corners_n,a0_corners_f⟩:(Sl straight))⟩:set) K hs hk⟩
  · exact h.elim
abbrev T68:Tabs:=((((Tabs.nil.addF 67 zpe).addF 82 zBv).addF 89 zqw).addF 98 zBl)
theorem zL4:TabsOk Try.prog T68:=((((TabsOk.nil.addF zIU).addF zNK).addF zLe).addF zNB)
abbrev G68:Ctrs:=csm T68 (fun _ _=>[]) (fun _=>false)
def zJf:Ann:=⟨24,[(0,zK [2,3,4,5] [2,3,4,5]),(1,zK [2,3,4,5,9] [2,3,4,5]),(2,zK [4,5,6] [4,5,6]),(3,zK [4,5] [4,5]),(4,zK [4,5] [4,5])],
 [],
 [],
 [],[]⟩
abbrev R68:=(Frac×Frac)
abbrev e68 (r:R68):List PA:=[.agg [.int .i64 r.1.Num,.int .i64 r.1.Den],.agg [.int .i64 r.2.Num,.int .i64 r.2.Den]]
section
variable {K:List PA→Prop} {s:set} {z:Int}
def s68 (s:set) (z:Int):(Frac×Frac) :=
  (cond (s67 s.list)
 ((s89 ((s98 s.list).Low) (1:Int)),(s89 ((s98 s.list).High) (1:Int)))
 (((s82 z s).1),((s82 z s).2)))
def p68 (s:set) (z:Int):Bool :=
  (decide ((p67 s.list=true)) &&
 (cond (s67 s.list)
 (decide ((p98 s.list=true)) &&
 (decide ((p89 ((s98 s.list).Low) (1:Int)=true)) &&
 (decide ((p89 ((s98 s.list).High) (1:Int)=true)) &&
 true)))
 (decide ((p82 z s=true)) &&
 true)))
end
theorem q68 (s:set) (z:Int) (K:List PA→Prop) (hs:p68 s z=true) (hk:K (e68 (s68 s z))):vcFun Try.prog G68 zJf 68 [.agg (za3 s),.one (.int .i64 z)] K :=
  zay (by kernel_rfl) (zaw hs fun hc hs=>And.intro (And.intro (zE enc_55 3 s.list.Gates.get) hc) (zc hs hk (fun hs hk=>(zaw hs fun hc hs=>And.intro (And.intro (zE enc_55 3 s.list.Gates.get) hc) (zaw hs fun hc hs=>And.intro hc (zaw hs fun hc hs=>And.intro hc hk)))) (fun hs hk=>(zaw hs fun hc hs=>And.intro (And.intro (zE enc_55 3 s.list.Gates.get) (And.intro (zE zaf 3 s.corners.get) hc)) hk))))
def zwB : List PA → COut
  | [.agg [.sl a0_list_Gates_n a0_list_Gates_s a0_list_Gates_g,.sl a0_corners_n a0_corners_s a0_corners_g],.one (.int .i64 a1)]=>.det (IsE enc_55 3 a0_list_Gates_s a0_list_Gates_g∧IsE zaf 3 a0_corners_s a0_corners_g∧p68 (⟨(⟨(⟨a0_list_Gates_n,zad a0_list_Gates_g⟩:(Sl Gate))⟩:list),(⟨a0_corners_n,zaX a0_corners_g⟩:(Sl straight))⟩:set) a1=true) [.agg [.int .i64 (((s68 (⟨(⟨(⟨a0_list_Gates_n,zad a0_list_Gates_g⟩:(Sl Gate))⟩:list),(⟨a0_corners_n,zaX a0_corners_g⟩:(Sl straight))⟩:set) a1).1).Num),.int .i64 (((s68 (⟨(⟨(⟨a0_list_Gates_n,zad a0_list_Gates_g⟩:(Sl Gate))⟩:list),(⟨a0_corners_n,zaX a0_corners_g⟩:(Sl straight))⟩:set) a1).1).Den)],.agg [.int .i64 (((s68 (⟨(⟨(⟨a0_list_Gates_n,zad a0_list_Gates_g⟩:(Sl Gate))⟩:list),(⟨a0_corners_n,zaX a0_corners_g⟩:(Sl straight))⟩:set) a1).2).Num),.int .i64 (((s68 (⟨(⟨(⟨a0_list_Gates_n,zad a0_list_Gates_g⟩:(Sl Gate))⟩:list),(⟨a0_corners_n,zaX a0_corners_g⟩:(Sl straight))⟩:set) a1).2).Den)]]
  | _=>.no
theorem zJg:zai Try.prog 68:=⟨_,rfl,rfl,by kernel_rfl⟩
theorem zNL:Ok Try.prog 68 zwB:=zaN zL4 zJg fun args K h=>by
  unfold zwB at h
  split at h
  · rename_i a0_list_Gates_n a0_list_Gates_s a0_list_Gates_g a0_corners_n a0_corners_s a0_corners_g a1
    obtain ⟨⟨⟨rfl,a0_list_Gates_f,rfl⟩,⟨rfl,a0_corners_f,rfl⟩,hs⟩,hk⟩:=h
    try rw [zae a0_list_Gates_f] at hs
    try rw [zae a0_list_Gates_f] at hk
    try rw [zaQ a0_corners_f] at hs
    try rw [zaQ a0_corners_f] at hk
    exact ⟨(fun _ _=>[]),(fun _=>false),zJf,q68 (⟨(⟨(⟨a0_list_Gates_n,a0_list_Gates_f⟩:(Sl Gate))⟩:list),(⟨a0_corners_n,a0_corners_f⟩:(Sl straight))⟩:set) a1 K hs hk⟩
  · exact h.elim
abbrev T87:Tabs:=(Tabs.nil.addF 74 zqq)
theorem zL5:TabsOk Try.prog T87:=(TabsOk.nil.addF zIG)
abbrev G87:Ctrs:=csm T87 (fun _ _=>[]) (fun _=>false)
def zJh:Ann:=⟨23,[(0,zK [1] [1]),(1,zK [2] [])],
 [],
 [],
 [],[]⟩
abbrev R87:=Bool
abbrev e87 (r:R87):List PA:=[.one (.bool r)]
section
variable {K:List PA→Prop} {g:Gate}
def s87 (g:Gate):Bool :=
  (cond (s74 g.Z (0:Int) (100000:Int))
 (cond (decide (g.Low ≥ (-1000000:Int)))
 (cond (decide (g.Low ≤ g.High))
 (decide (g.High≤(1000000:Int)))
 false)
 false)
 false)
end
theorem q87 (g:Gate) (K:List PA→Prop) (hk:K (e87 (s87 g))):vcFun Try.prog G87 zJh 87 [.agg (enc_55 g)] K :=
  zay (by kernel_rfl) (zt hk (fun hk=>(zt hk (fun hk=>(zt hk (fun hk=>hk) (fun hk=>hk))) (fun hk=>hk))) (fun hk=>hk))
def zBw : List PA → COut
  | [.agg [.int .i64 a0_Z,.int .i64 a0_Low,.int .i64 a0_High]]=>.tot [.one (.bool (s87 (⟨a0_Z,a0_Low,a0_High⟩:Gate)))]
  | _=>.no
theorem zJi:zai Try.prog 87:=⟨_,rfl,rfl,by kernel_rfl⟩
theorem zPa:Ok Try.prog 87 zBw:=zaN zL5 zJi fun args K h=>by
  unfold zBw at h
  split at h
  · rename_i a0_Z a0_Low a0_High
    have hk:=h
    exact ⟨(fun _ _=>[]),(fun _=>false),zJh,q87 (⟨a0_Z,a0_Low,a0_High⟩:Gate) K hk⟩
  · exact h.elim
abbrev T64:Tabs:=((Tabs.nil.addF 74 zqq).addF 87 zBw)
theorem zL6:TabsOk Try.prog T64:=((TabsOk.nil.addF zIG).addF zPa)
abbrev G64:Ctrs:=csm T64 (fun _ _=>[]) (fun _=>false)
def zEE:Ann:=⟨18,[(0,zK [0] []),(1,zK [0,5,6,7] []),(2,zK [0,5,6,7,8] []),(3,zK [0,4,5,6,7] [4]),(4,zK [0,5,6,7,13] []),(5,zK [2] []),(6,zK [0,5,6,7] []),(7,zK [2] [])],
 [(2,zK [0,5,6,7] [])],
 [(5,zK [0,5,6,7,13] [])],
 [],[]⟩
abbrev R64:=Bool
abbrev e64 (r:R64):List PA:=[.one (.bool r)]
@[irreducible] def z64:=ptF Try.prog G64 zEE Try.f64
def zCV (zaa:(Sl Gate)) (za4:Int):St:=⟨[(0,zS enc_55 3 zaa),(5,zS enc_55 3 zaa),(6,zI (zaa.len:Int)),(7,zI za4)],[],[]⟩
abbrev zEF (K:List PA→Prop) (zaa:(Sl Gate)) (X:St→Prop) (P:Int→Bool) (S:Int→Bool):Prop:=∀ ⦃za4:Int⦄,P za4=true→K (e64 (S za4))→X (zCV zaa za4)
section
variable {K:List PA→Prop} {zaa:(Sl Gate)} {za4:Int} {X0:St→Prop} {P0:Int→Bool} {S0:Int→Bool} {zgi:Int} {zqI:Bool}
def zqJ (S0:Int→Bool) (zaa:(Sl Gate)) (zgi:Int) (zqI:Bool):Bool :=
  (cond zqI
 false
 (S0 (w64 (zgi+(1:Int)))))
def zqK (P0:Int→Bool) (zaa:(Sl Gate)) (zgi:Int) (zqI:Bool):Bool :=
  (cond zqI
 true
 (P0 (w64 (zgi+(1:Int)))))
theorem zEG (hX0:zEF K zaa X0 P0 S0) (hs:zqK P0 zaa zgi zqI=true) (hk:K (e64 (zqJ S0 zaa zgi zqI))):z64 K [1,0,1,0,0,1,1,0,0,1,1] [X0] ⟨[(0,zS enc_55 3 zaa),(5,zS enc_55 3 zaa),(6,zI (zaa.len:Int)),(7,zI zgi),(13,zB zqI)],[],[]⟩:=zay (by kernel_rfl) (zc hs hk (fun hs hk=>hk) (fun hs hk=>(hX0 hs hk)))
def zhG (zaa:(Sl Gate)) (S0:Int→Bool) (za4:Int):Bool :=
  (cond (decide (za4 < (zaa.len : Int)))
 (zqJ S0 zaa za4 (!(s87 (zaa.get za4.toNat))))
 (s74 (zaa.len:Int) (1:Int) (24:Int)))
def zhH (zaa:(Sl Gate)) (P0:Int→Bool) (za4:Int):Bool :=
  (cond (decide (za4 < (zaa.len : Int)))
 (decide ((0≤za4∧za4 < (zaa.len:Int))) &&
 (zqK P0 zaa za4 (!(s87 (zaa.get za4.toNat)))))
 true)
def zhI (zaa:(Sl Gate)):Nat→Int→Bool:=lpO (fun _=>default) (zhG zaa)
def zhJ (zaa:(Sl Gate)):Nat→Int→Bool:=lpO (fun _=>false) (zhH zaa)
def zwC (zaa:(Sl Gate)) (za4:Int):Bool:=zhI zaa Fuel za4
def zwD (zaa:(Sl Gate)) (za4:Int):Bool:=zhJ zaa Fuel za4
theorem zEH (hs:zwD zaa za4=true) (hk:K (e64 (zwC zaa za4))):z64 K [1,0,1,0] [] (zCV zaa za4) :=
  zl (fun X=>z64 K [1,0,1,0,0] [X]) (by kernel_rfl) fun X0 hX =>
  (show ∀ k, zEF K zaa X0 (zhJ zaa k) (zhI zaa k) from zgX _ _ (zhH zaa) (zhG zaa) (zEF K zaa X0)
 (by intro _ hs;exact absurd hs Bool.false_ne_true)
 (by intro P0 S0 hX0 za4 hs hk;exact hX _ (zay (by kernel_rfl) (zc hs hk (fun hs hk=>(zaw hs fun hc hs=>And.intro hc (zEG hX0 hs hk))) (fun hs hk=>hk))))) _ hs hk
def s64 (zaa:(Sl Gate)):Bool :=
  (zwC zaa (0:Int))
def p64 (zaa:(Sl Gate)):Bool :=
  (zwD zaa (0:Int))
end
theorem q64 (zaa:(Sl Gate)) (K:List PA→Prop) (hs:p64 zaa=true) (hk:K (e64 (s64 zaa))):vcFun Try.prog G64 zEE 64 [.one (.sl zaa.len 3 (fun i=>enc_55 (zaa.get i)))] K :=
  zay (by kernel_rfl) (zEH hs hk)
def zuz : List PA → COut
  | [.one (.sl a0_n a0_s a0_g)]=>.det (IsE enc_55 3 a0_s a0_g∧p64 (⟨a0_n,zad a0_g⟩:(Sl Gate))=true) [.one (.bool (s64 (⟨a0_n,zad a0_g⟩:(Sl Gate))))]
  | _=>.no
theorem zJj:zai Try.prog 64:=⟨_,rfl,rfl,by kernel_rfl⟩
theorem zLh:Ok Try.prog 64 zuz:=zaN zL6 zJj fun args K h=>by
  unfold zuz at h
  split at h
  · rename_i a0_n a0_s a0_g
    obtain ⟨⟨⟨rfl,a0_f,rfl⟩,hs⟩,hk⟩:=h
    try rw [zae a0_f] at hs
    try rw [zae a0_f] at hk
    exact ⟨(fun _ _=>[]),(fun _=>false),zEE,q64 (⟨a0_n,a0_f⟩:(Sl Gate)) K hs hk⟩
  · exact h.elim
abbrev T79:Tabs:=(Tabs.nil.addF 89 zqw)
theorem zL7:TabsOk Try.prog T79:=(TabsOk.nil.addF zLe)
abbrev G79:Ctrs:=csm T79 (fun _ _=>[]) (fun _=>false)
def zJk:Ann:=⟨14,[(0,zK [1,2] [1,2]),(1,zK [2] [2])],
 [],
 [],
 [],[]⟩
abbrev R79:=Line
abbrev e79 (r:R79):List PA:=[.agg [.int .i64 r.Slope.Num,.int .i64 r.Slope.Den,.int .i64 r.Start.Num,.int .i64 r.Start.Den]]
section
variable {K:List PA→Prop} {s:straight}
def s79 (s:straight):Line :=
  (⟨(s89 s.slope s.den),(s89 s.start s.den)⟩:Line)
def p79 (s:straight):Bool :=
  (decide ((p89 s.slope s.den=true)) &&
 (decide ((p89 s.start s.den=true)) &&
 true))
end
theorem q79 (s:straight) (K:List PA→Prop) (hs:p79 s=true) (hk:K (e79 (s79 s))):vcFun Try.prog G79 zJk 79 [.agg (zaf s)] K :=
  zay (by kernel_rfl) (zaw hs fun hc hs=>And.intro hc (zaw hs fun hc hs=>And.intro hc hk))
def zBx : List PA → COut
  | [.agg [.int .i64 a0_slope,.int .i64 a0_start,.int .i64 a0_den]]=>.det (p79 (⟨a0_slope,a0_start,a0_den⟩:straight)=true) [.agg [.int .i64 ((s79 (⟨a0_slope,a0_start,a0_den⟩:straight)).Slope.Num),.int .i64 ((s79 (⟨a0_slope,a0_start,a0_den⟩:straight)).Slope.Den),.int .i64 ((s79 (⟨a0_slope,a0_start,a0_den⟩:straight)).Start.Num),.int .i64 ((s79 (⟨a0_slope,a0_start,a0_den⟩:straight)).Start.Den)]]
  | _=>.no
theorem zJl:zai Try.prog 79:=⟨_,rfl,rfl,by kernel_rfl⟩
theorem zNM:Ok Try.prog 79 zBx:=zaN zL7 zJl fun args K h=>by
  unfold zBx at h
  split at h
  · rename_i a0_slope a0_start a0_den
    obtain ⟨hs,hk⟩:=h
    exact ⟨(fun _ _=>[]),(fun _=>false),zJk,q79 (⟨a0_slope,a0_start,a0_den⟩:straight) K hs hk⟩
  · exact h.elim
abbrev T96:Tabs:=Tabs.nil
theorem zL8:TabsOk Try.prog T96:=TabsOk.nil
abbrev G96:Ctrs:=csm T96 (fun _ _=>[]) (fun _=>false)
def zEI:Ann:=⟨4,[(0,⟨[1],[1],[],[],[],[],[]⟩),(1,⟨[2],[],[],[],[],[],[]⟩)],
 [],
 [],
 [],[]⟩
theorem zEJ (l_a0 : list) (K : List PA → Prop) :
  vcFun Try.prog G96 zEI 96 [.agg [.sl l_a0.Gates.len 3 (fun i=>enc_55 (l_a0.Gates.get i))]] K =
  (K [.one (.fn 115 [] [.fp (zce l_a0) 0])]):=by kernel_rfl
theorem q96 (l_a0:list) (K:List PA→Prop) (hk:K [.one (.fn 115 [] [.fp (zce l_a0) 0])]):vcFun Try.prog G96 zEI 96 [.agg [.sl l_a0.Gates.len 3 (fun i=>enc_55 (l_a0.Gates.get i))]] K:=zay (zEJ l_a0 K) hk
def zEK : List PA → COut
  | [.agg [.sl a0_Gates_n a0_Gates_s a0_Gates_g]]=>.det (IsE enc_55 3 a0_Gates_s a0_Gates_g) [.one (.fn 115 [] [.fp (zce (⟨(⟨a0_Gates_n,zad a0_Gates_g⟩:(Sl Gate))⟩:list)) 0])]
  | _=>.no
theorem zJm:zai Try.prog 96:=⟨_,rfl,rfl,by kernel_rfl⟩
theorem zPb:Ok Try.prog 96 zEK:=zaN zL8 zJm fun args K h=>by
  unfold zEK at h
  split at h
  · rename_i a0_Gates_n a0_Gates_s a0_Gates_g
    obtain ⟨⟨rfl,a0_Gates_f,rfl⟩,hk⟩:=h
    try rw [zae a0_Gates_f] at hk
    exact ⟨fun _ _=>[],fun _=>false,zEI,q96 (⟨(⟨a0_Gates_n,a0_Gates_f⟩:(Sl Gate))⟩:list) K hk⟩
  · exact h.elim
abbrev T97:Tabs:=(Tabs.nil.addF 99 zwd)
theorem zL9:TabsOk Try.prog T97:=(TabsOk.nil.addF zLL)
abbrev G97:Ctrs:=csm T97 (fun _ _=>[]) (fun _=>false)
def zEL:Ann:=⟨11,[(0,zK [2,3] [2,3]),(1,zK [4] [])],
 [],
 [],
 [],[]⟩
abbrev R97:=Bool
abbrev e97 (r:R97):List PA:=[.one (.bool r)]
section
variable {K:List PA→Prop} {s:set} {x:straight}
def s97 (s:set) (x:straight):Bool :=
  (!(zLb x s.list.Gates))
def p97 (s:set) (x:straight):Bool :=
  (decide ((zLc x s.list.Gates=true)) &&
 true)
end
theorem q97 (s:set) (x:straight) (K:List PA→Prop) (hs:p97 s x=true) (hk:K (e97 (s97 s x))):vcFun Try.prog G97 zEL 97 [.agg (za3 s),.agg (zaf x)] K :=
  zay (by kernel_rfl) (zaw hs fun hc hs=>And.intro (And.intro (zE enc_55 3 s.list.Gates.get) hc) hk)
def zEM : List PA → COut
  | [.agg [.sl a0_list_Gates_n a0_list_Gates_s a0_list_Gates_g,.sl a0_corners_n a0_corners_s a0_corners_g],.agg [.int .i64 a1_slope,.int .i64 a1_start,.int .i64 a1_den]]=>.det (IsE enc_55 3 a0_list_Gates_s a0_list_Gates_g∧IsE zaf 3 a0_corners_s a0_corners_g∧p97 (⟨(⟨(⟨a0_list_Gates_n,zad a0_list_Gates_g⟩:(Sl Gate))⟩:list),(⟨a0_corners_n,zaX a0_corners_g⟩:(Sl straight))⟩:set) (⟨a1_slope,a1_start,a1_den⟩:straight)=true) [.one (.bool (s97 (⟨(⟨(⟨a0_list_Gates_n,zad a0_list_Gates_g⟩:(Sl Gate))⟩:list),(⟨a0_corners_n,zaX a0_corners_g⟩:(Sl straight))⟩:set) (⟨a1_slope,a1_start,a1_den⟩:straight)))]
  | [.agg [.sl a0_list_Gates_n a0_list_Gates_s a0_list_Gates_g,.nils],.agg [.int .i64 a1_slope,.int .i64 a1_start,.int .i64 a1_den]]=>.det (IsE enc_55 3 a0_list_Gates_s a0_list_Gates_g∧p97 (⟨(⟨(⟨a0_list_Gates_n,zad a0_list_Gates_g⟩:(Sl Gate))⟩:list),(⟨0,fun _=>default⟩:(Sl straight))⟩:set) (⟨a1_slope,a1_start,a1_den⟩:straight)=true) [.one (.bool (s97 (⟨(⟨(⟨a0_list_Gates_n,zad a0_list_Gates_g⟩:(Sl Gate))⟩:list),(⟨0,fun _=>default⟩:(Sl straight))⟩:set) (⟨a1_slope,a1_start,a1_den⟩:straight)))]
  | _=>.no
theorem zJn:zai Try.prog 97:=⟨_,rfl,rfl,by kernel_rfl⟩
theorem zPc:Ok Try.prog 97 zEM:=zhw zL9 zJn fun args K h=>by
  unfold zEM at h
  split at h
  · rename_i a0_list_Gates_n a0_list_Gates_s a0_list_Gates_g a0_corners_n a0_corners_s a0_corners_g a1_slope a1_start a1_den
    obtain ⟨⟨⟨rfl,a0_list_Gates_f,rfl⟩,⟨rfl,a0_corners_f,rfl⟩,hs⟩,hk⟩:=h
    try rw [zae a0_list_Gates_f] at hs
    try rw [zae a0_list_Gates_f] at hk
    try rw [zaQ a0_corners_f] at hs
    try rw [zaQ a0_corners_f] at hk
    exact ⟨_,zfj zf2 _,(fun _ _=>[]),(fun _=>false),zEL,q97 (⟨(⟨(⟨a0_list_Gates_n,a0_list_Gates_f⟩:(Sl Gate))⟩:list),(⟨a0_corners_n,a0_corners_f⟩:(Sl straight))⟩:set) (⟨a1_slope,a1_start,a1_den⟩:straight) (Wk K) hs (zep hk)⟩
  · rename_i a0_list_Gates_n a0_list_Gates_s a0_list_Gates_g a1_slope a1_start a1_den
    obtain ⟨⟨⟨rfl,a0_list_Gates_f,rfl⟩,hs⟩,hk⟩:=h
    try rw [zae a0_list_Gates_f] at hs
    try rw [zae a0_list_Gates_f] at hk
    exact ⟨_,(zdh (.agg (zdh (.rfl _) (zdh (.nil _ _) zhv))) (zdh (zf2 _) zhv)),(fun _ _=>[]),(fun _=>false),zEL,q97 (⟨(⟨(⟨a0_list_Gates_n,a0_list_Gates_f⟩:(Sl Gate))⟩:list),(⟨0,fun _=>default⟩:(Sl straight))⟩:set) (⟨a1_slope,a1_start,a1_den⟩:straight) (Wk K) hs (zep hk)⟩
  · exact h.elim
abbrev zNN:Tabs:=Tabs.nil
theorem zJo:TabsOk Try.prog zNN:=TabsOk.nil
abbrev zNO:Ctrs:=csm zNN (fun _ _=>[]) (fun _=>false)
def zwE:Ann:=⟨30,[(0,zK [0,1,2,3,8] [8]),(1,zK [0,1,2,3,8,11] [8]),(2,zK [0,1,2,3,8] [8]),(3,zK [8] [8])],
 [],
 [(3,zK [0,1,2,3,8] [8])],
 [],[]⟩
abbrev zPd:=straight
abbrev e116 (r:zPd):List PA:=[.agg [.int .i64 r.slope,.int .i64 r.start,.int .i64 r.den]]
@[irreducible] def z116:=ptF Try.prog zNO zwE Try.f116
section
variable {K:List PA→Prop} {z:Int} {p:Int} {y_a2:Int} {q:Int} {zv0:Int} {pv0:Int} {yv0:Int} {qv0:Int}
def ziY (zv0:Int) (pv0:Int) (yv0:Int) (qv0:Int):straight :=
  (⟨(w64 (qv0 - pv0)),(w64 ((w64 (pv0 * yv0)) - (w64 (qv0 * zv0)))),(w64 (yv0 - zv0))⟩:straight)
theorem ztj (hk:K (e116 (ziY zv0 pv0 yv0 qv0))):z116 K [1,1] [] ⟨[(0,zI zv0),(1,zI pv0),(2,zI yv0),(3,zI qv0),(8,zp 8 0)],[(8,.box 118 (zm (zaf (⟨(0:Int),(0:Int),(0:Int)⟩:straight))))],[]⟩:=zay (by kernel_rfl) hk
def zlF (z:Int) (p:Int) (y_a2:Int) (q:Int):straight :=
  (cond (decide (z > y_a2))
 (ziY y_a2 q z p)
 (ziY z p y_a2 q))
end
theorem zPe (z:Int) (p:Int) (y_a2:Int) (q:Int) (K:List PA→Prop) (hk:K (e116 (zlF z p y_a2 q))):vcFun Try.prog zNO zwE 116 [.one (.int .i64 z),.one (.int .i64 p),.one (.int .i64 y_a2),.one (.int .i64 q)] K :=
  zay (by kernel_rfl) (zt hk (fun hk=>(ztj hk)) (fun hk=>(ztj hk)))
def zwF : List PA → COut
  | [.one (.int .i64 a0),.one (.int .i64 a1),.one (.int .i64 a2),.one (.int .i64 a3)]=>.tot [.agg [.int .i64 ((zlF a0 a1 a2 a3).slope),.int .i64 ((zlF a0 a1 a2 a3).start),.int .i64 ((zlF a0 a1 a2 a3).den)]]
  | _=>.no
theorem zEN:zai Try.prog 116:=⟨_,rfl,rfl,by kernel_rfl⟩
theorem zMa:Ok Try.prog 116 zwF:=zaN zJo zEN fun args K h=>by
  unfold zwF at h
  split at h
  · rename_i a0 a1 a2 a3
    have hk:=h
    exact ⟨(fun _ _=>[]),(fun _=>false),zwE,zPe a0 a1 a2 a3 K hk⟩
  · exact h.elim
abbrev zNP:Tabs:=(Tabs.nil.addF 116 zwF)
theorem zJp:TabsOk Try.prog zNP:=(TabsOk.nil.addF zMa)
abbrev zwG:Ctrs:=csm zNP (fun _ _=>[]) (fun _=>false)
def zcd:Ann:=⟨64,[(0,⟨[0,1,12,13,14],[],[],[],[],[],[]⟩),(1,⟨[0,1,12,13,14,15],[],[],[],[],[],[]⟩),(2,⟨[0,1,3,4,12,13,14],[4],[],[],[],[],[]⟩),(3,⟨[0,1,4,12,13,14,23,24,25],[4],[],[],[],[],[]⟩),(4,⟨[0,1,4,12,13,14,23,24,25,26],[4],[],[],[],[],[]⟩),(5,⟨[0,1,4,6,12,13,14,23,24,25],[4,6],[],[],[],[],[]⟩),(6,⟨[0,1,4,6,12,13,14,23,24,25,33],[4,6],[],[],[],[],[]⟩),(7,⟨[0,1,4,6,12,13,14,23,24,25,38,39],[4,6],[],[],[],[],[]⟩),(8,⟨[0,1,4,6,12,13,14,23,24,25,38,39,40],[4,6],[],[],[],[],[]⟩),(9,⟨[0,1,4,6,8,12,13,14,23,24,25,38,39],[4,6],[],[],[],[],[]⟩),(10,⟨[0,1,4,6,8,12,13,14,23,24,25,38,39,46,47],[4,6],[],[],[],[],[]⟩),(11,⟨[0,1,4,6,8,12,13,14,23,24,25,38,39,46,47,48],[4,6],[],[],[],[],[]⟩),(12,⟨[0,1,4,6,8,10,12,13,14,23,24,25,38,39,46,47],[4,6],[],[],[],[],[]⟩),(13,⟨[0,1,4,6,8,12,13,14,23,24,25,38,39,46,47,59],[4,6],[],[],[],[],[]⟩),(14,⟨[0,1,4,6,8,12,13,14,23,24,25,38,39,46,47],[4,6],[],[],[],[],[]⟩),(15,⟨[0,1,4,6,12,13,14,23,24,25,38,39],[4,6],[],[],[],[],[]⟩),(16,⟨[0,1,4,12,13,14,23,24,25],[4],[],[],[],[],[]⟩),(17,⟨[0,1,12,13,14],[],[],[],[],[],[]⟩)],
 [(1,⟨[0,1,12,13,14],[],[],[],[],[],[]⟩),(4,⟨[0,1,4,12,13,14,23,24,25],[4],[],[],[],[4],[]⟩)],
 [],
 [(8,3,⟨[0,1,4,6,12,13,14,23,24,25,38,39],[4,6],[],[],[],[],[]⟩),(11,3,⟨[0,1,4,6,8,12,13,14,23,24,25,38,39,46,47],[4,6],[],[],[],[],[]⟩)],[13]⟩
def zfk (l:Nat) (a:list) (zah:Int):St:=⟨[(0,.one (.c (.p (.yl l)))),(1,.one (.c (.p (.fp (zce a) 0)))),(12,.one (.c (.p (.sl a.Gates.len 3 (fun i=>enc_55 (a.Gates.get i)))))),(13,.one (.c (.p (.int .i64 (a.Gates.len:Int))))),(14,.one (.c (.p (.int .i64 zah))))],[],[]⟩
def zg2 (l:Nat) (ys:List (List PA)) (a:list) (zah:Int):Prop:=vcY Try.prog zwG zcd l (cdF Try.f115 [1,0]) (zdb 0 zlJ) ys false (zfk l a zah)
def zfl (l:Nat) (a:list) (zaW:Int) (zfm:Nat) (zcf:Nat→List PV) (zbG:Int) (zaB:Int) (zaP:Int) (za2:Int) (zbu:Int):St:=⟨[(0,.one (.c (.p (.yl l)))),(1,.one (.c (.p (.fp (zce a) 0)))),(4,.one (.c (.ptr 4 0))),(12,.one (.c (.p (.sl a.Gates.len 3 (fun i=>enc_55 (a.Gates.get i)))))),(13,.one (.c (.p (.int .i64 (a.Gates.len:Int))))),(14,.one (.c (.p (.int .i64 zaW)))),(23,.one (.c (.p (.sl zfm 3 zcf)))),(24,.one (.c (.p (.int .i64 zbG)))),(25,.one (.c (.p (.int .i64 zaB))))],[(4,.fbox [.int .i64 zaP,.int .i64 za2,.int .i64 zbu])],[]⟩
def zg3 (l:Nat) (X0:List (List PA)→Bool→St→Prop) (ys:List (List PA)) (a:list) (zaW:Int) (zfm:Nat) (zcf:Nat→List PV) (zbG:Int) (zaB:Int) (zaP:Int) (za2:Int) (zbu:Int):Prop:=vcY Try.prog zwG zcd l (cdF Try.f115 [1,0,0,1,1,0,0,1,1,0]) (zdb 2 (zdb 1 (zH8 (zIa Try.prog zcd 17 (vcY Try.prog zwG zcd l (cdF Try.f115 [1,0,0,1,1,1]) (ziD Try.prog zcd 1 X0 (zdb 0 zlJ)))) (ziD Try.prog zcd 1 X0 (zdb 0 zlJ))))) ys false (zfl l a zaW zfm zcf zbG zaB zaP za2 zbu)
theorem zBy (l : Nat) (a : list) (ys : List (List PA)) :
  vcIter Try.prog zwG zcd 115 l [.one (.fp (zce a) 0)] ys =
  (zg2 l ys a (0:Int)):=by kernel_rfl
def zmn (l:Nat) (X0:List (List PA)→Bool→St→Prop) (ys:List (List PA)) (a:list) (zah:Int):Prop :=
  (zda (decide (zah < (a.Gates.len : Int)))
 (((0≤zah∧zah < (a.Gates.len:Int))) ∧
 (((0≤(w64 (zah+(1:Int)))∧(w64 (zah+(1:Int)))≤(a.Gates.len:Int)∧(a.Gates.len:Int)≤(a.Gates.len:Int))) ∧
 (zg3 l  X0 ys a zah (((a.Gates.len:Int) - (w64 (zah+(1:Int)))).toNat) (slG (fun i=>enc_55 (a.Gates.get i)) ((w64 (zah+(1:Int))).toNat)) (((a.Gates.len:Int) - (w64 (zah+(1:Int)))).toNat:Int) (0:Int) ((a.Gates.get zah.toNat).Z) ((a.Gates.get zah.toNat).Low) ((a.Gates.get zah.toNat).High))))
 (ys=[]))
theorem zph (l : Nat) (X0 : List (List PA) → Bool → St → Prop) (ys : List (List PA)) (a : list) (zah : Int) :
  vcY Try.prog zwG zcd l (cd (cdF Try.f115 [1,0]) [0]) (ziD Try.prog zcd 1 X0 (zdb 0 zlJ)) ys false (zfk l a zah) =
  zmn l X0 ys a zah:=by kernel_rfl
theorem zuA (l : Nat) (ys : List (List PA)) (a : list) (zah : Int)
  (h:∀ X0:List (List PA)→Bool→St→Prop,(∀ (ys:List (List PA)) (zah:Int),zmn l X0 ys a zah→X0 ys false (zfk l a zah))→X0 ys false (zfk l a zah)) :
  zg2 l ys a zah:=by
  have e:zg2 l ys a zah=(∀ X:List (List PA)→Bool→St→Prop,(∀ ys q s,vcY Try.prog zwG zcd l (cd (cdF Try.f115 [1,0]) [0]) (ziD Try.prog zcd 1 X (zdb 0 zlJ)) ys q s→X ys q s)→X ys false (zfk l a zah)):=by kernel_rfl
  refine zay e ?_
  intro X hX
  refine h X ?_
  intro ys zah hs
  refine hX _ _ _ ?_
  have e2:=zph l X ys a zah
  rw [e2]
  exact hs
def zmo (l:Nat) (X0:List (List PA)→Bool→St→Prop) (X1:List (List PA)→Bool→St→Prop) (ys:List (List PA)) (a:list) (zaW:Int) (zaI:(Sl Gate)) (zbG:Int) (zaB:Int) (zaP:Int) (za2:Int) (zbu:Int):Prop :=
  (zda (decide (zaB < zbG))
 (((0≤zaB∧zaB < (zaI.len:Int))) ∧
 (zda (zaP == (zaI.get zaB.toNat).Z)
 (X1 ys false (zfl l a zaW zaI.len (fun i=>enc_55 (zaI.get i)) zbG (w64 (zaB+(1:Int))) zaP za2 zbu))
 (l=l∧∃ r1,ys=[.agg [.int .i64 ((zlF zaP za2 ((zaI.get zaB.toNat).Z) ((zaI.get zaB.toNat).Low)).slope),.int .i64 ((zlF zaP za2 ((zaI.get zaB.toNat).Z) ((zaI.get zaB.toNat).Low)).start),.int .i64 ((zlF zaP za2 ((zaI.get zaB.toNat).Z) ((zaI.get zaB.toNat).Low)).den)]] :: r1 ∧
 (l=l∧∃ r2,r1=[.agg [.int .i64 ((zlF zaP za2 ((zaI.get zaB.toNat).Z) ((zaI.get zaB.toNat).High)).slope),.int .i64 ((zlF zaP za2 ((zaI.get zaB.toNat).Z) ((zaI.get zaB.toNat).High)).start),.int .i64 ((zlF zaP za2 ((zaI.get zaB.toNat).Z) ((zaI.get zaB.toNat).High)).den)]] :: r2 ∧
 (l=l∧∃ r3,r2=[.agg [.int .i64 ((zlF zaP zbu ((zaI.get zaB.toNat).Z) ((zaI.get zaB.toNat).Low)).slope),.int .i64 ((zlF zaP zbu ((zaI.get zaB.toNat).Z) ((zaI.get zaB.toNat).Low)).start),.int .i64 ((zlF zaP zbu ((zaI.get zaB.toNat).Z) ((zaI.get zaB.toNat).Low)).den)]] :: r3 ∧
 (l=l∧∃ r4,r3=[.agg [.int .i64 ((zlF zaP zbu ((zaI.get zaB.toNat).Z) ((zaI.get zaB.toNat).High)).slope),.int .i64 ((zlF zaP zbu ((zaI.get zaB.toNat).Z) ((zaI.get zaB.toNat).High)).start),.int .i64 ((zlF zaP zbu ((zaI.get zaB.toNat).Z) ((zaI.get zaB.toNat).High)).den)]] :: r4 ∧
 (X1 r4 false (zfl l a zaW zaI.len (fun i=>enc_55 (zaI.get i)) zbG (w64 (zaB+(1:Int))) zaP za2 zbu))∧True)∧True)∧True)∧True)))
 (X0 ys false (zfk l a (w64 (zaW+(1:Int))))))
theorem zpi (l : Nat) (X0 : List (List PA) → Bool → St → Prop) (X1 : List (List PA) → Bool → St → Prop) (ys : List (List PA)) (a : list) (zaW : Int) (zaI : (Sl Gate)) (zbG : Int) (zaB : Int) (zaP : Int) (za2 : Int) (zbu : Int) :
  vcY Try.prog zwG zcd l (cd (cdF Try.f115 [1,0,0,1,1,0,0,1,1,0]) [0]) (ziD Try.prog zcd 4 X1 (zdb 2 (zdb 1 (zH8 (zIa Try.prog zcd 17 (vcY Try.prog zwG zcd l (cdF Try.f115 [1,0,0,1,1,1]) (ziD Try.prog zcd 1 X0 (zdb 0 zlJ)))) (ziD Try.prog zcd 1 X0 (zdb 0 zlJ)))))) ys false (zfl l a zaW zaI.len (fun i=>enc_55 (zaI.get i)) zbG zaB zaP za2 zbu) =
  zmo l  X0 X1 ys a zaW zaI zbG zaB zaP za2 zbu:=by kernel_rfl
theorem zuB (l : Nat) (X0 : List (List PA) → Bool → St → Prop) (ys : List (List PA)) (a : list) (zaW : Int) (zfm : Nat) (zcf : Nat → List PV) (zbG : Int) (zaB : Int) (zaP : Int) (za2 : Int) (zbu : Int)
  (h:∀ X1:List (List PA)→Bool→St→Prop,(∀ (ys:List (List PA)) (zaW:Int) (zaI:(Sl Gate)) (zbG:Int) (zaB:Int) (zaP:Int) (za2:Int) (zbu:Int),zmo l  X0 X1 ys a zaW zaI zbG zaB zaP za2 zbu→X1 ys false (zfl l a zaW zaI.len (fun i=>enc_55 (zaI.get i)) zbG zaB zaP za2 zbu))→X1 ys false (zfl l a zaW zfm zcf zbG zaB zaP za2 zbu)) :
  zg3 l  X0 ys a zaW zfm zcf zbG zaB zaP za2 zbu:=by
  have e:zg3 l  X0 ys a zaW zfm zcf zbG zaB zaP za2 zbu=(∀ X:List (List PA)→Bool→St→Prop,(∀ ys q s,vcY Try.prog zwG zcd l (cd (cdF Try.f115 [1,0,0,1,1,0,0,1,1,0]) [0]) (ziD Try.prog zcd 4 X (zdb 2 (zdb 1 (zH8 (zIa Try.prog zcd 17 (vcY Try.prog zwG zcd l (cdF Try.f115 [1,0,0,1,1,1]) (ziD Try.prog zcd 1 X0 (zdb 0 zlJ)))) (ziD Try.prog zcd 1 X0 (zdb 0 zlJ)))))) ys q s→X ys q s)→X ys false (zfl l a zaW zfm zcf zbG zaB zaP za2 zbu)):=by kernel_rfl
  refine zay e ?_
  intro X hX
  refine h X ?_
  intro ys zaW zaI zbG zaB zaP za2 zbu hs
  refine hX _ _ _ ?_
  have e2:=zpi l  X0 X ys a zaW zaI zbG zaB zaP za2 zbu
  rw [e2]
  exact hs
attribute [irreducible] zg2 zg3
def zeP (S0:Int→List straight) (a:list) (S1:Int→(Sl Gate)→Int→Int→Int→Int→Int→List straight) (zaW:Int) (zaI:(Sl Gate)) (zbG:Int) (zaB:Int) (zaP:Int) (za2:Int) (zbu:Int):List straight :=
  (cond (decide (zaB < zbG))
 (cond (zaP == (zaI.get zaB.toNat).Z)
 (S1 zaW zaI zbG (w64 (zaB+(1:Int))) zaP za2 zbu)
 ((zlF zaP za2 ((zaI.get zaB.toNat).Z) ((zaI.get zaB.toNat).Low)) :: ((zlF zaP za2 ((zaI.get zaB.toNat).Z) ((zaI.get zaB.toNat).High)) :: ((zlF zaP zbu ((zaI.get zaB.toNat).Z) ((zaI.get zaB.toNat).Low)) :: ((zlF zaP zbu ((zaI.get zaB.toNat).Z) ((zaI.get zaB.toNat).High)) :: (S1 zaW zaI zbG (w64 (zaB+(1:Int))) zaP za2 zbu))))))
 (S0 (w64 (zaW+(1:Int)))))
def zeQ (P0:Int→Bool) (a:list) (P1:Int→(Sl Gate)→Int→Int→Int→Int→Int→Bool) (zaW:Int) (zaI:(Sl Gate)) (zbG:Int) (zaB:Int) (zaP:Int) (za2:Int) (zbu:Int):Bool :=
  (cond (decide (zaB < zbG))
 (decide ((0≤zaB∧zaB < (zaI.len:Int))) &&
 (cond (zaP == (zaI.get zaB.toNat).Z)
 (P1 zaW zaI zbG (w64 (zaB+(1:Int))) zaP za2 zbu)
 (P1 zaW zaI zbG (w64 (zaB+(1:Int))) zaP za2 zbu)))
 (P0 (w64 (zaW+(1:Int)))))
def zdw (S0 : Int → List straight) (a : list) : Nat → Int → (Sl Gate) → Int → Int → Int → Int → Int → List straight
  | 0=>fun _ _ _ _ _ _ _=>[]
  | k+1=>zeP S0 a (zdw S0 a k)
def zdx (P0 : Int → Bool) (a : list) : Nat → Int → (Sl Gate) → Int → Int → Int → Int → Int → Bool
  | 0=>fun _ _ _ _ _ _ _=>false
  | k+1=>zeQ P0 a (zdx P0 a k)
def znb (S0:Int→List straight) (a:list) (zaW:Int) (zaI:(Sl Gate)) (zbG:Int) (zaB:Int) (zaP:Int) (za2:Int) (zbu:Int):List straight:=zdw S0 a Fuel zaW zaI zbG zaB zaP za2 zbu
def znc (P0:Int→Bool) (a:list) (zaW:Int) (zaI:(Sl Gate)) (zbG:Int) (zaB:Int) (zaP:Int) (za2:Int) (zbu:Int):Bool:=zdx P0 a Fuel zaW zaI zbG zaB zaP za2 zbu
theorem zBz (l : Nat) (a : list)
  (X0:List (List PA)→Bool→St→Prop) (P0:Int→Bool) (S0:Int→List straight)
  (hX0:∀ (ys:List (List PA)) (zah:Int),P0 zah=true→ys=(S0 zah).map (fun y=>[.agg (zaf y)])→X0 ys false (zfk l a zah)) (ys:List (List PA)) (zaW:Int) (zaI:(Sl Gate)) (zbG:Int) (zaB:Int) (zaP:Int) (za2:Int) (zbu:Int) (zcf:Nat→List PV) (zjW:zcf=fun i=>enc_55 (zaI.get i)) (hs:znc P0 a zaW zaI zbG zaB zaP za2 zbu=true) (hk:ys=(znb S0 a zaW zaI zbG zaB zaP za2 zbu).map (fun y=>[.agg (zaf y)])):zg3 l  X0 ys a zaW zaI.len zcf zbG zaB zaP za2 zbu:=by
  refine zuB l  X0 ys a zaW zaI.len zcf zbG zaB zaP za2 zbu ?_
  intro X1 hstep
  have key:∀ (k:Nat) (ys:List (List PA)) (zaW:Int) (zaI:(Sl Gate)) (zbG:Int) (zaB:Int) (zaP:Int) (za2:Int) (zbu:Int) (zcf:Nat→List PV) (zjW:zcf=fun i=>enc_55 (zaI.get i)),zdx P0 a k zaW zaI zbG zaB zaP za2 zbu=true→ys=(zdw S0 a k zaW zaI zbG zaB zaP za2 zbu).map (fun y=>[.agg (zaf y)])→X1 ys false (zfl l a zaW zaI.len zcf zbG zaB zaP za2 zbu):=by
    intro k
    induction k with
    | zero=>intro ys zaW zaI zbG zaB zaP za2 zbu zcf zjW hs;exact absurd hs Bool.false_ne_true
    | succ k ih =>
      intro ys zaW zaI zbG zaB zaP za2 zbu zcf zjW hs hk
      subst zjW
      refine hstep ys zaW zaI zbG zaB zaP za2 zbu ?_
      have hs:zeQ P0 a (zdx P0 a k) zaW zaI zbG zaB zaP za2 zbu=true:=hs
      have hk:ys=(zeP S0 a (zdw S0 a k) zaW zaI zbG zaB zaP za2 zbu).map (fun y=>[.agg (zaf y)]):=hk
      unfold zeQ at hs
      unfold zeP at hk
      generalize zdw S0 a k=S1 at hk ih
      generalize zdx P0 a k=P1 at hs ih
      have hX1:=ih
      exact (zm5 hs hk
 (fun hs hk => (zaw hs fun hc hs => ⟨hc, (zm5 hs hk
 (fun hs hk=>(hX1 _ zaW zaI zbG (w64 (zaB+(1:Int))) zaP za2 zbu (fun i=>enc_55 (zaI.get i)) rfl hs hk))
 (fun hs hk=>(itY hk rfl (fun _ hk=>(itY hk rfl (fun _ hk=>(itY hk rfl (fun _ hk=>(itY hk rfl (fun _ hk=>(hX1 _ zaW zaI zbG (w64 (zaB+(1:Int))) zaP za2 zbu (fun i=>enc_55 (zaI.get i)) rfl hs hk)))))))))))⟩))
 (fun hs hk=>(hX0 _ (w64 (zaW+(1:Int))) hs hk)))
  exact key _ _ zaW zaI zbG zaB zaP za2 zbu zcf zjW hs hk
def zeR (a:list) (S0:Int→List straight) (zah:Int):List straight :=
  (cond (decide (zah < (a.Gates.len : Int)))
 (znb S0 a zah (⟨((a.Gates.len:Int) - (w64 (zah+(1:Int)))).toNat,(fun i=>a.Gates.get (i+((w64 (zah+(1:Int))).toNat)))⟩:Sl Gate) (((a.Gates.len:Int) - (w64 (zah+(1:Int)))).toNat:Int) (0:Int) ((a.Gates.get zah.toNat).Z) ((a.Gates.get zah.toNat).Low) ((a.Gates.get zah.toNat).High))
 [])
def zeS (a:list) (P0:Int→Bool) (zah:Int):Bool :=
  (cond (decide (zah < (a.Gates.len : Int)))
 (decide ((0≤zah∧zah < (a.Gates.len:Int))) &&
 (decide ((0≤(w64 (zah+(1:Int)))∧(w64 (zah+(1:Int)))≤(a.Gates.len:Int)∧(a.Gates.len:Int)≤(a.Gates.len:Int))) &&
 (znc P0 a zah (⟨((a.Gates.len:Int) - (w64 (zah+(1:Int)))).toNat,(fun i=>a.Gates.get (i+((w64 (zah+(1:Int))).toNat)))⟩:Sl Gate) (((a.Gates.len:Int) - (w64 (zah+(1:Int)))).toNat:Int) (0:Int) ((a.Gates.get zah.toNat).Z) ((a.Gates.get zah.toNat).Low) ((a.Gates.get zah.toNat).High))))
 true)
def zdy (a : list) : Nat → Int → List straight
  | 0=>fun _=>[]
  | k+1=>zeR a (zdy a k)
def zdz (a : list) : Nat → Int → Bool
  | 0=>fun _=>false
  | k+1=>zeS a (zdz a k)
def ztk (a:list) (zah:Int):List straight:=zdy a Fuel zah
def ztl (a:list) (zah:Int):Bool:=zdz a Fuel zah
theorem zBA (l:Nat) (a:list) (ys:List (List PA)) (zah:Int) (hs:ztl a zah=true) (hk:ys=(ztk a zah).map (fun y=>[.agg (zaf y)])):zg2 l ys a zah:=by
  refine zuA l ys a zah ?_
  intro X0 hstep
  have key:∀ (k:Nat) (ys:List (List PA)) (zah:Int),zdz a k zah=true→ys=(zdy a k zah).map (fun y=>[.agg (zaf y)])→X0 ys false (zfk l a zah):=by
    intro k
    induction k with
    | zero=>intro ys zah hs;exact absurd hs Bool.false_ne_true
    | succ k ih =>
      intro ys zah hs hk
      refine hstep ys zah ?_
      have hs:zeS a (zdz a k) zah=true:=hs
      have hk:ys=(zeR a (zdy a k) zah).map (fun y=>[.agg (zaf y)]):=hk
      unfold zeS at hs
      unfold zeR at hk
      generalize zdy a k=S0 at hk ih
      generalize zdz a k=P0 at hs ih
      have hX0:=ih
      exact (zm5 hs hk
 (fun hs hk=>(zaw hs fun hc hs=>⟨hc,(zaw hs fun hc hs=>⟨hc,(zBz l a X0 P0 S0 hX0 _ zah (⟨((a.Gates.len:Int) - (w64 (zah+(1:Int)))).toNat,(fun i=>a.Gates.get (i+((w64 (zah+(1:Int))).toNat)))⟩:Sl Gate) (((a.Gates.len:Int) - (w64 (zah+(1:Int)))).toNat:Int) (0:Int) ((a.Gates.get zah.toNat).Z) ((a.Gates.get zah.toNat).Low) ((a.Gates.get zah.toNat).High) (slG (fun i=>enc_55 (a.Gates.get i)) ((w64 (zah+(1:Int))).toNat)) rfl hs hk)⟩)⟩))
 (fun hs hk=>hk))
  exact key _ _ zah hs hk
def zCW (a:list):List straight :=
  (ztk a (0:Int))
def zEO (a:list):Bool :=
  (ztl a (0:Int))
theorem zPf (l:Nat) (a:list) (ys:List (List PA)) (hs:zEO a=true) (hk:ys=(zCW a).map (fun y=>[.agg (zaf y)])):vcIter Try.prog zwG zcd 115 l [.one (.fp (zce a) 0)] ys:=by
  refine zay (zBy l a ys) ?_
  unfold zEO at hs
  unfold zCW at hk
  exact (zBA l a _ (0:Int) hs hk)
def zEP : List PA → Option (Prop × List (List PA))
  | [.one (.fp [.sl a_Gates_n a_Gates_s a_Gates_g] 0)]=>some (IsE enc_55 3 a_Gates_s a_Gates_g∧zEO (⟨(⟨a_Gates_n,zad a_Gates_g⟩:(Sl Gate))⟩:list)=true,(zCW (⟨(⟨a_Gates_n,zad a_Gates_g⟩:(Sl Gate))⟩:list)).map fun y=>[.agg (zaf y)])
  | _=>none
theorem zEQ:zai Try.prog 115:=⟨_,rfl,rfl,by kernel_rfl⟩
theorem zMb:zCn Try.prog 115 zEP:=zIv zJp zEQ fun l caps safe ys h hs=>by
  unfold zEP at h
  split at h
  · rename_i a_Gates_n a_Gates_s a_Gates_g
    cases h
    obtain ⟨⟨rfl,a_Gates_f,rfl⟩,hs⟩:=hs
    try rw [zae a_Gates_f] at hs
    try rw [zae a_Gates_f]
    exact ⟨fun _ _=>[],fun _=>false,zcd,zPf l (⟨(⟨a_Gates_n,a_Gates_f⟩:(Sl Gate))⟩:list) _ hs rfl⟩
  · cases h
abbrev T65:Tabs:=(((((Tabs.nil.addF 67 zpe).addF 79 zBx).addF 96 zEK).addF 97 zEM).addI 115 zEP)
theorem zMc:TabsOk Try.prog T65:=(((((TabsOk.nil.addF zIU).addF zNM).addF zPb).addF zPc).addI zMb)
abbrev G65:Ctrs:=csm T65 (fun _ _=>[]) (fun l=>Nat.beq l 14)
def zg4:Ann:=⟨39,[(0,⟨[0,2],[2],[],[],[],[],[]⟩),(1,⟨[2,3],[2,3],[],[],[],[],[]⟩),(2,⟨[2,3,12],[2,3],[],[],[],[],[]⟩),(3,⟨[2],[2],[],[],[],[],[]⟩),(4,⟨[2,3,4],[2,3,4,14],[],[],[],[],[]⟩),(5,⟨[2,3,4,17],[2,3,4,14],[],[],[],[],[]⟩),(6,⟨[2,3,4,5,17],[2,3,4,5,14,36],[],[],[],[],[]⟩),(7,⟨[2,3,4,5,6,17],[2,3,4,5,6,14,36],[],[],[],[],[]⟩),(8,⟨[2,3,4,5,6,17,29],[2,3,4,5,6,14,36],[],[],[],[],[]⟩),(9,⟨[2,3,4,5,17],[2,3,4,5,14,36],[],[],[],[],[]⟩),(10,⟨[2,3,4,17],[2,3,4,14,36],[],[],[],[],[]⟩),(11,⟨[2],[2,36],[],[],[],[],[]⟩)],
 [(6,⟨[2,3,4,17],[2,3,4,14,36],[],[(3,1,36,118,fun _=>zaf default)],[],[],[]⟩)],
 [(3,⟨[2,3,12],[2,3],[],[],[],[],[]⟩),(4,⟨[2,3],[2,3],[],[],[],[],[]⟩)],
 [],[]⟩
def zJq (zaa:(Sl Gate)) (zaL:Bool):St:=⟨[(2,.one (.c (.ptr 2 0))),(3,.one (.c (.ptr 3 0))),(12,.one (.c (.p (.bool zaL))))],[(2,.box 104 [.p (.nils),.p (.nils)]),(3,.box 104 [.p (.sl zaa.len 3 (fun i=>enc_55 (zaa.get i))),.p (.nils)])],[]⟩
def znd (K:List PA→Prop) (zaa:(Sl Gate)) (zaL:Bool):Prop:=vc Try.prog G65 zg4 (cdF Try.f65 [1,1,0,1]) (sqK Try.prog G65 zg4 (cdF Try.f65 [1,1,1]) (zcA Try.prog Try.f65 K)) (zJq zaa zaL)
def zJr (zaa:(Sl Gate)):St:=⟨[(2,.one (.c (.ptr 2 0))),(3,.one (.c (.ptr 3 0)))],[(2,.box 104 [.p (.nils),.p (.nils)]),(3,.box 104 [.p (.sl zaa.len 3 (fun i=>enc_55 (zaa.get i))),.p (.nils)])],[]⟩
def zne (K:List PA→Prop) (zaa:(Sl Gate)):Prop:=vc Try.prog G65 zg4 (cdF Try.f65 [1,1,1]) (zcA Try.prog Try.f65 K) (zJr zaa)
def zfn (zaa:(Sl Gate)) (zfo:Nat) (zcg:Nat→List PV) (zas:Nat) (zam:(List Int→Option (List Int))):St:=⟨[(2,.one (.c (.ptr 2 0))),(3,.one (.c (.ptr 3 0))),(4,.one (.c (.ptr 4 0))),(17,.one (.c (.p (.fn 115 [] [.fp (zce (⟨zaa⟩:list)) 0]))))],[(2,.box 104 [.p (.nils),.p (.nils)]),(3,.box 104 [.p (.sl zaa.len 3 (fun i=>enc_55 (zaa.get i))),.vec 36]),(4,.box 136 [.mo 14]),(14,.mo 37 4 (true,4,false,[none]) zas zam),(36,.vec 118 3 24 zfo zcg)],[]⟩
def zjX (K:List PA→Prop) (zaa:(Sl Gate)) (zfo:Nat) (zcg:Nat→List PV) (zas:Nat) (zam:(List Int→Option (List Int))):Prop:=vc Try.prog G65 zg4 (cdF Try.f65 [1,1,1,1,0,1,0]) (za6 0 (sqK Try.prog G65 zg4 (cdF Try.f65 [1,1,1,1,1]) (zcA Try.prog Try.f65 K))) (zfn zaa zfo zcg zas zam)
theorem zER (zaa : (Sl Gate)) (K : List PA → Prop) :
  vcFun Try.prog G65 zg4 65 [.one (.sl zaa.len 3 (fun i=>enc_55 (zaa.get i)))] K =
  ((IsE enc_55 3 3 (fun i=>enc_55 (zaa.get i))∧(p67 (⟨zaa⟩:list)=true)) ∧
 (znd K zaa (s67 (⟨zaa⟩:list)))):=by kernel_rfl
theorem zES (K : List PA → Prop) (zaa : (Sl Gate)) (zaL : Bool) :
  znd K zaa zaL =
  (zda zaL
 (K [.agg [.sl zaa.len 3 (fun i=>enc_55 (zaa.get i)),.nils]])
 (zne K zaa)):=by kernel_rfl
theorem zET (K : List PA → Prop) (zaa : (Sl Gate)) :
  zne K zaa =
  ((IsE enc_55 3 3 (fun i=>enc_55 (zaa.get i))) ∧
 (zjX K zaa 0 (fun i=>zaf ((fun _=>default) i)) 0 (fun _=>none))):=by kernel_rfl
def zpj (K:List PA→Prop) (zaa:(Sl Gate)) (zaz:(Sl straight)) (zas:Nat) (zam:(List Int→Option (List Int))):Prop :=
  (K [.agg [.sl zaa.len 3 (fun i=>enc_55 (zaa.get i)),.sl zaz.len 3 (fun i=>zaf (zaz.get i))]])
def zpk (K:List PA→Prop) (X2:List (List PA)→St→Prop) (y2:straight) (rest2:List (List PA)) (zaa:(Sl Gate)) (zaz:(Sl straight)) (zas:Nat) (zam:(List Int→Option (List Int))):Prop :=
  (((p79 y2=true)) ∧
 (zda (!((zdY (zam [(s79 y2).Slope.Num, (s79 y2).Slope.Den, (s79 y2).Start.Num, (s79 y2).Start.Den]) 0) != 0))
 ((IsE enc_55 3 3 (fun i=>enc_55 (zaa.get i))∧IsE zaf 3 3 (fun i=>zaf (zaz.get i))∧(p97 (⟨(⟨zaa⟩:list),zaz⟩:set) y2=true)) ∧
 (zda (s97 (⟨(⟨zaa⟩ : list), zaz⟩ : set) y2)
 ((((zaz.len+1) * 24≤140737488355328∧zaz.len+1≤9223372036854775807)) ∧
 (X2 rest2 (zfn zaa (zaz.len+1) (appG zaz.len (fun i=>zaf (zaz.get i)) (fun _=>(zaf y2))) (addN (zam [(s79 y2).Slope.Num,(s79 y2).Slope.Den,(s79 y2).Start.Num,(s79 y2).Start.Den]) zas) (zlU [(s79 y2).Slope.Num,(s79 y2).Slope.Den,(s79 y2).Start.Num,(s79 y2).Start.Den] [1] zam))))
 (X2 rest2 (zfn zaa zaz.len (fun i=>zaf (zaz.get i)) zas zam))))
 (X2 rest2 (zfn zaa zaz.len (fun i=>zaf (zaz.get i)) zas zam))))
theorem zqL (K:List PA→Prop) (zaa:(Sl Gate)) (zaz:(Sl straight)) (zas:Nat) (zam:(List Int→Option (List Int))):(za6 0 (sqK Try.prog G65 zg4 (cdF Try.f65 [1,1,1,1,1]) (zcA Try.prog Try.f65 K))) .normal (zfn zaa zaz.len (fun i=>zaf (zaz.get i)) zas zam)=zpj K zaa zaz zas zam:=by kernel_rfl
theorem zqM (K : List PA → Prop) (X2 : List (List PA) → St → Prop) (y2 : straight) (rest2 : List (List PA)) (zaa : (Sl Gate)) (zaz : (Sl straight)) (zas : Nat) (zam : (List Int → Option (List Int))) :
  zNt Try.prog G65 zg4 6 [18] (cd (cdF Try.f65 [1,1,1,1,0,1,0]) [0]) (cd (cdF Try.f65 [1,1,1,1,0,1,0]) [1]) X2 (za6 0 (sqK Try.prog G65 zg4 (cdF Try.f65 [1,1,1,1,1]) (zcA Try.prog Try.f65 K))) [.agg (zaf y2)] rest2 (zfn zaa zaz.len (fun i=>zaf (zaz.get i)) zas zam)=zpk K X2 y2 rest2 zaa zaz zas zam:=by kernel_rfl
theorem zwH (K : List PA → Prop) (zaa : (Sl Gate)) (zfo : Nat) (zcg : Nat → List PV) (zas : Nat) (zam : (List Int → Option (List Int)))
  (hsafe:IsE enc_55 3 3 (fun i=>enc_55 ((⟨zaa⟩:list).Gates.get i))∧(zEO (⟨zaa⟩:list)=true)) (h:∀ X2:List (List PA)→St→Prop,(∀ (zaz:(Sl straight)) (zas:Nat) (zam:(List Int→Option (List Int))),zpj K zaa zaz zas zam→X2 [] (zfn zaa zaz.len (fun i=>zaf (zaz.get i)) zas zam))→(∀ (y:straight) (rest:List (List PA)) (zaz:(Sl straight)) (zas:Nat) (zam:(List Int→Option (List Int))),zpk K X2 y rest zaa zaz zas zam→X2 ([.agg (zaf y)] :: rest) (zfn zaa zaz.len (fun i=>zaf (zaz.get i)) zas zam))→X2 ((zCW (⟨zaa⟩:list)).map fun y=>[.agg (zaf y)]) (zfn zaa zfo zcg zas zam)) :
  zjX K zaa zfo zcg zas zam:=by
  have e:zjX K zaa zfo zcg zas zam=((IsE enc_55 3 3 (fun i=>enc_55 ((⟨zaa⟩:list).Gates.get i))∧(zEO (⟨zaa⟩:list)=true))∧∀ X:List (List PA)→St→Prop,(∀ s,(za6 0 (sqK Try.prog G65 zg4 (cdF Try.f65 [1,1,1,1,1]) (zcA Try.prog Try.f65 K))) .normal s→X [] s)→(∀ y rest s,zNt Try.prog G65 zg4 6 [18] (cd (cdF Try.f65 [1,1,1,1,0,1,0]) [0]) (cd (cdF Try.f65 [1,1,1,1,0,1,0]) [1]) X (za6 0 (sqK Try.prog G65 zg4 (cdF Try.f65 [1,1,1,1,1]) (zcA Try.prog Try.f65 K))) y rest s→X (y :: rest) s)→X ((zCW (⟨zaa⟩:list)).map fun y=>[.agg (zaf y)]) (zfn zaa zfo zcg zas zam)):=by kernel_rfl
  refine zay e ⟨hsafe,?_⟩
  intro X h0 h1
  refine h X (fun zaz zas zam hs=>h0 _ ?_) (fun y rest zaz zas zam hs=>h1 _ rest _ ?_)
  · rw [zqL K zaa zaz zas zam];exact hs
  · have e2 := zqM K X y rest zaa zaz zas zam
    rw [e2];exact hs
abbrev e65 (r:set):List PA:=[.agg [.sl r.list.Gates.len 3 (fun i=>enc_55 (r.list.Gates.get i)),.sl r.corners.len 3 (fun i=>zaf (r.corners.get i))]]
attribute [irreducible] znd zne zjX
def zqN (zaa:(Sl Gate)) (zaz:(Sl straight)) (zas:Nat) (zam:(List Int→Option (List Int))):set :=
  (⟨(⟨zaa⟩:list),zaz⟩:set)
def zqO (zaa:(Sl Gate)) (zaz:(Sl straight)) (zas:Nat) (zam:(List Int→Option (List Int))):Bool :=
  true
def zjY (zaa:(Sl Gate)) (y2:straight) (S2:(Sl straight)→Nat→(List Int→Option (List Int))→set) (zaz:(Sl straight)) (zas:Nat) (zam:(List Int→Option (List Int))):set :=
  (cond (!((zdY (zam [(s79 y2).Slope.Num, (s79 y2).Slope.Den, (s79 y2).Start.Num, (s79 y2).Start.Den]) 0) != 0))
 (cond (s97 (⟨(⟨zaa⟩ : list), zaz⟩ : set) y2)
 (S2 (⟨(zaz.len+1),(zdv zaz.len zaz.get (fun _=>y2))⟩:Sl straight) (addN (zam [(s79 y2).Slope.Num,(s79 y2).Slope.Den,(s79 y2).Start.Num,(s79 y2).Start.Den]) zas) (zlU [(s79 y2).Slope.Num,(s79 y2).Slope.Den,(s79 y2).Start.Num,(s79 y2).Start.Den] [1] zam))
 (S2 zaz zas zam))
 (S2 zaz zas zam))
def zjZ (zaa:(Sl Gate)) (y2:straight) (P2:(Sl straight)→Nat→(List Int→Option (List Int))→Bool) (zaz:(Sl straight)) (zas:Nat) (zam:(List Int→Option (List Int))):Bool :=
  (decide ((p79 y2=true)) &&
 (cond (!((zdY (zam [(s79 y2).Slope.Num, (s79 y2).Slope.Den, (s79 y2).Start.Num, (s79 y2).Start.Den]) 0) != 0))
 (decide ((p97 (⟨(⟨zaa⟩:list),zaz⟩:set) y2=true)) &&
 (cond (s97 (⟨(⟨zaa⟩ : list), zaz⟩ : set) y2)
 (decide (((zaz.len+1) * 24≤140737488355328∧zaz.len+1≤9223372036854775807)) &&
 (P2 (⟨(zaz.len+1),(zdv zaz.len zaz.get (fun _=>y2))⟩:Sl straight) (addN (zam [(s79 y2).Slope.Num,(s79 y2).Slope.Den,(s79 y2).Start.Num,(s79 y2).Start.Den]) zas) (zlU [(s79 y2).Slope.Num,(s79 y2).Slope.Den,(s79 y2).Start.Num,(s79 y2).Start.Den] [1] zam)))
 (P2 zaz zas zam)))
 (P2 zaz zas zam)))
def zfp (zaa : (Sl Gate)) : List straight → (Sl straight) → Nat → (List Int → Option (List Int)) → set
  | []=>zqN zaa
  | y :: r=>zjY zaa y (zfp zaa r)
def zfq (zaa : (Sl Gate)) : List straight → (Sl straight) → Nat → (List Int → Option (List Int)) → Bool
  | []=>zqO zaa
  | y :: r=>zjZ zaa y (zfq zaa r)
def zqP (zaa:(Sl Gate)) (zaz:(Sl straight)) (zas:Nat) (zam:(List Int→Option (List Int))):set:=zfp zaa (zCW (⟨zaa⟩:list)) zaz zas zam
def znf (zaa:(Sl Gate)) (zaz:(Sl straight)) (zas:Nat) (zam:(List Int→Option (List Int))):Bool:=decide ((zEO (⟨zaa⟩:list)=true)) && zfq zaa (zCW (⟨zaa⟩:list)) zaz zas zam
theorem zEU (K:List PA→Prop) (zaa:(Sl Gate)) (zaz:(Sl straight)) (zas:Nat) (zam:(List Int→Option (List Int))) (zcg:Nat→List PV) (zhK:zcg=fun i=>zaf (zaz.get i)) (hs:znf zaa zaz zas zam=true) (hk:K (e65 (zqP zaa zaz zas zam))):zjX (Wk K) zaa zaz.len zcg zas zam:=by
  unfold znf at hs
  rw [Bool.and_eq_true] at hs
  obtain ⟨hsf,hs⟩:=hs
  have hc:=of_decide_eq_true hsf
  refine zwH (Wk K) zaa zaz.len zcg zas zam ⟨isE,hc⟩ ?_
  intro X2 hexit hstep
  have key:∀ (l:List straight) (zaz:(Sl straight)) (zas:Nat) (zam:(List Int→Option (List Int))) (zcg:Nat→List PV) (zhK:zcg=fun i=>zaf (zaz.get i)),zfq zaa l zaz zas zam=true→K (e65 (zfp zaa l zaz zas zam))→X2 (l.map fun y=>[.agg (zaf y)]) (zfn zaa zaz.len zcg zas zam):=by
    intro l
    induction l with
    | nil =>
      intro zaz zas zam zcg zhK hs hk
      subst zhK
      refine hexit zaz zas zam ?_
      have hs:zqO zaa zaz zas zam=true:=hs
      have hk:K (e65 (zqN zaa zaz zas zam)):=hk
      unfold zqO at hs
      unfold zqN at hk
      exact (zep hk)
    | cons y2 l ih =>
      intro zaz zas zam zcg zhK hs hk
      subst zhK
      refine hstep y2 _ zaz zas zam ?_
      have hs:zjZ zaa y2 (zfq zaa l) zaz zas zam=true:=hs
      have hk:K (e65 (zjY zaa y2 (zfp zaa l) zaz zas zam)):=hk
      unfold zjZ at hs
      unfold zjY at hk
      generalize zfp zaa l=S2 at hk ih
      generalize zfq zaa l=P2 at hs ih
      have hX2:=ih
      exact (zaw hs fun hc hs => ⟨hc, (zcu (K := fun r => K (e65 r))
 (fun hs hk => (zaw hs fun hc hs => ⟨⟨isE, isE, hc⟩, (zcu (K := fun r => K (e65 r))
 (fun hs hk=>(zaw hs fun hc hs=>⟨hc,(hX2 (⟨(zaz.len+1),(zdv zaz.len zaz.get (fun _=>y2))⟩:Sl straight) (addN (zam [(s79 y2).Slope.Num,(s79 y2).Slope.Den,(s79 y2).Start.Num,(s79 y2).Start.Den]) zas) (zlU [(s79 y2).Slope.Num,(s79 y2).Slope.Den,(s79 y2).Start.Num,(s79 y2).Start.Den] [1] zam) (appG zaz.len (fun i=>zaf (zaz.get i)) (fun _=>(zaf y2))) (zjJ (enc:=zaf) (f:=zaz.get) (h:=(fun _=>y2)) rfl rfl) hs hk)⟩))
 (fun hs hk=>(hX2 zaz zas zam (fun i=>zaf (zaz.get i)) rfl hs hk)) hs hk)⟩))
 (fun hs hk=>(hX2 zaz zas zam (fun i=>zaf (zaz.get i)) rfl hs hk)) hs hk)⟩)
  exact key _ zaz zas zam zcg zhK hs hk
def zng (zaa:(Sl Gate)):set :=
  (zqP zaa (⟨0,(fun _=>default)⟩:Sl straight) 0 (fun _=>none))
def znh (zaa:(Sl Gate)):Bool :=
  (znf zaa (⟨0,(fun _=>default)⟩:Sl straight) 0 (fun _=>none))
theorem zEV (K:List PA→Prop) (zaa:(Sl Gate)) (hs:znh zaa=true) (hk:K (e65 (zng zaa))):zne (Wk K) zaa:=by
  refine zay (zET (Wk K) zaa) ?_
  unfold znh at hs
  unfold zng at hk
  exact ⟨isE,(zEU K zaa (⟨0,(fun _=>default)⟩:Sl straight) 0 (fun _=>none) (fun i=>zaf ((fun _=>default) i)) rfl hs hk)⟩
def zni (zaa:(Sl Gate)) (zaL:Bool):set :=
  (cond zaL
 (⟨(⟨zaa⟩:list),(⟨0,fun _=>default⟩:(Sl straight))⟩:set)
 (zng zaa))
def znj (zaa:(Sl Gate)) (zaL:Bool):Bool :=
  (cond zaL
 true
 (znh zaa))
theorem zEW (K:List PA→Prop) (zaa:(Sl Gate)) (zaL:Bool) (hs:znj zaa zaL=true) (hk:K (e65 (zni zaa zaL))):znd (Wk K) zaa zaL:=by
  refine zay (zES (Wk K) zaa zaL) ?_
  unfold znj at hs
  unfold zni at hk
  exact (zcu (K := fun r => K (e65 r))
 (fun hs hk=>(wk hk (zdh (.agg (zdh (.rfl _) (zdh (.nil _ _) zhv))) zhv)))
 (fun hs hk=>(zEV K zaa hs hk)) hs hk)
def s65 (zaa:(Sl Gate)):set :=
  (zni zaa (s67 (⟨zaa⟩:list)))
def p65 (zaa:(Sl Gate)):Bool :=
  (decide ((p67 (⟨zaa⟩:list)=true)) &&
 (znj zaa (s67 (⟨zaa⟩:list))))
theorem q65 (zaa:(Sl Gate)) (K:List PA→Prop) (hs:p65 zaa=true) (hk:K (e65 (s65 zaa))):vcFun Try.prog G65 zg4 65 [.one (.sl zaa.len 3 (fun i=>enc_55 (zaa.get i)))] (Wk K):=by
  refine zay (zER zaa (Wk K)) ?_
  unfold p65 at hs
  unfold s65 at hk
  exact (zaw hs fun hc hs=>⟨⟨isE,hc⟩,(zEW K zaa (s67 (⟨zaa⟩:list)) hs hk)⟩)
def zwI : List PA → COut
  | [.one (.sl a0_n a0_s a0_g)]=>.det (IsE enc_55 3 a0_s a0_g∧p65 (⟨a0_n,zad a0_g⟩:(Sl Gate))=true) [.agg [.sl ((s65 (⟨a0_n,zad a0_g⟩:(Sl Gate))).list.Gates.len) 3 (fun i=>enc_55 ((s65 (⟨a0_n,zad a0_g⟩:(Sl Gate))).list.Gates.get i)),.sl ((s65 (⟨a0_n,zad a0_g⟩:(Sl Gate))).corners.len) 3 (fun i=>zaf ((s65 (⟨a0_n,zad a0_g⟩:(Sl Gate))).corners.get i))]]
  | _=>.no
theorem zJs:zai Try.prog 65:=⟨_,rfl,rfl,by kernel_rfl⟩
theorem zMd:Ok Try.prog 65 zwI:=zhw zMc zJs fun args K h=>by
  unfold zwI at h
  split at h
  · rename_i a0_n a0_s a0_g
    obtain ⟨⟨⟨rfl,a0_f,rfl⟩,hs⟩,hk⟩:=h
    try rw [zae a0_f] at hs
    try rw [zae a0_f] at hk
    exact ⟨_,zfj zf2 _,(fun _ _=>[]),(fun l=>Nat.beq l 14),zg4,q65 (⟨a0_n,a0_f⟩:(Sl Gate)) K hs hk⟩
  · exact h.elim
abbrev T66:Tabs:=((Tabs.nil.addF 67 zpe).addF 98 zBl)
theorem zMe:TabsOk Try.prog T66:=((TabsOk.nil.addF zIU).addF zNB)
abbrev G66:Ctrs:=csm T66 (fun _ _=>[]) (fun _=>false)
def zJt:Ann:=⟨19,[(0,zK [1] [1]),(1,zK [1,3] [1,3]),(2,zK [1,3,9] [1,3]),(3,zK [2] []),(4,zK [2] [])],
 [],
 [],
 [],[]⟩
abbrev R66:=Bool
abbrev e66 (r:R66):List PA:=[.one (.bool r)]
section
variable {K:List PA→Prop} {s:set}
def s66 (s:set):Bool :=
  (cond (s67 s.list)
 (decide ((s98 s.list).Low≤(s98 s.list).High))
 (decide ((s.corners.len:Int) > (0:Int))))
def p66 (s:set):Bool :=
  (decide ((p98 s.list=true)) &&
 (decide ((p67 s.list=true)) &&
 true))
end
theorem q66 (s:set) (K:List PA→Prop) (hs:p66 s=true) (hk:K (e66 (s66 s))):vcFun Try.prog G66 zJt 66 [.agg (za3 s)] K :=
  zay (by kernel_rfl) (zaw hs fun hc hs=>And.intro (And.intro (zE enc_55 3 s.list.Gates.get) hc) (zaw hs fun hc hs=>And.intro (And.intro (zE enc_55 3 s.list.Gates.get) hc) (zt hk (fun hk=>hk) (fun hk=>hk))))
def zwJ : List PA → COut
  | [.agg [.sl a0_list_Gates_n a0_list_Gates_s a0_list_Gates_g,.sl a0_corners_n a0_corners_s a0_corners_g]]=>.det (IsE enc_55 3 a0_list_Gates_s a0_list_Gates_g∧IsE zaf 3 a0_corners_s a0_corners_g∧p66 (⟨(⟨(⟨a0_list_Gates_n,zad a0_list_Gates_g⟩:(Sl Gate))⟩:list),(⟨a0_corners_n,zaX a0_corners_g⟩:(Sl straight))⟩:set)=true) [.one (.bool (s66 (⟨(⟨(⟨a0_list_Gates_n,zad a0_list_Gates_g⟩:(Sl Gate))⟩:list),(⟨a0_corners_n,zaX a0_corners_g⟩:(Sl straight))⟩:set)))]
  | _=>.no
theorem zJu:zai Try.prog 66:=⟨_,rfl,rfl,by kernel_rfl⟩
theorem zMf:Ok Try.prog 66 zwJ:=zaN zMe zJu fun args K h=>by
  unfold zwJ at h
  split at h
  · rename_i a0_list_Gates_n a0_list_Gates_s a0_list_Gates_g a0_corners_n a0_corners_s a0_corners_g
    obtain ⟨⟨⟨rfl,a0_list_Gates_f,rfl⟩,⟨rfl,a0_corners_f,rfl⟩,hs⟩,hk⟩:=h
    try rw [zae a0_list_Gates_f] at hs
    try rw [zae a0_list_Gates_f] at hk
    try rw [zaQ a0_corners_f] at hs
    try rw [zaQ a0_corners_f] at hk
    exact ⟨(fun _ _=>[]),(fun _=>false),zJt,q66 (⟨(⟨(⟨a0_list_Gates_n,a0_list_Gates_f⟩:(Sl Gate))⟩:list),(⟨a0_corners_n,a0_corners_f⟩:(Sl straight))⟩:set) K hs hk⟩
  · exact h.elim
abbrev T76:Tabs:=Tabs.nil
theorem zMg:TabsOk Try.prog T76:=TabsOk.nil
abbrev G76:Ctrs:=csm T76 (fun _ _=>[]) (fun _=>false)
def zJv:Ann:=⟨11,[(0,zK [1,2] [2]),(1,zK [3] [])],
 [],
 [],
 [],[]⟩
abbrev R76:=Bool
abbrev e76 (r:R76):List PA:=[.one (.bool r)]
section
variable {K:List PA→Prop} {c0:Int} {l_a0:list}
def s76 (c0:Int) (l_a0:list):Bool :=
  ((l_a0.Gates.get 0).Z == c0)
def p76 (c0:Int) (l_a0:list):Bool :=
  (decide ((0≤(0:Int)∧(0:Int) < (l_a0.Gates.len:Int))) &&
 true)
end
theorem q76 (c0:Int) (l_a0:list) (K:List PA→Prop) (hs:p76 c0 l_a0=true) (hk:K (e76 (s76 c0 l_a0))):vcFun Try.prog G76 zJv 76 [.agg (zce l_a0),.one (.fp (zaj c0) 0)] K :=
  zay (by kernel_rfl) (zaw hs fun hc hs=>And.intro hc hk)
def zEX : List PA → COut
  | [.agg [.sl a0_Gates_n a0_Gates_s a0_Gates_g],.one (.fp [.int .i64 c0] 0)]=>.det (IsE enc_55 3 a0_Gates_s a0_Gates_g∧p76 c0 (⟨(⟨a0_Gates_n,zad a0_Gates_g⟩:(Sl Gate))⟩:list)=true) [.one (.bool (s76 c0 (⟨(⟨a0_Gates_n,zad a0_Gates_g⟩:(Sl Gate))⟩:list)))]
  | _=>.no
theorem zJw:zai Try.prog 76:=⟨_,rfl,rfl,by kernel_rfl⟩
theorem zPg:Ok Try.prog 76 zEX:=zaN zMg zJw fun args K h=>by
  unfold zEX at h
  split at h
  · rename_i a0_Gates_n a0_Gates_s a0_Gates_g c0
    obtain ⟨⟨⟨rfl,a0_Gates_f,rfl⟩,hs⟩,hk⟩:=h
    try rw [zae a0_Gates_f] at hs
    try rw [zae a0_Gates_f] at hk
    exact ⟨(fun _ _=>[]),(fun _=>false),zJv,q76 c0 (⟨(⟨a0_Gates_n,a0_Gates_f⟩:(Sl Gate))⟩:list) K hs hk⟩
  · exact h.elim
abbrev T77:Tabs:=Tabs.nil
theorem zMh:TabsOk Try.prog T77:=TabsOk.nil
abbrev G77:Ctrs:=csm T77 (fun _ _=>[]) (fun _=>false)
def zJx:Ann:=⟨3,[(0,zK [] []),(1,zK [2] [])],
 [],
 [],
 [],[]⟩
abbrev R77:=Bool
abbrev e77 (r:R77):List PA:=[.one (.bool r)]
section
variable {K:List PA→Prop} {a0_a0:list}
def s77 (a0_a0:list):Bool :=
  false
end
theorem q77 (a0_a0:list) (K:List PA→Prop) (hk:K (e77 (s77 a0_a0))):vcFun Try.prog G77 zJx 77 [.agg (zce a0_a0)] K :=
  zay (by kernel_rfl) hk
def zEY : List PA → COut
  | [.agg [.sl a0_Gates_n a0_Gates_s a0_Gates_g]]=>.det (IsE enc_55 3 a0_Gates_s a0_Gates_g) [.one (.bool (s77 (⟨(⟨a0_Gates_n,zad a0_Gates_g⟩:(Sl Gate))⟩:list)))]
  | _=>.no
theorem zJy:zai Try.prog 77:=⟨_,rfl,rfl,by kernel_rfl⟩
theorem zPh:Ok Try.prog 77 zEY:=zaN zMh zJy fun args K h=>by
  unfold zEY at h
  split at h
  · rename_i a0_Gates_n a0_Gates_s a0_Gates_g
    obtain ⟨⟨rfl,a0_Gates_f,rfl⟩,hk⟩:=h
    try rw [zae a0_Gates_f] at hk
    exact ⟨(fun _ _=>[]),(fun _=>false),zJx,q77 (⟨(⟨a0_Gates_n,a0_Gates_f⟩:(Sl Gate))⟩:list) K hk⟩
  · exact h.elim
abbrev T88:Tabs:=Tabs.nil
theorem zMi:TabsOk Try.prog T88:=TabsOk.nil
abbrev G88:Ctrs:=csm T88 (fun _ _=>[]) (fun _=>false)
def zJz:Ann:=⟨3,[(0,zK [] []),(1,zK [2] [])],
 [],
 [],
 [],[]⟩
abbrev R88:=Bool
abbrev e88 (r:R88):List PA:=[.one (.bool r)]
section
variable {K:List PA→Prop} {a0_a0:list}
def s88 (a0_a0:list):Bool :=
  true
end
theorem q88 (a0_a0:list) (K:List PA→Prop) (hk:K (e88 (s88 a0_a0))):vcFun Try.prog G88 zJz 88 [.agg (zce a0_a0)] K :=
  zay (by kernel_rfl) hk
def zEZ : List PA → COut
  | [.agg [.sl a0_Gates_n a0_Gates_s a0_Gates_g]]=>.det (IsE enc_55 3 a0_Gates_s a0_Gates_g) [.one (.bool (s88 (⟨(⟨a0_Gates_n,zad a0_Gates_g⟩:(Sl Gate))⟩:list)))]
  | _=>.no
theorem zJA:zai Try.prog 88:=⟨_,rfl,rfl,by kernel_rfl⟩
theorem zPi:Ok Try.prog 88 zEZ:=zaN zMi zJA fun args K h=>by
  unfold zEZ at h
  split at h
  · rename_i a0_Gates_n a0_Gates_s a0_Gates_g
    obtain ⟨⟨rfl,a0_Gates_f,rfl⟩,hk⟩:=h
    try rw [zae a0_Gates_f] at hk
    exact ⟨(fun _ _=>[]),(fun _=>false),zJz,q88 (⟨(⟨a0_Gates_n,a0_Gates_f⟩:(Sl Gate))⟩:list) K hk⟩
  · exact h.elim
abbrev T75:Tabs:=(((((((Tabs.nil.addF 64 zuz).addF 65 zwI).addF 66 zwJ).addF 67 zpe).addF 76 zEX).addF 77 zEY).addF 88 zEZ)
theorem zMj:TabsOk Try.prog T75:=(((((((TabsOk.nil.addF zLh).addF zMd).addF zMf).addF zIU).addF zPg).addF zPh).addF zPi)
abbrev G75:Ctrs:=csm T75 (fun _ _=>[]) (fun _=>false)
def zE0:Ann:=⟨31,[(0,zK [0,1,4] [4]),(1,zK [0,1,4,9] [4]),(2,zK [4,5] [4]),(3,zK [1,4,6] [4,6]),(4,zK [1,4,6,13] [4,6]),(5,zK [4,5] [4]),(6,zK [4,6,18] [4,6]),(7,zK [4,5] [4]),(8,zK [4,5] [4])],
 [],
 [(3,zK [0,1,4] [4])],
 [],[]⟩
abbrev R75:=(set×Int)
abbrev e75 (r:R75):List PA:=[.agg [.sl r.1.list.Gates.len 3 (fun i=>enc_55 (r.1.list.Gates.get i)),.sl r.1.corners.len 3 (fun i=>zaf (r.1.corners.get i))],.one (.int .i64 r.2)]
@[irreducible] def z75:=ptF Try.prog G75 zE0 Try.f75
section
variable {K:List PA→Prop} {zaa:(Sl Gate)}
def zqQ (zaa:(Sl Gate)):(set×Int) :=
  (cond (!(s66 (s65 zaa)))
 ((⟨(⟨(⟨0,fun _=>default⟩:(Sl Gate))⟩:list),(⟨0,fun _=>default⟩:(Sl straight))⟩:set),(5:Int))
 (cond (s67 ((s65 zaa).list))
 (cond (!(s77 ((s65 zaa).list)))
 ((⟨(⟨(⟨0,fun _=>default⟩:(Sl Gate))⟩:list),(⟨0,fun _=>default⟩:(Sl straight))⟩:set),(6:Int))
 ((s65 zaa),(0:Int)))
 ((s65 zaa),(0:Int))))
def zqR (zaa:(Sl Gate)):Bool :=
  (decide ((p65 zaa=true)) &&
 (decide ((p66 (s65 zaa)=true)) &&
 (cond (!(s66 (s65 zaa)))
 true
 (decide ((p67 ((s65 zaa).list)=true)) &&
 true))))
theorem zE1 (hs:zqR zaa=true) (hk:K (e75 (zqQ zaa))):z75 (Wk K) [1,1] [] ⟨[(0,zS enc_55 3 zaa),(1,zP (.fn 77 [] [])),(4,zp 4 0)],[(4,.box 104 [.p (.nils),.p (.nils)])],[]⟩:=zay (by kernel_rfl) (zaw hs fun hc hs=>And.intro (And.intro (zE enc_55 3 zaa.get) hc) (zaw hs fun hc hs=>And.intro (And.intro (zE enc_55 3 ((s65 zaa).list.Gates.get)) (And.intro (zE zaf 3 ((s65 zaa).corners.get)) hc)) (zc hs hk (fun hs hk=>((wk hk (zdh (.agg (zdh (.nil _ _) (zdh (.nil _ _) zhv))) (zdh (.one (.rfl _)) zhv))):Wk K [.agg [.nils,.nils],.one (.int .i64 (5:Int))])) (fun hs hk=>(zaw hs fun hc hs=>And.intro (And.intro (zE enc_55 3 ((s65 zaa).list.Gates.get)) hc) (zt hk (fun hk=>(And.intro (zE enc_55 3 ((s65 zaa).list.Gates.get)) (zt hk (fun hk=>((wk hk (zdh (.agg (zdh (.nil _ _) (zdh (.nil _ _) zhv))) (zdh (.one (.rfl _)) zhv))):Wk K [.agg [.nils,.nils],.one (.int .i64 (6:Int))])) (fun hk=>((zep hk):Wk K [.agg [.sl ((s65 zaa).list.Gates.len) 3 (fun i=>enc_55 ((s65 zaa).list.Gates.get i)),.sl ((s65 zaa).corners.len) 3 (fun i=>zaf ((s65 zaa).corners.get i))],.one (.int .i64 (0:Int))]))))) (fun hk=>((zep hk):Wk K [.agg [.sl ((s65 zaa).list.Gates.len) 3 (fun i=>enc_55 ((s65 zaa).list.Gates.get i)),.sl ((s65 zaa).corners.len) 3 (fun i=>zaf ((s65 zaa).corners.get i))],.one (.int .i64 (0:Int))]))))))))
def s75 (zaa:(Sl Gate)):(set×Int) :=
  (cond (!(s64 zaa))
 ((⟨(⟨(⟨0,fun _=>default⟩:(Sl Gate))⟩:list),(⟨0,fun _=>default⟩:(Sl straight))⟩:set),(2:Int))
 (zqQ zaa))
def p75 (zaa:(Sl Gate)):Bool :=
  (decide ((p64 zaa=true)) &&
 (cond (!(s64 zaa))
 true
 (zqR zaa)))
end
theorem q75 (zaa:(Sl Gate)) (K:List PA→Prop) (hs:p75 zaa=true) (hk:K (e75 (s75 zaa))):vcFun Try.prog G75 zE0 75 [.one (.sl zaa.len 3 (fun i=>enc_55 (zaa.get i))),.one (.fn 77 [] [])] (Wk K) :=
  zay (by kernel_rfl) (zaw hs fun hc hs=>And.intro (And.intro (zE enc_55 3 zaa.get) hc) (zc hs hk (fun hs hk=>((wk hk (zdh (.agg (zdh (.nil _ _) (zdh (.nil _ _) zhv))) (zdh (.one (.rfl _)) zhv))):Wk K [.agg [.nils,.nils],.one (.int .i64 (2:Int))])) (fun hs hk=>(zE1 hs hk))))
abbrev zNQ:Ctrs:=csm T75 (fun _ _=>[]) (fun _=>false)
def zwK:Ann:=⟨31,[(0,zK [0,1,4] [4]),(1,zK [0,1,4,9] [4]),(2,zK [4,5] [4]),(3,zK [1,4,6] [4,6]),(4,zK [1,4,6,13] [4,6]),(5,zK [4,5] [4]),(6,zK [4,6,18] [4,6]),(7,zK [4,5] [4]),(8,zK [4,5] [4])],
 [],
 [(3,zK [0,1,4] [4])],
 [],[]⟩
abbrev zPj:=(set×Int)
abbrev zNR (r:zPj):List PA:=[.agg [.sl r.1.list.Gates.len 3 (fun i=>enc_55 (r.1.list.Gates.get i)),.sl r.1.corners.len 3 (fun i=>zaf (r.1.corners.get i))],.one (.int .i64 r.2)]
@[irreducible] def z75a:=ptF Try.prog zNQ zwK Try.f75
section
variable {K:List PA→Prop} {c0:Int} {zaa:(Sl Gate)}
def znk (c0:Int) (zaa:(Sl Gate)):(set×Int) :=
  (cond (!(s66 (s65 zaa)))
 ((⟨(⟨(⟨0,fun _=>default⟩:(Sl Gate))⟩:list),(⟨0,fun _=>default⟩:(Sl straight))⟩:set),(5:Int))
 (cond (s67 ((s65 zaa).list))
 (cond (!(s76 c0 ((s65 zaa).list)))
 ((⟨(⟨(⟨0,fun _=>default⟩:(Sl Gate))⟩:list),(⟨0,fun _=>default⟩:(Sl straight))⟩:set),(6:Int))
 ((s65 zaa),(0:Int)))
 ((s65 zaa),(0:Int))))
def znl (c0:Int) (zaa:(Sl Gate)):Bool :=
  (decide ((p65 zaa=true)) &&
 (decide ((p66 (s65 zaa)=true)) &&
 (cond (!(s66 (s65 zaa)))
 true
 (decide ((p67 ((s65 zaa).list)=true)) &&
 (cond (s67 ((s65 zaa).list))
 (decide ((p76 c0 ((s65 zaa).list)=true)) &&
 true)
 true)))))
theorem zBB (hs:znl c0 zaa=true) (hk:K (zNR (znk c0 zaa))):z75a (Wk K) [1,1] [] ⟨[(0,zS enc_55 3 zaa),(1,zP (.fn 76 [] [.fp (zaj c0) 0])),(4,zp 4 0)],[(4,.box 104 [.p (.nils),.p (.nils)])],[]⟩:=zay (by kernel_rfl) (zaw hs fun hc hs=>And.intro (And.intro (zE enc_55 3 zaa.get) hc) (zaw hs fun hc hs=>And.intro (And.intro (zE enc_55 3 ((s65 zaa).list.Gates.get)) (And.intro (zE zaf 3 ((s65 zaa).corners.get)) hc)) (zc hs hk (fun hs hk=>((wk hk (zdh (.agg (zdh (.nil _ _) (zdh (.nil _ _) zhv))) (zdh (.one (.rfl _)) zhv))):Wk K [.agg [.nils,.nils],.one (.int .i64 (5:Int))])) (fun hs hk=>(zaw hs fun hc hs=>And.intro (And.intro (zE enc_55 3 ((s65 zaa).list.Gates.get)) hc) (zc hs hk (fun hs hk=>(zaw hs fun hc hs=>And.intro (And.intro (zE enc_55 3 ((s65 zaa).list.Gates.get)) hc) (zt hk (fun hk=>((wk hk (zdh (.agg (zdh (.nil _ _) (zdh (.nil _ _) zhv))) (zdh (.one (.rfl _)) zhv))):Wk K [.agg [.nils,.nils],.one (.int .i64 (6:Int))])) (fun hk=>((zep hk):Wk K [.agg [.sl ((s65 zaa).list.Gates.len) 3 (fun i=>enc_55 ((s65 zaa).list.Gates.get i)),.sl ((s65 zaa).corners.len) 3 (fun i=>zaf ((s65 zaa).corners.get i))],.one (.int .i64 (0:Int))]))))) (fun hs hk=>((zep hk):Wk K [.agg [.sl ((s65 zaa).list.Gates.len) 3 (fun i=>enc_55 ((s65 zaa).list.Gates.get i)),.sl ((s65 zaa).corners.len) 3 (fun i=>zaf ((s65 zaa).corners.get i))],.one (.int .i64 (0:Int))]))))))))
def zpK (c0:Int) (zaa:(Sl Gate)):(set×Int) :=
  (cond (!(s64 zaa))
 ((⟨(⟨(⟨0,fun _=>default⟩:(Sl Gate))⟩:list),(⟨0,fun _=>default⟩:(Sl straight))⟩:set),(2:Int))
 (znk c0 zaa))
def zE2 (c0:Int) (zaa:(Sl Gate)):Bool :=
  (decide ((p64 zaa=true)) &&
 (cond (!(s64 zaa))
 true
 (znl c0 zaa)))
end
theorem zPk (c0:Int) (zaa:(Sl Gate)) (K:List PA→Prop) (hs:zE2 c0 zaa=true) (hk:K (zNR (zpK c0 zaa))):vcFun Try.prog zNQ zwK 75 [.one (.sl zaa.len 3 (fun i=>enc_55 (zaa.get i))),.one (.fn 76 [] [.fp (zaj c0) 0])] (Wk K) :=
  zay (by kernel_rfl) (zaw hs fun hc hs=>And.intro (And.intro (zE enc_55 3 zaa.get) hc) (zc hs hk (fun hs hk=>((wk hk (zdh (.agg (zdh (.nil _ _) (zdh (.nil _ _) zhv))) (zdh (.one (.rfl _)) zhv))):Wk K [.agg [.nils,.nils],.one (.int .i64 (2:Int))])) (fun hs hk=>(zBB hs hk))))
abbrev zNS:Ctrs:=csm T75 (fun _ _=>[]) (fun _=>false)
def zwL:Ann:=⟨31,[(0,zK [0,1,4] [4]),(1,zK [0,1,4,9] [4]),(2,zK [4,5] [4]),(3,zK [1,4,6] [4,6]),(4,zK [1,4,6,13] [4,6]),(5,zK [4,5] [4]),(6,zK [4,6,18] [4,6]),(7,zK [4,5] [4]),(8,zK [4,5] [4])],
 [],
 [(3,zK [0,1,4] [4])],
 [],[]⟩
abbrev zPl:=(set×Int)
abbrev zNT (r:zPl):List PA:=[.agg [.sl r.1.list.Gates.len 3 (fun i=>enc_55 (r.1.list.Gates.get i)),.sl r.1.corners.len 3 (fun i=>zaf (r.1.corners.get i))],.one (.int .i64 r.2)]
@[irreducible] def z75b:=ptF Try.prog zNS zwL Try.f75
section
variable {K:List PA→Prop} {zaa:(Sl Gate)}
def znm (zaa:(Sl Gate)):(set×Int) :=
  (cond (!(s66 (s65 zaa)))
 ((⟨(⟨(⟨0,fun _=>default⟩:(Sl Gate))⟩:list),(⟨0,fun _=>default⟩:(Sl straight))⟩:set),(5:Int))
 (cond (s67 ((s65 zaa).list))
 (cond (!(s88 ((s65 zaa).list)))
 ((⟨(⟨(⟨0,fun _=>default⟩:(Sl Gate))⟩:list),(⟨0,fun _=>default⟩:(Sl straight))⟩:set),(6:Int))
 ((s65 zaa),(0:Int)))
 ((s65 zaa),(0:Int))))
def znn (zaa:(Sl Gate)):Bool :=
  (decide ((p65 zaa=true)) &&
 (decide ((p66 (s65 zaa)=true)) &&
 (cond (!(s66 (s65 zaa)))
 true
 (decide ((p67 ((s65 zaa).list)=true)) &&
 true))))
theorem zBC (hs:znn zaa=true) (hk:K (zNT (znm zaa))):z75b (Wk K) [1,1] [] ⟨[(0,zS enc_55 3 zaa),(1,zP (.fn 88 [] [])),(4,zp 4 0)],[(4,.box 104 [.p (.nils),.p (.nils)])],[]⟩:=zay (by kernel_rfl) (zaw hs fun hc hs=>And.intro (And.intro (zE enc_55 3 zaa.get) hc) (zaw hs fun hc hs=>And.intro (And.intro (zE enc_55 3 ((s65 zaa).list.Gates.get)) (And.intro (zE zaf 3 ((s65 zaa).corners.get)) hc)) (zc hs hk (fun hs hk=>((wk hk (zdh (.agg (zdh (.nil _ _) (zdh (.nil _ _) zhv))) (zdh (.one (.rfl _)) zhv))):Wk K [.agg [.nils,.nils],.one (.int .i64 (5:Int))])) (fun hs hk=>(zaw hs fun hc hs=>And.intro (And.intro (zE enc_55 3 ((s65 zaa).list.Gates.get)) hc) (zt hk (fun hk=>(And.intro (zE enc_55 3 ((s65 zaa).list.Gates.get)) (zt hk (fun hk=>((wk hk (zdh (.agg (zdh (.nil _ _) (zdh (.nil _ _) zhv))) (zdh (.one (.rfl _)) zhv))):Wk K [.agg [.nils,.nils],.one (.int .i64 (6:Int))])) (fun hk=>((zep hk):Wk K [.agg [.sl ((s65 zaa).list.Gates.len) 3 (fun i=>enc_55 ((s65 zaa).list.Gates.get i)),.sl ((s65 zaa).corners.len) 3 (fun i=>zaf ((s65 zaa).corners.get i))],.one (.int .i64 (0:Int))]))))) (fun hk=>((zep hk):Wk K [.agg [.sl ((s65 zaa).list.Gates.len) 3 (fun i=>enc_55 ((s65 zaa).list.Gates.get i)),.sl ((s65 zaa).corners.len) 3 (fun i=>zaf ((s65 zaa).corners.get i))],.one (.int .i64 (0:Int))]))))))))
def zAm (zaa:(Sl Gate)):(set×Int) :=
  (cond (!(s64 zaa))
 ((⟨(⟨(⟨0,fun _=>default⟩:(Sl Gate))⟩:list),(⟨0,fun _=>default⟩:(Sl straight))⟩:set),(2:Int))
 (znm zaa))
def zHX (zaa:(Sl Gate)):Bool :=
  (decide ((p64 zaa=true)) &&
 (cond (!(s64 zaa))
 true
 (znn zaa)))
end
theorem zPm (zaa:(Sl Gate)) (K:List PA→Prop) (hs:zHX zaa=true) (hk:K (zNT (zAm zaa))):vcFun Try.prog zNS zwL 75 [.one (.sl zaa.len 3 (fun i=>enc_55 (zaa.get i))),.one (.fn 88 [] [])] (Wk K) :=
  zay (by kernel_rfl) (zaw hs fun hc hs=>And.intro (And.intro (zE enc_55 3 zaa.get) hc) (zc hs hk (fun hs hk=>((wk hk (zdh (.agg (zdh (.nil _ _) (zdh (.nil _ _) zhv))) (zdh (.one (.rfl _)) zhv))):Wk K [.agg [.nils,.nils],.one (.int .i64 (2:Int))])) (fun hs hk=>(zBC hs hk))))
def zuC : List PA → COut
  | [.one (.sl a0_n a0_s a0_g),.one (.fn 77 [] [])]=>.det (IsE enc_55 3 a0_s a0_g∧p75 (⟨a0_n,zad a0_g⟩:(Sl Gate))=true) [.agg [.sl (((s75 (⟨a0_n,zad a0_g⟩:(Sl Gate))).1).list.Gates.len) 3 (fun i=>enc_55 (((s75 (⟨a0_n,zad a0_g⟩:(Sl Gate))).1).list.Gates.get i)),.sl (((s75 (⟨a0_n,zad a0_g⟩:(Sl Gate))).1).corners.len) 3 (fun i=>zaf (((s75 (⟨a0_n,zad a0_g⟩:(Sl Gate))).1).corners.get i))],.one (.int .i64 ((s75 (⟨a0_n,zad a0_g⟩:(Sl Gate))).2))]
  | [.one (.sl a0_n a0_s a0_g),.one (.fn 76 [] [.fp [.int .i64 c0] 0])]=>.det (IsE enc_55 3 a0_s a0_g∧zE2 c0 (⟨a0_n,zad a0_g⟩:(Sl Gate))=true) [.agg [.sl (((zpK c0 (⟨a0_n,zad a0_g⟩:(Sl Gate))).1).list.Gates.len) 3 (fun i=>enc_55 (((zpK c0 (⟨a0_n,zad a0_g⟩:(Sl Gate))).1).list.Gates.get i)),.sl (((zpK c0 (⟨a0_n,zad a0_g⟩:(Sl Gate))).1).corners.len) 3 (fun i=>zaf (((zpK c0 (⟨a0_n,zad a0_g⟩:(Sl Gate))).1).corners.get i))],.one (.int .i64 ((zpK c0 (⟨a0_n,zad a0_g⟩:(Sl Gate))).2))]
  | [.one (.sl a0_n a0_s a0_g),.one (.fn 88 [] [])]=>.det (IsE enc_55 3 a0_s a0_g∧zHX (⟨a0_n,zad a0_g⟩:(Sl Gate))=true) [.agg [.sl (((zAm (⟨a0_n,zad a0_g⟩:(Sl Gate))).1).list.Gates.len) 3 (fun i=>enc_55 (((zAm (⟨a0_n,zad a0_g⟩:(Sl Gate))).1).list.Gates.get i)),.sl (((zAm (⟨a0_n,zad a0_g⟩:(Sl Gate))).1).corners.len) 3 (fun i=>zaf (((zAm (⟨a0_n,zad a0_g⟩:(Sl Gate))).1).corners.get i))],.one (.int .i64 ((zAm (⟨a0_n,zad a0_g⟩:(Sl Gate))).2))]
  | _=>.no
theorem zJB:zai Try.prog 75:=⟨_,rfl,rfl,by kernel_rfl⟩
theorem zMk:Ok Try.prog 75 zuC:=zhw zMj zJB fun args K h=>by
  unfold zuC at h
  split at h
  · rename_i a0_n a0_s a0_g
    obtain ⟨⟨⟨rfl,a0_f,rfl⟩,hs⟩,hk⟩:=h
    try rw [zae a0_f] at hs
    try rw [zae a0_f] at hk
    exact ⟨_,zfj zf2 _,(fun _ _=>[]),(fun _=>false),zE0,q75 (⟨a0_n,a0_f⟩:(Sl Gate)) K hs hk⟩
  · rename_i a0_n a0_s a0_g c0
    obtain ⟨⟨⟨rfl,a0_f,rfl⟩,hs⟩,hk⟩:=h
    try rw [zae a0_f] at hs
    try rw [zae a0_f] at hk
    exact ⟨_,zfj zf2 _,(fun _ _=>[]),(fun _=>false),zwK,zPk c0 (⟨a0_n,a0_f⟩:(Sl Gate)) K hs hk⟩
  · rename_i a0_n a0_s a0_g
    obtain ⟨⟨⟨rfl,a0_f,rfl⟩,hs⟩,hk⟩:=h
    try rw [zae a0_f] at hs
    try rw [zae a0_f] at hk
    exact ⟨_,zfj zf2 _,(fun _ _=>[]),(fun _=>false),zwL,zPm (⟨a0_n,a0_f⟩:(Sl Gate)) K hs hk⟩
  · exact h.elim
abbrev T30:Tabs:=(((Tabs.nil.addF 68 zwB).addF 74 zqq).addF 75 zuC)
theorem zMl:TabsOk Try.prog T30:=(((TabsOk.nil.addF zNL).addF zIG).addF zMk)
abbrev G30:Ctrs:=csm T30 (fun _ _=>[]) (fun _=>false)
def zE3:Ann:=⟨35,[(0,zK [0,3,4,5] [3,4,5]),(1,zK [0,3,4,5,13] [3,4,5]),(2,zK [4,5,6] [4,5]),(3,zK [3,4,5,7,8] [3,4,5,7]),(4,zK [3,4,5,7,8,23] [3,4,5,7]),(5,zK [4,5,6] [4,5]),(6,zK [4,5,9,10] [4,5,9,10]),(7,zK [4,5,6] [4,5])],
 [],
 [(2,zK [0,3,4,5,13] [3,4,5]),(3,zK [0,3,4,5] [3,4,5]),(4,zK [3,4,5,7,8] [3,4,5,7]),(6,zK [3,4,5,7] [3,4,5,7]),(7,zK [4,5,9,10] [4,5,9,10])],
 [],[]⟩
abbrev R30:=(Frac×Frac×Int)
abbrev e30 (r:R30):List PA:=[.agg [.int .i64 r.1.Num,.int .i64 r.1.Den],.agg [.int .i64 r.2.1.Num,.int .i64 r.2.1.Den],.one (.int .i64 r.2.2)]
@[irreducible] def z30:=ptF Try.prog G30 zE3 Try.f30
section
variable {K:List PA→Prop} {zaa:(Sl Gate)} {z:Int} {zqS:Bool} {ev2:Int} {zno:(Sl Gate)} {znp:(Sl straight)} {zqT:Nat→List PV} {zqU:Nat→List PV} {zhL:(Sl Gate)} {zhM:(Sl straight)} {zqV:Nat→List PV} {zqW:Nat→List PV} {znq:Int} {znr:Int} {ziZ:Int} {zi0:Int}
def zqX (znq:Int) (znr:Int) (ziZ:Int) (zi0:Int):(Frac×Frac×Int) :=
  ((⟨znq,znr⟩:Frac),(⟨ziZ,zi0⟩:Frac),(0:Int))
theorem zE4 (hk:K (e30 (zqX znq znr ziZ zi0))):z30 K [1,1,1,1,1] [] ⟨[(4,zp 4 0),(5,zp 5 0),(9,zp 9 0),(10,zp 10 0)],[(4,.box 25 (zm (zac (⟨(0:Int),(0:Int)⟩:Frac)))),(5,.box 25 (zm (zac (⟨(0:Int),(0:Int)⟩:Frac)))),(9,.box 25 (zm (zac (⟨znq,znr⟩:Frac)))),(10,.box 25 (zm (zac (⟨ziZ,zi0⟩:Frac))))],[]⟩:=zay (by kernel_rfl) hk
def zqY (z:Int) (zhL:(Sl Gate)) (zhM:(Sl straight)):(Frac×Frac×Int) :=
  (zqX (((s68 (⟨(⟨zhL⟩:list),zhM⟩:set) z).1).Num) (((s68 (⟨(⟨zhL⟩:list),zhM⟩:set) z).1).Den) (((s68 (⟨(⟨zhL⟩:list),zhM⟩:set) z).2).Num) (((s68 (⟨(⟨zhL⟩:list),zhM⟩:set) z).2).Den))
def zqZ (z:Int) (zhL:(Sl Gate)) (zhM:(Sl straight)):Bool :=
  (decide ((p68 (⟨(⟨zhL⟩:list),zhM⟩:set) z=true)) &&
 true)
theorem zE5 (hs:zqZ z zhL zhM=true) (hk:K (e30 (zqY z zhL zhM))) (zE6:zqV=zg enc_55 zhL) (zE7:zqW=zg zaf zhM):z30 K [1,1,1,1] [] ⟨[(3,zp 3 0),(4,zp 4 0),(5,zp 5 0),(7,zp 7 0)],[(3,.fbox [.int .i64 z]),(4,.box 25 (zm (zac (⟨(0:Int),(0:Int)⟩:Frac)))),(5,.box 25 (zm (zac (⟨(0:Int),(0:Int)⟩:Frac)))),(7,.box 104 [.p (.sl zhL.len 3 zqV),.p (.sl zhM.len 3 zqW)])],[]⟩:=by subst zE6;subst zE7;exact zay (by kernel_rfl) (zaw hs fun hc hs=>And.intro (And.intro (zE enc_55 3 zhL.get) (And.intro (zE zaf 3 zhM.get) hc)) (zE4 hk))
def zns (z:Int) (ev2:Int) (zno:(Sl Gate)) (znp:(Sl straight)):(Frac×Frac×Int) :=
  (cond (ev2 != (0:Int))
 ((⟨(0:Int),(0:Int)⟩:Frac),(⟨(0:Int),(0:Int)⟩:Frac),ev2)
 (zqY z zno znp))
def znt (z:Int) (ev2:Int) (zno:(Sl Gate)) (znp:(Sl straight)):Bool :=
  (cond (ev2 != (0:Int))
 true
 (zqZ z zno znp))
theorem zE8 (hs:znt z ev2 zno znp=true) (hk:K (e30 (zns z ev2 zno znp))) (zE9:zqT=zg enc_55 zno) (zFa:zqU=zg zaf znp):z30 K [1,1,1] [] ⟨[(3,zp 3 0),(4,zp 4 0),(5,zp 5 0),(7,zp 7 0),(8,zI ev2)],[(3,.fbox [.int .i64 z]),(4,.box 25 (zm (zac (⟨(0:Int),(0:Int)⟩:Frac)))),(5,.box 25 (zm (zac (⟨(0:Int),(0:Int)⟩:Frac)))),(7,.box 104 [.p (.sl zno.len 3 zqT),.p (.sl znp.len 3 zqU)])],[]⟩:=by subst zE9;subst zFa;exact zay (by kernel_rfl) (zc hs hk (fun hs hk=>hk) (fun hs hk=>(zE5 hs hk rfl rfl)))
def zq0 (zaa:(Sl Gate)) (z:Int):(Frac×Frac×Int) :=
  (zns z ((zpK z zaa).2) (((zpK z zaa).1).list.Gates) (((zpK z zaa).1).corners))
def zq1 (zaa:(Sl Gate)) (z:Int):Bool :=
  (decide ((zE2 z zaa=true)) &&
 (znt z ((zpK z zaa).2) (((zpK z zaa).1).list.Gates) (((zpK z zaa).1).corners)))
theorem zFb (hs:zq1 zaa z=true) (hk:K (e30 (zq0 zaa z))):z30 K [1,1] [] ⟨[(0,zS enc_55 3 zaa),(3,zp 3 0),(4,zp 4 0),(5,zp 5 0)],[(3,.box 3 [zi z]),(4,.box 25 (zm (zac (⟨(0:Int),(0:Int)⟩:Frac)))),(5,.box 25 (zm (zac (⟨(0:Int),(0:Int)⟩:Frac))))],[]⟩:=zay (by kernel_rfl) (zaw hs fun hc hs=>And.intro (And.intro (zE enc_55 3 zaa.get) hc) (zE8 hs hk rfl rfl))
def zq2 (zaa:(Sl Gate)) (z:Int) (zqS:Bool):(Frac×Frac×Int) :=
  (cond zqS
 ((⟨(0:Int),(0:Int)⟩:Frac),(⟨(0:Int),(0:Int)⟩:Frac),(2:Int))
 (zq0 zaa z))
def zq3 (zaa:(Sl Gate)) (z:Int) (zqS:Bool):Bool :=
  (cond zqS
 true
 (zq1 zaa z))
theorem zFc (hs:zq3 zaa z zqS=true) (hk:K (e30 (zq2 zaa z zqS))):z30 K [1,0,1] [] ⟨[(0,zS enc_55 3 zaa),(3,zp 3 0),(4,zp 4 0),(5,zp 5 0),(13,zB zqS)],[(3,.box 3 [zi z]),(4,.box 25 (zm (zac (⟨(0:Int),(0:Int)⟩:Frac)))),(5,.box 25 (zm (zac (⟨(0:Int),(0:Int)⟩:Frac))))],[]⟩:=zay (by kernel_rfl) (zc hs hk (fun hs hk=>hk) (fun hs hk=>(zFb hs hk)))
def s30 (zaa:(Sl Gate)) (z:Int):(Frac×Frac×Int) :=
  (zq2 zaa z (!(s74 z (-100000:Int) (200000:Int))))
def p30 (zaa:(Sl Gate)) (z:Int):Bool :=
  (zq3 zaa z (!(s74 z (-100000:Int) (200000:Int))))
end
theorem q30 (zaa:(Sl Gate)) (z:Int) (K:List PA→Prop) (hs:p30 zaa z=true) (hk:K (e30 (s30 zaa z))):vcFun Try.prog G30 zE3 30 [.one (.sl zaa.len 3 (fun i=>enc_55 (zaa.get i))),.one (.int .i64 z)] K :=
  zay (by kernel_rfl) (zFc hs hk)
def zBD : List PA → COut
  | [.one (.sl a0_n a0_s a0_g),.one (.int .i64 a1)]=>.det (IsE enc_55 3 a0_s a0_g∧p30 (⟨a0_n,zad a0_g⟩:(Sl Gate)) a1=true) [.agg [.int .i64 (((s30 (⟨a0_n,zad a0_g⟩:(Sl Gate)) a1).1).Num),.int .i64 (((s30 (⟨a0_n,zad a0_g⟩:(Sl Gate)) a1).1).Den)],.agg [.int .i64 (((s30 (⟨a0_n,zad a0_g⟩:(Sl Gate)) a1).2.1).Num),.int .i64 (((s30 (⟨a0_n,zad a0_g⟩:(Sl Gate)) a1).2.1).Den)],.one (.int .i64 ((s30 (⟨a0_n,zad a0_g⟩:(Sl Gate)) a1).2.2))]
  | _=>.no
theorem zJC:zai Try.prog 30:=⟨_,rfl,rfl,by kernel_rfl⟩
theorem zNU:Ok Try.prog 30 zBD:=zaN zMl zJC fun args K h=>by
  unfold zBD at h
  split at h
  · rename_i a0_n a0_s a0_g a1
    obtain ⟨⟨⟨rfl,a0_f,rfl⟩,hs⟩,hk⟩:=h
    try rw [zae a0_f] at hs
    try rw [zae a0_f] at hk
    exact ⟨(fun _ _=>[]),(fun _=>false),zE3,q30 (⟨a0_n,a0_f⟩:(Sl Gate)) a1 K hs hk⟩
  · exact h.elim
abbrev T84:Tabs:=((Tabs.nil.addF 65 zwI).addF 66 zwJ)
theorem zMm:TabsOk Try.prog T84:=((TabsOk.nil.addF zMd).addF zMf)
abbrev G84:Ctrs:=csm T84 (fun _ _=>[]) (fun _=>false)
def zFd:Ann:=⟨25,[(0,zK [0,1] []),(1,zK [0,1,5] []),(2,zK [0,5,8,9,10] []),(3,zK [0,5,8,9,10,11] [20]),(4,zK [0,5,7,8,9,10] [20]),(5,zK [0,5,8,9,10] [20]),(6,zK [0,5,8,9,10] [20]),(7,zK [4] [])],
 [(3,⟨[0,5,8,9,10],[20],[(5,20,55,fun _=>enc_55 default)],[],[],[],[]⟩)],
 [],
 [],[]⟩
abbrev R84:=Bool
abbrev e84 (r:R84):List PA:=[.one (.bool r)]
@[irreducible] def z84:=ptF Try.prog G84 zFd Try.f84
def zCX (zaa:(Sl Gate)) (l_a1:(Sl Int)) (zc5:Int) (zcx:(Sl Gate)) (zfr:Nat→List PV):St:=⟨[(0,zS enc_55 3 zaa),(5,zv 20),(8,zS zaj 1 l_a1),(9,zI (l_a1.len:Int)),(10,zI zc5)],[(20,.vec 55 3 24 zcx.len zfr)],[]⟩
abbrev zJD (K:List PA→Prop) (zaa:(Sl Gate)) (l_a1:(Sl Int)) (X:St→Prop) (P:Int→(Sl Gate)→Bool) (S:Int→(Sl Gate)→Bool):Prop:=∀ ⦃zc5:Int⦄ ⦃zcx:(Sl Gate)⦄ ⦃zfr:Nat→List PV⦄,P zc5 zcx=true→K (e84 (S zc5 zcx))→zfr=zg enc_55 zcx→X (zCX zaa l_a1 zc5 zcx zfr)
section
variable {K:List PA→Prop} {zaa:(Sl Gate)} {l_a1:(Sl Int)} {zc5:Int} {zcx:(Sl Gate)} {zfr:Nat→List PV} {X0:St→Prop} {P0:Int→(Sl Gate)→Bool} {S0:Int→(Sl Gate)→Bool}
def zhN (zaa:(Sl Gate)) (l_a1:(Sl Int)) (S0:Int→(Sl Gate)→Bool) (zc5:Int) (zcx:(Sl Gate)):Bool :=
  (cond (decide (zc5 < (l_a1.len : Int)))
 (S0 (w64 (zc5+(1:Int))) (⟨(zcx.len+1),(zdv zcx.len zcx.get (fun _=>(zaa.get ((l_a1.get zc5.toNat).toNat))))⟩:Sl Gate))
 (s66 (s65 zcx)))
def zhO (zaa:(Sl Gate)) (l_a1:(Sl Int)) (P0:Int→(Sl Gate)→Bool) (zc5:Int) (zcx:(Sl Gate)):Bool :=
  (cond (decide (zc5 < (l_a1.len : Int)))
 (decide ((0≤zc5∧zc5 < (l_a1.len:Int))) &&
 (decide ((0≤(l_a1.get zc5.toNat)∧(l_a1.get zc5.toNat) < (zaa.len:Int))) &&
 (decide (((zcx.len+1) * 24≤140737488355328∧zcx.len+1≤9223372036854775807)) &&
 (P0 (w64 (zc5+(1:Int))) (⟨(zcx.len+1),(zdv zcx.len zcx.get (fun _=>(zaa.get ((l_a1.get zc5.toNat).toNat))))⟩:Sl Gate)))))
 (decide ((p65 zcx=true)) &&
 (decide ((p66 (s65 zcx)=true)) &&
 true)))
def zhP (zaa:(Sl Gate)) (l_a1:(Sl Int)):Nat→Int→(Sl Gate)→Bool:=lpO (fun _ _=>default) (zhN zaa l_a1)
def zhQ (zaa:(Sl Gate)) (l_a1:(Sl Int)):Nat→Int→(Sl Gate)→Bool:=lpO (fun _ _=>false) (zhO zaa l_a1)
def zwM (zaa:(Sl Gate)) (l_a1:(Sl Int)) (zc5:Int) (zcx:(Sl Gate)):Bool:=zhP zaa l_a1 Fuel zc5 zcx
def zwN (zaa:(Sl Gate)) (l_a1:(Sl Int)) (zc5:Int) (zcx:(Sl Gate)):Bool:=zhQ zaa l_a1 Fuel zc5 zcx
theorem zFe (hs:zwN zaa l_a1 zc5 zcx=true) (hk:K (e84 (zwM zaa l_a1 zc5 zcx))) (zq4:zfr=zg enc_55 zcx):z84 K [1,1,0,1,0] [] (zCX zaa l_a1 zc5 zcx zfr) :=
  zl (fun X=>z84 K [1,1,0,1,0,0] [X]) (by kernel_rfl) fun X0 hX =>
  (show ∀ k, zJD K zaa l_a1 X0 (zhQ zaa l_a1 k) (zhP zaa l_a1 k) from zgX _ _ (zhO zaa l_a1) (zhN zaa l_a1) (zJD K zaa l_a1 X0)
 (by intro _ _ _ hs;exact absurd hs Bool.false_ne_true)
 (by intro P0 S0 hX0 zc5 zcx zfr hs hk zq4;subst zq4;exact hX _ (zay (by kernel_rfl) (zc hs hk (fun hs hk=>(zaw hs fun hc hs=>And.intro hc (zaw hs fun hc hs=>And.intro hc (zaw hs fun hc hs=>And.intro hc (hX0 hs hk (zjJ (enc:=enc_55) (f:=zcx.get) (h:=(fun _=>(zaa.get ((l_a1.get zc5.toNat).toNat)))) rfl rfl)))))) (fun hs hk=>(zaw hs fun hc hs=>And.intro (And.intro (zE enc_55 3 zcx.get) hc) (zaw hs fun hc hs=>And.intro (And.intro (zE enc_55 3 ((s65 zcx).list.Gates.get)) (And.intro (zE zaf 3 ((s65 zcx).corners.get)) hc)) hk))))))) _ hs hk zq4
def s84 (zaa:(Sl Gate)) (l_a1:(Sl Int)):Bool :=
  (zwM zaa l_a1 (0:Int) (⟨0,(fun _=>default)⟩:Sl Gate))
def p84 (zaa:(Sl Gate)) (l_a1:(Sl Int)):Bool :=
  (zwN zaa l_a1 (0:Int) (⟨0,(fun _=>default)⟩:Sl Gate))
end
theorem q84 (zaa:(Sl Gate)) (l_a1:(Sl Int)) (K:List PA→Prop) (hs:p84 zaa l_a1=true) (hk:K (e84 (s84 zaa l_a1))):vcFun Try.prog G84 zFd 84 [.one (.sl zaa.len 3 (fun i=>enc_55 (zaa.get i))),.one (.sl l_a1.len 1 (fun i=>zaj (l_a1.get i)))] K :=
  zay (by kernel_rfl) (zFe hs hk rfl)
def zFf : List PA → COut
  | [.one (.sl a0_n a0_s a0_g),.one (.sl a1_n a1_s a1_g)]=>.det (IsE enc_55 3 a0_s a0_g∧IsE zaj 1 a1_s a1_g∧p84 (⟨a0_n,zad a0_g⟩:(Sl Gate)) (⟨a1_n,zbN a1_g⟩:(Sl Int))=true) [.one (.bool (s84 (⟨a0_n,zad a0_g⟩:(Sl Gate)) (⟨a1_n,zbN a1_g⟩:(Sl Int))))]
  | _=>.no
theorem zJE:zai Try.prog 84:=⟨_,rfl,rfl,by kernel_rfl⟩
theorem zPn:Ok Try.prog 84 zFf:=zaN zMm zJE fun args K h=>by
  unfold zFf at h
  split at h
  · rename_i a0_n a0_s a0_g a1_n a1_s a1_g
    obtain ⟨⟨⟨rfl,a0_f,rfl⟩,⟨rfl,a1_f,rfl⟩,hs⟩,hk⟩:=h
    try rw [zae a0_f] at hs
    try rw [zae a0_f] at hk
    try rw [zdE a1_f] at hs
    try rw [zdE a1_f] at hk
    exact ⟨(fun _ _=>[]),(fun _=>false),zFd,q84 (⟨a0_n,a0_f⟩:(Sl Gate)) (⟨a1_n,a1_f⟩:(Sl Int)) K hs hk⟩
  · exact h.elim
abbrev T38:Tabs:=((Tabs.nil.addF 64 zuz).addF 84 zFf)
theorem zMn:TabsOk Try.prog T38:=((TabsOk.nil.addF zLh).addF zPn)
abbrev G38:Ctrs:=csm T38 (fun _ _=>[]) (fun _=>false)
def zFg:Ann:=⟨66,[(0,zK [0] []),(1,zK [0,12] []),(2,zK [2,3] []),(3,zK [0,4] []),(4,zK [0,4,15,16] []),(5,zK [0,4,15,16,17] []),(6,zK [0,4,5,15,16] []),(7,zK [0,4,5,6,15,16] []),(8,zK [0,4,5,6,15,16,23] []),(9,zK [0,4,5,6,15,16] []),(10,zK [0,4,5,6,15,16,31] []),(11,zK [2,3] [34]),(12,zK [0,4,15,16] []),(13,zK [0,4,36,37] []),(14,zK [0,4,36,37,38] []),(15,zK [0,4,7,36,37] []),(16,zK [0,4,7,8,36,37] []),(17,zK [0,4,7,8,36,37,44] []),(18,zK [0,4,7,8,36,37] []),(19,zK [0,4,7,8,9,36,37] []),(20,zK [0,4,7,8,9,36,37,51] []),(21,zK [0,4,7,8,9,36,37] []),(22,zK [0,4,7,8,9,36,37,60] []),(23,zK [2,3] [64]),(24,zK [0,4,36,37] []),(25,zK [2,3] [])],
 [(5,zK [0,4,15,16] []),(8,zK [0,4,5,6,15,16] []),(14,zK [0,4,36,37] []),(17,zK [0,4,7,8,36,37] []),(20,zK [0,4,7,8,9,36,37] [])],
 [(2,zK [0,12] []),(3,zK [0] []),(13,zK [0,4] []),(11,zK [0,4,5,6,15,16,31] []),(23,zK [0,4,7,8,9,36,37,60] [])],
 [],[]⟩
abbrev R38:=((Sl Int)×Int)
abbrev e38 (r:R38):List PA:=[.one (.sl r.1.len 1 (fun i=>zaj (r.1.get i))),.one (.int .i64 r.2)]
@[irreducible] def z38:=ptF Try.prog G38 zFg Try.f38
def zCY (zaa:(Sl Gate)) (zdl:Int):St:=⟨[(0,zS enc_55 3 zaa),(4,zI (zaa.len:Int)),(15,zI (zaa.len:Int)),(16,zI zdl)],[],[]⟩
abbrev zBE (K:List PA→Prop) (zaa:(Sl Gate)) (X:St→Prop) (P:Int→Bool) (S:Int→((Sl Int)×Int)):Prop:=∀ ⦃zdl:Int⦄,P zdl=true→K (e38 (S zdl))→X (zCY zaa zdl)
def zCZ (zaa:(Sl Gate)) (iv3:Int) (jv3:Int) (zd5:Int):St:=⟨[(0,zS enc_55 3 zaa),(4,zI (zaa.len:Int)),(5,zI iv3),(6,zI jv3),(15,zI (zaa.len:Int)),(16,zI zd5)],[],[]⟩
abbrev zFh (K:List PA→Prop) (zaa:(Sl Gate)) (X:St→Prop) (P:Int→Int→Int→Bool) (S:Int→Int→Int→((Sl Int)×Int)):Prop:=∀ ⦃iv3:Int⦄ ⦃jv3:Int⦄ ⦃zd5:Int⦄,P iv3 jv3 zd5=true→K (e38 (S iv3 jv3 zd5))→X (zCZ zaa iv3 jv3 zd5)
def zC0 (zaa:(Sl Gate)) (zdA:Int):St:=⟨[(0,zS enc_55 3 zaa),(4,zI (zaa.len:Int)),(36,zI (zaa.len:Int)),(37,zI zdA)],[],[]⟩
abbrev zwO (K:List PA→Prop) (zaa:(Sl Gate)) (X:St→Prop) (P:Int→Bool) (S:Int→((Sl Int)×Int)):Prop:=∀ ⦃zdA:Int⦄,P zdA=true→K (e38 (S zdA))→X (zC0 zaa zdA)
def zC1 (zaa:(Sl Gate)) (iv7:Int) (jv7:Int) (zeu:Int):St:=⟨[(0,zS enc_55 3 zaa),(4,zI (zaa.len:Int)),(7,zI iv7),(8,zI jv7),(36,zI (zaa.len:Int)),(37,zI zeu)],[],[]⟩
abbrev zBF (K:List PA→Prop) (zaa:(Sl Gate)) (X:St→Prop) (P:Int→Int→Int→Bool) (S:Int→Int→Int→((Sl Int)×Int)):Prop:=∀ ⦃iv7:Int⦄ ⦃jv7:Int⦄ ⦃zeu:Int⦄,P iv7 jv7 zeu=true→K (e38 (S iv7 jv7 zeu))→X (zC1 zaa iv7 jv7 zeu)
def zC2 (zaa:(Sl Gate)) (iv8:Int) (jv8:Int) (kv8:Int) (zev:Int):St:=⟨[(0,zS enc_55 3 zaa),(4,zI (zaa.len:Int)),(7,zI iv8),(8,zI jv8),(9,zI kv8),(36,zI (zaa.len:Int)),(37,zI zev)],[],[]⟩
abbrev zFi (K:List PA→Prop) (zaa:(Sl Gate)) (X:St→Prop) (P:Int→Int→Int→Int→Bool) (S:Int→Int→Int→Int→((Sl Int)×Int)):Prop:=∀ ⦃iv8:Int⦄ ⦃jv8:Int⦄ ⦃kv8:Int⦄ ⦃zev:Int⦄,P iv8 jv8 kv8 zev=true→K (e38 (S iv8 jv8 kv8 zev))→X (zC2 zaa iv8 jv8 kv8 zev)
section
variable {K:List PA→Prop} {zaa:(Sl Gate)} {zaL:Bool} {zdl:Int} {X2:St→Prop} {P2:Int→Bool} {S2:Int→((Sl Int)×Int)} {iv3:Int} {jv3:Int} {zd5:Int} {X3:St→Prop} {P3:Int→Int→Int→Bool} {S3:Int→Int→Int→((Sl Int)×Int)} {iv5:Int} {jv5:Int} {zq5:Int} {zq6:Bool} {zdA:Int} {X6:St→Prop} {P6:Int→Bool} {S6:Int→((Sl Int)×Int)} {iv7:Int} {jv7:Int} {zeu:Int} {X7:St→Prop} {P7:Int→Int→Int→Bool} {S7:Int→Int→Int→((Sl Int)×Int)} {iv8:Int} {jv8:Int} {kv8:Int} {zev:Int} {X8:St→Prop} {P8:Int→Int→Int→Int→Bool} {S8:Int→Int→Int→Int→((Sl Int)×Int)} {iv9:Int} {jv9:Int} {kv9:Int} {zq7:Int} {zq8:Bool}
def znu (S6:Int→((Sl Int)×Int)) (S7:Int→Int→Int→((Sl Int)×Int)) (S8:Int→Int→Int→Int→((Sl Int)×Int)) (zaa:(Sl Gate)) (iv9:Int) (jv9:Int) (kv9:Int) (zq7:Int) (zq8:Bool):((Sl Int)×Int) :=
  (cond zq8
 ((⟨3,(zhn iv9 [iv9,jv9,kv9])⟩:(Sl Int)),(0:Int))
 (S8 iv9 jv9 (w64 (kv9+(1:Int))) zq7))
def zq9 (P6:Int→Bool) (P7:Int→Int→Int→Bool) (P8:Int→Int→Int→Int→Bool) (zaa:(Sl Gate)) (iv9:Int) (jv9:Int) (kv9:Int) (zq7:Int) (zq8:Bool):Bool :=
  (cond zq8
 true
 (P8 iv9 jv9 (w64 (kv9+(1:Int))) zq7))
theorem zFj (hX6:zwO K zaa X6 P6 S6) (hX7:zBF K zaa X7 P7 S7) (hX8:zFi K zaa X8 P8 S8) (hs:zq9 P6 P7 P8 zaa iv9 jv9 kv9 zq7 zq8=true) (hk:K (e38 (znu S6 S7 S8 zaa iv9 jv9 kv9 zq7 zq8))):z38 (Wk K) [1,1,1,1,0,1,0,0,1,1,0,0,1,1,0,0,1,0,0,1,0,0,1,0,0,1] [X6,X7,X8] ⟨[(0,zS enc_55 3 zaa),(4,zI (zaa.len:Int)),(7,zI iv9),(8,zI jv9),(9,zI kv9),(36,zI (zaa.len:Int)),(37,zI zq7),(60,zB zq8)],[],[]⟩:=zay (by kernel_rfl) (zc hs hk (fun hs hk=>((zep (Eq.mpr (congrArg K (congrArg (fun (g_:Nat→List PV)=>([.one (.sl 3 1 g_),.one (.int .i64 (0:Int))]:List PA)) (zeL (enc:=zaj) (x:=iv9) (y:=jv9) (r:=[kv9])))) hk)):Wk K [.one (.sl 3 1 (zcK [(zaj iv9),(zaj jv9),(zaj kv9)])),.one (.int .i64 (0:Int))])) (fun hs hk=>(hX8 hs hk)))
def zd6 (S6:Int→((Sl Int)×Int)) (S7:Int→Int→Int→((Sl Int)×Int)) (zaa:(Sl Gate)) (S8:Int→Int→Int→Int→((Sl Int)×Int)) (iv8:Int) (jv8:Int) (kv8:Int) (zev:Int):((Sl Int)×Int) :=
  (cond (decide (kv8 < (zaa.len : Int)))
 (znu S6 S7 S8 zaa iv8 jv8 kv8 zev (!(s84 zaa (⟨3,zbN (zcK [(zaj iv8),(zaj jv8),(zaj kv8)])⟩:(Sl Int)))))
 (S7 iv8 (w64 (jv8+(1:Int))) zev))
def zhR (P6:Int→Bool) (P7:Int→Int→Int→Bool) (zaa:(Sl Gate)) (P8:Int→Int→Int→Int→Bool) (iv8:Int) (jv8:Int) (kv8:Int) (zev:Int):Bool :=
  (cond (decide (kv8 < (zaa.len : Int)))
 (decide ((p84 zaa (⟨3,zbN (zcK [(zaj iv8),(zaj jv8),(zaj kv8)])⟩:(Sl Int))=true)) &&
 (zq9 P6 P7 P8 zaa iv8 jv8 kv8 zev (!(s84 zaa (⟨3,zbN (zcK [(zaj iv8),(zaj jv8),(zaj kv8)])⟩:(Sl Int))))))
 (P7 iv8 (w64 (jv8+(1:Int))) zev))
def zd7 (S6:Int→((Sl Int)×Int)) (S7:Int→Int→Int→((Sl Int)×Int)) (zaa:(Sl Gate)):Nat→Int→Int→Int→Int→((Sl Int)×Int):=lpO (fun _ _ _ _=>default) (zd6 S6 S7 zaa)
def zhS (P6:Int→Bool) (P7:Int→Int→Int→Bool) (zaa:(Sl Gate)):Nat→Int→Int→Int→Int→Bool:=lpO (fun _ _ _ _=>false) (zhR P6 P7 zaa)
def znv (S6:Int→((Sl Int)×Int)) (S7:Int→Int→Int→((Sl Int)×Int)) (zaa:(Sl Gate)) (iv8:Int) (jv8:Int) (kv8:Int) (zev:Int):((Sl Int)×Int):=zd7 S6 S7 zaa Fuel iv8 jv8 kv8 zev
def zra (P6:Int→Bool) (P7:Int→Int→Int→Bool) (zaa:(Sl Gate)) (iv8:Int) (jv8:Int) (kv8:Int) (zev:Int):Bool:=zhS P6 P7 zaa Fuel iv8 jv8 kv8 zev
theorem zFk (hX6:zwO K zaa X6 P6 S6) (hX7:zBF K zaa X7 P7 S7) (hs:zra P6 P7 zaa iv8 jv8 kv8 zev=true) (hk:K (e38 (znv S6 S7 zaa iv8 jv8 kv8 zev))):z38 (Wk K) [1,1,1,1,0,1,0,0,1,1,0,0,1,1,0,0,1,0,0,1,0] [X6,X7] (zC2 zaa iv8 jv8 kv8 zev) :=
  zl (fun X=>z38 (Wk K) [1,1,1,1,0,1,0,0,1,1,0,0,1,1,0,0,1,0,0,1,0,0] [X6,X7,X]) (by kernel_rfl) fun X8 hX =>
  (show ∀ k, zFi K zaa X8 (zhS P6 P7 zaa k) (zd7 S6 S7 zaa k) from zgX _ _ (zhR P6 P7 zaa) (zd6 S6 S7 zaa) (zFi K zaa X8)
 (by intro _ _ _ _ hs;exact absurd hs Bool.false_ne_true)
 (by intro P8 S8 hX8 iv8 jv8 kv8 zev hs hk;exact hX _ (zay (by kernel_rfl) (zc hs hk (fun hs hk=>(zaw hs fun hc hs=>And.intro (And.intro (zE enc_55 3 zaa.get) (And.intro ((zfJ [kv8]):IsE zaj 1 1 (zcK [(zaj iv8),(zaj jv8),(zaj kv8)])) hc)) (zFj hX6 hX7 hX8 hs hk))) (fun hs hk=>(hX7 hs hk)))))) _ hs hk
def zd8 (S6:Int→((Sl Int)×Int)) (zaa:(Sl Gate)) (S7:Int→Int→Int→((Sl Int)×Int)) (iv7:Int) (jv7:Int) (zeu:Int):((Sl Int)×Int) :=
  (cond (decide (jv7 < (zaa.len : Int)))
 (znv S6 S7 zaa iv7 jv7 (w64 (jv7+(1:Int))) zeu)
 (S6 (w64 (zeu+(1:Int)))))
def zhT (P6:Int→Bool) (zaa:(Sl Gate)) (P7:Int→Int→Int→Bool) (iv7:Int) (jv7:Int) (zeu:Int):Bool :=
  (cond (decide (jv7 < (zaa.len : Int)))
 (zra P6 P7 zaa iv7 jv7 (w64 (jv7+(1:Int))) zeu)
 (P6 (w64 (zeu+(1:Int)))))
def zd9 (S6:Int→((Sl Int)×Int)) (zaa:(Sl Gate)):Nat→Int→Int→Int→((Sl Int)×Int):=lpO (fun _ _ _=>default) (zd8 S6 zaa)
def zhU (P6:Int→Bool) (zaa:(Sl Gate)):Nat→Int→Int→Int→Bool:=lpO (fun _ _ _=>false) (zhT P6 zaa)
def znw (S6:Int→((Sl Int)×Int)) (zaa:(Sl Gate)) (iv7:Int) (jv7:Int) (zeu:Int):((Sl Int)×Int):=zd9 S6 zaa Fuel iv7 jv7 zeu
def zrb (P6:Int→Bool) (zaa:(Sl Gate)) (iv7:Int) (jv7:Int) (zeu:Int):Bool:=zhU P6 zaa Fuel iv7 jv7 zeu
theorem zFl (hX6:zwO K zaa X6 P6 S6) (hs:zrb P6 zaa iv7 jv7 zeu=true) (hk:K (e38 (znw S6 zaa iv7 jv7 zeu))):z38 (Wk K) [1,1,1,1,0,1,0,0,1,1,0,0,1,1,0] [X6] (zC1 zaa iv7 jv7 zeu) :=
  zl (fun X=>z38 (Wk K) [1,1,1,1,0,1,0,0,1,1,0,0,1,1,0,0] [X6,X]) (by kernel_rfl) fun X7 hX =>
  (show ∀ k, zBF K zaa X7 (zhU P6 zaa k) (zd9 S6 zaa k) from zgX _ _ (zhT P6 zaa) (zd8 S6 zaa) (zBF K zaa X7)
 (by intro _ _ _ hs;exact absurd hs Bool.false_ne_true)
 (by intro P7 S7 hX7 iv7 jv7 zeu hs hk;exact hX _ (zay (by kernel_rfl) (zc hs hk (fun hs hk=>(zFk hX6 hX7 hs hk)) (fun hs hk=>(hX6 hs hk)))))) _ hs hk
def zea (zaa:(Sl Gate)) (S6:Int→((Sl Int)×Int)) (zdA:Int):((Sl Int)×Int) :=
  (cond (decide (zdA < (zaa.len : Int)))
 (znw S6 zaa zdA (w64 (zdA+(1:Int))) zdA)
 ((⟨0,fun _=>default⟩:(Sl Int)),(7:Int)))
def zhV (zaa:(Sl Gate)) (P6:Int→Bool) (zdA:Int):Bool :=
  (cond (decide (zdA < (zaa.len : Int)))
 (zrb P6 zaa zdA (w64 (zdA+(1:Int))) zdA)
 true)
def zeb (zaa:(Sl Gate)):Nat→Int→((Sl Int)×Int):=lpO (fun _=>default) (zea zaa)
def zhW (zaa:(Sl Gate)):Nat→Int→Bool:=lpO (fun _=>false) (zhV zaa)
def zwP (zaa:(Sl Gate)) (zdA:Int):((Sl Int)×Int):=zeb zaa Fuel zdA
def zwQ (zaa:(Sl Gate)) (zdA:Int):Bool:=zhW zaa Fuel zdA
theorem zFm (hs:zwQ zaa zdA=true) (hk:K (e38 (zwP zaa zdA))):z38 (Wk K) [1,1,1,1,0,1,0] [] (zC0 zaa zdA) :=
  zl (fun X=>z38 (Wk K) [1,1,1,1,0,1,0,0] [X]) (by kernel_rfl) fun X6 hX =>
  (show ∀ k, zwO K zaa X6 (zhW zaa k) (zeb zaa k) from zgX _ _ (zhV zaa) (zea zaa) (zwO K zaa X6)
 (by intro _ hs;exact absurd hs Bool.false_ne_true)
 (by intro P6 S6 hX6 zdA hs hk;exact hX _ (zay (by kernel_rfl) (zc hs hk (fun hs hk=>(zFl hX6 hs hk)) (fun hs hk=>((wk hk (zdh (.one (.nil _ _)) (zdh (.one (.rfl _)) zhv))):Wk K [.one (.nils),.one (.int .i64 (7:Int))])))))) _ hs hk
def znx (S2:Int→((Sl Int)×Int)) (S3:Int→Int→Int→((Sl Int)×Int)) (zaa:(Sl Gate)) (iv5:Int) (jv5:Int) (zq5:Int) (zq6:Bool):((Sl Int)×Int) :=
  (cond zq6
 ((⟨2,(zhn iv5 [iv5,jv5])⟩:(Sl Int)),(0:Int))
 (S3 iv5 (w64 (jv5+(1:Int))) zq5))
def zrd (P2:Int→Bool) (P3:Int→Int→Int→Bool) (zaa:(Sl Gate)) (iv5:Int) (jv5:Int) (zq5:Int) (zq6:Bool):Bool :=
  (cond zq6
 true
 (P3 iv5 (w64 (jv5+(1:Int))) zq5))
theorem zFn (hX2:zBE K zaa X2 P2 S2) (hX3:zFh K zaa X3 P3 S3) (hs:zrd P2 P3 zaa iv5 jv5 zq5 zq6=true) (hk:K (e38 (znx S2 S3 zaa iv5 jv5 zq5 zq6))):z38 (Wk K) [1,1,1,0,1,0,0,1,1,0,0,1,1,0,0,1,0,0,1] [X2,X3] ⟨[(0,zS enc_55 3 zaa),(4,zI (zaa.len:Int)),(5,zI iv5),(6,zI jv5),(15,zI (zaa.len:Int)),(16,zI zq5),(31,zB zq6)],[],[]⟩:=zay (by kernel_rfl) (zc hs hk (fun hs hk=>((zep (Eq.mpr (congrArg K (congrArg (fun (g_:Nat→List PV)=>([.one (.sl 2 1 g_),.one (.int .i64 (0:Int))]:List PA)) (zeL (enc:=zaj) (x:=iv5) (y:=jv5) (r:=[])))) hk)):Wk K [.one (.sl 2 1 (zcK [(zaj iv5),(zaj jv5)])),.one (.int .i64 (0:Int))])) (fun hs hk=>(hX3 hs hk)))
def zny (zaa:(Sl Gate)):((Sl Int)×Int) :=
  (zwP zaa (0:Int))
def zwR (zaa:(Sl Gate)):Bool :=
  (zwQ zaa (0:Int))
theorem zFo (hs:zwR zaa=true) (hk:K (e38 (zny zaa))):z38 (Wk K) [1,1,1,1] [] ⟨[(0,zS enc_55 3 zaa),(4,zI (zaa.len:Int))],[],[]⟩:=zay (by kernel_rfl) (zFm hs hk)
def zec (S2:Int→((Sl Int)×Int)) (zaa:(Sl Gate)) (S3:Int→Int→Int→((Sl Int)×Int)) (iv3:Int) (jv3:Int) (zd5:Int):((Sl Int)×Int) :=
  (cond (decide (jv3 < (zaa.len : Int)))
 (znx S2 S3 zaa iv3 jv3 zd5 (!(s84 zaa (⟨2,zbN (zcK [(zaj iv3),(zaj jv3)])⟩:(Sl Int)))))
 (S2 (w64 (zd5+(1:Int)))))
def zhX (P2:Int→Bool) (zaa:(Sl Gate)) (P3:Int→Int→Int→Bool) (iv3:Int) (jv3:Int) (zd5:Int):Bool :=
  (cond (decide (jv3 < (zaa.len : Int)))
 (decide ((p84 zaa (⟨2,zbN (zcK [(zaj iv3),(zaj jv3)])⟩:(Sl Int))=true)) &&
 (zrd P2 P3 zaa iv3 jv3 zd5 (!(s84 zaa (⟨2,zbN (zcK [(zaj iv3),(zaj jv3)])⟩:(Sl Int))))))
 (P2 (w64 (zd5+(1:Int)))))
def zed (S2:Int→((Sl Int)×Int)) (zaa:(Sl Gate)):Nat→Int→Int→Int→((Sl Int)×Int):=lpO (fun _ _ _=>default) (zec S2 zaa)
def zhY (P2:Int→Bool) (zaa:(Sl Gate)):Nat→Int→Int→Int→Bool:=lpO (fun _ _ _=>false) (zhX P2 zaa)
def znz (S2:Int→((Sl Int)×Int)) (zaa:(Sl Gate)) (iv3:Int) (jv3:Int) (zd5:Int):((Sl Int)×Int):=zed S2 zaa Fuel iv3 jv3 zd5
def zre (P2:Int→Bool) (zaa:(Sl Gate)) (iv3:Int) (jv3:Int) (zd5:Int):Bool:=zhY P2 zaa Fuel iv3 jv3 zd5
theorem zFp (hX2:zBE K zaa X2 P2 S2) (hs:zre P2 zaa iv3 jv3 zd5=true) (hk:K (e38 (znz S2 zaa iv3 jv3 zd5))):z38 (Wk K) [1,1,1,0,1,0,0,1,1,0,0,1,1,0] [X2] (zCZ zaa iv3 jv3 zd5) :=
  zl (fun X=>z38 (Wk K) [1,1,1,0,1,0,0,1,1,0,0,1,1,0,0] [X2,X]) (by kernel_rfl) fun X3 hX =>
  (show ∀ k, zFh K zaa X3 (zhY P2 zaa k) (zed S2 zaa k) from zgX _ _ (zhX P2 zaa) (zec S2 zaa) (zFh K zaa X3)
 (by intro _ _ _ hs;exact absurd hs Bool.false_ne_true)
 (by intro P3 S3 hX3 iv3 jv3 zd5 hs hk;exact hX _ (zay (by kernel_rfl) (zc hs hk (fun hs hk=>(zaw hs fun hc hs=>And.intro (And.intro (zE enc_55 3 zaa.get) (And.intro ((zfJ []):IsE zaj 1 1 (zcK [(zaj iv3),(zaj jv3)])) hc)) (zFn hX2 hX3 hs hk))) (fun hs hk=>(hX2 hs hk)))))) _ hs hk
def zee (zaa:(Sl Gate)) (S2:Int→((Sl Int)×Int)) (zdl:Int):((Sl Int)×Int) :=
  (cond (decide (zdl < (zaa.len : Int)))
 (znz S2 zaa zdl (w64 (zdl+(1:Int))) zdl)
 (zny zaa))
def zhZ (zaa:(Sl Gate)) (P2:Int→Bool) (zdl:Int):Bool :=
  (cond (decide (zdl < (zaa.len : Int)))
 (zre P2 zaa zdl (w64 (zdl+(1:Int))) zdl)
 (zwR zaa))
def zef (zaa:(Sl Gate)):Nat→Int→((Sl Int)×Int):=lpO (fun _=>default) (zee zaa)
def zh0 (zaa:(Sl Gate)):Nat→Int→Bool:=lpO (fun _=>false) (zhZ zaa)
def zwS (zaa:(Sl Gate)) (zdl:Int):((Sl Int)×Int):=zef zaa Fuel zdl
def zwT (zaa:(Sl Gate)) (zdl:Int):Bool:=zh0 zaa Fuel zdl
theorem zFq (hs:zwT zaa zdl=true) (hk:K (e38 (zwS zaa zdl))):z38 (Wk K) [1,1,1,0,1,0] [] (zCY zaa zdl) :=
  zl (fun X=>z38 (Wk K) [1,1,1,0,1,0,0] [X]) (by kernel_rfl) fun X2 hX =>
  (show ∀ k, zBE K zaa X2 (zh0 zaa k) (zef zaa k) from zgX _ _ (zhZ zaa) (zee zaa) (zBE K zaa X2)
 (by intro _ hs;exact absurd hs Bool.false_ne_true)
 (by intro P2 S2 hX2 zdl hs hk;exact hX _ (zay (by kernel_rfl) (zc hs hk (fun hs hk=>(zFp hX2 hs hk)) (fun hs hk=>(zFo hs hk)))))) _ hs hk
def znA (zaa:(Sl Gate)):((Sl Int)×Int) :=
  (zwS zaa (0:Int))
def zrf (zaa:(Sl Gate)):Bool :=
  (zwT zaa (0:Int))
theorem zFr (hs:zrf zaa=true) (hk:K (e38 (znA zaa))):z38 (Wk K) [1,1] [] ⟨[(0,zS enc_55 3 zaa)],[],[]⟩:=zay (by kernel_rfl) (zFq hs hk)
def znB (zaa:(Sl Gate)) (zaL:Bool):((Sl Int)×Int) :=
  (cond zaL
 ((⟨0,fun _=>default⟩:(Sl Int)),(2:Int))
 (znA zaa))
def zrg (zaa:(Sl Gate)) (zaL:Bool):Bool :=
  (cond zaL
 true
 (zrf zaa))
theorem zFs (hs:zrg zaa zaL=true) (hk:K (e38 (znB zaa zaL))):z38 (Wk K) [1,0,1] [] ⟨[(0,zS enc_55 3 zaa),(12,zB zaL)],[],[]⟩:=zay (by kernel_rfl) (zc hs hk (fun hs hk=>((wk hk (zdh (.one (.nil _ _)) (zdh (.one (.rfl _)) zhv))):Wk K [.one (.nils),.one (.int .i64 (2:Int))])) (fun hs hk=>(zFr hs hk)))
def s38 (zaa:(Sl Gate)):((Sl Int)×Int) :=
  (znB zaa (!(s64 zaa)))
def p38 (zaa:(Sl Gate)):Bool :=
  (decide ((p64 zaa=true)) &&
 (zrg zaa (!(s64 zaa))))
end
theorem q38 (zaa:(Sl Gate)) (K:List PA→Prop) (hs:p38 zaa=true) (hk:K (e38 (s38 zaa))):vcFun Try.prog G38 zFg 38 [.one (.sl zaa.len 3 (fun i=>enc_55 (zaa.get i)))] (Wk K) :=
  zay (by kernel_rfl) (zaw hs fun hc hs=>And.intro (And.intro (zE enc_55 3 zaa.get) hc) (zFs hs hk))
def zBG : List PA → COut
  | [.one (.sl a0_n a0_s a0_g)]=>.det (IsE enc_55 3 a0_s a0_g∧p38 (⟨a0_n,zad a0_g⟩:(Sl Gate))=true) [.one (.sl (((s38 (⟨a0_n,zad a0_g⟩:(Sl Gate))).1).len) 1 (fun i=>zaj (((s38 (⟨a0_n,zad a0_g⟩:(Sl Gate))).1).get i))),.one (.int .i64 ((s38 (⟨a0_n,zad a0_g⟩:(Sl Gate))).2))]
  | _=>.no
theorem zJF:zai Try.prog 38:=⟨_,rfl,rfl,by kernel_rfl⟩
theorem zNV:Ok Try.prog 38 zBG:=zhw zMn zJF fun args K h=>by
  unfold zBG at h
  split at h
  · rename_i a0_n a0_s a0_g
    obtain ⟨⟨⟨rfl,a0_f,rfl⟩,hs⟩,hk⟩:=h
    try rw [zae a0_f] at hs
    try rw [zae a0_f] at hk
    exact ⟨_,zfj zf2 _,(fun _ _=>[]),(fun _=>false),zFg,q38 (⟨a0_n,a0_f⟩:(Sl Gate)) K hs hk⟩
  · exact h.elim
abbrev T39:Tabs:=Tabs.nil
theorem zMo:TabsOk Try.prog T39:=TabsOk.nil
abbrev G39:Ctrs:=csm T39 (fun _ _=>[]) (fun _=>false)
def zFt:Ann:=⟨46,[(0,zK [0,1] []),(1,zK [0,1,5] []),(2,zK [0,1,5,15] []),(3,zK [0,1,5] []),(4,zK [0,1,5,26] []),(5,zK [4] []),(6,zK [0,1,5,35] []),(7,zK [4] []),(8,zK [0,1,40] []),(9,zK [4] []),(10,zK [45] []),(11,zK [4] []),(12,zK [4] [])],
 [(2,zK [0,1,5] [])],
 [(8,zK [0,1] [])],
 [],[]⟩
abbrev R39:=Int
abbrev e39 (r:R39):List PA:=[.one (.int .i64 r)]
@[irreducible] def z39:=ptF Try.prog G39 zFt Try.f39
def zC3 (a:(Sl Int)) (b:(Sl Int)) (iv0:Int):St:=⟨[(0,zS zaj 1 a),(1,zS zaj 1 b),(5,zI iv0)],[],[]⟩
abbrev zJG (K:List PA→Prop) (a:(Sl Int)) (b:(Sl Int)) (X:St→Prop) (P:Int→Bool) (S:Int→Int):Prop:=∀ ⦃iv0:Int⦄,P iv0=true→K (e39 (S iv0))→X (zC3 a b iv0)
section
variable {K:List PA→Prop} {a:(Sl Int)} {b:(Sl Int)} {iv0:Int} {X0:St→Prop} {P0:Int→Bool} {S0:Int→Int}
def znC (a:(Sl Int)) (b:(Sl Int)):Int :=
  (cond (decide ((a.len : Int) < (b.len : Int)))
 (-1:Int)
 (cond (decide ((a.len : Int) > (b.len : Int)))
 (1:Int)
 (0:Int)))
theorem zwU (hk:K (e39 (znC a b))):z39 K [1,1] [] ⟨[(0,zS zaj 1 a),(1,zS zaj 1 b)],[],[]⟩:=zay (by kernel_rfl) (zt hk (fun hk=>hk) (fun hk=>(zt hk (fun hk=>hk) (fun hk=>hk))))
def zh1 (a:(Sl Int)) (b:(Sl Int)) (S0:Int→Int) (iv0:Int):Int :=
  (cond (decide (iv0 < (a.len : Int)))
 (cond (decide (iv0 < (b.len : Int)))
 (cond (decide ((a.get iv0.toNat) < (b.get iv0.toNat)))
 (-1:Int)
 (cond (decide ((a.get iv0.toNat) > (b.get iv0.toNat)))
 (1:Int)
 (S0 (w64 (iv0+(1:Int))))))
 (znC a b))
 (znC a b))
def zh2 (a:(Sl Int)) (b:(Sl Int)) (P0:Int→Bool) (iv0:Int):Bool :=
  (cond (decide (iv0 < (a.len : Int)))
 (cond (decide (iv0 < (b.len : Int)))
 (decide ((0≤iv0∧iv0 < (a.len:Int))) &&
 (decide ((0≤iv0∧iv0 < (b.len:Int))) &&
 (cond (decide ((a.get iv0.toNat) < (b.get iv0.toNat)))
 true
 (decide ((0≤iv0∧iv0 < (a.len:Int))) &&
 (decide ((0≤iv0∧iv0 < (b.len:Int))) &&
 (cond (decide ((a.get iv0.toNat) > (b.get iv0.toNat)))
 true
 (P0 (w64 (iv0+(1:Int))))))))))
 true)
 true)
def zh3 (a:(Sl Int)) (b:(Sl Int)):Nat→Int→Int:=lpO (fun _=>default) (zh1 a b)
def zh4 (a:(Sl Int)) (b:(Sl Int)):Nat→Int→Bool:=lpO (fun _=>false) (zh2 a b)
def zwV (a:(Sl Int)) (b:(Sl Int)) (iv0:Int):Int:=zh3 a b Fuel iv0
def zwW (a:(Sl Int)) (b:(Sl Int)) (iv0:Int):Bool:=zh4 a b Fuel iv0
theorem zFu (hs:zwW a b iv0=true) (hk:K (e39 (zwV a b iv0))):z39 K [1,0,1,0] [] (zC3 a b iv0) :=
  zl (fun X=>z39 K [1,0,1,0,0] [X]) (by kernel_rfl) fun X0 hX =>
  (show ∀ k, zJG K a b X0 (zh4 a b k) (zh3 a b k) from zgX _ _ (zh2 a b) (zh1 a b) (zJG K a b X0)
 (by intro _ hs;exact absurd hs Bool.false_ne_true)
 (by intro P0 S0 hX0 iv0 hs hk;exact hX _ (zay (by kernel_rfl) (zc hs hk (fun hs hk=>(zc hs hk (fun hs hk=>(zaw hs fun hc hs=>And.intro hc (zaw hs fun hc hs=>And.intro hc (zc hs hk (fun hs hk=>hk) (fun hs hk=>(zaw hs fun hc hs=>And.intro hc (zaw hs fun hc hs=>And.intro hc (zc hs hk (fun hs hk=>hk) (fun hs hk=>(hX0 hs hk)))))))))) (fun hs hk=>(zwU hk)))) (fun hs hk=>(zwU hk)))))) _ hs hk
def s39 (a:(Sl Int)) (b:(Sl Int)):Int :=
  (zwV a b (0:Int))
def p39 (a:(Sl Int)) (b:(Sl Int)):Bool :=
  (zwW a b (0:Int))
end
theorem q39 (a:(Sl Int)) (b:(Sl Int)) (K:List PA→Prop) (hs:p39 a b=true) (hk:K (e39 (s39 a b))):vcFun Try.prog G39 zFt 39 [.one (.sl a.len 1 (fun i=>zaj (a.get i))),.one (.sl b.len 1 (fun i=>zaj (b.get i)))] K :=
  zay (by kernel_rfl) (zFu hs hk)
def zBH : List PA → COut
  | [.one (.sl a0_n a0_s a0_g),.one (.sl a1_n a1_s a1_g)]=>.det (IsE zaj 1 a0_s a0_g∧IsE zaj 1 a1_s a1_g∧p39 (⟨a0_n,zbN a0_g⟩:(Sl Int)) (⟨a1_n,zbN a1_g⟩:(Sl Int))=true) [.one (.int .i64 (s39 (⟨a0_n,zbN a0_g⟩:(Sl Int)) (⟨a1_n,zbN a1_g⟩:(Sl Int))))]
  | _=>.no
theorem zJH:zai Try.prog 39:=⟨_,rfl,rfl,by kernel_rfl⟩
theorem zNW:Ok Try.prog 39 zBH:=zaN zMo zJH fun args K h=>by
  unfold zBH at h
  split at h
  · rename_i a0_n a0_s a0_g a1_n a1_s a1_g
    obtain ⟨⟨⟨rfl,a0_f,rfl⟩,⟨rfl,a1_f,rfl⟩,hs⟩,hk⟩:=h
    try rw [zdE a0_f] at hs
    try rw [zdE a0_f] at hk
    try rw [zdE a1_f] at hs
    try rw [zdE a1_f] at hk
    exact ⟨(fun _ _=>[]),(fun _=>false),zFt,q39 (⟨a0_n,a0_f⟩:(Sl Int)) (⟨a1_n,a1_f⟩:(Sl Int)) K hs hk⟩
  · exact h.elim
abbrev T73:Tabs:=Tabs.nil
theorem zMp:TabsOk Try.prog T73:=TabsOk.nil
abbrev G73:Ctrs:=csm T73 (fun _ _=>[]) (fun _=>false)
def zFv:Ann:=⟨12,[(0,zK [0,1] []),(1,zK [0,1,6] []),(2,zK [0,1] []),(3,zK [4] [])],
 [(1,zK [0,1] [])],
 [],
 [],[]⟩
abbrev R73:=Int
abbrev e73 (r:R73):List PA:=[.one (.int .i64 r)]
@[irreducible] def z73:=ptF Try.prog G73 zFv Try.f73
def zC4 (av0:Int) (bv0:Int):St:=⟨[(0,zI av0),(1,zI bv0)],[],[]⟩
abbrev zJI (K:List PA→Prop) (X:St→Prop) (P:Int→Int→Bool) (S:Int→Int→Int):Prop:=∀ ⦃av0:Int⦄ ⦃bv0:Int⦄,P av0 bv0=true→K (e73 (S av0 bv0))→X (zC4 av0 bv0)
section
variable {K:List PA→Prop} {a:Int} {b:Int} {av0:Int} {bv0:Int} {X0:St→Prop} {P0:Int→Int→Bool} {S0:Int→Int→Int}
def znD (S0:Int→Int→Int) (av0:Int) (bv0:Int):Int :=
  (cond (bv0 != (0:Int))
 (S0 bv0 (av0.tmod bv0))
 av0)
def znE (P0:Int→Int→Bool) (av0:Int) (bv0:Int):Bool :=
  (cond (bv0 != (0:Int))
 (decide ((bv0 ≠ 0)) &&
 (P0 bv0 (av0.tmod bv0)))
 true)
def znF:Nat→Int→Int→Int:=lpO (fun _ _=>default) (znD)
def znG:Nat→Int→Int→Bool:=lpO (fun _ _=>false) (znE)
def zwX (av0:Int) (bv0:Int):Int:=znF Fuel av0 bv0
def zwY (av0:Int) (bv0:Int):Bool:=znG Fuel av0 bv0
theorem zFw (hs:zwY av0 bv0=true) (hk:K (e73 (zwX av0 bv0))):z73 K [1,0,0] [] (zC4 av0 bv0) :=
  zl (fun X=>z73 K [1,0,0,0] [X]) (by kernel_rfl) fun X0 hX =>
  (show ∀ k, zJI K X0 (znG k) (znF k) from zgX _ _ (znE) (znD) (zJI K X0)
 (by intro _ _ hs;exact absurd hs Bool.false_ne_true)
 (by intro P0 S0 hX0 av0 bv0 hs hk;exact hX _ (zay (by kernel_rfl) (zc hs hk (fun hs hk=>(zaw hs fun hc hs=>And.intro hc (hX0 hs hk))) (fun hs hk=>hk))))) _ hs hk
def s73 (a:Int) (b:Int):Int :=
  (zwX a b)
def p73 (a:Int) (b:Int):Bool :=
  (zwY a b)
end
theorem q73 (a:Int) (b:Int) (K:List PA→Prop) (hs:p73 a b=true) (hk:K (e73 (s73 a b))):vcFun Try.prog G73 zFv 73 [.one (.int .i64 a),.one (.int .i64 b)] K :=
  zay (by kernel_rfl) (zFw hs hk)
def zBI : List PA → COut
  | [.one (.int .i64 a0),.one (.int .i64 a1)]=>.det (p73 a0 a1=true) [.one (.int .i64 (s73 a0 a1))]
  | _=>.no
theorem zJJ:zai Try.prog 73:=⟨_,rfl,rfl,by kernel_rfl⟩
theorem zPo:Ok Try.prog 73 zBI:=zaN zMp zJJ fun args K h=>by
  unfold zBI at h
  split at h
  · rename_i a0 a1
    obtain ⟨hs,hk⟩:=h
    exact ⟨(fun _ _=>[]),(fun _=>false),zFv,q73 a0 a1 K hs hk⟩
  · exact h.elim
abbrev T40:Tabs:=(Tabs.nil.addF 73 zBI)
theorem zMq:TabsOk Try.prog T40:=(TabsOk.nil.addF zPo)
abbrev G40:Ctrs:=csm T40 (fun _ _=>[]) (fun _=>false)
def zJK:Ann:=⟨19,[(0,zK [0,1,4] [4]),(1,zK [0,1,4,5] [4]),(2,zK [4] [4])],
 [],
 [],
 [],[]⟩
abbrev R40:=Frac
abbrev e40 (r:R40):List PA:=[.agg [.int .i64 r.Num,.int .i64 r.Den]]
section
variable {K:List PA→Prop} {num:Int} {den:Int}
def s40 (num:Int) (den:Int):Frac :=
  (⟨(w64 (num.tdiv (s73 (if (w64 (0 - num)) > num then (w64 (0 - num)) else num) den))),(w64 (den.tdiv (s73 (if (w64 (0 - num)) > num then (w64 (0 - num)) else num) den)))⟩:Frac)
def p40 (num:Int) (den:Int):Bool :=
  (decide ((p73 (if (w64 (0 - num)) > num then (w64 (0 - num)) else num) den=true)) &&
 (decide (((s73 (if (w64 (0 - num)) > num then (w64 (0 - num)) else num) den) ≠ 0)) &&
 (decide (((s73 (if (w64 (0 - num)) > num then (w64 (0 - num)) else num) den) ≠ 0)) &&
 true)))
end
theorem q40 (num:Int) (den:Int) (K:List PA→Prop) (hs:p40 num den=true) (hk:K (e40 (s40 num den))):vcFun Try.prog G40 zJK 40 [.one (.int .i64 num),.one (.int .i64 den)] K :=
  zay (by kernel_rfl) (zaw hs fun hc hs=>And.intro hc (zaw hs fun hc hs=>And.intro hc (zaw hs fun hc hs=>And.intro hc hk)))
def zrh : List PA → COut
  | [.one (.int .i64 a0),.one (.int .i64 a1)]=>.det (p40 a0 a1=true) [.agg [.int .i64 ((s40 a0 a1).Num),.int .i64 ((s40 a0 a1).Den)]]
  | _=>.no
theorem zJL:zai Try.prog 40:=⟨_,rfl,rfl,by kernel_rfl⟩
theorem zNX:Ok Try.prog 40 zrh:=zaN zMq zJL fun args K h=>by
  unfold zrh at h
  split at h
  · rename_i a0 a1
    obtain ⟨hs,hk⟩:=h
    exact ⟨(fun _ _=>[]),(fun _=>false),zJK,q40 a0 a1 K hs hk⟩
  · exact h.elim
abbrev T19:Tabs:=((((((Tabs.nil.addF 64 zuz).addF 65 zwI).addF 66 zwJ).addF 67 zpe).addF 68 zwB).addF 69 zqx)
theorem zMr:TabsOk Try.prog T19:=((((((TabsOk.nil.addF zLh).addF zMd).addF zMf).addF zIU).addF zNL).addF zLf)
abbrev G19:Ctrs:=csm T19 (fun _ _=>[]) (fun _=>false)
def zFx:Ann:=⟨124,[(0,zK [0,1,2,3,9,10] [9,10]),(1,zK [0,1,2,3,9,10,12] [9,10,12]),(2,zK [0,1,2,3,9,10,12,44] [9,10,12]),(3,zK [8,9,10,11] [9,10]),(4,zK [2,3,9,10,12,13,14] [9,10,12,13,14]),(5,zK [2,3,9,10,12,13,14,58] [9,10,12,13,14]),(6,zK [8,9,10,11] [9,10]),(7,zK [2,3,9,10,12,13,14,68] [9,10,12,13,14]),(8,zK [8,9,10,11] [9,10]),(9,zK [2,3,9,10,12,13,14,15,16] [9,10,12,13,14,15,16]),(10,zK [2,3,9,10,12,13,14,15,16,17] [9,10,12,13,14,15,16]),(11,zK [2,3,9,10,12,13,14,15,16,17,76,77] [9,10,12,13,14,15,16]),(12,zK [2,3,9,10,12,13,14,15,16,17,76,77,78] [9,10,12,13,14,15,16]),(13,zK [2,3,9,10,12,13,14,15,16,17,18,76,77] [9,10,12,13,14,15,16]),(14,zK [2,3,9,10,12,13,14,15,16,17,18,19,20,76,77] [9,10,12,13,14,15,16,19,20]),(15,zK [2,3,9,10,12,13,14,15,16,17,18,19,20,21,22,76,77] [9,10,12,13,14,15,16,19,20,21,22]),(16,zK [2,3,9,10,12,13,14,15,16,17,18,19,20,21,22,76,77] [9,10,12,13,14,15,16,19,20,21,22]),(17,zK [2,3,9,10,12,13,14,15,16,17,18,20,21,22,76,77,101] [9,10,12,13,14,15,16,20,21,22]),(18,zK [2,3,9,10,12,13,14,15,16,17,18,20,22,76,77] [9,10,12,13,14,15,16,20,22]),(19,zK [2,3,9,10,12,13,14,15,16,17,18,22,76,77,106] [9,10,12,13,14,15,16,22]),(20,zK [2,3,9,10,12,13,14,15,16,17,18,76,77] [9,10,12,13,14,15,16]),(21,zK [2,3,9,10,12,13,14,15,16,17,18,76,77,111] [9,10,12,13,14,15,16]),(22,zK [3,9,10,12,15,16,17] [9,10,12,15,16]),(23,zK [2,3,9,10,12,13,14,15,16,17,76,77] [9,10,12,13,14,15,16]),(24,zK [9,10,12,15,16,17,118] [9,10,12,15,16]),(25,zK [8,9,10,11] [9,10]),(26,zK [8,9,10,11] [9,10])],
 [(12,zK [2,3,9,10,12,13,14,15,16,17,76,77] [9,10,12,13,14,15,16])],
 [(3,zK [0,1,2,3,9,10,12,44] [9,10,12]),(4,zK [0,1,2,3,9,10,12] [9,10,12]),(5,zK [2,3,9,10,12,13,14] [9,10,12,13,14]),(6,zK [2,3,9,10,12,13,14,58] [9,10,12,13,14]),(7,zK [2,3,9,10,12,13,14] [9,10,12,13,14]),(8,zK [2,3,9,10,12,13,14,68] [9,10,12,13,14]),(9,zK [2,3,9,10,12,13,14] [9,10,12,13,14]),(15,zK [2,3,9,10,12,13,14,15,16,17,18,19,20,76,77] [9,10,12,13,14,15,16,19,20]),(24,zK [3,9,10,12,15,16,17] [9,10,12,15,16]),(16,zK [2,3,9,10,12,13,14,15,16,17,18,19,20,21,22,76,77] [9,10,12,13,14,15,16,19,20,21,22]),(18,zK [2,3,9,10,12,13,14,15,16,17,18,20,21,22,76,77,101] [9,10,12,13,14,15,16,20,21,22]),(19,zK [2,3,9,10,12,13,14,15,16,17,18,20,22,76,77] [9,10,12,13,14,15,16,20,22]),(20,zK [2,3,9,10,12,13,14,15,16,17,18,22,76,77,106] [9,10,12,13,14,15,16,22]),(22,zK [2,3,9,10,12,13,14,15,16,17,18,76,77,111] [9,10,12,13,14,15,16])],
 [],[]⟩
abbrev R19:=(Int×Frac×Frac×Int)
abbrev e19 (r:R19):List PA:=[.one (.int .i64 r.1),.agg [.int .i64 r.2.1.Num,.int .i64 r.2.1.Den],.agg [.int .i64 r.2.2.1.Num,.int .i64 r.2.2.1.Den],.one (.int .i64 r.2.2.2)]
@[irreducible] def z19:=ptF Try.prog G19 zFx Try.f19
def zC5 (low:Int) (high:Int) (zan:(Sl Gate)) (zat:(Sl straight)) (zao:(Sl Gate)) (zau:(Sl straight)) (zcE:Int) (zbH:Int) (zbI:Int) (zcR:Int) (zcS:Int):St:=⟨[(2,zI low),(3,zI high),(9,zp 9 0),(10,zp 10 0),(12,zp 12 0),(13,zp 13 0),(14,zp 14 0),(15,zp 15 0),(16,zp 16 0),(17,zI (w64 (high+(1:Int)))),(76,zI (w64 ((w64 (high - low))+(1:Int)))),(77,zI zcE)],[(9,.box 25 (zm (zac (⟨(0:Int),(0:Int)⟩:Frac)))),(10,.box 25 (zm (zac (⟨(0:Int),(0:Int)⟩:Frac)))),(12,.box 25 (zm (zac (⟨(0:Int),(0:Int)⟩:Frac)))),(13,.box 104 (zm (za3 (⟨(⟨zan⟩:list),zat⟩:set)))),(14,.box 104 (zm (za3 (⟨(⟨zao⟩:list),zau⟩:set)))),(15,.box 25 (zm (zac (⟨zbH,zbI⟩:Frac)))),(16,.box 25 (zm (zac (⟨zcR,zcS⟩:Frac))))],[]⟩
abbrev zpl (K:List PA→Prop) (low:Int) (high:Int) (zan:(Sl Gate)) (zat:(Sl straight)) (zao:(Sl Gate)) (zau:(Sl straight)) (X:St→Prop) (P:Int→Int→Int→Int→Int→Bool) (S:Int→Int→Int→Int→Int→(Int×Frac×Frac×Int)):Prop:=∀ ⦃zcE:Int⦄ ⦃zbH:Int⦄ ⦃zbI:Int⦄ ⦃zcR:Int⦄ ⦃zcS:Int⦄,P zcE zbH zbI zcR zcS=true→K (e19 (S zcE zbH zbI zcR zcS))→X (zC5 low high zan zat zao zau zcE zbH zbI zcR zcS)
section
variable {K:List PA→Prop} {a:(Sl Gate)} {b:(Sl Gate)} {low:Int} {high:Int} {zri:Bool} {zan:(Sl Gate)} {zat:(Sl straight)} {zao:(Sl Gate)} {zau:(Sl straight)} {zwZ:Nat→List PV} {zw0:Nat→List PV} {zw1:Nat→List PV} {zw2:Nat→List PV} {zrj:Bool} {zrk:Bool} {zcE:Int} {zbH:Int} {zbI:Int} {zcR:Int} {zcS:Int} {X7:St→Prop} {P7:Int→Int→Int→Int→Int→Bool} {S7:Int→Int→Int→Int→Int→(Int×Frac×Frac×Int)} {iv8:Int} {zrl:Int} {zeT:Int} {zeU:Int} {zj0:Int} {zj1:Int} {zdP:Int} {zdQ:Int} {zbP:Int} {zbQ:Int} {zJM:Int} {zi1:Int} {zi2:Int} {ztm:Int} {ztn:Int} {zeg:Int} {zj2:Int} {zfs:Int} {zft:Int} {zj3:Int} {zj4:Int} {zdo:Int} {zdp:Int} {zbA:Int} {zbB:Int} {zBJ:Int} {zg5:Int} {zgo:Bool} {zFy:Int} {zj5:Int} {zaE:Int} {zaF:Int} {zBK:Int} {zg6:Int} {zgp:Bool} {zHY:Int} {zj6:Int} {zgq:Bool} {zfu:Int} {zfv:Int}
def zrm (high:Int) (zJM:Int) (zi1:Int) (zi2:Int) (ztm:Int) (ztn:Int):(Int×Frac×Frac×Int) :=
  (cond (decide (zJM > high))
 ((0:Int),(⟨(0:Int),(0:Int)⟩:Frac),(⟨(0:Int),(0:Int)⟩:Frac),(5:Int))
 (zJM,(⟨zi1,zi2⟩:Frac),(⟨ztm,ztn⟩:Frac),(0:Int)))
theorem zw3 (hk:K (e19 (zrm high zJM zi1 zi2 ztm ztn))):z19 K [1,0,1,1,1,1,1,1,1,1,1] [] ⟨[(3,zI high),(9,zp 9 0),(10,zp 10 0),(12,zp 12 0),(15,zp 15 0),(16,zp 16 0),(17,zI zJM)],[(9,.box 25 (zm (zac (⟨(0:Int),(0:Int)⟩:Frac)))),(10,.box 25 (zm (zac (⟨(0:Int),(0:Int)⟩:Frac)))),(12,.box 25 (zm (zac (⟨(0:Int),(0:Int)⟩:Frac)))),(15,.box 25 (zm (zac (⟨zi1,zi2⟩:Frac)))),(16,.box 25 (zm (zac (⟨ztm,ztn⟩:Frac))))],[]⟩:=zay (by kernel_rfl) (zt hk (fun hk=>hk) (fun hk=>hk))
def znH (S7:Int→Int→Int→Int→Int→(Int×Frac×Frac×Int)) (low:Int) (high:Int) (zan:(Sl Gate)) (zat:(Sl straight)) (zao:(Sl Gate)) (zau:(Sl straight)) (zaE:Int) (zaF:Int) (zHY:Int) (zj6:Int) (zgq:Bool) (zfu:Int) (zfv:Int):(Int×Frac×Frac×Int) :=
  (cond zgq
 (zrm high (w64 (low+zHY)) zaE zaF zfu zfv)
 (S7 (w64 (zj6+(1:Int))) zaE zaF zfu zfv))
def znI (P7:Int→Int→Int→Int→Int→Bool) (low:Int) (high:Int) (zan:(Sl Gate)) (zat:(Sl straight)) (zao:(Sl Gate)) (zau:(Sl straight)) (zaE:Int) (zaF:Int) (zHY:Int) (zj6:Int) (zgq:Bool) (zfu:Int) (zfv:Int):Bool :=
  (cond zgq
 true
 (P7 (w64 (zj6+(1:Int))) zaE zaF zfu zfv))
theorem zto (hX7:zpl K low high zan zat zao zau X7 P7 S7) (hs:znI P7 low high zan zat zao zau zaE zaF zHY zj6 zgq zfu zfv=true) (hk:K (e19 (znH S7 low high zan zat zao zau zaE zaF zHY zj6 zgq zfu zfv))):z19 K [1,0,1,1,1,1,1,1,1,1,0,1,0,0,1,1,0,0,1,1,1,1,1,1,1] [X7] ⟨[(2,zI low),(3,zI high),(9,zp 9 0),(10,zp 10 0),(12,zp 12 0),(13,zp 13 0),(14,zp 14 0),(15,zp 15 0),(16,zp 16 0),(17,zI (w64 (high+(1:Int)))),(18,zI zHY),(76,zI (w64 ((w64 (high - low))+(1:Int)))),(77,zI zj6),(111,zB zgq)],[(9,.box 25 (zm (zac (⟨(0:Int),(0:Int)⟩:Frac)))),(10,.box 25 (zm (zac (⟨(0:Int),(0:Int)⟩:Frac)))),(12,.box 25 (zm (zac (⟨(0:Int),(0:Int)⟩:Frac)))),(13,.box 104 (zm (za3 (⟨(⟨zan⟩:list),zat⟩:set)))),(14,.box 104 (zm (za3 (⟨(⟨zao⟩:list),zau⟩:set)))),(15,.box 25 (zm (zac (⟨zaE,zaF⟩:Frac)))),(16,.box 25 (zm (zac (⟨zfu,zfv⟩:Frac))))],[]⟩:=zay (by kernel_rfl) (zc hs hk (fun hs hk=>(zw3 hk)) (fun hs hk=>(hX7 hs hk)))
def ztp (S7:Int→Int→Int→Int→Int→(Int×Frac×Frac×Int)) (low:Int) (high:Int) (zan:(Sl Gate)) (zat:(Sl straight)) (zao:(Sl Gate)) (zau:(Sl straight)) (zbP:Int) (zbQ:Int) (zbA:Int) (zbB:Int) (zaE:Int) (zaF:Int) (zBK:Int) (zg6:Int) (zgp:Bool):(Int×Frac×Frac×Int) :=
  (cond zgp
 (znH S7 low high zan zat zao zau zaE zaF zBK zg6 (decide ((s69 (⟨zaE,zaF⟩:Frac) (⟨zbA,zbB⟩:Frac))≤(0:Int))) zbA zbB)
 (znH S7 low high zan zat zao zau zaE zaF zBK zg6 (decide ((s69 (⟨zaE,zaF⟩:Frac) (⟨zbP,zbQ⟩:Frac))≤(0:Int))) zbP zbQ))
def ztq (P7:Int→Int→Int→Int→Int→Bool) (low:Int) (high:Int) (zan:(Sl Gate)) (zat:(Sl straight)) (zao:(Sl Gate)) (zau:(Sl straight)) (zbP:Int) (zbQ:Int) (zbA:Int) (zbB:Int) (zaE:Int) (zaF:Int) (zBK:Int) (zg6:Int) (zgp:Bool):Bool :=
  (cond zgp
 (znI P7 low high zan zat zao zau zaE zaF zBK zg6 (decide ((s69 (⟨zaE,zaF⟩:Frac) (⟨zbA,zbB⟩:Frac))≤(0:Int))) zbA zbB)
 (znI P7 low high zan zat zao zau zaE zaF zBK zg6 (decide ((s69 (⟨zaE,zaF⟩:Frac) (⟨zbP,zbQ⟩:Frac))≤(0:Int))) zbP zbQ))
theorem zBL (hX7:zpl K low high zan zat zao zau X7 P7 S7) (hs:ztq P7 low high zan zat zao zau zbP zbQ zbA zbB zaE zaF zBK zg6 zgp=true) (hk:K (e19 (ztp S7 low high zan zat zao zau zbP zbQ zbA zbB zaE zaF zBK zg6 zgp))):z19 K [1,0,1,1,1,1,1,1,1,1,0,1,0,0,1,1,0,0,1,1,1,1,1,0,1] [X7] ⟨[(2,zI low),(3,zI high),(9,zp 9 0),(10,zp 10 0),(12,zp 12 0),(13,zp 13 0),(14,zp 14 0),(15,zp 15 0),(16,zp 16 0),(17,zI (w64 (high+(1:Int)))),(18,zI zBK),(22,zp 22 0),(76,zI (w64 ((w64 (high - low))+(1:Int)))),(77,zI zg6),(106,zB zgp)],[(9,.box 25 (zm (zac (⟨(0:Int),(0:Int)⟩:Frac)))),(10,.box 25 (zm (zac (⟨(0:Int),(0:Int)⟩:Frac)))),(12,.box 25 (zm (zac (⟨(0:Int),(0:Int)⟩:Frac)))),(13,.box 104 (zm (za3 (⟨(⟨zan⟩:list),zat⟩:set)))),(14,.box 104 (zm (za3 (⟨(⟨zao⟩:list),zau⟩:set)))),(15,.box 25 (zm (zac (⟨zaE,zaF⟩:Frac)))),(16,.box 25 (zm (zac (⟨zbP,zbQ⟩:Frac)))),(22,.box 25 (zm (zac (⟨zbA,zbB⟩:Frac))))],[]⟩:=zay (by kernel_rfl) (zc hs hk (fun hs hk=>(zto hX7 hs hk)) (fun hs hk=>(zto hX7 hs hk)))
def znJ (S7:Int→Int→Int→Int→Int→(Int×Frac×Frac×Int)) (low:Int) (high:Int) (zan:(Sl Gate)) (zat:(Sl straight)) (zao:(Sl Gate)) (zau:(Sl straight)) (zbP:Int) (zbQ:Int) (zbA:Int) (zbB:Int) (zFy:Int) (zj5:Int) (zaE:Int) (zaF:Int):(Int×Frac×Frac×Int) :=
  (ztp S7 low high zan zat zao zau zbP zbQ zbA zbB zaE zaF zFy zj5 (decide ((s69 (⟨zbA,zbB⟩:Frac) (⟨zbP,zbQ⟩:Frac)) < (0:Int))))
def znK (P7:Int→Int→Int→Int→Int→Bool) (low:Int) (high:Int) (zan:(Sl Gate)) (zat:(Sl straight)) (zao:(Sl Gate)) (zau:(Sl straight)) (zbP:Int) (zbQ:Int) (zbA:Int) (zbB:Int) (zFy:Int) (zj5:Int) (zaE:Int) (zaF:Int):Bool :=
  (ztq P7 low high zan zat zao zau zbP zbQ zbA zbB zaE zaF zFy zj5 (decide ((s69 (⟨zbA,zbB⟩:Frac) (⟨zbP,zbQ⟩:Frac)) < (0:Int))))
theorem ztr (hX7:zpl K low high zan zat zao zau X7 P7 S7) (hs:znK P7 low high zan zat zao zau zbP zbQ zbA zbB zFy zj5 zaE zaF=true) (hk:K (e19 (znJ S7 low high zan zat zao zau zbP zbQ zbA zbB zFy zj5 zaE zaF))):z19 K [1,0,1,1,1,1,1,1,1,1,0,1,0,0,1,1,0,0,1,1,1,1,1] [X7] ⟨[(2,zI low),(3,zI high),(9,zp 9 0),(10,zp 10 0),(12,zp 12 0),(13,zp 13 0),(14,zp 14 0),(15,zp 15 0),(16,zp 16 0),(17,zI (w64 (high+(1:Int)))),(18,zI zFy),(20,zp 20 0),(22,zp 22 0),(76,zI (w64 ((w64 (high - low))+(1:Int)))),(77,zI zj5)],[(9,.box 25 (zm (zac (⟨(0:Int),(0:Int)⟩:Frac)))),(10,.box 25 (zm (zac (⟨(0:Int),(0:Int)⟩:Frac)))),(12,.box 25 (zm (zac (⟨(0:Int),(0:Int)⟩:Frac)))),(13,.box 104 (zm (za3 (⟨(⟨zan⟩:list),zat⟩:set)))),(14,.box 104 (zm (za3 (⟨(⟨zao⟩:list),zau⟩:set)))),(15,.box 25 (zm (zac (⟨zaE,zaF⟩:Frac)))),(16,.box 25 (zm (zac (⟨zbP,zbQ⟩:Frac)))),(20,.box 25 (zm (zac (⟨zbP,zbQ⟩:Frac)))),(22,.box 25 (zm (zac (⟨zbA,zbB⟩:Frac))))],[]⟩:=zay (by kernel_rfl) (zBL hX7 hs hk)
def zts (S7:Int→Int→Int→Int→Int→(Int×Frac×Frac×Int)) (low:Int) (high:Int) (zan:(Sl Gate)) (zat:(Sl straight)) (zao:(Sl Gate)) (zau:(Sl straight)) (zdP:Int) (zdQ:Int) (zbP:Int) (zbQ:Int) (zdo:Int) (zdp:Int) (zbA:Int) (zbB:Int) (zBJ:Int) (zg5:Int) (zgo:Bool):(Int×Frac×Frac×Int) :=
  (cond zgo
 (znJ S7 low high zan zat zao zau zbP zbQ zbA zbB zBJ zg5 zdo zdp)
 (znJ S7 low high zan zat zao zau zbP zbQ zbA zbB zBJ zg5 zdP zdQ))
def ztt (P7:Int→Int→Int→Int→Int→Bool) (low:Int) (high:Int) (zan:(Sl Gate)) (zat:(Sl straight)) (zao:(Sl Gate)) (zau:(Sl straight)) (zdP:Int) (zdQ:Int) (zbP:Int) (zbQ:Int) (zdo:Int) (zdp:Int) (zbA:Int) (zbB:Int) (zBJ:Int) (zg5:Int) (zgo:Bool):Bool :=
  (cond zgo
 (znK P7 low high zan zat zao zau zbP zbQ zbA zbB zBJ zg5 zdo zdp)
 (znK P7 low high zan zat zao zau zbP zbQ zbA zbB zBJ zg5 zdP zdQ))
theorem zBM (hX7:zpl K low high zan zat zao zau X7 P7 S7) (hs:ztt P7 low high zan zat zao zau zdP zdQ zbP zbQ zdo zdp zbA zbB zBJ zg5 zgo=true) (hk:K (e19 (zts S7 low high zan zat zao zau zdP zdQ zbP zbQ zdo zdp zbA zbB zBJ zg5 zgo))):z19 K [1,0,1,1,1,1,1,1,1,1,0,1,0,0,1,1,0,0,1,1,1,1,0,1] [X7] ⟨[(2,zI low),(3,zI high),(9,zp 9 0),(10,zp 10 0),(12,zp 12 0),(13,zp 13 0),(14,zp 14 0),(15,zp 15 0),(16,zp 16 0),(17,zI (w64 (high+(1:Int)))),(18,zI zBJ),(20,zp 20 0),(21,zp 21 0),(22,zp 22 0),(76,zI (w64 ((w64 (high - low))+(1:Int)))),(77,zI zg5),(101,zB zgo)],[(9,.box 25 (zm (zac (⟨(0:Int),(0:Int)⟩:Frac)))),(10,.box 25 (zm (zac (⟨(0:Int),(0:Int)⟩:Frac)))),(12,.box 25 (zm (zac (⟨(0:Int),(0:Int)⟩:Frac)))),(13,.box 104 (zm (za3 (⟨(⟨zan⟩:list),zat⟩:set)))),(14,.box 104 (zm (za3 (⟨(⟨zao⟩:list),zau⟩:set)))),(15,.box 25 (zm (zac (⟨zdP,zdQ⟩:Frac)))),(16,.box 25 (zm (zac (⟨zbP,zbQ⟩:Frac)))),(20,.box 25 (zm (zac (⟨zbP,zbQ⟩:Frac)))),(21,.box 25 (zm (zac (⟨zdo,zdp⟩:Frac)))),(22,.box 25 (zm (zac (⟨zbA,zbB⟩:Frac))))],[]⟩:=zay (by kernel_rfl) (zc hs hk (fun hs hk=>(ztr hX7 hs hk)) (fun hs hk=>(ztr hX7 hs hk)))
def ztu (S7:Int→Int→Int→Int→Int→(Int×Frac×Frac×Int)) (low:Int) (high:Int) (zan:(Sl Gate)) (zat:(Sl straight)) (zao:(Sl Gate)) (zau:(Sl straight)) (zdP:Int) (zdQ:Int) (zbP:Int) (zbQ:Int) (zeg:Int) (zj2:Int) (zfs:Int) (zft:Int) (zj3:Int) (zj4:Int) (zdo:Int) (zdp:Int) (zbA:Int) (zbB:Int):(Int×Frac×Frac×Int) :=
  (zts S7 low high zan zat zao zau zdP zdQ zbP zbQ zdo zdp zbA zbB zeg zj2 (decide ((s69 (⟨zdo,zdp⟩:Frac) (⟨zdP,zdQ⟩:Frac)) > (0:Int))))
def ztv (P7:Int→Int→Int→Int→Int→Bool) (low:Int) (high:Int) (zan:(Sl Gate)) (zat:(Sl straight)) (zao:(Sl Gate)) (zau:(Sl straight)) (zdP:Int) (zdQ:Int) (zbP:Int) (zbQ:Int) (zeg:Int) (zj2:Int) (zfs:Int) (zft:Int) (zj3:Int) (zj4:Int) (zdo:Int) (zdp:Int) (zbA:Int) (zbB:Int):Bool :=
  (ztt P7 low high zan zat zao zau zdP zdQ zbP zbQ zdo zdp zbA zbB zeg zj2 (decide ((s69 (⟨zdo,zdp⟩:Frac) (⟨zdP,zdQ⟩:Frac)) > (0:Int))))
theorem zBN (hX7:zpl K low high zan zat zao zau X7 P7 S7) (hs:ztv P7 low high zan zat zao zau zdP zdQ zbP zbQ zeg zj2 zfs zft zj3 zj4 zdo zdp zbA zbB=true) (hk:K (e19 (ztu S7 low high zan zat zao zau zdP zdQ zbP zbQ zeg zj2 zfs zft zj3 zj4 zdo zdp zbA zbB))):z19 K [1,0,1,1,1,1,1,1,1,1,0,1,0,0,1,1,0,0,1,1,1] [X7] ⟨[(2,zI low),(3,zI high),(9,zp 9 0),(10,zp 10 0),(12,zp 12 0),(13,zp 13 0),(14,zp 14 0),(15,zp 15 0),(16,zp 16 0),(17,zI (w64 (high+(1:Int)))),(18,zI zeg),(19,zp 19 0),(20,zp 20 0),(21,zp 21 0),(22,zp 22 0),(76,zI (w64 ((w64 (high - low))+(1:Int)))),(77,zI zj2)],[(9,.box 25 (zm (zac (⟨(0:Int),(0:Int)⟩:Frac)))),(10,.box 25 (zm (zac (⟨(0:Int),(0:Int)⟩:Frac)))),(12,.box 25 (zm (zac (⟨(0:Int),(0:Int)⟩:Frac)))),(13,.box 104 (zm (za3 (⟨(⟨zan⟩:list),zat⟩:set)))),(14,.box 104 (zm (za3 (⟨(⟨zao⟩:list),zau⟩:set)))),(15,.box 25 (zm (zac (⟨zfs,zft⟩:Frac)))),(16,.box 25 (zm (zac (⟨zj3,zj4⟩:Frac)))),(19,.box 25 (zm (zac (⟨zdP,zdQ⟩:Frac)))),(20,.box 25 (zm (zac (⟨zbP,zbQ⟩:Frac)))),(21,.box 25 (zm (zac (⟨zdo,zdp⟩:Frac)))),(22,.box 25 (zm (zac (⟨zbA,zbB⟩:Frac))))],[]⟩:=zay (by kernel_rfl) (zBM hX7 hs hk)
def zw4 (S7:Int→Int→Int→Int→Int→(Int×Frac×Frac×Int)) (low:Int) (high:Int) (zan:(Sl Gate)) (zat:(Sl straight)) (zao:(Sl Gate)) (zau:(Sl straight)) (iv8:Int) (zrl:Int) (zeT:Int) (zeU:Int) (zj0:Int) (zj1:Int) (zdP:Int) (zdQ:Int) (zbP:Int) (zbQ:Int):(Int×Frac×Frac×Int) :=
  (ztu S7 low high zan zat zao zau zdP zdQ zbP zbQ iv8 zrl zeT zeU zj0 zj1 (((s68 (⟨(⟨zao⟩:list),zau⟩:set) (w64 (low+iv8))).1).Num) (((s68 (⟨(⟨zao⟩:list),zau⟩:set) (w64 (low+iv8))).1).Den) (((s68 (⟨(⟨zao⟩:list),zau⟩:set) (w64 (low+iv8))).2).Num) (((s68 (⟨(⟨zao⟩:list),zau⟩:set) (w64 (low+iv8))).2).Den))
def zw5 (P7:Int→Int→Int→Int→Int→Bool) (low:Int) (high:Int) (zan:(Sl Gate)) (zat:(Sl straight)) (zao:(Sl Gate)) (zau:(Sl straight)) (iv8:Int) (zrl:Int) (zeT:Int) (zeU:Int) (zj0:Int) (zj1:Int) (zdP:Int) (zdQ:Int) (zbP:Int) (zbQ:Int):Bool :=
  (decide ((p68 (⟨(⟨zao⟩:list),zau⟩:set) (w64 (low+iv8))=true)) &&
 (ztv P7 low high zan zat zao zau zdP zdQ zbP zbQ iv8 zrl zeT zeU zj0 zj1 (((s68 (⟨(⟨zao⟩:list),zau⟩:set) (w64 (low+iv8))).1).Num) (((s68 (⟨(⟨zao⟩:list),zau⟩:set) (w64 (low+iv8))).1).Den) (((s68 (⟨(⟨zao⟩:list),zau⟩:set) (w64 (low+iv8))).2).Num) (((s68 (⟨(⟨zao⟩:list),zau⟩:set) (w64 (low+iv8))).2).Den)))
theorem zFz (hX7:zpl K low high zan zat zao zau X7 P7 S7) (hs:zw5 P7 low high zan zat zao zau iv8 zrl zeT zeU zj0 zj1 zdP zdQ zbP zbQ=true) (hk:K (e19 (zw4 S7 low high zan zat zao zau iv8 zrl zeT zeU zj0 zj1 zdP zdQ zbP zbQ))):z19 K [1,0,1,1,1,1,1,1,1,1,0,1,0,0,1,1,0,0,1,1] [X7] ⟨[(2,zI low),(3,zI high),(9,zp 9 0),(10,zp 10 0),(12,zp 12 0),(13,zp 13 0),(14,zp 14 0),(15,zp 15 0),(16,zp 16 0),(17,zI (w64 (high+(1:Int)))),(18,zI iv8),(19,zp 19 0),(20,zp 20 0),(76,zI (w64 ((w64 (high - low))+(1:Int)))),(77,zI zrl)],[(9,.box 25 (zm (zac (⟨(0:Int),(0:Int)⟩:Frac)))),(10,.box 25 (zm (zac (⟨(0:Int),(0:Int)⟩:Frac)))),(12,.box 25 (zm (zac (⟨(0:Int),(0:Int)⟩:Frac)))),(13,.box 104 (zm (za3 (⟨(⟨zan⟩:list),zat⟩:set)))),(14,.box 104 (zm (za3 (⟨(⟨zao⟩:list),zau⟩:set)))),(15,.box 25 (zm (zac (⟨zeT,zeU⟩:Frac)))),(16,.box 25 (zm (zac (⟨zj0,zj1⟩:Frac)))),(19,.box 25 (zm (zac (⟨zdP,zdQ⟩:Frac)))),(20,.box 25 (zm (zac (⟨zbP,zbQ⟩:Frac))))],[]⟩:=zay (by kernel_rfl) (zaw hs fun hc hs=>And.intro (And.intro (zE enc_55 3 zao.get) (And.intro (zE zaf 3 zau.get) hc)) (zBN hX7 hs hk))
def zw6 (low:Int) (high:Int) (zan:(Sl Gate)) (zat:(Sl straight)) (zao:(Sl Gate)) (zau:(Sl straight)) (S7:Int→Int→Int→Int→Int→(Int×Frac×Frac×Int)) (zcE:Int) (zbH:Int) (zbI:Int) (zcR:Int) (zcS:Int):(Int×Frac×Frac×Int) :=
  (cond (decide (zcE < (w64 ((w64 (high - low)) + (1:Int)))))
 (zw4 S7 low high zan zat zao zau zcE zcE zbH zbI zcR zcS (((s68 (⟨(⟨zan⟩:list),zat⟩:set) (w64 (low+zcE))).1).Num) (((s68 (⟨(⟨zan⟩:list),zat⟩:set) (w64 (low+zcE))).1).Den) (((s68 (⟨(⟨zan⟩:list),zat⟩:set) (w64 (low+zcE))).2).Num) (((s68 (⟨(⟨zan⟩:list),zat⟩:set) (w64 (low+zcE))).2).Den))
 (zrm high (w64 (high+(1:Int))) zbH zbI zcR zcS))
def zw7 (low:Int) (high:Int) (zan:(Sl Gate)) (zat:(Sl straight)) (zao:(Sl Gate)) (zau:(Sl straight)) (P7:Int→Int→Int→Int→Int→Bool) (zcE:Int) (zbH:Int) (zbI:Int) (zcR:Int) (zcS:Int):Bool :=
  (cond (decide (zcE < (w64 ((w64 (high - low)) + (1:Int)))))
 (decide ((p68 (⟨(⟨zan⟩:list),zat⟩:set) (w64 (low+zcE))=true)) &&
 (zw5 P7 low high zan zat zao zau zcE zcE zbH zbI zcR zcS (((s68 (⟨(⟨zan⟩:list),zat⟩:set) (w64 (low+zcE))).1).Num) (((s68 (⟨(⟨zan⟩:list),zat⟩:set) (w64 (low+zcE))).1).Den) (((s68 (⟨(⟨zan⟩:list),zat⟩:set) (w64 (low+zcE))).2).Num) (((s68 (⟨(⟨zan⟩:list),zat⟩:set) (w64 (low+zcE))).2).Den)))
 true)
def zw8 (low:Int) (high:Int) (zan:(Sl Gate)) (zat:(Sl straight)) (zao:(Sl Gate)) (zau:(Sl straight)):Nat→Int→Int→Int→Int→Int→(Int×Frac×Frac×Int):=lpO (fun _ _ _ _ _=>default) (zw6 low high zan zat zao zau)
def zw9 (low:Int) (high:Int) (zan:(Sl Gate)) (zat:(Sl straight)) (zao:(Sl Gate)) (zau:(Sl straight)):Nat→Int→Int→Int→Int→Int→Bool:=lpO (fun _ _ _ _ _=>false) (zw7 low high zan zat zao zau)
def zxa (low:Int) (high:Int) (zan:(Sl Gate)) (zat:(Sl straight)) (zao:(Sl Gate)) (zau:(Sl straight)) (zcE:Int) (zbH:Int) (zbI:Int) (zcR:Int) (zcS:Int):(Int×Frac×Frac×Int):=zw8 low high zan zat zao zau Fuel zcE zbH zbI zcR zcS
def zxb (low:Int) (high:Int) (zan:(Sl Gate)) (zat:(Sl straight)) (zao:(Sl Gate)) (zau:(Sl straight)) (zcE:Int) (zbH:Int) (zbI:Int) (zcR:Int) (zcS:Int):Bool:=zw9 low high zan zat zao zau Fuel zcE zbH zbI zcR zcS
theorem zFA (hs:zxb low high zan zat zao zau zcE zbH zbI zcR zcS=true) (hk:K (e19 (zxa low high zan zat zao zau zcE zbH zbI zcR zcS))):z19 K [1,0,1,1,1,1,1,1,1,1,0,1,0] [] (zC5 low high zan zat zao zau zcE zbH zbI zcR zcS) :=
  zl (fun X=>z19 K [1,0,1,1,1,1,1,1,1,1,0,1,0,0] [X]) (by kernel_rfl) fun X7 hX =>
  (show ∀ k, zpl K low high zan zat zao zau X7 (zw9 low high zan zat zao zau k) (zw8 low high zan zat zao zau k) from zgX _ _ (zw7 low high zan zat zao zau) (zw6 low high zan zat zao zau) (zpl K low high zan zat zao zau X7)
 (by intro _ _ _ _ _ hs;exact absurd hs Bool.false_ne_true)
 (by intro P7 S7 hX7 zcE zbH zbI zcR zcS hs hk;exact hX _ (zay (by kernel_rfl) (zc hs hk (fun hs hk=>(zaw hs fun hc hs=>And.intro (And.intro (zE enc_55 3 zan.get) (And.intro (zE zaf 3 zat.get) hc)) (zFz hX7 hs hk))) (fun hs hk=>(zw3 hk)))))) _ hs hk
def zxc (low:Int) (high:Int) (zan:(Sl Gate)) (zat:(Sl straight)) (zao:(Sl Gate)) (zau:(Sl straight)):(Int×Frac×Frac×Int) :=
  (zxa low high zan zat zao zau (0:Int) (0:Int) (0:Int) (0:Int) (0:Int))
def zxd (low:Int) (high:Int) (zan:(Sl Gate)) (zat:(Sl straight)) (zao:(Sl Gate)) (zau:(Sl straight)):Bool :=
  (zxb low high zan zat zao zau (0:Int) (0:Int) (0:Int) (0:Int) (0:Int))
theorem zFB (hs:zxd low high zan zat zao zau=true) (hk:K (e19 (zxc low high zan zat zao zau))):z19 K [1,0,1,1,1,1,1] [] ⟨[(2,zI low),(3,zI high),(9,zp 9 0),(10,zp 10 0),(12,zp 12 0),(13,zp 13 0),(14,zp 14 0)],[(9,.box 25 (zm (zac (⟨(0:Int),(0:Int)⟩:Frac)))),(10,.box 25 (zm (zac (⟨(0:Int),(0:Int)⟩:Frac)))),(12,.box 25 (zm (zac (⟨(0:Int),(0:Int)⟩:Frac)))),(13,.box 104 (zm (za3 (⟨(⟨zan⟩:list),zat⟩:set)))),(14,.box 104 (zm (za3 (⟨(⟨zao⟩:list),zau⟩:set))))],[]⟩:=zay (by kernel_rfl) (zFA hs hk)
def zrn (low:Int) (high:Int) (zan:(Sl Gate)) (zat:(Sl straight)) (zao:(Sl Gate)) (zau:(Sl straight)) (zrk:Bool):(Int×Frac×Frac×Int) :=
  (cond zrk
 ((0:Int),(⟨(0:Int),(0:Int)⟩:Frac),(⟨(0:Int),(0:Int)⟩:Frac),(6:Int))
 (zxc low high zan zat zao zau))
def zro (low:Int) (high:Int) (zan:(Sl Gate)) (zat:(Sl straight)) (zao:(Sl Gate)) (zau:(Sl straight)) (zrk:Bool):Bool :=
  (cond zrk
 true
 (zxd low high zan zat zao zau))
theorem zxe (hs:zro low high zan zat zao zau zrk=true) (hk:K (e19 (zrn low high zan zat zao zau zrk))):z19 K [1,0,1,1,1,1,0,1] [] ⟨[(2,zI low),(3,zI high),(9,zp 9 0),(10,zp 10 0),(12,zp 12 0),(13,zp 13 0),(14,zp 14 0),(68,zB zrk)],[(9,.box 25 (zm (zac (⟨(0:Int),(0:Int)⟩:Frac)))),(10,.box 25 (zm (zac (⟨(0:Int),(0:Int)⟩:Frac)))),(12,.box 25 (zm (zac (⟨(0:Int),(0:Int)⟩:Frac)))),(13,.box 104 (zm (za3 (⟨(⟨zan⟩:list),zat⟩:set)))),(14,.box 104 (zm (za3 (⟨(⟨zao⟩:list),zau⟩:set))))],[]⟩:=zay (by kernel_rfl) (zc hs hk (fun hs hk=>hk) (fun hs hk=>(zFB hs hk)))
def zxf (low:Int) (high:Int) (zan:(Sl Gate)) (zat:(Sl straight)) (zao:(Sl Gate)) (zau:(Sl straight)):(Int×Frac×Frac×Int) :=
  (cond (s67 (⟨zan⟩ : list))
 (zrn low high zan zat zao zau true)
 (zrn low high zan zat zao zau (s67 (⟨zao⟩:list))))
def zxg (low:Int) (high:Int) (zan:(Sl Gate)) (zat:(Sl straight)) (zao:(Sl Gate)) (zau:(Sl straight)):Bool :=
  (decide ((p67 (⟨zan⟩:list)=true)) &&
 (cond (s67 (⟨zan⟩ : list))
 (zro low high zan zat zao zau true)
 (decide ((p67 (⟨zao⟩:list)=true)) &&
 (zro low high zan zat zao zau (s67 (⟨zao⟩:list))))))
theorem zFC (hs:zxg low high zan zat zao zau=true) (hk:K (e19 (zxf low high zan zat zao zau))):z19 K [1,0,1,1,1,1] [] ⟨[(2,zI low),(3,zI high),(9,zp 9 0),(10,zp 10 0),(12,zp 12 0),(13,zp 13 0),(14,zp 14 0)],[(9,.box 25 (zm (zac (⟨(0:Int),(0:Int)⟩:Frac)))),(10,.box 25 (zm (zac (⟨(0:Int),(0:Int)⟩:Frac)))),(12,.box 25 (zm (zac (⟨(0:Int),(0:Int)⟩:Frac)))),(13,.box 104 (zm (za3 (⟨(⟨zan⟩:list),zat⟩:set)))),(14,.box 104 (zm (za3 (⟨(⟨zao⟩:list),zau⟩:set))))],[]⟩:=zay (by kernel_rfl) (zaw hs fun hc hs=>And.intro (And.intro (zE enc_55 3 zan.get) hc) (zc hs hk (fun hs hk=>(zxe hs hk)) (fun hs hk=>(zaw hs fun hc hs=>And.intro (And.intro (zE enc_55 3 zao.get) hc) (zxe hs hk)))))
def zrp (low:Int) (high:Int) (zan:(Sl Gate)) (zat:(Sl straight)) (zao:(Sl Gate)) (zau:(Sl straight)) (zrj:Bool):(Int×Frac×Frac×Int) :=
  (cond zrj
 ((0:Int),(⟨(0:Int),(0:Int)⟩:Frac),(⟨(0:Int),(0:Int)⟩:Frac),(5:Int))
 (zxf low high zan zat zao zau))
def zrq (low:Int) (high:Int) (zan:(Sl Gate)) (zat:(Sl straight)) (zao:(Sl Gate)) (zau:(Sl straight)) (zrj:Bool):Bool :=
  (cond zrj
 true
 (zxg low high zan zat zao zau))
theorem zxh (hs:zrq low high zan zat zao zau zrj=true) (hk:K (e19 (zrp low high zan zat zao zau zrj))):z19 K [1,0,1,1,1,0,1] [] ⟨[(2,zI low),(3,zI high),(9,zp 9 0),(10,zp 10 0),(12,zp 12 0),(13,zp 13 0),(14,zp 14 0),(58,zB zrj)],[(9,.box 25 (zm (zac (⟨(0:Int),(0:Int)⟩:Frac)))),(10,.box 25 (zm (zac (⟨(0:Int),(0:Int)⟩:Frac)))),(12,.box 25 (zm (zac (⟨(0:Int),(0:Int)⟩:Frac)))),(13,.box 104 (zm (za3 (⟨(⟨zan⟩:list),zat⟩:set)))),(14,.box 104 (zm (za3 (⟨(⟨zao⟩:list),zau⟩:set))))],[]⟩:=zay (by kernel_rfl) (zc hs hk (fun hs hk=>hk) (fun hs hk=>(zFC hs hk)))
def zxi (low:Int) (high:Int) (zan:(Sl Gate)) (zat:(Sl straight)) (zao:(Sl Gate)) (zau:(Sl straight)):(Int×Frac×Frac×Int) :=
  (cond (!(s66 (⟨(⟨zan⟩ : list), zat⟩ : set)))
 (zrp low high zan zat zao zau true)
 (zrp low high zan zat zao zau (!(s66 (⟨(⟨zao⟩:list),zau⟩:set)))))
def zxj (low:Int) (high:Int) (zan:(Sl Gate)) (zat:(Sl straight)) (zao:(Sl Gate)) (zau:(Sl straight)):Bool :=
  (decide ((p66 (⟨(⟨zan⟩:list),zat⟩:set)=true)) &&
 (cond (!(s66 (⟨(⟨zan⟩ : list), zat⟩ : set)))
 (zrq low high zan zat zao zau true)
 (decide ((p66 (⟨(⟨zao⟩:list),zau⟩:set)=true)) &&
 (zrq low high zan zat zao zau (!(s66 (⟨(⟨zao⟩:list),zau⟩:set)))))))
theorem zFD (hs:zxj low high zan zat zao zau=true) (hk:K (e19 (zxi low high zan zat zao zau))) (zFE:zwZ=zg enc_55 zan) (zFF:zw0=zg zaf zat) (zFG:zw1=zg enc_55 zao) (zFH:zw2=zg zaf zau):z19 K [1,0,1,1,1] [] ⟨[(2,zI low),(3,zI high),(9,zp 9 0),(10,zp 10 0),(12,zp 12 0),(13,zp 13 0),(14,zp 14 0)],[(9,.box 25 (zm (zac (⟨(0:Int),(0:Int)⟩:Frac)))),(10,.box 25 (zm (zac (⟨(0:Int),(0:Int)⟩:Frac)))),(12,.box 25 (zm (zac (⟨(0:Int),(0:Int)⟩:Frac)))),(13,.box 104 [.p (.sl zan.len 3 zwZ),.p (.sl zat.len 3 zw0)]),(14,.box 104 [.p (.sl zao.len 3 zw1),.p (.sl zau.len 3 zw2)])],[]⟩:=by subst zFE;subst zFF;subst zFG;subst zFH;exact zay (by kernel_rfl) (zaw hs fun hc hs=>And.intro (And.intro (zE enc_55 3 zan.get) (And.intro (zE zaf 3 zat.get) hc)) (zc hs hk (fun hs hk=>(zxh hs hk)) (fun hs hk=>(zaw hs fun hc hs=>And.intro (And.intro (zE enc_55 3 zao.get) (And.intro (zE zaf 3 zau.get) hc)) (zxh hs hk)))))
def zxk (a:(Sl Gate)) (b:(Sl Gate)) (low:Int) (high:Int):(Int×Frac×Frac×Int) :=
  (zxi low high ((s65 a).list.Gates) ((s65 a).corners) ((s65 b).list.Gates) ((s65 b).corners))
def zxl (a:(Sl Gate)) (b:(Sl Gate)) (low:Int) (high:Int):Bool :=
  (decide ((p65 a=true)) &&
 (decide ((p65 b=true)) &&
 (zxj low high ((s65 a).list.Gates) ((s65 a).corners) ((s65 b).list.Gates) ((s65 b).corners))))
theorem zFI (hs:zxl a b low high=true) (hk:K (e19 (zxk a b low high))):z19 K [1,0,1,1] [] ⟨[(0,zS enc_55 3 a),(1,zS enc_55 3 b),(2,zI low),(3,zI high),(9,zp 9 0),(10,zp 10 0),(12,zp 12 0)],[(9,.box 25 (zm (zac (⟨(0:Int),(0:Int)⟩:Frac)))),(10,.box 25 (zm (zac (⟨(0:Int),(0:Int)⟩:Frac)))),(12,.box 25 (zm (zac (⟨(0:Int),(0:Int)⟩:Frac))))],[]⟩:=zay (by kernel_rfl) (zaw hs fun hc hs=>And.intro (And.intro (zE enc_55 3 a.get) hc) (zaw hs fun hc hs=>And.intro (And.intro (zE enc_55 3 b.get) hc) (zFD hs hk rfl rfl rfl rfl)))
def zh5 (a:(Sl Gate)) (b:(Sl Gate)) (low:Int) (high:Int) (zri:Bool):(Int×Frac×Frac×Int) :=
  (cond zri
 ((0:Int),(⟨(0:Int),(0:Int)⟩:Frac),(⟨(0:Int),(0:Int)⟩:Frac),(2:Int))
 (zxk a b low high))
def zh6 (a:(Sl Gate)) (b:(Sl Gate)) (low:Int) (high:Int) (zri:Bool):Bool :=
  (cond zri
 true
 (zxl a b low high))
theorem zj7 (hs:zh6 a b low high zri=true) (hk:K (e19 (zh5 a b low high zri))):z19 K [1,0,1,0,1] [] ⟨[(0,zS enc_55 3 a),(1,zS enc_55 3 b),(2,zI low),(3,zI high),(9,zp 9 0),(10,zp 10 0),(12,zp 12 0),(44,zB zri)],[(9,.box 25 (zm (zac (⟨(0:Int),(0:Int)⟩:Frac)))),(10,.box 25 (zm (zac (⟨(0:Int),(0:Int)⟩:Frac)))),(12,.box 25 (zm (zac (⟨(0:Int),(0:Int)⟩:Frac))))],[]⟩:=zay (by kernel_rfl) (zc hs hk (fun hs hk=>hk) (fun hs hk=>(zFI hs hk)))
def s19 (a:(Sl Gate)) (b:(Sl Gate)) (low:Int) (high:Int):(Int×Frac×Frac×Int) :=
  (cond (decide (low < (-100000:Int)))
 (zh5 a b low high true)
 (cond (decide (low > high))
 (zh5 a b low high true)
 (cond (decide (high > (200000:Int)))
 (zh5 a b low high true)
 (cond (!(s64 a))
 (zh5 a b low high true)
 (zh5 a b low high (!(s64 b)))))))
def p19 (a:(Sl Gate)) (b:(Sl Gate)) (low:Int) (high:Int):Bool :=
  (cond (decide (low < (-100000:Int)))
 (zh6 a b low high true)
 (cond (decide (low > high))
 (zh6 a b low high true)
 (cond (decide (high > (200000:Int)))
 (zh6 a b low high true)
 (decide ((p64 a=true)) &&
 (cond (!(s64 a))
 (zh6 a b low high true)
 (decide ((p64 b=true)) &&
 (zh6 a b low high (!(s64 b)))))))))
end
theorem q19 (a:(Sl Gate)) (b:(Sl Gate)) (low:Int) (high:Int) (K:List PA→Prop) (hs:p19 a b low high=true) (hk:K (e19 (s19 a b low high))):vcFun Try.prog G19 zFx 19 [.one (.sl a.len 3 (fun i=>enc_55 (a.get i))),.one (.sl b.len 3 (fun i=>enc_55 (b.get i))),.one (.int .i64 low),.one (.int .i64 high)] K :=
  zay (by kernel_rfl) (zc hs hk (fun hs hk=>(zj7 hs hk)) (fun hs hk=>(zc hs hk (fun hs hk=>(zj7 hs hk)) (fun hs hk=>(zc hs hk (fun hs hk=>(zj7 hs hk)) (fun hs hk=>(zaw hs fun hc hs=>And.intro (And.intro (zE enc_55 3 a.get) hc) (zc hs hk (fun hs hk=>(zj7 hs hk)) (fun hs hk=>(zaw hs fun hc hs=>And.intro (And.intro (zE enc_55 3 b.get) hc) (zj7 hs hk)))))))))))
def zFJ : List PA → COut
  | [.one (.sl a0_n a0_s a0_g),.one (.sl a1_n a1_s a1_g),.one (.int .i64 a2),.one (.int .i64 a3)]=>.det (IsE enc_55 3 a0_s a0_g∧IsE enc_55 3 a1_s a1_g∧p19 (⟨a0_n,zad a0_g⟩:(Sl Gate)) (⟨a1_n,zad a1_g⟩:(Sl Gate)) a2 a3=true) [.one (.int .i64 ((s19 (⟨a0_n,zad a0_g⟩:(Sl Gate)) (⟨a1_n,zad a1_g⟩:(Sl Gate)) a2 a3).1)),.agg [.int .i64 (((s19 (⟨a0_n,zad a0_g⟩:(Sl Gate)) (⟨a1_n,zad a1_g⟩:(Sl Gate)) a2 a3).2.1).Num),.int .i64 (((s19 (⟨a0_n,zad a0_g⟩:(Sl Gate)) (⟨a1_n,zad a1_g⟩:(Sl Gate)) a2 a3).2.1).Den)],.agg [.int .i64 (((s19 (⟨a0_n,zad a0_g⟩:(Sl Gate)) (⟨a1_n,zad a1_g⟩:(Sl Gate)) a2 a3).2.2.1).Num),.int .i64 (((s19 (⟨a0_n,zad a0_g⟩:(Sl Gate)) (⟨a1_n,zad a1_g⟩:(Sl Gate)) a2 a3).2.2.1).Den)],.one (.int .i64 ((s19 (⟨a0_n,zad a0_g⟩:(Sl Gate)) (⟨a1_n,zad a1_g⟩:(Sl Gate)) a2 a3).2.2.2))]
  | _=>.no
theorem zJN:zai Try.prog 19:=⟨_,rfl,rfl,by kernel_rfl⟩
theorem zPp:Ok Try.prog 19 zFJ:=zaN zMr zJN fun args K h=>by
  unfold zFJ at h
  split at h
  · rename_i a0_n a0_s a0_g a1_n a1_s a1_g a2 a3
    obtain ⟨⟨⟨rfl,a0_f,rfl⟩,⟨rfl,a1_f,rfl⟩,hs⟩,hk⟩:=h
    try rw [zae a0_f] at hs
    try rw [zae a0_f] at hk
    try rw [zae a1_f] at hs
    try rw [zae a1_f] at hk
    exact ⟨(fun _ _=>[]),(fun _=>false),zFx,q19 (⟨a0_n,a0_f⟩:(Sl Gate)) (⟨a1_n,a1_f⟩:(Sl Gate)) a2 a3 K hs hk⟩
  · exact h.elim
abbrev zNY:Tabs:=Tabs.nil
theorem zJO:TabsOk Try.prog zNY:=TabsOk.nil
abbrev zNZ:Ctrs:=csm zNY (fun _ _=>[]) (fun _=>false)
def zxm:Ann:=⟨8,[(0,⟨[0],[],[],[],[],[],[]⟩),(1,⟨[0,4],[],[],[],[],[],[]⟩),(2,⟨[2],[],[],[],[],[],[]⟩),(3,⟨[2],[5],[],[],[],[],[]⟩)],
 [],
 [],
 [],[]⟩
theorem zBO (n : Nat) (get : Nat → List PV) : zvL Try.prog zNZ zxm 105 [.one (.sl n 3 get)] 118 3 24 n get =
  ((True)∧(∃ r1:Bool,(n ≠ 0→r1=false))∧∀ r1:Bool,(n ≠ 0→r1=false) →
 (zda r1
 (True∧n=0)
 ((((0+n) * 24≤140737488355328∧0+n≤9223372036854775807)) ∧
 (True∧118=118∧3=3∧24=24∧(0+n)=n∧∀ i,i < n→(appG 0 (zcK []) get) i=get i)))):=by kernel_rfl
abbrev zC6:OwnK:=.clone 118 3 24
theorem zFK:zai Try.prog 105:=⟨_,rfl,rfl,by kernel_rfl⟩
theorem zMs:zmD Try.prog 105 zC6:=zvO zJO zFK fun n get h1 h2=>by
  refine ⟨fun _ _=>[],fun _=>false,zxm,?_⟩
  show zvL Try.prog zNZ zxm 105 _ _ _ _ _ _
  rw [zBO]
  refine ⟨trivial,⟨decide (n=0),fun h=>decide_eq_false h⟩,fun r1 hr=>?_⟩
  cases r1
  · refine ⟨⟨by omega,by omega⟩,trivial,rfl,rfl,rfl,Nat.zero_add n,fun i _=>rfl⟩
  · exact ⟨trivial,Classical.byContradiction fun h=>by simpa using hr h⟩
abbrev zC7:OwnK:=.sort 118 3 24
theorem zMt:zmD Try.prog 106 zC7:=zvV Try.laysS106 rfl rfl rfl (fun h=>h) ⟨_,rfl,rfl,by kernel_rfl⟩
abbrev zN0:Tabs:=(Tabs.nil.addF 99 zwd)
theorem zJP:TabsOk Try.prog zN0:=(TabsOk.nil.addF zLL)
abbrev zPq:Ctrs:=csm zN0 (fun _ _=>[]) (fun _=>false)
def zC8:Ann:=⟨10,[(0,zK [2,3] [2,3]),(1,zK [4] [])],
 [],
 [],
 [],[]⟩
abbrev zPr:=Bool
abbrev e108 (r:zPr):List PA:=[.one (.bool r)]
section
variable {K:List PA→Prop} {s:set} {x:straight}
def zC9 (s:set) (x:straight):Bool :=
  (zLJ x s.list.Gates)
def zLi (s:set) (x:straight):Bool :=
  (decide ((zLK x s.list.Gates=true)) &&
 true)
end
theorem zPs (s:set) (x:straight) (K:List PA→Prop) (hs:zLi s x=true) (hk:K (e108 (zC9 s x))):vcFun Try.prog zPq zC8 108 [.agg (za3 s),.agg (zaf x)] K :=
  zay (by kernel_rfl) (zaw hs fun hc hs=>And.intro (And.intro (zE enc_55 3 s.list.Gates.get) hc) hk)
def zxn : List PA → COut
  | [.agg [.sl a0_list_Gates_n a0_list_Gates_s a0_list_Gates_g,.sl a0_corners_n a0_corners_s a0_corners_g],.agg [.int .i64 a1_slope,.int .i64 a1_start,.int .i64 a1_den]]=>.det (IsE enc_55 3 a0_list_Gates_s a0_list_Gates_g∧IsE zaf 3 a0_corners_s a0_corners_g∧zLi (⟨(⟨(⟨a0_list_Gates_n,zad a0_list_Gates_g⟩:(Sl Gate))⟩:list),(⟨a0_corners_n,zaX a0_corners_g⟩:(Sl straight))⟩:set) (⟨a1_slope,a1_start,a1_den⟩:straight)=true) [.one (.bool (zC9 (⟨(⟨(⟨a0_list_Gates_n,zad a0_list_Gates_g⟩:(Sl Gate))⟩:list),(⟨a0_corners_n,zaX a0_corners_g⟩:(Sl straight))⟩:set) (⟨a1_slope,a1_start,a1_den⟩:straight)))]
  | _=>.no
theorem zFL:zai Try.prog 108:=⟨_,rfl,rfl,by kernel_rfl⟩
theorem zMu:Ok Try.prog 108 zxn:=zaN zJP zFL fun args K h=>by
  unfold zxn at h
  split at h
  · rename_i a0_list_Gates_n a0_list_Gates_s a0_list_Gates_g a0_corners_n a0_corners_s a0_corners_g a1_slope a1_start a1_den
    obtain ⟨⟨⟨rfl,a0_list_Gates_f,rfl⟩,⟨rfl,a0_corners_f,rfl⟩,hs⟩,hk⟩:=h
    try rw [zae a0_list_Gates_f] at hs
    try rw [zae a0_list_Gates_f] at hk
    try rw [zaQ a0_corners_f] at hs
    try rw [zaQ a0_corners_f] at hk
    exact ⟨(fun _ _=>[]),(fun _=>false),zC8,zPs (⟨(⟨(⟨a0_list_Gates_n,a0_list_Gates_f⟩:(Sl Gate))⟩:list),(⟨a0_corners_n,a0_corners_f⟩:(Sl straight))⟩:set) (⟨a1_slope,a1_start,a1_den⟩:straight) K hs hk⟩
  · exact h.elim
end Go.Proofs
