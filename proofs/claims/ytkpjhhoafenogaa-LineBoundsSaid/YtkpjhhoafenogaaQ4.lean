/- Part 4 of what the proof rests on: a machine that runs functions of the program on pure values, proved sound; the functions that the law reaches, and what they compute. -/
import Derived.Test.YtkpjhhoafenogaaQ3
import Derived.Sort.OwnSortedInts
import Derived.Lib.SlicesCompact
import Derived.ProofKit
import Derived.Deep.Slices
import Derived.Shelf.SlSortCmp.WholeK
import Derived.Test.YtkpjhhoafenogaaProg
import Derived.Shelf.SlSortCmp.NoneTotal
set_option linter.all false
namespace Go.Pm

structure Tabs where
  fn:List (Nat×(List PA→COut))
  own:List (Nat×OwnK)
  it:List (Nat×(List PA→Option (Prop×List (List PA))))
def zuP : List (Nat × (List PA → COut)) → Nat → List PA → COut
  | [],_=>fun _=>.no
  | (k,c) :: r,n=>match Nat.beq k n with | true=>c | false=>zuP r n
def zuQ (l:List (Nat×OwnK)) (f:Nat):OwnK:=match lk l f with | some c=>c | none=>.none
def zDk (l:List (Nat×(List PA→Option (Prop×List (List PA))))) (f:Nat):List PA→Option (Prop×List (List PA)):=match lk l f with | some c=>c | none=>fun _=>none
def csm (T:Tabs) (memo:Nat→Int→List Int) (vv:Nat→Bool):Ctrs:=⟨zuP T.fn,zuQ T.own,zDk T.it,memo,vv⟩
abbrev cs (T:Tabs):Ctrs:=csm T (fun _ _=>[]) (fun _=>false)
def Tabs.nil:Tabs:=⟨[],[],[]⟩
def Tabs.addF (T:Tabs) (f:Nat) (c:List PA→COut):Tabs:=⟨(f,c) :: T.fn,T.own,T.it⟩
def Tabs.addO (T:Tabs) (f:Nat) (c:OwnK):Tabs:=⟨T.fn,(f,c) :: T.own,T.it⟩
def Tabs.addI (T:Tabs) (f:Nat) (c:List PA→Option (Prop×List (List PA))):Tabs:=⟨T.fn,T.own,(f,c) :: T.it⟩

theorem zLc {P:Program} {f:Nat} : Ok P f (fun _=>.no):=fun _ _ h=>h.elim
theorem zLd {P:Program} {f:Nat} : zBz P f (fun _=>none):=fun _ _ _ h=>by cases h

structure TabsOk (P : Program) (T : Tabs) : Prop where
  fn:∀ x∈T.fn,Ok P x.1 x.2
  own:∀ x∈T.own,zlv P x.1 x.2
  it:∀ x∈T.it,zBz P x.1 x.2
theorem TabsOk.nil {P:Program} : TabsOk P .nil:=⟨fun _ h=>(by cases h),fun _ h=>(by cases h),fun _ h=>(by cases h)⟩
theorem TabsOk.addF {P:Program} {T:Tabs} (h:TabsOk P T) {f:Nat} {c:List PA→COut} (hc:Ok P f c):TabsOk P (T.addF f c) :=
 ⟨fun x hx=>(List.mem_cons.1 hx).elim (fun e=>by rw [e];exact hc) (fun hx=>h.fn x hx),h.own,h.it⟩
theorem TabsOk.addO {P:Program} {T:Tabs} (h:TabsOk P T) {f:Nat} {c:OwnK} (hc:zlv P f c):TabsOk P (T.addO f c) :=
 ⟨h.fn,fun x hx=>(List.mem_cons.1 hx).elim (fun e=>by rw [e];exact hc) (fun hx=>h.own x hx),h.it⟩
theorem TabsOk.addI {P:Program} {T:Tabs} (h:TabsOk P T) {f:Nat} {c:List PA→Option (Prop×List (List PA))} (hc:zBz P f c):TabsOk P (T.addI f c) :=
 ⟨h.fn,h.own,fun x hx=>(List.mem_cons.1 hx).elim (fun e=>by rw [e];exact hc) (fun hx=>h.it x hx)⟩
theorem TabsOk.all {P:Program} {T:Tabs} (h:TabsOk P T) (memo:Nat→Int→List Int) (vv:Nat→Bool):OkAll P (csm T memo vv):=by
 refine ⟨fun f=>?_,fun f=>?_,fun f=>?_⟩
 ·show Ok P f (zuP T.fn f)
  have key:∀ l:List (Nat×(List PA→COut)),(∀ x∈l,Ok P x.1 x.2)→Ok P f (zuP l f):=by
   intro l
   induction l with
   | nil=>intro _;exact zLc
   | cons x l ih =>
    intro hl
    obtain ⟨k,c⟩:=x
    simp only [zuP]
    split
    ·rename_i e
     have:=hl (k,c) List.mem_cons_self
     rw [← Nat.eq_of_beq_eq_true e];exact this
    ·exact ih fun x hx=>hl x (List.mem_cons_of_mem _ hx)
  exact key T.fn h.fn
 ·show zlv P f (zuQ T.own f)
  unfold zuQ
  split
  ·rename_i c hc;exact h.own _ (zcz hc)
  ·trivial
 ·show zBz P f (zDk T.it f)
  unfold zDk
  split
  ·rename_i c hc;exact h.it _ (zcz hc)
  ·exact zLd

theorem zaF {P : Program} {T : Tabs} (hT : TabsOk P T) {f : FuncId} {C : List PA → COut} (hc : zaf P f)
    (h:∀ args K,(C args).wp K→∃ memo vv ann,vcFun P (csm T memo vv) ann f args K):Ok P f C :=
  zAx (hT.all (fun _ _=>[]) (fun _=>false)) hc h
theorem zHZ {P : Program} {T : Tabs} (hT : TabsOk P T) {f : FuncId} {C : List PA → Option (Prop × List (List PA))} (hc : zaf P f)
    (h:∀ l caps safe ys,C caps=some (safe,ys)→safe→∃ memo vv ann,vcIter P (csm T memo vv) ann f l caps ys):zBz P f C :=
  zAB (hT.all (fun _ _=>[]) (fun _=>false)) hc h
theorem zuR {P : Program} {T : Tabs} (hT : TabsOk P T) {f : FuncId} {e s b : Nat} (hc : zaf P f)
    (h:∀ n get,n * b≤140737488355328→n≤9223372036854775807→∃ memo vv ann,zuO P (csm T memo vv) ann f [.one (.sl n s get)] e s b n get):zlv P f (.clone e s b) :=
  zoX (hT.all (fun _ _=>[]) (fun _=>false)) hc h

structure Sl (α : Type) where
  len:Nat
  get:Nat→α
instance {α:Type} [Inhabited α]:Inhabited (Sl α):=⟨⟨0,fun _=>default⟩⟩
abbrev w64 (x:Int):Int:=IntKind.i64.wrap x

def IsE {α:Type} (enc:α→List PV) (size s:Nat) (g:Nat→List PV):Prop:=s=size∧∃ f:Nat→α,g=fun i=>enc (f i)
theorem isE {α:Type} {enc:α→List PV} {size:Nat} {f:Nat→α} : IsE enc size size (fun i=>enc (f i)):=⟨rfl,f,rfl⟩
def zdT {α:Type} (n:Nat) (get new:Nat→α):Nat→α:=fun j=>match Nat.ble n j with | true=>new (j - n) | false=>get j
theorem zAC {α:Type} {enc:α→List PV} {n:Nat} {f h:Nat→α} : appG n (fun i=>enc (f i)) (fun i=>enc (h i))=fun i=>enc (zdT n f h i):=by
 funext j;simp only [appG,zdT];cases Nat.ble n j <;> rfl
def zi1 {α : Type} (x : α) : List α → Nat → α
  | [],_=>x
  | y :: _,0=>y
  | _ :: r,i+1=>zi1 x r i
theorem zeq {α:Type} {enc:α→List PV} {x y:α} {r:List α} : zdi (enc x :: enc y :: r.map enc)=fun i=>enc (zi1 x (x :: y :: r) i):=by
 have key:∀ (l:List α) (i:Nat),(match (l.map enc)[i]? with | some z=>z | none=>enc x)=enc (zi1 x l i):=by
  intro l
  induction l with
  | nil=>intro i;rfl
  | cons a l ih =>
   intro i
   cases i with
   | zero=>rfl
   | succ i=>simpa [zi1] using ih i
 funext i
 exact key (x :: y :: r) i
theorem zfA {α:Type} {enc:α→List PV} {size:Nat} {x y:α} (r:List α):IsE enc size size (zdi (enc x :: enc y :: r.map enc)):=⟨rfl,_,zeq⟩

theorem zci {b:Bool} {A B:Prop} {S S':Bool} {α:Type} {K:α→Prop} {x y:α} (h1:S=true→K x→A) (h2:S'=true→K y→B) (hs:cond b S S'=true) (hk:K (cond b x y)):zc0 b A B:=by
 cases b
 ·exact h2 hs hk
 ·exact h1 hs hk
theorem zlX {b:Bool} {A B:Prop} {S S':Bool} {α β:Type} {f:α→β} {ys:List β} {x y:List α} (hs:cond b S S'=true) (hk:ys=(cond b x y).map f) (h1:S=true→ys=x.map f→A) (h2:S'=true→ys=y.map f→B):zc0 b A B:=by
 cases b
 ·exact h2 hs hk
 ·exact h1 hs hk
theorem itY {α β:Type} {f:α→β} {ys:List β} {p:β} {x r:List α} {l:Nat} {A:List β→Prop} (hk:ys=x.map f) (e:x.map f=p :: r.map f) (h:∀ zs,zs=r.map f→A zs):l=l∧∃ z,ys=p :: z∧A z∧True :=
 ⟨rfl,_,hk.trans e,h _ rfl,trivial⟩
theorem zay {C A:Prop} [d:Decidable C] {r:Bool} (hs:(decide C && r)=true) (k:C→r=true→A):A:=by
 rw [Bool.and_eq_true] at hs
 exact k (of_decide_eq_true hs.1) hs.2
abbrev Fuel:Nat:=9223372036854775808
def setT {α:Type} (i:Nat) (v:α) (get:Nat→α):Nat→α:=fun j=>match Nat.beq j i with | true=>v | false=>get j
theorem zeP {α:Type} {enc:α→List PV} {n:Nat} {g g':Nat→List PV} {f h:Nat→α} (h1:g=fun i=>enc (f i)) (h2:g'=fun i=>enc (h i)):appG n g g'=fun i=>enc (zdT n f h i):=by
 subst h1;subst h2;exact zAC
def zM1 (P:Program) (G:Ctrs) (ann:Ann) (hd:Nat) (ps:List Nat) (assign body:Code) (X:List (List PA)→St→Prop) (K:Exit→St→Prop) (y:List PA) (rest:List (List PA)) (s:St):Prop :=
 match lk ann.head hd with
 | some k=>match zgI ps y s.env with
  | some env=>vc P G ann assign (zCV (vc P G ann body (zkS P k (X rest) K)) fun _ _=>False) ⟨env,s.objs,[]⟩
  | none=>False
 | none=>False
def sortB (n:Nat) (p:Nat→Nat→Bool) (c:Nat→Nat→Int):Bool :=
  (List.range n).all fun i => decide (0 ≤ c i i) && (List.range n).all fun j => p i j && (Nat.beq i j || (decide (c i j < 0) && decide (0 ≤ c j i)) || (decide (c j i < 0) && decide (0 ≤ c i j))) &&
    (List.range n).all fun k=>!(decide (c i j < 0) && decide (c j k < 0)) || decide (c i k < 0)
theorem zAD {n:Nat} {p:Nat→Nat→Bool} {c c':Nat→Nat→Int} {s:Nat→Nat→Prop} (h:sortB n p c=true) (hp:∀ i j,p i j=true→s i j) (hc:c'=c):(∀ i j,i < n→j < n→s i j)∧STO n c':=by
 subst hc
 simp only [sortB,List.all_eq_true,List.mem_range,Bool.and_eq_true,Bool.or_eq_true,decide_eq_true_eq,Bool.not_eq_true',Bool.and_eq_false_iff,decide_eq_false_iff_not] at h
 refine ⟨fun i j hi hj=>hp i j ((h i hi).2 j hj).1.1,fun i hi=>(h i hi).1,fun i j hi hj hne=>?_,fun i j k hi hj hk h1 h2=>?_⟩
 ·rcases ((h i hi).2 j hj).1.2 with (h1 | h1) | h1
  ·exact absurd (Nat.eq_of_beq_eq_true h1) hne
  ·exact .inl h1
  ·exact .inr h1
 ·rcases ((h i hi).2 j hj).2 k hk with (h3 | h3) | h3
  ·exact absurd h1 h3
  ·exact absurd h2 h3
  ·exact h3
end Go.Pm
namespace Go.Pm
open Go Go.Sort

/-! Nil slices are slices of length 0. -/
inductive PVle : PV → PV → Prop
  | rfl (p:PV):PVle p p
  | nil (s:Nat) (g:Nat→List PV):PVle .nils (.sl 0 s g)
  | nilm (q:MQ):PVle .nilm (.fm q 0 (fun _=>none))
inductive PAle : PA → PA → Prop
  | one {p q:PV} : PVle p q→PAle (.one p) (.one q)
  | agg {l m:List PV} : RL PVle l m→PAle (.agg l) (.agg m)
theorem zhm {α β:Type} {R:α→β→Prop} : RL R [] []:=trivial
theorem zc7 {α β:Type} {R:α→β→Prop} {a:α} {b:β} {l:List α} {m:List β} (h:R a b) (h':RL R l m):RL R (a :: l) (b :: m):=⟨h,h'⟩
theorem ze0 {α : Type} {R : α → α → Prop} (h : ∀ a, R a a) : ∀ l : List α, RL R l l
  | []=>trivial
  | a :: l=>⟨h a,ze0 h l⟩
theorem zf0 (a:PA):PAle a a:=by
 cases a with
 | one p=>exact .one (.rfl p)
 | agg l=>exact .agg (ze0 .rfl l)
def Wk (K:List PA→Prop) (l:List PA):Prop:=∃ l',RL PAle l l'∧K l'
theorem wk {K:List PA→Prop} {l l':List PA} (hk:K l') (h:RL PAle l l'):Wk K l:=⟨l',h,hk⟩
theorem zd5 {K:List PA→Prop} {l:List PA} (hk:K l):Wk K l:=⟨l,ze0 zf0 l,hk⟩
theorem zH0 {h:Fz} {p q:PV} {v:Value} (e:PVle p q) (r:Rep h p v):Rep h q v:=by
 cases e with
 | rfl=>exact r
 | nil s g=>cases r;exact .sl0 s g
 | nilm q=>cases r;exact .fmn q _ (fun _ _=>rfl)
theorem zAE {α β γ : Type} {R : α → β → Prop} {S : α → γ → Prop} {T : γ → β → Prop} (h : ∀ a b c, S a c → R a b → T c b) : ∀ (l : List α) (m : List β) (k : List γ), RL S l k → RL R l m → RL T k m
  | [],[],[],_,_=>trivial
  | a :: l,b :: m,c :: k,hs,hr=>⟨h a b c hs.1 hr.1,zAE h l m k hs.2 hr.2⟩
  | [],_ :: _,[],_,hr=>hr.elim
  | [],_,_ :: _,hs,_=>hs.elim
  | _ :: _,_,[],hs,_=>hs.elim
  | _ :: _,[],_ :: _,_,hr=>hr.elim
theorem zDl {h:Fz} {a b:PA} {v:Value} (e:PAle a b) (r:paR h a v):paR h b v:=by
 cases e with
 | one e=>exact zH0 e r
 | agg e =>
  obtain ⟨vs,rfl,hv⟩:=r
  exact ⟨vs,rfl,zAE (R:=Rep h) (S:=PVle) (T:=Rep h) (fun _ _ _ e r=>zH0 e r) _ _ _ e hv⟩
theorem zH1 {h:Fz} {l m:List PA} {v:Value} (e:RL PAle l m) (r:zz4 h l v):zz4 h m v:=by
 match l,m,e,r with
 | [a],[b],e,r=>exact zDl e.1 r
 | [],[],_,r=>exact r
 | a :: b :: l,c :: d :: m,e,r =>
  obtain ⟨vs,hv,hr⟩:=r
  exact ⟨vs,hv,zAE (R:=paR h) (S:=PAle) (T:=paR h) (fun _ _ _ e r=>zDl e r) _ _ _ e hr⟩
 | [_],_ :: _ :: _,e,_=>exact e.2.elim
 | _ :: _ :: _,[_],e,_=>exact e.2.elim
 | [],_ :: _,e,_=>exact e.elim
 | _ :: _,[],e,_=>exact e.elim
theorem zhn {P : Program} {T : Tabs} (hT : TabsOk P T) {f : FuncId} {C : List PA → COut} (hc : zaf P f)
    (h:∀ args K,(C args).wp K→∃ args',RL PAle args args'∧∃ memo vv ann,vcFun P (csm T memo vv) ann f args' (Wk K)):Ok P f C:=by
  intro args K hK w h0 vs hvs hfz
  obtain ⟨args',hle,memo,vv,ann,hv⟩:=h args K hK
  refine ⟨hc,(zuM (hT.all memo vv) hv (zAE (R:=paR h0) (S:=PAle) (T:=paR h0) (fun _ _ _ e r=>zDl e r) _ _ _ hle hvs) hfz).mono ?_⟩
  rintro e w' ⟨h',rs,v,⟨rs',hr,hk⟩,he,hres,rest⟩
  exact ⟨h',rs',v,hk,he,zH1 hr hres,rest⟩
/-! Maps, as typed values; the keys of a map. -/
structure Mp where
  n:Nat
  F:List Int→Option (List Int)
instance:Inhabited Mp:=⟨⟨0,fun _=>none⟩⟩

def zH2 (m:Nat) (F:List Int→Option (List Int)) (seen ys:List (List Int)):Prop :=
 ys.Nodup∧(∀ y∈ys,y.length=m∧F y ≠ none∧y ∉ seen)∧∀ c,c.length=m→F c ≠ none→c ∉ seen→c∈ys
def nodupB : List (List Int) → Bool
  | []=>true
  | y :: r=>!r.contains y && nodupB r
def keysB (m n:Nat) (F:List Int→Option (List Int)) (ys:List (List Int)):Bool :=
 Nat.beq ys.length n && ys.all (fun y=>Nat.beq y.length m && (F y).isSome) && nodupB ys
theorem zlf : ∀ {ys : List (List Int)}, nodupB ys = true ↔ ys.Nodup
  | []=>by simp [nodupB]
  | y :: r=>by simp [nodupB,zlf (ys:=r)]
theorem znG {α : Type} [DecidableEq α] : ∀ {l m : List α}, l.Nodup → (∀ x ∈ l, x ∈ m) → m.length ≤ l.length → ∀ x ∈ m, x ∈ l
  | [],m,_,_,hl,x,hx=>by have:m=[]:=List.eq_nil_of_length_eq_zero (by simpa using hl);rw [this] at hx;exact hx
  | a :: l,m,hn,hs,hl,x,hx=>by
    have ha:=hs a List.mem_cons_self
    by_cases h:x=a
    · rw [h];exact List.mem_cons_self
    · have hx2 : x ∈ m.erase a := (List.mem_erase_of_ne h).2 hx
      have hn2:=List.nodup_cons.1 hn
      refine List.mem_cons_of_mem _ (znG hn2.2 (fun z hz=>?_) ?_ x hx2)
      · have hza : z ≠ a := fun e => hn2.1 (e ▸ hz)
        exact (List.mem_erase_of_ne hza).2 (hs z (List.mem_cons_of_mem _ hz))
      · rw [List.length_erase_of_mem ha];simp at hl;omega
theorem zuS {m n:Nat} {F:List Int→Option (List Int)} {ys:List (List Int)} (h:keysB m n F ys=true) (hf:zHB m n F):zH2 m F [] ys:=by
 simp only [keysB,Bool.and_eq_true,List.all_eq_true] at h
 obtain ⟨⟨h1,h2⟩,h3⟩:=h
 have h1:=Nat.eq_of_beq_eq_true h1
 have h3:=zlf.1 h3
 obtain ⟨ks,k1,k2,k3,k4⟩:=hf
 have hy:∀ y∈ys,y.length=m∧F y ≠ none:=fun y hy=>by
  obtain ⟨a,b⟩:=h2 y hy
  refine ⟨Nat.eq_of_beq_eq_true a,fun e=>?_⟩
  rw [e] at b;cases b
 refine ⟨h3,fun y hy'=>⟨(hy y hy').1,(hy y hy').2,by simp⟩,fun c hc hne _=>?_⟩
 exact znG h3 (fun y hy'=>(k4 y (hy y hy').1).1 (hy y hy').2) (by rw [k1,h1];exact Nat.le_refl _) c ((k4 c hc).1 hne)
theorem zAF {m : Nat} {F : List Int → Option (List Int)} {seen ys : List (List Int)} (h : zH2 m F seen ys) {c : List Int} (hc : c.length = m) (hF : F c ≠ none) (hs : c ∉ seen) :
  ys.Perm (c :: ys.erase c)∧zH2 m F (c :: seen) (ys.erase c)∧(ys.erase c).length+1=ys.length:=by
 obtain ⟨h1,h2,h3⟩:=h
 have hm:=h3 c hc hF hs
 refine ⟨List.perm_cons_erase hm,⟨h1.erase c,fun y hy=>?_,fun d hd hdF hds=>?_⟩,?_⟩
 ·have := (List.Nodup.mem_erase_iff h1).1 hy
  obtain ⟨a,b,e⟩:=h2 y this.2
  exact ⟨a,b,by simp [this.1,e]⟩
 ·simp only [List.mem_cons, not_or] at hds
  exact (List.mem_erase_of_ne hds.1).2 (h3 d hd hdF hds.2)
 ·rw [List.length_erase_of_mem hm]
  have:0 < ys.length:=List.length_pos_of_mem hm
  omega
theorem zDm {m:Nat} {F:List Int→Option (List Int)} {seen ys:List (List Int)} (h:zH2 m F seen ys) (he:∀ c,c.length=m→F c ≠ none→c∈seen):ys=[]:=by
 cases ys with
 | nil=>rfl
 | cons y r =>
  obtain ⟨a,b,e⟩:=h.2.1 y List.mem_cons_self
  exact (e (he y a b)).elim

end Go.Pm
namespace Go.Pm
open Go

theorem zaV {x:Int} (h1 : -9223372036854775808≤x) (h2:x≤9223372036854775807):w64 x=x:=by
 have hb:IntKind.i64.bits=64:=rfl
 have hs:IntKind.i64.signed=true:=rfl
 unfold w64 IntKind.wrap
 rw [hb,hs]
 simp only [Bool.true_and,decide_eq_true_eq]
 split <;> omega
def zkL (c : Nat → Bool) : Nat → Nat → Nat
  | 0,i=>i
  | m+1,i=>match c i with | true=>i | false=>zkL c m (i+1)
theorem zuT {c:Nat→Bool} {m i:Nat} (h:c i=true):zkL c (m+1) i=i:=by simp only [zkL,h]
theorem zuU {c:Nat→Bool} {m i:Nat} (h:c i=false):zkL c (m+1) i=zkL c m (i+1):=by simp only [zkL,h]
theorem zjF (c:Nat→Bool) (m i:Nat):i≤zkL c m i∧zkL c m i≤i+m∧(∀ j,i≤j→j < zkL c m i→c j=false)∧(zkL c m i < i+m→c (zkL c m i)=true):=by
 induction m generalizing i with
 | zero=>exact ⟨Nat.le_refl _,Nat.le_refl _,fun j h1 h2=>absurd h2 (by simp only [zkL];omega),fun h=>absurd h (by simp only [zkL];omega)⟩
 | succ m ih =>
  cases e:c i
  ·rw [zuU e]
   obtain ⟨h1,h2,h3,h4⟩:=ih (i+1)
   refine ⟨by omega,by omega,fun j hj1 hj2=>?_,fun h=>h4 (by omega)⟩
   by_cases hji:j=i
   ·rw [hji];exact e
   ·exact h3 j (by omega) hj2
  ·rw [zuT e]
   exact ⟨Nat.le_refl _,by omega,fun j h1 h2=>absurd h2 (by omega),fun _=>e⟩
def fst (c:Nat→Bool) (n:Nat):Nat:=zkL c n 0
theorem zBN (c:Nat→Bool) (n:Nat):fst c n≤n:=by have:=(zjF c n 0).2.1;simpa [fst] using this
theorem zBO {c:Nat→Bool} {n j:Nat} (h:j < fst c n):c j=false:=(zjF c n 0).2.2.1 j (Nat.zero_le _) h
theorem zBP {c:Nat→Bool} {n:Nat} (h:fst c n < n):c (fst c n)=true:=(zjF c n 0).2.2.2 (by simpa [fst] using h)
theorem zrX {α : Type} {c : α → Bool} {lpS : Nat → Sl α → Int → Int → Int} {lpP : Nat → Sl α → Int → Int → Bool}
    (hS:∀ k s t i,lpS (k+1) s t i=cond (decide (i < t)) (cond (c (s.get i.toNat)) i (lpS k s t (w64 (i+(1:Int))))) (-1:Int))
    (hP:∀ k s t i,lpP (k+1) s t i=cond (decide (i < t)) (decide (0≤i∧i < (s.len:Int)) && cond (c (s.get i.toNat)) true (lpP k s t (w64 (i+(1:Int))))) true)
    (s:Sl α) (hn:s.len≤9223372036854775807):lpP Fuel s (s.len:Int) 0=true∧lpS Fuel s (s.len:Int) 0=if fst (fun i=>c (s.get i)) s.len < s.len then ((fst (fun i=>c (s.get i)) s.len:Nat):Int) else -1:=by
  have key:∀ (m k i:Nat),i+m=s.len→m < k→lpP k s (s.len:Int) (i:Int)=true ∧
      lpS k s (s.len:Int) (i:Int)=if zkL (fun i=>c (s.get i)) m i < s.len then ((zkL (fun i=>c (s.get i)) m i:Nat):Int) else -1:=by
    intro m
    induction m with
    | zero =>
      intro k i hi hk
      obtain ⟨k,rfl⟩:∃ k',k=k'+1:=⟨k - 1,by omega⟩
      rw [hS,hP]
      have e:decide ((i:Int) < (s.len:Int))=false:=decide_eq_false (by omega)
      rw [e]
      have e5 : ¬ zkL (fun i=>c (s.get i)) 0 i < s.len:=by show ¬ i < s.len;omega
      rw [if_neg e5]
      exact ⟨rfl,rfl⟩
    | succ m ih =>
      intro k i hi hk
      obtain ⟨k,rfl⟩:∃ k',k=k'+1:=⟨k - 1,by omega⟩
      rw [hS,hP]
      have e:decide ((i:Int) < (s.len:Int))=true:=decide_eq_true (by omega)
      have e2:decide (0≤(i:Int)∧(i:Int) < (s.len:Int))=true:=decide_eq_true (by omega)
      have e3:w64 ((i:Int)+1)=((i+1:Nat):Int):=by rw [zaV (by omega) (by omega)];omega
      have e4:(i:Int).toNat=i:=by omega
      rw [e,e2,e3,e4]
      cases hc:c (s.get i)
      · rw [zuU (c := fun i => c (s.get i)) hc]
        exact ih k (i+1) (by omega) (by omega)
      · rw [zuT (c := fun i => c (s.get i)) hc, if_pos (by omega)]
        exact ⟨rfl,rfl⟩
  exact key s.len Fuel 0 (by omega) (by simp only [Fuel];omega)

theorem zrY {good : Nat → Bool} {fin : Bool} {n : Nat} {lpS lpP : Nat → Int → Bool}
    (hS:∀ (k i:Nat),i < n→lpS (k+1) (i:Int)=cond (good i) (lpS k (w64 ((i:Int)+(1:Int)))) false)
    (hE:∀ k,lpS (k+1) (n:Int)=fin)
    (hP:∀ (k i:Nat),i < n→lpP (k+1) (i:Int)=cond (good i) (lpP k (w64 ((i:Int)+(1:Int)))) true)
    (hPE:∀ k,lpP (k+1) (n:Int)=true) (hn:n≤9223372036854775807) :
    lpP Fuel 0=true∧(lpS Fuel 0=true↔(∀ i,i < n→good i=true)∧fin=true):=by
  have key:∀ (m k i:Nat),i+m=n→m < k→lpP k (i:Int)=true∧(lpS k (i:Int)=true↔(∀ j,i≤j→j < n→good j=true)∧fin=true):=by
    intro m
    induction m with
    | zero =>
      intro k i hi hk
      obtain ⟨k,rfl⟩:∃ k',k=k'+1:=⟨k - 1,by omega⟩
      have:i=n:=by omega
      subst this
      rw [hE,hPE]
      exact ⟨rfl,⟨fun h=>⟨fun j h1 h2=>absurd h2 (by omega),h⟩,fun h=>h.2⟩⟩
    | succ m ih =>
      intro k i hi hk
      obtain ⟨k,rfl⟩:∃ k',k=k'+1:=⟨k - 1,by omega⟩
      rw [hS k i (by omega),hP k i (by omega)]
      have e3:w64 ((i:Int)+1)=((i+1:Nat):Int):=by rw [zaV (by omega) (by omega)];omega
      rw [e3]
      obtain ⟨h1,h2⟩:=ih k (i+1) (by omega) (by omega)
      cases hg:good i
      · refine ⟨rfl, ⟨fun h => (by cases h), fun h => ?_⟩⟩
        have:=h.1 i (Nat.le_refl _) (by omega)
        rw [hg] at this;cases this
      · refine ⟨h1, h2.trans ⟨fun h => ⟨fun j hj1 hj2 => ?_, h.2⟩, fun h => ⟨fun j hj1 hj2 => h.1 j (by omega) hj2, h.2⟩⟩⟩
        by_cases hji:j=i
        · rw [hji];exact hg
        · exact h.1 j (by omega) hj2
  have:=key n Fuel 0 (by omega) (by simp only [Fuel];omega)
  simpa using this

end Go.Pm
namespace Go.Pm
open Go Go.Deep

theorem zAG (b o i j:Nat):((⟨b,o,none⟩:Addr).add i).add j=⟨b,o+i+j,none⟩:=by
 simp only [Addr.add]
 by_cases h1:i=0
 ·subst h1
  by_cases h2:j=0
  ·subst h2;rfl
  ·rw [if_neg h2];rfl
 ·rw [if_neg h1]
  by_cases h2:j=0
  ·subst h2;rfl
  ·rw [if_neg h2]
def H0 (w:World):Fz:=fun b=>(w.heap[b]?).map .fz
theorem hw_H0 (w:World):Hw (H0 w) w:=by
 intro b x h
 unfold H0 at h
 cases e:w.heap[b]? with
 | none=>rw [e] at h;cases h
 | some o=>rw [e] at h;cases h;exact ⟨o,rfl,rfl⟩
def wfI (x:Int):Prop:=-9223372036854775808≤x∧x≤9223372036854775807
section
variable {H:Type} {en:TypeId×Value→H} {P:Program} {w:World} {sp:Nat→Bool} {held:Bool}
def Rd (H:Type) (en:TypeId×Value→H) (P:Program) (w:World) (sp:Nat→Bool) (held:Bool) (t:TypeId) {α:Type} (enc:α→List PV) (wf:α→Prop):Prop :=
 ∀ (fuel:Nat) (cs:List Value) (x:DataW H×List MemPlace),DataW.trod en P w 0 sp held fuel t cs=some x→∃ a:α,RL (Rep (H0 w)) (enc a) cs∧wf a
theorem zH3 {t:TypeId} (ht:P.underlying t=some (.int .i64)):Rd H en P w sp held t (fun x=>[.int .i64 x]) wfI:=by
 intro fuel cs x h
 obtain ⟨n,rfl,_,hw⟩:=DataW.trod_int ht h
 refine ⟨n,⟨.int _ _,trivial⟩,?_⟩
 simp only [Lit.wf,Bool.and_eq_true,decide_eq_true_eq] at hw
 exact ⟨hw.1,hw.2⟩
theorem zuV {t : TypeId} {fs : Array Field} (ht : P.underlying t = some (.struct fs)) {fuel : Nat} {cs : List Value} {x : DataW H × List MemPlace} (h : DataW.trod en P w 0 sp held fuel t cs = some x) :
  cs.length=P.cellsOf t∧∀ (i:Nat) (f:Field),fs[i]? = some f→∃ n y,DataW.trod en P w 0 sp held n f.type ((cs.drop f.offset).take (P.cellsOf f.type))=some y:=by
 obtain ⟨xs,n,_,_,hl,hx,hf⟩:=DataW.trod_struct ht h
 refine ⟨hl,fun i f hi=>?_⟩
 have hlt:i < xs.length:=by rw [hx];exact (Array.getElem?_eq_some_iff.1 hi).1
 exact ⟨n,xs[i],by rw [hf i f hi,List.getElem?_eq_getElem hlt]⟩
theorem zAH {t e : TypeId} {α : Type} [Inhabited α] {enc : α → List PV} {wf : α → Prop} {s : Nat} (ht : P.underlying t = some (.slice e)) (hc : P.cellsOf e = s) (hs : 0 < s) (hlen : ∀ a, (enc a).length = s)
    (hel:Rd H en P w sp held e enc wf):Rd H en P w sp held t (fun x:Sl α=>[.sl x.len s (fun i=>enc (x.get i))]) (fun x=>x.len≤9223372036854775807∧∀ i,i < x.len→wf (x.get i)):=by
  intro fuel cs x h
  rcases open_slice ht h with ⟨rfl,_⟩ | ⟨a,len,cap,m,n,D,Pl,rfl,_,hl,hm,hmm,_,hget⟩
  · exact ⟨⟨0,default⟩,⟨.sl0 _ _,trivial⟩,Nat.zero_le _,fun i hi=>absurd hi (Nat.not_lt_zero i)⟩
  · by_cases h0 : len = 0
    · subst h0
      exact ⟨⟨0,default⟩,⟨.sle _ _ _ _,trivial⟩,Nat.zero_le _,fun i hi=>absurd hi (Nat.not_lt_zero i)⟩
    · have hlm : len ≤ m := by rw [hmm]; split <;> omega
      rw [hc] at hget
      have hex:∀ i,i < len→∃ y:α,(∃ cs',w.cells? 0 (a.add (i * s)) s=some cs'∧RL (Rep (H0 w)) (enc y) cs')∧wf y:=by
        intro i hi
        obtain ⟨cs',h1,h2⟩:=hget i (by omega)
        obtain ⟨y,h3,h4⟩:=hel _ _ _ h2
        exact ⟨y,⟨cs',h1,h3⟩,h4⟩
      have hch:∃ f:Nat→α,∀ i,i < len→(∃ cs',w.cells? 0 (a.add (i * s)) s=some cs'∧RL (Rep (H0 w)) (enc (f i)) cs')∧wf (f i):=by
        refine ⟨fun i=>if hi:i < len then Classical.choose (hex i hi) else default,fun i hi=>?_⟩
        simp only [dif_pos hi]
        exact Classical.choose_spec (hex i hi)
      obtain ⟨f,hf⟩:=hch
      -- the block
      have hcell:∀ i,i < len→∀ j,j < s→∃ cs',w.cells? 0 (a.add (i * s)) s=some cs'∧RL (Rep (H0 w)) (enc (f i)) cs'∧w.cell? ((a.add (i * s)).add j)=cs'[j]?∧cs'.length=s:=by
        intro i hi j hj
        obtain ⟨⟨cs',h1,h2⟩,_⟩:=hf i hi
        obtain ⟨_,h3,h4⟩:=World.cells?_some h1
        exact ⟨cs',h1,h2,h4 j hj,h3⟩
      obtain ⟨cs0,_,_,hc0,hl0⟩:=hcell 0 (by omega) 0 hs
      have ha0:w.cell? a=cs0[0]?:=by simpa [Addr.add] using hc0
      rw [List.getElem?_eq_getElem (by omega)] at ha0
      obtain ⟨C,ty,fr,hblk,hspot⟩:∃ C ty fr,w.heap[a.block]? = some (.cells C ty fr)∧a.spot=none:=by
        unfold World.cell? at ha0
        split at ha0
        · rename_i C ty fr hb
          refine ⟨C,ty,fr,hb,?_⟩
          cases hsp:a.spot with
          | none=>rfl
          | some k=>rw [hsp] at ha0;simp at ha0
        · cases ha0
      have ea:a=⟨a.block,a.off,none⟩:=by rw [← hspot]
      have hat:∀ i j,i < len→j < s→∃ cs',RL (Rep (H0 w)) (enc (f i)) cs'∧C[a.off+i * s+j]? = cs'[j]?∧cs'.length=s:=by
        intro i j hi hj
        obtain ⟨cs',_,h2,h3,h4⟩:=hcell i hi j hj
        refine ⟨cs',h2,?_,h4⟩
        rw [← h3]
        have e2:(a.add (i * s)).add j=⟨a.block,a.off+i * s+j,none⟩:=(congrArg (fun z:Addr=>(z.add (i * s)).add j) ea).trans (zAG _ _ _ _)
        rw [e2]
        simp [World.cell?,hblk]
      refine ⟨⟨len,f⟩,⟨?_,trivial⟩,by simp only [maxLen] at hm;show len≤_;omega,fun i hi=>(hf i hi).2⟩
      rw [ea]
      refine .sl len s _ a.block a.off cap C ty fr (fun i j=>C.getD (a.off+i * s+j) undef) (by simp [H0,hblk]) hl (fun i _=>hlen _) ?_ ?_
      · intro i j x hi hx
        have hj:j < s:=by have:=(List.getElem?_eq_some_iff.1 hx).1;rw [hlen] at this;exact this
        obtain ⟨cs',h1,h2,h3⟩:=hat i j hi hj
        rw [Array.getD_eq_getD_getElem?,h2,List.getElem?_eq_getElem (by omega)]
        rfl
      · intro i j x hi hx
        have hj:j < s:=by have:=(List.getElem?_eq_some_iff.1 hx).1;rw [hlen] at this;exact this
        obtain ⟨cs',h1,h2,h3⟩:=hat i j hi hj
        obtain ⟨v,hv,hr⟩:=h1.get j x hx
        rw [Array.getD_eq_getD_getElem?,h2,hv]
        exact hr
theorem zho {α:Type} (l:List α) (o s:Nat):l.drop o=(l.drop o).take s ++ l.drop (o+s):=by
 rw [← List.drop_drop]
 exact (List.take_append_drop s (l.drop o)).symm
def zLe : TypeDesc → Bool
  | .struct _=>false
  | .array _ _=>false
  | _=>true
theorem okWide_one {t:TypeId} {d:TypeDesc} {r:Reach} {base:Nat} {v:Value} (ht:P.underlying t=some d) (hd:zLe d=true) (h:Value.okWide P w r base t v):v.cells.toList=[v]:=by
 unfold Value.okWide at h
 rw [ht] at h
 cases v with
 | agg cs =>
  exfalso
  cases d <;> first | (cases hd;done) | (simp only [Cell.okWide,Cell.ok,ht] at h)
 | _=>rfl
theorem pa_one {h:Fz} {p:PV} {v:Value} (hv:v.cells.toList=[v]) (r:RL (Rep h) [p] v.cells.toList):paR h (.one p) v:=by
 rw [hv] at r
 exact r.1
theorem below_H0 {w':World} (b:Bel (H0 w) w.heap.size w w'):Go.RowKit.Below w.heap.size w w' :=
 ⟨b.os,b.tape,b.output,b.size,fun k hk=>b.block k hk fun F e=>by
  unfold H0 at e
  cases hb:w.heap[k]? <;> rw [hb] at e <;> cases e⟩
end
end Go.Pm
/-
  DERIVED: THE SHELF's CONTRACTS AT THIS DUMP,IN PLAIN WORDS (tools/lay-plain.mjs out of 'YtkpjhhoafenogaaLs.lean',which tools/lay-shelf.mjs wrote): THE SAME DECLARATIONS UNDER THE SAME NAMES: 'import','namespace','open','def','theorem' AND NOTHING ELSE: no command of the shelf's: FOR A HAND-IN. Each laying: the table of numbers ('.._ren') and one theorem,a field a fact of the dump's own or the kernel's comparison;each contract: ONE APPLICATION.
-/
namespace Go.Proofs
open Go.Shelf
def Try.laysS106_ren:Go.Shelf.Ren:=⟨fun | 6=>106 | 15=>122 | 14=>121 | 28=>132 | 29=>133 | 20=>124 | 21=>125 | 22=>126 | 23=>127 | 24=>128 | 25=>129 | 26=>130 | 27=>131 | 46=>134 | 47=>135 | 48=>136 | 49=>137 | 50=>138 | 57=>139 | n=>n,fun | 22=>102 | 24=>118 | 25=>147 | 3=>3 | 39=>156 | 0=>0 | 53=>166 | 55=>168 | 4=>4 | 46=>159 | 45=>158 | 50=>163 | 5=>5 | 9=>9 | 66=>169 | 70=>173 | 76=>175 | 77=>143 | n=>n,fun | n=>n⟩
theorem Try.laysS106 : Go.Proofs.SlLaysF0.n6 Try.prog Try.laysS106_ren := {
  mixed:=by kernel_rfl
  f6:=⟨Try.f106.name,by decide,Try.func106.trans (congrArg some (by kernel_rfl))⟩
  f14:=⟨Try.f121.name,by decide,Try.func121.trans (congrArg some (by kernel_rfl))⟩
  f15:=Try.func122.trans (congrArg some (by kernel_rfl))
  f20:=⟨Try.f124.name,by decide,Try.func124.trans (congrArg some (by kernel_rfl))⟩
  f21:=⟨Try.f125.name,by decide,Try.func125.trans (congrArg some (by kernel_rfl))⟩
  f22:=⟨Try.f126.name,by decide,Try.func126.trans (congrArg some (by kernel_rfl))⟩
  f23:=⟨Try.f127.name,by decide,Try.func127.trans (congrArg some (by kernel_rfl))⟩
  f24:=⟨Try.f128.name,by decide,Try.func128.trans (congrArg some (by kernel_rfl))⟩
  f25:=⟨Try.f129.name,by decide,Try.func129.trans (congrArg some (by kernel_rfl))⟩
  f26:=⟨Try.f130.name,by decide,Try.func130.trans (congrArg some (by kernel_rfl))⟩
  f27:=⟨Try.f131.name,by decide,Try.func131.trans (congrArg some (by kernel_rfl))⟩
  f28:=Try.func132.trans (congrArg some (by kernel_rfl))
  f29:=Try.func133.trans (congrArg some (by kernel_rfl))
  f46:=⟨Try.f134.name,by decide,Try.func134.trans (congrArg some (by kernel_rfl))⟩
  f47:=Try.func135.trans (congrArg some (by kernel_rfl))
  f48:=Try.func136.trans (congrArg some (by kernel_rfl))
  f49:=⟨Try.f137.name,by decide,Try.func137.trans (congrArg some (by kernel_rfl))⟩
  f50:=⟨Try.f138.name,by decide,Try.func138.trans (congrArg some (by kernel_rfl))⟩
  f57:=⟨Try.f139.name,by decide,Try.func139.trans (congrArg some (by kernel_rfl))⟩
  t0:=Try.underlying0
  a0:=Try.isAgg0
  z0:=Try.sizeOf0
  v0:=Try.zeroValue0
  t3:=Try.underlying3
  a3:=Try.isAgg3
  z3:=Try.sizeOf3
  v3:=Try.zeroValue3
  t4:=Try.underlying4
  a4:=Try.isAgg4
  z4:=Try.sizeOf4
  v4:=Try.zeroValue4
  t5:=Try.underlying5
  a5:=Try.isAgg5
  z5:=Try.sizeOf5
  v5:=Try.zeroValue5
  t9:=Try.underlying9
  a9:=Try.isAgg9
  z9:=Try.sizeOf9
  v9:=Try.zeroValue9
  t22:=Try.underlying102
  a22:=Try.isAgg102
  z22:=Try.sizeOf102
  v22:=Try.zeroValue102
  t25:=Try.underlying147
  a25:=Try.isAgg147
  z25:=Try.sizeOf147
  v25:=Try.zeroValue147
  t39:=Try.underlying156
  a39:=Try.isAgg156
  z39:=Try.sizeOf156
  v39:=Try.zeroValue156
  t45:=Try.underlying158
  a45:=Try.isAgg158
  z45:=Try.sizeOf158
  v45:=Try.zeroValue158
  t46:=Try.underlying159
  a46:=Try.isAgg159
  z46:=Try.sizeOf159
  v46:=Try.zeroValue159
  t50:=Try.underlying163
  a50:=Try.isAgg163
  z50:=Try.sizeOf163
  v50:=Try.zeroValue163
  t53:=Try.underlying166
  a53:=Try.isAgg166
  z53:=Try.sizeOf166
  v53:=Try.zeroValue166
  t55:=Try.underlying168
  a55:=Try.isAgg168
  z55:=Try.sizeOf168
  v55:=Try.zeroValue168
  t66:=Try.underlying169
  a66:=Try.isAgg169
  z66:=Try.sizeOf169
  v66:=Try.zeroValue169
  t70:=Try.underlying173
  a70:=Try.isAgg173
  z70:=Try.sizeOf173
  v70:=Try.zeroValue173
  t76:=Try.underlying175
  a76:=Try.isAgg175
  z76:=Try.sizeOf175
  v76:=Try.zeroValue175
  t77:=Try.underlying143
  a77:=Try.isAgg143
  z77:=Try.sizeOf143
  v77:=Try.zeroValue143 }
end Go.Proofs
namespace Go.Pm
open Go.Shelf Go.RowKit Go.Lib Go.Sort Go.Proofs

section perm
variable {c:Nat→Nat→Int}
theorem zgW (x : Nat) : ∀ l : List Nat, (zzZ c x l).Perm (x :: l)
  | []=>.refl _
  | y :: r=>by
    unfold zzZ
    split
    · exact .refl _
    · exact ((zgW x r).cons y).trans (.swap _ _ _)
theorem zlg (n:Nat):(zs7 n c).Perm (List.range n):=by
 unfold zs7
 generalize List.range n=l
 induction l with
 | nil=>exact .refl _
 | cons x l ih=>exact (zgW x _).trans (ih.cons x)
def leB (c:Nat→Nat→Int) (a b:Nat):Prop:=¬ c b a < 0
theorem zuW {n : Nat} (H : STO n c) {x : Nat} (hx : x < n) : ∀ {l : List Nat}, (∀ y ∈ l, y < n) → l.Pairwise (leB c) → (zzZ c x l).Pairwise (leB c)
  | [],_,_=>by simp [zzZ]
  | y :: r,hl,hp=>by
    have hy:=hl y List.mem_cons_self
    rw [List.pairwise_cons] at hp
    unfold zzZ
    split
    · rename_i h
      have h:=of_decide_eq_true h
      rw [List.pairwise_cons]
      refine ⟨fun z hz=>?_,List.pairwise_cons.2 hp⟩
      have hxy:leB c x y:=fun h2=>by
        have:=H.1 x hx
        have:=H.2.2 x y x hx hy hx h h2
        omega
      rcases List.mem_cons.1 hz with rfl | hz
      · exact hxy
      · intro h2
        exact hp.1 z hz (H.2.2 z x y (hl z (List.mem_cons_of_mem _ hz)) hx hy h2 h)
    · rename_i h
      have h:=of_decide_eq_false h
      rw [List.pairwise_cons]
      refine ⟨fun z hz=>?_,zuW H hx (fun z hz=>hl z (List.mem_cons_of_mem _ hz)) hp.2⟩
      rcases List.mem_cons.1 ((zgW x r).mem_iff.1 hz) with rfl | hz
      · exact h
      · exact hp.1 z hz
theorem zAI {n:Nat} (H:STO n c):(zs7 n c).Pairwise (leB c):=by
 have key:∀ l:List Nat,(∀ y∈l,y < n)→(l.foldr (zzZ c) []).Pairwise (leB c)∧∀ y∈l.foldr (zzZ c) [],y < n:=by
  intro l
  induction l with
  | nil=>intro _;exact ⟨List.Pairwise.nil,fun y hy=>by simp at hy⟩
  | cons x l ih =>
   intro h
   obtain ⟨h1,h2⟩:=ih fun y hy=>h y (List.mem_cons_of_mem _ hy)
   have hx:=h x List.mem_cons_self
   refine ⟨zuW H hx h2 h1,fun y hy=>?_⟩
   rcases List.mem_cons.1 ((zgW x _).mem_iff.1 hy) with rfl | hy
   ·exact hx
   ·exact h2 y hy
 exact (key _ fun y hy=>List.mem_range.1 hy).1
theorem ztx {n:Nat} (H:STO n c) {l:List Nat} (hp:l.Perm (List.range n)) (hs:l.Pairwise (leB c)):l=zs7 n c:=by
 refine List.Perm.eq_of_pairwise (le:=leB c) (fun a b ha hb h1 h2=>?_) hs (zAI H) (hp.trans (zlg n).symm)
 have ha:=List.mem_range.1 (hp.mem_iff.1 ha)
 have hb:=List.mem_range.1 ((zlg n).mem_iff.1 hb)
 by_cases e:a=b
 ·exact e
 ·rcases H.2.1 a b ha hb e with h | h
  ·exact absurd h.1 h2
  ·exact absurd h.1 h1
end perm

theorem zuX {w w':World} (h1:w'.heap=w.heap) (h2:w'.tape=w.tape) (h3:w'.drawn=w.drawn) (h4:w'.os=w.os) (h5:w'.output=w.output):w'=w:=by
 cases w;cases w';simp_all
theorem zAJ {w w':World} {h:Fz} (b:Bel h w.heap.size w w') (hi:∀ k F,h k ≠ some (.inv F)):∃ q os,w'=grow (w.drewN q) os:=by
 refine ⟨w'.drawn - w.drawn,w'.heap.extract w.heap.size w'.heap.size,zuX ?_ b.tape ?_ b.os b.output⟩
 ·show w'.heap = w.heap ++ w'.heap.extract w.heap.size w'.heap.size
  apply Array.ext_getElem?
  intro i
  rw [Array.getElem?_append]
  split
  ·rename_i hl;exact b.block i hl (fun F=>hi i F)
  ·rename_i hl
   rw [Array.getElem?_extract]
   by_cases hlt:i < w'.heap.size
   ·rw [if_pos (by omega)];congr 1;omega
   ·rw [if_neg (by omega),Array.getElem?_eq_none (by omega)]
 ·show w'.drawn = w.drawn + (w'.drawn - w.drawn)
  have:=b.drawn;omega

theorem znH {w : World} {g q : Nat} {cur : Array Value} {e : TypeId} {fr : Nat × Nat} {off : Nat} (F : Array Value) (hb : w.heap[g]? = some (.cells cur e fr)) :
  ∃ cur',(putRow id (Sort.ahead w q) g off F).heap[g]? = some (.cells cur' e fr)∧cur'.size=cur.size:=by
 refine ⟨putCells id off F cur,?_,by simp [putCells]⟩
 simp [putRow,mapBlock,Sort.ahead,Array.getElem?_modify,hb,onCells]
theorem zjG {w:World} {g q off:Nat} (F:Array Value) {k:Nat} (hk:k ≠ g):(putRow id (Sort.ahead w q) g off F).heap[k]? = w.heap[k]?:=by
 simp [putRow,mapBlock,Sort.ahead,Array.getElem?_modify,Ne.symm hk]

theorem zuY {P:Program} {ρ:Ren} (L:SlLaysF0.n6 P ρ) {e s b:Nat} (he:ρ.t 24=e) (hag:zef P e=some true) (hsz:szT P e=some s) (hM : ¬ zm2) (hc:zaf P (ρ.f 6)):zlv P (ρ.f 6) (.sort e s b):=by
 intro w h base v n get gf caps cv ag C hC hcv hag' _ hpos ⟨xs,hown,hr⟩ hone hw hob hbase hn hS hO
 rw [hag] at hag';simp only [Option.some.injEq] at hag';subst hag'
 refine ⟨hc,?_⟩
 have hni:∀ k F,h k ≠ some (.inv F):=fun k F hk=>by obtain ⟨o,_,ho⟩:=hw k _ hk;exact hM ho.2
 have hdr:∀ (w':World) (k:Nat),w.drawn≤w.drawn+k:=fun _ k=>Nat.le_add_right _ _
 have none:∀ (p:Option Addr) (cap:Nat),n=0→v=.slice p 0 cap→Calls P (ρ.f 6) #[v,.func (.func gf) #[] cv.toArray] w fun r w'=>r=.returned (.tuple #[])∧zHn h w' base e s v n (zor n (ztN C caps true get) get)∧GrB w w' v.ownBlock:=by
  rintro p cap rfl rfl
  refine (AnyF.slices_SortFunc_none L p cap _ w).mono ?_
  rintro r w' ⟨rfl,rfl⟩
  exact ⟨rfl,⟨xs,hown,fun i hi=>absurd hi (Nat.not_lt_zero i)⟩,⟨rfl,rfl,rfl,Nat.le_refl _,fun _ _ _=>rfl⟩,Nat.le_refl _⟩
 rcases hown.2 with ⟨h1,h2⟩ | ⟨blk,cap,cur,rfl,hb,hcell,hncap,hcap,hcs,htk⟩
 ·exact none _ _ h2 h1
 by_cases hn0:n=0
 ·subst hn0;exact none _ _ rfl rfl
 have:Inhabited (Fin n):=⟨⟨0,by omega⟩⟩
 let enc:Fin n→List Value:=fun i=>(xs.drop (i.val * s)).take s
 let c:=ztN C caps true get
 let cf:Fin n→Fin n→Int:=fun x y=>c x.val y.val
 let d:Array (Fin n):=Array.ofFn id
 have hds:d.size=n:=Array.size_ofFn
 have hdi:∀ i (hi:i < n),d[i]! = ⟨i,hi⟩:=fun i hi=>by
  rw [getElem!_pos d i (by rw [hds];exact hi)];simp [d]
 have hlt:blk < w.heap.size:=(Array.getElem?_eq_some_iff.1 hcell).1
 have hbn:h blk=Option.none:=hob blk rfl
 have hmul:∀ i,i < n→i * s+s≤n * s:=fun i hi=>by have:=Nat.mul_le_mul_right s (Nat.succ_le_of_lt hi);rw [Nat.succ_mul] at this;exact this
 have hk:∀ x,(enc x).length=s:=fun x=>by
  have:=hmul x.val x.isLt
  simp only [enc,List.length_take,List.length_drop,hown.1];omega
 have hcur:∀ j,j < n * s→cur[j]? = xs[j]?:=fun j hj=>by
  have:(cur.toList.take (n * s))[j]? = xs[j]?:=by rw [htk]
  rw [List.getElem?_take,if_pos hj] at this;simpa using this
 have hxl:∀ j,j < n * s→∃ u,xs[j]? = some u:=fun j hj=>⟨xs[j]'(by rw [hown.1];exact hj),List.getElem?_eq_getElem _⟩
 have h1:∀ x,∀ u∈enc x,u.oneCell'=true:=fun x u hu=>by
  obtain ⟨j,hj⟩:=List.getElem?_of_mem hu
  obtain ⟨p,_,hp⟩:=(hr x.val x.isLt).get' j u hj
  exact hp.one
 have hflat:∀ j (hj:j < n * s),(flatK enc s d)[j]! = xs[j]'(by rw [hown.1];exact hj):=fun j hj=>by
  have hq:j / s < n:=Nat.div_lt_of_lt_mul (by rw [Nat.mul_comm];exact hj)
  rw [get_flatK _ _ _ _ (by rw [hds];exact hj),hdi _ hq]
  have hm:=Nat.mod_lt j hpos
  have hdm:=Nat.div_add_mod j s
  rw [getElem!_pos _ _ (by rw [hk];exact hm)]
  simp only [enc,List.getElem_take,List.getElem_drop]
  congr 1
  rw [Nat.mul_comm];exact hdm
 have hH:HoldsK enc s w blk 0 d:=fun j hj=>by
  have hj:j < n * s:=by rw [size_flatK,hds] at hj;exact hj
  refine ⟨?_,frozen_of_row w blk _ cur e hcell⟩
  rw [hflat j hj,cell_of hcell,Nat.zero_add,hcur j hj]
  exact List.getElem?_eq_getElem _
 have eg:∀ args w,(callFunc gf args).run P w=.ok (.enter gf args) w:=by
  have hcg:zaf P gf:=by
   have hs0:=hS 0 0 (by omega) (by omega)
   unfold zHm at hs0
   split at hs0
   ·rename_i s0 c0 hat
    have hwp:(C (elP true (get 0) :: elP true (get 0) :: caps.map .one)).wp (fun _=>True):=by
     unfold zzY at hat
     split at hat
     ·rename_i e1;rw [e1];trivial
     ·rename_i e1;simp only [Option.some.injEq,Prod.mk.injEq] at hat;rw [e1];exact ⟨by rw [hat.1];exact hs0,trivial⟩
     ·cases hat
    exact (hC _ _ hwp w h (.agg (enc ⟨0,by omega⟩).toArray :: .agg (enc ⟨0,by omega⟩).toArray :: cv) ⟨⟨_,rfl,hr 0 (by omega)⟩,⟨_,rfl,hr 0 (by omega)⟩,RL.map_left.2 hcv⟩ hw).1
   ·exact hs0.elim
  exact fun args w=>zc3 hcg
 have hcmp:CmpLays P gf cv.toArray enc s cf blk 0 d.size w:=by
  intro m os dk hdk x y
  have hs0:=hS x.val y.val x.isLt y.isLt
  unfold zHm at hs0
  split at hs0
  ·rename_i s0 c0 hat
   have hwp:(C (elP true (get x.val) :: elP true (get y.val) :: caps.map .one)).wp (fun rs=>rs=[.one (.int .i64 (cf x y))]):=by
    have hcv:cf x y=c0:=by show ztN C caps true get x.val y.val=c0;unfold ztN;rw [hat]
    rw [hcv]
    unfold zzY at hat
    split at hat
    ·rename_i e1;simp only [Option.some.injEq,Prod.mk.injEq] at hat;rw [e1,hat.2];rfl
    ·rename_i e1;simp only [Option.some.injEq,Prod.mk.injEq] at hat;rw [e1,hat.2];exact ⟨by rw [hat.1];exact hs0,rfl⟩
    ·cases hat
   have hwh:Hw h (sortWorldK enc s w blk 0 m dk os):=hw.same fun k o hk=>by
    have hkb:k ≠ blk:=fun e=>by rw [e,hbn] at hk;cases hk
    have hkl:=hw.lt hk
    show ((putRow id (Sort.ahead w m) blk 0 (flatK enc s dk)).heap ++ os)[k]? = _
    rw [Array.getElem?_append_left (by simpa [putRow,mapBlock,Sort.ahead] using hkl)]
    exact zjG _ hkb
   obtain ⟨_,hrun⟩:=hC _ _ hwp (sortWorldK enc s w blk 0 m dk os) h (.agg (enc x).toArray :: .agg (enc y).toArray :: cv) ⟨⟨_,rfl,hr x.val x.isLt⟩,⟨_,rfl,hr y.val y.isLt⟩,RL.map_left.2 hcv⟩ hwh
   rw [show (#[Value.agg (enc x).toArray,.agg (enc y).toArray] ++ cv.toArray)=(Value.agg (enc x).toArray :: .agg (enc y).toArray :: cv).toArray by simp]
   refine hrun.mono ?_
   rintro e' w' ⟨h',rs,v',hrs,rfl,hres,hbel,_,_,_⟩
   subst hrs
   have hv':v'=.int .i64 (cf x y):=by
    have:Rep h' (.int .i64 (cf x y)) v':=hres
    cases this;rfl
   subst hv'
   exact ⟨rfl,zAJ hbel hni⟩
  ·exact hs0.elim
 have hSWO:SWO (ltOf cf):=by
  refine ⟨fun x=>?_,fun x y z hxy hyz=>?_,fun x y z hxy hyz=>?_⟩
  ·have : 0 ≤ c x.val x.val := hO.1 x.val x.isLt
   simp only [ltOf,decide_eq_false_iff_not];show ¬ c x.val x.val < 0;omega
  ·simp only [ltOf, decide_eq_true_eq] at hxy hyz ⊢
   exact hO.2.2 _ _ _ x.isLt y.isLt z.isLt hxy hyz
  ·simp only [ltOf, decide_eq_false_iff_not] at hxy hyz ⊢
   intro hxz
   have hxy : ¬ c x.val y.val < 0:=hxy
   have hyz : ¬ c y.val z.val < 0:=hyz
   have hxz:c x.val z.val < 0:=hxz
   by_cases e1:y.val=z.val
   ·rw [e1] at hxy;exact hxy hxz
   ·by_cases e2 : x.val = y.val
    ·rw [e2] at hxz;exact hyz hxz
    ·have a1 : c z.val y.val < 0 := by rcases hO.2.1 y.val z.val y.isLt z.isLt e1 with h | h; exact absurd h.1 hyz; exact h.1
     exact hxy (hO.2.2 _ _ _ x.isLt z.isLt y.isLt hxz a1)
 have aE:∀ w,(isAgg (ρ.t 24)).run P w=.ok true w:=fun w=>by rw [he];exact zdz hag
 have zE:∀ w,(Go.sizeOf (ρ.t 24)).run P w=.ok s w:=fun w=>by rw [he];exact run_sizeOf hsz
 have hrun:=AnyQ.slices_SortFunc L s aE zE enc hk h1 cf hSWO gf cv.toArray blk 0 cap d w eg hcmp hH hlt (by rw [hds];omega)
 rw [hds] at hrun
 refine hrun.mono ?_
 rintro r w' ⟨rfl,d',m,os,hperm,hsort,rfl⟩
 obtain ⟨hps,_,hpp⟩:=hperm
 have hd's:d'.size=n:=by rw [hps,hds]
 have hall:∀ (z:Array (Fin n)),z.size=n→z.extract 0 n=z:=fun z hz=>Array.ext (by simp [hz]) (fun i h1 h2=>by simp)
 rw [hall d' hd's,hall d hds] at hpp
 have hl:d'.toList.map Fin.val=zs7 n c:=by
  refine ztx hO ?_ ?_
  ·refine (hpp.map Fin.val).trans ?_
   have:d.toList.map Fin.val=List.range n:=by
    apply List.ext_getElem?
    intro i
    simp only [d,List.getElem?_map]
    by_cases hi:i < n
    ·simp [hi]
    ·rw [List.getElem?_eq_none (by simp;omega),List.getElem?_eq_none (by simp;omega)];rfl
   rw [this]
  ·rw [List.pairwise_map, List.pairwise_iff_getElem]
   intro i j hi hj hij
   have hi':i < n:=by simpa [hd's] using hi
   have hj':j < n:=by simpa [hd's] using hj
   have:=hsort i j (Nat.zero_le _) hij hj'
   rw [getElem!_pos d' j (by omega),getElem!_pos d' i (by omega)] at this
   simp only [ltOf,decide_eq_false_iff_not] at this
   exact this
 have hget:∀ i (hi:i < n),zor n c get i=get (d'[i]'(by omega)).val:=fun i hi=>by
  unfold zor
  rw [← hl]
  congr 1
  rw [List.getD_eq_getElem?_getD,List.getElem?_map]
  simp [hd's,hi]
 obtain ⟨cur',hcell',hsz'⟩:=znH (q:=m) (off:=0) (flatK enc s d') hcell
 have hgrow:(sortWorldK enc s w blk 0 m d' os).heap[blk]? = some (.cells cur' e (0,0)):=by
  show ((putRow id (Sort.ahead w m) blk 0 (flatK enc s d')).heap ++ os)[blk]? = _
  rw [Array.getElem?_append_left (by simpa [putRow,mapBlock,Sort.ahead] using hlt)]
  exact hcell'
 have hH':HoldsK enc s (sortWorldK enc s w blk 0 m d' os) blk 0 d':=holdsK_sortWorldK_c enc s w blk 0 d d' m os hH hlt (by rw [hd's,hds])
 have hcur':∀ j (hj:j < n * s),cur'[j]? = some ((flatK enc s d')[j]!):=fun j hj=>by
  have:=(hH' j (by rw [size_flatK,hd's];exact hj)).1
  rw [cell_of hgrow,Nat.zero_add] at this
  exact this
 refine ⟨rfl,⟨cur'.toList.take (n * s),⟨by rw [List.length_take,Array.length_toList,hsz',hcs];exact Nat.min_eq_left (Nat.mul_le_mul_right s hncap),.inr ⟨blk,cap,cur',rfl,hb,hgrow,hncap,hcap,by rw [hsz',hcs],rfl⟩⟩,fun i hi=>?_⟩,?_⟩
 ·have e1:((cur'.toList.take (n * s)).drop (i * s)).take s=enc (d'[i]'(by omega)):=by
   apply List.ext_getElem?
   intro j
   have hm:=hmul i hi
   rw [List.getElem?_take]
   split
   ·rename_i hj
    rw [List.getElem?_drop,List.getElem?_take,if_pos (by omega),Array.getElem?_toList,hcur' _ (by omega)]
    have hdiv:(i * s+j) / s=i:=by rw [Nat.mul_comm,Nat.mul_add_div hpos,Nat.div_eq_of_lt hj,Nat.add_zero]
    have hmod:(i * s+j) % s=j:=by rw [Nat.mul_comm,Nat.mul_add_mod,Nat.mod_eq_of_lt hj]
    rw [get_flatK _ _ _ _ (by rw [hd's];omega),hdiv,hmod,getElem!_pos d' i (by omega),getElem!_pos _ _ (by rw [hk];exact hj)]
    exact (List.getElem?_eq_getElem _).symm
   ·rename_i hj
    rw [List.getElem?_eq_none (by rw [hk];omega)]
  rw [e1,hget i hi]
  exact hr _ (d'[i]'(by omega)).isLt
 ·refine ⟨⟨rfl, rfl, rfl, ?_, fun k hk hne => ?_⟩, Nat.le_add_right _ _⟩
  ·show w.heap.size ≤ ((putRow id (Sort.ahead w m) blk 0 (flatK enc s d')).heap ++ os).size
   simp [putRow,mapBlock,Sort.ahead]
  ·show ((putRow id (Sort.ahead w m) blk 0 (flatK enc s d')).heap ++ os)[k]? = _
   rw [Array.getElem?_append_left (by simpa [putRow,mapBlock,Sort.ahead] using hk)]
   exact zjG _ fun e=>hne (by rw [e];rfl)
end Go.Pm
namespace Go.Pm

abbrev zI (x:Int):DV:=.one (.c (.p (.int .i64 x)))
abbrev zB (x:Bool):DV:=.one (.c (.p (.bool x)))
abbrev zP (x:PV):DV:=.one (.c (.p x))
abbrev zp (L k:Nat):DV:=.one (.c (.ptr L k))
abbrev zv (L:Nat):DV:=.one (.c (.vec L))
abbrev zs {α:Type} (enc:α→List PV) (s:Nat) (x:Sl α):PV:=.sl x.len s (fun i=>enc (x.get i))
abbrev zS {α:Type} (enc:α→List PV) (s:Nat) (x:Sl α):DV:=zP (zs enc s x)
abbrev zm (l:List PV):List Cl:=l.map Cl.p
abbrev zi (x:Int):Cl:=.p (.int .i64 x)
abbrev zg {α:Type} (enc:α→List PV) (x:Sl α):Nat→List PV:=fun i=>enc (x.get i)
abbrev zK (a b:List Nat):Keep:=⟨a,b,[],[],[],[],[]⟩
theorem zE {α:Type} (enc:α→List PV) (size:Nat) (f:Nat→α):IsE enc size size (fun i=>enc (f i)):=⟨rfl,f,rfl⟩

@[reducible] def lpO {A : Type} (d : A) (st : A → A) : Nat → A
  | 0=>d
  | k+1=>st (lpO d st k)
theorem zer {A B : Type} (a : A) (b : B) (p : A → A) (s : B → B) (M : A → B → Prop) (h0 : M a b) (h1 : ∀ P S, M P S → M (p P) (s S)) : ∀ k, M (lpO a p k) (lpO b s k)
  | 0=>h0
  | k+1=>h1 _ _ (zer a b p s M h0 h1 k)
section
variable (P:Program) (Γ:Ctrs) (ann:Ann)
def pt : Code → (Exit → St → Prop) → List Nat → List (St → Prop) → St → Prop
  | .seq a b,K,i :: r,X=>match i with | 0=>pt a (sqK P Γ ann b K) r X | _=>pt b K r X
  | .cond _ a b,K,i :: r,X=>match i with | 0=>pt a K r X | _=>pt b K r X
  | .block id b,K,_ :: r,X=>pt b (za5 id K) r X
  | .loop b,K,_ :: r,x :: X=>pt b (zdR P ann (zkR b) x K) r X
  | .scope b,K,_ :: r,X=>pt b (zca K) r X
  | c,K,_,_=>vc P Γ ann c K
def ptF (fn:Func) (K:List PA→Prop) (l:List Nat) (X:List (St→Prop)):St→Prop :=
 match fn.body with
 | some c=>pt P Γ ann c (zcp P fn K) l X
 | none=>fun _=>False
end

theorem zc {b:Bool} {A B:Prop} {S S':Bool} {α:Type} {e:α→List PA} {K:List PA→Prop} {x y:α} (hs:cond b S S'=true) (hk:K (e (cond b x y))) (h1:S=true→K (e x)→A) (h2:S'=true→K (e y)→B):zc0 b A B:=by
 cases b
 ·exact h2 hs hk
 ·exact h1 hs hk
theorem zt {b:Bool} {A B:Prop} {α:Type} {e:α→List PA} {K:List PA→Prop} {x y:α} (hk:K (e (cond b x y))) (h1:K (e x)→A) (h2:K (e y)→B):zc0 b A B:=by
 cases b
 ·exact h2 hk
 ·exact h1 hk
theorem zl {at_:Prop} {g:St} (B:(St→Prop)→St→Prop) (e:at_ = ∀ X:St→Prop,(∀ s,B X s→X s)→X g) (h:∀ X:St→Prop,(∀ s,B X s→X s)→X g):at_:=e ▸ h
end Go.Pm
namespace Go.Proofs
open Go Go.Pm
set_option maxRecDepth 100000
set_option linter.unusedVariables false
attribute [local irreducible] Go.Pm.vcFun Go.Pm.vc Go.Pm.vcIter
abbrev zaq (x:Int):List PV:=[.int .i64 x]
def zLf : List PV → Int
  | [.int .i64 x]=>x
  | _=>default
def zcT (g:Nat→List PV):Nat→Int:=fun i=>zLf (g i)
theorem zdv (f:Nat→Int):zcT (fun i=>zaq (f i))=f:=rfl
structure Gate where
  Z:Int
  Low:Int
  High:Int
deriving Inhabited
abbrev enc_55 (x:Gate):List PV:=[.int .i64 x.Z,.int .i64 x.Low,.int .i64 x.High]
def zH4 : List PV → Gate
  | [.int .i64 x_Z,.int .i64 x_Low,.int .i64 x_High]=>(⟨x_Z,x_Low,x_High⟩:Gate)
  | _=>default
def zae (g:Nat→List PV):Nat→Gate:=fun i=>zH4 (g i)
theorem zac (f:Nat→Gate):zae (fun i=>enc_55 (f i))=f:=rfl
abbrev zH5 (x:(Sl Gate)):List PV:=[.sl x.len 3 (fun i=>enc_55 (x.get i))]
structure Frac where
  Num:Int
  Den:Int
deriving Inhabited
abbrev zad (x:Frac):List PV:=[.int .i64 x.Num,.int .i64 x.Den]
def zH6 : List PV → Frac
  | [.int .i64 x_Num,.int .i64 x_Den]=>(⟨x_Num,x_Den⟩:Frac)
  | _=>default
def zge (g:Nat→List PV):Nat→Frac:=fun i=>zH6 (g i)
theorem zes (f:Nat→Frac):zge (fun i=>zad (f i))=f:=rfl
structure Line where
  Slope:Frac
  Start:Frac
deriving Inhabited
abbrev zaC (x:Line):List PV:=[.int .i64 x.Slope.Num,.int .i64 x.Slope.Den,.int .i64 x.Start.Num,.int .i64 x.Start.Den]
def zH7 : List PV → Line
  | [.int .i64 x_Slope_Num,.int .i64 x_Slope_Den,.int .i64 x_Start_Num,.int .i64 x_Start_Den]=>(⟨(⟨x_Slope_Num,x_Slope_Den⟩:Frac),(⟨x_Start_Num,x_Start_Den⟩:Frac)⟩:Line)
  | _=>default
def zjH (g:Nat→List PV):Nat→Line:=fun i=>zH7 (g i)
theorem zet (f:Nat→Line):zjH (fun i=>zaC (f i))=f:=rfl
structure Span where
  Low:Int
  High:Int
deriving Inhabited
abbrev zBQ (x:Span):List PV:=[.int .i64 x.Low,.int .i64 x.High]
structure list where
  Gates:(Sl Gate)
deriving Inhabited
abbrev zb3 (x:list):List PV:=[.sl x.Gates.len 3 (fun i=>enc_55 (x.Gates.get i))]
structure straight where
  slope:Int
  start:Int
  den:Int
deriving Inhabited
abbrev zah (x:straight):List PV:=[.int .i64 x.slope,.int .i64 x.start,.int .i64 x.den]
def zDn : List PV → straight
  | [.int .i64 x_slope,.int .i64 x_start,.int .i64 x_den]=>(⟨x_slope,x_start,x_den⟩:straight)
  | _=>default
def zaZ (g:Nat→List PV):Nat→straight:=fun i=>zDn (g i)
theorem zaS (f:Nat→straight):zaZ (fun i=>zah (f i))=f:=rfl
structure set where
  list:list
  corners:(Sl straight)
deriving Inhabited
abbrev za2 (x:set):List PV:=[.sl x.list.Gates.len 3 (fun i=>enc_55 (x.list.Gates.get i)),.sl x.corners.len 3 (fun i=>zah (x.corners.get i))]
abbrev zcG (x:Mp):List PV:=[.fm (true,2,false,[some .i64]) x.n x.F]
end Go.Proofs
namespace Go.Proofs
open Go Go.Pm
set_option maxRecDepth 100000
set_option linter.unusedVariables false
attribute [local irreducible] Go.Pm.vcFun Go.Pm.vc Go.Pm.vcIter
abbrev T74:Tabs:=Tabs.nil
theorem zLg:TabsOk Try.prog T74:=TabsOk.nil
abbrev G74:Ctrs:=csm T74 (fun _ _=>[]) (fun _=>false)
def zH8:Ann:=⟨15,[(0,zK [0,1,2] []),(1,zK [6] [])],
 [],
 [],
 [],[]⟩
abbrev R74:=Bool
abbrev e74 (r:R74):List PA:=[.one (.bool r)]
section
variable {K:List PA→Prop} {x:Int} {low:Int} {high:Int}
def s74 (x:Int) (low:Int) (high:Int):Bool :=
  (cond (decide (x ≥ low))
 (decide (x≤high))
 false)
end
theorem q74 (x:Int) (low:Int) (high:Int) (K:List PA→Prop) (hk:K (e74 (s74 x low high))):vcFun Try.prog G74 zH8 74 [.one (.int .i64 x),.one (.int .i64 low),.one (.int .i64 high)] K :=
  zaD (by kernel_rfl) (zt hk (fun hk=>hk) (fun hk=>hk))
def zoY : List PA → COut
  | [.one (.int .i64 a0),.one (.int .i64 a1),.one (.int .i64 a2)]=>.tot [.one (.bool (s74 a0 a1 a2))]
  | _=>.no
theorem zH9:zaf Try.prog 74:=⟨_,rfl,rfl,by kernel_rfl⟩
theorem zIa:Ok Try.prog 74 zoY:=zaF zLg zH9 fun args K h=>by
  unfold zoY at h
  split at h
  · rename_i a0 a1 a2
    have hk:=h
    exact ⟨(fun _ _=>[]),(fun _=>false),zH8,q74 a0 a1 a2 K hk⟩
  · exact h.elim
abbrev zM2:Tabs:=Tabs.nil
theorem zIb:TabsOk Try.prog zM2:=TabsOk.nil
abbrev zNN:Ctrs:=csm zM2 (fun _ _=>[]) (fun _=>false)
def zBR:Ann:=⟨12,[(0,zK [1,2] [2]),(1,zK [3] [])],
 [],
 [],
 [],[]⟩
abbrev zNO:=Bool
abbrev zNP (r:zNO):List PA:=[.one (.bool r)]
section
variable {K:List PA→Prop} {c0:list} {g:Gate}
def zDo (c0:list) (g:Gate):Bool :=
  (g.Z != (c0.Gates.get 0).Z)
def zDp (c0:list) (g:Gate):Bool :=
  (decide ((0≤(0:Int)∧(0:Int) < (c0.Gates.len:Int))) &&
 true)
end
theorem zNQ (c0:list) (g:Gate) (K:List PA→Prop) (hs:zDp c0 g=true) (hk:K (zNP (zDo c0 g))):vcFun Try.prog zNN zBR 100 [.agg (enc_55 g),.one (.fp (zb3 c0) 0)] K :=
  zaD (by kernel_rfl) (zay hs fun hc hs=>And.intro hc hk)
def zuZ : List PA → COut
  | [.agg [.int .i64 a0_Z,.int .i64 a0_Low,.int .i64 a0_High],.one (.fp [.sl c0_Gates_n c0_Gates_s c0_Gates_g] 0)]=>.det (IsE enc_55 3 c0_Gates_s c0_Gates_g∧zDp (⟨(⟨c0_Gates_n,zae c0_Gates_g⟩:(Sl Gate))⟩:list) (⟨a0_Z,a0_Low,a0_High⟩:Gate)=true) [.one (.bool (zDo (⟨(⟨c0_Gates_n,zae c0_Gates_g⟩:(Sl Gate))⟩:list) (⟨a0_Z,a0_Low,a0_High⟩:Gate)))]
  | _=>.no
theorem zDq:zaf Try.prog 100:=⟨_,rfl,rfl,by kernel_rfl⟩
theorem zLh:Ok Try.prog 100 zuZ:=zaF zIb zDq fun args K h=>by
  unfold zuZ at h
  split at h
  · rename_i a0_Z a0_Low a0_High c0_Gates_n c0_Gates_s c0_Gates_g
    obtain ⟨⟨⟨rfl,c0_Gates_f,rfl⟩,hs⟩,hk⟩:=h
    try rw [zac c0_Gates_f] at hs
    try rw [zac c0_Gates_f] at hk
    exact ⟨(fun _ _=>[]),(fun _=>false),zBR,zNQ (⟨(⟨c0_Gates_n,c0_Gates_f⟩:(Sl Gate))⟩:list) (⟨a0_Z,a0_Low,a0_High⟩:Gate) K hs hk⟩
  · exact h.elim
abbrev zM3:Tabs:=(Tabs.nil.addF 74 zoY)
theorem zIc:TabsOk Try.prog zM3:=(TabsOk.nil.addF zIa)
abbrev zNR:Ctrs:=csm zM3 (fun _ _=>[]) (fun _=>false)
def zBS:Ann:=⟨24,[(0,zK [2,3] [2,3]),(1,zK [4] [])],
 [],
 [],
 [],[]⟩
abbrev zNS:=Bool
abbrev e118 (r:zNS):List PA:=[.one (.bool r)]
section
variable {K:List PA→Prop} {s:straight} {g:Gate}
def zDr (s:straight) (g:Gate):Bool :=
  (s74 (w64 (s.start+(w64 (s.slope * g.Z)))) (w64 (g.Low * s.den)) (w64 (g.High * s.den)))
end
theorem zNT (s:straight) (g:Gate) (K:List PA→Prop) (hk:K (e118 (zDr s g))):vcFun Try.prog zNR zBS 118 [.agg (zah s),.agg (enc_55 g)] K :=
  zaD (by kernel_rfl) hk
def zu0 : List PA → COut
  | [.agg [.int .i64 a0_slope,.int .i64 a0_start,.int .i64 a0_den],.agg [.int .i64 a1_Z,.int .i64 a1_Low,.int .i64 a1_High]]=>.tot [.one (.bool (zDr (⟨a0_slope,a0_start,a0_den⟩:straight) (⟨a1_Z,a1_Low,a1_High⟩:Gate)))]
  | _=>.no
theorem zDs:zaf Try.prog 118:=⟨_,rfl,rfl,by kernel_rfl⟩
theorem zLi:Ok Try.prog 118 zu0:=zaF zIc zDs fun args K h=>by
  unfold zu0 at h
  split at h
  · rename_i a0_slope a0_start a0_den a1_Z a1_Low a1_High
    have hk:=h
    exact ⟨(fun _ _=>[]),(fun _=>false),zBS,zNT (⟨a0_slope,a0_start,a0_den⟩:straight) (⟨a1_Z,a1_Low,a1_High⟩:Gate) K hk⟩
  · exact h.elim
abbrev zM4:Tabs:=(Tabs.nil.addF 118 zu0)
theorem zId:TabsOk Try.prog zM4:=(TabsOk.nil.addF zLi)
abbrev zNU:Ctrs:=csm zM4 (fun _ _=>[]) (fun _=>false)
def zBT:Ann:=⟨8,[(0,zK [1,2] [2]),(1,zK [3] [])],
 [],
 [],
 [],[]⟩
abbrev zNV:=Bool
abbrev e117 (r:zNV):List PA:=[.one (.bool r)]
section
variable {K:List PA→Prop} {c0:straight} {g:Gate}
def zDt (c0:straight) (g:Gate):Bool :=
  (!(zDr c0 g))
end
theorem zNW (c0:straight) (g:Gate) (K:List PA→Prop) (hk:K (e117 (zDt c0 g))):vcFun Try.prog zNU zBT 117 [.agg (enc_55 g),.one (.fp (zah c0) 0)] K :=
  zaD (by kernel_rfl) hk
def zu1 : List PA → COut
  | [.agg [.int .i64 a0_Z,.int .i64 a0_Low,.int .i64 a0_High],.one (.fp [.int .i64 c0_slope,.int .i64 c0_start,.int .i64 c0_den] 0)]=>.tot [.one (.bool (zDt (⟨c0_slope,c0_start,c0_den⟩:straight) (⟨a0_Z,a0_Low,a0_High⟩:Gate)))]
  | _=>.no
theorem zDu:zaf Try.prog 117:=⟨_,rfl,rfl,by kernel_rfl⟩
theorem zLj:Ok Try.prog 117 zu1:=zaF zId zDu fun args K h=>by
  unfold zu1 at h
  split at h
  · rename_i a0_Z a0_Low a0_High c0_slope c0_start c0_den
    have hk:=h
    exact ⟨(fun _ _=>[]),(fun _=>false),zBT,zNW (⟨c0_slope,c0_start,c0_den⟩:straight) (⟨a0_Z,a0_Low,a0_High⟩:Gate) K hk⟩
  · exact h.elim
abbrev zM5:Tabs:=Tabs.nil
theorem zIe:TabsOk Try.prog zM5:=TabsOk.nil
abbrev zNX:Ctrs:=csm zM5 (fun _ _=>[]) (fun _=>false)
def zBU:Ann:=⟨18,[(0,zK [1,2] [2]),(1,zK [3] [])],
 [],
 [],
 [],[]⟩
abbrev zNY:=Bool
abbrev zNZ (r:zNY):List PA:=[.one (.bool r)]
section
variable {K:List PA→Prop} {c0:straight} {g:Gate}
def zKQ (c0:straight) (g:Gate):Bool :=
  ((w64 (c0.start+(w64 (c0.slope * g.Z)))) == (w64 (g.Low * c0.den)))
end
theorem zN0 (c0:straight) (g:Gate) (K:List PA→Prop) (hk:K (zNZ (zKQ c0 g))):vcFun Try.prog zNX zBU 123 [.agg (enc_55 g),.one (.fp (zah c0) 0)] K :=
  zaD (by kernel_rfl) hk
def zu3 : List PA → COut
  | [.agg [.int .i64 a0_Z,.int .i64 a0_Low,.int .i64 a0_High],.one (.fp [.int .i64 c0_slope,.int .i64 c0_start,.int .i64 c0_den] 0)]=>.tot [.one (.bool (zKQ (⟨c0_slope,c0_start,c0_den⟩:straight) (⟨a0_Z,a0_Low,a0_High⟩:Gate)))]
  | _=>.no
theorem zDv:zaf Try.prog 123:=⟨_,rfl,rfl,by kernel_rfl⟩
theorem zLk:Ok Try.prog 123 zu3:=zaF zIe zDv fun args K h=>by
  unfold zu3 at h
  split at h
  · rename_i a0_Z a0_Low a0_High c0_slope c0_start c0_den
    have hk:=h
    exact ⟨(fun _ _=>[]),(fun _=>false),zBU,zN0 (⟨c0_slope,c0_start,c0_den⟩:straight) (⟨a0_Z,a0_Low,a0_High⟩:Gate) K hk⟩
  · exact h.elim
abbrev zKR:Tabs:=(((Tabs.nil.addF 100 zuZ).addF 117 zu1).addF 123 zu3)
theorem zIf:TabsOk Try.prog zKR:=(((TabsOk.nil.addF zLh).addF zLj).addF zLk)
abbrev zM6:Ctrs:=csm zKR (fun _ _=>[]) (fun _=>false)
def zu4:Ann:=⟨19,[(0,zK [0,1] []),(1,zK [0,1,7,8] []),(2,zK [0,1,7,8,9] []),(3,zK [0,1,5,7,8] []),(4,zK [0,1,5,7,8,16] []),(5,zK [4] []),(6,zK [0,1,7,8] []),(7,zK [4] [])],
 [(2,zK [0,1,7,8] [])],
 [(5,zK [0,1,5,7,8,16] [])],
 [],[]⟩
abbrev zN1:=Int
abbrev e119 (r:zN1):List PA:=[.one (.int .i64 r)]
@[irreducible] def z119:=ptF Try.prog zM6 zu4 Try.f119
def zu5 (c0:list) (sv0:(Sl Gate)) (za3:Int) (zbT:Int) (zc5:Nat→List PV):St:=⟨[(0,zP (.sl sv0.len 3 zc5)),(1,zP (.fn 100 [] [.fp (zb3 c0) 0])),(7,zI za3),(8,zI zbT)],[],[]⟩
abbrev zu6 (K:List PA→Prop) (c0:list) (X:St→Prop) (P:(Sl Gate)→Int→Int→Bool) (S:(Sl Gate)→Int→Int→Int):Prop:=∀ ⦃sv0:(Sl Gate)⦄ ⦃za3:Int⦄ ⦃zbT:Int⦄ ⦃zc5:Nat→List PV⦄,P sv0 za3 zbT=true→K (e119 (S sv0 za3 zbT))→zc5=zg enc_55 sv0→X (zu5 c0 sv0 za3 zbT zc5)
section
variable {K:List PA→Prop} {c0:list} {s:(Sl Gate)} {sv0:(Sl Gate)} {za3:Int} {zbT:Int} {zc5:Nat→List PV} {X0:St→Prop} {P0:(Sl Gate)→Int→Int→Bool} {S0:(Sl Gate)→Int→Int→Int} {sv1:(Sl Gate)} {iv1:Int} {zgf:Int} {zjI:Int} {zdE:Bool} {znI:Nat→List PV}
def zlY (S0:(Sl Gate)→Int→Int→Int) (c0:list) (sv1:(Sl Gate)) (iv1:Int) (zgf:Int) (zjI:Int) (zdE:Bool):Int :=
  (cond zdE
 iv1
 (S0 sv1 zgf (w64 (zjI+(1:Int)))))
def zlZ (P0:(Sl Gate)→Int→Int→Bool) (c0:list) (sv1:(Sl Gate)) (iv1:Int) (zgf:Int) (zjI:Int) (zdE:Bool):Bool :=
  (cond zdE
 true
 (P0 sv1 zgf (w64 (zjI+(1:Int)))))
theorem zAK (hX0:zu6 K c0 X0 P0 S0) (hs:zlZ P0 c0 sv1 iv1 zgf zjI zdE=true) (hk:K (e119 (zlY S0 c0 sv1 iv1 zgf zjI zdE))) (zu7:znI=zg enc_55 sv1):z119 K [1,0,1,0,0,1,1,0,0,1,1] [X0] ⟨[(0,zP (.sl sv1.len 3 znI)),(1,zP (.fn 100 [] [.fp (zb3 c0) 0])),(5,zI iv1),(7,zI zgf),(8,zI zjI),(16,zB zdE)],[],[]⟩:=by subst zu7;exact zaD (by kernel_rfl) (zc hs hk (fun hs hk=>hk) (fun hs hk=>(hX0 hs hk rfl)))
def ziM (c0:list) (S0:(Sl Gate)→Int→Int→Int) (sv0:(Sl Gate)) (za3:Int) (zbT:Int):Int :=
  (cond (decide (zbT < za3))
 (zlY S0 c0 sv0 zbT za3 zbT (zDo c0 (sv0.get zbT.toNat)))
 (-1:Int))
def ziN (c0:list) (P0:(Sl Gate)→Int→Int→Bool) (sv0:(Sl Gate)) (za3:Int) (zbT:Int):Bool :=
  (cond (decide (zbT < za3))
 (decide ((0≤zbT∧zbT < (sv0.len:Int))) &&
 (decide ((zDp c0 (sv0.get zbT.toNat)=true)) &&
 (zlZ P0 c0 sv0 zbT za3 zbT (zDo c0 (sv0.get zbT.toNat)))))
 true)
def ziO (c0:list):Nat→(Sl Gate)→Int→Int→Int:=lpO (fun _ _ _=>default) (ziM c0)
def ziP (c0:list):Nat→(Sl Gate)→Int→Int→Bool:=lpO (fun _ _ _=>false) (ziN c0)
def zrZ (c0:list) (sv0:(Sl Gate)) (za3:Int) (zbT:Int):Int:=ziO c0 Fuel sv0 za3 zbT
def zr0 (c0:list) (sv0:(Sl Gate)) (za3:Int) (zbT:Int):Bool:=ziP c0 Fuel sv0 za3 zbT
theorem zAL (hs:zr0 c0 sv0 za3 zbT=true) (hk:K (e119 (zrZ c0 sv0 za3 zbT))) (zjJ:zc5=zg enc_55 sv0):z119 K [1,0,1,0] [] (zu5 c0 sv0 za3 zbT zc5) :=
  zl (fun X=>z119 K [1,0,1,0,0] [X]) (by kernel_rfl) fun X0 hX =>
  (show ∀ k, zu6 K c0 X0 (ziP c0 k) (ziO c0 k) from zer _ _ (ziN c0) (ziM c0) (zu6 K c0 X0)
 (by intro _ _ _ _ hs;exact absurd hs Bool.false_ne_true)
 (by intro P0 S0 hX0 sv0 za3 zbT zc5 hs hk zjJ;subst zjJ;exact hX _ (zaD (by kernel_rfl) (zc hs hk (fun hs hk=>(zay hs fun hc hs=>And.intro hc (zay hs fun hc hs=>And.intro (And.intro (zE enc_55 3 c0.Gates.get) hc) (zAK hX0 hs hk rfl)))) (fun hs hk=>hk))))) _ hs hk zjJ
def zIg (c0:list) (s:(Sl Gate)):Int :=
  (zrZ c0 s (s.len:Int) (0:Int))
def zIh (c0:list) (s:(Sl Gate)):Bool :=
  (zr0 c0 s (s.len:Int) (0:Int))
end
theorem zN2 (c0:list) (s:(Sl Gate)) (K:List PA→Prop) (hs:zIh c0 s=true) (hk:K (e119 (zIg c0 s))):vcFun Try.prog zM6 zu4 119 [.one (.sl s.len 3 (fun i=>enc_55 (s.get i))),.one (.fn 100 [] [.fp (zb3 c0) 0])] K :=
  zaD (by kernel_rfl) (zAL hs hk rfl)
abbrev zIi:Ctrs:=csm zKR (fun _ _=>[]) (fun _=>false)
def zoZ:Ann:=⟨19,[(0,zK [0,1] []),(1,zK [0,1,7,8] []),(2,zK [0,1,7,8,9] []),(3,zK [0,1,5,7,8] []),(4,zK [0,1,5,7,8,16] []),(5,zK [4] []),(6,zK [0,1,7,8] []),(7,zK [4] [])],
 [(2,zK [0,1,7,8] [])],
 [(5,zK [0,1,5,7,8,16] [])],
 [],[]⟩
abbrev zLl:=Int
abbrev zAM (r:zLl):List PA:=[.one (.int .i64 r)]
@[irreducible] def z119a:=ptF Try.prog zIi zoZ Try.f119
def zr1 (c0:straight) (sv0:(Sl Gate)) (za3:Int) (zbT:Int) (zc5:Nat→List PV):St:=⟨[(0,zP (.sl sv0.len 3 zc5)),(1,zP (.fn 117 [] [.fp (zah c0) 0])),(7,zI za3),(8,zI zbT)],[],[]⟩
abbrev zo0 (K:List PA→Prop) (c0:straight) (X:St→Prop) (P:(Sl Gate)→Int→Int→Bool) (S:(Sl Gate)→Int→Int→Int):Prop:=∀ ⦃sv0:(Sl Gate)⦄ ⦃za3:Int⦄ ⦃zbT:Int⦄ ⦃zc5:Nat→List PV⦄,P sv0 za3 zbT=true→K (zAM (S sv0 za3 zbT))→zc5=zg enc_55 sv0→X (zr1 c0 sv0 za3 zbT zc5)
section
variable {K:List PA→Prop} {c0:straight} {s:(Sl Gate)} {sv0:(Sl Gate)} {za3:Int} {zbT:Int} {zc5:Nat→List PV} {X0:St→Prop} {P0:(Sl Gate)→Int→Int→Bool} {S0:(Sl Gate)→Int→Int→Int} {sv1:(Sl Gate)} {iv1:Int} {zgf:Int} {zjI:Int} {zdE:Bool} {znI:Nat→List PV}
def zjK (S0:(Sl Gate)→Int→Int→Int) (c0:straight) (sv1:(Sl Gate)) (iv1:Int) (zgf:Int) (zjI:Int) (zdE:Bool):Int :=
  (cond zdE
 iv1
 (S0 sv1 zgf (w64 (zjI+(1:Int)))))
def zjL (P0:(Sl Gate)→Int→Int→Bool) (c0:straight) (sv1:(Sl Gate)) (iv1:Int) (zgf:Int) (zjI:Int) (zdE:Bool):Bool :=
  (cond zdE
 true
 (P0 sv1 zgf (w64 (zjI+(1:Int)))))
theorem zu8 (hX0:zo0 K c0 X0 P0 S0) (hs:zjL P0 c0 sv1 iv1 zgf zjI zdE=true) (hk:K (zAM (zjK S0 c0 sv1 iv1 zgf zjI zdE))) (zu7:znI=zg enc_55 sv1):z119a K [1,0,1,0,0,1,1,0,0,1,1] [X0] ⟨[(0,zP (.sl sv1.len 3 znI)),(1,zP (.fn 117 [] [.fp (zah c0) 0])),(5,zI iv1),(7,zI zgf),(8,zI zjI),(16,zB zdE)],[],[]⟩:=by subst zu7;exact zaD (by kernel_rfl) (zc hs hk (fun hs hk=>hk) (fun hs hk=>(hX0 hs hk rfl)))
def zgX (c0:straight) (S0:(Sl Gate)→Int→Int→Int) (sv0:(Sl Gate)) (za3:Int) (zbT:Int):Int :=
  (cond (decide (zbT < za3))
 (zjK S0 c0 sv0 zbT za3 zbT (zDt c0 (sv0.get zbT.toNat)))
 (-1:Int))
def zgY (c0:straight) (P0:(Sl Gate)→Int→Int→Bool) (sv0:(Sl Gate)) (za3:Int) (zbT:Int):Bool :=
  (cond (decide (zbT < za3))
 (decide ((0≤zbT∧zbT < (sv0.len:Int))) &&
 (zjL P0 c0 sv0 zbT za3 zbT (zDt c0 (sv0.get zbT.toNat))))
 true)
def zgZ (c0:straight):Nat→(Sl Gate)→Int→Int→Int:=lpO (fun _ _ _=>default) (zgX c0)
def zg0 (c0:straight):Nat→(Sl Gate)→Int→Int→Bool:=lpO (fun _ _ _=>false) (zgY c0)
def znJ (c0:straight) (sv0:(Sl Gate)) (za3:Int) (zbT:Int):Int:=zgZ c0 Fuel sv0 za3 zbT
def znK (c0:straight) (sv0:(Sl Gate)) (za3:Int) (zbT:Int):Bool:=zg0 c0 Fuel sv0 za3 zbT
theorem zu9 (hs:znK c0 sv0 za3 zbT=true) (hk:K (zAM (znJ c0 sv0 za3 zbT))) (zjJ:zc5=zg enc_55 sv0):z119a K [1,0,1,0] [] (zr1 c0 sv0 za3 zbT zc5) :=
  zl (fun X=>z119a K [1,0,1,0,0] [X]) (by kernel_rfl) fun X0 hX =>
  (show ∀ k, zo0 K c0 X0 (zg0 c0 k) (zgZ c0 k) from zer _ _ (zgY c0) (zgX c0) (zo0 K c0 X0)
 (by intro _ _ _ _ hs;exact absurd hs Bool.false_ne_true)
 (by intro P0 S0 hX0 sv0 za3 zbT zc5 hs hk zjJ;subst zjJ;exact hX _ (zaD (by kernel_rfl) (zc hs hk (fun hs hk=>(zay hs fun hc hs=>And.intro hc (zu8 hX0 hs hk rfl))) (fun hs hk=>hk))))) _ hs hk zjJ
def zva (c0:straight) (s:(Sl Gate)):Int :=
  (znJ c0 s (s.len:Int) (0:Int))
def zvb (c0:straight) (s:(Sl Gate)):Bool :=
  (znK c0 s (s.len:Int) (0:Int))
end
theorem zLm (c0:straight) (s:(Sl Gate)) (K:List PA→Prop) (hs:zvb c0 s=true) (hk:K (zAM (zva c0 s))):vcFun Try.prog zIi zoZ 119 [.one (.sl s.len 3 (fun i=>enc_55 (s.get i))),.one (.fn 117 [] [.fp (zah c0) 0])] K :=
  zaD (by kernel_rfl) (zu9 hs hk rfl)
abbrev zIj:Ctrs:=csm zKR (fun _ _=>[]) (fun _=>false)
def zo1:Ann:=⟨19,[(0,zK [0,1] []),(1,zK [0,1,7,8] []),(2,zK [0,1,7,8,9] []),(3,zK [0,1,5,7,8] []),(4,zK [0,1,5,7,8,16] []),(5,zK [4] []),(6,zK [0,1,7,8] []),(7,zK [4] [])],
 [(2,zK [0,1,7,8] [])],
 [(5,zK [0,1,5,7,8,16] [])],
 [],[]⟩
abbrev zLn:=Int
abbrev zAN (r:zLn):List PA:=[.one (.int .i64 r)]
@[irreducible] def z119b:=ptF Try.prog zIj zo1 Try.f119
def zr2 (c0:straight) (sv0:(Sl Gate)) (za3:Int) (zbT:Int) (zc5:Nat→List PV):St:=⟨[(0,zP (.sl sv0.len 3 zc5)),(1,zP (.fn 123 [] [.fp (zah c0) 0])),(7,zI za3),(8,zI zbT)],[],[]⟩
abbrev zo2 (K:List PA→Prop) (c0:straight) (X:St→Prop) (P:(Sl Gate)→Int→Int→Bool) (S:(Sl Gate)→Int→Int→Int):Prop:=∀ ⦃sv0:(Sl Gate)⦄ ⦃za3:Int⦄ ⦃zbT:Int⦄ ⦃zc5:Nat→List PV⦄,P sv0 za3 zbT=true→K (zAN (S sv0 za3 zbT))→zc5=zg enc_55 sv0→X (zr2 c0 sv0 za3 zbT zc5)
section
variable {K:List PA→Prop} {c0:straight} {s:(Sl Gate)} {sv0:(Sl Gate)} {za3:Int} {zbT:Int} {zc5:Nat→List PV} {X0:St→Prop} {P0:(Sl Gate)→Int→Int→Bool} {S0:(Sl Gate)→Int→Int→Int} {sv1:(Sl Gate)} {iv1:Int} {zgf:Int} {zjI:Int} {zdE:Bool} {znI:Nat→List PV}
def znL (S0:(Sl Gate)→Int→Int→Int) (c0:straight) (sv1:(Sl Gate)) (iv1:Int) (zgf:Int) (zjI:Int) (zdE:Bool):Int :=
  (cond zdE
 iv1
 (S0 sv1 zgf (w64 (zjI+(1:Int)))))
def znM (P0:(Sl Gate)→Int→Int→Bool) (c0:straight) (sv1:(Sl Gate)) (iv1:Int) (zgf:Int) (zjI:Int) (zdE:Bool):Bool :=
  (cond zdE
 true
 (P0 sv1 zgf (w64 (zjI+(1:Int)))))
theorem zvc (hX0:zo2 K c0 X0 P0 S0) (hs:znM P0 c0 sv1 iv1 zgf zjI zdE=true) (hk:K (zAN (znL S0 c0 sv1 iv1 zgf zjI zdE))) (zu7:znI=zg enc_55 sv1):z119b K [1,0,1,0,0,1,1,0,0,1,1] [X0] ⟨[(0,zP (.sl sv1.len 3 znI)),(1,zP (.fn 123 [] [.fp (zah c0) 0])),(5,zI iv1),(7,zI zgf),(8,zI zjI),(16,zB zdE)],[],[]⟩:=by subst zu7;exact zaD (by kernel_rfl) (zc hs hk (fun hs hk=>hk) (fun hs hk=>(hX0 hs hk rfl)))
def znN (c0:straight) (S0:(Sl Gate)→Int→Int→Int) (sv0:(Sl Gate)) (za3:Int) (zbT:Int):Int :=
  (cond (decide (zbT < za3))
 (znL S0 c0 sv0 zbT za3 zbT (zKQ c0 (sv0.get zbT.toNat)))
 (-1:Int))
def znO (c0:straight) (P0:(Sl Gate)→Int→Int→Bool) (sv0:(Sl Gate)) (za3:Int) (zbT:Int):Bool :=
  (cond (decide (zbT < za3))
 (decide ((0≤zbT∧zbT < (sv0.len:Int))) &&
 (znM P0 c0 sv0 zbT za3 zbT (zKQ c0 (sv0.get zbT.toNat))))
 true)
def znP (c0:straight):Nat→(Sl Gate)→Int→Int→Int:=lpO (fun _ _ _=>default) (znN c0)
def znQ (c0:straight):Nat→(Sl Gate)→Int→Int→Bool:=lpO (fun _ _ _=>false) (znO c0)
def znR (c0:straight) (sv0:(Sl Gate)) (za3:Int) (zbT:Int):Int:=znP c0 Fuel sv0 za3 zbT
def znS (c0:straight) (sv0:(Sl Gate)) (za3:Int) (zbT:Int):Bool:=znQ c0 Fuel sv0 za3 zbT
theorem zvd (hs:znS c0 sv0 za3 zbT=true) (hk:K (zAN (znR c0 sv0 za3 zbT))) (zjJ:zc5=zg enc_55 sv0):z119b K [1,0,1,0] [] (zr2 c0 sv0 za3 zbT zc5) :=
  zl (fun X=>z119b K [1,0,1,0,0] [X]) (by kernel_rfl) fun X0 hX =>
  (show ∀ k, zo2 K c0 X0 (znQ c0 k) (znP c0 k) from zer _ _ (znO c0) (znN c0) (zo2 K c0 X0)
 (by intro _ _ _ _ hs;exact absurd hs Bool.false_ne_true)
 (by intro P0 S0 hX0 sv0 za3 zbT zc5 hs hk zjJ;subst zjJ;exact hX _ (zaD (by kernel_rfl) (zc hs hk (fun hs hk=>(zay hs fun hc hs=>And.intro hc (zvc hX0 hs hk rfl))) (fun hs hk=>hk))))) _ hs hk zjJ
def zDw (c0:straight) (s:(Sl Gate)):Int :=
  (znR c0 s (s.len:Int) (0:Int))
def zDx (c0:straight) (s:(Sl Gate)):Bool :=
  (znS c0 s (s.len:Int) (0:Int))
end
theorem zLo (c0:straight) (s:(Sl Gate)) (K:List PA→Prop) (hs:zDx c0 s=true) (hk:K (zAN (zDw c0 s))):vcFun Try.prog zIj zo1 119 [.one (.sl s.len 3 (fun i=>enc_55 (s.get i))),.one (.fn 123 [] [.fp (zah c0) 0])] K :=
  zaD (by kernel_rfl) (zvd hs hk rfl)
def zve : List PA → COut
  | [.one (.sl a0_n a0_s a0_g),.one (.fn 100 [] [.fp [.sl c0_Gates_n c0_Gates_s c0_Gates_g] 0])]=>.det (IsE enc_55 3 a0_s a0_g∧IsE enc_55 3 c0_Gates_s c0_Gates_g∧zIh (⟨(⟨c0_Gates_n,zae c0_Gates_g⟩:(Sl Gate))⟩:list) (⟨a0_n,zae a0_g⟩:(Sl Gate))=true) [.one (.int .i64 (zIg (⟨(⟨c0_Gates_n,zae c0_Gates_g⟩:(Sl Gate))⟩:list) (⟨a0_n,zae a0_g⟩:(Sl Gate))))]
  | [.one (.sl a0_n a0_s a0_g),.one (.fn 117 [] [.fp [.int .i64 c0_slope,.int .i64 c0_start,.int .i64 c0_den] 0])]=>.det (IsE enc_55 3 a0_s a0_g∧zvb (⟨c0_slope,c0_start,c0_den⟩:straight) (⟨a0_n,zae a0_g⟩:(Sl Gate))=true) [.one (.int .i64 (zva (⟨c0_slope,c0_start,c0_den⟩:straight) (⟨a0_n,zae a0_g⟩:(Sl Gate))))]
  | [.one (.sl a0_n a0_s a0_g),.one (.fn 123 [] [.fp [.int .i64 c0_slope,.int .i64 c0_start,.int .i64 c0_den] 0])]=>.det (IsE enc_55 3 a0_s a0_g∧zDx (⟨c0_slope,c0_start,c0_den⟩:straight) (⟨a0_n,zae a0_g⟩:(Sl Gate))=true) [.one (.int .i64 (zDw (⟨c0_slope,c0_start,c0_den⟩:straight) (⟨a0_n,zae a0_g⟩:(Sl Gate))))]
  | _=>.no
theorem zDy:zaf Try.prog 119:=⟨_,rfl,rfl,by kernel_rfl⟩
theorem zLp:Ok Try.prog 119 zve:=zaF zIf zDy fun args K h=>by
  unfold zve at h
  split at h
  · rename_i a0_n a0_s a0_g c0_Gates_n c0_Gates_s c0_Gates_g
    obtain ⟨⟨⟨rfl,a0_f,rfl⟩,⟨rfl,c0_Gates_f,rfl⟩,hs⟩,hk⟩:=h
    try rw [zac a0_f] at hs
    try rw [zac a0_f] at hk
    try rw [zac c0_Gates_f] at hs
    try rw [zac c0_Gates_f] at hk
    exact ⟨(fun _ _=>[]),(fun _=>false),zu4,zN2 (⟨(⟨c0_Gates_n,c0_Gates_f⟩:(Sl Gate))⟩:list) (⟨a0_n,a0_f⟩:(Sl Gate)) K hs hk⟩
  · rename_i a0_n a0_s a0_g c0_slope c0_start c0_den
    obtain ⟨⟨⟨rfl,a0_f,rfl⟩,hs⟩,hk⟩:=h
    try rw [zac a0_f] at hs
    try rw [zac a0_f] at hk
    exact ⟨(fun _ _=>[]),(fun _=>false),zoZ,zLm (⟨c0_slope,c0_start,c0_den⟩:straight) (⟨a0_n,a0_f⟩:(Sl Gate)) K hs hk⟩
  · rename_i a0_n a0_s a0_g c0_slope c0_start c0_den
    obtain ⟨⟨⟨rfl,a0_f,rfl⟩,hs⟩,hk⟩:=h
    try rw [zac a0_f] at hs
    try rw [zac a0_f] at hk
    exact ⟨(fun _ _=>[]),(fun _=>false),zo1,zLo (⟨c0_slope,c0_start,c0_den⟩:straight) (⟨a0_n,a0_f⟩:(Sl Gate)) K hs hk⟩
  · exact h.elim
abbrev T99:Tabs:=(Tabs.nil.addF 119 zve)
theorem zLq:TabsOk Try.prog T99:=(TabsOk.nil.addF zLp)
abbrev G99:Ctrs:=csm T99 (fun _ _=>[]) (fun _=>false)
def zIk:Ann:=⟨9,[(0,zK [0,1] []),(1,zK [4] [])],
 [],
 [],
 [],[]⟩
abbrev R99:=Bool
abbrev e99 (r:R99):List PA:=[.one (.bool r)]
section
variable {K:List PA→Prop} {c0:list} {s:(Sl Gate)}
def s99 (c0:list) (s:(Sl Gate)):Bool :=
  (decide ((zIg c0 s) ≥ (0:Int)))
def p99 (c0:list) (s:(Sl Gate)):Bool :=
  (decide ((zIh c0 s=true)) &&
 true)
end
theorem q99 (c0:list) (s:(Sl Gate)) (K:List PA→Prop) (hs:p99 c0 s=true) (hk:K (e99 (s99 c0 s))):vcFun Try.prog G99 zIk 99 [.one (.sl s.len 3 (fun i=>enc_55 (s.get i))),.one (.fn 100 [] [.fp (zb3 c0) 0])] K :=
  zaD (by kernel_rfl) (zay hs fun hc hs=>And.intro (And.intro (zE enc_55 3 s.get) (And.intro (zE enc_55 3 c0.Gates.get) hc)) hk)
abbrev zN3:Ctrs:=csm T99 (fun _ _=>[]) (fun _=>false)
def zBV:Ann:=⟨9,[(0,zK [0,1] []),(1,zK [4] [])],
 [],
 [],
 [],[]⟩
abbrev zN4:=Bool
abbrev zN5 (r:zN4):List PA:=[.one (.bool r)]
section
variable {K:List PA→Prop} {c0:straight} {s:(Sl Gate)}
def zKS (c0:straight) (s:(Sl Gate)):Bool :=
  (decide ((zva c0 s) ≥ (0:Int)))
def zKT (c0:straight) (s:(Sl Gate)):Bool :=
  (decide ((zvb c0 s=true)) &&
 true)
end
theorem zN6 (c0:straight) (s:(Sl Gate)) (K:List PA→Prop) (hs:zKT c0 s=true) (hk:K (zN5 (zKS c0 s))):vcFun Try.prog zN3 zBV 99 [.one (.sl s.len 3 (fun i=>enc_55 (s.get i))),.one (.fn 117 [] [.fp (zah c0) 0])] K :=
  zaD (by kernel_rfl) (zay hs fun hc hs=>And.intro (And.intro (zE enc_55 3 s.get) hc) hk)
abbrev zN7:Ctrs:=csm T99 (fun _ _=>[]) (fun _=>false)
def zBW:Ann:=⟨9,[(0,zK [0,1] []),(1,zK [4] [])],
 [],
 [],
 [],[]⟩
abbrev zN8:=Bool
abbrev zN9 (r:zN8):List PA:=[.one (.bool r)]
section
variable {K:List PA→Prop} {c0:straight} {s:(Sl Gate)}
def zLr (c0:straight) (s:(Sl Gate)):Bool :=
  (decide ((zDw c0 s) ≥ (0:Int)))
def zLs (c0:straight) (s:(Sl Gate)):Bool :=
  (decide ((zDx c0 s=true)) &&
 true)
end
theorem zOa (c0:straight) (s:(Sl Gate)) (K:List PA→Prop) (hs:zLs c0 s=true) (hk:K (zN9 (zLr c0 s))):vcFun Try.prog zN7 zBW 99 [.one (.sl s.len 3 (fun i=>enc_55 (s.get i))),.one (.fn 123 [] [.fp (zah c0) 0])] K :=
  zaD (by kernel_rfl) (zay hs fun hc hs=>And.intro (And.intro (zE enc_55 3 s.get) hc) hk)
def zvf : List PA → COut
  | [.one (.sl a0_n a0_s a0_g),.one (.fn 100 [] [.fp [.sl c0_Gates_n c0_Gates_s c0_Gates_g] 0])]=>.det (IsE enc_55 3 a0_s a0_g∧IsE enc_55 3 c0_Gates_s c0_Gates_g∧p99 (⟨(⟨c0_Gates_n,zae c0_Gates_g⟩:(Sl Gate))⟩:list) (⟨a0_n,zae a0_g⟩:(Sl Gate))=true) [.one (.bool (s99 (⟨(⟨c0_Gates_n,zae c0_Gates_g⟩:(Sl Gate))⟩:list) (⟨a0_n,zae a0_g⟩:(Sl Gate))))]
  | [.one (.sl a0_n a0_s a0_g),.one (.fn 117 [] [.fp [.int .i64 c0_slope,.int .i64 c0_start,.int .i64 c0_den] 0])]=>.det (IsE enc_55 3 a0_s a0_g∧zKT (⟨c0_slope,c0_start,c0_den⟩:straight) (⟨a0_n,zae a0_g⟩:(Sl Gate))=true) [.one (.bool (zKS (⟨c0_slope,c0_start,c0_den⟩:straight) (⟨a0_n,zae a0_g⟩:(Sl Gate))))]
  | [.one (.sl a0_n a0_s a0_g),.one (.fn 123 [] [.fp [.int .i64 c0_slope,.int .i64 c0_start,.int .i64 c0_den] 0])]=>.det (IsE enc_55 3 a0_s a0_g∧zLs (⟨c0_slope,c0_start,c0_den⟩:straight) (⟨a0_n,zae a0_g⟩:(Sl Gate))=true) [.one (.bool (zLr (⟨c0_slope,c0_start,c0_den⟩:straight) (⟨a0_n,zae a0_g⟩:(Sl Gate))))]
  | _=>.no
theorem zIl:zaf Try.prog 99:=⟨_,rfl,rfl,by kernel_rfl⟩
theorem zLt:Ok Try.prog 99 zvf:=zaF zLq zIl fun args K h=>by
  unfold zvf at h
  split at h
  · rename_i a0_n a0_s a0_g c0_Gates_n c0_Gates_s c0_Gates_g
    obtain ⟨⟨⟨rfl,a0_f,rfl⟩,⟨rfl,c0_Gates_f,rfl⟩,hs⟩,hk⟩:=h
    try rw [zac a0_f] at hs
    try rw [zac a0_f] at hk
    try rw [zac c0_Gates_f] at hs
    try rw [zac c0_Gates_f] at hk
    exact ⟨(fun _ _=>[]),(fun _=>false),zIk,q99 (⟨(⟨c0_Gates_n,c0_Gates_f⟩:(Sl Gate))⟩:list) (⟨a0_n,a0_f⟩:(Sl Gate)) K hs hk⟩
  · rename_i a0_n a0_s a0_g c0_slope c0_start c0_den
    obtain ⟨⟨⟨rfl,a0_f,rfl⟩,hs⟩,hk⟩:=h
    try rw [zac a0_f] at hs
    try rw [zac a0_f] at hk
    exact ⟨(fun _ _=>[]),(fun _=>false),zBV,zN6 (⟨c0_slope,c0_start,c0_den⟩:straight) (⟨a0_n,a0_f⟩:(Sl Gate)) K hs hk⟩
  · rename_i a0_n a0_s a0_g c0_slope c0_start c0_den
    obtain ⟨⟨⟨rfl,a0_f,rfl⟩,hs⟩,hk⟩:=h
    try rw [zac a0_f] at hs
    try rw [zac a0_f] at hk
    exact ⟨(fun _ _=>[]),(fun _=>false),zBW,zOa (⟨c0_slope,c0_start,c0_den⟩:straight) (⟨a0_n,a0_f⟩:(Sl Gate)) K hs hk⟩
  · exact h.elim
abbrev T67:Tabs:=(Tabs.nil.addF 99 zvf)
theorem zLu:TabsOk Try.prog T67:=(TabsOk.nil.addF zLt)
abbrev G67:Ctrs:=csm T67 (fun _ _=>[]) (fun _=>false)
def zIm:Ann:=⟨8,[(0,zK [1] [1]),(1,zK [2] [])],
 [],
 [],
 [],[]⟩
abbrev R67:=Bool
abbrev e67 (r:R67):List PA:=[.one (.bool r)]
section
variable {K:List PA→Prop} {l_a0:list}
def s67 (l_a0:list):Bool :=
  (!(s99 l_a0 l_a0.Gates))
def p67 (l_a0:list):Bool :=
  (decide ((p99 l_a0 l_a0.Gates=true)) &&
 true)
end
theorem q67 (l_a0:list) (K:List PA→Prop) (hs:p67 l_a0=true) (hk:K (e67 (s67 l_a0))):vcFun Try.prog G67 zIm 67 [.agg (zb3 l_a0)] K :=
  zaD (by kernel_rfl) (zay hs fun hc hs=>And.intro (And.intro (zE enc_55 3 l_a0.Gates.get) (And.intro (zE enc_55 3 l_a0.Gates.get) hc)) hk)
def zo3 : List PA → COut
  | [.agg [.sl a0_Gates_n a0_Gates_s a0_Gates_g]]=>.det (IsE enc_55 3 a0_Gates_s a0_Gates_g∧p67 (⟨(⟨a0_Gates_n,zae a0_Gates_g⟩:(Sl Gate))⟩:list)=true) [.one (.bool (s67 (⟨(⟨a0_Gates_n,zae a0_Gates_g⟩:(Sl Gate))⟩:list)))]
  | _=>.no
theorem zIn:zaf Try.prog 67:=⟨_,rfl,rfl,by kernel_rfl⟩
theorem zIo:Ok Try.prog 67 zo3:=zaF zLu zIn fun args K h=>by
  unfold zo3 at h
  split at h
  · rename_i a0_Gates_n a0_Gates_s a0_Gates_g
    obtain ⟨⟨⟨rfl,a0_Gates_f,rfl⟩,hs⟩,hk⟩:=h
    try rw [zac a0_Gates_f] at hs
    try rw [zac a0_Gates_f] at hk
    exact ⟨(fun _ _=>[]),(fun _=>false),zIm,q67 (⟨(⟨a0_Gates_n,a0_Gates_f⟩:(Sl Gate))⟩:list) K hs hk⟩
  · exact h.elim
abbrev zM7:Tabs:=Tabs.nil
theorem zIp:TabsOk Try.prog zM7:=TabsOk.nil
abbrev zM8:Ctrs:=csm zM7 (fun _ _=>[]) (fun _=>false)
def zvg:Ann:=⟨12,[(0,zK [0,1] []),(1,zK [0,1,6] []),(2,zK [0,1] []),(3,zK [4] [])],
 [(1,zK [0,1] [])],
 [],
 [],[]⟩
abbrev zOb:=Int
abbrev zLv (r:zOb):List PA:=[.one (.int .i64 r)]
@[irreducible] def z114:=ptF Try.prog zM8 zvg Try.f114
def zvh (av0:Int) (bv0:Int):St:=⟨[(0,zI av0),(1,zI bv0)],[],[]⟩
abbrev zBX (K:List PA→Prop) (X:St→Prop) (P:Int→Int→Bool) (S:Int→Int→Int):Prop:=∀ ⦃av0:Int⦄ ⦃bv0:Int⦄,P av0 bv0=true→K (zLv (S av0 bv0))→X (zvh av0 bv0)
section
variable {K:List PA→Prop} {a:Int} {b:Int} {av0:Int} {bv0:Int} {X0:St→Prop} {P0:Int→Int→Bool} {S0:Int→Int→Int}
def ziQ (S0:Int→Int→Int) (av0:Int) (bv0:Int):Int :=
  (cond (decide (bv0 > (0:Int)))
 (S0 bv0 (av0.tmod bv0))
 av0)
def ziR (P0:Int→Int→Bool) (av0:Int) (bv0:Int):Bool :=
  (cond (decide (bv0 > (0:Int)))
 (decide ((bv0 ≠ 0)) &&
 (P0 bv0 (av0.tmod bv0)))
 true)
def ziS:Nat→Int→Int→Int:=lpO (fun _ _=>default) (ziQ)
def ziT:Nat→Int→Int→Bool:=lpO (fun _ _=>false) (ziR)
def zr3 (av0:Int) (bv0:Int):Int:=ziS Fuel av0 bv0
def zr4 (av0:Int) (bv0:Int):Bool:=ziT Fuel av0 bv0
theorem zAO (hs:zr4 av0 bv0=true) (hk:K (zLv (zr3 av0 bv0))):z114 K [1,0,0] [] (zvh av0 bv0) :=
  zl (fun X=>z114 K [1,0,0,0] [X]) (by kernel_rfl) fun X0 hX =>
  (show ∀ k, zBX K X0 (ziT k) (ziS k) from zer _ _ (ziR) (ziQ) (zBX K X0)
 (by intro _ _ hs;exact absurd hs Bool.false_ne_true)
 (by intro P0 S0 hX0 av0 bv0 hs hk;exact hX _ (zaD (by kernel_rfl) (zc hs hk (fun hs hk=>(zay hs fun hc hs=>And.intro hc (hX0 hs hk))) (fun hs hk=>hk))))) _ hs hk
def zDz (a:Int) (b:Int):Int :=
  (zr3 a b)
def zKU (a:Int) (b:Int):Bool :=
  (zr4 a b)
end
theorem zOc (a:Int) (b:Int) (K:List PA→Prop) (hs:zKU a b=true) (hk:K (zLv (zDz a b))):vcFun Try.prog zM8 zvg 114 [.one (.int .i64 a),.one (.int .i64 b)] K :=
  zaD (by kernel_rfl) (zAO hs hk)
def zvi : List PA → COut
  | [.one (.int .i64 a0),.one (.int .i64 a1)]=>.det (zKU a0 a1=true) [.one (.int .i64 (zDz a0 a1))]
  | _=>.no
theorem zDA:zaf Try.prog 114:=⟨_,rfl,rfl,by kernel_rfl⟩
theorem zLw:Ok Try.prog 114 zvi:=zaF zIp zDA fun args K h=>by
  unfold zvi at h
  split at h
  · rename_i a0 a1
    obtain ⟨hs,hk⟩:=h
    exact ⟨(fun _ _=>[]),(fun _=>false),zvg,zOc a0 a1 K hs hk⟩
  · exact h.elim
abbrev T89:Tabs:=(Tabs.nil.addF 114 zvi)
theorem zLx:TabsOk Try.prog T89:=(TabsOk.nil.addF zLw)
abbrev G89:Ctrs:=csm T89 (fun _ _=>[]) (fun _=>false)
def zIq:Ann:=⟨19,[(0,zK [0,1,4] [4]),(1,zK [0,1,4,5] [4]),(2,zK [4] [4])],
 [],
 [],
 [],[]⟩
abbrev R89:=Frac
abbrev e89 (r:R89):List PA:=[.agg [.int .i64 r.Num,.int .i64 r.Den]]
section
variable {K:List PA→Prop} {num:Int} {den:Int}
def s89 (num:Int) (den:Int):Frac :=
  (⟨(w64 (num.tdiv (zDz (if (w64 (0 - num)) > num then (w64 (0 - num)) else num) den))),(w64 (den.tdiv (zDz (if (w64 (0 - num)) > num then (w64 (0 - num)) else num) den)))⟩:Frac)
def p89 (num:Int) (den:Int):Bool :=
  (decide ((zKU (if (w64 (0 - num)) > num then (w64 (0 - num)) else num) den=true)) &&
 (decide (((zDz (if (w64 (0 - num)) > num then (w64 (0 - num)) else num) den) ≠ 0)) &&
 (decide (((zDz (if (w64 (0 - num)) > num then (w64 (0 - num)) else num) den) ≠ 0)) &&
 true)))
end
theorem q89 (num:Int) (den:Int) (K:List PA→Prop) (hs:p89 num den=true) (hk:K (e89 (s89 num den))):vcFun Try.prog G89 zIq 89 [.one (.int .i64 num),.one (.int .i64 den)] K :=
  zaD (by kernel_rfl) (zay hs fun hc hs=>And.intro hc (zay hs fun hc hs=>And.intro hc (zay hs fun hc hs=>And.intro hc hk)))
def zty : List PA → COut
  | [.one (.int .i64 a0),.one (.int .i64 a1)]=>.det (p89 a0 a1=true) [.agg [.int .i64 ((s89 a0 a1).Num),.int .i64 ((s89 a0 a1).Den)]]
  | _=>.no
theorem zIr:zaf Try.prog 89:=⟨_,rfl,rfl,by kernel_rfl⟩
theorem zKV:Ok Try.prog 89 zty:=zaF zLx zIr fun args K h=>by
  unfold zty at h
  split at h
  · rename_i a0 a1
    obtain ⟨hs,hk⟩:=h
    exact ⟨(fun _ _=>[]),(fun _=>false),zIq,q89 a0 a1 K hs hk⟩
  · exact h.elim
abbrev T98:Tabs:=Tabs.nil
theorem zLy:TabsOk Try.prog T98:=TabsOk.nil
abbrev G98:Ctrs:=csm T98 (fun _ _=>[]) (fun _=>false)
def zDB:Ann:=⟨38,[(0,zK [1,2] [1,2]),(1,zK [1,2,3] [1,2,3]),(2,zK [2,3,18,19,20] [2,3]),(3,zK [2,3,18,19,20,21] [2,3]),(4,zK [2,3,5,18,19,20] [2,3,5]),(5,zK [2,3,18,19,20] [2,3]),(6,zK [2,3,18,19,20] [2,3]),(7,zK [2] [2])],
 [(3,zK [2,3,18,19,20] [2,3])],
 [],
 [],[]⟩
abbrev R98:=Span
abbrev e98 (r:R98):List PA:=[.agg [.int .i64 r.Low,.int .i64 r.High]]
@[irreducible] def z98:=ptF Try.prog G98 zDB Try.f98
def zBY (l_a0:list) (zcB:Int) (zav:Int) (zaw:Int):St:=⟨[(2,zp 2 0),(3,zp 3 0),(18,zS enc_55 3 l_a0.Gates),(19,zI (l_a0.Gates.len:Int)),(20,zI zcB)],[(2,.box 96 (zm (zBQ (⟨(0:Int),(0:Int)⟩:Span)))),(3,.box 96 (zm (zBQ (⟨zav,zaw⟩:Span))))],[]⟩
abbrev zIs (K:List PA→Prop) (l_a0:list) (X:St→Prop) (P:Int→Int→Int→Bool) (S:Int→Int→Int→Span):Prop:=∀ ⦃zcB:Int⦄ ⦃zav:Int⦄ ⦃zaw:Int⦄,P zcB zav zaw=true→K (e98 (S zcB zav zaw))→X (zBY l_a0 zcB zav zaw)
section
variable {K:List PA→Prop} {l_a0:list} {zcB:Int} {zav:Int} {zaw:Int} {X0:St→Prop} {P0:Int→Int→Int→Bool} {S0:Int→Int→Int→Span}
def zhp (l_a0:list) (S0:Int→Int→Int→Span) (zcB:Int) (zav:Int) (zaw:Int):Span :=
  (cond (decide (zcB < (l_a0.Gates.len : Int)))
 (S0 (w64 (zcB+(1:Int))) (if (l_a0.Gates.get zcB.toNat).Low > zav then (l_a0.Gates.get zcB.toNat).Low else zav) (if (l_a0.Gates.get zcB.toNat).High < zaw then (l_a0.Gates.get zcB.toNat).High else zaw))
 (⟨zav,zaw⟩:Span))
def zhq (l_a0:list) (P0:Int→Int→Int→Bool) (zcB:Int) (zav:Int) (zaw:Int):Bool :=
  (cond (decide (zcB < (l_a0.Gates.len : Int)))
 (decide ((0≤zcB∧zcB < (l_a0.Gates.len:Int))) &&
 (P0 (w64 (zcB+(1:Int))) (if (l_a0.Gates.get zcB.toNat).Low > zav then (l_a0.Gates.get zcB.toNat).Low else zav) (if (l_a0.Gates.get zcB.toNat).High < zaw then (l_a0.Gates.get zcB.toNat).High else zaw)))
 true)
def zhr (l_a0:list):Nat→Int→Int→Int→Span:=lpO (fun _ _ _=>default) (zhp l_a0)
def zhs (l_a0:list):Nat→Int→Int→Int→Bool:=lpO (fun _ _ _=>false) (zhq l_a0)
def zvj (l_a0:list) (zcB:Int) (zav:Int) (zaw:Int):Span:=zhr l_a0 Fuel zcB zav zaw
def zvk (l_a0:list) (zcB:Int) (zav:Int) (zaw:Int):Bool:=zhs l_a0 Fuel zcB zav zaw
theorem zDC (hs:zvk l_a0 zcB zav zaw=true) (hk:K (e98 (zvj l_a0 zcB zav zaw))):z98 K [1,1,0,1,0] [] (zBY l_a0 zcB zav zaw) :=
  zl (fun X=>z98 K [1,1,0,1,0,0] [X]) (by kernel_rfl) fun X0 hX =>
  (show ∀ k, zIs K l_a0 X0 (zhs l_a0 k) (zhr l_a0 k) from zer _ _ (zhq l_a0) (zhp l_a0) (zIs K l_a0 X0)
 (by intro _ _ _ hs;exact absurd hs Bool.false_ne_true)
 (by intro P0 S0 hX0 zcB zav zaw hs hk;exact hX _ (zaD (by kernel_rfl) (zc hs hk (fun hs hk=>(zay hs fun hc hs=>And.intro hc (hX0 hs hk))) (fun hs hk=>hk))))) _ hs hk
def s98 (l_a0:list):Span :=
  (zvj l_a0 (0:Int) ((l_a0.Gates.get 0).Low) ((l_a0.Gates.get 0).High))
def p98 (l_a0:list):Bool :=
  (decide ((0≤(0:Int)∧(0:Int) < (l_a0.Gates.len:Int))) &&
 (decide ((0≤(0:Int)∧(0:Int) < (l_a0.Gates.len:Int))) &&
 (zvk l_a0 (0:Int) ((l_a0.Gates.get 0).Low) ((l_a0.Gates.get 0).High))))
end
theorem q98 (l_a0:list) (K:List PA→Prop) (hs:p98 l_a0=true) (hk:K (e98 (s98 l_a0))):vcFun Try.prog G98 zDB 98 [.agg (zb3 l_a0)] K :=
  zaD (by kernel_rfl) (zay hs fun hc hs=>And.intro hc (zay hs fun hc hs=>And.intro hc (zDC hs hk)))
def zAP : List PA → COut
  | [.agg [.sl a0_Gates_n a0_Gates_s a0_Gates_g]]=>.det (IsE enc_55 3 a0_Gates_s a0_Gates_g∧p98 (⟨(⟨a0_Gates_n,zae a0_Gates_g⟩:(Sl Gate))⟩:list)=true) [.agg [.int .i64 ((s98 (⟨(⟨a0_Gates_n,zae a0_Gates_g⟩:(Sl Gate))⟩:list)).Low),.int .i64 ((s98 (⟨(⟨a0_Gates_n,zae a0_Gates_g⟩:(Sl Gate))⟩:list)).High)]]
  | _=>.no
theorem zIt:zaf Try.prog 98:=⟨_,rfl,rfl,by kernel_rfl⟩
theorem zM9:Ok Try.prog 98 zAP:=zaF zLy zIt fun args K h=>by
  unfold zAP at h
  split at h
  · rename_i a0_Gates_n a0_Gates_s a0_Gates_g
    obtain ⟨⟨⟨rfl,a0_Gates_f,rfl⟩,hs⟩,hk⟩:=h
    try rw [zac a0_Gates_f] at hs
    try rw [zac a0_Gates_f] at hk
    exact ⟨(fun _ _=>[]),(fun _=>false),zDB,q98 (⟨(⟨a0_Gates_n,a0_Gates_f⟩:(Sl Gate))⟩:list) K hs hk⟩
  · exact h.elim
abbrev T83:Tabs:=Tabs.nil
theorem zLz:TabsOk Try.prog T83:=TabsOk.nil
abbrev G83:Ctrs:=csm T83 (fun _ _=>[]) (fun _=>false)
def zIu:Ann:=⟨8,[(0,zK [1,2] [1,2]),(1,zK [2] [2])],
 [],
 [],
 [],[]⟩
abbrev R83:=Frac
abbrev e83 (r:R83):List PA:=[.agg [.int .i64 r.Num,.int .i64 r.Den]]
section
variable {K:List PA→Prop} {x:straight}
def s83 (x:straight):Frac :=
  (⟨x.slope,x.den⟩:Frac)
end
theorem q83 (x:straight) (K:List PA→Prop) (hk:K (e83 (s83 x))):vcFun Try.prog G83 zIu 83 [.agg (zah x)] K :=
  zaD (by kernel_rfl) hk
def zDD : List PA → COut
  | [.agg [.int .i64 a0_slope,.int .i64 a0_start,.int .i64 a0_den]]=>.tot [.agg [.int .i64 ((s83 (⟨a0_slope,a0_start,a0_den⟩:straight)).Num),.int .i64 ((s83 (⟨a0_slope,a0_start,a0_den⟩:straight)).Den)]]
  | _=>.no
theorem zIv:zaf Try.prog 83:=⟨_,rfl,rfl,by kernel_rfl⟩
theorem zOd:Ok Try.prog 83 zDD:=zaF zLz zIv fun args K h=>by
  unfold zDD at h
  split at h
  · rename_i a0_slope a0_start a0_den
    have hk:=h
    exact ⟨(fun _ _=>[]),(fun _=>false),zIu,q83 (⟨a0_slope,a0_start,a0_den⟩:straight) K hk⟩
  · exact h.elim
abbrev zNa:Tabs:=Tabs.nil
theorem zIw:TabsOk Try.prog zNa:=TabsOk.nil
abbrev zOe:Ctrs:=csm zNa (fun _ _=>[]) (fun _=>false)
def zBZ:Ann:=⟨15,[(0,zK [1,2,4] [2,4]),(1,zK [4] [4])],
 [],
 [],
 [],[]⟩
abbrev zOf:=Frac
abbrev zOg (r:zOf):List PA:=[.agg [.int .i64 r.Num,.int .i64 r.Den]]
section
variable {K:List PA→Prop} {s:straight} {z:Int}
def zIx (s:straight) (z:Int):Frac :=
  (⟨(w64 (s.start+(w64 (s.slope * z)))),s.den⟩:Frac)
end
theorem zOh (s:straight) (z:Int) (K:List PA→Prop) (hk:K (zOg (zIx s z))):vcFun Try.prog zOe zBZ 102 [.agg (zah s),.one (.int .i64 z)] K :=
  zaD (by kernel_rfl) hk
def zvl : List PA → COut
  | [.agg [.int .i64 a0_slope,.int .i64 a0_start,.int .i64 a0_den],.one (.int .i64 a1)]=>.tot [.agg [.int .i64 ((zIx (⟨a0_slope,a0_start,a0_den⟩:straight) a1).Num),.int .i64 ((zIx (⟨a0_slope,a0_start,a0_den⟩:straight) a1).Den)]]
  | _=>.no
theorem zDE:zaf Try.prog 102:=⟨_,rfl,rfl,by kernel_rfl⟩
theorem zLA:Ok Try.prog 102 zvl:=zaF zIw zDE fun args K h=>by
  unfold zvl at h
  split at h
  · rename_i a0_slope a0_start a0_den a1
    have hk:=h
    exact ⟨(fun _ _=>[]),(fun _=>false),zBZ,zOh (⟨a0_slope,a0_start,a0_den⟩:straight) a1 K hk⟩
  · exact h.elim
abbrev zNb:Tabs:=(Tabs.nil.addF 102 zvl)
theorem zIy:TabsOk Try.prog zNb:=(TabsOk.nil.addF zLA)
abbrev zOi:Ctrs:=csm zNb (fun _ _=>[]) (fun _=>false)
def zB0:Ann:=⟨7,[(0,zK [1,2,3] [2,3]),(1,zK [3] [3])],
 [],
 [],
 [],[]⟩
abbrev zOj:=Frac
abbrev zOk (r:zOj):List PA:=[.agg [.int .i64 r.Num,.int .i64 r.Den]]
section
variable {K:List PA→Prop} {c0:Int} {x:straight}
def zvm (c0:Int) (x:straight):Frac :=
  (zIx x c0)
end
theorem zOl (c0:Int) (x:straight) (K:List PA→Prop) (hk:K (zOk (zvm c0 x))):vcFun Try.prog zOi zB0 101 [.agg (zah x),.one (.fp (zaq c0) 0)] K :=
  zaD (by kernel_rfl) hk
def zvn : List PA → COut
  | [.agg [.int .i64 a0_slope,.int .i64 a0_start,.int .i64 a0_den],.one (.fp [.int .i64 c0] 0)]=>.tot [.agg [.int .i64 ((zvm c0 (⟨a0_slope,a0_start,a0_den⟩:straight)).Num),.int .i64 ((zvm c0 (⟨a0_slope,a0_start,a0_den⟩:straight)).Den)]]
  | _=>.no
theorem zDF:zaf Try.prog 101:=⟨_,rfl,rfl,by kernel_rfl⟩
theorem zLB:Ok Try.prog 101 zvn:=zaF zIy zDF fun args K h=>by
  unfold zvn at h
  split at h
  · rename_i a0_slope a0_start a0_den c0
    have hk:=h
    exact ⟨(fun _ _=>[]),(fun _=>false),zB0,zOl c0 (⟨a0_slope,a0_start,a0_den⟩:straight) K hk⟩
  · exact h.elim
abbrev zNc:Tabs:=Tabs.nil
theorem zIz:TabsOk Try.prog zNc:=TabsOk.nil
abbrev zOm:Ctrs:=csm zNc (fun _ _=>[]) (fun _=>false)
def zB1:Ann:=⟨6,[(0,zK [0] []),(1,zK [2] [])],
 [],
 [],
 [],[]⟩
abbrev zOn:=Bool
abbrev e120 (r:zOn):List PA:=[.one (.bool r)]
section
variable {K:List PA→Prop} {x:Int}
def zDG (x:Int):Bool :=
  (x != x)
end
theorem zOo (x:Int) (K:List PA→Prop) (hk:K (e120 (zDG x))):vcFun Try.prog zOm zB1 120 [.one (.int .i64 x)] K :=
  zaD (by kernel_rfl) hk
def zvo : List PA → COut
  | [.one (.int .i64 a0)]=>.tot [.one (.bool (zDG a0))]
  | _=>.no
theorem zDH:zaf Try.prog 120:=⟨_,rfl,rfl,by kernel_rfl⟩
theorem zLC:Ok Try.prog 120 zvo:=zaF zIz zDH fun args K h=>by
  unfold zvo at h
  split at h
  · rename_i a0
    have hk:=h
    exact ⟨(fun _ _=>[]),(fun _=>false),zB1,zOo a0 K hk⟩
  · exact h.elim
abbrev zNd:Tabs:=(Tabs.nil.addF 120 zvo)
theorem zIA:TabsOk Try.prog zNd:=(TabsOk.nil.addF zLC)
abbrev zOp:Ctrs:=csm zNd (fun _ _=>[]) (fun _=>false)
def zB2:Ann:=⟨20,[(0,zK [0,1] []),(1,zK [0,1,5] []),(2,zK [0,1,5,6] []),(3,zK [0,1,6,11] []),(4,zK [12] []),(5,zK [4] []),(6,zK [4] []),(7,zK [0,1,13] []),(8,zK [4] []),(9,zK [0,1,16] []),(10,zK [4] []),(11,zK [19] []),(12,zK [4] []),(13,zK [4] [])],
 [],
 [],
 [],[]⟩
abbrev zOq:=Int
abbrev zOr (r:zOq):List PA:=[.one (.int .i64 r)]
section
variable {K:List PA→Prop} {x:Int} {y_a1:Int}
def zDI (x:Int) (y_a1:Int):Int :=
  (cond (zDG x)
 (cond (zDG y_a1)
 (0:Int)
 (-1:Int))
 (cond (zDG y_a1)
 (1:Int)
 (cond (decide (x < y_a1))
 (-1:Int)
 (cond (decide (x > y_a1))
 (1:Int)
 (0:Int)))))
end
theorem zOs (x:Int) (y_a1:Int) (K:List PA→Prop) (hk:K (zOr (zDI x y_a1))):vcFun Try.prog zOp zB2 103 [.one (.int .i64 x),.one (.int .i64 y_a1)] K :=
  zaD (by kernel_rfl) (zt hk (fun hk=>(zt hk (fun hk=>hk) (fun hk=>hk))) (fun hk=>(zt hk (fun hk=>hk) (fun hk=>(zt hk (fun hk=>hk) (fun hk=>(zt hk (fun hk=>hk) (fun hk=>hk))))))))
def zvp : List PA → COut
  | [.one (.int .i64 a0),.one (.int .i64 a1)]=>.tot [.one (.int .i64 (zDI a0 a1))]
  | _=>.no
theorem zDJ:zaf Try.prog 103:=⟨_,rfl,rfl,by kernel_rfl⟩
theorem zLD:Ok Try.prog 103 zvp:=zaF zIA zDJ fun args K h=>by
  unfold zvp at h
  split at h
  · rename_i a0 a1
    have hk:=h
    exact ⟨(fun _ _=>[]),(fun _=>false),zB2,zOs a0 a1 K hk⟩
  · exact h.elim
abbrev T69:Tabs:=(Tabs.nil.addF 103 zvp)
theorem zLE:TabsOk Try.prog T69:=(TabsOk.nil.addF zLD)
abbrev G69:Ctrs:=csm T69 (fun _ _=>[]) (fun _=>false)
def zIB:Ann:=⟨16,[(0,zK [2,3] [2,3]),(1,zK [4] [])],
 [],
 [],
 [],[]⟩
abbrev R69:=Int
abbrev e69 (r:R69):List PA:=[.one (.int .i64 r)]
section
variable {K:List PA→Prop} {a:Frac} {b:Frac}
def s69 (a:Frac) (b:Frac):Int :=
  (zDI (w64 (a.Num * b.Den)) (w64 (b.Num * a.Den)))
end
theorem q69 (a:Frac) (b:Frac) (K:List PA→Prop) (hk:K (e69 (s69 a b))):vcFun Try.prog G69 zIB 69 [.agg (zad a),.agg (zad b)] K :=
  zaD (by kernel_rfl) hk
def ztz : List PA → COut
  | [.agg [.int .i64 a0_Num,.int .i64 a0_Den],.agg [.int .i64 a1_Num,.int .i64 a1_Den]]=>.tot [.one (.int .i64 (s69 (⟨a0_Num,a0_Den⟩:Frac) (⟨a1_Num,a1_Den⟩:Frac)))]
  | _=>.no
theorem zIC:zaf Try.prog 69:=⟨_,rfl,rfl,by kernel_rfl⟩
theorem zKW:Ok Try.prog 69 ztz:=zaF zLE zIC fun args K h=>by
  unfold ztz at h
  split at h
  · rename_i a0_Num a0_Den a1_Num a1_Den
    have hk:=h
    exact ⟨(fun _ _=>[]),(fun _=>false),zIB,q69 (⟨a0_Num,a0_Den⟩:Frac) (⟨a1_Num,a1_Den⟩:Frac) K hk⟩
  · exact h.elim
abbrev zNe:Tabs:=(Tabs.nil.addF 69 ztz)
theorem zID:TabsOk Try.prog zNe:=(TabsOk.nil.addF zKW)
abbrev zOt:Ctrs:=csm zNe (fun _ _=>[]) (fun _=>false)
def zB3:Ann:=⟨9,[(0,zK [2,3] [2,3]),(1,zK [4] [])],
 [],
 [],
 [],[]⟩
abbrev zOu:=Bool
abbrev zOv (r:zOu):List PA:=[.one (.bool r)]
section
variable {K:List PA→Prop} {a:Frac} {b:Frac}
def zAQ (a:Frac) (b:Frac):Bool :=
  (decide ((s69 a b) < (0:Int)))
end
theorem zOw (a:Frac) (b:Frac) (K:List PA→Prop) (hk:K (zOv (zAQ a b))):vcFun Try.prog zOt zB3 112 [.agg (zad a),.agg (zad b)] K :=
  zaD (by kernel_rfl) hk
def zvq : List PA → COut
  | [.agg [.int .i64 a0_Num,.int .i64 a0_Den],.agg [.int .i64 a1_Num,.int .i64 a1_Den]]=>.tot [.one (.bool (zAQ (⟨a0_Num,a0_Den⟩:Frac) (⟨a1_Num,a1_Den⟩:Frac)))]
  | _=>.no
theorem zDK:zaf Try.prog 112:=⟨_,rfl,rfl,by kernel_rfl⟩
theorem zLF:Ok Try.prog 112 zvq:=zaF zID zDK fun args K h=>by
  unfold zvq at h
  split at h
  · rename_i a0_Num a0_Den a1_Num a1_Den
    have hk:=h
    exact ⟨(fun _ _=>[]),(fun _=>false),zB3,zOw (⟨a0_Num,a0_Den⟩:Frac) (⟨a1_Num,a1_Den⟩:Frac) K hk⟩
  · exact h.elim
abbrev zNf:Tabs:=(Tabs.nil.addF 69 ztz)
theorem zIE:TabsOk Try.prog zNf:=(TabsOk.nil.addF zKW)
abbrev zOx:Ctrs:=csm zNf (fun _ _=>[]) (fun _=>false)
def zB4:Ann:=⟨9,[(0,zK [2,3] [2,3]),(1,zK [4] [])],
 [],
 [],
 [],[]⟩
abbrev zOy:=Bool
abbrev zOz (r:zOy):List PA:=[.one (.bool r)]
section
variable {K:List PA→Prop} {a:Frac} {b:Frac}
def zAR (a:Frac) (b:Frac):Bool :=
  (decide ((s69 a b) > (0:Int)))
end
theorem zOA (a:Frac) (b:Frac) (K:List PA→Prop) (hk:K (zOz (zAR a b))):vcFun Try.prog zOx zB4 113 [.agg (zad a),.agg (zad b)] K :=
  zaD (by kernel_rfl) hk
def zvr : List PA → COut
  | [.agg [.int .i64 a0_Num,.int .i64 a0_Den],.agg [.int .i64 a1_Num,.int .i64 a1_Den]]=>.tot [.one (.bool (zAR (⟨a0_Num,a0_Den⟩:Frac) (⟨a1_Num,a1_Den⟩:Frac)))]
  | _=>.no
theorem zDL:zaf Try.prog 113:=⟨_,rfl,rfl,by kernel_rfl⟩
theorem zLG:Ok Try.prog 113 zvr:=zaF zIE zDL fun args K h=>by
  unfold zvr at h
  split at h
  · rename_i a0_Num a0_Den a1_Num a1_Den
    have hk:=h
    exact ⟨(fun _ _=>[]),(fun _=>false),zB4,zOA (⟨a0_Num,a0_Den⟩:Frac) (⟨a1_Num,a1_Den⟩:Frac) K hk⟩
  · exact h.elim
abbrev zLH:Tabs:=((Tabs.nil.addF 112 zvq).addF 113 zvr)
theorem zIF:TabsOk Try.prog zLH:=((TabsOk.nil.addF zLF).addF zLG)
abbrev zNg:Ctrs:=csm zLH (fun _ _=>[]) (fun _=>false)
def zvs:Ann:=⟨25,[(0,zK [0,1,4] [4]),(1,zK [0,1,4,5] [4,5]),(2,zK [1,4,5,12,13,14] [4,5]),(3,zK [1,4,5,12,13,14,15] [4,5]),(4,zK [1,4,5,7,12,13,14] [4,5,7]),(5,zK [1,4,5,7,12,13,14,21] [4,5,7]),(6,zK [1,4,5,12,13,14] [4,5]),(7,zK [1,4,5,12,13,14] [4,5]),(8,zK [4] [4])],
 [(3,zK [1,4,5,12,13,14] [4,5])],
 [(6,zK [1,4,5,7,12,13,14,21] [4,5,7])],
 [],[]⟩
abbrev zOB:=Frac
abbrev zKX (r:zOB):List PA:=[.agg [.int .i64 r.Num,.int .i64 r.Den]]
@[irreducible] def z111:=ptF Try.prog zNg zvs Try.f111
def zvt (l_a0:(Sl Frac)) (zaQ:(Sl Frac)) (zai:Int) (zav:Int) (zaw:Int) (zce:Nat→List PV):St:=⟨[(1,zP (.fn 112 [] [])),(4,zp 4 0),(5,zp 5 0),(12,zP (.sl zaQ.len 2 zce)),(13,zI (((l_a0.len:Int) - (1:Int)).toNat:Int)),(14,zI zai)],[(4,.box 25 (zm (zad (⟨(0:Int),(0:Int)⟩:Frac)))),(5,.box 25 (zm (zad (⟨zav,zaw⟩:Frac))))],[]⟩
abbrev zvu (K:List PA→Prop) (l_a0:(Sl Frac)) (X:St→Prop) (P:(Sl Frac)→Int→Int→Int→Bool) (S:(Sl Frac)→Int→Int→Int→Frac):Prop:=∀ ⦃zaQ:(Sl Frac)⦄ ⦃zai:Int⦄ ⦃zav:Int⦄ ⦃zaw:Int⦄ ⦃zce:Nat→List PV⦄,P zaQ zai zav zaw=true→K (zKX (S zaQ zai zav zaw))→zce=zg zad zaQ→X (zvt l_a0 zaQ zai zav zaw zce)
section
variable {K:List PA→Prop} {l_a0:(Sl Frac)} {zaQ:(Sl Frac)} {zai:Int} {zav:Int} {zaw:Int} {zce:Nat→List PV} {X0:St→Prop} {P0:(Sl Frac)→Int→Int→Int→Bool} {S0:(Sl Frac)→Int→Int→Int→Frac} {zdU:(Sl Frac)} {zaY:Int} {zgg:Bool} {zcr:Int} {zcs:Int} {zgh:Int} {zgi:Int} {zjM:Nat→List PV}
def zl0 (S0:(Sl Frac)→Int→Int→Int→Frac) (l_a0:(Sl Frac)) (zdU:(Sl Frac)) (zaY:Int) (zgg:Bool) (zcr:Int) (zcs:Int) (zgh:Int) (zgi:Int):Frac :=
  (cond zgg
 (S0 zdU (w64 (zaY+(1:Int))) zgh zgi)
 (S0 zdU (w64 (zaY+(1:Int))) zcr zcs))
def zl1 (P0:(Sl Frac)→Int→Int→Int→Bool) (l_a0:(Sl Frac)) (zdU:(Sl Frac)) (zaY:Int) (zgg:Bool) (zcr:Int) (zcs:Int) (zgh:Int) (zgi:Int):Bool :=
  (cond zgg
 (P0 zdU (w64 (zaY+(1:Int))) zgh zgi)
 (P0 zdU (w64 (zaY+(1:Int))) zcr zcs))
theorem zAS (hX0:zvu K l_a0 X0 P0 S0) (hs:zl1 P0 l_a0 zdU zaY zgg zcr zcs zgh zgi=true) (hk:K (zKX (zl0 S0 l_a0 zdU zaY zgg zcr zcs zgh zgi))) (zo4:zjM=zg zad zdU):z111 K [1,1,0,1,0,0,1,1,0,0,1,1] [X0] ⟨[(1,zP (.fn 112 [] [])),(4,zp 4 0),(5,zp 5 0),(7,zp 7 0),(12,zP (.sl zdU.len 2 zjM)),(13,zI (((l_a0.len:Int) - (1:Int)).toNat:Int)),(14,zI zaY),(21,zB zgg)],[(4,.box 25 (zm (zad (⟨(0:Int),(0:Int)⟩:Frac)))),(5,.box 25 (zm (zad (⟨zcr,zcs⟩:Frac)))),(7,.box 25 (zm (zad (⟨zgh,zgi⟩:Frac))))],[]⟩:=by subst zo4;exact zaD (by kernel_rfl) (zc hs hk (fun hs hk=>(hX0 hs hk rfl)) (fun hs hk=>(hX0 hs hk rfl)))
def zfB (l_a0:(Sl Frac)) (S0:(Sl Frac)→Int→Int→Int→Frac) (zaQ:(Sl Frac)) (zai:Int) (zav:Int) (zaw:Int):Frac :=
  (cond (decide (zai < (((l_a0.len : Int) - (1:Int)).toNat : Int)))
 (zl0 S0 l_a0 zaQ zai (zAQ (zaQ.get zai.toNat) (⟨zav,zaw⟩:Frac)) zav zaw ((zaQ.get zai.toNat).Num) ((zaQ.get zai.toNat).Den))
 (⟨zav,zaw⟩:Frac))
def zfC (l_a0:(Sl Frac)) (P0:(Sl Frac)→Int→Int→Int→Bool) (zaQ:(Sl Frac)) (zai:Int) (zav:Int) (zaw:Int):Bool :=
  (cond (decide (zai < (((l_a0.len : Int) - (1:Int)).toNat : Int)))
 (decide ((0≤zai∧zai < (zaQ.len:Int))) &&
 (zl1 P0 l_a0 zaQ zai (zAQ (zaQ.get zai.toNat) (⟨zav,zaw⟩:Frac)) zav zaw ((zaQ.get zai.toNat).Num) ((zaQ.get zai.toNat).Den)))
 true)
def zfD (l_a0:(Sl Frac)):Nat→(Sl Frac)→Int→Int→Int→Frac:=lpO (fun _ _ _ _=>default) (zfB l_a0)
def zfE (l_a0:(Sl Frac)):Nat→(Sl Frac)→Int→Int→Int→Bool:=lpO (fun _ _ _ _=>false) (zfC l_a0)
def zr5 (l_a0:(Sl Frac)) (zaQ:(Sl Frac)) (zai:Int) (zav:Int) (zaw:Int):Frac:=zfD l_a0 Fuel zaQ zai zav zaw
def zr6 (l_a0:(Sl Frac)) (zaQ:(Sl Frac)) (zai:Int) (zav:Int) (zaw:Int):Bool:=zfE l_a0 Fuel zaQ zai zav zaw
theorem zAT (hs:zr6 l_a0 zaQ zai zav zaw=true) (hk:K (zKX (zr5 l_a0 zaQ zai zav zaw))) (zgj:zce=zg zad zaQ):z111 K [1,1,0,1,0] [] (zvt l_a0 zaQ zai zav zaw zce) :=
  zl (fun X=>z111 K [1,1,0,1,0,0] [X]) (by kernel_rfl) fun X0 hX =>
  (show ∀ k, zvu K l_a0 X0 (zfE l_a0 k) (zfD l_a0 k) from zer _ _ (zfC l_a0) (zfB l_a0) (zvu K l_a0 X0)
 (by intro _ _ _ _ _ hs;exact absurd hs Bool.false_ne_true)
 (by intro P0 S0 hX0 zaQ zai zav zaw zce hs hk zgj;subst zgj;exact hX _ (zaD (by kernel_rfl) (zc hs hk (fun hs hk=>(zay hs fun hc hs=>And.intro hc (zAS hX0 hs hk rfl))) (fun hs hk=>hk))))) _ hs hk zgj
def zo5 (l_a0:(Sl Frac)):Frac :=
  (zr5 l_a0 (⟨((l_a0.len:Int) - (1:Int)).toNat,(fun i=>l_a0.get (i+((1:Int).toNat)))⟩:Sl Frac) (0:Int) ((l_a0.get 0).Num) ((l_a0.get 0).Den))
def zHp (l_a0:(Sl Frac)):Bool :=
  (decide ((0≤(0:Int)∧(0:Int) < (l_a0.len:Int))) &&
 (decide ((0≤(1:Int)∧(1:Int)≤(l_a0.len:Int)∧(l_a0.len:Int)≤(l_a0.len:Int))) &&
 (zr6 l_a0 (⟨((l_a0.len:Int) - (1:Int)).toNat,(fun i=>l_a0.get (i+((1:Int).toNat)))⟩:Sl Frac) (0:Int) ((l_a0.get 0).Num) ((l_a0.get 0).Den))))
end
theorem zOC (l_a0:(Sl Frac)) (K:List PA→Prop) (hs:zHp l_a0=true) (hk:K (zKX (zo5 l_a0))):vcFun Try.prog zNg zvs 111 [.one (.sl l_a0.len 2 (fun i=>zad (l_a0.get i))),.one (.fn 112 [] [])] K :=
  zaD (by kernel_rfl) (zay hs fun hc hs=>And.intro hc (zay hs fun hc hs=>And.intro hc (zAT hs hk rfl)))
abbrev zIG:Ctrs:=csm zLH (fun _ _=>[]) (fun _=>false)
def zo6:Ann:=⟨25,[(0,zK [0,1,4] [4]),(1,zK [0,1,4,5] [4,5]),(2,zK [1,4,5,12,13,14] [4,5]),(3,zK [1,4,5,12,13,14,15] [4,5]),(4,zK [1,4,5,7,12,13,14] [4,5,7]),(5,zK [1,4,5,7,12,13,14,21] [4,5,7]),(6,zK [1,4,5,12,13,14] [4,5]),(7,zK [1,4,5,12,13,14] [4,5]),(8,zK [4] [4])],
 [(3,zK [1,4,5,12,13,14] [4,5])],
 [(6,zK [1,4,5,7,12,13,14,21] [4,5,7])],
 [],[]⟩
abbrev zLI:=Frac
abbrev zAU (r:zLI):List PA:=[.agg [.int .i64 r.Num,.int .i64 r.Den]]
@[irreducible] def z111a:=ptF Try.prog zIG zo6 Try.f111
def zr7 (l_a0:(Sl Frac)) (zaQ:(Sl Frac)) (zai:Int) (zav:Int) (zaw:Int) (zce:Nat→List PV):St:=⟨[(1,zP (.fn 113 [] [])),(4,zp 4 0),(5,zp 5 0),(12,zP (.sl zaQ.len 2 zce)),(13,zI (((l_a0.len:Int) - (1:Int)).toNat:Int)),(14,zI zai)],[(4,.box 25 (zm (zad (⟨(0:Int),(0:Int)⟩:Frac)))),(5,.box 25 (zm (zad (⟨zav,zaw⟩:Frac))))],[]⟩
abbrev zo7 (K:List PA→Prop) (l_a0:(Sl Frac)) (X:St→Prop) (P:(Sl Frac)→Int→Int→Int→Bool) (S:(Sl Frac)→Int→Int→Int→Frac):Prop:=∀ ⦃zaQ:(Sl Frac)⦄ ⦃zai:Int⦄ ⦃zav:Int⦄ ⦃zaw:Int⦄ ⦃zce:Nat→List PV⦄,P zaQ zai zav zaw=true→K (zAU (S zaQ zai zav zaw))→zce=zg zad zaQ→X (zr7 l_a0 zaQ zai zav zaw zce)
section
variable {K:List PA→Prop} {l_a0:(Sl Frac)} {zaQ:(Sl Frac)} {zai:Int} {zav:Int} {zaw:Int} {zce:Nat→List PV} {X0:St→Prop} {P0:(Sl Frac)→Int→Int→Int→Bool} {S0:(Sl Frac)→Int→Int→Int→Frac} {zdU:(Sl Frac)} {zaY:Int} {zgg:Bool} {zcr:Int} {zcs:Int} {zgh:Int} {zgi:Int} {zjM:Nat→List PV}
def zjN (S0:(Sl Frac)→Int→Int→Int→Frac) (l_a0:(Sl Frac)) (zdU:(Sl Frac)) (zaY:Int) (zgg:Bool) (zcr:Int) (zcs:Int) (zgh:Int) (zgi:Int):Frac :=
  (cond zgg
 (S0 zdU (w64 (zaY+(1:Int))) zgh zgi)
 (S0 zdU (w64 (zaY+(1:Int))) zcr zcs))
def zjO (P0:(Sl Frac)→Int→Int→Int→Bool) (l_a0:(Sl Frac)) (zdU:(Sl Frac)) (zaY:Int) (zgg:Bool) (zcr:Int) (zcs:Int) (zgh:Int) (zgi:Int):Bool :=
  (cond zgg
 (P0 zdU (w64 (zaY+(1:Int))) zgh zgi)
 (P0 zdU (w64 (zaY+(1:Int))) zcr zcs))
theorem zvv (hX0:zo7 K l_a0 X0 P0 S0) (hs:zjO P0 l_a0 zdU zaY zgg zcr zcs zgh zgi=true) (hk:K (zAU (zjN S0 l_a0 zdU zaY zgg zcr zcs zgh zgi))) (zo4:zjM=zg zad zdU):z111a K [1,1,0,1,0,0,1,1,0,0,1,1] [X0] ⟨[(1,zP (.fn 113 [] [])),(4,zp 4 0),(5,zp 5 0),(7,zp 7 0),(12,zP (.sl zdU.len 2 zjM)),(13,zI (((l_a0.len:Int) - (1:Int)).toNat:Int)),(14,zI zaY),(21,zB zgg)],[(4,.box 25 (zm (zad (⟨(0:Int),(0:Int)⟩:Frac)))),(5,.box 25 (zm (zad (⟨zcr,zcs⟩:Frac)))),(7,.box 25 (zm (zad (⟨zgh,zgi⟩:Frac))))],[]⟩:=by subst zo4;exact zaD (by kernel_rfl) (zc hs hk (fun hs hk=>(hX0 hs hk rfl)) (fun hs hk=>(hX0 hs hk rfl)))
def zd6 (l_a0:(Sl Frac)) (S0:(Sl Frac)→Int→Int→Int→Frac) (zaQ:(Sl Frac)) (zai:Int) (zav:Int) (zaw:Int):Frac :=
  (cond (decide (zai < (((l_a0.len : Int) - (1:Int)).toNat : Int)))
 (zjN S0 l_a0 zaQ zai (zAR (zaQ.get zai.toNat) (⟨zav,zaw⟩:Frac)) zav zaw ((zaQ.get zai.toNat).Num) ((zaQ.get zai.toNat).Den))
 (⟨zav,zaw⟩:Frac))
def zd7 (l_a0:(Sl Frac)) (P0:(Sl Frac)→Int→Int→Int→Bool) (zaQ:(Sl Frac)) (zai:Int) (zav:Int) (zaw:Int):Bool :=
  (cond (decide (zai < (((l_a0.len : Int) - (1:Int)).toNat : Int)))
 (decide ((0≤zai∧zai < (zaQ.len:Int))) &&
 (zjO P0 l_a0 zaQ zai (zAR (zaQ.get zai.toNat) (⟨zav,zaw⟩:Frac)) zav zaw ((zaQ.get zai.toNat).Num) ((zaQ.get zai.toNat).Den)))
 true)
def zd8 (l_a0:(Sl Frac)):Nat→(Sl Frac)→Int→Int→Int→Frac:=lpO (fun _ _ _ _=>default) (zd6 l_a0)
def zd9 (l_a0:(Sl Frac)):Nat→(Sl Frac)→Int→Int→Int→Bool:=lpO (fun _ _ _ _=>false) (zd7 l_a0)
def znT (l_a0:(Sl Frac)) (zaQ:(Sl Frac)) (zai:Int) (zav:Int) (zaw:Int):Frac:=zd8 l_a0 Fuel zaQ zai zav zaw
def znU (l_a0:(Sl Frac)) (zaQ:(Sl Frac)) (zai:Int) (zav:Int) (zaw:Int):Bool:=zd9 l_a0 Fuel zaQ zai zav zaw
theorem zvw (hs:znU l_a0 zaQ zai zav zaw=true) (hk:K (zAU (znT l_a0 zaQ zai zav zaw))) (zgj:zce=zg zad zaQ):z111a K [1,1,0,1,0] [] (zr7 l_a0 zaQ zai zav zaw zce) :=
  zl (fun X=>z111a K [1,1,0,1,0,0] [X]) (by kernel_rfl) fun X0 hX =>
  (show ∀ k, zo7 K l_a0 X0 (zd9 l_a0 k) (zd8 l_a0 k) from zer _ _ (zd7 l_a0) (zd6 l_a0) (zo7 K l_a0 X0)
 (by intro _ _ _ _ _ hs;exact absurd hs Bool.false_ne_true)
 (by intro P0 S0 hX0 zaQ zai zav zaw zce hs hk zgj;subst zgj;exact hX _ (zaD (by kernel_rfl) (zc hs hk (fun hs hk=>(zay hs fun hc hs=>And.intro hc (zvv hX0 hs hk rfl))) (fun hs hk=>hk))))) _ hs hk zgj
def s111a (l_a0:(Sl Frac)):Frac :=
  (znT l_a0 (⟨((l_a0.len:Int) - (1:Int)).toNat,(fun i=>l_a0.get (i+((1:Int).toNat)))⟩:Sl Frac) (0:Int) ((l_a0.get 0).Num) ((l_a0.get 0).Den))
def ztA (l_a0:(Sl Frac)):Bool :=
  (decide ((0≤(0:Int)∧(0:Int) < (l_a0.len:Int))) &&
 (decide ((0≤(1:Int)∧(1:Int)≤(l_a0.len:Int)∧(l_a0.len:Int)≤(l_a0.len:Int))) &&
 (znU l_a0 (⟨((l_a0.len:Int) - (1:Int)).toNat,(fun i=>l_a0.get (i+((1:Int).toNat)))⟩:Sl Frac) (0:Int) ((l_a0.get 0).Num) ((l_a0.get 0).Den))))
end
theorem zLJ (l_a0:(Sl Frac)) (K:List PA→Prop) (hs:ztA l_a0=true) (hk:K (zAU (s111a l_a0))):vcFun Try.prog zIG zo6 111 [.one (.sl l_a0.len 2 (fun i=>zad (l_a0.get i))),.one (.fn 113 [] [])] K :=
  zaD (by kernel_rfl) (zay hs fun hc hs=>And.intro hc (zay hs fun hc hs=>And.intro hc (zvw hs hk rfl)))
def zvx : List PA → COut
  | [.one (.sl a0_n a0_s a0_g),.one (.fn 112 [] [])]=>.det (IsE zad 2 a0_s a0_g∧zHp (⟨a0_n,zge a0_g⟩:(Sl Frac))=true) [.agg [.int .i64 ((zo5 (⟨a0_n,zge a0_g⟩:(Sl Frac))).Num),.int .i64 ((zo5 (⟨a0_n,zge a0_g⟩:(Sl Frac))).Den)]]
  | [.one (.sl a0_n a0_s a0_g),.one (.fn 113 [] [])]=>.det (IsE zad 2 a0_s a0_g∧ztA (⟨a0_n,zge a0_g⟩:(Sl Frac))=true) [.agg [.int .i64 ((s111a (⟨a0_n,zge a0_g⟩:(Sl Frac))).Num),.int .i64 ((s111a (⟨a0_n,zge a0_g⟩:(Sl Frac))).Den)]]
  | _=>.no
theorem zDM:zaf Try.prog 111:=⟨_,rfl,rfl,by kernel_rfl⟩
theorem zLK:Ok Try.prog 111 zvx:=zaF zIF zDM fun args K h=>by
  unfold zvx at h
  split at h
  · rename_i a0_n a0_s a0_g
    obtain ⟨⟨⟨rfl,a0_f,rfl⟩,hs⟩,hk⟩:=h
    try rw [zes a0_f] at hs
    try rw [zes a0_f] at hk
    exact ⟨(fun _ _=>[]),(fun _=>false),zvs,zOC (⟨a0_n,a0_f⟩:(Sl Frac)) K hs hk⟩
  · rename_i a0_n a0_s a0_g
    obtain ⟨⟨⟨rfl,a0_f,rfl⟩,hs⟩,hk⟩:=h
    try rw [zes a0_f] at hs
    try rw [zes a0_f] at hk
    exact ⟨(fun _ _=>[]),(fun _=>false),zo6,zLJ (⟨a0_n,a0_f⟩:(Sl Frac)) K hs hk⟩
  · exact h.elim
abbrev T82:Tabs:=((((Tabs.nil.addF 83 zDD).addF 89 zty).addF 101 zvn).addF 111 zvx)
theorem zLL:TabsOk Try.prog T82:=((((TabsOk.nil.addF zOd).addF zKV).addF zLB).addF zLK)
abbrev G82:Ctrs:=csm T82 (fun _ _=>[]) (fun _=>false)
def zDN:Ann:=⟨39,[(0,zK [1,2,4,5] [2,4,5]),(1,zK [1,2,4,5,6] [2,4,5]),(2,zK [1,4,5,6,12,13,14] [4,5]),(3,zK [1,4,5,6,12,13,14,15] [4,5,23]),(4,zK [1,4,5,6,8,12,13,14] [4,5,8,23]),(5,zK [1,4,5,6,12,13,14] [4,5,23]),(6,zK [1,4,5,6,12,13,14] [4,5,23]),(7,zK [4,5,6,9] [4,5,9,23]),(8,zK [4,5,9,10] [4,5,9,10]),(9,zK [4,5] [4,5])],
 [(3,⟨[1,4,5,6,12,13,14],[4,5,23],[(6,23,25,fun _=>zad default)],[],[],[],[]⟩)],
 [(7,zK [4,5,6] [4,5,23]),(8,zK [4,5,6,9] [4,5,9,23]),(9,zK [4,5,9,10] [4,5,9,10])],
 [],[]⟩
abbrev R82:=(Frac×Frac)
abbrev e82 (r:R82):List PA:=[.agg [.int .i64 r.1.Num,.int .i64 r.1.Den],.agg [.int .i64 r.2.Num,.int .i64 r.2.Den]]
@[irreducible] def z82:=ptF Try.prog G82 zDN Try.f82
def zB5 (c0:Int) (s:set) (zai:Int) (za8:(Sl Frac)) (zcf:Nat→List PV):St:=⟨[(1,zP (.fn 101 [] [.fp (zaq c0) 0])),(4,zp 4 0),(5,zp 5 0),(6,zv 23),(12,zS zah 3 s.corners),(13,zI (s.corners.len:Int)),(14,zI zai)],[(4,.box 25 (zm (zad (⟨(0:Int),(0:Int)⟩:Frac)))),(5,.box 25 (zm (zad (⟨(0:Int),(0:Int)⟩:Frac)))),(23,.vec 25 2 16 za8.len zcf)],[]⟩
abbrev zIH (K:List PA→Prop) (c0:Int) (s:set) (X:St→Prop) (P:Int→(Sl Frac)→Bool) (S:Int→(Sl Frac)→(Frac×Frac)):Prop:=∀ ⦃zai:Int⦄ ⦃za8:(Sl Frac)⦄ ⦃zcf:Nat→List PV⦄,P zai za8=true→K (e82 (S zai za8))→zcf=zg zad za8→X (zB5 c0 s zai za8 zcf)
section
variable {K:List PA→Prop} {c0:Int} {s:set} {zai:Int} {za8:(Sl Frac)} {zcf:Nat→List PV} {X0:St→Prop} {P0:Int→(Sl Frac)→Bool} {S0:Int→(Sl Frac)→(Frac×Frac)} {zcH:(Sl Frac)} {zjP:Nat→List PV} {za9:Int} {zba:Int} {zda:(Sl Frac)} {zjQ:Nat→List PV} {zbW:Int} {zbX:Int}
def zo8 (za9:Int) (zba:Int) (zbW:Int) (zbX:Int):(Frac×Frac) :=
  ((s89 za9 zba),(s89 zbW zbX))
def zo9 (za9:Int) (zba:Int) (zbW:Int) (zbX:Int):Bool :=
  (decide ((p89 za9 zba=true)) &&
 (decide ((p89 zbW zbX=true)) &&
 true))
theorem zDO (hs:zo9 za9 zba zbW zbX=true) (hk:K (e82 (zo8 za9 zba zbW zbX))):z82 K [1,1,1,1,1] [] ⟨[(4,zp 4 0),(5,zp 5 0),(9,zp 9 0),(10,zp 10 0)],[(4,.box 25 (zm (zad (⟨(0:Int),(0:Int)⟩:Frac)))),(5,.box 25 (zm (zad (⟨(0:Int),(0:Int)⟩:Frac)))),(9,.box 25 (zm (zad (⟨za9,zba⟩:Frac)))),(10,.box 25 (zm (zad (⟨zbW,zbX⟩:Frac))))],[]⟩:=zaD (by kernel_rfl) (zay hs fun hc hs=>And.intro hc (zay hs fun hc hs=>And.intro hc hk))
def zpa (za9:Int) (zba:Int) (zda:(Sl Frac)):(Frac×Frac) :=
  (zo8 za9 zba ((s111a zda).Num) ((s111a zda).Den))
def zpb (za9:Int) (zba:Int) (zda:(Sl Frac)):Bool :=
  (decide ((ztA zda=true)) &&
 (zo9 za9 zba ((s111a zda).Num) ((s111a zda).Den)))
theorem zDP (hs:zpb za9 zba zda=true) (hk:K (e82 (zpa za9 zba zda))) (zpc:zjQ=zg zad zda):z82 K [1,1,1,1] [] ⟨[(4,zp 4 0),(5,zp 5 0),(6,zv 23),(9,zp 9 0)],[(4,.box 25 (zm (zad (⟨(0:Int),(0:Int)⟩:Frac)))),(5,.box 25 (zm (zad (⟨(0:Int),(0:Int)⟩:Frac)))),(9,.box 25 (zm (zad (⟨za9,zba⟩:Frac)))),(23,.vec 25 2 16 zda.len zjQ)],[]⟩:=by subst zpc;exact zaD (by kernel_rfl) (zay hs fun hc hs=>And.intro (And.intro (zE zad 2 zda.get) hc) (zDO hs hk))
def zeu (zcH:(Sl Frac)):(Frac×Frac) :=
  (zpa ((zo5 zcH).Num) ((zo5 zcH).Den) zcH)
def zl2 (zcH:(Sl Frac)):Bool :=
  (decide ((zHp zcH=true)) &&
 (zpb ((zo5 zcH).Num) ((zo5 zcH).Den) zcH))
theorem zDQ (hs:zl2 zcH=true) (hk:K (e82 (zeu zcH))) (zpd:zjP=zg zad zcH):z82 K [1,1,1] [] ⟨[(4,zp 4 0),(5,zp 5 0),(6,zv 23)],[(4,.box 25 (zm (zad (⟨(0:Int),(0:Int)⟩:Frac)))),(5,.box 25 (zm (zad (⟨(0:Int),(0:Int)⟩:Frac)))),(23,.vec 25 2 16 zcH.len zjP)],[]⟩:=by subst zpd;exact zaD (by kernel_rfl) (zay hs fun hc hs=>And.intro (And.intro (zE zad 2 zcH.get) hc) (zDP hs hk rfl))
def zht (c0:Int) (s:set) (S0:Int→(Sl Frac)→(Frac×Frac)) (zai:Int) (za8:(Sl Frac)):(Frac×Frac) :=
  (cond (decide (zai < (s.corners.len : Int)))
 (S0 (w64 (zai+(1:Int))) (⟨(za8.len+1),(zdT za8.len za8.get (fun _=>(zvm c0 (s.corners.get zai.toNat))))⟩:Sl Frac))
 (zeu za8))
def zhu (c0:Int) (s:set) (P0:Int→(Sl Frac)→Bool) (zai:Int) (za8:(Sl Frac)):Bool :=
  (cond (decide (zai < (s.corners.len : Int)))
 (decide ((0≤zai∧zai < (s.corners.len:Int))) &&
 (decide (((za8.len+1) * 16≤140737488355328∧za8.len+1≤9223372036854775807)) &&
 (P0 (w64 (zai+(1:Int))) (⟨(za8.len+1),(zdT za8.len za8.get (fun _=>(zvm c0 (s.corners.get zai.toNat))))⟩:Sl Frac))))
 (zl2 za8))
def zhv (c0:Int) (s:set):Nat→Int→(Sl Frac)→(Frac×Frac):=lpO (fun _ _=>default) (zht c0 s)
def zhw (c0:Int) (s:set):Nat→Int→(Sl Frac)→Bool:=lpO (fun _ _=>false) (zhu c0 s)
def zvy (c0:Int) (s:set) (zai:Int) (za8:(Sl Frac)):(Frac×Frac):=zhv c0 s Fuel zai za8
def zvz (c0:Int) (s:set) (zai:Int) (za8:(Sl Frac)):Bool:=zhw c0 s Fuel zai za8
theorem zDR (hs:zvz c0 s zai za8=true) (hk:K (e82 (zvy c0 s zai za8))) (zgk:zcf=zg zad za8):z82 K [1,1,0,1,0] [] (zB5 c0 s zai za8 zcf) :=
  zl (fun X=>z82 K [1,1,0,1,0,0] [X]) (by kernel_rfl) fun X0 hX =>
  (show ∀ k, zIH K c0 s X0 (zhw c0 s k) (zhv c0 s k) from zer _ _ (zhu c0 s) (zht c0 s) (zIH K c0 s X0)
 (by intro _ _ _ hs;exact absurd hs Bool.false_ne_true)
 (by intro P0 S0 hX0 zai za8 zcf hs hk zgk;subst zgk;exact hX _ (zaD (by kernel_rfl) (zc hs hk (fun hs hk=>(zay hs fun hc hs=>And.intro hc (zay hs fun hc hs=>And.intro hc (hX0 hs hk (zeP (enc:=zad) (f:=za8.get) (h:=(fun _=>(zvm c0 (s.corners.get zai.toNat)))) rfl rfl))))) (fun hs hk=>(zDQ hs hk rfl)))))) _ hs hk zgk
def s82 (c0:Int) (s:set):(Frac×Frac) :=
  (zvy c0 s (0:Int) (⟨0,(fun _=>default)⟩:Sl Frac))
def p82 (c0:Int) (s:set):Bool :=
  (zvz c0 s (0:Int) (⟨0,(fun _=>default)⟩:Sl Frac))
end
theorem q82 (c0:Int) (s:set) (K:List PA→Prop) (hs:p82 c0 s=true) (hk:K (e82 (s82 c0 s))):vcFun Try.prog G82 zDN 82 [.agg (za2 s),.one (.fn 101 [] [.fp (zaq c0) 0])] K :=
  zaD (by kernel_rfl) (zDR hs hk rfl)
abbrev zNh:Ctrs:=csm T82 (fun _ _=>[]) (fun _=>false)
def zvA:Ann:=⟨39,[(0,zK [1,2,4,5] [2,4,5]),(1,zK [1,2,4,5,6] [2,4,5]),(2,zK [1,4,5,6,12,13,14] [4,5]),(3,zK [1,4,5,6,12,13,14,15] [4,5,23]),(4,zK [1,4,5,6,8,12,13,14] [4,5,8,23]),(5,zK [1,4,5,6,12,13,14] [4,5,23]),(6,zK [1,4,5,6,12,13,14] [4,5,23]),(7,zK [4,5,6,9] [4,5,9,23]),(8,zK [4,5,9,10] [4,5,9,10]),(9,zK [4,5] [4,5])],
 [(3,⟨[1,4,5,6,12,13,14],[4,5,23],[(6,23,25,fun _=>zad default)],[],[],[],[]⟩)],
 [(7,zK [4,5,6] [4,5,23]),(8,zK [4,5,6,9] [4,5,9,23]),(9,zK [4,5,9,10] [4,5,9,10])],
 [],[]⟩
abbrev zOD:=(Frac×Frac)
abbrev zHq (r:zOD):List PA:=[.agg [.int .i64 r.1.Num,.int .i64 r.1.Den],.agg [.int .i64 r.2.Num,.int .i64 r.2.Den]]
@[irreducible] def z82a:=ptF Try.prog zNh zvA Try.f82
def zvB (s:set) (zai:Int) (za8:(Sl Frac)) (zcf:Nat→List PV):St:=⟨[(1,zP (.fn 83 [] [])),(4,zp 4 0),(5,zp 5 0),(6,zv 23),(12,zS zah 3 s.corners),(13,zI (s.corners.len:Int)),(14,zI zai)],[(4,.box 25 (zm (zad (⟨(0:Int),(0:Int)⟩:Frac)))),(5,.box 25 (zm (zad (⟨(0:Int),(0:Int)⟩:Frac)))),(23,.vec 25 2 16 za8.len zcf)],[]⟩
abbrev zB6 (K:List PA→Prop) (s:set) (X:St→Prop) (P:Int→(Sl Frac)→Bool) (S:Int→(Sl Frac)→(Frac×Frac)):Prop:=∀ ⦃zai:Int⦄ ⦃za8:(Sl Frac)⦄ ⦃zcf:Nat→List PV⦄,P zai za8=true→K (zHq (S zai za8))→zcf=zg zad za8→X (zvB s zai za8 zcf)
section
variable {K:List PA→Prop} {s:set} {zai:Int} {za8:(Sl Frac)} {zcf:Nat→List PV} {X0:St→Prop} {P0:Int→(Sl Frac)→Bool} {S0:Int→(Sl Frac)→(Frac×Frac)} {zcH:(Sl Frac)} {zjP:Nat→List PV} {za9:Int} {zba:Int} {zda:(Sl Frac)} {zjQ:Nat→List PV} {zbW:Int} {zbX:Int}
def zr8 (za9:Int) (zba:Int) (zbW:Int) (zbX:Int):(Frac×Frac) :=
  ((s89 za9 zba),(s89 zbW zbX))
def zr9 (za9:Int) (zba:Int) (zbW:Int) (zbX:Int):Bool :=
  (decide ((p89 za9 zba=true)) &&
 (decide ((p89 zbW zbX=true)) &&
 true))
theorem zAV (hs:zr9 za9 zba zbW zbX=true) (hk:K (zHq (zr8 za9 zba zbW zbX))):z82a K [1,1,1,1,1] [] ⟨[(4,zp 4 0),(5,zp 5 0),(9,zp 9 0),(10,zp 10 0)],[(4,.box 25 (zm (zad (⟨(0:Int),(0:Int)⟩:Frac)))),(5,.box 25 (zm (zad (⟨(0:Int),(0:Int)⟩:Frac)))),(9,.box 25 (zm (zad (⟨za9,zba⟩:Frac)))),(10,.box 25 (zm (zad (⟨zbW,zbX⟩:Frac))))],[]⟩:=zaD (by kernel_rfl) (zay hs fun hc hs=>And.intro hc (zay hs fun hc hs=>And.intro hc hk))
def zsa (za9:Int) (zba:Int) (zda:(Sl Frac)):(Frac×Frac) :=
  (zr8 za9 zba ((s111a zda).Num) ((s111a zda).Den))
def zsb (za9:Int) (zba:Int) (zda:(Sl Frac)):Bool :=
  (decide ((ztA zda=true)) &&
 (zr9 za9 zba ((s111a zda).Num) ((s111a zda).Den)))
theorem zAW (hs:zsb za9 zba zda=true) (hk:K (zHq (zsa za9 zba zda))) (zpc:zjQ=zg zad zda):z82a K [1,1,1,1] [] ⟨[(4,zp 4 0),(5,zp 5 0),(6,zv 23),(9,zp 9 0)],[(4,.box 25 (zm (zad (⟨(0:Int),(0:Int)⟩:Frac)))),(5,.box 25 (zm (zad (⟨(0:Int),(0:Int)⟩:Frac)))),(9,.box 25 (zm (zad (⟨za9,zba⟩:Frac)))),(23,.vec 25 2 16 zda.len zjQ)],[]⟩:=by subst zpc;exact zaD (by kernel_rfl) (zay hs fun hc hs=>And.intro (And.intro (zE zad 2 zda.get) hc) (zAV hs hk))
def zsc (zcH:(Sl Frac)):(Frac×Frac) :=
  (zsa ((zo5 zcH).Num) ((zo5 zcH).Den) zcH)
def zsd (zcH:(Sl Frac)):Bool :=
  (decide ((zHp zcH=true)) &&
 (zsb ((zo5 zcH).Num) ((zo5 zcH).Den) zcH))
theorem zAX (hs:zsd zcH=true) (hk:K (zHq (zsc zcH))) (zpd:zjP=zg zad zcH):z82a K [1,1,1] [] ⟨[(4,zp 4 0),(5,zp 5 0),(6,zv 23)],[(4,.box 25 (zm (zad (⟨(0:Int),(0:Int)⟩:Frac)))),(5,.box 25 (zm (zad (⟨(0:Int),(0:Int)⟩:Frac)))),(23,.vec 25 2 16 zcH.len zjP)],[]⟩:=by subst zpd;exact zaD (by kernel_rfl) (zay hs fun hc hs=>And.intro (And.intro (zE zad 2 zcH.get) hc) (zAW hs hk rfl))
def zfF (s:set) (S0:Int→(Sl Frac)→(Frac×Frac)) (zai:Int) (za8:(Sl Frac)):(Frac×Frac) :=
  (cond (decide (zai < (s.corners.len : Int)))
 (S0 (w64 (zai+(1:Int))) (⟨(za8.len+1),(zdT za8.len za8.get (fun _=>(s83 (s.corners.get zai.toNat))))⟩:Sl Frac))
 (zsc za8))
def zfG (s:set) (P0:Int→(Sl Frac)→Bool) (zai:Int) (za8:(Sl Frac)):Bool :=
  (cond (decide (zai < (s.corners.len : Int)))
 (decide ((0≤zai∧zai < (s.corners.len:Int))) &&
 (decide (((za8.len+1) * 16≤140737488355328∧za8.len+1≤9223372036854775807)) &&
 (P0 (w64 (zai+(1:Int))) (⟨(za8.len+1),(zdT za8.len za8.get (fun _=>(s83 (s.corners.get zai.toNat))))⟩:Sl Frac))))
 (zsd za8))
def zfH (s:set):Nat→Int→(Sl Frac)→(Frac×Frac):=lpO (fun _ _=>default) (zfF s)
def zfI (s:set):Nat→Int→(Sl Frac)→Bool:=lpO (fun _ _=>false) (zfG s)
def zse (s:set) (zai:Int) (za8:(Sl Frac)):(Frac×Frac):=zfH s Fuel zai za8
def zsf (s:set) (zai:Int) (za8:(Sl Frac)):Bool:=zfI s Fuel zai za8
theorem zAY (hs:zsf s zai za8=true) (hk:K (zHq (zse s zai za8))) (zgk:zcf=zg zad za8):z82a K [1,1,0,1,0] [] (zvB s zai za8 zcf) :=
  zl (fun X=>z82a K [1,1,0,1,0,0] [X]) (by kernel_rfl) fun X0 hX =>
  (show ∀ k, zB6 K s X0 (zfI s k) (zfH s k) from zer _ _ (zfG s) (zfF s) (zB6 K s X0)
 (by intro _ _ _ hs;exact absurd hs Bool.false_ne_true)
 (by intro P0 S0 hX0 zai za8 zcf hs hk zgk;subst zgk;exact hX _ (zaD (by kernel_rfl) (zc hs hk (fun hs hk=>(zay hs fun hc hs=>And.intro hc (zay hs fun hc hs=>And.intro hc (hX0 hs hk (zeP (enc:=zad) (f:=za8.get) (h:=(fun _=>(s83 (s.corners.get zai.toNat)))) rfl rfl))))) (fun hs hk=>(zAX hs hk rfl)))))) _ hs hk zgk
def ztB (s:set):(Frac×Frac) :=
  (zse s (0:Int) (⟨0,(fun _=>default)⟩:Sl Frac))
def zHr (s:set):Bool :=
  (zsf s (0:Int) (⟨0,(fun _=>default)⟩:Sl Frac))
end
theorem zOE (s:set) (K:List PA→Prop) (hs:zHr s=true) (hk:K (zHq (ztB s))):vcFun Try.prog zNh zvA 82 [.agg (za2 s),.one (.fn 83 [] [])] K :=
  zaD (by kernel_rfl) (zAY hs hk rfl)
def zAZ : List PA → COut
  | [.agg [.sl a0_list_Gates_n a0_list_Gates_s a0_list_Gates_g,.sl a0_corners_n a0_corners_s a0_corners_g],.one (.fn 101 [] [.fp [.int .i64 c0] 0])]=>.det (IsE enc_55 3 a0_list_Gates_s a0_list_Gates_g∧IsE zah 3 a0_corners_s a0_corners_g∧p82 c0 (⟨(⟨(⟨a0_list_Gates_n,zae a0_list_Gates_g⟩:(Sl Gate))⟩:list),(⟨a0_corners_n,zaZ a0_corners_g⟩:(Sl straight))⟩:set)=true) [.agg [.int .i64 (((s82 c0 (⟨(⟨(⟨a0_list_Gates_n,zae a0_list_Gates_g⟩:(Sl Gate))⟩:list),(⟨a0_corners_n,zaZ a0_corners_g⟩:(Sl straight))⟩:set)).1).Num),.int .i64 (((s82 c0 (⟨(⟨(⟨a0_list_Gates_n,zae a0_list_Gates_g⟩:(Sl Gate))⟩:list),(⟨a0_corners_n,zaZ a0_corners_g⟩:(Sl straight))⟩:set)).1).Den)],.agg [.int .i64 (((s82 c0 (⟨(⟨(⟨a0_list_Gates_n,zae a0_list_Gates_g⟩:(Sl Gate))⟩:list),(⟨a0_corners_n,zaZ a0_corners_g⟩:(Sl straight))⟩:set)).2).Num),.int .i64 (((s82 c0 (⟨(⟨(⟨a0_list_Gates_n,zae a0_list_Gates_g⟩:(Sl Gate))⟩:list),(⟨a0_corners_n,zaZ a0_corners_g⟩:(Sl straight))⟩:set)).2).Den)]]
  | [.agg [.sl a0_list_Gates_n a0_list_Gates_s a0_list_Gates_g,.sl a0_corners_n a0_corners_s a0_corners_g],.one (.fn 83 [] [])]=>.det (IsE enc_55 3 a0_list_Gates_s a0_list_Gates_g∧IsE zah 3 a0_corners_s a0_corners_g∧zHr (⟨(⟨(⟨a0_list_Gates_n,zae a0_list_Gates_g⟩:(Sl Gate))⟩:list),(⟨a0_corners_n,zaZ a0_corners_g⟩:(Sl straight))⟩:set)=true) [.agg [.int .i64 (((ztB (⟨(⟨(⟨a0_list_Gates_n,zae a0_list_Gates_g⟩:(Sl Gate))⟩:list),(⟨a0_corners_n,zaZ a0_corners_g⟩:(Sl straight))⟩:set)).1).Num),.int .i64 (((ztB (⟨(⟨(⟨a0_list_Gates_n,zae a0_list_Gates_g⟩:(Sl Gate))⟩:list),(⟨a0_corners_n,zaZ a0_corners_g⟩:(Sl straight))⟩:set)).1).Den)],.agg [.int .i64 (((ztB (⟨(⟨(⟨a0_list_Gates_n,zae a0_list_Gates_g⟩:(Sl Gate))⟩:list),(⟨a0_corners_n,zaZ a0_corners_g⟩:(Sl straight))⟩:set)).2).Num),.int .i64 (((ztB (⟨(⟨(⟨a0_list_Gates_n,zae a0_list_Gates_g⟩:(Sl Gate))⟩:list),(⟨a0_corners_n,zaZ a0_corners_g⟩:(Sl straight))⟩:set)).2).Den)]]
  | _=>.no
theorem zII:zaf Try.prog 82:=⟨_,rfl,rfl,by kernel_rfl⟩
theorem zNi:Ok Try.prog 82 zAZ:=zaF zLL zII fun args K h=>by
  unfold zAZ at h
  split at h
  · rename_i a0_list_Gates_n a0_list_Gates_s a0_list_Gates_g a0_corners_n a0_corners_s a0_corners_g c0
    obtain ⟨⟨⟨rfl,a0_list_Gates_f,rfl⟩,⟨rfl,a0_corners_f,rfl⟩,hs⟩,hk⟩:=h
    try rw [zac a0_list_Gates_f] at hs
    try rw [zac a0_list_Gates_f] at hk
    try rw [zaS a0_corners_f] at hs
    try rw [zaS a0_corners_f] at hk
    exact ⟨(fun _ _=>[]),(fun _=>false),zDN,q82 c0 (⟨(⟨(⟨a0_list_Gates_n,a0_list_Gates_f⟩:(Sl Gate))⟩:list),(⟨a0_corners_n,a0_corners_f⟩:(Sl straight))⟩:set) K hs hk⟩
  · rename_i a0_list_Gates_n a0_list_Gates_s a0_list_Gates_g a0_corners_n a0_corners_s a0_corners_g
    obtain ⟨⟨⟨rfl,a0_list_Gates_f,rfl⟩,⟨rfl,a0_corners_f,rfl⟩,hs⟩,hk⟩:=h
    try rw [zac a0_list_Gates_f] at hs
    try rw [zac a0_list_Gates_f] at hk
    try rw [zaS a0_corners_f] at hs
    try rw [zaS a0_corners_f] at hk
    exact ⟨(fun _ _=>[]),(fun _=>false),zvA,zOE (⟨(⟨(⟨a0_list_Gates_n,a0_list_Gates_f⟩:(Sl Gate))⟩:list),(⟨a0_corners_n,a0_corners_f⟩:(Sl straight))⟩:set) K hs hk⟩
  · exact h.elim
abbrev T68:Tabs:=((((Tabs.nil.addF 67 zo3).addF 82 zAZ).addF 89 zty).addF 98 zAP)
theorem zLM:TabsOk Try.prog T68:=((((TabsOk.nil.addF zIo).addF zNi).addF zKV).addF zM9)
abbrev G68:Ctrs:=csm T68 (fun _ _=>[]) (fun _=>false)
def zIJ:Ann:=⟨24,[(0,zK [2,3,4,5] [2,3,4,5]),(1,zK [2,3,4,5,9] [2,3,4,5]),(2,zK [4,5,6] [4,5,6]),(3,zK [4,5] [4,5]),(4,zK [4,5] [4,5])],
 [],
 [],
 [],[]⟩
abbrev R68:=(Frac×Frac)
abbrev e68 (r:R68):List PA:=[.agg [.int .i64 r.1.Num,.int .i64 r.1.Den],.agg [.int .i64 r.2.Num,.int .i64 r.2.Den]]
section
variable {K:List PA→Prop} {s:set} {z:Int}
def s68 (s:set) (z:Int):(Frac×Frac) :=
  (cond (s67 s.list)
 ((s89 ((s98 s.list).Low) (1:Int)),(s89 ((s98 s.list).High) (1:Int)))
 (((s82 z s).1),((s82 z s).2)))
def p68 (s:set) (z:Int):Bool :=
  (decide ((p67 s.list=true)) &&
 (cond (s67 s.list)
 (decide ((p98 s.list=true)) &&
 (decide ((p89 ((s98 s.list).Low) (1:Int)=true)) &&
 (decide ((p89 ((s98 s.list).High) (1:Int)=true)) &&
 true)))
 (decide ((p82 z s=true)) &&
 true)))
end
theorem q68 (s:set) (z:Int) (K:List PA→Prop) (hs:p68 s z=true) (hk:K (e68 (s68 s z))):vcFun Try.prog G68 zIJ 68 [.agg (za2 s),.one (.int .i64 z)] K :=
  zaD (by kernel_rfl) (zay hs fun hc hs=>And.intro (And.intro (zE enc_55 3 s.list.Gates.get) hc) (zc hs hk (fun hs hk=>(zay hs fun hc hs=>And.intro (And.intro (zE enc_55 3 s.list.Gates.get) hc) (zay hs fun hc hs=>And.intro hc (zay hs fun hc hs=>And.intro hc hk)))) (fun hs hk=>(zay hs fun hc hs=>And.intro (And.intro (zE enc_55 3 s.list.Gates.get) (And.intro (zE zah 3 s.corners.get) hc)) hk))))
def zA0 : List PA → COut
  | [.agg [.sl a0_list_Gates_n a0_list_Gates_s a0_list_Gates_g,.sl a0_corners_n a0_corners_s a0_corners_g],.one (.int .i64 a1)]=>.det (IsE enc_55 3 a0_list_Gates_s a0_list_Gates_g∧IsE zah 3 a0_corners_s a0_corners_g∧p68 (⟨(⟨(⟨a0_list_Gates_n,zae a0_list_Gates_g⟩:(Sl Gate))⟩:list),(⟨a0_corners_n,zaZ a0_corners_g⟩:(Sl straight))⟩:set) a1=true) [.agg [.int .i64 (((s68 (⟨(⟨(⟨a0_list_Gates_n,zae a0_list_Gates_g⟩:(Sl Gate))⟩:list),(⟨a0_corners_n,zaZ a0_corners_g⟩:(Sl straight))⟩:set) a1).1).Num),.int .i64 (((s68 (⟨(⟨(⟨a0_list_Gates_n,zae a0_list_Gates_g⟩:(Sl Gate))⟩:list),(⟨a0_corners_n,zaZ a0_corners_g⟩:(Sl straight))⟩:set) a1).1).Den)],.agg [.int .i64 (((s68 (⟨(⟨(⟨a0_list_Gates_n,zae a0_list_Gates_g⟩:(Sl Gate))⟩:list),(⟨a0_corners_n,zaZ a0_corners_g⟩:(Sl straight))⟩:set) a1).2).Num),.int .i64 (((s68 (⟨(⟨(⟨a0_list_Gates_n,zae a0_list_Gates_g⟩:(Sl Gate))⟩:list),(⟨a0_corners_n,zaZ a0_corners_g⟩:(Sl straight))⟩:set) a1).2).Den)]]
  | _=>.no
theorem zIK:zaf Try.prog 68:=⟨_,rfl,rfl,by kernel_rfl⟩
theorem zNj:Ok Try.prog 68 zA0:=zaF zLM zIK fun args K h=>by
  unfold zA0 at h
  split at h
  · rename_i a0_list_Gates_n a0_list_Gates_s a0_list_Gates_g a0_corners_n a0_corners_s a0_corners_g a1
    obtain ⟨⟨⟨rfl,a0_list_Gates_f,rfl⟩,⟨rfl,a0_corners_f,rfl⟩,hs⟩,hk⟩:=h
    try rw [zac a0_list_Gates_f] at hs
    try rw [zac a0_list_Gates_f] at hk
    try rw [zaS a0_corners_f] at hs
    try rw [zaS a0_corners_f] at hk
    exact ⟨(fun _ _=>[]),(fun _=>false),zIJ,q68 (⟨(⟨(⟨a0_list_Gates_n,a0_list_Gates_f⟩:(Sl Gate))⟩:list),(⟨a0_corners_n,a0_corners_f⟩:(Sl straight))⟩:set) a1 K hs hk⟩
  · exact h.elim
abbrev T87:Tabs:=(Tabs.nil.addF 74 zoY)
theorem zLN:TabsOk Try.prog T87:=(TabsOk.nil.addF zIa)
abbrev G87:Ctrs:=csm T87 (fun _ _=>[]) (fun _=>false)
def zIL:Ann:=⟨23,[(0,zK [1] [1]),(1,zK [2] [])],
 [],
 [],
 [],[]⟩
abbrev R87:=Bool
abbrev e87 (r:R87):List PA:=[.one (.bool r)]
section
variable {K:List PA→Prop} {g:Gate}
def s87 (g:Gate):Bool :=
  (cond (s74 g.Z (0:Int) (100000:Int))
 (cond (decide (g.Low ≥ (-1000000:Int)))
 (cond (decide (g.Low ≤ g.High))
 (decide (g.High≤(1000000:Int)))
 false)
 false)
 false)
end
theorem q87 (g:Gate) (K:List PA→Prop) (hk:K (e87 (s87 g))):vcFun Try.prog G87 zIL 87 [.agg (enc_55 g)] K :=
  zaD (by kernel_rfl) (zt hk (fun hk=>(zt hk (fun hk=>(zt hk (fun hk=>hk) (fun hk=>hk))) (fun hk=>hk))) (fun hk=>hk))
def zDS : List PA → COut
  | [.agg [.int .i64 a0_Z,.int .i64 a0_Low,.int .i64 a0_High]]=>.tot [.one (.bool (s87 (⟨a0_Z,a0_Low,a0_High⟩:Gate)))]
  | _=>.no
theorem zIM:zaf Try.prog 87:=⟨_,rfl,rfl,by kernel_rfl⟩
theorem zOF:Ok Try.prog 87 zDS:=zaF zLN zIM fun args K h=>by
  unfold zDS at h
  split at h
  · rename_i a0_Z a0_Low a0_High
    have hk:=h
    exact ⟨(fun _ _=>[]),(fun _=>false),zIL,q87 (⟨a0_Z,a0_Low,a0_High⟩:Gate) K hk⟩
  · exact h.elim
abbrev T64:Tabs:=((Tabs.nil.addF 74 zoY).addF 87 zDS)
theorem zLO:TabsOk Try.prog T64:=((TabsOk.nil.addF zIa).addF zOF)
abbrev G64:Ctrs:=csm T64 (fun _ _=>[]) (fun _=>false)
def zDT:Ann:=⟨18,[(0,zK [0] []),(1,zK [0,5,6,7] []),(2,zK [0,5,6,7,8] []),(3,zK [0,4,5,6,7] [4]),(4,zK [0,5,6,7,13] []),(5,zK [2] []),(6,zK [0,5,6,7] []),(7,zK [2] [])],
 [(2,zK [0,5,6,7] [])],
 [(5,zK [0,5,6,7,13] [])],
 [],[]⟩
abbrev R64:=Bool
abbrev e64 (r:R64):List PA:=[.one (.bool r)]
@[irreducible] def z64:=ptF Try.prog G64 zDT Try.f64
def zB7 (zaa:(Sl Gate)) (za3:Int):St:=⟨[(0,zS enc_55 3 zaa),(5,zS enc_55 3 zaa),(6,zI (zaa.len:Int)),(7,zI za3)],[],[]⟩
abbrev zDU (K:List PA→Prop) (zaa:(Sl Gate)) (X:St→Prop) (P:Int→Bool) (S:Int→Bool):Prop:=∀ ⦃za3:Int⦄,P za3=true→K (e64 (S za3))→X (zB7 zaa za3)
section
variable {K:List PA→Prop} {zaa:(Sl Gate)} {za3:Int} {X0:St→Prop} {P0:Int→Bool} {S0:Int→Bool} {zgf:Int} {zpe:Bool}
def zpf (S0:Int→Bool) (zaa:(Sl Gate)) (zgf:Int) (zpe:Bool):Bool :=
  (cond zpe
 false
 (S0 (w64 (zgf+(1:Int)))))
def zpg (P0:Int→Bool) (zaa:(Sl Gate)) (zgf:Int) (zpe:Bool):Bool :=
  (cond zpe
 true
 (P0 (w64 (zgf+(1:Int)))))
theorem zDV (hX0:zDU K zaa X0 P0 S0) (hs:zpg P0 zaa zgf zpe=true) (hk:K (e64 (zpf S0 zaa zgf zpe))):z64 K [1,0,1,0,0,1,1,0,0,1,1] [X0] ⟨[(0,zS enc_55 3 zaa),(5,zS enc_55 3 zaa),(6,zI (zaa.len:Int)),(7,zI zgf),(13,zB zpe)],[],[]⟩:=zaD (by kernel_rfl) (zc hs hk (fun hs hk=>hk) (fun hs hk=>(hX0 hs hk)))
def zhx (zaa:(Sl Gate)) (S0:Int→Bool) (za3:Int):Bool :=
  (cond (decide (za3 < (zaa.len : Int)))
 (zpf S0 zaa za3 (!(s87 (zaa.get za3.toNat))))
 (s74 (zaa.len:Int) (1:Int) (24:Int)))
def zhy (zaa:(Sl Gate)) (P0:Int→Bool) (za3:Int):Bool :=
  (cond (decide (za3 < (zaa.len : Int)))
 (decide ((0≤za3∧za3 < (zaa.len:Int))) &&
 (zpg P0 zaa za3 (!(s87 (zaa.get za3.toNat)))))
 true)
def zhz (zaa:(Sl Gate)):Nat→Int→Bool:=lpO (fun _=>default) (zhx zaa)
def zhA (zaa:(Sl Gate)):Nat→Int→Bool:=lpO (fun _=>false) (zhy zaa)
def zvC (zaa:(Sl Gate)) (za3:Int):Bool:=zhz zaa Fuel za3
def zvD (zaa:(Sl Gate)) (za3:Int):Bool:=zhA zaa Fuel za3
theorem zDW (hs:zvD zaa za3=true) (hk:K (e64 (zvC zaa za3))):z64 K [1,0,1,0] [] (zB7 zaa za3) :=
  zl (fun X=>z64 K [1,0,1,0,0] [X]) (by kernel_rfl) fun X0 hX =>
  (show ∀ k, zDU K zaa X0 (zhA zaa k) (zhz zaa k) from zer _ _ (zhy zaa) (zhx zaa) (zDU K zaa X0)
 (by intro _ hs;exact absurd hs Bool.false_ne_true)
 (by intro P0 S0 hX0 za3 hs hk;exact hX _ (zaD (by kernel_rfl) (zc hs hk (fun hs hk=>(zay hs fun hc hs=>And.intro hc (zDV hX0 hs hk))) (fun hs hk=>hk))))) _ hs hk
def s64 (zaa:(Sl Gate)):Bool :=
  (zvC zaa (0:Int))
def p64 (zaa:(Sl Gate)):Bool :=
  (zvD zaa (0:Int))
end
theorem q64 (zaa:(Sl Gate)) (K:List PA→Prop) (hs:p64 zaa=true) (hk:K (e64 (s64 zaa))):vcFun Try.prog G64 zDT 64 [.one (.sl zaa.len 3 (fun i=>enc_55 (zaa.get i)))] K :=
  zaD (by kernel_rfl) (zDW hs hk)
def ztC : List PA → COut
  | [.one (.sl a0_n a0_s a0_g)]=>.det (IsE enc_55 3 a0_s a0_g∧p64 (⟨a0_n,zae a0_g⟩:(Sl Gate))=true) [.one (.bool (s64 (⟨a0_n,zae a0_g⟩:(Sl Gate))))]
  | _=>.no
theorem zIN:zaf Try.prog 64:=⟨_,rfl,rfl,by kernel_rfl⟩
theorem zKY:Ok Try.prog 64 ztC:=zaF zLO zIN fun args K h=>by
  unfold ztC at h
  split at h
  · rename_i a0_n a0_s a0_g
    obtain ⟨⟨⟨rfl,a0_f,rfl⟩,hs⟩,hk⟩:=h
    try rw [zac a0_f] at hs
    try rw [zac a0_f] at hk
    exact ⟨(fun _ _=>[]),(fun _=>false),zDT,q64 (⟨a0_n,a0_f⟩:(Sl Gate)) K hs hk⟩
  · exact h.elim
abbrev T79:Tabs:=(Tabs.nil.addF 89 zty)
theorem zLP:TabsOk Try.prog T79:=(TabsOk.nil.addF zKV)
abbrev G79:Ctrs:=csm T79 (fun _ _=>[]) (fun _=>false)
def zIO:Ann:=⟨14,[(0,zK [1,2] [1,2]),(1,zK [2] [2])],
 [],
 [],
 [],[]⟩
abbrev R79:=Line
abbrev e79 (r:R79):List PA:=[.agg [.int .i64 r.Slope.Num,.int .i64 r.Slope.Den,.int .i64 r.Start.Num,.int .i64 r.Start.Den]]
section
variable {K:List PA→Prop} {s:straight}
def s79 (s:straight):Line :=
  (⟨(s89 s.slope s.den),(s89 s.start s.den)⟩:Line)
def p79 (s:straight):Bool :=
  (decide ((p89 s.slope s.den=true)) &&
 (decide ((p89 s.start s.den=true)) &&
 true))
end
theorem q79 (s:straight) (K:List PA→Prop) (hs:p79 s=true) (hk:K (e79 (s79 s))):vcFun Try.prog G79 zIO 79 [.agg (zah s)] K :=
  zaD (by kernel_rfl) (zay hs fun hc hs=>And.intro hc (zay hs fun hc hs=>And.intro hc hk))
def zA1 : List PA → COut
  | [.agg [.int .i64 a0_slope,.int .i64 a0_start,.int .i64 a0_den]]=>.det (p79 (⟨a0_slope,a0_start,a0_den⟩:straight)=true) [.agg [.int .i64 ((s79 (⟨a0_slope,a0_start,a0_den⟩:straight)).Slope.Num),.int .i64 ((s79 (⟨a0_slope,a0_start,a0_den⟩:straight)).Slope.Den),.int .i64 ((s79 (⟨a0_slope,a0_start,a0_den⟩:straight)).Start.Num),.int .i64 ((s79 (⟨a0_slope,a0_start,a0_den⟩:straight)).Start.Den)]]
  | _=>.no
theorem zIP:zaf Try.prog 79:=⟨_,rfl,rfl,by kernel_rfl⟩
theorem zNk:Ok Try.prog 79 zA1:=zaF zLP zIP fun args K h=>by
  unfold zA1 at h
  split at h
  · rename_i a0_slope a0_start a0_den
    obtain ⟨hs,hk⟩:=h
    exact ⟨(fun _ _=>[]),(fun _=>false),zIO,q79 (⟨a0_slope,a0_start,a0_den⟩:straight) K hs hk⟩
  · exact h.elim
abbrev T96:Tabs:=Tabs.nil
theorem zLQ:TabsOk Try.prog T96:=TabsOk.nil
abbrev G96:Ctrs:=csm T96 (fun _ _=>[]) (fun _=>false)
def zDX:Ann:=⟨4,[(0,⟨[1],[1],[],[],[],[],[]⟩),(1,⟨[2],[],[],[],[],[],[]⟩)],
 [],
 [],
 [],[]⟩
theorem zDY (l_a0 : list) (K : List PA → Prop) :
  vcFun Try.prog G96 zDX 96 [.agg [.sl l_a0.Gates.len 3 (fun i=>enc_55 (l_a0.Gates.get i))]] K =
  (K [.one (.fn 115 [] [.fp (zb3 l_a0) 0])]):=by kernel_rfl
theorem q96 (l_a0:list) (K:List PA→Prop) (hk:K [.one (.fn 115 [] [.fp (zb3 l_a0) 0])]):vcFun Try.prog G96 zDX 96 [.agg [.sl l_a0.Gates.len 3 (fun i=>enc_55 (l_a0.Gates.get i))]] K:=zaD (zDY l_a0 K) hk
def zDZ : List PA → COut
  | [.agg [.sl a0_Gates_n a0_Gates_s a0_Gates_g]]=>.det (IsE enc_55 3 a0_Gates_s a0_Gates_g) [.one (.fn 115 [] [.fp (zb3 (⟨(⟨a0_Gates_n,zae a0_Gates_g⟩:(Sl Gate))⟩:list)) 0])]
  | _=>.no
theorem zIQ:zaf Try.prog 96:=⟨_,rfl,rfl,by kernel_rfl⟩
theorem zOG:Ok Try.prog 96 zDZ:=zaF zLQ zIQ fun args K h=>by
  unfold zDZ at h
  split at h
  · rename_i a0_Gates_n a0_Gates_s a0_Gates_g
    obtain ⟨⟨rfl,a0_Gates_f,rfl⟩,hk⟩:=h
    try rw [zac a0_Gates_f] at hk
    exact ⟨fun _ _=>[],fun _=>false,zDX,q96 (⟨(⟨a0_Gates_n,a0_Gates_f⟩:(Sl Gate))⟩:list) K hk⟩
  · exact h.elim
abbrev T97:Tabs:=(Tabs.nil.addF 99 zvf)
theorem zLR:TabsOk Try.prog T97:=(TabsOk.nil.addF zLt)
abbrev G97:Ctrs:=csm T97 (fun _ _=>[]) (fun _=>false)
def zD0:Ann:=⟨11,[(0,zK [2,3] [2,3]),(1,zK [4] [])],
 [],
 [],
 [],[]⟩
abbrev R97:=Bool
abbrev e97 (r:R97):List PA:=[.one (.bool r)]
section
variable {K:List PA→Prop} {s:set} {x:straight}
def s97 (s:set) (x:straight):Bool :=
  (!(zKS x s.list.Gates))
def p97 (s:set) (x:straight):Bool :=
  (decide ((zKT x s.list.Gates=true)) &&
 true)
end
theorem q97 (s:set) (x:straight) (K:List PA→Prop) (hs:p97 s x=true) (hk:K (e97 (s97 s x))):vcFun Try.prog G97 zD0 97 [.agg (za2 s),.agg (zah x)] K :=
  zaD (by kernel_rfl) (zay hs fun hc hs=>And.intro (And.intro (zE enc_55 3 s.list.Gates.get) hc) hk)
def zD1 : List PA → COut
  | [.agg [.sl a0_list_Gates_n a0_list_Gates_s a0_list_Gates_g,.sl a0_corners_n a0_corners_s a0_corners_g],.agg [.int .i64 a1_slope,.int .i64 a1_start,.int .i64 a1_den]]=>.det (IsE enc_55 3 a0_list_Gates_s a0_list_Gates_g∧IsE zah 3 a0_corners_s a0_corners_g∧p97 (⟨(⟨(⟨a0_list_Gates_n,zae a0_list_Gates_g⟩:(Sl Gate))⟩:list),(⟨a0_corners_n,zaZ a0_corners_g⟩:(Sl straight))⟩:set) (⟨a1_slope,a1_start,a1_den⟩:straight)=true) [.one (.bool (s97 (⟨(⟨(⟨a0_list_Gates_n,zae a0_list_Gates_g⟩:(Sl Gate))⟩:list),(⟨a0_corners_n,zaZ a0_corners_g⟩:(Sl straight))⟩:set) (⟨a1_slope,a1_start,a1_den⟩:straight)))]
  | [.agg [.sl a0_list_Gates_n a0_list_Gates_s a0_list_Gates_g,.nils],.agg [.int .i64 a1_slope,.int .i64 a1_start,.int .i64 a1_den]]=>.det (IsE enc_55 3 a0_list_Gates_s a0_list_Gates_g∧p97 (⟨(⟨(⟨a0_list_Gates_n,zae a0_list_Gates_g⟩:(Sl Gate))⟩:list),(⟨0,fun _=>default⟩:(Sl straight))⟩:set) (⟨a1_slope,a1_start,a1_den⟩:straight)=true) [.one (.bool (s97 (⟨(⟨(⟨a0_list_Gates_n,zae a0_list_Gates_g⟩:(Sl Gate))⟩:list),(⟨0,fun _=>default⟩:(Sl straight))⟩:set) (⟨a1_slope,a1_start,a1_den⟩:straight)))]
  | _=>.no
theorem zIR:zaf Try.prog 97:=⟨_,rfl,rfl,by kernel_rfl⟩
theorem zOH:Ok Try.prog 97 zD1:=zhn zLR zIR fun args K h=>by
  unfold zD1 at h
  split at h
  · rename_i a0_list_Gates_n a0_list_Gates_s a0_list_Gates_g a0_corners_n a0_corners_s a0_corners_g a1_slope a1_start a1_den
    obtain ⟨⟨⟨rfl,a0_list_Gates_f,rfl⟩,⟨rfl,a0_corners_f,rfl⟩,hs⟩,hk⟩:=h
    try rw [zac a0_list_Gates_f] at hs
    try rw [zac a0_list_Gates_f] at hk
    try rw [zaS a0_corners_f] at hs
    try rw [zaS a0_corners_f] at hk
    exact ⟨_,ze0 zf0 _,(fun _ _=>[]),(fun _=>false),zD0,q97 (⟨(⟨(⟨a0_list_Gates_n,a0_list_Gates_f⟩:(Sl Gate))⟩:list),(⟨a0_corners_n,a0_corners_f⟩:(Sl straight))⟩:set) (⟨a1_slope,a1_start,a1_den⟩:straight) (Wk K) hs (zd5 hk)⟩
  · rename_i a0_list_Gates_n a0_list_Gates_s a0_list_Gates_g a1_slope a1_start a1_den
    obtain ⟨⟨⟨rfl,a0_list_Gates_f,rfl⟩,hs⟩,hk⟩:=h
    try rw [zac a0_list_Gates_f] at hs
    try rw [zac a0_list_Gates_f] at hk
    exact ⟨_,(zc7 (.agg (zc7 (.rfl _) (zc7 (.nil _ _) zhm))) (zc7 (zf0 _) zhm)),(fun _ _=>[]),(fun _=>false),zD0,q97 (⟨(⟨(⟨a0_list_Gates_n,a0_list_Gates_f⟩:(Sl Gate))⟩:list),(⟨0,fun _=>default⟩:(Sl straight))⟩:set) (⟨a1_slope,a1_start,a1_den⟩:straight) (Wk K) hs (zd5 hk)⟩
  · exact h.elim
abbrev zNl:Tabs:=Tabs.nil
theorem zIS:TabsOk Try.prog zNl:=TabsOk.nil
abbrev zNm:Ctrs:=csm zNl (fun _ _=>[]) (fun _=>false)
def zvE:Ann:=⟨30,[(0,zK [0,1,2,3,8] [8]),(1,zK [0,1,2,3,8,11] [8]),(2,zK [0,1,2,3,8] [8]),(3,zK [8] [8])],
 [],
 [(3,zK [0,1,2,3,8] [8])],
 [],[]⟩
abbrev zOI:=straight
abbrev e116 (r:zOI):List PA:=[.agg [.int .i64 r.slope,.int .i64 r.start,.int .i64 r.den]]
@[irreducible] def z116:=ptF Try.prog zNm zvE Try.f116
section
variable {K:List PA→Prop} {z:Int} {p:Int} {y_a2:Int} {q:Int} {zv0:Int} {pv0:Int} {yv0:Int} {qv0:Int}
def ziU (zv0:Int) (pv0:Int) (yv0:Int) (qv0:Int):straight :=
  (⟨(w64 (qv0 - pv0)),(w64 ((w64 (pv0 * yv0)) - (w64 (qv0 * zv0)))),(w64 (yv0 - zv0))⟩:straight)
theorem zsg (hk:K (e116 (ziU zv0 pv0 yv0 qv0))):z116 K [1,1] [] ⟨[(0,zI zv0),(1,zI pv0),(2,zI yv0),(3,zI qv0),(8,zp 8 0)],[(8,.box 118 (zm (zah (⟨(0:Int),(0:Int),(0:Int)⟩:straight))))],[]⟩:=zaD (by kernel_rfl) hk
def zkD (z:Int) (p:Int) (y_a2:Int) (q:Int):straight :=
  (cond (decide (z > y_a2))
 (ziU y_a2 q z p)
 (ziU z p y_a2 q))
end
theorem zOJ (z:Int) (p:Int) (y_a2:Int) (q:Int) (K:List PA→Prop) (hk:K (e116 (zkD z p y_a2 q))):vcFun Try.prog zNm zvE 116 [.one (.int .i64 z),.one (.int .i64 p),.one (.int .i64 y_a2),.one (.int .i64 q)] K :=
  zaD (by kernel_rfl) (zt hk (fun hk=>(zsg hk)) (fun hk=>(zsg hk)))
def zvF : List PA → COut
  | [.one (.int .i64 a0),.one (.int .i64 a1),.one (.int .i64 a2),.one (.int .i64 a3)]=>.tot [.agg [.int .i64 ((zkD a0 a1 a2 a3).slope),.int .i64 ((zkD a0 a1 a2 a3).start),.int .i64 ((zkD a0 a1 a2 a3).den)]]
  | _=>.no
theorem zD2:zaf Try.prog 116:=⟨_,rfl,rfl,by kernel_rfl⟩
theorem zLS:Ok Try.prog 116 zvF:=zaF zIS zD2 fun args K h=>by
  unfold zvF at h
  split at h
  · rename_i a0 a1 a2 a3
    have hk:=h
    exact ⟨(fun _ _=>[]),(fun _=>false),zvE,zOJ a0 a1 a2 a3 K hk⟩
  · exact h.elim
abbrev zNn:Tabs:=(Tabs.nil.addF 116 zvF)
theorem zIT:TabsOk Try.prog zNn:=(TabsOk.nil.addF zLS)
abbrev zvG:Ctrs:=csm zNn (fun _ _=>[]) (fun _=>false)
def zb2:Ann:=⟨64,[(0,⟨[0,1,12,13,14],[],[],[],[],[],[]⟩),(1,⟨[0,1,12,13,14,15],[],[],[],[],[],[]⟩),(2,⟨[0,1,3,4,12,13,14],[4],[],[],[],[],[]⟩),(3,⟨[0,1,4,12,13,14,23,24,25],[4],[],[],[],[],[]⟩),(4,⟨[0,1,4,12,13,14,23,24,25,26],[4],[],[],[],[],[]⟩),(5,⟨[0,1,4,6,12,13,14,23,24,25],[4,6],[],[],[],[],[]⟩),(6,⟨[0,1,4,6,12,13,14,23,24,25,33],[4,6],[],[],[],[],[]⟩),(7,⟨[0,1,4,6,12,13,14,23,24,25,38,39],[4,6],[],[],[],[],[]⟩),(8,⟨[0,1,4,6,12,13,14,23,24,25,38,39,40],[4,6],[],[],[],[],[]⟩),(9,⟨[0,1,4,6,8,12,13,14,23,24,25,38,39],[4,6],[],[],[],[],[]⟩),(10,⟨[0,1,4,6,8,12,13,14,23,24,25,38,39,46,47],[4,6],[],[],[],[],[]⟩),(11,⟨[0,1,4,6,8,12,13,14,23,24,25,38,39,46,47,48],[4,6],[],[],[],[],[]⟩),(12,⟨[0,1,4,6,8,10,12,13,14,23,24,25,38,39,46,47],[4,6],[],[],[],[],[]⟩),(13,⟨[0,1,4,6,8,12,13,14,23,24,25,38,39,46,47,59],[4,6],[],[],[],[],[]⟩),(14,⟨[0,1,4,6,8,12,13,14,23,24,25,38,39,46,47],[4,6],[],[],[],[],[]⟩),(15,⟨[0,1,4,6,12,13,14,23,24,25,38,39],[4,6],[],[],[],[],[]⟩),(16,⟨[0,1,4,12,13,14,23,24,25],[4],[],[],[],[],[]⟩),(17,⟨[0,1,12,13,14],[],[],[],[],[],[]⟩)],
 [(1,⟨[0,1,12,13,14],[],[],[],[],[],[]⟩),(4,⟨[0,1,4,12,13,14,23,24,25],[4],[],[],[],[4],[]⟩)],
 [],
 [(8,3,⟨[0,1,4,6,12,13,14,23,24,25,38,39],[4,6],[],[],[],[],[]⟩),(11,3,⟨[0,1,4,6,8,12,13,14,23,24,25,38,39,46,47],[4,6],[],[],[],[],[]⟩)],[13]⟩
def ze1 (l:Nat) (a:list) (zai:Int):St:=⟨[(0,.one (.c (.p (.yl l)))),(1,.one (.c (.p (.fp (zb3 a) 0)))),(12,.one (.c (.p (.sl a.Gates.len 3 (fun i=>enc_55 (a.Gates.get i)))))),(13,.one (.c (.p (.int .i64 (a.Gates.len:Int))))),(14,.one (.c (.p (.int .i64 zai))))],[],[]⟩
def zg1 (l:Nat) (ys:List (List PA)) (a:list) (zai:Int):Prop:=vcY Try.prog zvG zb2 l (cdF Try.f115 [1,0]) (zc1 0 zkI) ys false (ze1 l a zai)
def ze2 (l:Nat) (a:list) (zaY:Int) (ze3:Nat) (zb4:Nat→List PV) (zbx:Int) (zaJ:Int) (zam:Int) (zax:Int) (zbl:Int):St:=⟨[(0,.one (.c (.p (.yl l)))),(1,.one (.c (.p (.fp (zb3 a) 0)))),(4,.one (.c (.ptr 4 0))),(12,.one (.c (.p (.sl a.Gates.len 3 (fun i=>enc_55 (a.Gates.get i)))))),(13,.one (.c (.p (.int .i64 (a.Gates.len:Int))))),(14,.one (.c (.p (.int .i64 zaY)))),(23,.one (.c (.p (.sl ze3 3 zb4)))),(24,.one (.c (.p (.int .i64 zbx)))),(25,.one (.c (.p (.int .i64 zaJ))))],[(4,.fbox [.int .i64 zam,.int .i64 zax,.int .i64 zbl])],[]⟩
def zg2 (l:Nat) (X0:List (List PA)→Bool→St→Prop) (ys:List (List PA)) (a:list) (zaY:Int) (ze3:Nat) (zb4:Nat→List PV) (zbx:Int) (zaJ:Int) (zam:Int) (zax:Int) (zbl:Int):Prop:=vcY Try.prog zvG zb2 l (cdF Try.f115 [1,0,0,1,1,0,0,1,1,0]) (zc1 2 (zc1 1 (zHC (zHE Try.prog zb2 17 (vcY Try.prog zvG zb2 l (cdF Try.f115 [1,0,0,1,1,1]) (ziz Try.prog zb2 1 X0 (zc1 0 zkI)))) (ziz Try.prog zb2 1 X0 (zc1 0 zkI))))) ys false (ze2 l a zaY ze3 zb4 zbx zaJ zam zax zbl)
theorem zA2 (l : Nat) (a : list) (ys : List (List PA)) :
  vcIter Try.prog zvG zb2 115 l [.one (.fp (zb3 a) 0)] ys =
  (zg1 l ys a (0:Int)):=by kernel_rfl
def zlh (l:Nat) (X0:List (List PA)→Bool→St→Prop) (ys:List (List PA)) (a:list) (zai:Int):Prop :=
  (zc0 (decide (zai < (a.Gates.len : Int)))
 (((0≤zai∧zai < (a.Gates.len:Int))) ∧
 (((0≤(w64 (zai+(1:Int)))∧(w64 (zai+(1:Int)))≤(a.Gates.len:Int)∧(a.Gates.len:Int)≤(a.Gates.len:Int))) ∧
 (zg2 l  X0 ys a zai (((a.Gates.len:Int) - (w64 (zai+(1:Int)))).toNat) (slG (fun i=>enc_55 (a.Gates.get i)) ((w64 (zai+(1:Int))).toNat)) (((a.Gates.len:Int) - (w64 (zai+(1:Int)))).toNat:Int) (0:Int) ((a.Gates.get zai.toNat).Z) ((a.Gates.get zai.toNat).Low) ((a.Gates.get zai.toNat).High))))
 (ys=[]))
theorem znV (l : Nat) (X0 : List (List PA) → Bool → St → Prop) (ys : List (List PA)) (a : list) (zai : Int) :
  vcY Try.prog zvG zb2 l (cd (cdF Try.f115 [1,0]) [0]) (ziz Try.prog zb2 1 X0 (zc1 0 zkI)) ys false (ze1 l a zai) =
  zlh l X0 ys a zai:=by kernel_rfl
theorem ztD (l : Nat) (ys : List (List PA)) (a : list) (zai : Int)
  (h:∀ X0:List (List PA)→Bool→St→Prop,(∀ (ys:List (List PA)) (zai:Int),zlh l X0 ys a zai→X0 ys false (ze1 l a zai))→X0 ys false (ze1 l a zai)) :
  zg1 l ys a zai:=by
  have e:zg1 l ys a zai=(∀ X:List (List PA)→Bool→St→Prop,(∀ ys q s,vcY Try.prog zvG zb2 l (cd (cdF Try.f115 [1,0]) [0]) (ziz Try.prog zb2 1 X (zc1 0 zkI)) ys q s→X ys q s)→X ys false (ze1 l a zai)):=by kernel_rfl
  refine zaD e ?_
  intro X hX
  refine h X ?_
  intro ys zai hs
  refine hX _ _ _ ?_
  have e2:=znV l X ys a zai
  rw [e2]
  exact hs
def zli (l:Nat) (X0:List (List PA)→Bool→St→Prop) (X1:List (List PA)→Bool→St→Prop) (ys:List (List PA)) (a:list) (zaY:Int) (zaO:(Sl Gate)) (zbx:Int) (zaJ:Int) (zam:Int) (zax:Int) (zbl:Int):Prop :=
  (zc0 (decide (zaJ < zbx))
 (((0≤zaJ∧zaJ < (zaO.len:Int))) ∧
 (zc0 (zam == (zaO.get zaJ.toNat).Z)
 (X1 ys false (ze2 l a zaY zaO.len (fun i=>enc_55 (zaO.get i)) zbx (w64 (zaJ+(1:Int))) zam zax zbl))
 (l=l∧∃ r1,ys=[.agg [.int .i64 ((zkD zam zax ((zaO.get zaJ.toNat).Z) ((zaO.get zaJ.toNat).Low)).slope),.int .i64 ((zkD zam zax ((zaO.get zaJ.toNat).Z) ((zaO.get zaJ.toNat).Low)).start),.int .i64 ((zkD zam zax ((zaO.get zaJ.toNat).Z) ((zaO.get zaJ.toNat).Low)).den)]] :: r1 ∧
 (l=l∧∃ r2,r1=[.agg [.int .i64 ((zkD zam zax ((zaO.get zaJ.toNat).Z) ((zaO.get zaJ.toNat).High)).slope),.int .i64 ((zkD zam zax ((zaO.get zaJ.toNat).Z) ((zaO.get zaJ.toNat).High)).start),.int .i64 ((zkD zam zax ((zaO.get zaJ.toNat).Z) ((zaO.get zaJ.toNat).High)).den)]] :: r2 ∧
 (l=l∧∃ r3,r2=[.agg [.int .i64 ((zkD zam zbl ((zaO.get zaJ.toNat).Z) ((zaO.get zaJ.toNat).Low)).slope),.int .i64 ((zkD zam zbl ((zaO.get zaJ.toNat).Z) ((zaO.get zaJ.toNat).Low)).start),.int .i64 ((zkD zam zbl ((zaO.get zaJ.toNat).Z) ((zaO.get zaJ.toNat).Low)).den)]] :: r3 ∧
 (l=l∧∃ r4,r3=[.agg [.int .i64 ((zkD zam zbl ((zaO.get zaJ.toNat).Z) ((zaO.get zaJ.toNat).High)).slope),.int .i64 ((zkD zam zbl ((zaO.get zaJ.toNat).Z) ((zaO.get zaJ.toNat).High)).start),.int .i64 ((zkD zam zbl ((zaO.get zaJ.toNat).Z) ((zaO.get zaJ.toNat).High)).den)]] :: r4 ∧
 (X1 r4 false (ze2 l a zaY zaO.len (fun i=>enc_55 (zaO.get i)) zbx (w64 (zaJ+(1:Int))) zam zax zbl))∧True)∧True)∧True)∧True)))
 (X0 ys false (ze1 l a (w64 (zaY+(1:Int))))))
theorem znW (l : Nat) (X0 : List (List PA) → Bool → St → Prop) (X1 : List (List PA) → Bool → St → Prop) (ys : List (List PA)) (a : list) (zaY : Int) (zaO : (Sl Gate)) (zbx : Int) (zaJ : Int) (zam : Int) (zax : Int) (zbl : Int) :
  vcY Try.prog zvG zb2 l (cd (cdF Try.f115 [1,0,0,1,1,0,0,1,1,0]) [0]) (ziz Try.prog zb2 4 X1 (zc1 2 (zc1 1 (zHC (zHE Try.prog zb2 17 (vcY Try.prog zvG zb2 l (cdF Try.f115 [1,0,0,1,1,1]) (ziz Try.prog zb2 1 X0 (zc1 0 zkI)))) (ziz Try.prog zb2 1 X0 (zc1 0 zkI)))))) ys false (ze2 l a zaY zaO.len (fun i=>enc_55 (zaO.get i)) zbx zaJ zam zax zbl) =
  zli l  X0 X1 ys a zaY zaO zbx zaJ zam zax zbl:=by kernel_rfl
theorem ztE (l : Nat) (X0 : List (List PA) → Bool → St → Prop) (ys : List (List PA)) (a : list) (zaY : Int) (ze3 : Nat) (zb4 : Nat → List PV) (zbx : Int) (zaJ : Int) (zam : Int) (zax : Int) (zbl : Int)
  (h:∀ X1:List (List PA)→Bool→St→Prop,(∀ (ys:List (List PA)) (zaY:Int) (zaO:(Sl Gate)) (zbx:Int) (zaJ:Int) (zam:Int) (zax:Int) (zbl:Int),zli l  X0 X1 ys a zaY zaO zbx zaJ zam zax zbl→X1 ys false (ze2 l a zaY zaO.len (fun i=>enc_55 (zaO.get i)) zbx zaJ zam zax zbl))→X1 ys false (ze2 l a zaY ze3 zb4 zbx zaJ zam zax zbl)) :
  zg2 l  X0 ys a zaY ze3 zb4 zbx zaJ zam zax zbl:=by
  have e:zg2 l  X0 ys a zaY ze3 zb4 zbx zaJ zam zax zbl=(∀ X:List (List PA)→Bool→St→Prop,(∀ ys q s,vcY Try.prog zvG zb2 l (cd (cdF Try.f115 [1,0,0,1,1,0,0,1,1,0]) [0]) (ziz Try.prog zb2 4 X (zc1 2 (zc1 1 (zHC (zHE Try.prog zb2 17 (vcY Try.prog zvG zb2 l (cdF Try.f115 [1,0,0,1,1,1]) (ziz Try.prog zb2 1 X0 (zc1 0 zkI)))) (ziz Try.prog zb2 1 X0 (zc1 0 zkI)))))) ys q s→X ys q s)→X ys false (ze2 l a zaY ze3 zb4 zbx zaJ zam zax zbl)):=by kernel_rfl
  refine zaD e ?_
  intro X hX
  refine h X ?_
  intro ys zaY zaO zbx zaJ zam zax zbl hs
  refine hX _ _ _ ?_
  have e2:=znW l  X0 X ys a zaY zaO zbx zaJ zam zax zbl
  rw [e2]
  exact hs
attribute [irreducible] zg1 zg2
def zev (S0:Int→List straight) (a:list) (S1:Int→(Sl Gate)→Int→Int→Int→Int→Int→List straight) (zaY:Int) (zaO:(Sl Gate)) (zbx:Int) (zaJ:Int) (zam:Int) (zax:Int) (zbl:Int):List straight :=
  (cond (decide (zaJ < zbx))
 (cond (zam == (zaO.get zaJ.toNat).Z)
 (S1 zaY zaO zbx (w64 (zaJ+(1:Int))) zam zax zbl)
 ((zkD zam zax ((zaO.get zaJ.toNat).Z) ((zaO.get zaJ.toNat).Low)) :: ((zkD zam zax ((zaO.get zaJ.toNat).Z) ((zaO.get zaJ.toNat).High)) :: ((zkD zam zbl ((zaO.get zaJ.toNat).Z) ((zaO.get zaJ.toNat).Low)) :: ((zkD zam zbl ((zaO.get zaJ.toNat).Z) ((zaO.get zaJ.toNat).High)) :: (S1 zaY zaO zbx (w64 (zaJ+(1:Int))) zam zax zbl))))))
 (S0 (w64 (zaY+(1:Int)))))
def zew (P0:Int→Bool) (a:list) (P1:Int→(Sl Gate)→Int→Int→Int→Int→Int→Bool) (zaY:Int) (zaO:(Sl Gate)) (zbx:Int) (zaJ:Int) (zam:Int) (zax:Int) (zbl:Int):Bool :=
  (cond (decide (zaJ < zbx))
 (decide ((0≤zaJ∧zaJ < (zaO.len:Int))) &&
 (cond (zam == (zaO.get zaJ.toNat).Z)
 (P1 zaY zaO zbx (w64 (zaJ+(1:Int))) zam zax zbl)
 (P1 zaY zaO zbx (w64 (zaJ+(1:Int))) zam zax zbl)))
 (P0 (w64 (zaY+(1:Int)))))
def zdm (S0 : Int → List straight) (a : list) : Nat → Int → (Sl Gate) → Int → Int → Int → Int → Int → List straight
  | 0=>fun _ _ _ _ _ _ _=>[]
  | k+1=>zev S0 a (zdm S0 a k)
def zdn (P0 : Int → Bool) (a : list) : Nat → Int → (Sl Gate) → Int → Int → Int → Int → Int → Bool
  | 0=>fun _ _ _ _ _ _ _=>false
  | k+1=>zew P0 a (zdn P0 a k)
def zl3 (S0:Int→List straight) (a:list) (zaY:Int) (zaO:(Sl Gate)) (zbx:Int) (zaJ:Int) (zam:Int) (zax:Int) (zbl:Int):List straight:=zdm S0 a Fuel zaY zaO zbx zaJ zam zax zbl
def zl4 (P0:Int→Bool) (a:list) (zaY:Int) (zaO:(Sl Gate)) (zbx:Int) (zaJ:Int) (zam:Int) (zax:Int) (zbl:Int):Bool:=zdn P0 a Fuel zaY zaO zbx zaJ zam zax zbl
theorem zA3 (l : Nat) (a : list)
  (X0:List (List PA)→Bool→St→Prop) (P0:Int→Bool) (S0:Int→List straight)
  (hX0:∀ (ys:List (List PA)) (zai:Int),P0 zai=true→ys=(S0 zai).map (fun y=>[.agg (zah y)])→X0 ys false (ze1 l a zai)) (ys:List (List PA)) (zaY:Int) (zaO:(Sl Gate)) (zbx:Int) (zaJ:Int) (zam:Int) (zax:Int) (zbl:Int) (zb4:Nat→List PV) (zjR:zb4=fun i=>enc_55 (zaO.get i)) (hs:zl4 P0 a zaY zaO zbx zaJ zam zax zbl=true) (hk:ys=(zl3 S0 a zaY zaO zbx zaJ zam zax zbl).map (fun y=>[.agg (zah y)])):zg2 l  X0 ys a zaY zaO.len zb4 zbx zaJ zam zax zbl:=by
  refine ztE l  X0 ys a zaY zaO.len zb4 zbx zaJ zam zax zbl ?_
  intro X1 hstep
  have key:∀ (k:Nat) (ys:List (List PA)) (zaY:Int) (zaO:(Sl Gate)) (zbx:Int) (zaJ:Int) (zam:Int) (zax:Int) (zbl:Int) (zb4:Nat→List PV) (zjR:zb4=fun i=>enc_55 (zaO.get i)),zdn P0 a k zaY zaO zbx zaJ zam zax zbl=true→ys=(zdm S0 a k zaY zaO zbx zaJ zam zax zbl).map (fun y=>[.agg (zah y)])→X1 ys false (ze2 l a zaY zaO.len zb4 zbx zaJ zam zax zbl):=by
    intro k
    induction k with
    | zero=>intro ys zaY zaO zbx zaJ zam zax zbl zb4 zjR hs;exact absurd hs Bool.false_ne_true
    | succ k ih =>
      intro ys zaY zaO zbx zaJ zam zax zbl zb4 zjR hs hk
      subst zjR
      refine hstep ys zaY zaO zbx zaJ zam zax zbl ?_
      have hs:zew P0 a (zdn P0 a k) zaY zaO zbx zaJ zam zax zbl=true:=hs
      have hk:ys=(zev S0 a (zdm S0 a k) zaY zaO zbx zaJ zam zax zbl).map (fun y=>[.agg (zah y)]):=hk
      unfold zew at hs
      unfold zev at hk
      generalize zdm S0 a k=S1 at hk ih
      generalize zdn P0 a k=P1 at hs ih
      have hX1:=ih
      exact (zlX hs hk
 (fun hs hk => (zay hs fun hc hs => ⟨hc, (zlX hs hk
 (fun hs hk=>(hX1 _ zaY zaO zbx (w64 (zaJ+(1:Int))) zam zax zbl (fun i=>enc_55 (zaO.get i)) rfl hs hk))
 (fun hs hk=>(itY hk rfl (fun _ hk=>(itY hk rfl (fun _ hk=>(itY hk rfl (fun _ hk=>(itY hk rfl (fun _ hk=>(hX1 _ zaY zaO zbx (w64 (zaJ+(1:Int))) zam zax zbl (fun i=>enc_55 (zaO.get i)) rfl hs hk)))))))))))⟩))
 (fun hs hk=>(hX0 _ (w64 (zaY+(1:Int))) hs hk)))
  exact key _ _ zaY zaO zbx zaJ zam zax zbl zb4 zjR hs hk
def zex (a:list) (S0:Int→List straight) (zai:Int):List straight :=
  (cond (decide (zai < (a.Gates.len : Int)))
 (zl3 S0 a zai (⟨((a.Gates.len:Int) - (w64 (zai+(1:Int)))).toNat,(fun i=>a.Gates.get (i+((w64 (zai+(1:Int))).toNat)))⟩:Sl Gate) (((a.Gates.len:Int) - (w64 (zai+(1:Int)))).toNat:Int) (0:Int) ((a.Gates.get zai.toNat).Z) ((a.Gates.get zai.toNat).Low) ((a.Gates.get zai.toNat).High))
 [])
def zey (a:list) (P0:Int→Bool) (zai:Int):Bool :=
  (cond (decide (zai < (a.Gates.len : Int)))
 (decide ((0≤zai∧zai < (a.Gates.len:Int))) &&
 (decide ((0≤(w64 (zai+(1:Int)))∧(w64 (zai+(1:Int)))≤(a.Gates.len:Int)∧(a.Gates.len:Int)≤(a.Gates.len:Int))) &&
 (zl4 P0 a zai (⟨((a.Gates.len:Int) - (w64 (zai+(1:Int)))).toNat,(fun i=>a.Gates.get (i+((w64 (zai+(1:Int))).toNat)))⟩:Sl Gate) (((a.Gates.len:Int) - (w64 (zai+(1:Int)))).toNat:Int) (0:Int) ((a.Gates.get zai.toNat).Z) ((a.Gates.get zai.toNat).Low) ((a.Gates.get zai.toNat).High))))
 true)
def zdo (a : list) : Nat → Int → List straight
  | 0=>fun _=>[]
  | k+1=>zex a (zdo a k)
def zdp (a : list) : Nat → Int → Bool
  | 0=>fun _=>false
  | k+1=>zey a (zdp a k)
def zsh (a:list) (zai:Int):List straight:=zdo a Fuel zai
def zsi (a:list) (zai:Int):Bool:=zdp a Fuel zai
theorem zA4 (l:Nat) (a:list) (ys:List (List PA)) (zai:Int) (hs:zsi a zai=true) (hk:ys=(zsh a zai).map (fun y=>[.agg (zah y)])):zg1 l ys a zai:=by
  refine ztD l ys a zai ?_
  intro X0 hstep
  have key:∀ (k:Nat) (ys:List (List PA)) (zai:Int),zdp a k zai=true→ys=(zdo a k zai).map (fun y=>[.agg (zah y)])→X0 ys false (ze1 l a zai):=by
    intro k
    induction k with
    | zero=>intro ys zai hs;exact absurd hs Bool.false_ne_true
    | succ k ih =>
      intro ys zai hs hk
      refine hstep ys zai ?_
      have hs:zey a (zdp a k) zai=true:=hs
      have hk:ys=(zex a (zdo a k) zai).map (fun y=>[.agg (zah y)]):=hk
      unfold zey at hs
      unfold zex at hk
      generalize zdo a k=S0 at hk ih
      generalize zdp a k=P0 at hs ih
      have hX0:=ih
      exact (zlX hs hk
 (fun hs hk=>(zay hs fun hc hs=>⟨hc,(zay hs fun hc hs=>⟨hc,(zA3 l a X0 P0 S0 hX0 _ zai (⟨((a.Gates.len:Int) - (w64 (zai+(1:Int)))).toNat,(fun i=>a.Gates.get (i+((w64 (zai+(1:Int))).toNat)))⟩:Sl Gate) (((a.Gates.len:Int) - (w64 (zai+(1:Int)))).toNat:Int) (0:Int) ((a.Gates.get zai.toNat).Z) ((a.Gates.get zai.toNat).Low) ((a.Gates.get zai.toNat).High) (slG (fun i=>enc_55 (a.Gates.get i)) ((w64 (zai+(1:Int))).toNat)) rfl hs hk)⟩)⟩))
 (fun hs hk=>hk))
  exact key _ _ zai hs hk
def zB8 (a:list):List straight :=
  (zsh a (0:Int))
def zD3 (a:list):Bool :=
  (zsi a (0:Int))
theorem zOK (l:Nat) (a:list) (ys:List (List PA)) (hs:zD3 a=true) (hk:ys=(zB8 a).map (fun y=>[.agg (zah y)])):vcIter Try.prog zvG zb2 115 l [.one (.fp (zb3 a) 0)] ys:=by
  refine zaD (zA2 l a ys) ?_
  unfold zD3 at hs
  unfold zB8 at hk
  exact (zA4 l a _ (0:Int) hs hk)
def zD4 : List PA → Option (Prop × List (List PA))
  | [.one (.fp [.sl a_Gates_n a_Gates_s a_Gates_g] 0)]=>some (IsE enc_55 3 a_Gates_s a_Gates_g∧zD3 (⟨(⟨a_Gates_n,zae a_Gates_g⟩:(Sl Gate))⟩:list)=true,(zB8 (⟨(⟨a_Gates_n,zae a_Gates_g⟩:(Sl Gate))⟩:list)).map fun y=>[.agg (zah y)])
  | _=>none
theorem zD5:zaf Try.prog 115:=⟨_,rfl,rfl,by kernel_rfl⟩
theorem zLT:zBz Try.prog 115 zD4:=zHZ zIT zD5 fun l caps safe ys h hs=>by
  unfold zD4 at h
  split at h
  · rename_i a_Gates_n a_Gates_s a_Gates_g
    cases h
    obtain ⟨⟨rfl,a_Gates_f,rfl⟩,hs⟩:=hs
    try rw [zac a_Gates_f] at hs
    try rw [zac a_Gates_f]
    exact ⟨fun _ _=>[],fun _=>false,zb2,zOK l (⟨(⟨a_Gates_n,a_Gates_f⟩:(Sl Gate))⟩:list) _ hs rfl⟩
  · cases h
abbrev T65:Tabs:=(((((Tabs.nil.addF 67 zo3).addF 79 zA1).addF 96 zDZ).addF 97 zD1).addI 115 zD4)
theorem zLU:TabsOk Try.prog T65:=(((((TabsOk.nil.addF zIo).addF zNk).addF zOG).addF zOH).addI zLT)
abbrev G65:Ctrs:=csm T65 (fun _ _=>[]) (fun l=>Nat.beq l 14)
def zg3:Ann:=⟨39,[(0,⟨[0,2],[2],[],[],[],[],[]⟩),(1,⟨[2,3],[2,3],[],[],[],[],[]⟩),(2,⟨[2,3,12],[2,3],[],[],[],[],[]⟩),(3,⟨[2],[2],[],[],[],[],[]⟩),(4,⟨[2,3,4],[2,3,4,14],[],[],[],[],[]⟩),(5,⟨[2,3,4,17],[2,3,4,14],[],[],[],[],[]⟩),(6,⟨[2,3,4,5,17],[2,3,4,5,14,36],[],[],[],[],[]⟩),(7,⟨[2,3,4,5,6,17],[2,3,4,5,6,14,36],[],[],[],[],[]⟩),(8,⟨[2,3,4,5,6,17,29],[2,3,4,5,6,14,36],[],[],[],[],[]⟩),(9,⟨[2,3,4,5,17],[2,3,4,5,14,36],[],[],[],[],[]⟩),(10,⟨[2,3,4,17],[2,3,4,14,36],[],[],[],[],[]⟩),(11,⟨[2],[2,36],[],[],[],[],[]⟩)],
 [(6,⟨[2,3,4,17],[2,3,4,14,36],[],[(3,1,36,118,fun _=>zah default)],[],[],[]⟩)],
 [(3,⟨[2,3,12],[2,3],[],[],[],[],[]⟩),(4,⟨[2,3],[2,3],[],[],[],[],[]⟩)],
 [],[]⟩
def zIU (zaa:(Sl Gate)) (zaQ:Bool):St:=⟨[(2,.one (.c (.ptr 2 0))),(3,.one (.c (.ptr 3 0))),(12,.one (.c (.p (.bool zaQ))))],[(2,.box 104 [.p (.nils),.p (.nils)]),(3,.box 104 [.p (.sl zaa.len 3 (fun i=>enc_55 (zaa.get i))),.p (.nils)])],[]⟩
def zl5 (K:List PA→Prop) (zaa:(Sl Gate)) (zaQ:Bool):Prop:=vc Try.prog G65 zg3 (cdF Try.f65 [1,1,0,1]) (sqK Try.prog G65 zg3 (cdF Try.f65 [1,1,1]) (zcp Try.prog Try.f65 K)) (zIU zaa zaQ)
def zIV (zaa:(Sl Gate)):St:=⟨[(2,.one (.c (.ptr 2 0))),(3,.one (.c (.ptr 3 0)))],[(2,.box 104 [.p (.nils),.p (.nils)]),(3,.box 104 [.p (.sl zaa.len 3 (fun i=>enc_55 (zaa.get i))),.p (.nils)])],[]⟩
def zl6 (K:List PA→Prop) (zaa:(Sl Gate)):Prop:=vc Try.prog G65 zg3 (cdF Try.f65 [1,1,1]) (zcp Try.prog Try.f65 K) (zIV zaa)
def ze4 (zaa:(Sl Gate)) (ze5:Nat) (zb5:Nat→List PV) (zaz:Nat) (zal:(List Int→Option (List Int))):St:=⟨[(2,.one (.c (.ptr 2 0))),(3,.one (.c (.ptr 3 0))),(4,.one (.c (.ptr 4 0))),(17,.one (.c (.p (.fn 115 [] [.fp (zb3 (⟨zaa⟩:list)) 0]))))],[(2,.box 104 [.p (.nils),.p (.nils)]),(3,.box 104 [.p (.sl zaa.len 3 (fun i=>enc_55 (zaa.get i))),.vec 36]),(4,.box 136 [.mo 14]),(14,.mo 37 4 (true,4,false,[none]) zaz zal),(36,.vec 118 3 24 ze5 zb5)],[]⟩
def zjS (K:List PA→Prop) (zaa:(Sl Gate)) (ze5:Nat) (zb5:Nat→List PV) (zaz:Nat) (zal:(List Int→Option (List Int))):Prop:=vc Try.prog G65 zg3 (cdF Try.f65 [1,1,1,1,0,1,0]) (za5 0 (sqK Try.prog G65 zg3 (cdF Try.f65 [1,1,1,1,1]) (zcp Try.prog Try.f65 K))) (ze4 zaa ze5 zb5 zaz zal)
theorem zD6 (zaa : (Sl Gate)) (K : List PA → Prop) :
  vcFun Try.prog G65 zg3 65 [.one (.sl zaa.len 3 (fun i=>enc_55 (zaa.get i)))] K =
  ((IsE enc_55 3 3 (fun i=>enc_55 (zaa.get i))∧(p67 (⟨zaa⟩:list)=true)) ∧
 (zl5 K zaa (s67 (⟨zaa⟩:list)))):=by kernel_rfl
theorem zD7 (K : List PA → Prop) (zaa : (Sl Gate)) (zaQ : Bool) :
  zl5 K zaa zaQ =
  (zc0 zaQ
 (K [.agg [.sl zaa.len 3 (fun i=>enc_55 (zaa.get i)),.nils]])
 (zl6 K zaa)):=by kernel_rfl
theorem zD8 (K : List PA → Prop) (zaa : (Sl Gate)) :
  zl6 K zaa =
  ((IsE enc_55 3 3 (fun i=>enc_55 (zaa.get i))) ∧
 (zjS K zaa 0 (fun i=>zah ((fun _=>default) i)) 0 (fun _=>none))):=by kernel_rfl
def znX (K:List PA→Prop) (zaa:(Sl Gate)) (zaH:(Sl straight)) (zaz:Nat) (zal:(List Int→Option (List Int))):Prop :=
  (K [.agg [.sl zaa.len 3 (fun i=>enc_55 (zaa.get i)),.sl zaH.len 3 (fun i=>zah (zaH.get i))]])
def znY (K:List PA→Prop) (X2:List (List PA)→St→Prop) (y2:straight) (rest2:List (List PA)) (zaa:(Sl Gate)) (zaH:(Sl straight)) (zaz:Nat) (zal:(List Int→Option (List Int))):Prop :=
  (((p79 y2=true)) ∧
 (zc0 (!((zdN (zal [(s79 y2).Slope.Num, (s79 y2).Slope.Den, (s79 y2).Start.Num, (s79 y2).Start.Den]) 0) != 0))
 ((IsE enc_55 3 3 (fun i=>enc_55 (zaa.get i))∧IsE zah 3 3 (fun i=>zah (zaH.get i))∧(p97 (⟨(⟨zaa⟩:list),zaH⟩:set) y2=true)) ∧
 (zc0 (s97 (⟨(⟨zaa⟩ : list), zaH⟩ : set) y2)
 ((((zaH.len+1) * 24≤140737488355328∧zaH.len+1≤9223372036854775807)) ∧
 (X2 rest2 (ze4 zaa (zaH.len+1) (appG zaH.len (fun i=>zah (zaH.get i)) (fun _=>(zah y2))) (addN (zal [(s79 y2).Slope.Num,(s79 y2).Slope.Den,(s79 y2).Start.Num,(s79 y2).Start.Den]) zaz) (zkO [(s79 y2).Slope.Num,(s79 y2).Slope.Den,(s79 y2).Start.Num,(s79 y2).Start.Den] [1] zal))))
 (X2 rest2 (ze4 zaa zaH.len (fun i=>zah (zaH.get i)) zaz zal))))
 (X2 rest2 (ze4 zaa zaH.len (fun i=>zah (zaH.get i)) zaz zal))))
theorem zph (K:List PA→Prop) (zaa:(Sl Gate)) (zaH:(Sl straight)) (zaz:Nat) (zal:(List Int→Option (List Int))):(za5 0 (sqK Try.prog G65 zg3 (cdF Try.f65 [1,1,1,1,1]) (zcp Try.prog Try.f65 K))) .normal (ze4 zaa zaH.len (fun i=>zah (zaH.get i)) zaz zal)=znX K zaa zaH zaz zal:=by kernel_rfl
theorem zpi (K : List PA → Prop) (X2 : List (List PA) → St → Prop) (y2 : straight) (rest2 : List (List PA)) (zaa : (Sl Gate)) (zaH : (Sl straight)) (zaz : Nat) (zal : (List Int → Option (List Int))) :
  zM1 Try.prog G65 zg3 6 [18] (cd (cdF Try.f65 [1,1,1,1,0,1,0]) [0]) (cd (cdF Try.f65 [1,1,1,1,0,1,0]) [1]) X2 (za5 0 (sqK Try.prog G65 zg3 (cdF Try.f65 [1,1,1,1,1]) (zcp Try.prog Try.f65 K))) [.agg (zah y2)] rest2 (ze4 zaa zaH.len (fun i=>zah (zaH.get i)) zaz zal)=znY K X2 y2 rest2 zaa zaH zaz zal:=by kernel_rfl
theorem zvH (K : List PA → Prop) (zaa : (Sl Gate)) (ze5 : Nat) (zb5 : Nat → List PV) (zaz : Nat) (zal : (List Int → Option (List Int)))
  (hsafe:IsE enc_55 3 3 (fun i=>enc_55 ((⟨zaa⟩:list).Gates.get i))∧(zD3 (⟨zaa⟩:list)=true)) (h:∀ X2:List (List PA)→St→Prop,(∀ (zaH:(Sl straight)) (zaz:Nat) (zal:(List Int→Option (List Int))),znX K zaa zaH zaz zal→X2 [] (ze4 zaa zaH.len (fun i=>zah (zaH.get i)) zaz zal))→(∀ (y:straight) (rest:List (List PA)) (zaH:(Sl straight)) (zaz:Nat) (zal:(List Int→Option (List Int))),znY K X2 y rest zaa zaH zaz zal→X2 ([.agg (zah y)] :: rest) (ze4 zaa zaH.len (fun i=>zah (zaH.get i)) zaz zal))→X2 ((zB8 (⟨zaa⟩:list)).map fun y=>[.agg (zah y)]) (ze4 zaa ze5 zb5 zaz zal)) :
  zjS K zaa ze5 zb5 zaz zal:=by
  have e:zjS K zaa ze5 zb5 zaz zal=((IsE enc_55 3 3 (fun i=>enc_55 ((⟨zaa⟩:list).Gates.get i))∧(zD3 (⟨zaa⟩:list)=true))∧∀ X:List (List PA)→St→Prop,(∀ s,(za5 0 (sqK Try.prog G65 zg3 (cdF Try.f65 [1,1,1,1,1]) (zcp Try.prog Try.f65 K))) .normal s→X [] s)→(∀ y rest s,zM1 Try.prog G65 zg3 6 [18] (cd (cdF Try.f65 [1,1,1,1,0,1,0]) [0]) (cd (cdF Try.f65 [1,1,1,1,0,1,0]) [1]) X (za5 0 (sqK Try.prog G65 zg3 (cdF Try.f65 [1,1,1,1,1]) (zcp Try.prog Try.f65 K))) y rest s→X (y :: rest) s)→X ((zB8 (⟨zaa⟩:list)).map fun y=>[.agg (zah y)]) (ze4 zaa ze5 zb5 zaz zal)):=by kernel_rfl
  refine zaD e ⟨hsafe,?_⟩
  intro X h0 h1
  refine h X (fun zaH zaz zal hs=>h0 _ ?_) (fun y rest zaH zaz zal hs=>h1 _ rest _ ?_)
  · rw [zph K zaa zaH zaz zal];exact hs
  · have e2 := zpi K X y rest zaa zaH zaz zal
    rw [e2];exact hs
abbrev e65 (r:set):List PA:=[.agg [.sl r.list.Gates.len 3 (fun i=>enc_55 (r.list.Gates.get i)),.sl r.corners.len 3 (fun i=>zah (r.corners.get i))]]
attribute [irreducible] zl5 zl6 zjS
def zpj (zaa:(Sl Gate)) (zaH:(Sl straight)) (zaz:Nat) (zal:(List Int→Option (List Int))):set :=
  (⟨(⟨zaa⟩:list),zaH⟩:set)
def zpk (zaa:(Sl Gate)) (zaH:(Sl straight)) (zaz:Nat) (zal:(List Int→Option (List Int))):Bool :=
  true
def zjT (zaa:(Sl Gate)) (y2:straight) (S2:(Sl straight)→Nat→(List Int→Option (List Int))→set) (zaH:(Sl straight)) (zaz:Nat) (zal:(List Int→Option (List Int))):set :=
  (cond (!((zdN (zal [(s79 y2).Slope.Num, (s79 y2).Slope.Den, (s79 y2).Start.Num, (s79 y2).Start.Den]) 0) != 0))
 (cond (s97 (⟨(⟨zaa⟩ : list), zaH⟩ : set) y2)
 (S2 (⟨(zaH.len+1),(zdT zaH.len zaH.get (fun _=>y2))⟩:Sl straight) (addN (zal [(s79 y2).Slope.Num,(s79 y2).Slope.Den,(s79 y2).Start.Num,(s79 y2).Start.Den]) zaz) (zkO [(s79 y2).Slope.Num,(s79 y2).Slope.Den,(s79 y2).Start.Num,(s79 y2).Start.Den] [1] zal))
 (S2 zaH zaz zal))
 (S2 zaH zaz zal))
def zjU (zaa:(Sl Gate)) (y2:straight) (P2:(Sl straight)→Nat→(List Int→Option (List Int))→Bool) (zaH:(Sl straight)) (zaz:Nat) (zal:(List Int→Option (List Int))):Bool :=
  (decide ((p79 y2=true)) &&
 (cond (!((zdN (zal [(s79 y2).Slope.Num, (s79 y2).Slope.Den, (s79 y2).Start.Num, (s79 y2).Start.Den]) 0) != 0))
 (decide ((p97 (⟨(⟨zaa⟩:list),zaH⟩:set) y2=true)) &&
 (cond (s97 (⟨(⟨zaa⟩ : list), zaH⟩ : set) y2)
 (decide (((zaH.len+1) * 24≤140737488355328∧zaH.len+1≤9223372036854775807)) &&
 (P2 (⟨(zaH.len+1),(zdT zaH.len zaH.get (fun _=>y2))⟩:Sl straight) (addN (zal [(s79 y2).Slope.Num,(s79 y2).Slope.Den,(s79 y2).Start.Num,(s79 y2).Start.Den]) zaz) (zkO [(s79 y2).Slope.Num,(s79 y2).Slope.Den,(s79 y2).Start.Num,(s79 y2).Start.Den] [1] zal)))
 (P2 zaH zaz zal)))
 (P2 zaH zaz zal)))
def ze6 (zaa : (Sl Gate)) : List straight → (Sl straight) → Nat → (List Int → Option (List Int)) → set
  | []=>zpj zaa
  | y :: r=>zjT zaa y (ze6 zaa r)
def ze7 (zaa : (Sl Gate)) : List straight → (Sl straight) → Nat → (List Int → Option (List Int)) → Bool
  | []=>zpk zaa
  | y :: r=>zjU zaa y (ze7 zaa r)
def zpl (zaa:(Sl Gate)) (zaH:(Sl straight)) (zaz:Nat) (zal:(List Int→Option (List Int))):set:=ze6 zaa (zB8 (⟨zaa⟩:list)) zaH zaz zal
def zl7 (zaa:(Sl Gate)) (zaH:(Sl straight)) (zaz:Nat) (zal:(List Int→Option (List Int))):Bool:=decide ((zD3 (⟨zaa⟩:list)=true)) && ze7 zaa (zB8 (⟨zaa⟩:list)) zaH zaz zal
theorem zD9 (K:List PA→Prop) (zaa:(Sl Gate)) (zaH:(Sl straight)) (zaz:Nat) (zal:(List Int→Option (List Int))) (zb5:Nat→List PV) (zhB:zb5=fun i=>zah (zaH.get i)) (hs:zl7 zaa zaH zaz zal=true) (hk:K (e65 (zpl zaa zaH zaz zal))):zjS (Wk K) zaa zaH.len zb5 zaz zal:=by
  unfold zl7 at hs
  rw [Bool.and_eq_true] at hs
  obtain ⟨hsf,hs⟩:=hs
  have hc:=of_decide_eq_true hsf
  refine zvH (Wk K) zaa zaH.len zb5 zaz zal ⟨isE,hc⟩ ?_
  intro X2 hexit hstep
  have key:∀ (l:List straight) (zaH:(Sl straight)) (zaz:Nat) (zal:(List Int→Option (List Int))) (zb5:Nat→List PV) (zhB:zb5=fun i=>zah (zaH.get i)),ze7 zaa l zaH zaz zal=true→K (e65 (ze6 zaa l zaH zaz zal))→X2 (l.map fun y=>[.agg (zah y)]) (ze4 zaa zaH.len zb5 zaz zal):=by
    intro l
    induction l with
    | nil =>
      intro zaH zaz zal zb5 zhB hs hk
      subst zhB
      refine hexit zaH zaz zal ?_
      have hs:zpk zaa zaH zaz zal=true:=hs
      have hk:K (e65 (zpj zaa zaH zaz zal)):=hk
      unfold zpk at hs
      unfold zpj at hk
      exact (zd5 hk)
    | cons y2 l ih =>
      intro zaH zaz zal zb5 zhB hs hk
      subst zhB
      refine hstep y2 _ zaH zaz zal ?_
      have hs:zjU zaa y2 (ze7 zaa l) zaH zaz zal=true:=hs
      have hk:K (e65 (zjT zaa y2 (ze6 zaa l) zaH zaz zal)):=hk
      unfold zjU at hs
      unfold zjT at hk
      generalize ze6 zaa l=S2 at hk ih
      generalize ze7 zaa l=P2 at hs ih
      have hX2:=ih
      exact (zay hs fun hc hs => ⟨hc, (zci (K := fun r => K (e65 r))
 (fun hs hk => (zay hs fun hc hs => ⟨⟨isE, isE, hc⟩, (zci (K := fun r => K (e65 r))
 (fun hs hk=>(zay hs fun hc hs=>⟨hc,(hX2 (⟨(zaH.len+1),(zdT zaH.len zaH.get (fun _=>y2))⟩:Sl straight) (addN (zal [(s79 y2).Slope.Num,(s79 y2).Slope.Den,(s79 y2).Start.Num,(s79 y2).Start.Den]) zaz) (zkO [(s79 y2).Slope.Num,(s79 y2).Slope.Den,(s79 y2).Start.Num,(s79 y2).Start.Den] [1] zal) (appG zaH.len (fun i=>zah (zaH.get i)) (fun _=>(zah y2))) (zeP (enc:=zah) (f:=zaH.get) (h:=(fun _=>y2)) rfl rfl) hs hk)⟩))
 (fun hs hk=>(hX2 zaH zaz zal (fun i=>zah (zaH.get i)) rfl hs hk)) hs hk)⟩))
 (fun hs hk=>(hX2 zaH zaz zal (fun i=>zah (zaH.get i)) rfl hs hk)) hs hk)⟩)
  exact key _ zaH zaz zal zb5 zhB hs hk
def zl8 (zaa:(Sl Gate)):set :=
  (zpl zaa (⟨0,(fun _=>default)⟩:Sl straight) 0 (fun _=>none))
def zl9 (zaa:(Sl Gate)):Bool :=
  (zl7 zaa (⟨0,(fun _=>default)⟩:Sl straight) 0 (fun _=>none))
theorem zEa (K:List PA→Prop) (zaa:(Sl Gate)) (hs:zl9 zaa=true) (hk:K (e65 (zl8 zaa))):zl6 (Wk K) zaa:=by
  refine zaD (zD8 (Wk K) zaa) ?_
  unfold zl9 at hs
  unfold zl8 at hk
  exact ⟨isE,(zD9 K zaa (⟨0,(fun _=>default)⟩:Sl straight) 0 (fun _=>none) (fun i=>zah ((fun _=>default) i)) rfl hs hk)⟩
def zma (zaa:(Sl Gate)) (zaQ:Bool):set :=
  (cond zaQ
 (⟨(⟨zaa⟩:list),(⟨0,fun _=>default⟩:(Sl straight))⟩:set)
 (zl8 zaa))
def zmb (zaa:(Sl Gate)) (zaQ:Bool):Bool :=
  (cond zaQ
 true
 (zl9 zaa))
theorem zEb (K:List PA→Prop) (zaa:(Sl Gate)) (zaQ:Bool) (hs:zmb zaa zaQ=true) (hk:K (e65 (zma zaa zaQ))):zl5 (Wk K) zaa zaQ:=by
  refine zaD (zD7 (Wk K) zaa zaQ) ?_
  unfold zmb at hs
  unfold zma at hk
  exact (zci (K := fun r => K (e65 r))
 (fun hs hk=>(wk hk (zc7 (.agg (zc7 (.rfl _) (zc7 (.nil _ _) zhm))) zhm)))
 (fun hs hk=>(zEa K zaa hs hk)) hs hk)
def s65 (zaa:(Sl Gate)):set :=
  (zma zaa (s67 (⟨zaa⟩:list)))
def p65 (zaa:(Sl Gate)):Bool :=
  (decide ((p67 (⟨zaa⟩:list)=true)) &&
 (zmb zaa (s67 (⟨zaa⟩:list))))
theorem q65 (zaa:(Sl Gate)) (K:List PA→Prop) (hs:p65 zaa=true) (hk:K (e65 (s65 zaa))):vcFun Try.prog G65 zg3 65 [.one (.sl zaa.len 3 (fun i=>enc_55 (zaa.get i)))] (Wk K):=by
  refine zaD (zD6 zaa (Wk K)) ?_
  unfold p65 at hs
  unfold s65 at hk
  exact (zay hs fun hc hs=>⟨⟨isE,hc⟩,(zEb K zaa (s67 (⟨zaa⟩:list)) hs hk)⟩)
def zvI : List PA → COut
  | [.one (.sl a0_n a0_s a0_g)]=>.det (IsE enc_55 3 a0_s a0_g∧p65 (⟨a0_n,zae a0_g⟩:(Sl Gate))=true) [.agg [.sl ((s65 (⟨a0_n,zae a0_g⟩:(Sl Gate))).list.Gates.len) 3 (fun i=>enc_55 ((s65 (⟨a0_n,zae a0_g⟩:(Sl Gate))).list.Gates.get i)),.sl ((s65 (⟨a0_n,zae a0_g⟩:(Sl Gate))).corners.len) 3 (fun i=>zah ((s65 (⟨a0_n,zae a0_g⟩:(Sl Gate))).corners.get i))]]
  | _=>.no
theorem zIW:zaf Try.prog 65:=⟨_,rfl,rfl,by kernel_rfl⟩
theorem zLV:Ok Try.prog 65 zvI:=zhn zLU zIW fun args K h=>by
  unfold zvI at h
  split at h
  · rename_i a0_n a0_s a0_g
    obtain ⟨⟨⟨rfl,a0_f,rfl⟩,hs⟩,hk⟩:=h
    try rw [zac a0_f] at hs
    try rw [zac a0_f] at hk
    exact ⟨_,ze0 zf0 _,(fun _ _=>[]),(fun l=>Nat.beq l 14),zg3,q65 (⟨a0_n,a0_f⟩:(Sl Gate)) K hs hk⟩
  · exact h.elim
abbrev T66:Tabs:=((Tabs.nil.addF 67 zo3).addF 98 zAP)
theorem zLW:TabsOk Try.prog T66:=((TabsOk.nil.addF zIo).addF zM9)
abbrev G66:Ctrs:=csm T66 (fun _ _=>[]) (fun _=>false)
def zIX:Ann:=⟨19,[(0,zK [1] [1]),(1,zK [1,3] [1,3]),(2,zK [1,3,9] [1,3]),(3,zK [2] []),(4,zK [2] [])],
 [],
 [],
 [],[]⟩
abbrev R66:=Bool
abbrev e66 (r:R66):List PA:=[.one (.bool r)]
section
variable {K:List PA→Prop} {s:set}
def s66 (s:set):Bool :=
  (cond (s67 s.list)
 (decide ((s98 s.list).Low≤(s98 s.list).High))
 (decide ((s.corners.len:Int) > (0:Int))))
def p66 (s:set):Bool :=
  (decide ((p98 s.list=true)) &&
 (decide ((p67 s.list=true)) &&
 true))
end
theorem q66 (s:set) (K:List PA→Prop) (hs:p66 s=true) (hk:K (e66 (s66 s))):vcFun Try.prog G66 zIX 66 [.agg (za2 s)] K :=
  zaD (by kernel_rfl) (zay hs fun hc hs=>And.intro (And.intro (zE enc_55 3 s.list.Gates.get) hc) (zay hs fun hc hs=>And.intro (And.intro (zE enc_55 3 s.list.Gates.get) hc) (zt hk (fun hk=>hk) (fun hk=>hk))))
def zvJ : List PA → COut
  | [.agg [.sl a0_list_Gates_n a0_list_Gates_s a0_list_Gates_g,.sl a0_corners_n a0_corners_s a0_corners_g]]=>.det (IsE enc_55 3 a0_list_Gates_s a0_list_Gates_g∧IsE zah 3 a0_corners_s a0_corners_g∧p66 (⟨(⟨(⟨a0_list_Gates_n,zae a0_list_Gates_g⟩:(Sl Gate))⟩:list),(⟨a0_corners_n,zaZ a0_corners_g⟩:(Sl straight))⟩:set)=true) [.one (.bool (s66 (⟨(⟨(⟨a0_list_Gates_n,zae a0_list_Gates_g⟩:(Sl Gate))⟩:list),(⟨a0_corners_n,zaZ a0_corners_g⟩:(Sl straight))⟩:set)))]
  | _=>.no
theorem zIY:zaf Try.prog 66:=⟨_,rfl,rfl,by kernel_rfl⟩
theorem zLX:Ok Try.prog 66 zvJ:=zaF zLW zIY fun args K h=>by
  unfold zvJ at h
  split at h
  · rename_i a0_list_Gates_n a0_list_Gates_s a0_list_Gates_g a0_corners_n a0_corners_s a0_corners_g
    obtain ⟨⟨⟨rfl,a0_list_Gates_f,rfl⟩,⟨rfl,a0_corners_f,rfl⟩,hs⟩,hk⟩:=h
    try rw [zac a0_list_Gates_f] at hs
    try rw [zac a0_list_Gates_f] at hk
    try rw [zaS a0_corners_f] at hs
    try rw [zaS a0_corners_f] at hk
    exact ⟨(fun _ _=>[]),(fun _=>false),zIX,q66 (⟨(⟨(⟨a0_list_Gates_n,a0_list_Gates_f⟩:(Sl Gate))⟩:list),(⟨a0_corners_n,a0_corners_f⟩:(Sl straight))⟩:set) K hs hk⟩
  · exact h.elim
abbrev T76:Tabs:=Tabs.nil
theorem zLY:TabsOk Try.prog T76:=TabsOk.nil
abbrev G76:Ctrs:=csm T76 (fun _ _=>[]) (fun _=>false)
def zIZ:Ann:=⟨11,[(0,zK [1,2] [2]),(1,zK [3] [])],
 [],
 [],
 [],[]⟩
abbrev R76:=Bool
abbrev e76 (r:R76):List PA:=[.one (.bool r)]
section
variable {K:List PA→Prop} {c0:Int} {l_a0:list}
def s76 (c0:Int) (l_a0:list):Bool :=
  ((l_a0.Gates.get 0).Z == c0)
def p76 (c0:Int) (l_a0:list):Bool :=
  (decide ((0≤(0:Int)∧(0:Int) < (l_a0.Gates.len:Int))) &&
 true)
end
theorem q76 (c0:Int) (l_a0:list) (K:List PA→Prop) (hs:p76 c0 l_a0=true) (hk:K (e76 (s76 c0 l_a0))):vcFun Try.prog G76 zIZ 76 [.agg (zb3 l_a0),.one (.fp (zaq c0) 0)] K :=
  zaD (by kernel_rfl) (zay hs fun hc hs=>And.intro hc hk)
def zEc : List PA → COut
  | [.agg [.sl a0_Gates_n a0_Gates_s a0_Gates_g],.one (.fp [.int .i64 c0] 0)]=>.det (IsE enc_55 3 a0_Gates_s a0_Gates_g∧p76 c0 (⟨(⟨a0_Gates_n,zae a0_Gates_g⟩:(Sl Gate))⟩:list)=true) [.one (.bool (s76 c0 (⟨(⟨a0_Gates_n,zae a0_Gates_g⟩:(Sl Gate))⟩:list)))]
  | _=>.no
theorem zI0:zaf Try.prog 76:=⟨_,rfl,rfl,by kernel_rfl⟩
theorem zOL:Ok Try.prog 76 zEc:=zaF zLY zI0 fun args K h=>by
  unfold zEc at h
  split at h
  · rename_i a0_Gates_n a0_Gates_s a0_Gates_g c0
    obtain ⟨⟨⟨rfl,a0_Gates_f,rfl⟩,hs⟩,hk⟩:=h
    try rw [zac a0_Gates_f] at hs
    try rw [zac a0_Gates_f] at hk
    exact ⟨(fun _ _=>[]),(fun _=>false),zIZ,q76 c0 (⟨(⟨a0_Gates_n,a0_Gates_f⟩:(Sl Gate))⟩:list) K hs hk⟩
  · exact h.elim
abbrev T77:Tabs:=Tabs.nil
theorem zLZ:TabsOk Try.prog T77:=TabsOk.nil
abbrev G77:Ctrs:=csm T77 (fun _ _=>[]) (fun _=>false)
def zI1:Ann:=⟨3,[(0,zK [] []),(1,zK [2] [])],
 [],
 [],
 [],[]⟩
abbrev R77:=Bool
abbrev e77 (r:R77):List PA:=[.one (.bool r)]
section
variable {K:List PA→Prop} {a0_a0:list}
def s77 (a0_a0:list):Bool :=
  false
end
theorem q77 (a0_a0:list) (K:List PA→Prop) (hk:K (e77 (s77 a0_a0))):vcFun Try.prog G77 zI1 77 [.agg (zb3 a0_a0)] K :=
  zaD (by kernel_rfl) hk
def zEd : List PA → COut
  | [.agg [.sl a0_Gates_n a0_Gates_s a0_Gates_g]]=>.det (IsE enc_55 3 a0_Gates_s a0_Gates_g) [.one (.bool (s77 (⟨(⟨a0_Gates_n,zae a0_Gates_g⟩:(Sl Gate))⟩:list)))]
  | _=>.no
theorem zI2:zaf Try.prog 77:=⟨_,rfl,rfl,by kernel_rfl⟩
theorem zOM:Ok Try.prog 77 zEd:=zaF zLZ zI2 fun args K h=>by
  unfold zEd at h
  split at h
  · rename_i a0_Gates_n a0_Gates_s a0_Gates_g
    obtain ⟨⟨rfl,a0_Gates_f,rfl⟩,hk⟩:=h
    try rw [zac a0_Gates_f] at hk
    exact ⟨(fun _ _=>[]),(fun _=>false),zI1,q77 (⟨(⟨a0_Gates_n,a0_Gates_f⟩:(Sl Gate))⟩:list) K hk⟩
  · exact h.elim
abbrev T88:Tabs:=Tabs.nil
theorem zL0:TabsOk Try.prog T88:=TabsOk.nil
abbrev G88:Ctrs:=csm T88 (fun _ _=>[]) (fun _=>false)
def zI3:Ann:=⟨3,[(0,zK [] []),(1,zK [2] [])],
 [],
 [],
 [],[]⟩
abbrev R88:=Bool
abbrev e88 (r:R88):List PA:=[.one (.bool r)]
section
variable {K:List PA→Prop} {a0_a0:list}
def s88 (a0_a0:list):Bool :=
  true
end
theorem q88 (a0_a0:list) (K:List PA→Prop) (hk:K (e88 (s88 a0_a0))):vcFun Try.prog G88 zI3 88 [.agg (zb3 a0_a0)] K :=
  zaD (by kernel_rfl) hk
def zEe : List PA → COut
  | [.agg [.sl a0_Gates_n a0_Gates_s a0_Gates_g]]=>.det (IsE enc_55 3 a0_Gates_s a0_Gates_g) [.one (.bool (s88 (⟨(⟨a0_Gates_n,zae a0_Gates_g⟩:(Sl Gate))⟩:list)))]
  | _=>.no
theorem zI4:zaf Try.prog 88:=⟨_,rfl,rfl,by kernel_rfl⟩
theorem zON:Ok Try.prog 88 zEe:=zaF zL0 zI4 fun args K h=>by
  unfold zEe at h
  split at h
  · rename_i a0_Gates_n a0_Gates_s a0_Gates_g
    obtain ⟨⟨rfl,a0_Gates_f,rfl⟩,hk⟩:=h
    try rw [zac a0_Gates_f] at hk
    exact ⟨(fun _ _=>[]),(fun _=>false),zI3,q88 (⟨(⟨a0_Gates_n,a0_Gates_f⟩:(Sl Gate))⟩:list) K hk⟩
  · exact h.elim
abbrev T75:Tabs:=(((((((Tabs.nil.addF 64 ztC).addF 65 zvI).addF 66 zvJ).addF 67 zo3).addF 76 zEc).addF 77 zEd).addF 88 zEe)
theorem zL1:TabsOk Try.prog T75:=(((((((TabsOk.nil.addF zKY).addF zLV).addF zLX).addF zIo).addF zOL).addF zOM).addF zON)
abbrev G75:Ctrs:=csm T75 (fun _ _=>[]) (fun _=>false)
def zEf:Ann:=⟨31,[(0,zK [0,1,4] [4]),(1,zK [0,1,4,9] [4]),(2,zK [4,5] [4]),(3,zK [1,4,6] [4,6]),(4,zK [1,4,6,13] [4,6]),(5,zK [4,5] [4]),(6,zK [4,6,18] [4,6]),(7,zK [4,5] [4]),(8,zK [4,5] [4])],
 [],
 [(3,zK [0,1,4] [4])],
 [],[]⟩
abbrev R75:=(set×Int)
abbrev e75 (r:R75):List PA:=[.agg [.sl r.1.list.Gates.len 3 (fun i=>enc_55 (r.1.list.Gates.get i)),.sl r.1.corners.len 3 (fun i=>zah (r.1.corners.get i))],.one (.int .i64 r.2)]
@[irreducible] def z75:=ptF Try.prog G75 zEf Try.f75
section
variable {K:List PA→Prop} {zaa:(Sl Gate)}
def zpm (zaa:(Sl Gate)):(set×Int) :=
  (cond (!(s66 (s65 zaa)))
 ((⟨(⟨(⟨0,fun _=>default⟩:(Sl Gate))⟩:list),(⟨0,fun _=>default⟩:(Sl straight))⟩:set),(5:Int))
 (cond (s67 ((s65 zaa).list))
 (cond (!(s77 ((s65 zaa).list)))
 ((⟨(⟨(⟨0,fun _=>default⟩:(Sl Gate))⟩:list),(⟨0,fun _=>default⟩:(Sl straight))⟩:set),(6:Int))
 ((s65 zaa),(0:Int)))
 ((s65 zaa),(0:Int))))
def zpn (zaa:(Sl Gate)):Bool :=
  (decide ((p65 zaa=true)) &&
 (decide ((p66 (s65 zaa)=true)) &&
 (cond (!(s66 (s65 zaa)))
 true
 (decide ((p67 ((s65 zaa).list)=true)) &&
 true))))
theorem zEg (hs:zpn zaa=true) (hk:K (e75 (zpm zaa))):z75 (Wk K) [1,1] [] ⟨[(0,zS enc_55 3 zaa),(1,zP (.fn 77 [] [])),(4,zp 4 0)],[(4,.box 104 [.p (.nils),.p (.nils)])],[]⟩:=zaD (by kernel_rfl) (zay hs fun hc hs=>And.intro (And.intro (zE enc_55 3 zaa.get) hc) (zay hs fun hc hs=>And.intro (And.intro (zE enc_55 3 ((s65 zaa).list.Gates.get)) (And.intro (zE zah 3 ((s65 zaa).corners.get)) hc)) (zc hs hk (fun hs hk=>((wk hk (zc7 (.agg (zc7 (.nil _ _) (zc7 (.nil _ _) zhm))) (zc7 (.one (.rfl _)) zhm))):Wk K [.agg [.nils,.nils],.one (.int .i64 (5:Int))])) (fun hs hk=>(zay hs fun hc hs=>And.intro (And.intro (zE enc_55 3 ((s65 zaa).list.Gates.get)) hc) (zt hk (fun hk=>(And.intro (zE enc_55 3 ((s65 zaa).list.Gates.get)) (zt hk (fun hk=>((wk hk (zc7 (.agg (zc7 (.nil _ _) (zc7 (.nil _ _) zhm))) (zc7 (.one (.rfl _)) zhm))):Wk K [.agg [.nils,.nils],.one (.int .i64 (6:Int))])) (fun hk=>((zd5 hk):Wk K [.agg [.sl ((s65 zaa).list.Gates.len) 3 (fun i=>enc_55 ((s65 zaa).list.Gates.get i)),.sl ((s65 zaa).corners.len) 3 (fun i=>zah ((s65 zaa).corners.get i))],.one (.int .i64 (0:Int))]))))) (fun hk=>((zd5 hk):Wk K [.agg [.sl ((s65 zaa).list.Gates.len) 3 (fun i=>enc_55 ((s65 zaa).list.Gates.get i)),.sl ((s65 zaa).corners.len) 3 (fun i=>zah ((s65 zaa).corners.get i))],.one (.int .i64 (0:Int))]))))))))
def s75 (zaa:(Sl Gate)):(set×Int) :=
  (cond (!(s64 zaa))
 ((⟨(⟨(⟨0,fun _=>default⟩:(Sl Gate))⟩:list),(⟨0,fun _=>default⟩:(Sl straight))⟩:set),(2:Int))
 (zpm zaa))
def p75 (zaa:(Sl Gate)):Bool :=
  (decide ((p64 zaa=true)) &&
 (cond (!(s64 zaa))
 true
 (zpn zaa)))
end
theorem q75 (zaa:(Sl Gate)) (K:List PA→Prop) (hs:p75 zaa=true) (hk:K (e75 (s75 zaa))):vcFun Try.prog G75 zEf 75 [.one (.sl zaa.len 3 (fun i=>enc_55 (zaa.get i))),.one (.fn 77 [] [])] (Wk K) :=
  zaD (by kernel_rfl) (zay hs fun hc hs=>And.intro (And.intro (zE enc_55 3 zaa.get) hc) (zc hs hk (fun hs hk=>((wk hk (zc7 (.agg (zc7 (.nil _ _) (zc7 (.nil _ _) zhm))) (zc7 (.one (.rfl _)) zhm))):Wk K [.agg [.nils,.nils],.one (.int .i64 (2:Int))])) (fun hs hk=>(zEg hs hk))))
abbrev zNo:Ctrs:=csm T75 (fun _ _=>[]) (fun _=>false)
def zvK:Ann:=⟨31,[(0,zK [0,1,4] [4]),(1,zK [0,1,4,9] [4]),(2,zK [4,5] [4]),(3,zK [1,4,6] [4,6]),(4,zK [1,4,6,13] [4,6]),(5,zK [4,5] [4]),(6,zK [4,6,18] [4,6]),(7,zK [4,5] [4]),(8,zK [4,5] [4])],
 [],
 [(3,zK [0,1,4] [4])],
 [],[]⟩
abbrev zOO:=(set×Int)
abbrev zNp (r:zOO):List PA:=[.agg [.sl r.1.list.Gates.len 3 (fun i=>enc_55 (r.1.list.Gates.get i)),.sl r.1.corners.len 3 (fun i=>zah (r.1.corners.get i))],.one (.int .i64 r.2)]
@[irreducible] def z75a:=ptF Try.prog zNo zvK Try.f75
section
variable {K:List PA→Prop} {c0:Int} {zaa:(Sl Gate)}
def zmc (c0:Int) (zaa:(Sl Gate)):(set×Int) :=
  (cond (!(s66 (s65 zaa)))
 ((⟨(⟨(⟨0,fun _=>default⟩:(Sl Gate))⟩:list),(⟨0,fun _=>default⟩:(Sl straight))⟩:set),(5:Int))
 (cond (s67 ((s65 zaa).list))
 (cond (!(s76 c0 ((s65 zaa).list)))
 ((⟨(⟨(⟨0,fun _=>default⟩:(Sl Gate))⟩:list),(⟨0,fun _=>default⟩:(Sl straight))⟩:set),(6:Int))
 ((s65 zaa),(0:Int)))
 ((s65 zaa),(0:Int))))
def zmd (c0:Int) (zaa:(Sl Gate)):Bool :=
  (decide ((p65 zaa=true)) &&
 (decide ((p66 (s65 zaa)=true)) &&
 (cond (!(s66 (s65 zaa)))
 true
 (decide ((p67 ((s65 zaa).list)=true)) &&
 (cond (s67 ((s65 zaa).list))
 (decide ((p76 c0 ((s65 zaa).list)=true)) &&
 true)
 true)))))
theorem zA5 (hs:zmd c0 zaa=true) (hk:K (zNp (zmc c0 zaa))):z75a (Wk K) [1,1] [] ⟨[(0,zS enc_55 3 zaa),(1,zP (.fn 76 [] [.fp (zaq c0) 0])),(4,zp 4 0)],[(4,.box 104 [.p (.nils),.p (.nils)])],[]⟩:=zaD (by kernel_rfl) (zay hs fun hc hs=>And.intro (And.intro (zE enc_55 3 zaa.get) hc) (zay hs fun hc hs=>And.intro (And.intro (zE enc_55 3 ((s65 zaa).list.Gates.get)) (And.intro (zE zah 3 ((s65 zaa).corners.get)) hc)) (zc hs hk (fun hs hk=>((wk hk (zc7 (.agg (zc7 (.nil _ _) (zc7 (.nil _ _) zhm))) (zc7 (.one (.rfl _)) zhm))):Wk K [.agg [.nils,.nils],.one (.int .i64 (5:Int))])) (fun hs hk=>(zay hs fun hc hs=>And.intro (And.intro (zE enc_55 3 ((s65 zaa).list.Gates.get)) hc) (zc hs hk (fun hs hk=>(zay hs fun hc hs=>And.intro (And.intro (zE enc_55 3 ((s65 zaa).list.Gates.get)) hc) (zt hk (fun hk=>((wk hk (zc7 (.agg (zc7 (.nil _ _) (zc7 (.nil _ _) zhm))) (zc7 (.one (.rfl _)) zhm))):Wk K [.agg [.nils,.nils],.one (.int .i64 (6:Int))])) (fun hk=>((zd5 hk):Wk K [.agg [.sl ((s65 zaa).list.Gates.len) 3 (fun i=>enc_55 ((s65 zaa).list.Gates.get i)),.sl ((s65 zaa).corners.len) 3 (fun i=>zah ((s65 zaa).corners.get i))],.one (.int .i64 (0:Int))]))))) (fun hs hk=>((zd5 hk):Wk K [.agg [.sl ((s65 zaa).list.Gates.len) 3 (fun i=>enc_55 ((s65 zaa).list.Gates.get i)),.sl ((s65 zaa).corners.len) 3 (fun i=>zah ((s65 zaa).corners.get i))],.one (.int .i64 (0:Int))]))))))))
def zoi (c0:Int) (zaa:(Sl Gate)):(set×Int) :=
  (cond (!(s64 zaa))
 ((⟨(⟨(⟨0,fun _=>default⟩:(Sl Gate))⟩:list),(⟨0,fun _=>default⟩:(Sl straight))⟩:set),(2:Int))
 (zmc c0 zaa))
def zEh (c0:Int) (zaa:(Sl Gate)):Bool :=
  (decide ((p64 zaa=true)) &&
 (cond (!(s64 zaa))
 true
 (zmd c0 zaa)))
end
theorem zOP (c0:Int) (zaa:(Sl Gate)) (K:List PA→Prop) (hs:zEh c0 zaa=true) (hk:K (zNp (zoi c0 zaa))):vcFun Try.prog zNo zvK 75 [.one (.sl zaa.len 3 (fun i=>enc_55 (zaa.get i))),.one (.fn 76 [] [.fp (zaq c0) 0])] (Wk K) :=
  zaD (by kernel_rfl) (zay hs fun hc hs=>And.intro (And.intro (zE enc_55 3 zaa.get) hc) (zc hs hk (fun hs hk=>((wk hk (zc7 (.agg (zc7 (.nil _ _) (zc7 (.nil _ _) zhm))) (zc7 (.one (.rfl _)) zhm))):Wk K [.agg [.nils,.nils],.one (.int .i64 (2:Int))])) (fun hs hk=>(zA5 hs hk))))
abbrev zNq:Ctrs:=csm T75 (fun _ _=>[]) (fun _=>false)
def zvL:Ann:=⟨31,[(0,zK [0,1,4] [4]),(1,zK [0,1,4,9] [4]),(2,zK [4,5] [4]),(3,zK [1,4,6] [4,6]),(4,zK [1,4,6,13] [4,6]),(5,zK [4,5] [4]),(6,zK [4,6,18] [4,6]),(7,zK [4,5] [4]),(8,zK [4,5] [4])],
 [],
 [(3,zK [0,1,4] [4])],
 [],[]⟩
abbrev zOQ:=(set×Int)
abbrev zNr (r:zOQ):List PA:=[.agg [.sl r.1.list.Gates.len 3 (fun i=>enc_55 (r.1.list.Gates.get i)),.sl r.1.corners.len 3 (fun i=>zah (r.1.corners.get i))],.one (.int .i64 r.2)]
@[irreducible] def z75b:=ptF Try.prog zNq zvL Try.f75
section
variable {K:List PA→Prop} {zaa:(Sl Gate)}
def zme (zaa:(Sl Gate)):(set×Int) :=
  (cond (!(s66 (s65 zaa)))
 ((⟨(⟨(⟨0,fun _=>default⟩:(Sl Gate))⟩:list),(⟨0,fun _=>default⟩:(Sl straight))⟩:set),(5:Int))
 (cond (s67 ((s65 zaa).list))
 (cond (!(s88 ((s65 zaa).list)))
 ((⟨(⟨(⟨0,fun _=>default⟩:(Sl Gate))⟩:list),(⟨0,fun _=>default⟩:(Sl straight))⟩:set),(6:Int))
 ((s65 zaa),(0:Int)))
 ((s65 zaa),(0:Int))))
def zmf (zaa:(Sl Gate)):Bool :=
  (decide ((p65 zaa=true)) &&
 (decide ((p66 (s65 zaa)=true)) &&
 (cond (!(s66 (s65 zaa)))
 true
 (decide ((p67 ((s65 zaa).list)=true)) &&
 true))))
theorem zA6 (hs:zmf zaa=true) (hk:K (zNr (zme zaa))):z75b (Wk K) [1,1] [] ⟨[(0,zS enc_55 3 zaa),(1,zP (.fn 88 [] [])),(4,zp 4 0)],[(4,.box 104 [.p (.nils),.p (.nils)])],[]⟩:=zaD (by kernel_rfl) (zay hs fun hc hs=>And.intro (And.intro (zE enc_55 3 zaa.get) hc) (zay hs fun hc hs=>And.intro (And.intro (zE enc_55 3 ((s65 zaa).list.Gates.get)) (And.intro (zE zah 3 ((s65 zaa).corners.get)) hc)) (zc hs hk (fun hs hk=>((wk hk (zc7 (.agg (zc7 (.nil _ _) (zc7 (.nil _ _) zhm))) (zc7 (.one (.rfl _)) zhm))):Wk K [.agg [.nils,.nils],.one (.int .i64 (5:Int))])) (fun hs hk=>(zay hs fun hc hs=>And.intro (And.intro (zE enc_55 3 ((s65 zaa).list.Gates.get)) hc) (zt hk (fun hk=>(And.intro (zE enc_55 3 ((s65 zaa).list.Gates.get)) (zt hk (fun hk=>((wk hk (zc7 (.agg (zc7 (.nil _ _) (zc7 (.nil _ _) zhm))) (zc7 (.one (.rfl _)) zhm))):Wk K [.agg [.nils,.nils],.one (.int .i64 (6:Int))])) (fun hk=>((zd5 hk):Wk K [.agg [.sl ((s65 zaa).list.Gates.len) 3 (fun i=>enc_55 ((s65 zaa).list.Gates.get i)),.sl ((s65 zaa).corners.len) 3 (fun i=>zah ((s65 zaa).corners.get i))],.one (.int .i64 (0:Int))]))))) (fun hk=>((zd5 hk):Wk K [.agg [.sl ((s65 zaa).list.Gates.len) 3 (fun i=>enc_55 ((s65 zaa).list.Gates.get i)),.sl ((s65 zaa).corners.len) 3 (fun i=>zah ((s65 zaa).corners.get i))],.one (.int .i64 (0:Int))]))))))))
def zzT (zaa:(Sl Gate)):(set×Int) :=
  (cond (!(s64 zaa))
 ((⟨(⟨(⟨0,fun _=>default⟩:(Sl Gate))⟩:list),(⟨0,fun _=>default⟩:(Sl straight))⟩:set),(2:Int))
 (zme zaa))
def zHs (zaa:(Sl Gate)):Bool :=
  (decide ((p64 zaa=true)) &&
 (cond (!(s64 zaa))
 true
 (zmf zaa)))
end
theorem zOR (zaa:(Sl Gate)) (K:List PA→Prop) (hs:zHs zaa=true) (hk:K (zNr (zzT zaa))):vcFun Try.prog zNq zvL 75 [.one (.sl zaa.len 3 (fun i=>enc_55 (zaa.get i))),.one (.fn 88 [] [])] (Wk K) :=
  zaD (by kernel_rfl) (zay hs fun hc hs=>And.intro (And.intro (zE enc_55 3 zaa.get) hc) (zc hs hk (fun hs hk=>((wk hk (zc7 (.agg (zc7 (.nil _ _) (zc7 (.nil _ _) zhm))) (zc7 (.one (.rfl _)) zhm))):Wk K [.agg [.nils,.nils],.one (.int .i64 (2:Int))])) (fun hs hk=>(zA6 hs hk))))
def zvM : List PA → COut
  | [.one (.sl a0_n a0_s a0_g),.one (.fn 77 [] [])]=>.det (IsE enc_55 3 a0_s a0_g∧p75 (⟨a0_n,zae a0_g⟩:(Sl Gate))=true) [.agg [.sl (((s75 (⟨a0_n,zae a0_g⟩:(Sl Gate))).1).list.Gates.len) 3 (fun i=>enc_55 (((s75 (⟨a0_n,zae a0_g⟩:(Sl Gate))).1).list.Gates.get i)),.sl (((s75 (⟨a0_n,zae a0_g⟩:(Sl Gate))).1).corners.len) 3 (fun i=>zah (((s75 (⟨a0_n,zae a0_g⟩:(Sl Gate))).1).corners.get i))],.one (.int .i64 ((s75 (⟨a0_n,zae a0_g⟩:(Sl Gate))).2))]
  | [.one (.sl a0_n a0_s a0_g),.one (.fn 76 [] [.fp [.int .i64 c0] 0])]=>.det (IsE enc_55 3 a0_s a0_g∧zEh c0 (⟨a0_n,zae a0_g⟩:(Sl Gate))=true) [.agg [.sl (((zoi c0 (⟨a0_n,zae a0_g⟩:(Sl Gate))).1).list.Gates.len) 3 (fun i=>enc_55 (((zoi c0 (⟨a0_n,zae a0_g⟩:(Sl Gate))).1).list.Gates.get i)),.sl (((zoi c0 (⟨a0_n,zae a0_g⟩:(Sl Gate))).1).corners.len) 3 (fun i=>zah (((zoi c0 (⟨a0_n,zae a0_g⟩:(Sl Gate))).1).corners.get i))],.one (.int .i64 ((zoi c0 (⟨a0_n,zae a0_g⟩:(Sl Gate))).2))]
  | [.one (.sl a0_n a0_s a0_g),.one (.fn 88 [] [])]=>.det (IsE enc_55 3 a0_s a0_g∧zHs (⟨a0_n,zae a0_g⟩:(Sl Gate))=true) [.agg [.sl (((zzT (⟨a0_n,zae a0_g⟩:(Sl Gate))).1).list.Gates.len) 3 (fun i=>enc_55 (((zzT (⟨a0_n,zae a0_g⟩:(Sl Gate))).1).list.Gates.get i)),.sl (((zzT (⟨a0_n,zae a0_g⟩:(Sl Gate))).1).corners.len) 3 (fun i=>zah (((zzT (⟨a0_n,zae a0_g⟩:(Sl Gate))).1).corners.get i))],.one (.int .i64 ((zzT (⟨a0_n,zae a0_g⟩:(Sl Gate))).2))]
  | _=>.no
theorem zI5:zaf Try.prog 75:=⟨_,rfl,rfl,by kernel_rfl⟩
theorem zL2:Ok Try.prog 75 zvM:=zhn zL1 zI5 fun args K h=>by
  unfold zvM at h
  split at h
  · rename_i a0_n a0_s a0_g
    obtain ⟨⟨⟨rfl,a0_f,rfl⟩,hs⟩,hk⟩:=h
    try rw [zac a0_f] at hs
    try rw [zac a0_f] at hk
    exact ⟨_,ze0 zf0 _,(fun _ _=>[]),(fun _=>false),zEf,q75 (⟨a0_n,a0_f⟩:(Sl Gate)) K hs hk⟩
  · rename_i a0_n a0_s a0_g c0
    obtain ⟨⟨⟨rfl,a0_f,rfl⟩,hs⟩,hk⟩:=h
    try rw [zac a0_f] at hs
    try rw [zac a0_f] at hk
    exact ⟨_,ze0 zf0 _,(fun _ _=>[]),(fun _=>false),zvK,zOP c0 (⟨a0_n,a0_f⟩:(Sl Gate)) K hs hk⟩
  · rename_i a0_n a0_s a0_g
    obtain ⟨⟨⟨rfl,a0_f,rfl⟩,hs⟩,hk⟩:=h
    try rw [zac a0_f] at hs
    try rw [zac a0_f] at hk
    exact ⟨_,ze0 zf0 _,(fun _ _=>[]),(fun _=>false),zvL,zOR (⟨a0_n,a0_f⟩:(Sl Gate)) K hs hk⟩
  · exact h.elim
abbrev T30:Tabs:=(((Tabs.nil.addF 68 zA0).addF 74 zoY).addF 75 zvM)
theorem zL3:TabsOk Try.prog T30:=(((TabsOk.nil.addF zNj).addF zIa).addF zL2)
abbrev G30:Ctrs:=csm T30 (fun _ _=>[]) (fun _=>false)
def zEi:Ann:=⟨35,[(0,zK [0,3,4,5] [3,4,5]),(1,zK [0,3,4,5,13] [3,4,5]),(2,zK [4,5,6] [4,5]),(3,zK [3,4,5,7,8] [3,4,5,7]),(4,zK [3,4,5,7,8,23] [3,4,5,7]),(5,zK [4,5,6] [4,5]),(6,zK [4,5,9,10] [4,5,9,10]),(7,zK [4,5,6] [4,5])],
 [],
 [(2,zK [0,3,4,5,13] [3,4,5]),(3,zK [0,3,4,5] [3,4,5]),(4,zK [3,4,5,7,8] [3,4,5,7]),(6,zK [3,4,5,7] [3,4,5,7]),(7,zK [4,5,9,10] [4,5,9,10])],
 [],[]⟩
abbrev R30:=(Frac×Frac×Int)
abbrev e30 (r:R30):List PA:=[.agg [.int .i64 r.1.Num,.int .i64 r.1.Den],.agg [.int .i64 r.2.1.Num,.int .i64 r.2.1.Den],.one (.int .i64 r.2.2)]
@[irreducible] def z30:=ptF Try.prog G30 zEi Try.f30
section
variable {K:List PA→Prop} {zaa:(Sl Gate)} {z:Int} {zpo:Bool} {ev2:Int} {zan:(Sl Gate)} {zao:(Sl straight)} {zvN:Nat→List PV} {zvO:Nat→List PV} {ziB:(Sl Gate)} {ziC:(Sl straight)} {zvP:Nat→List PV} {zvQ:Nat→List PV} {zmg:Int} {zmh:Int} {ziV:Int} {ziW:Int}
def zpp (zmg:Int) (zmh:Int) (ziV:Int) (ziW:Int):(Frac×Frac×Int) :=
  ((⟨zmg,zmh⟩:Frac),(⟨ziV,ziW⟩:Frac),(0:Int))
theorem zEj (hk:K (e30 (zpp zmg zmh ziV ziW))):z30 K [1,1,1,1,1] [] ⟨[(4,zp 4 0),(5,zp 5 0),(9,zp 9 0),(10,zp 10 0)],[(4,.box 25 (zm (zad (⟨(0:Int),(0:Int)⟩:Frac)))),(5,.box 25 (zm (zad (⟨(0:Int),(0:Int)⟩:Frac)))),(9,.box 25 (zm (zad (⟨zmg,zmh⟩:Frac)))),(10,.box 25 (zm (zad (⟨ziV,ziW⟩:Frac))))],[]⟩:=zaD (by kernel_rfl) hk
def zpq (z:Int) (ziB:(Sl Gate)) (ziC:(Sl straight)):(Frac×Frac×Int) :=
  (zpp (((s68 (⟨(⟨ziB⟩:list),ziC⟩:set) z).1).Num) (((s68 (⟨(⟨ziB⟩:list),ziC⟩:set) z).1).Den) (((s68 (⟨(⟨ziB⟩:list),ziC⟩:set) z).2).Num) (((s68 (⟨(⟨ziB⟩:list),ziC⟩:set) z).2).Den))
def zpr (z:Int) (ziB:(Sl Gate)) (ziC:(Sl straight)):Bool :=
  (decide ((p68 (⟨(⟨ziB⟩:list),ziC⟩:set) z=true)) &&
 true)
theorem zEk (hs:zpr z ziB ziC=true) (hk:K (e30 (zpq z ziB ziC))) (zEl:zvP=zg enc_55 ziB) (zEm:zvQ=zg zah ziC):z30 K [1,1,1,1] [] ⟨[(3,zp 3 0),(4,zp 4 0),(5,zp 5 0),(7,zp 7 0)],[(3,.fbox [.int .i64 z]),(4,.box 25 (zm (zad (⟨(0:Int),(0:Int)⟩:Frac)))),(5,.box 25 (zm (zad (⟨(0:Int),(0:Int)⟩:Frac)))),(7,.box 104 [.p (.sl ziB.len 3 zvP),.p (.sl ziC.len 3 zvQ)])],[]⟩:=by subst zEl;subst zEm;exact zaD (by kernel_rfl) (zay hs fun hc hs=>And.intro (And.intro (zE enc_55 3 ziB.get) (And.intro (zE zah 3 ziC.get) hc)) (zEj hk))
def zmi (z:Int) (ev2:Int) (zan:(Sl Gate)) (zao:(Sl straight)):(Frac×Frac×Int) :=
  (cond (ev2 != (0:Int))
 ((⟨(0:Int),(0:Int)⟩:Frac),(⟨(0:Int),(0:Int)⟩:Frac),ev2)
 (zpq z zan zao))
def zmj (z:Int) (ev2:Int) (zan:(Sl Gate)) (zao:(Sl straight)):Bool :=
  (cond (ev2 != (0:Int))
 true
 (zpr z zan zao))
theorem zEn (hs:zmj z ev2 zan zao=true) (hk:K (e30 (zmi z ev2 zan zao))) (zEo:zvN=zg enc_55 zan) (zEp:zvO=zg zah zao):z30 K [1,1,1] [] ⟨[(3,zp 3 0),(4,zp 4 0),(5,zp 5 0),(7,zp 7 0),(8,zI ev2)],[(3,.fbox [.int .i64 z]),(4,.box 25 (zm (zad (⟨(0:Int),(0:Int)⟩:Frac)))),(5,.box 25 (zm (zad (⟨(0:Int),(0:Int)⟩:Frac)))),(7,.box 104 [.p (.sl zan.len 3 zvN),.p (.sl zao.len 3 zvO)])],[]⟩:=by subst zEo;subst zEp;exact zaD (by kernel_rfl) (zc hs hk (fun hs hk=>hk) (fun hs hk=>(zEk hs hk rfl rfl)))
def zps (zaa:(Sl Gate)) (z:Int):(Frac×Frac×Int) :=
  (zmi z ((zoi z zaa).2) (((zoi z zaa).1).list.Gates) (((zoi z zaa).1).corners))
def zpt (zaa:(Sl Gate)) (z:Int):Bool :=
  (decide ((zEh z zaa=true)) &&
 (zmj z ((zoi z zaa).2) (((zoi z zaa).1).list.Gates) (((zoi z zaa).1).corners)))
theorem zEq (hs:zpt zaa z=true) (hk:K (e30 (zps zaa z))):z30 K [1,1] [] ⟨[(0,zS enc_55 3 zaa),(3,zp 3 0),(4,zp 4 0),(5,zp 5 0)],[(3,.box 3 [zi z]),(4,.box 25 (zm (zad (⟨(0:Int),(0:Int)⟩:Frac)))),(5,.box 25 (zm (zad (⟨(0:Int),(0:Int)⟩:Frac))))],[]⟩:=zaD (by kernel_rfl) (zay hs fun hc hs=>And.intro (And.intro (zE enc_55 3 zaa.get) hc) (zEn hs hk rfl rfl))
def zpu (zaa:(Sl Gate)) (z:Int) (zpo:Bool):(Frac×Frac×Int) :=
  (cond zpo
 ((⟨(0:Int),(0:Int)⟩:Frac),(⟨(0:Int),(0:Int)⟩:Frac),(2:Int))
 (zps zaa z))
def zpv (zaa:(Sl Gate)) (z:Int) (zpo:Bool):Bool :=
  (cond zpo
 true
 (zpt zaa z))
theorem zEr (hs:zpv zaa z zpo=true) (hk:K (e30 (zpu zaa z zpo))):z30 K [1,0,1] [] ⟨[(0,zS enc_55 3 zaa),(3,zp 3 0),(4,zp 4 0),(5,zp 5 0),(13,zB zpo)],[(3,.box 3 [zi z]),(4,.box 25 (zm (zad (⟨(0:Int),(0:Int)⟩:Frac)))),(5,.box 25 (zm (zad (⟨(0:Int),(0:Int)⟩:Frac))))],[]⟩:=zaD (by kernel_rfl) (zc hs hk (fun hs hk=>hk) (fun hs hk=>(zEq hs hk)))
def s30 (zaa:(Sl Gate)) (z:Int):(Frac×Frac×Int) :=
  (zpu zaa z (!(s74 z (-100000:Int) (200000:Int))))
def p30 (zaa:(Sl Gate)) (z:Int):Bool :=
  (zpv zaa z (!(s74 z (-100000:Int) (200000:Int))))
end
theorem q30 (zaa:(Sl Gate)) (z:Int) (K:List PA→Prop) (hs:p30 zaa z=true) (hk:K (e30 (s30 zaa z))):vcFun Try.prog G30 zEi 30 [.one (.sl zaa.len 3 (fun i=>enc_55 (zaa.get i))),.one (.int .i64 z)] K :=
  zaD (by kernel_rfl) (zEr hs hk)
def zA7 : List PA → COut
  | [.one (.sl a0_n a0_s a0_g),.one (.int .i64 a1)]=>.det (IsE enc_55 3 a0_s a0_g∧p30 (⟨a0_n,zae a0_g⟩:(Sl Gate)) a1=true) [.agg [.int .i64 (((s30 (⟨a0_n,zae a0_g⟩:(Sl Gate)) a1).1).Num),.int .i64 (((s30 (⟨a0_n,zae a0_g⟩:(Sl Gate)) a1).1).Den)],.agg [.int .i64 (((s30 (⟨a0_n,zae a0_g⟩:(Sl Gate)) a1).2.1).Num),.int .i64 (((s30 (⟨a0_n,zae a0_g⟩:(Sl Gate)) a1).2.1).Den)],.one (.int .i64 ((s30 (⟨a0_n,zae a0_g⟩:(Sl Gate)) a1).2.2))]
  | _=>.no
theorem zI6:zaf Try.prog 30:=⟨_,rfl,rfl,by kernel_rfl⟩
theorem zNs:Ok Try.prog 30 zA7:=zaF zL3 zI6 fun args K h=>by
  unfold zA7 at h
  split at h
  · rename_i a0_n a0_s a0_g a1
    obtain ⟨⟨⟨rfl,a0_f,rfl⟩,hs⟩,hk⟩:=h
    try rw [zac a0_f] at hs
    try rw [zac a0_f] at hk
    exact ⟨(fun _ _=>[]),(fun _=>false),zEi,q30 (⟨a0_n,a0_f⟩:(Sl Gate)) a1 K hs hk⟩
  · exact h.elim
abbrev T19:Tabs:=((((((Tabs.nil.addF 64 ztC).addF 65 zvI).addF 66 zvJ).addF 67 zo3).addF 68 zA0).addF 69 ztz)
theorem zL4:TabsOk Try.prog T19:=((((((TabsOk.nil.addF zKY).addF zLV).addF zLX).addF zIo).addF zNj).addF zKW)
abbrev G19:Ctrs:=csm T19 (fun _ _=>[]) (fun _=>false)
def zEs:Ann:=⟨124,[(0,zK [0,1,2,3,9,10] [9,10]),(1,zK [0,1,2,3,9,10,12] [9,10,12]),(2,zK [0,1,2,3,9,10,12,44] [9,10,12]),(3,zK [8,9,10,11] [9,10]),(4,zK [2,3,9,10,12,13,14] [9,10,12,13,14]),(5,zK [2,3,9,10,12,13,14,58] [9,10,12,13,14]),(6,zK [8,9,10,11] [9,10]),(7,zK [2,3,9,10,12,13,14,68] [9,10,12,13,14]),(8,zK [8,9,10,11] [9,10]),(9,zK [2,3,9,10,12,13,14,15,16] [9,10,12,13,14,15,16]),(10,zK [2,3,9,10,12,13,14,15,16,17] [9,10,12,13,14,15,16]),(11,zK [2,3,9,10,12,13,14,15,16,17,76,77] [9,10,12,13,14,15,16]),(12,zK [2,3,9,10,12,13,14,15,16,17,76,77,78] [9,10,12,13,14,15,16]),(13,zK [2,3,9,10,12,13,14,15,16,17,18,76,77] [9,10,12,13,14,15,16]),(14,zK [2,3,9,10,12,13,14,15,16,17,18,19,20,76,77] [9,10,12,13,14,15,16,19,20]),(15,zK [2,3,9,10,12,13,14,15,16,17,18,19,20,21,22,76,77] [9,10,12,13,14,15,16,19,20,21,22]),(16,zK [2,3,9,10,12,13,14,15,16,17,18,19,20,21,22,76,77] [9,10,12,13,14,15,16,19,20,21,22]),(17,zK [2,3,9,10,12,13,14,15,16,17,18,20,21,22,76,77,101] [9,10,12,13,14,15,16,20,21,22]),(18,zK [2,3,9,10,12,13,14,15,16,17,18,20,22,76,77] [9,10,12,13,14,15,16,20,22]),(19,zK [2,3,9,10,12,13,14,15,16,17,18,22,76,77,106] [9,10,12,13,14,15,16,22]),(20,zK [2,3,9,10,12,13,14,15,16,17,18,76,77] [9,10,12,13,14,15,16]),(21,zK [2,3,9,10,12,13,14,15,16,17,18,76,77,111] [9,10,12,13,14,15,16]),(22,zK [3,9,10,12,15,16,17] [9,10,12,15,16]),(23,zK [2,3,9,10,12,13,14,15,16,17,76,77] [9,10,12,13,14,15,16]),(24,zK [9,10,12,15,16,17,118] [9,10,12,15,16]),(25,zK [8,9,10,11] [9,10]),(26,zK [8,9,10,11] [9,10])],
 [(12,zK [2,3,9,10,12,13,14,15,16,17,76,77] [9,10,12,13,14,15,16])],
 [(3,zK [0,1,2,3,9,10,12,44] [9,10,12]),(4,zK [0,1,2,3,9,10,12] [9,10,12]),(5,zK [2,3,9,10,12,13,14] [9,10,12,13,14]),(6,zK [2,3,9,10,12,13,14,58] [9,10,12,13,14]),(7,zK [2,3,9,10,12,13,14] [9,10,12,13,14]),(8,zK [2,3,9,10,12,13,14,68] [9,10,12,13,14]),(9,zK [2,3,9,10,12,13,14] [9,10,12,13,14]),(15,zK [2,3,9,10,12,13,14,15,16,17,18,19,20,76,77] [9,10,12,13,14,15,16,19,20]),(24,zK [3,9,10,12,15,16,17] [9,10,12,15,16]),(16,zK [2,3,9,10,12,13,14,15,16,17,18,19,20,21,22,76,77] [9,10,12,13,14,15,16,19,20,21,22]),(18,zK [2,3,9,10,12,13,14,15,16,17,18,20,21,22,76,77,101] [9,10,12,13,14,15,16,20,21,22]),(19,zK [2,3,9,10,12,13,14,15,16,17,18,20,22,76,77] [9,10,12,13,14,15,16,20,22]),(20,zK [2,3,9,10,12,13,14,15,16,17,18,22,76,77,106] [9,10,12,13,14,15,16,22]),(22,zK [2,3,9,10,12,13,14,15,16,17,18,76,77,111] [9,10,12,13,14,15,16])],
 [],[]⟩
abbrev R19:=(Int×Frac×Frac×Int)
abbrev e19 (r:R19):List PA:=[.one (.int .i64 r.1),.agg [.int .i64 r.2.1.Num,.int .i64 r.2.1.Den],.agg [.int .i64 r.2.2.1.Num,.int .i64 r.2.2.1.Den],.one (.int .i64 r.2.2.2)]
@[irreducible] def z19:=ptF Try.prog G19 zEs Try.f19
def zB9 (low:Int) (high:Int) (zar:(Sl Gate)) (zaA:(Sl straight)) (zas:(Sl Gate)) (zaB:(Sl straight)) (zct:Int) (zby:Int) (zbz:Int) (zcI:Int) (zcJ:Int):St:=⟨[(2,zI low),(3,zI high),(9,zp 9 0),(10,zp 10 0),(12,zp 12 0),(13,zp 13 0),(14,zp 14 0),(15,zp 15 0),(16,zp 16 0),(17,zI (w64 (high+(1:Int)))),(76,zI (w64 ((w64 (high - low))+(1:Int)))),(77,zI zct)],[(9,.box 25 (zm (zad (⟨(0:Int),(0:Int)⟩:Frac)))),(10,.box 25 (zm (zad (⟨(0:Int),(0:Int)⟩:Frac)))),(12,.box 25 (zm (zad (⟨(0:Int),(0:Int)⟩:Frac)))),(13,.box 104 (zm (za2 (⟨(⟨zar⟩:list),zaA⟩:set)))),(14,.box 104 (zm (za2 (⟨(⟨zas⟩:list),zaB⟩:set)))),(15,.box 25 (zm (zad (⟨zby,zbz⟩:Frac)))),(16,.box 25 (zm (zad (⟨zcI,zcJ⟩:Frac))))],[]⟩
abbrev znZ (K:List PA→Prop) (low:Int) (high:Int) (zar:(Sl Gate)) (zaA:(Sl straight)) (zas:(Sl Gate)) (zaB:(Sl straight)) (X:St→Prop) (P:Int→Int→Int→Int→Int→Bool) (S:Int→Int→Int→Int→Int→(Int×Frac×Frac×Int)):Prop:=∀ ⦃zct:Int⦄ ⦃zby:Int⦄ ⦃zbz:Int⦄ ⦃zcI:Int⦄ ⦃zcJ:Int⦄,P zct zby zbz zcI zcJ=true→K (e19 (S zct zby zbz zcI zcJ))→X (zB9 low high zar zaA zas zaB zct zby zbz zcI zcJ)
section
variable {K:List PA→Prop} {a:(Sl Gate)} {b:(Sl Gate)} {low:Int} {high:Int} {zpw:Bool} {zar:(Sl Gate)} {zaA:(Sl straight)} {zas:(Sl Gate)} {zaB:(Sl straight)} {zvR:Nat→List PV} {zvS:Nat→List PV} {zvT:Nat→List PV} {zvU:Nat→List PV} {zpx:Bool} {zpy:Bool} {zct:Int} {zby:Int} {zbz:Int} {zcI:Int} {zcJ:Int} {X7:St→Prop} {P7:Int→Int→Int→Int→Int→Bool} {S7:Int→Int→Int→Int→Int→(Int×Frac×Frac×Int)} {iv8:Int} {zpz:Int} {zez:Int} {zeA:Int} {zjV:Int} {zjW:Int} {zdF:Int} {zdG:Int} {zbH:Int} {zbI:Int} {zI7:Int} {ziX:Int} {ziY:Int} {zsj:Int} {zsk:Int} {zhc:Int} {zjX:Int} {ze8:Int} {ze9:Int} {zjY:Int} {zjZ:Int} {zde:Int} {zdf:Int} {zbr:Int} {zbs:Int} {zA8:Int} {zg4:Int} {zgl:Bool} {zEt:Int} {zj0:Int} {zaK:Int} {zaL:Int} {zA9:Int} {zg5:Int} {zgm:Bool} {zHt:Int} {zj1:Int} {zgn:Bool} {zfa:Int} {zfb:Int}
def zpA (high:Int) (zI7:Int) (ziX:Int) (ziY:Int) (zsj:Int) (zsk:Int):(Int×Frac×Frac×Int) :=
  (cond (decide (zI7 > high))
 ((0:Int),(⟨(0:Int),(0:Int)⟩:Frac),(⟨(0:Int),(0:Int)⟩:Frac),(5:Int))
 (zI7,(⟨ziX,ziY⟩:Frac),(⟨zsj,zsk⟩:Frac),(0:Int)))
theorem zvV (hk:K (e19 (zpA high zI7 ziX ziY zsj zsk))):z19 K [1,0,1,1,1,1,1,1,1,1,1] [] ⟨[(3,zI high),(9,zp 9 0),(10,zp 10 0),(12,zp 12 0),(15,zp 15 0),(16,zp 16 0),(17,zI zI7)],[(9,.box 25 (zm (zad (⟨(0:Int),(0:Int)⟩:Frac)))),(10,.box 25 (zm (zad (⟨(0:Int),(0:Int)⟩:Frac)))),(12,.box 25 (zm (zad (⟨(0:Int),(0:Int)⟩:Frac)))),(15,.box 25 (zm (zad (⟨ziX,ziY⟩:Frac)))),(16,.box 25 (zm (zad (⟨zsj,zsk⟩:Frac))))],[]⟩:=zaD (by kernel_rfl) (zt hk (fun hk=>hk) (fun hk=>hk))
def zmk (S7:Int→Int→Int→Int→Int→(Int×Frac×Frac×Int)) (low:Int) (high:Int) (zar:(Sl Gate)) (zaA:(Sl straight)) (zas:(Sl Gate)) (zaB:(Sl straight)) (zaK:Int) (zaL:Int) (zHt:Int) (zj1:Int) (zgn:Bool) (zfa:Int) (zfb:Int):(Int×Frac×Frac×Int) :=
  (cond zgn
 (zpA high (w64 (low+zHt)) zaK zaL zfa zfb)
 (S7 (w64 (zj1+(1:Int))) zaK zaL zfa zfb))
def zml (P7:Int→Int→Int→Int→Int→Bool) (low:Int) (high:Int) (zar:(Sl Gate)) (zaA:(Sl straight)) (zas:(Sl Gate)) (zaB:(Sl straight)) (zaK:Int) (zaL:Int) (zHt:Int) (zj1:Int) (zgn:Bool) (zfa:Int) (zfb:Int):Bool :=
  (cond zgn
 true
 (P7 (w64 (zj1+(1:Int))) zaK zaL zfa zfb))
theorem zsl (hX7:znZ K low high zar zaA zas zaB X7 P7 S7) (hs:zml P7 low high zar zaA zas zaB zaK zaL zHt zj1 zgn zfa zfb=true) (hk:K (e19 (zmk S7 low high zar zaA zas zaB zaK zaL zHt zj1 zgn zfa zfb))):z19 K [1,0,1,1,1,1,1,1,1,1,0,1,0,0,1,1,0,0,1,1,1,1,1,1,1] [X7] ⟨[(2,zI low),(3,zI high),(9,zp 9 0),(10,zp 10 0),(12,zp 12 0),(13,zp 13 0),(14,zp 14 0),(15,zp 15 0),(16,zp 16 0),(17,zI (w64 (high+(1:Int)))),(18,zI zHt),(76,zI (w64 ((w64 (high - low))+(1:Int)))),(77,zI zj1),(111,zB zgn)],[(9,.box 25 (zm (zad (⟨(0:Int),(0:Int)⟩:Frac)))),(10,.box 25 (zm (zad (⟨(0:Int),(0:Int)⟩:Frac)))),(12,.box 25 (zm (zad (⟨(0:Int),(0:Int)⟩:Frac)))),(13,.box 104 (zm (za2 (⟨(⟨zar⟩:list),zaA⟩:set)))),(14,.box 104 (zm (za2 (⟨(⟨zas⟩:list),zaB⟩:set)))),(15,.box 25 (zm (zad (⟨zaK,zaL⟩:Frac)))),(16,.box 25 (zm (zad (⟨zfa,zfb⟩:Frac))))],[]⟩:=zaD (by kernel_rfl) (zc hs hk (fun hs hk=>(zvV hk)) (fun hs hk=>(hX7 hs hk)))
def zsm (S7:Int→Int→Int→Int→Int→(Int×Frac×Frac×Int)) (low:Int) (high:Int) (zar:(Sl Gate)) (zaA:(Sl straight)) (zas:(Sl Gate)) (zaB:(Sl straight)) (zbH:Int) (zbI:Int) (zbr:Int) (zbs:Int) (zaK:Int) (zaL:Int) (zA9:Int) (zg5:Int) (zgm:Bool):(Int×Frac×Frac×Int) :=
  (cond zgm
 (zmk S7 low high zar zaA zas zaB zaK zaL zA9 zg5 (decide ((s69 (⟨zaK,zaL⟩:Frac) (⟨zbr,zbs⟩:Frac))≤(0:Int))) zbr zbs)
 (zmk S7 low high zar zaA zas zaB zaK zaL zA9 zg5 (decide ((s69 (⟨zaK,zaL⟩:Frac) (⟨zbH,zbI⟩:Frac))≤(0:Int))) zbH zbI))
def zsn (P7:Int→Int→Int→Int→Int→Bool) (low:Int) (high:Int) (zar:(Sl Gate)) (zaA:(Sl straight)) (zas:(Sl Gate)) (zaB:(Sl straight)) (zbH:Int) (zbI:Int) (zbr:Int) (zbs:Int) (zaK:Int) (zaL:Int) (zA9:Int) (zg5:Int) (zgm:Bool):Bool :=
  (cond zgm
 (zml P7 low high zar zaA zas zaB zaK zaL zA9 zg5 (decide ((s69 (⟨zaK,zaL⟩:Frac) (⟨zbr,zbs⟩:Frac))≤(0:Int))) zbr zbs)
 (zml P7 low high zar zaA zas zaB zaK zaL zA9 zg5 (decide ((s69 (⟨zaK,zaL⟩:Frac) (⟨zbH,zbI⟩:Frac))≤(0:Int))) zbH zbI))
theorem zBa (hX7:znZ K low high zar zaA zas zaB X7 P7 S7) (hs:zsn P7 low high zar zaA zas zaB zbH zbI zbr zbs zaK zaL zA9 zg5 zgm=true) (hk:K (e19 (zsm S7 low high zar zaA zas zaB zbH zbI zbr zbs zaK zaL zA9 zg5 zgm))):z19 K [1,0,1,1,1,1,1,1,1,1,0,1,0,0,1,1,0,0,1,1,1,1,1,0,1] [X7] ⟨[(2,zI low),(3,zI high),(9,zp 9 0),(10,zp 10 0),(12,zp 12 0),(13,zp 13 0),(14,zp 14 0),(15,zp 15 0),(16,zp 16 0),(17,zI (w64 (high+(1:Int)))),(18,zI zA9),(22,zp 22 0),(76,zI (w64 ((w64 (high - low))+(1:Int)))),(77,zI zg5),(106,zB zgm)],[(9,.box 25 (zm (zad (⟨(0:Int),(0:Int)⟩:Frac)))),(10,.box 25 (zm (zad (⟨(0:Int),(0:Int)⟩:Frac)))),(12,.box 25 (zm (zad (⟨(0:Int),(0:Int)⟩:Frac)))),(13,.box 104 (zm (za2 (⟨(⟨zar⟩:list),zaA⟩:set)))),(14,.box 104 (zm (za2 (⟨(⟨zas⟩:list),zaB⟩:set)))),(15,.box 25 (zm (zad (⟨zaK,zaL⟩:Frac)))),(16,.box 25 (zm (zad (⟨zbH,zbI⟩:Frac)))),(22,.box 25 (zm (zad (⟨zbr,zbs⟩:Frac))))],[]⟩:=zaD (by kernel_rfl) (zc hs hk (fun hs hk=>(zsl hX7 hs hk)) (fun hs hk=>(zsl hX7 hs hk)))
def zmm (S7:Int→Int→Int→Int→Int→(Int×Frac×Frac×Int)) (low:Int) (high:Int) (zar:(Sl Gate)) (zaA:(Sl straight)) (zas:(Sl Gate)) (zaB:(Sl straight)) (zbH:Int) (zbI:Int) (zbr:Int) (zbs:Int) (zEt:Int) (zj0:Int) (zaK:Int) (zaL:Int):(Int×Frac×Frac×Int) :=
  (zsm S7 low high zar zaA zas zaB zbH zbI zbr zbs zaK zaL zEt zj0 (decide ((s69 (⟨zbr,zbs⟩:Frac) (⟨zbH,zbI⟩:Frac)) < (0:Int))))
def zmn (P7:Int→Int→Int→Int→Int→Bool) (low:Int) (high:Int) (zar:(Sl Gate)) (zaA:(Sl straight)) (zas:(Sl Gate)) (zaB:(Sl straight)) (zbH:Int) (zbI:Int) (zbr:Int) (zbs:Int) (zEt:Int) (zj0:Int) (zaK:Int) (zaL:Int):Bool :=
  (zsn P7 low high zar zaA zas zaB zbH zbI zbr zbs zaK zaL zEt zj0 (decide ((s69 (⟨zbr,zbs⟩:Frac) (⟨zbH,zbI⟩:Frac)) < (0:Int))))
theorem zso (hX7:znZ K low high zar zaA zas zaB X7 P7 S7) (hs:zmn P7 low high zar zaA zas zaB zbH zbI zbr zbs zEt zj0 zaK zaL=true) (hk:K (e19 (zmm S7 low high zar zaA zas zaB zbH zbI zbr zbs zEt zj0 zaK zaL))):z19 K [1,0,1,1,1,1,1,1,1,1,0,1,0,0,1,1,0,0,1,1,1,1,1] [X7] ⟨[(2,zI low),(3,zI high),(9,zp 9 0),(10,zp 10 0),(12,zp 12 0),(13,zp 13 0),(14,zp 14 0),(15,zp 15 0),(16,zp 16 0),(17,zI (w64 (high+(1:Int)))),(18,zI zEt),(20,zp 20 0),(22,zp 22 0),(76,zI (w64 ((w64 (high - low))+(1:Int)))),(77,zI zj0)],[(9,.box 25 (zm (zad (⟨(0:Int),(0:Int)⟩:Frac)))),(10,.box 25 (zm (zad (⟨(0:Int),(0:Int)⟩:Frac)))),(12,.box 25 (zm (zad (⟨(0:Int),(0:Int)⟩:Frac)))),(13,.box 104 (zm (za2 (⟨(⟨zar⟩:list),zaA⟩:set)))),(14,.box 104 (zm (za2 (⟨(⟨zas⟩:list),zaB⟩:set)))),(15,.box 25 (zm (zad (⟨zaK,zaL⟩:Frac)))),(16,.box 25 (zm (zad (⟨zbH,zbI⟩:Frac)))),(20,.box 25 (zm (zad (⟨zbH,zbI⟩:Frac)))),(22,.box 25 (zm (zad (⟨zbr,zbs⟩:Frac))))],[]⟩:=zaD (by kernel_rfl) (zBa hX7 hs hk)
def zsp (S7:Int→Int→Int→Int→Int→(Int×Frac×Frac×Int)) (low:Int) (high:Int) (zar:(Sl Gate)) (zaA:(Sl straight)) (zas:(Sl Gate)) (zaB:(Sl straight)) (zdF:Int) (zdG:Int) (zbH:Int) (zbI:Int) (zde:Int) (zdf:Int) (zbr:Int) (zbs:Int) (zA8:Int) (zg4:Int) (zgl:Bool):(Int×Frac×Frac×Int) :=
  (cond zgl
 (zmm S7 low high zar zaA zas zaB zbH zbI zbr zbs zA8 zg4 zde zdf)
 (zmm S7 low high zar zaA zas zaB zbH zbI zbr zbs zA8 zg4 zdF zdG))
def zsq (P7:Int→Int→Int→Int→Int→Bool) (low:Int) (high:Int) (zar:(Sl Gate)) (zaA:(Sl straight)) (zas:(Sl Gate)) (zaB:(Sl straight)) (zdF:Int) (zdG:Int) (zbH:Int) (zbI:Int) (zde:Int) (zdf:Int) (zbr:Int) (zbs:Int) (zA8:Int) (zg4:Int) (zgl:Bool):Bool :=
  (cond zgl
 (zmn P7 low high zar zaA zas zaB zbH zbI zbr zbs zA8 zg4 zde zdf)
 (zmn P7 low high zar zaA zas zaB zbH zbI zbr zbs zA8 zg4 zdF zdG))
theorem zBb (hX7:znZ K low high zar zaA zas zaB X7 P7 S7) (hs:zsq P7 low high zar zaA zas zaB zdF zdG zbH zbI zde zdf zbr zbs zA8 zg4 zgl=true) (hk:K (e19 (zsp S7 low high zar zaA zas zaB zdF zdG zbH zbI zde zdf zbr zbs zA8 zg4 zgl))):z19 K [1,0,1,1,1,1,1,1,1,1,0,1,0,0,1,1,0,0,1,1,1,1,0,1] [X7] ⟨[(2,zI low),(3,zI high),(9,zp 9 0),(10,zp 10 0),(12,zp 12 0),(13,zp 13 0),(14,zp 14 0),(15,zp 15 0),(16,zp 16 0),(17,zI (w64 (high+(1:Int)))),(18,zI zA8),(20,zp 20 0),(21,zp 21 0),(22,zp 22 0),(76,zI (w64 ((w64 (high - low))+(1:Int)))),(77,zI zg4),(101,zB zgl)],[(9,.box 25 (zm (zad (⟨(0:Int),(0:Int)⟩:Frac)))),(10,.box 25 (zm (zad (⟨(0:Int),(0:Int)⟩:Frac)))),(12,.box 25 (zm (zad (⟨(0:Int),(0:Int)⟩:Frac)))),(13,.box 104 (zm (za2 (⟨(⟨zar⟩:list),zaA⟩:set)))),(14,.box 104 (zm (za2 (⟨(⟨zas⟩:list),zaB⟩:set)))),(15,.box 25 (zm (zad (⟨zdF,zdG⟩:Frac)))),(16,.box 25 (zm (zad (⟨zbH,zbI⟩:Frac)))),(20,.box 25 (zm (zad (⟨zbH,zbI⟩:Frac)))),(21,.box 25 (zm (zad (⟨zde,zdf⟩:Frac)))),(22,.box 25 (zm (zad (⟨zbr,zbs⟩:Frac))))],[]⟩:=zaD (by kernel_rfl) (zc hs hk (fun hs hk=>(zso hX7 hs hk)) (fun hs hk=>(zso hX7 hs hk)))
def zsr (S7:Int→Int→Int→Int→Int→(Int×Frac×Frac×Int)) (low:Int) (high:Int) (zar:(Sl Gate)) (zaA:(Sl straight)) (zas:(Sl Gate)) (zaB:(Sl straight)) (zdF:Int) (zdG:Int) (zbH:Int) (zbI:Int) (zhc:Int) (zjX:Int) (ze8:Int) (ze9:Int) (zjY:Int) (zjZ:Int) (zde:Int) (zdf:Int) (zbr:Int) (zbs:Int):(Int×Frac×Frac×Int) :=
  (zsp S7 low high zar zaA zas zaB zdF zdG zbH zbI zde zdf zbr zbs zhc zjX (decide ((s69 (⟨zde,zdf⟩:Frac) (⟨zdF,zdG⟩:Frac)) > (0:Int))))
def zss (P7:Int→Int→Int→Int→Int→Bool) (low:Int) (high:Int) (zar:(Sl Gate)) (zaA:(Sl straight)) (zas:(Sl Gate)) (zaB:(Sl straight)) (zdF:Int) (zdG:Int) (zbH:Int) (zbI:Int) (zhc:Int) (zjX:Int) (ze8:Int) (ze9:Int) (zjY:Int) (zjZ:Int) (zde:Int) (zdf:Int) (zbr:Int) (zbs:Int):Bool :=
  (zsq P7 low high zar zaA zas zaB zdF zdG zbH zbI zde zdf zbr zbs zhc zjX (decide ((s69 (⟨zde,zdf⟩:Frac) (⟨zdF,zdG⟩:Frac)) > (0:Int))))
theorem zBc (hX7:znZ K low high zar zaA zas zaB X7 P7 S7) (hs:zss P7 low high zar zaA zas zaB zdF zdG zbH zbI zhc zjX ze8 ze9 zjY zjZ zde zdf zbr zbs=true) (hk:K (e19 (zsr S7 low high zar zaA zas zaB zdF zdG zbH zbI zhc zjX ze8 ze9 zjY zjZ zde zdf zbr zbs))):z19 K [1,0,1,1,1,1,1,1,1,1,0,1,0,0,1,1,0,0,1,1,1] [X7] ⟨[(2,zI low),(3,zI high),(9,zp 9 0),(10,zp 10 0),(12,zp 12 0),(13,zp 13 0),(14,zp 14 0),(15,zp 15 0),(16,zp 16 0),(17,zI (w64 (high+(1:Int)))),(18,zI zhc),(19,zp 19 0),(20,zp 20 0),(21,zp 21 0),(22,zp 22 0),(76,zI (w64 ((w64 (high - low))+(1:Int)))),(77,zI zjX)],[(9,.box 25 (zm (zad (⟨(0:Int),(0:Int)⟩:Frac)))),(10,.box 25 (zm (zad (⟨(0:Int),(0:Int)⟩:Frac)))),(12,.box 25 (zm (zad (⟨(0:Int),(0:Int)⟩:Frac)))),(13,.box 104 (zm (za2 (⟨(⟨zar⟩:list),zaA⟩:set)))),(14,.box 104 (zm (za2 (⟨(⟨zas⟩:list),zaB⟩:set)))),(15,.box 25 (zm (zad (⟨ze8,ze9⟩:Frac)))),(16,.box 25 (zm (zad (⟨zjY,zjZ⟩:Frac)))),(19,.box 25 (zm (zad (⟨zdF,zdG⟩:Frac)))),(20,.box 25 (zm (zad (⟨zbH,zbI⟩:Frac)))),(21,.box 25 (zm (zad (⟨zde,zdf⟩:Frac)))),(22,.box 25 (zm (zad (⟨zbr,zbs⟩:Frac))))],[]⟩:=zaD (by kernel_rfl) (zBb hX7 hs hk)
def zvW (S7:Int→Int→Int→Int→Int→(Int×Frac×Frac×Int)) (low:Int) (high:Int) (zar:(Sl Gate)) (zaA:(Sl straight)) (zas:(Sl Gate)) (zaB:(Sl straight)) (iv8:Int) (zpz:Int) (zez:Int) (zeA:Int) (zjV:Int) (zjW:Int) (zdF:Int) (zdG:Int) (zbH:Int) (zbI:Int):(Int×Frac×Frac×Int) :=
  (zsr S7 low high zar zaA zas zaB zdF zdG zbH zbI iv8 zpz zez zeA zjV zjW (((s68 (⟨(⟨zas⟩:list),zaB⟩:set) (w64 (low+iv8))).1).Num) (((s68 (⟨(⟨zas⟩:list),zaB⟩:set) (w64 (low+iv8))).1).Den) (((s68 (⟨(⟨zas⟩:list),zaB⟩:set) (w64 (low+iv8))).2).Num) (((s68 (⟨(⟨zas⟩:list),zaB⟩:set) (w64 (low+iv8))).2).Den))
def zvX (P7:Int→Int→Int→Int→Int→Bool) (low:Int) (high:Int) (zar:(Sl Gate)) (zaA:(Sl straight)) (zas:(Sl Gate)) (zaB:(Sl straight)) (iv8:Int) (zpz:Int) (zez:Int) (zeA:Int) (zjV:Int) (zjW:Int) (zdF:Int) (zdG:Int) (zbH:Int) (zbI:Int):Bool :=
  (decide ((p68 (⟨(⟨zas⟩:list),zaB⟩:set) (w64 (low+iv8))=true)) &&
 (zss P7 low high zar zaA zas zaB zdF zdG zbH zbI iv8 zpz zez zeA zjV zjW (((s68 (⟨(⟨zas⟩:list),zaB⟩:set) (w64 (low+iv8))).1).Num) (((s68 (⟨(⟨zas⟩:list),zaB⟩:set) (w64 (low+iv8))).1).Den) (((s68 (⟨(⟨zas⟩:list),zaB⟩:set) (w64 (low+iv8))).2).Num) (((s68 (⟨(⟨zas⟩:list),zaB⟩:set) (w64 (low+iv8))).2).Den)))
theorem zEu (hX7:znZ K low high zar zaA zas zaB X7 P7 S7) (hs:zvX P7 low high zar zaA zas zaB iv8 zpz zez zeA zjV zjW zdF zdG zbH zbI=true) (hk:K (e19 (zvW S7 low high zar zaA zas zaB iv8 zpz zez zeA zjV zjW zdF zdG zbH zbI))):z19 K [1,0,1,1,1,1,1,1,1,1,0,1,0,0,1,1,0,0,1,1] [X7] ⟨[(2,zI low),(3,zI high),(9,zp 9 0),(10,zp 10 0),(12,zp 12 0),(13,zp 13 0),(14,zp 14 0),(15,zp 15 0),(16,zp 16 0),(17,zI (w64 (high+(1:Int)))),(18,zI iv8),(19,zp 19 0),(20,zp 20 0),(76,zI (w64 ((w64 (high - low))+(1:Int)))),(77,zI zpz)],[(9,.box 25 (zm (zad (⟨(0:Int),(0:Int)⟩:Frac)))),(10,.box 25 (zm (zad (⟨(0:Int),(0:Int)⟩:Frac)))),(12,.box 25 (zm (zad (⟨(0:Int),(0:Int)⟩:Frac)))),(13,.box 104 (zm (za2 (⟨(⟨zar⟩:list),zaA⟩:set)))),(14,.box 104 (zm (za2 (⟨(⟨zas⟩:list),zaB⟩:set)))),(15,.box 25 (zm (zad (⟨zez,zeA⟩:Frac)))),(16,.box 25 (zm (zad (⟨zjV,zjW⟩:Frac)))),(19,.box 25 (zm (zad (⟨zdF,zdG⟩:Frac)))),(20,.box 25 (zm (zad (⟨zbH,zbI⟩:Frac))))],[]⟩:=zaD (by kernel_rfl) (zay hs fun hc hs=>And.intro (And.intro (zE enc_55 3 zas.get) (And.intro (zE zah 3 zaB.get) hc)) (zBc hX7 hs hk))
def zvY (low:Int) (high:Int) (zar:(Sl Gate)) (zaA:(Sl straight)) (zas:(Sl Gate)) (zaB:(Sl straight)) (S7:Int→Int→Int→Int→Int→(Int×Frac×Frac×Int)) (zct:Int) (zby:Int) (zbz:Int) (zcI:Int) (zcJ:Int):(Int×Frac×Frac×Int) :=
  (cond (decide (zct < (w64 ((w64 (high - low)) + (1:Int)))))
 (zvW S7 low high zar zaA zas zaB zct zct zby zbz zcI zcJ (((s68 (⟨(⟨zar⟩:list),zaA⟩:set) (w64 (low+zct))).1).Num) (((s68 (⟨(⟨zar⟩:list),zaA⟩:set) (w64 (low+zct))).1).Den) (((s68 (⟨(⟨zar⟩:list),zaA⟩:set) (w64 (low+zct))).2).Num) (((s68 (⟨(⟨zar⟩:list),zaA⟩:set) (w64 (low+zct))).2).Den))
 (zpA high (w64 (high+(1:Int))) zby zbz zcI zcJ))
def zvZ (low:Int) (high:Int) (zar:(Sl Gate)) (zaA:(Sl straight)) (zas:(Sl Gate)) (zaB:(Sl straight)) (P7:Int→Int→Int→Int→Int→Bool) (zct:Int) (zby:Int) (zbz:Int) (zcI:Int) (zcJ:Int):Bool :=
  (cond (decide (zct < (w64 ((w64 (high - low)) + (1:Int)))))
 (decide ((p68 (⟨(⟨zar⟩:list),zaA⟩:set) (w64 (low+zct))=true)) &&
 (zvX P7 low high zar zaA zas zaB zct zct zby zbz zcI zcJ (((s68 (⟨(⟨zar⟩:list),zaA⟩:set) (w64 (low+zct))).1).Num) (((s68 (⟨(⟨zar⟩:list),zaA⟩:set) (w64 (low+zct))).1).Den) (((s68 (⟨(⟨zar⟩:list),zaA⟩:set) (w64 (low+zct))).2).Num) (((s68 (⟨(⟨zar⟩:list),zaA⟩:set) (w64 (low+zct))).2).Den)))
 true)
def zv1 (low:Int) (high:Int) (zar:(Sl Gate)) (zaA:(Sl straight)) (zas:(Sl Gate)) (zaB:(Sl straight)):Nat→Int→Int→Int→Int→Int→(Int×Frac×Frac×Int):=lpO (fun _ _ _ _ _=>default) (zvY low high zar zaA zas zaB)
def zv2 (low:Int) (high:Int) (zar:(Sl Gate)) (zaA:(Sl straight)) (zas:(Sl Gate)) (zaB:(Sl straight)):Nat→Int→Int→Int→Int→Int→Bool:=lpO (fun _ _ _ _ _=>false) (zvZ low high zar zaA zas zaB)
def zv4 (low:Int) (high:Int) (zar:(Sl Gate)) (zaA:(Sl straight)) (zas:(Sl Gate)) (zaB:(Sl straight)) (zct:Int) (zby:Int) (zbz:Int) (zcI:Int) (zcJ:Int):(Int×Frac×Frac×Int):=zv1 low high zar zaA zas zaB Fuel zct zby zbz zcI zcJ
def zv5 (low:Int) (high:Int) (zar:(Sl Gate)) (zaA:(Sl straight)) (zas:(Sl Gate)) (zaB:(Sl straight)) (zct:Int) (zby:Int) (zbz:Int) (zcI:Int) (zcJ:Int):Bool:=zv2 low high zar zaA zas zaB Fuel zct zby zbz zcI zcJ
theorem zEv (hs:zv5 low high zar zaA zas zaB zct zby zbz zcI zcJ=true) (hk:K (e19 (zv4 low high zar zaA zas zaB zct zby zbz zcI zcJ))):z19 K [1,0,1,1,1,1,1,1,1,1,0,1,0] [] (zB9 low high zar zaA zas zaB zct zby zbz zcI zcJ) :=
  zl (fun X=>z19 K [1,0,1,1,1,1,1,1,1,1,0,1,0,0] [X]) (by kernel_rfl) fun X7 hX =>
  (show ∀ k, znZ K low high zar zaA zas zaB X7 (zv2 low high zar zaA zas zaB k) (zv1 low high zar zaA zas zaB k) from zer _ _ (zvZ low high zar zaA zas zaB) (zvY low high zar zaA zas zaB) (znZ K low high zar zaA zas zaB X7)
 (by intro _ _ _ _ _ hs;exact absurd hs Bool.false_ne_true)
 (by intro P7 S7 hX7 zct zby zbz zcI zcJ hs hk;exact hX _ (zaD (by kernel_rfl) (zc hs hk (fun hs hk=>(zay hs fun hc hs=>And.intro (And.intro (zE enc_55 3 zar.get) (And.intro (zE zah 3 zaA.get) hc)) (zEu hX7 hs hk))) (fun hs hk=>(zvV hk)))))) _ hs hk
def zv6 (low:Int) (high:Int) (zar:(Sl Gate)) (zaA:(Sl straight)) (zas:(Sl Gate)) (zaB:(Sl straight)):(Int×Frac×Frac×Int) :=
  (zv4 low high zar zaA zas zaB (0:Int) (0:Int) (0:Int) (0:Int) (0:Int))
def zv7 (low:Int) (high:Int) (zar:(Sl Gate)) (zaA:(Sl straight)) (zas:(Sl Gate)) (zaB:(Sl straight)):Bool :=
  (zv5 low high zar zaA zas zaB (0:Int) (0:Int) (0:Int) (0:Int) (0:Int))
theorem zEw (hs:zv7 low high zar zaA zas zaB=true) (hk:K (e19 (zv6 low high zar zaA zas zaB))):z19 K [1,0,1,1,1,1,1] [] ⟨[(2,zI low),(3,zI high),(9,zp 9 0),(10,zp 10 0),(12,zp 12 0),(13,zp 13 0),(14,zp 14 0)],[(9,.box 25 (zm (zad (⟨(0:Int),(0:Int)⟩:Frac)))),(10,.box 25 (zm (zad (⟨(0:Int),(0:Int)⟩:Frac)))),(12,.box 25 (zm (zad (⟨(0:Int),(0:Int)⟩:Frac)))),(13,.box 104 (zm (za2 (⟨(⟨zar⟩:list),zaA⟩:set)))),(14,.box 104 (zm (za2 (⟨(⟨zas⟩:list),zaB⟩:set))))],[]⟩:=zaD (by kernel_rfl) (zEv hs hk)
def zpB (low:Int) (high:Int) (zar:(Sl Gate)) (zaA:(Sl straight)) (zas:(Sl Gate)) (zaB:(Sl straight)) (zpy:Bool):(Int×Frac×Frac×Int) :=
  (cond zpy
 ((0:Int),(⟨(0:Int),(0:Int)⟩:Frac),(⟨(0:Int),(0:Int)⟩:Frac),(6:Int))
 (zv6 low high zar zaA zas zaB))
def zpC (low:Int) (high:Int) (zar:(Sl Gate)) (zaA:(Sl straight)) (zas:(Sl Gate)) (zaB:(Sl straight)) (zpy:Bool):Bool :=
  (cond zpy
 true
 (zv7 low high zar zaA zas zaB))
theorem zv8 (hs:zpC low high zar zaA zas zaB zpy=true) (hk:K (e19 (zpB low high zar zaA zas zaB zpy))):z19 K [1,0,1,1,1,1,0,1] [] ⟨[(2,zI low),(3,zI high),(9,zp 9 0),(10,zp 10 0),(12,zp 12 0),(13,zp 13 0),(14,zp 14 0),(68,zB zpy)],[(9,.box 25 (zm (zad (⟨(0:Int),(0:Int)⟩:Frac)))),(10,.box 25 (zm (zad (⟨(0:Int),(0:Int)⟩:Frac)))),(12,.box 25 (zm (zad (⟨(0:Int),(0:Int)⟩:Frac)))),(13,.box 104 (zm (za2 (⟨(⟨zar⟩:list),zaA⟩:set)))),(14,.box 104 (zm (za2 (⟨(⟨zas⟩:list),zaB⟩:set))))],[]⟩:=zaD (by kernel_rfl) (zc hs hk (fun hs hk=>hk) (fun hs hk=>(zEw hs hk)))
def zv9 (low:Int) (high:Int) (zar:(Sl Gate)) (zaA:(Sl straight)) (zas:(Sl Gate)) (zaB:(Sl straight)):(Int×Frac×Frac×Int) :=
  (cond (s67 (⟨zar⟩ : list))
 (zpB low high zar zaA zas zaB true)
 (zpB low high zar zaA zas zaB (s67 (⟨zas⟩:list))))
def zwa (low:Int) (high:Int) (zar:(Sl Gate)) (zaA:(Sl straight)) (zas:(Sl Gate)) (zaB:(Sl straight)):Bool :=
  (decide ((p67 (⟨zar⟩:list)=true)) &&
 (cond (s67 (⟨zar⟩ : list))
 (zpC low high zar zaA zas zaB true)
 (decide ((p67 (⟨zas⟩:list)=true)) &&
 (zpC low high zar zaA zas zaB (s67 (⟨zas⟩:list))))))
theorem zEx (hs:zwa low high zar zaA zas zaB=true) (hk:K (e19 (zv9 low high zar zaA zas zaB))):z19 K [1,0,1,1,1,1] [] ⟨[(2,zI low),(3,zI high),(9,zp 9 0),(10,zp 10 0),(12,zp 12 0),(13,zp 13 0),(14,zp 14 0)],[(9,.box 25 (zm (zad (⟨(0:Int),(0:Int)⟩:Frac)))),(10,.box 25 (zm (zad (⟨(0:Int),(0:Int)⟩:Frac)))),(12,.box 25 (zm (zad (⟨(0:Int),(0:Int)⟩:Frac)))),(13,.box 104 (zm (za2 (⟨(⟨zar⟩:list),zaA⟩:set)))),(14,.box 104 (zm (za2 (⟨(⟨zas⟩:list),zaB⟩:set))))],[]⟩:=zaD (by kernel_rfl) (zay hs fun hc hs=>And.intro (And.intro (zE enc_55 3 zar.get) hc) (zc hs hk (fun hs hk=>(zv8 hs hk)) (fun hs hk=>(zay hs fun hc hs=>And.intro (And.intro (zE enc_55 3 zas.get) hc) (zv8 hs hk)))))
def zpD (low:Int) (high:Int) (zar:(Sl Gate)) (zaA:(Sl straight)) (zas:(Sl Gate)) (zaB:(Sl straight)) (zpx:Bool):(Int×Frac×Frac×Int) :=
  (cond zpx
 ((0:Int),(⟨(0:Int),(0:Int)⟩:Frac),(⟨(0:Int),(0:Int)⟩:Frac),(5:Int))
 (zv9 low high zar zaA zas zaB))
def zpE (low:Int) (high:Int) (zar:(Sl Gate)) (zaA:(Sl straight)) (zas:(Sl Gate)) (zaB:(Sl straight)) (zpx:Bool):Bool :=
  (cond zpx
 true
 (zwa low high zar zaA zas zaB))
theorem zwb (hs:zpE low high zar zaA zas zaB zpx=true) (hk:K (e19 (zpD low high zar zaA zas zaB zpx))):z19 K [1,0,1,1,1,0,1] [] ⟨[(2,zI low),(3,zI high),(9,zp 9 0),(10,zp 10 0),(12,zp 12 0),(13,zp 13 0),(14,zp 14 0),(58,zB zpx)],[(9,.box 25 (zm (zad (⟨(0:Int),(0:Int)⟩:Frac)))),(10,.box 25 (zm (zad (⟨(0:Int),(0:Int)⟩:Frac)))),(12,.box 25 (zm (zad (⟨(0:Int),(0:Int)⟩:Frac)))),(13,.box 104 (zm (za2 (⟨(⟨zar⟩:list),zaA⟩:set)))),(14,.box 104 (zm (za2 (⟨(⟨zas⟩:list),zaB⟩:set))))],[]⟩:=zaD (by kernel_rfl) (zc hs hk (fun hs hk=>hk) (fun hs hk=>(zEx hs hk)))
def zwc (low:Int) (high:Int) (zar:(Sl Gate)) (zaA:(Sl straight)) (zas:(Sl Gate)) (zaB:(Sl straight)):(Int×Frac×Frac×Int) :=
  (cond (!(s66 (⟨(⟨zar⟩ : list), zaA⟩ : set)))
 (zpD low high zar zaA zas zaB true)
 (zpD low high zar zaA zas zaB (!(s66 (⟨(⟨zas⟩:list),zaB⟩:set)))))
def zwd (low:Int) (high:Int) (zar:(Sl Gate)) (zaA:(Sl straight)) (zas:(Sl Gate)) (zaB:(Sl straight)):Bool :=
  (decide ((p66 (⟨(⟨zar⟩:list),zaA⟩:set)=true)) &&
 (cond (!(s66 (⟨(⟨zar⟩ : list), zaA⟩ : set)))
 (zpE low high zar zaA zas zaB true)
 (decide ((p66 (⟨(⟨zas⟩:list),zaB⟩:set)=true)) &&
 (zpE low high zar zaA zas zaB (!(s66 (⟨(⟨zas⟩:list),zaB⟩:set)))))))
theorem zEy (hs:zwd low high zar zaA zas zaB=true) (hk:K (e19 (zwc low high zar zaA zas zaB))) (zEz:zvR=zg enc_55 zar) (zEA:zvS=zg zah zaA) (zEB:zvT=zg enc_55 zas) (zEC:zvU=zg zah zaB):z19 K [1,0,1,1,1] [] ⟨[(2,zI low),(3,zI high),(9,zp 9 0),(10,zp 10 0),(12,zp 12 0),(13,zp 13 0),(14,zp 14 0)],[(9,.box 25 (zm (zad (⟨(0:Int),(0:Int)⟩:Frac)))),(10,.box 25 (zm (zad (⟨(0:Int),(0:Int)⟩:Frac)))),(12,.box 25 (zm (zad (⟨(0:Int),(0:Int)⟩:Frac)))),(13,.box 104 [.p (.sl zar.len 3 zvR),.p (.sl zaA.len 3 zvS)]),(14,.box 104 [.p (.sl zas.len 3 zvT),.p (.sl zaB.len 3 zvU)])],[]⟩:=by subst zEz;subst zEA;subst zEB;subst zEC;exact zaD (by kernel_rfl) (zay hs fun hc hs=>And.intro (And.intro (zE enc_55 3 zar.get) (And.intro (zE zah 3 zaA.get) hc)) (zc hs hk (fun hs hk=>(zwb hs hk)) (fun hs hk=>(zay hs fun hc hs=>And.intro (And.intro (zE enc_55 3 zas.get) (And.intro (zE zah 3 zaB.get) hc)) (zwb hs hk)))))
def zwe (a:(Sl Gate)) (b:(Sl Gate)) (low:Int) (high:Int):(Int×Frac×Frac×Int) :=
  (zwc low high ((s65 a).list.Gates) ((s65 a).corners) ((s65 b).list.Gates) ((s65 b).corners))
def zwf (a:(Sl Gate)) (b:(Sl Gate)) (low:Int) (high:Int):Bool :=
  (decide ((p65 a=true)) &&
 (decide ((p65 b=true)) &&
 (zwd low high ((s65 a).list.Gates) ((s65 a).corners) ((s65 b).list.Gates) ((s65 b).corners))))
theorem zED (hs:zwf a b low high=true) (hk:K (e19 (zwe a b low high))):z19 K [1,0,1,1] [] ⟨[(0,zS enc_55 3 a),(1,zS enc_55 3 b),(2,zI low),(3,zI high),(9,zp 9 0),(10,zp 10 0),(12,zp 12 0)],[(9,.box 25 (zm (zad (⟨(0:Int),(0:Int)⟩:Frac)))),(10,.box 25 (zm (zad (⟨(0:Int),(0:Int)⟩:Frac)))),(12,.box 25 (zm (zad (⟨(0:Int),(0:Int)⟩:Frac))))],[]⟩:=zaD (by kernel_rfl) (zay hs fun hc hs=>And.intro (And.intro (zE enc_55 3 a.get) hc) (zay hs fun hc hs=>And.intro (And.intro (zE enc_55 3 b.get) hc) (zEy hs hk rfl rfl rfl rfl)))
def zhC (a:(Sl Gate)) (b:(Sl Gate)) (low:Int) (high:Int) (zpw:Bool):(Int×Frac×Frac×Int) :=
  (cond zpw
 ((0:Int),(⟨(0:Int),(0:Int)⟩:Frac),(⟨(0:Int),(0:Int)⟩:Frac),(2:Int))
 (zwe a b low high))
def zhD (a:(Sl Gate)) (b:(Sl Gate)) (low:Int) (high:Int) (zpw:Bool):Bool :=
  (cond zpw
 true
 (zwf a b low high))
theorem zj2 (hs:zhD a b low high zpw=true) (hk:K (e19 (zhC a b low high zpw))):z19 K [1,0,1,0,1] [] ⟨[(0,zS enc_55 3 a),(1,zS enc_55 3 b),(2,zI low),(3,zI high),(9,zp 9 0),(10,zp 10 0),(12,zp 12 0),(44,zB zpw)],[(9,.box 25 (zm (zad (⟨(0:Int),(0:Int)⟩:Frac)))),(10,.box 25 (zm (zad (⟨(0:Int),(0:Int)⟩:Frac)))),(12,.box 25 (zm (zad (⟨(0:Int),(0:Int)⟩:Frac))))],[]⟩:=zaD (by kernel_rfl) (zc hs hk (fun hs hk=>hk) (fun hs hk=>(zED hs hk)))
def s19 (a:(Sl Gate)) (b:(Sl Gate)) (low:Int) (high:Int):(Int×Frac×Frac×Int) :=
  (cond (decide (low < (-100000:Int)))
 (zhC a b low high true)
 (cond (decide (low > high))
 (zhC a b low high true)
 (cond (decide (high > (200000:Int)))
 (zhC a b low high true)
 (cond (!(s64 a))
 (zhC a b low high true)
 (zhC a b low high (!(s64 b)))))))
def p19 (a:(Sl Gate)) (b:(Sl Gate)) (low:Int) (high:Int):Bool :=
  (cond (decide (low < (-100000:Int)))
 (zhD a b low high true)
 (cond (decide (low > high))
 (zhD a b low high true)
 (cond (decide (high > (200000:Int)))
 (zhD a b low high true)
 (decide ((p64 a=true)) &&
 (cond (!(s64 a))
 (zhD a b low high true)
 (decide ((p64 b=true)) &&
 (zhD a b low high (!(s64 b)))))))))
end
theorem q19 (a:(Sl Gate)) (b:(Sl Gate)) (low:Int) (high:Int) (K:List PA→Prop) (hs:p19 a b low high=true) (hk:K (e19 (s19 a b low high))):vcFun Try.prog G19 zEs 19 [.one (.sl a.len 3 (fun i=>enc_55 (a.get i))),.one (.sl b.len 3 (fun i=>enc_55 (b.get i))),.one (.int .i64 low),.one (.int .i64 high)] K :=
  zaD (by kernel_rfl) (zc hs hk (fun hs hk=>(zj2 hs hk)) (fun hs hk=>(zc hs hk (fun hs hk=>(zj2 hs hk)) (fun hs hk=>(zc hs hk (fun hs hk=>(zj2 hs hk)) (fun hs hk=>(zay hs fun hc hs=>And.intro (And.intro (zE enc_55 3 a.get) hc) (zc hs hk (fun hs hk=>(zj2 hs hk)) (fun hs hk=>(zay hs fun hc hs=>And.intro (And.intro (zE enc_55 3 b.get) hc) (zj2 hs hk)))))))))))
def zEE : List PA → COut
  | [.one (.sl a0_n a0_s a0_g),.one (.sl a1_n a1_s a1_g),.one (.int .i64 a2),.one (.int .i64 a3)]=>.det (IsE enc_55 3 a0_s a0_g∧IsE enc_55 3 a1_s a1_g∧p19 (⟨a0_n,zae a0_g⟩:(Sl Gate)) (⟨a1_n,zae a1_g⟩:(Sl Gate)) a2 a3=true) [.one (.int .i64 ((s19 (⟨a0_n,zae a0_g⟩:(Sl Gate)) (⟨a1_n,zae a1_g⟩:(Sl Gate)) a2 a3).1)),.agg [.int .i64 (((s19 (⟨a0_n,zae a0_g⟩:(Sl Gate)) (⟨a1_n,zae a1_g⟩:(Sl Gate)) a2 a3).2.1).Num),.int .i64 (((s19 (⟨a0_n,zae a0_g⟩:(Sl Gate)) (⟨a1_n,zae a1_g⟩:(Sl Gate)) a2 a3).2.1).Den)],.agg [.int .i64 (((s19 (⟨a0_n,zae a0_g⟩:(Sl Gate)) (⟨a1_n,zae a1_g⟩:(Sl Gate)) a2 a3).2.2.1).Num),.int .i64 (((s19 (⟨a0_n,zae a0_g⟩:(Sl Gate)) (⟨a1_n,zae a1_g⟩:(Sl Gate)) a2 a3).2.2.1).Den)],.one (.int .i64 ((s19 (⟨a0_n,zae a0_g⟩:(Sl Gate)) (⟨a1_n,zae a1_g⟩:(Sl Gate)) a2 a3).2.2.2))]
  | _=>.no
theorem zI8:zaf Try.prog 19:=⟨_,rfl,rfl,by kernel_rfl⟩
theorem zOS:Ok Try.prog 19 zEE:=zaF zL4 zI8 fun args K h=>by
  unfold zEE at h
  split at h
  · rename_i a0_n a0_s a0_g a1_n a1_s a1_g a2 a3
    obtain ⟨⟨⟨rfl,a0_f,rfl⟩,⟨rfl,a1_f,rfl⟩,hs⟩,hk⟩:=h
    try rw [zac a0_f] at hs
    try rw [zac a0_f] at hk
    try rw [zac a1_f] at hs
    try rw [zac a1_f] at hk
    exact ⟨(fun _ _=>[]),(fun _=>false),zEs,q19 (⟨a0_n,a0_f⟩:(Sl Gate)) (⟨a1_n,a1_f⟩:(Sl Gate)) a2 a3 K hs hk⟩
  · exact h.elim
abbrev zNt:Tabs:=Tabs.nil
theorem zI9:TabsOk Try.prog zNt:=TabsOk.nil
abbrev zNu:Ctrs:=csm zNt (fun _ _=>[]) (fun _=>false)
def zwg:Ann:=⟨8,[(0,⟨[0],[],[],[],[],[],[]⟩),(1,⟨[0,4],[],[],[],[],[],[]⟩),(2,⟨[2],[],[],[],[],[],[]⟩),(3,⟨[2],[5],[],[],[],[],[]⟩)],
 [],
 [],
 [],[]⟩
theorem zBd (n : Nat) (get : Nat → List PV) : zuO Try.prog zNu zwg 105 [.one (.sl n 3 get)] 118 3 24 n get =
  ((True)∧(∃ r1:Bool,(n ≠ 0→r1=false))∧∀ r1:Bool,(n ≠ 0→r1=false) →
 (zc0 r1
 (True∧n=0)
 ((((0+n) * 24≤140737488355328∧0+n≤9223372036854775807)) ∧
 (True∧118=118∧3=3∧24=24∧(0+n)=n∧∀ i,i < n→(appG 0 (zdi []) get) i=get i)))):=by kernel_rfl
abbrev zCa:OwnK:=.clone 118 3 24
theorem zEF:zaf Try.prog 105:=⟨_,rfl,rfl,by kernel_rfl⟩
theorem zL5:zlv Try.prog 105 zCa:=zuR zI9 zEF fun n get h1 h2=>by
  refine ⟨fun _ _=>[],fun _=>false,zwg,?_⟩
  show zuO Try.prog zNu zwg 105 _ _ _ _ _ _
  rw [zBd]
  refine ⟨trivial,⟨decide (n=0),fun h=>decide_eq_false h⟩,fun r1 hr=>?_⟩
  cases r1
  · refine ⟨⟨by omega,by omega⟩,trivial,rfl,rfl,rfl,Nat.zero_add n,fun i _=>rfl⟩
  · exact ⟨trivial,Classical.byContradiction fun h=>by simpa using hr h⟩
abbrev zCb:OwnK:=.sort 118 3 24
theorem zL6:zlv Try.prog 106 zCb:=zuY Try.laysS106 rfl rfl rfl (fun h=>h) ⟨_,rfl,rfl,by kernel_rfl⟩
abbrev zNv:Tabs:=(Tabs.nil.addF 99 zvf)
theorem zJa:TabsOk Try.prog zNv:=(TabsOk.nil.addF zLt)
abbrev zOT:Ctrs:=csm zNv (fun _ _=>[]) (fun _=>false)
def zCc:Ann:=⟨10,[(0,zK [2,3] [2,3]),(1,zK [4] [])],
 [],
 [],
 [],[]⟩
abbrev zOU:=Bool
abbrev e108 (r:zOU):List PA:=[.one (.bool r)]
section
variable {K:List PA→Prop} {s:set} {x:straight}
def zCd (s:set) (x:straight):Bool :=
  (zLr x s.list.Gates)
def zKZ (s:set) (x:straight):Bool :=
  (decide ((zLs x s.list.Gates=true)) &&
 true)
end
theorem zOV (s:set) (x:straight) (K:List PA→Prop) (hs:zKZ s x=true) (hk:K (e108 (zCd s x))):vcFun Try.prog zOT zCc 108 [.agg (za2 s),.agg (zah x)] K :=
  zaD (by kernel_rfl) (zay hs fun hc hs=>And.intro (And.intro (zE enc_55 3 s.list.Gates.get) hc) hk)
def zwh : List PA → COut
  | [.agg [.sl a0_list_Gates_n a0_list_Gates_s a0_list_Gates_g,.sl a0_corners_n a0_corners_s a0_corners_g],.agg [.int .i64 a1_slope,.int .i64 a1_start,.int .i64 a1_den]]=>.det (IsE enc_55 3 a0_list_Gates_s a0_list_Gates_g∧IsE zah 3 a0_corners_s a0_corners_g∧zKZ (⟨(⟨(⟨a0_list_Gates_n,zae a0_list_Gates_g⟩:(Sl Gate))⟩:list),(⟨a0_corners_n,zaZ a0_corners_g⟩:(Sl straight))⟩:set) (⟨a1_slope,a1_start,a1_den⟩:straight)=true) [.one (.bool (zCd (⟨(⟨(⟨a0_list_Gates_n,zae a0_list_Gates_g⟩:(Sl Gate))⟩:list),(⟨a0_corners_n,zaZ a0_corners_g⟩:(Sl straight))⟩:set) (⟨a1_slope,a1_start,a1_den⟩:straight)))]
  | _=>.no
theorem zEG:zaf Try.prog 108:=⟨_,rfl,rfl,by kernel_rfl⟩
theorem zL7:Ok Try.prog 108 zwh:=zaF zJa zEG fun args K h=>by
  unfold zwh at h
  split at h
  · rename_i a0_list_Gates_n a0_list_Gates_s a0_list_Gates_g a0_corners_n a0_corners_s a0_corners_g a1_slope a1_start a1_den
    obtain ⟨⟨⟨rfl,a0_list_Gates_f,rfl⟩,⟨rfl,a0_corners_f,rfl⟩,hs⟩,hk⟩:=h
    try rw [zac a0_list_Gates_f] at hs
    try rw [zac a0_list_Gates_f] at hk
    try rw [zaS a0_corners_f] at hs
    try rw [zaS a0_corners_f] at hk
    exact ⟨(fun _ _=>[]),(fun _=>false),zCc,zOV (⟨(⟨(⟨a0_list_Gates_n,a0_list_Gates_f⟩:(Sl Gate))⟩:list),(⟨a0_corners_n,a0_corners_f⟩:(Sl straight))⟩:set) (⟨a1_slope,a1_start,a1_den⟩:straight) K hs hk⟩
  · exact h.elim
abbrev zNw:Tabs:=(((Tabs.nil.addF 69 ztz).addF 89 zty).addF 108 zwh)
theorem zJb:TabsOk Try.prog zNw:=(((TabsOk.nil.addF zKW).addF zKV).addF zL7)
abbrev zOW:Ctrs:=csm zNw (fun _ _=>[]) (fun _=>false)
def zCe:Ann:=⟨38,[(0,zK [2,3,4] [3,4]),(1,zK [3,4,6,7] [3,4]),(2,zK [6,7,8] []),(3,zK [6,7,8,26] []),(4,zK [5] []),(5,zK [7,8,32] []),(6,zK [5] []),(7,zK [8,34] []),(8,zK [5] []),(9,zK [5] [])],
 [],
 [],
 [],[]⟩
abbrev zOX:=Int
abbrev zOY (r:zOX):List PA:=[.one (.int .i64 r)]
section
variable {K:List PA→Prop} {c0:set} {a:straight} {b:straight}
def zK1 (c0:set) (a:straight) (b:straight):Int :=
  (cond (zCd c0 a)
 (cond (zCd c0 b)
 (s69 (s89 a.slope a.den) (s89 b.slope b.den))
 (cond (zCd c0 a)
 (-1:Int)
 (cond (zCd c0 b)
 (1:Int)
 (w64 (0 - (s69 (s89 a.slope a.den) (s89 b.slope b.den)))))))
 (cond (zCd c0 a)
 (-1:Int)
 (cond (zCd c0 b)
 (1:Int)
 (w64 (0 - (s69 (s89 a.slope a.den) (s89 b.slope b.den)))))))
def zK2 (c0:set) (a:straight) (b:straight):Bool :=
  (decide ((zKZ c0 a=true)) &&
 (decide ((zKZ c0 b=true)) &&
 (decide ((p89 a.slope a.den=true)) &&
 (decide ((p89 b.slope b.den=true)) &&
 true))))
end
theorem zOZ (c0:set) (a:straight) (b:straight) (K:List PA→Prop) (hs:zK2 c0 a b=true) (hk:K (zOY (zK1 c0 a b))):vcFun Try.prog zOW zCe 107 [.agg (zah a),.agg (zah b),.one (.fp (za2 c0) 0)] K :=
  zaD (by kernel_rfl) (zay hs fun hc hs=>And.intro (And.intro (zE enc_55 3 c0.list.Gates.get) (And.intro (zE zah 3 c0.corners.get) hc)) (zay hs fun hc hs=>And.intro (And.intro (zE enc_55 3 c0.list.Gates.get) (And.intro (zE zah 3 c0.corners.get) hc)) (zay hs fun hc hs=>And.intro hc (zay hs fun hc hs=>And.intro hc (zt hk (fun hk=>(zt hk (fun hk=>hk) (fun hk=>(zt hk (fun hk=>hk) (fun hk=>(zt hk (fun hk=>hk) (fun hk=>hk))))))) (fun hk=>(zt hk (fun hk=>hk) (fun hk=>(zt hk (fun hk=>hk) (fun hk=>hk))))))))))
def zn0 : List PA → COut
  | [.agg [.int .i64 a0_slope,.int .i64 a0_start,.int .i64 a0_den],.agg [.int .i64 a1_slope,.int .i64 a1_start,.int .i64 a1_den],.one (.fp [.sl c0_list_Gates_n c0_list_Gates_s c0_list_Gates_g,.sl c0_corners_n c0_corners_s c0_corners_g] 0)]=>.det (IsE enc_55 3 c0_list_Gates_s c0_list_Gates_g∧IsE zah 3 c0_corners_s c0_corners_g∧zK2 (⟨(⟨(⟨c0_list_Gates_n,zae c0_list_Gates_g⟩:(Sl Gate))⟩:list),(⟨c0_corners_n,zaZ c0_corners_g⟩:(Sl straight))⟩:set) (⟨a0_slope,a0_start,a0_den⟩:straight) (⟨a1_slope,a1_start,a1_den⟩:straight)=true) [.one (.int .i64 (zK1 (⟨(⟨(⟨c0_list_Gates_n,zae c0_list_Gates_g⟩:(Sl Gate))⟩:list),(⟨c0_corners_n,zaZ c0_corners_g⟩:(Sl straight))⟩:set) (⟨a0_slope,a0_start,a0_den⟩:straight) (⟨a1_slope,a1_start,a1_den⟩:straight)))]
  | _=>.no
theorem zEH:zaf Try.prog 107:=⟨_,rfl,rfl,by kernel_rfl⟩
theorem zL8:Ok Try.prog 107 zn0:=zaF zJb zEH fun args K h=>by
  unfold zn0 at h
  split at h
  · rename_i a0_slope a0_start a0_den a1_slope a1_start a1_den c0_list_Gates_n c0_list_Gates_s c0_list_Gates_g c0_corners_n c0_corners_s c0_corners_g
    obtain ⟨⟨⟨rfl,c0_list_Gates_f,rfl⟩,⟨rfl,c0_corners_f,rfl⟩,hs⟩,hk⟩:=h
    try rw [zac c0_list_Gates_f] at hs
    try rw [zac c0_list_Gates_f] at hk
    try rw [zaS c0_corners_f] at hs
    try rw [zaS c0_corners_f] at hk
    exact ⟨(fun _ _=>[]),(fun _=>false),zCe,zOZ (⟨(⟨(⟨c0_list_Gates_n,c0_list_Gates_f⟩:(Sl Gate))⟩:list),(⟨c0_corners_n,c0_corners_f⟩:(Sl straight))⟩:set) (⟨a0_slope,a0_start,a0_den⟩:straight) (⟨a1_slope,a1_start,a1_den⟩:straight) K hs hk⟩
  · exact h.elim
abbrev T78:Tabs:=(((Tabs.nil.addO 105 zCa).addO 106 zCb).addF 107 zn0)
theorem zL9:TabsOk Try.prog T78:=(((TabsOk.nil.addO zL5).addO zL6).addF zL8)
abbrev G78:Ctrs:=csm T78 (fun _ _=>[]) (fun _=>false)
def zJc:Ann:=⟨11,[(0,zK [1] [1]),(1,zK [1,3] [1,6]),(2,zK [3] [6]),(3,zK [2] [6])],
 [],
 [],
 [],[]⟩
abbrev R78:=(Sl straight)
abbrev e78 (r:R78):List PA:=[.one (.sl r.len 3 (fun i=>zah (r.get i)))]
section
variable {K:List PA→Prop} {s:set}
def s78 (s:set):(Sl straight) :=
  (⟨s.corners.len,(zor s.corners.len (fun i j=>(zK1 s (s.corners.get i) (s.corners.get j))) s.corners.get)⟩:(Sl straight))
def p78 (s:set):Bool :=
  (decide ((s.corners.len * 24≤140737488355328∧s.corners.len≤9223372036854775807)) &&
 (decide ((s.corners.len≤4611686018427387)∧(sortB s.corners.len (fun i j=>decide (zK2 s (s.corners.get i) (s.corners.get j)=true)) (fun i j=>(zK1 s (s.corners.get i) (s.corners.get j)))=true)) &&
 true))
end
theorem q78 (s:set) (K:List PA→Prop) (hs:p78 s=true) (hk:K (e78 (s78 s))):vcFun Try.prog G78 zJc 78 [.agg (za2 s)] K :=
  zaD (by kernel_rfl) (zay hs fun hc hs=>And.intro hc (zay hs fun hc hs=>And.intro (And.intro (hc.1) ((zAD (hc.2) (fun i j h=>(show IsE enc_55 3 3 (fun i=>enc_55 (s.list.Gates.get i))∧IsE zah 3 3 (fun i=>zah (s.corners.get i))∧(zK2 s (s.corners.get i) (s.corners.get j)=true) from ⟨isE,isE,(of_decide_eq_true h)⟩)) rfl):(∀ i j,i < s.corners.len→j < s.corners.len→zHm (zn0) [.fp (za2 s) 0] true (fun i=>zah (s.corners.get i)) i j)∧STO s.corners.len (ztN (zn0) [.fp (za2 s) 0] true (fun i=>zah (s.corners.get i))))) hk))
def zEI : List PA → COut
  | [.agg [.sl a0_list_Gates_n a0_list_Gates_s a0_list_Gates_g,.sl a0_corners_n a0_corners_s a0_corners_g]]=>.det (IsE enc_55 3 a0_list_Gates_s a0_list_Gates_g∧IsE zah 3 a0_corners_s a0_corners_g∧p78 (⟨(⟨(⟨a0_list_Gates_n,zae a0_list_Gates_g⟩:(Sl Gate))⟩:list),(⟨a0_corners_n,zaZ a0_corners_g⟩:(Sl straight))⟩:set)=true) [.one (.sl ((s78 (⟨(⟨(⟨a0_list_Gates_n,zae a0_list_Gates_g⟩:(Sl Gate))⟩:list),(⟨a0_corners_n,zaZ a0_corners_g⟩:(Sl straight))⟩:set)).len) 3 (fun i=>zah ((s78 (⟨(⟨(⟨a0_list_Gates_n,zae a0_list_Gates_g⟩:(Sl Gate))⟩:list),(⟨a0_corners_n,zaZ a0_corners_g⟩:(Sl straight))⟩:set)).get i)))]
  | _=>.no
theorem zJd:zaf Try.prog 78:=⟨_,rfl,rfl,by kernel_rfl⟩
theorem zO0:Ok Try.prog 78 zEI:=zaF zL9 zJd fun args K h=>by
  unfold zEI at h
  split at h
  · rename_i a0_list_Gates_n a0_list_Gates_s a0_list_Gates_g a0_corners_n a0_corners_s a0_corners_g
    obtain ⟨⟨⟨rfl,a0_list_Gates_f,rfl⟩,⟨rfl,a0_corners_f,rfl⟩,hs⟩,hk⟩:=h
    try rw [zac a0_list_Gates_f] at hs
    try rw [zac a0_list_Gates_f] at hk
    try rw [zaS a0_corners_f] at hs
    try rw [zaS a0_corners_f] at hk
    exact ⟨(fun _ _=>[]),(fun _=>false),zJc,q78 (⟨(⟨(⟨a0_list_Gates_n,a0_list_Gates_f⟩:(Sl Gate))⟩:list),(⟨a0_corners_n,a0_corners_f⟩:(Sl straight))⟩:set) K hs hk⟩
  · exact h.elim
abbrev T31:Tabs:=(((Tabs.nil.addF 75 zvM).addF 78 zEI).addF 79 zA1)
theorem zMa:TabsOk Try.prog T31:=(((TabsOk.nil.addF zL2).addF zO0).addF zNk)
abbrev G31:Ctrs:=csm T31 (fun _ _=>[]) (fun _=>false)
def zEJ:Ann:=⟨31,[(0,zK [0] []),(1,zK [4,5] [4]),(2,zK [4,5,15] [4]),(3,zK [2,3] []),(4,zK [4,6] [4]),(5,zK [6,18,19,20] []),(6,zK [6,18,19,20,21] [28]),(7,zK [6,8,18,19,20] [8,28]),(8,zK [6,18,19,20] [28]),(9,zK [6,18,19,20] [28]),(10,zK [2,3] [28])],
 [(6,⟨[6,18,19,20],[28],[(6,28,37,fun _=>zaC default)],[],[],[],[]⟩)],
 [(2,zK [4,5] [4]),(4,zK [4] [4]),(6,zK [6,18,19,20] [])],
 [],[]⟩
abbrev R31:=((Sl Line)×Int)
abbrev e31 (r:R31):List PA:=[.one (.sl r.1.len 4 (fun i=>zaC (r.1.get i))),.one (.int .i64 r.2)]
@[irreducible] def z31:=ptF Try.prog G31 zEJ Try.f31
def zCf (zb8:(Sl straight)) (zcn:Int) (zc6:Int) (zcC:(Sl Line)) (zfc:Nat→List PV):St:=⟨[(6,zv 28),(18,zS zah 3 zb8),(19,zI zcn),(20,zI zc6)],[(28,.vec 37 4 32 zcC.len zfc)],[]⟩
abbrev zJe (K:List PA→Prop) (zb8:(Sl straight)) (zcn:Int) (X:St→Prop) (P:Int→(Sl Line)→Bool) (S:Int→(Sl Line)→((Sl Line)×Int)):Prop:=∀ ⦃zc6:Int⦄ ⦃zcC:(Sl Line)⦄ ⦃zfc:Nat→List PV⦄,P zc6 zcC=true→K (e31 (S zc6 zcC))→zfc=zg zaC zcC→X (zCf zb8 zcn zc6 zcC zfc)
section
variable {K:List PA→Prop} {zaa:(Sl Gate)} {ev0:Int} {zeB:(Sl Gate)} {zeC:(Sl straight)} {zj3:Nat→List PV} {zj4:Nat→List PV} {ziD:(Sl Gate)} {ziE:(Sl straight)} {zwi:Nat→List PV} {zwj:Nat→List PV} {zb8:(Sl straight)} {zcn:Int} {zwk:Nat→List PV} {zc6:Int} {zcC:(Sl Line)} {zfc:Nat→List PV} {X3:St→Prop} {P3:Int→(Sl Line)→Bool} {S3:Int→(Sl Line)→((Sl Line)×Int)}
def zwl (zb8:(Sl straight)) (zcn:Int) (S3:Int→(Sl Line)→((Sl Line)×Int)) (zc6:Int) (zcC:(Sl Line)):((Sl Line)×Int) :=
  (cond (decide (zc6 < zcn))
 (S3 (w64 (zc6+(1:Int))) (⟨(zcC.len+1),(zdT zcC.len zcC.get (fun _=>(s79 (zb8.get zc6.toNat))))⟩:Sl Line))
 (zcC,(0:Int)))
def zwm (zb8:(Sl straight)) (zcn:Int) (P3:Int→(Sl Line)→Bool) (zc6:Int) (zcC:(Sl Line)):Bool :=
  (cond (decide (zc6 < zcn))
 (decide ((0≤zc6∧zc6 < (zb8.len:Int))) &&
 (decide ((p79 (zb8.get zc6.toNat)=true)) &&
 (decide (((zcC.len+1) * 32≤140737488355328∧zcC.len+1≤9223372036854775807)) &&
 (P3 (w64 (zc6+(1:Int))) (⟨(zcC.len+1),(zdT zcC.len zcC.get (fun _=>(s79 (zb8.get zc6.toNat))))⟩:Sl Line)))))
 true)
def zwn (zb8:(Sl straight)) (zcn:Int):Nat→Int→(Sl Line)→((Sl Line)×Int):=lpO (fun _ _=>default) (zwl zb8 zcn)
def zwo (zb8:(Sl straight)) (zcn:Int):Nat→Int→(Sl Line)→Bool:=lpO (fun _ _=>false) (zwm zb8 zcn)
def zwp (zb8:(Sl straight)) (zcn:Int) (zc6:Int) (zcC:(Sl Line)):((Sl Line)×Int):=zwn zb8 zcn Fuel zc6 zcC
def zwq (zb8:(Sl straight)) (zcn:Int) (zc6:Int) (zcC:(Sl Line)):Bool:=zwo zb8 zcn Fuel zc6 zcC
theorem zEK (hs:zwq zb8 zcn zc6 zcC=true) (hk:K (e31 (zwp zb8 zcn zc6 zcC))) (zpF:zfc=zg zaC zcC):z31 (Wk K) [1,1,1,1,0,1,0] [] (zCf zb8 zcn zc6 zcC zfc) :=
  zl (fun X=>z31 (Wk K) [1,1,1,1,0,1,0,0] [X]) (by kernel_rfl) fun X3 hX =>
  (show ∀ k, zJe K zb8 zcn X3 (zwo zb8 zcn k) (zwn zb8 zcn k) from zer _ _ (zwm zb8 zcn) (zwl zb8 zcn) (zJe K zb8 zcn X3)
 (by intro _ _ _ hs;exact absurd hs Bool.false_ne_true)
 (by intro P3 S3 hX3 zc6 zcC zfc hs hk zpF;subst zpF;exact hX _ (zaD (by kernel_rfl) (zc hs hk (fun hs hk=>(zay hs fun hc hs=>And.intro hc (zay hs fun hc hs=>And.intro hc (zay hs fun hc hs=>And.intro hc (hX3 hs hk (zeP (enc:=zaC) (f:=zcC.get) (h:=(fun _=>(s79 (zb8.get zc6.toNat)))) rfl rfl)))))) (fun hs hk=>((zd5 hk):Wk K [.one (.sl zcC.len 4 (fun i=>zaC (zcC.get i))),.one (.int .i64 (0:Int))])))))) _ hs hk zpF
def zwr (zb8:(Sl straight)) (zcn:Int):((Sl Line)×Int) :=
  (zwp zb8 zcn (0:Int) (⟨0,(fun _=>default)⟩:Sl Line))
def zwt (zb8:(Sl straight)) (zcn:Int):Bool :=
  (zwq zb8 zcn (0:Int) (⟨0,(fun _=>default)⟩:Sl Line))
theorem zEL (hs:zwt zb8 zcn=true) (hk:K (e31 (zwr zb8 zcn))) (zEM:zwk=zg zah zb8):z31 (Wk K) [1,1,1,1,0,1] [] ⟨[(6,zP (.nils)),(18,zP (.sl zb8.len 3 zwk)),(19,zI zcn),(20,zI (0:Int))],[],[]⟩:=by subst zEM;exact zaD (by kernel_rfl) (zEK hs hk rfl)
def zwu (ziD:(Sl Gate)) (ziE:(Sl straight)):((Sl Line)×Int) :=
  (zwr (s78 (⟨(⟨ziD⟩:list),ziE⟩:set)) ((s78 (⟨(⟨ziD⟩:list),ziE⟩:set)).len:Int))
def zwv (ziD:(Sl Gate)) (ziE:(Sl straight)):Bool :=
  (decide ((p78 (⟨(⟨ziD⟩:list),ziE⟩:set)=true)) &&
 (zwt (s78 (⟨(⟨ziD⟩:list),ziE⟩:set)) ((s78 (⟨(⟨ziD⟩:list),ziE⟩:set)).len:Int)))
theorem zEN (hs:zwv ziD ziE=true) (hk:K (e31 (zwu ziD ziE))) (zEO:zwi=zg enc_55 ziD) (zEP:zwj=zg zah ziE):z31 (Wk K) [1,1,1] [] ⟨[(4,zp 4 0)],[(4,.box 104 [.p (.sl ziD.len 3 zwi),.p (.sl ziE.len 3 zwj)])],[]⟩:=by subst zEO;subst zEP;exact zaD (by kernel_rfl) (zay hs fun hc hs=>And.intro (And.intro (zE enc_55 3 ziD.get) (And.intro (zE zah 3 ziE.get) hc)) (zEL hs hk rfl))
def zww (ev0:Int) (zeB:(Sl Gate)) (zeC:(Sl straight)):((Sl Line)×Int) :=
  (cond (ev0 != (0:Int))
 ((⟨0,fun _=>default⟩:(Sl Line)),ev0)
 (zwu zeB zeC))
def zwx (ev0:Int) (zeB:(Sl Gate)) (zeC:(Sl straight)):Bool :=
  (cond (ev0 != (0:Int))
 true
 (zwv zeB zeC))
theorem zEQ (hs:zwx ev0 zeB zeC=true) (hk:K (e31 (zww ev0 zeB zeC))) (zpG:zj3=zg enc_55 zeB) (zpH:zj4=zg zah zeC):z31 (Wk K) [1,1] [] ⟨[(4,zp 4 0),(5,zI ev0)],[(4,.box 104 [.p (.sl zeB.len 3 zj3),.p (.sl zeC.len 3 zj4)])],[]⟩:=by subst zpG;subst zpH;exact zaD (by kernel_rfl) (zc hs hk (fun hs hk=>((wk hk (zc7 (.one (.nil _ _)) (zc7 (.one (.rfl _)) zhm))):Wk K [.one (.nils),.one (.int .i64 ev0)])) (fun hs hk=>(zEN hs hk rfl rfl)))
def s31 (zaa:(Sl Gate)):((Sl Line)×Int) :=
  (zww ((s75 zaa).2) (((s75 zaa).1).list.Gates) (((s75 zaa).1).corners))
def p31 (zaa:(Sl Gate)):Bool :=
  (decide ((p75 zaa=true)) &&
 (zwx ((s75 zaa).2) (((s75 zaa).1).list.Gates) (((s75 zaa).1).corners)))
end
theorem q31 (zaa:(Sl Gate)) (K:List PA→Prop) (hs:p31 zaa=true) (hk:K (e31 (s31 zaa))):vcFun Try.prog G31 zEJ 31 [.one (.sl zaa.len 3 (fun i=>enc_55 (zaa.get i)))] (Wk K) :=
  zaD (by kernel_rfl) (zay hs fun hc hs=>And.intro (And.intro (zE enc_55 3 zaa.get) hc) (zEQ hs hk rfl rfl))
def zER : List PA → COut
  | [.one (.sl a0_n a0_s a0_g)]=>.det (IsE enc_55 3 a0_s a0_g∧p31 (⟨a0_n,zae a0_g⟩:(Sl Gate))=true) [.one (.sl (((s31 (⟨a0_n,zae a0_g⟩:(Sl Gate))).1).len) 4 (fun i=>zaC (((s31 (⟨a0_n,zae a0_g⟩:(Sl Gate))).1).get i))),.one (.int .i64 ((s31 (⟨a0_n,zae a0_g⟩:(Sl Gate))).2))]
  | _=>.no
theorem zJf:zaf Try.prog 31:=⟨_,rfl,rfl,by kernel_rfl⟩
theorem zO1:Ok Try.prog 31 zER:=zhn zMa zJf fun args K h=>by
  unfold zER at h
  split at h
  · rename_i a0_n a0_s a0_g
    obtain ⟨⟨⟨rfl,a0_f,rfl⟩,hs⟩,hk⟩:=h
    try rw [zac a0_f] at hs
    try rw [zac a0_f] at hk
    exact ⟨_,ze0 zf0 _,(fun _ _=>[]),(fun _=>false),zEJ,q31 (⟨a0_n,a0_f⟩:(Sl Gate)) K hs hk⟩
  · exact h.elim
abbrev T34:Tabs:=Tabs.nil
theorem zMb:TabsOk Try.prog T34:=TabsOk.nil
abbrev G34:Ctrs:=csm T34 (fun _ _=>[]) (fun _=>false)
def zES:Ann:=⟨26,[(0,zK [0,1] []),(1,zK [0,1,10] []),(2,zK [4] []),(3,zK [0,1,5] []),(4,zK [0,1,5,14] []),(5,zK [0,1,5] []),(6,zK [0,1,5,25] []),(7,zK [4] []),(8,zK [4] [])],
 [(4,zK [0,1,5] [])],
 [(3,zK [0,1] [])],
 [],[]⟩
abbrev R34:=Bool
abbrev e34 (r:R34):List PA:=[.one (.bool r)]
@[irreducible] def z34:=ptF Try.prog G34 zES Try.f34
def zCg (a:(Sl Line)) (b:(Sl Line)) (iv1:Int):St:=⟨[(0,zS zaC 4 a),(1,zS zaC 4 b),(5,zI iv1)],[],[]⟩
abbrev zJg (K:List PA→Prop) (a:(Sl Line)) (b:(Sl Line)) (X:St→Prop) (P:Int→Bool) (S:Int→Bool):Prop:=∀ ⦃iv1:Int⦄,P iv1=true→K (e34 (S iv1))→X (zCg a b iv1)
section
variable {K:List PA→Prop} {a:(Sl Line)} {b:(Sl Line)} {iv1:Int} {X1:St→Prop} {P1:Int→Bool} {S1:Int→Bool}
def zwy (a:(Sl Line)) (b:(Sl Line)) (S1:Int→Bool) (iv1:Int):Bool :=
  (cond (decide (iv1 < (a.len : Int)))
 (cond (!(match (match ((a.get iv1.toNat).Slope.Num == (b.get iv1.toNat).Slope.Num) with | true => (match ((a.get iv1.toNat).Slope.Den == (b.get iv1.toNat).Slope.Den) with | true => true | false => false) | false => false) with | true => (match (match ((a.get iv1.toNat).Start.Num == (b.get iv1.toNat).Start.Num) with | true => (match ((a.get iv1.toNat).Start.Den == (b.get iv1.toNat).Start.Den) with | true => true | false => false) | false => false) with | true => true | false => false) | false => false))
 false
 (S1 (w64 (iv1+(1:Int)))))
 true)
def zwz (a:(Sl Line)) (b:(Sl Line)) (P1:Int→Bool) (iv1:Int):Bool :=
  (cond (decide (iv1 < (a.len : Int)))
 (decide ((0≤iv1∧iv1 < (a.len:Int))) &&
 (decide ((0≤iv1∧iv1 < (b.len:Int))) &&
 (cond (!(match (match ((a.get iv1.toNat).Slope.Num == (b.get iv1.toNat).Slope.Num) with | true => (match ((a.get iv1.toNat).Slope.Den == (b.get iv1.toNat).Slope.Den) with | true => true | false => false) | false => false) with | true => (match (match ((a.get iv1.toNat).Start.Num == (b.get iv1.toNat).Start.Num) with | true => (match ((a.get iv1.toNat).Start.Den == (b.get iv1.toNat).Start.Den) with | true => true | false => false) | false => false) with | true => true | false => false) | false => false))
 true
 (P1 (w64 (iv1+(1:Int)))))))
 true)
def zwA (a:(Sl Line)) (b:(Sl Line)):Nat→Int→Bool:=lpO (fun _=>default) (zwy a b)
def zwB (a:(Sl Line)) (b:(Sl Line)):Nat→Int→Bool:=lpO (fun _=>false) (zwz a b)
def zwC (a:(Sl Line)) (b:(Sl Line)) (iv1:Int):Bool:=zwA a b Fuel iv1
def zwD (a:(Sl Line)) (b:(Sl Line)) (iv1:Int):Bool:=zwB a b Fuel iv1
theorem zET (hs:zwD a b iv1=true) (hk:K (e34 (zwC a b iv1))):z34 K [1,1,0,1,0] [] (zCg a b iv1) :=
  zl (fun X=>z34 K [1,1,0,1,0,0] [X]) (by kernel_rfl) fun X1 hX =>
  (show ∀ k, zJg K a b X1 (zwB a b k) (zwA a b k) from zer _ _ (zwz a b) (zwy a b) (zJg K a b X1)
 (by intro _ hs;exact absurd hs Bool.false_ne_true)
 (by intro P1 S1 hX1 iv1 hs hk;exact hX _ (zaD (by kernel_rfl) (zc hs hk (fun hs hk=>(zay hs fun hc hs=>And.intro hc (zay hs fun hc hs=>And.intro hc (zc hs hk (fun hs hk=>hk) (fun hs hk=>(hX1 hs hk)))))) (fun hs hk=>hk))))) _ hs hk
def zwE (a:(Sl Line)) (b:(Sl Line)):Bool :=
  (zwC a b (0:Int))
def zwF (a:(Sl Line)) (b:(Sl Line)):Bool :=
  (zwD a b (0:Int))
theorem zEU (hs:zwF a b=true) (hk:K (e34 (zwE a b))):z34 K [1,1] [] ⟨[(0,zS zaC 4 a),(1,zS zaC 4 b)],[],[]⟩:=zaD (by kernel_rfl) (zET hs hk)
def s34 (a:(Sl Line)) (b:(Sl Line)):Bool :=
  (cond ((a.len : Int) != (b.len : Int))
 false
 (zwE a b))
def p34 (a:(Sl Line)) (b:(Sl Line)):Bool :=
  (cond ((a.len : Int) != (b.len : Int))
 true
 (zwF a b))
end
theorem q34 (a:(Sl Line)) (b:(Sl Line)) (K:List PA→Prop) (hs:p34 a b=true) (hk:K (e34 (s34 a b))):vcFun Try.prog G34 zES 34 [.one (.sl a.len 4 (fun i=>zaC (a.get i))),.one (.sl b.len 4 (fun i=>zaC (b.get i)))] K :=
  zaD (by kernel_rfl) (zc hs hk (fun hs hk=>hk) (fun hs hk=>(zEU hs hk)))
def zEV : List PA → COut
  | [.one (.sl a0_n a0_s a0_g),.one (.sl a1_n a1_s a1_g)]=>.det (IsE zaC 4 a0_s a0_g∧IsE zaC 4 a1_s a1_g∧p34 (⟨a0_n,zjH a0_g⟩:(Sl Line)) (⟨a1_n,zjH a1_g⟩:(Sl Line))=true) [.one (.bool (s34 (⟨a0_n,zjH a0_g⟩:(Sl Line)) (⟨a1_n,zjH a1_g⟩:(Sl Line))))]
  | _=>.no
theorem zJh:zaf Try.prog 34:=⟨_,rfl,rfl,by kernel_rfl⟩
theorem zO2:Ok Try.prog 34 zEV:=zaF zMb zJh fun args K h=>by
  unfold zEV at h
  split at h
  · rename_i a0_n a0_s a0_g a1_n a1_s a1_g
    obtain ⟨⟨⟨rfl,a0_f,rfl⟩,⟨rfl,a1_f,rfl⟩,hs⟩,hk⟩:=h
    try rw [zet a0_f] at hs
    try rw [zet a0_f] at hk
    try rw [zet a1_f] at hs
    try rw [zet a1_f] at hk
    exact ⟨(fun _ _=>[]),(fun _=>false),zES,q34 (⟨a0_n,a0_f⟩:(Sl Line)) (⟨a1_n,a1_f⟩:(Sl Line)) K hs hk⟩
  · exact h.elim
abbrev T84:Tabs:=((Tabs.nil.addF 65 zvI).addF 66 zvJ)
theorem zMc:TabsOk Try.prog T84:=((TabsOk.nil.addF zLV).addF zLX)
abbrev G84:Ctrs:=csm T84 (fun _ _=>[]) (fun _=>false)
def zEW:Ann:=⟨25,[(0,zK [0,1] []),(1,zK [0,1,5] []),(2,zK [0,5,8,9,10] []),(3,zK [0,5,8,9,10,11] [20]),(4,zK [0,5,7,8,9,10] [20]),(5,zK [0,5,8,9,10] [20]),(6,zK [0,5,8,9,10] [20]),(7,zK [4] [])],
 [(3,⟨[0,5,8,9,10],[20],[(5,20,55,fun _=>enc_55 default)],[],[],[],[]⟩)],
 [],
 [],[]⟩
abbrev R84:=Bool
abbrev e84 (r:R84):List PA:=[.one (.bool r)]
@[irreducible] def z84:=ptF Try.prog G84 zEW Try.f84
def zCh (zaa:(Sl Gate)) (l_a1:(Sl Int)) (zcW:Int) (zcl:(Sl Gate)) (zfd:Nat→List PV):St:=⟨[(0,zS enc_55 3 zaa),(5,zv 20),(8,zS zaq 1 l_a1),(9,zI (l_a1.len:Int)),(10,zI zcW)],[(20,.vec 55 3 24 zcl.len zfd)],[]⟩
abbrev zJi (K:List PA→Prop) (zaa:(Sl Gate)) (l_a1:(Sl Int)) (X:St→Prop) (P:Int→(Sl Gate)→Bool) (S:Int→(Sl Gate)→Bool):Prop:=∀ ⦃zcW:Int⦄ ⦃zcl:(Sl Gate)⦄ ⦃zfd:Nat→List PV⦄,P zcW zcl=true→K (e84 (S zcW zcl))→zfd=zg enc_55 zcl→X (zCh zaa l_a1 zcW zcl zfd)
section
variable {K:List PA→Prop} {zaa:(Sl Gate)} {l_a1:(Sl Int)} {zcW:Int} {zcl:(Sl Gate)} {zfd:Nat→List PV} {X0:St→Prop} {P0:Int→(Sl Gate)→Bool} {S0:Int→(Sl Gate)→Bool}
def zwG (zaa:(Sl Gate)) (l_a1:(Sl Int)) (S0:Int→(Sl Gate)→Bool) (zcW:Int) (zcl:(Sl Gate)):Bool :=
  (cond (decide (zcW < (l_a1.len : Int)))
 (S0 (w64 (zcW+(1:Int))) (⟨(zcl.len+1),(zdT zcl.len zcl.get (fun _=>(zaa.get ((l_a1.get zcW.toNat).toNat))))⟩:Sl Gate))
 (s66 (s65 zcl)))
def zwH (zaa:(Sl Gate)) (l_a1:(Sl Int)) (P0:Int→(Sl Gate)→Bool) (zcW:Int) (zcl:(Sl Gate)):Bool :=
  (cond (decide (zcW < (l_a1.len : Int)))
 (decide ((0≤zcW∧zcW < (l_a1.len:Int))) &&
 (decide ((0≤(l_a1.get zcW.toNat)∧(l_a1.get zcW.toNat) < (zaa.len:Int))) &&
 (decide (((zcl.len+1) * 24≤140737488355328∧zcl.len+1≤9223372036854775807)) &&
 (P0 (w64 (zcW+(1:Int))) (⟨(zcl.len+1),(zdT zcl.len zcl.get (fun _=>(zaa.get ((l_a1.get zcW.toNat).toNat))))⟩:Sl Gate)))))
 (decide ((p65 zcl=true)) &&
 (decide ((p66 (s65 zcl)=true)) &&
 true)))
def zwI (zaa:(Sl Gate)) (l_a1:(Sl Int)):Nat→Int→(Sl Gate)→Bool:=lpO (fun _ _=>default) (zwG zaa l_a1)
def zwJ (zaa:(Sl Gate)) (l_a1:(Sl Int)):Nat→Int→(Sl Gate)→Bool:=lpO (fun _ _=>false) (zwH zaa l_a1)
def zwK (zaa:(Sl Gate)) (l_a1:(Sl Int)) (zcW:Int) (zcl:(Sl Gate)):Bool:=zwI zaa l_a1 Fuel zcW zcl
def zwL (zaa:(Sl Gate)) (l_a1:(Sl Int)) (zcW:Int) (zcl:(Sl Gate)):Bool:=zwJ zaa l_a1 Fuel zcW zcl
theorem zEX (hs:zwL zaa l_a1 zcW zcl=true) (hk:K (e84 (zwK zaa l_a1 zcW zcl))) (zpI:zfd=zg enc_55 zcl):z84 K [1,1,0,1,0] [] (zCh zaa l_a1 zcW zcl zfd) :=
  zl (fun X=>z84 K [1,1,0,1,0,0] [X]) (by kernel_rfl) fun X0 hX =>
  (show ∀ k, zJi K zaa l_a1 X0 (zwJ zaa l_a1 k) (zwI zaa l_a1 k) from zer _ _ (zwH zaa l_a1) (zwG zaa l_a1) (zJi K zaa l_a1 X0)
 (by intro _ _ _ hs;exact absurd hs Bool.false_ne_true)
 (by intro P0 S0 hX0 zcW zcl zfd hs hk zpI;subst zpI;exact hX _ (zaD (by kernel_rfl) (zc hs hk (fun hs hk=>(zay hs fun hc hs=>And.intro hc (zay hs fun hc hs=>And.intro hc (zay hs fun hc hs=>And.intro hc (hX0 hs hk (zeP (enc:=enc_55) (f:=zcl.get) (h:=(fun _=>(zaa.get ((l_a1.get zcW.toNat).toNat)))) rfl rfl)))))) (fun hs hk=>(zay hs fun hc hs=>And.intro (And.intro (zE enc_55 3 zcl.get) hc) (zay hs fun hc hs=>And.intro (And.intro (zE enc_55 3 ((s65 zcl).list.Gates.get)) (And.intro (zE zah 3 ((s65 zcl).corners.get)) hc)) hk))))))) _ hs hk zpI
def s84 (zaa:(Sl Gate)) (l_a1:(Sl Int)):Bool :=
  (zwK zaa l_a1 (0:Int) (⟨0,(fun _=>default)⟩:Sl Gate))
def p84 (zaa:(Sl Gate)) (l_a1:(Sl Int)):Bool :=
  (zwL zaa l_a1 (0:Int) (⟨0,(fun _=>default)⟩:Sl Gate))
end
theorem q84 (zaa:(Sl Gate)) (l_a1:(Sl Int)) (K:List PA→Prop) (hs:p84 zaa l_a1=true) (hk:K (e84 (s84 zaa l_a1))):vcFun Try.prog G84 zEW 84 [.one (.sl zaa.len 3 (fun i=>enc_55 (zaa.get i))),.one (.sl l_a1.len 1 (fun i=>zaq (l_a1.get i)))] K :=
  zaD (by kernel_rfl) (zEX hs hk rfl)
def zEY : List PA → COut
  | [.one (.sl a0_n a0_s a0_g),.one (.sl a1_n a1_s a1_g)]=>.det (IsE enc_55 3 a0_s a0_g∧IsE zaq 1 a1_s a1_g∧p84 (⟨a0_n,zae a0_g⟩:(Sl Gate)) (⟨a1_n,zcT a1_g⟩:(Sl Int))=true) [.one (.bool (s84 (⟨a0_n,zae a0_g⟩:(Sl Gate)) (⟨a1_n,zcT a1_g⟩:(Sl Int))))]
  | _=>.no
theorem zJj:zaf Try.prog 84:=⟨_,rfl,rfl,by kernel_rfl⟩
theorem zO3:Ok Try.prog 84 zEY:=zaF zMc zJj fun args K h=>by
  unfold zEY at h
  split at h
  · rename_i a0_n a0_s a0_g a1_n a1_s a1_g
    obtain ⟨⟨⟨rfl,a0_f,rfl⟩,⟨rfl,a1_f,rfl⟩,hs⟩,hk⟩:=h
    try rw [zac a0_f] at hs
    try rw [zac a0_f] at hk
    try rw [zdv a1_f] at hs
    try rw [zdv a1_f] at hk
    exact ⟨(fun _ _=>[]),(fun _=>false),zEW,q84 (⟨a0_n,a0_f⟩:(Sl Gate)) (⟨a1_n,a1_f⟩:(Sl Int)) K hs hk⟩
  · exact h.elim
end Go.Proofs
