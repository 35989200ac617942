/- Part 4 of what the proof rests on: a machine that runs functions of the program on pure values, proved sound; the functions that the law reaches, and what they compute. -/
import Derived.Test.YtkpjhhoafenogaaQ3
import Derived.Sort.OwnSortedInts
import Derived.Lib.SlicesCompact
import Derived.ProofKit
import Derived.Deep.Slices
import Derived.Shelf.SlSortCmp.WholeK
import Derived.Test.YtkpjhhoafenogaaProg
import Derived.Shelf.SlSortCmp.NoneTotal
set_option linter.all false
namespace Go.Pm

structure Tabs where
  fn:List (Nat×(List PA→COut))
  own:List (Nat×OwnK)
  it:List (Nat×(List PA→Option (Prop×List (List PA))))
def ztX : List (Nat × (List PA → COut)) → Nat → List PA → COut
  | [],_=>fun _=>.no
  | (k,c) :: r,n=>match Nat.beq k n with | true=>c | false=>ztX r n
def ztY (l:List (Nat×OwnK)) (f:Nat):OwnK:=match lk l f with | some c=>c | none=>.none
def zCX (l:List (Nat×(List PA→Option (Prop×List (List PA))))) (f:Nat):List PA→Option (Prop×List (List PA)):=match lk l f with | some c=>c | none=>fun _=>none
def csm (T:Tabs) (memo:Nat→Int→List Int) (vv:Nat→Bool):Ctrs:=⟨ztX T.fn,ztY T.own,zCX T.it,memo,vv⟩
abbrev cs (T:Tabs):Ctrs:=csm T (fun _ _=>[]) (fun _=>false)
def Tabs.nil:Tabs:=⟨[],[],[]⟩
def Tabs.addF (T:Tabs) (f:Nat) (c:List PA→COut):Tabs:=⟨(f,c) :: T.fn,T.own,T.it⟩
def Tabs.addO (T:Tabs) (f:Nat) (c:OwnK):Tabs:=⟨T.fn,(f,c) :: T.own,T.it⟩
def Tabs.addI (T:Tabs) (f:Nat) (c:List PA→Option (Prop×List (List PA))):Tabs:=⟨T.fn,T.own,(f,c) :: T.it⟩

theorem zKz {P:Program} {f:Nat} : Ok P f (fun _=>.no):=fun _ _ h=>h.elim
theorem zKA {P:Program} {f:Nat} : zBc P f (fun _=>none):=fun _ _ _ h=>by cases h

structure TabsOk (P : Program) (T : Tabs) : Prop where
  fn:∀ x∈T.fn,Ok P x.1 x.2
  own:∀ x∈T.own,zls P x.1 x.2
  it:∀ x∈T.it,zBc P x.1 x.2
theorem TabsOk.nil {P:Program} : TabsOk P .nil:=⟨fun _ h=>(by cases h),fun _ h=>(by cases h),fun _ h=>(by cases h)⟩
theorem TabsOk.addF {P:Program} {T:Tabs} (h:TabsOk P T) {f:Nat} {c:List PA→COut} (hc:Ok P f c):TabsOk P (T.addF f c) :=
 ⟨fun x hx=>(List.mem_cons.1 hx).elim (fun e=>by rw [e];exact hc) (fun hx=>h.fn x hx),h.own,h.it⟩
theorem TabsOk.addO {P:Program} {T:Tabs} (h:TabsOk P T) {f:Nat} {c:OwnK} (hc:zls P f c):TabsOk P (T.addO f c) :=
 ⟨h.fn,fun x hx=>(List.mem_cons.1 hx).elim (fun e=>by rw [e];exact hc) (fun hx=>h.own x hx),h.it⟩
theorem TabsOk.addI {P:Program} {T:Tabs} (h:TabsOk P T) {f:Nat} {c:List PA→Option (Prop×List (List PA))} (hc:zBc P f c):TabsOk P (T.addI f c) :=
 ⟨h.fn,h.own,fun x hx=>(List.mem_cons.1 hx).elim (fun e=>by rw [e];exact hc) (fun hx=>h.it x hx)⟩
theorem TabsOk.all {P:Program} {T:Tabs} (h:TabsOk P T) (memo:Nat→Int→List Int) (vv:Nat→Bool):OkAll P (csm T memo vv):=by
 refine ⟨fun f=>?_,fun f=>?_,fun f=>?_⟩
 ·show Ok P f (ztX T.fn f)
  have key:∀ l:List (Nat×(List PA→COut)),(∀ x∈l,Ok P x.1 x.2)→Ok P f (ztX l f):=by
   intro l
   induction l with
   | nil=>intro _;exact zKz
   | cons x l ih =>
    intro hl
    obtain ⟨k,c⟩:=x
    simp only [ztX]
    split
    ·rename_i e
     have:=hl (k,c) List.mem_cons_self
     rw [← Nat.eq_of_beq_eq_true e];exact this
    ·exact ih fun x hx=>hl x (List.mem_cons_of_mem _ hx)
  exact key T.fn h.fn
 ·show zls P f (ztY T.own f)
  unfold ztY
  split
  ·rename_i c hc;exact h.own _ (zcw hc)
  ·trivial
 ·show zBc P f (zCX T.it f)
  unfold zCX
  split
  ·rename_i c hc;exact h.it _ (zcw hc)
  ·exact zKA

theorem zaz {P : Program} {T : Tabs} (hT : TabsOk P T) {f : FuncId} {C : List PA → COut} (hc : zaf P f)
    (h:∀ args K,(C args).wp K→∃ memo vv ann,vcFun P (csm T memo vv) ann f args K):Ok P f C :=
  zzT (hT.all (fun _ _=>[]) (fun _=>false)) hc h
theorem zHi {P : Program} {T : Tabs} (hT : TabsOk P T) {f : FuncId} {C : List PA → Option (Prop × List (List PA))} (hc : zaf P f)
    (h:∀ l caps safe ys,C caps=some (safe,ys)→safe→∃ memo vv ann,vcIter P (csm T memo vv) ann f l caps ys):zBc P f C :=
  zzX (hT.all (fun _ _=>[]) (fun _=>false)) hc h
theorem ztZ {P : Program} {T : Tabs} (hT : TabsOk P T) {f : FuncId} {e s b : Nat} (hc : zaf P f)
    (h:∀ n get,n * b≤140737488355328→n≤9223372036854775807→∃ memo vv ann,ztW P (csm T memo vv) ann f [.one (.sl n s get)] e s b n get):zls P f (.clone e s b) :=
  zoM (hT.all (fun _ _=>[]) (fun _=>false)) hc h

structure Sl (α : Type) where
  len:Nat
  get:Nat→α
instance {α:Type} [Inhabited α]:Inhabited (Sl α):=⟨⟨0,fun _=>default⟩⟩
abbrev w64 (x:Int):Int:=IntKind.i64.wrap x

def IsE {α:Type} (enc:α→List PV) (size s:Nat) (g:Nat→List PV):Prop:=s=size∧∃ f:Nat→α,g=fun i=>enc (f i)
theorem isE {α:Type} {enc:α→List PV} {size:Nat} {f:Nat→α} : IsE enc size size (fun i=>enc (f i)):=⟨rfl,f,rfl⟩
def zdA {α:Type} (n:Nat) (get new:Nat→α):Nat→α:=fun j=>match Nat.ble n j with | true=>new (j - n) | false=>get j
theorem zzY {α:Type} {enc:α→List PV} {n:Nat} {f h:Nat→α} : appG n (fun i=>enc (f i)) (fun i=>enc (h i))=fun i=>enc (zdA n f h i):=by
 funext j;simp only [appG,zdA];cases Nat.ble n j <;> rfl
def ziZ {α : Type} (x : α) : List α → Nat → α
  | [],_=>x
  | y :: _,0=>y
  | _ :: r,i+1=>ziZ x r i
theorem zep {α:Type} {enc:α→List PV} {x y:α} {r:List α} : zdf (enc x :: enc y :: r.map enc)=fun i=>enc (ziZ x (x :: y :: r) i):=by
 have key:∀ (l:List α) (i:Nat),(match (l.map enc)[i]? with | some z=>z | none=>enc x)=enc (ziZ x l i):=by
  intro l
  induction l with
  | nil=>intro i;rfl
  | cons a l ih =>
   intro i
   cases i with
   | zero=>rfl
   | succ i=>simpa [ziZ] using ih i
 funext i
 exact key (x :: y :: r) i
theorem zfu {α:Type} {enc:α→List PV} {size:Nat} {x y:α} (r:List α):IsE enc size size (zdf (enc x :: enc y :: r.map enc)):=⟨rfl,_,zep⟩

theorem zch {b:Bool} {A B:Prop} {S S':Bool} {α:Type} {K:α→Prop} {x y:α} (h1:S=true→K x→A) (h2:S'=true→K y→B) (hs:cond b S S'=true) (hk:K (cond b x y)):zcX b A B:=by
 cases b
 ·exact h2 hs hk
 ·exact h1 hs hk
theorem zlU {b:Bool} {A B:Prop} {S S':Bool} {α β:Type} {f:α→β} {ys:List β} {x y:List α} (hs:cond b S S'=true) (hk:ys=(cond b x y).map f) (h1:S=true→ys=x.map f→A) (h2:S'=true→ys=y.map f→B):zcX b A B:=by
 cases b
 ·exact h2 hs hk
 ·exact h1 hs hk
theorem itY {α β:Type} {f:α→β} {ys:List β} {p:β} {x r:List α} {l:Nat} {A:List β→Prop} (hk:ys=x.map f) (e:x.map f=p :: r.map f) (h:∀ zs,zs=r.map f→A zs):l=l∧∃ z,ys=p :: z∧A z∧True :=
 ⟨rfl,_,hk.trans e,h _ rfl,trivial⟩
theorem zav {C A:Prop} [d:Decidable C] {r:Bool} (hs:(decide C && r)=true) (k:C→r=true→A):A:=by
 rw [Bool.and_eq_true] at hs
 exact k (of_decide_eq_true hs.1) hs.2
abbrev Fuel:Nat:=9223372036854775808
def setT {α:Type} (i:Nat) (v:α) (get:Nat→α):Nat→α:=fun j=>match Nat.beq j i with | true=>v | false=>get j
theorem zeH {α:Type} {enc:α→List PV} {n:Nat} {g g':Nat→List PV} {f h:Nat→α} (h1:g=fun i=>enc (f i)) (h2:g'=fun i=>enc (h i)):appG n g g'=fun i=>enc (zdA n f h i):=by
 subst h1;subst h2;exact zzY
def zMk (P:Program) (G:Ctrs) (ann:Ann) (hd:Nat) (ps:List Nat) (assign body:Code) (X:List (List PA)→St→Prop) (K:Exit→St→Prop) (y:List PA) (rest:List (List PA)) (s:St):Prop :=
 match lk ann.head hd with
 | some k=>match zgx ps y s.env with
  | some env=>vc P G ann assign (zCy (vc P G ann body (zkS P k (X rest) K)) fun _ _=>False) ⟨env,s.objs,[]⟩
  | none=>False
 | none=>False
def sortB (n:Nat) (p:Nat→Nat→Bool) (c:Nat→Nat→Int):Bool :=
  (List.range n).all fun i => decide (0 ≤ c i i) && (List.range n).all fun j => p i j && (Nat.beq i j || (decide (c i j < 0) && decide (0 ≤ c j i)) || (decide (c j i < 0) && decide (0 ≤ c i j))) &&
    (List.range n).all fun k=>!(decide (c i j < 0) && decide (c j k < 0)) || decide (c i k < 0)
theorem zq8 {n:Nat} {p:Nat→Nat→Bool} {c c':Nat→Nat→Int} {s:Nat→Nat→Prop} (h:sortB n p c=true) (hp:∀ i j,p i j=true→s i j) (hc:c'=c):(∀ i j,i < n→j < n→s i j)∧STO n c':=by
 subst hc
 simp only [sortB,List.all_eq_true,List.mem_range,Bool.and_eq_true,Bool.or_eq_true,decide_eq_true_eq,Bool.not_eq_true',Bool.and_eq_false_iff,decide_eq_false_iff_not] at h
 refine ⟨fun i j hi hj=>hp i j ((h i hi).2 j hj).1.1,fun i hi=>(h i hi).1,fun i j hi hj hne=>?_,fun i j k hi hj hk h1 h2=>?_⟩
 ·rcases ((h i hi).2 j hj).1.2 with (h1 | h1) | h1
  ·exact absurd (Nat.eq_of_beq_eq_true h1) hne
  ·exact .inl h1
  ·exact .inr h1
 ·rcases ((h i hi).2 j hj).2 k hk with (h3 | h3) | h3
  ·exact absurd h1 h3
  ·exact absurd h2 h3
  ·exact h3
end Go.Pm
namespace Go.Pm
open Go Go.Sort

/-! Nil slices are slices of length 0. -/
inductive PVle : PV → PV → Prop
  | rfl (p:PV):PVle p p
  | nil (s:Nat) (g:Nat→List PV):PVle .nils (.sl 0 s g)
  | nilm (q:MQ):PVle .nilm (.fm q 0 (fun _=>none))
inductive PAle : PA → PA → Prop
  | one {p q:PV} : PVle p q→PAle (.one p) (.one q)
  | agg {l m:List PV} : RL PVle l m→PAle (.agg l) (.agg m)
theorem zhk {α β:Type} {R:α→β→Prop} : RL R [] []:=trivial
theorem zc4 {α β:Type} {R:α→β→Prop} {a:α} {b:β} {l:List α} {m:List β} (h:R a b) (h':RL R l m):RL R (a :: l) (b :: m):=⟨h,h'⟩
theorem zeS {α : Type} {R : α → α → Prop} (h : ∀ a, R a a) : ∀ l : List α, RL R l l
  | []=>trivial
  | a :: l=>⟨h a,zeS h l⟩
theorem zfS (a:PA):PAle a a:=by
 cases a with
 | one p=>exact .one (.rfl p)
 | agg l=>exact .agg (zeS .rfl l)
def Wk (K:List PA→Prop) (l:List PA):Prop:=∃ l',RL PAle l l'∧K l'
theorem wk {K:List PA→Prop} {l l':List PA} (hk:K l') (h:RL PAle l l'):Wk K l:=⟨l',h,hk⟩
theorem zd4 {K:List PA→Prop} {l:List PA} (hk:K l):Wk K l:=⟨l,zeS zfS l,hk⟩
theorem zHj {h:Fz} {p q:PV} {v:Value} (e:PVle p q) (r:Rep h p v):Rep h q v:=by
 cases e with
 | rfl=>exact r
 | nil s g=>cases r;exact .sl0 s g
 | nilm q=>cases r;exact .fmn q _ (fun _ _=>rfl)
theorem zzZ {α β γ : Type} {R : α → β → Prop} {S : α → γ → Prop} {T : γ → β → Prop} (h : ∀ a b c, S a c → R a b → T c b) : ∀ (l : List α) (m : List β) (k : List γ), RL S l k → RL R l m → RL T k m
  | [],[],[],_,_=>trivial
  | a :: l,b :: m,c :: k,hs,hr=>⟨h a b c hs.1 hr.1,zzZ h l m k hs.2 hr.2⟩
  | [],_ :: _,[],_,hr=>hr.elim
  | [],_,_ :: _,hs,_=>hs.elim
  | _ :: _,_,[],hs,_=>hs.elim
  | _ :: _,[],_ :: _,_,hr=>hr.elim
theorem zCY {h:Fz} {a b:PA} {v:Value} (e:PAle a b) (r:paR h a v):paR h b v:=by
 cases e with
 | one e=>exact zHj e r
 | agg e =>
  obtain ⟨vs,rfl,hv⟩:=r
  exact ⟨vs,rfl,zzZ (R:=Rep h) (S:=PVle) (T:=Rep h) (fun _ _ _ e r=>zHj e r) _ _ _ e hv⟩
theorem zHk {h:Fz} {l m:List PA} {v:Value} (e:RL PAle l m) (r:zzq h l v):zzq h m v:=by
 match l,m,e,r with
 | [a],[b],e,r=>exact zCY e.1 r
 | [],[],_,r=>exact r
 | a :: b :: l,c :: d :: m,e,r =>
  obtain ⟨vs,hv,hr⟩:=r
  exact ⟨vs,hv,zzZ (R:=paR h) (S:=PAle) (T:=paR h) (fun _ _ _ e r=>zCY e r) _ _ _ e hr⟩
 | [_],_ :: _ :: _,e,_=>exact e.2.elim
 | _ :: _ :: _,[_],e,_=>exact e.2.elim
 | [],_ :: _,e,_=>exact e.elim
 | _ :: _,[],e,_=>exact e.elim
theorem zhl {P : Program} {T : Tabs} (hT : TabsOk P T) {f : FuncId} {C : List PA → COut} (hc : zaf P f)
    (h:∀ args K,(C args).wp K→∃ args',RL PAle args args'∧∃ memo vv ann,vcFun P (csm T memo vv) ann f args' (Wk K)):Ok P f C:=by
  intro args K hK w h0 vs hvs hfz
  obtain ⟨args',hle,memo,vv,ann,hv⟩:=h args K hK
  refine ⟨hc,(ztU (hT.all memo vv) hv (zzZ (R:=paR h0) (S:=PAle) (T:=paR h0) (fun _ _ _ e r=>zCY e r) _ _ _ hle hvs) hfz).mono ?_⟩
  rintro e w' ⟨h',rs,v,⟨rs',hr,hk⟩,he,hres,rest⟩
  exact ⟨h',rs',v,hk,he,zHk hr hres,rest⟩
/-! Maps, as typed values; the keys of a map. -/
structure Mp where
  n:Nat
  F:List Int→Option (List Int)
instance:Inhabited Mp:=⟨⟨0,fun _=>none⟩⟩

def zHl (m:Nat) (F:List Int→Option (List Int)) (seen ys:List (List Int)):Prop :=
 ys.Nodup∧(∀ y∈ys,y.length=m∧F y ≠ none∧y ∉ seen)∧∀ c,c.length=m→F c ≠ none→c ∉ seen→c∈ys
def nodupB : List (List Int) → Bool
  | []=>true
  | y :: r=>!r.contains y && nodupB r
def keysB (m n:Nat) (F:List Int→Option (List Int)) (ys:List (List Int)):Bool :=
 Nat.beq ys.length n && ys.all (fun y=>Nat.beq y.length m && (F y).isSome) && nodupB ys
theorem zlf : ∀ {ys : List (List Int)}, nodupB ys = true ↔ ys.Nodup
  | []=>by simp [nodupB]
  | y :: r=>by simp [nodupB,zlf (ys:=r)]
theorem znB {α : Type} [DecidableEq α] : ∀ {l m : List α}, l.Nodup → (∀ x ∈ l, x ∈ m) → m.length ≤ l.length → ∀ x ∈ m, x ∈ l
  | [],m,_,_,hl,x,hx=>by have:m=[]:=List.eq_nil_of_length_eq_zero (by simpa using hl);rw [this] at hx;exact hx
  | a :: l,m,hn,hs,hl,x,hx=>by
    have ha:=hs a List.mem_cons_self
    by_cases h:x=a
    · rw [h];exact List.mem_cons_self
    · have hx2 : x ∈ m.erase a := (List.mem_erase_of_ne h).2 hx
      have hn2:=List.nodup_cons.1 hn
      refine List.mem_cons_of_mem _ (znB hn2.2 (fun z hz=>?_) ?_ x hx2)
      · have hza : z ≠ a := fun e => hn2.1 (e ▸ hz)
        exact (List.mem_erase_of_ne hza).2 (hs z (List.mem_cons_of_mem _ hz))
      · rw [List.length_erase_of_mem ha];simp at hl;omega
theorem zt0 {m n:Nat} {F:List Int→Option (List Int)} {ys:List (List Int)} (h:keysB m n F ys=true) (hf:zGU m n F):zHl m F [] ys:=by
 simp only [keysB,Bool.and_eq_true,List.all_eq_true] at h
 obtain ⟨⟨h1,h2⟩,h3⟩:=h
 have h1:=Nat.eq_of_beq_eq_true h1
 have h3:=zlf.1 h3
 obtain ⟨ks,k1,k2,k3,k4⟩:=hf
 have hy:∀ y∈ys,y.length=m∧F y ≠ none:=fun y hy=>by
  obtain ⟨a,b⟩:=h2 y hy
  refine ⟨Nat.eq_of_beq_eq_true a,fun e=>?_⟩
  rw [e] at b;cases b
 refine ⟨h3,fun y hy'=>⟨(hy y hy').1,(hy y hy').2,by simp⟩,fun c hc hne _=>?_⟩
 exact znB h3 (fun y hy'=>(k4 y (hy y hy').1).1 (hy y hy').2) (by rw [k1,h1];exact Nat.le_refl _) c ((k4 c hc).1 hne)
theorem zz0 {m : Nat} {F : List Int → Option (List Int)} {seen ys : List (List Int)} (h : zHl m F seen ys) {c : List Int} (hc : c.length = m) (hF : F c ≠ none) (hs : c ∉ seen) :
  ys.Perm (c :: ys.erase c)∧zHl m F (c :: seen) (ys.erase c)∧(ys.erase c).length+1=ys.length:=by
 obtain ⟨h1,h2,h3⟩:=h
 have hm:=h3 c hc hF hs
 refine ⟨List.perm_cons_erase hm,⟨h1.erase c,fun y hy=>?_,fun d hd hdF hds=>?_⟩,?_⟩
 ·have := (List.Nodup.mem_erase_iff h1).1 hy
  obtain ⟨a,b,e⟩:=h2 y this.2
  exact ⟨a,b,by simp [this.1,e]⟩
 ·simp only [List.mem_cons, not_or] at hds
  exact (List.mem_erase_of_ne hds.1).2 (h3 d hd hdF hds.2)
 ·rw [List.length_erase_of_mem hm]
  have:0 < ys.length:=List.length_pos_of_mem hm
  omega
theorem zCZ {m:Nat} {F:List Int→Option (List Int)} {seen ys:List (List Int)} (h:zHl m F seen ys) (he:∀ c,c.length=m→F c ≠ none→c∈seen):ys=[]:=by
 cases ys with
 | nil=>rfl
 | cons y r =>
  obtain ⟨a,b,e⟩:=h.2.1 y List.mem_cons_self
  exact (e (he y a b)).elim

end Go.Pm
namespace Go.Pm
open Go

theorem zaK {x:Int} (h1 : -9223372036854775808≤x) (h2:x≤9223372036854775807):w64 x=x:=by
 have hb:IntKind.i64.bits=64:=rfl
 have hs:IntKind.i64.signed=true:=rfl
 unfold w64 IntKind.wrap
 rw [hb,hs]
 simp only [Bool.true_and,decide_eq_true_eq]
 split <;> omega
def zkI (c : Nat → Bool) : Nat → Nat → Nat
  | 0,i=>i
  | m+1,i=>match c i with | true=>i | false=>zkI c m (i+1)
theorem zt1 {c:Nat→Bool} {m i:Nat} (h:c i=true):zkI c (m+1) i=i:=by simp only [zkI,h]
theorem zt2 {c:Nat→Bool} {m i:Nat} (h:c i=false):zkI c (m+1) i=zkI c m (i+1):=by simp only [zkI,h]
theorem zjD (c:Nat→Bool) (m i:Nat):i≤zkI c m i∧zkI c m i≤i+m∧(∀ j,i≤j→j < zkI c m i→c j=false)∧(zkI c m i < i+m→c (zkI c m i)=true):=by
 induction m generalizing i with
 | zero=>exact ⟨Nat.le_refl _,Nat.le_refl _,fun j h1 h2=>absurd h2 (by simp only [zkI];omega),fun h=>absurd h (by simp only [zkI];omega)⟩
 | succ m ih =>
  cases e:c i
  ·rw [zt2 e]
   obtain ⟨h1,h2,h3,h4⟩:=ih (i+1)
   refine ⟨by omega,by omega,fun j hj1 hj2=>?_,fun h=>h4 (by omega)⟩
   by_cases hji:j=i
   ·rw [hji];exact e
   ·exact h3 j (by omega) hj2
  ·rw [zt1 e]
   exact ⟨Nat.le_refl _,by omega,fun j h1 h2=>absurd h2 (by omega),fun _=>e⟩
def fst (c:Nat→Bool) (n:Nat):Nat:=zkI c n 0
theorem zBq (c:Nat→Bool) (n:Nat):fst c n≤n:=by have:=(zjD c n 0).2.1;simpa [fst] using this
theorem zBr {c:Nat→Bool} {n j:Nat} (h:j < fst c n):c j=false:=(zjD c n 0).2.2.1 j (Nat.zero_le _) h
theorem zBs {c:Nat→Bool} {n:Nat} (h:fst c n < n):c (fst c n)=true:=(zjD c n 0).2.2.2 (by simpa [fst] using h)
theorem zlV {α : Type} {c : α → Bool} {lpS : Nat → Sl α → Int → Int → Int} {lpP : Nat → Sl α → Int → Int → Bool}
    (hS:∀ k s t i,lpS (k+1) s t i=cond (decide (i < t)) (cond (c (s.get i.toNat)) i (lpS k s t (w64 (i+(1:Int))))) (-1:Int))
    (hP:∀ k s t i,lpP (k+1) s t i=cond (decide (i < t)) (decide (0≤i∧i < (s.len:Int)) && cond (c (s.get i.toNat)) true (lpP k s t (w64 (i+(1:Int))))) true)
    (s:Sl α) (hn:s.len≤9223372036854775807):lpP Fuel s (s.len:Int) 0=true∧lpS Fuel s (s.len:Int) 0=if fst (fun i=>c (s.get i)) s.len < s.len then ((fst (fun i=>c (s.get i)) s.len:Nat):Int) else -1:=by
  have key:∀ (m k i:Nat),i+m=s.len→m < k→lpP k s (s.len:Int) (i:Int)=true ∧
      lpS k s (s.len:Int) (i:Int)=if zkI (fun i=>c (s.get i)) m i < s.len then ((zkI (fun i=>c (s.get i)) m i:Nat):Int) else -1:=by
    intro m
    induction m with
    | zero =>
      intro k i hi hk
      obtain ⟨k,rfl⟩:∃ k',k=k'+1:=⟨k - 1,by omega⟩
      rw [hS,hP]
      have e:decide ((i:Int) < (s.len:Int))=false:=decide_eq_false (by omega)
      rw [e]
      have e5 : ¬ zkI (fun i=>c (s.get i)) 0 i < s.len:=by show ¬ i < s.len;omega
      rw [if_neg e5]
      exact ⟨rfl,rfl⟩
    | succ m ih =>
      intro k i hi hk
      obtain ⟨k,rfl⟩:∃ k',k=k'+1:=⟨k - 1,by omega⟩
      rw [hS,hP]
      have e:decide ((i:Int) < (s.len:Int))=true:=decide_eq_true (by omega)
      have e2:decide (0≤(i:Int)∧(i:Int) < (s.len:Int))=true:=decide_eq_true (by omega)
      have e3:w64 ((i:Int)+1)=((i+1:Nat):Int):=by rw [zaK (by omega) (by omega)];omega
      have e4:(i:Int).toNat=i:=by omega
      rw [e,e2,e3,e4]
      cases hc:c (s.get i)
      · rw [zt2 (c := fun i => c (s.get i)) hc]
        exact ih k (i+1) (by omega) (by omega)
      · rw [zt1 (c := fun i => c (s.get i)) hc, if_pos (by omega)]
        exact ⟨rfl,rfl⟩
  exact key s.len Fuel 0 (by omega) (by simp only [Fuel];omega)

theorem zq9 {good : Nat → Bool} {fin : Bool} {n : Nat} {lpS lpP : Nat → Int → Bool}
    (hS:∀ (k i:Nat),i < n→lpS (k+1) (i:Int)=cond (good i) (lpS k (w64 ((i:Int)+(1:Int)))) false)
    (hE:∀ k,lpS (k+1) (n:Int)=fin)
    (hP:∀ (k i:Nat),i < n→lpP (k+1) (i:Int)=cond (good i) (lpP k (w64 ((i:Int)+(1:Int)))) true)
    (hPE:∀ k,lpP (k+1) (n:Int)=true) (hn:n≤9223372036854775807) :
    lpP Fuel 0=true∧(lpS Fuel 0=true↔(∀ i,i < n→good i=true)∧fin=true):=by
  have key:∀ (m k i:Nat),i+m=n→m < k→lpP k (i:Int)=true∧(lpS k (i:Int)=true↔(∀ j,i≤j→j < n→good j=true)∧fin=true):=by
    intro m
    induction m with
    | zero =>
      intro k i hi hk
      obtain ⟨k,rfl⟩:∃ k',k=k'+1:=⟨k - 1,by omega⟩
      have:i=n:=by omega
      subst this
      rw [hE,hPE]
      exact ⟨rfl,⟨fun h=>⟨fun j h1 h2=>absurd h2 (by omega),h⟩,fun h=>h.2⟩⟩
    | succ m ih =>
      intro k i hi hk
      obtain ⟨k,rfl⟩:∃ k',k=k'+1:=⟨k - 1,by omega⟩
      rw [hS k i (by omega),hP k i (by omega)]
      have e3:w64 ((i:Int)+1)=((i+1:Nat):Int):=by rw [zaK (by omega) (by omega)];omega
      rw [e3]
      obtain ⟨h1,h2⟩:=ih k (i+1) (by omega) (by omega)
      cases hg:good i
      · refine ⟨rfl, ⟨fun h => (by cases h), fun h => ?_⟩⟩
        have:=h.1 i (Nat.le_refl _) (by omega)
        rw [hg] at this;cases this
      · refine ⟨h1, h2.trans ⟨fun h => ⟨fun j hj1 hj2 => ?_, h.2⟩, fun h => ⟨fun j hj1 hj2 => h.1 j (by omega) hj2, h.2⟩⟩⟩
        by_cases hji:j=i
        · rw [hji];exact hg
        · exact h.1 j (by omega) hj2
  have:=key n Fuel 0 (by omega) (by simp only [Fuel];omega)
  simpa using this

end Go.Pm
namespace Go.Pm
open Go Go.Deep

theorem zz1 (b o i j:Nat):((⟨b,o,none⟩:Addr).add i).add j=⟨b,o+i+j,none⟩:=by
 simp only [Addr.add]
 by_cases h1:i=0
 ·subst h1
  by_cases h2:j=0
  ·subst h2;rfl
  ·rw [if_neg h2];rfl
 ·rw [if_neg h1]
  by_cases h2:j=0
  ·subst h2;rfl
  ·rw [if_neg h2]
def H0 (w:World):Fz:=fun b=>(w.heap[b]?).map .fz
theorem hw_H0 (w:World):Hw (H0 w) w:=by
 intro b x h
 unfold H0 at h
 cases e:w.heap[b]? with
 | none=>rw [e] at h;cases h
 | some o=>rw [e] at h;cases h;exact ⟨o,rfl,rfl⟩
def wfI (x:Int):Prop:=-9223372036854775808≤x∧x≤9223372036854775807
section
variable {H:Type} {en:TypeId×Value→H} {P:Program} {w:World} {sp:Nat→Bool} {held:Bool}
def Rd (H:Type) (en:TypeId×Value→H) (P:Program) (w:World) (sp:Nat→Bool) (held:Bool) (t:TypeId) {α:Type} (enc:α→List PV) (wf:α→Prop):Prop :=
 ∀ (fuel:Nat) (cs:List Value) (x:DataW H×List MemPlace),DataW.trod en P w 0 sp held fuel t cs=some x→∃ a:α,RL (Rep (H0 w)) (enc a) cs∧wf a
theorem zHm {t:TypeId} (ht:P.underlying t=some (.int .i64)):Rd H en P w sp held t (fun x=>[.int .i64 x]) wfI:=by
 intro fuel cs x h
 obtain ⟨n,rfl,_,hw⟩:=DataW.trod_int ht h
 refine ⟨n,⟨.int _ _,trivial⟩,?_⟩
 simp only [Lit.wf,Bool.and_eq_true,decide_eq_true_eq] at hw
 exact ⟨hw.1,hw.2⟩
theorem zt3 {t : TypeId} {fs : Array Field} (ht : P.underlying t = some (.struct fs)) {fuel : Nat} {cs : List Value} {x : DataW H × List MemPlace} (h : DataW.trod en P w 0 sp held fuel t cs = some x) :
  cs.length=P.cellsOf t∧∀ (i:Nat) (f:Field),fs[i]? = some f→∃ n y,DataW.trod en P w 0 sp held n f.type ((cs.drop f.offset).take (P.cellsOf f.type))=some y:=by
 obtain ⟨xs,n,_,_,hl,hx,hf⟩:=DataW.trod_struct ht h
 refine ⟨hl,fun i f hi=>?_⟩
 have hlt:i < xs.length:=by rw [hx];exact (Array.getElem?_eq_some_iff.1 hi).1
 exact ⟨n,xs[i],by rw [hf i f hi,List.getElem?_eq_getElem hlt]⟩
theorem zz2 {t e : TypeId} {α : Type} [Inhabited α] {enc : α → List PV} {wf : α → Prop} {s : Nat} (ht : P.underlying t = some (.slice e)) (hc : P.cellsOf e = s) (hs : 0 < s) (hlen : ∀ a, (enc a).length = s)
    (hel:Rd H en P w sp held e enc wf):Rd H en P w sp held t (fun x:Sl α=>[.sl x.len s (fun i=>enc (x.get i))]) (fun x=>x.len≤9223372036854775807∧∀ i,i < x.len→wf (x.get i)):=by
  intro fuel cs x h
  rcases open_slice ht h with ⟨rfl,_⟩ | ⟨a,len,cap,m,n,D,Pl,rfl,_,hl,hm,hmm,_,hget⟩
  · exact ⟨⟨0,default⟩,⟨.sl0 _ _,trivial⟩,Nat.zero_le _,fun i hi=>absurd hi (Nat.not_lt_zero i)⟩
  · by_cases h0 : len = 0
    · subst h0
      exact ⟨⟨0,default⟩,⟨.sle _ _ _ _,trivial⟩,Nat.zero_le _,fun i hi=>absurd hi (Nat.not_lt_zero i)⟩
    · have hlm : len ≤ m := by rw [hmm]; split <;> omega
      rw [hc] at hget
      have hex:∀ i,i < len→∃ y:α,(∃ cs',w.cells? 0 (a.add (i * s)) s=some cs'∧RL (Rep (H0 w)) (enc y) cs')∧wf y:=by
        intro i hi
        obtain ⟨cs',h1,h2⟩:=hget i (by omega)
        obtain ⟨y,h3,h4⟩:=hel _ _ _ h2
        exact ⟨y,⟨cs',h1,h3⟩,h4⟩
      have hch:∃ f:Nat→α,∀ i,i < len→(∃ cs',w.cells? 0 (a.add (i * s)) s=some cs'∧RL (Rep (H0 w)) (enc (f i)) cs')∧wf (f i):=by
        refine ⟨fun i=>if hi:i < len then Classical.choose (hex i hi) else default,fun i hi=>?_⟩
        simp only [dif_pos hi]
        exact Classical.choose_spec (hex i hi)
      obtain ⟨f,hf⟩:=hch
      -- the block
      have hcell:∀ i,i < len→∀ j,j < s→∃ cs',w.cells? 0 (a.add (i * s)) s=some cs'∧RL (Rep (H0 w)) (enc (f i)) cs'∧w.cell? ((a.add (i * s)).add j)=cs'[j]?∧cs'.length=s:=by
        intro i hi j hj
        obtain ⟨⟨cs',h1,h2⟩,_⟩:=hf i hi
        obtain ⟨_,h3,h4⟩:=World.cells?_some h1
        exact ⟨cs',h1,h2,h4 j hj,h3⟩
      obtain ⟨cs0,_,_,hc0,hl0⟩:=hcell 0 (by omega) 0 hs
      have ha0:w.cell? a=cs0[0]?:=by simpa [Addr.add] using hc0
      rw [List.getElem?_eq_getElem (by omega)] at ha0
      obtain ⟨C,ty,fr,hblk,hspot⟩:∃ C ty fr,w.heap[a.block]? = some (.cells C ty fr)∧a.spot=none:=by
        unfold World.cell? at ha0
        split at ha0
        · rename_i C ty fr hb
          refine ⟨C,ty,fr,hb,?_⟩
          cases hsp:a.spot with
          | none=>rfl
          | some k=>rw [hsp] at ha0;simp at ha0
        · cases ha0
      have ea:a=⟨a.block,a.off,none⟩:=by rw [← hspot]
      have hat:∀ i j,i < len→j < s→∃ cs',RL (Rep (H0 w)) (enc (f i)) cs'∧C[a.off+i * s+j]? = cs'[j]?∧cs'.length=s:=by
        intro i j hi hj
        obtain ⟨cs',_,h2,h3,h4⟩:=hcell i hi j hj
        refine ⟨cs',h2,?_,h4⟩
        rw [← h3]
        have e2:(a.add (i * s)).add j=⟨a.block,a.off+i * s+j,none⟩:=(congrArg (fun z:Addr=>(z.add (i * s)).add j) ea).trans (zz1 _ _ _ _)
        rw [e2]
        simp [World.cell?,hblk]
      refine ⟨⟨len,f⟩,⟨?_,trivial⟩,by simp only [maxLen] at hm;show len≤_;omega,fun i hi=>(hf i hi).2⟩
      rw [ea]
      refine .sl len s _ a.block a.off cap C ty fr (fun i j=>C.getD (a.off+i * s+j) undef) (by simp [H0,hblk]) hl (fun i _=>hlen _) ?_ ?_
      · intro i j x hi hx
        have hj:j < s:=by have:=(List.getElem?_eq_some_iff.1 hx).1;rw [hlen] at this;exact this
        obtain ⟨cs',h1,h2,h3⟩:=hat i j hi hj
        rw [Array.getD_eq_getD_getElem?,h2,List.getElem?_eq_getElem (by omega)]
        rfl
      · intro i j x hi hx
        have hj:j < s:=by have:=(List.getElem?_eq_some_iff.1 hx).1;rw [hlen] at this;exact this
        obtain ⟨cs',h1,h2,h3⟩:=hat i j hi hj
        obtain ⟨v,hv,hr⟩:=h1.get j x hx
        rw [Array.getD_eq_getD_getElem?,h2,hv]
        exact hr
theorem zhm {α:Type} (l:List α) (o s:Nat):l.drop o=(l.drop o).take s ++ l.drop (o+s):=by
 rw [← List.drop_drop]
 exact (List.take_append_drop s (l.drop o)).symm
def zKB : TypeDesc → Bool
  | .struct _=>false
  | .array _ _=>false
  | _=>true
theorem okWide_one {t:TypeId} {d:TypeDesc} {r:Reach} {base:Nat} {v:Value} (ht:P.underlying t=some d) (hd:zKB d=true) (h:Value.okWide P w r base t v):v.cells.toList=[v]:=by
 unfold Value.okWide at h
 rw [ht] at h
 cases v with
 | agg cs =>
  exfalso
  cases d <;> first | (cases hd;done) | (simp only [Cell.okWide,Cell.ok,ht] at h)
 | _=>rfl
theorem pa_one {h:Fz} {p:PV} {v:Value} (hv:v.cells.toList=[v]) (r:RL (Rep h) [p] v.cells.toList):paR h (.one p) v:=by
 rw [hv] at r
 exact r.1
theorem below_H0 {w':World} (b:Bel (H0 w) w.heap.size w w'):Go.RowKit.Below w.heap.size w w' :=
 ⟨b.os,b.tape,b.output,b.size,fun k hk=>b.block k hk fun F e=>by
  unfold H0 at e
  cases hb:w.heap[k]? <;> rw [hb] at e <;> cases e⟩
end
end Go.Pm
/-
  DERIVED: THE SHELF's CONTRACTS AT THIS DUMP,IN PLAIN WORDS (tools/lay-plain.mjs out of 'YtkpjhhoafenogaaLs.lean',which tools/lay-shelf.mjs wrote): THE SAME DECLARATIONS UNDER THE SAME NAMES: 'import','namespace','open','def','theorem' AND NOTHING ELSE: no command of the shelf's: FOR A HAND-IN. Each laying: the table of numbers ('.._ren') and one theorem,a field a fact of the dump's own or the kernel's comparison;each contract: ONE APPLICATION.
-/
namespace Go.Proofs
open Go.Shelf
def Try.laysS106_ren:Go.Shelf.Ren:=⟨fun | 6=>106 | 15=>122 | 14=>121 | 28=>132 | 29=>133 | 20=>124 | 21=>125 | 22=>126 | 23=>127 | 24=>128 | 25=>129 | 26=>130 | 27=>131 | 46=>134 | 47=>135 | 48=>136 | 49=>137 | 50=>138 | 57=>139 | n=>n,fun | 22=>102 | 24=>118 | 25=>147 | 3=>3 | 39=>156 | 0=>0 | 53=>166 | 55=>168 | 4=>4 | 46=>159 | 45=>158 | 50=>163 | 5=>5 | 9=>9 | 66=>169 | 70=>173 | 76=>175 | 77=>143 | n=>n,fun | n=>n⟩
theorem Try.laysS106 : Go.Proofs.SlLaysF0.n6 Try.prog Try.laysS106_ren := {
  mixed:=by kernel_rfl
  f6:=⟨Try.f106.name,by decide,Try.func106.trans (congrArg some (by kernel_rfl))⟩
  f14:=⟨Try.f121.name,by decide,Try.func121.trans (congrArg some (by kernel_rfl))⟩
  f15:=Try.func122.trans (congrArg some (by kernel_rfl))
  f20:=⟨Try.f124.name,by decide,Try.func124.trans (congrArg some (by kernel_rfl))⟩
  f21:=⟨Try.f125.name,by decide,Try.func125.trans (congrArg some (by kernel_rfl))⟩
  f22:=⟨Try.f126.name,by decide,Try.func126.trans (congrArg some (by kernel_rfl))⟩
  f23:=⟨Try.f127.name,by decide,Try.func127.trans (congrArg some (by kernel_rfl))⟩
  f24:=⟨Try.f128.name,by decide,Try.func128.trans (congrArg some (by kernel_rfl))⟩
  f25:=⟨Try.f129.name,by decide,Try.func129.trans (congrArg some (by kernel_rfl))⟩
  f26:=⟨Try.f130.name,by decide,Try.func130.trans (congrArg some (by kernel_rfl))⟩
  f27:=⟨Try.f131.name,by decide,Try.func131.trans (congrArg some (by kernel_rfl))⟩
  f28:=Try.func132.trans (congrArg some (by kernel_rfl))
  f29:=Try.func133.trans (congrArg some (by kernel_rfl))
  f46:=⟨Try.f134.name,by decide,Try.func134.trans (congrArg some (by kernel_rfl))⟩
  f47:=Try.func135.trans (congrArg some (by kernel_rfl))
  f48:=Try.func136.trans (congrArg some (by kernel_rfl))
  f49:=⟨Try.f137.name,by decide,Try.func137.trans (congrArg some (by kernel_rfl))⟩
  f50:=⟨Try.f138.name,by decide,Try.func138.trans (congrArg some (by kernel_rfl))⟩
  f57:=⟨Try.f139.name,by decide,Try.func139.trans (congrArg some (by kernel_rfl))⟩
  t0:=Try.underlying0
  a0:=Try.isAgg0
  z0:=Try.sizeOf0
  v0:=Try.zeroValue0
  t3:=Try.underlying3
  a3:=Try.isAgg3
  z3:=Try.sizeOf3
  v3:=Try.zeroValue3
  t4:=Try.underlying4
  a4:=Try.isAgg4
  z4:=Try.sizeOf4
  v4:=Try.zeroValue4
  t5:=Try.underlying5
  a5:=Try.isAgg5
  z5:=Try.sizeOf5
  v5:=Try.zeroValue5
  t9:=Try.underlying9
  a9:=Try.isAgg9
  z9:=Try.sizeOf9
  v9:=Try.zeroValue9
  t22:=Try.underlying102
  a22:=Try.isAgg102
  z22:=Try.sizeOf102
  v22:=Try.zeroValue102
  t25:=Try.underlying147
  a25:=Try.isAgg147
  z25:=Try.sizeOf147
  v25:=Try.zeroValue147
  t39:=Try.underlying156
  a39:=Try.isAgg156
  z39:=Try.sizeOf156
  v39:=Try.zeroValue156
  t45:=Try.underlying158
  a45:=Try.isAgg158
  z45:=Try.sizeOf158
  v45:=Try.zeroValue158
  t46:=Try.underlying159
  a46:=Try.isAgg159
  z46:=Try.sizeOf159
  v46:=Try.zeroValue159
  t50:=Try.underlying163
  a50:=Try.isAgg163
  z50:=Try.sizeOf163
  v50:=Try.zeroValue163
  t53:=Try.underlying166
  a53:=Try.isAgg166
  z53:=Try.sizeOf166
  v53:=Try.zeroValue166
  t55:=Try.underlying168
  a55:=Try.isAgg168
  z55:=Try.sizeOf168
  v55:=Try.zeroValue168
  t66:=Try.underlying169
  a66:=Try.isAgg169
  z66:=Try.sizeOf169
  v66:=Try.zeroValue169
  t70:=Try.underlying173
  a70:=Try.isAgg173
  z70:=Try.sizeOf173
  v70:=Try.zeroValue173
  t76:=Try.underlying175
  a76:=Try.isAgg175
  z76:=Try.sizeOf175
  v76:=Try.zeroValue175
  t77:=Try.underlying143
  a77:=Try.isAgg143
  z77:=Try.sizeOf143
  v77:=Try.zeroValue143 }
end Go.Proofs
namespace Go.Pm
open Go.Shelf Go.RowKit Go.Lib Go.Sort Go.Proofs

section perm
variable {c:Nat→Nat→Int}
theorem zgL (x : Nat) : ∀ l : List Nat, (zzl c x l).Perm (x :: l)
  | []=>.refl _
  | y :: r=>by
    unfold zzl
    split
    · exact .refl _
    · exact ((zgL x r).cons y).trans (.swap _ _ _)
theorem zhn (n:Nat):(ziv n c).Perm (List.range n):=by
 unfold ziv
 generalize List.range n=l
 induction l with
 | nil=>exact .refl _
 | cons x l ih=>exact (zgL x _).trans (ih.cons x)
def leB (c:Nat→Nat→Int) (a b:Nat):Prop:=¬ c b a < 0
theorem zt4 {n : Nat} (H : STO n c) {x : Nat} (hx : x < n) : ∀ {l : List Nat}, (∀ y ∈ l, y < n) → l.Pairwise (leB c) → (zzl c x l).Pairwise (leB c)
  | [],_,_=>by simp [zzl]
  | y :: r,hl,hp=>by
    have hy:=hl y List.mem_cons_self
    rw [List.pairwise_cons] at hp
    unfold zzl
    split
    · rename_i h
      have h:=of_decide_eq_true h
      rw [List.pairwise_cons]
      refine ⟨fun z hz=>?_,List.pairwise_cons.2 hp⟩
      have hxy:leB c x y:=fun h2=>by
        have:=H.1 x hx
        have:=H.2.2 x y x hx hy hx h h2
        omega
      rcases List.mem_cons.1 hz with rfl | hz
      · exact hxy
      · intro h2
        exact hp.1 z hz (H.2.2 z x y (hl z (List.mem_cons_of_mem _ hz)) hx hy h2 h)
    · rename_i h
      have h:=of_decide_eq_false h
      rw [List.pairwise_cons]
      refine ⟨fun z hz=>?_,zt4 H hx (fun z hz=>hl z (List.mem_cons_of_mem _ hz)) hp.2⟩
      rcases List.mem_cons.1 ((zgL x r).mem_iff.1 hz) with rfl | hz
      · exact h
      · exact hp.1 z hz
theorem zra {n:Nat} (H:STO n c):(ziv n c).Pairwise (leB c):=by
 have key:∀ l:List Nat,(∀ y∈l,y < n)→(l.foldr (zzl c) []).Pairwise (leB c)∧∀ y∈l.foldr (zzl c) [],y < n:=by
  intro l
  induction l with
  | nil=>intro _;exact ⟨List.Pairwise.nil,fun y hy=>by simp at hy⟩
  | cons x l ih =>
   intro h
   obtain ⟨h1,h2⟩:=ih fun y hy=>h y (List.mem_cons_of_mem _ hy)
   have hx:=h x List.mem_cons_self
   refine ⟨zt4 H hx h2 h1,fun y hy=>?_⟩
   rcases List.mem_cons.1 ((zgL x _).mem_iff.1 hy) with rfl | hy
   ·exact hx
   ·exact h2 y hy
 exact (key _ fun y hy=>List.mem_range.1 hy).1
theorem zsy {n:Nat} (H:STO n c) {l:List Nat} (hp:l.Perm (List.range n)) (hs:l.Pairwise (leB c)):l=ziv n c:=by
 refine List.Perm.eq_of_pairwise (le:=leB c) (fun a b ha hb h1 h2=>?_) hs (zra H) (hp.trans (zhn n).symm)
 have ha:=List.mem_range.1 (hp.mem_iff.1 ha)
 have hb:=List.mem_range.1 ((zhn n).mem_iff.1 hb)
 by_cases e:a=b
 ·exact e
 ·rcases H.2.1 a b ha hb e with h | h
  ·exact absurd h.1 h2
  ·exact absurd h.1 h1
end perm

theorem zt5 {w w':World} (h1:w'.heap=w.heap) (h2:w'.tape=w.tape) (h3:w'.drawn=w.drawn) (h4:w'.os=w.os) (h5:w'.output=w.output):w'=w:=by
 cases w;cases w';simp_all
theorem zz3 {w w':World} {h:Fz} (b:Bel h w.heap.size w w') (hi:∀ k F,h k ≠ some (.inv F)):∃ q os,w'=grow (w.drewN q) os:=by
 refine ⟨w'.drawn - w.drawn,w'.heap.extract w.heap.size w'.heap.size,zt5 ?_ b.tape ?_ b.os b.output⟩
 ·show w'.heap = w.heap ++ w'.heap.extract w.heap.size w'.heap.size
  apply Array.ext_getElem?
  intro i
  rw [Array.getElem?_append]
  split
  ·rename_i hl;exact b.block i hl (fun F=>hi i F)
  ·rename_i hl
   rw [Array.getElem?_extract]
   by_cases hlt:i < w'.heap.size
   ·rw [if_pos (by omega)];congr 1;omega
   ·rw [if_neg (by omega),Array.getElem?_eq_none (by omega)]
 ·show w'.drawn = w.drawn + (w'.drawn - w.drawn)
  have:=b.drawn;omega

theorem znC {w : World} {g q : Nat} {cur : Array Value} {e : TypeId} {fr : Nat × Nat} {off : Nat} (F : Array Value) (hb : w.heap[g]? = some (.cells cur e fr)) :
  ∃ cur',(putRow id (Sort.ahead w q) g off F).heap[g]? = some (.cells cur' e fr)∧cur'.size=cur.size:=by
 refine ⟨putCells id off F cur,?_,by simp [putCells]⟩
 simp [putRow,mapBlock,Sort.ahead,Array.getElem?_modify,hb,onCells]
theorem zjE {w:World} {g q off:Nat} (F:Array Value) {k:Nat} (hk:k ≠ g):(putRow id (Sort.ahead w q) g off F).heap[k]? = w.heap[k]?:=by
 simp [putRow,mapBlock,Sort.ahead,Array.getElem?_modify,Ne.symm hk]

theorem zt6 {P:Program} {ρ:Ren} (L:SlLaysF0.n6 P ρ) {e s b:Nat} (he:ρ.t 24=e) (hag:zee P e=some true) (hsz:szT P e=some s) (hM : ¬ zmX) (hc:zaf P (ρ.f 6)):zls P (ρ.f 6) (.sort e s b):=by
 intro w h base v n get gf caps cv ag C hC hcv hag' _ hpos ⟨xs,hown,hr⟩ hone hw hob hbase hn hS hO
 rw [hag] at hag';simp only [Option.some.injEq] at hag';subst hag'
 refine ⟨hc,?_⟩
 have hni:∀ k F,h k ≠ some (.inv F):=fun k F hk=>by obtain ⟨o,_,ho⟩:=hw k _ hk;exact hM ho.2
 have hdr:∀ (w':World) (k:Nat),w.drawn≤w.drawn+k:=fun _ k=>Nat.le_add_right _ _
 have none:∀ (p:Option Addr) (cap:Nat),n=0→v=.slice p 0 cap→Calls P (ρ.f 6) #[v,.func (.func gf) #[] cv.toArray] w fun r w'=>r=.returned (.tuple #[])∧zGG h w' base e s v n (zog n (zsV C caps true get) get)∧GrB w w' v.ownBlock:=by
  rintro p cap rfl rfl
  refine (AnyF.slices_SortFunc_none L p cap _ w).mono ?_
  rintro r w' ⟨rfl,rfl⟩
  exact ⟨rfl,⟨xs,hown,fun i hi=>absurd hi (Nat.not_lt_zero i)⟩,⟨rfl,rfl,rfl,Nat.le_refl _,fun _ _ _=>rfl⟩,Nat.le_refl _⟩
 rcases hown.2 with ⟨h1,h2⟩ | ⟨blk,cap,cur,rfl,hb,hcell,hncap,hcap,hcs,htk⟩
 ·exact none _ _ h2 h1
 by_cases hn0:n=0
 ·subst hn0;exact none _ _ rfl rfl
 have:Inhabited (Fin n):=⟨⟨0,by omega⟩⟩
 let enc:Fin n→List Value:=fun i=>(xs.drop (i.val * s)).take s
 let c:=zsV C caps true get
 let cf:Fin n→Fin n→Int:=fun x y=>c x.val y.val
 let d:Array (Fin n):=Array.ofFn id
 have hds:d.size=n:=Array.size_ofFn
 have hdi:∀ i (hi:i < n),d[i]! = ⟨i,hi⟩:=fun i hi=>by
  rw [getElem!_pos d i (by rw [hds];exact hi)];simp [d]
 have hlt:blk < w.heap.size:=(Array.getElem?_eq_some_iff.1 hcell).1
 have hbn:h blk=Option.none:=hob blk rfl
 have hmul:∀ i,i < n→i * s+s≤n * s:=fun i hi=>by have:=Nat.mul_le_mul_right s (Nat.succ_le_of_lt hi);rw [Nat.succ_mul] at this;exact this
 have hk:∀ x,(enc x).length=s:=fun x=>by
  have:=hmul x.val x.isLt
  simp only [enc,List.length_take,List.length_drop,hown.1];omega
 have hcur:∀ j,j < n * s→cur[j]? = xs[j]?:=fun j hj=>by
  have:(cur.toList.take (n * s))[j]? = xs[j]?:=by rw [htk]
  rw [List.getElem?_take,if_pos hj] at this;simpa using this
 have hxl:∀ j,j < n * s→∃ u,xs[j]? = some u:=fun j hj=>⟨xs[j]'(by rw [hown.1];exact hj),List.getElem?_eq_getElem _⟩
 have h1:∀ x,∀ u∈enc x,u.oneCell'=true:=fun x u hu=>by
  obtain ⟨j,hj⟩:=List.getElem?_of_mem hu
  obtain ⟨p,_,hp⟩:=(hr x.val x.isLt).get' j u hj
  exact hp.one
 have hflat:∀ j (hj:j < n * s),(flatK enc s d)[j]! = xs[j]'(by rw [hown.1];exact hj):=fun j hj=>by
  have hq:j / s < n:=Nat.div_lt_of_lt_mul (by rw [Nat.mul_comm];exact hj)
  rw [get_flatK _ _ _ _ (by rw [hds];exact hj),hdi _ hq]
  have hm:=Nat.mod_lt j hpos
  have hdm:=Nat.div_add_mod j s
  rw [getElem!_pos _ _ (by rw [hk];exact hm)]
  simp only [enc,List.getElem_take,List.getElem_drop]
  congr 1
  rw [Nat.mul_comm];exact hdm
 have hH:HoldsK enc s w blk 0 d:=fun j hj=>by
  have hj:j < n * s:=by rw [size_flatK,hds] at hj;exact hj
  refine ⟨?_,frozen_of_row w blk _ cur e hcell⟩
  rw [hflat j hj,cell_of hcell,Nat.zero_add,hcur j hj]
  exact List.getElem?_eq_getElem _
 have eg:∀ args w,(callFunc gf args).run P w=.ok (.enter gf args) w:=by
  have hcg:zaf P gf:=by
   have hs0:=hS 0 0 (by omega) (by omega)
   unfold zGF at hs0
   split at hs0
   ·rename_i s0 c0 hat
    have hwp:(C (elP true (get 0) :: elP true (get 0) :: caps.map .one)).wp (fun _=>True):=by
     unfold zzk at hat
     split at hat
     ·rename_i e1;rw [e1];trivial
     ·rename_i e1;simp only [Option.some.injEq,Prod.mk.injEq] at hat;rw [e1];exact ⟨by rw [hat.1];exact hs0,trivial⟩
     ·cases hat
    exact (hC _ _ hwp w h (.agg (enc ⟨0,by omega⟩).toArray :: .agg (enc ⟨0,by omega⟩).toArray :: cv) ⟨⟨_,rfl,hr 0 (by omega)⟩,⟨_,rfl,hr 0 (by omega)⟩,RL.map_left.2 hcv⟩ hw).1
   ·exact hs0.elim
  exact fun args w=>zc0 hcg
 have hcmp:CmpLays P gf cv.toArray enc s cf blk 0 d.size w:=by
  intro m os dk hdk x y
  have hs0:=hS x.val y.val x.isLt y.isLt
  unfold zGF at hs0
  split at hs0
  ·rename_i s0 c0 hat
   have hwp:(C (elP true (get x.val) :: elP true (get y.val) :: caps.map .one)).wp (fun rs=>rs=[.one (.int .i64 (cf x y))]):=by
    have hcv:cf x y=c0:=by show zsV C caps true get x.val y.val=c0;unfold zsV;rw [hat]
    rw [hcv]
    unfold zzk at hat
    split at hat
    ·rename_i e1;simp only [Option.some.injEq,Prod.mk.injEq] at hat;rw [e1,hat.2];rfl
    ·rename_i e1;simp only [Option.some.injEq,Prod.mk.injEq] at hat;rw [e1,hat.2];exact ⟨by rw [hat.1];exact hs0,rfl⟩
    ·cases hat
   have hwh:Hw h (sortWorldK enc s w blk 0 m dk os):=hw.same fun k o hk=>by
    have hkb:k ≠ blk:=fun e=>by rw [e,hbn] at hk;cases hk
    have hkl:=hw.lt hk
    show ((putRow id (Sort.ahead w m) blk 0 (flatK enc s dk)).heap ++ os)[k]? = _
    rw [Array.getElem?_append_left (by simpa [putRow,mapBlock,Sort.ahead] using hkl)]
    exact zjE _ hkb
   obtain ⟨_,hrun⟩:=hC _ _ hwp (sortWorldK enc s w blk 0 m dk os) h (.agg (enc x).toArray :: .agg (enc y).toArray :: cv) ⟨⟨_,rfl,hr x.val x.isLt⟩,⟨_,rfl,hr y.val y.isLt⟩,RL.map_left.2 hcv⟩ hwh
   rw [show (#[Value.agg (enc x).toArray,.agg (enc y).toArray] ++ cv.toArray)=(Value.agg (enc x).toArray :: .agg (enc y).toArray :: cv).toArray by simp]
   refine hrun.mono ?_
   rintro e' w' ⟨h',rs,v',hrs,rfl,hres,hbel,_,_,_⟩
   subst hrs
   have hv':v'=.int .i64 (cf x y):=by
    have:Rep h' (.int .i64 (cf x y)) v':=hres
    cases this;rfl
   subst hv'
   exact ⟨rfl,zz3 hbel hni⟩
  ·exact hs0.elim
 have hSWO:SWO (ltOf cf):=by
  refine ⟨fun x=>?_,fun x y z hxy hyz=>?_,fun x y z hxy hyz=>?_⟩
  ·have : 0 ≤ c x.val x.val := hO.1 x.val x.isLt
   simp only [ltOf,decide_eq_false_iff_not];show ¬ c x.val x.val < 0;omega
  ·simp only [ltOf, decide_eq_true_eq] at hxy hyz ⊢
   exact hO.2.2 _ _ _ x.isLt y.isLt z.isLt hxy hyz
  ·simp only [ltOf, decide_eq_false_iff_not] at hxy hyz ⊢
   intro hxz
   have hxy : ¬ c x.val y.val < 0:=hxy
   have hyz : ¬ c y.val z.val < 0:=hyz
   have hxz:c x.val z.val < 0:=hxz
   by_cases e1:y.val=z.val
   ·rw [e1] at hxy;exact hxy hxz
   ·by_cases e2 : x.val = y.val
    ·rw [e2] at hxz;exact hyz hxz
    ·have a1 : c z.val y.val < 0 := by rcases hO.2.1 y.val z.val y.isLt z.isLt e1 with h | h; exact absurd h.1 hyz; exact h.1
     exact hxy (hO.2.2 _ _ _ x.isLt z.isLt y.isLt hxz a1)
 have aE:∀ w,(isAgg (ρ.t 24)).run P w=.ok true w:=fun w=>by rw [he];exact zdv hag
 have zE:∀ w,(Go.sizeOf (ρ.t 24)).run P w=.ok s w:=fun w=>by rw [he];exact run_sizeOf hsz
 have hrun:=AnyQ.slices_SortFunc L s aE zE enc hk h1 cf hSWO gf cv.toArray blk 0 cap d w eg hcmp hH hlt (by rw [hds];omega)
 rw [hds] at hrun
 refine hrun.mono ?_
 rintro r w' ⟨rfl,d',m,os,hperm,hsort,rfl⟩
 obtain ⟨hps,_,hpp⟩:=hperm
 have hd's:d'.size=n:=by rw [hps,hds]
 have hall:∀ (z:Array (Fin n)),z.size=n→z.extract 0 n=z:=fun z hz=>Array.ext (by simp [hz]) (fun i h1 h2=>by simp)
 rw [hall d' hd's,hall d hds] at hpp
 have hl:d'.toList.map Fin.val=ziv n c:=by
  refine zsy hO ?_ ?_
  ·refine (hpp.map Fin.val).trans ?_
   have:d.toList.map Fin.val=List.range n:=by
    apply List.ext_getElem?
    intro i
    simp only [d,List.getElem?_map]
    by_cases hi:i < n
    ·simp [hi]
    ·rw [List.getElem?_eq_none (by simp;omega),List.getElem?_eq_none (by simp;omega)];rfl
   rw [this]
  ·rw [List.pairwise_map, List.pairwise_iff_getElem]
   intro i j hi hj hij
   have hi':i < n:=by simpa [hd's] using hi
   have hj':j < n:=by simpa [hd's] using hj
   have:=hsort i j (Nat.zero_le _) hij hj'
   rw [getElem!_pos d' j (by omega),getElem!_pos d' i (by omega)] at this
   simp only [ltOf,decide_eq_false_iff_not] at this
   exact this
 have hget:∀ i (hi:i < n),zog n c get i=get (d'[i]'(by omega)).val:=fun i hi=>by
  unfold zog
  rw [← hl]
  congr 1
  rw [List.getD_eq_getElem?_getD,List.getElem?_map]
  simp [hd's,hi]
 obtain ⟨cur',hcell',hsz'⟩:=znC (q:=m) (off:=0) (flatK enc s d') hcell
 have hgrow:(sortWorldK enc s w blk 0 m d' os).heap[blk]? = some (.cells cur' e (0,0)):=by
  show ((putRow id (Sort.ahead w m) blk 0 (flatK enc s d')).heap ++ os)[blk]? = _
  rw [Array.getElem?_append_left (by simpa [putRow,mapBlock,Sort.ahead] using hlt)]
  exact hcell'
 have hH':HoldsK enc s (sortWorldK enc s w blk 0 m d' os) blk 0 d':=holdsK_sortWorldK_c enc s w blk 0 d d' m os hH hlt (by rw [hd's,hds])
 have hcur':∀ j (hj:j < n * s),cur'[j]? = some ((flatK enc s d')[j]!):=fun j hj=>by
  have:=(hH' j (by rw [size_flatK,hd's];exact hj)).1
  rw [cell_of hgrow,Nat.zero_add] at this
  exact this
 refine ⟨rfl,⟨cur'.toList.take (n * s),⟨by rw [List.length_take,Array.length_toList,hsz',hcs];exact Nat.min_eq_left (Nat.mul_le_mul_right s hncap),.inr ⟨blk,cap,cur',rfl,hb,hgrow,hncap,hcap,by rw [hsz',hcs],rfl⟩⟩,fun i hi=>?_⟩,?_⟩
 ·have e1:((cur'.toList.take (n * s)).drop (i * s)).take s=enc (d'[i]'(by omega)):=by
   apply List.ext_getElem?
   intro j
   have hm:=hmul i hi
   rw [List.getElem?_take]
   split
   ·rename_i hj
    rw [List.getElem?_drop,List.getElem?_take,if_pos (by omega),Array.getElem?_toList,hcur' _ (by omega)]
    have hdiv:(i * s+j) / s=i:=by rw [Nat.mul_comm,Nat.mul_add_div hpos,Nat.div_eq_of_lt hj,Nat.add_zero]
    have hmod:(i * s+j) % s=j:=by rw [Nat.mul_comm,Nat.mul_add_mod,Nat.mod_eq_of_lt hj]
    rw [get_flatK _ _ _ _ (by rw [hd's];omega),hdiv,hmod,getElem!_pos d' i (by omega),getElem!_pos _ _ (by rw [hk];exact hj)]
    exact (List.getElem?_eq_getElem _).symm
   ·rename_i hj
    rw [List.getElem?_eq_none (by rw [hk];omega)]
  rw [e1,hget i hi]
  exact hr _ (d'[i]'(by omega)).isLt
 ·refine ⟨⟨rfl, rfl, rfl, ?_, fun k hk hne => ?_⟩, Nat.le_add_right _ _⟩
  ·show w.heap.size ≤ ((putRow id (Sort.ahead w m) blk 0 (flatK enc s d')).heap ++ os).size
   simp [putRow,mapBlock,Sort.ahead]
  ·show ((putRow id (Sort.ahead w m) blk 0 (flatK enc s d')).heap ++ os)[k]? = _
   rw [Array.getElem?_append_left (by simpa [putRow,mapBlock,Sort.ahead] using hk)]
   exact zjE _ fun e=>hne (by rw [e];rfl)
end Go.Pm
namespace Go.Pm

abbrev zI (x:Int):DV:=.one (.c (.p (.int .i64 x)))
abbrev zB (x:Bool):DV:=.one (.c (.p (.bool x)))
abbrev zP (x:PV):DV:=.one (.c (.p x))
abbrev zp (L k:Nat):DV:=.one (.c (.ptr L k))
abbrev zv (L:Nat):DV:=.one (.c (.vec L))
abbrev zs {α:Type} (enc:α→List PV) (s:Nat) (x:Sl α):PV:=.sl x.len s (fun i=>enc (x.get i))
abbrev zS {α:Type} (enc:α→List PV) (s:Nat) (x:Sl α):DV:=zP (zs enc s x)
abbrev zm (l:List PV):List Cl:=l.map Cl.p
abbrev zi (x:Int):Cl:=.p (.int .i64 x)
abbrev zg {α:Type} (enc:α→List PV) (x:Sl α):Nat→List PV:=fun i=>enc (x.get i)
abbrev zK (a b:List Nat):Keep:=⟨a,b,[],[],[],[],[]⟩
theorem zE {α:Type} (enc:α→List PV) (size:Nat) (f:Nat→α):IsE enc size size (fun i=>enc (f i)):=⟨rfl,f,rfl⟩

@[reducible] def lpO {A : Type} (d : A) (st : A → A) : Nat → A
  | 0=>d
  | k+1=>st (lpO d st k)
theorem zeK {A B : Type} (a : A) (b : B) (p : A → A) (s : B → B) (M : A → B → Prop) (h0 : M a b) (h1 : ∀ P S, M P S → M (p P) (s S)) : ∀ k, M (lpO a p k) (lpO b s k)
  | 0=>h0
  | k+1=>h1 _ _ (zeK a b p s M h0 h1 k)
section
variable (P:Program) (Γ:Ctrs) (ann:Ann)
def pt : Code → (Exit → St → Prop) → List Nat → List (St → Prop) → St → Prop
  | .seq a b,K,i :: r,X=>match i with | 0=>pt a (sqK P Γ ann b K) r X | _=>pt b K r X
  | .cond _ a b,K,i :: r,X=>match i with | 0=>pt a K r X | _=>pt b K r X
  | .block id b,K,_ :: r,X=>pt b (zaY id K) r X
  | .loop b,K,_ :: r,x :: X=>pt b (zdR P ann (zkR b) x K) r X
  | .scope b,K,_ :: r,X=>pt b (zb9 K) r X
  | c,K,_,_=>vc P Γ ann c K
def ptF (fn:Func) (K:List PA→Prop) (l:List Nat) (X:List (St→Prop)):St→Prop :=
 match fn.body with
 | some c=>pt P Γ ann c (zco P fn K) l X
 | none=>fun _=>False
end

theorem zc {b:Bool} {A B:Prop} {S S':Bool} {α:Type} {e:α→List PA} {K:List PA→Prop} {x y:α} (hs:cond b S S'=true) (hk:K (e (cond b x y))) (h1:S=true→K (e x)→A) (h2:S'=true→K (e y)→B):zcX b A B:=by
 cases b
 ·exact h2 hs hk
 ·exact h1 hs hk
theorem zt {b:Bool} {A B:Prop} {α:Type} {e:α→List PA} {K:List PA→Prop} {x y:α} (hk:K (e (cond b x y))) (h1:K (e x)→A) (h2:K (e y)→B):zcX b A B:=by
 cases b
 ·exact h2 hk
 ·exact h1 hk
theorem zl {at_:Prop} {g:St} (B:(St→Prop)→St→Prop) (e:at_ = ∀ X:St→Prop,(∀ s,B X s→X s)→X g) (h:∀ X:St→Prop,(∀ s,B X s→X s)→X g):at_:=e ▸ h
end Go.Pm
namespace Go.Proofs
open Go Go.Pm
set_option maxRecDepth 100000
set_option linter.unusedVariables false
attribute [local irreducible] Go.Pm.vcFun Go.Pm.vc Go.Pm.vcIter
abbrev zal (x:Int):List PV:=[.int .i64 x]
def zKC : List PV → Int
  | [.int .i64 x]=>x
  | _=>default
def zcQ (g:Nat→List PV):Nat→Int:=fun i=>zKC (g i)
theorem zdr (f:Nat→Int):zcQ (fun i=>zal (f i))=f:=rfl
structure Gate where
  Z:Int
  Low:Int
  High:Int
deriving Inhabited
abbrev enc_55 (x:Gate):List PV:=[.int .i64 x.Z,.int .i64 x.Low,.int .i64 x.High]
def zHn : List PV → Gate
  | [.int .i64 x_Z,.int .i64 x_Low,.int .i64 x_High]=>(⟨x_Z,x_Low,x_High⟩:Gate)
  | _=>default
def zad (g:Nat→List PV):Nat→Gate:=fun i=>zHn (g i)
theorem zac (f:Nat→Gate):zad (fun i=>enc_55 (f i))=f:=rfl
abbrev zHo (x:(Sl Gate)):List PV:=[.sl x.len 3 (fun i=>enc_55 (x.get i))]
structure Frac where
  Num:Int
  Den:Int
deriving Inhabited
abbrev zae (x:Frac):List PV:=[.int .i64 x.Num,.int .i64 x.Den]
def zHp : List PV → Frac
  | [.int .i64 x_Num,.int .i64 x_Den]=>(⟨x_Num,x_Den⟩:Frac)
  | _=>default
def zf5 (g:Nat→List PV):Nat→Frac:=fun i=>zHp (g i)
theorem zeq (f:Nat→Frac):zf5 (fun i=>zae (f i))=f:=rfl
structure Line where
  Slope:Frac
  Start:Frac
deriving Inhabited
abbrev zar (x:Line):List PV:=[.int .i64 x.Slope.Num,.int .i64 x.Slope.Den,.int .i64 x.Start.Num,.int .i64 x.Start.Den]
def zHq : List PV → Line
  | [.int .i64 x_Slope_Num,.int .i64 x_Slope_Den,.int .i64 x_Start_Num,.int .i64 x_Start_Den]=>(⟨(⟨x_Slope_Num,x_Slope_Den⟩:Frac),(⟨x_Start_Num,x_Start_Den⟩:Frac)⟩:Line)
  | _=>default
def zjF (g:Nat→List PV):Nat→Line:=fun i=>zHq (g i)
theorem zer (f:Nat→Line):zjF (fun i=>zar (f i))=f:=rfl
structure Span where
  Low:Int
  High:Int
deriving Inhabited
abbrev zBt (x:Span):List PV:=[.int .i64 x.Low,.int .i64 x.High]
structure list where
  Gates:(Sl Gate)
deriving Inhabited
abbrev zb2 (x:list):List PV:=[.sl x.Gates.len 3 (fun i=>enc_55 (x.Gates.get i))]
structure straight where
  slope:Int
  start:Int
  den:Int
deriving Inhabited
abbrev zah (x:straight):List PV:=[.int .i64 x.slope,.int .i64 x.start,.int .i64 x.den]
def zC0 : List PV → straight
  | [.int .i64 x_slope,.int .i64 x_start,.int .i64 x_den]=>(⟨x_slope,x_start,x_den⟩:straight)
  | _=>default
def zaR (g:Nat→List PV):Nat→straight:=fun i=>zC0 (g i)
theorem zaN (f:Nat→straight):zaR (fun i=>zah (f i))=f:=rfl
structure set where
  list:list
  corners:(Sl straight)
deriving Inhabited
abbrev zaV (x:set):List PV:=[.sl x.list.Gates.len 3 (fun i=>enc_55 (x.list.Gates.get i)),.sl x.corners.len 3 (fun i=>zah (x.corners.get i))]
abbrev zcD (x:Mp):List PV:=[.fm (true,2,false,[some .i64]) x.n x.F]
end Go.Proofs
namespace Go.Proofs
open Go Go.Pm
set_option maxRecDepth 100000
set_option linter.unusedVariables false
attribute [local irreducible] Go.Pm.vcFun Go.Pm.vc Go.Pm.vcIter
abbrev zMl:Tabs:=Tabs.nil
theorem zHr:TabsOk Try.prog zMl:=TabsOk.nil
abbrev zMm:Ctrs:=csm zMl (fun _ _=>[]) (fun _=>false)
def zt7:Ann:=⟨12,[(0,zK [0,1] []),(1,zK [0,1,6] []),(2,zK [0,1] []),(3,zK [4] [])],
 [(1,zK [0,1] [])],
 [],
 [],[]⟩
abbrev zM7:=Int
abbrev zKD (r:zM7):List PA:=[.one (.int .i64 r)]
@[irreducible] def z114:=ptF Try.prog zMm zt7 Try.f114
def zt8 (av0:Int) (bv0:Int):St:=⟨[(0,zI av0),(1,zI bv0)],[],[]⟩
abbrev zBu (K:List PA→Prop) (X:St→Prop) (P:Int→Int→Bool) (S:Int→Int→Int):Prop:=∀ ⦃av0:Int⦄ ⦃bv0:Int⦄,P av0 bv0=true→K (zKD (S av0 bv0))→X (zt8 av0 bv0)
section
variable {K:List PA→Prop} {a:Int} {b:Int} {av0:Int} {bv0:Int} {X0:St→Prop} {P0:Int→Int→Bool} {S0:Int→Int→Int}
def ziJ (S0:Int→Int→Int) (av0:Int) (bv0:Int):Int :=
  (cond (decide (bv0 > (0:Int)))
 (S0 bv0 (av0.tmod bv0))
 av0)
def ziK (P0:Int→Int→Bool) (av0:Int) (bv0:Int):Bool :=
  (cond (decide (bv0 > (0:Int)))
 (decide ((bv0 ≠ 0)) &&
 (P0 bv0 (av0.tmod bv0)))
 true)
def ziL:Nat→Int→Int→Int:=lpO (fun _ _=>default) (ziJ)
def ziM:Nat→Int→Int→Bool:=lpO (fun _ _=>false) (ziK)
def zrb (av0:Int) (bv0:Int):Int:=ziL Fuel av0 bv0
def zrd (av0:Int) (bv0:Int):Bool:=ziM Fuel av0 bv0
theorem zz4 (hs:zrd av0 bv0=true) (hk:K (zKD (zrb av0 bv0))):z114 K [1,0,0] [] (zt8 av0 bv0) :=
  zl (fun X=>z114 K [1,0,0,0] [X]) (by kernel_rfl) fun X0 hX =>
  (show ∀ k, zBu K X0 (ziM k) (ziL k) from zeK _ _ (ziK) (ziJ) (zBu K X0)
 (by intro _ _ hs;exact absurd hs Bool.false_ne_true)
 (by intro P0 S0 hX0 av0 bv0 hs hk;exact hX _ (zay (by kernel_rfl) (zc hs hk (fun hs hk=>(zav hs fun hc hs=>And.intro hc (hX0 hs hk))) (fun hs hk=>hk))))) _ hs hk
def zC1 (a:Int) (b:Int):Int :=
  (zrb a b)
def zKe (a:Int) (b:Int):Bool :=
  (zrd a b)
end
theorem zM8 (a:Int) (b:Int) (K:List PA→Prop) (hs:zKe a b=true) (hk:K (zKD (zC1 a b))):vcFun Try.prog zMm zt7 114 [.one (.int .i64 a),.one (.int .i64 b)] K :=
  zay (by kernel_rfl) (zz4 hs hk)
def zt9 : List PA → COut
  | [.one (.int .i64 a0),.one (.int .i64 a1)]=>.det (zKe a0 a1=true) [.one (.int .i64 (zC1 a0 a1))]
  | _=>.no
theorem zC2:zaf Try.prog 114:=⟨_,rfl,rfl,by kernel_rfl⟩
theorem zKE:Ok Try.prog 114 zt9:=zaz zHr zC2 fun args K h=>by
  unfold zt9 at h
  split at h
  · rename_i a0 a1
    obtain ⟨hs,hk⟩:=h
    exact ⟨(fun _ _=>[]),(fun _=>false),zt7,zM8 a0 a1 K hs hk⟩
  · exact h.elim
abbrev T89:Tabs:=(Tabs.nil.addF 114 zt9)
theorem zKF:TabsOk Try.prog T89:=(TabsOk.nil.addF zKE)
abbrev G89:Ctrs:=csm T89 (fun _ _=>[]) (fun _=>false)
def zHs:Ann:=⟨19,[(0,zK [0,1,4] [4]),(1,zK [0,1,4,5] [4]),(2,zK [4] [4])],
 [],
 [],
 [],[]⟩
abbrev R89:=Frac
abbrev e89 (r:R89):List PA:=[.agg [.int .i64 r.Num,.int .i64 r.Den]]
section
variable {K:List PA→Prop} {num:Int} {den:Int}
def s89 (num:Int) (den:Int):Frac :=
  (⟨(w64 (num.tdiv (zC1 (if (w64 (0 - num)) > num then (w64 (0 - num)) else num) den))),(w64 (den.tdiv (zC1 (if (w64 (0 - num)) > num then (w64 (0 - num)) else num) den)))⟩:Frac)
def p89 (num:Int) (den:Int):Bool :=
  (decide ((zKe (if (w64 (0 - num)) > num then (w64 (0 - num)) else num) den=true)) &&
 (decide (((zC1 (if (w64 (0 - num)) > num then (w64 (0 - num)) else num) den) ≠ 0)) &&
 (decide (((zC1 (if (w64 (0 - num)) > num then (w64 (0 - num)) else num) den) ≠ 0)) &&
 true)))
end
theorem q89 (num:Int) (den:Int) (K:List PA→Prop) (hs:p89 num den=true) (hk:K (e89 (s89 num den))):vcFun Try.prog G89 zHs 89 [.one (.int .i64 num),.one (.int .i64 den)] K :=
  zay (by kernel_rfl) (zav hs fun hc hs=>And.intro hc (zav hs fun hc hs=>And.intro hc (zav hs fun hc hs=>And.intro hc hk)))
def zsz : List PA → COut
  | [.one (.int .i64 a0),.one (.int .i64 a1)]=>.det (p89 a0 a1=true) [.agg [.int .i64 ((s89 a0 a1).Num),.int .i64 ((s89 a0 a1).Den)]]
  | _=>.no
theorem zHt:zaf Try.prog 89:=⟨_,rfl,rfl,by kernel_rfl⟩
theorem zKf:Ok Try.prog 89 zsz:=zaz zKF zHt fun args K h=>by
  unfold zsz at h
  split at h
  · rename_i a0 a1
    obtain ⟨hs,hk⟩:=h
    exact ⟨(fun _ _=>[]),(fun _=>false),zHs,q89 a0 a1 K hs hk⟩
  · exact h.elim
abbrev T79:Tabs:=(Tabs.nil.addF 89 zsz)
theorem zKG:TabsOk Try.prog T79:=(TabsOk.nil.addF zKf)
abbrev G79:Ctrs:=csm T79 (fun _ _=>[]) (fun _=>false)
def zHu:Ann:=⟨14,[(0,zK [1,2] [1,2]),(1,zK [2] [2])],
 [],
 [],
 [],[]⟩
abbrev R79:=Line
abbrev e79 (r:R79):List PA:=[.agg [.int .i64 r.Slope.Num,.int .i64 r.Slope.Den,.int .i64 r.Start.Num,.int .i64 r.Start.Den]]
section
variable {K:List PA→Prop} {s:straight}
def s79 (s:straight):Line :=
  (⟨(s89 s.slope s.den),(s89 s.start s.den)⟩:Line)
def p79 (s:straight):Bool :=
  (decide ((p89 s.slope s.den=true)) &&
 (decide ((p89 s.start s.den=true)) &&
 true))
end
theorem q79 (s:straight) (K:List PA→Prop) (hs:p79 s=true) (hk:K (e79 (s79 s))):vcFun Try.prog G79 zHu 79 [.agg (zah s)] K :=
  zay (by kernel_rfl) (zav hs fun hc hs=>And.intro hc (zav hs fun hc hs=>And.intro hc hk))
def zz5 : List PA → COut
  | [.agg [.int .i64 a0_slope,.int .i64 a0_start,.int .i64 a0_den]]=>.det (p79 (⟨a0_slope,a0_start,a0_den⟩:straight)=true) [.agg [.int .i64 ((s79 (⟨a0_slope,a0_start,a0_den⟩:straight)).Slope.Num),.int .i64 ((s79 (⟨a0_slope,a0_start,a0_den⟩:straight)).Slope.Den),.int .i64 ((s79 (⟨a0_slope,a0_start,a0_den⟩:straight)).Start.Num),.int .i64 ((s79 (⟨a0_slope,a0_start,a0_den⟩:straight)).Start.Den)]]
  | _=>.no
theorem zHv:zaf Try.prog 79:=⟨_,rfl,rfl,by kernel_rfl⟩
theorem zMn:Ok Try.prog 79 zz5:=zaz zKG zHv fun args K h=>by
  unfold zz5 at h
  split at h
  · rename_i a0_slope a0_start a0_den
    obtain ⟨hs,hk⟩:=h
    exact ⟨(fun _ _=>[]),(fun _=>false),zHu,q79 (⟨a0_slope,a0_start,a0_den⟩:straight) K hs hk⟩
  · exact h.elim
abbrev T74:Tabs:=Tabs.nil
theorem zKH:TabsOk Try.prog T74:=TabsOk.nil
abbrev G74:Ctrs:=csm T74 (fun _ _=>[]) (fun _=>false)
def zHw:Ann:=⟨15,[(0,zK [0,1,2] []),(1,zK [6] [])],
 [],
 [],
 [],[]⟩
abbrev R74:=Bool
abbrev e74 (r:R74):List PA:=[.one (.bool r)]
section
variable {K:List PA→Prop} {x:Int} {low:Int} {high:Int}
def s74 (x:Int) (low:Int) (high:Int):Bool :=
  (cond (decide (x ≥ low))
 (decide (x≤high))
 false)
end
theorem q74 (x:Int) (low:Int) (high:Int) (K:List PA→Prop) (hk:K (e74 (s74 x low high))):vcFun Try.prog G74 zHw 74 [.one (.int .i64 x),.one (.int .i64 low),.one (.int .i64 high)] K :=
  zay (by kernel_rfl) (zt hk (fun hk=>hk) (fun hk=>hk))
def zoN : List PA → COut
  | [.one (.int .i64 a0),.one (.int .i64 a1),.one (.int .i64 a2)]=>.tot [.one (.bool (s74 a0 a1 a2))]
  | _=>.no
theorem zHx:zaf Try.prog 74:=⟨_,rfl,rfl,by kernel_rfl⟩
theorem zHy:Ok Try.prog 74 zoN:=zaz zKH zHx fun args K h=>by
  unfold zoN at h
  split at h
  · rename_i a0 a1 a2
    have hk:=h
    exact ⟨(fun _ _=>[]),(fun _=>false),zHw,q74 a0 a1 a2 K hk⟩
  · exact h.elim
abbrev T87:Tabs:=(Tabs.nil.addF 74 zoN)
theorem zKI:TabsOk Try.prog T87:=(TabsOk.nil.addF zHy)
abbrev G87:Ctrs:=csm T87 (fun _ _=>[]) (fun _=>false)
def zHz:Ann:=⟨23,[(0,zK [1] [1]),(1,zK [2] [])],
 [],
 [],
 [],[]⟩
abbrev R87:=Bool
abbrev e87 (r:R87):List PA:=[.one (.bool r)]
section
variable {K:List PA→Prop} {g:Gate}
def s87 (g:Gate):Bool :=
  (cond (s74 g.Z (0:Int) (100000:Int))
 (cond (decide (g.Low ≥ (-1000000:Int)))
 (cond (decide (g.Low ≤ g.High))
 (decide (g.High≤(1000000:Int)))
 false)
 false)
 false)
end
theorem q87 (g:Gate) (K:List PA→Prop) (hk:K (e87 (s87 g))):vcFun Try.prog G87 zHz 87 [.agg (enc_55 g)] K :=
  zay (by kernel_rfl) (zt hk (fun hk=>(zt hk (fun hk=>(zt hk (fun hk=>hk) (fun hk=>hk))) (fun hk=>hk))) (fun hk=>hk))
def zC3 : List PA → COut
  | [.agg [.int .i64 a0_Z,.int .i64 a0_Low,.int .i64 a0_High]]=>.tot [.one (.bool (s87 (⟨a0_Z,a0_Low,a0_High⟩:Gate)))]
  | _=>.no
theorem zHA:zaf Try.prog 87:=⟨_,rfl,rfl,by kernel_rfl⟩
theorem zM9:Ok Try.prog 87 zC3:=zaz zKI zHA fun args K h=>by
  unfold zC3 at h
  split at h
  · rename_i a0_Z a0_Low a0_High
    have hk:=h
    exact ⟨(fun _ _=>[]),(fun _=>false),zHz,q87 (⟨a0_Z,a0_Low,a0_High⟩:Gate) K hk⟩
  · exact h.elim
abbrev T64:Tabs:=((Tabs.nil.addF 74 zoN).addF 87 zC3)
theorem zKJ:TabsOk Try.prog T64:=((TabsOk.nil.addF zHy).addF zM9)
abbrev G64:Ctrs:=csm T64 (fun _ _=>[]) (fun _=>false)
def zC4:Ann:=⟨18,[(0,zK [0] []),(1,zK [0,5,6,7] []),(2,zK [0,5,6,7,8] []),(3,zK [0,4,5,6,7] [4]),(4,zK [0,5,6,7,13] []),(5,zK [2] []),(6,zK [0,5,6,7] []),(7,zK [2] [])],
 [(2,zK [0,5,6,7] [])],
 [(5,zK [0,5,6,7,13] [])],
 [],[]⟩
abbrev R64:=Bool
abbrev e64 (r:R64):List PA:=[.one (.bool r)]
@[irreducible] def z64:=ptF Try.prog G64 zC4 Try.f64
def zBv (zaa:(Sl Gate)) (zaW:Int):St:=⟨[(0,zS enc_55 3 zaa),(5,zS enc_55 3 zaa),(6,zI (zaa.len:Int)),(7,zI zaW)],[],[]⟩
abbrev zC5 (K:List PA→Prop) (zaa:(Sl Gate)) (X:St→Prop) (P:Int→Bool) (S:Int→Bool):Prop:=∀ ⦃zaW:Int⦄,P zaW=true→K (e64 (S zaW))→X (zBv zaa zaW)
section
variable {K:List PA→Prop} {zaa:(Sl Gate)} {zaW:Int} {X0:St→Prop} {P0:Int→Bool} {S0:Int→Bool} {zf6:Int} {zoO:Bool}
def zoP (S0:Int→Bool) (zaa:(Sl Gate)) (zf6:Int) (zoO:Bool):Bool :=
  (cond zoO
 false
 (S0 (w64 (zf6+(1:Int)))))
def zoQ (P0:Int→Bool) (zaa:(Sl Gate)) (zf6:Int) (zoO:Bool):Bool :=
  (cond zoO
 true
 (P0 (w64 (zf6+(1:Int)))))
theorem zC6 (hX0:zC5 K zaa X0 P0 S0) (hs:zoQ P0 zaa zf6 zoO=true) (hk:K (e64 (zoP S0 zaa zf6 zoO))):z64 K [1,0,1,0,0,1,1,0,0,1,1] [X0] ⟨[(0,zS enc_55 3 zaa),(5,zS enc_55 3 zaa),(6,zI (zaa.len:Int)),(7,zI zf6),(13,zB zoO)],[],[]⟩:=zay (by kernel_rfl) (zc hs hk (fun hs hk=>hk) (fun hs hk=>(hX0 hs hk)))
def zho (zaa:(Sl Gate)) (S0:Int→Bool) (zaW:Int):Bool :=
  (cond (decide (zaW < (zaa.len : Int)))
 (zoP S0 zaa zaW (!(s87 (zaa.get zaW.toNat))))
 (s74 (zaa.len:Int) (1:Int) (24:Int)))
def zhp (zaa:(Sl Gate)) (P0:Int→Bool) (zaW:Int):Bool :=
  (cond (decide (zaW < (zaa.len : Int)))
 (decide ((0≤zaW∧zaW < (zaa.len:Int))) &&
 (zoQ P0 zaa zaW (!(s87 (zaa.get zaW.toNat)))))
 true)
def zhq (zaa:(Sl Gate)):Nat→Int→Bool:=lpO (fun _=>default) (zho zaa)
def zhr (zaa:(Sl Gate)):Nat→Int→Bool:=lpO (fun _=>false) (zhp zaa)
def zua (zaa:(Sl Gate)) (zaW:Int):Bool:=zhq zaa Fuel zaW
def zue (zaa:(Sl Gate)) (zaW:Int):Bool:=zhr zaa Fuel zaW
theorem zC7 (hs:zue zaa zaW=true) (hk:K (e64 (zua zaa zaW))):z64 K [1,0,1,0] [] (zBv zaa zaW) :=
  zl (fun X=>z64 K [1,0,1,0,0] [X]) (by kernel_rfl) fun X0 hX =>
  (show ∀ k, zC5 K zaa X0 (zhr zaa k) (zhq zaa k) from zeK _ _ (zhp zaa) (zho zaa) (zC5 K zaa X0)
 (by intro _ hs;exact absurd hs Bool.false_ne_true)
 (by intro P0 S0 hX0 zaW hs hk;exact hX _ (zay (by kernel_rfl) (zc hs hk (fun hs hk=>(zav hs fun hc hs=>And.intro hc (zC6 hX0 hs hk))) (fun hs hk=>hk))))) _ hs hk
def s64 (zaa:(Sl Gate)):Bool :=
  (zua zaa (0:Int))
def p64 (zaa:(Sl Gate)):Bool :=
  (zue zaa (0:Int))
end
theorem q64 (zaa:(Sl Gate)) (K:List PA→Prop) (hs:p64 zaa=true) (hk:K (e64 (s64 zaa))):vcFun Try.prog G64 zC4 64 [.one (.sl zaa.len 3 (fun i=>enc_55 (zaa.get i)))] K :=
  zay (by kernel_rfl) (zC7 hs hk)
def zsA : List PA → COut
  | [.one (.sl a0_n a0_s a0_g)]=>.det (IsE enc_55 3 a0_s a0_g∧p64 (⟨a0_n,zad a0_g⟩:(Sl Gate))=true) [.one (.bool (s64 (⟨a0_n,zad a0_g⟩:(Sl Gate))))]
  | _=>.no
theorem zHB:zaf Try.prog 64:=⟨_,rfl,rfl,by kernel_rfl⟩
theorem zKg:Ok Try.prog 64 zsA:=zaz zKJ zHB fun args K h=>by
  unfold zsA at h
  split at h
  · rename_i a0_n a0_s a0_g
    obtain ⟨⟨⟨rfl,a0_f,rfl⟩,hs⟩,hk⟩:=h
    try rw [zac a0_f] at hs
    try rw [zac a0_f] at hk
    exact ⟨(fun _ _=>[]),(fun _=>false),zC4,q64 (⟨a0_n,a0_f⟩:(Sl Gate)) K hs hk⟩
  · exact h.elim
abbrev zMo:Tabs:=Tabs.nil
theorem zHC:TabsOk Try.prog zMo:=TabsOk.nil
abbrev zNa:Ctrs:=csm zMo (fun _ _=>[]) (fun _=>false)
def zBw:Ann:=⟨12,[(0,zK [1,2] [2]),(1,zK [3] [])],
 [],
 [],
 [],[]⟩
abbrev zNb:=Bool
abbrev zNc (r:zNb):List PA:=[.one (.bool r)]
section
variable {K:List PA→Prop} {c0:list} {g:Gate}
def zC8 (c0:list) (g:Gate):Bool :=
  (g.Z != (c0.Gates.get 0).Z)
def zC9 (c0:list) (g:Gate):Bool :=
  (decide ((0≤(0:Int)∧(0:Int) < (c0.Gates.len:Int))) &&
 true)
end
theorem zNd (c0:list) (g:Gate) (K:List PA→Prop) (hs:zC9 c0 g=true) (hk:K (zNc (zC8 c0 g))):vcFun Try.prog zNa zBw 100 [.agg (enc_55 g),.one (.fp (zb2 c0) 0)] K :=
  zay (by kernel_rfl) (zav hs fun hc hs=>And.intro hc hk)
def zuf : List PA → COut
  | [.agg [.int .i64 a0_Z,.int .i64 a0_Low,.int .i64 a0_High],.one (.fp [.sl c0_Gates_n c0_Gates_s c0_Gates_g] 0)]=>.det (IsE enc_55 3 c0_Gates_s c0_Gates_g∧zC9 (⟨(⟨c0_Gates_n,zad c0_Gates_g⟩:(Sl Gate))⟩:list) (⟨a0_Z,a0_Low,a0_High⟩:Gate)=true) [.one (.bool (zC8 (⟨(⟨c0_Gates_n,zad c0_Gates_g⟩:(Sl Gate))⟩:list) (⟨a0_Z,a0_Low,a0_High⟩:Gate)))]
  | _=>.no
theorem zDa:zaf Try.prog 100:=⟨_,rfl,rfl,by kernel_rfl⟩
theorem zKK:Ok Try.prog 100 zuf:=zaz zHC zDa fun args K h=>by
  unfold zuf at h
  split at h
  · rename_i a0_Z a0_Low a0_High c0_Gates_n c0_Gates_s c0_Gates_g
    obtain ⟨⟨⟨rfl,c0_Gates_f,rfl⟩,hs⟩,hk⟩:=h
    try rw [zac c0_Gates_f] at hs
    try rw [zac c0_Gates_f] at hk
    exact ⟨(fun _ _=>[]),(fun _=>false),zBw,zNd (⟨(⟨c0_Gates_n,c0_Gates_f⟩:(Sl Gate))⟩:list) (⟨a0_Z,a0_Low,a0_High⟩:Gate) K hs hk⟩
  · exact h.elim
abbrev zMp:Tabs:=(Tabs.nil.addF 74 zoN)
theorem zHD:TabsOk Try.prog zMp:=(TabsOk.nil.addF zHy)
abbrev zNe:Ctrs:=csm zMp (fun _ _=>[]) (fun _=>false)
def zBx:Ann:=⟨24,[(0,zK [2,3] [2,3]),(1,zK [4] [])],
 [],
 [],
 [],[]⟩
abbrev zNf:=Bool
abbrev e118 (r:zNf):List PA:=[.one (.bool r)]
section
variable {K:List PA→Prop} {s:straight} {g:Gate}
def zDb (s:straight) (g:Gate):Bool :=
  (s74 (w64 (s.start+(w64 (s.slope * g.Z)))) (w64 (g.Low * s.den)) (w64 (g.High * s.den)))
end
theorem zNg (s:straight) (g:Gate) (K:List PA→Prop) (hk:K (e118 (zDb s g))):vcFun Try.prog zNe zBx 118 [.agg (zah s),.agg (enc_55 g)] K :=
  zay (by kernel_rfl) hk
def zug : List PA → COut
  | [.agg [.int .i64 a0_slope,.int .i64 a0_start,.int .i64 a0_den],.agg [.int .i64 a1_Z,.int .i64 a1_Low,.int .i64 a1_High]]=>.tot [.one (.bool (zDb (⟨a0_slope,a0_start,a0_den⟩:straight) (⟨a1_Z,a1_Low,a1_High⟩:Gate)))]
  | _=>.no
theorem zDc:zaf Try.prog 118:=⟨_,rfl,rfl,by kernel_rfl⟩
theorem zKL:Ok Try.prog 118 zug:=zaz zHD zDc fun args K h=>by
  unfold zug at h
  split at h
  · rename_i a0_slope a0_start a0_den a1_Z a1_Low a1_High
    have hk:=h
    exact ⟨(fun _ _=>[]),(fun _=>false),zBx,zNg (⟨a0_slope,a0_start,a0_den⟩:straight) (⟨a1_Z,a1_Low,a1_High⟩:Gate) K hk⟩
  · exact h.elim
abbrev zMq:Tabs:=(Tabs.nil.addF 118 zug)
theorem zHE:TabsOk Try.prog zMq:=(TabsOk.nil.addF zKL)
abbrev zNh:Ctrs:=csm zMq (fun _ _=>[]) (fun _=>false)
def zBy:Ann:=⟨8,[(0,zK [1,2] [2]),(1,zK [3] [])],
 [],
 [],
 [],[]⟩
abbrev zNi:=Bool
abbrev e117 (r:zNi):List PA:=[.one (.bool r)]
section
variable {K:List PA→Prop} {c0:straight} {g:Gate}
def zDd (c0:straight) (g:Gate):Bool :=
  (!(zDb c0 g))
end
theorem zNj (c0:straight) (g:Gate) (K:List PA→Prop) (hk:K (e117 (zDd c0 g))):vcFun Try.prog zNh zBy 117 [.agg (enc_55 g),.one (.fp (zah c0) 0)] K :=
  zay (by kernel_rfl) hk
def zuh : List PA → COut
  | [.agg [.int .i64 a0_Z,.int .i64 a0_Low,.int .i64 a0_High],.one (.fp [.int .i64 c0_slope,.int .i64 c0_start,.int .i64 c0_den] 0)]=>.tot [.one (.bool (zDd (⟨c0_slope,c0_start,c0_den⟩:straight) (⟨a0_Z,a0_Low,a0_High⟩:Gate)))]
  | _=>.no
theorem zDe:zaf Try.prog 117:=⟨_,rfl,rfl,by kernel_rfl⟩
theorem zKM:Ok Try.prog 117 zuh:=zaz zHE zDe fun args K h=>by
  unfold zuh at h
  split at h
  · rename_i a0_Z a0_Low a0_High c0_slope c0_start c0_den
    have hk:=h
    exact ⟨(fun _ _=>[]),(fun _=>false),zBy,zNj (⟨c0_slope,c0_start,c0_den⟩:straight) (⟨a0_Z,a0_Low,a0_High⟩:Gate) K hk⟩
  · exact h.elim
abbrev zMr:Tabs:=Tabs.nil
theorem zHF:TabsOk Try.prog zMr:=TabsOk.nil
abbrev zNk:Ctrs:=csm zMr (fun _ _=>[]) (fun _=>false)
def zBz:Ann:=⟨18,[(0,zK [1,2] [2]),(1,zK [3] [])],
 [],
 [],
 [],[]⟩
abbrev zNl:=Bool
abbrev zNm (r:zNl):List PA:=[.one (.bool r)]
section
variable {K:List PA→Prop} {c0:straight} {g:Gate}
def zzd (c0:straight) (g:Gate):Bool :=
  ((w64 (c0.start+(w64 (c0.slope * g.Z)))) == (w64 (g.Low * c0.den)))
end
theorem zNn (c0:straight) (g:Gate) (K:List PA→Prop) (hk:K (zNm (zzd c0 g))):vcFun Try.prog zNk zBz 123 [.agg (enc_55 g),.one (.fp (zah c0) 0)] K :=
  zay (by kernel_rfl) hk
def zui : List PA → COut
  | [.agg [.int .i64 a0_Z,.int .i64 a0_Low,.int .i64 a0_High],.one (.fp [.int .i64 c0_slope,.int .i64 c0_start,.int .i64 c0_den] 0)]=>.tot [.one (.bool (zzd (⟨c0_slope,c0_start,c0_den⟩:straight) (⟨a0_Z,a0_Low,a0_High⟩:Gate)))]
  | _=>.no
theorem zDf:zaf Try.prog 123:=⟨_,rfl,rfl,by kernel_rfl⟩
theorem zKN:Ok Try.prog 123 zui:=zaz zHF zDf fun args K h=>by
  unfold zui at h
  split at h
  · rename_i a0_Z a0_Low a0_High c0_slope c0_start c0_den
    have hk:=h
    exact ⟨(fun _ _=>[]),(fun _=>false),zBz,zNn (⟨c0_slope,c0_start,c0_den⟩:straight) (⟨a0_Z,a0_Low,a0_High⟩:Gate) K hk⟩
  · exact h.elim
abbrev zKh:Tabs:=(((Tabs.nil.addF 100 zuf).addF 117 zuh).addF 123 zui)
theorem zHG:TabsOk Try.prog zKh:=(((TabsOk.nil.addF zKK).addF zKM).addF zKN)
abbrev zMs:Ctrs:=csm zKh (fun _ _=>[]) (fun _=>false)
def zuj:Ann:=⟨19,[(0,zK [0,1] []),(1,zK [0,1,7,8] []),(2,zK [0,1,7,8,9] []),(3,zK [0,1,5,7,8] []),(4,zK [0,1,5,7,8,16] []),(5,zK [4] []),(6,zK [0,1,7,8] []),(7,zK [4] [])],
 [(2,zK [0,1,7,8] [])],
 [(5,zK [0,1,5,7,8,16] [])],
 [],[]⟩
abbrev zNo:=Int
abbrev e119 (r:zNo):List PA:=[.one (.int .i64 r)]
@[irreducible] def z119:=ptF Try.prog zMs zuj Try.f119
def zuk (c0:list) (sv0:(Sl Gate)) (zaW:Int) (zbR:Int) (zc2:Nat→List PV):St:=⟨[(0,zP (.sl sv0.len 3 zc2)),(1,zP (.fn 100 [] [.fp (zb2 c0) 0])),(7,zI zaW),(8,zI zbR)],[],[]⟩
abbrev zul (K:List PA→Prop) (c0:list) (X:St→Prop) (P:(Sl Gate)→Int→Int→Bool) (S:(Sl Gate)→Int→Int→Int):Prop:=∀ ⦃sv0:(Sl Gate)⦄ ⦃zaW:Int⦄ ⦃zbR:Int⦄ ⦃zc2:Nat→List PV⦄,P sv0 zaW zbR=true→K (e119 (S sv0 zaW zbR))→zc2=zg enc_55 sv0→X (zuk c0 sv0 zaW zbR zc2)
section
variable {K:List PA→Prop} {c0:list} {s:(Sl Gate)} {sv0:(Sl Gate)} {zaW:Int} {zbR:Int} {zc2:Nat→List PV} {X0:St→Prop} {P0:(Sl Gate)→Int→Int→Bool} {S0:(Sl Gate)→Int→Int→Int} {sv1:(Sl Gate)} {iv1:Int} {zf6:Int} {zjG:Int} {zdB:Bool} {znD:Nat→List PV}
def zlW (S0:(Sl Gate)→Int→Int→Int) (c0:list) (sv1:(Sl Gate)) (iv1:Int) (zf6:Int) (zjG:Int) (zdB:Bool):Int :=
  (cond zdB
 iv1
 (S0 sv1 zf6 (w64 (zjG+(1:Int)))))
def zlX (P0:(Sl Gate)→Int→Int→Bool) (c0:list) (sv1:(Sl Gate)) (iv1:Int) (zf6:Int) (zjG:Int) (zdB:Bool):Bool :=
  (cond zdB
 true
 (P0 sv1 zf6 (w64 (zjG+(1:Int)))))
theorem zz6 (hX0:zul K c0 X0 P0 S0) (hs:zlX P0 c0 sv1 iv1 zf6 zjG zdB=true) (hk:K (e119 (zlW S0 c0 sv1 iv1 zf6 zjG zdB))) (zum:znD=zg enc_55 sv1):z119 K [1,0,1,0,0,1,1,0,0,1,1] [X0] ⟨[(0,zP (.sl sv1.len 3 znD)),(1,zP (.fn 100 [] [.fp (zb2 c0) 0])),(5,zI iv1),(7,zI zf6),(8,zI zjG),(16,zB zdB)],[],[]⟩:=by subst zum;exact zay (by kernel_rfl) (zc hs hk (fun hs hk=>hk) (fun hs hk=>(hX0 hs hk rfl)))
def ziN (c0:list) (S0:(Sl Gate)→Int→Int→Int) (sv0:(Sl Gate)) (zaW:Int) (zbR:Int):Int :=
  (cond (decide (zbR < zaW))
 (zlW S0 c0 sv0 zbR zaW zbR (zC8 c0 (sv0.get zbR.toNat)))
 (-1:Int))
def ziO (c0:list) (P0:(Sl Gate)→Int→Int→Bool) (sv0:(Sl Gate)) (zaW:Int) (zbR:Int):Bool :=
  (cond (decide (zbR < zaW))
 (decide ((0≤zbR∧zbR < (sv0.len:Int))) &&
 (decide ((zC9 c0 (sv0.get zbR.toNat)=true)) &&
 (zlX P0 c0 sv0 zbR zaW zbR (zC8 c0 (sv0.get zbR.toNat)))))
 true)
def ziP (c0:list):Nat→(Sl Gate)→Int→Int→Int:=lpO (fun _ _ _=>default) (ziN c0)
def ziQ (c0:list):Nat→(Sl Gate)→Int→Int→Bool:=lpO (fun _ _ _=>false) (ziO c0)
def zre (c0:list) (sv0:(Sl Gate)) (zaW:Int) (zbR:Int):Int:=ziP c0 Fuel sv0 zaW zbR
def zrf (c0:list) (sv0:(Sl Gate)) (zaW:Int) (zbR:Int):Bool:=ziQ c0 Fuel sv0 zaW zbR
theorem zz7 (hs:zrf c0 sv0 zaW zbR=true) (hk:K (e119 (zre c0 sv0 zaW zbR))) (zjH:zc2=zg enc_55 sv0):z119 K [1,0,1,0] [] (zuk c0 sv0 zaW zbR zc2) :=
  zl (fun X=>z119 K [1,0,1,0,0] [X]) (by kernel_rfl) fun X0 hX =>
  (show ∀ k, zul K c0 X0 (ziQ c0 k) (ziP c0 k) from zeK _ _ (ziO c0) (ziN c0) (zul K c0 X0)
 (by intro _ _ _ _ hs;exact absurd hs Bool.false_ne_true)
 (by intro P0 S0 hX0 sv0 zaW zbR zc2 hs hk zjH;subst zjH;exact hX _ (zay (by kernel_rfl) (zc hs hk (fun hs hk=>(zav hs fun hc hs=>And.intro hc (zav hs fun hc hs=>And.intro (And.intro (zE enc_55 3 c0.Gates.get) hc) (zz6 hX0 hs hk rfl)))) (fun hs hk=>hk))))) _ hs hk zjH
def zHH (c0:list) (s:(Sl Gate)):Int :=
  (zre c0 s (s.len:Int) (0:Int))
def zHI (c0:list) (s:(Sl Gate)):Bool :=
  (zrf c0 s (s.len:Int) (0:Int))
end
theorem zNp (c0:list) (s:(Sl Gate)) (K:List PA→Prop) (hs:zHI c0 s=true) (hk:K (e119 (zHH c0 s))):vcFun Try.prog zMs zuj 119 [.one (.sl s.len 3 (fun i=>enc_55 (s.get i))),.one (.fn 100 [] [.fp (zb2 c0) 0])] K :=
  zay (by kernel_rfl) (zz7 hs hk rfl)
abbrev zHJ:Ctrs:=csm zKh (fun _ _=>[]) (fun _=>false)
def zoR:Ann:=⟨19,[(0,zK [0,1] []),(1,zK [0,1,7,8] []),(2,zK [0,1,7,8,9] []),(3,zK [0,1,5,7,8] []),(4,zK [0,1,5,7,8,16] []),(5,zK [4] []),(6,zK [0,1,7,8] []),(7,zK [4] [])],
 [(2,zK [0,1,7,8] [])],
 [(5,zK [0,1,5,7,8,16] [])],
 [],[]⟩
abbrev zKO:=Int
abbrev zz8 (r:zKO):List PA:=[.one (.int .i64 r)]
@[irreducible] def z119a:=ptF Try.prog zHJ zoR Try.f119
def zrg (c0:straight) (sv0:(Sl Gate)) (zaW:Int) (zbR:Int) (zc2:Nat→List PV):St:=⟨[(0,zP (.sl sv0.len 3 zc2)),(1,zP (.fn 117 [] [.fp (zah c0) 0])),(7,zI zaW),(8,zI zbR)],[],[]⟩
abbrev zoS (K:List PA→Prop) (c0:straight) (X:St→Prop) (P:(Sl Gate)→Int→Int→Bool) (S:(Sl Gate)→Int→Int→Int):Prop:=∀ ⦃sv0:(Sl Gate)⦄ ⦃zaW:Int⦄ ⦃zbR:Int⦄ ⦃zc2:Nat→List PV⦄,P sv0 zaW zbR=true→K (zz8 (S sv0 zaW zbR))→zc2=zg enc_55 sv0→X (zrg c0 sv0 zaW zbR zc2)
section
variable {K:List PA→Prop} {c0:straight} {s:(Sl Gate)} {sv0:(Sl Gate)} {zaW:Int} {zbR:Int} {zc2:Nat→List PV} {X0:St→Prop} {P0:(Sl Gate)→Int→Int→Bool} {S0:(Sl Gate)→Int→Int→Int} {sv1:(Sl Gate)} {iv1:Int} {zf6:Int} {zjG:Int} {zdB:Bool} {znD:Nat→List PV}
def zjI (S0:(Sl Gate)→Int→Int→Int) (c0:straight) (sv1:(Sl Gate)) (iv1:Int) (zf6:Int) (zjG:Int) (zdB:Bool):Int :=
  (cond zdB
 iv1
 (S0 sv1 zf6 (w64 (zjG+(1:Int)))))
def zjJ (P0:(Sl Gate)→Int→Int→Bool) (c0:straight) (sv1:(Sl Gate)) (iv1:Int) (zf6:Int) (zjG:Int) (zdB:Bool):Bool :=
  (cond zdB
 true
 (P0 sv1 zf6 (w64 (zjG+(1:Int)))))
theorem zun (hX0:zoS K c0 X0 P0 S0) (hs:zjJ P0 c0 sv1 iv1 zf6 zjG zdB=true) (hk:K (zz8 (zjI S0 c0 sv1 iv1 zf6 zjG zdB))) (zum:znD=zg enc_55 sv1):z119a K [1,0,1,0,0,1,1,0,0,1,1] [X0] ⟨[(0,zP (.sl sv1.len 3 znD)),(1,zP (.fn 117 [] [.fp (zah c0) 0])),(5,zI iv1),(7,zI zf6),(8,zI zjG),(16,zB zdB)],[],[]⟩:=by subst zum;exact zay (by kernel_rfl) (zc hs hk (fun hs hk=>hk) (fun hs hk=>(hX0 hs hk rfl)))
def zgM (c0:straight) (S0:(Sl Gate)→Int→Int→Int) (sv0:(Sl Gate)) (zaW:Int) (zbR:Int):Int :=
  (cond (decide (zbR < zaW))
 (zjI S0 c0 sv0 zbR zaW zbR (zDd c0 (sv0.get zbR.toNat)))
 (-1:Int))
def zgN (c0:straight) (P0:(Sl Gate)→Int→Int→Bool) (sv0:(Sl Gate)) (zaW:Int) (zbR:Int):Bool :=
  (cond (decide (zbR < zaW))
 (decide ((0≤zbR∧zbR < (sv0.len:Int))) &&
 (zjJ P0 c0 sv0 zbR zaW zbR (zDd c0 (sv0.get zbR.toNat))))
 true)
def zgO (c0:straight):Nat→(Sl Gate)→Int→Int→Int:=lpO (fun _ _ _=>default) (zgM c0)
def zgP (c0:straight):Nat→(Sl Gate)→Int→Int→Bool:=lpO (fun _ _ _=>false) (zgN c0)
def znE (c0:straight) (sv0:(Sl Gate)) (zaW:Int) (zbR:Int):Int:=zgO c0 Fuel sv0 zaW zbR
def znF (c0:straight) (sv0:(Sl Gate)) (zaW:Int) (zbR:Int):Bool:=zgP c0 Fuel sv0 zaW zbR
theorem zuo (hs:znF c0 sv0 zaW zbR=true) (hk:K (zz8 (znE c0 sv0 zaW zbR))) (zjH:zc2=zg enc_55 sv0):z119a K [1,0,1,0] [] (zrg c0 sv0 zaW zbR zc2) :=
  zl (fun X=>z119a K [1,0,1,0,0] [X]) (by kernel_rfl) fun X0 hX =>
  (show ∀ k, zoS K c0 X0 (zgP c0 k) (zgO c0 k) from zeK _ _ (zgN c0) (zgM c0) (zoS K c0 X0)
 (by intro _ _ _ _ hs;exact absurd hs Bool.false_ne_true)
 (by intro P0 S0 hX0 sv0 zaW zbR zc2 hs hk zjH;subst zjH;exact hX _ (zay (by kernel_rfl) (zc hs hk (fun hs hk=>(zav hs fun hc hs=>And.intro hc (zun hX0 hs hk rfl))) (fun hs hk=>hk))))) _ hs hk zjH
def zup (c0:straight) (s:(Sl Gate)):Int :=
  (znE c0 s (s.len:Int) (0:Int))
def zuq (c0:straight) (s:(Sl Gate)):Bool :=
  (znF c0 s (s.len:Int) (0:Int))
end
theorem zKP (c0:straight) (s:(Sl Gate)) (K:List PA→Prop) (hs:zuq c0 s=true) (hk:K (zz8 (zup c0 s))):vcFun Try.prog zHJ zoR 119 [.one (.sl s.len 3 (fun i=>enc_55 (s.get i))),.one (.fn 117 [] [.fp (zah c0) 0])] K :=
  zay (by kernel_rfl) (zuo hs hk rfl)
abbrev zHK:Ctrs:=csm zKh (fun _ _=>[]) (fun _=>false)
def zoT:Ann:=⟨19,[(0,zK [0,1] []),(1,zK [0,1,7,8] []),(2,zK [0,1,7,8,9] []),(3,zK [0,1,5,7,8] []),(4,zK [0,1,5,7,8,16] []),(5,zK [4] []),(6,zK [0,1,7,8] []),(7,zK [4] [])],
 [(2,zK [0,1,7,8] [])],
 [(5,zK [0,1,5,7,8,16] [])],
 [],[]⟩
abbrev zKQ:=Int
abbrev zz9 (r:zKQ):List PA:=[.one (.int .i64 r)]
@[irreducible] def z119b:=ptF Try.prog zHK zoT Try.f119
def zrh (c0:straight) (sv0:(Sl Gate)) (zaW:Int) (zbR:Int) (zc2:Nat→List PV):St:=⟨[(0,zP (.sl sv0.len 3 zc2)),(1,zP (.fn 123 [] [.fp (zah c0) 0])),(7,zI zaW),(8,zI zbR)],[],[]⟩
abbrev zoU (K:List PA→Prop) (c0:straight) (X:St→Prop) (P:(Sl Gate)→Int→Int→Bool) (S:(Sl Gate)→Int→Int→Int):Prop:=∀ ⦃sv0:(Sl Gate)⦄ ⦃zaW:Int⦄ ⦃zbR:Int⦄ ⦃zc2:Nat→List PV⦄,P sv0 zaW zbR=true→K (zz9 (S sv0 zaW zbR))→zc2=zg enc_55 sv0→X (zrh c0 sv0 zaW zbR zc2)
section
variable {K:List PA→Prop} {c0:straight} {s:(Sl Gate)} {sv0:(Sl Gate)} {zaW:Int} {zbR:Int} {zc2:Nat→List PV} {X0:St→Prop} {P0:(Sl Gate)→Int→Int→Bool} {S0:(Sl Gate)→Int→Int→Int} {sv1:(Sl Gate)} {iv1:Int} {zf6:Int} {zjG:Int} {zdB:Bool} {znD:Nat→List PV}
def zjK (S0:(Sl Gate)→Int→Int→Int) (c0:straight) (sv1:(Sl Gate)) (iv1:Int) (zf6:Int) (zjG:Int) (zdB:Bool):Int :=
  (cond zdB
 iv1
 (S0 sv1 zf6 (w64 (zjG+(1:Int)))))
def zjL (P0:(Sl Gate)→Int→Int→Bool) (c0:straight) (sv1:(Sl Gate)) (iv1:Int) (zf6:Int) (zjG:Int) (zdB:Bool):Bool :=
  (cond zdB
 true
 (P0 sv1 zf6 (w64 (zjG+(1:Int)))))
theorem zur (hX0:zoU K c0 X0 P0 S0) (hs:zjL P0 c0 sv1 iv1 zf6 zjG zdB=true) (hk:K (zz9 (zjK S0 c0 sv1 iv1 zf6 zjG zdB))) (zum:znD=zg enc_55 sv1):z119b K [1,0,1,0,0,1,1,0,0,1,1] [X0] ⟨[(0,zP (.sl sv1.len 3 znD)),(1,zP (.fn 123 [] [.fp (zah c0) 0])),(5,zI iv1),(7,zI zf6),(8,zI zjG),(16,zB zdB)],[],[]⟩:=by subst zum;exact zay (by kernel_rfl) (zc hs hk (fun hs hk=>hk) (fun hs hk=>(hX0 hs hk rfl)))
def zgQ (c0:straight) (S0:(Sl Gate)→Int→Int→Int) (sv0:(Sl Gate)) (zaW:Int) (zbR:Int):Int :=
  (cond (decide (zbR < zaW))
 (zjK S0 c0 sv0 zbR zaW zbR (zzd c0 (sv0.get zbR.toNat)))
 (-1:Int))
def zgR (c0:straight) (P0:(Sl Gate)→Int→Int→Bool) (sv0:(Sl Gate)) (zaW:Int) (zbR:Int):Bool :=
  (cond (decide (zbR < zaW))
 (decide ((0≤zbR∧zbR < (sv0.len:Int))) &&
 (zjL P0 c0 sv0 zbR zaW zbR (zzd c0 (sv0.get zbR.toNat))))
 true)
def zgS (c0:straight):Nat→(Sl Gate)→Int→Int→Int:=lpO (fun _ _ _=>default) (zgQ c0)
def zgT (c0:straight):Nat→(Sl Gate)→Int→Int→Bool:=lpO (fun _ _ _=>false) (zgR c0)
def znG (c0:straight) (sv0:(Sl Gate)) (zaW:Int) (zbR:Int):Int:=zgS c0 Fuel sv0 zaW zbR
def znH (c0:straight) (sv0:(Sl Gate)) (zaW:Int) (zbR:Int):Bool:=zgT c0 Fuel sv0 zaW zbR
theorem zus (hs:znH c0 sv0 zaW zbR=true) (hk:K (zz9 (znG c0 sv0 zaW zbR))) (zjH:zc2=zg enc_55 sv0):z119b K [1,0,1,0] [] (zrh c0 sv0 zaW zbR zc2) :=
  zl (fun X=>z119b K [1,0,1,0,0] [X]) (by kernel_rfl) fun X0 hX =>
  (show ∀ k, zoU K c0 X0 (zgT c0 k) (zgS c0 k) from zeK _ _ (zgR c0) (zgQ c0) (zoU K c0 X0)
 (by intro _ _ _ _ hs;exact absurd hs Bool.false_ne_true)
 (by intro P0 S0 hX0 sv0 zaW zbR zc2 hs hk zjH;subst zjH;exact hX _ (zay (by kernel_rfl) (zc hs hk (fun hs hk=>(zav hs fun hc hs=>And.intro hc (zur hX0 hs hk rfl))) (fun hs hk=>hk))))) _ hs hk zjH
def zut (c0:straight) (s:(Sl Gate)):Int :=
  (znG c0 s (s.len:Int) (0:Int))
def zuu (c0:straight) (s:(Sl Gate)):Bool :=
  (znH c0 s (s.len:Int) (0:Int))
end
theorem zKR (c0:straight) (s:(Sl Gate)) (K:List PA→Prop) (hs:zuu c0 s=true) (hk:K (zz9 (zut c0 s))):vcFun Try.prog zHK zoT 119 [.one (.sl s.len 3 (fun i=>enc_55 (s.get i))),.one (.fn 123 [] [.fp (zah c0) 0])] K :=
  zay (by kernel_rfl) (zus hs hk rfl)
def zuv : List PA → COut
  | [.one (.sl a0_n a0_s a0_g),.one (.fn 100 [] [.fp [.sl c0_Gates_n c0_Gates_s c0_Gates_g] 0])]=>.det (IsE enc_55 3 a0_s a0_g∧IsE enc_55 3 c0_Gates_s c0_Gates_g∧zHI (⟨(⟨c0_Gates_n,zad c0_Gates_g⟩:(Sl Gate))⟩:list) (⟨a0_n,zad a0_g⟩:(Sl Gate))=true) [.one (.int .i64 (zHH (⟨(⟨c0_Gates_n,zad c0_Gates_g⟩:(Sl Gate))⟩:list) (⟨a0_n,zad a0_g⟩:(Sl Gate))))]
  | [.one (.sl a0_n a0_s a0_g),.one (.fn 117 [] [.fp [.int .i64 c0_slope,.int .i64 c0_start,.int .i64 c0_den] 0])]=>.det (IsE enc_55 3 a0_s a0_g∧zuq (⟨c0_slope,c0_start,c0_den⟩:straight) (⟨a0_n,zad a0_g⟩:(Sl Gate))=true) [.one (.int .i64 (zup (⟨c0_slope,c0_start,c0_den⟩:straight) (⟨a0_n,zad a0_g⟩:(Sl Gate))))]
  | [.one (.sl a0_n a0_s a0_g),.one (.fn 123 [] [.fp [.int .i64 c0_slope,.int .i64 c0_start,.int .i64 c0_den] 0])]=>.det (IsE enc_55 3 a0_s a0_g∧zuu (⟨c0_slope,c0_start,c0_den⟩:straight) (⟨a0_n,zad a0_g⟩:(Sl Gate))=true) [.one (.int .i64 (zut (⟨c0_slope,c0_start,c0_den⟩:straight) (⟨a0_n,zad a0_g⟩:(Sl Gate))))]
  | _=>.no
theorem zDg:zaf Try.prog 119:=⟨_,rfl,rfl,by kernel_rfl⟩
theorem zKS:Ok Try.prog 119 zuv:=zaz zHG zDg fun args K h=>by
  unfold zuv at h
  split at h
  · rename_i a0_n a0_s a0_g c0_Gates_n c0_Gates_s c0_Gates_g
    obtain ⟨⟨⟨rfl,a0_f,rfl⟩,⟨rfl,c0_Gates_f,rfl⟩,hs⟩,hk⟩:=h
    try rw [zac a0_f] at hs
    try rw [zac a0_f] at hk
    try rw [zac c0_Gates_f] at hs
    try rw [zac c0_Gates_f] at hk
    exact ⟨(fun _ _=>[]),(fun _=>false),zuj,zNp (⟨(⟨c0_Gates_n,c0_Gates_f⟩:(Sl Gate))⟩:list) (⟨a0_n,a0_f⟩:(Sl Gate)) K hs hk⟩
  · rename_i a0_n a0_s a0_g c0_slope c0_start c0_den
    obtain ⟨⟨⟨rfl,a0_f,rfl⟩,hs⟩,hk⟩:=h
    try rw [zac a0_f] at hs
    try rw [zac a0_f] at hk
    exact ⟨(fun _ _=>[]),(fun _=>false),zoR,zKP (⟨c0_slope,c0_start,c0_den⟩:straight) (⟨a0_n,a0_f⟩:(Sl Gate)) K hs hk⟩
  · rename_i a0_n a0_s a0_g c0_slope c0_start c0_den
    obtain ⟨⟨⟨rfl,a0_f,rfl⟩,hs⟩,hk⟩:=h
    try rw [zac a0_f] at hs
    try rw [zac a0_f] at hk
    exact ⟨(fun _ _=>[]),(fun _=>false),zoT,zKR (⟨c0_slope,c0_start,c0_den⟩:straight) (⟨a0_n,a0_f⟩:(Sl Gate)) K hs hk⟩
  · exact h.elim
abbrev T99:Tabs:=(Tabs.nil.addF 119 zuv)
theorem zKT:TabsOk Try.prog T99:=(TabsOk.nil.addF zKS)
abbrev G99:Ctrs:=csm T99 (fun _ _=>[]) (fun _=>false)
def zHL:Ann:=⟨9,[(0,zK [0,1] []),(1,zK [4] [])],
 [],
 [],
 [],[]⟩
abbrev R99:=Bool
abbrev e99 (r:R99):List PA:=[.one (.bool r)]
section
variable {K:List PA→Prop} {c0:list} {s:(Sl Gate)}
def s99 (c0:list) (s:(Sl Gate)):Bool :=
  (decide ((zHH c0 s) ≥ (0:Int)))
def p99 (c0:list) (s:(Sl Gate)):Bool :=
  (decide ((zHI c0 s=true)) &&
 true)
end
theorem q99 (c0:list) (s:(Sl Gate)) (K:List PA→Prop) (hs:p99 c0 s=true) (hk:K (e99 (s99 c0 s))):vcFun Try.prog G99 zHL 99 [.one (.sl s.len 3 (fun i=>enc_55 (s.get i))),.one (.fn 100 [] [.fp (zb2 c0) 0])] K :=
  zay (by kernel_rfl) (zav hs fun hc hs=>And.intro (And.intro (zE enc_55 3 s.get) (And.intro (zE enc_55 3 c0.Gates.get) hc)) hk)
abbrev zNq:Ctrs:=csm T99 (fun _ _=>[]) (fun _=>false)
def zBA:Ann:=⟨9,[(0,zK [0,1] []),(1,zK [4] [])],
 [],
 [],
 [],[]⟩
abbrev zNr:=Bool
abbrev zNs (r:zNr):List PA:=[.one (.bool r)]
section
variable {K:List PA→Prop} {c0:straight} {s:(Sl Gate)}
def zKi (c0:straight) (s:(Sl Gate)):Bool :=
  (decide ((zup c0 s) ≥ (0:Int)))
def zKj (c0:straight) (s:(Sl Gate)):Bool :=
  (decide ((zuq c0 s=true)) &&
 true)
end
theorem zNt (c0:straight) (s:(Sl Gate)) (K:List PA→Prop) (hs:zKj c0 s=true) (hk:K (zNs (zKi c0 s))):vcFun Try.prog zNq zBA 99 [.one (.sl s.len 3 (fun i=>enc_55 (s.get i))),.one (.fn 117 [] [.fp (zah c0) 0])] K :=
  zay (by kernel_rfl) (zav hs fun hc hs=>And.intro (And.intro (zE enc_55 3 s.get) hc) hk)
abbrev zNu:Ctrs:=csm T99 (fun _ _=>[]) (fun _=>false)
def zBB:Ann:=⟨9,[(0,zK [0,1] []),(1,zK [4] [])],
 [],
 [],
 [],[]⟩
abbrev zNv:=Bool
abbrev zNw (r:zNv):List PA:=[.one (.bool r)]
section
variable {K:List PA→Prop} {c0:straight} {s:(Sl Gate)}
def zKk (c0:straight) (s:(Sl Gate)):Bool :=
  (decide ((zut c0 s) ≥ (0:Int)))
def zKl (c0:straight) (s:(Sl Gate)):Bool :=
  (decide ((zuu c0 s=true)) &&
 true)
end
theorem zNx (c0:straight) (s:(Sl Gate)) (K:List PA→Prop) (hs:zKl c0 s=true) (hk:K (zNw (zKk c0 s))):vcFun Try.prog zNu zBB 99 [.one (.sl s.len 3 (fun i=>enc_55 (s.get i))),.one (.fn 123 [] [.fp (zah c0) 0])] K :=
  zay (by kernel_rfl) (zav hs fun hc hs=>And.intro (And.intro (zE enc_55 3 s.get) hc) hk)
def zuw : List PA → COut
  | [.one (.sl a0_n a0_s a0_g),.one (.fn 100 [] [.fp [.sl c0_Gates_n c0_Gates_s c0_Gates_g] 0])]=>.det (IsE enc_55 3 a0_s a0_g∧IsE enc_55 3 c0_Gates_s c0_Gates_g∧p99 (⟨(⟨c0_Gates_n,zad c0_Gates_g⟩:(Sl Gate))⟩:list) (⟨a0_n,zad a0_g⟩:(Sl Gate))=true) [.one (.bool (s99 (⟨(⟨c0_Gates_n,zad c0_Gates_g⟩:(Sl Gate))⟩:list) (⟨a0_n,zad a0_g⟩:(Sl Gate))))]
  | [.one (.sl a0_n a0_s a0_g),.one (.fn 117 [] [.fp [.int .i64 c0_slope,.int .i64 c0_start,.int .i64 c0_den] 0])]=>.det (IsE enc_55 3 a0_s a0_g∧zKj (⟨c0_slope,c0_start,c0_den⟩:straight) (⟨a0_n,zad a0_g⟩:(Sl Gate))=true) [.one (.bool (zKi (⟨c0_slope,c0_start,c0_den⟩:straight) (⟨a0_n,zad a0_g⟩:(Sl Gate))))]
  | [.one (.sl a0_n a0_s a0_g),.one (.fn 123 [] [.fp [.int .i64 c0_slope,.int .i64 c0_start,.int .i64 c0_den] 0])]=>.det (IsE enc_55 3 a0_s a0_g∧zKl (⟨c0_slope,c0_start,c0_den⟩:straight) (⟨a0_n,zad a0_g⟩:(Sl Gate))=true) [.one (.bool (zKk (⟨c0_slope,c0_start,c0_den⟩:straight) (⟨a0_n,zad a0_g⟩:(Sl Gate))))]
  | _=>.no
theorem zHM:zaf Try.prog 99:=⟨_,rfl,rfl,by kernel_rfl⟩
theorem zKU:Ok Try.prog 99 zuw:=zaz zKT zHM fun args K h=>by
  unfold zuw at h
  split at h
  · rename_i a0_n a0_s a0_g c0_Gates_n c0_Gates_s c0_Gates_g
    obtain ⟨⟨⟨rfl,a0_f,rfl⟩,⟨rfl,c0_Gates_f,rfl⟩,hs⟩,hk⟩:=h
    try rw [zac a0_f] at hs
    try rw [zac a0_f] at hk
    try rw [zac c0_Gates_f] at hs
    try rw [zac c0_Gates_f] at hk
    exact ⟨(fun _ _=>[]),(fun _=>false),zHL,q99 (⟨(⟨c0_Gates_n,c0_Gates_f⟩:(Sl Gate))⟩:list) (⟨a0_n,a0_f⟩:(Sl Gate)) K hs hk⟩
  · rename_i a0_n a0_s a0_g c0_slope c0_start c0_den
    obtain ⟨⟨⟨rfl,a0_f,rfl⟩,hs⟩,hk⟩:=h
    try rw [zac a0_f] at hs
    try rw [zac a0_f] at hk
    exact ⟨(fun _ _=>[]),(fun _=>false),zBA,zNt (⟨c0_slope,c0_start,c0_den⟩:straight) (⟨a0_n,a0_f⟩:(Sl Gate)) K hs hk⟩
  · rename_i a0_n a0_s a0_g c0_slope c0_start c0_den
    obtain ⟨⟨⟨rfl,a0_f,rfl⟩,hs⟩,hk⟩:=h
    try rw [zac a0_f] at hs
    try rw [zac a0_f] at hk
    exact ⟨(fun _ _=>[]),(fun _=>false),zBB,zNx (⟨c0_slope,c0_start,c0_den⟩:straight) (⟨a0_n,a0_f⟩:(Sl Gate)) K hs hk⟩
  · exact h.elim
abbrev T67:Tabs:=(Tabs.nil.addF 99 zuw)
theorem zKV:TabsOk Try.prog T67:=(TabsOk.nil.addF zKU)
abbrev G67:Ctrs:=csm T67 (fun _ _=>[]) (fun _=>false)
def zHN:Ann:=⟨8,[(0,zK [1] [1]),(1,zK [2] [])],
 [],
 [],
 [],[]⟩
abbrev R67:=Bool
abbrev e67 (r:R67):List PA:=[.one (.bool r)]
section
variable {K:List PA→Prop} {l_a0:list}
def s67 (l_a0:list):Bool :=
  (!(s99 l_a0 l_a0.Gates))
def p67 (l_a0:list):Bool :=
  (decide ((p99 l_a0 l_a0.Gates=true)) &&
 true)
end
theorem q67 (l_a0:list) (K:List PA→Prop) (hs:p67 l_a0=true) (hk:K (e67 (s67 l_a0))):vcFun Try.prog G67 zHN 67 [.agg (zb2 l_a0)] K :=
  zay (by kernel_rfl) (zav hs fun hc hs=>And.intro (And.intro (zE enc_55 3 l_a0.Gates.get) (And.intro (zE enc_55 3 l_a0.Gates.get) hc)) hk)
def zoV : List PA → COut
  | [.agg [.sl a0_Gates_n a0_Gates_s a0_Gates_g]]=>.det (IsE enc_55 3 a0_Gates_s a0_Gates_g∧p67 (⟨(⟨a0_Gates_n,zad a0_Gates_g⟩:(Sl Gate))⟩:list)=true) [.one (.bool (s67 (⟨(⟨a0_Gates_n,zad a0_Gates_g⟩:(Sl Gate))⟩:list)))]
  | _=>.no
theorem zHO:zaf Try.prog 67:=⟨_,rfl,rfl,by kernel_rfl⟩
theorem zHP:Ok Try.prog 67 zoV:=zaz zKV zHO fun args K h=>by
  unfold zoV at h
  split at h
  · rename_i a0_Gates_n a0_Gates_s a0_Gates_g
    obtain ⟨⟨⟨rfl,a0_Gates_f,rfl⟩,hs⟩,hk⟩:=h
    try rw [zac a0_Gates_f] at hs
    try rw [zac a0_Gates_f] at hk
    exact ⟨(fun _ _=>[]),(fun _=>false),zHN,q67 (⟨(⟨a0_Gates_n,a0_Gates_f⟩:(Sl Gate))⟩:list) K hs hk⟩
  · exact h.elim
abbrev T96:Tabs:=Tabs.nil
theorem zKW:TabsOk Try.prog T96:=TabsOk.nil
abbrev G96:Ctrs:=csm T96 (fun _ _=>[]) (fun _=>false)
def zDh:Ann:=⟨4,[(0,⟨[1],[1],[],[],[],[],[]⟩),(1,⟨[2],[],[],[],[],[],[]⟩)],
 [],
 [],
 [],[]⟩
theorem zDi (l_a0 : list) (K : List PA → Prop) :
  vcFun Try.prog G96 zDh 96 [.agg [.sl l_a0.Gates.len 3 (fun i=>enc_55 (l_a0.Gates.get i))]] K =
  (K [.one (.fn 115 [] [.fp (zb2 l_a0) 0])]):=by kernel_rfl
theorem q96 (l_a0:list) (K:List PA→Prop) (hk:K [.one (.fn 115 [] [.fp (zb2 l_a0) 0])]):vcFun Try.prog G96 zDh 96 [.agg [.sl l_a0.Gates.len 3 (fun i=>enc_55 (l_a0.Gates.get i))]] K:=zay (zDi l_a0 K) hk
def zDj : List PA → COut
  | [.agg [.sl a0_Gates_n a0_Gates_s a0_Gates_g]]=>.det (IsE enc_55 3 a0_Gates_s a0_Gates_g) [.one (.fn 115 [] [.fp (zb2 (⟨(⟨a0_Gates_n,zad a0_Gates_g⟩:(Sl Gate))⟩:list)) 0])]
  | _=>.no
theorem zHQ:zaf Try.prog 96:=⟨_,rfl,rfl,by kernel_rfl⟩
theorem zNy:Ok Try.prog 96 zDj:=zaz zKW zHQ fun args K h=>by
  unfold zDj at h
  split at h
  · rename_i a0_Gates_n a0_Gates_s a0_Gates_g
    obtain ⟨⟨rfl,a0_Gates_f,rfl⟩,hk⟩:=h
    try rw [zac a0_Gates_f] at hk
    exact ⟨fun _ _=>[],fun _=>false,zDh,q96 (⟨(⟨a0_Gates_n,a0_Gates_f⟩:(Sl Gate))⟩:list) K hk⟩
  · exact h.elim
abbrev T97:Tabs:=(Tabs.nil.addF 99 zuw)
theorem zKX:TabsOk Try.prog T97:=(TabsOk.nil.addF zKU)
abbrev G97:Ctrs:=csm T97 (fun _ _=>[]) (fun _=>false)
def zDk:Ann:=⟨11,[(0,zK [2,3] [2,3]),(1,zK [4] [])],
 [],
 [],
 [],[]⟩
abbrev R97:=Bool
abbrev e97 (r:R97):List PA:=[.one (.bool r)]
section
variable {K:List PA→Prop} {s:set} {x:straight}
def s97 (s:set) (x:straight):Bool :=
  (!(zKi x s.list.Gates))
def p97 (s:set) (x:straight):Bool :=
  (decide ((zKj x s.list.Gates=true)) &&
 true)
end
theorem q97 (s:set) (x:straight) (K:List PA→Prop) (hs:p97 s x=true) (hk:K (e97 (s97 s x))):vcFun Try.prog G97 zDk 97 [.agg (zaV s),.agg (zah x)] K :=
  zay (by kernel_rfl) (zav hs fun hc hs=>And.intro (And.intro (zE enc_55 3 s.list.Gates.get) hc) hk)
def zDl : List PA → COut
  | [.agg [.sl a0_list_Gates_n a0_list_Gates_s a0_list_Gates_g,.sl a0_corners_n a0_corners_s a0_corners_g],.agg [.int .i64 a1_slope,.int .i64 a1_start,.int .i64 a1_den]]=>.det (IsE enc_55 3 a0_list_Gates_s a0_list_Gates_g∧IsE zah 3 a0_corners_s a0_corners_g∧p97 (⟨(⟨(⟨a0_list_Gates_n,zad a0_list_Gates_g⟩:(Sl Gate))⟩:list),(⟨a0_corners_n,zaR a0_corners_g⟩:(Sl straight))⟩:set) (⟨a1_slope,a1_start,a1_den⟩:straight)=true) [.one (.bool (s97 (⟨(⟨(⟨a0_list_Gates_n,zad a0_list_Gates_g⟩:(Sl Gate))⟩:list),(⟨a0_corners_n,zaR a0_corners_g⟩:(Sl straight))⟩:set) (⟨a1_slope,a1_start,a1_den⟩:straight)))]
  | [.agg [.sl a0_list_Gates_n a0_list_Gates_s a0_list_Gates_g,.nils],.agg [.int .i64 a1_slope,.int .i64 a1_start,.int .i64 a1_den]]=>.det (IsE enc_55 3 a0_list_Gates_s a0_list_Gates_g∧p97 (⟨(⟨(⟨a0_list_Gates_n,zad a0_list_Gates_g⟩:(Sl Gate))⟩:list),(⟨0,fun _=>default⟩:(Sl straight))⟩:set) (⟨a1_slope,a1_start,a1_den⟩:straight)=true) [.one (.bool (s97 (⟨(⟨(⟨a0_list_Gates_n,zad a0_list_Gates_g⟩:(Sl Gate))⟩:list),(⟨0,fun _=>default⟩:(Sl straight))⟩:set) (⟨a1_slope,a1_start,a1_den⟩:straight)))]
  | _=>.no
theorem zHR:zaf Try.prog 97:=⟨_,rfl,rfl,by kernel_rfl⟩
theorem zNz:Ok Try.prog 97 zDl:=zhl zKX zHR fun args K h=>by
  unfold zDl at h
  split at h
  · rename_i a0_list_Gates_n a0_list_Gates_s a0_list_Gates_g a0_corners_n a0_corners_s a0_corners_g a1_slope a1_start a1_den
    obtain ⟨⟨⟨rfl,a0_list_Gates_f,rfl⟩,⟨rfl,a0_corners_f,rfl⟩,hs⟩,hk⟩:=h
    try rw [zac a0_list_Gates_f] at hs
    try rw [zac a0_list_Gates_f] at hk
    try rw [zaN a0_corners_f] at hs
    try rw [zaN a0_corners_f] at hk
    exact ⟨_,zeS zfS _,(fun _ _=>[]),(fun _=>false),zDk,q97 (⟨(⟨(⟨a0_list_Gates_n,a0_list_Gates_f⟩:(Sl Gate))⟩:list),(⟨a0_corners_n,a0_corners_f⟩:(Sl straight))⟩:set) (⟨a1_slope,a1_start,a1_den⟩:straight) (Wk K) hs (zd4 hk)⟩
  · rename_i a0_list_Gates_n a0_list_Gates_s a0_list_Gates_g a1_slope a1_start a1_den
    obtain ⟨⟨⟨rfl,a0_list_Gates_f,rfl⟩,hs⟩,hk⟩:=h
    try rw [zac a0_list_Gates_f] at hs
    try rw [zac a0_list_Gates_f] at hk
    exact ⟨_,(zc4 (.agg (zc4 (.rfl _) (zc4 (.nil _ _) zhk))) (zc4 (zfS _) zhk)),(fun _ _=>[]),(fun _=>false),zDk,q97 (⟨(⟨(⟨a0_list_Gates_n,a0_list_Gates_f⟩:(Sl Gate))⟩:list),(⟨0,fun _=>default⟩:(Sl straight))⟩:set) (⟨a1_slope,a1_start,a1_den⟩:straight) (Wk K) hs (zd4 hk)⟩
  · exact h.elim
abbrev zMt:Tabs:=Tabs.nil
theorem zHS:TabsOk Try.prog zMt:=TabsOk.nil
abbrev zMu:Ctrs:=csm zMt (fun _ _=>[]) (fun _=>false)
def zux:Ann:=⟨30,[(0,zK [0,1,2,3,8] [8]),(1,zK [0,1,2,3,8,11] [8]),(2,zK [0,1,2,3,8] [8]),(3,zK [8] [8])],
 [],
 [(3,zK [0,1,2,3,8] [8])],
 [],[]⟩
abbrev zNA:=straight
abbrev e116 (r:zNA):List PA:=[.agg [.int .i64 r.slope,.int .i64 r.start,.int .i64 r.den]]
@[irreducible] def z116:=ptF Try.prog zMu zux Try.f116
section
variable {K:List PA→Prop} {z:Int} {p:Int} {y_a2:Int} {q:Int} {zv0:Int} {pv0:Int} {yv0:Int} {qv0:Int}
def ziR (zv0:Int) (pv0:Int) (yv0:Int) (qv0:Int):straight :=
  (⟨(w64 (qv0 - pv0)),(w64 ((w64 (pv0 * yv0)) - (w64 (qv0 * zv0)))),(w64 (yv0 - zv0))⟩:straight)
theorem zri (hk:K (e116 (ziR zv0 pv0 yv0 qv0))):z116 K [1,1] [] ⟨[(0,zI zv0),(1,zI pv0),(2,zI yv0),(3,zI qv0),(8,zp 8 0)],[(8,.box 118 (zm (zah (⟨(0:Int),(0:Int),(0:Int)⟩:straight))))],[]⟩:=zay (by kernel_rfl) hk
def zkB (z:Int) (p:Int) (y_a2:Int) (q:Int):straight :=
  (cond (decide (z > y_a2))
 (ziR y_a2 q z p)
 (ziR z p y_a2 q))
end
theorem zNB (z:Int) (p:Int) (y_a2:Int) (q:Int) (K:List PA→Prop) (hk:K (e116 (zkB z p y_a2 q))):vcFun Try.prog zMu zux 116 [.one (.int .i64 z),.one (.int .i64 p),.one (.int .i64 y_a2),.one (.int .i64 q)] K :=
  zay (by kernel_rfl) (zt hk (fun hk=>(zri hk)) (fun hk=>(zri hk)))
def zuy : List PA → COut
  | [.one (.int .i64 a0),.one (.int .i64 a1),.one (.int .i64 a2),.one (.int .i64 a3)]=>.tot [.agg [.int .i64 ((zkB a0 a1 a2 a3).slope),.int .i64 ((zkB a0 a1 a2 a3).start),.int .i64 ((zkB a0 a1 a2 a3).den)]]
  | _=>.no
theorem zDm:zaf Try.prog 116:=⟨_,rfl,rfl,by kernel_rfl⟩
theorem zKY:Ok Try.prog 116 zuy:=zaz zHS zDm fun args K h=>by
  unfold zuy at h
  split at h
  · rename_i a0 a1 a2 a3
    have hk:=h
    exact ⟨(fun _ _=>[]),(fun _=>false),zux,zNB a0 a1 a2 a3 K hk⟩
  · exact h.elim
abbrev zMv:Tabs:=(Tabs.nil.addF 116 zuy)
theorem zHT:TabsOk Try.prog zMv:=(TabsOk.nil.addF zKY)
abbrev zuz:Ctrs:=csm zMv (fun _ _=>[]) (fun _=>false)
def zb0:Ann:=⟨64,[(0,⟨[0,1,12,13,14],[],[],[],[],[],[]⟩),(1,⟨[0,1,12,13,14,15],[],[],[],[],[],[]⟩),(2,⟨[0,1,3,4,12,13,14],[4],[],[],[],[],[]⟩),(3,⟨[0,1,4,12,13,14,23,24,25],[4],[],[],[],[],[]⟩),(4,⟨[0,1,4,12,13,14,23,24,25,26],[4],[],[],[],[],[]⟩),(5,⟨[0,1,4,6,12,13,14,23,24,25],[4,6],[],[],[],[],[]⟩),(6,⟨[0,1,4,6,12,13,14,23,24,25,33],[4,6],[],[],[],[],[]⟩),(7,⟨[0,1,4,6,12,13,14,23,24,25,38,39],[4,6],[],[],[],[],[]⟩),(8,⟨[0,1,4,6,12,13,14,23,24,25,38,39,40],[4,6],[],[],[],[],[]⟩),(9,⟨[0,1,4,6,8,12,13,14,23,24,25,38,39],[4,6],[],[],[],[],[]⟩),(10,⟨[0,1,4,6,8,12,13,14,23,24,25,38,39,46,47],[4,6],[],[],[],[],[]⟩),(11,⟨[0,1,4,6,8,12,13,14,23,24,25,38,39,46,47,48],[4,6],[],[],[],[],[]⟩),(12,⟨[0,1,4,6,8,10,12,13,14,23,24,25,38,39,46,47],[4,6],[],[],[],[],[]⟩),(13,⟨[0,1,4,6,8,12,13,14,23,24,25,38,39,46,47,59],[4,6],[],[],[],[],[]⟩),(14,⟨[0,1,4,6,8,12,13,14,23,24,25,38,39,46,47],[4,6],[],[],[],[],[]⟩),(15,⟨[0,1,4,6,12,13,14,23,24,25,38,39],[4,6],[],[],[],[],[]⟩),(16,⟨[0,1,4,12,13,14,23,24,25],[4],[],[],[],[],[]⟩),(17,⟨[0,1,12,13,14],[],[],[],[],[],[]⟩)],
 [(1,⟨[0,1,12,13,14],[],[],[],[],[],[]⟩),(4,⟨[0,1,4,12,13,14,23,24,25],[4],[],[],[],[4],[]⟩)],
 [],
 [(8,3,⟨[0,1,4,6,12,13,14,23,24,25,38,39],[4,6],[],[],[],[],[]⟩),(11,3,⟨[0,1,4,6,8,12,13,14,23,24,25,38,39,46,47],[4,6],[],[],[],[],[]⟩)],[13]⟩
def zeT (l:Nat) (a:list) (zai:Int):St:=⟨[(0,.one (.c (.p (.yl l)))),(1,.one (.c (.p (.fp (zb2 a) 0)))),(12,.one (.c (.p (.sl a.Gates.len 3 (fun i=>enc_55 (a.Gates.get i)))))),(13,.one (.c (.p (.int .i64 (a.Gates.len:Int))))),(14,.one (.c (.p (.int .i64 zai))))],[],[]⟩
def zgU (l:Nat) (ys:List (List PA)) (a:list) (zai:Int):Prop:=vcY Try.prog zuz zb0 l (cdF Try.f115 [1,0]) (zcY 0 zkF) ys false (zeT l a zai)
def zeU (l:Nat) (a:list) (zaQ:Int) (zeV:Nat) (zb3:Nat→List PV) (zbu:Int) (zaD:Int) (zaM:Int) (zaU:Int) (zbi:Int):St:=⟨[(0,.one (.c (.p (.yl l)))),(1,.one (.c (.p (.fp (zb2 a) 0)))),(4,.one (.c (.ptr 4 0))),(12,.one (.c (.p (.sl a.Gates.len 3 (fun i=>enc_55 (a.Gates.get i)))))),(13,.one (.c (.p (.int .i64 (a.Gates.len:Int))))),(14,.one (.c (.p (.int .i64 zaQ)))),(23,.one (.c (.p (.sl zeV 3 zb3)))),(24,.one (.c (.p (.int .i64 zbu)))),(25,.one (.c (.p (.int .i64 zaD))))],[(4,.fbox [.int .i64 zaM,.int .i64 zaU,.int .i64 zbi])],[]⟩
def zgV (l:Nat) (X0:List (List PA)→Bool→St→Prop) (ys:List (List PA)) (a:list) (zaQ:Int) (zeV:Nat) (zb3:Nat→List PV) (zbu:Int) (zaD:Int) (zaM:Int) (zaU:Int) (zbi:Int):Prop:=vcY Try.prog zuz zb0 l (cdF Try.f115 [1,0,0,1,1,0,0,1,1,0]) (zcY 2 (zcY 1 (zGV (zGX Try.prog zb0 17 (vcY Try.prog zuz zb0 l (cdF Try.f115 [1,0,0,1,1,1]) (zix Try.prog zb0 1 X0 (zcY 0 zkF)))) (zix Try.prog zb0 1 X0 (zcY 0 zkF))))) ys false (zeU l a zaQ zeV zb3 zbu zaD zaM zaU zbi)
theorem zAa (l : Nat) (a : list) (ys : List (List PA)) :
  vcIter Try.prog zuz zb0 115 l [.one (.fp (zb2 a) 0)] ys =
  (zgU l ys a (0:Int)):=by kernel_rfl
def zlg (l:Nat) (X0:List (List PA)→Bool→St→Prop) (ys:List (List PA)) (a:list) (zai:Int):Prop :=
  (zcX (decide (zai < (a.Gates.len : Int)))
 (((0≤zai∧zai < (a.Gates.len:Int))) ∧
 (((0≤(w64 (zai+(1:Int)))∧(w64 (zai+(1:Int)))≤(a.Gates.len:Int)∧(a.Gates.len:Int)≤(a.Gates.len:Int))) ∧
 (zgV l  X0 ys a zai (((a.Gates.len:Int) - (w64 (zai+(1:Int)))).toNat) (slG (fun i=>enc_55 (a.Gates.get i)) ((w64 (zai+(1:Int))).toNat)) (((a.Gates.len:Int) - (w64 (zai+(1:Int)))).toNat:Int) (0:Int) ((a.Gates.get zai.toNat).Z) ((a.Gates.get zai.toNat).Low) ((a.Gates.get zai.toNat).High))))
 (ys=[]))
theorem znI (l : Nat) (X0 : List (List PA) → Bool → St → Prop) (ys : List (List PA)) (a : list) (zai : Int) :
  vcY Try.prog zuz zb0 l (cd (cdF Try.f115 [1,0]) [0]) (zix Try.prog zb0 1 X0 (zcY 0 zkF)) ys false (zeT l a zai) =
  zlg l X0 ys a zai:=by kernel_rfl
theorem zsB (l : Nat) (ys : List (List PA)) (a : list) (zai : Int)
  (h:∀ X0:List (List PA)→Bool→St→Prop,(∀ (ys:List (List PA)) (zai:Int),zlg l X0 ys a zai→X0 ys false (zeT l a zai))→X0 ys false (zeT l a zai)) :
  zgU l ys a zai:=by
  have e:zgU l ys a zai=(∀ X:List (List PA)→Bool→St→Prop,(∀ ys q s,vcY Try.prog zuz zb0 l (cd (cdF Try.f115 [1,0]) [0]) (zix Try.prog zb0 1 X (zcY 0 zkF)) ys q s→X ys q s)→X ys false (zeT l a zai)):=by kernel_rfl
  refine zay e ?_
  intro X hX
  refine h X ?_
  intro ys zai hs
  refine hX _ _ _ ?_
  have e2:=znI l X ys a zai
  rw [e2]
  exact hs
def zlh (l:Nat) (X0:List (List PA)→Bool→St→Prop) (X1:List (List PA)→Bool→St→Prop) (ys:List (List PA)) (a:list) (zaQ:Int) (zaH:(Sl Gate)) (zbu:Int) (zaD:Int) (zaM:Int) (zaU:Int) (zbi:Int):Prop :=
  (zcX (decide (zaD < zbu))
 (((0≤zaD∧zaD < (zaH.len:Int))) ∧
 (zcX (zaM == (zaH.get zaD.toNat).Z)
 (X1 ys false (zeU l a zaQ zaH.len (fun i=>enc_55 (zaH.get i)) zbu (w64 (zaD+(1:Int))) zaM zaU zbi))
 (l=l∧∃ r1,ys=[.agg [.int .i64 ((zkB zaM zaU ((zaH.get zaD.toNat).Z) ((zaH.get zaD.toNat).Low)).slope),.int .i64 ((zkB zaM zaU ((zaH.get zaD.toNat).Z) ((zaH.get zaD.toNat).Low)).start),.int .i64 ((zkB zaM zaU ((zaH.get zaD.toNat).Z) ((zaH.get zaD.toNat).Low)).den)]] :: r1 ∧
 (l=l∧∃ r2,r1=[.agg [.int .i64 ((zkB zaM zaU ((zaH.get zaD.toNat).Z) ((zaH.get zaD.toNat).High)).slope),.int .i64 ((zkB zaM zaU ((zaH.get zaD.toNat).Z) ((zaH.get zaD.toNat).High)).start),.int .i64 ((zkB zaM zaU ((zaH.get zaD.toNat).Z) ((zaH.get zaD.toNat).High)).den)]] :: r2 ∧
 (l=l∧∃ r3,r2=[.agg [.int .i64 ((zkB zaM zbi ((zaH.get zaD.toNat).Z) ((zaH.get zaD.toNat).Low)).slope),.int .i64 ((zkB zaM zbi ((zaH.get zaD.toNat).Z) ((zaH.get zaD.toNat).Low)).start),.int .i64 ((zkB zaM zbi ((zaH.get zaD.toNat).Z) ((zaH.get zaD.toNat).Low)).den)]] :: r3 ∧
 (l=l∧∃ r4,r3=[.agg [.int .i64 ((zkB zaM zbi ((zaH.get zaD.toNat).Z) ((zaH.get zaD.toNat).High)).slope),.int .i64 ((zkB zaM zbi ((zaH.get zaD.toNat).Z) ((zaH.get zaD.toNat).High)).start),.int .i64 ((zkB zaM zbi ((zaH.get zaD.toNat).Z) ((zaH.get zaD.toNat).High)).den)]] :: r4 ∧
 (X1 r4 false (zeU l a zaQ zaH.len (fun i=>enc_55 (zaH.get i)) zbu (w64 (zaD+(1:Int))) zaM zaU zbi))∧True)∧True)∧True)∧True)))
 (X0 ys false (zeT l a (w64 (zaQ+(1:Int))))))
theorem znJ (l : Nat) (X0 : List (List PA) → Bool → St → Prop) (X1 : List (List PA) → Bool → St → Prop) (ys : List (List PA)) (a : list) (zaQ : Int) (zaH : (Sl Gate)) (zbu : Int) (zaD : Int) (zaM : Int) (zaU : Int) (zbi : Int) :
  vcY Try.prog zuz zb0 l (cd (cdF Try.f115 [1,0,0,1,1,0,0,1,1,0]) [0]) (zix Try.prog zb0 4 X1 (zcY 2 (zcY 1 (zGV (zGX Try.prog zb0 17 (vcY Try.prog zuz zb0 l (cdF Try.f115 [1,0,0,1,1,1]) (zix Try.prog zb0 1 X0 (zcY 0 zkF)))) (zix Try.prog zb0 1 X0 (zcY 0 zkF)))))) ys false (zeU l a zaQ zaH.len (fun i=>enc_55 (zaH.get i)) zbu zaD zaM zaU zbi) =
  zlh l  X0 X1 ys a zaQ zaH zbu zaD zaM zaU zbi:=by kernel_rfl
theorem zsC (l : Nat) (X0 : List (List PA) → Bool → St → Prop) (ys : List (List PA)) (a : list) (zaQ : Int) (zeV : Nat) (zb3 : Nat → List PV) (zbu : Int) (zaD : Int) (zaM : Int) (zaU : Int) (zbi : Int)
  (h:∀ X1:List (List PA)→Bool→St→Prop,(∀ (ys:List (List PA)) (zaQ:Int) (zaH:(Sl Gate)) (zbu:Int) (zaD:Int) (zaM:Int) (zaU:Int) (zbi:Int),zlh l  X0 X1 ys a zaQ zaH zbu zaD zaM zaU zbi→X1 ys false (zeU l a zaQ zaH.len (fun i=>enc_55 (zaH.get i)) zbu zaD zaM zaU zbi))→X1 ys false (zeU l a zaQ zeV zb3 zbu zaD zaM zaU zbi)) :
  zgV l  X0 ys a zaQ zeV zb3 zbu zaD zaM zaU zbi:=by
  have e:zgV l  X0 ys a zaQ zeV zb3 zbu zaD zaM zaU zbi=(∀ X:List (List PA)→Bool→St→Prop,(∀ ys q s,vcY Try.prog zuz zb0 l (cd (cdF Try.f115 [1,0,0,1,1,0,0,1,1,0]) [0]) (zix Try.prog zb0 4 X (zcY 2 (zcY 1 (zGV (zGX Try.prog zb0 17 (vcY Try.prog zuz zb0 l (cdF Try.f115 [1,0,0,1,1,1]) (zix Try.prog zb0 1 X0 (zcY 0 zkF)))) (zix Try.prog zb0 1 X0 (zcY 0 zkF)))))) ys q s→X ys q s)→X ys false (zeU l a zaQ zeV zb3 zbu zaD zaM zaU zbi)):=by kernel_rfl
  refine zay e ?_
  intro X hX
  refine h X ?_
  intro ys zaQ zaH zbu zaD zaM zaU zbi hs
  refine hX _ _ _ ?_
  have e2:=znJ l  X0 X ys a zaQ zaH zbu zaD zaM zaU zbi
  rw [e2]
  exact hs
attribute [irreducible] zgU zgV
def zes (S0:Int→List straight) (a:list) (S1:Int→(Sl Gate)→Int→Int→Int→Int→Int→List straight) (zaQ:Int) (zaH:(Sl Gate)) (zbu:Int) (zaD:Int) (zaM:Int) (zaU:Int) (zbi:Int):List straight :=
  (cond (decide (zaD < zbu))
 (cond (zaM == (zaH.get zaD.toNat).Z)
 (S1 zaQ zaH zbu (w64 (zaD+(1:Int))) zaM zaU zbi)
 ((zkB zaM zaU ((zaH.get zaD.toNat).Z) ((zaH.get zaD.toNat).Low)) :: ((zkB zaM zaU ((zaH.get zaD.toNat).Z) ((zaH.get zaD.toNat).High)) :: ((zkB zaM zbi ((zaH.get zaD.toNat).Z) ((zaH.get zaD.toNat).Low)) :: ((zkB zaM zbi ((zaH.get zaD.toNat).Z) ((zaH.get zaD.toNat).High)) :: (S1 zaQ zaH zbu (w64 (zaD+(1:Int))) zaM zaU zbi))))))
 (S0 (w64 (zaQ+(1:Int)))))
def zet (P0:Int→Bool) (a:list) (P1:Int→(Sl Gate)→Int→Int→Int→Int→Int→Bool) (zaQ:Int) (zaH:(Sl Gate)) (zbu:Int) (zaD:Int) (zaM:Int) (zaU:Int) (zbi:Int):Bool :=
  (cond (decide (zaD < zbu))
 (decide ((0≤zaD∧zaD < (zaH.len:Int))) &&
 (cond (zaM == (zaH.get zaD.toNat).Z)
 (P1 zaQ zaH zbu (w64 (zaD+(1:Int))) zaM zaU zbi)
 (P1 zaQ zaH zbu (w64 (zaD+(1:Int))) zaM zaU zbi)))
 (P0 (w64 (zaQ+(1:Int)))))
def zdj (S0 : Int → List straight) (a : list) : Nat → Int → (Sl Gate) → Int → Int → Int → Int → Int → List straight
  | 0=>fun _ _ _ _ _ _ _=>[]
  | k+1=>zes S0 a (zdj S0 a k)
def zdk (P0 : Int → Bool) (a : list) : Nat → Int → (Sl Gate) → Int → Int → Int → Int → Int → Bool
  | 0=>fun _ _ _ _ _ _ _=>false
  | k+1=>zet P0 a (zdk P0 a k)
def zlY (S0:Int→List straight) (a:list) (zaQ:Int) (zaH:(Sl Gate)) (zbu:Int) (zaD:Int) (zaM:Int) (zaU:Int) (zbi:Int):List straight:=zdj S0 a Fuel zaQ zaH zbu zaD zaM zaU zbi
def zlZ (P0:Int→Bool) (a:list) (zaQ:Int) (zaH:(Sl Gate)) (zbu:Int) (zaD:Int) (zaM:Int) (zaU:Int) (zbi:Int):Bool:=zdk P0 a Fuel zaQ zaH zbu zaD zaM zaU zbi
theorem zAb (l : Nat) (a : list)
  (X0:List (List PA)→Bool→St→Prop) (P0:Int→Bool) (S0:Int→List straight)
  (hX0:∀ (ys:List (List PA)) (zai:Int),P0 zai=true→ys=(S0 zai).map (fun y=>[.agg (zah y)])→X0 ys false (zeT l a zai)) (ys:List (List PA)) (zaQ:Int) (zaH:(Sl Gate)) (zbu:Int) (zaD:Int) (zaM:Int) (zaU:Int) (zbi:Int) (zb3:Nat→List PV) (zjM:zb3=fun i=>enc_55 (zaH.get i)) (hs:zlZ P0 a zaQ zaH zbu zaD zaM zaU zbi=true) (hk:ys=(zlY S0 a zaQ zaH zbu zaD zaM zaU zbi).map (fun y=>[.agg (zah y)])):zgV l  X0 ys a zaQ zaH.len zb3 zbu zaD zaM zaU zbi:=by
  refine zsC l  X0 ys a zaQ zaH.len zb3 zbu zaD zaM zaU zbi ?_
  intro X1 hstep
  have key:∀ (k:Nat) (ys:List (List PA)) (zaQ:Int) (zaH:(Sl Gate)) (zbu:Int) (zaD:Int) (zaM:Int) (zaU:Int) (zbi:Int) (zb3:Nat→List PV) (zjM:zb3=fun i=>enc_55 (zaH.get i)),zdk P0 a k zaQ zaH zbu zaD zaM zaU zbi=true→ys=(zdj S0 a k zaQ zaH zbu zaD zaM zaU zbi).map (fun y=>[.agg (zah y)])→X1 ys false (zeU l a zaQ zaH.len zb3 zbu zaD zaM zaU zbi):=by
    intro k
    induction k with
    | zero=>intro ys zaQ zaH zbu zaD zaM zaU zbi zb3 zjM hs;exact absurd hs Bool.false_ne_true
    | succ k ih =>
      intro ys zaQ zaH zbu zaD zaM zaU zbi zb3 zjM hs hk
      subst zjM
      refine hstep ys zaQ zaH zbu zaD zaM zaU zbi ?_
      have hs:zet P0 a (zdk P0 a k) zaQ zaH zbu zaD zaM zaU zbi=true:=hs
      have hk:ys=(zes S0 a (zdj S0 a k) zaQ zaH zbu zaD zaM zaU zbi).map (fun y=>[.agg (zah y)]):=hk
      unfold zet at hs
      unfold zes at hk
      generalize zdj S0 a k=S1 at hk ih
      generalize zdk P0 a k=P1 at hs ih
      have hX1:=ih
      exact (zlU hs hk
 (fun hs hk => (zav hs fun hc hs => ⟨hc, (zlU hs hk
 (fun hs hk=>(hX1 _ zaQ zaH zbu (w64 (zaD+(1:Int))) zaM zaU zbi (fun i=>enc_55 (zaH.get i)) rfl hs hk))
 (fun hs hk=>(itY hk rfl (fun _ hk=>(itY hk rfl (fun _ hk=>(itY hk rfl (fun _ hk=>(itY hk rfl (fun _ hk=>(hX1 _ zaQ zaH zbu (w64 (zaD+(1:Int))) zaM zaU zbi (fun i=>enc_55 (zaH.get i)) rfl hs hk)))))))))))⟩))
 (fun hs hk=>(hX0 _ (w64 (zaQ+(1:Int))) hs hk)))
  exact key _ _ zaQ zaH zbu zaD zaM zaU zbi zb3 zjM hs hk
def zeu (a:list) (S0:Int→List straight) (zai:Int):List straight :=
  (cond (decide (zai < (a.Gates.len : Int)))
 (zlY S0 a zai (⟨((a.Gates.len:Int) - (w64 (zai+(1:Int)))).toNat,(fun i=>a.Gates.get (i+((w64 (zai+(1:Int))).toNat)))⟩:Sl Gate) (((a.Gates.len:Int) - (w64 (zai+(1:Int)))).toNat:Int) (0:Int) ((a.Gates.get zai.toNat).Z) ((a.Gates.get zai.toNat).Low) ((a.Gates.get zai.toNat).High))
 [])
def zev (a:list) (P0:Int→Bool) (zai:Int):Bool :=
  (cond (decide (zai < (a.Gates.len : Int)))
 (decide ((0≤zai∧zai < (a.Gates.len:Int))) &&
 (decide ((0≤(w64 (zai+(1:Int)))∧(w64 (zai+(1:Int)))≤(a.Gates.len:Int)∧(a.Gates.len:Int)≤(a.Gates.len:Int))) &&
 (zlZ P0 a zai (⟨((a.Gates.len:Int) - (w64 (zai+(1:Int)))).toNat,(fun i=>a.Gates.get (i+((w64 (zai+(1:Int))).toNat)))⟩:Sl Gate) (((a.Gates.len:Int) - (w64 (zai+(1:Int)))).toNat:Int) (0:Int) ((a.Gates.get zai.toNat).Z) ((a.Gates.get zai.toNat).Low) ((a.Gates.get zai.toNat).High))))
 true)
def zdl (a : list) : Nat → Int → List straight
  | 0=>fun _=>[]
  | k+1=>zeu a (zdl a k)
def zdm (a : list) : Nat → Int → Bool
  | 0=>fun _=>false
  | k+1=>zev a (zdm a k)
def zrj (a:list) (zai:Int):List straight:=zdl a Fuel zai
def zrk (a:list) (zai:Int):Bool:=zdm a Fuel zai
theorem zAc (l:Nat) (a:list) (ys:List (List PA)) (zai:Int) (hs:zrk a zai=true) (hk:ys=(zrj a zai).map (fun y=>[.agg (zah y)])):zgU l ys a zai:=by
  refine zsB l ys a zai ?_
  intro X0 hstep
  have key:∀ (k:Nat) (ys:List (List PA)) (zai:Int),zdm a k zai=true→ys=(zdl a k zai).map (fun y=>[.agg (zah y)])→X0 ys false (zeT l a zai):=by
    intro k
    induction k with
    | zero=>intro ys zai hs;exact absurd hs Bool.false_ne_true
    | succ k ih =>
      intro ys zai hs hk
      refine hstep ys zai ?_
      have hs:zev a (zdm a k) zai=true:=hs
      have hk:ys=(zeu a (zdl a k) zai).map (fun y=>[.agg (zah y)]):=hk
      unfold zev at hs
      unfold zeu at hk
      generalize zdl a k=S0 at hk ih
      generalize zdm a k=P0 at hs ih
      have hX0:=ih
      exact (zlU hs hk
 (fun hs hk=>(zav hs fun hc hs=>⟨hc,(zav hs fun hc hs=>⟨hc,(zAb l a X0 P0 S0 hX0 _ zai (⟨((a.Gates.len:Int) - (w64 (zai+(1:Int)))).toNat,(fun i=>a.Gates.get (i+((w64 (zai+(1:Int))).toNat)))⟩:Sl Gate) (((a.Gates.len:Int) - (w64 (zai+(1:Int)))).toNat:Int) (0:Int) ((a.Gates.get zai.toNat).Z) ((a.Gates.get zai.toNat).Low) ((a.Gates.get zai.toNat).High) (slG (fun i=>enc_55 (a.Gates.get i)) ((w64 (zai+(1:Int))).toNat)) rfl hs hk)⟩)⟩))
 (fun hs hk=>hk))
  exact key _ _ zai hs hk
def zBC (a:list):List straight :=
  (zrj a (0:Int))
def zDn (a:list):Bool :=
  (zrk a (0:Int))
theorem zNC (l:Nat) (a:list) (ys:List (List PA)) (hs:zDn a=true) (hk:ys=(zBC a).map (fun y=>[.agg (zah y)])):vcIter Try.prog zuz zb0 115 l [.one (.fp (zb2 a) 0)] ys:=by
  refine zay (zAa l a ys) ?_
  unfold zDn at hs
  unfold zBC at hk
  exact (zAc l a _ (0:Int) hs hk)
def zDo : List PA → Option (Prop × List (List PA))
  | [.one (.fp [.sl a_Gates_n a_Gates_s a_Gates_g] 0)]=>some (IsE enc_55 3 a_Gates_s a_Gates_g∧zDn (⟨(⟨a_Gates_n,zad a_Gates_g⟩:(Sl Gate))⟩:list)=true,(zBC (⟨(⟨a_Gates_n,zad a_Gates_g⟩:(Sl Gate))⟩:list)).map fun y=>[.agg (zah y)])
  | _=>none
theorem zDp:zaf Try.prog 115:=⟨_,rfl,rfl,by kernel_rfl⟩
theorem zKZ:zBc Try.prog 115 zDo:=zHi zHT zDp fun l caps safe ys h hs=>by
  unfold zDo at h
  split at h
  · rename_i a_Gates_n a_Gates_s a_Gates_g
    cases h
    obtain ⟨⟨rfl,a_Gates_f,rfl⟩,hs⟩:=hs
    try rw [zac a_Gates_f] at hs
    try rw [zac a_Gates_f]
    exact ⟨fun _ _=>[],fun _=>false,zb0,zNC l (⟨(⟨a_Gates_n,a_Gates_f⟩:(Sl Gate))⟩:list) _ hs rfl⟩
  · cases h
abbrev T65:Tabs:=(((((Tabs.nil.addF 67 zoV).addF 79 zz5).addF 96 zDj).addF 97 zDl).addI 115 zDo)
theorem zK1:TabsOk Try.prog T65:=(((((TabsOk.nil.addF zHP).addF zMn).addF zNy).addF zNz).addI zKZ)
abbrev G65:Ctrs:=csm T65 (fun _ _=>[]) (fun l=>Nat.beq l 14)
def zgW:Ann:=⟨39,[(0,⟨[0,2],[2],[],[],[],[],[]⟩),(1,⟨[2,3],[2,3],[],[],[],[],[]⟩),(2,⟨[2,3,12],[2,3],[],[],[],[],[]⟩),(3,⟨[2],[2],[],[],[],[],[]⟩),(4,⟨[2,3,4],[2,3,4,14],[],[],[],[],[]⟩),(5,⟨[2,3,4,17],[2,3,4,14],[],[],[],[],[]⟩),(6,⟨[2,3,4,5,17],[2,3,4,5,14,36],[],[],[],[],[]⟩),(7,⟨[2,3,4,5,6,17],[2,3,4,5,6,14,36],[],[],[],[],[]⟩),(8,⟨[2,3,4,5,6,17,29],[2,3,4,5,6,14,36],[],[],[],[],[]⟩),(9,⟨[2,3,4,5,17],[2,3,4,5,14,36],[],[],[],[],[]⟩),(10,⟨[2,3,4,17],[2,3,4,14,36],[],[],[],[],[]⟩),(11,⟨[2],[2,36],[],[],[],[],[]⟩)],
 [(6,⟨[2,3,4,17],[2,3,4,14,36],[],[(3,1,36,118,fun _=>zah default)],[],[],[]⟩)],
 [(3,⟨[2,3,12],[2,3],[],[],[],[],[]⟩),(4,⟨[2,3],[2,3],[],[],[],[],[]⟩)],
 [],[]⟩
def zHU (zaa:(Sl Gate)) (zaJ:Bool):St:=⟨[(2,.one (.c (.ptr 2 0))),(3,.one (.c (.ptr 3 0))),(12,.one (.c (.p (.bool zaJ))))],[(2,.box 104 [.p (.nils),.p (.nils)]),(3,.box 104 [.p (.sl zaa.len 3 (fun i=>enc_55 (zaa.get i))),.p (.nils)])],[]⟩
def zl0 (K:List PA→Prop) (zaa:(Sl Gate)) (zaJ:Bool):Prop:=vc Try.prog G65 zgW (cdF Try.f65 [1,1,0,1]) (sqK Try.prog G65 zgW (cdF Try.f65 [1,1,1]) (zco Try.prog Try.f65 K)) (zHU zaa zaJ)
def zHV (zaa:(Sl Gate)):St:=⟨[(2,.one (.c (.ptr 2 0))),(3,.one (.c (.ptr 3 0)))],[(2,.box 104 [.p (.nils),.p (.nils)]),(3,.box 104 [.p (.sl zaa.len 3 (fun i=>enc_55 (zaa.get i))),.p (.nils)])],[]⟩
def zl1 (K:List PA→Prop) (zaa:(Sl Gate)):Prop:=vc Try.prog G65 zgW (cdF Try.f65 [1,1,1]) (zco Try.prog Try.f65 K) (zHV zaa)
def zeW (zaa:(Sl Gate)) (zeX:Nat) (zb4:Nat→List PV) (zas:Nat) (zak:(List Int→Option (List Int))):St:=⟨[(2,.one (.c (.ptr 2 0))),(3,.one (.c (.ptr 3 0))),(4,.one (.c (.ptr 4 0))),(17,.one (.c (.p (.fn 115 [] [.fp (zb2 (⟨zaa⟩:list)) 0]))))],[(2,.box 104 [.p (.nils),.p (.nils)]),(3,.box 104 [.p (.sl zaa.len 3 (fun i=>enc_55 (zaa.get i))),.vec 36]),(4,.box 136 [.mo 14]),(14,.mo 37 4 (true,4,false,[none]) zas zak),(36,.vec 118 3 24 zeX zb4)],[]⟩
def zjN (K:List PA→Prop) (zaa:(Sl Gate)) (zeX:Nat) (zb4:Nat→List PV) (zas:Nat) (zak:(List Int→Option (List Int))):Prop:=vc Try.prog G65 zgW (cdF Try.f65 [1,1,1,1,0,1,0]) (zaY 0 (sqK Try.prog G65 zgW (cdF Try.f65 [1,1,1,1,1]) (zco Try.prog Try.f65 K))) (zeW zaa zeX zb4 zas zak)
theorem zDq (zaa : (Sl Gate)) (K : List PA → Prop) :
  vcFun Try.prog G65 zgW 65 [.one (.sl zaa.len 3 (fun i=>enc_55 (zaa.get i)))] K =
  ((IsE enc_55 3 3 (fun i=>enc_55 (zaa.get i))∧(p67 (⟨zaa⟩:list)=true)) ∧
 (zl0 K zaa (s67 (⟨zaa⟩:list)))):=by kernel_rfl
theorem zDr (K : List PA → Prop) (zaa : (Sl Gate)) (zaJ : Bool) :
  zl0 K zaa zaJ =
  (zcX zaJ
 (K [.agg [.sl zaa.len 3 (fun i=>enc_55 (zaa.get i)),.nils]])
 (zl1 K zaa)):=by kernel_rfl
theorem zDs (K : List PA → Prop) (zaa : (Sl Gate)) :
  zl1 K zaa =
  ((IsE enc_55 3 3 (fun i=>enc_55 (zaa.get i))) ∧
 (zjN K zaa 0 (fun i=>zah ((fun _=>default) i)) 0 (fun _=>none))):=by kernel_rfl
def znK (K:List PA→Prop) (zaa:(Sl Gate)) (zaB:(Sl straight)) (zas:Nat) (zak:(List Int→Option (List Int))):Prop :=
  (K [.agg [.sl zaa.len 3 (fun i=>enc_55 (zaa.get i)),.sl zaB.len 3 (fun i=>zah (zaB.get i))]])
def znL (K:List PA→Prop) (X2:List (List PA)→St→Prop) (y2:straight) (rest2:List (List PA)) (zaa:(Sl Gate)) (zaB:(Sl straight)) (zas:Nat) (zak:(List Int→Option (List Int))):Prop :=
  (((p79 y2=true)) ∧
 (zcX (!((zdM (zak [(s79 y2).Slope.Num, (s79 y2).Slope.Den, (s79 y2).Start.Num, (s79 y2).Start.Den]) 0) != 0))
 ((IsE enc_55 3 3 (fun i=>enc_55 (zaa.get i))∧IsE zah 3 3 (fun i=>zah (zaB.get i))∧(p97 (⟨(⟨zaa⟩:list),zaB⟩:set) y2=true)) ∧
 (zcX (s97 (⟨(⟨zaa⟩ : list), zaB⟩ : set) y2)
 ((((zaB.len+1) * 24≤140737488355328∧zaB.len+1≤9223372036854775807)) ∧
 (X2 rest2 (zeW zaa (zaB.len+1) (appG zaB.len (fun i=>zah (zaB.get i)) (fun _=>(zah y2))) (addN (zak [(s79 y2).Slope.Num,(s79 y2).Slope.Den,(s79 y2).Start.Num,(s79 y2).Start.Den]) zas) (zkO [(s79 y2).Slope.Num,(s79 y2).Slope.Den,(s79 y2).Start.Num,(s79 y2).Start.Den] [1] zak))))
 (X2 rest2 (zeW zaa zaB.len (fun i=>zah (zaB.get i)) zas zak))))
 (X2 rest2 (zeW zaa zaB.len (fun i=>zah (zaB.get i)) zas zak))))
theorem zoW (K:List PA→Prop) (zaa:(Sl Gate)) (zaB:(Sl straight)) (zas:Nat) (zak:(List Int→Option (List Int))):(zaY 0 (sqK Try.prog G65 zgW (cdF Try.f65 [1,1,1,1,1]) (zco Try.prog Try.f65 K))) .normal (zeW zaa zaB.len (fun i=>zah (zaB.get i)) zas zak)=znK K zaa zaB zas zak:=by kernel_rfl
theorem zoX (K : List PA → Prop) (X2 : List (List PA) → St → Prop) (y2 : straight) (rest2 : List (List PA)) (zaa : (Sl Gate)) (zaB : (Sl straight)) (zas : Nat) (zak : (List Int → Option (List Int))) :
  zMk Try.prog G65 zgW 6 [18] (cd (cdF Try.f65 [1,1,1,1,0,1,0]) [0]) (cd (cdF Try.f65 [1,1,1,1,0,1,0]) [1]) X2 (zaY 0 (sqK Try.prog G65 zgW (cdF Try.f65 [1,1,1,1,1]) (zco Try.prog Try.f65 K))) [.agg (zah y2)] rest2 (zeW zaa zaB.len (fun i=>zah (zaB.get i)) zas zak)=znL K X2 y2 rest2 zaa zaB zas zak:=by kernel_rfl
theorem zuA (K : List PA → Prop) (zaa : (Sl Gate)) (zeX : Nat) (zb4 : Nat → List PV) (zas : Nat) (zak : (List Int → Option (List Int)))
  (hsafe:IsE enc_55 3 3 (fun i=>enc_55 ((⟨zaa⟩:list).Gates.get i))∧(zDn (⟨zaa⟩:list)=true)) (h:∀ X2:List (List PA)→St→Prop,(∀ (zaB:(Sl straight)) (zas:Nat) (zak:(List Int→Option (List Int))),znK K zaa zaB zas zak→X2 [] (zeW zaa zaB.len (fun i=>zah (zaB.get i)) zas zak))→(∀ (y:straight) (rest:List (List PA)) (zaB:(Sl straight)) (zas:Nat) (zak:(List Int→Option (List Int))),znL K X2 y rest zaa zaB zas zak→X2 ([.agg (zah y)] :: rest) (zeW zaa zaB.len (fun i=>zah (zaB.get i)) zas zak))→X2 ((zBC (⟨zaa⟩:list)).map fun y=>[.agg (zah y)]) (zeW zaa zeX zb4 zas zak)) :
  zjN K zaa zeX zb4 zas zak:=by
  have e:zjN K zaa zeX zb4 zas zak=((IsE enc_55 3 3 (fun i=>enc_55 ((⟨zaa⟩:list).Gates.get i))∧(zDn (⟨zaa⟩:list)=true))∧∀ X:List (List PA)→St→Prop,(∀ s,(zaY 0 (sqK Try.prog G65 zgW (cdF Try.f65 [1,1,1,1,1]) (zco Try.prog Try.f65 K))) .normal s→X [] s)→(∀ y rest s,zMk Try.prog G65 zgW 6 [18] (cd (cdF Try.f65 [1,1,1,1,0,1,0]) [0]) (cd (cdF Try.f65 [1,1,1,1,0,1,0]) [1]) X (zaY 0 (sqK Try.prog G65 zgW (cdF Try.f65 [1,1,1,1,1]) (zco Try.prog Try.f65 K))) y rest s→X (y :: rest) s)→X ((zBC (⟨zaa⟩:list)).map fun y=>[.agg (zah y)]) (zeW zaa zeX zb4 zas zak)):=by kernel_rfl
  refine zay e ⟨hsafe,?_⟩
  intro X h0 h1
  refine h X (fun zaB zas zak hs=>h0 _ ?_) (fun y rest zaB zas zak hs=>h1 _ rest _ ?_)
  · rw [zoW K zaa zaB zas zak];exact hs
  · have e2 := zoX K X y rest zaa zaB zas zak
    rw [e2];exact hs
abbrev e65 (r:set):List PA:=[.agg [.sl r.list.Gates.len 3 (fun i=>enc_55 (r.list.Gates.get i)),.sl r.corners.len 3 (fun i=>zah (r.corners.get i))]]
attribute [irreducible] zl0 zl1 zjN
def zoY (zaa:(Sl Gate)) (zaB:(Sl straight)) (zas:Nat) (zak:(List Int→Option (List Int))):set :=
  (⟨(⟨zaa⟩:list),zaB⟩:set)
def zoZ (zaa:(Sl Gate)) (zaB:(Sl straight)) (zas:Nat) (zak:(List Int→Option (List Int))):Bool :=
  true
def zjO (zaa:(Sl Gate)) (y2:straight) (S2:(Sl straight)→Nat→(List Int→Option (List Int))→set) (zaB:(Sl straight)) (zas:Nat) (zak:(List Int→Option (List Int))):set :=
  (cond (!((zdM (zak [(s79 y2).Slope.Num, (s79 y2).Slope.Den, (s79 y2).Start.Num, (s79 y2).Start.Den]) 0) != 0))
 (cond (s97 (⟨(⟨zaa⟩ : list), zaB⟩ : set) y2)
 (S2 (⟨(zaB.len+1),(zdA zaB.len zaB.get (fun _=>y2))⟩:Sl straight) (addN (zak [(s79 y2).Slope.Num,(s79 y2).Slope.Den,(s79 y2).Start.Num,(s79 y2).Start.Den]) zas) (zkO [(s79 y2).Slope.Num,(s79 y2).Slope.Den,(s79 y2).Start.Num,(s79 y2).Start.Den] [1] zak))
 (S2 zaB zas zak))
 (S2 zaB zas zak))
def zjP (zaa:(Sl Gate)) (y2:straight) (P2:(Sl straight)→Nat→(List Int→Option (List Int))→Bool) (zaB:(Sl straight)) (zas:Nat) (zak:(List Int→Option (List Int))):Bool :=
  (decide ((p79 y2=true)) &&
 (cond (!((zdM (zak [(s79 y2).Slope.Num, (s79 y2).Slope.Den, (s79 y2).Start.Num, (s79 y2).Start.Den]) 0) != 0))
 (decide ((p97 (⟨(⟨zaa⟩:list),zaB⟩:set) y2=true)) &&
 (cond (s97 (⟨(⟨zaa⟩ : list), zaB⟩ : set) y2)
 (decide (((zaB.len+1) * 24≤140737488355328∧zaB.len+1≤9223372036854775807)) &&
 (P2 (⟨(zaB.len+1),(zdA zaB.len zaB.get (fun _=>y2))⟩:Sl straight) (addN (zak [(s79 y2).Slope.Num,(s79 y2).Slope.Den,(s79 y2).Start.Num,(s79 y2).Start.Den]) zas) (zkO [(s79 y2).Slope.Num,(s79 y2).Slope.Den,(s79 y2).Start.Num,(s79 y2).Start.Den] [1] zak)))
 (P2 zaB zas zak)))
 (P2 zaB zas zak)))
def zeY (zaa : (Sl Gate)) : List straight → (Sl straight) → Nat → (List Int → Option (List Int)) → set
  | []=>zoY zaa
  | y :: r=>zjO zaa y (zeY zaa r)
def zeZ (zaa : (Sl Gate)) : List straight → (Sl straight) → Nat → (List Int → Option (List Int)) → Bool
  | []=>zoZ zaa
  | y :: r=>zjP zaa y (zeZ zaa r)
def zo0 (zaa:(Sl Gate)) (zaB:(Sl straight)) (zas:Nat) (zak:(List Int→Option (List Int))):set:=zeY zaa (zBC (⟨zaa⟩:list)) zaB zas zak
def zl2 (zaa:(Sl Gate)) (zaB:(Sl straight)) (zas:Nat) (zak:(List Int→Option (List Int))):Bool:=decide ((zDn (⟨zaa⟩:list)=true)) && zeZ zaa (zBC (⟨zaa⟩:list)) zaB zas zak
theorem zDt (K:List PA→Prop) (zaa:(Sl Gate)) (zaB:(Sl straight)) (zas:Nat) (zak:(List Int→Option (List Int))) (zb4:Nat→List PV) (zhs:zb4=fun i=>zah (zaB.get i)) (hs:zl2 zaa zaB zas zak=true) (hk:K (e65 (zo0 zaa zaB zas zak))):zjN (Wk K) zaa zaB.len zb4 zas zak:=by
  unfold zl2 at hs
  rw [Bool.and_eq_true] at hs
  obtain ⟨hsf,hs⟩:=hs
  have hc:=of_decide_eq_true hsf
  refine zuA (Wk K) zaa zaB.len zb4 zas zak ⟨isE,hc⟩ ?_
  intro X2 hexit hstep
  have key:∀ (l:List straight) (zaB:(Sl straight)) (zas:Nat) (zak:(List Int→Option (List Int))) (zb4:Nat→List PV) (zhs:zb4=fun i=>zah (zaB.get i)),zeZ zaa l zaB zas zak=true→K (e65 (zeY zaa l zaB zas zak))→X2 (l.map fun y=>[.agg (zah y)]) (zeW zaa zaB.len zb4 zas zak):=by
    intro l
    induction l with
    | nil =>
      intro zaB zas zak zb4 zhs hs hk
      subst zhs
      refine hexit zaB zas zak ?_
      have hs:zoZ zaa zaB zas zak=true:=hs
      have hk:K (e65 (zoY zaa zaB zas zak)):=hk
      unfold zoZ at hs
      unfold zoY at hk
      exact (zd4 hk)
    | cons y2 l ih =>
      intro zaB zas zak zb4 zhs hs hk
      subst zhs
      refine hstep y2 _ zaB zas zak ?_
      have hs:zjP zaa y2 (zeZ zaa l) zaB zas zak=true:=hs
      have hk:K (e65 (zjO zaa y2 (zeY zaa l) zaB zas zak)):=hk
      unfold zjP at hs
      unfold zjO at hk
      generalize zeY zaa l=S2 at hk ih
      generalize zeZ zaa l=P2 at hs ih
      have hX2:=ih
      exact (zav hs fun hc hs => ⟨hc, (zch (K := fun r => K (e65 r))
 (fun hs hk => (zav hs fun hc hs => ⟨⟨isE, isE, hc⟩, (zch (K := fun r => K (e65 r))
 (fun hs hk=>(zav hs fun hc hs=>⟨hc,(hX2 (⟨(zaB.len+1),(zdA zaB.len zaB.get (fun _=>y2))⟩:Sl straight) (addN (zak [(s79 y2).Slope.Num,(s79 y2).Slope.Den,(s79 y2).Start.Num,(s79 y2).Start.Den]) zas) (zkO [(s79 y2).Slope.Num,(s79 y2).Slope.Den,(s79 y2).Start.Num,(s79 y2).Start.Den] [1] zak) (appG zaB.len (fun i=>zah (zaB.get i)) (fun _=>(zah y2))) (zeH (enc:=zah) (f:=zaB.get) (h:=(fun _=>y2)) rfl rfl) hs hk)⟩))
 (fun hs hk=>(hX2 zaB zas zak (fun i=>zah (zaB.get i)) rfl hs hk)) hs hk)⟩))
 (fun hs hk=>(hX2 zaB zas zak (fun i=>zah (zaB.get i)) rfl hs hk)) hs hk)⟩)
  exact key _ zaB zas zak zb4 zhs hs hk
def zl3 (zaa:(Sl Gate)):set :=
  (zo0 zaa (⟨0,(fun _=>default)⟩:Sl straight) 0 (fun _=>none))
def zl4 (zaa:(Sl Gate)):Bool :=
  (zl2 zaa (⟨0,(fun _=>default)⟩:Sl straight) 0 (fun _=>none))
theorem zDu (K:List PA→Prop) (zaa:(Sl Gate)) (hs:zl4 zaa=true) (hk:K (e65 (zl3 zaa))):zl1 (Wk K) zaa:=by
  refine zay (zDs (Wk K) zaa) ?_
  unfold zl4 at hs
  unfold zl3 at hk
  exact ⟨isE,(zDt K zaa (⟨0,(fun _=>default)⟩:Sl straight) 0 (fun _=>none) (fun i=>zah ((fun _=>default) i)) rfl hs hk)⟩
def zl5 (zaa:(Sl Gate)) (zaJ:Bool):set :=
  (cond zaJ
 (⟨(⟨zaa⟩:list),(⟨0,fun _=>default⟩:(Sl straight))⟩:set)
 (zl3 zaa))
def zl6 (zaa:(Sl Gate)) (zaJ:Bool):Bool :=
  (cond zaJ
 true
 (zl4 zaa))
theorem zDv (K:List PA→Prop) (zaa:(Sl Gate)) (zaJ:Bool) (hs:zl6 zaa zaJ=true) (hk:K (e65 (zl5 zaa zaJ))):zl0 (Wk K) zaa zaJ:=by
  refine zay (zDr (Wk K) zaa zaJ) ?_
  unfold zl6 at hs
  unfold zl5 at hk
  exact (zch (K := fun r => K (e65 r))
 (fun hs hk=>(wk hk (zc4 (.agg (zc4 (.rfl _) (zc4 (.nil _ _) zhk))) zhk)))
 (fun hs hk=>(zDu K zaa hs hk)) hs hk)
def s65 (zaa:(Sl Gate)):set :=
  (zl5 zaa (s67 (⟨zaa⟩:list)))
def p65 (zaa:(Sl Gate)):Bool :=
  (decide ((p67 (⟨zaa⟩:list)=true)) &&
 (zl6 zaa (s67 (⟨zaa⟩:list))))
theorem q65 (zaa:(Sl Gate)) (K:List PA→Prop) (hs:p65 zaa=true) (hk:K (e65 (s65 zaa))):vcFun Try.prog G65 zgW 65 [.one (.sl zaa.len 3 (fun i=>enc_55 (zaa.get i)))] (Wk K):=by
  refine zay (zDq zaa (Wk K)) ?_
  unfold p65 at hs
  unfold s65 at hk
  exact (zav hs fun hc hs=>⟨⟨isE,hc⟩,(zDv K zaa (s67 (⟨zaa⟩:list)) hs hk)⟩)
def zuB : List PA → COut
  | [.one (.sl a0_n a0_s a0_g)]=>.det (IsE enc_55 3 a0_s a0_g∧p65 (⟨a0_n,zad a0_g⟩:(Sl Gate))=true) [.agg [.sl ((s65 (⟨a0_n,zad a0_g⟩:(Sl Gate))).list.Gates.len) 3 (fun i=>enc_55 ((s65 (⟨a0_n,zad a0_g⟩:(Sl Gate))).list.Gates.get i)),.sl ((s65 (⟨a0_n,zad a0_g⟩:(Sl Gate))).corners.len) 3 (fun i=>zah ((s65 (⟨a0_n,zad a0_g⟩:(Sl Gate))).corners.get i))]]
  | _=>.no
theorem zHW:zaf Try.prog 65:=⟨_,rfl,rfl,by kernel_rfl⟩
theorem zK2:Ok Try.prog 65 zuB:=zhl zK1 zHW fun args K h=>by
  unfold zuB at h
  split at h
  · rename_i a0_n a0_s a0_g
    obtain ⟨⟨⟨rfl,a0_f,rfl⟩,hs⟩,hk⟩:=h
    try rw [zac a0_f] at hs
    try rw [zac a0_f] at hk
    exact ⟨_,zeS zfS _,(fun _ _=>[]),(fun l=>Nat.beq l 14),zgW,q65 (⟨a0_n,a0_f⟩:(Sl Gate)) K hs hk⟩
  · exact h.elim
abbrev T98:Tabs:=Tabs.nil
theorem zK3:TabsOk Try.prog T98:=TabsOk.nil
abbrev G98:Ctrs:=csm T98 (fun _ _=>[]) (fun _=>false)
def zDw:Ann:=⟨38,[(0,zK [1,2] [1,2]),(1,zK [1,2,3] [1,2,3]),(2,zK [2,3,18,19,20] [2,3]),(3,zK [2,3,18,19,20,21] [2,3]),(4,zK [2,3,5,18,19,20] [2,3,5]),(5,zK [2,3,18,19,20] [2,3]),(6,zK [2,3,18,19,20] [2,3]),(7,zK [2] [2])],
 [(3,zK [2,3,18,19,20] [2,3])],
 [],
 [],[]⟩
abbrev R98:=Span
abbrev e98 (r:R98):List PA:=[.agg [.int .i64 r.Low,.int .i64 r.High]]
@[irreducible] def z98:=ptF Try.prog G98 zDw Try.f98
def zBD (l_a0:list) (zcy:Int) (zao:Int) (zaq:Int):St:=⟨[(2,zp 2 0),(3,zp 3 0),(18,zS enc_55 3 l_a0.Gates),(19,zI (l_a0.Gates.len:Int)),(20,zI zcy)],[(2,.box 96 (zm (zBt (⟨(0:Int),(0:Int)⟩:Span)))),(3,.box 96 (zm (zBt (⟨zao,zaq⟩:Span))))],[]⟩
abbrev zHX (K:List PA→Prop) (l_a0:list) (X:St→Prop) (P:Int→Int→Int→Bool) (S:Int→Int→Int→Span):Prop:=∀ ⦃zcy:Int⦄ ⦃zao:Int⦄ ⦃zaq:Int⦄,P zcy zao zaq=true→K (e98 (S zcy zao zaq))→X (zBD l_a0 zcy zao zaq)
section
variable {K:List PA→Prop} {l_a0:list} {zcy:Int} {zao:Int} {zaq:Int} {X0:St→Prop} {P0:Int→Int→Int→Bool} {S0:Int→Int→Int→Span}
def zht (l_a0:list) (S0:Int→Int→Int→Span) (zcy:Int) (zao:Int) (zaq:Int):Span :=
  (cond (decide (zcy < (l_a0.Gates.len : Int)))
 (S0 (w64 (zcy+(1:Int))) (if (l_a0.Gates.get zcy.toNat).Low > zao then (l_a0.Gates.get zcy.toNat).Low else zao) (if (l_a0.Gates.get zcy.toNat).High < zaq then (l_a0.Gates.get zcy.toNat).High else zaq))
 (⟨zao,zaq⟩:Span))
def zhu (l_a0:list) (P0:Int→Int→Int→Bool) (zcy:Int) (zao:Int) (zaq:Int):Bool :=
  (cond (decide (zcy < (l_a0.Gates.len : Int)))
 (decide ((0≤zcy∧zcy < (l_a0.Gates.len:Int))) &&
 (P0 (w64 (zcy+(1:Int))) (if (l_a0.Gates.get zcy.toNat).Low > zao then (l_a0.Gates.get zcy.toNat).Low else zao) (if (l_a0.Gates.get zcy.toNat).High < zaq then (l_a0.Gates.get zcy.toNat).High else zaq)))
 true)
def zhv (l_a0:list):Nat→Int→Int→Int→Span:=lpO (fun _ _ _=>default) (zht l_a0)
def zhw (l_a0:list):Nat→Int→Int→Int→Bool:=lpO (fun _ _ _=>false) (zhu l_a0)
def zuC (l_a0:list) (zcy:Int) (zao:Int) (zaq:Int):Span:=zhv l_a0 Fuel zcy zao zaq
def zuD (l_a0:list) (zcy:Int) (zao:Int) (zaq:Int):Bool:=zhw l_a0 Fuel zcy zao zaq
theorem zDx (hs:zuD l_a0 zcy zao zaq=true) (hk:K (e98 (zuC l_a0 zcy zao zaq))):z98 K [1,1,0,1,0] [] (zBD l_a0 zcy zao zaq) :=
  zl (fun X=>z98 K [1,1,0,1,0,0] [X]) (by kernel_rfl) fun X0 hX =>
  (show ∀ k, zHX K l_a0 X0 (zhw l_a0 k) (zhv l_a0 k) from zeK _ _ (zhu l_a0) (zht l_a0) (zHX K l_a0 X0)
 (by intro _ _ _ hs;exact absurd hs Bool.false_ne_true)
 (by intro P0 S0 hX0 zcy zao zaq hs hk;exact hX _ (zay (by kernel_rfl) (zc hs hk (fun hs hk=>(zav hs fun hc hs=>And.intro hc (hX0 hs hk))) (fun hs hk=>hk))))) _ hs hk
def s98 (l_a0:list):Span :=
  (zuC l_a0 (0:Int) ((l_a0.Gates.get 0).Low) ((l_a0.Gates.get 0).High))
def p98 (l_a0:list):Bool :=
  (decide ((0≤(0:Int)∧(0:Int) < (l_a0.Gates.len:Int))) &&
 (decide ((0≤(0:Int)∧(0:Int) < (l_a0.Gates.len:Int))) &&
 (zuD l_a0 (0:Int) ((l_a0.Gates.get 0).Low) ((l_a0.Gates.get 0).High))))
end
theorem q98 (l_a0:list) (K:List PA→Prop) (hs:p98 l_a0=true) (hk:K (e98 (s98 l_a0))):vcFun Try.prog G98 zDw 98 [.agg (zb2 l_a0)] K :=
  zay (by kernel_rfl) (zav hs fun hc hs=>And.intro hc (zav hs fun hc hs=>And.intro hc (zDx hs hk)))
def zAd : List PA → COut
  | [.agg [.sl a0_Gates_n a0_Gates_s a0_Gates_g]]=>.det (IsE enc_55 3 a0_Gates_s a0_Gates_g∧p98 (⟨(⟨a0_Gates_n,zad a0_Gates_g⟩:(Sl Gate))⟩:list)=true) [.agg [.int .i64 ((s98 (⟨(⟨a0_Gates_n,zad a0_Gates_g⟩:(Sl Gate))⟩:list)).Low),.int .i64 ((s98 (⟨(⟨a0_Gates_n,zad a0_Gates_g⟩:(Sl Gate))⟩:list)).High)]]
  | _=>.no
theorem zHY:zaf Try.prog 98:=⟨_,rfl,rfl,by kernel_rfl⟩
theorem zMw:Ok Try.prog 98 zAd:=zaz zK3 zHY fun args K h=>by
  unfold zAd at h
  split at h
  · rename_i a0_Gates_n a0_Gates_s a0_Gates_g
    obtain ⟨⟨⟨rfl,a0_Gates_f,rfl⟩,hs⟩,hk⟩:=h
    try rw [zac a0_Gates_f] at hs
    try rw [zac a0_Gates_f] at hk
    exact ⟨(fun _ _=>[]),(fun _=>false),zDw,q98 (⟨(⟨a0_Gates_n,a0_Gates_f⟩:(Sl Gate))⟩:list) K hs hk⟩
  · exact h.elim
abbrev T66:Tabs:=((Tabs.nil.addF 67 zoV).addF 98 zAd)
theorem zK4:TabsOk Try.prog T66:=((TabsOk.nil.addF zHP).addF zMw)
abbrev G66:Ctrs:=csm T66 (fun _ _=>[]) (fun _=>false)
def zHZ:Ann:=⟨19,[(0,zK [1] [1]),(1,zK [1,3] [1,3]),(2,zK [1,3,9] [1,3]),(3,zK [2] []),(4,zK [2] [])],
 [],
 [],
 [],[]⟩
abbrev R66:=Bool
abbrev e66 (r:R66):List PA:=[.one (.bool r)]
section
variable {K:List PA→Prop} {s:set}
def s66 (s:set):Bool :=
  (cond (s67 s.list)
 (decide ((s98 s.list).Low≤(s98 s.list).High))
 (decide ((s.corners.len:Int) > (0:Int))))
def p66 (s:set):Bool :=
  (decide ((p98 s.list=true)) &&
 (decide ((p67 s.list=true)) &&
 true))
end
theorem q66 (s:set) (K:List PA→Prop) (hs:p66 s=true) (hk:K (e66 (s66 s))):vcFun Try.prog G66 zHZ 66 [.agg (zaV s)] K :=
  zay (by kernel_rfl) (zav hs fun hc hs=>And.intro (And.intro (zE enc_55 3 s.list.Gates.get) hc) (zav hs fun hc hs=>And.intro (And.intro (zE enc_55 3 s.list.Gates.get) hc) (zt hk (fun hk=>hk) (fun hk=>hk))))
def zuE : List PA → COut
  | [.agg [.sl a0_list_Gates_n a0_list_Gates_s a0_list_Gates_g,.sl a0_corners_n a0_corners_s a0_corners_g]]=>.det (IsE enc_55 3 a0_list_Gates_s a0_list_Gates_g∧IsE zah 3 a0_corners_s a0_corners_g∧p66 (⟨(⟨(⟨a0_list_Gates_n,zad a0_list_Gates_g⟩:(Sl Gate))⟩:list),(⟨a0_corners_n,zaR a0_corners_g⟩:(Sl straight))⟩:set)=true) [.one (.bool (s66 (⟨(⟨(⟨a0_list_Gates_n,zad a0_list_Gates_g⟩:(Sl Gate))⟩:list),(⟨a0_corners_n,zaR a0_corners_g⟩:(Sl straight))⟩:set)))]
  | _=>.no
theorem zH0:zaf Try.prog 66:=⟨_,rfl,rfl,by kernel_rfl⟩
theorem zK5:Ok Try.prog 66 zuE:=zaz zK4 zH0 fun args K h=>by
  unfold zuE at h
  split at h
  · rename_i a0_list_Gates_n a0_list_Gates_s a0_list_Gates_g a0_corners_n a0_corners_s a0_corners_g
    obtain ⟨⟨⟨rfl,a0_list_Gates_f,rfl⟩,⟨rfl,a0_corners_f,rfl⟩,hs⟩,hk⟩:=h
    try rw [zac a0_list_Gates_f] at hs
    try rw [zac a0_list_Gates_f] at hk
    try rw [zaN a0_corners_f] at hs
    try rw [zaN a0_corners_f] at hk
    exact ⟨(fun _ _=>[]),(fun _=>false),zHZ,q66 (⟨(⟨(⟨a0_list_Gates_n,a0_list_Gates_f⟩:(Sl Gate))⟩:list),(⟨a0_corners_n,a0_corners_f⟩:(Sl straight))⟩:set) K hs hk⟩
  · exact h.elim
abbrev T76:Tabs:=Tabs.nil
theorem zK6:TabsOk Try.prog T76:=TabsOk.nil
abbrev G76:Ctrs:=csm T76 (fun _ _=>[]) (fun _=>false)
def zH1:Ann:=⟨11,[(0,zK [1,2] [2]),(1,zK [3] [])],
 [],
 [],
 [],[]⟩
abbrev R76:=Bool
abbrev e76 (r:R76):List PA:=[.one (.bool r)]
section
variable {K:List PA→Prop} {c0:Int} {l_a0:list}
def s76 (c0:Int) (l_a0:list):Bool :=
  ((l_a0.Gates.get 0).Z == c0)
def p76 (c0:Int) (l_a0:list):Bool :=
  (decide ((0≤(0:Int)∧(0:Int) < (l_a0.Gates.len:Int))) &&
 true)
end
theorem q76 (c0:Int) (l_a0:list) (K:List PA→Prop) (hs:p76 c0 l_a0=true) (hk:K (e76 (s76 c0 l_a0))):vcFun Try.prog G76 zH1 76 [.agg (zb2 l_a0),.one (.fp (zal c0) 0)] K :=
  zay (by kernel_rfl) (zav hs fun hc hs=>And.intro hc hk)
def zDy : List PA → COut
  | [.agg [.sl a0_Gates_n a0_Gates_s a0_Gates_g],.one (.fp [.int .i64 c0] 0)]=>.det (IsE enc_55 3 a0_Gates_s a0_Gates_g∧p76 c0 (⟨(⟨a0_Gates_n,zad a0_Gates_g⟩:(Sl Gate))⟩:list)=true) [.one (.bool (s76 c0 (⟨(⟨a0_Gates_n,zad a0_Gates_g⟩:(Sl Gate))⟩:list)))]
  | _=>.no
theorem zH2:zaf Try.prog 76:=⟨_,rfl,rfl,by kernel_rfl⟩
theorem zND:Ok Try.prog 76 zDy:=zaz zK6 zH2 fun args K h=>by
  unfold zDy at h
  split at h
  · rename_i a0_Gates_n a0_Gates_s a0_Gates_g c0
    obtain ⟨⟨⟨rfl,a0_Gates_f,rfl⟩,hs⟩,hk⟩:=h
    try rw [zac a0_Gates_f] at hs
    try rw [zac a0_Gates_f] at hk
    exact ⟨(fun _ _=>[]),(fun _=>false),zH1,q76 c0 (⟨(⟨a0_Gates_n,a0_Gates_f⟩:(Sl Gate))⟩:list) K hs hk⟩
  · exact h.elim
abbrev T77:Tabs:=Tabs.nil
theorem zK7:TabsOk Try.prog T77:=TabsOk.nil
abbrev G77:Ctrs:=csm T77 (fun _ _=>[]) (fun _=>false)
def zH3:Ann:=⟨3,[(0,zK [] []),(1,zK [2] [])],
 [],
 [],
 [],[]⟩
abbrev R77:=Bool
abbrev e77 (r:R77):List PA:=[.one (.bool r)]
section
variable {K:List PA→Prop} {a0_a0:list}
def s77 (a0_a0:list):Bool :=
  false
end
theorem q77 (a0_a0:list) (K:List PA→Prop) (hk:K (e77 (s77 a0_a0))):vcFun Try.prog G77 zH3 77 [.agg (zb2 a0_a0)] K :=
  zay (by kernel_rfl) hk
def zDz : List PA → COut
  | [.agg [.sl a0_Gates_n a0_Gates_s a0_Gates_g]]=>.det (IsE enc_55 3 a0_Gates_s a0_Gates_g) [.one (.bool (s77 (⟨(⟨a0_Gates_n,zad a0_Gates_g⟩:(Sl Gate))⟩:list)))]
  | _=>.no
theorem zH4:zaf Try.prog 77:=⟨_,rfl,rfl,by kernel_rfl⟩
theorem zNE:Ok Try.prog 77 zDz:=zaz zK7 zH4 fun args K h=>by
  unfold zDz at h
  split at h
  · rename_i a0_Gates_n a0_Gates_s a0_Gates_g
    obtain ⟨⟨rfl,a0_Gates_f,rfl⟩,hk⟩:=h
    try rw [zac a0_Gates_f] at hk
    exact ⟨(fun _ _=>[]),(fun _=>false),zH3,q77 (⟨(⟨a0_Gates_n,a0_Gates_f⟩:(Sl Gate))⟩:list) K hk⟩
  · exact h.elim
abbrev T88:Tabs:=Tabs.nil
theorem zK8:TabsOk Try.prog T88:=TabsOk.nil
abbrev G88:Ctrs:=csm T88 (fun _ _=>[]) (fun _=>false)
def zH5:Ann:=⟨3,[(0,zK [] []),(1,zK [2] [])],
 [],
 [],
 [],[]⟩
abbrev R88:=Bool
abbrev e88 (r:R88):List PA:=[.one (.bool r)]
section
variable {K:List PA→Prop} {a0_a0:list}
def s88 (a0_a0:list):Bool :=
  true
end
theorem q88 (a0_a0:list) (K:List PA→Prop) (hk:K (e88 (s88 a0_a0))):vcFun Try.prog G88 zH5 88 [.agg (zb2 a0_a0)] K :=
  zay (by kernel_rfl) hk
def zDA : List PA → COut
  | [.agg [.sl a0_Gates_n a0_Gates_s a0_Gates_g]]=>.det (IsE enc_55 3 a0_Gates_s a0_Gates_g) [.one (.bool (s88 (⟨(⟨a0_Gates_n,zad a0_Gates_g⟩:(Sl Gate))⟩:list)))]
  | _=>.no
theorem zH6:zaf Try.prog 88:=⟨_,rfl,rfl,by kernel_rfl⟩
theorem zNF:Ok Try.prog 88 zDA:=zaz zK8 zH6 fun args K h=>by
  unfold zDA at h
  split at h
  · rename_i a0_Gates_n a0_Gates_s a0_Gates_g
    obtain ⟨⟨rfl,a0_Gates_f,rfl⟩,hk⟩:=h
    try rw [zac a0_Gates_f] at hk
    exact ⟨(fun _ _=>[]),(fun _=>false),zH5,q88 (⟨(⟨a0_Gates_n,a0_Gates_f⟩:(Sl Gate))⟩:list) K hk⟩
  · exact h.elim
abbrev T75:Tabs:=(((((((Tabs.nil.addF 64 zsA).addF 65 zuB).addF 66 zuE).addF 67 zoV).addF 76 zDy).addF 77 zDz).addF 88 zDA)
theorem zK9:TabsOk Try.prog T75:=(((((((TabsOk.nil.addF zKg).addF zK2).addF zK5).addF zHP).addF zND).addF zNE).addF zNF)
abbrev G75:Ctrs:=csm T75 (fun _ _=>[]) (fun _=>false)
def zDB:Ann:=⟨31,[(0,zK [0,1,4] [4]),(1,zK [0,1,4,9] [4]),(2,zK [4,5] [4]),(3,zK [1,4,6] [4,6]),(4,zK [1,4,6,13] [4,6]),(5,zK [4,5] [4]),(6,zK [4,6,18] [4,6]),(7,zK [4,5] [4]),(8,zK [4,5] [4])],
 [],
 [(3,zK [0,1,4] [4])],
 [],[]⟩
abbrev R75:=(set×Int)
abbrev e75 (r:R75):List PA:=[.agg [.sl r.1.list.Gates.len 3 (fun i=>enc_55 (r.1.list.Gates.get i)),.sl r.1.corners.len 3 (fun i=>zah (r.1.corners.get i))],.one (.int .i64 r.2)]
@[irreducible] def z75:=ptF Try.prog G75 zDB Try.f75
section
variable {K:List PA→Prop} {zaa:(Sl Gate)}
def zo1 (zaa:(Sl Gate)):(set×Int) :=
  (cond (!(s66 (s65 zaa)))
 ((⟨(⟨(⟨0,fun _=>default⟩:(Sl Gate))⟩:list),(⟨0,fun _=>default⟩:(Sl straight))⟩:set),(5:Int))
 (cond (s67 ((s65 zaa).list))
 (cond (!(s77 ((s65 zaa).list)))
 ((⟨(⟨(⟨0,fun _=>default⟩:(Sl Gate))⟩:list),(⟨0,fun _=>default⟩:(Sl straight))⟩:set),(6:Int))
 ((s65 zaa),(0:Int)))
 ((s65 zaa),(0:Int))))
def zo2 (zaa:(Sl Gate)):Bool :=
  (decide ((p65 zaa=true)) &&
 (decide ((p66 (s65 zaa)=true)) &&
 (cond (!(s66 (s65 zaa)))
 true
 (decide ((p67 ((s65 zaa).list)=true)) &&
 true))))
theorem zDC (hs:zo2 zaa=true) (hk:K (e75 (zo1 zaa))):z75 (Wk K) [1,1] [] ⟨[(0,zS enc_55 3 zaa),(1,zP (.fn 77 [] [])),(4,zp 4 0)],[(4,.box 104 [.p (.nils),.p (.nils)])],[]⟩:=zay (by kernel_rfl) (zav hs fun hc hs=>And.intro (And.intro (zE enc_55 3 zaa.get) hc) (zav hs fun hc hs=>And.intro (And.intro (zE enc_55 3 ((s65 zaa).list.Gates.get)) (And.intro (zE zah 3 ((s65 zaa).corners.get)) hc)) (zc hs hk (fun hs hk=>((wk hk (zc4 (.agg (zc4 (.nil _ _) (zc4 (.nil _ _) zhk))) (zc4 (.one (.rfl _)) zhk))):Wk K [.agg [.nils,.nils],.one (.int .i64 (5:Int))])) (fun hs hk=>(zav hs fun hc hs=>And.intro (And.intro (zE enc_55 3 ((s65 zaa).list.Gates.get)) hc) (zt hk (fun hk=>(And.intro (zE enc_55 3 ((s65 zaa).list.Gates.get)) (zt hk (fun hk=>((wk hk (zc4 (.agg (zc4 (.nil _ _) (zc4 (.nil _ _) zhk))) (zc4 (.one (.rfl _)) zhk))):Wk K [.agg [.nils,.nils],.one (.int .i64 (6:Int))])) (fun hk=>((zd4 hk):Wk K [.agg [.sl ((s65 zaa).list.Gates.len) 3 (fun i=>enc_55 ((s65 zaa).list.Gates.get i)),.sl ((s65 zaa).corners.len) 3 (fun i=>zah ((s65 zaa).corners.get i))],.one (.int .i64 (0:Int))]))))) (fun hk=>((zd4 hk):Wk K [.agg [.sl ((s65 zaa).list.Gates.len) 3 (fun i=>enc_55 ((s65 zaa).list.Gates.get i)),.sl ((s65 zaa).corners.len) 3 (fun i=>zah ((s65 zaa).corners.get i))],.one (.int .i64 (0:Int))]))))))))
def s75 (zaa:(Sl Gate)):(set×Int) :=
  (cond (!(s64 zaa))
 ((⟨(⟨(⟨0,fun _=>default⟩:(Sl Gate))⟩:list),(⟨0,fun _=>default⟩:(Sl straight))⟩:set),(2:Int))
 (zo1 zaa))
def p75 (zaa:(Sl Gate)):Bool :=
  (decide ((p64 zaa=true)) &&
 (cond (!(s64 zaa))
 true
 (zo2 zaa)))
end
theorem q75 (zaa:(Sl Gate)) (K:List PA→Prop) (hs:p75 zaa=true) (hk:K (e75 (s75 zaa))):vcFun Try.prog G75 zDB 75 [.one (.sl zaa.len 3 (fun i=>enc_55 (zaa.get i))),.one (.fn 77 [] [])] (Wk K) :=
  zay (by kernel_rfl) (zav hs fun hc hs=>And.intro (And.intro (zE enc_55 3 zaa.get) hc) (zc hs hk (fun hs hk=>((wk hk (zc4 (.agg (zc4 (.nil _ _) (zc4 (.nil _ _) zhk))) (zc4 (.one (.rfl _)) zhk))):Wk K [.agg [.nils,.nils],.one (.int .i64 (2:Int))])) (fun hs hk=>(zDC hs hk))))
abbrev zMx:Ctrs:=csm T75 (fun _ _=>[]) (fun _=>false)
def zuF:Ann:=⟨31,[(0,zK [0,1,4] [4]),(1,zK [0,1,4,9] [4]),(2,zK [4,5] [4]),(3,zK [1,4,6] [4,6]),(4,zK [1,4,6,13] [4,6]),(5,zK [4,5] [4]),(6,zK [4,6,18] [4,6]),(7,zK [4,5] [4]),(8,zK [4,5] [4])],
 [],
 [(3,zK [0,1,4] [4])],
 [],[]⟩
abbrev zNG:=(set×Int)
abbrev zMy (r:zNG):List PA:=[.agg [.sl r.1.list.Gates.len 3 (fun i=>enc_55 (r.1.list.Gates.get i)),.sl r.1.corners.len 3 (fun i=>zah (r.1.corners.get i))],.one (.int .i64 r.2)]
@[irreducible] def z75a:=ptF Try.prog zMx zuF Try.f75
section
variable {K:List PA→Prop} {c0:Int} {zaa:(Sl Gate)}
def zl7 (c0:Int) (zaa:(Sl Gate)):(set×Int) :=
  (cond (!(s66 (s65 zaa)))
 ((⟨(⟨(⟨0,fun _=>default⟩:(Sl Gate))⟩:list),(⟨0,fun _=>default⟩:(Sl straight))⟩:set),(5:Int))
 (cond (s67 ((s65 zaa).list))
 (cond (!(s76 c0 ((s65 zaa).list)))
 ((⟨(⟨(⟨0,fun _=>default⟩:(Sl Gate))⟩:list),(⟨0,fun _=>default⟩:(Sl straight))⟩:set),(6:Int))
 ((s65 zaa),(0:Int)))
 ((s65 zaa),(0:Int))))
def zl8 (c0:Int) (zaa:(Sl Gate)):Bool :=
  (decide ((p65 zaa=true)) &&
 (decide ((p66 (s65 zaa)=true)) &&
 (cond (!(s66 (s65 zaa)))
 true
 (decide ((p67 ((s65 zaa).list)=true)) &&
 (cond (s67 ((s65 zaa).list))
 (decide ((p76 c0 ((s65 zaa).list)=true)) &&
 true)
 true)))))
theorem zAe (hs:zl8 c0 zaa=true) (hk:K (zMy (zl7 c0 zaa))):z75a (Wk K) [1,1] [] ⟨[(0,zS enc_55 3 zaa),(1,zP (.fn 76 [] [.fp (zal c0) 0])),(4,zp 4 0)],[(4,.box 104 [.p (.nils),.p (.nils)])],[]⟩:=zay (by kernel_rfl) (zav hs fun hc hs=>And.intro (And.intro (zE enc_55 3 zaa.get) hc) (zav hs fun hc hs=>And.intro (And.intro (zE enc_55 3 ((s65 zaa).list.Gates.get)) (And.intro (zE zah 3 ((s65 zaa).corners.get)) hc)) (zc hs hk (fun hs hk=>((wk hk (zc4 (.agg (zc4 (.nil _ _) (zc4 (.nil _ _) zhk))) (zc4 (.one (.rfl _)) zhk))):Wk K [.agg [.nils,.nils],.one (.int .i64 (5:Int))])) (fun hs hk=>(zav hs fun hc hs=>And.intro (And.intro (zE enc_55 3 ((s65 zaa).list.Gates.get)) hc) (zc hs hk (fun hs hk=>(zav hs fun hc hs=>And.intro (And.intro (zE enc_55 3 ((s65 zaa).list.Gates.get)) hc) (zt hk (fun hk=>((wk hk (zc4 (.agg (zc4 (.nil _ _) (zc4 (.nil _ _) zhk))) (zc4 (.one (.rfl _)) zhk))):Wk K [.agg [.nils,.nils],.one (.int .i64 (6:Int))])) (fun hk=>((zd4 hk):Wk K [.agg [.sl ((s65 zaa).list.Gates.len) 3 (fun i=>enc_55 ((s65 zaa).list.Gates.get i)),.sl ((s65 zaa).corners.len) 3 (fun i=>zah ((s65 zaa).corners.get i))],.one (.int .i64 (0:Int))]))))) (fun hs hk=>((zd4 hk):Wk K [.agg [.sl ((s65 zaa).list.Gates.len) 3 (fun i=>enc_55 ((s65 zaa).list.Gates.get i)),.sl ((s65 zaa).corners.len) 3 (fun i=>zah ((s65 zaa).corners.get i))],.one (.int .i64 (0:Int))]))))))))
def zn7 (c0:Int) (zaa:(Sl Gate)):(set×Int) :=
  (cond (!(s64 zaa))
 ((⟨(⟨(⟨0,fun _=>default⟩:(Sl Gate))⟩:list),(⟨0,fun _=>default⟩:(Sl straight))⟩:set),(2:Int))
 (zl7 c0 zaa))
def zDD (c0:Int) (zaa:(Sl Gate)):Bool :=
  (decide ((p64 zaa=true)) &&
 (cond (!(s64 zaa))
 true
 (zl8 c0 zaa)))
end
theorem zNH (c0:Int) (zaa:(Sl Gate)) (K:List PA→Prop) (hs:zDD c0 zaa=true) (hk:K (zMy (zn7 c0 zaa))):vcFun Try.prog zMx zuF 75 [.one (.sl zaa.len 3 (fun i=>enc_55 (zaa.get i))),.one (.fn 76 [] [.fp (zal c0) 0])] (Wk K) :=
  zay (by kernel_rfl) (zav hs fun hc hs=>And.intro (And.intro (zE enc_55 3 zaa.get) hc) (zc hs hk (fun hs hk=>((wk hk (zc4 (.agg (zc4 (.nil _ _) (zc4 (.nil _ _) zhk))) (zc4 (.one (.rfl _)) zhk))):Wk K [.agg [.nils,.nils],.one (.int .i64 (2:Int))])) (fun hs hk=>(zAe hs hk))))
abbrev zMz:Ctrs:=csm T75 (fun _ _=>[]) (fun _=>false)
def zuG:Ann:=⟨31,[(0,zK [0,1,4] [4]),(1,zK [0,1,4,9] [4]),(2,zK [4,5] [4]),(3,zK [1,4,6] [4,6]),(4,zK [1,4,6,13] [4,6]),(5,zK [4,5] [4]),(6,zK [4,6,18] [4,6]),(7,zK [4,5] [4]),(8,zK [4,5] [4])],
 [],
 [(3,zK [0,1,4] [4])],
 [],[]⟩
abbrev zNI:=(set×Int)
abbrev zMA (r:zNI):List PA:=[.agg [.sl r.1.list.Gates.len 3 (fun i=>enc_55 (r.1.list.Gates.get i)),.sl r.1.corners.len 3 (fun i=>zah (r.1.corners.get i))],.one (.int .i64 r.2)]
@[irreducible] def z75b:=ptF Try.prog zMz zuG Try.f75
section
variable {K:List PA→Prop} {zaa:(Sl Gate)}
def zl9 (zaa:(Sl Gate)):(set×Int) :=
  (cond (!(s66 (s65 zaa)))
 ((⟨(⟨(⟨0,fun _=>default⟩:(Sl Gate))⟩:list),(⟨0,fun _=>default⟩:(Sl straight))⟩:set),(5:Int))
 (cond (s67 ((s65 zaa).list))
 (cond (!(s88 ((s65 zaa).list)))
 ((⟨(⟨(⟨0,fun _=>default⟩:(Sl Gate))⟩:list),(⟨0,fun _=>default⟩:(Sl straight))⟩:set),(6:Int))
 ((s65 zaa),(0:Int)))
 ((s65 zaa),(0:Int))))
def zma (zaa:(Sl Gate)):Bool :=
  (decide ((p65 zaa=true)) &&
 (decide ((p66 (s65 zaa)=true)) &&
 (cond (!(s66 (s65 zaa)))
 true
 (decide ((p67 ((s65 zaa).list)=true)) &&
 true))))
theorem zAf (hs:zma zaa=true) (hk:K (zMA (zl9 zaa))):z75b (Wk K) [1,1] [] ⟨[(0,zS enc_55 3 zaa),(1,zP (.fn 88 [] [])),(4,zp 4 0)],[(4,.box 104 [.p (.nils),.p (.nils)])],[]⟩:=zay (by kernel_rfl) (zav hs fun hc hs=>And.intro (And.intro (zE enc_55 3 zaa.get) hc) (zav hs fun hc hs=>And.intro (And.intro (zE enc_55 3 ((s65 zaa).list.Gates.get)) (And.intro (zE zah 3 ((s65 zaa).corners.get)) hc)) (zc hs hk (fun hs hk=>((wk hk (zc4 (.agg (zc4 (.nil _ _) (zc4 (.nil _ _) zhk))) (zc4 (.one (.rfl _)) zhk))):Wk K [.agg [.nils,.nils],.one (.int .i64 (5:Int))])) (fun hs hk=>(zav hs fun hc hs=>And.intro (And.intro (zE enc_55 3 ((s65 zaa).list.Gates.get)) hc) (zt hk (fun hk=>(And.intro (zE enc_55 3 ((s65 zaa).list.Gates.get)) (zt hk (fun hk=>((wk hk (zc4 (.agg (zc4 (.nil _ _) (zc4 (.nil _ _) zhk))) (zc4 (.one (.rfl _)) zhk))):Wk K [.agg [.nils,.nils],.one (.int .i64 (6:Int))])) (fun hk=>((zd4 hk):Wk K [.agg [.sl ((s65 zaa).list.Gates.len) 3 (fun i=>enc_55 ((s65 zaa).list.Gates.get i)),.sl ((s65 zaa).corners.len) 3 (fun i=>zah ((s65 zaa).corners.get i))],.one (.int .i64 (0:Int))]))))) (fun hk=>((zd4 hk):Wk K [.agg [.sl ((s65 zaa).list.Gates.len) 3 (fun i=>enc_55 ((s65 zaa).list.Gates.get i)),.sl ((s65 zaa).corners.len) 3 (fun i=>zah ((s65 zaa).corners.get i))],.one (.int .i64 (0:Int))]))))))))
def zze (zaa:(Sl Gate)):(set×Int) :=
  (cond (!(s64 zaa))
 ((⟨(⟨(⟨0,fun _=>default⟩:(Sl Gate))⟩:list),(⟨0,fun _=>default⟩:(Sl straight))⟩:set),(2:Int))
 (zl9 zaa))
def zGI (zaa:(Sl Gate)):Bool :=
  (decide ((p64 zaa=true)) &&
 (cond (!(s64 zaa))
 true
 (zma zaa)))
end
theorem zNJ (zaa:(Sl Gate)) (K:List PA→Prop) (hs:zGI zaa=true) (hk:K (zMA (zze zaa))):vcFun Try.prog zMz zuG 75 [.one (.sl zaa.len 3 (fun i=>enc_55 (zaa.get i))),.one (.fn 88 [] [])] (Wk K) :=
  zay (by kernel_rfl) (zav hs fun hc hs=>And.intro (And.intro (zE enc_55 3 zaa.get) hc) (zc hs hk (fun hs hk=>((wk hk (zc4 (.agg (zc4 (.nil _ _) (zc4 (.nil _ _) zhk))) (zc4 (.one (.rfl _)) zhk))):Wk K [.agg [.nils,.nils],.one (.int .i64 (2:Int))])) (fun hs hk=>(zAf hs hk))))
def zuH : List PA → COut
  | [.one (.sl a0_n a0_s a0_g),.one (.fn 77 [] [])]=>.det (IsE enc_55 3 a0_s a0_g∧p75 (⟨a0_n,zad a0_g⟩:(Sl Gate))=true) [.agg [.sl (((s75 (⟨a0_n,zad a0_g⟩:(Sl Gate))).1).list.Gates.len) 3 (fun i=>enc_55 (((s75 (⟨a0_n,zad a0_g⟩:(Sl Gate))).1).list.Gates.get i)),.sl (((s75 (⟨a0_n,zad a0_g⟩:(Sl Gate))).1).corners.len) 3 (fun i=>zah (((s75 (⟨a0_n,zad a0_g⟩:(Sl Gate))).1).corners.get i))],.one (.int .i64 ((s75 (⟨a0_n,zad a0_g⟩:(Sl Gate))).2))]
  | [.one (.sl a0_n a0_s a0_g),.one (.fn 76 [] [.fp [.int .i64 c0] 0])]=>.det (IsE enc_55 3 a0_s a0_g∧zDD c0 (⟨a0_n,zad a0_g⟩:(Sl Gate))=true) [.agg [.sl (((zn7 c0 (⟨a0_n,zad a0_g⟩:(Sl Gate))).1).list.Gates.len) 3 (fun i=>enc_55 (((zn7 c0 (⟨a0_n,zad a0_g⟩:(Sl Gate))).1).list.Gates.get i)),.sl (((zn7 c0 (⟨a0_n,zad a0_g⟩:(Sl Gate))).1).corners.len) 3 (fun i=>zah (((zn7 c0 (⟨a0_n,zad a0_g⟩:(Sl Gate))).1).corners.get i))],.one (.int .i64 ((zn7 c0 (⟨a0_n,zad a0_g⟩:(Sl Gate))).2))]
  | [.one (.sl a0_n a0_s a0_g),.one (.fn 88 [] [])]=>.det (IsE enc_55 3 a0_s a0_g∧zGI (⟨a0_n,zad a0_g⟩:(Sl Gate))=true) [.agg [.sl (((zze (⟨a0_n,zad a0_g⟩:(Sl Gate))).1).list.Gates.len) 3 (fun i=>enc_55 (((zze (⟨a0_n,zad a0_g⟩:(Sl Gate))).1).list.Gates.get i)),.sl (((zze (⟨a0_n,zad a0_g⟩:(Sl Gate))).1).corners.len) 3 (fun i=>zah (((zze (⟨a0_n,zad a0_g⟩:(Sl Gate))).1).corners.get i))],.one (.int .i64 ((zze (⟨a0_n,zad a0_g⟩:(Sl Gate))).2))]
  | _=>.no
theorem zH7:zaf Try.prog 75:=⟨_,rfl,rfl,by kernel_rfl⟩
theorem zMB:Ok Try.prog 75 zuH:=zhl zK9 zH7 fun args K h=>by
  unfold zuH at h
  split at h
  · rename_i a0_n a0_s a0_g
    obtain ⟨⟨⟨rfl,a0_f,rfl⟩,hs⟩,hk⟩:=h
    try rw [zac a0_f] at hs
    try rw [zac a0_f] at hk
    exact ⟨_,zeS zfS _,(fun _ _=>[]),(fun _=>false),zDB,q75 (⟨a0_n,a0_f⟩:(Sl Gate)) K hs hk⟩
  · rename_i a0_n a0_s a0_g c0
    obtain ⟨⟨⟨rfl,a0_f,rfl⟩,hs⟩,hk⟩:=h
    try rw [zac a0_f] at hs
    try rw [zac a0_f] at hk
    exact ⟨_,zeS zfS _,(fun _ _=>[]),(fun _=>false),zuF,zNH c0 (⟨a0_n,a0_f⟩:(Sl Gate)) K hs hk⟩
  · rename_i a0_n a0_s a0_g
    obtain ⟨⟨⟨rfl,a0_f,rfl⟩,hs⟩,hk⟩:=h
    try rw [zac a0_f] at hs
    try rw [zac a0_f] at hk
    exact ⟨_,zeS zfS _,(fun _ _=>[]),(fun _=>false),zuG,zNJ (⟨a0_n,a0_f⟩:(Sl Gate)) K hs hk⟩
  · exact h.elim
abbrev zMC:Tabs:=Tabs.nil
theorem zH8:TabsOk Try.prog zMC:=TabsOk.nil
abbrev zMD:Ctrs:=csm zMC (fun _ _=>[]) (fun _=>false)
def zuI:Ann:=⟨8,[(0,⟨[0],[],[],[],[],[],[]⟩),(1,⟨[0,4],[],[],[],[],[],[]⟩),(2,⟨[2],[],[],[],[],[],[]⟩),(3,⟨[2],[5],[],[],[],[],[]⟩)],
 [],
 [],
 [],[]⟩
theorem zAg (n : Nat) (get : Nat → List PV) : ztW Try.prog zMD zuI 105 [.one (.sl n 3 get)] 118 3 24 n get =
  ((True)∧(∃ r1:Bool,(n ≠ 0→r1=false))∧∀ r1:Bool,(n ≠ 0→r1=false) →
 (zcX r1
 (True∧n=0)
 ((((0+n) * 24≤140737488355328∧0+n≤9223372036854775807)) ∧
 (True∧118=118∧3=3∧24=24∧(0+n)=n∧∀ i,i < n→(appG 0 (zdf []) get) i=get i)))):=by kernel_rfl
abbrev zBE:OwnK:=.clone 118 3 24
theorem zDE:zaf Try.prog 105:=⟨_,rfl,rfl,by kernel_rfl⟩
theorem zLa:zls Try.prog 105 zBE:=ztZ zH8 zDE fun n get h1 h2=>by
  refine ⟨fun _ _=>[],fun _=>false,zuI,?_⟩
  show ztW Try.prog zMD zuI 105 _ _ _ _ _ _
  rw [zAg]
  refine ⟨trivial,⟨decide (n=0),fun h=>decide_eq_false h⟩,fun r1 hr=>?_⟩
  cases r1
  · refine ⟨⟨by omega,by omega⟩,trivial,rfl,rfl,rfl,Nat.zero_add n,fun i _=>rfl⟩
  · exact ⟨trivial,Classical.byContradiction fun h=>by simpa using hr h⟩
abbrev zBF:OwnK:=.sort 118 3 24
theorem zLb:zls Try.prog 106 zBF:=zt6 Try.laysS106 rfl rfl rfl (fun h=>h) ⟨_,rfl,rfl,by kernel_rfl⟩
abbrev zME:Tabs:=Tabs.nil
theorem zH9:TabsOk Try.prog zME:=TabsOk.nil
abbrev zNK:Ctrs:=csm zME (fun _ _=>[]) (fun _=>false)
def zBG:Ann:=⟨6,[(0,zK [0] []),(1,zK [2] [])],
 [],
 [],
 [],[]⟩
abbrev zNL:=Bool
abbrev e120 (r:zNL):List PA:=[.one (.bool r)]
section
variable {K:List PA→Prop} {x:Int}
def zBH (x:Int):Bool :=
  (x != x)
end
theorem zNM (x:Int) (K:List PA→Prop) (hk:K (e120 (zBH x))):vcFun Try.prog zNK zBG 120 [.one (.int .i64 x)] K :=
  zay (by kernel_rfl) hk
def zuJ : List PA → COut
  | [.one (.int .i64 a0)]=>.tot [.one (.bool (zBH a0))]
  | _=>.no
theorem zDF:zaf Try.prog 120:=⟨_,rfl,rfl,by kernel_rfl⟩
theorem zLc:Ok Try.prog 120 zuJ:=zaz zH9 zDF fun args K h=>by
  unfold zuJ at h
  split at h
  · rename_i a0
    have hk:=h
    exact ⟨(fun _ _=>[]),(fun _=>false),zBG,zNM a0 K hk⟩
  · exact h.elim
abbrev zMF:Tabs:=(Tabs.nil.addF 120 zuJ)
theorem zIa:TabsOk Try.prog zMF:=(TabsOk.nil.addF zLc)
abbrev zNN:Ctrs:=csm zMF (fun _ _=>[]) (fun _=>false)
def zBI:Ann:=⟨20,[(0,zK [0,1] []),(1,zK [0,1,5] []),(2,zK [0,1,5,6] []),(3,zK [0,1,6,11] []),(4,zK [12] []),(5,zK [4] []),(6,zK [4] []),(7,zK [0,1,13] []),(8,zK [4] []),(9,zK [0,1,16] []),(10,zK [4] []),(11,zK [19] []),(12,zK [4] []),(13,zK [4] [])],
 [],
 [],
 [],[]⟩
abbrev zNO:=Int
abbrev zNP (r:zNO):List PA:=[.one (.int .i64 r)]
section
variable {K:List PA→Prop} {x:Int} {y_a1:Int}
def zBJ (x:Int) (y_a1:Int):Int :=
  (cond (zBH x)
 (cond (zBH y_a1)
 (0:Int)
 (-1:Int))
 (cond (zBH y_a1)
 (1:Int)
 (cond (decide (x < y_a1))
 (-1:Int)
 (cond (decide (x > y_a1))
 (1:Int)
 (0:Int)))))
end
theorem zNQ (x:Int) (y_a1:Int) (K:List PA→Prop) (hk:K (zNP (zBJ x y_a1))):vcFun Try.prog zNN zBI 103 [.one (.int .i64 x),.one (.int .i64 y_a1)] K :=
  zay (by kernel_rfl) (zt hk (fun hk=>(zt hk (fun hk=>hk) (fun hk=>hk))) (fun hk=>(zt hk (fun hk=>hk) (fun hk=>(zt hk (fun hk=>hk) (fun hk=>(zt hk (fun hk=>hk) (fun hk=>hk))))))))
def zuK : List PA → COut
  | [.one (.int .i64 a0),.one (.int .i64 a1)]=>.tot [.one (.int .i64 (zBJ a0 a1))]
  | _=>.no
theorem zDG:zaf Try.prog 103:=⟨_,rfl,rfl,by kernel_rfl⟩
theorem zLd:Ok Try.prog 103 zuK:=zaz zIa zDG fun args K h=>by
  unfold zuK at h
  split at h
  · rename_i a0 a1
    have hk:=h
    exact ⟨(fun _ _=>[]),(fun _=>false),zBI,zNQ a0 a1 K hk⟩
  · exact h.elim
abbrev T69:Tabs:=(Tabs.nil.addF 103 zuK)
theorem zLe:TabsOk Try.prog T69:=(TabsOk.nil.addF zLd)
abbrev G69:Ctrs:=csm T69 (fun _ _=>[]) (fun _=>false)
def zIb:Ann:=⟨16,[(0,zK [2,3] [2,3]),(1,zK [4] [])],
 [],
 [],
 [],[]⟩
abbrev R69:=Int
abbrev e69 (r:R69):List PA:=[.one (.int .i64 r)]
section
variable {K:List PA→Prop} {a:Frac} {b:Frac}
def s69 (a:Frac) (b:Frac):Int :=
  (zBJ (w64 (a.Num * b.Den)) (w64 (b.Num * a.Den)))
end
theorem q69 (a:Frac) (b:Frac) (K:List PA→Prop) (hk:K (e69 (s69 a b))):vcFun Try.prog G69 zIb 69 [.agg (zae a),.agg (zae b)] K :=
  zay (by kernel_rfl) hk
def zsD : List PA → COut
  | [.agg [.int .i64 a0_Num,.int .i64 a0_Den],.agg [.int .i64 a1_Num,.int .i64 a1_Den]]=>.tot [.one (.int .i64 (s69 (⟨a0_Num,a0_Den⟩:Frac) (⟨a1_Num,a1_Den⟩:Frac)))]
  | _=>.no
theorem zIc:zaf Try.prog 69:=⟨_,rfl,rfl,by kernel_rfl⟩
theorem zKm:Ok Try.prog 69 zsD:=zaz zLe zIc fun args K h=>by
  unfold zsD at h
  split at h
  · rename_i a0_Num a0_Den a1_Num a1_Den
    have hk:=h
    exact ⟨(fun _ _=>[]),(fun _=>false),zIb,q69 (⟨a0_Num,a0_Den⟩:Frac) (⟨a1_Num,a1_Den⟩:Frac) K hk⟩
  · exact h.elim
abbrev zMG:Tabs:=(Tabs.nil.addF 99 zuw)
theorem zId:TabsOk Try.prog zMG:=(TabsOk.nil.addF zKU)
abbrev zNR:Ctrs:=csm zMG (fun _ _=>[]) (fun _=>false)
def zBK:Ann:=⟨10,[(0,zK [2,3] [2,3]),(1,zK [4] [])],
 [],
 [],
 [],[]⟩
abbrev zNS:=Bool
abbrev e108 (r:zNS):List PA:=[.one (.bool r)]
section
variable {K:List PA→Prop} {s:set} {x:straight}
def zsS (s:set) (x:straight):Bool :=
  (zKk x s.list.Gates)
def zGJ (s:set) (x:straight):Bool :=
  (decide ((zKl x s.list.Gates=true)) &&
 true)
end
theorem zNT (s:set) (x:straight) (K:List PA→Prop) (hs:zGJ s x=true) (hk:K (e108 (zsS s x))):vcFun Try.prog zNR zBK 108 [.agg (zaV s),.agg (zah x)] K :=
  zay (by kernel_rfl) (zav hs fun hc hs=>And.intro (And.intro (zE enc_55 3 s.list.Gates.get) hc) hk)
def zuL : List PA → COut
  | [.agg [.sl a0_list_Gates_n a0_list_Gates_s a0_list_Gates_g,.sl a0_corners_n a0_corners_s a0_corners_g],.agg [.int .i64 a1_slope,.int .i64 a1_start,.int .i64 a1_den]]=>.det (IsE enc_55 3 a0_list_Gates_s a0_list_Gates_g∧IsE zah 3 a0_corners_s a0_corners_g∧zGJ (⟨(⟨(⟨a0_list_Gates_n,zad a0_list_Gates_g⟩:(Sl Gate))⟩:list),(⟨a0_corners_n,zaR a0_corners_g⟩:(Sl straight))⟩:set) (⟨a1_slope,a1_start,a1_den⟩:straight)=true) [.one (.bool (zsS (⟨(⟨(⟨a0_list_Gates_n,zad a0_list_Gates_g⟩:(Sl Gate))⟩:list),(⟨a0_corners_n,zaR a0_corners_g⟩:(Sl straight))⟩:set) (⟨a1_slope,a1_start,a1_den⟩:straight)))]
  | _=>.no
theorem zDH:zaf Try.prog 108:=⟨_,rfl,rfl,by kernel_rfl⟩
theorem zLf:Ok Try.prog 108 zuL:=zaz zId zDH fun args K h=>by
  unfold zuL at h
  split at h
  · rename_i a0_list_Gates_n a0_list_Gates_s a0_list_Gates_g a0_corners_n a0_corners_s a0_corners_g a1_slope a1_start a1_den
    obtain ⟨⟨⟨rfl,a0_list_Gates_f,rfl⟩,⟨rfl,a0_corners_f,rfl⟩,hs⟩,hk⟩:=h
    try rw [zac a0_list_Gates_f] at hs
    try rw [zac a0_list_Gates_f] at hk
    try rw [zaN a0_corners_f] at hs
    try rw [zaN a0_corners_f] at hk
    exact ⟨(fun _ _=>[]),(fun _=>false),zBK,zNT (⟨(⟨(⟨a0_list_Gates_n,a0_list_Gates_f⟩:(Sl Gate))⟩:list),(⟨a0_corners_n,a0_corners_f⟩:(Sl straight))⟩:set) (⟨a1_slope,a1_start,a1_den⟩:straight) K hs hk⟩
  · exact h.elim
abbrev zMH:Tabs:=(((Tabs.nil.addF 69 zsD).addF 89 zsz).addF 108 zuL)
theorem zIe:TabsOk Try.prog zMH:=(((TabsOk.nil.addF zKm).addF zKf).addF zLf)
abbrev zNU:Ctrs:=csm zMH (fun _ _=>[]) (fun _=>false)
def zBL:Ann:=⟨38,[(0,zK [2,3,4] [3,4]),(1,zK [3,4,6,7] [3,4]),(2,zK [6,7,8] []),(3,zK [6,7,8,26] []),(4,zK [5] []),(5,zK [7,8,32] []),(6,zK [5] []),(7,zK [8,34] []),(8,zK [5] []),(9,zK [5] [])],
 [],
 [],
 [],[]⟩
abbrev zNV:=Int
abbrev zNW (r:zNV):List PA:=[.one (.int .i64 r)]
section
variable {K:List PA→Prop} {c0:set} {a:straight} {b:straight}
def zBM (c0:set) (a:straight) (b:straight):Int :=
  (cond (zsS c0 a)
 (cond (zsS c0 b)
 (s69 (s89 a.slope a.den) (s89 b.slope b.den))
 (cond (zsS c0 a)
 (-1:Int)
 (cond (zsS c0 b)
 (1:Int)
 (w64 (0 - (s69 (s89 a.slope a.den) (s89 b.slope b.den)))))))
 (cond (zsS c0 a)
 (-1:Int)
 (cond (zsS c0 b)
 (1:Int)
 (w64 (0 - (s69 (s89 a.slope a.den) (s89 b.slope b.den)))))))
def zBN (c0:set) (a:straight) (b:straight):Bool :=
  (decide ((zGJ c0 a=true)) &&
 (decide ((zGJ c0 b=true)) &&
 (decide ((p89 a.slope a.den=true)) &&
 (decide ((p89 b.slope b.den=true)) &&
 true))))
end
theorem zNX (c0:set) (a:straight) (b:straight) (K:List PA→Prop) (hs:zBN c0 a b=true) (hk:K (zNW (zBM c0 a b))):vcFun Try.prog zNU zBL 107 [.agg (zah a),.agg (zah b),.one (.fp (zaV c0) 0)] K :=
  zay (by kernel_rfl) (zav hs fun hc hs=>And.intro (And.intro (zE enc_55 3 c0.list.Gates.get) (And.intro (zE zah 3 c0.corners.get) hc)) (zav hs fun hc hs=>And.intro (And.intro (zE enc_55 3 c0.list.Gates.get) (And.intro (zE zah 3 c0.corners.get) hc)) (zav hs fun hc hs=>And.intro hc (zav hs fun hc hs=>And.intro hc (zt hk (fun hk=>(zt hk (fun hk=>hk) (fun hk=>(zt hk (fun hk=>hk) (fun hk=>(zt hk (fun hk=>hk) (fun hk=>hk))))))) (fun hk=>(zt hk (fun hk=>hk) (fun hk=>(zt hk (fun hk=>hk) (fun hk=>hk))))))))))
def znM : List PA → COut
  | [.agg [.int .i64 a0_slope,.int .i64 a0_start,.int .i64 a0_den],.agg [.int .i64 a1_slope,.int .i64 a1_start,.int .i64 a1_den],.one (.fp [.sl c0_list_Gates_n c0_list_Gates_s c0_list_Gates_g,.sl c0_corners_n c0_corners_s c0_corners_g] 0)]=>.det (IsE enc_55 3 c0_list_Gates_s c0_list_Gates_g∧IsE zah 3 c0_corners_s c0_corners_g∧zBN (⟨(⟨(⟨c0_list_Gates_n,zad c0_list_Gates_g⟩:(Sl Gate))⟩:list),(⟨c0_corners_n,zaR c0_corners_g⟩:(Sl straight))⟩:set) (⟨a0_slope,a0_start,a0_den⟩:straight) (⟨a1_slope,a1_start,a1_den⟩:straight)=true) [.one (.int .i64 (zBM (⟨(⟨(⟨c0_list_Gates_n,zad c0_list_Gates_g⟩:(Sl Gate))⟩:list),(⟨c0_corners_n,zaR c0_corners_g⟩:(Sl straight))⟩:set) (⟨a0_slope,a0_start,a0_den⟩:straight) (⟨a1_slope,a1_start,a1_den⟩:straight)))]
  | _=>.no
theorem zDI:zaf Try.prog 107:=⟨_,rfl,rfl,by kernel_rfl⟩
theorem zLg:Ok Try.prog 107 znM:=zaz zIe zDI fun args K h=>by
  unfold znM at h
  split at h
  · rename_i a0_slope a0_start a0_den a1_slope a1_start a1_den c0_list_Gates_n c0_list_Gates_s c0_list_Gates_g c0_corners_n c0_corners_s c0_corners_g
    obtain ⟨⟨⟨rfl,c0_list_Gates_f,rfl⟩,⟨rfl,c0_corners_f,rfl⟩,hs⟩,hk⟩:=h
    try rw [zac c0_list_Gates_f] at hs
    try rw [zac c0_list_Gates_f] at hk
    try rw [zaN c0_corners_f] at hs
    try rw [zaN c0_corners_f] at hk
    exact ⟨(fun _ _=>[]),(fun _=>false),zBL,zNX (⟨(⟨(⟨c0_list_Gates_n,c0_list_Gates_f⟩:(Sl Gate))⟩:list),(⟨c0_corners_n,c0_corners_f⟩:(Sl straight))⟩:set) (⟨a0_slope,a0_start,a0_den⟩:straight) (⟨a1_slope,a1_start,a1_den⟩:straight) K hs hk⟩
  · exact h.elim
abbrev T78:Tabs:=(((Tabs.nil.addO 105 zBE).addO 106 zBF).addF 107 znM)
theorem zLh:TabsOk Try.prog T78:=(((TabsOk.nil.addO zLa).addO zLb).addF zLg)
abbrev G78:Ctrs:=csm T78 (fun _ _=>[]) (fun _=>false)
def zIf:Ann:=⟨11,[(0,zK [1] [1]),(1,zK [1,3] [1,6]),(2,zK [3] [6]),(3,zK [2] [6])],
 [],
 [],
 [],[]⟩
abbrev R78:=(Sl straight)
abbrev e78 (r:R78):List PA:=[.one (.sl r.len 3 (fun i=>zah (r.get i)))]
section
variable {K:List PA→Prop} {s:set}
def s78 (s:set):(Sl straight) :=
  (⟨s.corners.len,(zog s.corners.len (fun i j=>(zBM s (s.corners.get i) (s.corners.get j))) s.corners.get)⟩:(Sl straight))
def p78 (s:set):Bool :=
  (decide ((s.corners.len * 24≤140737488355328∧s.corners.len≤9223372036854775807)) &&
 (decide ((s.corners.len≤4611686018427387)∧(sortB s.corners.len (fun i j=>decide (zBN s (s.corners.get i) (s.corners.get j)=true)) (fun i j=>(zBM s (s.corners.get i) (s.corners.get j)))=true)) &&
 true))
end
theorem q78 (s:set) (K:List PA→Prop) (hs:p78 s=true) (hk:K (e78 (s78 s))):vcFun Try.prog G78 zIf 78 [.agg (zaV s)] K :=
  zay (by kernel_rfl) (zav hs fun hc hs=>And.intro hc (zav hs fun hc hs=>And.intro (And.intro (hc.1) ((zq8 (hc.2) (fun i j h=>(show IsE enc_55 3 3 (fun i=>enc_55 (s.list.Gates.get i))∧IsE zah 3 3 (fun i=>zah (s.corners.get i))∧(zBN s (s.corners.get i) (s.corners.get j)=true) from ⟨isE,isE,(of_decide_eq_true h)⟩)) rfl):(∀ i j,i < s.corners.len→j < s.corners.len→zGF (znM) [.fp (zaV s) 0] true (fun i=>zah (s.corners.get i)) i j)∧STO s.corners.len (zsV (znM) [.fp (zaV s) 0] true (fun i=>zah (s.corners.get i))))) hk))
def zDJ : List PA → COut
  | [.agg [.sl a0_list_Gates_n a0_list_Gates_s a0_list_Gates_g,.sl a0_corners_n a0_corners_s a0_corners_g]]=>.det (IsE enc_55 3 a0_list_Gates_s a0_list_Gates_g∧IsE zah 3 a0_corners_s a0_corners_g∧p78 (⟨(⟨(⟨a0_list_Gates_n,zad a0_list_Gates_g⟩:(Sl Gate))⟩:list),(⟨a0_corners_n,zaR a0_corners_g⟩:(Sl straight))⟩:set)=true) [.one (.sl ((s78 (⟨(⟨(⟨a0_list_Gates_n,zad a0_list_Gates_g⟩:(Sl Gate))⟩:list),(⟨a0_corners_n,zaR a0_corners_g⟩:(Sl straight))⟩:set)).len) 3 (fun i=>zah ((s78 (⟨(⟨(⟨a0_list_Gates_n,zad a0_list_Gates_g⟩:(Sl Gate))⟩:list),(⟨a0_corners_n,zaR a0_corners_g⟩:(Sl straight))⟩:set)).get i)))]
  | _=>.no
theorem zIg:zaf Try.prog 78:=⟨_,rfl,rfl,by kernel_rfl⟩
theorem zNY:Ok Try.prog 78 zDJ:=zaz zLh zIg fun args K h=>by
  unfold zDJ at h
  split at h
  · rename_i a0_list_Gates_n a0_list_Gates_s a0_list_Gates_g a0_corners_n a0_corners_s a0_corners_g
    obtain ⟨⟨⟨rfl,a0_list_Gates_f,rfl⟩,⟨rfl,a0_corners_f,rfl⟩,hs⟩,hk⟩:=h
    try rw [zac a0_list_Gates_f] at hs
    try rw [zac a0_list_Gates_f] at hk
    try rw [zaN a0_corners_f] at hs
    try rw [zaN a0_corners_f] at hk
    exact ⟨(fun _ _=>[]),(fun _=>false),zIf,q78 (⟨(⟨(⟨a0_list_Gates_n,a0_list_Gates_f⟩:(Sl Gate))⟩:list),(⟨a0_corners_n,a0_corners_f⟩:(Sl straight))⟩:set) K hs hk⟩
  · exact h.elim
abbrev T31:Tabs:=(((Tabs.nil.addF 75 zuH).addF 78 zDJ).addF 79 zz5)
theorem zLi:TabsOk Try.prog T31:=(((TabsOk.nil.addF zMB).addF zNY).addF zMn)
abbrev G31:Ctrs:=csm T31 (fun _ _=>[]) (fun _=>false)
def zDK:Ann:=⟨31,[(0,zK [0] []),(1,zK [4,5] [4]),(2,zK [4,5,15] [4]),(3,zK [2,3] []),(4,zK [4,6] [4]),(5,zK [6,18,19,20] []),(6,zK [6,18,19,20,21] [28]),(7,zK [6,8,18,19,20] [8,28]),(8,zK [6,18,19,20] [28]),(9,zK [6,18,19,20] [28]),(10,zK [2,3] [28])],
 [(6,⟨[6,18,19,20],[28],[(6,28,37,fun _=>zar default)],[],[],[],[]⟩)],
 [(2,zK [4,5] [4]),(4,zK [4] [4]),(6,zK [6,18,19,20] [])],
 [],[]⟩
abbrev R31:=((Sl Line)×Int)
abbrev e31 (r:R31):List PA:=[.one (.sl r.1.len 4 (fun i=>zar (r.1.get i))),.one (.int .i64 r.2)]
@[irreducible] def z31:=ptF Try.prog G31 zDK Try.f31
def zBO (zb7:(Sl straight)) (zcm:Int) (zc3:Int) (zcz:(Sl Line)) (ze0:Nat→List PV):St:=⟨[(6,zv 28),(18,zS zah 3 zb7),(19,zI zcm),(20,zI zc3)],[(28,.vec 37 4 32 zcz.len ze0)],[]⟩
abbrev zIh (K:List PA→Prop) (zb7:(Sl straight)) (zcm:Int) (X:St→Prop) (P:Int→(Sl Line)→Bool) (S:Int→(Sl Line)→((Sl Line)×Int)):Prop:=∀ ⦃zc3:Int⦄ ⦃zcz:(Sl Line)⦄ ⦃ze0:Nat→List PV⦄,P zc3 zcz=true→K (e31 (S zc3 zcz))→ze0=zg zar zcz→X (zBO zb7 zcm zc3 zcz ze0)
section
variable {K:List PA→Prop} {zaa:(Sl Gate)} {ev0:Int} {zmb:(Sl Gate)} {zmc:(Sl straight)} {zo3:Nat→List PV} {zo4:Nat→List PV} {ziz:(Sl Gate)} {ziA:(Sl straight)} {zuM:Nat→List PV} {zuN:Nat→List PV} {zb7:(Sl straight)} {zcm:Int} {zuO:Nat→List PV} {zc3:Int} {zcz:(Sl Line)} {ze0:Nat→List PV} {X3:St→Prop} {P3:Int→(Sl Line)→Bool} {S3:Int→(Sl Line)→((Sl Line)×Int)}
def zhx (zb7:(Sl straight)) (zcm:Int) (S3:Int→(Sl Line)→((Sl Line)×Int)) (zc3:Int) (zcz:(Sl Line)):((Sl Line)×Int) :=
  (cond (decide (zc3 < zcm))
 (S3 (w64 (zc3+(1:Int))) (⟨(zcz.len+1),(zdA zcz.len zcz.get (fun _=>(s79 (zb7.get zc3.toNat))))⟩:Sl Line))
 (zcz,(0:Int)))
def zhy (zb7:(Sl straight)) (zcm:Int) (P3:Int→(Sl Line)→Bool) (zc3:Int) (zcz:(Sl Line)):Bool :=
  (cond (decide (zc3 < zcm))
 (decide ((0≤zc3∧zc3 < (zb7.len:Int))) &&
 (decide ((p79 (zb7.get zc3.toNat)=true)) &&
 (decide (((zcz.len+1) * 32≤140737488355328∧zcz.len+1≤9223372036854775807)) &&
 (P3 (w64 (zc3+(1:Int))) (⟨(zcz.len+1),(zdA zcz.len zcz.get (fun _=>(s79 (zb7.get zc3.toNat))))⟩:Sl Line)))))
 true)
def zhz (zb7:(Sl straight)) (zcm:Int):Nat→Int→(Sl Line)→((Sl Line)×Int):=lpO (fun _ _=>default) (zhx zb7 zcm)
def zhA (zb7:(Sl straight)) (zcm:Int):Nat→Int→(Sl Line)→Bool:=lpO (fun _ _=>false) (zhy zb7 zcm)
def zo5 (zb7:(Sl straight)) (zcm:Int) (zc3:Int) (zcz:(Sl Line)):((Sl Line)×Int):=zhz zb7 zcm Fuel zc3 zcz
def zmd (zb7:(Sl straight)) (zcm:Int) (zc3:Int) (zcz:(Sl Line)):Bool:=zhA zb7 zcm Fuel zc3 zcz
theorem zDL (hs:zmd zb7 zcm zc3 zcz=true) (hk:K (e31 (zo5 zb7 zcm zc3 zcz))) (zo6:ze0=zg zar zcz):z31 (Wk K) [1,1,1,1,0,1,0] [] (zBO zb7 zcm zc3 zcz ze0) :=
  zl (fun X=>z31 (Wk K) [1,1,1,1,0,1,0,0] [X]) (by kernel_rfl) fun X3 hX =>
  (show ∀ k, zIh K zb7 zcm X3 (zhA zb7 zcm k) (zhz zb7 zcm k) from zeK _ _ (zhy zb7 zcm) (zhx zb7 zcm) (zIh K zb7 zcm X3)
 (by intro _ _ _ hs;exact absurd hs Bool.false_ne_true)
 (by intro P3 S3 hX3 zc3 zcz ze0 hs hk zo6;subst zo6;exact hX _ (zay (by kernel_rfl) (zc hs hk (fun hs hk=>(zav hs fun hc hs=>And.intro hc (zav hs fun hc hs=>And.intro hc (zav hs fun hc hs=>And.intro hc (hX3 hs hk (zeH (enc:=zar) (f:=zcz.get) (h:=(fun _=>(s79 (zb7.get zc3.toNat)))) rfl rfl)))))) (fun hs hk=>((zd4 hk):Wk K [.one (.sl zcz.len 4 (fun i=>zar (zcz.get i))),.one (.int .i64 (0:Int))])))))) _ hs hk zo6
def zo7 (zb7:(Sl straight)) (zcm:Int):((Sl Line)×Int) :=
  (zo5 zb7 zcm (0:Int) (⟨0,(fun _=>default)⟩:Sl Line))
def zo8 (zb7:(Sl straight)) (zcm:Int):Bool :=
  (zmd zb7 zcm (0:Int) (⟨0,(fun _=>default)⟩:Sl Line))
theorem zDM (hs:zo8 zb7 zcm=true) (hk:K (e31 (zo7 zb7 zcm))) (zDN:zuO=zg zah zb7):z31 (Wk K) [1,1,1,1,0,1] [] ⟨[(6,zP (.nils)),(18,zP (.sl zb7.len 3 zuO)),(19,zI zcm),(20,zI (0:Int))],[],[]⟩:=by subst zDN;exact zay (by kernel_rfl) (zDL hs hk rfl)
def zo9 (ziz:(Sl Gate)) (ziA:(Sl straight)):((Sl Line)×Int) :=
  (zo7 (s78 (⟨(⟨ziz⟩:list),ziA⟩:set)) ((s78 (⟨(⟨ziz⟩:list),ziA⟩:set)).len:Int))
def zpa (ziz:(Sl Gate)) (ziA:(Sl straight)):Bool :=
  (decide ((p78 (⟨(⟨ziz⟩:list),ziA⟩:set)=true)) &&
 (zo8 (s78 (⟨(⟨ziz⟩:list),ziA⟩:set)) ((s78 (⟨(⟨ziz⟩:list),ziA⟩:set)).len:Int)))
theorem zDO (hs:zpa ziz ziA=true) (hk:K (e31 (zo9 ziz ziA))) (zDP:zuM=zg enc_55 ziz) (zDQ:zuN=zg zah ziA):z31 (Wk K) [1,1,1] [] ⟨[(4,zp 4 0)],[(4,.box 104 [.p (.sl ziz.len 3 zuM),.p (.sl ziA.len 3 zuN)])],[]⟩:=by subst zDP;subst zDQ;exact zay (by kernel_rfl) (zav hs fun hc hs=>And.intro (And.intro (zE enc_55 3 ziz.get) (And.intro (zE zah 3 ziA.get) hc)) (zDM hs hk rfl))
def zme (ev0:Int) (zmb:(Sl Gate)) (zmc:(Sl straight)):((Sl Line)×Int) :=
  (cond (ev0 != (0:Int))
 ((⟨0,fun _=>default⟩:(Sl Line)),ev0)
 (zo9 zmb zmc))
def zmf (ev0:Int) (zmb:(Sl Gate)) (zmc:(Sl straight)):Bool :=
  (cond (ev0 != (0:Int))
 true
 (zpa zmb zmc))
theorem zDR (hs:zmf ev0 zmb zmc=true) (hk:K (e31 (zme ev0 zmb zmc))) (zDS:zo3=zg enc_55 zmb) (zDT:zo4=zg zah zmc):z31 (Wk K) [1,1] [] ⟨[(4,zp 4 0),(5,zI ev0)],[(4,.box 104 [.p (.sl zmb.len 3 zo3),.p (.sl zmc.len 3 zo4)])],[]⟩:=by subst zDS;subst zDT;exact zay (by kernel_rfl) (zc hs hk (fun hs hk=>((wk hk (zc4 (.one (.nil _ _)) (zc4 (.one (.rfl _)) zhk))):Wk K [.one (.nils),.one (.int .i64 ev0)])) (fun hs hk=>(zDO hs hk rfl rfl)))
def s31 (zaa:(Sl Gate)):((Sl Line)×Int) :=
  (zme ((s75 zaa).2) (((s75 zaa).1).list.Gates) (((s75 zaa).1).corners))
def p31 (zaa:(Sl Gate)):Bool :=
  (decide ((p75 zaa=true)) &&
 (zmf ((s75 zaa).2) (((s75 zaa).1).list.Gates) (((s75 zaa).1).corners)))
end
theorem q31 (zaa:(Sl Gate)) (K:List PA→Prop) (hs:p31 zaa=true) (hk:K (e31 (s31 zaa))):vcFun Try.prog G31 zDK 31 [.one (.sl zaa.len 3 (fun i=>enc_55 (zaa.get i)))] (Wk K) :=
  zay (by kernel_rfl) (zav hs fun hc hs=>And.intro (And.intro (zE enc_55 3 zaa.get) hc) (zDR hs hk rfl rfl))
def zuP : List PA → COut
  | [.one (.sl a0_n a0_s a0_g)]=>.det (IsE enc_55 3 a0_s a0_g∧p31 (⟨a0_n,zad a0_g⟩:(Sl Gate))=true) [.one (.sl (((s31 (⟨a0_n,zad a0_g⟩:(Sl Gate))).1).len) 4 (fun i=>zar (((s31 (⟨a0_n,zad a0_g⟩:(Sl Gate))).1).get i))),.one (.int .i64 ((s31 (⟨a0_n,zad a0_g⟩:(Sl Gate))).2))]
  | _=>.no
theorem zIi:zaf Try.prog 31:=⟨_,rfl,rfl,by kernel_rfl⟩
theorem zLj:Ok Try.prog 31 zuP:=zhl zLi zIi fun args K h=>by
  unfold zuP at h
  split at h
  · rename_i a0_n a0_s a0_g
    obtain ⟨⟨⟨rfl,a0_f,rfl⟩,hs⟩,hk⟩:=h
    try rw [zac a0_f] at hs
    try rw [zac a0_f] at hk
    exact ⟨_,zeS zfS _,(fun _ _=>[]),(fun _=>false),zDK,q31 (⟨a0_n,a0_f⟩:(Sl Gate)) K hs hk⟩
  · exact h.elim
abbrev T34:Tabs:=Tabs.nil
theorem zLk:TabsOk Try.prog T34:=TabsOk.nil
abbrev G34:Ctrs:=csm T34 (fun _ _=>[]) (fun _=>false)
def zDU:Ann:=⟨26,[(0,zK [0,1] []),(1,zK [0,1,10] []),(2,zK [4] []),(3,zK [0,1,5] []),(4,zK [0,1,5,14] []),(5,zK [0,1,5] []),(6,zK [0,1,5,25] []),(7,zK [4] []),(8,zK [4] [])],
 [(4,zK [0,1,5] [])],
 [(3,zK [0,1] [])],
 [],[]⟩
abbrev R34:=Bool
abbrev e34 (r:R34):List PA:=[.one (.bool r)]
@[irreducible] def z34:=ptF Try.prog G34 zDU Try.f34
def zBP (a:(Sl Line)) (b:(Sl Line)) (iv1:Int):St:=⟨[(0,zS zar 4 a),(1,zS zar 4 b),(5,zI iv1)],[],[]⟩
abbrev zIj (K:List PA→Prop) (a:(Sl Line)) (b:(Sl Line)) (X:St→Prop) (P:Int→Bool) (S:Int→Bool):Prop:=∀ ⦃iv1:Int⦄,P iv1=true→K (e34 (S iv1))→X (zBP a b iv1)
section
variable {K:List PA→Prop} {a:(Sl Line)} {b:(Sl Line)} {iv1:Int} {X1:St→Prop} {P1:Int→Bool} {S1:Int→Bool}
def zhB (a:(Sl Line)) (b:(Sl Line)) (S1:Int→Bool) (iv1:Int):Bool :=
  (cond (decide (iv1 < (a.len : Int)))
 (cond (!(match (match ((a.get iv1.toNat).Slope.Num == (b.get iv1.toNat).Slope.Num) with | true => (match ((a.get iv1.toNat).Slope.Den == (b.get iv1.toNat).Slope.Den) with | true => true | false => false) | false => false) with | true => (match (match ((a.get iv1.toNat).Start.Num == (b.get iv1.toNat).Start.Num) with | true => (match ((a.get iv1.toNat).Start.Den == (b.get iv1.toNat).Start.Den) with | true => true | false => false) | false => false) with | true => true | false => false) | false => false))
 false
 (S1 (w64 (iv1+(1:Int)))))
 true)
def zhC (a:(Sl Line)) (b:(Sl Line)) (P1:Int→Bool) (iv1:Int):Bool :=
  (cond (decide (iv1 < (a.len : Int)))
 (decide ((0≤iv1∧iv1 < (a.len:Int))) &&
 (decide ((0≤iv1∧iv1 < (b.len:Int))) &&
 (cond (!(match (match ((a.get iv1.toNat).Slope.Num == (b.get iv1.toNat).Slope.Num) with | true => (match ((a.get iv1.toNat).Slope.Den == (b.get iv1.toNat).Slope.Den) with | true => true | false => false) | false => false) with | true => (match (match ((a.get iv1.toNat).Start.Num == (b.get iv1.toNat).Start.Num) with | true => (match ((a.get iv1.toNat).Start.Den == (b.get iv1.toNat).Start.Den) with | true => true | false => false) | false => false) with | true => true | false => false) | false => false))
 true
 (P1 (w64 (iv1+(1:Int)))))))
 true)
def zhD (a:(Sl Line)) (b:(Sl Line)):Nat→Int→Bool:=lpO (fun _=>default) (zhB a b)
def zhE (a:(Sl Line)) (b:(Sl Line)):Nat→Int→Bool:=lpO (fun _=>false) (zhC a b)
def zuQ (a:(Sl Line)) (b:(Sl Line)) (iv1:Int):Bool:=zhD a b Fuel iv1
def zuR (a:(Sl Line)) (b:(Sl Line)) (iv1:Int):Bool:=zhE a b Fuel iv1
theorem zDV (hs:zuR a b iv1=true) (hk:K (e34 (zuQ a b iv1))):z34 K [1,1,0,1,0] [] (zBP a b iv1) :=
  zl (fun X=>z34 K [1,1,0,1,0,0] [X]) (by kernel_rfl) fun X1 hX =>
  (show ∀ k, zIj K a b X1 (zhE a b k) (zhD a b k) from zeK _ _ (zhC a b) (zhB a b) (zIj K a b X1)
 (by intro _ hs;exact absurd hs Bool.false_ne_true)
 (by intro P1 S1 hX1 iv1 hs hk;exact hX _ (zay (by kernel_rfl) (zc hs hk (fun hs hk=>(zav hs fun hc hs=>And.intro hc (zav hs fun hc hs=>And.intro hc (zc hs hk (fun hs hk=>hk) (fun hs hk=>(hX1 hs hk)))))) (fun hs hk=>hk))))) _ hs hk
def zuS (a:(Sl Line)) (b:(Sl Line)):Bool :=
  (zuQ a b (0:Int))
def zuT (a:(Sl Line)) (b:(Sl Line)):Bool :=
  (zuR a b (0:Int))
theorem zDW (hs:zuT a b=true) (hk:K (e34 (zuS a b))):z34 K [1,1] [] ⟨[(0,zS zar 4 a),(1,zS zar 4 b)],[],[]⟩:=zay (by kernel_rfl) (zDV hs hk)
def s34 (a:(Sl Line)) (b:(Sl Line)):Bool :=
  (cond ((a.len : Int) != (b.len : Int))
 false
 (zuS a b))
def p34 (a:(Sl Line)) (b:(Sl Line)):Bool :=
  (cond ((a.len : Int) != (b.len : Int))
 true
 (zuT a b))
end
theorem q34 (a:(Sl Line)) (b:(Sl Line)) (K:List PA→Prop) (hs:p34 a b=true) (hk:K (e34 (s34 a b))):vcFun Try.prog G34 zDU 34 [.one (.sl a.len 4 (fun i=>zar (a.get i))),.one (.sl b.len 4 (fun i=>zar (b.get i)))] K :=
  zay (by kernel_rfl) (zc hs hk (fun hs hk=>hk) (fun hs hk=>(zDW hs hk)))
def zAh : List PA → COut
  | [.one (.sl a0_n a0_s a0_g),.one (.sl a1_n a1_s a1_g)]=>.det (IsE zar 4 a0_s a0_g∧IsE zar 4 a1_s a1_g∧p34 (⟨a0_n,zjF a0_g⟩:(Sl Line)) (⟨a1_n,zjF a1_g⟩:(Sl Line))=true) [.one (.bool (s34 (⟨a0_n,zjF a0_g⟩:(Sl Line)) (⟨a1_n,zjF a1_g⟩:(Sl Line))))]
  | _=>.no
theorem zIk:zaf Try.prog 34:=⟨_,rfl,rfl,by kernel_rfl⟩
theorem zMI:Ok Try.prog 34 zAh:=zaz zLk zIk fun args K h=>by
  unfold zAh at h
  split at h
  · rename_i a0_n a0_s a0_g a1_n a1_s a1_g
    obtain ⟨⟨⟨rfl,a0_f,rfl⟩,⟨rfl,a1_f,rfl⟩,hs⟩,hk⟩:=h
    try rw [zer a0_f] at hs
    try rw [zer a0_f] at hk
    try rw [zer a1_f] at hs
    try rw [zer a1_f] at hk
    exact ⟨(fun _ _=>[]),(fun _=>false),zDU,q34 (⟨a0_n,a0_f⟩:(Sl Line)) (⟨a1_n,a1_f⟩:(Sl Line)) K hs hk⟩
  · exact h.elim
abbrev T83:Tabs:=Tabs.nil
theorem zLl:TabsOk Try.prog T83:=TabsOk.nil
abbrev G83:Ctrs:=csm T83 (fun _ _=>[]) (fun _=>false)
def zIl:Ann:=⟨8,[(0,zK [1,2] [1,2]),(1,zK [2] [2])],
 [],
 [],
 [],[]⟩
abbrev R83:=Frac
abbrev e83 (r:R83):List PA:=[.agg [.int .i64 r.Num,.int .i64 r.Den]]
section
variable {K:List PA→Prop} {x:straight}
def s83 (x:straight):Frac :=
  (⟨x.slope,x.den⟩:Frac)
end
theorem q83 (x:straight) (K:List PA→Prop) (hk:K (e83 (s83 x))):vcFun Try.prog G83 zIl 83 [.agg (zah x)] K :=
  zay (by kernel_rfl) hk
def zDX : List PA → COut
  | [.agg [.int .i64 a0_slope,.int .i64 a0_start,.int .i64 a0_den]]=>.tot [.agg [.int .i64 ((s83 (⟨a0_slope,a0_start,a0_den⟩:straight)).Num),.int .i64 ((s83 (⟨a0_slope,a0_start,a0_den⟩:straight)).Den)]]
  | _=>.no
theorem zIm:zaf Try.prog 83:=⟨_,rfl,rfl,by kernel_rfl⟩
theorem zNZ:Ok Try.prog 83 zDX:=zaz zLl zIm fun args K h=>by
  unfold zDX at h
  split at h
  · rename_i a0_slope a0_start a0_den
    have hk:=h
    exact ⟨(fun _ _=>[]),(fun _=>false),zIl,q83 (⟨a0_slope,a0_start,a0_den⟩:straight) K hk⟩
  · exact h.elim
abbrev zMJ:Tabs:=Tabs.nil
theorem zIn:TabsOk Try.prog zMJ:=TabsOk.nil
abbrev zN0:Ctrs:=csm zMJ (fun _ _=>[]) (fun _=>false)
def zBQ:Ann:=⟨15,[(0,zK [1,2,4] [2,4]),(1,zK [4] [4])],
 [],
 [],
 [],[]⟩
abbrev zN1:=Frac
abbrev zN2 (r:zN1):List PA:=[.agg [.int .i64 r.Num,.int .i64 r.Den]]
section
variable {K:List PA→Prop} {s:straight} {z:Int}
def zIo (s:straight) (z:Int):Frac :=
  (⟨(w64 (s.start+(w64 (s.slope * z)))),s.den⟩:Frac)
end
theorem zN3 (s:straight) (z:Int) (K:List PA→Prop) (hk:K (zN2 (zIo s z))):vcFun Try.prog zN0 zBQ 102 [.agg (zah s),.one (.int .i64 z)] K :=
  zay (by kernel_rfl) hk
def zuU : List PA → COut
  | [.agg [.int .i64 a0_slope,.int .i64 a0_start,.int .i64 a0_den],.one (.int .i64 a1)]=>.tot [.agg [.int .i64 ((zIo (⟨a0_slope,a0_start,a0_den⟩:straight) a1).Num),.int .i64 ((zIo (⟨a0_slope,a0_start,a0_den⟩:straight) a1).Den)]]
  | _=>.no
theorem zDY:zaf Try.prog 102:=⟨_,rfl,rfl,by kernel_rfl⟩
theorem zLm:Ok Try.prog 102 zuU:=zaz zIn zDY fun args K h=>by
  unfold zuU at h
  split at h
  · rename_i a0_slope a0_start a0_den a1
    have hk:=h
    exact ⟨(fun _ _=>[]),(fun _=>false),zBQ,zN3 (⟨a0_slope,a0_start,a0_den⟩:straight) a1 K hk⟩
  · exact h.elim
abbrev zMK:Tabs:=(Tabs.nil.addF 102 zuU)
theorem zIp:TabsOk Try.prog zMK:=(TabsOk.nil.addF zLm)
abbrev zN4:Ctrs:=csm zMK (fun _ _=>[]) (fun _=>false)
def zBR:Ann:=⟨7,[(0,zK [1,2,3] [2,3]),(1,zK [3] [3])],
 [],
 [],
 [],[]⟩
abbrev zN5:=Frac
abbrev zN6 (r:zN5):List PA:=[.agg [.int .i64 r.Num,.int .i64 r.Den]]
section
variable {K:List PA→Prop} {c0:Int} {x:straight}
def zuV (c0:Int) (x:straight):Frac :=
  (zIo x c0)
end
theorem zN7 (c0:Int) (x:straight) (K:List PA→Prop) (hk:K (zN6 (zuV c0 x))):vcFun Try.prog zN4 zBR 101 [.agg (zah x),.one (.fp (zal c0) 0)] K :=
  zay (by kernel_rfl) hk
def zuW : List PA → COut
  | [.agg [.int .i64 a0_slope,.int .i64 a0_start,.int .i64 a0_den],.one (.fp [.int .i64 c0] 0)]=>.tot [.agg [.int .i64 ((zuV c0 (⟨a0_slope,a0_start,a0_den⟩:straight)).Num),.int .i64 ((zuV c0 (⟨a0_slope,a0_start,a0_den⟩:straight)).Den)]]
  | _=>.no
theorem zDZ:zaf Try.prog 101:=⟨_,rfl,rfl,by kernel_rfl⟩
theorem zLn:Ok Try.prog 101 zuW:=zaz zIp zDZ fun args K h=>by
  unfold zuW at h
  split at h
  · rename_i a0_slope a0_start a0_den c0
    have hk:=h
    exact ⟨(fun _ _=>[]),(fun _=>false),zBR,zN7 c0 (⟨a0_slope,a0_start,a0_den⟩:straight) K hk⟩
  · exact h.elim
abbrev zML:Tabs:=(Tabs.nil.addF 69 zsD)
theorem zIq:TabsOk Try.prog zML:=(TabsOk.nil.addF zKm)
abbrev zN8:Ctrs:=csm zML (fun _ _=>[]) (fun _=>false)
def zBS:Ann:=⟨9,[(0,zK [2,3] [2,3]),(1,zK [4] [])],
 [],
 [],
 [],[]⟩
abbrev zN9:=Bool
abbrev zOa (r:zN9):List PA:=[.one (.bool r)]
section
variable {K:List PA→Prop} {a:Frac} {b:Frac}
def zAi (a:Frac) (b:Frac):Bool :=
  (decide ((s69 a b) < (0:Int)))
end
theorem zOb (a:Frac) (b:Frac) (K:List PA→Prop) (hk:K (zOa (zAi a b))):vcFun Try.prog zN8 zBS 112 [.agg (zae a),.agg (zae b)] K :=
  zay (by kernel_rfl) hk
def zuX : List PA → COut
  | [.agg [.int .i64 a0_Num,.int .i64 a0_Den],.agg [.int .i64 a1_Num,.int .i64 a1_Den]]=>.tot [.one (.bool (zAi (⟨a0_Num,a0_Den⟩:Frac) (⟨a1_Num,a1_Den⟩:Frac)))]
  | _=>.no
theorem zD0:zaf Try.prog 112:=⟨_,rfl,rfl,by kernel_rfl⟩
theorem zLo:Ok Try.prog 112 zuX:=zaz zIq zD0 fun args K h=>by
  unfold zuX at h
  split at h
  · rename_i a0_Num a0_Den a1_Num a1_Den
    have hk:=h
    exact ⟨(fun _ _=>[]),(fun _=>false),zBS,zOb (⟨a0_Num,a0_Den⟩:Frac) (⟨a1_Num,a1_Den⟩:Frac) K hk⟩
  · exact h.elim
abbrev zMM:Tabs:=(Tabs.nil.addF 69 zsD)
theorem zIr:TabsOk Try.prog zMM:=(TabsOk.nil.addF zKm)
abbrev zOc:Ctrs:=csm zMM (fun _ _=>[]) (fun _=>false)
def zBT:Ann:=⟨9,[(0,zK [2,3] [2,3]),(1,zK [4] [])],
 [],
 [],
 [],[]⟩
abbrev zOd:=Bool
abbrev zOe (r:zOd):List PA:=[.one (.bool r)]
section
variable {K:List PA→Prop} {a:Frac} {b:Frac}
def zAj (a:Frac) (b:Frac):Bool :=
  (decide ((s69 a b) > (0:Int)))
end
theorem zOf (a:Frac) (b:Frac) (K:List PA→Prop) (hk:K (zOe (zAj a b))):vcFun Try.prog zOc zBT 113 [.agg (zae a),.agg (zae b)] K :=
  zay (by kernel_rfl) hk
def zuY : List PA → COut
  | [.agg [.int .i64 a0_Num,.int .i64 a0_Den],.agg [.int .i64 a1_Num,.int .i64 a1_Den]]=>.tot [.one (.bool (zAj (⟨a0_Num,a0_Den⟩:Frac) (⟨a1_Num,a1_Den⟩:Frac)))]
  | _=>.no
theorem zD1:zaf Try.prog 113:=⟨_,rfl,rfl,by kernel_rfl⟩
theorem zLp:Ok Try.prog 113 zuY:=zaz zIr zD1 fun args K h=>by
  unfold zuY at h
  split at h
  · rename_i a0_Num a0_Den a1_Num a1_Den
    have hk:=h
    exact ⟨(fun _ _=>[]),(fun _=>false),zBT,zOf (⟨a0_Num,a0_Den⟩:Frac) (⟨a1_Num,a1_Den⟩:Frac) K hk⟩
  · exact h.elim
abbrev zLq:Tabs:=((Tabs.nil.addF 112 zuX).addF 113 zuY)
theorem zIs:TabsOk Try.prog zLq:=((TabsOk.nil.addF zLo).addF zLp)
abbrev zMN:Ctrs:=csm zLq (fun _ _=>[]) (fun _=>false)
def zuZ:Ann:=⟨25,[(0,zK [0,1,4] [4]),(1,zK [0,1,4,5] [4,5]),(2,zK [1,4,5,12,13,14] [4,5]),(3,zK [1,4,5,12,13,14,15] [4,5]),(4,zK [1,4,5,7,12,13,14] [4,5,7]),(5,zK [1,4,5,7,12,13,14,21] [4,5,7]),(6,zK [1,4,5,12,13,14] [4,5]),(7,zK [1,4,5,12,13,14] [4,5]),(8,zK [4] [4])],
 [(3,zK [1,4,5,12,13,14] [4,5])],
 [(6,zK [1,4,5,7,12,13,14,21] [4,5,7])],
 [],[]⟩
abbrev zOg:=Frac
abbrev zKn (r:zOg):List PA:=[.agg [.int .i64 r.Num,.int .i64 r.Den]]
@[irreducible] def z111:=ptF Try.prog zMN zuZ Try.f111
def zu0 (l_a0:(Sl Frac)) (zaJ:(Sl Frac)) (zai:Int) (zao:Int) (zaq:Int) (zcd:Nat→List PV):St:=⟨[(1,zP (.fn 112 [] [])),(4,zp 4 0),(5,zp 5 0),(12,zP (.sl zaJ.len 2 zcd)),(13,zI (((l_a0.len:Int) - (1:Int)).toNat:Int)),(14,zI zai)],[(4,.box 25 (zm (zae (⟨(0:Int),(0:Int)⟩:Frac)))),(5,.box 25 (zm (zae (⟨zao,zaq⟩:Frac))))],[]⟩
abbrev zu1 (K:List PA→Prop) (l_a0:(Sl Frac)) (X:St→Prop) (P:(Sl Frac)→Int→Int→Int→Bool) (S:(Sl Frac)→Int→Int→Int→Frac):Prop:=∀ ⦃zaJ:(Sl Frac)⦄ ⦃zai:Int⦄ ⦃zao:Int⦄ ⦃zaq:Int⦄ ⦃zcd:Nat→List PV⦄,P zaJ zai zao zaq=true→K (zKn (S zaJ zai zao zaq))→zcd=zg zae zaJ→X (zu0 l_a0 zaJ zai zao zaq zcd)
section
variable {K:List PA→Prop} {l_a0:(Sl Frac)} {zaJ:(Sl Frac)} {zai:Int} {zao:Int} {zaq:Int} {zcd:Nat→List PV} {X0:St→Prop} {P0:(Sl Frac)→Int→Int→Int→Bool} {S0:(Sl Frac)→Int→Int→Int→Frac} {zdT:(Sl Frac)} {zaQ:Int} {zf7:Bool} {zcq:Int} {zcr:Int} {zf8:Int} {zf9:Int} {zjQ:Nat→List PV}
def zmg (S0:(Sl Frac)→Int→Int→Int→Frac) (l_a0:(Sl Frac)) (zdT:(Sl Frac)) (zaQ:Int) (zf7:Bool) (zcq:Int) (zcr:Int) (zf8:Int) (zf9:Int):Frac :=
  (cond zf7
 (S0 zdT (w64 (zaQ+(1:Int))) zf8 zf9)
 (S0 zdT (w64 (zaQ+(1:Int))) zcq zcr))
def zmh (P0:(Sl Frac)→Int→Int→Int→Bool) (l_a0:(Sl Frac)) (zdT:(Sl Frac)) (zaQ:Int) (zf7:Bool) (zcq:Int) (zcr:Int) (zf8:Int) (zf9:Int):Bool :=
  (cond zf7
 (P0 zdT (w64 (zaQ+(1:Int))) zf8 zf9)
 (P0 zdT (w64 (zaQ+(1:Int))) zcq zcr))
theorem zAk (hX0:zu1 K l_a0 X0 P0 S0) (hs:zmh P0 l_a0 zdT zaQ zf7 zcq zcr zf8 zf9=true) (hk:K (zKn (zmg S0 l_a0 zdT zaQ zf7 zcq zcr zf8 zf9))) (zpb:zjQ=zg zae zdT):z111 K [1,1,0,1,0,0,1,1,0,0,1,1] [X0] ⟨[(1,zP (.fn 112 [] [])),(4,zp 4 0),(5,zp 5 0),(7,zp 7 0),(12,zP (.sl zdT.len 2 zjQ)),(13,zI (((l_a0.len:Int) - (1:Int)).toNat:Int)),(14,zI zaQ),(21,zB zf7)],[(4,.box 25 (zm (zae (⟨(0:Int),(0:Int)⟩:Frac)))),(5,.box 25 (zm (zae (⟨zcq,zcr⟩:Frac)))),(7,.box 25 (zm (zae (⟨zf8,zf9⟩:Frac))))],[]⟩:=by subst zpb;exact zay (by kernel_rfl) (zc hs hk (fun hs hk=>(hX0 hs hk rfl)) (fun hs hk=>(hX0 hs hk rfl)))
def zfv (l_a0:(Sl Frac)) (S0:(Sl Frac)→Int→Int→Int→Frac) (zaJ:(Sl Frac)) (zai:Int) (zao:Int) (zaq:Int):Frac :=
  (cond (decide (zai < (((l_a0.len : Int) - (1:Int)).toNat : Int)))
 (zmg S0 l_a0 zaJ zai (zAi (zaJ.get zai.toNat) (⟨zao,zaq⟩:Frac)) zao zaq ((zaJ.get zai.toNat).Num) ((zaJ.get zai.toNat).Den))
 (⟨zao,zaq⟩:Frac))
def zfw (l_a0:(Sl Frac)) (P0:(Sl Frac)→Int→Int→Int→Bool) (zaJ:(Sl Frac)) (zai:Int) (zao:Int) (zaq:Int):Bool :=
  (cond (decide (zai < (((l_a0.len : Int) - (1:Int)).toNat : Int)))
 (decide ((0≤zai∧zai < (zaJ.len:Int))) &&
 (zmh P0 l_a0 zaJ zai (zAi (zaJ.get zai.toNat) (⟨zao,zaq⟩:Frac)) zao zaq ((zaJ.get zai.toNat).Num) ((zaJ.get zai.toNat).Den)))
 true)
def zfx (l_a0:(Sl Frac)):Nat→(Sl Frac)→Int→Int→Int→Frac:=lpO (fun _ _ _ _=>default) (zfv l_a0)
def zfy (l_a0:(Sl Frac)):Nat→(Sl Frac)→Int→Int→Int→Bool:=lpO (fun _ _ _ _=>false) (zfw l_a0)
def zrl (l_a0:(Sl Frac)) (zaJ:(Sl Frac)) (zai:Int) (zao:Int) (zaq:Int):Frac:=zfx l_a0 Fuel zaJ zai zao zaq
def zrm (l_a0:(Sl Frac)) (zaJ:(Sl Frac)) (zai:Int) (zao:Int) (zaq:Int):Bool:=zfy l_a0 Fuel zaJ zai zao zaq
theorem zAl (hs:zrm l_a0 zaJ zai zao zaq=true) (hk:K (zKn (zrl l_a0 zaJ zai zao zaq))) (zga:zcd=zg zae zaJ):z111 K [1,1,0,1,0] [] (zu0 l_a0 zaJ zai zao zaq zcd) :=
  zl (fun X=>z111 K [1,1,0,1,0,0] [X]) (by kernel_rfl) fun X0 hX =>
  (show ∀ k, zu1 K l_a0 X0 (zfy l_a0 k) (zfx l_a0 k) from zeK _ _ (zfw l_a0) (zfv l_a0) (zu1 K l_a0 X0)
 (by intro _ _ _ _ _ hs;exact absurd hs Bool.false_ne_true)
 (by intro P0 S0 hX0 zaJ zai zao zaq zcd hs hk zga;subst zga;exact hX _ (zay (by kernel_rfl) (zc hs hk (fun hs hk=>(zav hs fun hc hs=>And.intro hc (zAk hX0 hs hk rfl))) (fun hs hk=>hk))))) _ hs hk zga
def zpc (l_a0:(Sl Frac)):Frac :=
  (zrl l_a0 (⟨((l_a0.len:Int) - (1:Int)).toNat,(fun i=>l_a0.get (i+((1:Int).toNat)))⟩:Sl Frac) (0:Int) ((l_a0.get 0).Num) ((l_a0.get 0).Den))
def zGK (l_a0:(Sl Frac)):Bool :=
  (decide ((0≤(0:Int)∧(0:Int) < (l_a0.len:Int))) &&
 (decide ((0≤(1:Int)∧(1:Int)≤(l_a0.len:Int)∧(l_a0.len:Int)≤(l_a0.len:Int))) &&
 (zrm l_a0 (⟨((l_a0.len:Int) - (1:Int)).toNat,(fun i=>l_a0.get (i+((1:Int).toNat)))⟩:Sl Frac) (0:Int) ((l_a0.get 0).Num) ((l_a0.get 0).Den))))
end
theorem zOh (l_a0:(Sl Frac)) (K:List PA→Prop) (hs:zGK l_a0=true) (hk:K (zKn (zpc l_a0))):vcFun Try.prog zMN zuZ 111 [.one (.sl l_a0.len 2 (fun i=>zae (l_a0.get i))),.one (.fn 112 [] [])] K :=
  zay (by kernel_rfl) (zav hs fun hc hs=>And.intro hc (zav hs fun hc hs=>And.intro hc (zAl hs hk rfl)))
abbrev zIt:Ctrs:=csm zLq (fun _ _=>[]) (fun _=>false)
def zpd:Ann:=⟨25,[(0,zK [0,1,4] [4]),(1,zK [0,1,4,5] [4,5]),(2,zK [1,4,5,12,13,14] [4,5]),(3,zK [1,4,5,12,13,14,15] [4,5]),(4,zK [1,4,5,7,12,13,14] [4,5,7]),(5,zK [1,4,5,7,12,13,14,21] [4,5,7]),(6,zK [1,4,5,12,13,14] [4,5]),(7,zK [1,4,5,12,13,14] [4,5]),(8,zK [4] [4])],
 [(3,zK [1,4,5,12,13,14] [4,5])],
 [(6,zK [1,4,5,7,12,13,14,21] [4,5,7])],
 [],[]⟩
abbrev zLr:=Frac
abbrev zAm (r:zLr):List PA:=[.agg [.int .i64 r.Num,.int .i64 r.Den]]
@[irreducible] def z111a:=ptF Try.prog zIt zpd Try.f111
def zrn (l_a0:(Sl Frac)) (zaJ:(Sl Frac)) (zai:Int) (zao:Int) (zaq:Int) (zcd:Nat→List PV):St:=⟨[(1,zP (.fn 113 [] [])),(4,zp 4 0),(5,zp 5 0),(12,zP (.sl zaJ.len 2 zcd)),(13,zI (((l_a0.len:Int) - (1:Int)).toNat:Int)),(14,zI zai)],[(4,.box 25 (zm (zae (⟨(0:Int),(0:Int)⟩:Frac)))),(5,.box 25 (zm (zae (⟨zao,zaq⟩:Frac))))],[]⟩
abbrev zpe (K:List PA→Prop) (l_a0:(Sl Frac)) (X:St→Prop) (P:(Sl Frac)→Int→Int→Int→Bool) (S:(Sl Frac)→Int→Int→Int→Frac):Prop:=∀ ⦃zaJ:(Sl Frac)⦄ ⦃zai:Int⦄ ⦃zao:Int⦄ ⦃zaq:Int⦄ ⦃zcd:Nat→List PV⦄,P zaJ zai zao zaq=true→K (zAm (S zaJ zai zao zaq))→zcd=zg zae zaJ→X (zrn l_a0 zaJ zai zao zaq zcd)
section
variable {K:List PA→Prop} {l_a0:(Sl Frac)} {zaJ:(Sl Frac)} {zai:Int} {zao:Int} {zaq:Int} {zcd:Nat→List PV} {X0:St→Prop} {P0:(Sl Frac)→Int→Int→Int→Bool} {S0:(Sl Frac)→Int→Int→Int→Frac} {zdT:(Sl Frac)} {zaQ:Int} {zf7:Bool} {zcq:Int} {zcr:Int} {zf8:Int} {zf9:Int} {zjQ:Nat→List PV}
def zjR (S0:(Sl Frac)→Int→Int→Int→Frac) (l_a0:(Sl Frac)) (zdT:(Sl Frac)) (zaQ:Int) (zf7:Bool) (zcq:Int) (zcr:Int) (zf8:Int) (zf9:Int):Frac :=
  (cond zf7
 (S0 zdT (w64 (zaQ+(1:Int))) zf8 zf9)
 (S0 zdT (w64 (zaQ+(1:Int))) zcq zcr))
def zjS (P0:(Sl Frac)→Int→Int→Int→Bool) (l_a0:(Sl Frac)) (zdT:(Sl Frac)) (zaQ:Int) (zf7:Bool) (zcq:Int) (zcr:Int) (zf8:Int) (zf9:Int):Bool :=
  (cond zf7
 (P0 zdT (w64 (zaQ+(1:Int))) zf8 zf9)
 (P0 zdT (w64 (zaQ+(1:Int))) zcq zcr))
theorem zu3 (hX0:zpe K l_a0 X0 P0 S0) (hs:zjS P0 l_a0 zdT zaQ zf7 zcq zcr zf8 zf9=true) (hk:K (zAm (zjR S0 l_a0 zdT zaQ zf7 zcq zcr zf8 zf9))) (zpb:zjQ=zg zae zdT):z111a K [1,1,0,1,0,0,1,1,0,0,1,1] [X0] ⟨[(1,zP (.fn 113 [] [])),(4,zp 4 0),(5,zp 5 0),(7,zp 7 0),(12,zP (.sl zdT.len 2 zjQ)),(13,zI (((l_a0.len:Int) - (1:Int)).toNat:Int)),(14,zI zaQ),(21,zB zf7)],[(4,.box 25 (zm (zae (⟨(0:Int),(0:Int)⟩:Frac)))),(5,.box 25 (zm (zae (⟨zcq,zcr⟩:Frac)))),(7,.box 25 (zm (zae (⟨zf8,zf9⟩:Frac))))],[]⟩:=by subst zpb;exact zay (by kernel_rfl) (zc hs hk (fun hs hk=>(hX0 hs hk rfl)) (fun hs hk=>(hX0 hs hk rfl)))
def zd5 (l_a0:(Sl Frac)) (S0:(Sl Frac)→Int→Int→Int→Frac) (zaJ:(Sl Frac)) (zai:Int) (zao:Int) (zaq:Int):Frac :=
  (cond (decide (zai < (((l_a0.len : Int) - (1:Int)).toNat : Int)))
 (zjR S0 l_a0 zaJ zai (zAj (zaJ.get zai.toNat) (⟨zao,zaq⟩:Frac)) zao zaq ((zaJ.get zai.toNat).Num) ((zaJ.get zai.toNat).Den))
 (⟨zao,zaq⟩:Frac))
def zd6 (l_a0:(Sl Frac)) (P0:(Sl Frac)→Int→Int→Int→Bool) (zaJ:(Sl Frac)) (zai:Int) (zao:Int) (zaq:Int):Bool :=
  (cond (decide (zai < (((l_a0.len : Int) - (1:Int)).toNat : Int)))
 (decide ((0≤zai∧zai < (zaJ.len:Int))) &&
 (zjS P0 l_a0 zaJ zai (zAj (zaJ.get zai.toNat) (⟨zao,zaq⟩:Frac)) zao zaq ((zaJ.get zai.toNat).Num) ((zaJ.get zai.toNat).Den)))
 true)
def zd7 (l_a0:(Sl Frac)):Nat→(Sl Frac)→Int→Int→Int→Frac:=lpO (fun _ _ _ _=>default) (zd5 l_a0)
def zd8 (l_a0:(Sl Frac)):Nat→(Sl Frac)→Int→Int→Int→Bool:=lpO (fun _ _ _ _=>false) (zd6 l_a0)
def znN (l_a0:(Sl Frac)) (zaJ:(Sl Frac)) (zai:Int) (zao:Int) (zaq:Int):Frac:=zd7 l_a0 Fuel zaJ zai zao zaq
def znO (l_a0:(Sl Frac)) (zaJ:(Sl Frac)) (zai:Int) (zao:Int) (zaq:Int):Bool:=zd8 l_a0 Fuel zaJ zai zao zaq
theorem zu4 (hs:znO l_a0 zaJ zai zao zaq=true) (hk:K (zAm (znN l_a0 zaJ zai zao zaq))) (zga:zcd=zg zae zaJ):z111a K [1,1,0,1,0] [] (zrn l_a0 zaJ zai zao zaq zcd) :=
  zl (fun X=>z111a K [1,1,0,1,0,0] [X]) (by kernel_rfl) fun X0 hX =>
  (show ∀ k, zpe K l_a0 X0 (zd8 l_a0 k) (zd7 l_a0 k) from zeK _ _ (zd6 l_a0) (zd5 l_a0) (zpe K l_a0 X0)
 (by intro _ _ _ _ _ hs;exact absurd hs Bool.false_ne_true)
 (by intro P0 S0 hX0 zaJ zai zao zaq zcd hs hk zga;subst zga;exact hX _ (zay (by kernel_rfl) (zc hs hk (fun hs hk=>(zav hs fun hc hs=>And.intro hc (zu3 hX0 hs hk rfl))) (fun hs hk=>hk))))) _ hs hk zga
def s111a (l_a0:(Sl Frac)):Frac :=
  (znN l_a0 (⟨((l_a0.len:Int) - (1:Int)).toNat,(fun i=>l_a0.get (i+((1:Int).toNat)))⟩:Sl Frac) (0:Int) ((l_a0.get 0).Num) ((l_a0.get 0).Den))
def zsE (l_a0:(Sl Frac)):Bool :=
  (decide ((0≤(0:Int)∧(0:Int) < (l_a0.len:Int))) &&
 (decide ((0≤(1:Int)∧(1:Int)≤(l_a0.len:Int)∧(l_a0.len:Int)≤(l_a0.len:Int))) &&
 (znO l_a0 (⟨((l_a0.len:Int) - (1:Int)).toNat,(fun i=>l_a0.get (i+((1:Int).toNat)))⟩:Sl Frac) (0:Int) ((l_a0.get 0).Num) ((l_a0.get 0).Den))))
end
theorem zLs (l_a0:(Sl Frac)) (K:List PA→Prop) (hs:zsE l_a0=true) (hk:K (zAm (s111a l_a0))):vcFun Try.prog zIt zpd 111 [.one (.sl l_a0.len 2 (fun i=>zae (l_a0.get i))),.one (.fn 113 [] [])] K :=
  zay (by kernel_rfl) (zav hs fun hc hs=>And.intro hc (zav hs fun hc hs=>And.intro hc (zu4 hs hk rfl)))
def zu5 : List PA → COut
  | [.one (.sl a0_n a0_s a0_g),.one (.fn 112 [] [])]=>.det (IsE zae 2 a0_s a0_g∧zGK (⟨a0_n,zf5 a0_g⟩:(Sl Frac))=true) [.agg [.int .i64 ((zpc (⟨a0_n,zf5 a0_g⟩:(Sl Frac))).Num),.int .i64 ((zpc (⟨a0_n,zf5 a0_g⟩:(Sl Frac))).Den)]]
  | [.one (.sl a0_n a0_s a0_g),.one (.fn 113 [] [])]=>.det (IsE zae 2 a0_s a0_g∧zsE (⟨a0_n,zf5 a0_g⟩:(Sl Frac))=true) [.agg [.int .i64 ((s111a (⟨a0_n,zf5 a0_g⟩:(Sl Frac))).Num),.int .i64 ((s111a (⟨a0_n,zf5 a0_g⟩:(Sl Frac))).Den)]]
  | _=>.no
theorem zD2:zaf Try.prog 111:=⟨_,rfl,rfl,by kernel_rfl⟩
theorem zLt:Ok Try.prog 111 zu5:=zaz zIs zD2 fun args K h=>by
  unfold zu5 at h
  split at h
  · rename_i a0_n a0_s a0_g
    obtain ⟨⟨⟨rfl,a0_f,rfl⟩,hs⟩,hk⟩:=h
    try rw [zeq a0_f] at hs
    try rw [zeq a0_f] at hk
    exact ⟨(fun _ _=>[]),(fun _=>false),zuZ,zOh (⟨a0_n,a0_f⟩:(Sl Frac)) K hs hk⟩
  · rename_i a0_n a0_s a0_g
    obtain ⟨⟨⟨rfl,a0_f,rfl⟩,hs⟩,hk⟩:=h
    try rw [zeq a0_f] at hs
    try rw [zeq a0_f] at hk
    exact ⟨(fun _ _=>[]),(fun _=>false),zpd,zLs (⟨a0_n,a0_f⟩:(Sl Frac)) K hs hk⟩
  · exact h.elim
abbrev T82:Tabs:=((((Tabs.nil.addF 83 zDX).addF 89 zsz).addF 101 zuW).addF 111 zu5)
theorem zLu:TabsOk Try.prog T82:=((((TabsOk.nil.addF zNZ).addF zKf).addF zLn).addF zLt)
abbrev G82:Ctrs:=csm T82 (fun _ _=>[]) (fun _=>false)
def zD3:Ann:=⟨39,[(0,zK [1,2,4,5] [2,4,5]),(1,zK [1,2,4,5,6] [2,4,5]),(2,zK [1,4,5,6,12,13,14] [4,5]),(3,zK [1,4,5,6,12,13,14,15] [4,5,23]),(4,zK [1,4,5,6,8,12,13,14] [4,5,8,23]),(5,zK [1,4,5,6,12,13,14] [4,5,23]),(6,zK [1,4,5,6,12,13,14] [4,5,23]),(7,zK [4,5,6,9] [4,5,9,23]),(8,zK [4,5,9,10] [4,5,9,10]),(9,zK [4,5] [4,5])],
 [(3,⟨[1,4,5,6,12,13,14],[4,5,23],[(6,23,25,fun _=>zae default)],[],[],[],[]⟩)],
 [(7,zK [4,5,6] [4,5,23]),(8,zK [4,5,6,9] [4,5,9,23]),(9,zK [4,5,9,10] [4,5,9,10])],
 [],[]⟩
abbrev R82:=(Frac×Frac)
abbrev e82 (r:R82):List PA:=[.agg [.int .i64 r.1.Num,.int .i64 r.1.Den],.agg [.int .i64 r.2.Num,.int .i64 r.2.Den]]
@[irreducible] def z82:=ptF Try.prog G82 zD3 Try.f82
def zBU (c0:Int) (s:set) (zai:Int) (za1:(Sl Frac)) (zce:Nat→List PV):St:=⟨[(1,zP (.fn 101 [] [.fp (zal c0) 0])),(4,zp 4 0),(5,zp 5 0),(6,zv 23),(12,zS zah 3 s.corners),(13,zI (s.corners.len:Int)),(14,zI zai)],[(4,.box 25 (zm (zae (⟨(0:Int),(0:Int)⟩:Frac)))),(5,.box 25 (zm (zae (⟨(0:Int),(0:Int)⟩:Frac)))),(23,.vec 25 2 16 za1.len zce)],[]⟩
abbrev zIu (K:List PA→Prop) (c0:Int) (s:set) (X:St→Prop) (P:Int→(Sl Frac)→Bool) (S:Int→(Sl Frac)→(Frac×Frac)):Prop:=∀ ⦃zai:Int⦄ ⦃za1:(Sl Frac)⦄ ⦃zce:Nat→List PV⦄,P zai za1=true→K (e82 (S zai za1))→zce=zg zae za1→X (zBU c0 s zai za1 zce)
section
variable {K:List PA→Prop} {c0:Int} {s:set} {zai:Int} {za1:(Sl Frac)} {zce:Nat→List PV} {X0:St→Prop} {P0:Int→(Sl Frac)→Bool} {S0:Int→(Sl Frac)→(Frac×Frac)} {zcE:(Sl Frac)} {zjT:Nat→List PV} {za2:Int} {za3:Int} {zc7:(Sl Frac)} {zjU:Nat→List PV} {zbU:Int} {zbV:Int}
def zpf (za2:Int) (za3:Int) (zbU:Int) (zbV:Int):(Frac×Frac) :=
  ((s89 za2 za3),(s89 zbU zbV))
def zpg (za2:Int) (za3:Int) (zbU:Int) (zbV:Int):Bool :=
  (decide ((p89 za2 za3=true)) &&
 (decide ((p89 zbU zbV=true)) &&
 true))
theorem zD4 (hs:zpg za2 za3 zbU zbV=true) (hk:K (e82 (zpf za2 za3 zbU zbV))):z82 K [1,1,1,1,1] [] ⟨[(4,zp 4 0),(5,zp 5 0),(9,zp 9 0),(10,zp 10 0)],[(4,.box 25 (zm (zae (⟨(0:Int),(0:Int)⟩:Frac)))),(5,.box 25 (zm (zae (⟨(0:Int),(0:Int)⟩:Frac)))),(9,.box 25 (zm (zae (⟨za2,za3⟩:Frac)))),(10,.box 25 (zm (zae (⟨zbU,zbV⟩:Frac))))],[]⟩:=zay (by kernel_rfl) (zav hs fun hc hs=>And.intro hc (zav hs fun hc hs=>And.intro hc hk))
def zph (za2:Int) (za3:Int) (zc7:(Sl Frac)):(Frac×Frac) :=
  (zpf za2 za3 ((s111a zc7).Num) ((s111a zc7).Den))
def zpi (za2:Int) (za3:Int) (zc7:(Sl Frac)):Bool :=
  (decide ((zsE zc7=true)) &&
 (zpg za2 za3 ((s111a zc7).Num) ((s111a zc7).Den)))
theorem zD5 (hs:zpi za2 za3 zc7=true) (hk:K (e82 (zph za2 za3 zc7))) (zpj:zjU=zg zae zc7):z82 K [1,1,1,1] [] ⟨[(4,zp 4 0),(5,zp 5 0),(6,zv 23),(9,zp 9 0)],[(4,.box 25 (zm (zae (⟨(0:Int),(0:Int)⟩:Frac)))),(5,.box 25 (zm (zae (⟨(0:Int),(0:Int)⟩:Frac)))),(9,.box 25 (zm (zae (⟨za2,za3⟩:Frac)))),(23,.vec 25 2 16 zc7.len zjU)],[]⟩:=by subst zpj;exact zay (by kernel_rfl) (zav hs fun hc hs=>And.intro (And.intro (zE zae 2 zc7.get) hc) (zD4 hs hk))
def zew (zcE:(Sl Frac)):(Frac×Frac) :=
  (zph ((zpc zcE).Num) ((zpc zcE).Den) zcE)
def zmi (zcE:(Sl Frac)):Bool :=
  (decide ((zGK zcE=true)) &&
 (zpi ((zpc zcE).Num) ((zpc zcE).Den) zcE))
theorem zD6 (hs:zmi zcE=true) (hk:K (e82 (zew zcE))) (zpk:zjT=zg zae zcE):z82 K [1,1,1] [] ⟨[(4,zp 4 0),(5,zp 5 0),(6,zv 23)],[(4,.box 25 (zm (zae (⟨(0:Int),(0:Int)⟩:Frac)))),(5,.box 25 (zm (zae (⟨(0:Int),(0:Int)⟩:Frac)))),(23,.vec 25 2 16 zcE.len zjT)],[]⟩:=by subst zpk;exact zay (by kernel_rfl) (zav hs fun hc hs=>And.intro (And.intro (zE zae 2 zcE.get) hc) (zD5 hs hk rfl))
def zhF (c0:Int) (s:set) (S0:Int→(Sl Frac)→(Frac×Frac)) (zai:Int) (za1:(Sl Frac)):(Frac×Frac) :=
  (cond (decide (zai < (s.corners.len : Int)))
 (S0 (w64 (zai+(1:Int))) (⟨(za1.len+1),(zdA za1.len za1.get (fun _=>(zuV c0 (s.corners.get zai.toNat))))⟩:Sl Frac))
 (zew za1))
def zhG (c0:Int) (s:set) (P0:Int→(Sl Frac)→Bool) (zai:Int) (za1:(Sl Frac)):Bool :=
  (cond (decide (zai < (s.corners.len : Int)))
 (decide ((0≤zai∧zai < (s.corners.len:Int))) &&
 (decide (((za1.len+1) * 16≤140737488355328∧za1.len+1≤9223372036854775807)) &&
 (P0 (w64 (zai+(1:Int))) (⟨(za1.len+1),(zdA za1.len za1.get (fun _=>(zuV c0 (s.corners.get zai.toNat))))⟩:Sl Frac))))
 (zmi za1))
def zhH (c0:Int) (s:set):Nat→Int→(Sl Frac)→(Frac×Frac):=lpO (fun _ _=>default) (zhF c0 s)
def zhI (c0:Int) (s:set):Nat→Int→(Sl Frac)→Bool:=lpO (fun _ _=>false) (zhG c0 s)
def zu6 (c0:Int) (s:set) (zai:Int) (za1:(Sl Frac)):(Frac×Frac):=zhH c0 s Fuel zai za1
def zu7 (c0:Int) (s:set) (zai:Int) (za1:(Sl Frac)):Bool:=zhI c0 s Fuel zai za1
theorem zD7 (hs:zu7 c0 s zai za1=true) (hk:K (e82 (zu6 c0 s zai za1))) (zgb:zce=zg zae za1):z82 K [1,1,0,1,0] [] (zBU c0 s zai za1 zce) :=
  zl (fun X=>z82 K [1,1,0,1,0,0] [X]) (by kernel_rfl) fun X0 hX =>
  (show ∀ k, zIu K c0 s X0 (zhI c0 s k) (zhH c0 s k) from zeK _ _ (zhG c0 s) (zhF c0 s) (zIu K c0 s X0)
 (by intro _ _ _ hs;exact absurd hs Bool.false_ne_true)
 (by intro P0 S0 hX0 zai za1 zce hs hk zgb;subst zgb;exact hX _ (zay (by kernel_rfl) (zc hs hk (fun hs hk=>(zav hs fun hc hs=>And.intro hc (zav hs fun hc hs=>And.intro hc (hX0 hs hk (zeH (enc:=zae) (f:=za1.get) (h:=(fun _=>(zuV c0 (s.corners.get zai.toNat)))) rfl rfl))))) (fun hs hk=>(zD6 hs hk rfl)))))) _ hs hk zgb
def s82 (c0:Int) (s:set):(Frac×Frac) :=
  (zu6 c0 s (0:Int) (⟨0,(fun _=>default)⟩:Sl Frac))
def p82 (c0:Int) (s:set):Bool :=
  (zu7 c0 s (0:Int) (⟨0,(fun _=>default)⟩:Sl Frac))
end
theorem q82 (c0:Int) (s:set) (K:List PA→Prop) (hs:p82 c0 s=true) (hk:K (e82 (s82 c0 s))):vcFun Try.prog G82 zD3 82 [.agg (zaV s),.one (.fn 101 [] [.fp (zal c0) 0])] K :=
  zay (by kernel_rfl) (zD7 hs hk rfl)
abbrev zMO:Ctrs:=csm T82 (fun _ _=>[]) (fun _=>false)
def zu8:Ann:=⟨39,[(0,zK [1,2,4,5] [2,4,5]),(1,zK [1,2,4,5,6] [2,4,5]),(2,zK [1,4,5,6,12,13,14] [4,5]),(3,zK [1,4,5,6,12,13,14,15] [4,5,23]),(4,zK [1,4,5,6,8,12,13,14] [4,5,8,23]),(5,zK [1,4,5,6,12,13,14] [4,5,23]),(6,zK [1,4,5,6,12,13,14] [4,5,23]),(7,zK [4,5,6,9] [4,5,9,23]),(8,zK [4,5,9,10] [4,5,9,10]),(9,zK [4,5] [4,5])],
 [(3,⟨[1,4,5,6,12,13,14],[4,5,23],[(6,23,25,fun _=>zae default)],[],[],[],[]⟩)],
 [(7,zK [4,5,6] [4,5,23]),(8,zK [4,5,6,9] [4,5,9,23]),(9,zK [4,5,9,10] [4,5,9,10])],
 [],[]⟩
abbrev zOi:=(Frac×Frac)
abbrev zGL (r:zOi):List PA:=[.agg [.int .i64 r.1.Num,.int .i64 r.1.Den],.agg [.int .i64 r.2.Num,.int .i64 r.2.Den]]
@[irreducible] def z82a:=ptF Try.prog zMO zu8 Try.f82
def zu9 (s:set) (zai:Int) (za1:(Sl Frac)) (zce:Nat→List PV):St:=⟨[(1,zP (.fn 83 [] [])),(4,zp 4 0),(5,zp 5 0),(6,zv 23),(12,zS zah 3 s.corners),(13,zI (s.corners.len:Int)),(14,zI zai)],[(4,.box 25 (zm (zae (⟨(0:Int),(0:Int)⟩:Frac)))),(5,.box 25 (zm (zae (⟨(0:Int),(0:Int)⟩:Frac)))),(23,.vec 25 2 16 za1.len zce)],[]⟩
abbrev zBV (K:List PA→Prop) (s:set) (X:St→Prop) (P:Int→(Sl Frac)→Bool) (S:Int→(Sl Frac)→(Frac×Frac)):Prop:=∀ ⦃zai:Int⦄ ⦃za1:(Sl Frac)⦄ ⦃zce:Nat→List PV⦄,P zai za1=true→K (zGL (S zai za1))→zce=zg zae za1→X (zu9 s zai za1 zce)
section
variable {K:List PA→Prop} {s:set} {zai:Int} {za1:(Sl Frac)} {zce:Nat→List PV} {X0:St→Prop} {P0:Int→(Sl Frac)→Bool} {S0:Int→(Sl Frac)→(Frac×Frac)} {zcE:(Sl Frac)} {zjT:Nat→List PV} {za2:Int} {za3:Int} {zc7:(Sl Frac)} {zjU:Nat→List PV} {zbU:Int} {zbV:Int}
def zro (za2:Int) (za3:Int) (zbU:Int) (zbV:Int):(Frac×Frac) :=
  ((s89 za2 za3),(s89 zbU zbV))
def zrp (za2:Int) (za3:Int) (zbU:Int) (zbV:Int):Bool :=
  (decide ((p89 za2 za3=true)) &&
 (decide ((p89 zbU zbV=true)) &&
 true))
theorem zAn (hs:zrp za2 za3 zbU zbV=true) (hk:K (zGL (zro za2 za3 zbU zbV))):z82a K [1,1,1,1,1] [] ⟨[(4,zp 4 0),(5,zp 5 0),(9,zp 9 0),(10,zp 10 0)],[(4,.box 25 (zm (zae (⟨(0:Int),(0:Int)⟩:Frac)))),(5,.box 25 (zm (zae (⟨(0:Int),(0:Int)⟩:Frac)))),(9,.box 25 (zm (zae (⟨za2,za3⟩:Frac)))),(10,.box 25 (zm (zae (⟨zbU,zbV⟩:Frac))))],[]⟩:=zay (by kernel_rfl) (zav hs fun hc hs=>And.intro hc (zav hs fun hc hs=>And.intro hc hk))
def zrq (za2:Int) (za3:Int) (zc7:(Sl Frac)):(Frac×Frac) :=
  (zro za2 za3 ((s111a zc7).Num) ((s111a zc7).Den))
def zrr (za2:Int) (za3:Int) (zc7:(Sl Frac)):Bool :=
  (decide ((zsE zc7=true)) &&
 (zrp za2 za3 ((s111a zc7).Num) ((s111a zc7).Den)))
theorem zAo (hs:zrr za2 za3 zc7=true) (hk:K (zGL (zrq za2 za3 zc7))) (zpj:zjU=zg zae zc7):z82a K [1,1,1,1] [] ⟨[(4,zp 4 0),(5,zp 5 0),(6,zv 23),(9,zp 9 0)],[(4,.box 25 (zm (zae (⟨(0:Int),(0:Int)⟩:Frac)))),(5,.box 25 (zm (zae (⟨(0:Int),(0:Int)⟩:Frac)))),(9,.box 25 (zm (zae (⟨za2,za3⟩:Frac)))),(23,.vec 25 2 16 zc7.len zjU)],[]⟩:=by subst zpj;exact zay (by kernel_rfl) (zav hs fun hc hs=>And.intro (And.intro (zE zae 2 zc7.get) hc) (zAn hs hk))
def zrt (zcE:(Sl Frac)):(Frac×Frac) :=
  (zrq ((zpc zcE).Num) ((zpc zcE).Den) zcE)
def zru (zcE:(Sl Frac)):Bool :=
  (decide ((zGK zcE=true)) &&
 (zrr ((zpc zcE).Num) ((zpc zcE).Den) zcE))
theorem zAp (hs:zru zcE=true) (hk:K (zGL (zrt zcE))) (zpk:zjT=zg zae zcE):z82a K [1,1,1] [] ⟨[(4,zp 4 0),(5,zp 5 0),(6,zv 23)],[(4,.box 25 (zm (zae (⟨(0:Int),(0:Int)⟩:Frac)))),(5,.box 25 (zm (zae (⟨(0:Int),(0:Int)⟩:Frac)))),(23,.vec 25 2 16 zcE.len zjT)],[]⟩:=by subst zpk;exact zay (by kernel_rfl) (zav hs fun hc hs=>And.intro (And.intro (zE zae 2 zcE.get) hc) (zAo hs hk rfl))
def zfz (s:set) (S0:Int→(Sl Frac)→(Frac×Frac)) (zai:Int) (za1:(Sl Frac)):(Frac×Frac) :=
  (cond (decide (zai < (s.corners.len : Int)))
 (S0 (w64 (zai+(1:Int))) (⟨(za1.len+1),(zdA za1.len za1.get (fun _=>(s83 (s.corners.get zai.toNat))))⟩:Sl Frac))
 (zrt za1))
def zfA (s:set) (P0:Int→(Sl Frac)→Bool) (zai:Int) (za1:(Sl Frac)):Bool :=
  (cond (decide (zai < (s.corners.len : Int)))
 (decide ((0≤zai∧zai < (s.corners.len:Int))) &&
 (decide (((za1.len+1) * 16≤140737488355328∧za1.len+1≤9223372036854775807)) &&
 (P0 (w64 (zai+(1:Int))) (⟨(za1.len+1),(zdA za1.len za1.get (fun _=>(s83 (s.corners.get zai.toNat))))⟩:Sl Frac))))
 (zru za1))
def zfB (s:set):Nat→Int→(Sl Frac)→(Frac×Frac):=lpO (fun _ _=>default) (zfz s)
def zfC (s:set):Nat→Int→(Sl Frac)→Bool:=lpO (fun _ _=>false) (zfA s)
def zrv (s:set) (zai:Int) (za1:(Sl Frac)):(Frac×Frac):=zfB s Fuel zai za1
def zrx (s:set) (zai:Int) (za1:(Sl Frac)):Bool:=zfC s Fuel zai za1
theorem zAq (hs:zrx s zai za1=true) (hk:K (zGL (zrv s zai za1))) (zgb:zce=zg zae za1):z82a K [1,1,0,1,0] [] (zu9 s zai za1 zce) :=
  zl (fun X=>z82a K [1,1,0,1,0,0] [X]) (by kernel_rfl) fun X0 hX =>
  (show ∀ k, zBV K s X0 (zfC s k) (zfB s k) from zeK _ _ (zfA s) (zfz s) (zBV K s X0)
 (by intro _ _ _ hs;exact absurd hs Bool.false_ne_true)
 (by intro P0 S0 hX0 zai za1 zce hs hk zgb;subst zgb;exact hX _ (zay (by kernel_rfl) (zc hs hk (fun hs hk=>(zav hs fun hc hs=>And.intro hc (zav hs fun hc hs=>And.intro hc (hX0 hs hk (zeH (enc:=zae) (f:=za1.get) (h:=(fun _=>(s83 (s.corners.get zai.toNat)))) rfl rfl))))) (fun hs hk=>(zAp hs hk rfl)))))) _ hs hk zgb
def zAr (s:set):(Frac×Frac) :=
  (zrv s (0:Int) (⟨0,(fun _=>default)⟩:Sl Frac))
def zKo (s:set):Bool :=
  (zrx s (0:Int) (⟨0,(fun _=>default)⟩:Sl Frac))
end
theorem zOj (s:set) (K:List PA→Prop) (hs:zKo s=true) (hk:K (zGL (zAr s))):vcFun Try.prog zMO zu8 82 [.agg (zaV s),.one (.fn 83 [] [])] K :=
  zay (by kernel_rfl) (zAq hs hk rfl)
def zAs : List PA → COut
  | [.agg [.sl a0_list_Gates_n a0_list_Gates_s a0_list_Gates_g,.sl a0_corners_n a0_corners_s a0_corners_g],.one (.fn 101 [] [.fp [.int .i64 c0] 0])]=>.det (IsE enc_55 3 a0_list_Gates_s a0_list_Gates_g∧IsE zah 3 a0_corners_s a0_corners_g∧p82 c0 (⟨(⟨(⟨a0_list_Gates_n,zad a0_list_Gates_g⟩:(Sl Gate))⟩:list),(⟨a0_corners_n,zaR a0_corners_g⟩:(Sl straight))⟩:set)=true) [.agg [.int .i64 (((s82 c0 (⟨(⟨(⟨a0_list_Gates_n,zad a0_list_Gates_g⟩:(Sl Gate))⟩:list),(⟨a0_corners_n,zaR a0_corners_g⟩:(Sl straight))⟩:set)).1).Num),.int .i64 (((s82 c0 (⟨(⟨(⟨a0_list_Gates_n,zad a0_list_Gates_g⟩:(Sl Gate))⟩:list),(⟨a0_corners_n,zaR a0_corners_g⟩:(Sl straight))⟩:set)).1).Den)],.agg [.int .i64 (((s82 c0 (⟨(⟨(⟨a0_list_Gates_n,zad a0_list_Gates_g⟩:(Sl Gate))⟩:list),(⟨a0_corners_n,zaR a0_corners_g⟩:(Sl straight))⟩:set)).2).Num),.int .i64 (((s82 c0 (⟨(⟨(⟨a0_list_Gates_n,zad a0_list_Gates_g⟩:(Sl Gate))⟩:list),(⟨a0_corners_n,zaR a0_corners_g⟩:(Sl straight))⟩:set)).2).Den)]]
  | [.agg [.sl a0_list_Gates_n a0_list_Gates_s a0_list_Gates_g,.sl a0_corners_n a0_corners_s a0_corners_g],.one (.fn 83 [] [])]=>.det (IsE enc_55 3 a0_list_Gates_s a0_list_Gates_g∧IsE zah 3 a0_corners_s a0_corners_g∧zKo (⟨(⟨(⟨a0_list_Gates_n,zad a0_list_Gates_g⟩:(Sl Gate))⟩:list),(⟨a0_corners_n,zaR a0_corners_g⟩:(Sl straight))⟩:set)=true) [.agg [.int .i64 (((zAr (⟨(⟨(⟨a0_list_Gates_n,zad a0_list_Gates_g⟩:(Sl Gate))⟩:list),(⟨a0_corners_n,zaR a0_corners_g⟩:(Sl straight))⟩:set)).1).Num),.int .i64 (((zAr (⟨(⟨(⟨a0_list_Gates_n,zad a0_list_Gates_g⟩:(Sl Gate))⟩:list),(⟨a0_corners_n,zaR a0_corners_g⟩:(Sl straight))⟩:set)).1).Den)],.agg [.int .i64 (((zAr (⟨(⟨(⟨a0_list_Gates_n,zad a0_list_Gates_g⟩:(Sl Gate))⟩:list),(⟨a0_corners_n,zaR a0_corners_g⟩:(Sl straight))⟩:set)).2).Num),.int .i64 (((zAr (⟨(⟨(⟨a0_list_Gates_n,zad a0_list_Gates_g⟩:(Sl Gate))⟩:list),(⟨a0_corners_n,zaR a0_corners_g⟩:(Sl straight))⟩:set)).2).Den)]]
  | _=>.no
theorem zIv:zaf Try.prog 82:=⟨_,rfl,rfl,by kernel_rfl⟩
theorem zOk:Ok Try.prog 82 zAs:=zaz zLu zIv fun args K h=>by
  unfold zAs at h
  split at h
  · rename_i a0_list_Gates_n a0_list_Gates_s a0_list_Gates_g a0_corners_n a0_corners_s a0_corners_g c0
    obtain ⟨⟨⟨rfl,a0_list_Gates_f,rfl⟩,⟨rfl,a0_corners_f,rfl⟩,hs⟩,hk⟩:=h
    try rw [zac a0_list_Gates_f] at hs
    try rw [zac a0_list_Gates_f] at hk
    try rw [zaN a0_corners_f] at hs
    try rw [zaN a0_corners_f] at hk
    exact ⟨(fun _ _=>[]),(fun _=>false),zD3,q82 c0 (⟨(⟨(⟨a0_list_Gates_n,a0_list_Gates_f⟩:(Sl Gate))⟩:list),(⟨a0_corners_n,a0_corners_f⟩:(Sl straight))⟩:set) K hs hk⟩
  · rename_i a0_list_Gates_n a0_list_Gates_s a0_list_Gates_g a0_corners_n a0_corners_s a0_corners_g
    obtain ⟨⟨⟨rfl,a0_list_Gates_f,rfl⟩,⟨rfl,a0_corners_f,rfl⟩,hs⟩,hk⟩:=h
    try rw [zac a0_list_Gates_f] at hs
    try rw [zac a0_list_Gates_f] at hk
    try rw [zaN a0_corners_f] at hs
    try rw [zaN a0_corners_f] at hk
    exact ⟨(fun _ _=>[]),(fun _=>false),zu8,zOj (⟨(⟨(⟨a0_list_Gates_n,a0_list_Gates_f⟩:(Sl Gate))⟩:list),(⟨a0_corners_n,a0_corners_f⟩:(Sl straight))⟩:set) K hs hk⟩
  · exact h.elim
abbrev T68:Tabs:=((((Tabs.nil.addF 67 zoV).addF 82 zAs).addF 89 zsz).addF 98 zAd)
theorem zLv:TabsOk Try.prog T68:=((((TabsOk.nil.addF zHP).addF zOk).addF zKf).addF zMw)
abbrev G68:Ctrs:=csm T68 (fun _ _=>[]) (fun _=>false)
def zIw:Ann:=⟨24,[(0,zK [2,3,4,5] [2,3,4,5]),(1,zK [2,3,4,5,9] [2,3,4,5]),(2,zK [4,5,6] [4,5,6]),(3,zK [4,5] [4,5]),(4,zK [4,5] [4,5])],
 [],
 [],
 [],[]⟩
abbrev R68:=(Frac×Frac)
abbrev e68 (r:R68):List PA:=[.agg [.int .i64 r.1.Num,.int .i64 r.1.Den],.agg [.int .i64 r.2.Num,.int .i64 r.2.Den]]
section
variable {K:List PA→Prop} {s:set} {z:Int}
def s68 (s:set) (z:Int):(Frac×Frac) :=
  (cond (s67 s.list)
 ((s89 ((s98 s.list).Low) (1:Int)),(s89 ((s98 s.list).High) (1:Int)))
 (((s82 z s).1),((s82 z s).2)))
def p68 (s:set) (z:Int):Bool :=
  (decide ((p67 s.list=true)) &&
 (cond (s67 s.list)
 (decide ((p98 s.list=true)) &&
 (decide ((p89 ((s98 s.list).Low) (1:Int)=true)) &&
 (decide ((p89 ((s98 s.list).High) (1:Int)=true)) &&
 true)))
 (decide ((p82 z s=true)) &&
 true)))
end
theorem q68 (s:set) (z:Int) (K:List PA→Prop) (hs:p68 s z=true) (hk:K (e68 (s68 s z))):vcFun Try.prog G68 zIw 68 [.agg (zaV s),.one (.int .i64 z)] K :=
  zay (by kernel_rfl) (zav hs fun hc hs=>And.intro (And.intro (zE enc_55 3 s.list.Gates.get) hc) (zc hs hk (fun hs hk=>(zav hs fun hc hs=>And.intro (And.intro (zE enc_55 3 s.list.Gates.get) hc) (zav hs fun hc hs=>And.intro hc (zav hs fun hc hs=>And.intro hc hk)))) (fun hs hk=>(zav hs fun hc hs=>And.intro (And.intro (zE enc_55 3 s.list.Gates.get) (And.intro (zE zah 3 s.corners.get) hc)) hk))))
def zAt : List PA → COut
  | [.agg [.sl a0_list_Gates_n a0_list_Gates_s a0_list_Gates_g,.sl a0_corners_n a0_corners_s a0_corners_g],.one (.int .i64 a1)]=>.det (IsE enc_55 3 a0_list_Gates_s a0_list_Gates_g∧IsE zah 3 a0_corners_s a0_corners_g∧p68 (⟨(⟨(⟨a0_list_Gates_n,zad a0_list_Gates_g⟩:(Sl Gate))⟩:list),(⟨a0_corners_n,zaR a0_corners_g⟩:(Sl straight))⟩:set) a1=true) [.agg [.int .i64 (((s68 (⟨(⟨(⟨a0_list_Gates_n,zad a0_list_Gates_g⟩:(Sl Gate))⟩:list),(⟨a0_corners_n,zaR a0_corners_g⟩:(Sl straight))⟩:set) a1).1).Num),.int .i64 (((s68 (⟨(⟨(⟨a0_list_Gates_n,zad a0_list_Gates_g⟩:(Sl Gate))⟩:list),(⟨a0_corners_n,zaR a0_corners_g⟩:(Sl straight))⟩:set) a1).1).Den)],.agg [.int .i64 (((s68 (⟨(⟨(⟨a0_list_Gates_n,zad a0_list_Gates_g⟩:(Sl Gate))⟩:list),(⟨a0_corners_n,zaR a0_corners_g⟩:(Sl straight))⟩:set) a1).2).Num),.int .i64 (((s68 (⟨(⟨(⟨a0_list_Gates_n,zad a0_list_Gates_g⟩:(Sl Gate))⟩:list),(⟨a0_corners_n,zaR a0_corners_g⟩:(Sl straight))⟩:set) a1).2).Den)]]
  | _=>.no
theorem zIx:zaf Try.prog 68:=⟨_,rfl,rfl,by kernel_rfl⟩
theorem zMP:Ok Try.prog 68 zAt:=zaz zLv zIx fun args K h=>by
  unfold zAt at h
  split at h
  · rename_i a0_list_Gates_n a0_list_Gates_s a0_list_Gates_g a0_corners_n a0_corners_s a0_corners_g a1
    obtain ⟨⟨⟨rfl,a0_list_Gates_f,rfl⟩,⟨rfl,a0_corners_f,rfl⟩,hs⟩,hk⟩:=h
    try rw [zac a0_list_Gates_f] at hs
    try rw [zac a0_list_Gates_f] at hk
    try rw [zaN a0_corners_f] at hs
    try rw [zaN a0_corners_f] at hk
    exact ⟨(fun _ _=>[]),(fun _=>false),zIw,q68 (⟨(⟨(⟨a0_list_Gates_n,a0_list_Gates_f⟩:(Sl Gate))⟩:list),(⟨a0_corners_n,a0_corners_f⟩:(Sl straight))⟩:set) a1 K hs hk⟩
  · exact h.elim
abbrev T19:Tabs:=((((((Tabs.nil.addF 64 zsA).addF 65 zuB).addF 66 zuE).addF 67 zoV).addF 68 zAt).addF 69 zsD)
theorem zLw:TabsOk Try.prog T19:=((((((TabsOk.nil.addF zKg).addF zK2).addF zK5).addF zHP).addF zMP).addF zKm)
abbrev G19:Ctrs:=csm T19 (fun _ _=>[]) (fun _=>false)
def zD8:Ann:=⟨124,[(0,zK [0,1,2,3,9,10] [9,10]),(1,zK [0,1,2,3,9,10,12] [9,10,12]),(2,zK [0,1,2,3,9,10,12,44] [9,10,12]),(3,zK [8,9,10,11] [9,10]),(4,zK [2,3,9,10,12,13,14] [9,10,12,13,14]),(5,zK [2,3,9,10,12,13,14,58] [9,10,12,13,14]),(6,zK [8,9,10,11] [9,10]),(7,zK [2,3,9,10,12,13,14,68] [9,10,12,13,14]),(8,zK [8,9,10,11] [9,10]),(9,zK [2,3,9,10,12,13,14,15,16] [9,10,12,13,14,15,16]),(10,zK [2,3,9,10,12,13,14,15,16,17] [9,10,12,13,14,15,16]),(11,zK [2,3,9,10,12,13,14,15,16,17,76,77] [9,10,12,13,14,15,16]),(12,zK [2,3,9,10,12,13,14,15,16,17,76,77,78] [9,10,12,13,14,15,16]),(13,zK [2,3,9,10,12,13,14,15,16,17,18,76,77] [9,10,12,13,14,15,16]),(14,zK [2,3,9,10,12,13,14,15,16,17,18,19,20,76,77] [9,10,12,13,14,15,16,19,20]),(15,zK [2,3,9,10,12,13,14,15,16,17,18,19,20,21,22,76,77] [9,10,12,13,14,15,16,19,20,21,22]),(16,zK [2,3,9,10,12,13,14,15,16,17,18,19,20,21,22,76,77] [9,10,12,13,14,15,16,19,20,21,22]),(17,zK [2,3,9,10,12,13,14,15,16,17,18,20,21,22,76,77,101] [9,10,12,13,14,15,16,20,21,22]),(18,zK [2,3,9,10,12,13,14,15,16,17,18,20,22,76,77] [9,10,12,13,14,15,16,20,22]),(19,zK [2,3,9,10,12,13,14,15,16,17,18,22,76,77,106] [9,10,12,13,14,15,16,22]),(20,zK [2,3,9,10,12,13,14,15,16,17,18,76,77] [9,10,12,13,14,15,16]),(21,zK [2,3,9,10,12,13,14,15,16,17,18,76,77,111] [9,10,12,13,14,15,16]),(22,zK [3,9,10,12,15,16,17] [9,10,12,15,16]),(23,zK [2,3,9,10,12,13,14,15,16,17,76,77] [9,10,12,13,14,15,16]),(24,zK [9,10,12,15,16,17,118] [9,10,12,15,16]),(25,zK [8,9,10,11] [9,10]),(26,zK [8,9,10,11] [9,10])],
 [(12,zK [2,3,9,10,12,13,14,15,16,17,76,77] [9,10,12,13,14,15,16])],
 [(3,zK [0,1,2,3,9,10,12,44] [9,10,12]),(4,zK [0,1,2,3,9,10,12] [9,10,12]),(5,zK [2,3,9,10,12,13,14] [9,10,12,13,14]),(6,zK [2,3,9,10,12,13,14,58] [9,10,12,13,14]),(7,zK [2,3,9,10,12,13,14] [9,10,12,13,14]),(8,zK [2,3,9,10,12,13,14,68] [9,10,12,13,14]),(9,zK [2,3,9,10,12,13,14] [9,10,12,13,14]),(15,zK [2,3,9,10,12,13,14,15,16,17,18,19,20,76,77] [9,10,12,13,14,15,16,19,20]),(24,zK [3,9,10,12,15,16,17] [9,10,12,15,16]),(16,zK [2,3,9,10,12,13,14,15,16,17,18,19,20,21,22,76,77] [9,10,12,13,14,15,16,19,20,21,22]),(18,zK [2,3,9,10,12,13,14,15,16,17,18,20,21,22,76,77,101] [9,10,12,13,14,15,16,20,21,22]),(19,zK [2,3,9,10,12,13,14,15,16,17,18,20,22,76,77] [9,10,12,13,14,15,16,20,22]),(20,zK [2,3,9,10,12,13,14,15,16,17,18,22,76,77,106] [9,10,12,13,14,15,16,22]),(22,zK [2,3,9,10,12,13,14,15,16,17,18,76,77,111] [9,10,12,13,14,15,16])],
 [],[]⟩
abbrev R19:=(Int×Frac×Frac×Int)
abbrev e19 (r:R19):List PA:=[.one (.int .i64 r.1),.agg [.int .i64 r.2.1.Num,.int .i64 r.2.1.Den],.agg [.int .i64 r.2.2.1.Num,.int .i64 r.2.2.1.Den],.one (.int .i64 r.2.2.2)]
@[irreducible] def z19:=ptF Try.prog G19 zD8 Try.f19
def zBW (low:Int) (high:Int) (zam:(Sl Gate)) (zat:(Sl straight)) (zan:(Sl Gate)) (zau:(Sl straight)) (zcs:Int) (zbv:Int) (zbw:Int) (zcF:Int) (zcG:Int):St:=⟨[(2,zI low),(3,zI high),(9,zp 9 0),(10,zp 10 0),(12,zp 12 0),(13,zp 13 0),(14,zp 14 0),(15,zp 15 0),(16,zp 16 0),(17,zI (w64 (high+(1:Int)))),(76,zI (w64 ((w64 (high - low))+(1:Int)))),(77,zI zcs)],[(9,.box 25 (zm (zae (⟨(0:Int),(0:Int)⟩:Frac)))),(10,.box 25 (zm (zae (⟨(0:Int),(0:Int)⟩:Frac)))),(12,.box 25 (zm (zae (⟨(0:Int),(0:Int)⟩:Frac)))),(13,.box 104 (zm (zaV (⟨(⟨zam⟩:list),zat⟩:set)))),(14,.box 104 (zm (zaV (⟨(⟨zan⟩:list),zau⟩:set)))),(15,.box 25 (zm (zae (⟨zbv,zbw⟩:Frac)))),(16,.box 25 (zm (zae (⟨zcF,zcG⟩:Frac))))],[]⟩
abbrev znP (K:List PA→Prop) (low:Int) (high:Int) (zam:(Sl Gate)) (zat:(Sl straight)) (zan:(Sl Gate)) (zau:(Sl straight)) (X:St→Prop) (P:Int→Int→Int→Int→Int→Bool) (S:Int→Int→Int→Int→Int→(Int×Frac×Frac×Int)):Prop:=∀ ⦃zcs:Int⦄ ⦃zbv:Int⦄ ⦃zbw:Int⦄ ⦃zcF:Int⦄ ⦃zcG:Int⦄,P zcs zbv zbw zcF zcG=true→K (e19 (S zcs zbv zbw zcF zcG))→X (zBW low high zam zat zan zau zcs zbv zbw zcF zcG)
section
variable {K:List PA→Prop} {a:(Sl Gate)} {b:(Sl Gate)} {low:Int} {high:Int} {zpl:Bool} {zam:(Sl Gate)} {zat:(Sl straight)} {zan:(Sl Gate)} {zau:(Sl straight)} {zva:Nat→List PV} {zvb:Nat→List PV} {zvc:Nat→List PV} {zvd:Nat→List PV} {zpm:Bool} {zpn:Bool} {zcs:Int} {zbv:Int} {zbw:Int} {zcF:Int} {zcG:Int} {X7:St→Prop} {P7:Int→Int→Int→Int→Int→Bool} {S7:Int→Int→Int→Int→Int→(Int×Frac×Frac×Int)} {iv8:Int} {zpo:Int} {zex:Int} {zey:Int} {zjV:Int} {zjW:Int} {zdC:Int} {zdD:Int} {zbF:Int} {zbG:Int} {zIy:Int} {ziS:Int} {ziT:Int} {zry:Int} {zrz:Int} {zha:Int} {zjX:Int} {ze1:Int} {ze2:Int} {zjY:Int} {zjZ:Int} {zdb:Int} {zdc:Int} {zbo:Int} {zbp:Int} {zAu:Int} {zgX:Int} {zgc:Bool} {zD9:Int} {zj0:Int} {zaE:Int} {zaF:Int} {zAv:Int} {zgY:Int} {zgd:Bool} {zGM:Int} {zj1:Int} {zge:Bool} {ze3:Int} {ze4:Int}
def zpp (high:Int) (zIy:Int) (ziS:Int) (ziT:Int) (zry:Int) (zrz:Int):(Int×Frac×Frac×Int) :=
  (cond (decide (zIy > high))
 ((0:Int),(⟨(0:Int),(0:Int)⟩:Frac),(⟨(0:Int),(0:Int)⟩:Frac),(5:Int))
 (zIy,(⟨ziS,ziT⟩:Frac),(⟨zry,zrz⟩:Frac),(0:Int)))
theorem zve (hk:K (e19 (zpp high zIy ziS ziT zry zrz))):z19 K [1,0,1,1,1,1,1,1,1,1,1] [] ⟨[(3,zI high),(9,zp 9 0),(10,zp 10 0),(12,zp 12 0),(15,zp 15 0),(16,zp 16 0),(17,zI zIy)],[(9,.box 25 (zm (zae (⟨(0:Int),(0:Int)⟩:Frac)))),(10,.box 25 (zm (zae (⟨(0:Int),(0:Int)⟩:Frac)))),(12,.box 25 (zm (zae (⟨(0:Int),(0:Int)⟩:Frac)))),(15,.box 25 (zm (zae (⟨ziS,ziT⟩:Frac)))),(16,.box 25 (zm (zae (⟨zry,zrz⟩:Frac))))],[]⟩:=zay (by kernel_rfl) (zt hk (fun hk=>hk) (fun hk=>hk))
def zmj (S7:Int→Int→Int→Int→Int→(Int×Frac×Frac×Int)) (low:Int) (high:Int) (zam:(Sl Gate)) (zat:(Sl straight)) (zan:(Sl Gate)) (zau:(Sl straight)) (zaE:Int) (zaF:Int) (zGM:Int) (zj1:Int) (zge:Bool) (ze3:Int) (ze4:Int):(Int×Frac×Frac×Int) :=
  (cond zge
 (zpp high (w64 (low+zGM)) zaE zaF ze3 ze4)
 (S7 (w64 (zj1+(1:Int))) zaE zaF ze3 ze4))
def zmk (P7:Int→Int→Int→Int→Int→Bool) (low:Int) (high:Int) (zam:(Sl Gate)) (zat:(Sl straight)) (zan:(Sl Gate)) (zau:(Sl straight)) (zaE:Int) (zaF:Int) (zGM:Int) (zj1:Int) (zge:Bool) (ze3:Int) (ze4:Int):Bool :=
  (cond zge
 true
 (P7 (w64 (zj1+(1:Int))) zaE zaF ze3 ze4))
theorem zrA (hX7:znP K low high zam zat zan zau X7 P7 S7) (hs:zmk P7 low high zam zat zan zau zaE zaF zGM zj1 zge ze3 ze4=true) (hk:K (e19 (zmj S7 low high zam zat zan zau zaE zaF zGM zj1 zge ze3 ze4))):z19 K [1,0,1,1,1,1,1,1,1,1,0,1,0,0,1,1,0,0,1,1,1,1,1,1,1] [X7] ⟨[(2,zI low),(3,zI high),(9,zp 9 0),(10,zp 10 0),(12,zp 12 0),(13,zp 13 0),(14,zp 14 0),(15,zp 15 0),(16,zp 16 0),(17,zI (w64 (high+(1:Int)))),(18,zI zGM),(76,zI (w64 ((w64 (high - low))+(1:Int)))),(77,zI zj1),(111,zB zge)],[(9,.box 25 (zm (zae (⟨(0:Int),(0:Int)⟩:Frac)))),(10,.box 25 (zm (zae (⟨(0:Int),(0:Int)⟩:Frac)))),(12,.box 25 (zm (zae (⟨(0:Int),(0:Int)⟩:Frac)))),(13,.box 104 (zm (zaV (⟨(⟨zam⟩:list),zat⟩:set)))),(14,.box 104 (zm (zaV (⟨(⟨zan⟩:list),zau⟩:set)))),(15,.box 25 (zm (zae (⟨zaE,zaF⟩:Frac)))),(16,.box 25 (zm (zae (⟨ze3,ze4⟩:Frac))))],[]⟩:=zay (by kernel_rfl) (zc hs hk (fun hs hk=>(zve hk)) (fun hs hk=>(hX7 hs hk)))
def zrB (S7:Int→Int→Int→Int→Int→(Int×Frac×Frac×Int)) (low:Int) (high:Int) (zam:(Sl Gate)) (zat:(Sl straight)) (zan:(Sl Gate)) (zau:(Sl straight)) (zbF:Int) (zbG:Int) (zbo:Int) (zbp:Int) (zaE:Int) (zaF:Int) (zAv:Int) (zgY:Int) (zgd:Bool):(Int×Frac×Frac×Int) :=
  (cond zgd
 (zmj S7 low high zam zat zan zau zaE zaF zAv zgY (decide ((s69 (⟨zaE,zaF⟩:Frac) (⟨zbo,zbp⟩:Frac))≤(0:Int))) zbo zbp)
 (zmj S7 low high zam zat zan zau zaE zaF zAv zgY (decide ((s69 (⟨zaE,zaF⟩:Frac) (⟨zbF,zbG⟩:Frac))≤(0:Int))) zbF zbG))
def zrC (P7:Int→Int→Int→Int→Int→Bool) (low:Int) (high:Int) (zam:(Sl Gate)) (zat:(Sl straight)) (zan:(Sl Gate)) (zau:(Sl straight)) (zbF:Int) (zbG:Int) (zbo:Int) (zbp:Int) (zaE:Int) (zaF:Int) (zAv:Int) (zgY:Int) (zgd:Bool):Bool :=
  (cond zgd
 (zmk P7 low high zam zat zan zau zaE zaF zAv zgY (decide ((s69 (⟨zaE,zaF⟩:Frac) (⟨zbo,zbp⟩:Frac))≤(0:Int))) zbo zbp)
 (zmk P7 low high zam zat zan zau zaE zaF zAv zgY (decide ((s69 (⟨zaE,zaF⟩:Frac) (⟨zbF,zbG⟩:Frac))≤(0:Int))) zbF zbG))
theorem zAw (hX7:znP K low high zam zat zan zau X7 P7 S7) (hs:zrC P7 low high zam zat zan zau zbF zbG zbo zbp zaE zaF zAv zgY zgd=true) (hk:K (e19 (zrB S7 low high zam zat zan zau zbF zbG zbo zbp zaE zaF zAv zgY zgd))):z19 K [1,0,1,1,1,1,1,1,1,1,0,1,0,0,1,1,0,0,1,1,1,1,1,0,1] [X7] ⟨[(2,zI low),(3,zI high),(9,zp 9 0),(10,zp 10 0),(12,zp 12 0),(13,zp 13 0),(14,zp 14 0),(15,zp 15 0),(16,zp 16 0),(17,zI (w64 (high+(1:Int)))),(18,zI zAv),(22,zp 22 0),(76,zI (w64 ((w64 (high - low))+(1:Int)))),(77,zI zgY),(106,zB zgd)],[(9,.box 25 (zm (zae (⟨(0:Int),(0:Int)⟩:Frac)))),(10,.box 25 (zm (zae (⟨(0:Int),(0:Int)⟩:Frac)))),(12,.box 25 (zm (zae (⟨(0:Int),(0:Int)⟩:Frac)))),(13,.box 104 (zm (zaV (⟨(⟨zam⟩:list),zat⟩:set)))),(14,.box 104 (zm (zaV (⟨(⟨zan⟩:list),zau⟩:set)))),(15,.box 25 (zm (zae (⟨zaE,zaF⟩:Frac)))),(16,.box 25 (zm (zae (⟨zbF,zbG⟩:Frac)))),(22,.box 25 (zm (zae (⟨zbo,zbp⟩:Frac))))],[]⟩:=zay (by kernel_rfl) (zc hs hk (fun hs hk=>(zrA hX7 hs hk)) (fun hs hk=>(zrA hX7 hs hk)))
def zml (S7:Int→Int→Int→Int→Int→(Int×Frac×Frac×Int)) (low:Int) (high:Int) (zam:(Sl Gate)) (zat:(Sl straight)) (zan:(Sl Gate)) (zau:(Sl straight)) (zbF:Int) (zbG:Int) (zbo:Int) (zbp:Int) (zD9:Int) (zj0:Int) (zaE:Int) (zaF:Int):(Int×Frac×Frac×Int) :=
  (zrB S7 low high zam zat zan zau zbF zbG zbo zbp zaE zaF zD9 zj0 (decide ((s69 (⟨zbo,zbp⟩:Frac) (⟨zbF,zbG⟩:Frac)) < (0:Int))))
def zmm (P7:Int→Int→Int→Int→Int→Bool) (low:Int) (high:Int) (zam:(Sl Gate)) (zat:(Sl straight)) (zan:(Sl Gate)) (zau:(Sl straight)) (zbF:Int) (zbG:Int) (zbo:Int) (zbp:Int) (zD9:Int) (zj0:Int) (zaE:Int) (zaF:Int):Bool :=
  (zrC P7 low high zam zat zan zau zbF zbG zbo zbp zaE zaF zD9 zj0 (decide ((s69 (⟨zbo,zbp⟩:Frac) (⟨zbF,zbG⟩:Frac)) < (0:Int))))
theorem zrD (hX7:znP K low high zam zat zan zau X7 P7 S7) (hs:zmm P7 low high zam zat zan zau zbF zbG zbo zbp zD9 zj0 zaE zaF=true) (hk:K (e19 (zml S7 low high zam zat zan zau zbF zbG zbo zbp zD9 zj0 zaE zaF))):z19 K [1,0,1,1,1,1,1,1,1,1,0,1,0,0,1,1,0,0,1,1,1,1,1] [X7] ⟨[(2,zI low),(3,zI high),(9,zp 9 0),(10,zp 10 0),(12,zp 12 0),(13,zp 13 0),(14,zp 14 0),(15,zp 15 0),(16,zp 16 0),(17,zI (w64 (high+(1:Int)))),(18,zI zD9),(20,zp 20 0),(22,zp 22 0),(76,zI (w64 ((w64 (high - low))+(1:Int)))),(77,zI zj0)],[(9,.box 25 (zm (zae (⟨(0:Int),(0:Int)⟩:Frac)))),(10,.box 25 (zm (zae (⟨(0:Int),(0:Int)⟩:Frac)))),(12,.box 25 (zm (zae (⟨(0:Int),(0:Int)⟩:Frac)))),(13,.box 104 (zm (zaV (⟨(⟨zam⟩:list),zat⟩:set)))),(14,.box 104 (zm (zaV (⟨(⟨zan⟩:list),zau⟩:set)))),(15,.box 25 (zm (zae (⟨zaE,zaF⟩:Frac)))),(16,.box 25 (zm (zae (⟨zbF,zbG⟩:Frac)))),(20,.box 25 (zm (zae (⟨zbF,zbG⟩:Frac)))),(22,.box 25 (zm (zae (⟨zbo,zbp⟩:Frac))))],[]⟩:=zay (by kernel_rfl) (zAw hX7 hs hk)
def zrE (S7:Int→Int→Int→Int→Int→(Int×Frac×Frac×Int)) (low:Int) (high:Int) (zam:(Sl Gate)) (zat:(Sl straight)) (zan:(Sl Gate)) (zau:(Sl straight)) (zdC:Int) (zdD:Int) (zbF:Int) (zbG:Int) (zdb:Int) (zdc:Int) (zbo:Int) (zbp:Int) (zAu:Int) (zgX:Int) (zgc:Bool):(Int×Frac×Frac×Int) :=
  (cond zgc
 (zml S7 low high zam zat zan zau zbF zbG zbo zbp zAu zgX zdb zdc)
 (zml S7 low high zam zat zan zau zbF zbG zbo zbp zAu zgX zdC zdD))
def zrF (P7:Int→Int→Int→Int→Int→Bool) (low:Int) (high:Int) (zam:(Sl Gate)) (zat:(Sl straight)) (zan:(Sl Gate)) (zau:(Sl straight)) (zdC:Int) (zdD:Int) (zbF:Int) (zbG:Int) (zdb:Int) (zdc:Int) (zbo:Int) (zbp:Int) (zAu:Int) (zgX:Int) (zgc:Bool):Bool :=
  (cond zgc
 (zmm P7 low high zam zat zan zau zbF zbG zbo zbp zAu zgX zdb zdc)
 (zmm P7 low high zam zat zan zau zbF zbG zbo zbp zAu zgX zdC zdD))
theorem zAx (hX7:znP K low high zam zat zan zau X7 P7 S7) (hs:zrF P7 low high zam zat zan zau zdC zdD zbF zbG zdb zdc zbo zbp zAu zgX zgc=true) (hk:K (e19 (zrE S7 low high zam zat zan zau zdC zdD zbF zbG zdb zdc zbo zbp zAu zgX zgc))):z19 K [1,0,1,1,1,1,1,1,1,1,0,1,0,0,1,1,0,0,1,1,1,1,0,1] [X7] ⟨[(2,zI low),(3,zI high),(9,zp 9 0),(10,zp 10 0),(12,zp 12 0),(13,zp 13 0),(14,zp 14 0),(15,zp 15 0),(16,zp 16 0),(17,zI (w64 (high+(1:Int)))),(18,zI zAu),(20,zp 20 0),(21,zp 21 0),(22,zp 22 0),(76,zI (w64 ((w64 (high - low))+(1:Int)))),(77,zI zgX),(101,zB zgc)],[(9,.box 25 (zm (zae (⟨(0:Int),(0:Int)⟩:Frac)))),(10,.box 25 (zm (zae (⟨(0:Int),(0:Int)⟩:Frac)))),(12,.box 25 (zm (zae (⟨(0:Int),(0:Int)⟩:Frac)))),(13,.box 104 (zm (zaV (⟨(⟨zam⟩:list),zat⟩:set)))),(14,.box 104 (zm (zaV (⟨(⟨zan⟩:list),zau⟩:set)))),(15,.box 25 (zm (zae (⟨zdC,zdD⟩:Frac)))),(16,.box 25 (zm (zae (⟨zbF,zbG⟩:Frac)))),(20,.box 25 (zm (zae (⟨zbF,zbG⟩:Frac)))),(21,.box 25 (zm (zae (⟨zdb,zdc⟩:Frac)))),(22,.box 25 (zm (zae (⟨zbo,zbp⟩:Frac))))],[]⟩:=zay (by kernel_rfl) (zc hs hk (fun hs hk=>(zrD hX7 hs hk)) (fun hs hk=>(zrD hX7 hs hk)))
def zrG (S7:Int→Int→Int→Int→Int→(Int×Frac×Frac×Int)) (low:Int) (high:Int) (zam:(Sl Gate)) (zat:(Sl straight)) (zan:(Sl Gate)) (zau:(Sl straight)) (zdC:Int) (zdD:Int) (zbF:Int) (zbG:Int) (zha:Int) (zjX:Int) (ze1:Int) (ze2:Int) (zjY:Int) (zjZ:Int) (zdb:Int) (zdc:Int) (zbo:Int) (zbp:Int):(Int×Frac×Frac×Int) :=
  (zrE S7 low high zam zat zan zau zdC zdD zbF zbG zdb zdc zbo zbp zha zjX (decide ((s69 (⟨zdb,zdc⟩:Frac) (⟨zdC,zdD⟩:Frac)) > (0:Int))))
def zrH (P7:Int→Int→Int→Int→Int→Bool) (low:Int) (high:Int) (zam:(Sl Gate)) (zat:(Sl straight)) (zan:(Sl Gate)) (zau:(Sl straight)) (zdC:Int) (zdD:Int) (zbF:Int) (zbG:Int) (zha:Int) (zjX:Int) (ze1:Int) (ze2:Int) (zjY:Int) (zjZ:Int) (zdb:Int) (zdc:Int) (zbo:Int) (zbp:Int):Bool :=
  (zrF P7 low high zam zat zan zau zdC zdD zbF zbG zdb zdc zbo zbp zha zjX (decide ((s69 (⟨zdb,zdc⟩:Frac) (⟨zdC,zdD⟩:Frac)) > (0:Int))))
theorem zAy (hX7:znP K low high zam zat zan zau X7 P7 S7) (hs:zrH P7 low high zam zat zan zau zdC zdD zbF zbG zha zjX ze1 ze2 zjY zjZ zdb zdc zbo zbp=true) (hk:K (e19 (zrG S7 low high zam zat zan zau zdC zdD zbF zbG zha zjX ze1 ze2 zjY zjZ zdb zdc zbo zbp))):z19 K [1,0,1,1,1,1,1,1,1,1,0,1,0,0,1,1,0,0,1,1,1] [X7] ⟨[(2,zI low),(3,zI high),(9,zp 9 0),(10,zp 10 0),(12,zp 12 0),(13,zp 13 0),(14,zp 14 0),(15,zp 15 0),(16,zp 16 0),(17,zI (w64 (high+(1:Int)))),(18,zI zha),(19,zp 19 0),(20,zp 20 0),(21,zp 21 0),(22,zp 22 0),(76,zI (w64 ((w64 (high - low))+(1:Int)))),(77,zI zjX)],[(9,.box 25 (zm (zae (⟨(0:Int),(0:Int)⟩:Frac)))),(10,.box 25 (zm (zae (⟨(0:Int),(0:Int)⟩:Frac)))),(12,.box 25 (zm (zae (⟨(0:Int),(0:Int)⟩:Frac)))),(13,.box 104 (zm (zaV (⟨(⟨zam⟩:list),zat⟩:set)))),(14,.box 104 (zm (zaV (⟨(⟨zan⟩:list),zau⟩:set)))),(15,.box 25 (zm (zae (⟨ze1,ze2⟩:Frac)))),(16,.box 25 (zm (zae (⟨zjY,zjZ⟩:Frac)))),(19,.box 25 (zm (zae (⟨zdC,zdD⟩:Frac)))),(20,.box 25 (zm (zae (⟨zbF,zbG⟩:Frac)))),(21,.box 25 (zm (zae (⟨zdb,zdc⟩:Frac)))),(22,.box 25 (zm (zae (⟨zbo,zbp⟩:Frac))))],[]⟩:=zay (by kernel_rfl) (zAx hX7 hs hk)
def zvf (S7:Int→Int→Int→Int→Int→(Int×Frac×Frac×Int)) (low:Int) (high:Int) (zam:(Sl Gate)) (zat:(Sl straight)) (zan:(Sl Gate)) (zau:(Sl straight)) (iv8:Int) (zpo:Int) (zex:Int) (zey:Int) (zjV:Int) (zjW:Int) (zdC:Int) (zdD:Int) (zbF:Int) (zbG:Int):(Int×Frac×Frac×Int) :=
  (zrG S7 low high zam zat zan zau zdC zdD zbF zbG iv8 zpo zex zey zjV zjW (((s68 (⟨(⟨zan⟩:list),zau⟩:set) (w64 (low+iv8))).1).Num) (((s68 (⟨(⟨zan⟩:list),zau⟩:set) (w64 (low+iv8))).1).Den) (((s68 (⟨(⟨zan⟩:list),zau⟩:set) (w64 (low+iv8))).2).Num) (((s68 (⟨(⟨zan⟩:list),zau⟩:set) (w64 (low+iv8))).2).Den))
def zvg (P7:Int→Int→Int→Int→Int→Bool) (low:Int) (high:Int) (zam:(Sl Gate)) (zat:(Sl straight)) (zan:(Sl Gate)) (zau:(Sl straight)) (iv8:Int) (zpo:Int) (zex:Int) (zey:Int) (zjV:Int) (zjW:Int) (zdC:Int) (zdD:Int) (zbF:Int) (zbG:Int):Bool :=
  (decide ((p68 (⟨(⟨zan⟩:list),zau⟩:set) (w64 (low+iv8))=true)) &&
 (zrH P7 low high zam zat zan zau zdC zdD zbF zbG iv8 zpo zex zey zjV zjW (((s68 (⟨(⟨zan⟩:list),zau⟩:set) (w64 (low+iv8))).1).Num) (((s68 (⟨(⟨zan⟩:list),zau⟩:set) (w64 (low+iv8))).1).Den) (((s68 (⟨(⟨zan⟩:list),zau⟩:set) (w64 (low+iv8))).2).Num) (((s68 (⟨(⟨zan⟩:list),zau⟩:set) (w64 (low+iv8))).2).Den)))
theorem zEa (hX7:znP K low high zam zat zan zau X7 P7 S7) (hs:zvg P7 low high zam zat zan zau iv8 zpo zex zey zjV zjW zdC zdD zbF zbG=true) (hk:K (e19 (zvf S7 low high zam zat zan zau iv8 zpo zex zey zjV zjW zdC zdD zbF zbG))):z19 K [1,0,1,1,1,1,1,1,1,1,0,1,0,0,1,1,0,0,1,1] [X7] ⟨[(2,zI low),(3,zI high),(9,zp 9 0),(10,zp 10 0),(12,zp 12 0),(13,zp 13 0),(14,zp 14 0),(15,zp 15 0),(16,zp 16 0),(17,zI (w64 (high+(1:Int)))),(18,zI iv8),(19,zp 19 0),(20,zp 20 0),(76,zI (w64 ((w64 (high - low))+(1:Int)))),(77,zI zpo)],[(9,.box 25 (zm (zae (⟨(0:Int),(0:Int)⟩:Frac)))),(10,.box 25 (zm (zae (⟨(0:Int),(0:Int)⟩:Frac)))),(12,.box 25 (zm (zae (⟨(0:Int),(0:Int)⟩:Frac)))),(13,.box 104 (zm (zaV (⟨(⟨zam⟩:list),zat⟩:set)))),(14,.box 104 (zm (zaV (⟨(⟨zan⟩:list),zau⟩:set)))),(15,.box 25 (zm (zae (⟨zex,zey⟩:Frac)))),(16,.box 25 (zm (zae (⟨zjV,zjW⟩:Frac)))),(19,.box 25 (zm (zae (⟨zdC,zdD⟩:Frac)))),(20,.box 25 (zm (zae (⟨zbF,zbG⟩:Frac))))],[]⟩:=zay (by kernel_rfl) (zav hs fun hc hs=>And.intro (And.intro (zE enc_55 3 zan.get) (And.intro (zE zah 3 zau.get) hc)) (zAy hX7 hs hk))
def zvh (low:Int) (high:Int) (zam:(Sl Gate)) (zat:(Sl straight)) (zan:(Sl Gate)) (zau:(Sl straight)) (S7:Int→Int→Int→Int→Int→(Int×Frac×Frac×Int)) (zcs:Int) (zbv:Int) (zbw:Int) (zcF:Int) (zcG:Int):(Int×Frac×Frac×Int) :=
  (cond (decide (zcs < (w64 ((w64 (high - low)) + (1:Int)))))
 (zvf S7 low high zam zat zan zau zcs zcs zbv zbw zcF zcG (((s68 (⟨(⟨zam⟩:list),zat⟩:set) (w64 (low+zcs))).1).Num) (((s68 (⟨(⟨zam⟩:list),zat⟩:set) (w64 (low+zcs))).1).Den) (((s68 (⟨(⟨zam⟩:list),zat⟩:set) (w64 (low+zcs))).2).Num) (((s68 (⟨(⟨zam⟩:list),zat⟩:set) (w64 (low+zcs))).2).Den))
 (zpp high (w64 (high+(1:Int))) zbv zbw zcF zcG))
def zvi (low:Int) (high:Int) (zam:(Sl Gate)) (zat:(Sl straight)) (zan:(Sl Gate)) (zau:(Sl straight)) (P7:Int→Int→Int→Int→Int→Bool) (zcs:Int) (zbv:Int) (zbw:Int) (zcF:Int) (zcG:Int):Bool :=
  (cond (decide (zcs < (w64 ((w64 (high - low)) + (1:Int)))))
 (decide ((p68 (⟨(⟨zam⟩:list),zat⟩:set) (w64 (low+zcs))=true)) &&
 (zvg P7 low high zam zat zan zau zcs zcs zbv zbw zcF zcG (((s68 (⟨(⟨zam⟩:list),zat⟩:set) (w64 (low+zcs))).1).Num) (((s68 (⟨(⟨zam⟩:list),zat⟩:set) (w64 (low+zcs))).1).Den) (((s68 (⟨(⟨zam⟩:list),zat⟩:set) (w64 (low+zcs))).2).Num) (((s68 (⟨(⟨zam⟩:list),zat⟩:set) (w64 (low+zcs))).2).Den)))
 true)
def zvj (low:Int) (high:Int) (zam:(Sl Gate)) (zat:(Sl straight)) (zan:(Sl Gate)) (zau:(Sl straight)):Nat→Int→Int→Int→Int→Int→(Int×Frac×Frac×Int):=lpO (fun _ _ _ _ _=>default) (zvh low high zam zat zan zau)
def zvk (low:Int) (high:Int) (zam:(Sl Gate)) (zat:(Sl straight)) (zan:(Sl Gate)) (zau:(Sl straight)):Nat→Int→Int→Int→Int→Int→Bool:=lpO (fun _ _ _ _ _=>false) (zvi low high zam zat zan zau)
def zvl (low:Int) (high:Int) (zam:(Sl Gate)) (zat:(Sl straight)) (zan:(Sl Gate)) (zau:(Sl straight)) (zcs:Int) (zbv:Int) (zbw:Int) (zcF:Int) (zcG:Int):(Int×Frac×Frac×Int):=zvj low high zam zat zan zau Fuel zcs zbv zbw zcF zcG
def zvm (low:Int) (high:Int) (zam:(Sl Gate)) (zat:(Sl straight)) (zan:(Sl Gate)) (zau:(Sl straight)) (zcs:Int) (zbv:Int) (zbw:Int) (zcF:Int) (zcG:Int):Bool:=zvk low high zam zat zan zau Fuel zcs zbv zbw zcF zcG
theorem zEb (hs:zvm low high zam zat zan zau zcs zbv zbw zcF zcG=true) (hk:K (e19 (zvl low high zam zat zan zau zcs zbv zbw zcF zcG))):z19 K [1,0,1,1,1,1,1,1,1,1,0,1,0] [] (zBW low high zam zat zan zau zcs zbv zbw zcF zcG) :=
  zl (fun X=>z19 K [1,0,1,1,1,1,1,1,1,1,0,1,0,0] [X]) (by kernel_rfl) fun X7 hX =>
  (show ∀ k, znP K low high zam zat zan zau X7 (zvk low high zam zat zan zau k) (zvj low high zam zat zan zau k) from zeK _ _ (zvi low high zam zat zan zau) (zvh low high zam zat zan zau) (znP K low high zam zat zan zau X7)
 (by intro _ _ _ _ _ hs;exact absurd hs Bool.false_ne_true)
 (by intro P7 S7 hX7 zcs zbv zbw zcF zcG hs hk;exact hX _ (zay (by kernel_rfl) (zc hs hk (fun hs hk=>(zav hs fun hc hs=>And.intro (And.intro (zE enc_55 3 zam.get) (And.intro (zE zah 3 zat.get) hc)) (zEa hX7 hs hk))) (fun hs hk=>(zve hk)))))) _ hs hk
def zvn (low:Int) (high:Int) (zam:(Sl Gate)) (zat:(Sl straight)) (zan:(Sl Gate)) (zau:(Sl straight)):(Int×Frac×Frac×Int) :=
  (zvl low high zam zat zan zau (0:Int) (0:Int) (0:Int) (0:Int) (0:Int))
def zvo (low:Int) (high:Int) (zam:(Sl Gate)) (zat:(Sl straight)) (zan:(Sl Gate)) (zau:(Sl straight)):Bool :=
  (zvm low high zam zat zan zau (0:Int) (0:Int) (0:Int) (0:Int) (0:Int))
theorem zEc (hs:zvo low high zam zat zan zau=true) (hk:K (e19 (zvn low high zam zat zan zau))):z19 K [1,0,1,1,1,1,1] [] ⟨[(2,zI low),(3,zI high),(9,zp 9 0),(10,zp 10 0),(12,zp 12 0),(13,zp 13 0),(14,zp 14 0)],[(9,.box 25 (zm (zae (⟨(0:Int),(0:Int)⟩:Frac)))),(10,.box 25 (zm (zae (⟨(0:Int),(0:Int)⟩:Frac)))),(12,.box 25 (zm (zae (⟨(0:Int),(0:Int)⟩:Frac)))),(13,.box 104 (zm (zaV (⟨(⟨zam⟩:list),zat⟩:set)))),(14,.box 104 (zm (zaV (⟨(⟨zan⟩:list),zau⟩:set))))],[]⟩:=zay (by kernel_rfl) (zEb hs hk)
def zpq (low:Int) (high:Int) (zam:(Sl Gate)) (zat:(Sl straight)) (zan:(Sl Gate)) (zau:(Sl straight)) (zpn:Bool):(Int×Frac×Frac×Int) :=
  (cond zpn
 ((0:Int),(⟨(0:Int),(0:Int)⟩:Frac),(⟨(0:Int),(0:Int)⟩:Frac),(6:Int))
 (zvn low high zam zat zan zau))
def zpr (low:Int) (high:Int) (zam:(Sl Gate)) (zat:(Sl straight)) (zan:(Sl Gate)) (zau:(Sl straight)) (zpn:Bool):Bool :=
  (cond zpn
 true
 (zvo low high zam zat zan zau))
theorem zvp (hs:zpr low high zam zat zan zau zpn=true) (hk:K (e19 (zpq low high zam zat zan zau zpn))):z19 K [1,0,1,1,1,1,0,1] [] ⟨[(2,zI low),(3,zI high),(9,zp 9 0),(10,zp 10 0),(12,zp 12 0),(13,zp 13 0),(14,zp 14 0),(68,zB zpn)],[(9,.box 25 (zm (zae (⟨(0:Int),(0:Int)⟩:Frac)))),(10,.box 25 (zm (zae (⟨(0:Int),(0:Int)⟩:Frac)))),(12,.box 25 (zm (zae (⟨(0:Int),(0:Int)⟩:Frac)))),(13,.box 104 (zm (zaV (⟨(⟨zam⟩:list),zat⟩:set)))),(14,.box 104 (zm (zaV (⟨(⟨zan⟩:list),zau⟩:set))))],[]⟩:=zay (by kernel_rfl) (zc hs hk (fun hs hk=>hk) (fun hs hk=>(zEc hs hk)))
def zvq (low:Int) (high:Int) (zam:(Sl Gate)) (zat:(Sl straight)) (zan:(Sl Gate)) (zau:(Sl straight)):(Int×Frac×Frac×Int) :=
  (cond (s67 (⟨zam⟩ : list))
 (zpq low high zam zat zan zau true)
 (zpq low high zam zat zan zau (s67 (⟨zan⟩:list))))
def zvr (low:Int) (high:Int) (zam:(Sl Gate)) (zat:(Sl straight)) (zan:(Sl Gate)) (zau:(Sl straight)):Bool :=
  (decide ((p67 (⟨zam⟩:list)=true)) &&
 (cond (s67 (⟨zam⟩ : list))
 (zpr low high zam zat zan zau true)
 (decide ((p67 (⟨zan⟩:list)=true)) &&
 (zpr low high zam zat zan zau (s67 (⟨zan⟩:list))))))
theorem zEd (hs:zvr low high zam zat zan zau=true) (hk:K (e19 (zvq low high zam zat zan zau))):z19 K [1,0,1,1,1,1] [] ⟨[(2,zI low),(3,zI high),(9,zp 9 0),(10,zp 10 0),(12,zp 12 0),(13,zp 13 0),(14,zp 14 0)],[(9,.box 25 (zm (zae (⟨(0:Int),(0:Int)⟩:Frac)))),(10,.box 25 (zm (zae (⟨(0:Int),(0:Int)⟩:Frac)))),(12,.box 25 (zm (zae (⟨(0:Int),(0:Int)⟩:Frac)))),(13,.box 104 (zm (zaV (⟨(⟨zam⟩:list),zat⟩:set)))),(14,.box 104 (zm (zaV (⟨(⟨zan⟩:list),zau⟩:set))))],[]⟩:=zay (by kernel_rfl) (zav hs fun hc hs=>And.intro (And.intro (zE enc_55 3 zam.get) hc) (zc hs hk (fun hs hk=>(zvp hs hk)) (fun hs hk=>(zav hs fun hc hs=>And.intro (And.intro (zE enc_55 3 zan.get) hc) (zvp hs hk)))))
def zps (low:Int) (high:Int) (zam:(Sl Gate)) (zat:(Sl straight)) (zan:(Sl Gate)) (zau:(Sl straight)) (zpm:Bool):(Int×Frac×Frac×Int) :=
  (cond zpm
 ((0:Int),(⟨(0:Int),(0:Int)⟩:Frac),(⟨(0:Int),(0:Int)⟩:Frac),(5:Int))
 (zvq low high zam zat zan zau))
def zpt (low:Int) (high:Int) (zam:(Sl Gate)) (zat:(Sl straight)) (zan:(Sl Gate)) (zau:(Sl straight)) (zpm:Bool):Bool :=
  (cond zpm
 true
 (zvr low high zam zat zan zau))
theorem zvs (hs:zpt low high zam zat zan zau zpm=true) (hk:K (e19 (zps low high zam zat zan zau zpm))):z19 K [1,0,1,1,1,0,1] [] ⟨[(2,zI low),(3,zI high),(9,zp 9 0),(10,zp 10 0),(12,zp 12 0),(13,zp 13 0),(14,zp 14 0),(58,zB zpm)],[(9,.box 25 (zm (zae (⟨(0:Int),(0:Int)⟩:Frac)))),(10,.box 25 (zm (zae (⟨(0:Int),(0:Int)⟩:Frac)))),(12,.box 25 (zm (zae (⟨(0:Int),(0:Int)⟩:Frac)))),(13,.box 104 (zm (zaV (⟨(⟨zam⟩:list),zat⟩:set)))),(14,.box 104 (zm (zaV (⟨(⟨zan⟩:list),zau⟩:set))))],[]⟩:=zay (by kernel_rfl) (zc hs hk (fun hs hk=>hk) (fun hs hk=>(zEd hs hk)))
def zvt (low:Int) (high:Int) (zam:(Sl Gate)) (zat:(Sl straight)) (zan:(Sl Gate)) (zau:(Sl straight)):(Int×Frac×Frac×Int) :=
  (cond (!(s66 (⟨(⟨zam⟩ : list), zat⟩ : set)))
 (zps low high zam zat zan zau true)
 (zps low high zam zat zan zau (!(s66 (⟨(⟨zan⟩:list),zau⟩:set)))))
def zvu (low:Int) (high:Int) (zam:(Sl Gate)) (zat:(Sl straight)) (zan:(Sl Gate)) (zau:(Sl straight)):Bool :=
  (decide ((p66 (⟨(⟨zam⟩:list),zat⟩:set)=true)) &&
 (cond (!(s66 (⟨(⟨zam⟩ : list), zat⟩ : set)))
 (zpt low high zam zat zan zau true)
 (decide ((p66 (⟨(⟨zan⟩:list),zau⟩:set)=true)) &&
 (zpt low high zam zat zan zau (!(s66 (⟨(⟨zan⟩:list),zau⟩:set)))))))
theorem zEe (hs:zvu low high zam zat zan zau=true) (hk:K (e19 (zvt low high zam zat zan zau))) (zEf:zva=zg enc_55 zam) (zEg:zvb=zg zah zat) (zEh:zvc=zg enc_55 zan) (zEi:zvd=zg zah zau):z19 K [1,0,1,1,1] [] ⟨[(2,zI low),(3,zI high),(9,zp 9 0),(10,zp 10 0),(12,zp 12 0),(13,zp 13 0),(14,zp 14 0)],[(9,.box 25 (zm (zae (⟨(0:Int),(0:Int)⟩:Frac)))),(10,.box 25 (zm (zae (⟨(0:Int),(0:Int)⟩:Frac)))),(12,.box 25 (zm (zae (⟨(0:Int),(0:Int)⟩:Frac)))),(13,.box 104 [.p (.sl zam.len 3 zva),.p (.sl zat.len 3 zvb)]),(14,.box 104 [.p (.sl zan.len 3 zvc),.p (.sl zau.len 3 zvd)])],[]⟩:=by subst zEf;subst zEg;subst zEh;subst zEi;exact zay (by kernel_rfl) (zav hs fun hc hs=>And.intro (And.intro (zE enc_55 3 zam.get) (And.intro (zE zah 3 zat.get) hc)) (zc hs hk (fun hs hk=>(zvs hs hk)) (fun hs hk=>(zav hs fun hc hs=>And.intro (And.intro (zE enc_55 3 zan.get) (And.intro (zE zah 3 zau.get) hc)) (zvs hs hk)))))
def zvv (a:(Sl Gate)) (b:(Sl Gate)) (low:Int) (high:Int):(Int×Frac×Frac×Int) :=
  (zvt low high ((s65 a).list.Gates) ((s65 a).corners) ((s65 b).list.Gates) ((s65 b).corners))
def zvw (a:(Sl Gate)) (b:(Sl Gate)) (low:Int) (high:Int):Bool :=
  (decide ((p65 a=true)) &&
 (decide ((p65 b=true)) &&
 (zvu low high ((s65 a).list.Gates) ((s65 a).corners) ((s65 b).list.Gates) ((s65 b).corners))))
theorem zEj (hs:zvw a b low high=true) (hk:K (e19 (zvv a b low high))):z19 K [1,0,1,1] [] ⟨[(0,zS enc_55 3 a),(1,zS enc_55 3 b),(2,zI low),(3,zI high),(9,zp 9 0),(10,zp 10 0),(12,zp 12 0)],[(9,.box 25 (zm (zae (⟨(0:Int),(0:Int)⟩:Frac)))),(10,.box 25 (zm (zae (⟨(0:Int),(0:Int)⟩:Frac)))),(12,.box 25 (zm (zae (⟨(0:Int),(0:Int)⟩:Frac))))],[]⟩:=zay (by kernel_rfl) (zav hs fun hc hs=>And.intro (And.intro (zE enc_55 3 a.get) hc) (zav hs fun hc hs=>And.intro (And.intro (zE enc_55 3 b.get) hc) (zEe hs hk rfl rfl rfl rfl)))
def zhJ (a:(Sl Gate)) (b:(Sl Gate)) (low:Int) (high:Int) (zpl:Bool):(Int×Frac×Frac×Int) :=
  (cond zpl
 ((0:Int),(⟨(0:Int),(0:Int)⟩:Frac),(⟨(0:Int),(0:Int)⟩:Frac),(2:Int))
 (zvv a b low high))
def zhK (a:(Sl Gate)) (b:(Sl Gate)) (low:Int) (high:Int) (zpl:Bool):Bool :=
  (cond zpl
 true
 (zvw a b low high))
theorem zj2 (hs:zhK a b low high zpl=true) (hk:K (e19 (zhJ a b low high zpl))):z19 K [1,0,1,0,1] [] ⟨[(0,zS enc_55 3 a),(1,zS enc_55 3 b),(2,zI low),(3,zI high),(9,zp 9 0),(10,zp 10 0),(12,zp 12 0),(44,zB zpl)],[(9,.box 25 (zm (zae (⟨(0:Int),(0:Int)⟩:Frac)))),(10,.box 25 (zm (zae (⟨(0:Int),(0:Int)⟩:Frac)))),(12,.box 25 (zm (zae (⟨(0:Int),(0:Int)⟩:Frac))))],[]⟩:=zay (by kernel_rfl) (zc hs hk (fun hs hk=>hk) (fun hs hk=>(zEj hs hk)))
def s19 (a:(Sl Gate)) (b:(Sl Gate)) (low:Int) (high:Int):(Int×Frac×Frac×Int) :=
  (cond (decide (low < (-100000:Int)))
 (zhJ a b low high true)
 (cond (decide (low > high))
 (zhJ a b low high true)
 (cond (decide (high > (200000:Int)))
 (zhJ a b low high true)
 (cond (!(s64 a))
 (zhJ a b low high true)
 (zhJ a b low high (!(s64 b)))))))
def p19 (a:(Sl Gate)) (b:(Sl Gate)) (low:Int) (high:Int):Bool :=
  (cond (decide (low < (-100000:Int)))
 (zhK a b low high true)
 (cond (decide (low > high))
 (zhK a b low high true)
 (cond (decide (high > (200000:Int)))
 (zhK a b low high true)
 (decide ((p64 a=true)) &&
 (cond (!(s64 a))
 (zhK a b low high true)
 (decide ((p64 b=true)) &&
 (zhK a b low high (!(s64 b)))))))))
end
theorem q19 (a:(Sl Gate)) (b:(Sl Gate)) (low:Int) (high:Int) (K:List PA→Prop) (hs:p19 a b low high=true) (hk:K (e19 (s19 a b low high))):vcFun Try.prog G19 zD8 19 [.one (.sl a.len 3 (fun i=>enc_55 (a.get i))),.one (.sl b.len 3 (fun i=>enc_55 (b.get i))),.one (.int .i64 low),.one (.int .i64 high)] K :=
  zay (by kernel_rfl) (zc hs hk (fun hs hk=>(zj2 hs hk)) (fun hs hk=>(zc hs hk (fun hs hk=>(zj2 hs hk)) (fun hs hk=>(zc hs hk (fun hs hk=>(zj2 hs hk)) (fun hs hk=>(zav hs fun hc hs=>And.intro (And.intro (zE enc_55 3 a.get) hc) (zc hs hk (fun hs hk=>(zj2 hs hk)) (fun hs hk=>(zav hs fun hc hs=>And.intro (And.intro (zE enc_55 3 b.get) hc) (zj2 hs hk)))))))))))
def zEk : List PA → COut
  | [.one (.sl a0_n a0_s a0_g),.one (.sl a1_n a1_s a1_g),.one (.int .i64 a2),.one (.int .i64 a3)]=>.det (IsE enc_55 3 a0_s a0_g∧IsE enc_55 3 a1_s a1_g∧p19 (⟨a0_n,zad a0_g⟩:(Sl Gate)) (⟨a1_n,zad a1_g⟩:(Sl Gate)) a2 a3=true) [.one (.int .i64 ((s19 (⟨a0_n,zad a0_g⟩:(Sl Gate)) (⟨a1_n,zad a1_g⟩:(Sl Gate)) a2 a3).1)),.agg [.int .i64 (((s19 (⟨a0_n,zad a0_g⟩:(Sl Gate)) (⟨a1_n,zad a1_g⟩:(Sl Gate)) a2 a3).2.1).Num),.int .i64 (((s19 (⟨a0_n,zad a0_g⟩:(Sl Gate)) (⟨a1_n,zad a1_g⟩:(Sl Gate)) a2 a3).2.1).Den)],.agg [.int .i64 (((s19 (⟨a0_n,zad a0_g⟩:(Sl Gate)) (⟨a1_n,zad a1_g⟩:(Sl Gate)) a2 a3).2.2.1).Num),.int .i64 (((s19 (⟨a0_n,zad a0_g⟩:(Sl Gate)) (⟨a1_n,zad a1_g⟩:(Sl Gate)) a2 a3).2.2.1).Den)],.one (.int .i64 ((s19 (⟨a0_n,zad a0_g⟩:(Sl Gate)) (⟨a1_n,zad a1_g⟩:(Sl Gate)) a2 a3).2.2.2))]
  | _=>.no
theorem zIz:zaf Try.prog 19:=⟨_,rfl,rfl,by kernel_rfl⟩
theorem zOl:Ok Try.prog 19 zEk:=zaz zLw zIz fun args K h=>by
  unfold zEk at h
  split at h
  · rename_i a0_n a0_s a0_g a1_n a1_s a1_g a2 a3
    obtain ⟨⟨⟨rfl,a0_f,rfl⟩,⟨rfl,a1_f,rfl⟩,hs⟩,hk⟩:=h
    try rw [zac a0_f] at hs
    try rw [zac a0_f] at hk
    try rw [zac a1_f] at hs
    try rw [zac a1_f] at hk
    exact ⟨(fun _ _=>[]),(fun _=>false),zD8,q19 (⟨a0_n,a0_f⟩:(Sl Gate)) (⟨a1_n,a1_f⟩:(Sl Gate)) a2 a3 K hs hk⟩
  · exact h.elim
abbrev T30:Tabs:=(((Tabs.nil.addF 68 zAt).addF 74 zoN).addF 75 zuH)
theorem zLx:TabsOk Try.prog T30:=(((TabsOk.nil.addF zMP).addF zHy).addF zMB)
abbrev G30:Ctrs:=csm T30 (fun _ _=>[]) (fun _=>false)
def zEl:Ann:=⟨35,[(0,zK [0,3,4,5] [3,4,5]),(1,zK [0,3,4,5,13] [3,4,5]),(2,zK [4,5,6] [4,5]),(3,zK [3,4,5,7,8] [3,4,5,7]),(4,zK [3,4,5,7,8,23] [3,4,5,7]),(5,zK [4,5,6] [4,5]),(6,zK [4,5,9,10] [4,5,9,10]),(7,zK [4,5,6] [4,5])],
 [],
 [(2,zK [0,3,4,5,13] [3,4,5]),(3,zK [0,3,4,5] [3,4,5]),(4,zK [3,4,5,7,8] [3,4,5,7]),(6,zK [3,4,5,7] [3,4,5,7]),(7,zK [4,5,9,10] [4,5,9,10])],
 [],[]⟩
abbrev R30:=(Frac×Frac×Int)
abbrev e30 (r:R30):List PA:=[.agg [.int .i64 r.1.Num,.int .i64 r.1.Den],.agg [.int .i64 r.2.1.Num,.int .i64 r.2.1.Den],.one (.int .i64 r.2.2)]
@[irreducible] def z30:=ptF Try.prog G30 zEl Try.f30
section
variable {K:List PA→Prop} {zaa:(Sl Gate)} {z:Int} {zpu:Bool} {ev2:Int} {znQ:(Sl Gate)} {znR:(Sl straight)} {zvx:Nat→List PV} {zvy:Nat→List PV} {ziB:(Sl Gate)} {ziC:(Sl straight)} {zvz:Nat→List PV} {zvA:Nat→List PV} {zmn:Int} {zmo:Int} {ziU:Int} {ziV:Int}
def zvB (zmn:Int) (zmo:Int) (ziU:Int) (ziV:Int):(Frac×Frac×Int) :=
  ((⟨zmn,zmo⟩:Frac),(⟨ziU,ziV⟩:Frac),(0:Int))
theorem zEm (hk:K (e30 (zvB zmn zmo ziU ziV))):z30 K [1,1,1,1,1] [] ⟨[(4,zp 4 0),(5,zp 5 0),(9,zp 9 0),(10,zp 10 0)],[(4,.box 25 (zm (zae (⟨(0:Int),(0:Int)⟩:Frac)))),(5,.box 25 (zm (zae (⟨(0:Int),(0:Int)⟩:Frac)))),(9,.box 25 (zm (zae (⟨zmn,zmo⟩:Frac)))),(10,.box 25 (zm (zae (⟨ziU,ziV⟩:Frac))))],[]⟩:=zay (by kernel_rfl) hk
def zvC (z:Int) (ziB:(Sl Gate)) (ziC:(Sl straight)):(Frac×Frac×Int) :=
  (zvB (((s68 (⟨(⟨ziB⟩:list),ziC⟩:set) z).1).Num) (((s68 (⟨(⟨ziB⟩:list),ziC⟩:set) z).1).Den) (((s68 (⟨(⟨ziB⟩:list),ziC⟩:set) z).2).Num) (((s68 (⟨(⟨ziB⟩:list),ziC⟩:set) z).2).Den))
def zvD (z:Int) (ziB:(Sl Gate)) (ziC:(Sl straight)):Bool :=
  (decide ((p68 (⟨(⟨ziB⟩:list),ziC⟩:set) z=true)) &&
 true)
theorem zEn (hs:zvD z ziB ziC=true) (hk:K (e30 (zvC z ziB ziC))) (zEo:zvz=zg enc_55 ziB) (zEp:zvA=zg zah ziC):z30 K [1,1,1,1] [] ⟨[(3,zp 3 0),(4,zp 4 0),(5,zp 5 0),(7,zp 7 0)],[(3,.fbox [.int .i64 z]),(4,.box 25 (zm (zae (⟨(0:Int),(0:Int)⟩:Frac)))),(5,.box 25 (zm (zae (⟨(0:Int),(0:Int)⟩:Frac)))),(7,.box 104 [.p (.sl ziB.len 3 zvz),.p (.sl ziC.len 3 zvA)])],[]⟩:=by subst zEo;subst zEp;exact zay (by kernel_rfl) (zav hs fun hc hs=>And.intro (And.intro (zE enc_55 3 ziB.get) (And.intro (zE zah 3 ziC.get) hc)) (zEm hk))
def zvE (z:Int) (ev2:Int) (znQ:(Sl Gate)) (znR:(Sl straight)):(Frac×Frac×Int) :=
  (cond (ev2 != (0:Int))
 ((⟨(0:Int),(0:Int)⟩:Frac),(⟨(0:Int),(0:Int)⟩:Frac),ev2)
 (zvC z znQ znR))
def zvF (z:Int) (ev2:Int) (znQ:(Sl Gate)) (znR:(Sl straight)):Bool :=
  (cond (ev2 != (0:Int))
 true
 (zvD z znQ znR))
theorem zEq (hs:zvF z ev2 znQ znR=true) (hk:K (e30 (zvE z ev2 znQ znR))) (zEr:zvx=zg enc_55 znQ) (zEs:zvy=zg zah znR):z30 K [1,1,1] [] ⟨[(3,zp 3 0),(4,zp 4 0),(5,zp 5 0),(7,zp 7 0),(8,zI ev2)],[(3,.fbox [.int .i64 z]),(4,.box 25 (zm (zae (⟨(0:Int),(0:Int)⟩:Frac)))),(5,.box 25 (zm (zae (⟨(0:Int),(0:Int)⟩:Frac)))),(7,.box 104 [.p (.sl znQ.len 3 zvx),.p (.sl znR.len 3 zvy)])],[]⟩:=by subst zEr;subst zEs;exact zay (by kernel_rfl) (zc hs hk (fun hs hk=>hk) (fun hs hk=>(zEn hs hk rfl rfl)))
def zvG (zaa:(Sl Gate)) (z:Int):(Frac×Frac×Int) :=
  (zvE z ((zn7 z zaa).2) (((zn7 z zaa).1).list.Gates) (((zn7 z zaa).1).corners))
def zvH (zaa:(Sl Gate)) (z:Int):Bool :=
  (decide ((zDD z zaa=true)) &&
 (zvF z ((zn7 z zaa).2) (((zn7 z zaa).1).list.Gates) (((zn7 z zaa).1).corners)))
theorem zEt (hs:zvH zaa z=true) (hk:K (e30 (zvG zaa z))):z30 K [1,1] [] ⟨[(0,zS enc_55 3 zaa),(3,zp 3 0),(4,zp 4 0),(5,zp 5 0)],[(3,.box 3 [zi z]),(4,.box 25 (zm (zae (⟨(0:Int),(0:Int)⟩:Frac)))),(5,.box 25 (zm (zae (⟨(0:Int),(0:Int)⟩:Frac))))],[]⟩:=zay (by kernel_rfl) (zav hs fun hc hs=>And.intro (And.intro (zE enc_55 3 zaa.get) hc) (zEq hs hk rfl rfl))
def zvI (zaa:(Sl Gate)) (z:Int) (zpu:Bool):(Frac×Frac×Int) :=
  (cond zpu
 ((⟨(0:Int),(0:Int)⟩:Frac),(⟨(0:Int),(0:Int)⟩:Frac),(2:Int))
 (zvG zaa z))
def zvJ (zaa:(Sl Gate)) (z:Int) (zpu:Bool):Bool :=
  (cond zpu
 true
 (zvH zaa z))
theorem zEu (hs:zvJ zaa z zpu=true) (hk:K (e30 (zvI zaa z zpu))):z30 K [1,0,1] [] ⟨[(0,zS enc_55 3 zaa),(3,zp 3 0),(4,zp 4 0),(5,zp 5 0),(13,zB zpu)],[(3,.box 3 [zi z]),(4,.box 25 (zm (zae (⟨(0:Int),(0:Int)⟩:Frac)))),(5,.box 25 (zm (zae (⟨(0:Int),(0:Int)⟩:Frac))))],[]⟩:=zay (by kernel_rfl) (zc hs hk (fun hs hk=>hk) (fun hs hk=>(zEt hs hk)))
def s30 (zaa:(Sl Gate)) (z:Int):(Frac×Frac×Int) :=
  (zvI zaa z (!(s74 z (-100000:Int) (200000:Int))))
def p30 (zaa:(Sl Gate)) (z:Int):Bool :=
  (zvJ zaa z (!(s74 z (-100000:Int) (200000:Int))))
end
theorem q30 (zaa:(Sl Gate)) (z:Int) (K:List PA→Prop) (hs:p30 zaa z=true) (hk:K (e30 (s30 zaa z))):vcFun Try.prog G30 zEl 30 [.one (.sl zaa.len 3 (fun i=>enc_55 (zaa.get i))),.one (.int .i64 z)] K :=
  zay (by kernel_rfl) (zEu hs hk)
def zEv : List PA → COut
  | [.one (.sl a0_n a0_s a0_g),.one (.int .i64 a1)]=>.det (IsE enc_55 3 a0_s a0_g∧p30 (⟨a0_n,zad a0_g⟩:(Sl Gate)) a1=true) [.agg [.int .i64 (((s30 (⟨a0_n,zad a0_g⟩:(Sl Gate)) a1).1).Num),.int .i64 (((s30 (⟨a0_n,zad a0_g⟩:(Sl Gate)) a1).1).Den)],.agg [.int .i64 (((s30 (⟨a0_n,zad a0_g⟩:(Sl Gate)) a1).2.1).Num),.int .i64 (((s30 (⟨a0_n,zad a0_g⟩:(Sl Gate)) a1).2.1).Den)],.one (.int .i64 ((s30 (⟨a0_n,zad a0_g⟩:(Sl Gate)) a1).2.2))]
  | _=>.no
theorem zIA:zaf Try.prog 30:=⟨_,rfl,rfl,by kernel_rfl⟩
theorem zOm:Ok Try.prog 30 zEv:=zaz zLx zIA fun args K h=>by
  unfold zEv at h
  split at h
  · rename_i a0_n a0_s a0_g a1
    obtain ⟨⟨⟨rfl,a0_f,rfl⟩,hs⟩,hk⟩:=h
    try rw [zac a0_f] at hs
    try rw [zac a0_f] at hk
    exact ⟨(fun _ _=>[]),(fun _=>false),zEl,q30 (⟨a0_n,a0_f⟩:(Sl Gate)) a1 K hs hk⟩
  · exact h.elim
abbrev T84:Tabs:=((Tabs.nil.addF 65 zuB).addF 66 zuE)
theorem zLy:TabsOk Try.prog T84:=((TabsOk.nil.addF zK2).addF zK5)
abbrev G84:Ctrs:=csm T84 (fun _ _=>[]) (fun _=>false)
def zEw:Ann:=⟨25,[(0,zK [0,1] []),(1,zK [0,1,5] []),(2,zK [0,5,8,9,10] []),(3,zK [0,5,8,9,10,11] [20]),(4,zK [0,5,7,8,9,10] [20]),(5,zK [0,5,8,9,10] [20]),(6,zK [0,5,8,9,10] [20]),(7,zK [4] [])],
 [(3,⟨[0,5,8,9,10],[20],[(5,20,55,fun _=>enc_55 default)],[],[],[],[]⟩)],
 [],
 [],[]⟩
abbrev R84:=Bool
abbrev e84 (r:R84):List PA:=[.one (.bool r)]
@[irreducible] def z84:=ptF Try.prog G84 zEw Try.f84
def zBX (zaa:(Sl Gate)) (l_a1:(Sl Int)) (zcT:Int) (zck:(Sl Gate)) (ze5:Nat→List PV):St:=⟨[(0,zS enc_55 3 zaa),(5,zv 20),(8,zS zal 1 l_a1),(9,zI (l_a1.len:Int)),(10,zI zcT)],[(20,.vec 55 3 24 zck.len ze5)],[]⟩
abbrev zIB (K:List PA→Prop) (zaa:(Sl Gate)) (l_a1:(Sl Int)) (X:St→Prop) (P:Int→(Sl Gate)→Bool) (S:Int→(Sl Gate)→Bool):Prop:=∀ ⦃zcT:Int⦄ ⦃zck:(Sl Gate)⦄ ⦃ze5:Nat→List PV⦄,P zcT zck=true→K (e84 (S zcT zck))→ze5=zg enc_55 zck→X (zBX zaa l_a1 zcT zck ze5)
section
variable {K:List PA→Prop} {zaa:(Sl Gate)} {l_a1:(Sl Int)} {zcT:Int} {zck:(Sl Gate)} {ze5:Nat→List PV} {X0:St→Prop} {P0:Int→(Sl Gate)→Bool} {S0:Int→(Sl Gate)→Bool}
def zvK (zaa:(Sl Gate)) (l_a1:(Sl Int)) (S0:Int→(Sl Gate)→Bool) (zcT:Int) (zck:(Sl Gate)):Bool :=
  (cond (decide (zcT < (l_a1.len : Int)))
 (S0 (w64 (zcT+(1:Int))) (⟨(zck.len+1),(zdA zck.len zck.get (fun _=>(zaa.get ((l_a1.get zcT.toNat).toNat))))⟩:Sl Gate))
 (s66 (s65 zck)))
def zvL (zaa:(Sl Gate)) (l_a1:(Sl Int)) (P0:Int→(Sl Gate)→Bool) (zcT:Int) (zck:(Sl Gate)):Bool :=
  (cond (decide (zcT < (l_a1.len : Int)))
 (decide ((0≤zcT∧zcT < (l_a1.len:Int))) &&
 (decide ((0≤(l_a1.get zcT.toNat)∧(l_a1.get zcT.toNat) < (zaa.len:Int))) &&
 (decide (((zck.len+1) * 24≤140737488355328∧zck.len+1≤9223372036854775807)) &&
 (P0 (w64 (zcT+(1:Int))) (⟨(zck.len+1),(zdA zck.len zck.get (fun _=>(zaa.get ((l_a1.get zcT.toNat).toNat))))⟩:Sl Gate)))))
 (decide ((p65 zck=true)) &&
 (decide ((p66 (s65 zck)=true)) &&
 true)))
def zvM (zaa:(Sl Gate)) (l_a1:(Sl Int)):Nat→Int→(Sl Gate)→Bool:=lpO (fun _ _=>default) (zvK zaa l_a1)
def zvN (zaa:(Sl Gate)) (l_a1:(Sl Int)):Nat→Int→(Sl Gate)→Bool:=lpO (fun _ _=>false) (zvL zaa l_a1)
def zvO (zaa:(Sl Gate)) (l_a1:(Sl Int)) (zcT:Int) (zck:(Sl Gate)):Bool:=zvM zaa l_a1 Fuel zcT zck
def zvP (zaa:(Sl Gate)) (l_a1:(Sl Int)) (zcT:Int) (zck:(Sl Gate)):Bool:=zvN zaa l_a1 Fuel zcT zck
theorem zEx (hs:zvP zaa l_a1 zcT zck=true) (hk:K (e84 (zvO zaa l_a1 zcT zck))) (zpv:ze5=zg enc_55 zck):z84 K [1,1,0,1,0] [] (zBX zaa l_a1 zcT zck ze5) :=
  zl (fun X=>z84 K [1,1,0,1,0,0] [X]) (by kernel_rfl) fun X0 hX =>
  (show ∀ k, zIB K zaa l_a1 X0 (zvN zaa l_a1 k) (zvM zaa l_a1 k) from zeK _ _ (zvL zaa l_a1) (zvK zaa l_a1) (zIB K zaa l_a1 X0)
 (by intro _ _ _ hs;exact absurd hs Bool.false_ne_true)
 (by intro P0 S0 hX0 zcT zck ze5 hs hk zpv;subst zpv;exact hX _ (zay (by kernel_rfl) (zc hs hk (fun hs hk=>(zav hs fun hc hs=>And.intro hc (zav hs fun hc hs=>And.intro hc (zav hs fun hc hs=>And.intro hc (hX0 hs hk (zeH (enc:=enc_55) (f:=zck.get) (h:=(fun _=>(zaa.get ((l_a1.get zcT.toNat).toNat)))) rfl rfl)))))) (fun hs hk=>(zav hs fun hc hs=>And.intro (And.intro (zE enc_55 3 zck.get) hc) (zav hs fun hc hs=>And.intro (And.intro (zE enc_55 3 ((s65 zck).list.Gates.get)) (And.intro (zE zah 3 ((s65 zck).corners.get)) hc)) hk))))))) _ hs hk zpv
def s84 (zaa:(Sl Gate)) (l_a1:(Sl Int)):Bool :=
  (zvO zaa l_a1 (0:Int) (⟨0,(fun _=>default)⟩:Sl Gate))
def p84 (zaa:(Sl Gate)) (l_a1:(Sl Int)):Bool :=
  (zvP zaa l_a1 (0:Int) (⟨0,(fun _=>default)⟩:Sl Gate))
end
theorem q84 (zaa:(Sl Gate)) (l_a1:(Sl Int)) (K:List PA→Prop) (hs:p84 zaa l_a1=true) (hk:K (e84 (s84 zaa l_a1))):vcFun Try.prog G84 zEw 84 [.one (.sl zaa.len 3 (fun i=>enc_55 (zaa.get i))),.one (.sl l_a1.len 1 (fun i=>zal (l_a1.get i)))] K :=
  zay (by kernel_rfl) (zEx hs hk rfl)
def zEy : List PA → COut
  | [.one (.sl a0_n a0_s a0_g),.one (.sl a1_n a1_s a1_g)]=>.det (IsE enc_55 3 a0_s a0_g∧IsE zal 1 a1_s a1_g∧p84 (⟨a0_n,zad a0_g⟩:(Sl Gate)) (⟨a1_n,zcQ a1_g⟩:(Sl Int))=true) [.one (.bool (s84 (⟨a0_n,zad a0_g⟩:(Sl Gate)) (⟨a1_n,zcQ a1_g⟩:(Sl Int))))]
  | _=>.no
theorem zIC:zaf Try.prog 84:=⟨_,rfl,rfl,by kernel_rfl⟩
theorem zOn:Ok Try.prog 84 zEy:=zaz zLy zIC fun args K h=>by
  unfold zEy at h
  split at h
  · rename_i a0_n a0_s a0_g a1_n a1_s a1_g
    obtain ⟨⟨⟨rfl,a0_f,rfl⟩,⟨rfl,a1_f,rfl⟩,hs⟩,hk⟩:=h
    try rw [zac a0_f] at hs
    try rw [zac a0_f] at hk
    try rw [zdr a1_f] at hs
    try rw [zdr a1_f] at hk
    exact ⟨(fun _ _=>[]),(fun _=>false),zEw,q84 (⟨a0_n,a0_f⟩:(Sl Gate)) (⟨a1_n,a1_f⟩:(Sl Int)) K hs hk⟩
  · exact h.elim
end Go.Proofs
