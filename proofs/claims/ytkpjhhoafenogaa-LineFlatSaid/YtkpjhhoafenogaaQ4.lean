/- Part 4 of what the proof rests on: a machine that runs functions of the program on pure values, proved sound; the functions that the law reaches, and what they compute. -/
import Derived.Test.YtkpjhhoafenogaaQ3
import Derived.Sort.OwnSortedInts
import Derived.Lib.SlicesCompact
import Derived.ProofKit
import Derived.Deep.Slices
import Derived.OpenShut
import Derived.Shelf.SlSortCmp.WholeK
import Derived.Test.YtkpjhhoafenogaaProg
import Derived.Shelf.SlSortCmp.NoneTotal
set_option linter.all false
namespace Go.Pm

structure Tabs where
  fn:List (Nat×(List PA→COut))
  own:List (Nat×OwnK)
  it:List (Nat×(List PA→Option (Prop×List (List PA))))
  mt:List (Nat×MK)
def zwN : List (Nat × (List PA → COut)) → Nat → List PA → COut
  | [],_=>fun _=>.no
  | (k,c) :: r,n=>match Nat.beq k n with | true=>c | false=>zwN r n
def zwO (l:List (Nat×OwnK)) (f:Nat):OwnK:=match lk l f with | some c=>c | none=>.none
def zEI (l:List (Nat×(List PA→Option (Prop×List (List PA))))) (f:Nat):List PA→Option (Prop×List (List PA)):=match lk l f with | some c=>c | none=>fun _=>none
def csm (T:Tabs) (memo:Nat→Int→List Int) (vv:Nat→Bool):Ctrs:=⟨zwN T.fn,zwO T.own,zEI T.it,memo,vv,lk T.mt⟩
abbrev cs (T:Tabs):Ctrs:=csm T (fun _ _=>[]) (fun _=>false)
def Tabs.nil:Tabs:=⟨[],[],[],[]⟩
def Tabs.addF (T:Tabs) (f:Nat) (c:List PA→COut):Tabs:=⟨(f,c) :: T.fn,T.own,T.it,T.mt⟩
def Tabs.addO (T:Tabs) (f:Nat) (c:OwnK):Tabs:=⟨T.fn,(f,c) :: T.own,T.it,T.mt⟩
def Tabs.addI (T:Tabs) (f:Nat) (c:List PA→Option (Prop×List (List PA))):Tabs:=⟨T.fn,T.own,(f,c) :: T.it,T.mt⟩
def Tabs.addM (T:Tabs) (f:Nat) (c:MK):Tabs:=⟨T.fn,T.own,T.it,(f,c) :: T.mt⟩

theorem zMm {P:Program} {f:Nat} : Ok P f (fun _=>.no):=fun _ _ h=>h.elim
theorem zMn {P:Program} {f:Nat} : zCV P f (fun _=>none):=fun _ _ _ h=>by cases h

structure TabsOk (P : Program) (T : Tabs) : Prop where
  fn:∀ x∈T.fn,Ok P x.1 x.2
  own:∀ x∈T.own,zmQ P x.1 x.2
  it:∀ x∈T.it,zCV P x.1 x.2
  mt:∀ x∈T.mt,zuT P x.1 x.2
theorem TabsOk.nil {P:Program} : TabsOk P .nil:=⟨fun _ h=>(by cases h),fun _ h=>(by cases h),fun _ h=>(by cases h),fun _ h=>(by cases h)⟩
theorem TabsOk.addF {P:Program} {T:Tabs} (h:TabsOk P T) {f:Nat} {c:List PA→COut} (hc:Ok P f c):TabsOk P (T.addF f c) :=
 ⟨fun x hx=>(List.mem_cons.1 hx).elim (fun e=>by rw [e];exact hc) (fun hx=>h.fn x hx),h.own,h.it,h.mt⟩
theorem TabsOk.addO {P:Program} {T:Tabs} (h:TabsOk P T) {f:Nat} {c:OwnK} (hc:zmQ P f c):TabsOk P (T.addO f c) :=
 ⟨h.fn,fun x hx=>(List.mem_cons.1 hx).elim (fun e=>by rw [e];exact hc) (fun hx=>h.own x hx),h.it,h.mt⟩
theorem TabsOk.addI {P:Program} {T:Tabs} (h:TabsOk P T) {f:Nat} {c:List PA→Option (Prop×List (List PA))} (hc:zCV P f c):TabsOk P (T.addI f c) :=
 ⟨h.fn,h.own,fun x hx=>(List.mem_cons.1 hx).elim (fun e=>by rw [e];exact hc) (fun hx=>h.it x hx),h.mt⟩
theorem TabsOk.addM {P:Program} {T:Tabs} (h:TabsOk P T) {f:Nat} {c:MK} (hc:zuT P f c):TabsOk P (T.addM f c) :=
 ⟨h.fn,h.own,h.it,fun x hx=>(List.mem_cons.1 hx).elim (fun e=>by rw [e];exact hc) (fun hx=>h.mt x hx)⟩
theorem TabsOk.all {P:Program} {T:Tabs} (h:TabsOk P T) (memo:Nat→Int→List Int) (vv:Nat→Bool):OkAll P (csm T memo vv):=by
 refine ⟨fun f C hC=>h.mt _ (zb6 hC),fun f=>?_,fun f=>?_,fun f=>?_⟩
 ·show Ok P f (zwN T.fn f)
  have key:∀ l:List (Nat×(List PA→COut)),(∀ x∈l,Ok P x.1 x.2)→Ok P f (zwN l f):=by
   intro l
   induction l with
   | nil=>intro _;exact zMm
   | cons x l ih =>
    intro hl
    obtain ⟨k,c⟩:=x
    simp only [zwN]
    split
    ·rename_i e
     have:=hl (k,c) List.mem_cons_self
     rw [← Nat.eq_of_beq_eq_true e];exact this
    ·exact ih fun x hx=>hl x (List.mem_cons_of_mem _ hx)
  exact key T.fn h.fn
 ·show zmQ P f (zwO T.own f)
  unfold zwO
  split
  ·rename_i c hc;exact h.own _ (zb6 hc)
  ·trivial
 ·show zCV P f (zEI T.it f)
  unfold zEI
  split
  ·rename_i c hc;exact h.it _ (zb6 hc)
  ·exact zMn

theorem zaY {P : Program} {T : Tabs} (hT : TabsOk P T) {f : FuncId} {C : List PA → COut} (hc : zal P f)
    (h:∀ args K,(C args).wp K→∃ memo vv ann,vcFun P (csm T memo vv) ann f args K):Ok P f C :=
  zBK (hT.all (fun _ _=>[]) (fun _=>false)) hc h
theorem zEJ {P : Program} {T : Tabs} (hT : TabsOk P T) {f : FuncId} {C : MK} (hc : zal P f)
    (h:∀ xs safe rs ys,C xs=some (safe,rs,ys)→safe→∀ K:List PA→List XA→Prop,K rs ys→∃ memo vv ann,zvj P (csm T memo vv) ann f xs K):zuT P f C :=
  zwK (hT.all (fun _ _=>[]) (fun _=>false)) hc h
theorem zJj {P : Program} {T : Tabs} (hT : TabsOk P T) {f : FuncId} {C : List PA → Option (Prop × List (List PA))} (hc : zal P f)
    (h:∀ l caps safe ys,C caps=some (safe,ys)→safe→∃ memo vv ann,vcIter P (csm T memo vv) ann f l caps ys):zCV P f C :=
  zBQ (hT.all (fun _ _=>[]) (fun _=>false)) hc h
theorem zwP {P : Program} {T : Tabs} (hT : TabsOk P T) {f : FuncId} {e s b : Nat} (hc : zal P f)
    (h:∀ n get,n * b≤140737488355328→n≤9223372036854775807→∃ memo vv ann,zwM P (csm T memo vv) ann f [.one (.sl n s get)] e s b n get):zmQ P f (.clone e s b) :=
  zro (hT.all (fun _ _=>[]) (fun _=>false)) hc h

structure Sl (α : Type) where
  len:Nat
  get:Nat→α
instance {α:Type} [Inhabited α]:Inhabited (Sl α):=⟨⟨0,fun _=>default⟩⟩
abbrev w64 (x:Int):Int:=IntKind.i64.wrap x

def IsE {α:Type} (enc:α→List PV) (size s:Nat) (g:Nat→List PV):Prop:=s=size∧∃ f:Nat→α,g=fun i=>enc (f i)
theorem isE {α:Type} {enc:α→List PV} {size:Nat} {f:Nat→α} : IsE enc size size (fun i=>enc (f i)):=⟨rfl,f,rfl⟩
def zeb {α:Type} (n:Nat) (get new:Nat→α):Nat→α:=fun j=>match Nat.ble n j with | true=>new (j - n) | false=>get j
theorem zBR {α:Type} {enc:α→List PV} {n:Nat} {f h:Nat→α} : appG n (fun i=>enc (f i)) (fun i=>enc (h i))=fun i=>enc (zeb n f h i):=by
 funext j;simp only [appG,zeb];cases Nat.ble n j <;> rfl
def zfQ {α : Type} (x : α) : List α → Nat → α
  | [],_=>x
  | y :: _,0=>y
  | _ :: r,i+1=>zfQ x r i
theorem zfh {α:Type} {enc:α→List PV} {x y:α} {r:List α} : zd7 (enc x :: enc y :: r.map enc)=fun i=>enc (zfQ x (x :: y :: r) i):=by
 have key:∀ (l:List α) (i:Nat),(match (l.map enc)[i]? with | some z=>z | none=>enc x)=enc (zfQ x l i):=by
  intro l
  induction l with
  | nil=>intro i;rfl
  | cons a l ih =>
   intro i
   cases i with
   | zero=>rfl
   | succ i=>simpa [zfQ] using ih i
 funext i
 exact key (x :: y :: r) i
theorem zgz {α:Type} {enc:α→List PV} {size:Nat} {x y:α} (r:List α):IsE enc size size (zd7 (enc x :: enc y :: r.map enc)):=⟨rfl,_,zfh⟩

theorem zbq {b:Bool} {A B:Prop} {S S':Bool} {α:Type} {K:α→Prop} {x y:α} (h1:S=true→K x→A) (h2:S'=true→K y→B) (hs:cond b S S'=true) (hk:K (cond b x y)):zcP b A B:=by
 cases b
 ·exact h2 hs hk
 ·exact h1 hs hk
theorem znk {b:Bool} {A B:Prop} {S S':Bool} {α β:Type} {f:α→β} {ys:List β} {x y:List α} (hs:cond b S S'=true) (hk:ys=(cond b x y).map f) (h1:S=true→ys=x.map f→A) (h2:S'=true→ys=y.map f→B):zcP b A B:=by
 cases b
 ·exact h2 hs hk
 ·exact h1 hs hk
theorem itY {α β:Type} {f:α→β} {ys:List β} {p:β} {x r:List α} {l:Nat} {A:List β→Prop} (hk:ys=x.map f) (e:x.map f=p :: r.map f) (h:∀ zs,zs=r.map f→A zs):l=l∧∃ z,ys=p :: z∧A z∧True :=
 ⟨rfl,_,hk.trans e,h _ rfl,trivial⟩
theorem zaG {C A:Prop} [d:Decidable C] {r:Bool} (hs:(decide C && r)=true) (k:C→r=true→A):A:=by
 rw [Bool.and_eq_true] at hs
 exact k (of_decide_eq_true hs.1) hs.2
abbrev Fuel:Nat:=9223372036854775808
def setT {α:Type} (i:Nat) (v:α) (get:Nat→α):Nat→α:=fun j=>match Nat.beq j i with | true=>v | false=>get j
theorem zgU {α:Type} {enc:α→List PV} {n:Nat} {g g':Nat→List PV} {f h:Nat→α} (h1:g=fun i=>enc (f i)) (h2:g'=fun i=>enc (h i)):appG n g g'=fun i=>enc (zeb n f h i):=by
 subst h1;subst h2;exact zBR
theorem zJk {α:Type} {enc:α→List PV} {i k:Nat} {g:Nat→List PV} {f:Nat→α} {new:List PV} {v:α} (h1:g=fun i=>enc (f i)) (h2:spl (enc (f i)) k new=enc v):zoL i k g new=fun j=>enc (setT i v f j):=by
 subst h1
 funext j
 simp only [zoL,setT]
 cases e:Nat.beq j i
 ·rfl
 ·have := Nat.eq_of_beq_eq_true e
  subst this;exact h2
def zN8 (P:Program) (G:Ctrs) (ann:Ann) (hd:Nat) (ps:List Nat) (assign body:Code) (X:List (List PA)→St→Prop) (K:Exit→St→Prop) (y:List PA) (rest:List (List PA)) (s:St):Prop :=
 match lk ann.head hd with
 | some k=>match zhP ps y s.env with
  | some env=>vc P G ann assign (zEb (vc P G ann body (zl6 P k (X rest) K)) fun _ _=>False) ⟨env,s.objs,[]⟩
  | none=>False
 | none=>False
def sortB (n:Nat) (p:Nat→Nat→Bool) (c:Nat→Nat→Int):Bool :=
  (List.range n).all fun i => decide (0 ≤ c i i) && (List.range n).all fun j => p i j && (Nat.beq i j || (decide (c i j < 0) && decide (0 ≤ c j i)) || (decide (c j i < 0) && decide (0 ≤ c i j))) &&
    (List.range n).all fun k=>!(decide (c i j < 0) && decide (c j k < 0)) || decide (c i k < 0)
theorem zBS {n:Nat} {p:Nat→Nat→Bool} {c c':Nat→Nat→Int} {s:Nat→Nat→Prop} (h:sortB n p c=true) (hp:∀ i j,p i j=true→s i j) (hc:c'=c):(∀ i j,i < n→j < n→s i j)∧STO n c':=by
 subst hc
 simp only [sortB,List.all_eq_true,List.mem_range,Bool.and_eq_true,Bool.or_eq_true,decide_eq_true_eq,Bool.not_eq_true',Bool.and_eq_false_iff,decide_eq_false_iff_not] at h
 refine ⟨fun i j hi hj=>hp i j ((h i hi).2 j hj).1.1,fun i hi=>(h i hi).1,fun i j hi hj hne=>?_,fun i j k hi hj hk h1 h2=>?_⟩
 ·rcases ((h i hi).2 j hj).1.2 with (h1 | h1) | h1
  ·exact absurd (Nat.eq_of_beq_eq_true h1) hne
  ·exact .inl h1
  ·exact .inr h1
 ·rcases ((h i hi).2 j hj).2 k hk with (h3 | h3) | h3
  ·exact absurd h1 h3
  ·exact absurd h2 h3
  ·exact h3
end Go.Pm
namespace Go.Pm
open Go Go.Sort

def ins (x : Int) : List Int → List Int
  | []=>[x]
  | y :: r=>match decide (x≤y) with | true=>x :: y :: r | false=>y :: ins x r
/-! Nil slices are slices of length 0. -/
inductive PVle : PV → PV → Prop
  | rfl (p:PV):PVle p p
  | nil (s:Nat) (g:Nat→List PV):PVle .nils (.sl 0 s g)
  | nilm (q:MQ):PVle .nilm (.fm q 0 (fun _=>none))
inductive PAle : PA → PA → Prop
  | one {p q:PV} : PVle p q→PAle (.one p) (.one q)
  | agg {l m:List PV} : RL PVle l m→PAle (.agg l) (.agg m)
theorem zh1 {α β:Type} {R:α→β→Prop} : RL R [] []:=trivial
theorem zdy {α β:Type} {R:α→β→Prop} {a:α} {b:β} {l:List α} {m:List β} (h:R a b) (h':RL R l m):RL R (a :: l) (b :: m):=⟨h,h'⟩
theorem zeY {α : Type} {R : α → α → Prop} (h : ∀ a, R a a) : ∀ l : List α, RL R l l
  | []=>trivial
  | a :: l=>⟨h a,zeY h l⟩
theorem zfF (a:PA):PAle a a:=by
 cases a with
 | one p=>exact .one (.rfl p)
 | agg l=>exact .agg (zeY .rfl l)
def Wk (K:List PA→Prop) (l:List PA):Prop:=∃ l',RL PAle l l'∧K l'
theorem wk {K:List PA→Prop} {l l':List PA} (hk:K l') (h:RL PAle l l'):Wk K l:=⟨l',h,hk⟩
theorem zd0 {K:List PA→Prop} {l:List PA} (hk:K l):Wk K l:=⟨l,zeY zfF l,hk⟩
theorem zJl {h:Fz} {p q:PV} {v:Value} (e:PVle p q) (r:Rep h p v):Rep h q v:=by
 cases e with
 | rfl=>exact r
 | nil s g=>cases r;exact .sl0 s g
 | nilm q=>cases r;exact .fmn q _ (fun _ _=>rfl)
theorem zBT {α β γ : Type} {R : α → β → Prop} {S : α → γ → Prop} {T : γ → β → Prop} (h : ∀ a b c, S a c → R a b → T c b) : ∀ (l : List α) (m : List β) (k : List γ), RL S l k → RL R l m → RL T k m
  | [],[],[],_,_=>trivial
  | a :: l,b :: m,c :: k,hs,hr=>⟨h a b c hs.1 hr.1,zBT h l m k hs.2 hr.2⟩
  | [],_ :: _,[],_,hr=>hr.elim
  | [],_,_ :: _,hs,_=>hs.elim
  | _ :: _,_,[],hs,_=>hs.elim
  | _ :: _,[],_ :: _,_,hr=>hr.elim
theorem zEK {h:Fz} {a b:PA} {v:Value} (e:PAle a b) (r:paR h a v):paR h b v:=by
 cases e with
 | one e=>exact zJl e r
 | agg e =>
  obtain ⟨vs,rfl,hv⟩:=r
  exact ⟨vs,rfl,zBT (R:=Rep h) (S:=PVle) (T:=Rep h) (fun _ _ _ e r=>zJl e r) _ _ _ e hv⟩
theorem zJm {h:Fz} {l m:List PA} {v:Value} (e:RL PAle l m) (r:zs5 h l v):zs5 h m v:=by
 match l,m,e,r with
 | [a],[b],e,r=>exact zEK e.1 r
 | [],[],_,r=>exact r
 | a :: b :: l,c :: d :: m,e,r =>
  obtain ⟨vs,hv,hr⟩:=r
  exact ⟨vs,hv,zBT (R:=paR h) (S:=PAle) (T:=paR h) (fun _ _ _ e r=>zEK e r) _ _ _ e hr⟩
 | [_],_ :: _ :: _,e,_=>exact e.2.elim
 | _ :: _ :: _,[_],e,_=>exact e.2.elim
 | [],_ :: _,e,_=>exact e.elim
 | _ :: _,[],e,_=>exact e.elim
theorem zfW {P : Program} {T : Tabs} (hT : TabsOk P T) {f : FuncId} {C : List PA → COut} (hc : zal P f)
    (h:∀ args K,(C args).wp K→∃ args',RL PAle args args'∧∃ memo vv ann,vcFun P (csm T memo vv) ann f args' (Wk K)):Ok P f C:=by
  intro args K hK w h0 vs hvs hfz
  obtain ⟨args',hle,memo,vv,ann,hv⟩:=h args K hK
  refine ⟨hc,(zwG (hT.all memo vv) hv (zBT (R:=paR h0) (S:=PAle) (T:=paR h0) (fun _ _ _ e r=>zEK e r) _ _ _ hle hvs) hfz).mono ?_⟩
  rintro e w' ⟨h',rs,v,⟨rs',hr,hk⟩,he,hres,rest⟩
  exact ⟨h',rs',v,hk,he,zJm hr hres,rest⟩
/-! Maps, as typed values; the keys of a map. -/
structure Mp where
  n:Nat
  F:List Int→Option (List Int)
instance:Inhabited Mp:=⟨⟨0,fun _=>none⟩⟩

def zEL (m:Nat) (F:List Int→Option (List Int)) (seen ys:List (List Int)):Prop :=
 ys.Nodup∧(∀ y∈ys,y.length=m∧F y ≠ none∧y ∉ seen)∧∀ c,c.length=m→F c ≠ none→c ∉ seen→c∈ys
def nodupB : List (List Int) → Bool
  | []=>true
  | y :: r=>!r.contains y && nodupB r
def keysB (m n:Nat) (F:List Int→Option (List Int)) (ys:List (List Int)):Bool :=
 Nat.beq ys.length n && ys.all (fun y=>Nat.beq y.length m && (F y).isSome) && nodupB ys
theorem zgA : ∀ {ys : List (List Int)}, nodupB ys = true ↔ ys.Nodup
  | []=>by simp [nodupB]
  | y :: r=>by simp [nodupB,zgA (ys:=r)]
theorem zpx {α : Type} [DecidableEq α] : ∀ {l m : List α}, l.Nodup → (∀ x ∈ l, x ∈ m) → m.length ≤ l.length → ∀ x ∈ m, x ∈ l
  | [],m,_,_,hl,x,hx=>by have:m=[]:=List.eq_nil_of_length_eq_zero (by simpa using hl);rw [this] at hx;exact hx
  | a :: l,m,hn,hs,hl,x,hx=>by
    have ha:=hs a List.mem_cons_self
    by_cases h:x=a
    · rw [h];exact List.mem_cons_self
    · have hx2 : x ∈ m.erase a := (List.mem_erase_of_ne h).2 hx
      have hn2:=List.nodup_cons.1 hn
      refine List.mem_cons_of_mem _ (zpx hn2.2 (fun z hz=>?_) ?_ x hx2)
      · have hza : z ≠ a := fun e => hn2.1 (e ▸ hz)
        exact (List.mem_erase_of_ne hza).2 (hs z (List.mem_cons_of_mem _ hz))
      · rw [List.length_erase_of_mem ha];simp at hl;omega
theorem zkZ {m n:Nat} {F:List Int→Option (List Int)} {ys:List (List Int)} (h:keysB m n F ys=true) (hf:zBf m n F):zEL m F [] ys:=by
 simp only [keysB,Bool.and_eq_true,List.all_eq_true] at h
 obtain ⟨⟨h1,h2⟩,h3⟩:=h
 have h1:=Nat.eq_of_beq_eq_true h1
 have h3:=zgA.1 h3
 obtain ⟨ks,k1,k2,k3,k4⟩:=hf
 have hy:∀ y∈ys,y.length=m∧F y ≠ none:=fun y hy=>by
  obtain ⟨a,b⟩:=h2 y hy
  refine ⟨Nat.eq_of_beq_eq_true a,fun e=>?_⟩
  rw [e] at b;cases b
 refine ⟨h3,fun y hy'=>⟨(hy y hy').1,(hy y hy').2,by simp⟩,fun c hc hne _=>?_⟩
 exact zpx h3 (fun y hy'=>(k4 y (hy y hy').1).1 (hy y hy').2) (by rw [k1,h1];exact Nat.le_refl _) c ((k4 c hc).1 hne)
theorem znl {m : Nat} {F : List Int → Option (List Int)} {seen ys : List (List Int)} (h : zEL m F seen ys) {c : List Int} (hc : c.length = m) (hF : F c ≠ none) (hs : c ∉ seen) :
  ys.Perm (c :: ys.erase c)∧zEL m F (c :: seen) (ys.erase c)∧(ys.erase c).length+1=ys.length:=by
 obtain ⟨h1,h2,h3⟩:=h
 have hm:=h3 c hc hF hs
 refine ⟨List.perm_cons_erase hm,⟨h1.erase c,fun y hy=>?_,fun d hd hdF hds=>?_⟩,?_⟩
 ·have := (List.Nodup.mem_erase_iff h1).1 hy
  obtain ⟨a,b,e⟩:=h2 y this.2
  exact ⟨a,b,by simp [this.1,e]⟩
 ·simp only [List.mem_cons, not_or] at hds
  exact (List.mem_erase_of_ne hds.1).2 (h3 d hd hdF hds.2)
 ·rw [List.length_erase_of_mem hm]
  have:0 < ys.length:=List.length_pos_of_mem hm
  omega
theorem zrp {m:Nat} {F:List Int→Option (List Int)} {seen ys:List (List Int)} (h:zEL m F seen ys) (he:∀ c,c.length=m→F c ≠ none→c∈seen):ys=[]:=by
 cases ys with
 | nil=>rfl
 | cons y r =>
  obtain ⟨a,b,e⟩:=h.2.1 y List.mem_cons_self
  exact (e (he y a b)).elim

end Go.Pm
namespace Go.Pm
open Go

theorem za9 {x:Int} (h1 : -9223372036854775808≤x) (h2:x≤9223372036854775807):w64 x=x:=by
 have hb:IntKind.i64.bits=64:=rfl
 have hs:IntKind.i64.signed=true:=rfl
 unfold w64 IntKind.wrap
 rw [hb,hs]
 simp only [Bool.true_and,decide_eq_true_eq]
 split <;> omega
def zN9 (c : Nat → Bool) : Nat → Nat → Nat
  | 0,i=>i
  | m+1,i=>match c i with | true=>i | false=>zN9 c m (i+1)
def fst (c:Nat→Bool) (n:Nat):Nat:=zN9 c n 0
theorem zjZ {good : Nat → Bool} {fin : Bool} {n : Nat} {lpS lpP : Nat → Int → Bool}
    (hS:∀ (k i:Nat),i < n→lpS (k+1) (i:Int)=cond (good i) (lpS k (w64 ((i:Int)+(1:Int)))) false)
    (hE:∀ k,lpS (k+1) (n:Int)=fin)
    (hP:∀ (k i:Nat),i < n→lpP (k+1) (i:Int)=cond (good i) (lpP k (w64 ((i:Int)+(1:Int)))) true)
    (hPE:∀ k,lpP (k+1) (n:Int)=true) (hn:n≤9223372036854775807) :
    lpP Fuel 0=true∧(lpS Fuel 0=true↔(∀ i,i < n→good i=true)∧fin=true):=by
  have key:∀ (m k i:Nat),i+m=n→m < k→lpP k (i:Int)=true∧(lpS k (i:Int)=true↔(∀ j,i≤j→j < n→good j=true)∧fin=true):=by
    intro m
    induction m with
    | zero =>
      intro k i hi hk
      obtain ⟨k,rfl⟩:∃ k',k=k'+1:=⟨k - 1,by omega⟩
      have:i=n:=by omega
      subst this
      rw [hE,hPE]
      exact ⟨rfl,⟨fun h=>⟨fun j h1 h2=>absurd h2 (by omega),h⟩,fun h=>h.2⟩⟩
    | succ m ih =>
      intro k i hi hk
      obtain ⟨k,rfl⟩:∃ k',k=k'+1:=⟨k - 1,by omega⟩
      rw [hS k i (by omega),hP k i (by omega)]
      have e3:w64 ((i:Int)+1)=((i+1:Nat):Int):=by rw [za9 (by omega) (by omega)];omega
      rw [e3]
      obtain ⟨h1,h2⟩:=ih k (i+1) (by omega) (by omega)
      cases hg:good i
      · refine ⟨rfl, ⟨fun h => (by cases h), fun h => ?_⟩⟩
        have:=h.1 i (Nat.le_refl _) (by omega)
        rw [hg] at this;cases this
      · refine ⟨h1, h2.trans ⟨fun h => ⟨fun j hj1 hj2 => ?_, h.2⟩, fun h => ⟨fun j hj1 hj2 => h.1 j (by omega) hj2, h.2⟩⟩⟩
        by_cases hji:j=i
        · rw [hji];exact hg
        · exact h.1 j (by omega) hj2
  have:=key n Fuel 0 (by omega) (by simp only [Fuel];omega)
  simpa using this

end Go.Pm
namespace Go.Pm
open Go Go.Deep

theorem zBU (b o i j:Nat):((⟨b,o,none⟩:Addr).add i).add j=⟨b,o+i+j,none⟩:=by
 simp only [Addr.add]
 by_cases h1:i=0
 ·subst h1
  by_cases h2:j=0
  ·subst h2;rfl
  ·rw [if_neg h2];rfl
 ·rw [if_neg h1]
  by_cases h2:j=0
  ·subst h2;rfl
  ·rw [if_neg h2]
def H0 (w:World):Fz:=fun b=>(w.heap[b]?).map .fz
theorem hw_H0 (w:World):Hw (H0 w) w:=by
 intro b x h
 unfold H0 at h
 cases e:w.heap[b]? with
 | none=>rw [e] at h;cases h
 | some o=>rw [e] at h;cases h;exact ⟨o,rfl,rfl⟩
def wfI (x:Int):Prop:=-9223372036854775808≤x∧x≤9223372036854775807
section
variable {H:Type} {en:TypeId×Value→H} {P:Program} {w:World} {sp:Nat→Bool} {held:Bool}
def Rd (H:Type) (en:TypeId×Value→H) (P:Program) (w:World) (sp:Nat→Bool) (held:Bool) (t:TypeId) {α:Type} (enc:α→List PV) (wf:α→Prop):Prop :=
 ∀ (fuel:Nat) (cs:List Value) (x:DataW H×List MemPlace),DataW.trod en P w 0 sp held fuel t cs=some x→∃ a:α,RL (Rep (H0 w)) (enc a) cs∧wf a
theorem zJn {t:TypeId} (ht:P.underlying t=some (.int .i64)):Rd H en P w sp held t (fun x=>[.int .i64 x]) wfI:=by
 intro fuel cs x h
 obtain ⟨n,rfl,_,hw⟩:=DataW.trod_int ht h
 refine ⟨n,⟨.int _ _,trivial⟩,?_⟩
 simp only [Lit.wf,Bool.and_eq_true,decide_eq_true_eq] at hw
 exact ⟨hw.1,hw.2⟩
theorem zBV {t e : TypeId} {α : Type} [Inhabited α] {enc : α → List PV} {wf : α → Prop} {s : Nat} (ht : P.underlying t = some (.slice e)) (hc : P.cellsOf e = s) (hs : 0 < s) (hlen : ∀ a, (enc a).length = s)
    (hel:Rd H en P w sp held e enc wf):Rd H en P w sp held t (fun x:Sl α=>[.sl x.len s (fun i=>enc (x.get i))]) (fun x=>x.len≤9223372036854775807∧∀ i,i < x.len→wf (x.get i)):=by
  intro fuel cs x h
  rcases open_slice ht h with ⟨rfl,_⟩ | ⟨a,len,cap,m,n,D,Pl,rfl,_,hl,hm,hmm,_,hget⟩
  · exact ⟨⟨0,default⟩,⟨.sl0 _ _,trivial⟩,Nat.zero_le _,fun i hi=>absurd hi (Nat.not_lt_zero i)⟩
  · by_cases h0 : len = 0
    · subst h0
      exact ⟨⟨0,default⟩,⟨.sle _ _ _ _,trivial⟩,Nat.zero_le _,fun i hi=>absurd hi (Nat.not_lt_zero i)⟩
    · have hlm : len ≤ m := by rw [hmm]; split <;> omega
      rw [hc] at hget
      have hex:∀ i,i < len→∃ y:α,(∃ cs',w.cells? 0 (a.add (i * s)) s=some cs'∧RL (Rep (H0 w)) (enc y) cs')∧wf y:=by
        intro i hi
        obtain ⟨cs',h1,h2⟩:=hget i (by omega)
        obtain ⟨y,h3,h4⟩:=hel _ _ _ h2
        exact ⟨y,⟨cs',h1,h3⟩,h4⟩
      have hch:∃ f:Nat→α,∀ i,i < len→(∃ cs',w.cells? 0 (a.add (i * s)) s=some cs'∧RL (Rep (H0 w)) (enc (f i)) cs')∧wf (f i):=by
        refine ⟨fun i=>if hi:i < len then Classical.choose (hex i hi) else default,fun i hi=>?_⟩
        simp only [dif_pos hi]
        exact Classical.choose_spec (hex i hi)
      obtain ⟨f,hf⟩:=hch
      -- the block
      have hcell:∀ i,i < len→∀ j,j < s→∃ cs',w.cells? 0 (a.add (i * s)) s=some cs'∧RL (Rep (H0 w)) (enc (f i)) cs'∧w.cell? ((a.add (i * s)).add j)=cs'[j]?∧cs'.length=s:=by
        intro i hi j hj
        obtain ⟨⟨cs',h1,h2⟩,_⟩:=hf i hi
        obtain ⟨_,h3,h4⟩:=World.cells?_some h1
        exact ⟨cs',h1,h2,h4 j hj,h3⟩
      obtain ⟨cs0,_,_,hc0,hl0⟩:=hcell 0 (by omega) 0 hs
      have ha0:w.cell? a=cs0[0]?:=by simpa [Addr.add] using hc0
      rw [List.getElem?_eq_getElem (by omega)] at ha0
      obtain ⟨C,ty,fr,hblk,hspot⟩:∃ C ty fr,w.heap[a.block]? = some (.cells C ty fr)∧a.spot=none:=by
        unfold World.cell? at ha0
        split at ha0
        · rename_i C ty fr hb
          refine ⟨C,ty,fr,hb,?_⟩
          cases hsp:a.spot with
          | none=>rfl
          | some k=>rw [hsp] at ha0;simp at ha0
        · cases ha0
      have ea:a=⟨a.block,a.off,none⟩:=by rw [← hspot]
      have hat:∀ i j,i < len→j < s→∃ cs',RL (Rep (H0 w)) (enc (f i)) cs'∧C[a.off+i * s+j]? = cs'[j]?∧cs'.length=s:=by
        intro i j hi hj
        obtain ⟨cs',_,h2,h3,h4⟩:=hcell i hi j hj
        refine ⟨cs',h2,?_,h4⟩
        rw [← h3]
        have e2:(a.add (i * s)).add j=⟨a.block,a.off+i * s+j,none⟩:=(congrArg (fun z:Addr=>(z.add (i * s)).add j) ea).trans (zBU _ _ _ _)
        rw [e2]
        simp [World.cell?,hblk]
      refine ⟨⟨len,f⟩,⟨?_,trivial⟩,by simp only [maxLen] at hm;show len≤_;omega,fun i hi=>(hf i hi).2⟩
      rw [ea]
      refine .sl len s _ a.block a.off cap C ty fr (fun i j=>C.getD (a.off+i * s+j) undef) (by simp [H0,hblk]) hl (fun i _=>hlen _) ?_ ?_
      · intro i j x hi hx
        have hj:j < s:=by have:=(List.getElem?_eq_some_iff.1 hx).1;rw [hlen] at this;exact this
        obtain ⟨cs',h1,h2,h3⟩:=hat i j hi hj
        rw [Array.getD_eq_getD_getElem?,h2,List.getElem?_eq_getElem (by omega)]
        rfl
      · intro i j x hi hx
        have hj:j < s:=by have:=(List.getElem?_eq_some_iff.1 hx).1;rw [hlen] at this;exact this
        obtain ⟨cs',h1,h2,h3⟩:=hat i j hi hj
        obtain ⟨v,hv,hr⟩:=h1.get j x hx
        rw [Array.getD_eq_getD_getElem?,h2,hv]
        exact hr
def zMo : TypeDesc → Bool
  | .struct _=>false
  | .array _ _=>false
  | _=>true
theorem okWide_one {t:TypeId} {d:TypeDesc} {r:Reach} {base:Nat} {v:Value} (ht:P.underlying t=some d) (hd:zMo d=true) (h:Value.okWide P w r base t v):v.cells.toList=[v]:=by
 unfold Value.okWide at h
 rw [ht] at h
 cases v with
 | agg cs =>
  exfalso
  cases d <;> first | (cases hd;done) | (simp only [Cell.okWide,Cell.ok,ht] at h)
 | _=>rfl
theorem pa_one {h:Fz} {p:PV} {v:Value} (hv:v.cells.toList=[v]) (r:RL (Rep h) [p] v.cells.toList):paR h (.one p) v:=by
 rw [hv] at r
 exact r.1
theorem below_H0 {w':World} (b:Bel (H0 w) w.heap.size w w'):Go.RowKit.Below w.heap.size w w' :=
 ⟨b.os,b.tape,b.output,b.size,fun k hk=>b.block k hk fun F e=>by
  unfold H0 at e
  cases hb:w.heap[k]? <;> rw [hb] at e <;> cases e⟩
end
end Go.Pm
/-
  DERIVED: THE SHELF's CONTRACTS AT THIS DUMP,IN PLAIN WORDS (tools/lay-plain.mjs out of 'YtkpjhhoafenogaaLs.lean',which tools/lay-shelf.mjs wrote): THE SAME DECLARATIONS UNDER THE SAME NAMES: 'import','namespace','open','def','theorem' AND NOTHING ELSE: no command of the shelf's: FOR A HAND-IN. Each laying: the table of numbers ('.._ren') and one theorem,a field a fact of the dump's own or the kernel's comparison;each contract: ONE APPLICATION.
-/
namespace Go.Proofs
open Go.Shelf
def Try.laysS106_ren:Go.Shelf.Ren:=⟨fun | 6=>106 | 15=>122 | 14=>121 | 28=>132 | 29=>133 | 20=>124 | 21=>125 | 22=>126 | 23=>127 | 24=>128 | 25=>129 | 26=>130 | 27=>131 | 46=>134 | 47=>135 | 48=>136 | 49=>137 | 50=>138 | 57=>139 | n=>n,fun | 22=>102 | 24=>118 | 25=>147 | 3=>3 | 39=>156 | 0=>0 | 53=>166 | 55=>168 | 4=>4 | 46=>159 | 45=>158 | 50=>163 | 5=>5 | 9=>9 | 66=>169 | 70=>173 | 76=>175 | 77=>143 | n=>n,fun | n=>n⟩
theorem Try.laysS106 : Go.Proofs.SlLaysF0.n6 Try.prog Try.laysS106_ren := {
  mixed:=by kernel_rfl
  f6:=⟨Try.f106.name,by decide,Try.func106.trans (congrArg some (by kernel_rfl))⟩
  f14:=⟨Try.f121.name,by decide,Try.func121.trans (congrArg some (by kernel_rfl))⟩
  f15:=Try.func122.trans (congrArg some (by kernel_rfl))
  f20:=⟨Try.f124.name,by decide,Try.func124.trans (congrArg some (by kernel_rfl))⟩
  f21:=⟨Try.f125.name,by decide,Try.func125.trans (congrArg some (by kernel_rfl))⟩
  f22:=⟨Try.f126.name,by decide,Try.func126.trans (congrArg some (by kernel_rfl))⟩
  f23:=⟨Try.f127.name,by decide,Try.func127.trans (congrArg some (by kernel_rfl))⟩
  f24:=⟨Try.f128.name,by decide,Try.func128.trans (congrArg some (by kernel_rfl))⟩
  f25:=⟨Try.f129.name,by decide,Try.func129.trans (congrArg some (by kernel_rfl))⟩
  f26:=⟨Try.f130.name,by decide,Try.func130.trans (congrArg some (by kernel_rfl))⟩
  f27:=⟨Try.f131.name,by decide,Try.func131.trans (congrArg some (by kernel_rfl))⟩
  f28:=Try.func132.trans (congrArg some (by kernel_rfl))
  f29:=Try.func133.trans (congrArg some (by kernel_rfl))
  f46:=⟨Try.f134.name,by decide,Try.func134.trans (congrArg some (by kernel_rfl))⟩
  f47:=Try.func135.trans (congrArg some (by kernel_rfl))
  f48:=Try.func136.trans (congrArg some (by kernel_rfl))
  f49:=⟨Try.f137.name,by decide,Try.func137.trans (congrArg some (by kernel_rfl))⟩
  f50:=⟨Try.f138.name,by decide,Try.func138.trans (congrArg some (by kernel_rfl))⟩
  f57:=⟨Try.f139.name,by decide,Try.func139.trans (congrArg some (by kernel_rfl))⟩
  t0:=Try.underlying0
  a0:=Try.isAgg0
  z0:=Try.sizeOf0
  v0:=Try.zeroValue0
  t3:=Try.underlying3
  a3:=Try.isAgg3
  z3:=Try.sizeOf3
  v3:=Try.zeroValue3
  t4:=Try.underlying4
  a4:=Try.isAgg4
  z4:=Try.sizeOf4
  v4:=Try.zeroValue4
  t5:=Try.underlying5
  a5:=Try.isAgg5
  z5:=Try.sizeOf5
  v5:=Try.zeroValue5
  t9:=Try.underlying9
  a9:=Try.isAgg9
  z9:=Try.sizeOf9
  v9:=Try.zeroValue9
  t22:=Try.underlying102
  a22:=Try.isAgg102
  z22:=Try.sizeOf102
  v22:=Try.zeroValue102
  t25:=Try.underlying147
  a25:=Try.isAgg147
  z25:=Try.sizeOf147
  v25:=Try.zeroValue147
  t39:=Try.underlying156
  a39:=Try.isAgg156
  z39:=Try.sizeOf156
  v39:=Try.zeroValue156
  t45:=Try.underlying158
  a45:=Try.isAgg158
  z45:=Try.sizeOf158
  v45:=Try.zeroValue158
  t46:=Try.underlying159
  a46:=Try.isAgg159
  z46:=Try.sizeOf159
  v46:=Try.zeroValue159
  t50:=Try.underlying163
  a50:=Try.isAgg163
  z50:=Try.sizeOf163
  v50:=Try.zeroValue163
  t53:=Try.underlying166
  a53:=Try.isAgg166
  z53:=Try.sizeOf166
  v53:=Try.zeroValue166
  t55:=Try.underlying168
  a55:=Try.isAgg168
  z55:=Try.sizeOf168
  v55:=Try.zeroValue168
  t66:=Try.underlying169
  a66:=Try.isAgg169
  z66:=Try.sizeOf169
  v66:=Try.zeroValue169
  t70:=Try.underlying173
  a70:=Try.isAgg173
  z70:=Try.sizeOf173
  v70:=Try.zeroValue173
  t76:=Try.underlying175
  a76:=Try.isAgg175
  z76:=Try.sizeOf175
  v76:=Try.zeroValue175
  t77:=Try.underlying143
  a77:=Try.isAgg143
  z77:=Try.sizeOf143
  v77:=Try.zeroValue143 }
end Go.Proofs
namespace Go.Pm
open Go.Shelf Go.RowKit Go.Lib Go.Sort Go.Proofs

section perm
variable {c:Nat→Nat→Int}
theorem zh2 (x : Nat) : ∀ l : List Nat, (zBc c x l).Perm (x :: l)
  | []=>.refl _
  | y :: r=>by
    unfold zBc
    split
    · exact .refl _
    · exact ((zh2 x r).cons y).trans (.swap _ _ _)
theorem zmz (n:Nat):(zuP n c).Perm (List.range n):=by
 unfold zuP
 generalize List.range n=l
 induction l with
 | nil=>exact .refl _
 | cons x l ih=>exact (zh2 x _).trans (ih.cons x)
def leB (c:Nat→Nat→Int) (a b:Nat):Prop:=¬ c b a < 0
theorem zwQ {n : Nat} (H : STO n c) {x : Nat} (hx : x < n) : ∀ {l : List Nat}, (∀ y ∈ l, y < n) → l.Pairwise (leB c) → (zBc c x l).Pairwise (leB c)
  | [],_,_=>by simp [zBc]
  | y :: r,hl,hp=>by
    have hy:=hl y List.mem_cons_self
    rw [List.pairwise_cons] at hp
    unfold zBc
    split
    · rename_i h
      have h:=of_decide_eq_true h
      rw [List.pairwise_cons]
      refine ⟨fun z hz=>?_,List.pairwise_cons.2 hp⟩
      have hxy:leB c x y:=fun h2=>by
        have:=H.1 x hx
        have:=H.2.2 x y x hx hy hx h h2
        omega
      rcases List.mem_cons.1 hz with rfl | hz
      · exact hxy
      · intro h2
        exact hp.1 z hz (H.2.2 z x y (hl z (List.mem_cons_of_mem _ hz)) hx hy h2 h)
    · rename_i h
      have h:=of_decide_eq_false h
      rw [List.pairwise_cons]
      refine ⟨fun z hz=>?_,zwQ H hx (fun z hz=>hl z (List.mem_cons_of_mem _ hz)) hp.2⟩
      rcases List.mem_cons.1 ((zh2 x r).mem_iff.1 hz) with rfl | hz
      · exact h
      · exact hp.1 z hz
theorem zBW {n:Nat} (H:STO n c):(zuP n c).Pairwise (leB c):=by
 have key:∀ l:List Nat,(∀ y∈l,y < n)→(l.foldr (zBc c) []).Pairwise (leB c)∧∀ y∈l.foldr (zBc c) [],y < n:=by
  intro l
  induction l with
  | nil=>intro _;exact ⟨List.Pairwise.nil,fun y hy=>by simp at hy⟩
  | cons x l ih =>
   intro h
   obtain ⟨h1,h2⟩:=ih fun y hy=>h y (List.mem_cons_of_mem _ hy)
   have hx:=h x List.mem_cons_self
   refine ⟨zwQ H hx h2 h1,fun y hy=>?_⟩
   rcases List.mem_cons.1 ((zh2 x _).mem_iff.1 hy) with rfl | hy
   ·exact hx
   ·exact h2 y hy
 exact (key _ fun y hy=>List.mem_range.1 hy).1
theorem zvk {n:Nat} (H:STO n c) {l:List Nat} (hp:l.Perm (List.range n)) (hs:l.Pairwise (leB c)):l=zuP n c:=by
 refine List.Perm.eq_of_pairwise (le:=leB c) (fun a b ha hb h1 h2=>?_) hs (zBW H) (hp.trans (zmz n).symm)
 have ha:=List.mem_range.1 (hp.mem_iff.1 ha)
 have hb:=List.mem_range.1 ((zmz n).mem_iff.1 hb)
 by_cases e:a=b
 ·exact e
 ·rcases H.2.1 a b ha hb e with h | h
  ·exact absurd h.1 h2
  ·exact absurd h.1 h1
end perm

theorem zwR {w w':World} (h1:w'.heap=w.heap) (h2:w'.tape=w.tape) (h3:w'.drawn=w.drawn) (h4:w'.os=w.os) (h5:w'.output=w.output):w'=w:=by
 cases w;cases w';simp_all
theorem zBX {w w':World} {h:Fz} (b:Bel h w.heap.size w w') (hi:∀ k F,h k ≠ some (.inv F)):∃ q os,w'=grow (w.drewN q) os:=by
 refine ⟨w'.drawn - w.drawn,w'.heap.extract w.heap.size w'.heap.size,zwR ?_ b.tape ?_ b.os b.output⟩
 ·show w'.heap = w.heap ++ w'.heap.extract w.heap.size w'.heap.size
  apply Array.ext_getElem?
  intro i
  rw [Array.getElem?_append]
  split
  ·rename_i hl;exact b.block i hl (fun F=>hi i F)
  ·rename_i hl
   rw [Array.getElem?_extract]
   by_cases hlt:i < w'.heap.size
   ·rw [if_pos (by omega)];congr 1;omega
   ·rw [if_neg (by omega),Array.getElem?_eq_none (by omega)]
 ·show w'.drawn = w.drawn + (w'.drawn - w.drawn)
  have:=b.drawn;omega

theorem zpy {w : World} {g q : Nat} {cur : Array Value} {e : TypeId} {fr : Nat × Nat} {off : Nat} (F : Array Value) (hb : w.heap[g]? = some (.cells cur e fr)) :
  ∃ cur',(putRow id (Sort.ahead w q) g off F).heap[g]? = some (.cells cur' e fr)∧cur'.size=cur.size:=by
 refine ⟨putCells id off F cur,?_,by simp [putCells]⟩
 simp [putRow,mapBlock,Sort.ahead,Array.getElem?_modify,hb,onCells]
theorem zk0 {w:World} {g q off:Nat} (F:Array Value) {k:Nat} (hk:k ≠ g):(putRow id (Sort.ahead w q) g off F).heap[k]? = w.heap[k]?:=by
 simp [putRow,mapBlock,Sort.ahead,Array.getElem?_modify,Ne.symm hk]

theorem zwS {P:Program} {ρ:Ren} (L:SlLaysF0.n6 P ρ) {e s b:Nat} (he:ρ.t 24=e) (hag:ze5 P e=some true) (hsz:szT P e=some s) (hM : ¬ zoN) (hc:zal P (ρ.f 6)):zmQ P (ρ.f 6) (.sort e s b):=by
 intro w h base v n get gf caps cv ag C hC hcv hag' _ hpos ⟨xs,hown,hr⟩ hone hw hob hbase hn hS hO
 rw [hag] at hag';simp only [Option.some.injEq] at hag';subst hag'
 refine ⟨hc,?_⟩
 have hni:∀ k F,h k ≠ some (.inv F):=fun k F hk=>by obtain ⟨o,_,ho⟩:=hw k _ hk;exact hM ho.2
 have hdr:∀ (w':World) (k:Nat),w.drawn≤w.drawn+k:=fun _ k=>Nat.le_add_right _ _
 have none:∀ (p:Option Addr) (cap:Nat),n=0→v=.slice p 0 cap→Calls P (ρ.f 6) #[v,.func (.func gf) #[] cv.toArray] w fun r w'=>r=.returned (.tuple #[])∧zCU h w' base e s v n (zqK n (zvw C caps true get) get)∧GrB w w' v.ownBlock:=by
  rintro p cap rfl rfl
  refine (AnyF.slices_SortFunc_none L p cap _ w).mono ?_
  rintro r w' ⟨rfl,rfl⟩
  exact ⟨rfl,⟨xs,hown,fun i hi=>absurd hi (Nat.not_lt_zero i)⟩,⟨rfl,rfl,rfl,Nat.le_refl _,fun _ _ _=>rfl⟩,Nat.le_refl _⟩
 rcases hown.2 with ⟨h1,h2⟩ | ⟨blk,cap,cur,rfl,hb,hcell,hncap,hcap,hcs,htk⟩
 ·exact none _ _ h2 h1
 by_cases hn0:n=0
 ·subst hn0;exact none _ _ rfl rfl
 have:Inhabited (Fin n):=⟨⟨0,by omega⟩⟩
 let enc:Fin n→List Value:=fun i=>(xs.drop (i.val * s)).take s
 let c:=zvw C caps true get
 let cf:Fin n→Fin n→Int:=fun x y=>c x.val y.val
 let d:Array (Fin n):=Array.ofFn id
 have hds:d.size=n:=Array.size_ofFn
 have hdi:∀ i (hi:i < n),d[i]! = ⟨i,hi⟩:=fun i hi=>by
  rw [getElem!_pos d i (by rw [hds];exact hi)];simp [d]
 have hlt:blk < w.heap.size:=(Array.getElem?_eq_some_iff.1 hcell).1
 have hbn:h blk=Option.none:=hob blk rfl
 have hmul:∀ i,i < n→i * s+s≤n * s:=fun i hi=>by have:=Nat.mul_le_mul_right s (Nat.succ_le_of_lt hi);rw [Nat.succ_mul] at this;exact this
 have hk:∀ x,(enc x).length=s:=fun x=>by
  have:=hmul x.val x.isLt
  simp only [enc,List.length_take,List.length_drop,hown.1];omega
 have hcur:∀ j,j < n * s→cur[j]? = xs[j]?:=fun j hj=>by
  have:(cur.toList.take (n * s))[j]? = xs[j]?:=by rw [htk]
  rw [List.getElem?_take,if_pos hj] at this;simpa using this
 have hxl:∀ j,j < n * s→∃ u,xs[j]? = some u:=fun j hj=>⟨xs[j]'(by rw [hown.1];exact hj),List.getElem?_eq_getElem _⟩
 have h1:∀ x,∀ u∈enc x,u.oneCell'=true:=fun x u hu=>by
  obtain ⟨j,hj⟩:=List.getElem?_of_mem hu
  obtain ⟨p,_,hp⟩:=(hr x.val x.isLt).get' j u hj
  exact hp.one
 have hflat:∀ j (hj:j < n * s),(flatK enc s d)[j]! = xs[j]'(by rw [hown.1];exact hj):=fun j hj=>by
  have hq:j / s < n:=Nat.div_lt_of_lt_mul (by rw [Nat.mul_comm];exact hj)
  rw [get_flatK _ _ _ _ (by rw [hds];exact hj),hdi _ hq]
  have hm:=Nat.mod_lt j hpos
  have hdm:=Nat.div_add_mod j s
  rw [getElem!_pos _ _ (by rw [hk];exact hm)]
  simp only [enc,List.getElem_take,List.getElem_drop]
  congr 1
  rw [Nat.mul_comm];exact hdm
 have hH:HoldsK enc s w blk 0 d:=fun j hj=>by
  have hj:j < n * s:=by rw [size_flatK,hds] at hj;exact hj
  refine ⟨?_,frozen_of_row w blk _ cur e hcell⟩
  rw [hflat j hj,cell_of hcell,Nat.zero_add,hcur j hj]
  exact List.getElem?_eq_getElem _
 have eg:∀ args w,(callFunc gf args).run P w=.ok (.enter gf args) w:=by
  have hcg:zal P gf:=by
   have hs0:=hS 0 0 (by omega) (by omega)
   unfold zIC at hs0
   split at hs0
   ·rename_i s0 c0 hat
    have hwp:(C (elP true (get 0) :: elP true (get 0) :: caps.map .one)).wp (fun _=>True):=by
     unfold zBb at hat
     split at hat
     ·rename_i e1;rw [e1];trivial
     ·rename_i e1;simp only [Option.some.injEq,Prod.mk.injEq] at hat;rw [e1];exact ⟨by rw [hat.1];exact hs0,trivial⟩
     ·cases hat
    exact (hC _ _ hwp w h (.agg (enc ⟨0,by omega⟩).toArray :: .agg (enc ⟨0,by omega⟩).toArray :: cv) ⟨⟨_,rfl,hr 0 (by omega)⟩,⟨_,rfl,hr 0 (by omega)⟩,RL.map_left.2 hcv⟩ hw).1
   ·exact hs0.elim
  exact fun args w=>zcU hcg
 have hcmp:CmpLays P gf cv.toArray enc s cf blk 0 d.size w:=by
  intro m os dk hdk x y
  have hs0:=hS x.val y.val x.isLt y.isLt
  unfold zIC at hs0
  split at hs0
  ·rename_i s0 c0 hat
   have hwp:(C (elP true (get x.val) :: elP true (get y.val) :: caps.map .one)).wp (fun rs=>rs=[.one (.int .i64 (cf x y))]):=by
    have hcv:cf x y=c0:=by show zvw C caps true get x.val y.val=c0;unfold zvw;rw [hat]
    rw [hcv]
    unfold zBb at hat
    split at hat
    ·rename_i e1;simp only [Option.some.injEq,Prod.mk.injEq] at hat;rw [e1,hat.2];rfl
    ·rename_i e1;simp only [Option.some.injEq,Prod.mk.injEq] at hat;rw [e1,hat.2];exact ⟨by rw [hat.1];exact hs0,rfl⟩
    ·cases hat
   have hwh:Hw h (sortWorldK enc s w blk 0 m dk os):=hw.same fun k o hk=>by
    have hkb:k ≠ blk:=fun e=>by rw [e,hbn] at hk;cases hk
    have hkl:=hw.lt hk
    show ((putRow id (Sort.ahead w m) blk 0 (flatK enc s dk)).heap ++ os)[k]? = _
    rw [Array.getElem?_append_left (by simpa [putRow,mapBlock,Sort.ahead] using hkl)]
    exact zk0 _ hkb
   obtain ⟨_,hrun⟩:=hC _ _ hwp (sortWorldK enc s w blk 0 m dk os) h (.agg (enc x).toArray :: .agg (enc y).toArray :: cv) ⟨⟨_,rfl,hr x.val x.isLt⟩,⟨_,rfl,hr y.val y.isLt⟩,RL.map_left.2 hcv⟩ hwh
   rw [show (#[Value.agg (enc x).toArray,.agg (enc y).toArray] ++ cv.toArray)=(Value.agg (enc x).toArray :: .agg (enc y).toArray :: cv).toArray by simp]
   refine hrun.mono ?_
   rintro e' w' ⟨h',rs,v',hrs,rfl,hres,hbel,_,_,_⟩
   subst hrs
   have hv':v'=.int .i64 (cf x y):=by
    have:Rep h' (.int .i64 (cf x y)) v':=hres
    cases this;rfl
   subst hv'
   exact ⟨rfl,zBX hbel hni⟩
  ·exact hs0.elim
 have hSWO:SWO (ltOf cf):=by
  refine ⟨fun x=>?_,fun x y z hxy hyz=>?_,fun x y z hxy hyz=>?_⟩
  ·have : 0 ≤ c x.val x.val := hO.1 x.val x.isLt
   simp only [ltOf,decide_eq_false_iff_not];show ¬ c x.val x.val < 0;omega
  ·simp only [ltOf, decide_eq_true_eq] at hxy hyz ⊢
   exact hO.2.2 _ _ _ x.isLt y.isLt z.isLt hxy hyz
  ·simp only [ltOf, decide_eq_false_iff_not] at hxy hyz ⊢
   intro hxz
   have hxy : ¬ c x.val y.val < 0:=hxy
   have hyz : ¬ c y.val z.val < 0:=hyz
   have hxz:c x.val z.val < 0:=hxz
   by_cases e1:y.val=z.val
   ·rw [e1] at hxy;exact hxy hxz
   ·by_cases e2 : x.val = y.val
    ·rw [e2] at hxz;exact hyz hxz
    ·have a1 : c z.val y.val < 0 := by rcases hO.2.1 y.val z.val y.isLt z.isLt e1 with h | h; exact absurd h.1 hyz; exact h.1
     exact hxy (hO.2.2 _ _ _ x.isLt z.isLt y.isLt hxz a1)
 have aE:∀ w,(isAgg (ρ.t 24)).run P w=.ok true w:=fun w=>by rw [he];exact zel hag
 have zE:∀ w,(Go.sizeOf (ρ.t 24)).run P w=.ok s w:=fun w=>by rw [he];exact run_sizeOf hsz
 have hrun:=AnyQ.slices_SortFunc L s aE zE enc hk h1 cf hSWO gf cv.toArray blk 0 cap d w eg hcmp hH hlt (by rw [hds];omega)
 rw [hds] at hrun
 refine hrun.mono ?_
 rintro r w' ⟨rfl,d',m,os,hperm,hsort,rfl⟩
 obtain ⟨hps,_,hpp⟩:=hperm
 have hd's:d'.size=n:=by rw [hps,hds]
 have hall:∀ (z:Array (Fin n)),z.size=n→z.extract 0 n=z:=fun z hz=>Array.ext (by simp [hz]) (fun i h1 h2=>by simp)
 rw [hall d' hd's,hall d hds] at hpp
 have hl:d'.toList.map Fin.val=zuP n c:=by
  refine zvk hO ?_ ?_
  ·refine (hpp.map Fin.val).trans ?_
   have:d.toList.map Fin.val=List.range n:=by
    apply List.ext_getElem?
    intro i
    simp only [d,List.getElem?_map]
    by_cases hi:i < n
    ·simp [hi]
    ·rw [List.getElem?_eq_none (by simp;omega),List.getElem?_eq_none (by simp;omega)];rfl
   rw [this]
  ·rw [List.pairwise_map, List.pairwise_iff_getElem]
   intro i j hi hj hij
   have hi':i < n:=by simpa [hd's] using hi
   have hj':j < n:=by simpa [hd's] using hj
   have:=hsort i j (Nat.zero_le _) hij hj'
   rw [getElem!_pos d' j (by omega),getElem!_pos d' i (by omega)] at this
   simp only [ltOf,decide_eq_false_iff_not] at this
   exact this
 have hget:∀ i (hi:i < n),zqK n c get i=get (d'[i]'(by omega)).val:=fun i hi=>by
  unfold zqK
  rw [← hl]
  congr 1
  rw [List.getD_eq_getElem?_getD,List.getElem?_map]
  simp [hd's,hi]
 obtain ⟨cur',hcell',hsz'⟩:=zpy (q:=m) (off:=0) (flatK enc s d') hcell
 have hgrow:(sortWorldK enc s w blk 0 m d' os).heap[blk]? = some (.cells cur' e (0,0)):=by
  show ((putRow id (Sort.ahead w m) blk 0 (flatK enc s d')).heap ++ os)[blk]? = _
  rw [Array.getElem?_append_left (by simpa [putRow,mapBlock,Sort.ahead] using hlt)]
  exact hcell'
 have hH':HoldsK enc s (sortWorldK enc s w blk 0 m d' os) blk 0 d':=holdsK_sortWorldK_c enc s w blk 0 d d' m os hH hlt (by rw [hd's,hds])
 have hcur':∀ j (hj:j < n * s),cur'[j]? = some ((flatK enc s d')[j]!):=fun j hj=>by
  have:=(hH' j (by rw [size_flatK,hd's];exact hj)).1
  rw [cell_of hgrow,Nat.zero_add] at this
  exact this
 refine ⟨rfl,⟨cur'.toList.take (n * s),⟨by rw [List.length_take,Array.length_toList,hsz',hcs];exact Nat.min_eq_left (Nat.mul_le_mul_right s hncap),.inr ⟨blk,cap,cur',rfl,hb,hgrow,hncap,hcap,by rw [hsz',hcs],rfl⟩⟩,fun i hi=>?_⟩,?_⟩
 ·have e1:((cur'.toList.take (n * s)).drop (i * s)).take s=enc (d'[i]'(by omega)):=by
   apply List.ext_getElem?
   intro j
   have hm:=hmul i hi
   rw [List.getElem?_take]
   split
   ·rename_i hj
    rw [List.getElem?_drop,List.getElem?_take,if_pos (by omega),Array.getElem?_toList,hcur' _ (by omega)]
    have hdiv:(i * s+j) / s=i:=by rw [Nat.mul_comm,Nat.mul_add_div hpos,Nat.div_eq_of_lt hj,Nat.add_zero]
    have hmod:(i * s+j) % s=j:=by rw [Nat.mul_comm,Nat.mul_add_mod,Nat.mod_eq_of_lt hj]
    rw [get_flatK _ _ _ _ (by rw [hd's];omega),hdiv,hmod,getElem!_pos d' i (by omega),getElem!_pos _ _ (by rw [hk];exact hj)]
    exact (List.getElem?_eq_getElem _).symm
   ·rename_i hj
    rw [List.getElem?_eq_none (by rw [hk];omega)]
  rw [e1,hget i hi]
  exact hr _ (d'[i]'(by omega)).isLt
 ·refine ⟨⟨rfl, rfl, rfl, ?_, fun k hk hne => ?_⟩, Nat.le_add_right _ _⟩
  ·show w.heap.size ≤ ((putRow id (Sort.ahead w m) blk 0 (flatK enc s d')).heap ++ os).size
   simp [putRow,mapBlock,Sort.ahead]
  ·show ((putRow id (Sort.ahead w m) blk 0 (flatK enc s d')).heap ++ os)[k]? = _
   rw [Array.getElem?_append_left (by simpa [putRow,mapBlock,Sort.ahead] using hk)]
   exact zk0 _ fun e=>hne (by rw [e];rfl)
end Go.Pm
namespace Go.Pm

abbrev zI (x:Int):DV:=.one (.c (.p (.int .i64 x)))
abbrev zB (x:Bool):DV:=.one (.c (.p (.bool x)))
abbrev zP (x:PV):DV:=.one (.c (.p x))
abbrev zp (L k:Nat):DV:=.one (.c (.ptr L k))
abbrev zv (L:Nat):DV:=.one (.c (.vec L))
abbrev zs {α:Type} (enc:α→List PV) (s:Nat) (x:Sl α):PV:=.sl x.len s (fun i=>enc (x.get i))
abbrev zS {α:Type} (enc:α→List PV) (s:Nat) (x:Sl α):DV:=zP (zs enc s x)
abbrev zm (l:List PV):List Cl:=l.map Cl.p
abbrev zi (x:Int):Cl:=.p (.int .i64 x)
abbrev zg {α:Type} (enc:α→List PV) (x:Sl α):Nat→List PV:=fun i=>enc (x.get i)
abbrev zK (a b:List Nat):Keep:=⟨a,b,[],[],[],[],[]⟩
theorem zE {α:Type} (enc:α→List PV) (size:Nat) (f:Nat→α):IsE enc size size (fun i=>enc (f i)):=⟨rfl,f,rfl⟩

@[reducible] def lpO {A : Type} (d : A) (st : A → A) : Nat → A
  | 0=>d
  | k+1=>st (lpO d st k)
theorem zgM {A B : Type} (a : A) (b : B) (p : A → A) (s : B → B) (M : A → B → Prop) (h0 : M a b) (h1 : ∀ P S, M P S → M (p P) (s S)) : ∀ k, M (lpO a p k) (lpO b s k)
  | 0=>h0
  | k+1=>h1 _ _ (zgM a b p s M h0 h1 k)
section
variable (P:Program) (Γ:Ctrs) (ann:Ann)
def pt : Code → (Exit → St → Prop) → List Nat → List (St → Prop) → St → Prop
  | .seq a b,K,i :: r,X=>match i with | 0=>pt a (sqK P Γ ann b K) r X | _=>pt b K r X
  | .cond _ a b,K,i :: r,X=>match i with | 0=>pt a K r X | _=>pt b K r X
  | .block id b,K,_ :: r,X=>pt b (zaz id K) r X
  | .loop b,K,_ :: r,x :: X=>pt b (zb5 P ann (zl5 b) x K) r X
  | .scope b,K,_ :: r,X=>pt b (zcS K) r X
  | c,K,_,_=>vc P Γ ann c K
def ptF (fn:Func) (K:List PA→Prop) (l:List Nat) (X:List (St→Prop)):St→Prop :=
 match fn.body with
 | some c=>pt P Γ ann c (zbD P fn K) l X
 | none=>fun _=>False
end

theorem zc {b:Bool} {A B:Prop} {S S':Bool} {α:Type} {e:α→List PA} {K:List PA→Prop} {x y:α} (hs:cond b S S'=true) (hk:K (e (cond b x y))) (h1:S=true→K (e x)→A) (h2:S'=true→K (e y)→B):zcP b A B:=by
 cases b
 ·exact h2 hs hk
 ·exact h1 hs hk
theorem zt {b:Bool} {A B:Prop} {α:Type} {e:α→List PA} {K:List PA→Prop} {x y:α} (hk:K (e (cond b x y))) (h1:K (e x)→A) (h2:K (e y)→B):zcP b A B:=by
 cases b
 ·exact h2 hk
 ·exact h1 hk
theorem zl {at_:Prop} {g:St} (B:(St→Prop)→St→Prop) (e:at_ = ∀ X:St→Prop,(∀ s,B X s→X s)→X g) (h:∀ X:St→Prop,(∀ s,B X s→X s)→X g):at_:=e ▸ h
end Go.Pm
namespace Go.Proofs
open Go Go.Pm
set_option maxRecDepth 100000
set_option linter.unusedVariables false
attribute [local irreducible] Go.Pm.vcFun Go.Pm.vc Go.Pm.vcIter
abbrev enc_3 (x:Int):List PV:=[.int .i64 x]
def zMp : List PV → Int
  | [.int .i64 x]=>x
  | _=>default
def zcf (g:Nat→List PV):Nat→Int:=fun i=>zMp (g i)
theorem zbP (f:Nat→Int):zcf (fun i=>enc_3 (f i))=f:=rfl
abbrev zMq (x:Bool):List PV:=[.bool x]
structure Gate where
  Z:Int
  Low:Int
  High:Int
deriving Inhabited
abbrev zac (x:Gate):List PV:=[.int .i64 x.Z,.int .i64 x.Low,.int .i64 x.High]
def zJo : List PV → Gate
  | [.int .i64 x_Z,.int .i64 x_Low,.int .i64 x_High]=>(⟨x_Z,x_Low,x_High⟩:Gate)
  | _=>default
def zah (g:Nat→List PV):Nat→Gate:=fun i=>zJo (g i)
theorem zaf (f:Nat→Gate):zah (fun i=>zac (f i))=f:=rfl
structure Frac where
  Num:Int
  Den:Int
deriving Inhabited
abbrev zai (x:Frac):List PV:=[.int .i64 x.Num,.int .i64 x.Den]
def zJp : List PV → Frac
  | [.int .i64 x_Num,.int .i64 x_Den]=>(⟨x_Num,x_Den⟩:Frac)
  | _=>default
def zg8 (g:Nat→List PV):Nat→Frac:=fun i=>zJp (g i)
theorem zfi (f:Nat→Frac):zg8 (fun i=>zai (f i))=f:=rfl
structure Line where
  Slope:Frac
  Start:Frac
deriving Inhabited
abbrev zcm (x:Line):List PV:=[.int .i64 x.Slope.Num,.int .i64 x.Slope.Den,.int .i64 x.Start.Num,.int .i64 x.Start.Den]
def zJq : List PV → Line
  | [.int .i64 x_Slope_Num,.int .i64 x_Slope_Den,.int .i64 x_Start_Num,.int .i64 x_Start_Den]=>(⟨(⟨x_Slope_Num,x_Slope_Den⟩:Frac),(⟨x_Start_Num,x_Start_Den⟩:Frac)⟩:Line)
  | _=>default
def zk1 (g:Nat→List PV):Nat→Line:=fun i=>zJq (g i)
theorem zfj (f:Nat→Line):zk1 (fun i=>zcm (f i))=f:=rfl
abbrev zJr (x:(Sl Int)):List PV:=[.sl x.len 1 (fun i=>enc_3 (x.get i))]
structure Span where
  Low:Int
  High:Int
deriving Inhabited
abbrev zao (x:Span):List PV:=[.int .i64 x.Low,.int .i64 x.High]
def zJs : List PV → Span
  | [.int .i64 x_Low,.int .i64 x_High]=>(⟨x_Low,x_High⟩:Span)
  | _=>default
def zwT (g:Nat→List PV):Nat→Span:=fun i=>zJs (g i)
structure list where
  Gates:(Sl Gate)
deriving Inhabited
abbrev zcL (x:list):List PV:=[.sl x.Gates.len 3 (fun i=>zac (x.Gates.get i))]
structure straight where
  slope:Int
  start:Int
  den:Int
deriving Inhabited
abbrev zak (x:straight):List PV:=[.int .i64 x.slope,.int .i64 x.start,.int .i64 x.den]
def zEM : List PV → straight
  | [.int .i64 x_slope,.int .i64 x_start,.int .i64 x_den]=>(⟨x_slope,x_start,x_den⟩:straight)
  | _=>default
def za7 (g:Nat→List PV):Nat→straight:=fun i=>zEM (g i)
theorem za1 (f:Nat→straight):za7 (fun i=>zak (f i))=f:=rfl
structure set where
  list:list
  corners:(Sl straight)
deriving Inhabited
abbrev zbg (x:set):List PV:=[.sl x.list.Gates.len 3 (fun i=>zac (x.list.Gates.get i)),.sl x.corners.len 3 (fun i=>zak (x.corners.get i))]
abbrev zbr (x:Mp):List PV:=[.fm (true,2,false,[some .i64]) x.n x.F]
end Go.Proofs
namespace Go.Proofs
open Go Go.Pm
set_option maxRecDepth 100000
set_option linter.unusedVariables false
attribute [local irreducible] Go.Pm.vcFun Go.Pm.vc Go.Pm.vcIter
abbrev T85:Tabs:=Tabs.nil
theorem zMr:TabsOk Try.prog T85:=TabsOk.nil
abbrev G85:Ctrs:=csm T85 (fun _ _=>[]) (fun _=>false)
def zJt:Ann:=⟨47,[(0,zK [0,1,2,3,4,5] []),(1,zK [0,1,2,13] []),(2,zK [13,14] []),(3,zK [12] [])],
 [],
 [],
 [],[]⟩
abbrev R85:=Int
abbrev e85 (r:R85):List PA:=[.one (.int .i64 r)]
section
variable {K:List PA→Prop} {u:Int} {v:Int} {w:Int} {p:Int} {q:Int} {r_a5:Int}
def s85 (u:Int) (v:Int) (w:Int) (p:Int) (q:Int) (r_a5:Int):Int :=
  (w64 ((w64 ((w64 ((w64 ((1000:Int) * (if (w64 (0 - (w64 ((w64 ((w64 (r_a5 - q)) * (w64 (v - u)))) - (w64 ((w64 (q - p)) * (w64 (w - v)))))))) > (w64 ((w64 ((w64 (r_a5 - q)) * (w64 (v - u)))) - (w64 ((w64 (q - p)) * (w64 (w - v)))))) then (w64 (0 - (w64 ((w64 ((w64 (r_a5 - q)) * (w64 (v - u)))) - (w64 ((w64 (q - p)) * (w64 (w - v)))))))) else (w64 ((w64 ((w64 (r_a5 - q)) * (w64 (v - u)))) - (w64 ((w64 (q - p)) * (w64 (w - v)))))))))+(w64 ((w64 (v - u)) * (w64 (w - v)))))) - (1:Int))).tdiv (w64 ((w64 (v - u)) * (w64 (w - v))))))
def p85 (u:Int) (v:Int) (w:Int) (p:Int) (q:Int) (r_a5:Int):Bool :=
  (decide (((w64 ((w64 (v - u)) * (w64 (w - v)))) ≠ 0)) &&
 true)
end
theorem q85 (u:Int) (v:Int) (w:Int) (p:Int) (q:Int) (r_a5:Int) (K:List PA→Prop) (hs:p85 u v w p q r_a5=true) (hk:K (e85 (s85 u v w p q r_a5))):vcFun Try.prog G85 zJt 85 [.one (.int .i64 u),.one (.int .i64 v),.one (.int .i64 w),.one (.int .i64 p),.one (.int .i64 q),.one (.int .i64 r_a5)] K :=
  zaI (by kernel_rfl) (zaG hs fun hc hs=>And.intro hc hk)
def zvl : List PA → COut
  | [.one (.int .i64 a0),.one (.int .i64 a1),.one (.int .i64 a2),.one (.int .i64 a3),.one (.int .i64 a4),.one (.int .i64 a5)]=>.det (p85 a0 a1 a2 a3 a4 a5=true) [.one (.int .i64 (s85 a0 a1 a2 a3 a4 a5))]
  | _=>.no
theorem zJu:zal Try.prog 85:=⟨_,rfl,rfl,by kernel_rfl⟩
theorem zLX:Ok Try.prog 85 zvl:=zaY zMr zJu fun args K h=>by
  unfold zvl at h
  split at h
  · rename_i a0 a1 a2 a3 a4 a5
    obtain ⟨hs,hk⟩:=h
    exact ⟨(fun _ _=>[]),(fun _=>false),zJt,q85 a0 a1 a2 a3 a4 a5 K hs hk⟩
  · exact h.elim
abbrev T74:Tabs:=Tabs.nil
theorem zMs:TabsOk Try.prog T74:=TabsOk.nil
abbrev G74:Ctrs:=csm T74 (fun _ _=>[]) (fun _=>false)
def zJv:Ann:=⟨15,[(0,zK [0,1,2] []),(1,zK [6] [])],
 [],
 [],
 [],[]⟩
abbrev R74:=Bool
abbrev e74 (r:R74):List PA:=[.one (.bool r)]
section
variable {K:List PA→Prop} {x:Int} {low:Int} {high:Int}
def s74 (x:Int) (low:Int) (high:Int):Bool :=
  (cond (decide (x ≥ low))
 (decide (x≤high))
 false)
end
theorem q74 (x:Int) (low:Int) (high:Int) (K:List PA→Prop) (hk:K (e74 (s74 x low high))):vcFun Try.prog G74 zJv 74 [.one (.int .i64 x),.one (.int .i64 low),.one (.int .i64 high)] K :=
  zaI (by kernel_rfl) (zt hk (fun hk=>hk) (fun hk=>hk))
def znm : List PA → COut
  | [.one (.int .i64 a0),.one (.int .i64 a1),.one (.int .i64 a2)]=>.tot [.one (.bool (s74 a0 a1 a2))]
  | _=>.no
theorem zJw:zal Try.prog 74:=⟨_,rfl,rfl,by kernel_rfl⟩
theorem zEN:Ok Try.prog 74 znm:=zaY zMs zJw fun args K h=>by
  unfold znm at h
  split at h
  · rename_i a0 a1 a2
    have hk:=h
    exact ⟨(fun _ _=>[]),(fun _=>false),zJv,q74 a0 a1 a2 K hk⟩
  · exact h.elim
abbrev T87:Tabs:=(Tabs.nil.addF 74 znm)
theorem zMt:TabsOk Try.prog T87:=(TabsOk.nil.addF zEN)
abbrev G87:Ctrs:=csm T87 (fun _ _=>[]) (fun _=>false)
def zJx:Ann:=⟨23,[(0,zK [1] [1]),(1,zK [2] [])],
 [],
 [],
 [],[]⟩
abbrev R87:=Bool
abbrev e87 (r:R87):List PA:=[.one (.bool r)]
section
variable {K:List PA→Prop} {g:Gate}
def s87 (g:Gate):Bool :=
  (cond (s74 g.Z (0:Int) (100000:Int))
 (cond (decide (g.Low ≥ (-1000000:Int)))
 (cond (decide (g.Low ≤ g.High))
 (decide (g.High≤(1000000:Int)))
 false)
 false)
 false)
end
theorem q87 (g:Gate) (K:List PA→Prop) (hk:K (e87 (s87 g))):vcFun Try.prog G87 zJx 87 [.agg (zac g)] K :=
  zaI (by kernel_rfl) (zt hk (fun hk=>(zt hk (fun hk=>(zt hk (fun hk=>hk) (fun hk=>hk))) (fun hk=>hk))) (fun hk=>hk))
def zEO : List PA → COut
  | [.agg [.int .i64 a0_Z,.int .i64 a0_Low,.int .i64 a0_High]]=>.tot [.one (.bool (s87 (⟨a0_Z,a0_Low,a0_High⟩:Gate)))]
  | _=>.no
theorem zJy:zal Try.prog 87:=⟨_,rfl,rfl,by kernel_rfl⟩
theorem zOP:Ok Try.prog 87 zEO:=zaY zMt zJy fun args K h=>by
  unfold zEO at h
  split at h
  · rename_i a0_Z a0_Low a0_High
    have hk:=h
    exact ⟨(fun _ _=>[]),(fun _=>false),zJx,q87 (⟨a0_Z,a0_Low,a0_High⟩:Gate) K hk⟩
  · exact h.elim
abbrev T64:Tabs:=((Tabs.nil.addF 74 znm).addF 87 zEO)
theorem zMu:TabsOk Try.prog T64:=((TabsOk.nil.addF zEN).addF zOP)
abbrev G64:Ctrs:=csm T64 (fun _ _=>[]) (fun _=>false)
def zEP:Ann:=⟨18,[(0,zK [0] []),(1,zK [0,5,6,7] []),(2,zK [0,5,6,7,8] []),(3,zK [0,4,5,6,7] [4]),(4,zK [0,5,6,7,13] []),(5,zK [2] []),(6,zK [0,5,6,7] []),(7,zK [2] [])],
 [(2,zK [0,5,6,7] [])],
 [(5,zK [0,5,6,7,13] [])],
 [],[]⟩
abbrev R64:=Bool
abbrev e64 (r:R64):List PA:=[.one (.bool r)]
@[irreducible] def z64:=ptF Try.prog G64 zEP Try.f64
def zDb (zaa:(Sl Gate)) (zbl:Int):St:=⟨[(0,zS zac 3 zaa),(5,zS zac 3 zaa),(6,zI (zaa.len:Int)),(7,zI zbl)],[],[]⟩
abbrev zEQ (K:List PA→Prop) (zaa:(Sl Gate)) (X:St→Prop) (P:Int→Bool) (S:Int→Bool):Prop:=∀ ⦃zbl:Int⦄,P zbl=true→K (e64 (S zbl))→X (zDb zaa zbl)
section
variable {K:List PA→Prop} {zaa:(Sl Gate)} {zbl:Int} {X0:St→Prop} {P0:Int→Bool} {S0:Int→Bool} {zg9:Int} {zrq:Bool}
def zrr (S0:Int→Bool) (zaa:(Sl Gate)) (zg9:Int) (zrq:Bool):Bool :=
  (cond zrq
 false
 (S0 (w64 (zg9+(1:Int)))))
def zrt (P0:Int→Bool) (zaa:(Sl Gate)) (zg9:Int) (zrq:Bool):Bool :=
  (cond zrq
 true
 (P0 (w64 (zg9+(1:Int)))))
theorem zER (hX0:zEQ K zaa X0 P0 S0) (hs:zrt P0 zaa zg9 zrq=true) (hk:K (e64 (zrr S0 zaa zg9 zrq))):z64 K [1,0,1,0,0,1,1,0,0,1,1] [X0] ⟨[(0,zS zac 3 zaa),(5,zS zac 3 zaa),(6,zI (zaa.len:Int)),(7,zI zg9),(13,zB zrq)],[],[]⟩:=zaI (by kernel_rfl) (zc hs hk (fun hs hk=>hk) (fun hs hk=>(hX0 hs hk)))
def ziH (zaa:(Sl Gate)) (S0:Int→Bool) (zbl:Int):Bool :=
  (cond (decide (zbl < (zaa.len : Int)))
 (zrr S0 zaa zbl (!(s87 (zaa.get zbl.toNat))))
 (s74 (zaa.len:Int) (1:Int) (24:Int)))
def ziI (zaa:(Sl Gate)) (P0:Int→Bool) (zbl:Int):Bool :=
  (cond (decide (zbl < (zaa.len : Int)))
 (decide ((0≤zbl∧zbl < (zaa.len:Int))) &&
 (zrt P0 zaa zbl (!(s87 (zaa.get zbl.toNat)))))
 true)
def ziJ (zaa:(Sl Gate)):Nat→Int→Bool:=lpO (fun _=>default) (ziH zaa)
def ziK (zaa:(Sl Gate)):Nat→Int→Bool:=lpO (fun _=>false) (ziI zaa)
def zwU (zaa:(Sl Gate)) (zbl:Int):Bool:=ziJ zaa Fuel zbl
def zwV (zaa:(Sl Gate)) (zbl:Int):Bool:=ziK zaa Fuel zbl
theorem zES (hs:zwV zaa zbl=true) (hk:K (e64 (zwU zaa zbl))):z64 K [1,0,1,0] [] (zDb zaa zbl) :=
  zl (fun X=>z64 K [1,0,1,0,0] [X]) (by kernel_rfl) fun X0 hX =>
  (show ∀ k, zEQ K zaa X0 (ziK zaa k) (ziJ zaa k) from zgM _ _ (ziI zaa) (ziH zaa) (zEQ K zaa X0)
 (by intro _ hs;exact absurd hs Bool.false_ne_true)
 (by intro P0 S0 hX0 zbl hs hk;exact hX _ (zaI (by kernel_rfl) (zc hs hk (fun hs hk=>(zaG hs fun hc hs=>And.intro hc (zER hX0 hs hk))) (fun hs hk=>hk))))) _ hs hk
def s64 (zaa:(Sl Gate)):Bool :=
  (zwU zaa (0:Int))
def p64 (zaa:(Sl Gate)):Bool :=
  (zwV zaa (0:Int))
end
theorem q64 (zaa:(Sl Gate)) (K:List PA→Prop) (hs:p64 zaa=true) (hk:K (e64 (s64 zaa))):vcFun Try.prog G64 zEP 64 [.one (.sl zaa.len 3 (fun i=>zac (zaa.get i)))] K :=
  zaI (by kernel_rfl) (zES hs hk)
def zvm : List PA → COut
  | [.one (.sl a0_n a0_s a0_g)]=>.det (IsE zac 3 a0_s a0_g∧p64 (⟨a0_n,zah a0_g⟩:(Sl Gate))=true) [.one (.bool (s64 (⟨a0_n,zah a0_g⟩:(Sl Gate))))]
  | _=>.no
theorem zJz:zal Try.prog 64:=⟨_,rfl,rfl,by kernel_rfl⟩
theorem zLY:Ok Try.prog 64 zvm:=zaY zMu zJz fun args K h=>by
  unfold zvm at h
  split at h
  · rename_i a0_n a0_s a0_g
    obtain ⟨⟨⟨rfl,a0_f,rfl⟩,hs⟩,hk⟩:=h
    try rw [zaf a0_f] at hs
    try rw [zaf a0_f] at hk
    exact ⟨(fun _ _=>[]),(fun _=>false),zEP,q64 (⟨a0_n,a0_f⟩:(Sl Gate)) K hs hk⟩
  · exact h.elim
abbrev T92:Tabs:=((Tabs.nil.addF 64 zvm).addF 74 znm)
theorem zMv:TabsOk Try.prog T92:=((TabsOk.nil.addF zLY).addF zEN)
abbrev G92:Ctrs:=csm T92 (fun _ _=>[]) (fun _=>false)
def zET:Ann:=⟨41,[(0,zK [0] []),(1,zK [0,5,6,7] []),(2,zK [0,5,6,7,8] []),(3,zK [0,3,4,5,6,7] [4]),(4,zK [0,5,6,7,32] []),(5,zK [2] []),(6,zK [0,5,6,7] []),(7,zK [2] [])],
 [(2,zK [0,5,6,7] [])],
 [],
 [],[]⟩
abbrev R92:=Bool
abbrev e92 (r:R92):List PA:=[.one (.bool r)]
@[irreducible] def z92:=ptF Try.prog G92 zET Try.f92
def zDc (zaa:(Sl Gate)) (zbl:Int):St:=⟨[(0,zS zac 3 zaa),(5,zS zac 3 zaa),(6,zI (zaa.len:Int)),(7,zI zbl)],[],[]⟩
abbrev zJA (K:List PA→Prop) (zaa:(Sl Gate)) (X:St→Prop) (P:Int→Bool) (S:Int→Bool):Prop:=∀ ⦃zbl:Int⦄,P zbl=true→K (e92 (S zbl))→X (zDc zaa zbl)
section
variable {K:List PA→Prop} {zaa:(Sl Gate)} {zbl:Int} {X0:St→Prop} {P0:Int→Bool} {S0:Int→Bool}
def ziL (zaa:(Sl Gate)) (S0:Int→Bool) (zbl:Int):Bool :=
  (cond (decide (zbl < (zaa.len : Int)))
 (cond (decide ((w64 ((zaa.get zbl.toNat).High - (zaa.get zbl.toNat).Low)) > (60:Int)))
 false
 (cond (decide (zbl > (0:Int)))
 (cond (decide ((zaa.get zbl.toNat).Z ≤ (zaa.get ((w64 (zbl - (1:Int))).toNat)).Z))
 false
 (S0 (w64 (zbl+(1:Int)))))
 (S0 (w64 (zbl+(1:Int))))))
 (cond (s74 (zaa.len : Int) (2:Int) (8:Int))
 (s64 zaa)
 false))
def ziM (zaa:(Sl Gate)) (P0:Int→Bool) (zbl:Int):Bool :=
  (cond (decide (zbl < (zaa.len : Int)))
 (decide ((0≤zbl∧zbl < (zaa.len:Int))) &&
 (cond (decide ((w64 ((zaa.get zbl.toNat).High - (zaa.get zbl.toNat).Low)) > (60:Int)))
 true
 (cond (decide (zbl > (0:Int)))
 (decide ((0≤(w64 (zbl - (1:Int)))∧(w64 (zbl - (1:Int))) < (zaa.len:Int))) &&
 (cond (decide ((zaa.get zbl.toNat).Z ≤ (zaa.get ((w64 (zbl - (1:Int))).toNat)).Z))
 true
 (P0 (w64 (zbl+(1:Int))))))
 (P0 (w64 (zbl+(1:Int)))))))
 (cond (s74 (zaa.len : Int) (2:Int) (8:Int))
 (decide ((p64 zaa=true)) &&
 true)
 true))
def ziN (zaa:(Sl Gate)):Nat→Int→Bool:=lpO (fun _=>default) (ziL zaa)
def ziO (zaa:(Sl Gate)):Nat→Int→Bool:=lpO (fun _=>false) (ziM zaa)
def zwW (zaa:(Sl Gate)) (zbl:Int):Bool:=ziN zaa Fuel zbl
def zwX (zaa:(Sl Gate)) (zbl:Int):Bool:=ziO zaa Fuel zbl
theorem zEU (hs:zwX zaa zbl=true) (hk:K (e92 (zwW zaa zbl))):z92 K [1,0,1,0] [] (zDc zaa zbl) :=
  zl (fun X=>z92 K [1,0,1,0,0] [X]) (by kernel_rfl) fun X0 hX =>
  (show ∀ k, zJA K zaa X0 (ziO zaa k) (ziN zaa k) from zgM _ _ (ziM zaa) (ziL zaa) (zJA K zaa X0)
 (by intro _ hs;exact absurd hs Bool.false_ne_true)
 (by intro P0 S0 hX0 zbl hs hk;exact hX _ (zaI (by kernel_rfl) (zc hs hk (fun hs hk=>(zaG hs fun hc hs=>And.intro hc (zc hs hk (fun hs hk=>hk) (fun hs hk=>(zc hs hk (fun hs hk=>(zaG hs fun hc hs=>And.intro hc (zc hs hk (fun hs hk=>hk) (fun hs hk=>(hX0 hs hk))))) (fun hs hk=>(hX0 hs hk))))))) (fun hs hk=>(zc hs hk (fun hs hk=>(zaG hs fun hc hs=>And.intro (And.intro (zE zac 3 zaa.get) hc) hk)) (fun hs hk=>hk))))))) _ hs hk
def s92 (zaa:(Sl Gate)):Bool :=
  (zwW zaa (0:Int))
def p92 (zaa:(Sl Gate)):Bool :=
  (zwX zaa (0:Int))
end
theorem q92 (zaa:(Sl Gate)) (K:List PA→Prop) (hs:p92 zaa=true) (hk:K (e92 (s92 zaa))):vcFun Try.prog G92 zET 92 [.one (.sl zaa.len 3 (fun i=>zac (zaa.get i)))] K :=
  zaI (by kernel_rfl) (zEU hs hk)
def zBY : List PA → COut
  | [.one (.sl a0_n a0_s a0_g)]=>.det (IsE zac 3 a0_s a0_g∧p92 (⟨a0_n,zah a0_g⟩:(Sl Gate))=true) [.one (.bool (s92 (⟨a0_n,zah a0_g⟩:(Sl Gate))))]
  | _=>.no
theorem zJB:zal Try.prog 92:=⟨_,rfl,rfl,by kernel_rfl⟩
theorem zOa:Ok Try.prog 92 zBY:=zaY zMv zJB fun args K h=>by
  unfold zBY at h
  split at h
  · rename_i a0_n a0_s a0_g
    obtain ⟨⟨⟨rfl,a0_f,rfl⟩,hs⟩,hk⟩:=h
    try rw [zaf a0_f] at hs
    try rw [zaf a0_f] at hk
    exact ⟨(fun _ _=>[]),(fun _=>false),zET,q92 (⟨a0_n,a0_f⟩:(Sl Gate)) K hs hk⟩
  · exact h.elim
abbrev T93:Tabs:=(Tabs.nil.addF 85 zvl)
theorem zMw:TabsOk Try.prog T93:=(TabsOk.nil.addF zLX)
abbrev G93:Ctrs:=csm T93 (fun _ _=>[]) (fun l=>Nat.beq l 15 || Nat.beq l 24)
def zEV:Ann:=⟨131,[(0,zK [0] []),(1,zK [0,3] []),(2,zK [0,3,4] [15]),(3,zK [0,3,4,5] [15]),(4,zK [0,3,4,5,19] [15]),(5,zK [0,3,4,5] [15]),(6,zK [0,3,4,5] [15]),(7,zK [0,3,4,5,6] [15]),(8,zK [0,3,4,5,6,37] [15]),(9,zK [0,3,4,5,6] [15]),(10,zK [0,3,4,5,6,7] [15]),(11,zK [0,3,4,5,6,7,53] [15]),(12,zK [0,3,4,5,6,7] [15]),(13,zK [0,3,4,5,6,7,59] [15]),(14,zK [0,3,4,5,6,7] [15]),(15,zK [0,3,4,5,6,7,8] [15]),(16,zK [0,3,4,5,6,7,8,9] [15]),(17,zK [0,3,4,5,6,7,8,9,80] [15]),(18,zK [0,3,4,5,6,7,8,9] [15]),(19,zK [0,3,4,5,6,7,8,9,10] [15]),(20,zK [0,3,4,5,6,7,8,9,10,120] [15]),(21,zK [0,3,4,5,6,7,8,9] [15]),(22,zK [0,3,4,5,6,7] [15]),(23,zK [2] [15])],
 [(4,zK [0,3,4,5] [15]),(8,zK [0,3,4,5,6] [15]),(11,zK [0,3,4,5,6,7] [15]),(17,zK [0,3,4,5,6,7,8,9] [15])],
 [(15,zK [0,3,4,5,6,7] [15]),(20,zK [0,3,4,5,6,7,8,9,10] [15])],
 [],[]⟩
abbrev R93:=(Sl Mp)
abbrev e93 (r:R93):List PA:=[.one (.sl r.len 1 (fun i=>zbr (r.get i)))]
@[irreducible] def z93:=ptF Try.prog G93 zEV Try.f93
def zDd (zaa:(Sl Gate)) (iv0:Int) (zca:Nat) (zbZ:(Nat→Bool)) (zb0:(Nat→Nat)) (zcA:(Nat→List Int→Option (List Int))):St:=⟨[(0,zS zac 3 zaa),(3,zI (zaa.len:Int)),(4,zv 15),(5,zI iv0)],[(15,.vm 129 8 131 3 (true,2,false,[some .i64]) zca zbZ zb0 zcA)],[]⟩
abbrev zru (K:List PA→Prop) (zaa:(Sl Gate)) (X:St→Prop) (P:Int→Nat→(Nat→Bool)→(Nat→Nat)→(Nat→List Int→Option (List Int))→Bool) (S:Int→Nat→(Nat→Bool)→(Nat→Nat)→(Nat→List Int→Option (List Int))→(Sl Mp)):Prop:=∀ ⦃iv0:Int⦄ ⦃zca:Nat⦄ ⦃zbZ:(Nat→Bool)⦄ ⦃zb0:(Nat→Nat)⦄ ⦃zcA:(Nat→List Int→Option (List Int))⦄,P iv0 zca zbZ zb0 zcA=true→K (e93 (S iv0 zca zbZ zb0 zcA))→X (zDd zaa iv0 zca zbZ zb0 zcA)
def zDe (zaa:(Sl Gate)) (iv1:Int) (pv1:Int) (zcn:Nat) (zbQ:(Nat→Bool)) (zbR:(Nat→Nat)) (zco:(Nat→List Int→Option (List Int))):St:=⟨[(0,zS zac 3 zaa),(3,zI (zaa.len:Int)),(4,zv 15),(5,zI iv1),(6,zI pv1)],[(15,.vm 129 8 131 3 (true,2,false,[some .i64]) zcn zbQ zbR zco)],[]⟩
abbrev zvn (K:List PA→Prop) (zaa:(Sl Gate)) (X:St→Prop) (P:Int→Int→Nat→(Nat→Bool)→(Nat→Nat)→(Nat→List Int→Option (List Int))→Bool) (S:Int→Int→Nat→(Nat→Bool)→(Nat→Nat)→(Nat→List Int→Option (List Int))→(Sl Mp)):Prop:=∀ ⦃iv1:Int⦄ ⦃pv1:Int⦄ ⦃zcn:Nat⦄ ⦃zbQ:(Nat→Bool)⦄ ⦃zbR:(Nat→Nat)⦄ ⦃zco:(Nat→List Int→Option (List Int))⦄,P iv1 pv1 zcn zbQ zbR zco=true→K (e93 (S iv1 pv1 zcn zbQ zbR zco))→X (zDe zaa iv1 pv1 zcn zbQ zbR zco)
def zDf (zaa:(Sl Gate)) (iv2:Int) (pv2:Int) (qv2:Int) (zbX:Nat) (zbs:(Nat→Bool)) (zbm:(Nat→Nat)) (zbK:(Nat→List Int→Option (List Int))):St:=⟨[(0,zS zac 3 zaa),(3,zI (zaa.len:Int)),(4,zv 15),(5,zI iv2),(6,zI pv2),(7,zI qv2)],[(15,.vm 129 8 131 3 (true,2,false,[some .i64]) zbX zbs zbm zbK)],[]⟩
abbrev zwY (K:List PA→Prop) (zaa:(Sl Gate)) (X:St→Prop) (P:Int→Int→Int→Nat→(Nat→Bool)→(Nat→Nat)→(Nat→List Int→Option (List Int))→Bool) (S:Int→Int→Int→Nat→(Nat→Bool)→(Nat→Nat)→(Nat→List Int→Option (List Int))→(Sl Mp)):Prop:=∀ ⦃iv2:Int⦄ ⦃pv2:Int⦄ ⦃qv2:Int⦄ ⦃zbX:Nat⦄ ⦃zbs:(Nat→Bool)⦄ ⦃zbm:(Nat→Nat)⦄ ⦃zbK:(Nat→List Int→Option (List Int))⦄,P iv2 pv2 qv2 zbX zbs zbm zbK=true→K (e93 (S iv2 pv2 qv2 zbX zbs zbm zbK))→X (zDf zaa iv2 pv2 qv2 zbX zbs zbm zbK)
def zDg (zaa:(Sl Gate)) (qv3:Int) (iv4:Int) (pv4:Int) (zdk:Int) (rv4:Int) (zbL:Nat) (zby:(Nat→Bool)) (zbz:(Nat→Nat)) (zbx:(Nat→List Int→Option (List Int))):St:=⟨[(0,zS zac 3 zaa),(3,zI (zaa.len:Int)),(4,zv 15),(5,zI iv4),(6,zI pv4),(7,zI qv3),(8,zI zdk),(9,zI rv4)],[(15,.vm 129 8 131 3 (true,2,false,[some .i64]) zbL zby zbz zbx)],[]⟩
abbrev zEW (K:List PA→Prop) (zaa:(Sl Gate)) (qv3:Int) (X:St→Prop) (P:Int→Int→Int→Int→Nat→(Nat→Bool)→(Nat→Nat)→(Nat→List Int→Option (List Int))→Bool) (S:Int→Int→Int→Int→Nat→(Nat→Bool)→(Nat→Nat)→(Nat→List Int→Option (List Int))→(Sl Mp)):Prop:=∀ ⦃iv4:Int⦄ ⦃pv4:Int⦄ ⦃zdk:Int⦄ ⦃rv4:Int⦄ ⦃zbL:Nat⦄ ⦃zby:(Nat→Bool)⦄ ⦃zbz:(Nat→Nat)⦄ ⦃zbx:(Nat→List Int→Option (List Int))⦄,P iv4 pv4 zdk rv4 zbL zby zbz zbx=true→K (e93 (S iv4 pv4 zdk rv4 zbL zby zbz zbx))→X (zDg zaa qv3 iv4 pv4 zdk rv4 zbL zby zbz zbx)
section
variable {K:List PA→Prop} {zaa:(Sl Gate)} {iv0:Int} {zca:Nat} {zbZ:(Nat→Bool)} {zb0:(Nat→Nat)} {zcA:(Nat→List Int→Option (List Int))} {X0:St→Prop} {P0:Int→Nat→(Nat→Bool)→(Nat→Nat)→(Nat→List Int→Option (List Int))→Bool} {S0:Int→Nat→(Nat→Bool)→(Nat→Nat)→(Nat→List Int→Option (List Int))→(Sl Mp)} {iv1:Int} {pv1:Int} {zcn:Nat} {zbQ:(Nat→Bool)} {zbR:(Nat→Nat)} {zco:(Nat→List Int→Option (List Int))} {X1:St→Prop} {P1:Int→Int→Nat→(Nat→Bool)→(Nat→Nat)→(Nat→List Int→Option (List Int))→Bool} {S1:Int→Int→Nat→(Nat→Bool)→(Nat→Nat)→(Nat→List Int→Option (List Int))→(Sl Mp)} {iv2:Int} {pv2:Int} {qv2:Int} {zbX:Nat} {zbs:(Nat→Bool)} {zbm:(Nat→Nat)} {zbK:(Nat→List Int→Option (List Int))} {X2:St→Prop} {P2:Int→Int→Int→Nat→(Nat→Bool)→(Nat→Nat)→(Nat→List Int→Option (List Int))→Bool} {S2:Int→Int→Int→Nat→(Nat→Bool)→(Nat→Nat)→(Nat→List Int→Option (List Int))→(Sl Mp)} {iv3:Int} {pv3:Int} {qv3:Int} {zha:Nat} {zfk:(Nat→Bool)} {zfl:(Nat→Nat)} {zhb:(Nat→List Int→Option (List Int))} {iv4:Int} {pv4:Int} {zdk:Int} {rv4:Int} {zbL:Nat} {zby:(Nat→Bool)} {zbz:(Nat→Nat)} {zbx:(Nat→List Int→Option (List Int))} {X4:St→Prop} {P4:Int→Int→Int→Int→Nat→(Nat→Bool)→(Nat→Nat)→(Nat→List Int→Option (List Int))→Bool} {S4:Int→Int→Int→Int→Nat→(Nat→Bool)→(Nat→Nat)→(Nat→List Int→Option (List Int))→(Sl Mp)} {iv5:Int} {pv5:Int} {zfX:Int} {rv5:Int} {kv5:Int} {zeo:Nat} {zdq:(Nat→Bool)} {zdr:(Nat→Nat)} {zep:(Nat→List Int→Option (List Int))}
def znn (S0:Int→Nat→(Nat→Bool)→(Nat→Nat)→(Nat→List Int→Option (List Int))→(Sl Mp)) (S1:Int→Int→Nat→(Nat→Bool)→(Nat→Nat)→(Nat→List Int→Option (List Int))→(Sl Mp)) (S2:Int→Int→Int→Nat→(Nat→Bool)→(Nat→Nat)→(Nat→List Int→Option (List Int))→(Sl Mp)) (S4:Int→Int→Int→Int→Nat→(Nat→Bool)→(Nat→Nat)→(Nat→List Int→Option (List Int))→(Sl Mp)) (zaa:(Sl Gate)) (qv3:Int) (iv5:Int) (pv5:Int) (zfX:Int) (rv5:Int) (kv5:Int) (zeo:Nat) (zdq:(Nat→Bool)) (zdr:(Nat→Nat)) (zep:(Nat→List Int→Option (List Int))):(Sl Mp) :=
  (cond (decide (zfX < (0:Int)))
 (S4 iv5 pv5 kv5 (w64 (rv5+(1:Int))) zeo zdq zdr zep)
 (cond (decide (kv5 < zfX))
 (S4 iv5 pv5 kv5 (w64 (rv5+(1:Int))) zeo zdq zdr zep)
 (S4 iv5 pv5 zfX (w64 (rv5+(1:Int))) zeo zdq zdr zep)))
def zno (P0:Int→Nat→(Nat→Bool)→(Nat→Nat)→(Nat→List Int→Option (List Int))→Bool) (P1:Int→Int→Nat→(Nat→Bool)→(Nat→Nat)→(Nat→List Int→Option (List Int))→Bool) (P2:Int→Int→Int→Nat→(Nat→Bool)→(Nat→Nat)→(Nat→List Int→Option (List Int))→Bool) (P4:Int→Int→Int→Int→Nat→(Nat→Bool)→(Nat→Nat)→(Nat→List Int→Option (List Int))→Bool) (zaa:(Sl Gate)) (qv3:Int) (iv5:Int) (pv5:Int) (zfX:Int) (rv5:Int) (kv5:Int) (zeo:Nat) (zdq:(Nat→Bool)) (zdr:(Nat→Nat)) (zep:(Nat→List Int→Option (List Int))):Bool :=
  (cond (decide (zfX < (0:Int)))
 (P4 iv5 pv5 kv5 (w64 (rv5+(1:Int))) zeo zdq zdr zep)
 (cond (decide (kv5 < zfX))
 (P4 iv5 pv5 kv5 (w64 (rv5+(1:Int))) zeo zdq zdr zep)
 (P4 iv5 pv5 zfX (w64 (rv5+(1:Int))) zeo zdq zdr zep)))
theorem zEX (hX0:zru K zaa X0 P0 S0) (hX1:zvn K zaa X1 P1 S1) (hX2:zwY K zaa X2 P2 S2) (hX4:zEW K zaa qv3 X4 P4 S4) (hs:zno P0 P1 P2 P4 zaa qv3 iv5 pv5 zfX rv5 kv5 zeo zdq zdr zep=true) (hk:K (e93 (znn S0 S1 S2 S4 zaa qv3 iv5 pv5 zfX rv5 kv5 zeo zdq zdr zep))):z93 K [1,1,1,0,1,0,0,1,0,0,1,1,0,0,1,0,0,1,0,0,1,0,0,1,1,0,1,0,0,1,0,0,1] [X0,X1,X2,X4] ⟨[(0,zS zac 3 zaa),(3,zI (zaa.len:Int)),(4,zv 15),(5,zI iv5),(6,zI pv5),(7,zI qv3),(8,zI zfX),(9,zI rv5),(10,zI kv5)],[(15,.vm 129 8 131 3 (true,2,false,[some .i64]) zeo zdq zdr zep)],[]⟩:=zaI (by kernel_rfl) (zc hs hk (fun hs hk=>(hX4 hs hk)) (fun hs hk=>(zc hs hk (fun hs hk=>(hX4 hs hk)) (fun hs hk=>(hX4 hs hk)))))
def ziP (S0:Int→Nat→(Nat→Bool)→(Nat→Nat)→(Nat→List Int→Option (List Int))→(Sl Mp)) (S1:Int→Int→Nat→(Nat→Bool)→(Nat→Nat)→(Nat→List Int→Option (List Int))→(Sl Mp)) (S2:Int→Int→Int→Nat→(Nat→Bool)→(Nat→Nat)→(Nat→List Int→Option (List Int))→(Sl Mp)) (zaa:(Sl Gate)) (qv3:Int) (S4:Int→Int→Int→Int→Nat→(Nat→Bool)→(Nat→Nat)→(Nat→List Int→Option (List Int))→(Sl Mp)) (iv4:Int) (pv4:Int) (zdk:Int) (rv4:Int) (zbL:Nat) (zby:(Nat→Bool)) (zbz:(Nat→Nat)) (zbx:(Nat→List Int→Option (List Int))):(Sl Mp) :=
  (cond (decide (rv4 ≤ (zaa.get ((w64 (iv4 + (2:Int))).toNat)).High))
 (znn S0 S1 S2 S4 zaa qv3 iv4 pv4 zdk rv4 (if (zdj ((zbx ((w64 (iv4+(1:Int))).toNat)) [qv3,rv4]) 0) > (s85 ((zaa.get iv4.toNat).Z) ((zaa.get ((w64 (iv4+(1:Int))).toNat)).Z) ((zaa.get ((w64 (iv4+(2:Int))).toNat)).Z) pv4 qv3 rv4) then (zdj ((zbx ((w64 (iv4+(1:Int))).toNat)) [qv3,rv4]) 0) else (s85 ((zaa.get iv4.toNat).Z) ((zaa.get ((w64 (iv4+(1:Int))).toNat)).Z) ((zaa.get ((w64 (iv4+(2:Int))).toNat)).Z) pv4 qv3 rv4)) zbL zby zbz zbx)
 (S2 iv4 pv4 (w64 (qv3+(1:Int))) zbL zby (zbb iv4.toNat (addN ((zbx iv4.toNat) [pv4,qv3]) (zbz iv4.toNat)) zbz) (zbb iv4.toNat (ze4 [pv4,qv3] [zdk] (zbx iv4.toNat)) zbx)))
def ziQ (P0:Int→Nat→(Nat→Bool)→(Nat→Nat)→(Nat→List Int→Option (List Int))→Bool) (P1:Int→Int→Nat→(Nat→Bool)→(Nat→Nat)→(Nat→List Int→Option (List Int))→Bool) (P2:Int→Int→Int→Nat→(Nat→Bool)→(Nat→Nat)→(Nat→List Int→Option (List Int))→Bool) (zaa:(Sl Gate)) (qv3:Int) (P4:Int→Int→Int→Int→Nat→(Nat→Bool)→(Nat→Nat)→(Nat→List Int→Option (List Int))→Bool) (iv4:Int) (pv4:Int) (zdk:Int) (rv4:Int) (zbL:Nat) (zby:(Nat→Bool)) (zbz:(Nat→Nat)) (zbx:(Nat→List Int→Option (List Int))):Bool :=
  (decide ((0≤(w64 (iv4+(2:Int)))∧(w64 (iv4+(2:Int))) < (zaa.len:Int))) &&
 (cond (decide (rv4 ≤ (zaa.get ((w64 (iv4 + (2:Int))).toNat)).High))
 (decide ((0≤iv4∧iv4 < (zaa.len:Int))) &&
 (decide ((0≤(w64 (iv4+(1:Int)))∧(w64 (iv4+(1:Int))) < (zaa.len:Int))) &&
 (decide ((0≤(w64 (iv4+(2:Int)))∧(w64 (iv4+(2:Int))) < (zaa.len:Int))) &&
 (decide ((p85 ((zaa.get iv4.toNat).Z) ((zaa.get ((w64 (iv4+(1:Int))).toNat)).Z) ((zaa.get ((w64 (iv4+(2:Int))).toNat)).Z) pv4 qv3 rv4=true)) &&
 (decide ((0≤(w64 (iv4+(1:Int)))∧(w64 (iv4+(1:Int))) < (zbL:Int))) &&
 (decide (((w64 (iv4+(1:Int))).toNat < zbL∧zby ((w64 (iv4+(1:Int))).toNat)=true)) &&
 (decide (((w64 (iv4+(1:Int))).toNat < zbL)) &&
 (zno P0 P1 P2 P4 zaa qv3 iv4 pv4 zdk rv4 (if (zdj ((zbx ((w64 (iv4+(1:Int))).toNat)) [qv3,rv4]) 0) > (s85 ((zaa.get iv4.toNat).Z) ((zaa.get ((w64 (iv4+(1:Int))).toNat)).Z) ((zaa.get ((w64 (iv4+(2:Int))).toNat)).Z) pv4 qv3 rv4) then (zdj ((zbx ((w64 (iv4+(1:Int))).toNat)) [qv3,rv4]) 0) else (s85 ((zaa.get iv4.toNat).Z) ((zaa.get ((w64 (iv4+(1:Int))).toNat)).Z) ((zaa.get ((w64 (iv4+(2:Int))).toNat)).Z) pv4 qv3 rv4)) zbL zby zbz zbx))))))))
 (decide ((0≤iv4∧iv4 < (zbL:Int))) &&
 (decide ((iv4.toNat < zbL∧zby iv4.toNat=true)) &&
 (decide ((iv4.toNat < zbL)) &&
 (P2 iv4 pv4 (w64 (qv3+(1:Int))) zbL zby (zbb iv4.toNat (addN ((zbx iv4.toNat) [pv4,qv3]) (zbz iv4.toNat)) zbz) (zbb iv4.toNat (ze4 [pv4,qv3] [zdk] (zbx iv4.toNat)) zbx)))))))
def zhc (S0:Int→Nat→(Nat→Bool)→(Nat→Nat)→(Nat→List Int→Option (List Int))→(Sl Mp)) (S1:Int→Int→Nat→(Nat→Bool)→(Nat→Nat)→(Nat→List Int→Option (List Int))→(Sl Mp)) (S2:Int→Int→Int→Nat→(Nat→Bool)→(Nat→Nat)→(Nat→List Int→Option (List Int))→(Sl Mp)) (zaa:(Sl Gate)) (qv3:Int):Nat→Int→Int→Int→Int→Nat→(Nat→Bool)→(Nat→Nat)→(Nat→List Int→Option (List Int))→(Sl Mp):=lpO (fun _ _ _ _ _ _ _ _=>default) (ziP S0 S1 S2 zaa qv3)
def zhd (P0:Int→Nat→(Nat→Bool)→(Nat→Nat)→(Nat→List Int→Option (List Int))→Bool) (P1:Int→Int→Nat→(Nat→Bool)→(Nat→Nat)→(Nat→List Int→Option (List Int))→Bool) (P2:Int→Int→Int→Nat→(Nat→Bool)→(Nat→Nat)→(Nat→List Int→Option (List Int))→Bool) (zaa:(Sl Gate)) (qv3:Int):Nat→Int→Int→Int→Int→Nat→(Nat→Bool)→(Nat→Nat)→(Nat→List Int→Option (List Int))→Bool:=lpO (fun _ _ _ _ _ _ _ _=>false) (ziQ P0 P1 P2 zaa qv3)
def zrv (S0:Int→Nat→(Nat→Bool)→(Nat→Nat)→(Nat→List Int→Option (List Int))→(Sl Mp)) (S1:Int→Int→Nat→(Nat→Bool)→(Nat→Nat)→(Nat→List Int→Option (List Int))→(Sl Mp)) (S2:Int→Int→Int→Nat→(Nat→Bool)→(Nat→Nat)→(Nat→List Int→Option (List Int))→(Sl Mp)) (zaa:(Sl Gate)) (qv3:Int) (iv4:Int) (pv4:Int) (zdk:Int) (rv4:Int) (zbL:Nat) (zby:(Nat→Bool)) (zbz:(Nat→Nat)) (zbx:(Nat→List Int→Option (List Int))):(Sl Mp):=zhc S0 S1 S2 zaa qv3 Fuel iv4 pv4 zdk rv4 zbL zby zbz zbx
def zrx (P0:Int→Nat→(Nat→Bool)→(Nat→Nat)→(Nat→List Int→Option (List Int))→Bool) (P1:Int→Int→Nat→(Nat→Bool)→(Nat→Nat)→(Nat→List Int→Option (List Int))→Bool) (P2:Int→Int→Int→Nat→(Nat→Bool)→(Nat→Nat)→(Nat→List Int→Option (List Int))→Bool) (zaa:(Sl Gate)) (qv3:Int) (iv4:Int) (pv4:Int) (zdk:Int) (rv4:Int) (zbL:Nat) (zby:(Nat→Bool)) (zbz:(Nat→Nat)) (zbx:(Nat→List Int→Option (List Int))):Bool:=zhd P0 P1 P2 zaa qv3 Fuel iv4 pv4 zdk rv4 zbL zby zbz zbx
theorem zEY (hX0:zru K zaa X0 P0 S0) (hX1:zvn K zaa X1 P1 S1) (hX2:zwY K zaa X2 P2 S2) (hs:zrx P0 P1 P2 zaa qv3 iv4 pv4 zdk rv4 zbL zby zbz zbx=true) (hk:K (e93 (zrv S0 S1 S2 zaa qv3 iv4 pv4 zdk rv4 zbL zby zbz zbx))):z93 K [1,1,1,0,1,0,0,1,0,0,1,1,0,0,1,0,0,1,0,0,1,0,0,1,1,0,1,0] [X0,X1,X2] (zDg zaa qv3 iv4 pv4 zdk rv4 zbL zby zbz zbx) :=
  zl (fun X=>z93 K [1,1,1,0,1,0,0,1,0,0,1,1,0,0,1,0,0,1,0,0,1,0,0,1,1,0,1,0,0] [X0,X1,X2,X]) (by kernel_rfl) fun X4 hX =>
  (show ∀ k, zEW K zaa qv3 X4 (zhd P0 P1 P2 zaa qv3 k) (zhc S0 S1 S2 zaa qv3 k) from zgM _ _ (ziQ P0 P1 P2 zaa qv3) (ziP S0 S1 S2 zaa qv3) (zEW K zaa qv3 X4)
 (by intro _ _ _ _ _ _ _ _ hs;exact absurd hs Bool.false_ne_true)
 (by intro P4 S4 hX4 iv4 pv4 zdk rv4 zbL zby zbz zbx hs hk;exact hX _ (zaI (by kernel_rfl) (zaG hs fun hc hs=>And.intro hc (zc hs hk (fun hs hk=>(zaG hs fun hc hs=>And.intro hc (zaG hs fun hc hs=>And.intro hc (zaG hs fun hc hs=>And.intro hc (zaG hs fun hc hs=>And.intro hc (zaG hs fun hc hs=>And.intro hc (zaG hs fun hc hs=>And.intro hc (zaG hs fun hc hs=>And.intro hc (zEX hX0 hX1 hX2 hX4 hs hk))))))))) (fun hs hk=>(zaG hs fun hc hs=>And.intro hc (zaG hs fun hc hs=>And.intro hc (zaG hs fun hc hs=>And.intro hc (hX2 hs hk)))))))))) _ hs hk
def zry (S0:Int→Nat→(Nat→Bool)→(Nat→Nat)→(Nat→List Int→Option (List Int))→(Sl Mp)) (S1:Int→Int→Nat→(Nat→Bool)→(Nat→Nat)→(Nat→List Int→Option (List Int))→(Sl Mp)) (S2:Int→Int→Int→Nat→(Nat→Bool)→(Nat→Nat)→(Nat→List Int→Option (List Int))→(Sl Mp)) (zaa:(Sl Gate)) (iv3:Int) (pv3:Int) (qv3:Int) (zha:Nat) (zfk:(Nat→Bool)) (zfl:(Nat→Nat)) (zhb:(Nat→List Int→Option (List Int))):(Sl Mp) :=
  (zrv S0 S1 S2 zaa qv3 iv3 pv3 (-1:Int) ((zaa.get ((w64 (iv3+(2:Int))).toNat)).Low) zha zfk zfl zhb)
def zrz (P0:Int→Nat→(Nat→Bool)→(Nat→Nat)→(Nat→List Int→Option (List Int))→Bool) (P1:Int→Int→Nat→(Nat→Bool)→(Nat→Nat)→(Nat→List Int→Option (List Int))→Bool) (P2:Int→Int→Int→Nat→(Nat→Bool)→(Nat→Nat)→(Nat→List Int→Option (List Int))→Bool) (zaa:(Sl Gate)) (iv3:Int) (pv3:Int) (qv3:Int) (zha:Nat) (zfk:(Nat→Bool)) (zfl:(Nat→Nat)) (zhb:(Nat→List Int→Option (List Int))):Bool :=
  (decide ((0≤(w64 (iv3+(2:Int)))∧(w64 (iv3+(2:Int))) < (zaa.len:Int))) &&
 (zrx P0 P1 P2 zaa qv3 iv3 pv3 (-1:Int) ((zaa.get ((w64 (iv3+(2:Int))).toNat)).Low) zha zfk zfl zhb))
theorem zEZ (hX0:zru K zaa X0 P0 S0) (hX1:zvn K zaa X1 P1 S1) (hX2:zwY K zaa X2 P2 S2) (hs:zrz P0 P1 P2 zaa iv3 pv3 qv3 zha zfk zfl zhb=true) (hk:K (e93 (zry S0 S1 S2 zaa iv3 pv3 qv3 zha zfk zfl zhb))):z93 K [1,1,1,0,1,0,0,1,0,0,1,1,0,0,1,0,0,1,0,0,1,0,0,1] [X0,X1,X2] ⟨[(0,zS zac 3 zaa),(3,zI (zaa.len:Int)),(4,zv 15),(5,zI iv3),(6,zI pv3),(7,zI qv3)],[(15,.vm 129 8 131 3 (true,2,false,[some .i64]) zha zfk zfl zhb)],[]⟩:=zaI (by kernel_rfl) (zaG hs fun hc hs=>And.intro hc (zEY hX0 hX1 hX2 hs hk))
def ziR (S0:Int→Nat→(Nat→Bool)→(Nat→Nat)→(Nat→List Int→Option (List Int))→(Sl Mp)) (S1:Int→Int→Nat→(Nat→Bool)→(Nat→Nat)→(Nat→List Int→Option (List Int))→(Sl Mp)) (zaa:(Sl Gate)) (S2:Int→Int→Int→Nat→(Nat→Bool)→(Nat→Nat)→(Nat→List Int→Option (List Int))→(Sl Mp)) (iv2:Int) (pv2:Int) (qv2:Int) (zbX:Nat) (zbs:(Nat→Bool)) (zbm:(Nat→Nat)) (zbK:(Nat→List Int→Option (List Int))):(Sl Mp) :=
  (cond (decide (qv2 ≤ (zaa.get ((w64 (iv2 + (1:Int))).toNat)).High))
 (cond (iv2 == (w64 ((zaa.len : Int) - (2:Int))))
 (S2 iv2 pv2 (w64 (qv2+(1:Int))) zbX zbs (zbb iv2.toNat (addN ((zbK iv2.toNat) [pv2,qv2]) (zbm iv2.toNat)) zbm) (zbb iv2.toNat (ze4 [pv2,qv2] [(0:Int)] (zbK iv2.toNat)) zbK))
 (zry S0 S1 S2 zaa iv2 pv2 qv2 zbX zbs zbm zbK))
 (S1 iv2 (w64 (pv2+(1:Int))) zbX zbs zbm zbK))
def ziS (P0:Int→Nat→(Nat→Bool)→(Nat→Nat)→(Nat→List Int→Option (List Int))→Bool) (P1:Int→Int→Nat→(Nat→Bool)→(Nat→Nat)→(Nat→List Int→Option (List Int))→Bool) (zaa:(Sl Gate)) (P2:Int→Int→Int→Nat→(Nat→Bool)→(Nat→Nat)→(Nat→List Int→Option (List Int))→Bool) (iv2:Int) (pv2:Int) (qv2:Int) (zbX:Nat) (zbs:(Nat→Bool)) (zbm:(Nat→Nat)) (zbK:(Nat→List Int→Option (List Int))):Bool :=
  (decide ((0≤(w64 (iv2+(1:Int)))∧(w64 (iv2+(1:Int))) < (zaa.len:Int))) &&
 (cond (decide (qv2 ≤ (zaa.get ((w64 (iv2 + (1:Int))).toNat)).High))
 (cond (iv2 == (w64 ((zaa.len : Int) - (2:Int))))
 (decide ((0≤iv2∧iv2 < (zbX:Int))) &&
 (decide ((iv2.toNat < zbX∧zbs iv2.toNat=true)) &&
 (decide ((iv2.toNat < zbX)) &&
 (P2 iv2 pv2 (w64 (qv2+(1:Int))) zbX zbs (zbb iv2.toNat (addN ((zbK iv2.toNat) [pv2,qv2]) (zbm iv2.toNat)) zbm) (zbb iv2.toNat (ze4 [pv2,qv2] [(0:Int)] (zbK iv2.toNat)) zbK)))))
 (zrz P0 P1 P2 zaa iv2 pv2 qv2 zbX zbs zbm zbK))
 (P1 iv2 (w64 (pv2+(1:Int))) zbX zbs zbm zbK)))
def zhe (S0:Int→Nat→(Nat→Bool)→(Nat→Nat)→(Nat→List Int→Option (List Int))→(Sl Mp)) (S1:Int→Int→Nat→(Nat→Bool)→(Nat→Nat)→(Nat→List Int→Option (List Int))→(Sl Mp)) (zaa:(Sl Gate)):Nat→Int→Int→Int→Nat→(Nat→Bool)→(Nat→Nat)→(Nat→List Int→Option (List Int))→(Sl Mp):=lpO (fun _ _ _ _ _ _ _=>default) (ziR S0 S1 zaa)
def zhf (P0:Int→Nat→(Nat→Bool)→(Nat→Nat)→(Nat→List Int→Option (List Int))→Bool) (P1:Int→Int→Nat→(Nat→Bool)→(Nat→Nat)→(Nat→List Int→Option (List Int))→Bool) (zaa:(Sl Gate)):Nat→Int→Int→Int→Nat→(Nat→Bool)→(Nat→Nat)→(Nat→List Int→Option (List Int))→Bool:=lpO (fun _ _ _ _ _ _ _=>false) (ziS P0 P1 zaa)
def zrA (S0:Int→Nat→(Nat→Bool)→(Nat→Nat)→(Nat→List Int→Option (List Int))→(Sl Mp)) (S1:Int→Int→Nat→(Nat→Bool)→(Nat→Nat)→(Nat→List Int→Option (List Int))→(Sl Mp)) (zaa:(Sl Gate)) (iv2:Int) (pv2:Int) (qv2:Int) (zbX:Nat) (zbs:(Nat→Bool)) (zbm:(Nat→Nat)) (zbK:(Nat→List Int→Option (List Int))):(Sl Mp):=zhe S0 S1 zaa Fuel iv2 pv2 qv2 zbX zbs zbm zbK
def zrB (P0:Int→Nat→(Nat→Bool)→(Nat→Nat)→(Nat→List Int→Option (List Int))→Bool) (P1:Int→Int→Nat→(Nat→Bool)→(Nat→Nat)→(Nat→List Int→Option (List Int))→Bool) (zaa:(Sl Gate)) (iv2:Int) (pv2:Int) (qv2:Int) (zbX:Nat) (zbs:(Nat→Bool)) (zbm:(Nat→Nat)) (zbK:(Nat→List Int→Option (List Int))):Bool:=zhf P0 P1 zaa Fuel iv2 pv2 qv2 zbX zbs zbm zbK
theorem zE0 (hX0:zru K zaa X0 P0 S0) (hX1:zvn K zaa X1 P1 S1) (hs:zrB P0 P1 zaa iv2 pv2 qv2 zbX zbs zbm zbK=true) (hk:K (e93 (zrA S0 S1 zaa iv2 pv2 qv2 zbX zbs zbm zbK))):z93 K [1,1,1,0,1,0,0,1,0,0,1,1,0,0,1,0,0,1,0] [X0,X1] (zDf zaa iv2 pv2 qv2 zbX zbs zbm zbK) :=
  zl (fun X=>z93 K [1,1,1,0,1,0,0,1,0,0,1,1,0,0,1,0,0,1,0,0] [X0,X1,X]) (by kernel_rfl) fun X2 hX =>
  (show ∀ k, zwY K zaa X2 (zhf P0 P1 zaa k) (zhe S0 S1 zaa k) from zgM _ _ (ziS P0 P1 zaa) (ziR S0 S1 zaa) (zwY K zaa X2)
 (by intro _ _ _ _ _ _ _ hs;exact absurd hs Bool.false_ne_true)
 (by intro P2 S2 hX2 iv2 pv2 qv2 zbX zbs zbm zbK hs hk;exact hX _ (zaI (by kernel_rfl) (zaG hs fun hc hs=>And.intro hc (zc hs hk (fun hs hk=>(zc hs hk (fun hs hk=>(zaG hs fun hc hs=>And.intro hc (zaG hs fun hc hs=>And.intro hc (zaG hs fun hc hs=>And.intro hc (hX2 hs hk))))) (fun hs hk=>(zEZ hX0 hX1 hX2 hs hk)))) (fun hs hk=>(hX1 hs hk))))))) _ hs hk
def ziT (S0:Int→Nat→(Nat→Bool)→(Nat→Nat)→(Nat→List Int→Option (List Int))→(Sl Mp)) (zaa:(Sl Gate)) (S1:Int→Int→Nat→(Nat→Bool)→(Nat→Nat)→(Nat→List Int→Option (List Int))→(Sl Mp)) (iv1:Int) (pv1:Int) (zcn:Nat) (zbQ:(Nat→Bool)) (zbR:(Nat→Nat)) (zco:(Nat→List Int→Option (List Int))):(Sl Mp) :=
  (cond (decide (pv1 ≤ (zaa.get iv1.toNat).High))
 (zrA S0 S1 zaa iv1 pv1 ((zaa.get ((w64 (iv1+(1:Int))).toNat)).Low) zcn zbQ zbR zco)
 (S0 (w64 (iv1 - (1:Int))) zcn zbQ zbR zco))
def ziU (P0:Int→Nat→(Nat→Bool)→(Nat→Nat)→(Nat→List Int→Option (List Int))→Bool) (zaa:(Sl Gate)) (P1:Int→Int→Nat→(Nat→Bool)→(Nat→Nat)→(Nat→List Int→Option (List Int))→Bool) (iv1:Int) (pv1:Int) (zcn:Nat) (zbQ:(Nat→Bool)) (zbR:(Nat→Nat)) (zco:(Nat→List Int→Option (List Int))):Bool :=
  (decide ((0≤iv1∧iv1 < (zaa.len:Int))) &&
 (cond (decide (pv1 ≤ (zaa.get iv1.toNat).High))
 (decide ((0≤(w64 (iv1+(1:Int)))∧(w64 (iv1+(1:Int))) < (zaa.len:Int))) &&
 (zrB P0 P1 zaa iv1 pv1 ((zaa.get ((w64 (iv1+(1:Int))).toNat)).Low) zcn zbQ zbR zco))
 (P0 (w64 (iv1 - (1:Int))) zcn zbQ zbR zco)))
def zhg (S0:Int→Nat→(Nat→Bool)→(Nat→Nat)→(Nat→List Int→Option (List Int))→(Sl Mp)) (zaa:(Sl Gate)):Nat→Int→Int→Nat→(Nat→Bool)→(Nat→Nat)→(Nat→List Int→Option (List Int))→(Sl Mp):=lpO (fun _ _ _ _ _ _=>default) (ziT S0 zaa)
def zhh (P0:Int→Nat→(Nat→Bool)→(Nat→Nat)→(Nat→List Int→Option (List Int))→Bool) (zaa:(Sl Gate)):Nat→Int→Int→Nat→(Nat→Bool)→(Nat→Nat)→(Nat→List Int→Option (List Int))→Bool:=lpO (fun _ _ _ _ _ _=>false) (ziU P0 zaa)
def znp (S0:Int→Nat→(Nat→Bool)→(Nat→Nat)→(Nat→List Int→Option (List Int))→(Sl Mp)) (zaa:(Sl Gate)) (iv1:Int) (pv1:Int) (zcn:Nat) (zbQ:(Nat→Bool)) (zbR:(Nat→Nat)) (zco:(Nat→List Int→Option (List Int))):(Sl Mp):=zhg S0 zaa Fuel iv1 pv1 zcn zbQ zbR zco
def znq (P0:Int→Nat→(Nat→Bool)→(Nat→Nat)→(Nat→List Int→Option (List Int))→Bool) (zaa:(Sl Gate)) (iv1:Int) (pv1:Int) (zcn:Nat) (zbQ:(Nat→Bool)) (zbR:(Nat→Nat)) (zco:(Nat→List Int→Option (List Int))):Bool:=zhh P0 zaa Fuel iv1 pv1 zcn zbQ zbR zco
theorem zE1 (hX0:zru K zaa X0 P0 S0) (hs:znq P0 zaa iv1 pv1 zcn zbQ zbR zco=true) (hk:K (e93 (znp S0 zaa iv1 pv1 zcn zbQ zbR zco))):z93 K [1,1,1,0,1,0,0,1,0,0,1,1,0] [X0] (zDe zaa iv1 pv1 zcn zbQ zbR zco) :=
  zl (fun X=>z93 K [1,1,1,0,1,0,0,1,0,0,1,1,0,0] [X0,X]) (by kernel_rfl) fun X1 hX =>
  (show ∀ k, zvn K zaa X1 (zhh P0 zaa k) (zhg S0 zaa k) from zgM _ _ (ziU P0 zaa) (ziT S0 zaa) (zvn K zaa X1)
 (by intro _ _ _ _ _ _ hs;exact absurd hs Bool.false_ne_true)
 (by intro P1 S1 hX1 iv1 pv1 zcn zbQ zbR zco hs hk;exact hX _ (zaI (by kernel_rfl) (zaG hs fun hc hs=>And.intro hc (zc hs hk (fun hs hk=>(zaG hs fun hc hs=>And.intro hc (zE0 hX0 hX1 hs hk))) (fun hs hk=>(hX0 hs hk))))))) _ hs hk
def ziV (zaa:(Sl Gate)) (S0:Int→Nat→(Nat→Bool)→(Nat→Nat)→(Nat→List Int→Option (List Int))→(Sl Mp)) (iv0:Int) (zca:Nat) (zbZ:(Nat→Bool)) (zb0:(Nat→Nat)) (zcA:(Nat→List Int→Option (List Int))):(Sl Mp) :=
  (cond (decide (iv0 ≥ (0:Int)))
 (znp S0 zaa iv0 ((zaa.get iv0.toNat).Low) zca (zbb iv0.toNat true zbZ) (zbb iv0.toNat 0 zb0) (zbb iv0.toNat (fun _=>none) zcA))
 (⟨zca,(fun i=>(⟨zb0 i,zcA i⟩:Mp))⟩:(Sl Mp)))
def ziW (zaa:(Sl Gate)) (P0:Int→Nat→(Nat→Bool)→(Nat→Nat)→(Nat→List Int→Option (List Int))→Bool) (iv0:Int) (zca:Nat) (zbZ:(Nat→Bool)) (zb0:(Nat→Nat)) (zcA:(Nat→List Int→Option (List Int))):Bool :=
  (cond (decide (iv0 ≥ (0:Int)))
 (decide ((0≤iv0∧iv0 < (zca:Int))) &&
 (decide ((iv0.toNat < zca∧zbZ iv0.toNat=false)) &&
 (decide ((0≤iv0∧iv0 < (zaa.len:Int))) &&
 (znq P0 zaa iv0 ((zaa.get iv0.toNat).Low) zca (zbb iv0.toNat true zbZ) (zbb iv0.toNat 0 zb0) (zbb iv0.toNat (fun _=>none) zcA)))))
 true)
def zeq (zaa:(Sl Gate)):Nat→Int→Nat→(Nat→Bool)→(Nat→Nat)→(Nat→List Int→Option (List Int))→(Sl Mp):=lpO (fun _ _ _ _ _=>default) (ziV zaa)
def zfm (zaa:(Sl Gate)):Nat→Int→Nat→(Nat→Bool)→(Nat→Nat)→(Nat→List Int→Option (List Int))→Bool:=lpO (fun _ _ _ _ _=>false) (ziW zaa)
def zrC (zaa:(Sl Gate)) (iv0:Int) (zca:Nat) (zbZ:(Nat→Bool)) (zb0:(Nat→Nat)) (zcA:(Nat→List Int→Option (List Int))):(Sl Mp):=zeq zaa Fuel iv0 zca zbZ zb0 zcA
def zrD (zaa:(Sl Gate)) (iv0:Int) (zca:Nat) (zbZ:(Nat→Bool)) (zb0:(Nat→Nat)) (zcA:(Nat→List Int→Option (List Int))):Bool:=zfm zaa Fuel iv0 zca zbZ zb0 zcA
theorem zE2 (hs:zrD zaa iv0 zca zbZ zb0 zcA=true) (hk:K (e93 (zrC zaa iv0 zca zbZ zb0 zcA))):z93 K [1,1,1,0,1,0] [] (zDd zaa iv0 zca zbZ zb0 zcA) :=
  zl (fun X=>z93 K [1,1,1,0,1,0,0] [X]) (by kernel_rfl) fun X0 hX =>
  (show ∀ k, zru K zaa X0 (zfm zaa k) (zeq zaa k) from zgM _ _ (ziW zaa) (ziV zaa) (zru K zaa X0)
 (by intro _ _ _ _ _ hs;exact absurd hs Bool.false_ne_true)
 (by intro P0 S0 hX0 iv0 zca zbZ zb0 zcA hs hk;exact hX _ (zaI (by kernel_rfl) (zc hs hk (fun hs hk=>(zaG hs fun hc hs=>And.intro hc (zaG hs fun hc hs=>And.intro hc (zaG hs fun hc hs=>And.intro hc (zE1 hX0 hs hk))))) (fun hs hk=>hk))))) _ hs hk
def s93 (zaa:(Sl Gate)):(Sl Mp) :=
  (zrC zaa (w64 ((zaa.len:Int) - (2:Int))) ((w64 ((zaa.len:Int) - (1:Int))).toNat) (fun _=>false) (fun _=>0) (fun _ _=>none))
def p93 (zaa:(Sl Gate)):Bool :=
  (decide ((0≤(w64 ((zaa.len:Int) - (1:Int)))∧(w64 ((zaa.len:Int) - (1:Int)))=(w64 ((zaa.len:Int) - (1:Int)))∧(w64 ((zaa.len:Int) - (1:Int)))≤1000000)) &&
 (zrD zaa (w64 ((zaa.len:Int) - (2:Int))) ((w64 ((zaa.len:Int) - (1:Int))).toNat) (fun _=>false) (fun _=>0) (fun _ _=>none)))
end
theorem q93 (zaa:(Sl Gate)) (K:List PA→Prop) (hs:p93 zaa=true) (hk:K (e93 (s93 zaa))):vcFun Try.prog G93 zEV 93 [.one (.sl zaa.len 3 (fun i=>zac (zaa.get i)))] K :=
  zaI (by kernel_rfl) (zaG hs fun hc hs=>And.intro hc (zE2 hs hk))
def zBZ : List PA → COut
  | [.one (.sl a0_n a0_s a0_g)]=>.det (IsE zac 3 a0_s a0_g∧p93 (⟨a0_n,zah a0_g⟩:(Sl Gate))=true) [.one (.sl ((s93 (⟨a0_n,zah a0_g⟩:(Sl Gate))).len) 1 (fun i=>zbr ((s93 (⟨a0_n,zah a0_g⟩:(Sl Gate))).get i)))]
  | _=>.no
theorem zJC:zal Try.prog 93:=⟨_,rfl,rfl,by kernel_rfl⟩
theorem zOb:Ok Try.prog 93 zBZ:=zaY zMw zJC fun args K h=>by
  unfold zBZ at h
  split at h
  · rename_i a0_n a0_s a0_g
    obtain ⟨⟨⟨rfl,a0_f,rfl⟩,hs⟩,hk⟩:=h
    try rw [zaf a0_f] at hs
    try rw [zaf a0_f] at hk
    exact ⟨(fun _ _=>[]),(fun l=>Nat.beq l 15 || Nat.beq l 24),zEV,q93 (⟨a0_n,a0_f⟩:(Sl Gate)) K hs hk⟩
  · exact h.elim
def zMx (a b:Int):List Int:=(List.range (b - a+1).toNat).map fun (i:Nat)=>a+i
def zfY (zaa:Sl Gate):List (List Int):=(zMx (zaa.get 0).Low (zaa.get 0).High).flatMap fun p=>(zMx (zaa.get 1).Low (zaa.get 1).High).map fun q=>[p,q]
abbrev T55:Tabs:=(((Tabs.nil.addF 85 zvl).addF 92 zBY).addF 93 zBZ)
theorem zMy:TabsOk Try.prog T55:=(((TabsOk.nil.addF zLX).addF zOa).addF zOb)
abbrev G55:Ctrs:=csm T55 (fun _ _=>[]) (fun _=>false)
def zbc:Ann:=⟨145,[(0,⟨[0],[],[],[],[],[],[]⟩),(1,⟨[0,18],[],[],[],[],[],[]⟩),(2,⟨[2,3,4],[],[],[],[],[],[]⟩),(3,⟨[0,5],[],[],[],[],[],[]⟩),(4,⟨[0,5,6],[],[],[],[],[],[]⟩),(5,⟨[0,5,6,24],[24],[],[],[],[],[]⟩),(6,⟨[0,5,6,24,26],[24],[],[],[],[],[]⟩),(7,⟨[0,5,6,8,24],[24],[],[],[],[],[]⟩),(8,⟨[0,5,6,8,24,35],[24],[],[],[],[],[]⟩),(9,⟨[0,5,6,24],[24],[],[],[],[],[]⟩),(10,⟨[0,5,6,9],[],[],[],[],[],[]⟩),(11,⟨[0,5,6,9,10],[],[],[],[],[],[]⟩),(12,⟨[0,5,6,9,10,46],[],[],[],[],[],[]⟩),(13,⟨[0,5,6,9,10],[],[],[],[],[],[]⟩),(14,⟨[0,5,6,9,10,11],[],[],[],[],[],[]⟩),(15,⟨[0,5,6,9,10,11,58],[],[],[],[],[],[]⟩),(16,⟨[0,5,6,9,10,11],[],[],[],[],[],[]⟩),(17,⟨[0,5,6,9,10,11,69],[],[],[],[],[],[]⟩),(18,⟨[0,5,6,9],[72],[],[],[],[],[]⟩),(19,⟨[0,5,6,9,12],[72],[],[],[],[],[]⟩),(20,⟨[0,5,6,9,12,76],[72],[],[],[],[],[]⟩),(21,⟨[0,5,6,9,12],[72],[],[],[],[],[]⟩),(22,⟨[0,5,6,9,12,13,14],[72],[],[],[],[],[]⟩),(23,⟨[0,5,6,9,12,13,14,15],[72],[],[],[],[],[]⟩),(24,⟨[0,5,6,9,12,13,14,15,100],[72],[],[],[],[],[]⟩),(25,⟨[0,5,6,9,12,13,14,15],[72],[],[],[],[],[]⟩),(26,⟨[0,5,6,9,12,13,14,15,138],[72],[],[],[],[],[]⟩),(27,⟨[0,5,6,9,12],[72],[],[],[],[],[]⟩),(28,⟨[2,3,4],[72],[],[],[],[],[]⟩)],
 [(6,⟨[0,5,6,24],[24],[],[],[],[],[]⟩),(12,⟨[0,5,6,9,10],[],[],[],[],[],[]⟩),(15,⟨[0,5,6,9,10,11],[],[],[],[],[],[]⟩),(20,⟨[0,5,6,9,12],[72],[],[],[],[],[]⟩),(24,⟨[0,5,6,9,12,13,14,15],[72],[],[],[],[],[]⟩)],
 [(2,⟨[0,18],[],[],[],[],[],[]⟩),(3,⟨[0],[],[],[],[],[],[]⟩),(4,⟨[0,5],[],[],[],[],[],[]⟩),(10,⟨[0,5,6],[],[],[],[],[],[]⟩),(19,⟨[0,5,6,9],[72],[(9,72,3,fun _=>enc_3 default)],[],[],[],[]⟩),(27,⟨[0,5,6,9,12,13,14,15,138],[72],[],[],[],[],[]⟩)],
 [],[]⟩
def zJD (zaa:(Sl Gate)) (zhi:Bool):St:=⟨[(0,.one (.c (.p (.sl zaa.len 3 (fun i=>zac (zaa.get i)))))),(18,.one (.c (.p (.bool zhi))))],[],[]⟩
def znr (K:List PA→Prop) (zaa:(Sl Gate)) (zhi:Bool):Prop:=vc Try.prog G55 zbc (cdF Try.f55 [1,0,0,1]) (sqK Try.prog G55 zbc (cdF Try.f55 [1,0,1]) (zcS (zbD Try.prog Try.f55 K))) (zJD zaa zhi)
def zJE (zaa:(Sl Gate)):St:=⟨[(0,.one (.c (.p (.sl zaa.len 3 (fun i=>zac (zaa.get i))))))],[],[]⟩
def zns (K:List PA→Prop) (zaa:(Sl Gate)):Prop:=vc Try.prog G55 zbc (cdF Try.f55 [1,0,1]) (zcS (zbD Try.prog Try.f55 K)) (zJE zaa)
def zJF (zaa:(Sl Gate)) (zer:Nat) (zcp:Nat→List PV):St:=⟨[(0,.one (.c (.p (.sl zaa.len 3 (fun i=>zac (zaa.get i)))))),(5,.one (.c (.p (.sl zer 1 zcp))))],[],[]⟩
def znt (K:List PA→Prop) (zaa:(Sl Gate)) (zer:Nat) (zcp:Nat→List PV):Prop:=vc Try.prog G55 zbc (cdF Try.f55 [1,0,1,1]) (zcS (zbD Try.prog Try.f55 K)) (zJF zaa zer zcp)
def zh3 (zaa:(Sl Gate)) (zab:(Sl Mp)) (za0:(List (List Int))) (zaL:Int):St:=⟨[(0,.one (.c (.p (.sl zaa.len 3 (fun i=>zac (zaa.get i)))))),(5,.one (.c (.p (.sl zab.len 1 (fun i=>zbr (zab.get i)))))),(6,.one (.c (.p (.int .i64 zaL)))),(24,.one (.c (.ptr 24 0)))],[(24,.mit (true,2,false,[some .i64]) ((zab.get 0).n) ((zab.get 0).F) za0)],[]⟩
def zk2 (K:List PA→Prop) (zaa:(Sl Gate)) (zab:(Sl Mp)) (za0:(List (List Int))) (zaL:Int):Prop:=vc Try.prog G55 zbc (cdF Try.f55 [1,0,1,1,1,0,1,0]) (zaz 0 (sqK Try.prog G55 zbc (cdF Try.f55 [1,0,1,1,1,1]) (zcS (zbD Try.prog Try.f55 K)))) (zh3 zaa zab za0 zaL)
def zJG (zaa:(Sl Gate)) (zab:(Sl Mp)) (zd1:Int):St:=⟨[(0,.one (.c (.p (.sl zaa.len 3 (fun i=>zac (zaa.get i)))))),(5,.one (.c (.p (.sl zab.len 1 (fun i=>zbr (zab.get i)))))),(6,.one (.c (.p (.int .i64 zd1))))],[],[]⟩
def znu (K:List PA→Prop) (zaa:(Sl Gate)) (zab:(Sl Mp)) (zd1:Int):Prop:=vc Try.prog G55 zbc (cdF Try.f55 [1,0,1,1,1,1]) (zcS (zbD Try.prog Try.f55 K)) (zJG zaa zab zd1)
def zjE (zaa:(Sl Gate)) (zab:(Sl Mp)) (zaH:Int) (pv5:Int):St:=⟨[(0,.one (.c (.p (.sl zaa.len 3 (fun i=>zac (zaa.get i)))))),(5,.one (.c (.p (.sl zab.len 1 (fun i=>zbr (zab.get i)))))),(6,.one (.c (.p (.int .i64 zaH)))),(9,.one (.c (.p (.nils)))),(10,.one (.c (.p (.int .i64 pv5))))],[],[]⟩
def zk3 (K:List PA→Prop) (zaa:(Sl Gate)) (zab:(Sl Mp)) (zaH:Int) (pv5:Int):Prop:=vc Try.prog G55 zbc (cdF Try.f55 [1,0,1,1,1,1,1,1,0,1,0]) (zaz 2 (sqK Try.prog G55 zbc (cdF Try.f55 [1,0,1,1,1,1,1,1,1]) (zcS (zbD Try.prog Try.f55 K)))) (zjE zaa zab zaH pv5)
def zk4 (zaa:(Sl Gate)) (zab:(Sl Mp)) (zaV:Int) (pv6:Int) (qv6:Int):St:=⟨[(0,.one (.c (.p (.sl zaa.len 3 (fun i=>zac (zaa.get i)))))),(5,.one (.c (.p (.sl zab.len 1 (fun i=>zbr (zab.get i)))))),(6,.one (.c (.p (.int .i64 zaV)))),(9,.one (.c (.p (.nils)))),(10,.one (.c (.p (.int .i64 pv6)))),(11,.one (.c (.p (.int .i64 qv6))))],[],[]⟩
def zk5 (K:List PA→Prop) (X5:St→Prop) (zaa:(Sl Gate)) (zab:(Sl Mp)) (zaV:Int) (pv6:Int) (qv6:Int):Prop:=vc Try.prog G55 zbc (cdF Try.f55 [1,0,1,1,1,1,1,1,0,1,0,0,1,0,0,1,0]) (zaz 4 (zaz 3 (sqK Try.prog G55 zbc (cdF Try.f55 [1,0,1,1,1,1,1,1,0,1,0,0,1,1]) (zb5 Try.prog zbc 12 X5 (zaz 2 (sqK Try.prog G55 zbc (cdF Try.f55 [1,0,1,1,1,1,1,1,1]) (zcS (zbD Try.prog Try.f55 K)))))))) (zk4 zaa zab zaV pv6 qv6)
def zJH (zaa:(Sl Gate)) (zab:(Sl Mp)) (zd2:Int) (zrE:Nat) (ziX:Nat→List PV):St:=⟨[(0,.one (.c (.p (.sl zaa.len 3 (fun i=>zac (zaa.get i)))))),(5,.one (.c (.p (.sl zab.len 1 (fun i=>zbr (zab.get i)))))),(6,.one (.c (.p (.int .i64 zd2)))),(9,.one (.c (.vec 72)))],[(72,.vec 3 1 8 zrE ziX)],[]⟩
def zk6 (K:List PA→Prop) (zaa:(Sl Gate)) (zab:(Sl Mp)) (zd2:Int) (zrE:Nat) (ziX:Nat→List PV):Prop:=vc Try.prog G55 zbc (cdF Try.f55 [1,0,1,1,1,1,1,1,1]) (zcS (zbD Try.prog Try.f55 K)) (zJH zaa zab zd2 zrE ziX)
def zgV (zaa:(Sl Gate)) (zab:(Sl Mp)) (zaZ:Int) (iv8:Int) (zfZ:Nat) (zb1:Nat→List PV):St:=⟨[(0,.one (.c (.p (.sl zaa.len 3 (fun i=>zac (zaa.get i)))))),(5,.one (.c (.p (.sl zab.len 1 (fun i=>zbr (zab.get i)))))),(6,.one (.c (.p (.int .i64 zaZ)))),(9,.one (.c (.vec 72))),(12,.one (.c (.p (.int .i64 iv8))))],[(72,.vec 3 1 8 zfZ zb1)],[]⟩
def zk7 (K:List PA→Prop) (zaa:(Sl Gate)) (zab:(Sl Mp)) (zaZ:Int) (iv8:Int) (zfZ:Nat) (zb1:Nat→List PV):Prop:=vc Try.prog G55 zbc (cdF Try.f55 [1,0,1,1,1,1,1,1,1,0,1,0]) (zaz 6 (sqK Try.prog G55 zbc (cdF Try.f55 [1,0,1,1,1,1,1,1,1,1]) (zcS (zbD Try.prog Try.f55 K)))) (zgV zaa zab zaZ iv8 zfZ zb1)
def zjF (zaa:(Sl Gate)) (zab:(Sl Mp)) (zaJ:Int) (iv9:Int) (pv9:Int) (qv9:Int) (rv9:Int) (zf0:Nat) (zcb:Nat→List PV):St:=⟨[(0,.one (.c (.p (.sl zaa.len 3 (fun i=>zac (zaa.get i)))))),(5,.one (.c (.p (.sl zab.len 1 (fun i=>zbr (zab.get i)))))),(6,.one (.c (.p (.int .i64 zaJ)))),(9,.one (.c (.vec 72))),(12,.one (.c (.p (.int .i64 iv9)))),(13,.one (.c (.p (.int .i64 pv9)))),(14,.one (.c (.p (.int .i64 qv9)))),(15,.one (.c (.p (.int .i64 rv9))))],[(72,.vec 3 1 8 zf0 zcb)],[]⟩
def zk8 (K:List PA→Prop) (X8:St→Prop) (zaa:(Sl Gate)) (zab:(Sl Mp)) (zaJ:Int) (iv9:Int) (pv9:Int) (qv9:Int) (rv9:Int) (zf0:Nat) (zcb:Nat→List PV):Prop:=vc Try.prog G55 zbc (cdF Try.f55 [1,0,1,1,1,1,1,1,1,0,1,0,0,1,0,0,1,1,0]) (zaz 8 (zaz 7 (sqK Try.prog G55 zbc (cdF Try.f55 [1,0,1,1,1,1,1,1,1,0,1,0,0,1,1]) (zb5 Try.prog zbc 20 X8 (zaz 6 (sqK Try.prog G55 zbc (cdF Try.f55 [1,0,1,1,1,1,1,1,1,1]) (zcS (zbD Try.prog Try.f55 K)))))))) (zjF zaa zab zaJ iv9 pv9 qv9 rv9 zf0 zcb)
def zE3 (zaa:(Sl Gate)) (zab:(Sl Mp)) (zcq:Int) (zdQ:Int) (zqB:Int) (zqC:Int) (zlU:Int) (zdd:Bool) (znv:Nat) (zgB:Nat→List PV):St:=⟨[(0,.one (.c (.p (.sl zaa.len 3 (fun i=>zac (zaa.get i)))))),(5,.one (.c (.p (.sl zab.len 1 (fun i=>zbr (zab.get i)))))),(6,.one (.c (.p (.int .i64 zcq)))),(9,.one (.c (.vec 72))),(12,.one (.c (.p (.int .i64 zdQ)))),(13,.one (.c (.p (.int .i64 zqB)))),(14,.one (.c (.p (.int .i64 zqC)))),(15,.one (.c (.p (.int .i64 zlU)))),(138,.one (.c (.p (.bool zdd))))],[(72,.vec 3 1 8 znv zgB)],[]⟩
def zh4 (K:List PA→Prop) (X8:St→Prop) (X9:St→Prop) (zaa:(Sl Gate)) (zab:(Sl Mp)) (zcq:Int) (zdQ:Int) (zqB:Int) (zqC:Int) (zlU:Int) (zdd:Bool) (znv:Nat) (zgB:Nat→List PV):Prop:=vc Try.prog G55 zbc (cdF Try.f55 [1,0,1,1,1,1,1,1,1,0,1,0,0,1,0,0,1,1,0,0,1,0,0,1]) (zaz 9 (sqK Try.prog G55 zbc (cdF Try.f55 [1,0,1,1,1,1,1,1,1,0,1,0,0,1,0,0,1,1,0,0,1,1]) (zb5 Try.prog zbc 24 X9 (zaz 8 (zaz 7 (sqK Try.prog G55 zbc (cdF Try.f55 [1,0,1,1,1,1,1,1,1,0,1,0,0,1,1]) (zb5 Try.prog zbc 20 X8 (zaz 6 (sqK Try.prog G55 zbc (cdF Try.f55 [1,0,1,1,1,1,1,1,1,1]) (zcS (zbD Try.prog Try.f55 K))))))))))) (zE3 zaa zab zcq zdQ zqB zqC zlU zdd znv zgB)
theorem zE4 (zaa : (Sl Gate)) (K : List PA → Prop) :
  vcFun Try.prog G55 zbc 55 [.one (.sl zaa.len 3 (fun i=>zac (zaa.get i)))] K =
  ((IsE zac 3 3 (fun i=>zac (zaa.get i))∧(p92 zaa=true)) ∧
 (znr K zaa (!(s92 zaa)))):=by kernel_rfl
theorem zE5 (K : List PA → Prop) (zaa : (Sl Gate)) (zhi : Bool) :
  znr K zaa zhi =
  (zcP zhi
 (K [.one (.nils),.one (.int .i64 (0:Int)),.one (.int .i64 (2:Int))])
 (zns K zaa)):=by kernel_rfl
theorem zE6 (K : List PA → Prop) (zaa : (Sl Gate)) :
  zns K zaa =
  ((IsE zac 3 3 (fun i=>zac (zaa.get i))∧(p93 zaa=true)) ∧
 (znt K zaa ((s93 zaa).len) (fun i=>zbr ((s93 zaa).get i)))):=by kernel_rfl
theorem zE7 (K : List PA → Prop) (zaa : (Sl Gate)) (zab : (Sl Mp)) :
  znt K zaa zab.len (fun i=>zbr (zab.get i)) =
  (((0≤(0:Int)∧(0:Int) < (zab.len:Int))) ∧
 (zk2 K zaa zab ([]) (-1:Int))):=by kernel_rfl
def zpz (K:List PA→Prop) (X3:St→Prop) (zaa:(Sl Gate)) (zab:(Sl Mp)) (za0:(List (List Int))) (zaL:Int):Prop :=
  (zBf 2 ((zab.get 0).n) ((zab.get 0).F) →
 ((∀ c:List Int,c.length=2→((zab.get 0).F) c ≠ none→c∈za0) →
 (znu K zaa zab zaL))∧∀ k24_0 k24_1:Int,((zab.get 0).F) [k24_0,k24_1] ≠ none→[k24_0,k24_1] ∉ za0 →
 (zcP (decide (zaL < (0:Int)))
 (X3 (zh3 zaa zab ([k24_0,k24_1] :: za0) (zdj (((zab.get 0).F) [k24_0,k24_1]) 0)))
 (zcP (decide ((zdj (((zab.get 0).F) [k24_0, k24_1]) 0) < zaL))
 (X3 (zh3 zaa zab ([k24_0,k24_1] :: za0) (zdj (((zab.get 0).F) [k24_0,k24_1]) 0)))
 (X3 (zh3 zaa zab ([k24_0,k24_1] :: za0) zaL)))))
theorem zrF (K : List PA → Prop) (X3 : St → Prop) (zaa : (Sl Gate)) (zab : (Sl Mp)) (za0 : (List (List Int))) (zaL : Int) :
  vc Try.prog G55 zbc (cd (cdF Try.f55 [1,0,1,1,1,0,1,0]) [0]) (zb5 Try.prog zbc 6 X3 (zaz 0 (sqK Try.prog G55 zbc (cdF Try.f55 [1,0,1,1,1,1]) (zcS (zbD Try.prog Try.f55 K))))) (zh3 zaa zab za0 zaL) =
  zpz K X3 zaa zab za0 zaL:=by kernel_rfl
theorem zwZ (K : List PA → Prop) (zaa : (Sl Gate)) (zab : (Sl Mp)) (za0 : (List (List Int))) (zaL : Int)
  (h:∀ X3:St→Prop,(∀ (za0:(List (List Int))) (zaL:Int),zpz K X3 zaa zab za0 zaL→X3 (zh3 zaa zab za0 zaL))→X3 (zh3 zaa zab za0 zaL)) :
  zk2 K zaa zab za0 zaL:=by
  have e:zk2 K zaa zab za0 zaL=(∀ X:St→Prop,(∀ s,vc Try.prog G55 zbc (cd (cdF Try.f55 [1,0,1,1,1,0,1,0]) [0]) (zb5 Try.prog zbc 6 X (zaz 0 (sqK Try.prog G55 zbc (cdF Try.f55 [1,0,1,1,1,1]) (zcS (zbD Try.prog Try.f55 K))))) s→X s)→X (zh3 zaa zab za0 zaL)):=by kernel_rfl
  refine zaI e ?_
  intro X hX
  refine h X ?_
  intro za0 zaL hs
  refine hX _ ?_
  have e2:=zrF K X zaa zab za0 zaL
  rw [e2]
  exact hs
theorem zE8 (K : List PA → Prop) (zaa : (Sl Gate)) (zab : (Sl Mp)) (zd1 : Int) :
  znu K zaa zab zd1 =
  (((0≤(0:Int)∧(0:Int) < (zaa.len:Int))) ∧
 (zk3 K zaa zab zd1 ((zaa.get 0).Low))):=by kernel_rfl
def zpA (K:List PA→Prop) (X5:St→Prop) (zaa:(Sl Gate)) (zab:(Sl Mp)) (zaH:Int) (pv5:Int):Prop :=
  (((0≤(0:Int)∧(0:Int) < (zaa.len:Int))) ∧
 (zcP (decide (pv5 ≤ (zaa.get 0).High))
 (((0≤(1:Int)∧(1:Int) < (zaa.len:Int))) ∧
 (zk5 K X5 zaa zab zaH pv5 ((zaa.get 1).Low)))
 (zk6 K zaa zab zaH 0 (fun i=>enc_3 ((fun _=>default) i)))))
theorem zrG (K : List PA → Prop) (X5 : St → Prop) (zaa : (Sl Gate)) (zab : (Sl Mp)) (zaH : Int) (pv5 : Int) :
  vc Try.prog G55 zbc (cd (cdF Try.f55 [1,0,1,1,1,1,1,1,0,1,0]) [0]) (zb5 Try.prog zbc 12 X5 (zaz 2 (sqK Try.prog G55 zbc (cdF Try.f55 [1,0,1,1,1,1,1,1,1]) (zcS (zbD Try.prog Try.f55 K))))) (zjE zaa zab zaH pv5) =
  zpA K X5 zaa zab zaH pv5:=by kernel_rfl
theorem zw0 (K : List PA → Prop) (zaa : (Sl Gate)) (zab : (Sl Mp)) (zaH : Int) (pv5 : Int)
  (h:∀ X5:St→Prop,(∀ (zaH:Int) (pv5:Int),zpA K X5 zaa zab zaH pv5→X5 (zjE zaa zab zaH pv5))→X5 (zjE zaa zab zaH pv5)) :
  zk3 K zaa zab zaH pv5:=by
  have e:zk3 K zaa zab zaH pv5=(∀ X:St→Prop,(∀ s,vc Try.prog G55 zbc (cd (cdF Try.f55 [1,0,1,1,1,1,1,1,0,1,0]) [0]) (zb5 Try.prog zbc 12 X (zaz 2 (sqK Try.prog G55 zbc (cdF Try.f55 [1,0,1,1,1,1,1,1,1]) (zcS (zbD Try.prog Try.f55 K))))) s→X s)→X (zjE zaa zab zaH pv5)):=by kernel_rfl
  refine zaI e ?_
  intro X hX
  refine h X ?_
  intro zaH pv5 hs
  refine hX _ ?_
  have e2:=zrG K X zaa zab zaH pv5
  rw [e2]
  exact hs
def zpB (K:List PA→Prop) (X5:St→Prop) (X6:St→Prop) (zaa:(Sl Gate)) (zab:(Sl Mp)) (zaV:Int) (pv6:Int) (qv6:Int):Prop :=
  (((0≤(1:Int)∧(1:Int) < (zaa.len:Int))) ∧
 (zcP (decide (qv6 ≤ (zaa.get 1).High))
 (((0≤(0:Int)∧(0:Int) < (zab.len:Int))) ∧
 (zcP ((zdj (((zab.get 0).F) [pv6, qv6]) 0) == zaV)
 (zk6 K zaa zab zaV 2 (zd7 [(enc_3 pv6),(enc_3 qv6)]))
 (X6 (zk4 zaa zab zaV pv6 (w64 (qv6+(1:Int)))))))
 (X5 (zjE zaa zab zaV (w64 (pv6+(1:Int)))))))
theorem zrH (K : List PA → Prop) (X5 : St → Prop) (X6 : St → Prop) (zaa : (Sl Gate)) (zab : (Sl Mp)) (zaV : Int) (pv6 : Int) (qv6 : Int) :
  vc Try.prog G55 zbc (cd (cdF Try.f55 [1,0,1,1,1,1,1,1,0,1,0,0,1,0,0,1,0]) [0]) (zb5 Try.prog zbc 15 X6 (zaz 4 (zaz 3 (sqK Try.prog G55 zbc (cdF Try.f55 [1,0,1,1,1,1,1,1,0,1,0,0,1,1]) (zb5 Try.prog zbc 12 X5 (zaz 2 (sqK Try.prog G55 zbc (cdF Try.f55 [1,0,1,1,1,1,1,1,1]) (zcS (zbD Try.prog Try.f55 K))))))))) (zk4 zaa zab zaV pv6 qv6) =
  zpB K X5 X6 zaa zab zaV pv6 qv6:=by kernel_rfl
theorem zw1 (K : List PA → Prop) (X5 : St → Prop) (zaa : (Sl Gate)) (zab : (Sl Mp)) (zaV : Int) (pv6 : Int) (qv6 : Int)
  (h:∀ X6:St→Prop,(∀ (zaV:Int) (pv6:Int) (qv6:Int),zpB K X5 X6 zaa zab zaV pv6 qv6→X6 (zk4 zaa zab zaV pv6 qv6))→X6 (zk4 zaa zab zaV pv6 qv6)) :
  zk5 K X5 zaa zab zaV pv6 qv6:=by
  have e:zk5 K X5 zaa zab zaV pv6 qv6=(∀ X:St→Prop,(∀ s,vc Try.prog G55 zbc (cd (cdF Try.f55 [1,0,1,1,1,1,1,1,0,1,0,0,1,0,0,1,0]) [0]) (zb5 Try.prog zbc 15 X (zaz 4 (zaz 3 (sqK Try.prog G55 zbc (cdF Try.f55 [1,0,1,1,1,1,1,1,0,1,0,0,1,1]) (zb5 Try.prog zbc 12 X5 (zaz 2 (sqK Try.prog G55 zbc (cdF Try.f55 [1,0,1,1,1,1,1,1,1]) (zcS (zbD Try.prog Try.f55 K))))))))) s→X s)→X (zk4 zaa zab zaV pv6 qv6)):=by kernel_rfl
  refine zaI e ?_
  intro X hX
  refine h X ?_
  intro zaV pv6 qv6 hs
  refine hX _ ?_
  have e2:=zrH K X5 X zaa zab zaV pv6 qv6
  rw [e2]
  exact hs
theorem zE9 (K : List PA → Prop) (zaa : (Sl Gate)) (zab : (Sl Mp)) (zd2 : Int) (zgN : (Sl Int)) :
  zk6 K zaa zab zd2 zgN.len (fun i=>enc_3 (zgN.get i)) =
  (zk7 K zaa zab zd2 (2:Int) zgN.len (fun i=>enc_3 (zgN.get i))):=by kernel_rfl
def zpC (K:List PA→Prop) (X8:St→Prop) (zaa:(Sl Gate)) (zab:(Sl Mp)) (zaZ:Int) (iv8:Int) (zba:(Sl Int)):Prop :=
  (zcP (decide (iv8 < (zaa.len : Int)))
 (((0≤(w64 (iv8 - (2:Int)))∧(w64 (iv8 - (2:Int))) < (zba.len:Int))) ∧
 ((((w64 (iv8 - (2:Int))).toNat < zba.len)) ∧
 (((0≤(w64 (iv8 - (1:Int)))∧(w64 (iv8 - (1:Int))) < (zba.len:Int))) ∧
 ((((w64 (iv8 - (1:Int))).toNat < zba.len)) ∧
 (((0≤iv8∧iv8 < (zaa.len:Int))) ∧
 (zk8 K X8 zaa zab zaZ iv8 (zba.get ((w64 (iv8 - (2:Int))).toNat)) (zba.get ((w64 (iv8 - (1:Int))).toNat)) ((zaa.get iv8.toNat).Low) zba.len (fun i=>enc_3 (zba.get i))))))))
 (K [.one (.sl zba.len 1 (fun i=>enc_3 (zba.get i))),.one (.int .i64 zaZ),.one (.int .i64 (0:Int))]))
theorem zrI (K : List PA → Prop) (X8 : St → Prop) (zaa : (Sl Gate)) (zab : (Sl Mp)) (zaZ : Int) (iv8 : Int) (zba : (Sl Int)) :
  vc Try.prog G55 zbc (cd (cdF Try.f55 [1,0,1,1,1,1,1,1,1,0,1,0]) [0]) (zb5 Try.prog zbc 20 X8 (zaz 6 (sqK Try.prog G55 zbc (cdF Try.f55 [1,0,1,1,1,1,1,1,1,1]) (zcS (zbD Try.prog Try.f55 K))))) (zgV zaa zab zaZ iv8 zba.len (fun i=>enc_3 (zba.get i))) =
  zpC K X8 zaa zab zaZ iv8 zba:=by kernel_rfl
theorem zw2 (K : List PA → Prop) (zaa : (Sl Gate)) (zab : (Sl Mp)) (zaZ : Int) (iv8 : Int) (zfZ : Nat) (zb1 : Nat → List PV)
  (h:∀ X8:St→Prop,(∀ (zaZ:Int) (iv8:Int) (zba:(Sl Int)),zpC K X8 zaa zab zaZ iv8 zba→X8 (zgV zaa zab zaZ iv8 zba.len (fun i=>enc_3 (zba.get i))))→X8 (zgV zaa zab zaZ iv8 zfZ zb1)) :
  zk7 K zaa zab zaZ iv8 zfZ zb1:=by
  have e:zk7 K zaa zab zaZ iv8 zfZ zb1=(∀ X:St→Prop,(∀ s,vc Try.prog G55 zbc (cd (cdF Try.f55 [1,0,1,1,1,1,1,1,1,0,1,0]) [0]) (zb5 Try.prog zbc 20 X (zaz 6 (sqK Try.prog G55 zbc (cdF Try.f55 [1,0,1,1,1,1,1,1,1,1]) (zcS (zbD Try.prog Try.f55 K))))) s→X s)→X (zgV zaa zab zaZ iv8 zfZ zb1)):=by kernel_rfl
  refine zaI e ?_
  intro X hX
  refine h X ?_
  intro zaZ iv8 zba hs
  refine hX _ ?_
  have e2:=zrI K X zaa zab zaZ iv8 zba
  rw [e2]
  exact hs
def zpD (K:List PA→Prop) (X8:St→Prop) (X9:St→Prop) (zaa:(Sl Gate)) (zab:(Sl Mp)) (zaJ:Int) (iv9:Int) (pv9:Int) (qv9:Int) (rv9:Int) (zbB:(Sl Int)):Prop :=
  (((0≤iv9∧iv9 < (zaa.len:Int))) ∧
 (zcP (decide (rv9 ≤ (zaa.get iv9.toNat).High))
 (((0≤(w64 (iv9 - (2:Int)))∧(w64 (iv9 - (2:Int))) < (zaa.len:Int))) ∧
 (((0≤(w64 (iv9 - (1:Int)))∧(w64 (iv9 - (1:Int))) < (zaa.len:Int))) ∧
 (((0≤iv9∧iv9 < (zaa.len:Int))) ∧
 (((p85 ((zaa.get ((w64 (iv9 - (2:Int))).toNat)).Z) ((zaa.get ((w64 (iv9 - (1:Int))).toNat)).Z) ((zaa.get iv9.toNat).Z) pv9 qv9 rv9=true)) ∧
 (zcP (decide ((s85 ((zaa.get ((w64 (iv9 - (2:Int))).toNat)).Z) ((zaa.get ((w64 (iv9 - (1:Int))).toNat)).Z) ((zaa.get iv9.toNat).Z) pv9 qv9 rv9) ≤ zaJ))
 (((0≤(w64 (iv9 - (1:Int)))∧(w64 (iv9 - (1:Int))) < (zab.len:Int))) ∧
 (zh4 K X8 X9 zaa zab zaJ iv9 pv9 qv9 rv9 (decide ((zdj (((zab.get ((w64 (iv9 - (1:Int))).toNat)).F) [qv9,rv9]) 0)≤zaJ)) zbB.len (fun i=>enc_3 (zbB.get i))))
 (zh4 K X8 X9 zaa zab zaJ iv9 pv9 qv9 rv9 false zbB.len (fun i=>enc_3 (zbB.get i))))))))
 (X8 (zgV zaa zab zaJ (w64 (iv9+(1:Int))) zbB.len (fun i=>enc_3 (zbB.get i))))))
theorem zrJ (K : List PA → Prop) (X8 : St → Prop) (X9 : St → Prop) (zaa : (Sl Gate)) (zab : (Sl Mp)) (zaJ : Int) (iv9 : Int) (pv9 : Int) (qv9 : Int) (rv9 : Int) (zbB : (Sl Int)) :
  vc Try.prog G55 zbc (cd (cdF Try.f55 [1,0,1,1,1,1,1,1,1,0,1,0,0,1,0,0,1,1,0]) [0]) (zb5 Try.prog zbc 24 X9 (zaz 8 (zaz 7 (sqK Try.prog G55 zbc (cdF Try.f55 [1,0,1,1,1,1,1,1,1,0,1,0,0,1,1]) (zb5 Try.prog zbc 20 X8 (zaz 6 (sqK Try.prog G55 zbc (cdF Try.f55 [1,0,1,1,1,1,1,1,1,1]) (zcS (zbD Try.prog Try.f55 K))))))))) (zjF zaa zab zaJ iv9 pv9 qv9 rv9 zbB.len (fun i=>enc_3 (zbB.get i))) =
  zpD K X8 X9 zaa zab zaJ iv9 pv9 qv9 rv9 zbB:=by kernel_rfl
theorem zw3 (K : List PA → Prop) (X8 : St → Prop) (zaa : (Sl Gate)) (zab : (Sl Mp)) (zaJ : Int) (iv9 : Int) (pv9 : Int) (qv9 : Int) (rv9 : Int) (zf0 : Nat) (zcb : Nat → List PV)
  (h:∀ X9:St→Prop,(∀ (zaJ:Int) (iv9:Int) (pv9:Int) (qv9:Int) (rv9:Int) (zbB:(Sl Int)),zpD K X8 X9 zaa zab zaJ iv9 pv9 qv9 rv9 zbB→X9 (zjF zaa zab zaJ iv9 pv9 qv9 rv9 zbB.len (fun i=>enc_3 (zbB.get i))))→X9 (zjF zaa zab zaJ iv9 pv9 qv9 rv9 zf0 zcb)) :
  zk8 K X8 zaa zab zaJ iv9 pv9 qv9 rv9 zf0 zcb:=by
  have e:zk8 K X8 zaa zab zaJ iv9 pv9 qv9 rv9 zf0 zcb=(∀ X:St→Prop,(∀ s,vc Try.prog G55 zbc (cd (cdF Try.f55 [1,0,1,1,1,1,1,1,1,0,1,0,0,1,0,0,1,1,0]) [0]) (zb5 Try.prog zbc 24 X (zaz 8 (zaz 7 (sqK Try.prog G55 zbc (cdF Try.f55 [1,0,1,1,1,1,1,1,1,0,1,0,0,1,1]) (zb5 Try.prog zbc 20 X8 (zaz 6 (sqK Try.prog G55 zbc (cdF Try.f55 [1,0,1,1,1,1,1,1,1,1]) (zcS (zbD Try.prog Try.f55 K))))))))) s→X s)→X (zjF zaa zab zaJ iv9 pv9 qv9 rv9 zf0 zcb)):=by kernel_rfl
  refine zaI e ?_
  intro X hX
  refine h X ?_
  intro zaJ iv9 pv9 qv9 rv9 zbB hs
  refine hX _ ?_
  have e2:=zrJ K X8 X zaa zab zaJ iv9 pv9 qv9 rv9 zbB
  rw [e2]
  exact hs
theorem zB0 (K : List PA → Prop) (X8 : St → Prop) (X9 : St → Prop) (zaa : (Sl Gate)) (zab : (Sl Mp)) (zcq : Int) (zdQ : Int) (zqB : Int) (zqC : Int) (zlU : Int) (zdd : Bool) (zbM : (Sl Int)) :
  zh4 K X8 X9 zaa zab zcq zdQ zqB zqC zlU zdd zbM.len (fun i=>enc_3 (zbM.get i)) =
  (zcP zdd
 ((((zbM.len+1) * 8≤140737488355328∧zbM.len+1≤9223372036854775807)) ∧
 (X8 (zgV zaa zab zcq (w64 (zdQ+(1:Int))) (zbM.len+1) (appG zbM.len (fun i=>enc_3 (zbM.get i)) (fun _=>(enc_3 zlU))))))
 (X9 (zjF zaa zab zcq zdQ zqB zqC (w64 (zlU+(1:Int))) zbM.len (fun i=>enc_3 (zbM.get i))))):=by kernel_rfl
abbrev e55 (r:((Sl Int)×Int×Int)):List PA:=[.one (.sl r.1.len 1 (fun i=>enc_3 (r.1.get i))),.one (.int .i64 r.2.1),.one (.int .i64 r.2.2)]
attribute [irreducible] znr zns znt zk2 znu zk3 zk5 zk6 zk7 zk8 zh4
def zh5 (S8:Int→Int→(Sl Int)→((Sl Int)×Int×Int)) (S9:Int→Int→Int→Int→Int→(Sl Int)→((Sl Int)×Int×Int)) (zaa:(Sl Gate)) (zab:(Sl Mp)) (zcq:Int) (zdQ:Int) (zqB:Int) (zqC:Int) (zlU:Int) (zdd:Bool) (zbM:(Sl Int)):((Sl Int)×Int×Int) :=
  (cond zdd
 (S8 zcq (w64 (zdQ+(1:Int))) (⟨(zbM.len+1),(zeb zbM.len zbM.get (fun _=>zlU))⟩:Sl Int))
 (S9 zcq zdQ zqB zqC (w64 (zlU+(1:Int))) zbM))
def zh6 (P8:Int→Int→(Sl Int)→Bool) (P9:Int→Int→Int→Int→Int→(Sl Int)→Bool) (zaa:(Sl Gate)) (zab:(Sl Mp)) (zcq:Int) (zdQ:Int) (zqB:Int) (zqC:Int) (zlU:Int) (zdd:Bool) (zbM:(Sl Int)):Bool :=
  (cond zdd
 (decide (((zbM.len+1) * 8≤140737488355328∧zbM.len+1≤9223372036854775807)) &&
 (P8 zcq (w64 (zdQ+(1:Int))) (⟨(zbM.len+1),(zeb zbM.len zbM.get (fun _=>zlU))⟩:Sl Int)))
 (P9 zcq zdQ zqB zqC (w64 (zlU+(1:Int))) zbM))
theorem ztz (K : List PA → Prop) (zaa : (Sl Gate)) (zab : (Sl Mp))
  (X8:St→Prop) (P8:Int→Int→(Sl Int)→Bool) (S8:Int→Int→(Sl Int)→((Sl Int)×Int×Int))
  (hX8:∀ (zaZ:Int) (iv8:Int) (zba:(Sl Int)) (zb1:Nat→List PV) (zhj:zb1=fun i=>enc_3 (zba.get i)),P8 zaZ iv8 zba=true→K (e55 (S8 zaZ iv8 zba))→X8 (zgV zaa zab zaZ iv8 zba.len zb1))
  (X9:St→Prop) (P9:Int→Int→Int→Int→Int→(Sl Int)→Bool) (S9:Int→Int→Int→Int→Int→(Sl Int)→((Sl Int)×Int×Int))
  (hX9:∀ (zaJ:Int) (iv9:Int) (pv9:Int) (qv9:Int) (rv9:Int) (zbB:(Sl Int)) (zcb:Nat→List PV) (ziY:zcb=fun i=>enc_3 (zbB.get i)),P9 zaJ iv9 pv9 qv9 rv9 zbB=true→K (e55 (S9 zaJ iv9 pv9 qv9 rv9 zbB))→X9 (zjF zaa zab zaJ iv9 pv9 qv9 rv9 zbB.len zcb)) (zcq:Int) (zdQ:Int) (zqB:Int) (zqC:Int) (zlU:Int) (zdd:Bool) (zbM:(Sl Int)) (zgB:Nat→List PV) (zB1:zgB=fun i=>enc_3 (zbM.get i)) (hs:zh6 P8 P9 zaa zab zcq zdQ zqB zqC zlU zdd zbM=true) (hk:K (e55 (zh5 S8 S9 zaa zab zcq zdQ zqB zqC zlU zdd zbM))):zh4 (Wk K) X8 X9 zaa zab zcq zdQ zqB zqC zlU zdd zbM.len zgB:=by
  subst zB1
  refine zaI (zB0 (Wk K) X8 X9 zaa zab zcq zdQ zqB zqC zlU zdd zbM) ?_
  unfold zh6 at hs
  unfold zh5 at hk
  exact (zbq (K := fun r => K (e55 r))
 (fun hs hk=>(zaG hs fun hc hs=>⟨hc,(hX8 zcq (w64 (zdQ+(1:Int))) (⟨(zbM.len+1),(zeb zbM.len zbM.get (fun _=>zlU))⟩:Sl Int) (appG zbM.len (fun i=>enc_3 (zbM.get i)) (fun _=>(enc_3 zlU))) (zgU (enc:=enc_3) (f:=zbM.get) (h:=(fun _=>zlU)) rfl rfl) hs hk)⟩))
 (fun hs hk=>(hX9 zcq zdQ zqB zqC (w64 (zlU+(1:Int))) zbM (fun i=>enc_3 (zbM.get i)) rfl hs hk)) hs hk)
def zhk (S8:Int→Int→(Sl Int)→((Sl Int)×Int×Int)) (zaa:(Sl Gate)) (zab:(Sl Mp)) (S9:Int→Int→Int→Int→Int→(Sl Int)→((Sl Int)×Int×Int)) (zaJ:Int) (iv9:Int) (pv9:Int) (qv9:Int) (rv9:Int) (zbB:(Sl Int)):((Sl Int)×Int×Int) :=
  (cond (decide (rv9 ≤ (zaa.get iv9.toNat).High))
 (cond (decide ((s85 ((zaa.get ((w64 (iv9 - (2:Int))).toNat)).Z) ((zaa.get ((w64 (iv9 - (1:Int))).toNat)).Z) ((zaa.get iv9.toNat).Z) pv9 qv9 rv9) ≤ zaJ))
 (zh5 S8 S9 zaa zab zaJ iv9 pv9 qv9 rv9 (decide ((zdj (((zab.get ((w64 (iv9 - (1:Int))).toNat)).F) [qv9,rv9]) 0)≤zaJ)) zbB)
 (zh5 S8 S9 zaa zab zaJ iv9 pv9 qv9 rv9 false zbB))
 (S8 zaJ (w64 (iv9+(1:Int))) zbB))
def zhl (P8:Int→Int→(Sl Int)→Bool) (zaa:(Sl Gate)) (zab:(Sl Mp)) (P9:Int→Int→Int→Int→Int→(Sl Int)→Bool) (zaJ:Int) (iv9:Int) (pv9:Int) (qv9:Int) (rv9:Int) (zbB:(Sl Int)):Bool :=
  (decide ((0≤iv9∧iv9 < (zaa.len:Int))) &&
 (cond (decide (rv9 ≤ (zaa.get iv9.toNat).High))
 (decide ((0≤(w64 (iv9 - (2:Int)))∧(w64 (iv9 - (2:Int))) < (zaa.len:Int))) &&
 (decide ((0≤(w64 (iv9 - (1:Int)))∧(w64 (iv9 - (1:Int))) < (zaa.len:Int))) &&
 (decide ((0≤iv9∧iv9 < (zaa.len:Int))) &&
 (decide ((p85 ((zaa.get ((w64 (iv9 - (2:Int))).toNat)).Z) ((zaa.get ((w64 (iv9 - (1:Int))).toNat)).Z) ((zaa.get iv9.toNat).Z) pv9 qv9 rv9=true)) &&
 (cond (decide ((s85 ((zaa.get ((w64 (iv9 - (2:Int))).toNat)).Z) ((zaa.get ((w64 (iv9 - (1:Int))).toNat)).Z) ((zaa.get iv9.toNat).Z) pv9 qv9 rv9) ≤ zaJ))
 (decide ((0≤(w64 (iv9 - (1:Int)))∧(w64 (iv9 - (1:Int))) < (zab.len:Int))) &&
 (zh6 P8 P9 zaa zab zaJ iv9 pv9 qv9 rv9 (decide ((zdj (((zab.get ((w64 (iv9 - (1:Int))).toNat)).F) [qv9,rv9]) 0)≤zaJ)) zbB))
 (zh6 P8 P9 zaa zab zaJ iv9 pv9 qv9 rv9 false zbB))))))
 (P8 zaJ (w64 (iv9+(1:Int))) zbB)))
def zf1 (S8 : Int → Int → (Sl Int) → ((Sl Int) × Int × Int)) (zaa : (Sl Gate)) (zab : (Sl Mp)) : Nat → Int → Int → Int → Int → Int → (Sl Int) → ((Sl Int) × Int × Int)
  | 0=>fun _ _ _ _ _ _=>default
  | k+1=>zhk S8 zaa zab (zf1 S8 zaa zab k)
def zf2 (P8 : Int → Int → (Sl Int) → Bool) (zaa : (Sl Gate)) (zab : (Sl Mp)) : Nat → Int → Int → Int → Int → Int → (Sl Int) → Bool
  | 0=>fun _ _ _ _ _ _=>false
  | k+1=>zhl P8 zaa zab (zf2 P8 zaa zab k)
def zrK (S8:Int→Int→(Sl Int)→((Sl Int)×Int×Int)) (zaa:(Sl Gate)) (zab:(Sl Mp)) (zaJ:Int) (iv9:Int) (pv9:Int) (qv9:Int) (rv9:Int) (zbB:(Sl Int)):((Sl Int)×Int×Int):=zf1 S8 zaa zab Fuel zaJ iv9 pv9 qv9 rv9 zbB
def zrL (P8:Int→Int→(Sl Int)→Bool) (zaa:(Sl Gate)) (zab:(Sl Mp)) (zaJ:Int) (iv9:Int) (pv9:Int) (qv9:Int) (rv9:Int) (zbB:(Sl Int)):Bool:=zf2 P8 zaa zab Fuel zaJ iv9 pv9 qv9 rv9 zbB
theorem zFa (K : List PA → Prop) (zaa : (Sl Gate)) (zab : (Sl Mp))
  (X8:St→Prop) (P8:Int→Int→(Sl Int)→Bool) (S8:Int→Int→(Sl Int)→((Sl Int)×Int×Int))
  (hX8:∀ (zaZ:Int) (iv8:Int) (zba:(Sl Int)) (zb1:Nat→List PV) (zhj:zb1=fun i=>enc_3 (zba.get i)),P8 zaZ iv8 zba=true→K (e55 (S8 zaZ iv8 zba))→X8 (zgV zaa zab zaZ iv8 zba.len zb1)) (zaJ:Int) (iv9:Int) (pv9:Int) (qv9:Int) (rv9:Int) (zbB:(Sl Int)) (zcb:Nat→List PV) (ziY:zcb=fun i=>enc_3 (zbB.get i)) (hs:zrL P8 zaa zab zaJ iv9 pv9 qv9 rv9 zbB=true) (hk:K (e55 (zrK S8 zaa zab zaJ iv9 pv9 qv9 rv9 zbB))):zk8 (Wk K) X8 zaa zab zaJ iv9 pv9 qv9 rv9 zbB.len zcb:=by
  refine zw3 (Wk K) X8 zaa zab zaJ iv9 pv9 qv9 rv9 zbB.len zcb ?_
  intro X9 hstep
  have key:∀ (k:Nat) (zaJ:Int) (iv9:Int) (pv9:Int) (qv9:Int) (rv9:Int) (zbB:(Sl Int)) (zcb:Nat→List PV) (ziY:zcb=fun i=>enc_3 (zbB.get i)),zf2 P8 zaa zab k zaJ iv9 pv9 qv9 rv9 zbB=true→K (e55 (zf1 S8 zaa zab k zaJ iv9 pv9 qv9 rv9 zbB))→X9 (zjF zaa zab zaJ iv9 pv9 qv9 rv9 zbB.len zcb):=by
    intro k
    induction k with
    | zero=>intro zaJ iv9 pv9 qv9 rv9 zbB zcb ziY hs;exact absurd hs Bool.false_ne_true
    | succ k ih =>
      intro zaJ iv9 pv9 qv9 rv9 zbB zcb ziY hs hk
      subst ziY
      refine hstep zaJ iv9 pv9 qv9 rv9 zbB ?_
      have hs:zhl P8 zaa zab (zf2 P8 zaa zab k) zaJ iv9 pv9 qv9 rv9 zbB=true:=hs
      have hk:K (e55 (zhk S8 zaa zab (zf1 S8 zaa zab k) zaJ iv9 pv9 qv9 rv9 zbB)):=hk
      unfold zhl at hs
      unfold zhk at hk
      generalize zf1 S8 zaa zab k=S9 at hk ih
      generalize zf2 P8 zaa zab k=P9 at hs ih
      have hX9:=ih
      exact (zaG hs fun hc hs => ⟨hc, (zbq (K := fun r => K (e55 r))
 (fun hs hk => (zaG hs fun hc hs => ⟨hc, (zaG hs fun hc hs => ⟨hc, (zaG hs fun hc hs => ⟨hc, (zaG hs fun hc hs => ⟨hc, (zbq (K := fun r => K (e55 r))
 (fun hs hk=>(zaG hs fun hc hs=>⟨hc,(ztz K zaa zab X8 P8 S8 hX8 X9 P9 S9 hX9 zaJ iv9 pv9 qv9 rv9 (decide ((zdj (((zab.get ((w64 (iv9 - (1:Int))).toNat)).F) [qv9,rv9]) 0)≤zaJ)) zbB (fun i=>enc_3 (zbB.get i)) rfl hs hk)⟩))
 (fun hs hk=>(ztz K zaa zab X8 P8 S8 hX8 X9 P9 S9 hX9 zaJ iv9 pv9 qv9 rv9 false zbB (fun i=>enc_3 (zbB.get i)) rfl hs hk)) hs hk)⟩)⟩)⟩)⟩))
 (fun hs hk=>(hX8 zaJ (w64 (iv9+(1:Int))) zbB (fun i=>enc_3 (zbB.get i)) rfl hs hk)) hs hk)⟩)
  exact key _ zaJ iv9 pv9 qv9 rv9 zbB zcb ziY hs hk
def zf3 (zaa:(Sl Gate)) (zab:(Sl Mp)) (S8:Int→Int→(Sl Int)→((Sl Int)×Int×Int)) (zaZ:Int) (iv8:Int) (zba:(Sl Int)):((Sl Int)×Int×Int) :=
  (cond (decide (iv8 < (zaa.len : Int)))
 (zrK S8 zaa zab zaZ iv8 (zba.get ((w64 (iv8 - (2:Int))).toNat)) (zba.get ((w64 (iv8 - (1:Int))).toNat)) ((zaa.get iv8.toNat).Low) zba)
 (zba,zaZ,(0:Int)))
def zf4 (zaa:(Sl Gate)) (zab:(Sl Mp)) (P8:Int→Int→(Sl Int)→Bool) (zaZ:Int) (iv8:Int) (zba:(Sl Int)):Bool :=
  (cond (decide (iv8 < (zaa.len : Int)))
 (decide ((0≤(w64 (iv8 - (2:Int)))∧(w64 (iv8 - (2:Int))) < (zba.len:Int))) &&
 (decide (((w64 (iv8 - (2:Int))).toNat < zba.len)) &&
 (decide ((0≤(w64 (iv8 - (1:Int)))∧(w64 (iv8 - (1:Int))) < (zba.len:Int))) &&
 (decide (((w64 (iv8 - (1:Int))).toNat < zba.len)) &&
 (decide ((0≤iv8∧iv8 < (zaa.len:Int))) &&
 (zrL P8 zaa zab zaZ iv8 (zba.get ((w64 (iv8 - (2:Int))).toNat)) (zba.get ((w64 (iv8 - (1:Int))).toNat)) ((zaa.get iv8.toNat).Low) zba))))))
 true)
def zes (zaa : (Sl Gate)) (zab : (Sl Mp)) : Nat → Int → Int → (Sl Int) → ((Sl Int) × Int × Int)
  | 0=>fun _ _ _=>default
  | k+1=>zf3 zaa zab (zes zaa zab k)
def zet (zaa : (Sl Gate)) (zab : (Sl Mp)) : Nat → Int → Int → (Sl Int) → Bool
  | 0=>fun _ _ _=>false
  | k+1=>zf4 zaa zab (zet zaa zab k)
def zw4 (zaa:(Sl Gate)) (zab:(Sl Mp)) (zaZ:Int) (iv8:Int) (zba:(Sl Int)):((Sl Int)×Int×Int):=zes zaa zab Fuel zaZ iv8 zba
def zw5 (zaa:(Sl Gate)) (zab:(Sl Mp)) (zaZ:Int) (iv8:Int) (zba:(Sl Int)):Bool:=zet zaa zab Fuel zaZ iv8 zba
theorem zFb (K:List PA→Prop) (zaa:(Sl Gate)) (zab:(Sl Mp)) (zaZ:Int) (iv8:Int) (zba:(Sl Int)) (zb1:Nat→List PV) (zhj:zb1=fun i=>enc_3 (zba.get i)) (hs:zw5 zaa zab zaZ iv8 zba=true) (hk:K (e55 (zw4 zaa zab zaZ iv8 zba))):zk7 (Wk K) zaa zab zaZ iv8 zba.len zb1:=by
  refine zw2 (Wk K) zaa zab zaZ iv8 zba.len zb1 ?_
  intro X8 hstep
  have key:∀ (k:Nat) (zaZ:Int) (iv8:Int) (zba:(Sl Int)) (zb1:Nat→List PV) (zhj:zb1=fun i=>enc_3 (zba.get i)),zet zaa zab k zaZ iv8 zba=true→K (e55 (zes zaa zab k zaZ iv8 zba))→X8 (zgV zaa zab zaZ iv8 zba.len zb1):=by
    intro k
    induction k with
    | zero=>intro zaZ iv8 zba zb1 zhj hs;exact absurd hs Bool.false_ne_true
    | succ k ih =>
      intro zaZ iv8 zba zb1 zhj hs hk
      subst zhj
      refine hstep zaZ iv8 zba ?_
      have hs:zf4 zaa zab (zet zaa zab k) zaZ iv8 zba=true:=hs
      have hk:K (e55 (zf3 zaa zab (zes zaa zab k) zaZ iv8 zba)):=hk
      unfold zf4 at hs
      unfold zf3 at hk
      generalize zes zaa zab k=S8 at hk ih
      generalize zet zaa zab k=P8 at hs ih
      have hX8:=ih
      exact (zbq (K := fun r => K (e55 r))
 (fun hs hk=>(zaG hs fun hc hs=>⟨hc,(zaG hs fun hc hs=>⟨hc,(zaG hs fun hc hs=>⟨hc,(zaG hs fun hc hs=>⟨hc,(zaG hs fun hc hs=>⟨hc,(zFa K zaa zab X8 P8 S8 hX8 zaZ iv8 (zba.get ((w64 (iv8 - (2:Int))).toNat)) (zba.get ((w64 (iv8 - (1:Int))).toNat)) ((zaa.get iv8.toNat).Low) zba (fun i=>enc_3 (zba.get i)) rfl hs hk)⟩)⟩)⟩)⟩)⟩))
 (fun hs hk=>(zd0 hk)) hs hk)
  exact key _ zaZ iv8 zba zb1 zhj hs hk
def zfn (zaa:(Sl Gate)) (zab:(Sl Mp)) (zd2:Int) (zgN:(Sl Int)):((Sl Int)×Int×Int) :=
  (zw4 zaa zab zd2 (2:Int) zgN)
def zfo (zaa:(Sl Gate)) (zab:(Sl Mp)) (zd2:Int) (zgN:(Sl Int)):Bool :=
  (zw5 zaa zab zd2 (2:Int) zgN)
theorem zw6 (K:List PA→Prop) (zaa:(Sl Gate)) (zab:(Sl Mp)) (zd2:Int) (zgN:(Sl Int)) (ziX:Nat→List PV) (zFc:ziX=fun i=>enc_3 (zgN.get i)) (hs:zfo zaa zab zd2 zgN=true) (hk:K (e55 (zfn zaa zab zd2 zgN))):zk6 (Wk K) zaa zab zd2 zgN.len ziX:=by
  subst zFc
  refine zaI (zE9 (Wk K) zaa zab zd2 zgN) ?_
  unfold zfo at hs
  unfold zfn at hk
  exact (zFb K zaa zab zd2 (2:Int) zgN (fun i=>enc_3 (zgN.get i)) rfl hs hk)
def zhm (S5:Int→Int→((Sl Int)×Int×Int)) (zaa:(Sl Gate)) (zab:(Sl Mp)) (S6:Int→Int→Int→((Sl Int)×Int×Int)) (zaV:Int) (pv6:Int) (qv6:Int):((Sl Int)×Int×Int) :=
  (cond (decide (qv6 ≤ (zaa.get 1).High))
 (cond ((zdj (((zab.get 0).F) [pv6, qv6]) 0) == zaV)
 (zfn zaa zab zaV (⟨2,(zfQ pv6 [pv6,qv6])⟩:Sl Int))
 (S6 zaV pv6 (w64 (qv6+(1:Int)))))
 (S5 zaV (w64 (pv6+(1:Int)))))
def zhn (P5:Int→Int→Bool) (zaa:(Sl Gate)) (zab:(Sl Mp)) (P6:Int→Int→Int→Bool) (zaV:Int) (pv6:Int) (qv6:Int):Bool :=
  (decide ((0≤(1:Int)∧(1:Int) < (zaa.len:Int))) &&
 (cond (decide (qv6 ≤ (zaa.get 1).High))
 (decide ((0≤(0:Int)∧(0:Int) < (zab.len:Int))) &&
 (cond ((zdj (((zab.get 0).F) [pv6, qv6]) 0) == zaV)
 (zfo zaa zab zaV (⟨2,(zfQ pv6 [pv6,qv6])⟩:Sl Int))
 (P6 zaV pv6 (w64 (qv6+(1:Int))))))
 (P5 zaV (w64 (pv6+(1:Int))))))
def zf5 (S5 : Int → Int → ((Sl Int) × Int × Int)) (zaa : (Sl Gate)) (zab : (Sl Mp)) : Nat → Int → Int → Int → ((Sl Int) × Int × Int)
  | 0=>fun _ _ _=>default
  | k+1=>zhm S5 zaa zab (zf5 S5 zaa zab k)
def zf6 (P5 : Int → Int → Bool) (zaa : (Sl Gate)) (zab : (Sl Mp)) : Nat → Int → Int → Int → Bool
  | 0=>fun _ _ _=>false
  | k+1=>zhn P5 zaa zab (zf6 P5 zaa zab k)
def znw (S5:Int→Int→((Sl Int)×Int×Int)) (zaa:(Sl Gate)) (zab:(Sl Mp)) (zaV:Int) (pv6:Int) (qv6:Int):((Sl Int)×Int×Int):=zf5 S5 zaa zab Fuel zaV pv6 qv6
def znx (P5:Int→Int→Bool) (zaa:(Sl Gate)) (zab:(Sl Mp)) (zaV:Int) (pv6:Int) (qv6:Int):Bool:=zf6 P5 zaa zab Fuel zaV pv6 qv6
theorem zFd (K : List PA → Prop) (zaa : (Sl Gate)) (zab : (Sl Mp))
  (X5:St→Prop) (P5:Int→Int→Bool) (S5:Int→Int→((Sl Int)×Int×Int))
  (hX5:∀ (zaH:Int) (pv5:Int),P5 zaH pv5=true→K (e55 (S5 zaH pv5))→X5 (zjE zaa zab zaH pv5)) (zaV:Int) (pv6:Int) (qv6:Int) (hs:znx P5 zaa zab zaV pv6 qv6=true) (hk:K (e55 (znw S5 zaa zab zaV pv6 qv6))):zk5 (Wk K) X5 zaa zab zaV pv6 qv6:=by
  refine zw1 (Wk K) X5 zaa zab zaV pv6 qv6 ?_
  intro X6 hstep
  have key:∀ (k:Nat) (zaV:Int) (pv6:Int) (qv6:Int),zf6 P5 zaa zab k zaV pv6 qv6=true→K (e55 (zf5 S5 zaa zab k zaV pv6 qv6))→X6 (zk4 zaa zab zaV pv6 qv6):=by
    intro k
    induction k with
    | zero=>intro zaV pv6 qv6 hs;exact absurd hs Bool.false_ne_true
    | succ k ih =>
      intro zaV pv6 qv6 hs hk
      refine hstep zaV pv6 qv6 ?_
      have hs:zhn P5 zaa zab (zf6 P5 zaa zab k) zaV pv6 qv6=true:=hs
      have hk:K (e55 (zhm S5 zaa zab (zf5 S5 zaa zab k) zaV pv6 qv6)):=hk
      unfold zhn at hs
      unfold zhm at hk
      generalize zf5 S5 zaa zab k=S6 at hk ih
      generalize zf6 P5 zaa zab k=P6 at hs ih
      have hX6:=ih
      exact (zaG hs fun hc hs => ⟨hc, (zbq (K := fun r => K (e55 r))
 (fun hs hk => (zaG hs fun hc hs => ⟨hc, (zbq (K := fun r => K (e55 r))
 (fun hs hk=>(zw6 K zaa zab zaV (⟨2,(zfQ pv6 [pv6,qv6])⟩:Sl Int) (zd7 [(enc_3 pv6),(enc_3 qv6)]) (zfh (enc:=enc_3) (x:=pv6) (y:=qv6) (r:=[])) hs hk))
 (fun hs hk=>(hX6 zaV pv6 (w64 (qv6+(1:Int))) hs hk)) hs hk)⟩))
 (fun hs hk=>(hX5 zaV (w64 (pv6+(1:Int))) hs hk)) hs hk)⟩)
  exact key _ zaV pv6 qv6 hs hk
def zho (zaa:(Sl Gate)) (zab:(Sl Mp)) (S5:Int→Int→((Sl Int)×Int×Int)) (zaH:Int) (pv5:Int):((Sl Int)×Int×Int) :=
  (cond (decide (pv5 ≤ (zaa.get 0).High))
 (znw S5 zaa zab zaH pv5 ((zaa.get 1).Low))
 (zfn zaa zab zaH (⟨0,(fun _=>default)⟩:Sl Int)))
def zhp (zaa:(Sl Gate)) (zab:(Sl Mp)) (P5:Int→Int→Bool) (zaH:Int) (pv5:Int):Bool :=
  (decide ((0≤(0:Int)∧(0:Int) < (zaa.len:Int))) &&
 (cond (decide (pv5 ≤ (zaa.get 0).High))
 (decide ((0≤(1:Int)∧(1:Int) < (zaa.len:Int))) &&
 (znx P5 zaa zab zaH pv5 ((zaa.get 1).Low)))
 (zfo zaa zab zaH (⟨0,(fun _=>default)⟩:Sl Int))))
def zdT (zaa : (Sl Gate)) (zab : (Sl Mp)) : Nat → Int → Int → ((Sl Int) × Int × Int)
  | 0=>fun _ _=>default
  | k+1=>zho zaa zab (zdT zaa zab k)
def zdU (zaa : (Sl Gate)) (zab : (Sl Mp)) : Nat → Int → Int → Bool
  | 0=>fun _ _=>false
  | k+1=>zhp zaa zab (zdU zaa zab k)
def zrM (zaa:(Sl Gate)) (zab:(Sl Mp)) (zaH:Int) (pv5:Int):((Sl Int)×Int×Int):=zdT zaa zab Fuel zaH pv5
def zrN (zaa:(Sl Gate)) (zab:(Sl Mp)) (zaH:Int) (pv5:Int):Bool:=zdU zaa zab Fuel zaH pv5
theorem zFe (K:List PA→Prop) (zaa:(Sl Gate)) (zab:(Sl Mp)) (zaH:Int) (pv5:Int) (hs:zrN zaa zab zaH pv5=true) (hk:K (e55 (zrM zaa zab zaH pv5))):zk3 (Wk K) zaa zab zaH pv5:=by
  refine zw0 (Wk K) zaa zab zaH pv5 ?_
  intro X5 hstep
  have key:∀ (k:Nat) (zaH:Int) (pv5:Int),zdU zaa zab k zaH pv5=true→K (e55 (zdT zaa zab k zaH pv5))→X5 (zjE zaa zab zaH pv5):=by
    intro k
    induction k with
    | zero=>intro zaH pv5 hs;exact absurd hs Bool.false_ne_true
    | succ k ih =>
      intro zaH pv5 hs hk
      refine hstep zaH pv5 ?_
      have hs:zhp zaa zab (zdU zaa zab k) zaH pv5=true:=hs
      have hk:K (e55 (zho zaa zab (zdT zaa zab k) zaH pv5)):=hk
      unfold zhp at hs
      unfold zho at hk
      generalize zdT zaa zab k=S5 at hk ih
      generalize zdU zaa zab k=P5 at hs ih
      have hX5:=ih
      exact (zaG hs fun hc hs => ⟨hc, (zbq (K := fun r => K (e55 r))
 (fun hs hk=>(zaG hs fun hc hs=>⟨hc,(zFd K zaa zab X5 P5 S5 hX5 zaH pv5 ((zaa.get 1).Low) hs hk)⟩))
 (fun hs hk=>(zw6 K zaa zab zaH (⟨0,(fun _=>default)⟩:Sl Int) (fun i=>enc_3 ((fun _=>default) i)) rfl hs hk)) hs hk)⟩)
  exact key _ zaH pv5 hs hk
def zny (zaa:(Sl Gate)) (zab:(Sl Mp)) (zd1:Int):((Sl Int)×Int×Int) :=
  (zrM zaa zab zd1 ((zaa.get 0).Low))
def znz (zaa:(Sl Gate)) (zab:(Sl Mp)) (zd1:Int):Bool :=
  (decide ((0≤(0:Int)∧(0:Int) < (zaa.len:Int))) &&
 (zrN zaa zab zd1 ((zaa.get 0).Low)))
theorem zFf (K:List PA→Prop) (zaa:(Sl Gate)) (zab:(Sl Mp)) (zd1:Int) (hs:znz zaa zab zd1=true) (hk:K (e55 (zny zaa zab zd1))):znu (Wk K) zaa zab zd1:=by
  refine zaI (zE8 (Wk K) zaa zab zd1) ?_
  unfold znz at hs
  unfold zny at hk
  exact (zaG hs fun hc hs=>⟨hc,(zFe K zaa zab zd1 ((zaa.get 0).Low) hs hk)⟩)
def zk9 (zaa:(Sl Gate)) (zab:(Sl Mp)) (zaL:Int):((Sl Int)×Int×Int) :=
  (zny zaa zab zaL)
def zla (zaa:(Sl Gate)) (zab:(Sl Mp)) (zaL:Int):Bool :=
  (znz zaa zab zaL)
def zlb (zaa:(Sl Gate)) (zab:(Sl Mp)) (k24_0:Int) (k24_1:Int) (S3:Int→((Sl Int)×Int×Int)) (zaL:Int):((Sl Int)×Int×Int) :=
  (cond (decide (zaL < (0:Int)))
 (S3 (zdj (((zab.get 0).F) [k24_0,k24_1]) 0))
 (cond (decide ((zdj (((zab.get 0).F) [k24_0, k24_1]) 0) < zaL))
 (S3 (zdj (((zab.get 0).F) [k24_0,k24_1]) 0))
 (S3 zaL)))
def zlc (zaa:(Sl Gate)) (zab:(Sl Mp)) (k24_0:Int) (k24_1:Int) (P3:Int→Bool) (zaL:Int):Bool :=
  (cond (decide (zaL < (0:Int)))
 (P3 (zdj (((zab.get 0).F) [k24_0,k24_1]) 0))
 (cond (decide ((zdj (((zab.get 0).F) [k24_0, k24_1]) 0) < zaL))
 (P3 (zdj (((zab.get 0).F) [k24_0,k24_1]) 0))
 (P3 zaL)))
def zfp (zaa : (Sl Gate)) (zab : (Sl Mp)) : List (List Int) → Int → ((Sl Int) × Int × Int)
  | []=>zk9 zaa zab
  | y :: r=>zlb zaa zab (y.getD 0 0) (y.getD 1 0) (zfp zaa zab r)
def zfq (zaa : (Sl Gate)) (zab : (Sl Mp)) : List (List Int) → Int → Bool
  | []=>zla zaa zab
  | y :: r=>zlc zaa zab (y.getD 0 0) (y.getD 1 0) (zfq zaa zab r)
def zeK (_gates:Sl Gate) (t:Sl Mp) (ys:List (List Int)):Bool:=ys.all fun y=>decide (0≤zdj ((t.get 0).F y) 0)
theorem zFg (zaa:Sl Gate) (t:Sl Mp):∀ (y:List Int) (r:List (List Int)),zeK zaa t (y :: r)=true→zeK zaa t r=true:=fun y r h=>by
  simp only [zeK,List.all_cons,Bool.and_eq_true] at h ⊢;exact h.2
def kst (F:List Int→Option (List Int)) (k:Int) (y:List Int):Int:=if k < 0 then zdj (F y) 0 else if zdj (F y) 0 < k then zdj (F y) 0 else k
theorem ztA (F:List Int→Option (List Int)) {ys zs:List (List Int)} (h:∀ y∈ys,0≤zdj (F y) 0) (hp:ys.Perm zs) (k:Int):ys.foldl (kst F) k=zs.foldl (kst F) k:=by
  refine hp.foldl_eq' (fun x hx y hy z=>?_) k
  have h1:=h x hx
  have h2:=h y hy
  unfold kst
  repeat' split
  all_goals omega
theorem znA (zaa : Sl Gate) (t : Sl Mp) : ∀ (ys : List (List Int)) (k : Int), (∀ y ∈ ys, y.length = 2) → zfp zaa t ys k = zk9 zaa t (ys.foldl (kst (t.get 0).F) k)
  | [],k,_=>rfl
  | y :: r,k,h=>by
    have hy:=h y List.mem_cons_self
    match y,hy with
    | [a,b],_ =>
    have ih:=fun k=>znA zaa t r k (fun z hz=>h z (List.mem_cons_of_mem _ hz))
    show zlb zaa t a b (zfp zaa t r) k=_
    rw [List.foldl_cons]
    unfold zlb
    by_cases h1:k < 0
    · rw [decide_eq_true h1,cond_true,ih,show kst (t.get 0).F k [a,b]=zdj ((t.get 0).F [a,b]) 0 from if_pos h1]
    · rw [decide_eq_false h1, cond_false]
      by_cases h2:zdj ((t.get 0).F [a,b]) 0 < k
      · rw [decide_eq_true h2,cond_true,ih,show kst (t.get 0).F k [a,b]=zdj ((t.get 0).F [a,b]) 0 from (if_neg h1).trans (if_pos h2)]
      · rw [decide_eq_false h2,cond_false,ih,show kst (t.get 0).F k [a,b]=k from (if_neg h1).trans (if_neg h2)]
theorem znB (zaa : Sl Gate) (t : Sl Mp) : ∀ (ys : List (List Int)) (k : Int), (∀ y ∈ ys, y.length = 2) → zfq zaa t ys k = zla zaa t (ys.foldl (kst (t.get 0).F) k)
  | [],k,_=>rfl
  | y :: r,k,h=>by
    have hy:=h y List.mem_cons_self
    match y,hy with
    | [a,b],_ =>
    have ih:=fun k=>znB zaa t r k (fun z hz=>h z (List.mem_cons_of_mem _ hz))
    show zlc zaa t a b (zfq zaa t r) k=_
    rw [List.foldl_cons]
    unfold zlc
    by_cases h1:k < 0
    · rw [decide_eq_true h1,cond_true,ih,show kst (t.get 0).F k [a,b]=zdj ((t.get 0).F [a,b]) 0 from if_pos h1]
    · rw [decide_eq_false h1, cond_false]
      by_cases h2:zdj ((t.get 0).F [a,b]) 0 < k
      · rw [decide_eq_true h2,cond_true,ih,show kst (t.get 0).F k [a,b]=zdj ((t.get 0).F [a,b]) 0 from (if_neg h1).trans (if_pos h2)]
      · rw [decide_eq_false h2,cond_false,ih,show kst (t.get 0).F k [a,b]=k from (if_neg h1).trans (if_neg h2)]
theorem zFh (zaa : Sl Gate) (t : Sl Mp) (ys zs : List (List Int)) (hl : ∀ y ∈ ys, y.length = 2) (h : zeK zaa t ys = true) (hp : ys.Perm zs) :
    zeK zaa t zs=true∧zfp zaa t ys=zfp zaa t zs∧zfq zaa t ys=zfq zaa t zs:=by
  simp only [zeK,List.all_eq_true,decide_eq_true_eq] at h ⊢
  have hl2:∀ y∈zs,y.length=2:=fun y hy=>hl y (hp.mem_iff.2 hy)
  refine ⟨fun y hy=>h y (hp.mem_iff.2 hy),funext fun k=>?_,funext fun k=>?_⟩
  · rw [znA zaa t ys k hl,znA zaa t zs k hl2,ztA _ h hp]
  · rw [znB zaa t ys k hl,znB zaa t zs k hl2,ztA _ h hp]
def znC (zaa:(Sl Gate)) (zab:(Sl Mp)) (zaL:Int):((Sl Int)×Int×Int):=zfp zaa zab (zfY zaa) zaL
def znD (zaa:(Sl Gate)) (zab:(Sl Mp)) (zaL:Int):Bool:=keysB 2 ((zab.get 0).n) ((zab.get 0).F) (zfY zaa) && zeK zaa zab (zfY zaa) && zfq zaa zab (zfY zaa) zaL
theorem zFi (K:List PA→Prop) (zaa:(Sl Gate)) (zab:(Sl Mp)) (zaL:Int) (hs:znD zaa zab zaL=true) (hk:K (e55 (znC zaa zab zaL))):zk2 (Wk K) zaa zab [] zaL:=by
  unfold znD at hs
  rw [Bool.and_eq_true,Bool.and_eq_true] at hs
  obtain ⟨⟨hkeys,hI⟩,hs⟩:=hs
  unfold znC at hk
  generalize hys:zfY zaa=ys0 at hkeys hI hs hk
  refine zwZ (Wk K) zaa zab [] zaL ?_
  intro X3 hstep
  have key:∀ (N:Nat) (ys:List (List Int)) (za0:List (List Int)) (zaL:Int),ys.length=N→(zBf 2 ((zab.get 0).n) ((zab.get 0).F)→zEL 2 ((zab.get 0).F) za0 ys)→zeK zaa zab ys=true→zfq zaa zab ys zaL=true→K (e55 (zfp zaa zab ys zaL))→X3 (zh3 zaa zab za0 zaL):=by
    intro N
    induction N with
    | zero =>
      intro ys za0 zaL hN hrem hI hs hk
      obtain rfl:=List.eq_nil_of_length_eq_zero hN
      refine hstep za0 zaL ?_
      intro hfin
      have hrem:=hrem hfin
      refine ⟨fun _=>?_,fun k24_0 k24_1 hF hns=>absurd (hrem.2.2 [k24_0,k24_1] rfl hF hns) (by simp)⟩
      have hs:zla zaa zab zaL=true:=hs
      have hk:K (e55 (zk9 zaa zab zaL)):=hk
      unfold zla at hs
      unfold zk9 at hk
      exact (zFf K zaa zab zaL hs hk)
    | succ N ih =>
      intro ys za0 zaL hN hrem hI hs hk
      refine hstep za0 zaL ?_
      intro hfin
      have hrem:=hrem hfin
      refine ⟨fun hend=>?_,fun k24_0 k24_1 hF hns=>?_⟩
      · exact absurd (zrp hrem hend) (fun e=>by rw [e] at hN;simp at hN)
      · obtain ⟨hperm, hrem2, hlen⟩ := znl hrem (c := [k24_0, k24_1]) rfl hF hns
        obtain ⟨hI2,e1,e2⟩:=zFh zaa zab ys _ (fun y hy=>(hrem.2.1 y hy).1) hI hperm
        have hI3:=zFg zaa zab _ _ hI2
        rw [e2] at hs
        rw [e1] at hk
        have hs:zlc zaa zab k24_0 k24_1 (zfq zaa zab (ys.erase [k24_0,k24_1])) zaL=true:=hs
        have hk:K (e55 (zlb zaa zab k24_0 k24_1 (zfp zaa zab (ys.erase [k24_0,k24_1])) zaL)):=hk
        have ih:=fun (zaL:Int)=>ih (ys.erase [k24_0,k24_1]) ([k24_0,k24_1] :: za0) zaL (by omega) (fun _=>hrem2) hI3
        unfold zlc at hs
        unfold zlb at hk
        generalize zfp zaa zab (ys.erase [k24_0,k24_1])=S3 at hk ih
        generalize zfq zaa zab (ys.erase [k24_0,k24_1])=P3 at hs ih
        have hX3:=ih
        exact (zbq (K := fun r => K (e55 r))
 (fun hs hk=>(hX3 (zdj (((zab.get 0).F) [k24_0,k24_1]) 0) hs hk))
 (fun hs hk => (zbq (K := fun r => K (e55 r))
 (fun hs hk=>(hX3 (zdj (((zab.get 0).F) [k24_0,k24_1]) 0) hs hk))
 (fun hs hk=>(hX3 zaL hs hk)) hs hk)) hs hk)
  exact key _ ys0 [] zaL rfl (fun hf=>zkZ hkeys hf) hI hs hk
def znE (zaa:(Sl Gate)) (zab:(Sl Mp)):((Sl Int)×Int×Int) :=
  (znC zaa zab (-1:Int))
def znF (zaa:(Sl Gate)) (zab:(Sl Mp)):Bool :=
  (decide ((0≤(0:Int)∧(0:Int) < (zab.len:Int))) &&
 (znD zaa zab (-1:Int)))
theorem zFj (K:List PA→Prop) (zaa:(Sl Gate)) (zab:(Sl Mp)) (zcp:Nat→List PV) (zld:zcp=fun i=>zbr (zab.get i)) (hs:znF zaa zab=true) (hk:K (e55 (znE zaa zab))):znt (Wk K) zaa zab.len zcp:=by
  subst zld
  refine zaI (zE7 (Wk K) zaa zab) ?_
  unfold znF at hs
  unfold znE at hk
  exact (zaG hs fun hc hs=>⟨hc,(zFi K zaa zab (-1:Int) hs hk)⟩)
def znG (zaa:(Sl Gate)):((Sl Int)×Int×Int) :=
  (znE zaa (s93 zaa))
def znH (zaa:(Sl Gate)):Bool :=
  (decide ((p93 zaa=true)) &&
 (znF zaa (s93 zaa)))
theorem zFk (K:List PA→Prop) (zaa:(Sl Gate)) (hs:znH zaa=true) (hk:K (e55 (znG zaa))):zns (Wk K) zaa:=by
  refine zaI (zE6 (Wk K) zaa) ?_
  unfold znH at hs
  unfold znG at hk
  exact (zaG hs fun hc hs=>⟨⟨isE,hc⟩,(zFj K zaa (s93 zaa) (fun i=>zbr ((s93 zaa).get i)) rfl hs hk)⟩)
def znI (zaa:(Sl Gate)) (zhi:Bool):((Sl Int)×Int×Int) :=
  (cond zhi
 ((⟨0,fun _=>default⟩:(Sl Int)),(0:Int),(2:Int))
 (znG zaa))
def znJ (zaa:(Sl Gate)) (zhi:Bool):Bool :=
  (cond zhi
 true
 (znH zaa))
theorem zFl (K:List PA→Prop) (zaa:(Sl Gate)) (zhi:Bool) (hs:znJ zaa zhi=true) (hk:K (e55 (znI zaa zhi))):znr (Wk K) zaa zhi:=by
  refine zaI (zE5 (Wk K) zaa zhi) ?_
  unfold znJ at hs
  unfold znI at hk
  exact (zbq (K := fun r => K (e55 r))
 (fun hs hk=>(wk hk (zdy (.one (.nil _ _)) (zdy (.one (.rfl _)) (zdy (.one (.rfl _)) zh1)))))
 (fun hs hk=>(zFk K zaa hs hk)) hs hk)
def s55 (zaa:(Sl Gate)):((Sl Int)×Int×Int) :=
  (znI zaa (!(s92 zaa)))
def p55 (zaa:(Sl Gate)):Bool :=
  (decide ((p92 zaa=true)) &&
 (znJ zaa (!(s92 zaa))))
theorem q55 (zaa:(Sl Gate)) (K:List PA→Prop) (hs:p55 zaa=true) (hk:K (e55 (s55 zaa))):vcFun Try.prog G55 zbc 55 [.one (.sl zaa.len 3 (fun i=>zac (zaa.get i)))] (Wk K):=by
  refine zaI (zE4 zaa (Wk K)) ?_
  unfold p55 at hs
  unfold s55 at hk
  exact (zaG hs fun hc hs=>⟨⟨isE,hc⟩,(zFl K zaa (!(s92 zaa)) hs hk)⟩)
def zB2 : List PA → COut
  | [.one (.sl a0_n a0_s a0_g)]=>.det (IsE zac 3 a0_s a0_g∧p55 (⟨a0_n,zah a0_g⟩:(Sl Gate))=true) [.one (.sl (((s55 (⟨a0_n,zah a0_g⟩:(Sl Gate))).1).len) 1 (fun i=>enc_3 (((s55 (⟨a0_n,zah a0_g⟩:(Sl Gate))).1).get i))),.one (.int .i64 ((s55 (⟨a0_n,zah a0_g⟩:(Sl Gate))).2.1)),.one (.int .i64 ((s55 (⟨a0_n,zah a0_g⟩:(Sl Gate))).2.2))]
  | _=>.no
theorem zJI:zal Try.prog 55:=⟨_,rfl,rfl,by kernel_rfl⟩
theorem zOc:Ok Try.prog 55 zB2:=zfW zMy zJI fun args K h=>by
  unfold zB2 at h
  split at h
  · rename_i a0_n a0_s a0_g
    obtain ⟨⟨⟨rfl,a0_f,rfl⟩,hs⟩,hk⟩:=h
    try rw [zaf a0_f] at hs
    try rw [zaf a0_f] at hk
    exact ⟨_,zeY zfF _,(fun _ _=>[]),(fun _=>false),zbc,q55 (⟨a0_n,a0_f⟩:(Sl Gate)) K hs hk⟩
  · exact h.elim
abbrev zOd:Tabs:=Tabs.nil
theorem zJJ:TabsOk Try.prog zOd:=TabsOk.nil
abbrev zOQ:Ctrs:=csm zOd (fun _ _=>[]) (fun _=>false)
def zDh:Ann:=⟨12,[(0,zK [1,2] [2]),(1,zK [3] [])],
 [],
 [],
 [],[]⟩
abbrev zOR:=Bool
abbrev zOS (r:zOR):List PA:=[.one (.bool r)]
section
variable {K:List PA→Prop} {c0:list} {g:Gate}
def zLZ (c0:list) (g:Gate):Bool :=
  (g.Z != (c0.Gates.get 0).Z)
def zMz (c0:list) (g:Gate):Bool :=
  (decide ((0≤(0:Int)∧(0:Int) < (c0.Gates.len:Int))) &&
 true)
end
theorem zOT (c0:list) (g:Gate) (K:List PA→Prop) (hs:zMz c0 g=true) (hk:K (zOS (zLZ c0 g))):vcFun Try.prog zOQ zDh 100 [.agg (zac g),.one (.fp (zcL c0) 0)] K :=
  zaI (by kernel_rfl) (zaG hs fun hc hs=>And.intro hc hk)
def zw7 : List PA → COut
  | [.agg [.int .i64 a0_Z,.int .i64 a0_Low,.int .i64 a0_High],.one (.fp [.sl c0_Gates_n c0_Gates_s c0_Gates_g] 0)]=>.det (IsE zac 3 c0_Gates_s c0_Gates_g∧zMz (⟨(⟨c0_Gates_n,zah c0_Gates_g⟩:(Sl Gate))⟩:list) (⟨a0_Z,a0_Low,a0_High⟩:Gate)=true) [.one (.bool (zLZ (⟨(⟨c0_Gates_n,zah c0_Gates_g⟩:(Sl Gate))⟩:list) (⟨a0_Z,a0_Low,a0_High⟩:Gate)))]
  | _=>.no
theorem zFm:zal Try.prog 100:=⟨_,rfl,rfl,by kernel_rfl⟩
theorem zMA:Ok Try.prog 100 zw7:=zaY zJJ zFm fun args K h=>by
  unfold zw7 at h
  split at h
  · rename_i a0_Z a0_Low a0_High c0_Gates_n c0_Gates_s c0_Gates_g
    obtain ⟨⟨⟨rfl,c0_Gates_f,rfl⟩,hs⟩,hk⟩:=h
    try rw [zaf c0_Gates_f] at hs
    try rw [zaf c0_Gates_f] at hk
    exact ⟨(fun _ _=>[]),(fun _=>false),zDh,zOT (⟨(⟨c0_Gates_n,c0_Gates_f⟩:(Sl Gate))⟩:list) (⟨a0_Z,a0_Low,a0_High⟩:Gate) K hs hk⟩
  · exact h.elim
abbrev zOe:Tabs:=(Tabs.nil.addF 74 znm)
theorem zJK:TabsOk Try.prog zOe:=(TabsOk.nil.addF zEN)
abbrev zOU:Ctrs:=csm zOe (fun _ _=>[]) (fun _=>false)
def zDi:Ann:=⟨24,[(0,zK [2,3] [2,3]),(1,zK [4] [])],
 [],
 [],
 [],[]⟩
abbrev zOV:=Bool
abbrev e118 (r:zOV):List PA:=[.one (.bool r)]
section
variable {K:List PA→Prop} {s:straight} {g:Gate}
def zMB (s:straight) (g:Gate):Bool :=
  (s74 (w64 (s.start+(w64 (s.slope * g.Z)))) (w64 (g.Low * s.den)) (w64 (g.High * s.den)))
end
theorem zOW (s:straight) (g:Gate) (K:List PA→Prop) (hk:K (e118 (zMB s g))):vcFun Try.prog zOU zDi 118 [.agg (zak s),.agg (zac g)] K :=
  zaI (by kernel_rfl) hk
def zw8 : List PA → COut
  | [.agg [.int .i64 a0_slope,.int .i64 a0_start,.int .i64 a0_den],.agg [.int .i64 a1_Z,.int .i64 a1_Low,.int .i64 a1_High]]=>.tot [.one (.bool (zMB (⟨a0_slope,a0_start,a0_den⟩:straight) (⟨a1_Z,a1_Low,a1_High⟩:Gate)))]
  | _=>.no
theorem zFn:zal Try.prog 118:=⟨_,rfl,rfl,by kernel_rfl⟩
theorem zMC:Ok Try.prog 118 zw8:=zaY zJK zFn fun args K h=>by
  unfold zw8 at h
  split at h
  · rename_i a0_slope a0_start a0_den a1_Z a1_Low a1_High
    have hk:=h
    exact ⟨(fun _ _=>[]),(fun _=>false),zDi,zOW (⟨a0_slope,a0_start,a0_den⟩:straight) (⟨a1_Z,a1_Low,a1_High⟩:Gate) K hk⟩
  · exact h.elim
abbrev zOf:Tabs:=(Tabs.nil.addF 118 zw8)
theorem zJL:TabsOk Try.prog zOf:=(TabsOk.nil.addF zMC)
abbrev zOX:Ctrs:=csm zOf (fun _ _=>[]) (fun _=>false)
def zDj:Ann:=⟨8,[(0,zK [1,2] [2]),(1,zK [3] [])],
 [],
 [],
 [],[]⟩
abbrev zOY:=Bool
abbrev e117 (r:zOY):List PA:=[.one (.bool r)]
section
variable {K:List PA→Prop} {c0:straight} {g:Gate}
def zL0 (c0:straight) (g:Gate):Bool :=
  (!(zMB c0 g))
end
theorem zOZ (c0:straight) (g:Gate) (K:List PA→Prop) (hk:K (e117 (zL0 c0 g))):vcFun Try.prog zOX zDj 117 [.agg (zac g),.one (.fp (zak c0) 0)] K :=
  zaI (by kernel_rfl) hk
def zw9 : List PA → COut
  | [.agg [.int .i64 a0_Z,.int .i64 a0_Low,.int .i64 a0_High],.one (.fp [.int .i64 c0_slope,.int .i64 c0_start,.int .i64 c0_den] 0)]=>.tot [.one (.bool (zL0 (⟨c0_slope,c0_start,c0_den⟩:straight) (⟨a0_Z,a0_Low,a0_High⟩:Gate)))]
  | _=>.no
theorem zFo:zal Try.prog 117:=⟨_,rfl,rfl,by kernel_rfl⟩
theorem zMD:Ok Try.prog 117 zw9:=zaY zJL zFo fun args K h=>by
  unfold zw9 at h
  split at h
  · rename_i a0_Z a0_Low a0_High c0_slope c0_start c0_den
    have hk:=h
    exact ⟨(fun _ _=>[]),(fun _=>false),zDj,zOZ (⟨c0_slope,c0_start,c0_den⟩:straight) (⟨a0_Z,a0_Low,a0_High⟩:Gate) K hk⟩
  · exact h.elim
abbrev zOg:Tabs:=Tabs.nil
theorem zJM:TabsOk Try.prog zOg:=TabsOk.nil
abbrev zO0:Ctrs:=csm zOg (fun _ _=>[]) (fun _=>false)
def zDk:Ann:=⟨18,[(0,zK [1,2] [2]),(1,zK [3] [])],
 [],
 [],
 [],[]⟩
abbrev zO1:=Bool
abbrev zO2 (r:zO1):List PA:=[.one (.bool r)]
section
variable {K:List PA→Prop} {c0:straight} {g:Gate}
def zL1 (c0:straight) (g:Gate):Bool :=
  ((w64 (c0.start+(w64 (c0.slope * g.Z)))) == (w64 (g.Low * c0.den)))
end
theorem zO3 (c0:straight) (g:Gate) (K:List PA→Prop) (hk:K (zO2 (zL1 c0 g))):vcFun Try.prog zO0 zDk 123 [.agg (zac g),.one (.fp (zak c0) 0)] K :=
  zaI (by kernel_rfl) hk
def zxa : List PA → COut
  | [.agg [.int .i64 a0_Z,.int .i64 a0_Low,.int .i64 a0_High],.one (.fp [.int .i64 c0_slope,.int .i64 c0_start,.int .i64 c0_den] 0)]=>.tot [.one (.bool (zL1 (⟨c0_slope,c0_start,c0_den⟩:straight) (⟨a0_Z,a0_Low,a0_High⟩:Gate)))]
  | _=>.no
theorem zFp:zal Try.prog 123:=⟨_,rfl,rfl,by kernel_rfl⟩
theorem zME:Ok Try.prog 123 zxa:=zaY zJM zFp fun args K h=>by
  unfold zxa at h
  split at h
  · rename_i a0_Z a0_Low a0_High c0_slope c0_start c0_den
    have hk:=h
    exact ⟨(fun _ _=>[]),(fun _=>false),zDk,zO3 (⟨c0_slope,c0_start,c0_den⟩:straight) (⟨a0_Z,a0_Low,a0_High⟩:Gate) K hk⟩
  · exact h.elim
abbrev zL2:Tabs:=(((Tabs.nil.addF 100 zw7).addF 117 zw9).addF 123 zxa)
theorem zJN:TabsOk Try.prog zL2:=(((TabsOk.nil.addF zMA).addF zMD).addF zME)
abbrev zOh:Ctrs:=csm zL2 (fun _ _=>[]) (fun _=>false)
def zxb:Ann:=⟨19,[(0,zK [0,1] []),(1,zK [0,1,7,8] []),(2,zK [0,1,7,8,9] []),(3,zK [0,1,5,7,8] []),(4,zK [0,1,5,7,8,16] []),(5,zK [4] []),(6,zK [0,1,7,8] []),(7,zK [4] [])],
 [(2,zK [0,1,7,8] [])],
 [(5,zK [0,1,5,7,8,16] [])],
 [],[]⟩
abbrev zO4:=Int
abbrev e119 (r:zO4):List PA:=[.one (.int .i64 r)]
@[irreducible] def z119:=ptF Try.prog zOh zxb Try.f119
def zxc (c0:list) (sv0:(Sl Gate)) (zbl:Int) (zcs:Int) (zdO:Nat→List PV):St:=⟨[(0,zP (.sl sv0.len 3 zdO)),(1,zP (.fn 100 [] [.fp (zcL c0) 0])),(7,zI zbl),(8,zI zcs)],[],[]⟩
abbrev zxd (K:List PA→Prop) (c0:list) (X:St→Prop) (P:(Sl Gate)→Int→Int→Bool) (S:(Sl Gate)→Int→Int→Int):Prop:=∀ ⦃sv0:(Sl Gate)⦄ ⦃zbl:Int⦄ ⦃zcs:Int⦄ ⦃zdO:Nat→List PV⦄,P sv0 zbl zcs=true→K (e119 (S sv0 zbl zcs))→zdO=zg zac sv0→X (zxc c0 sv0 zbl zcs zdO)
section
variable {K:List PA→Prop} {c0:list} {s:(Sl Gate)} {sv0:(Sl Gate)} {zbl:Int} {zcs:Int} {zdO:Nat→List PV} {X0:St→Prop} {P0:(Sl Gate)→Int→Int→Bool} {S0:(Sl Gate)→Int→Int→Int} {sv1:(Sl Gate)} {iv1:Int} {zg9:Int} {zle:Int} {zeu:Bool} {zpE:Nat→List PV}
def ztB (S0:(Sl Gate)→Int→Int→Int) (c0:list) (sv1:(Sl Gate)) (iv1:Int) (zg9:Int) (zle:Int) (zeu:Bool):Int :=
  (cond zeu
 iv1
 (S0 sv1 zg9 (w64 (zle+(1:Int)))))
def ztC (P0:(Sl Gate)→Int→Int→Bool) (c0:list) (sv1:(Sl Gate)) (iv1:Int) (zg9:Int) (zle:Int) (zeu:Bool):Bool :=
  (cond zeu
 true
 (P0 sv1 zg9 (w64 (zle+(1:Int)))))
theorem zB3 (hX0:zxd K c0 X0 P0 S0) (hs:ztC P0 c0 sv1 iv1 zg9 zle zeu=true) (hk:K (e119 (ztB S0 c0 sv1 iv1 zg9 zle zeu))) (zxe:zpE=zg zac sv1):z119 K [1,0,1,0,0,1,1,0,0,1,1] [X0] ⟨[(0,zP (.sl sv1.len 3 zpE)),(1,zP (.fn 100 [] [.fp (zcL c0) 0])),(5,zI iv1),(7,zI zg9),(8,zI zle),(16,zB zeu)],[],[]⟩:=by subst zxe;exact zaI (by kernel_rfl) (zc hs hk (fun hs hk=>hk) (fun hs hk=>(hX0 hs hk rfl)))
def ztD (c0:list) (S0:(Sl Gate)→Int→Int→Int) (sv0:(Sl Gate)) (zbl:Int) (zcs:Int):Int :=
  (cond (decide (zcs < zbl))
 (ztB S0 c0 sv0 zcs zbl zcs (zLZ c0 (sv0.get zcs.toNat)))
 (-1:Int))
def ztE (c0:list) (P0:(Sl Gate)→Int→Int→Bool) (sv0:(Sl Gate)) (zbl:Int) (zcs:Int):Bool :=
  (cond (decide (zcs < zbl))
 (decide ((0≤zcs∧zcs < (sv0.len:Int))) &&
 (decide ((zMz c0 (sv0.get zcs.toNat)=true)) &&
 (ztC P0 c0 sv0 zcs zbl zcs (zLZ c0 (sv0.get zcs.toNat)))))
 true)
def ztF (c0:list):Nat→(Sl Gate)→Int→Int→Int:=lpO (fun _ _ _=>default) (ztD c0)
def ztG (c0:list):Nat→(Sl Gate)→Int→Int→Bool:=lpO (fun _ _ _=>false) (ztE c0)
def ztH (c0:list) (sv0:(Sl Gate)) (zbl:Int) (zcs:Int):Int:=ztF c0 Fuel sv0 zbl zcs
def ztI (c0:list) (sv0:(Sl Gate)) (zbl:Int) (zcs:Int):Bool:=ztG c0 Fuel sv0 zbl zcs
theorem zB4 (hs:ztI c0 sv0 zbl zcs=true) (hk:K (e119 (ztH c0 sv0 zbl zcs))) (zlf:zdO=zg zac sv0):z119 K [1,0,1,0] [] (zxc c0 sv0 zbl zcs zdO) :=
  zl (fun X=>z119 K [1,0,1,0,0] [X]) (by kernel_rfl) fun X0 hX =>
  (show ∀ k, zxd K c0 X0 (ztG c0 k) (ztF c0 k) from zgM _ _ (ztE c0) (ztD c0) (zxd K c0 X0)
 (by intro _ _ _ _ hs;exact absurd hs Bool.false_ne_true)
 (by intro P0 S0 hX0 sv0 zbl zcs zdO hs hk zlf;subst zlf;exact hX _ (zaI (by kernel_rfl) (zc hs hk (fun hs hk=>(zaG hs fun hc hs=>And.intro hc (zaG hs fun hc hs=>And.intro (And.intro (zE zac 3 c0.Gates.get) hc) (zB3 hX0 hs hk rfl)))) (fun hs hk=>hk))))) _ hs hk zlf
def zMF (c0:list) (s:(Sl Gate)):Int :=
  (ztH c0 s (s.len:Int) (0:Int))
def zMG (c0:list) (s:(Sl Gate)):Bool :=
  (ztI c0 s (s.len:Int) (0:Int))
end
theorem zO5 (c0:list) (s:(Sl Gate)) (K:List PA→Prop) (hs:zMG c0 s=true) (hk:K (e119 (zMF c0 s))):vcFun Try.prog zOh zxb 119 [.one (.sl s.len 3 (fun i=>zac (s.get i))),.one (.fn 100 [] [.fp (zcL c0) 0])] K :=
  zaI (by kernel_rfl) (zB4 hs hk rfl)
abbrev zJO:Ctrs:=csm zL2 (fun _ _=>[]) (fun _=>false)
def zrO:Ann:=⟨19,[(0,zK [0,1] []),(1,zK [0,1,7,8] []),(2,zK [0,1,7,8,9] []),(3,zK [0,1,5,7,8] []),(4,zK [0,1,5,7,8,16] []),(5,zK [4] []),(6,zK [0,1,7,8] []),(7,zK [4] [])],
 [(2,zK [0,1,7,8] [])],
 [(5,zK [0,1,5,7,8,16] [])],
 [],[]⟩
abbrev zMH:=Int
abbrev zB5 (r:zMH):List PA:=[.one (.int .i64 r)]
@[irreducible] def z119a:=ptF Try.prog zJO zrO Try.f119
def ztJ (c0:straight) (sv0:(Sl Gate)) (zbl:Int) (zcs:Int) (zdO:Nat→List PV):St:=⟨[(0,zP (.sl sv0.len 3 zdO)),(1,zP (.fn 117 [] [.fp (zak c0) 0])),(7,zI zbl),(8,zI zcs)],[],[]⟩
abbrev zrP (K:List PA→Prop) (c0:straight) (X:St→Prop) (P:(Sl Gate)→Int→Int→Bool) (S:(Sl Gate)→Int→Int→Int):Prop:=∀ ⦃sv0:(Sl Gate)⦄ ⦃zbl:Int⦄ ⦃zcs:Int⦄ ⦃zdO:Nat→List PV⦄,P sv0 zbl zcs=true→K (zB5 (S sv0 zbl zcs))→zdO=zg zac sv0→X (ztJ c0 sv0 zbl zcs zdO)
section
variable {K:List PA→Prop} {c0:straight} {s:(Sl Gate)} {sv0:(Sl Gate)} {zbl:Int} {zcs:Int} {zdO:Nat→List PV} {X0:St→Prop} {P0:(Sl Gate)→Int→Int→Bool} {S0:(Sl Gate)→Int→Int→Int} {sv1:(Sl Gate)} {iv1:Int} {zg9:Int} {zle:Int} {zeu:Bool} {zpE:Nat→List PV}
def zpF (S0:(Sl Gate)→Int→Int→Int) (c0:straight) (sv1:(Sl Gate)) (iv1:Int) (zg9:Int) (zle:Int) (zeu:Bool):Int :=
  (cond zeu
 iv1
 (S0 sv1 zg9 (w64 (zle+(1:Int)))))
def zpG (P0:(Sl Gate)→Int→Int→Bool) (c0:straight) (sv1:(Sl Gate)) (iv1:Int) (zg9:Int) (zle:Int) (zeu:Bool):Bool :=
  (cond zeu
 true
 (P0 sv1 zg9 (w64 (zle+(1:Int)))))
theorem zxf (hX0:zrP K c0 X0 P0 S0) (hs:zpG P0 c0 sv1 iv1 zg9 zle zeu=true) (hk:K (zB5 (zpF S0 c0 sv1 iv1 zg9 zle zeu))) (zxe:zpE=zg zac sv1):z119a K [1,0,1,0,0,1,1,0,0,1,1] [X0] ⟨[(0,zP (.sl sv1.len 3 zpE)),(1,zP (.fn 117 [] [.fp (zak c0) 0])),(5,zI iv1),(7,zI zg9),(8,zI zle),(16,zB zeu)],[],[]⟩:=by subst zxe;exact zaI (by kernel_rfl) (zc hs hk (fun hs hk=>hk) (fun hs hk=>(hX0 hs hk rfl)))
def zpH (c0:straight) (S0:(Sl Gate)→Int→Int→Int) (sv0:(Sl Gate)) (zbl:Int) (zcs:Int):Int :=
  (cond (decide (zcs < zbl))
 (zpF S0 c0 sv0 zcs zbl zcs (zL0 c0 (sv0.get zcs.toNat)))
 (-1:Int))
def zpI (c0:straight) (P0:(Sl Gate)→Int→Int→Bool) (sv0:(Sl Gate)) (zbl:Int) (zcs:Int):Bool :=
  (cond (decide (zcs < zbl))
 (decide ((0≤zcs∧zcs < (sv0.len:Int))) &&
 (zpG P0 c0 sv0 zcs zbl zcs (zL0 c0 (sv0.get zcs.toNat))))
 true)
def zpJ (c0:straight):Nat→(Sl Gate)→Int→Int→Int:=lpO (fun _ _ _=>default) (zpH c0)
def zpK (c0:straight):Nat→(Sl Gate)→Int→Int→Bool:=lpO (fun _ _ _=>false) (zpI c0)
def zpL (c0:straight) (sv0:(Sl Gate)) (zbl:Int) (zcs:Int):Int:=zpJ c0 Fuel sv0 zbl zcs
def zpM (c0:straight) (sv0:(Sl Gate)) (zbl:Int) (zcs:Int):Bool:=zpK c0 Fuel sv0 zbl zcs
theorem zxg (hs:zpM c0 sv0 zbl zcs=true) (hk:K (zB5 (zpL c0 sv0 zbl zcs))) (zlf:zdO=zg zac sv0):z119a K [1,0,1,0] [] (ztJ c0 sv0 zbl zcs zdO) :=
  zl (fun X=>z119a K [1,0,1,0,0] [X]) (by kernel_rfl) fun X0 hX =>
  (show ∀ k, zrP K c0 X0 (zpK c0 k) (zpJ c0 k) from zgM _ _ (zpI c0) (zpH c0) (zrP K c0 X0)
 (by intro _ _ _ _ hs;exact absurd hs Bool.false_ne_true)
 (by intro P0 S0 hX0 sv0 zbl zcs zdO hs hk zlf;subst zlf;exact hX _ (zaI (by kernel_rfl) (zc hs hk (fun hs hk=>(zaG hs fun hc hs=>And.intro hc (zxf hX0 hs hk rfl))) (fun hs hk=>hk))))) _ hs hk zlf
def zFq (c0:straight) (s:(Sl Gate)):Int :=
  (zpL c0 s (s.len:Int) (0:Int))
def zFr (c0:straight) (s:(Sl Gate)):Bool :=
  (zpM c0 s (s.len:Int) (0:Int))
end
theorem zMI (c0:straight) (s:(Sl Gate)) (K:List PA→Prop) (hs:zFr c0 s=true) (hk:K (zB5 (zFq c0 s))):vcFun Try.prog zJO zrO 119 [.one (.sl s.len 3 (fun i=>zac (s.get i))),.one (.fn 117 [] [.fp (zak c0) 0])] K :=
  zaI (by kernel_rfl) (zxg hs hk rfl)
abbrev zJP:Ctrs:=csm zL2 (fun _ _=>[]) (fun _=>false)
def zrQ:Ann:=⟨19,[(0,zK [0,1] []),(1,zK [0,1,7,8] []),(2,zK [0,1,7,8,9] []),(3,zK [0,1,5,7,8] []),(4,zK [0,1,5,7,8,16] []),(5,zK [4] []),(6,zK [0,1,7,8] []),(7,zK [4] [])],
 [(2,zK [0,1,7,8] [])],
 [(5,zK [0,1,5,7,8,16] [])],
 [],[]⟩
abbrev zMJ:=Int
abbrev zB6 (r:zMJ):List PA:=[.one (.int .i64 r)]
@[irreducible] def z119b:=ptF Try.prog zJP zrQ Try.f119
def ztK (c0:straight) (sv0:(Sl Gate)) (zbl:Int) (zcs:Int) (zdO:Nat→List PV):St:=⟨[(0,zP (.sl sv0.len 3 zdO)),(1,zP (.fn 123 [] [.fp (zak c0) 0])),(7,zI zbl),(8,zI zcs)],[],[]⟩
abbrev zrR (K:List PA→Prop) (c0:straight) (X:St→Prop) (P:(Sl Gate)→Int→Int→Bool) (S:(Sl Gate)→Int→Int→Int):Prop:=∀ ⦃sv0:(Sl Gate)⦄ ⦃zbl:Int⦄ ⦃zcs:Int⦄ ⦃zdO:Nat→List PV⦄,P sv0 zbl zcs=true→K (zB6 (S sv0 zbl zcs))→zdO=zg zac sv0→X (ztK c0 sv0 zbl zcs zdO)
section
variable {K:List PA→Prop} {c0:straight} {s:(Sl Gate)} {sv0:(Sl Gate)} {zbl:Int} {zcs:Int} {zdO:Nat→List PV} {X0:St→Prop} {P0:(Sl Gate)→Int→Int→Bool} {S0:(Sl Gate)→Int→Int→Int} {sv1:(Sl Gate)} {iv1:Int} {zg9:Int} {zle:Int} {zeu:Bool} {zpE:Nat→List PV}
def zpN (S0:(Sl Gate)→Int→Int→Int) (c0:straight) (sv1:(Sl Gate)) (iv1:Int) (zg9:Int) (zle:Int) (zeu:Bool):Int :=
  (cond zeu
 iv1
 (S0 sv1 zg9 (w64 (zle+(1:Int)))))
def zpO (P0:(Sl Gate)→Int→Int→Bool) (c0:straight) (sv1:(Sl Gate)) (iv1:Int) (zg9:Int) (zle:Int) (zeu:Bool):Bool :=
  (cond zeu
 true
 (P0 sv1 zg9 (w64 (zle+(1:Int)))))
theorem zxh (hX0:zrR K c0 X0 P0 S0) (hs:zpO P0 c0 sv1 iv1 zg9 zle zeu=true) (hk:K (zB6 (zpN S0 c0 sv1 iv1 zg9 zle zeu))) (zxe:zpE=zg zac sv1):z119b K [1,0,1,0,0,1,1,0,0,1,1] [X0] ⟨[(0,zP (.sl sv1.len 3 zpE)),(1,zP (.fn 123 [] [.fp (zak c0) 0])),(5,zI iv1),(7,zI zg9),(8,zI zle),(16,zB zeu)],[],[]⟩:=by subst zxe;exact zaI (by kernel_rfl) (zc hs hk (fun hs hk=>hk) (fun hs hk=>(hX0 hs hk rfl)))
def zpP (c0:straight) (S0:(Sl Gate)→Int→Int→Int) (sv0:(Sl Gate)) (zbl:Int) (zcs:Int):Int :=
  (cond (decide (zcs < zbl))
 (zpN S0 c0 sv0 zcs zbl zcs (zL1 c0 (sv0.get zcs.toNat)))
 (-1:Int))
def zpQ (c0:straight) (P0:(Sl Gate)→Int→Int→Bool) (sv0:(Sl Gate)) (zbl:Int) (zcs:Int):Bool :=
  (cond (decide (zcs < zbl))
 (decide ((0≤zcs∧zcs < (sv0.len:Int))) &&
 (zpO P0 c0 sv0 zcs zbl zcs (zL1 c0 (sv0.get zcs.toNat))))
 true)
def zpR (c0:straight):Nat→(Sl Gate)→Int→Int→Int:=lpO (fun _ _ _=>default) (zpP c0)
def zpS (c0:straight):Nat→(Sl Gate)→Int→Int→Bool:=lpO (fun _ _ _=>false) (zpQ c0)
def zpT (c0:straight) (sv0:(Sl Gate)) (zbl:Int) (zcs:Int):Int:=zpR c0 Fuel sv0 zbl zcs
def zpU (c0:straight) (sv0:(Sl Gate)) (zbl:Int) (zcs:Int):Bool:=zpS c0 Fuel sv0 zbl zcs
theorem zxi (hs:zpU c0 sv0 zbl zcs=true) (hk:K (zB6 (zpT c0 sv0 zbl zcs))) (zlf:zdO=zg zac sv0):z119b K [1,0,1,0] [] (ztK c0 sv0 zbl zcs zdO) :=
  zl (fun X=>z119b K [1,0,1,0,0] [X]) (by kernel_rfl) fun X0 hX =>
  (show ∀ k, zrR K c0 X0 (zpS c0 k) (zpR c0 k) from zgM _ _ (zpQ c0) (zpP c0) (zrR K c0 X0)
 (by intro _ _ _ _ hs;exact absurd hs Bool.false_ne_true)
 (by intro P0 S0 hX0 sv0 zbl zcs zdO hs hk zlf;subst zlf;exact hX _ (zaI (by kernel_rfl) (zc hs hk (fun hs hk=>(zaG hs fun hc hs=>And.intro hc (zxh hX0 hs hk rfl))) (fun hs hk=>hk))))) _ hs hk zlf
def zFs (c0:straight) (s:(Sl Gate)):Int :=
  (zpT c0 s (s.len:Int) (0:Int))
def zFt (c0:straight) (s:(Sl Gate)):Bool :=
  (zpU c0 s (s.len:Int) (0:Int))
end
theorem zMK (c0:straight) (s:(Sl Gate)) (K:List PA→Prop) (hs:zFt c0 s=true) (hk:K (zB6 (zFs c0 s))):vcFun Try.prog zJP zrQ 119 [.one (.sl s.len 3 (fun i=>zac (s.get i))),.one (.fn 123 [] [.fp (zak c0) 0])] K :=
  zaI (by kernel_rfl) (zxi hs hk rfl)
def zxj : List PA → COut
  | [.one (.sl a0_n a0_s a0_g),.one (.fn 100 [] [.fp [.sl c0_Gates_n c0_Gates_s c0_Gates_g] 0])]=>.det (IsE zac 3 a0_s a0_g∧IsE zac 3 c0_Gates_s c0_Gates_g∧zMG (⟨(⟨c0_Gates_n,zah c0_Gates_g⟩:(Sl Gate))⟩:list) (⟨a0_n,zah a0_g⟩:(Sl Gate))=true) [.one (.int .i64 (zMF (⟨(⟨c0_Gates_n,zah c0_Gates_g⟩:(Sl Gate))⟩:list) (⟨a0_n,zah a0_g⟩:(Sl Gate))))]
  | [.one (.sl a0_n a0_s a0_g),.one (.fn 117 [] [.fp [.int .i64 c0_slope,.int .i64 c0_start,.int .i64 c0_den] 0])]=>.det (IsE zac 3 a0_s a0_g∧zFr (⟨c0_slope,c0_start,c0_den⟩:straight) (⟨a0_n,zah a0_g⟩:(Sl Gate))=true) [.one (.int .i64 (zFq (⟨c0_slope,c0_start,c0_den⟩:straight) (⟨a0_n,zah a0_g⟩:(Sl Gate))))]
  | [.one (.sl a0_n a0_s a0_g),.one (.fn 123 [] [.fp [.int .i64 c0_slope,.int .i64 c0_start,.int .i64 c0_den] 0])]=>.det (IsE zac 3 a0_s a0_g∧zFt (⟨c0_slope,c0_start,c0_den⟩:straight) (⟨a0_n,zah a0_g⟩:(Sl Gate))=true) [.one (.int .i64 (zFs (⟨c0_slope,c0_start,c0_den⟩:straight) (⟨a0_n,zah a0_g⟩:(Sl Gate))))]
  | _=>.no
theorem zFu:zal Try.prog 119:=⟨_,rfl,rfl,by kernel_rfl⟩
theorem zML:Ok Try.prog 119 zxj:=zaY zJN zFu fun args K h=>by
  unfold zxj at h
  split at h
  · rename_i a0_n a0_s a0_g c0_Gates_n c0_Gates_s c0_Gates_g
    obtain ⟨⟨⟨rfl,a0_f,rfl⟩,⟨rfl,c0_Gates_f,rfl⟩,hs⟩,hk⟩:=h
    try rw [zaf a0_f] at hs
    try rw [zaf a0_f] at hk
    try rw [zaf c0_Gates_f] at hs
    try rw [zaf c0_Gates_f] at hk
    exact ⟨(fun _ _=>[]),(fun _=>false),zxb,zO5 (⟨(⟨c0_Gates_n,c0_Gates_f⟩:(Sl Gate))⟩:list) (⟨a0_n,a0_f⟩:(Sl Gate)) K hs hk⟩
  · rename_i a0_n a0_s a0_g c0_slope c0_start c0_den
    obtain ⟨⟨⟨rfl,a0_f,rfl⟩,hs⟩,hk⟩:=h
    try rw [zaf a0_f] at hs
    try rw [zaf a0_f] at hk
    exact ⟨(fun _ _=>[]),(fun _=>false),zrO,zMI (⟨c0_slope,c0_start,c0_den⟩:straight) (⟨a0_n,a0_f⟩:(Sl Gate)) K hs hk⟩
  · rename_i a0_n a0_s a0_g c0_slope c0_start c0_den
    obtain ⟨⟨⟨rfl,a0_f,rfl⟩,hs⟩,hk⟩:=h
    try rw [zaf a0_f] at hs
    try rw [zaf a0_f] at hk
    exact ⟨(fun _ _=>[]),(fun _=>false),zrQ,zMK (⟨c0_slope,c0_start,c0_den⟩:straight) (⟨a0_n,a0_f⟩:(Sl Gate)) K hs hk⟩
  · exact h.elim
abbrev T99:Tabs:=(Tabs.nil.addF 119 zxj)
theorem zMM:TabsOk Try.prog T99:=(TabsOk.nil.addF zML)
abbrev G99:Ctrs:=csm T99 (fun _ _=>[]) (fun _=>false)
def zJQ:Ann:=⟨9,[(0,zK [0,1] []),(1,zK [4] [])],
 [],
 [],
 [],[]⟩
abbrev R99:=Bool
abbrev e99 (r:R99):List PA:=[.one (.bool r)]
section
variable {K:List PA→Prop} {c0:list} {s:(Sl Gate)}
def s99 (c0:list) (s:(Sl Gate)):Bool :=
  (decide ((zMF c0 s) ≥ (0:Int)))
def p99 (c0:list) (s:(Sl Gate)):Bool :=
  (decide ((zMG c0 s=true)) &&
 true)
end
theorem q99 (c0:list) (s:(Sl Gate)) (K:List PA→Prop) (hs:p99 c0 s=true) (hk:K (e99 (s99 c0 s))):vcFun Try.prog G99 zJQ 99 [.one (.sl s.len 3 (fun i=>zac (s.get i))),.one (.fn 100 [] [.fp (zcL c0) 0])] K :=
  zaI (by kernel_rfl) (zaG hs fun hc hs=>And.intro (And.intro (zE zac 3 s.get) (And.intro (zE zac 3 c0.Gates.get) hc)) hk)
abbrev zO6:Ctrs:=csm T99 (fun _ _=>[]) (fun _=>false)
def zDl:Ann:=⟨9,[(0,zK [0,1] []),(1,zK [4] [])],
 [],
 [],
 [],[]⟩
abbrev zO7:=Bool
abbrev zO8 (r:zO7):List PA:=[.one (.bool r)]
section
variable {K:List PA→Prop} {c0:straight} {s:(Sl Gate)}
def zMN (c0:straight) (s:(Sl Gate)):Bool :=
  (decide ((zFq c0 s) ≥ (0:Int)))
def zMO (c0:straight) (s:(Sl Gate)):Bool :=
  (decide ((zFr c0 s=true)) &&
 true)
end
theorem zO9 (c0:straight) (s:(Sl Gate)) (K:List PA→Prop) (hs:zMO c0 s=true) (hk:K (zO8 (zMN c0 s))):vcFun Try.prog zO6 zDl 99 [.one (.sl s.len 3 (fun i=>zac (s.get i))),.one (.fn 117 [] [.fp (zak c0) 0])] K :=
  zaI (by kernel_rfl) (zaG hs fun hc hs=>And.intro (And.intro (zE zac 3 s.get) hc) hk)
abbrev zPa:Ctrs:=csm T99 (fun _ _=>[]) (fun _=>false)
def zDm:Ann:=⟨9,[(0,zK [0,1] []),(1,zK [4] [])],
 [],
 [],
 [],[]⟩
abbrev zPb:=Bool
abbrev zPc (r:zPb):List PA:=[.one (.bool r)]
section
variable {K:List PA→Prop} {c0:straight} {s:(Sl Gate)}
def zMP (c0:straight) (s:(Sl Gate)):Bool :=
  (decide ((zFs c0 s) ≥ (0:Int)))
def zMQ (c0:straight) (s:(Sl Gate)):Bool :=
  (decide ((zFt c0 s=true)) &&
 true)
end
theorem zPd (c0:straight) (s:(Sl Gate)) (K:List PA→Prop) (hs:zMQ c0 s=true) (hk:K (zPc (zMP c0 s))):vcFun Try.prog zPa zDm 99 [.one (.sl s.len 3 (fun i=>zac (s.get i))),.one (.fn 123 [] [.fp (zak c0) 0])] K :=
  zaI (by kernel_rfl) (zaG hs fun hc hs=>And.intro (And.intro (zE zac 3 s.get) hc) hk)
def zxk : List PA → COut
  | [.one (.sl a0_n a0_s a0_g),.one (.fn 100 [] [.fp [.sl c0_Gates_n c0_Gates_s c0_Gates_g] 0])]=>.det (IsE zac 3 a0_s a0_g∧IsE zac 3 c0_Gates_s c0_Gates_g∧p99 (⟨(⟨c0_Gates_n,zah c0_Gates_g⟩:(Sl Gate))⟩:list) (⟨a0_n,zah a0_g⟩:(Sl Gate))=true) [.one (.bool (s99 (⟨(⟨c0_Gates_n,zah c0_Gates_g⟩:(Sl Gate))⟩:list) (⟨a0_n,zah a0_g⟩:(Sl Gate))))]
  | [.one (.sl a0_n a0_s a0_g),.one (.fn 117 [] [.fp [.int .i64 c0_slope,.int .i64 c0_start,.int .i64 c0_den] 0])]=>.det (IsE zac 3 a0_s a0_g∧zMO (⟨c0_slope,c0_start,c0_den⟩:straight) (⟨a0_n,zah a0_g⟩:(Sl Gate))=true) [.one (.bool (zMN (⟨c0_slope,c0_start,c0_den⟩:straight) (⟨a0_n,zah a0_g⟩:(Sl Gate))))]
  | [.one (.sl a0_n a0_s a0_g),.one (.fn 123 [] [.fp [.int .i64 c0_slope,.int .i64 c0_start,.int .i64 c0_den] 0])]=>.det (IsE zac 3 a0_s a0_g∧zMQ (⟨c0_slope,c0_start,c0_den⟩:straight) (⟨a0_n,zah a0_g⟩:(Sl Gate))=true) [.one (.bool (zMP (⟨c0_slope,c0_start,c0_den⟩:straight) (⟨a0_n,zah a0_g⟩:(Sl Gate))))]
  | _=>.no
theorem zJR:zal Try.prog 99:=⟨_,rfl,rfl,by kernel_rfl⟩
theorem zMR:Ok Try.prog 99 zxk:=zaY zMM zJR fun args K h=>by
  unfold zxk at h
  split at h
  · rename_i a0_n a0_s a0_g c0_Gates_n c0_Gates_s c0_Gates_g
    obtain ⟨⟨⟨rfl,a0_f,rfl⟩,⟨rfl,c0_Gates_f,rfl⟩,hs⟩,hk⟩:=h
    try rw [zaf a0_f] at hs
    try rw [zaf a0_f] at hk
    try rw [zaf c0_Gates_f] at hs
    try rw [zaf c0_Gates_f] at hk
    exact ⟨(fun _ _=>[]),(fun _=>false),zJQ,q99 (⟨(⟨c0_Gates_n,c0_Gates_f⟩:(Sl Gate))⟩:list) (⟨a0_n,a0_f⟩:(Sl Gate)) K hs hk⟩
  · rename_i a0_n a0_s a0_g c0_slope c0_start c0_den
    obtain ⟨⟨⟨rfl,a0_f,rfl⟩,hs⟩,hk⟩:=h
    try rw [zaf a0_f] at hs
    try rw [zaf a0_f] at hk
    exact ⟨(fun _ _=>[]),(fun _=>false),zDl,zO9 (⟨c0_slope,c0_start,c0_den⟩:straight) (⟨a0_n,a0_f⟩:(Sl Gate)) K hs hk⟩
  · rename_i a0_n a0_s a0_g c0_slope c0_start c0_den
    obtain ⟨⟨⟨rfl,a0_f,rfl⟩,hs⟩,hk⟩:=h
    try rw [zaf a0_f] at hs
    try rw [zaf a0_f] at hk
    exact ⟨(fun _ _=>[]),(fun _=>false),zDm,zPd (⟨c0_slope,c0_start,c0_den⟩:straight) (⟨a0_n,a0_f⟩:(Sl Gate)) K hs hk⟩
  · exact h.elim
abbrev T67:Tabs:=(Tabs.nil.addF 99 zxk)
theorem zMS:TabsOk Try.prog T67:=(TabsOk.nil.addF zMR)
abbrev G67:Ctrs:=csm T67 (fun _ _=>[]) (fun _=>false)
def zJS:Ann:=⟨8,[(0,zK [1] [1]),(1,zK [2] [])],
 [],
 [],
 [],[]⟩
abbrev R67:=Bool
abbrev e67 (r:R67):List PA:=[.one (.bool r)]
section
variable {K:List PA→Prop} {l_a0:list}
def s67 (l_a0:list):Bool :=
  (!(s99 l_a0 l_a0.Gates))
def p67 (l_a0:list):Bool :=
  (decide ((p99 l_a0 l_a0.Gates=true)) &&
 true)
end
theorem q67 (l_a0:list) (K:List PA→Prop) (hs:p67 l_a0=true) (hk:K (e67 (s67 l_a0))):vcFun Try.prog G67 zJS 67 [.agg (zcL l_a0)] K :=
  zaI (by kernel_rfl) (zaG hs fun hc hs=>And.intro (And.intro (zE zac 3 l_a0.Gates.get) (And.intro (zE zac 3 l_a0.Gates.get) hc)) hk)
def zrS : List PA → COut
  | [.agg [.sl a0_Gates_n a0_Gates_s a0_Gates_g]]=>.det (IsE zac 3 a0_Gates_s a0_Gates_g∧p67 (⟨(⟨a0_Gates_n,zah a0_Gates_g⟩:(Sl Gate))⟩:list)=true) [.one (.bool (s67 (⟨(⟨a0_Gates_n,zah a0_Gates_g⟩:(Sl Gate))⟩:list)))]
  | _=>.no
theorem zJT:zal Try.prog 67:=⟨_,rfl,rfl,by kernel_rfl⟩
theorem zJU:Ok Try.prog 67 zrS:=zaY zMS zJT fun args K h=>by
  unfold zrS at h
  split at h
  · rename_i a0_Gates_n a0_Gates_s a0_Gates_g
    obtain ⟨⟨⟨rfl,a0_Gates_f,rfl⟩,hs⟩,hk⟩:=h
    try rw [zaf a0_Gates_f] at hs
    try rw [zaf a0_Gates_f] at hk
    exact ⟨(fun _ _=>[]),(fun _=>false),zJS,q67 (⟨(⟨a0_Gates_n,a0_Gates_f⟩:(Sl Gate))⟩:list) K hs hk⟩
  · exact h.elim
abbrev zOi:Tabs:=Tabs.nil
theorem zJV:TabsOk Try.prog zOi:=TabsOk.nil
abbrev zOj:Ctrs:=csm zOi (fun _ _=>[]) (fun _=>false)
def zxl:Ann:=⟨12,[(0,zK [0,1] []),(1,zK [0,1,6] []),(2,zK [0,1] []),(3,zK [4] [])],
 [(1,zK [0,1] [])],
 [],
 [],[]⟩
abbrev zPe:=Int
abbrev zMT (r:zPe):List PA:=[.one (.int .i64 r)]
@[irreducible] def z114:=ptF Try.prog zOj zxl Try.f114
def zxm (av0:Int) (bv0:Int):St:=⟨[(0,zI av0),(1,zI bv0)],[],[]⟩
abbrev zDn (K:List PA→Prop) (X:St→Prop) (P:Int→Int→Bool) (S:Int→Int→Int):Prop:=∀ ⦃av0:Int⦄ ⦃bv0:Int⦄,P av0 bv0=true→K (zMT (S av0 bv0))→X (zxm av0 bv0)
section
variable {K:List PA→Prop} {a:Int} {b:Int} {av0:Int} {bv0:Int} {X0:St→Prop} {P0:Int→Int→Bool} {S0:Int→Int→Int}
def ztL (S0:Int→Int→Int) (av0:Int) (bv0:Int):Int :=
  (cond (decide (bv0 > (0:Int)))
 (S0 bv0 (av0.tmod bv0))
 av0)
def ztM (P0:Int→Int→Bool) (av0:Int) (bv0:Int):Bool :=
  (cond (decide (bv0 > (0:Int)))
 (decide ((bv0 ≠ 0)) &&
 (P0 bv0 (av0.tmod bv0)))
 true)
def ztN:Nat→Int→Int→Int:=lpO (fun _ _=>default) (ztL)
def ztO:Nat→Int→Int→Bool:=lpO (fun _ _=>false) (ztM)
def ztP (av0:Int) (bv0:Int):Int:=ztN Fuel av0 bv0
def ztQ (av0:Int) (bv0:Int):Bool:=ztO Fuel av0 bv0
theorem zB7 (hs:ztQ av0 bv0=true) (hk:K (zMT (ztP av0 bv0))):z114 K [1,0,0] [] (zxm av0 bv0) :=
  zl (fun X=>z114 K [1,0,0,0] [X]) (by kernel_rfl) fun X0 hX =>
  (show ∀ k, zDn K X0 (ztO k) (ztN k) from zgM _ _ (ztM) (ztL) (zDn K X0)
 (by intro _ _ hs;exact absurd hs Bool.false_ne_true)
 (by intro P0 S0 hX0 av0 bv0 hs hk;exact hX _ (zaI (by kernel_rfl) (zc hs hk (fun hs hk=>(zaG hs fun hc hs=>And.intro hc (hX0 hs hk))) (fun hs hk=>hk))))) _ hs hk
def zIF (a:Int) (b:Int):Int :=
  (ztP a b)
def zMU (a:Int) (b:Int):Bool :=
  (ztQ a b)
end
theorem zPf (a:Int) (b:Int) (K:List PA→Prop) (hs:zMU a b=true) (hk:K (zMT (zIF a b))):vcFun Try.prog zOj zxl 114 [.one (.int .i64 a),.one (.int .i64 b)] K :=
  zaI (by kernel_rfl) (zB7 hs hk)
def zxn : List PA → COut
  | [.one (.int .i64 a0),.one (.int .i64 a1)]=>.det (zMU a0 a1=true) [.one (.int .i64 (zIF a0 a1))]
  | _=>.no
theorem zFv:zal Try.prog 114:=⟨_,rfl,rfl,by kernel_rfl⟩
theorem zMV:Ok Try.prog 114 zxn:=zaY zJV zFv fun args K h=>by
  unfold zxn at h
  split at h
  · rename_i a0 a1
    obtain ⟨hs,hk⟩:=h
    exact ⟨(fun _ _=>[]),(fun _=>false),zxl,zPf a0 a1 K hs hk⟩
  · exact h.elim
abbrev T89:Tabs:=(Tabs.nil.addF 114 zxn)
theorem zMW:TabsOk Try.prog T89:=(TabsOk.nil.addF zMV)
abbrev G89:Ctrs:=csm T89 (fun _ _=>[]) (fun _=>false)
def zJW:Ann:=⟨19,[(0,zK [0,1,4] [4]),(1,zK [0,1,4,5] [4]),(2,zK [4] [4])],
 [],
 [],
 [],[]⟩
abbrev R89:=Frac
abbrev e89 (r:R89):List PA:=[.agg [.int .i64 r.Num,.int .i64 r.Den]]
section
variable {K:List PA→Prop} {num:Int} {den:Int}
def s89 (num:Int) (den:Int):Frac :=
  (⟨(w64 (num.tdiv (zIF (if (w64 (0 - num)) > num then (w64 (0 - num)) else num) den))),(w64 (den.tdiv (zIF (if (w64 (0 - num)) > num then (w64 (0 - num)) else num) den)))⟩:Frac)
def p89 (num:Int) (den:Int):Bool :=
  (decide ((zMU (if (w64 (0 - num)) > num then (w64 (0 - num)) else num) den=true)) &&
 (decide (((zIF (if (w64 (0 - num)) > num then (w64 (0 - num)) else num) den) ≠ 0)) &&
 (decide (((zIF (if (w64 (0 - num)) > num then (w64 (0 - num)) else num) den) ≠ 0)) &&
 true)))
end
theorem q89 (num:Int) (den:Int) (K:List PA→Prop) (hs:p89 num den=true) (hk:K (e89 (s89 num den))):vcFun Try.prog G89 zJW 89 [.one (.int .i64 num),.one (.int .i64 den)] K :=
  zaI (by kernel_rfl) (zaG hs fun hc hs=>And.intro hc (zaG hs fun hc hs=>And.intro hc (zaG hs fun hc hs=>And.intro hc hk)))
def zvo : List PA → COut
  | [.one (.int .i64 a0),.one (.int .i64 a1)]=>.det (p89 a0 a1=true) [.agg [.int .i64 ((s89 a0 a1).Num),.int .i64 ((s89 a0 a1).Den)]]
  | _=>.no
theorem zJX:zal Try.prog 89:=⟨_,rfl,rfl,by kernel_rfl⟩
theorem zL3:Ok Try.prog 89 zvo:=zaY zMW zJX fun args K h=>by
  unfold zvo at h
  split at h
  · rename_i a0 a1
    obtain ⟨hs,hk⟩:=h
    exact ⟨(fun _ _=>[]),(fun _=>false),zJW,q89 a0 a1 K hs hk⟩
  · exact h.elim
abbrev T79:Tabs:=(Tabs.nil.addF 89 zvo)
theorem zMX:TabsOk Try.prog T79:=(TabsOk.nil.addF zL3)
abbrev G79:Ctrs:=csm T79 (fun _ _=>[]) (fun _=>false)
def zJY:Ann:=⟨14,[(0,zK [1,2] [1,2]),(1,zK [2] [2])],
 [],
 [],
 [],[]⟩
abbrev R79:=Line
abbrev e79 (r:R79):List PA:=[.agg [.int .i64 r.Slope.Num,.int .i64 r.Slope.Den,.int .i64 r.Start.Num,.int .i64 r.Start.Den]]
section
variable {K:List PA→Prop} {s:straight}
def s79 (s:straight):Line :=
  (⟨(s89 s.slope s.den),(s89 s.start s.den)⟩:Line)
def p79 (s:straight):Bool :=
  (decide ((p89 s.slope s.den=true)) &&
 (decide ((p89 s.start s.den=true)) &&
 true))
end
theorem q79 (s:straight) (K:List PA→Prop) (hs:p79 s=true) (hk:K (e79 (s79 s))):vcFun Try.prog G79 zJY 79 [.agg (zak s)] K :=
  zaI (by kernel_rfl) (zaG hs fun hc hs=>And.intro hc (zaG hs fun hc hs=>And.intro hc hk))
def zB8 : List PA → COut
  | [.agg [.int .i64 a0_slope,.int .i64 a0_start,.int .i64 a0_den]]=>.det (p79 (⟨a0_slope,a0_start,a0_den⟩:straight)=true) [.agg [.int .i64 ((s79 (⟨a0_slope,a0_start,a0_den⟩:straight)).Slope.Num),.int .i64 ((s79 (⟨a0_slope,a0_start,a0_den⟩:straight)).Slope.Den),.int .i64 ((s79 (⟨a0_slope,a0_start,a0_den⟩:straight)).Start.Num),.int .i64 ((s79 (⟨a0_slope,a0_start,a0_den⟩:straight)).Start.Den)]]
  | _=>.no
theorem zJZ:zal Try.prog 79:=⟨_,rfl,rfl,by kernel_rfl⟩
theorem zOk:Ok Try.prog 79 zB8:=zaY zMX zJZ fun args K h=>by
  unfold zB8 at h
  split at h
  · rename_i a0_slope a0_start a0_den
    obtain ⟨hs,hk⟩:=h
    exact ⟨(fun _ _=>[]),(fun _=>false),zJY,q79 (⟨a0_slope,a0_start,a0_den⟩:straight) K hs hk⟩
  · exact h.elim
abbrev T96:Tabs:=Tabs.nil
theorem zMY:TabsOk Try.prog T96:=TabsOk.nil
abbrev G96:Ctrs:=csm T96 (fun _ _=>[]) (fun _=>false)
def zFw:Ann:=⟨4,[(0,⟨[1],[1],[],[],[],[],[]⟩),(1,⟨[2],[],[],[],[],[],[]⟩)],
 [],
 [],
 [],[]⟩
theorem zFx (l_a0 : list) (K : List PA → Prop) :
  vcFun Try.prog G96 zFw 96 [.agg [.sl l_a0.Gates.len 3 (fun i=>zac (l_a0.Gates.get i))]] K =
  (K [.one (.fn 115 [] [.fp (zcL l_a0) 0])]):=by kernel_rfl
theorem q96 (l_a0:list) (K:List PA→Prop) (hk:K [.one (.fn 115 [] [.fp (zcL l_a0) 0])]):vcFun Try.prog G96 zFw 96 [.agg [.sl l_a0.Gates.len 3 (fun i=>zac (l_a0.Gates.get i))]] K:=zaI (zFx l_a0 K) hk
def zFy : List PA → COut
  | [.agg [.sl a0_Gates_n a0_Gates_s a0_Gates_g]]=>.det (IsE zac 3 a0_Gates_s a0_Gates_g) [.one (.fn 115 [] [.fp (zcL (⟨(⟨a0_Gates_n,zah a0_Gates_g⟩:(Sl Gate))⟩:list)) 0])]
  | _=>.no
theorem zJ0:zal Try.prog 96:=⟨_,rfl,rfl,by kernel_rfl⟩
theorem zPg:Ok Try.prog 96 zFy:=zaY zMY zJ0 fun args K h=>by
  unfold zFy at h
  split at h
  · rename_i a0_Gates_n a0_Gates_s a0_Gates_g
    obtain ⟨⟨rfl,a0_Gates_f,rfl⟩,hk⟩:=h
    try rw [zaf a0_Gates_f] at hk
    exact ⟨fun _ _=>[],fun _=>false,zFw,q96 (⟨(⟨a0_Gates_n,a0_Gates_f⟩:(Sl Gate))⟩:list) K hk⟩
  · exact h.elim
abbrev T97:Tabs:=(Tabs.nil.addF 99 zxk)
theorem zMZ:TabsOk Try.prog T97:=(TabsOk.nil.addF zMR)
abbrev G97:Ctrs:=csm T97 (fun _ _=>[]) (fun _=>false)
def zFz:Ann:=⟨11,[(0,zK [2,3] [2,3]),(1,zK [4] [])],
 [],
 [],
 [],[]⟩
abbrev R97:=Bool
abbrev e97 (r:R97):List PA:=[.one (.bool r)]
section
variable {K:List PA→Prop} {s:set} {x:straight}
def s97 (s:set) (x:straight):Bool :=
  (!(zMN x s.list.Gates))
def p97 (s:set) (x:straight):Bool :=
  (decide ((zMO x s.list.Gates=true)) &&
 true)
end
theorem q97 (s:set) (x:straight) (K:List PA→Prop) (hs:p97 s x=true) (hk:K (e97 (s97 s x))):vcFun Try.prog G97 zFz 97 [.agg (zbg s),.agg (zak x)] K :=
  zaI (by kernel_rfl) (zaG hs fun hc hs=>And.intro (And.intro (zE zac 3 s.list.Gates.get) hc) hk)
def zFA : List PA → COut
  | [.agg [.sl a0_list_Gates_n a0_list_Gates_s a0_list_Gates_g,.sl a0_corners_n a0_corners_s a0_corners_g],.agg [.int .i64 a1_slope,.int .i64 a1_start,.int .i64 a1_den]]=>.det (IsE zac 3 a0_list_Gates_s a0_list_Gates_g∧IsE zak 3 a0_corners_s a0_corners_g∧p97 (⟨(⟨(⟨a0_list_Gates_n,zah a0_list_Gates_g⟩:(Sl Gate))⟩:list),(⟨a0_corners_n,za7 a0_corners_g⟩:(Sl straight))⟩:set) (⟨a1_slope,a1_start,a1_den⟩:straight)=true) [.one (.bool (s97 (⟨(⟨(⟨a0_list_Gates_n,zah a0_list_Gates_g⟩:(Sl Gate))⟩:list),(⟨a0_corners_n,za7 a0_corners_g⟩:(Sl straight))⟩:set) (⟨a1_slope,a1_start,a1_den⟩:straight)))]
  | [.agg [.sl a0_list_Gates_n a0_list_Gates_s a0_list_Gates_g,.nils],.agg [.int .i64 a1_slope,.int .i64 a1_start,.int .i64 a1_den]]=>.det (IsE zac 3 a0_list_Gates_s a0_list_Gates_g∧p97 (⟨(⟨(⟨a0_list_Gates_n,zah a0_list_Gates_g⟩:(Sl Gate))⟩:list),(⟨0,fun _=>default⟩:(Sl straight))⟩:set) (⟨a1_slope,a1_start,a1_den⟩:straight)=true) [.one (.bool (s97 (⟨(⟨(⟨a0_list_Gates_n,zah a0_list_Gates_g⟩:(Sl Gate))⟩:list),(⟨0,fun _=>default⟩:(Sl straight))⟩:set) (⟨a1_slope,a1_start,a1_den⟩:straight)))]
  | _=>.no
theorem zJ1:zal Try.prog 97:=⟨_,rfl,rfl,by kernel_rfl⟩
theorem zPh:Ok Try.prog 97 zFA:=zfW zMZ zJ1 fun args K h=>by
  unfold zFA at h
  split at h
  · rename_i a0_list_Gates_n a0_list_Gates_s a0_list_Gates_g a0_corners_n a0_corners_s a0_corners_g a1_slope a1_start a1_den
    obtain ⟨⟨⟨rfl,a0_list_Gates_f,rfl⟩,⟨rfl,a0_corners_f,rfl⟩,hs⟩,hk⟩:=h
    try rw [zaf a0_list_Gates_f] at hs
    try rw [zaf a0_list_Gates_f] at hk
    try rw [za1 a0_corners_f] at hs
    try rw [za1 a0_corners_f] at hk
    exact ⟨_,zeY zfF _,(fun _ _=>[]),(fun _=>false),zFz,q97 (⟨(⟨(⟨a0_list_Gates_n,a0_list_Gates_f⟩:(Sl Gate))⟩:list),(⟨a0_corners_n,a0_corners_f⟩:(Sl straight))⟩:set) (⟨a1_slope,a1_start,a1_den⟩:straight) (Wk K) hs (zd0 hk)⟩
  · rename_i a0_list_Gates_n a0_list_Gates_s a0_list_Gates_g a1_slope a1_start a1_den
    obtain ⟨⟨⟨rfl,a0_list_Gates_f,rfl⟩,hs⟩,hk⟩:=h
    try rw [zaf a0_list_Gates_f] at hs
    try rw [zaf a0_list_Gates_f] at hk
    exact ⟨_,(zdy (.agg (zdy (.rfl _) (zdy (.nil _ _) zh1))) (zdy (zfF _) zh1)),(fun _ _=>[]),(fun _=>false),zFz,q97 (⟨(⟨(⟨a0_list_Gates_n,a0_list_Gates_f⟩:(Sl Gate))⟩:list),(⟨0,fun _=>default⟩:(Sl straight))⟩:set) (⟨a1_slope,a1_start,a1_den⟩:straight) (Wk K) hs (zd0 hk)⟩
  · exact h.elim
abbrev zOl:Tabs:=Tabs.nil
theorem zJ2:TabsOk Try.prog zOl:=TabsOk.nil
abbrev zOm:Ctrs:=csm zOl (fun _ _=>[]) (fun _=>false)
def zxo:Ann:=⟨30,[(0,zK [0,1,2,3,8] [8]),(1,zK [0,1,2,3,8,11] [8]),(2,zK [0,1,2,3,8] [8]),(3,zK [8] [8])],
 [],
 [(3,zK [0,1,2,3,8] [8])],
 [],[]⟩
abbrev zPi:=straight
abbrev e116 (r:zPi):List PA:=[.agg [.int .i64 r.slope,.int .i64 r.start,.int .i64 r.den]]
@[irreducible] def z116:=ptF Try.prog zOm zxo Try.f116
section
variable {K:List PA→Prop} {z:Int} {p:Int} {y_a2:Int} {q:Int} {zv0:Int} {pv0:Int} {yv0:Int} {qv0:Int}
def znK (zv0:Int) (pv0:Int) (yv0:Int) (qv0:Int):straight :=
  (⟨(w64 (qv0 - pv0)),(w64 ((w64 (pv0 * yv0)) - (w64 (qv0 * zv0)))),(w64 (yv0 - zv0))⟩:straight)
theorem ztR (hk:K (e116 (znK zv0 pv0 yv0 qv0))):z116 K [1,1] [] ⟨[(0,zI zv0),(1,zI pv0),(2,zI yv0),(3,zI qv0),(8,zp 8 0)],[(8,.box 118 (zm (zak (⟨(0:Int),(0:Int),(0:Int)⟩:straight))))],[]⟩:=zaI (by kernel_rfl) hk
def zmA (z:Int) (p:Int) (y_a2:Int) (q:Int):straight :=
  (cond (decide (z > y_a2))
 (znK y_a2 q z p)
 (znK z p y_a2 q))
end
theorem zPj (z:Int) (p:Int) (y_a2:Int) (q:Int) (K:List PA→Prop) (hk:K (e116 (zmA z p y_a2 q))):vcFun Try.prog zOm zxo 116 [.one (.int .i64 z),.one (.int .i64 p),.one (.int .i64 y_a2),.one (.int .i64 q)] K :=
  zaI (by kernel_rfl) (zt hk (fun hk=>(ztR hk)) (fun hk=>(ztR hk)))
def zxp : List PA → COut
  | [.one (.int .i64 a0),.one (.int .i64 a1),.one (.int .i64 a2),.one (.int .i64 a3)]=>.tot [.agg [.int .i64 ((zmA a0 a1 a2 a3).slope),.int .i64 ((zmA a0 a1 a2 a3).start),.int .i64 ((zmA a0 a1 a2 a3).den)]]
  | _=>.no
theorem zFB:zal Try.prog 116:=⟨_,rfl,rfl,by kernel_rfl⟩
theorem zM0:Ok Try.prog 116 zxp:=zaY zJ2 zFB fun args K h=>by
  unfold zxp at h
  split at h
  · rename_i a0 a1 a2 a3
    have hk:=h
    exact ⟨(fun _ _=>[]),(fun _=>false),zxo,zPj a0 a1 a2 a3 K hk⟩
  · exact h.elim
abbrev zOn:Tabs:=(Tabs.nil.addF 116 zxp)
theorem zJ3:TabsOk Try.prog zOn:=(TabsOk.nil.addF zM0)
abbrev zxq:Ctrs:=csm zOn (fun _ _=>[]) (fun _=>false)
def zcI:Ann:=⟨64,[(0,⟨[0,1,12,13,14],[],[],[],[],[],[]⟩),(1,⟨[0,1,12,13,14,15],[],[],[],[],[],[]⟩),(2,⟨[0,1,3,4,12,13,14],[4],[],[],[],[],[]⟩),(3,⟨[0,1,4,12,13,14,23,24,25],[4],[],[],[],[],[]⟩),(4,⟨[0,1,4,12,13,14,23,24,25,26],[4],[],[],[],[],[]⟩),(5,⟨[0,1,4,6,12,13,14,23,24,25],[4,6],[],[],[],[],[]⟩),(6,⟨[0,1,4,6,12,13,14,23,24,25,33],[4,6],[],[],[],[],[]⟩),(7,⟨[0,1,4,6,12,13,14,23,24,25,38,39],[4,6],[],[],[],[],[]⟩),(8,⟨[0,1,4,6,12,13,14,23,24,25,38,39,40],[4,6],[],[],[],[],[]⟩),(9,⟨[0,1,4,6,8,12,13,14,23,24,25,38,39],[4,6],[],[],[],[],[]⟩),(10,⟨[0,1,4,6,8,12,13,14,23,24,25,38,39,46,47],[4,6],[],[],[],[],[]⟩),(11,⟨[0,1,4,6,8,12,13,14,23,24,25,38,39,46,47,48],[4,6],[],[],[],[],[]⟩),(12,⟨[0,1,4,6,8,10,12,13,14,23,24,25,38,39,46,47],[4,6],[],[],[],[],[]⟩),(13,⟨[0,1,4,6,8,12,13,14,23,24,25,38,39,46,47,59],[4,6],[],[],[],[],[]⟩),(14,⟨[0,1,4,6,8,12,13,14,23,24,25,38,39,46,47],[4,6],[],[],[],[],[]⟩),(15,⟨[0,1,4,6,12,13,14,23,24,25,38,39],[4,6],[],[],[],[],[]⟩),(16,⟨[0,1,4,12,13,14,23,24,25],[4],[],[],[],[],[]⟩),(17,⟨[0,1,12,13,14],[],[],[],[],[],[]⟩)],
 [(1,⟨[0,1,12,13,14],[],[],[],[],[],[]⟩),(4,⟨[0,1,4,12,13,14,23,24,25],[4],[],[],[],[4],[]⟩)],
 [],
 [(8,3,⟨[0,1,4,6,12,13,14,23,24,25,38,39],[4,6],[],[],[],[],[]⟩),(11,3,⟨[0,1,4,6,8,12,13,14,23,24,25,38,39,46,47],[4,6],[],[],[],[],[]⟩)],[13]⟩
def zf7 (l:Nat) (a:list) (zam:Int):St:=⟨[(0,.one (.c (.p (.yl l)))),(1,.one (.c (.p (.fp (zcL a) 0)))),(12,.one (.c (.p (.sl a.Gates.len 3 (fun i=>zac (a.Gates.get i)))))),(13,.one (.c (.p (.int .i64 (a.Gates.len:Int))))),(14,.one (.c (.p (.int .i64 zam))))],[],[]⟩
def zh7 (l:Nat) (ys:List (List PA)) (a:list) (zam:Int):Prop:=vcY Try.prog zxq zcI l (cdF Try.f115 [1,0]) (zdK 0 zlX) ys false (zf7 l a zam)
def zf8 (l:Nat) (a:list) (za5:Int) (zf9:Nat) (zcM:Nat→List PV) (zb2:Int) (zaN:Int) (zbh:Int) (zbF:Int) (zbG:Int):St:=⟨[(0,.one (.c (.p (.yl l)))),(1,.one (.c (.p (.fp (zcL a) 0)))),(4,.one (.c (.ptr 4 0))),(12,.one (.c (.p (.sl a.Gates.len 3 (fun i=>zac (a.Gates.get i)))))),(13,.one (.c (.p (.int .i64 (a.Gates.len:Int))))),(14,.one (.c (.p (.int .i64 za5)))),(23,.one (.c (.p (.sl zf9 3 zcM)))),(24,.one (.c (.p (.int .i64 zb2)))),(25,.one (.c (.p (.int .i64 zaN))))],[(4,.fbox [.int .i64 zbh,.int .i64 zbF,.int .i64 zbG])],[]⟩
def zh8 (l:Nat) (X0:List (List PA)→Bool→St→Prop) (ys:List (List PA)) (a:list) (za5:Int) (zf9:Nat) (zcM:Nat→List PV) (zb2:Int) (zaN:Int) (zbh:Int) (zbF:Int) (zbG:Int):Prop:=vcY Try.prog zxq zcI l (cdF Try.f115 [1,0,0,1,1,0,0,1,1,0]) (zdK 2 (zdK 1 (zIS (zIU Try.prog zcI 17 (vcY Try.prog zxq zcI l (cdF Try.f115 [1,0,0,1,1,1]) (zjK Try.prog zcI 1 X0 (zdK 0 zlX)))) (zjK Try.prog zcI 1 X0 (zdK 0 zlX))))) ys false (zf8 l a za5 zf9 zcM zb2 zaN zbh zbF zbG)
theorem zB9 (l : Nat) (a : list) (ys : List (List PA)) :
  vcIter Try.prog zxq zcI 115 l [.one (.fp (zcL a) 0)] ys =
  (zh7 l ys a (0:Int)):=by kernel_rfl
def zmB (l:Nat) (X0:List (List PA)→Bool→St→Prop) (ys:List (List PA)) (a:list) (zam:Int):Prop :=
  (zcP (decide (zam < (a.Gates.len : Int)))
 (((0≤zam∧zam < (a.Gates.len:Int))) ∧
 (((0≤(w64 (zam+(1:Int)))∧(w64 (zam+(1:Int)))≤(a.Gates.len:Int)∧(a.Gates.len:Int)≤(a.Gates.len:Int))) ∧
 (zh8 l  X0 ys a zam (((a.Gates.len:Int) - (w64 (zam+(1:Int)))).toNat) (slG (fun i=>zac (a.Gates.get i)) ((w64 (zam+(1:Int))).toNat)) (((a.Gates.len:Int) - (w64 (zam+(1:Int)))).toNat:Int) (0:Int) ((a.Gates.get zam.toNat).Z) ((a.Gates.get zam.toNat).Low) ((a.Gates.get zam.toNat).High))))
 (ys=[]))
theorem zpV (l : Nat) (X0 : List (List PA) → Bool → St → Prop) (ys : List (List PA)) (a : list) (zam : Int) :
  vcY Try.prog zxq zcI l (cd (cdF Try.f115 [1,0]) [0]) (zjK Try.prog zcI 1 X0 (zdK 0 zlX)) ys false (zf7 l a zam) =
  zmB l X0 ys a zam:=by kernel_rfl
theorem zvp (l : Nat) (ys : List (List PA)) (a : list) (zam : Int)
  (h:∀ X0:List (List PA)→Bool→St→Prop,(∀ (ys:List (List PA)) (zam:Int),zmB l X0 ys a zam→X0 ys false (zf7 l a zam))→X0 ys false (zf7 l a zam)) :
  zh7 l ys a zam:=by
  have e:zh7 l ys a zam=(∀ X:List (List PA)→Bool→St→Prop,(∀ ys q s,vcY Try.prog zxq zcI l (cd (cdF Try.f115 [1,0]) [0]) (zjK Try.prog zcI 1 X (zdK 0 zlX)) ys q s→X ys q s)→X ys false (zf7 l a zam)):=by kernel_rfl
  refine zaI e ?_
  intro X hX
  refine h X ?_
  intro ys zam hs
  refine hX _ _ _ ?_
  have e2:=zpV l X ys a zam
  rw [e2]
  exact hs
def zmC (l:Nat) (X0:List (List PA)→Bool→St→Prop) (X1:List (List PA)→Bool→St→Prop) (ys:List (List PA)) (a:list) (za5:Int) (zaS:(Sl Gate)) (zb2:Int) (zaN:Int) (zbh:Int) (zbF:Int) (zbG:Int):Prop :=
  (zcP (decide (zaN < zb2))
 (((0≤zaN∧zaN < (zaS.len:Int))) ∧
 (zcP (zbh == (zaS.get zaN.toNat).Z)
 (X1 ys false (zf8 l a za5 zaS.len (fun i=>zac (zaS.get i)) zb2 (w64 (zaN+(1:Int))) zbh zbF zbG))
 (l=l∧∃ r1,ys=[.agg [.int .i64 ((zmA zbh zbF ((zaS.get zaN.toNat).Z) ((zaS.get zaN.toNat).Low)).slope),.int .i64 ((zmA zbh zbF ((zaS.get zaN.toNat).Z) ((zaS.get zaN.toNat).Low)).start),.int .i64 ((zmA zbh zbF ((zaS.get zaN.toNat).Z) ((zaS.get zaN.toNat).Low)).den)]] :: r1 ∧
 (l=l∧∃ r2,r1=[.agg [.int .i64 ((zmA zbh zbF ((zaS.get zaN.toNat).Z) ((zaS.get zaN.toNat).High)).slope),.int .i64 ((zmA zbh zbF ((zaS.get zaN.toNat).Z) ((zaS.get zaN.toNat).High)).start),.int .i64 ((zmA zbh zbF ((zaS.get zaN.toNat).Z) ((zaS.get zaN.toNat).High)).den)]] :: r2 ∧
 (l=l∧∃ r3,r2=[.agg [.int .i64 ((zmA zbh zbG ((zaS.get zaN.toNat).Z) ((zaS.get zaN.toNat).Low)).slope),.int .i64 ((zmA zbh zbG ((zaS.get zaN.toNat).Z) ((zaS.get zaN.toNat).Low)).start),.int .i64 ((zmA zbh zbG ((zaS.get zaN.toNat).Z) ((zaS.get zaN.toNat).Low)).den)]] :: r3 ∧
 (l=l∧∃ r4,r3=[.agg [.int .i64 ((zmA zbh zbG ((zaS.get zaN.toNat).Z) ((zaS.get zaN.toNat).High)).slope),.int .i64 ((zmA zbh zbG ((zaS.get zaN.toNat).Z) ((zaS.get zaN.toNat).High)).start),.int .i64 ((zmA zbh zbG ((zaS.get zaN.toNat).Z) ((zaS.get zaN.toNat).High)).den)]] :: r4 ∧
 (X1 r4 false (zf8 l a za5 zaS.len (fun i=>zac (zaS.get i)) zb2 (w64 (zaN+(1:Int))) zbh zbF zbG))∧True)∧True)∧True)∧True)))
 (X0 ys false (zf7 l a (w64 (za5+(1:Int))))))
theorem zpW (l : Nat) (X0 : List (List PA) → Bool → St → Prop) (X1 : List (List PA) → Bool → St → Prop) (ys : List (List PA)) (a : list) (za5 : Int) (zaS : (Sl Gate)) (zb2 : Int) (zaN : Int) (zbh : Int) (zbF : Int) (zbG : Int) :
  vcY Try.prog zxq zcI l (cd (cdF Try.f115 [1,0,0,1,1,0,0,1,1,0]) [0]) (zjK Try.prog zcI 4 X1 (zdK 2 (zdK 1 (zIS (zIU Try.prog zcI 17 (vcY Try.prog zxq zcI l (cdF Try.f115 [1,0,0,1,1,1]) (zjK Try.prog zcI 1 X0 (zdK 0 zlX)))) (zjK Try.prog zcI 1 X0 (zdK 0 zlX)))))) ys false (zf8 l a za5 zaS.len (fun i=>zac (zaS.get i)) zb2 zaN zbh zbF zbG) =
  zmC l  X0 X1 ys a za5 zaS zb2 zaN zbh zbF zbG:=by kernel_rfl
theorem zvq (l : Nat) (X0 : List (List PA) → Bool → St → Prop) (ys : List (List PA)) (a : list) (za5 : Int) (zf9 : Nat) (zcM : Nat → List PV) (zb2 : Int) (zaN : Int) (zbh : Int) (zbF : Int) (zbG : Int)
  (h:∀ X1:List (List PA)→Bool→St→Prop,(∀ (ys:List (List PA)) (za5:Int) (zaS:(Sl Gate)) (zb2:Int) (zaN:Int) (zbh:Int) (zbF:Int) (zbG:Int),zmC l  X0 X1 ys a za5 zaS zb2 zaN zbh zbF zbG→X1 ys false (zf8 l a za5 zaS.len (fun i=>zac (zaS.get i)) zb2 zaN zbh zbF zbG))→X1 ys false (zf8 l a za5 zf9 zcM zb2 zaN zbh zbF zbG)) :
  zh8 l  X0 ys a za5 zf9 zcM zb2 zaN zbh zbF zbG:=by
  have e:zh8 l  X0 ys a za5 zf9 zcM zb2 zaN zbh zbF zbG=(∀ X:List (List PA)→Bool→St→Prop,(∀ ys q s,vcY Try.prog zxq zcI l (cd (cdF Try.f115 [1,0,0,1,1,0,0,1,1,0]) [0]) (zjK Try.prog zcI 4 X (zdK 2 (zdK 1 (zIS (zIU Try.prog zcI 17 (vcY Try.prog zxq zcI l (cdF Try.f115 [1,0,0,1,1,1]) (zjK Try.prog zcI 1 X0 (zdK 0 zlX)))) (zjK Try.prog zcI 1 X0 (zdK 0 zlX)))))) ys q s→X ys q s)→X ys false (zf8 l a za5 zf9 zcM zb2 zaN zbh zbF zbG)):=by kernel_rfl
  refine zaI e ?_
  intro X hX
  refine h X ?_
  intro ys za5 zaS zb2 zaN zbh zbF zbG hs
  refine hX _ _ _ ?_
  have e2:=zpW l  X0 X ys a za5 zaS zb2 zaN zbh zbF zbG
  rw [e2]
  exact hs
attribute [irreducible] zh7 zh8
def znL (S0:Int→List straight) (a:list) (S1:Int→(Sl Gate)→Int→Int→Int→Int→Int→List straight) (za5:Int) (zaS:(Sl Gate)) (zb2:Int) (zaN:Int) (zbh:Int) (zbF:Int) (zbG:Int):List straight :=
  (cond (decide (zaN < zb2))
 (cond (zbh == (zaS.get zaN.toNat).Z)
 (S1 za5 zaS zb2 (w64 (zaN+(1:Int))) zbh zbF zbG)
 ((zmA zbh zbF ((zaS.get zaN.toNat).Z) ((zaS.get zaN.toNat).Low)) :: ((zmA zbh zbF ((zaS.get zaN.toNat).Z) ((zaS.get zaN.toNat).High)) :: ((zmA zbh zbG ((zaS.get zaN.toNat).Z) ((zaS.get zaN.toNat).Low)) :: ((zmA zbh zbG ((zaS.get zaN.toNat).Z) ((zaS.get zaN.toNat).High)) :: (S1 za5 zaS zb2 (w64 (zaN+(1:Int))) zbh zbF zbG))))))
 (S0 (w64 (za5+(1:Int)))))
def znM (P0:Int→Bool) (a:list) (P1:Int→(Sl Gate)→Int→Int→Int→Int→Int→Bool) (za5:Int) (zaS:(Sl Gate)) (zb2:Int) (zaN:Int) (zbh:Int) (zbF:Int) (zbG:Int):Bool :=
  (cond (decide (zaN < zb2))
 (decide ((0≤zaN∧zaN < (zaS.len:Int))) &&
 (cond (zbh == (zaS.get zaN.toNat).Z)
 (P1 za5 zaS zb2 (w64 (zaN+(1:Int))) zbh zbF zbG)
 (P1 za5 zaS zb2 (w64 (zaN+(1:Int))) zbh zbF zbG)))
 (P0 (w64 (za5+(1:Int)))))
def zh9 (S0 : Int → List straight) (a : list) : Nat → Int → (Sl Gate) → Int → Int → Int → Int → Int → List straight
  | 0=>fun _ _ _ _ _ _ _=>[]
  | k+1=>znL S0 a (zh9 S0 a k)
def zia (P0 : Int → Bool) (a : list) : Nat → Int → (Sl Gate) → Int → Int → Int → Int → Int → Bool
  | 0=>fun _ _ _ _ _ _ _=>false
  | k+1=>znM P0 a (zia P0 a k)
def ztS (S0:Int→List straight) (a:list) (za5:Int) (zaS:(Sl Gate)) (zb2:Int) (zaN:Int) (zbh:Int) (zbF:Int) (zbG:Int):List straight:=zh9 S0 a Fuel za5 zaS zb2 zaN zbh zbF zbG
def ztT (P0:Int→Bool) (a:list) (za5:Int) (zaS:(Sl Gate)) (zb2:Int) (zaN:Int) (zbh:Int) (zbF:Int) (zbG:Int):Bool:=zia P0 a Fuel za5 zaS zb2 zaN zbh zbF zbG
theorem zCa (l : Nat) (a : list)
  (X0:List (List PA)→Bool→St→Prop) (P0:Int→Bool) (S0:Int→List straight)
  (hX0:∀ (ys:List (List PA)) (zam:Int),P0 zam=true→ys=(S0 zam).map (fun y=>[.agg (zak y)])→X0 ys false (zf7 l a zam)) (ys:List (List PA)) (za5:Int) (zaS:(Sl Gate)) (zb2:Int) (zaN:Int) (zbh:Int) (zbF:Int) (zbG:Int) (zcM:Nat→List PV) (zlg:zcM=fun i=>zac (zaS.get i)) (hs:ztT P0 a za5 zaS zb2 zaN zbh zbF zbG=true) (hk:ys=(ztS S0 a za5 zaS zb2 zaN zbh zbF zbG).map (fun y=>[.agg (zak y)])):zh8 l  X0 ys a za5 zaS.len zcM zb2 zaN zbh zbF zbG:=by
  refine zvq l  X0 ys a za5 zaS.len zcM zb2 zaN zbh zbF zbG ?_
  intro X1 hstep
  have key:∀ (k:Nat) (ys:List (List PA)) (za5:Int) (zaS:(Sl Gate)) (zb2:Int) (zaN:Int) (zbh:Int) (zbF:Int) (zbG:Int) (zcM:Nat→List PV) (zlg:zcM=fun i=>zac (zaS.get i)),zia P0 a k za5 zaS zb2 zaN zbh zbF zbG=true→ys=(zh9 S0 a k za5 zaS zb2 zaN zbh zbF zbG).map (fun y=>[.agg (zak y)])→X1 ys false (zf8 l a za5 zaS.len zcM zb2 zaN zbh zbF zbG):=by
    intro k
    induction k with
    | zero=>intro ys za5 zaS zb2 zaN zbh zbF zbG zcM zlg hs;exact absurd hs Bool.false_ne_true
    | succ k ih =>
      intro ys za5 zaS zb2 zaN zbh zbF zbG zcM zlg hs hk
      subst zlg
      refine hstep ys za5 zaS zb2 zaN zbh zbF zbG ?_
      have hs:znM P0 a (zia P0 a k) za5 zaS zb2 zaN zbh zbF zbG=true:=hs
      have hk:ys=(znL S0 a (zh9 S0 a k) za5 zaS zb2 zaN zbh zbF zbG).map (fun y=>[.agg (zak y)]):=hk
      unfold znM at hs
      unfold znL at hk
      generalize zh9 S0 a k=S1 at hk ih
      generalize zia P0 a k=P1 at hs ih
      have hX1:=ih
      exact (znk hs hk
 (fun hs hk => (zaG hs fun hc hs => ⟨hc, (znk hs hk
 (fun hs hk=>(hX1 _ za5 zaS zb2 (w64 (zaN+(1:Int))) zbh zbF zbG (fun i=>zac (zaS.get i)) rfl hs hk))
 (fun hs hk=>(itY hk rfl (fun _ hk=>(itY hk rfl (fun _ hk=>(itY hk rfl (fun _ hk=>(itY hk rfl (fun _ hk=>(hX1 _ za5 zaS zb2 (w64 (zaN+(1:Int))) zbh zbF zbG (fun i=>zac (zaS.get i)) rfl hs hk)))))))))))⟩))
 (fun hs hk=>(hX0 _ (w64 (za5+(1:Int))) hs hk)))
  exact key _ _ za5 zaS zb2 zaN zbh zbF zbG zcM zlg hs hk
def znN (a:list) (S0:Int→List straight) (zam:Int):List straight :=
  (cond (decide (zam < (a.Gates.len : Int)))
 (ztS S0 a zam (⟨((a.Gates.len:Int) - (w64 (zam+(1:Int)))).toNat,(fun i=>a.Gates.get (i+((w64 (zam+(1:Int))).toNat)))⟩:Sl Gate) (((a.Gates.len:Int) - (w64 (zam+(1:Int)))).toNat:Int) (0:Int) ((a.Gates.get zam.toNat).Z) ((a.Gates.get zam.toNat).Low) ((a.Gates.get zam.toNat).High))
 [])
def znO (a:list) (P0:Int→Bool) (zam:Int):Bool :=
  (cond (decide (zam < (a.Gates.len : Int)))
 (decide ((0≤zam∧zam < (a.Gates.len:Int))) &&
 (decide ((0≤(w64 (zam+(1:Int)))∧(w64 (zam+(1:Int)))≤(a.Gates.len:Int)∧(a.Gates.len:Int)≤(a.Gates.len:Int))) &&
 (ztT P0 a zam (⟨((a.Gates.len:Int) - (w64 (zam+(1:Int)))).toNat,(fun i=>a.Gates.get (i+((w64 (zam+(1:Int))).toNat)))⟩:Sl Gate) (((a.Gates.len:Int) - (w64 (zam+(1:Int)))).toNat:Int) (0:Int) ((a.Gates.get zam.toNat).Z) ((a.Gates.get zam.toNat).Low) ((a.Gates.get zam.toNat).High))))
 true)
def zib (a : list) : Nat → Int → List straight
  | 0=>fun _=>[]
  | k+1=>znN a (zib a k)
def zic (a : list) : Nat → Int → Bool
  | 0=>fun _=>false
  | k+1=>znO a (zic a k)
def ztU (a:list) (zam:Int):List straight:=zib a Fuel zam
def ztV (a:list) (zam:Int):Bool:=zic a Fuel zam
theorem zCb (l:Nat) (a:list) (ys:List (List PA)) (zam:Int) (hs:ztV a zam=true) (hk:ys=(ztU a zam).map (fun y=>[.agg (zak y)])):zh7 l ys a zam:=by
  refine zvp l ys a zam ?_
  intro X0 hstep
  have key:∀ (k:Nat) (ys:List (List PA)) (zam:Int),zic a k zam=true→ys=(zib a k zam).map (fun y=>[.agg (zak y)])→X0 ys false (zf7 l a zam):=by
    intro k
    induction k with
    | zero=>intro ys zam hs;exact absurd hs Bool.false_ne_true
    | succ k ih =>
      intro ys zam hs hk
      refine hstep ys zam ?_
      have hs:znO a (zic a k) zam=true:=hs
      have hk:ys=(znN a (zib a k) zam).map (fun y=>[.agg (zak y)]):=hk
      unfold znO at hs
      unfold znN at hk
      generalize zib a k=S0 at hk ih
      generalize zic a k=P0 at hs ih
      have hX0:=ih
      exact (znk hs hk
 (fun hs hk=>(zaG hs fun hc hs=>⟨hc,(zaG hs fun hc hs=>⟨hc,(zCa l a X0 P0 S0 hX0 _ zam (⟨((a.Gates.len:Int) - (w64 (zam+(1:Int)))).toNat,(fun i=>a.Gates.get (i+((w64 (zam+(1:Int))).toNat)))⟩:Sl Gate) (((a.Gates.len:Int) - (w64 (zam+(1:Int)))).toNat:Int) (0:Int) ((a.Gates.get zam.toNat).Z) ((a.Gates.get zam.toNat).Low) ((a.Gates.get zam.toNat).High) (slG (fun i=>zac (a.Gates.get i)) ((w64 (zam+(1:Int))).toNat)) rfl hs hk)⟩)⟩))
 (fun hs hk=>hk))
  exact key _ _ zam hs hk
def zFC (a:list):List straight :=
  (ztU a (0:Int))
def zIG (a:list):Bool :=
  (ztV a (0:Int))
theorem zPk (l:Nat) (a:list) (ys:List (List PA)) (hs:zIG a=true) (hk:ys=(zFC a).map (fun y=>[.agg (zak y)])):vcIter Try.prog zxq zcI 115 l [.one (.fp (zcL a) 0)] ys:=by
  refine zaI (zB9 l a ys) ?_
  unfold zIG at hs
  unfold zFC at hk
  exact (zCb l a _ (0:Int) hs hk)
def zFD : List PA → Option (Prop × List (List PA))
  | [.one (.fp [.sl a_Gates_n a_Gates_s a_Gates_g] 0)]=>some (IsE zac 3 a_Gates_s a_Gates_g∧zIG (⟨(⟨a_Gates_n,zah a_Gates_g⟩:(Sl Gate))⟩:list)=true,(zFC (⟨(⟨a_Gates_n,zah a_Gates_g⟩:(Sl Gate))⟩:list)).map fun y=>[.agg (zak y)])
  | _=>none
theorem zFE:zal Try.prog 115:=⟨_,rfl,rfl,by kernel_rfl⟩
theorem zM1:zCV Try.prog 115 zFD:=zJj zJ3 zFE fun l caps safe ys h hs=>by
  unfold zFD at h
  split at h
  · rename_i a_Gates_n a_Gates_s a_Gates_g
    cases h
    obtain ⟨⟨rfl,a_Gates_f,rfl⟩,hs⟩:=hs
    try rw [zaf a_Gates_f] at hs
    try rw [zaf a_Gates_f]
    exact ⟨fun _ _=>[],fun _=>false,zcI,zPk l (⟨(⟨a_Gates_n,a_Gates_f⟩:(Sl Gate))⟩:list) _ hs rfl⟩
  · cases h
abbrev T65:Tabs:=(((((Tabs.nil.addF 67 zrS).addF 79 zB8).addF 96 zFy).addF 97 zFA).addI 115 zFD)
theorem zM2:TabsOk Try.prog T65:=(((((TabsOk.nil.addF zJU).addF zOk).addF zPg).addF zPh).addI zM1)
abbrev G65:Ctrs:=csm T65 (fun _ _=>[]) (fun l=>Nat.beq l 14)
def zid:Ann:=⟨39,[(0,⟨[0,2],[2],[],[],[],[],[]⟩),(1,⟨[2,3],[2,3],[],[],[],[],[]⟩),(2,⟨[2,3,12],[2,3],[],[],[],[],[]⟩),(3,⟨[2],[2],[],[],[],[],[]⟩),(4,⟨[2,3,4],[2,3,4,14],[],[],[],[],[]⟩),(5,⟨[2,3,4,17],[2,3,4,14],[],[],[],[],[]⟩),(6,⟨[2,3,4,5,17],[2,3,4,5,14,36],[],[],[],[],[]⟩),(7,⟨[2,3,4,5,6,17],[2,3,4,5,6,14,36],[],[],[],[],[]⟩),(8,⟨[2,3,4,5,6,17,29],[2,3,4,5,6,14,36],[],[],[],[],[]⟩),(9,⟨[2,3,4,5,17],[2,3,4,5,14,36],[],[],[],[],[]⟩),(10,⟨[2,3,4,17],[2,3,4,14,36],[],[],[],[],[]⟩),(11,⟨[2],[2,36],[],[],[],[],[]⟩)],
 [(6,⟨[2,3,4,17],[2,3,4,14,36],[],[(3,1,36,118,fun _=>zak default)],[],[],[]⟩)],
 [(3,⟨[2,3,12],[2,3],[],[],[],[],[]⟩),(4,⟨[2,3],[2,3],[],[],[],[],[]⟩)],
 [],[]⟩
def zJ4 (zaa:(Sl Gate)) (zaX:Bool):St:=⟨[(2,.one (.c (.ptr 2 0))),(3,.one (.c (.ptr 3 0))),(12,.one (.c (.p (.bool zaX))))],[(2,.box 104 [.p (.nils),.p (.nils)]),(3,.box 104 [.p (.sl zaa.len 3 (fun i=>zac (zaa.get i))),.p (.nils)])],[]⟩
def znP (K:List PA→Prop) (zaa:(Sl Gate)) (zaX:Bool):Prop:=vc Try.prog G65 zid (cdF Try.f65 [1,1,0,1]) (sqK Try.prog G65 zid (cdF Try.f65 [1,1,1]) (zbD Try.prog Try.f65 K)) (zJ4 zaa zaX)
def zJ5 (zaa:(Sl Gate)):St:=⟨[(2,.one (.c (.ptr 2 0))),(3,.one (.c (.ptr 3 0)))],[(2,.box 104 [.p (.nils),.p (.nils)]),(3,.box 104 [.p (.sl zaa.len 3 (fun i=>zac (zaa.get i))),.p (.nils)])],[]⟩
def znQ (K:List PA→Prop) (zaa:(Sl Gate)):Prop:=vc Try.prog G65 zid (cdF Try.f65 [1,1,1]) (zbD Try.prog Try.f65 K) (zJ5 zaa)
def zga (zaa:(Sl Gate)) (zgb:Nat) (zcN:Nat→List PV) (zaA:Nat) (zaq:(List Int→Option (List Int))):St:=⟨[(2,.one (.c (.ptr 2 0))),(3,.one (.c (.ptr 3 0))),(4,.one (.c (.ptr 4 0))),(17,.one (.c (.p (.fn 115 [] [.fp (zcL (⟨zaa⟩:list)) 0]))))],[(2,.box 104 [.p (.nils),.p (.nils)]),(3,.box 104 [.p (.sl zaa.len 3 (fun i=>zac (zaa.get i))),.vec 36]),(4,.box 136 [.mo 14]),(14,.mo 37 4 (true,4,false,[none]) zaA zaq),(36,.vec 118 3 24 zgb zcN)],[]⟩
def zlh (K:List PA→Prop) (zaa:(Sl Gate)) (zgb:Nat) (zcN:Nat→List PV) (zaA:Nat) (zaq:(List Int→Option (List Int))):Prop:=vc Try.prog G65 zid (cdF Try.f65 [1,1,1,1,0,1,0]) (zaz 0 (sqK Try.prog G65 zid (cdF Try.f65 [1,1,1,1,1]) (zbD Try.prog Try.f65 K))) (zga zaa zgb zcN zaA zaq)
theorem zFF (zaa : (Sl Gate)) (K : List PA → Prop) :
  vcFun Try.prog G65 zid 65 [.one (.sl zaa.len 3 (fun i=>zac (zaa.get i)))] K =
  ((IsE zac 3 3 (fun i=>zac (zaa.get i))∧(p67 (⟨zaa⟩:list)=true)) ∧
 (znP K zaa (s67 (⟨zaa⟩:list)))):=by kernel_rfl
theorem zFG (K : List PA → Prop) (zaa : (Sl Gate)) (zaX : Bool) :
  znP K zaa zaX =
  (zcP zaX
 (K [.agg [.sl zaa.len 3 (fun i=>zac (zaa.get i)),.nils]])
 (znQ K zaa)):=by kernel_rfl
theorem zFH (K : List PA → Prop) (zaa : (Sl Gate)) :
  znQ K zaa =
  ((IsE zac 3 3 (fun i=>zac (zaa.get i))) ∧
 (zlh K zaa 0 (fun i=>zak ((fun _=>default) i)) 0 (fun _=>none))):=by kernel_rfl
def zpX (K:List PA→Prop) (zaa:(Sl Gate)) (zaM:(Sl straight)) (zaA:Nat) (zaq:(List Int→Option (List Int))):Prop :=
  (K [.agg [.sl zaa.len 3 (fun i=>zac (zaa.get i)),.sl zaM.len 3 (fun i=>zak (zaM.get i))]])
def zpY (K:List PA→Prop) (X2:List (List PA)→St→Prop) (y2:straight) (rest2:List (List PA)) (zaa:(Sl Gate)) (zaM:(Sl straight)) (zaA:Nat) (zaq:(List Int→Option (List Int))):Prop :=
  (((p79 y2=true)) ∧
 (zcP (!((zdj (zaq [(s79 y2).Slope.Num, (s79 y2).Slope.Den, (s79 y2).Start.Num, (s79 y2).Start.Den]) 0) != 0))
 ((IsE zac 3 3 (fun i=>zac (zaa.get i))∧IsE zak 3 3 (fun i=>zak (zaM.get i))∧(p97 (⟨(⟨zaa⟩:list),zaM⟩:set) y2=true)) ∧
 (zcP (s97 (⟨(⟨zaa⟩ : list), zaM⟩ : set) y2)
 ((((zaM.len+1) * 24≤140737488355328∧zaM.len+1≤9223372036854775807)) ∧
 (X2 rest2 (zga zaa (zaM.len+1) (appG zaM.len (fun i=>zak (zaM.get i)) (fun _=>(zak y2))) (addN (zaq [(s79 y2).Slope.Num,(s79 y2).Slope.Den,(s79 y2).Start.Num,(s79 y2).Start.Den]) zaA) (ze4 [(s79 y2).Slope.Num,(s79 y2).Slope.Den,(s79 y2).Start.Num,(s79 y2).Start.Den] [1] zaq))))
 (X2 rest2 (zga zaa zaM.len (fun i=>zak (zaM.get i)) zaA zaq))))
 (X2 rest2 (zga zaa zaM.len (fun i=>zak (zaM.get i)) zaA zaq))))
theorem zrT (K:List PA→Prop) (zaa:(Sl Gate)) (zaM:(Sl straight)) (zaA:Nat) (zaq:(List Int→Option (List Int))):(zaz 0 (sqK Try.prog G65 zid (cdF Try.f65 [1,1,1,1,1]) (zbD Try.prog Try.f65 K))) .normal (zga zaa zaM.len (fun i=>zak (zaM.get i)) zaA zaq)=zpX K zaa zaM zaA zaq:=by kernel_rfl
theorem zrU (K : List PA → Prop) (X2 : List (List PA) → St → Prop) (y2 : straight) (rest2 : List (List PA)) (zaa : (Sl Gate)) (zaM : (Sl straight)) (zaA : Nat) (zaq : (List Int → Option (List Int))) :
  zN8 Try.prog G65 zid 6 [18] (cd (cdF Try.f65 [1,1,1,1,0,1,0]) [0]) (cd (cdF Try.f65 [1,1,1,1,0,1,0]) [1]) X2 (zaz 0 (sqK Try.prog G65 zid (cdF Try.f65 [1,1,1,1,1]) (zbD Try.prog Try.f65 K))) [.agg (zak y2)] rest2 (zga zaa zaM.len (fun i=>zak (zaM.get i)) zaA zaq)=zpY K X2 y2 rest2 zaa zaM zaA zaq:=by kernel_rfl
theorem zxr (K : List PA → Prop) (zaa : (Sl Gate)) (zgb : Nat) (zcN : Nat → List PV) (zaA : Nat) (zaq : (List Int → Option (List Int)))
  (hsafe:IsE zac 3 3 (fun i=>zac ((⟨zaa⟩:list).Gates.get i))∧(zIG (⟨zaa⟩:list)=true)) (h:∀ X2:List (List PA)→St→Prop,(∀ (zaM:(Sl straight)) (zaA:Nat) (zaq:(List Int→Option (List Int))),zpX K zaa zaM zaA zaq→X2 [] (zga zaa zaM.len (fun i=>zak (zaM.get i)) zaA zaq))→(∀ (y:straight) (rest:List (List PA)) (zaM:(Sl straight)) (zaA:Nat) (zaq:(List Int→Option (List Int))),zpY K X2 y rest zaa zaM zaA zaq→X2 ([.agg (zak y)] :: rest) (zga zaa zaM.len (fun i=>zak (zaM.get i)) zaA zaq))→X2 ((zFC (⟨zaa⟩:list)).map fun y=>[.agg (zak y)]) (zga zaa zgb zcN zaA zaq)) :
  zlh K zaa zgb zcN zaA zaq:=by
  have e:zlh K zaa zgb zcN zaA zaq=((IsE zac 3 3 (fun i=>zac ((⟨zaa⟩:list).Gates.get i))∧(zIG (⟨zaa⟩:list)=true))∧∀ X:List (List PA)→St→Prop,(∀ s,(zaz 0 (sqK Try.prog G65 zid (cdF Try.f65 [1,1,1,1,1]) (zbD Try.prog Try.f65 K))) .normal s→X [] s)→(∀ y rest s,zN8 Try.prog G65 zid 6 [18] (cd (cdF Try.f65 [1,1,1,1,0,1,0]) [0]) (cd (cdF Try.f65 [1,1,1,1,0,1,0]) [1]) X (zaz 0 (sqK Try.prog G65 zid (cdF Try.f65 [1,1,1,1,1]) (zbD Try.prog Try.f65 K))) y rest s→X (y :: rest) s)→X ((zFC (⟨zaa⟩:list)).map fun y=>[.agg (zak y)]) (zga zaa zgb zcN zaA zaq)):=by kernel_rfl
  refine zaI e ⟨hsafe,?_⟩
  intro X h0 h1
  refine h X (fun zaM zaA zaq hs=>h0 _ ?_) (fun y rest zaM zaA zaq hs=>h1 _ rest _ ?_)
  · rw [zrT K zaa zaM zaA zaq];exact hs
  · have e2 := zrU K X y rest zaa zaM zaA zaq
    rw [e2];exact hs
abbrev e65 (r:set):List PA:=[.agg [.sl r.list.Gates.len 3 (fun i=>zac (r.list.Gates.get i)),.sl r.corners.len 3 (fun i=>zak (r.corners.get i))]]
attribute [irreducible] znP znQ zlh
def zrV (zaa:(Sl Gate)) (zaM:(Sl straight)) (zaA:Nat) (zaq:(List Int→Option (List Int))):set :=
  (⟨(⟨zaa⟩:list),zaM⟩:set)
def zrW (zaa:(Sl Gate)) (zaM:(Sl straight)) (zaA:Nat) (zaq:(List Int→Option (List Int))):Bool :=
  true
def zrX (zaa:(Sl Gate)) (y2:straight) (S2:(Sl straight)→Nat→(List Int→Option (List Int))→set) (zaM:(Sl straight)) (zaA:Nat) (zaq:(List Int→Option (List Int))):set :=
  (cond (!((zdj (zaq [(s79 y2).Slope.Num, (s79 y2).Slope.Den, (s79 y2).Start.Num, (s79 y2).Start.Den]) 0) != 0))
 (cond (s97 (⟨(⟨zaa⟩ : list), zaM⟩ : set) y2)
 (S2 (⟨(zaM.len+1),(zeb zaM.len zaM.get (fun _=>y2))⟩:Sl straight) (addN (zaq [(s79 y2).Slope.Num,(s79 y2).Slope.Den,(s79 y2).Start.Num,(s79 y2).Start.Den]) zaA) (ze4 [(s79 y2).Slope.Num,(s79 y2).Slope.Den,(s79 y2).Start.Num,(s79 y2).Start.Den] [1] zaq))
 (S2 zaM zaA zaq))
 (S2 zaM zaA zaq))
def zrY (zaa:(Sl Gate)) (y2:straight) (P2:(Sl straight)→Nat→(List Int→Option (List Int))→Bool) (zaM:(Sl straight)) (zaA:Nat) (zaq:(List Int→Option (List Int))):Bool :=
  (decide ((p79 y2=true)) &&
 (cond (!((zdj (zaq [(s79 y2).Slope.Num, (s79 y2).Slope.Den, (s79 y2).Start.Num, (s79 y2).Start.Den]) 0) != 0))
 (decide ((p97 (⟨(⟨zaa⟩:list),zaM⟩:set) y2=true)) &&
 (cond (s97 (⟨(⟨zaa⟩ : list), zaM⟩ : set) y2)
 (decide (((zaM.len+1) * 24≤140737488355328∧zaM.len+1≤9223372036854775807)) &&
 (P2 (⟨(zaM.len+1),(zeb zaM.len zaM.get (fun _=>y2))⟩:Sl straight) (addN (zaq [(s79 y2).Slope.Num,(s79 y2).Slope.Den,(s79 y2).Start.Num,(s79 y2).Start.Den]) zaA) (ze4 [(s79 y2).Slope.Num,(s79 y2).Slope.Den,(s79 y2).Start.Num,(s79 y2).Start.Den] [1] zaq)))
 (P2 zaM zaA zaq)))
 (P2 zaM zaA zaq)))
def zli (zaa : (Sl Gate)) : List straight → (Sl straight) → Nat → (List Int → Option (List Int)) → set
  | []=>zrV zaa
  | y :: r=>zrX zaa y (zli zaa r)
def zlj (zaa : (Sl Gate)) : List straight → (Sl straight) → Nat → (List Int → Option (List Int)) → Bool
  | []=>zrW zaa
  | y :: r=>zrY zaa y (zlj zaa r)
def zxs (zaa:(Sl Gate)) (zaM:(Sl straight)) (zaA:Nat) (zaq:(List Int→Option (List Int))):set:=zli zaa (zFC (⟨zaa⟩:list)) zaM zaA zaq
def zrZ (zaa:(Sl Gate)) (zaM:(Sl straight)) (zaA:Nat) (zaq:(List Int→Option (List Int))):Bool:=decide ((zIG (⟨zaa⟩:list)=true)) && zlj zaa (zFC (⟨zaa⟩:list)) zaM zaA zaq
theorem zFI (K:List PA→Prop) (zaa:(Sl Gate)) (zaM:(Sl straight)) (zaA:Nat) (zaq:(List Int→Option (List Int))) (zcN:Nat→List PV) (ziZ:zcN=fun i=>zak (zaM.get i)) (hs:zrZ zaa zaM zaA zaq=true) (hk:K (e65 (zxs zaa zaM zaA zaq))):zlh (Wk K) zaa zaM.len zcN zaA zaq:=by
  unfold zrZ at hs
  rw [Bool.and_eq_true] at hs
  obtain ⟨hsf,hs⟩:=hs
  have hc:=of_decide_eq_true hsf
  refine zxr (Wk K) zaa zaM.len zcN zaA zaq ⟨isE,hc⟩ ?_
  intro X2 hexit hstep
  have key:∀ (l:List straight) (zaM:(Sl straight)) (zaA:Nat) (zaq:(List Int→Option (List Int))) (zcN:Nat→List PV) (ziZ:zcN=fun i=>zak (zaM.get i)),zlj zaa l zaM zaA zaq=true→K (e65 (zli zaa l zaM zaA zaq))→X2 (l.map fun y=>[.agg (zak y)]) (zga zaa zaM.len zcN zaA zaq):=by
    intro l
    induction l with
    | nil =>
      intro zaM zaA zaq zcN ziZ hs hk
      subst ziZ
      refine hexit zaM zaA zaq ?_
      have hs:zrW zaa zaM zaA zaq=true:=hs
      have hk:K (e65 (zrV zaa zaM zaA zaq)):=hk
      unfold zrW at hs
      unfold zrV at hk
      exact (zd0 hk)
    | cons y2 l ih =>
      intro zaM zaA zaq zcN ziZ hs hk
      subst ziZ
      refine hstep y2 _ zaM zaA zaq ?_
      have hs:zrY zaa y2 (zlj zaa l) zaM zaA zaq=true:=hs
      have hk:K (e65 (zrX zaa y2 (zli zaa l) zaM zaA zaq)):=hk
      unfold zrY at hs
      unfold zrX at hk
      generalize zli zaa l=S2 at hk ih
      generalize zlj zaa l=P2 at hs ih
      have hX2:=ih
      exact (zaG hs fun hc hs => ⟨hc, (zbq (K := fun r => K (e65 r))
 (fun hs hk => (zaG hs fun hc hs => ⟨⟨isE, isE, hc⟩, (zbq (K := fun r => K (e65 r))
 (fun hs hk=>(zaG hs fun hc hs=>⟨hc,(hX2 (⟨(zaM.len+1),(zeb zaM.len zaM.get (fun _=>y2))⟩:Sl straight) (addN (zaq [(s79 y2).Slope.Num,(s79 y2).Slope.Den,(s79 y2).Start.Num,(s79 y2).Start.Den]) zaA) (ze4 [(s79 y2).Slope.Num,(s79 y2).Slope.Den,(s79 y2).Start.Num,(s79 y2).Start.Den] [1] zaq) (appG zaM.len (fun i=>zak (zaM.get i)) (fun _=>(zak y2))) (zgU (enc:=zak) (f:=zaM.get) (h:=(fun _=>y2)) rfl rfl) hs hk)⟩))
 (fun hs hk=>(hX2 zaM zaA zaq (fun i=>zak (zaM.get i)) rfl hs hk)) hs hk)⟩))
 (fun hs hk=>(hX2 zaM zaA zaq (fun i=>zak (zaM.get i)) rfl hs hk)) hs hk)⟩)
  exact key _ zaM zaA zaq zcN ziZ hs hk
def zr0 (zaa:(Sl Gate)):set :=
  (zxs zaa (⟨0,(fun _=>default)⟩:Sl straight) 0 (fun _=>none))
def zr1 (zaa:(Sl Gate)):Bool :=
  (zrZ zaa (⟨0,(fun _=>default)⟩:Sl straight) 0 (fun _=>none))
theorem zFJ (K:List PA→Prop) (zaa:(Sl Gate)) (hs:zr1 zaa=true) (hk:K (e65 (zr0 zaa))):znQ (Wk K) zaa:=by
  refine zaI (zFH (Wk K) zaa) ?_
  unfold zr1 at hs
  unfold zr0 at hk
  exact ⟨isE,(zFI K zaa (⟨0,(fun _=>default)⟩:Sl straight) 0 (fun _=>none) (fun i=>zak ((fun _=>default) i)) rfl hs hk)⟩
def zr2 (zaa:(Sl Gate)) (zaX:Bool):set :=
  (cond zaX
 (⟨(⟨zaa⟩:list),(⟨0,fun _=>default⟩:(Sl straight))⟩:set)
 (zr0 zaa))
def zr3 (zaa:(Sl Gate)) (zaX:Bool):Bool :=
  (cond zaX
 true
 (zr1 zaa))
theorem zFK (K:List PA→Prop) (zaa:(Sl Gate)) (zaX:Bool) (hs:zr3 zaa zaX=true) (hk:K (e65 (zr2 zaa zaX))):znP (Wk K) zaa zaX:=by
  refine zaI (zFG (Wk K) zaa zaX) ?_
  unfold zr3 at hs
  unfold zr2 at hk
  exact (zbq (K := fun r => K (e65 r))
 (fun hs hk=>(wk hk (zdy (.agg (zdy (.rfl _) (zdy (.nil _ _) zh1))) zh1)))
 (fun hs hk=>(zFJ K zaa hs hk)) hs hk)
def s65 (zaa:(Sl Gate)):set :=
  (zr2 zaa (s67 (⟨zaa⟩:list)))
def p65 (zaa:(Sl Gate)):Bool :=
  (decide ((p67 (⟨zaa⟩:list)=true)) &&
 (zr3 zaa (s67 (⟨zaa⟩:list))))
theorem q65 (zaa:(Sl Gate)) (K:List PA→Prop) (hs:p65 zaa=true) (hk:K (e65 (s65 zaa))):vcFun Try.prog G65 zid 65 [.one (.sl zaa.len 3 (fun i=>zac (zaa.get i)))] (Wk K):=by
  refine zaI (zFF zaa (Wk K)) ?_
  unfold p65 at hs
  unfold s65 at hk
  exact (zaG hs fun hc hs=>⟨⟨isE,hc⟩,(zFK K zaa (s67 (⟨zaa⟩:list)) hs hk)⟩)
def zxt : List PA → COut
  | [.one (.sl a0_n a0_s a0_g)]=>.det (IsE zac 3 a0_s a0_g∧p65 (⟨a0_n,zah a0_g⟩:(Sl Gate))=true) [.agg [.sl ((s65 (⟨a0_n,zah a0_g⟩:(Sl Gate))).list.Gates.len) 3 (fun i=>zac ((s65 (⟨a0_n,zah a0_g⟩:(Sl Gate))).list.Gates.get i)),.sl ((s65 (⟨a0_n,zah a0_g⟩:(Sl Gate))).corners.len) 3 (fun i=>zak ((s65 (⟨a0_n,zah a0_g⟩:(Sl Gate))).corners.get i))]]
  | _=>.no
theorem zJ6:zal Try.prog 65:=⟨_,rfl,rfl,by kernel_rfl⟩
theorem zM3:Ok Try.prog 65 zxt:=zfW zM2 zJ6 fun args K h=>by
  unfold zxt at h
  split at h
  · rename_i a0_n a0_s a0_g
    obtain ⟨⟨⟨rfl,a0_f,rfl⟩,hs⟩,hk⟩:=h
    try rw [zaf a0_f] at hs
    try rw [zaf a0_f] at hk
    exact ⟨_,zeY zfF _,(fun _ _=>[]),(fun l=>Nat.beq l 14),zid,q65 (⟨a0_n,a0_f⟩:(Sl Gate)) K hs hk⟩
  · exact h.elim
abbrev T98:Tabs:=Tabs.nil
theorem zM4:TabsOk Try.prog T98:=TabsOk.nil
abbrev G98:Ctrs:=csm T98 (fun _ _=>[]) (fun _=>false)
def zFL:Ann:=⟨38,[(0,zK [1,2] [1,2]),(1,zK [1,2,3] [1,2,3]),(2,zK [2,3,18,19,20] [2,3]),(3,zK [2,3,18,19,20,21] [2,3]),(4,zK [2,3,5,18,19,20] [2,3,5]),(5,zK [2,3,18,19,20] [2,3]),(6,zK [2,3,18,19,20] [2,3]),(7,zK [2] [2])],
 [(3,zK [2,3,18,19,20] [2,3])],
 [],
 [],[]⟩
abbrev R98:=Span
abbrev e98 (r:R98):List PA:=[.agg [.int .i64 r.Low,.int .i64 r.High]]
@[irreducible] def z98:=ptF Try.prog G98 zFL Try.f98
def zDo (l_a0:list) (zcJ:Int) (zax:Int) (zay:Int):St:=⟨[(2,zp 2 0),(3,zp 3 0),(18,zS zac 3 l_a0.Gates),(19,zI (l_a0.Gates.len:Int)),(20,zI zcJ)],[(2,.box 96 (zm (zao (⟨(0:Int),(0:Int)⟩:Span)))),(3,.box 96 (zm (zao (⟨zax,zay⟩:Span))))],[]⟩
abbrev zJ7 (K:List PA→Prop) (l_a0:list) (X:St→Prop) (P:Int→Int→Int→Bool) (S:Int→Int→Int→Span):Prop:=∀ ⦃zcJ:Int⦄ ⦃zax:Int⦄ ⦃zay:Int⦄,P zcJ zax zay=true→K (e98 (S zcJ zax zay))→X (zDo l_a0 zcJ zax zay)
section
variable {K:List PA→Prop} {l_a0:list} {zcJ:Int} {zax:Int} {zay:Int} {X0:St→Prop} {P0:Int→Int→Int→Bool} {S0:Int→Int→Int→Span}
def zxu (l_a0:list) (S0:Int→Int→Int→Span) (zcJ:Int) (zax:Int) (zay:Int):Span :=
  (cond (decide (zcJ < (l_a0.Gates.len : Int)))
 (S0 (w64 (zcJ+(1:Int))) (if (l_a0.Gates.get zcJ.toNat).Low > zax then (l_a0.Gates.get zcJ.toNat).Low else zax) (if (l_a0.Gates.get zcJ.toNat).High < zay then (l_a0.Gates.get zcJ.toNat).High else zay))
 (⟨zax,zay⟩:Span))
def zxv (l_a0:list) (P0:Int→Int→Int→Bool) (zcJ:Int) (zax:Int) (zay:Int):Bool :=
  (cond (decide (zcJ < (l_a0.Gates.len : Int)))
 (decide ((0≤zcJ∧zcJ < (l_a0.Gates.len:Int))) &&
 (P0 (w64 (zcJ+(1:Int))) (if (l_a0.Gates.get zcJ.toNat).Low > zax then (l_a0.Gates.get zcJ.toNat).Low else zax) (if (l_a0.Gates.get zcJ.toNat).High < zay then (l_a0.Gates.get zcJ.toNat).High else zay)))
 true)
def zxw (l_a0:list):Nat→Int→Int→Int→Span:=lpO (fun _ _ _=>default) (zxu l_a0)
def zxx (l_a0:list):Nat→Int→Int→Int→Bool:=lpO (fun _ _ _=>false) (zxv l_a0)
def zxy (l_a0:list) (zcJ:Int) (zax:Int) (zay:Int):Span:=zxw l_a0 Fuel zcJ zax zay
def zxz (l_a0:list) (zcJ:Int) (zax:Int) (zay:Int):Bool:=zxx l_a0 Fuel zcJ zax zay
theorem zFM (hs:zxz l_a0 zcJ zax zay=true) (hk:K (e98 (zxy l_a0 zcJ zax zay))):z98 K [1,1,0,1,0] [] (zDo l_a0 zcJ zax zay) :=
  zl (fun X=>z98 K [1,1,0,1,0,0] [X]) (by kernel_rfl) fun X0 hX =>
  (show ∀ k, zJ7 K l_a0 X0 (zxx l_a0 k) (zxw l_a0 k) from zgM _ _ (zxv l_a0) (zxu l_a0) (zJ7 K l_a0 X0)
 (by intro _ _ _ hs;exact absurd hs Bool.false_ne_true)
 (by intro P0 S0 hX0 zcJ zax zay hs hk;exact hX _ (zaI (by kernel_rfl) (zc hs hk (fun hs hk=>(zaG hs fun hc hs=>And.intro hc (hX0 hs hk))) (fun hs hk=>hk))))) _ hs hk
def s98 (l_a0:list):Span :=
  (zxy l_a0 (0:Int) ((l_a0.Gates.get 0).Low) ((l_a0.Gates.get 0).High))
def p98 (l_a0:list):Bool :=
  (decide ((0≤(0:Int)∧(0:Int) < (l_a0.Gates.len:Int))) &&
 (decide ((0≤(0:Int)∧(0:Int) < (l_a0.Gates.len:Int))) &&
 (zxz l_a0 (0:Int) ((l_a0.Gates.get 0).Low) ((l_a0.Gates.get 0).High))))
end
theorem q98 (l_a0:list) (K:List PA→Prop) (hs:p98 l_a0=true) (hk:K (e98 (s98 l_a0))):vcFun Try.prog G98 zFL 98 [.agg (zcL l_a0)] K :=
  zaI (by kernel_rfl) (zaG hs fun hc hs=>And.intro hc (zaG hs fun hc hs=>And.intro hc (zFM hs hk)))
def zCc : List PA → COut
  | [.agg [.sl a0_Gates_n a0_Gates_s a0_Gates_g]]=>.det (IsE zac 3 a0_Gates_s a0_Gates_g∧p98 (⟨(⟨a0_Gates_n,zah a0_Gates_g⟩:(Sl Gate))⟩:list)=true) [.agg [.int .i64 ((s98 (⟨(⟨a0_Gates_n,zah a0_Gates_g⟩:(Sl Gate))⟩:list)).Low),.int .i64 ((s98 (⟨(⟨a0_Gates_n,zah a0_Gates_g⟩:(Sl Gate))⟩:list)).High)]]
  | _=>.no
theorem zJ8:zal Try.prog 98:=⟨_,rfl,rfl,by kernel_rfl⟩
theorem zOo:Ok Try.prog 98 zCc:=zaY zM4 zJ8 fun args K h=>by
  unfold zCc at h
  split at h
  · rename_i a0_Gates_n a0_Gates_s a0_Gates_g
    obtain ⟨⟨⟨rfl,a0_Gates_f,rfl⟩,hs⟩,hk⟩:=h
    try rw [zaf a0_Gates_f] at hs
    try rw [zaf a0_Gates_f] at hk
    exact ⟨(fun _ _=>[]),(fun _=>false),zFL,q98 (⟨(⟨a0_Gates_n,a0_Gates_f⟩:(Sl Gate))⟩:list) K hs hk⟩
  · exact h.elim
abbrev T66:Tabs:=((Tabs.nil.addF 67 zrS).addF 98 zCc)
theorem zM5:TabsOk Try.prog T66:=((TabsOk.nil.addF zJU).addF zOo)
abbrev G66:Ctrs:=csm T66 (fun _ _=>[]) (fun _=>false)
def zJ9:Ann:=⟨19,[(0,zK [1] [1]),(1,zK [1,3] [1,3]),(2,zK [1,3,9] [1,3]),(3,zK [2] []),(4,zK [2] [])],
 [],
 [],
 [],[]⟩
abbrev R66:=Bool
abbrev e66 (r:R66):List PA:=[.one (.bool r)]
section
variable {K:List PA→Prop} {s:set}
def s66 (s:set):Bool :=
  (cond (s67 s.list)
 (decide ((s98 s.list).Low≤(s98 s.list).High))
 (decide ((s.corners.len:Int) > (0:Int))))
def p66 (s:set):Bool :=
  (decide ((p98 s.list=true)) &&
 (decide ((p67 s.list=true)) &&
 true))
end
theorem q66 (s:set) (K:List PA→Prop) (hs:p66 s=true) (hk:K (e66 (s66 s))):vcFun Try.prog G66 zJ9 66 [.agg (zbg s)] K :=
  zaI (by kernel_rfl) (zaG hs fun hc hs=>And.intro (And.intro (zE zac 3 s.list.Gates.get) hc) (zaG hs fun hc hs=>And.intro (And.intro (zE zac 3 s.list.Gates.get) hc) (zt hk (fun hk=>hk) (fun hk=>hk))))
def zxA : List PA → COut
  | [.agg [.sl a0_list_Gates_n a0_list_Gates_s a0_list_Gates_g,.sl a0_corners_n a0_corners_s a0_corners_g]]=>.det (IsE zac 3 a0_list_Gates_s a0_list_Gates_g∧IsE zak 3 a0_corners_s a0_corners_g∧p66 (⟨(⟨(⟨a0_list_Gates_n,zah a0_list_Gates_g⟩:(Sl Gate))⟩:list),(⟨a0_corners_n,za7 a0_corners_g⟩:(Sl straight))⟩:set)=true) [.one (.bool (s66 (⟨(⟨(⟨a0_list_Gates_n,zah a0_list_Gates_g⟩:(Sl Gate))⟩:list),(⟨a0_corners_n,za7 a0_corners_g⟩:(Sl straight))⟩:set)))]
  | _=>.no
theorem zKa:zal Try.prog 66:=⟨_,rfl,rfl,by kernel_rfl⟩
theorem zM6:Ok Try.prog 66 zxA:=zaY zM5 zKa fun args K h=>by
  unfold zxA at h
  split at h
  · rename_i a0_list_Gates_n a0_list_Gates_s a0_list_Gates_g a0_corners_n a0_corners_s a0_corners_g
    obtain ⟨⟨⟨rfl,a0_list_Gates_f,rfl⟩,⟨rfl,a0_corners_f,rfl⟩,hs⟩,hk⟩:=h
    try rw [zaf a0_list_Gates_f] at hs
    try rw [zaf a0_list_Gates_f] at hk
    try rw [za1 a0_corners_f] at hs
    try rw [za1 a0_corners_f] at hk
    exact ⟨(fun _ _=>[]),(fun _=>false),zJ9,q66 (⟨(⟨(⟨a0_list_Gates_n,a0_list_Gates_f⟩:(Sl Gate))⟩:list),(⟨a0_corners_n,a0_corners_f⟩:(Sl straight))⟩:set) K hs hk⟩
  · exact h.elim
abbrev zOp:Tabs:=Tabs.nil
theorem zKb:TabsOk Try.prog zOp:=TabsOk.nil
abbrev zPl:Ctrs:=csm zOp (fun _ _=>[]) (fun _=>false)
def zDp:Ann:=⟨6,[(0,zK [0] []),(1,zK [2] [])],
 [],
 [],
 [],[]⟩
abbrev zPm:=Bool
abbrev e120 (r:zPm):List PA:=[.one (.bool r)]
section
variable {K:List PA→Prop} {x:Int}
def zKc (x:Int):Bool :=
  (x != x)
end
theorem zPn (x:Int) (K:List PA→Prop) (hk:K (e120 (zKc x))):vcFun Try.prog zPl zDp 120 [.one (.int .i64 x)] K :=
  zaI (by kernel_rfl) hk
def zxB : List PA → COut
  | [.one (.int .i64 a0)]=>.tot [.one (.bool (zKc a0))]
  | _=>.no
theorem zFN:zal Try.prog 120:=⟨_,rfl,rfl,by kernel_rfl⟩
theorem zM7:Ok Try.prog 120 zxB:=zaY zKb zFN fun args K h=>by
  unfold zxB at h
  split at h
  · rename_i a0
    have hk:=h
    exact ⟨(fun _ _=>[]),(fun _=>false),zDp,zPn a0 K hk⟩
  · exact h.elim
abbrev zOq:Tabs:=(Tabs.nil.addF 120 zxB)
theorem zKd:TabsOk Try.prog zOq:=(TabsOk.nil.addF zM7)
abbrev zPo:Ctrs:=csm zOq (fun _ _=>[]) (fun _=>false)
def zDq:Ann:=⟨20,[(0,zK [0,1] []),(1,zK [0,1,5] []),(2,zK [0,1,5,6] []),(3,zK [0,1,6,11] []),(4,zK [12] []),(5,zK [4] []),(6,zK [4] []),(7,zK [0,1,13] []),(8,zK [4] []),(9,zK [0,1,16] []),(10,zK [4] []),(11,zK [19] []),(12,zK [4] []),(13,zK [4] [])],
 [],
 [],
 [],[]⟩
abbrev zPp:=Int
abbrev zPq (r:zPp):List PA:=[.one (.int .i64 r)]
section
variable {K:List PA→Prop} {x:Int} {y_a1:Int}
def zM8 (x:Int) (y_a1:Int):Int :=
  (cond (zKc x)
 (cond (zKc y_a1)
 (0:Int)
 (-1:Int))
 (cond (zKc y_a1)
 (1:Int)
 (cond (decide (x < y_a1))
 (-1:Int)
 (cond (decide (x > y_a1))
 (1:Int)
 (0:Int)))))
end
theorem zPr (x:Int) (y_a1:Int) (K:List PA→Prop) (hk:K (zPq (zM8 x y_a1))):vcFun Try.prog zPo zDq 103 [.one (.int .i64 x),.one (.int .i64 y_a1)] K :=
  zaI (by kernel_rfl) (zt hk (fun hk=>(zt hk (fun hk=>hk) (fun hk=>hk))) (fun hk=>(zt hk (fun hk=>hk) (fun hk=>(zt hk (fun hk=>hk) (fun hk=>(zt hk (fun hk=>hk) (fun hk=>hk))))))))
def zxC : List PA → COut
  | [.one (.int .i64 a0),.one (.int .i64 a1)]=>.tot [.one (.int .i64 (zM8 a0 a1))]
  | _=>.no
theorem zFO:zal Try.prog 103:=⟨_,rfl,rfl,by kernel_rfl⟩
theorem zM9:Ok Try.prog 103 zxC:=zaY zKd zFO fun args K h=>by
  unfold zxC at h
  split at h
  · rename_i a0 a1
    have hk:=h
    exact ⟨(fun _ _=>[]),(fun _=>false),zDq,zPr a0 a1 K hk⟩
  · exact h.elim
abbrev T69:Tabs:=(Tabs.nil.addF 103 zxC)
theorem zNa:TabsOk Try.prog T69:=(TabsOk.nil.addF zM9)
abbrev G69:Ctrs:=csm T69 (fun _ _=>[]) (fun _=>false)
def zKe:Ann:=⟨16,[(0,zK [2,3] [2,3]),(1,zK [4] [])],
 [],
 [],
 [],[]⟩
abbrev R69:=Int
abbrev e69 (r:R69):List PA:=[.one (.int .i64 r)]
section
variable {K:List PA→Prop} {a:Frac} {b:Frac}
def s69 (a:Frac) (b:Frac):Int :=
  (zM8 (w64 (a.Num * b.Den)) (w64 (b.Num * a.Den)))
end
theorem q69 (a:Frac) (b:Frac) (K:List PA→Prop) (hk:K (e69 (s69 a b))):vcFun Try.prog G69 zKe 69 [.agg (zai a),.agg (zai b)] K :=
  zaI (by kernel_rfl) hk
def zvr : List PA → COut
  | [.agg [.int .i64 a0_Num,.int .i64 a0_Den],.agg [.int .i64 a1_Num,.int .i64 a1_Den]]=>.tot [.one (.int .i64 (s69 (⟨a0_Num,a0_Den⟩:Frac) (⟨a1_Num,a1_Den⟩:Frac)))]
  | _=>.no
theorem zKf:zal Try.prog 69:=⟨_,rfl,rfl,by kernel_rfl⟩
theorem zL4:Ok Try.prog 69 zvr:=zaY zNa zKf fun args K h=>by
  unfold zvr at h
  split at h
  · rename_i a0_Num a0_Den a1_Num a1_Den
    have hk:=h
    exact ⟨(fun _ _=>[]),(fun _=>false),zKe,q69 (⟨a0_Num,a0_Den⟩:Frac) (⟨a1_Num,a1_Den⟩:Frac) K hk⟩
  · exact h.elim
abbrev T83:Tabs:=Tabs.nil
theorem zNb:TabsOk Try.prog T83:=TabsOk.nil
abbrev G83:Ctrs:=csm T83 (fun _ _=>[]) (fun _=>false)
def zKg:Ann:=⟨8,[(0,zK [1,2] [1,2]),(1,zK [2] [2])],
 [],
 [],
 [],[]⟩
abbrev R83:=Frac
abbrev e83 (r:R83):List PA:=[.agg [.int .i64 r.Num,.int .i64 r.Den]]
section
variable {K:List PA→Prop} {x:straight}
def s83 (x:straight):Frac :=
  (⟨x.slope,x.den⟩:Frac)
end
theorem q83 (x:straight) (K:List PA→Prop) (hk:K (e83 (s83 x))):vcFun Try.prog G83 zKg 83 [.agg (zak x)] K :=
  zaI (by kernel_rfl) hk
def zFP : List PA → COut
  | [.agg [.int .i64 a0_slope,.int .i64 a0_start,.int .i64 a0_den]]=>.tot [.agg [.int .i64 ((s83 (⟨a0_slope,a0_start,a0_den⟩:straight)).Num),.int .i64 ((s83 (⟨a0_slope,a0_start,a0_den⟩:straight)).Den)]]
  | _=>.no
theorem zKh:zal Try.prog 83:=⟨_,rfl,rfl,by kernel_rfl⟩
theorem zPs:Ok Try.prog 83 zFP:=zaY zNb zKh fun args K h=>by
  unfold zFP at h
  split at h
  · rename_i a0_slope a0_start a0_den
    have hk:=h
    exact ⟨(fun _ _=>[]),(fun _=>false),zKg,q83 (⟨a0_slope,a0_start,a0_den⟩:straight) K hk⟩
  · exact h.elim
abbrev zOr:Tabs:=Tabs.nil
theorem zKi:TabsOk Try.prog zOr:=TabsOk.nil
abbrev zPt:Ctrs:=csm zOr (fun _ _=>[]) (fun _=>false)
def zDr:Ann:=⟨15,[(0,zK [1,2,4] [2,4]),(1,zK [4] [4])],
 [],
 [],
 [],[]⟩
abbrev zPu:=Frac
abbrev zPv (r:zPu):List PA:=[.agg [.int .i64 r.Num,.int .i64 r.Den]]
section
variable {K:List PA→Prop} {s:straight} {z:Int}
def zL5 (s:straight) (z:Int):Frac :=
  (⟨(w64 (s.start+(w64 (s.slope * z)))),s.den⟩:Frac)
end
theorem zPw (s:straight) (z:Int) (K:List PA→Prop) (hk:K (zPv (zL5 s z))):vcFun Try.prog zPt zDr 102 [.agg (zak s),.one (.int .i64 z)] K :=
  zaI (by kernel_rfl) hk
def zxD : List PA → COut
  | [.agg [.int .i64 a0_slope,.int .i64 a0_start,.int .i64 a0_den],.one (.int .i64 a1)]=>.tot [.agg [.int .i64 ((zL5 (⟨a0_slope,a0_start,a0_den⟩:straight) a1).Num),.int .i64 ((zL5 (⟨a0_slope,a0_start,a0_den⟩:straight) a1).Den)]]
  | _=>.no
theorem zFQ:zal Try.prog 102:=⟨_,rfl,rfl,by kernel_rfl⟩
theorem zNc:Ok Try.prog 102 zxD:=zaY zKi zFQ fun args K h=>by
  unfold zxD at h
  split at h
  · rename_i a0_slope a0_start a0_den a1
    have hk:=h
    exact ⟨(fun _ _=>[]),(fun _=>false),zDr,zPw (⟨a0_slope,a0_start,a0_den⟩:straight) a1 K hk⟩
  · exact h.elim
abbrev zOs:Tabs:=(Tabs.nil.addF 102 zxD)
theorem zKj:TabsOk Try.prog zOs:=(TabsOk.nil.addF zNc)
abbrev zPx:Ctrs:=csm zOs (fun _ _=>[]) (fun _=>false)
def zDs:Ann:=⟨7,[(0,zK [1,2,3] [2,3]),(1,zK [3] [3])],
 [],
 [],
 [],[]⟩
abbrev zPy:=Frac
abbrev zPz (r:zPy):List PA:=[.agg [.int .i64 r.Num,.int .i64 r.Den]]
section
variable {K:List PA→Prop} {c0:Int} {x:straight}
def zIH (c0:Int) (x:straight):Frac :=
  (zL5 x c0)
end
theorem zPA (c0:Int) (x:straight) (K:List PA→Prop) (hk:K (zPz (zIH c0 x))):vcFun Try.prog zPx zDs 101 [.agg (zak x),.one (.fp (enc_3 c0) 0)] K :=
  zaI (by kernel_rfl) hk
def zxE : List PA → COut
  | [.agg [.int .i64 a0_slope,.int .i64 a0_start,.int .i64 a0_den],.one (.fp [.int .i64 c0] 0)]=>.tot [.agg [.int .i64 ((zIH c0 (⟨a0_slope,a0_start,a0_den⟩:straight)).Num),.int .i64 ((zIH c0 (⟨a0_slope,a0_start,a0_den⟩:straight)).Den)]]
  | _=>.no
theorem zFR:zal Try.prog 101:=⟨_,rfl,rfl,by kernel_rfl⟩
theorem zNd:Ok Try.prog 101 zxE:=zaY zKj zFR fun args K h=>by
  unfold zxE at h
  split at h
  · rename_i a0_slope a0_start a0_den c0
    have hk:=h
    exact ⟨(fun _ _=>[]),(fun _=>false),zDs,zPA c0 (⟨a0_slope,a0_start,a0_den⟩:straight) K hk⟩
  · exact h.elim
abbrev zOt:Tabs:=(Tabs.nil.addF 69 zvr)
theorem zKk:TabsOk Try.prog zOt:=(TabsOk.nil.addF zL4)
abbrev zPB:Ctrs:=csm zOt (fun _ _=>[]) (fun _=>false)
def zDt:Ann:=⟨9,[(0,zK [2,3] [2,3]),(1,zK [4] [])],
 [],
 [],
 [],[]⟩
abbrev zPC:=Bool
abbrev zPD (r:zPC):List PA:=[.one (.bool r)]
section
variable {K:List PA→Prop} {a:Frac} {b:Frac}
def zL6 (a:Frac) (b:Frac):Bool :=
  (decide ((s69 a b) < (0:Int)))
end
theorem zPE (a:Frac) (b:Frac) (K:List PA→Prop) (hk:K (zPD (zL6 a b))):vcFun Try.prog zPB zDt 112 [.agg (zai a),.agg (zai b)] K :=
  zaI (by kernel_rfl) hk
def zxF : List PA → COut
  | [.agg [.int .i64 a0_Num,.int .i64 a0_Den],.agg [.int .i64 a1_Num,.int .i64 a1_Den]]=>.tot [.one (.bool (zL6 (⟨a0_Num,a0_Den⟩:Frac) (⟨a1_Num,a1_Den⟩:Frac)))]
  | _=>.no
theorem zFS:zal Try.prog 112:=⟨_,rfl,rfl,by kernel_rfl⟩
theorem zNe:Ok Try.prog 112 zxF:=zaY zKk zFS fun args K h=>by
  unfold zxF at h
  split at h
  · rename_i a0_Num a0_Den a1_Num a1_Den
    have hk:=h
    exact ⟨(fun _ _=>[]),(fun _=>false),zDt,zPE (⟨a0_Num,a0_Den⟩:Frac) (⟨a1_Num,a1_Den⟩:Frac) K hk⟩
  · exact h.elim
abbrev zOu:Tabs:=(Tabs.nil.addF 69 zvr)
theorem zKl:TabsOk Try.prog zOu:=(TabsOk.nil.addF zL4)
abbrev zPF:Ctrs:=csm zOu (fun _ _=>[]) (fun _=>false)
def zDu:Ann:=⟨9,[(0,zK [2,3] [2,3]),(1,zK [4] [])],
 [],
 [],
 [],[]⟩
abbrev zPG:=Bool
abbrev zPH (r:zPG):List PA:=[.one (.bool r)]
section
variable {K:List PA→Prop} {a:Frac} {b:Frac}
def zL7 (a:Frac) (b:Frac):Bool :=
  (decide ((s69 a b) > (0:Int)))
end
theorem zPI (a:Frac) (b:Frac) (K:List PA→Prop) (hk:K (zPH (zL7 a b))):vcFun Try.prog zPF zDu 113 [.agg (zai a),.agg (zai b)] K :=
  zaI (by kernel_rfl) hk
def zxG : List PA → COut
  | [.agg [.int .i64 a0_Num,.int .i64 a0_Den],.agg [.int .i64 a1_Num,.int .i64 a1_Den]]=>.tot [.one (.bool (zL7 (⟨a0_Num,a0_Den⟩:Frac) (⟨a1_Num,a1_Den⟩:Frac)))]
  | _=>.no
theorem zFT:zal Try.prog 113:=⟨_,rfl,rfl,by kernel_rfl⟩
theorem zNf:Ok Try.prog 113 zxG:=zaY zKl zFT fun args K h=>by
  unfold zxG at h
  split at h
  · rename_i a0_Num a0_Den a1_Num a1_Den
    have hk:=h
    exact ⟨(fun _ _=>[]),(fun _=>false),zDu,zPI (⟨a0_Num,a0_Den⟩:Frac) (⟨a1_Num,a1_Den⟩:Frac) K hk⟩
  · exact h.elim
abbrev zNg:Tabs:=((Tabs.nil.addF 112 zxF).addF 113 zxG)
theorem zKm:TabsOk Try.prog zNg:=((TabsOk.nil.addF zNe).addF zNf)
abbrev zOv:Ctrs:=csm zNg (fun _ _=>[]) (fun _=>false)
def zxH:Ann:=⟨25,[(0,zK [0,1,4] [4]),(1,zK [0,1,4,5] [4,5]),(2,zK [1,4,5,12,13,14] [4,5]),(3,zK [1,4,5,12,13,14,15] [4,5]),(4,zK [1,4,5,7,12,13,14] [4,5,7]),(5,zK [1,4,5,7,12,13,14,21] [4,5,7]),(6,zK [1,4,5,12,13,14] [4,5]),(7,zK [1,4,5,12,13,14] [4,5]),(8,zK [4] [4])],
 [(3,zK [1,4,5,12,13,14] [4,5])],
 [(6,zK [1,4,5,7,12,13,14,21] [4,5,7])],
 [],[]⟩
abbrev zPJ:=Frac
abbrev zL8 (r:zPJ):List PA:=[.agg [.int .i64 r.Num,.int .i64 r.Den]]
@[irreducible] def z111:=ptF Try.prog zOv zxH Try.f111
def zxI (l_a0:(Sl Frac)) (zaX:(Sl Frac)) (zam:Int) (zax:Int) (zay:Int) (zcW:Nat→List PV):St:=⟨[(1,zP (.fn 112 [] [])),(4,zp 4 0),(5,zp 5 0),(12,zP (.sl zaX.len 2 zcW)),(13,zI (((l_a0.len:Int) - (1:Int)).toNat:Int)),(14,zI zam)],[(4,.box 25 (zm (zai (⟨(0:Int),(0:Int)⟩:Frac)))),(5,.box 25 (zm (zai (⟨zax,zay⟩:Frac))))],[]⟩
abbrev zxJ (K:List PA→Prop) (l_a0:(Sl Frac)) (X:St→Prop) (P:(Sl Frac)→Int→Int→Int→Bool) (S:(Sl Frac)→Int→Int→Int→Frac):Prop:=∀ ⦃zaX:(Sl Frac)⦄ ⦃zam:Int⦄ ⦃zax:Int⦄ ⦃zay:Int⦄ ⦃zcW:Nat→List PV⦄,P zaX zam zax zay=true→K (zL8 (S zaX zam zax zay))→zcW=zg zai zaX→X (zxI l_a0 zaX zam zax zay zcW)
section
variable {K:List PA→Prop} {l_a0:(Sl Frac)} {zaX:(Sl Frac)} {zam:Int} {zax:Int} {zay:Int} {zcW:Nat→List PV} {X0:St→Prop} {P0:(Sl Frac)→Int→Int→Int→Bool} {S0:(Sl Frac)→Int→Int→Int→Frac} {zeL:(Sl Frac)} {za5:Int} {zhq:Bool} {zde:Int} {zdf:Int} {zhr:Int} {zhs:Int} {zlk:Nat→List PV}
def ztW (S0:(Sl Frac)→Int→Int→Int→Frac) (l_a0:(Sl Frac)) (zeL:(Sl Frac)) (za5:Int) (zhq:Bool) (zde:Int) (zdf:Int) (zhr:Int) (zhs:Int):Frac :=
  (cond zhq
 (S0 zeL (w64 (za5+(1:Int))) zhr zhs)
 (S0 zeL (w64 (za5+(1:Int))) zde zdf))
def ztX (P0:(Sl Frac)→Int→Int→Int→Bool) (l_a0:(Sl Frac)) (zeL:(Sl Frac)) (za5:Int) (zhq:Bool) (zde:Int) (zdf:Int) (zhr:Int) (zhs:Int):Bool :=
  (cond zhq
 (P0 zeL (w64 (za5+(1:Int))) zhr zhs)
 (P0 zeL (w64 (za5+(1:Int))) zde zdf))
theorem zCd (hX0:zxJ K l_a0 X0 P0 S0) (hs:ztX P0 l_a0 zeL za5 zhq zde zdf zhr zhs=true) (hk:K (zL8 (ztW S0 l_a0 zeL za5 zhq zde zdf zhr zhs))) (zr4:zlk=zg zai zeL):z111 K [1,1,0,1,0,0,1,1,0,0,1,1] [X0] ⟨[(1,zP (.fn 112 [] [])),(4,zp 4 0),(5,zp 5 0),(7,zp 7 0),(12,zP (.sl zeL.len 2 zlk)),(13,zI (((l_a0.len:Int) - (1:Int)).toNat:Int)),(14,zI za5),(21,zB zhq)],[(4,.box 25 (zm (zai (⟨(0:Int),(0:Int)⟩:Frac)))),(5,.box 25 (zm (zai (⟨zde,zdf⟩:Frac)))),(7,.box 25 (zm (zai (⟨zhr,zhs⟩:Frac))))],[]⟩:=by subst zr4;exact zaI (by kernel_rfl) (zc hs hk (fun hs hk=>(hX0 hs hk rfl)) (fun hs hk=>(hX0 hs hk rfl)))
def ztY (l_a0:(Sl Frac)) (S0:(Sl Frac)→Int→Int→Int→Frac) (zaX:(Sl Frac)) (zam:Int) (zax:Int) (zay:Int):Frac :=
  (cond (decide (zam < (((l_a0.len : Int) - (1:Int)).toNat : Int)))
 (ztW S0 l_a0 zaX zam (zL6 (zaX.get zam.toNat) (⟨zax,zay⟩:Frac)) zax zay ((zaX.get zam.toNat).Num) ((zaX.get zam.toNat).Den))
 (⟨zax,zay⟩:Frac))
def ztZ (l_a0:(Sl Frac)) (P0:(Sl Frac)→Int→Int→Int→Bool) (zaX:(Sl Frac)) (zam:Int) (zax:Int) (zay:Int):Bool :=
  (cond (decide (zam < (((l_a0.len : Int) - (1:Int)).toNat : Int)))
 (decide ((0≤zam∧zam < (zaX.len:Int))) &&
 (ztX P0 l_a0 zaX zam (zL6 (zaX.get zam.toNat) (⟨zax,zay⟩:Frac)) zax zay ((zaX.get zam.toNat).Num) ((zaX.get zam.toNat).Den)))
 true)
def zt0 (l_a0:(Sl Frac)):Nat→(Sl Frac)→Int→Int→Int→Frac:=lpO (fun _ _ _ _=>default) (ztY l_a0)
def zt1 (l_a0:(Sl Frac)):Nat→(Sl Frac)→Int→Int→Int→Bool:=lpO (fun _ _ _ _=>false) (ztZ l_a0)
def zt2 (l_a0:(Sl Frac)) (zaX:(Sl Frac)) (zam:Int) (zax:Int) (zay:Int):Frac:=zt0 l_a0 Fuel zaX zam zax zay
def zt3 (l_a0:(Sl Frac)) (zaX:(Sl Frac)) (zam:Int) (zax:Int) (zay:Int):Bool:=zt1 l_a0 Fuel zaX zam zax zay
theorem zCe (hs:zt3 l_a0 zaX zam zax zay=true) (hk:K (zL8 (zt2 l_a0 zaX zam zax zay))) (zht:zcW=zg zai zaX):z111 K [1,1,0,1,0] [] (zxI l_a0 zaX zam zax zay zcW) :=
  zl (fun X=>z111 K [1,1,0,1,0,0] [X]) (by kernel_rfl) fun X0 hX =>
  (show ∀ k, zxJ K l_a0 X0 (zt1 l_a0 k) (zt0 l_a0 k) from zgM _ _ (ztZ l_a0) (ztY l_a0) (zxJ K l_a0 X0)
 (by intro _ _ _ _ _ hs;exact absurd hs Bool.false_ne_true)
 (by intro P0 S0 hX0 zaX zam zax zay zcW hs hk zht;subst zht;exact hX _ (zaI (by kernel_rfl) (zc hs hk (fun hs hk=>(zaG hs fun hc hs=>And.intro hc (zCd hX0 hs hk rfl))) (fun hs hk=>hk))))) _ hs hk zht
def zxK (l_a0:(Sl Frac)):Frac :=
  (zt2 l_a0 (⟨((l_a0.len:Int) - (1:Int)).toNat,(fun i=>l_a0.get (i+((1:Int).toNat)))⟩:Sl Frac) (0:Int) ((l_a0.get 0).Num) ((l_a0.get 0).Den))
def zL9 (l_a0:(Sl Frac)):Bool :=
  (decide ((0≤(0:Int)∧(0:Int) < (l_a0.len:Int))) &&
 (decide ((0≤(1:Int)∧(1:Int)≤(l_a0.len:Int)∧(l_a0.len:Int)≤(l_a0.len:Int))) &&
 (zt3 l_a0 (⟨((l_a0.len:Int) - (1:Int)).toNat,(fun i=>l_a0.get (i+((1:Int).toNat)))⟩:Sl Frac) (0:Int) ((l_a0.get 0).Num) ((l_a0.get 0).Den))))
end
theorem zPK (l_a0:(Sl Frac)) (K:List PA→Prop) (hs:zL9 l_a0=true) (hk:K (zL8 (zxK l_a0))):vcFun Try.prog zOv zxH 111 [.one (.sl l_a0.len 2 (fun i=>zai (l_a0.get i))),.one (.fn 112 [] [])] K :=
  zaI (by kernel_rfl) (zaG hs fun hc hs=>And.intro hc (zaG hs fun hc hs=>And.intro hc (zCe hs hk rfl)))
abbrev zKn:Ctrs:=csm zNg (fun _ _=>[]) (fun _=>false)
def zr5:Ann:=⟨25,[(0,zK [0,1,4] [4]),(1,zK [0,1,4,5] [4,5]),(2,zK [1,4,5,12,13,14] [4,5]),(3,zK [1,4,5,12,13,14,15] [4,5]),(4,zK [1,4,5,7,12,13,14] [4,5,7]),(5,zK [1,4,5,7,12,13,14,21] [4,5,7]),(6,zK [1,4,5,12,13,14] [4,5]),(7,zK [1,4,5,12,13,14] [4,5]),(8,zK [4] [4])],
 [(3,zK [1,4,5,12,13,14] [4,5])],
 [(6,zK [1,4,5,7,12,13,14,21] [4,5,7])],
 [],[]⟩
abbrev zNh:=Frac
abbrev zCf (r:zNh):List PA:=[.agg [.int .i64 r.Num,.int .i64 r.Den]]
@[irreducible] def z111a:=ptF Try.prog zKn zr5 Try.f111
def zt4 (l_a0:(Sl Frac)) (zaX:(Sl Frac)) (zam:Int) (zax:Int) (zay:Int) (zcW:Nat→List PV):St:=⟨[(1,zP (.fn 113 [] [])),(4,zp 4 0),(5,zp 5 0),(12,zP (.sl zaX.len 2 zcW)),(13,zI (((l_a0.len:Int) - (1:Int)).toNat:Int)),(14,zI zam)],[(4,.box 25 (zm (zai (⟨(0:Int),(0:Int)⟩:Frac)))),(5,.box 25 (zm (zai (⟨zax,zay⟩:Frac))))],[]⟩
abbrev zr6 (K:List PA→Prop) (l_a0:(Sl Frac)) (X:St→Prop) (P:(Sl Frac)→Int→Int→Int→Bool) (S:(Sl Frac)→Int→Int→Int→Frac):Prop:=∀ ⦃zaX:(Sl Frac)⦄ ⦃zam:Int⦄ ⦃zax:Int⦄ ⦃zay:Int⦄ ⦃zcW:Nat→List PV⦄,P zaX zam zax zay=true→K (zCf (S zaX zam zax zay))→zcW=zg zai zaX→X (zt4 l_a0 zaX zam zax zay zcW)
section
variable {K:List PA→Prop} {l_a0:(Sl Frac)} {zaX:(Sl Frac)} {zam:Int} {zax:Int} {zay:Int} {zcW:Nat→List PV} {X0:St→Prop} {P0:(Sl Frac)→Int→Int→Int→Bool} {S0:(Sl Frac)→Int→Int→Int→Frac} {zeL:(Sl Frac)} {za5:Int} {zhq:Bool} {zde:Int} {zdf:Int} {zhr:Int} {zhs:Int} {zlk:Nat→List PV}
def zpZ (S0:(Sl Frac)→Int→Int→Int→Frac) (l_a0:(Sl Frac)) (zeL:(Sl Frac)) (za5:Int) (zhq:Bool) (zde:Int) (zdf:Int) (zhr:Int) (zhs:Int):Frac :=
  (cond zhq
 (S0 zeL (w64 (za5+(1:Int))) zhr zhs)
 (S0 zeL (w64 (za5+(1:Int))) zde zdf))
def zp0 (P0:(Sl Frac)→Int→Int→Int→Bool) (l_a0:(Sl Frac)) (zeL:(Sl Frac)) (za5:Int) (zhq:Bool) (zde:Int) (zdf:Int) (zhr:Int) (zhs:Int):Bool :=
  (cond zhq
 (P0 zeL (w64 (za5+(1:Int))) zhr zhs)
 (P0 zeL (w64 (za5+(1:Int))) zde zdf))
theorem zxL (hX0:zr6 K l_a0 X0 P0 S0) (hs:zp0 P0 l_a0 zeL za5 zhq zde zdf zhr zhs=true) (hk:K (zCf (zpZ S0 l_a0 zeL za5 zhq zde zdf zhr zhs))) (zr4:zlk=zg zai zeL):z111a K [1,1,0,1,0,0,1,1,0,0,1,1] [X0] ⟨[(1,zP (.fn 113 [] [])),(4,zp 4 0),(5,zp 5 0),(7,zp 7 0),(12,zP (.sl zeL.len 2 zlk)),(13,zI (((l_a0.len:Int) - (1:Int)).toNat:Int)),(14,zI za5),(21,zB zhq)],[(4,.box 25 (zm (zai (⟨(0:Int),(0:Int)⟩:Frac)))),(5,.box 25 (zm (zai (⟨zde,zdf⟩:Frac)))),(7,.box 25 (zm (zai (⟨zhr,zhs⟩:Frac))))],[]⟩:=by subst zr4;exact zaI (by kernel_rfl) (zc hs hk (fun hs hk=>(hX0 hs hk rfl)) (fun hs hk=>(hX0 hs hk rfl)))
def zp1 (l_a0:(Sl Frac)) (S0:(Sl Frac)→Int→Int→Int→Frac) (zaX:(Sl Frac)) (zam:Int) (zax:Int) (zay:Int):Frac :=
  (cond (decide (zam < (((l_a0.len : Int) - (1:Int)).toNat : Int)))
 (zpZ S0 l_a0 zaX zam (zL7 (zaX.get zam.toNat) (⟨zax,zay⟩:Frac)) zax zay ((zaX.get zam.toNat).Num) ((zaX.get zam.toNat).Den))
 (⟨zax,zay⟩:Frac))
def zp2 (l_a0:(Sl Frac)) (P0:(Sl Frac)→Int→Int→Int→Bool) (zaX:(Sl Frac)) (zam:Int) (zax:Int) (zay:Int):Bool :=
  (cond (decide (zam < (((l_a0.len : Int) - (1:Int)).toNat : Int)))
 (decide ((0≤zam∧zam < (zaX.len:Int))) &&
 (zp0 P0 l_a0 zaX zam (zL7 (zaX.get zam.toNat) (⟨zax,zay⟩:Frac)) zax zay ((zaX.get zam.toNat).Num) ((zaX.get zam.toNat).Den)))
 true)
def zp3 (l_a0:(Sl Frac)):Nat→(Sl Frac)→Int→Int→Int→Frac:=lpO (fun _ _ _ _=>default) (zp1 l_a0)
def zp4 (l_a0:(Sl Frac)):Nat→(Sl Frac)→Int→Int→Int→Bool:=lpO (fun _ _ _ _=>false) (zp2 l_a0)
def zp5 (l_a0:(Sl Frac)) (zaX:(Sl Frac)) (zam:Int) (zax:Int) (zay:Int):Frac:=zp3 l_a0 Fuel zaX zam zax zay
def zp6 (l_a0:(Sl Frac)) (zaX:(Sl Frac)) (zam:Int) (zax:Int) (zay:Int):Bool:=zp4 l_a0 Fuel zaX zam zax zay
theorem zxM (hs:zp6 l_a0 zaX zam zax zay=true) (hk:K (zCf (zp5 l_a0 zaX zam zax zay))) (zht:zcW=zg zai zaX):z111a K [1,1,0,1,0] [] (zt4 l_a0 zaX zam zax zay zcW) :=
  zl (fun X=>z111a K [1,1,0,1,0,0] [X]) (by kernel_rfl) fun X0 hX =>
  (show ∀ k, zr6 K l_a0 X0 (zp4 l_a0 k) (zp3 l_a0 k) from zgM _ _ (zp2 l_a0) (zp1 l_a0) (zr6 K l_a0 X0)
 (by intro _ _ _ _ _ hs;exact absurd hs Bool.false_ne_true)
 (by intro P0 S0 hX0 zaX zam zax zay zcW hs hk zht;subst zht;exact hX _ (zaI (by kernel_rfl) (zc hs hk (fun hs hk=>(zaG hs fun hc hs=>And.intro hc (zxL hX0 hs hk rfl))) (fun hs hk=>hk))))) _ hs hk zht
def s111a (l_a0:(Sl Frac)):Frac :=
  (zp5 l_a0 (⟨((l_a0.len:Int) - (1:Int)).toNat,(fun i=>l_a0.get (i+((1:Int).toNat)))⟩:Sl Frac) (0:Int) ((l_a0.get 0).Num) ((l_a0.get 0).Den))
def zCg (l_a0:(Sl Frac)):Bool :=
  (decide ((0≤(0:Int)∧(0:Int) < (l_a0.len:Int))) &&
 (decide ((0≤(1:Int)∧(1:Int)≤(l_a0.len:Int)∧(l_a0.len:Int)≤(l_a0.len:Int))) &&
 (zp6 l_a0 (⟨((l_a0.len:Int) - (1:Int)).toNat,(fun i=>l_a0.get (i+((1:Int).toNat)))⟩:Sl Frac) (0:Int) ((l_a0.get 0).Num) ((l_a0.get 0).Den))))
end
theorem zNi (l_a0:(Sl Frac)) (K:List PA→Prop) (hs:zCg l_a0=true) (hk:K (zCf (s111a l_a0))):vcFun Try.prog zKn zr5 111 [.one (.sl l_a0.len 2 (fun i=>zai (l_a0.get i))),.one (.fn 113 [] [])] K :=
  zaI (by kernel_rfl) (zaG hs fun hc hs=>And.intro hc (zaG hs fun hc hs=>And.intro hc (zxM hs hk rfl)))
def zxN : List PA → COut
  | [.one (.sl a0_n a0_s a0_g),.one (.fn 112 [] [])]=>.det (IsE zai 2 a0_s a0_g∧zL9 (⟨a0_n,zg8 a0_g⟩:(Sl Frac))=true) [.agg [.int .i64 ((zxK (⟨a0_n,zg8 a0_g⟩:(Sl Frac))).Num),.int .i64 ((zxK (⟨a0_n,zg8 a0_g⟩:(Sl Frac))).Den)]]
  | [.one (.sl a0_n a0_s a0_g),.one (.fn 113 [] [])]=>.det (IsE zai 2 a0_s a0_g∧zCg (⟨a0_n,zg8 a0_g⟩:(Sl Frac))=true) [.agg [.int .i64 ((s111a (⟨a0_n,zg8 a0_g⟩:(Sl Frac))).Num),.int .i64 ((s111a (⟨a0_n,zg8 a0_g⟩:(Sl Frac))).Den)]]
  | _=>.no
theorem zFU:zal Try.prog 111:=⟨_,rfl,rfl,by kernel_rfl⟩
theorem zNj:Ok Try.prog 111 zxN:=zaY zKm zFU fun args K h=>by
  unfold zxN at h
  split at h
  · rename_i a0_n a0_s a0_g
    obtain ⟨⟨⟨rfl,a0_f,rfl⟩,hs⟩,hk⟩:=h
    try rw [zfi a0_f] at hs
    try rw [zfi a0_f] at hk
    exact ⟨(fun _ _=>[]),(fun _=>false),zxH,zPK (⟨a0_n,a0_f⟩:(Sl Frac)) K hs hk⟩
  · rename_i a0_n a0_s a0_g
    obtain ⟨⟨⟨rfl,a0_f,rfl⟩,hs⟩,hk⟩:=h
    try rw [zfi a0_f] at hs
    try rw [zfi a0_f] at hk
    exact ⟨(fun _ _=>[]),(fun _=>false),zr5,zNi (⟨a0_n,a0_f⟩:(Sl Frac)) K hs hk⟩
  · exact h.elim
abbrev T82:Tabs:=((((Tabs.nil.addF 83 zFP).addF 89 zvo).addF 101 zxE).addF 111 zxN)
theorem zNk:TabsOk Try.prog T82:=((((TabsOk.nil.addF zPs).addF zL3).addF zNd).addF zNj)
abbrev G82:Ctrs:=csm T82 (fun _ _=>[]) (fun _=>false)
def zFV:Ann:=⟨39,[(0,zK [1,2,4,5] [2,4,5]),(1,zK [1,2,4,5,6] [2,4,5]),(2,zK [1,4,5,6,12,13,14] [4,5]),(3,zK [1,4,5,6,12,13,14,15] [4,5,23]),(4,zK [1,4,5,6,8,12,13,14] [4,5,8,23]),(5,zK [1,4,5,6,12,13,14] [4,5,23]),(6,zK [1,4,5,6,12,13,14] [4,5,23]),(7,zK [4,5,6,9] [4,5,9,23]),(8,zK [4,5,9,10] [4,5,9,10]),(9,zK [4,5] [4,5])],
 [(3,⟨[1,4,5,6,12,13,14],[4,5,23],[(6,23,25,fun _=>zai default)],[],[],[],[]⟩)],
 [(7,zK [4,5,6] [4,5,23]),(8,zK [4,5,6,9] [4,5,9,23]),(9,zK [4,5,9,10] [4,5,9,10])],
 [],[]⟩
abbrev R82:=(Frac×Frac)
abbrev e82 (r:R82):List PA:=[.agg [.int .i64 r.1.Num,.int .i64 r.1.Den],.agg [.int .i64 r.2.Num,.int .i64 r.2.Den]]
@[irreducible] def z82:=ptF Try.prog G82 zFV Try.f82
def zDv (c0:Int) (s:set) (zam:Int) (zbt:(Sl Frac)) (zcX:Nat→List PV):St:=⟨[(1,zP (.fn 101 [] [.fp (enc_3 c0) 0])),(4,zp 4 0),(5,zp 5 0),(6,zv 23),(12,zS zak 3 s.corners),(13,zI (s.corners.len:Int)),(14,zI zam)],[(4,.box 25 (zm (zai (⟨(0:Int),(0:Int)⟩:Frac)))),(5,.box 25 (zm (zai (⟨(0:Int),(0:Int)⟩:Frac)))),(23,.vec 25 2 16 zbt.len zcX)],[]⟩
abbrev zKo (K:List PA→Prop) (c0:Int) (s:set) (X:St→Prop) (P:Int→(Sl Frac)→Bool) (S:Int→(Sl Frac)→(Frac×Frac)):Prop:=∀ ⦃zam:Int⦄ ⦃zbt:(Sl Frac)⦄ ⦃zcX:Nat→List PV⦄,P zam zbt=true→K (e82 (S zam zbt))→zcX=zg zai zbt→X (zDv c0 s zam zbt zcX)
section
variable {K:List PA→Prop} {c0:Int} {s:set} {zam:Int} {zbt:(Sl Frac)} {zcX:Nat→List PV} {X0:St→Prop} {P0:Int→(Sl Frac)→Bool} {S0:Int→(Sl Frac)→(Frac×Frac)} {zds:(Sl Frac)} {zll:Nat→List PV} {zbu:Int} {zbv:Int} {zdV:(Sl Frac)} {zlm:Nat→List PV} {zcB:Int} {zcC:Int}
def zxO (zbu:Int) (zbv:Int) (zcB:Int) (zcC:Int):(Frac×Frac) :=
  ((s89 zbu zbv),(s89 zcB zcC))
def zxP (zbu:Int) (zbv:Int) (zcB:Int) (zcC:Int):Bool :=
  (decide ((p89 zbu zbv=true)) &&
 (decide ((p89 zcB zcC=true)) &&
 true))
theorem zFW (hs:zxP zbu zbv zcB zcC=true) (hk:K (e82 (zxO zbu zbv zcB zcC))):z82 K [1,1,1,1,1] [] ⟨[(4,zp 4 0),(5,zp 5 0),(9,zp 9 0),(10,zp 10 0)],[(4,.box 25 (zm (zai (⟨(0:Int),(0:Int)⟩:Frac)))),(5,.box 25 (zm (zai (⟨(0:Int),(0:Int)⟩:Frac)))),(9,.box 25 (zm (zai (⟨zbu,zbv⟩:Frac)))),(10,.box 25 (zm (zai (⟨zcB,zcC⟩:Frac))))],[]⟩:=zaI (by kernel_rfl) (zaG hs fun hc hs=>And.intro hc (zaG hs fun hc hs=>And.intro hc hk))
def zxQ (zbu:Int) (zbv:Int) (zdV:(Sl Frac)):(Frac×Frac) :=
  (zxO zbu zbv ((s111a zdV).Num) ((s111a zdV).Den))
def zxR (zbu:Int) (zbv:Int) (zdV:(Sl Frac)):Bool :=
  (decide ((zCg zdV=true)) &&
 (zxP zbu zbv ((s111a zdV).Num) ((s111a zdV).Den)))
theorem zFX (hs:zxR zbu zbv zdV=true) (hk:K (e82 (zxQ zbu zbv zdV))) (zr7:zlm=zg zai zdV):z82 K [1,1,1,1] [] ⟨[(4,zp 4 0),(5,zp 5 0),(6,zv 23),(9,zp 9 0)],[(4,.box 25 (zm (zai (⟨(0:Int),(0:Int)⟩:Frac)))),(5,.box 25 (zm (zai (⟨(0:Int),(0:Int)⟩:Frac)))),(9,.box 25 (zm (zai (⟨zbu,zbv⟩:Frac)))),(23,.vec 25 2 16 zdV.len zlm)],[]⟩:=by subst zr7;exact zaI (by kernel_rfl) (zaG hs fun hc hs=>And.intro (And.intro (zE zai 2 zdV.get) hc) (zFW hs hk))
def zxS (zds:(Sl Frac)):(Frac×Frac) :=
  (zxQ ((zxK zds).Num) ((zxK zds).Den) zds)
def zxT (zds:(Sl Frac)):Bool :=
  (decide ((zL9 zds=true)) &&
 (zxR ((zxK zds).Num) ((zxK zds).Den) zds))
theorem zFY (hs:zxT zds=true) (hk:K (e82 (zxS zds))) (zr8:zll=zg zai zds):z82 K [1,1,1] [] ⟨[(4,zp 4 0),(5,zp 5 0),(6,zv 23)],[(4,.box 25 (zm (zai (⟨(0:Int),(0:Int)⟩:Frac)))),(5,.box 25 (zm (zai (⟨(0:Int),(0:Int)⟩:Frac)))),(23,.vec 25 2 16 zds.len zll)],[]⟩:=by subst zr8;exact zaI (by kernel_rfl) (zaG hs fun hc hs=>And.intro (And.intro (zE zai 2 zds.get) hc) (zFX hs hk rfl))
def zxU (c0:Int) (s:set) (S0:Int→(Sl Frac)→(Frac×Frac)) (zam:Int) (zbt:(Sl Frac)):(Frac×Frac) :=
  (cond (decide (zam < (s.corners.len : Int)))
 (S0 (w64 (zam+(1:Int))) (⟨(zbt.len+1),(zeb zbt.len zbt.get (fun _=>(zIH c0 (s.corners.get zam.toNat))))⟩:Sl Frac))
 (zxS zbt))
def zxV (c0:Int) (s:set) (P0:Int→(Sl Frac)→Bool) (zam:Int) (zbt:(Sl Frac)):Bool :=
  (cond (decide (zam < (s.corners.len : Int)))
 (decide ((0≤zam∧zam < (s.corners.len:Int))) &&
 (decide (((zbt.len+1) * 16≤140737488355328∧zbt.len+1≤9223372036854775807)) &&
 (P0 (w64 (zam+(1:Int))) (⟨(zbt.len+1),(zeb zbt.len zbt.get (fun _=>(zIH c0 (s.corners.get zam.toNat))))⟩:Sl Frac))))
 (zxT zbt))
def zxW (c0:Int) (s:set):Nat→Int→(Sl Frac)→(Frac×Frac):=lpO (fun _ _=>default) (zxU c0 s)
def zxX (c0:Int) (s:set):Nat→Int→(Sl Frac)→Bool:=lpO (fun _ _=>false) (zxV c0 s)
def zxY (c0:Int) (s:set) (zam:Int) (zbt:(Sl Frac)):(Frac×Frac):=zxW c0 s Fuel zam zbt
def zxZ (c0:Int) (s:set) (zam:Int) (zbt:(Sl Frac)):Bool:=zxX c0 s Fuel zam zbt
theorem zFZ (hs:zxZ c0 s zam zbt=true) (hk:K (e82 (zxY c0 s zam zbt))) (zhu:zcX=zg zai zbt):z82 K [1,1,0,1,0] [] (zDv c0 s zam zbt zcX) :=
  zl (fun X=>z82 K [1,1,0,1,0,0] [X]) (by kernel_rfl) fun X0 hX =>
  (show ∀ k, zKo K c0 s X0 (zxX c0 s k) (zxW c0 s k) from zgM _ _ (zxV c0 s) (zxU c0 s) (zKo K c0 s X0)
 (by intro _ _ _ hs;exact absurd hs Bool.false_ne_true)
 (by intro P0 S0 hX0 zam zbt zcX hs hk zhu;subst zhu;exact hX _ (zaI (by kernel_rfl) (zc hs hk (fun hs hk=>(zaG hs fun hc hs=>And.intro hc (zaG hs fun hc hs=>And.intro hc (hX0 hs hk (zgU (enc:=zai) (f:=zbt.get) (h:=(fun _=>(zIH c0 (s.corners.get zam.toNat)))) rfl rfl))))) (fun hs hk=>(zFY hs hk rfl)))))) _ hs hk zhu
def s82 (c0:Int) (s:set):(Frac×Frac) :=
  (zxY c0 s (0:Int) (⟨0,(fun _=>default)⟩:Sl Frac))
def p82 (c0:Int) (s:set):Bool :=
  (zxZ c0 s (0:Int) (⟨0,(fun _=>default)⟩:Sl Frac))
end
theorem q82 (c0:Int) (s:set) (K:List PA→Prop) (hs:p82 c0 s=true) (hk:K (e82 (s82 c0 s))):vcFun Try.prog G82 zFV 82 [.agg (zbg s),.one (.fn 101 [] [.fp (enc_3 c0) 0])] K :=
  zaI (by kernel_rfl) (zFZ hs hk rfl)
abbrev zOw:Ctrs:=csm T82 (fun _ _=>[]) (fun _=>false)
def zx0:Ann:=⟨39,[(0,zK [1,2,4,5] [2,4,5]),(1,zK [1,2,4,5,6] [2,4,5]),(2,zK [1,4,5,6,12,13,14] [4,5]),(3,zK [1,4,5,6,12,13,14,15] [4,5,23]),(4,zK [1,4,5,6,8,12,13,14] [4,5,8,23]),(5,zK [1,4,5,6,12,13,14] [4,5,23]),(6,zK [1,4,5,6,12,13,14] [4,5,23]),(7,zK [4,5,6,9] [4,5,9,23]),(8,zK [4,5,9,10] [4,5,9,10]),(9,zK [4,5] [4,5])],
 [(3,⟨[1,4,5,6,12,13,14],[4,5,23],[(6,23,25,fun _=>zai default)],[],[],[],[]⟩)],
 [(7,zK [4,5,6] [4,5,23]),(8,zK [4,5,6,9] [4,5,9,23]),(9,zK [4,5,9,10] [4,5,9,10])],
 [],[]⟩
abbrev zPL:=(Frac×Frac)
abbrev zII (r:zPL):List PA:=[.agg [.int .i64 r.1.Num,.int .i64 r.1.Den],.agg [.int .i64 r.2.Num,.int .i64 r.2.Den]]
@[irreducible] def z82a:=ptF Try.prog zOw zx0 Try.f82
def zx1 (s:set) (zam:Int) (zbt:(Sl Frac)) (zcX:Nat→List PV):St:=⟨[(1,zP (.fn 83 [] [])),(4,zp 4 0),(5,zp 5 0),(6,zv 23),(12,zS zak 3 s.corners),(13,zI (s.corners.len:Int)),(14,zI zam)],[(4,.box 25 (zm (zai (⟨(0:Int),(0:Int)⟩:Frac)))),(5,.box 25 (zm (zai (⟨(0:Int),(0:Int)⟩:Frac)))),(23,.vec 25 2 16 zbt.len zcX)],[]⟩
abbrev zDw (K:List PA→Prop) (s:set) (X:St→Prop) (P:Int→(Sl Frac)→Bool) (S:Int→(Sl Frac)→(Frac×Frac)):Prop:=∀ ⦃zam:Int⦄ ⦃zbt:(Sl Frac)⦄ ⦃zcX:Nat→List PV⦄,P zam zbt=true→K (zII (S zam zbt))→zcX=zg zai zbt→X (zx1 s zam zbt zcX)
section
variable {K:List PA→Prop} {s:set} {zam:Int} {zbt:(Sl Frac)} {zcX:Nat→List PV} {X0:St→Prop} {P0:Int→(Sl Frac)→Bool} {S0:Int→(Sl Frac)→(Frac×Frac)} {zds:(Sl Frac)} {zll:Nat→List PV} {zbu:Int} {zbv:Int} {zdV:(Sl Frac)} {zlm:Nat→List PV} {zcB:Int} {zcC:Int}
def zt5 (zbu:Int) (zbv:Int) (zcB:Int) (zcC:Int):(Frac×Frac) :=
  ((s89 zbu zbv),(s89 zcB zcC))
def zt6 (zbu:Int) (zbv:Int) (zcB:Int) (zcC:Int):Bool :=
  (decide ((p89 zbu zbv=true)) &&
 (decide ((p89 zcB zcC=true)) &&
 true))
theorem zCh (hs:zt6 zbu zbv zcB zcC=true) (hk:K (zII (zt5 zbu zbv zcB zcC))):z82a K [1,1,1,1,1] [] ⟨[(4,zp 4 0),(5,zp 5 0),(9,zp 9 0),(10,zp 10 0)],[(4,.box 25 (zm (zai (⟨(0:Int),(0:Int)⟩:Frac)))),(5,.box 25 (zm (zai (⟨(0:Int),(0:Int)⟩:Frac)))),(9,.box 25 (zm (zai (⟨zbu,zbv⟩:Frac)))),(10,.box 25 (zm (zai (⟨zcB,zcC⟩:Frac))))],[]⟩:=zaI (by kernel_rfl) (zaG hs fun hc hs=>And.intro hc (zaG hs fun hc hs=>And.intro hc hk))
def zt7 (zbu:Int) (zbv:Int) (zdV:(Sl Frac)):(Frac×Frac) :=
  (zt5 zbu zbv ((s111a zdV).Num) ((s111a zdV).Den))
def zt8 (zbu:Int) (zbv:Int) (zdV:(Sl Frac)):Bool :=
  (decide ((zCg zdV=true)) &&
 (zt6 zbu zbv ((s111a zdV).Num) ((s111a zdV).Den)))
theorem zCi (hs:zt8 zbu zbv zdV=true) (hk:K (zII (zt7 zbu zbv zdV))) (zr7:zlm=zg zai zdV):z82a K [1,1,1,1] [] ⟨[(4,zp 4 0),(5,zp 5 0),(6,zv 23),(9,zp 9 0)],[(4,.box 25 (zm (zai (⟨(0:Int),(0:Int)⟩:Frac)))),(5,.box 25 (zm (zai (⟨(0:Int),(0:Int)⟩:Frac)))),(9,.box 25 (zm (zai (⟨zbu,zbv⟩:Frac)))),(23,.vec 25 2 16 zdV.len zlm)],[]⟩:=by subst zr7;exact zaI (by kernel_rfl) (zaG hs fun hc hs=>And.intro (And.intro (zE zai 2 zdV.get) hc) (zCh hs hk))
def zt9 (zds:(Sl Frac)):(Frac×Frac) :=
  (zt7 ((zxK zds).Num) ((zxK zds).Den) zds)
def zua (zds:(Sl Frac)):Bool :=
  (decide ((zL9 zds=true)) &&
 (zt8 ((zxK zds).Num) ((zxK zds).Den) zds))
theorem zCj (hs:zua zds=true) (hk:K (zII (zt9 zds))) (zr8:zll=zg zai zds):z82a K [1,1,1] [] ⟨[(4,zp 4 0),(5,zp 5 0),(6,zv 23)],[(4,.box 25 (zm (zai (⟨(0:Int),(0:Int)⟩:Frac)))),(5,.box 25 (zm (zai (⟨(0:Int),(0:Int)⟩:Frac)))),(23,.vec 25 2 16 zds.len zll)],[]⟩:=by subst zr8;exact zaI (by kernel_rfl) (zaG hs fun hc hs=>And.intro (And.intro (zE zai 2 zds.get) hc) (zCi hs hk rfl))
def zue (s:set) (S0:Int→(Sl Frac)→(Frac×Frac)) (zam:Int) (zbt:(Sl Frac)):(Frac×Frac) :=
  (cond (decide (zam < (s.corners.len : Int)))
 (S0 (w64 (zam+(1:Int))) (⟨(zbt.len+1),(zeb zbt.len zbt.get (fun _=>(s83 (s.corners.get zam.toNat))))⟩:Sl Frac))
 (zt9 zbt))
def zuf (s:set) (P0:Int→(Sl Frac)→Bool) (zam:Int) (zbt:(Sl Frac)):Bool :=
  (cond (decide (zam < (s.corners.len : Int)))
 (decide ((0≤zam∧zam < (s.corners.len:Int))) &&
 (decide (((zbt.len+1) * 16≤140737488355328∧zbt.len+1≤9223372036854775807)) &&
 (P0 (w64 (zam+(1:Int))) (⟨(zbt.len+1),(zeb zbt.len zbt.get (fun _=>(s83 (s.corners.get zam.toNat))))⟩:Sl Frac))))
 (zua zbt))
def zug (s:set):Nat→Int→(Sl Frac)→(Frac×Frac):=lpO (fun _ _=>default) (zue s)
def zuh (s:set):Nat→Int→(Sl Frac)→Bool:=lpO (fun _ _=>false) (zuf s)
def zui (s:set) (zam:Int) (zbt:(Sl Frac)):(Frac×Frac):=zug s Fuel zam zbt
def zuj (s:set) (zam:Int) (zbt:(Sl Frac)):Bool:=zuh s Fuel zam zbt
theorem zCk (hs:zuj s zam zbt=true) (hk:K (zII (zui s zam zbt))) (zhu:zcX=zg zai zbt):z82a K [1,1,0,1,0] [] (zx1 s zam zbt zcX) :=
  zl (fun X=>z82a K [1,1,0,1,0,0] [X]) (by kernel_rfl) fun X0 hX =>
  (show ∀ k, zDw K s X0 (zuh s k) (zug s k) from zgM _ _ (zuf s) (zue s) (zDw K s X0)
 (by intro _ _ _ hs;exact absurd hs Bool.false_ne_true)
 (by intro P0 S0 hX0 zam zbt zcX hs hk zhu;subst zhu;exact hX _ (zaI (by kernel_rfl) (zc hs hk (fun hs hk=>(zaG hs fun hc hs=>And.intro hc (zaG hs fun hc hs=>And.intro hc (hX0 hs hk (zgU (enc:=zai) (f:=zbt.get) (h:=(fun _=>(s83 (s.corners.get zam.toNat)))) rfl rfl))))) (fun hs hk=>(zCj hs hk rfl)))))) _ hs hk zhu
def zKp (s:set):(Frac×Frac) :=
  (zui s (0:Int) (⟨0,(fun _=>default)⟩:Sl Frac))
def zOx (s:set):Bool :=
  (zuj s (0:Int) (⟨0,(fun _=>default)⟩:Sl Frac))
end
theorem zPM (s:set) (K:List PA→Prop) (hs:zOx s=true) (hk:K (zII (zKp s))):vcFun Try.prog zOw zx0 82 [.agg (zbg s),.one (.fn 83 [] [])] K :=
  zaI (by kernel_rfl) (zCk hs hk rfl)
def zF0 : List PA → COut
  | [.agg [.sl a0_list_Gates_n a0_list_Gates_s a0_list_Gates_g,.sl a0_corners_n a0_corners_s a0_corners_g],.one (.fn 101 [] [.fp [.int .i64 c0] 0])]=>.det (IsE zac 3 a0_list_Gates_s a0_list_Gates_g∧IsE zak 3 a0_corners_s a0_corners_g∧p82 c0 (⟨(⟨(⟨a0_list_Gates_n,zah a0_list_Gates_g⟩:(Sl Gate))⟩:list),(⟨a0_corners_n,za7 a0_corners_g⟩:(Sl straight))⟩:set)=true) [.agg [.int .i64 (((s82 c0 (⟨(⟨(⟨a0_list_Gates_n,zah a0_list_Gates_g⟩:(Sl Gate))⟩:list),(⟨a0_corners_n,za7 a0_corners_g⟩:(Sl straight))⟩:set)).1).Num),.int .i64 (((s82 c0 (⟨(⟨(⟨a0_list_Gates_n,zah a0_list_Gates_g⟩:(Sl Gate))⟩:list),(⟨a0_corners_n,za7 a0_corners_g⟩:(Sl straight))⟩:set)).1).Den)],.agg [.int .i64 (((s82 c0 (⟨(⟨(⟨a0_list_Gates_n,zah a0_list_Gates_g⟩:(Sl Gate))⟩:list),(⟨a0_corners_n,za7 a0_corners_g⟩:(Sl straight))⟩:set)).2).Num),.int .i64 (((s82 c0 (⟨(⟨(⟨a0_list_Gates_n,zah a0_list_Gates_g⟩:(Sl Gate))⟩:list),(⟨a0_corners_n,za7 a0_corners_g⟩:(Sl straight))⟩:set)).2).Den)]]
  | [.agg [.sl a0_list_Gates_n a0_list_Gates_s a0_list_Gates_g,.sl a0_corners_n a0_corners_s a0_corners_g],.one (.fn 83 [] [])]=>.det (IsE zac 3 a0_list_Gates_s a0_list_Gates_g∧IsE zak 3 a0_corners_s a0_corners_g∧zOx (⟨(⟨(⟨a0_list_Gates_n,zah a0_list_Gates_g⟩:(Sl Gate))⟩:list),(⟨a0_corners_n,za7 a0_corners_g⟩:(Sl straight))⟩:set)=true) [.agg [.int .i64 (((zKp (⟨(⟨(⟨a0_list_Gates_n,zah a0_list_Gates_g⟩:(Sl Gate))⟩:list),(⟨a0_corners_n,za7 a0_corners_g⟩:(Sl straight))⟩:set)).1).Num),.int .i64 (((zKp (⟨(⟨(⟨a0_list_Gates_n,zah a0_list_Gates_g⟩:(Sl Gate))⟩:list),(⟨a0_corners_n,za7 a0_corners_g⟩:(Sl straight))⟩:set)).1).Den)],.agg [.int .i64 (((zKp (⟨(⟨(⟨a0_list_Gates_n,zah a0_list_Gates_g⟩:(Sl Gate))⟩:list),(⟨a0_corners_n,za7 a0_corners_g⟩:(Sl straight))⟩:set)).2).Num),.int .i64 (((zKp (⟨(⟨(⟨a0_list_Gates_n,zah a0_list_Gates_g⟩:(Sl Gate))⟩:list),(⟨a0_corners_n,za7 a0_corners_g⟩:(Sl straight))⟩:set)).2).Den)]]
  | _=>.no
theorem zKq:zal Try.prog 82:=⟨_,rfl,rfl,by kernel_rfl⟩
theorem zPN:Ok Try.prog 82 zF0:=zaY zNk zKq fun args K h=>by
  unfold zF0 at h
  split at h
  · rename_i a0_list_Gates_n a0_list_Gates_s a0_list_Gates_g a0_corners_n a0_corners_s a0_corners_g c0
    obtain ⟨⟨⟨rfl,a0_list_Gates_f,rfl⟩,⟨rfl,a0_corners_f,rfl⟩,hs⟩,hk⟩:=h
    try rw [zaf a0_list_Gates_f] at hs
    try rw [zaf a0_list_Gates_f] at hk
    try rw [za1 a0_corners_f] at hs
    try rw [za1 a0_corners_f] at hk
    exact ⟨(fun _ _=>[]),(fun _=>false),zFV,q82 c0 (⟨(⟨(⟨a0_list_Gates_n,a0_list_Gates_f⟩:(Sl Gate))⟩:list),(⟨a0_corners_n,a0_corners_f⟩:(Sl straight))⟩:set) K hs hk⟩
  · rename_i a0_list_Gates_n a0_list_Gates_s a0_list_Gates_g a0_corners_n a0_corners_s a0_corners_g
    obtain ⟨⟨⟨rfl,a0_list_Gates_f,rfl⟩,⟨rfl,a0_corners_f,rfl⟩,hs⟩,hk⟩:=h
    try rw [zaf a0_list_Gates_f] at hs
    try rw [zaf a0_list_Gates_f] at hk
    try rw [za1 a0_corners_f] at hs
    try rw [za1 a0_corners_f] at hk
    exact ⟨(fun _ _=>[]),(fun _=>false),zx0,zPM (⟨(⟨(⟨a0_list_Gates_n,a0_list_Gates_f⟩:(Sl Gate))⟩:list),(⟨a0_corners_n,a0_corners_f⟩:(Sl straight))⟩:set) K hs hk⟩
  · exact h.elim
abbrev T68:Tabs:=((((Tabs.nil.addF 67 zrS).addF 82 zF0).addF 89 zvo).addF 98 zCc)
theorem zNl:TabsOk Try.prog T68:=((((TabsOk.nil.addF zJU).addF zPN).addF zL3).addF zOo)
abbrev G68:Ctrs:=csm T68 (fun _ _=>[]) (fun _=>false)
def zKr:Ann:=⟨24,[(0,zK [2,3,4,5] [2,3,4,5]),(1,zK [2,3,4,5,9] [2,3,4,5]),(2,zK [4,5,6] [4,5,6]),(3,zK [4,5] [4,5]),(4,zK [4,5] [4,5])],
 [],
 [],
 [],[]⟩
abbrev R68:=(Frac×Frac)
abbrev e68 (r:R68):List PA:=[.agg [.int .i64 r.1.Num,.int .i64 r.1.Den],.agg [.int .i64 r.2.Num,.int .i64 r.2.Den]]
section
variable {K:List PA→Prop} {s:set} {z:Int}
def s68 (s:set) (z:Int):(Frac×Frac) :=
  (cond (s67 s.list)
 ((s89 ((s98 s.list).Low) (1:Int)),(s89 ((s98 s.list).High) (1:Int)))
 (((s82 z s).1),((s82 z s).2)))
def p68 (s:set) (z:Int):Bool :=
  (decide ((p67 s.list=true)) &&
 (cond (s67 s.list)
 (decide ((p98 s.list=true)) &&
 (decide ((p89 ((s98 s.list).Low) (1:Int)=true)) &&
 (decide ((p89 ((s98 s.list).High) (1:Int)=true)) &&
 true)))
 (decide ((p82 z s=true)) &&
 true)))
end
theorem q68 (s:set) (z:Int) (K:List PA→Prop) (hs:p68 s z=true) (hk:K (e68 (s68 s z))):vcFun Try.prog G68 zKr 68 [.agg (zbg s),.one (.int .i64 z)] K :=
  zaI (by kernel_rfl) (zaG hs fun hc hs=>And.intro (And.intro (zE zac 3 s.list.Gates.get) hc) (zc hs hk (fun hs hk=>(zaG hs fun hc hs=>And.intro (And.intro (zE zac 3 s.list.Gates.get) hc) (zaG hs fun hc hs=>And.intro hc (zaG hs fun hc hs=>And.intro hc hk)))) (fun hs hk=>(zaG hs fun hc hs=>And.intro (And.intro (zE zac 3 s.list.Gates.get) (And.intro (zE zak 3 s.corners.get) hc)) hk))))
def zCl : List PA → COut
  | [.agg [.sl a0_list_Gates_n a0_list_Gates_s a0_list_Gates_g,.sl a0_corners_n a0_corners_s a0_corners_g],.one (.int .i64 a1)]=>.det (IsE zac 3 a0_list_Gates_s a0_list_Gates_g∧IsE zak 3 a0_corners_s a0_corners_g∧p68 (⟨(⟨(⟨a0_list_Gates_n,zah a0_list_Gates_g⟩:(Sl Gate))⟩:list),(⟨a0_corners_n,za7 a0_corners_g⟩:(Sl straight))⟩:set) a1=true) [.agg [.int .i64 (((s68 (⟨(⟨(⟨a0_list_Gates_n,zah a0_list_Gates_g⟩:(Sl Gate))⟩:list),(⟨a0_corners_n,za7 a0_corners_g⟩:(Sl straight))⟩:set) a1).1).Num),.int .i64 (((s68 (⟨(⟨(⟨a0_list_Gates_n,zah a0_list_Gates_g⟩:(Sl Gate))⟩:list),(⟨a0_corners_n,za7 a0_corners_g⟩:(Sl straight))⟩:set) a1).1).Den)],.agg [.int .i64 (((s68 (⟨(⟨(⟨a0_list_Gates_n,zah a0_list_Gates_g⟩:(Sl Gate))⟩:list),(⟨a0_corners_n,za7 a0_corners_g⟩:(Sl straight))⟩:set) a1).2).Num),.int .i64 (((s68 (⟨(⟨(⟨a0_list_Gates_n,zah a0_list_Gates_g⟩:(Sl Gate))⟩:list),(⟨a0_corners_n,za7 a0_corners_g⟩:(Sl straight))⟩:set) a1).2).Den)]]
  | _=>.no
theorem zKs:zal Try.prog 68:=⟨_,rfl,rfl,by kernel_rfl⟩
theorem zOy:Ok Try.prog 68 zCl:=zaY zNl zKs fun args K h=>by
  unfold zCl at h
  split at h
  · rename_i a0_list_Gates_n a0_list_Gates_s a0_list_Gates_g a0_corners_n a0_corners_s a0_corners_g a1
    obtain ⟨⟨⟨rfl,a0_list_Gates_f,rfl⟩,⟨rfl,a0_corners_f,rfl⟩,hs⟩,hk⟩:=h
    try rw [zaf a0_list_Gates_f] at hs
    try rw [zaf a0_list_Gates_f] at hk
    try rw [za1 a0_corners_f] at hs
    try rw [za1 a0_corners_f] at hk
    exact ⟨(fun _ _=>[]),(fun _=>false),zKr,q68 (⟨(⟨(⟨a0_list_Gates_n,a0_list_Gates_f⟩:(Sl Gate))⟩:list),(⟨a0_corners_n,a0_corners_f⟩:(Sl straight))⟩:set) a1 K hs hk⟩
  · exact h.elim
end Go.Proofs
