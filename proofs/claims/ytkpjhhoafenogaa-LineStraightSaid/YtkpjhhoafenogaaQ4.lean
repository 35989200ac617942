/- Part 4 of what the proof rests on: a machine that runs functions of the program on pure values, proved sound; the functions that the law reaches, and what they compute. -/
import Derived.Test.YtkpjhhoafenogaaQ3
import Derived.Sort.OwnSortedInts
import Derived.Lib.SlicesCompact
import Derived.ProofKit
import Derived.Deep.Slices
import Derived.OpenShut
import Derived.Shelf.SlSortCmp.WholeK
import Derived.Test.YtkpjhhoafenogaaProg
import Derived.Shelf.SlSortCmp.NoneTotal
set_option linter.all false
namespace Go.Pm

structure Tabs where
  fn:List (Nat×(List PA→COut))
  own:List (Nat×OwnK)
  it:List (Nat×(List PA→Option (Prop×List (List PA))))
  mt:List (Nat×MK)
def zxQ : List (Nat × (List PA → COut)) → Nat → List PA → COut
  | [],_=>fun _=>.no
  | (k,c) :: r,n=>match Nat.beq k n with | true=>c | false=>zxQ r n
def zxR (l:List (Nat×OwnK)) (f:Nat):OwnK:=match lk l f with | some c=>c | none=>.none
def zF6 (l:List (Nat×(List PA→Option (Prop×List (List PA))))) (f:Nat):List PA→Option (Prop×List (List PA)):=match lk l f with | some c=>c | none=>fun _=>none
def csm (T:Tabs) (memo:Nat→Int→List Int) (vv:Nat→Bool):Ctrs:=⟨zxQ T.fn,zxR T.own,zF6 T.it,memo,vv,lk T.mt⟩
abbrev cs (T:Tabs):Ctrs:=csm T (fun _ _=>[]) (fun _=>false)
def Tabs.nil:Tabs:=⟨[],[],[],[]⟩
def Tabs.addF (T:Tabs) (f:Nat) (c:List PA→COut):Tabs:=⟨(f,c) :: T.fn,T.own,T.it,T.mt⟩
def Tabs.addO (T:Tabs) (f:Nat) (c:OwnK):Tabs:=⟨T.fn,(f,c) :: T.own,T.it,T.mt⟩
def Tabs.addI (T:Tabs) (f:Nat) (c:List PA→Option (Prop×List (List PA))):Tabs:=⟨T.fn,T.own,(f,c) :: T.it,T.mt⟩
def Tabs.addM (T:Tabs) (f:Nat) (c:MK):Tabs:=⟨T.fn,T.own,T.it,(f,c) :: T.mt⟩

theorem zOr {P:Program} {f:Nat} : Ok P f (fun _=>.no):=fun _ _ h=>h.elim
theorem zOs {P:Program} {f:Nat} : zEe P f (fun _=>none):=fun _ _ _ h=>by cases h

structure TabsOk (P : Program) (T : Tabs) : Prop where
  fn:∀ x∈T.fn,Ok P x.1 x.2
  own:∀ x∈T.own,znz P x.1 x.2
  it:∀ x∈T.it,zEe P x.1 x.2
  mt:∀ x∈T.mt,zvX P x.1 x.2
theorem TabsOk.nil {P:Program} : TabsOk P .nil:=⟨fun _ h=>(by cases h),fun _ h=>(by cases h),fun _ h=>(by cases h),fun _ h=>(by cases h)⟩
theorem TabsOk.addF {P:Program} {T:Tabs} (h:TabsOk P T) {f:Nat} {c:List PA→COut} (hc:Ok P f c):TabsOk P (T.addF f c) :=
 ⟨fun x hx=>(List.mem_cons.1 hx).elim (fun e=>by rw [e];exact hc) (fun hx=>h.fn x hx),h.own,h.it,h.mt⟩
theorem TabsOk.addO {P:Program} {T:Tabs} (h:TabsOk P T) {f:Nat} {c:OwnK} (hc:znz P f c):TabsOk P (T.addO f c) :=
 ⟨h.fn,fun x hx=>(List.mem_cons.1 hx).elim (fun e=>by rw [e];exact hc) (fun hx=>h.own x hx),h.it,h.mt⟩
theorem TabsOk.addI {P:Program} {T:Tabs} (h:TabsOk P T) {f:Nat} {c:List PA→Option (Prop×List (List PA))} (hc:zEe P f c):TabsOk P (T.addI f c) :=
 ⟨h.fn,h.own,fun x hx=>(List.mem_cons.1 hx).elim (fun e=>by rw [e];exact hc) (fun hx=>h.it x hx),h.mt⟩
theorem TabsOk.addM {P:Program} {T:Tabs} (h:TabsOk P T) {f:Nat} {c:MK} (hc:zvX P f c):TabsOk P (T.addM f c) :=
 ⟨h.fn,h.own,h.it,fun x hx=>(List.mem_cons.1 hx).elim (fun e=>by rw [e];exact hc) (fun hx=>h.mt x hx)⟩
theorem TabsOk.all {P:Program} {T:Tabs} (h:TabsOk P T) (memo:Nat→Int→List Int) (vv:Nat→Bool):OkAll P (csm T memo vv):=by
 refine ⟨fun f C hC=>h.mt _ (zb9 hC),fun f=>?_,fun f=>?_,fun f=>?_⟩
 ·show Ok P f (zxQ T.fn f)
  have key:∀ l:List (Nat×(List PA→COut)),(∀ x∈l,Ok P x.1 x.2)→Ok P f (zxQ l f):=by
   intro l
   induction l with
   | nil=>intro _;exact zOr
   | cons x l ih =>
    intro hl
    obtain ⟨k,c⟩:=x
    simp only [zxQ]
    split
    ·rename_i e
     have:=hl (k,c) List.mem_cons_self
     rw [← Nat.eq_of_beq_eq_true e];exact this
    ·exact ih fun x hx=>hl x (List.mem_cons_of_mem _ hx)
  exact key T.fn h.fn
 ·show znz P f (zxR T.own f)
  unfold zxR
  split
  ·rename_i c hc;exact h.own _ (zb9 hc)
  ·trivial
 ·show zEe P f (zF6 T.it f)
  unfold zF6
  split
  ·rename_i c hc;exact h.it _ (zb9 hc)
  ·exact zOs

theorem zaP {P : Program} {T : Tabs} (hT : TabsOk P T) {f : FuncId} {C : List PA → COut} (hc : zaj P f)
    (h:∀ args K,(C args).wp K→∃ memo vv ann,vcFun P (csm T memo vv) ann f args K):Ok P f C :=
  zCW (hT.all (fun _ _=>[]) (fun _=>false)) hc h
theorem zF7 {P : Program} {T : Tabs} (hT : TabsOk P T) {f : FuncId} {C : MK} (hc : zaj P f)
    (h:∀ xs safe rs ys,C xs=some (safe,rs,ys)→safe→∀ K:List PA→List XA→Prop,K rs ys→∃ memo vv ann,zwp P (csm T memo vv) ann f xs K):zvX P f C :=
  zxN (hT.all (fun _ _=>[]) (fun _=>false)) hc h
theorem zK8 {P : Program} {T : Tabs} (hT : TabsOk P T) {f : FuncId} {C : List PA → Option (Prop × List (List PA))} (hc : zaj P f)
    (h:∀ l caps safe ys,C caps=some (safe,ys)→safe→∃ memo vv ann,vcIter P (csm T memo vv) ann f l caps ys):zEe P f C :=
  zC2 (hT.all (fun _ _=>[]) (fun _=>false)) hc h
theorem zxS {P : Program} {T : Tabs} (hT : TabsOk P T) {f : FuncId} {e s b : Nat} (hc : zaj P f)
    (h:∀ n get,n * b≤140737488355328→n≤9223372036854775807→∃ memo vv ann,zxP P (csm T memo vv) ann f [.one (.sl n s get)] e s b n get):znz P f (.clone e s b) :=
  zr1 (hT.all (fun _ _=>[]) (fun _=>false)) hc h

structure Sl (α : Type) where
  len:Nat
  get:Nat→α
instance {α:Type} [Inhabited α]:Inhabited (Sl α):=⟨⟨0,fun _=>default⟩⟩
abbrev w64 (x:Int):Int:=IntKind.i64.wrap x

def IsE {α:Type} (enc:α→List PV) (size s:Nat) (g:Nat→List PV):Prop:=s=size∧∃ f:Nat→α,g=fun i=>enc (f i)
theorem isE {α:Type} {enc:α→List PV} {size:Nat} {f:Nat→α} : IsE enc size size (fun i=>enc (f i)):=⟨rfl,f,rfl⟩
theorem zOt {α:Type} {enc:α→List PV} {size:Nat} {x:α} : IsE enc size size (fun _=>enc x):=⟨rfl,fun _=>x,rfl⟩
def zdN {α:Type} (n:Nat) (get new:Nat→α):Nat→α:=fun j=>match Nat.ble n j with | true=>new (j - n) | false=>get j
theorem zn3 {α:Type} {enc:α→List PV} {n:Nat} {f h:Nat→α} : appG n (fun i=>enc (f i)) (fun i=>enc (h i))=fun i=>enc (zdN n f h i):=by
 funext j;simp only [appG,zdN];cases Nat.ble n j <;> rfl
theorem zF8 {α:Type} {enc:α→List PV} {size n:Nat} {g h:Nat→List PV} (hg:IsE enc size size g) (hh:IsE enc size size h):IsE enc size size (appG n g h):=by
 obtain ⟨_,f,rfl⟩:=hg
 obtain ⟨_,f',rfl⟩:=hh
 exact ⟨rfl,_,zn3⟩
def zfY {α : Type} (x : α) : List α → Nat → α
  | [],_=>x
  | y :: _,0=>y
  | _ :: r,i+1=>zfY x r i
theorem zfn {α:Type} {enc:α→List PV} {x y:α} {r:List α} : zec (enc x :: enc y :: r.map enc)=fun i=>enc (zfY x (x :: y :: r) i):=by
 have key:∀ (l:List α) (i:Nat),(match (l.map enc)[i]? with | some z=>z | none=>enc x)=enc (zfY x l i):=by
  intro l
  induction l with
  | nil=>intro i;rfl
  | cons a l ih =>
   intro i
   cases i with
   | zero=>rfl
   | succ i=>simpa [zfY] using ih i
 funext i
 exact key (x :: y :: r) i
theorem zgI {α:Type} {enc:α→List PV} {size:Nat} {x y:α} (r:List α):IsE enc size size (zec (enc x :: enc y :: r.map enc)):=⟨rfl,_,zfn⟩

theorem zbr {b:Bool} {A B:Prop} {S S':Bool} {α:Type} {K:α→Prop} {x y:α} (h1:S=true→K x→A) (h2:S'=true→K y→B) (hs:cond b S S'=true) (hk:K (cond b x y)):zcP b A B:=by
 cases b
 ·exact h2 hs hk
 ·exact h1 hs hk
theorem zn4 {b:Bool} {A B:Prop} {S S':Bool} {α β:Type} {f:α→β} {ys:List β} {x y:List α} (hs:cond b S S'=true) (hk:ys=(cond b x y).map f) (h1:S=true→ys=x.map f→A) (h2:S'=true→ys=y.map f→B):zcP b A B:=by
 cases b
 ·exact h2 hs hk
 ·exact h1 hs hk
theorem itY {α β:Type} {f:α→β} {ys:List β} {p:β} {x r:List α} {l:Nat} {A:List β→Prop} (hk:ys=x.map f) (e:x.map f=p :: r.map f) (h:∀ zs,zs=r.map f→A zs):l=l∧∃ z,ys=p :: z∧A z∧True :=
 ⟨rfl,_,hk.trans e,h _ rfl,trivial⟩
theorem zaE {C A:Prop} [d:Decidable C] {r:Bool} (hs:(decide C && r)=true) (k:C→r=true→A):A:=by
 rw [Bool.and_eq_true] at hs
 exact k (of_decide_eq_true hs.1) hs.2
abbrev Fuel:Nat:=9223372036854775808
def setT {α:Type} (i:Nat) (v:α) (get:Nat→α):Nat→α:=fun j=>match Nat.beq j i with | true=>v | false=>get j
theorem zf4 {α:Type} {enc:α→List PV} {n:Nat} {g g':Nat→List PV} {f h:Nat→α} (h1:g=fun i=>enc (f i)) (h2:g'=fun i=>enc (h i)):appG n g g'=fun i=>enc (zdN n f h i):=by
 subst h1;subst h2;exact zn3
theorem zEu {α:Type} {enc:α→List PV} {i k:Nat} {g:Nat→List PV} {f:Nat→α} {new:List PV} {v:α} (h1:g=fun i=>enc (f i)) (h2:spl (enc (f i)) k new=enc v):zpu i k g new=fun j=>enc (setT i v f j):=by
 subst h1
 funext j
 simp only [zpu,setT]
 cases e:Nat.beq j i
 ·rfl
 ·have := Nat.eq_of_beq_eq_true e
  subst this;exact h2
def zQo (P:Program) (G:Ctrs) (ann:Ann) (hd:Nat) (ps:List Nat) (assign body:Code) (X:List (List PA)→St→Prop) (K:Exit→St→Prop) (y:List PA) (rest:List (List PA)) (s:St):Prop :=
 match lk ann.head hd with
 | some k=>match zib ps y s.env with
  | some env=>vc P G ann assign (zFz (vc P G ann body (zmO P k (X rest) K)) fun _ _=>False) ⟨env,s.objs,[]⟩
  | none=>False
 | none=>False
def sortB (n:Nat) (p:Nat→Nat→Bool) (c:Nat→Nat→Int):Bool :=
  (List.range n).all fun i => decide (0 ≤ c i i) && (List.range n).all fun j => p i j && (Nat.beq i j || (decide (c i j < 0) && decide (0 ≤ c j i)) || (decide (c j i < 0) && decide (0 ≤ c i j))) &&
    (List.range n).all fun k=>!(decide (c i j < 0) && decide (c j k < 0)) || decide (c i k < 0)
theorem zC3 {n:Nat} {p:Nat→Nat→Bool} {c c':Nat→Nat→Int} {s:Nat→Nat→Prop} (h:sortB n p c=true) (hp:∀ i j,p i j=true→s i j) (hc:c'=c):(∀ i j,i < n→j < n→s i j)∧STO n c':=by
 subst hc
 simp only [sortB,List.all_eq_true,List.mem_range,Bool.and_eq_true,Bool.or_eq_true,decide_eq_true_eq,Bool.not_eq_true',Bool.and_eq_false_iff,decide_eq_false_iff_not] at h
 refine ⟨fun i j hi hj=>hp i j ((h i hi).2 j hj).1.1,fun i hi=>(h i hi).1,fun i j hi hj hne=>?_,fun i j k hi hj hk h1 h2=>?_⟩
 ·rcases ((h i hi).2 j hj).1.2 with (h1 | h1) | h1
  ·exact absurd (Nat.eq_of_beq_eq_true h1) hne
  ·exact .inl h1
  ·exact .inr h1
 ·rcases ((h i hi).2 j hj).2 k hk with (h3 | h3) | h3
  ·exact absurd h1 h3
  ·exact absurd h2 h3
  ·exact h3
end Go.Pm
namespace Go.Pm
open Go Go.Sort

def ins (x : Int) : List Int → List Int
  | []=>[x]
  | y :: r=>match decide (x≤y) with | true=>x :: y :: r | false=>y :: ins x r
/-! Nil slices are slices of length 0. -/
inductive PVle : PV → PV → Prop
  | rfl (p:PV):PVle p p
  | nil (s:Nat) (g:Nat→List PV):PVle .nils (.sl 0 s g)
  | nilm (q:MQ):PVle .nilm (.fm q 0 (fun _=>none))
inductive PAle : PA → PA → Prop
  | one {p q:PV} : PVle p q→PAle (.one p) (.one q)
  | agg {l m:List PV} : RL PVle l m→PAle (.agg l) (.agg m)
theorem zhi {α β:Type} {R:α→β→Prop} : RL R [] []:=trivial
theorem zdv {α β:Type} {R:α→β→Prop} {a:α} {b:β} {l:List α} {m:List β} (h:R a b) (h':RL R l m):RL R (a :: l) (b :: m):=⟨h,h'⟩
theorem zeL {α : Type} {R : α → α → Prop} (h : ∀ a, R a a) : ∀ l : List α, RL R l l
  | []=>trivial
  | a :: l=>⟨h a,zeL h l⟩
theorem zeM (a:PA):PAle a a:=by
 cases a with
 | one p=>exact .one (.rfl p)
 | agg l=>exact .agg (zeL .rfl l)
def Wk (K:List PA→Prop) (l:List PA):Prop:=∃ l',RL PAle l l'∧K l'
theorem wk {K:List PA→Prop} {l l':List PA} (hk:K l') (h:RL PAle l l'):Wk K l:=⟨l',h,hk⟩
theorem zdI {K:List PA→Prop} {l:List PA} (hk:K l):Wk K l:=⟨l,zeL zeM l,hk⟩
theorem zK9 {h:Fz} {p q:PV} {v:Value} (e:PVle p q) (r:Rep h p v):Rep h q v:=by
 cases e with
 | rfl=>exact r
 | nil s g=>cases r;exact .sl0 s g
 | nilm q=>cases r;exact .fmn q _ (fun _ _=>rfl)
theorem zC4 {α β γ : Type} {R : α → β → Prop} {S : α → γ → Prop} {T : γ → β → Prop} (h : ∀ a b c, S a c → R a b → T c b) : ∀ (l : List α) (m : List β) (k : List γ), RL S l k → RL R l m → RL T k m
  | [],[],[],_,_=>trivial
  | a :: l,b :: m,c :: k,hs,hr=>⟨h a b c hs.1 hr.1,zC4 h l m k hs.2 hr.2⟩
  | [],_ :: _,[],_,hr=>hr.elim
  | [],_,_ :: _,hs,_=>hs.elim
  | _ :: _,_,[],hs,_=>hs.elim
  | _ :: _,[],_ :: _,_,hr=>hr.elim
theorem zF9 {h:Fz} {a b:PA} {v:Value} (e:PAle a b) (r:paR h a v):paR h b v:=by
 cases e with
 | one e=>exact zK9 e r
 | agg e =>
  obtain ⟨vs,rfl,hv⟩:=r
  exact ⟨vs,rfl,zC4 (R:=Rep h) (S:=PVle) (T:=Rep h) (fun _ _ _ e r=>zK9 e r) _ _ _ e hv⟩
theorem zLa {h:Fz} {l m:List PA} {v:Value} (e:RL PAle l m) (r:zt5 h l v):zt5 h m v:=by
 match l,m,e,r with
 | [a],[b],e,r=>exact zF9 e.1 r
 | [],[],_,r=>exact r
 | a :: b :: l,c :: d :: m,e,r =>
  obtain ⟨vs,hv,hr⟩:=r
  exact ⟨vs,hv,zC4 (R:=paR h) (S:=PAle) (T:=paR h) (fun _ _ _ e r=>zF9 e r) _ _ _ e hr⟩
 | [_],_ :: _ :: _,e,_=>exact e.2.elim
 | _ :: _ :: _,[_],e,_=>exact e.2.elim
 | [],_ :: _,e,_=>exact e.elim
 | _ :: _,[],e,_=>exact e.elim
theorem zfo {P : Program} {T : Tabs} (hT : TabsOk P T) {f : FuncId} {C : List PA → COut} (hc : zaj P f)
    (h:∀ args K,(C args).wp K→∃ args',RL PAle args args'∧∃ memo vv ann,vcFun P (csm T memo vv) ann f args' (Wk K)):Ok P f C:=by
  intro args K hK w h0 vs hvs hfz
  obtain ⟨args',hle,memo,vv,ann,hv⟩:=h args K hK
  refine ⟨hc,(zxJ (hT.all memo vv) hv (zC4 (R:=paR h0) (S:=PAle) (T:=paR h0) (fun _ _ _ e r=>zF9 e r) _ _ _ hle hvs) hfz).mono ?_⟩
  rintro e w' ⟨h',rs,v,⟨rs',hr,hk⟩,he,hres,rest⟩
  exact ⟨h',rs',v,hk,he,zLa hr hres,rest⟩
/-! Maps, as typed values; the keys of a map. -/
structure Mp where
  n:Nat
  F:List Int→Option (List Int)
instance:Inhabited Mp:=⟨⟨0,fun _=>none⟩⟩

def zGa (m:Nat) (F:List Int→Option (List Int)) (seen ys:List (List Int)):Prop :=
 ys.Nodup∧(∀ y∈ys,y.length=m∧F y ≠ none∧y ∉ seen)∧∀ c,c.length=m→F c ≠ none→c ∉ seen→c∈ys
def nodupB : List (List Int) → Bool
  | []=>true
  | y :: r=>!r.contains y && nodupB r
def keysB (m n:Nat) (F:List Int→Option (List Int)) (ys:List (List Int)):Bool :=
 Nat.beq ys.length n && ys.all (fun y=>Nat.beq y.length m && (F y).isSome) && nodupB ys
theorem zgJ : ∀ {ys : List (List Int)}, nodupB ys = true ↔ ys.Nodup
  | []=>by simp [nodupB]
  | y :: r=>by simp [nodupB,zgJ (ys:=r)]
theorem zqg {α : Type} [DecidableEq α] : ∀ {l m : List α}, l.Nodup → (∀ x ∈ l, x ∈ m) → m.length ≤ l.length → ∀ x ∈ m, x ∈ l
  | [],m,_,_,hl,x,hx=>by have:m=[]:=List.eq_nil_of_length_eq_zero (by simpa using hl);rw [this] at hx;exact hx
  | a :: l,m,hn,hs,hl,x,hx=>by
    have ha:=hs a List.mem_cons_self
    by_cases h:x=a
    · rw [h];exact List.mem_cons_self
    · have hx2 : x ∈ m.erase a := (List.mem_erase_of_ne h).2 hx
      have hn2:=List.nodup_cons.1 hn
      refine List.mem_cons_of_mem _ (zqg hn2.2 (fun z hz=>?_) ?_ x hx2)
      · have hza : z ≠ a := fun e => hn2.1 (e ▸ hz)
        exact (List.mem_erase_of_ne hza).2 (hs z (List.mem_cons_of_mem _ hz))
      · rw [List.length_erase_of_mem ha];simp at hl;omega
theorem zlp {m n:Nat} {F:List Int→Option (List Int)} {ys:List (List Int)} (h:keysB m n F ys=true) (hf:zCr m n F):zGa m F [] ys:=by
 simp only [keysB,Bool.and_eq_true,List.all_eq_true] at h
 obtain ⟨⟨h1,h2⟩,h3⟩:=h
 have h1:=Nat.eq_of_beq_eq_true h1
 have h3:=zgJ.1 h3
 obtain ⟨ks,k1,k2,k3,k4⟩:=hf
 have hy:∀ y∈ys,y.length=m∧F y ≠ none:=fun y hy=>by
  obtain ⟨a,b⟩:=h2 y hy
  refine ⟨Nat.eq_of_beq_eq_true a,fun e=>?_⟩
  rw [e] at b;cases b
 refine ⟨h3,fun y hy'=>⟨(hy y hy').1,(hy y hy').2,by simp⟩,fun c hc hne _=>?_⟩
 exact zqg h3 (fun y hy'=>(k4 y (hy y hy').1).1 (hy y hy').2) (by rw [k1,h1];exact Nat.le_refl _) c ((k4 c hc).1 hne)
theorem zn5 {m : Nat} {F : List Int → Option (List Int)} {seen ys : List (List Int)} (h : zGa m F seen ys) {c : List Int} (hc : c.length = m) (hF : F c ≠ none) (hs : c ∉ seen) :
  ys.Perm (c :: ys.erase c)∧zGa m F (c :: seen) (ys.erase c)∧(ys.erase c).length+1=ys.length:=by
 obtain ⟨h1,h2,h3⟩:=h
 have hm:=h3 c hc hF hs
 refine ⟨List.perm_cons_erase hm,⟨h1.erase c,fun y hy=>?_,fun d hd hdF hds=>?_⟩,?_⟩
 ·have := (List.Nodup.mem_erase_iff h1).1 hy
  obtain ⟨a,b,e⟩:=h2 y this.2
  exact ⟨a,b,by simp [this.1,e]⟩
 ·simp only [List.mem_cons, not_or] at hds
  exact (List.mem_erase_of_ne hds.1).2 (h3 d hd hdF hds.2)
 ·rw [List.length_erase_of_mem hm]
  have:0 < ys.length:=List.length_pos_of_mem hm
  omega
theorem zr2 {m:Nat} {F:List Int→Option (List Int)} {seen ys:List (List Int)} (h:zGa m F seen ys) (he:∀ c,c.length=m→F c ≠ none→c∈seen):ys=[]:=by
 cases ys with
 | nil=>rfl
 | cons y r =>
  obtain ⟨a,b,e⟩:=h.2.1 y List.mem_cons_self
  exact (e (he y a b)).elim

end Go.Pm
namespace Go.Pm
open Go

theorem za2 {x:Int} (h1 : -9223372036854775808≤x) (h2:x≤9223372036854775807):w64 x=x:=by
 have hb:IntKind.i64.bits=64:=rfl
 have hs:IntKind.i64.signed=true:=rfl
 unfold w64 IntKind.wrap
 rw [hb,hs]
 simp only [Bool.true_and,decide_eq_true_eq]
 split <;> omega
def zQp (c : Nat → Bool) : Nat → Nat → Nat
  | 0,i=>i
  | m+1,i=>match c i with | true=>i | false=>zQp c m (i+1)
def fst (c:Nat→Bool) (n:Nat):Nat:=zQp c n 0
theorem zn6 {good : Nat → Bool} {fin : Bool} {n : Nat} {lpS lpP : Nat → Int → Bool}
    (hS:∀ (k i:Nat),i < n→lpS (k+1) (i:Int)=cond (good i) (lpS k (w64 ((i:Int)+(1:Int)))) false)
    (hE:∀ k,lpS (k+1) (n:Int)=fin)
    (hP:∀ (k i:Nat),i < n→lpP (k+1) (i:Int)=cond (good i) (lpP k (w64 ((i:Int)+(1:Int)))) true)
    (hPE:∀ k,lpP (k+1) (n:Int)=true) (hn:n≤9223372036854775807) :
    lpP Fuel 0=true∧(lpS Fuel 0=true↔(∀ i,i < n→good i=true)∧fin=true):=by
  have key:∀ (m k i:Nat),i+m=n→m < k→lpP k (i:Int)=true∧(lpS k (i:Int)=true↔(∀ j,i≤j→j < n→good j=true)∧fin=true):=by
    intro m
    induction m with
    | zero =>
      intro k i hi hk
      obtain ⟨k,rfl⟩:∃ k',k=k'+1:=⟨k - 1,by omega⟩
      have:i=n:=by omega
      subst this
      rw [hE,hPE]
      exact ⟨rfl,⟨fun h=>⟨fun j h1 h2=>absurd h2 (by omega),h⟩,fun h=>h.2⟩⟩
    | succ m ih =>
      intro k i hi hk
      obtain ⟨k,rfl⟩:∃ k',k=k'+1:=⟨k - 1,by omega⟩
      rw [hS k i (by omega),hP k i (by omega)]
      have e3:w64 ((i:Int)+1)=((i+1:Nat):Int):=by rw [za2 (by omega) (by omega)];omega
      rw [e3]
      obtain ⟨h1,h2⟩:=ih k (i+1) (by omega) (by omega)
      cases hg:good i
      · refine ⟨rfl, ⟨fun h => (by cases h), fun h => ?_⟩⟩
        have:=h.1 i (Nat.le_refl _) (by omega)
        rw [hg] at this;cases this
      · refine ⟨h1, h2.trans ⟨fun h => ⟨fun j hj1 hj2 => ?_, h.2⟩, fun h => ⟨fun j hj1 hj2 => h.1 j (by omega) hj2, h.2⟩⟩⟩
        by_cases hji:j=i
        · rw [hji];exact hg
        · exact h.1 j (by omega) hj2
  have:=key n Fuel 0 (by omega) (by simp only [Fuel];omega)
  simpa using this

end Go.Pm
namespace Go.Pm
open Go Go.Deep

theorem zC5 (b o i j:Nat):((⟨b,o,none⟩:Addr).add i).add j=⟨b,o+i+j,none⟩:=by
 simp only [Addr.add]
 by_cases h1:i=0
 ·subst h1
  by_cases h2:j=0
  ·subst h2;rfl
  ·rw [if_neg h2];rfl
 ·rw [if_neg h1]
  by_cases h2:j=0
  ·subst h2;rfl
  ·rw [if_neg h2]
def H0 (w:World):Fz:=fun b=>(w.heap[b]?).map .fz
theorem hw_H0 (w:World):Hw (H0 w) w:=by
 intro b x h
 unfold H0 at h
 cases e:w.heap[b]? with
 | none=>rw [e] at h;cases h
 | some o=>rw [e] at h;cases h;exact ⟨o,rfl,rfl⟩
def wfI (x:Int):Prop:=-9223372036854775808≤x∧x≤9223372036854775807
section
variable {H:Type} {en:TypeId×Value→H} {P:Program} {w:World} {sp:Nat→Bool} {held:Bool}
def Rd (H:Type) (en:TypeId×Value→H) (P:Program) (w:World) (sp:Nat→Bool) (held:Bool) (t:TypeId) {α:Type} (enc:α→List PV) (wf:α→Prop):Prop :=
 ∀ (fuel:Nat) (cs:List Value) (x:DataW H×List MemPlace),DataW.trod en P w 0 sp held fuel t cs=some x→∃ a:α,RL (Rep (H0 w)) (enc a) cs∧wf a
theorem zLb {t:TypeId} (ht:P.underlying t=some (.int .i64)):Rd H en P w sp held t (fun x=>[.int .i64 x]) wfI:=by
 intro fuel cs x h
 obtain ⟨n,rfl,_,hw⟩:=DataW.trod_int ht h
 refine ⟨n,⟨.int _ _,trivial⟩,?_⟩
 simp only [Lit.wf,Bool.and_eq_true,decide_eq_true_eq] at hw
 exact ⟨hw.1,hw.2⟩
theorem zxT {t : TypeId} {fs : Array Field} (ht : P.underlying t = some (.struct fs)) {fuel : Nat} {cs : List Value} {x : DataW H × List MemPlace} (h : DataW.trod en P w 0 sp held fuel t cs = some x) :
  cs.length=P.cellsOf t∧∀ (i:Nat) (f:Field),fs[i]? = some f→∃ n y,DataW.trod en P w 0 sp held n f.type ((cs.drop f.offset).take (P.cellsOf f.type))=some y:=by
 obtain ⟨xs,n,_,_,hl,hx,hf⟩:=DataW.trod_struct ht h
 refine ⟨hl,fun i f hi=>?_⟩
 have hlt:i < xs.length:=by rw [hx];exact (Array.getElem?_eq_some_iff.1 hi).1
 exact ⟨n,xs[i],by rw [hf i f hi,List.getElem?_eq_getElem hlt]⟩
theorem zC6 {t e : TypeId} {α : Type} [Inhabited α] {enc : α → List PV} {wf : α → Prop} {s : Nat} (ht : P.underlying t = some (.slice e)) (hc : P.cellsOf e = s) (hs : 0 < s) (hlen : ∀ a, (enc a).length = s)
    (hel:Rd H en P w sp held e enc wf):Rd H en P w sp held t (fun x:Sl α=>[.sl x.len s (fun i=>enc (x.get i))]) (fun x=>x.len≤9223372036854775807∧∀ i,i < x.len→wf (x.get i)):=by
  intro fuel cs x h
  rcases open_slice ht h with ⟨rfl,_⟩ | ⟨a,len,cap,m,n,D,Pl,rfl,_,hl,hm,hmm,_,hget⟩
  · exact ⟨⟨0,default⟩,⟨.sl0 _ _,trivial⟩,Nat.zero_le _,fun i hi=>absurd hi (Nat.not_lt_zero i)⟩
  · by_cases h0 : len = 0
    · subst h0
      exact ⟨⟨0,default⟩,⟨.sle _ _ _ _,trivial⟩,Nat.zero_le _,fun i hi=>absurd hi (Nat.not_lt_zero i)⟩
    · have hlm : len ≤ m := by rw [hmm]; split <;> omega
      rw [hc] at hget
      have hex:∀ i,i < len→∃ y:α,(∃ cs',w.cells? 0 (a.add (i * s)) s=some cs'∧RL (Rep (H0 w)) (enc y) cs')∧wf y:=by
        intro i hi
        obtain ⟨cs',h1,h2⟩:=hget i (by omega)
        obtain ⟨y,h3,h4⟩:=hel _ _ _ h2
        exact ⟨y,⟨cs',h1,h3⟩,h4⟩
      have hch:∃ f:Nat→α,∀ i,i < len→(∃ cs',w.cells? 0 (a.add (i * s)) s=some cs'∧RL (Rep (H0 w)) (enc (f i)) cs')∧wf (f i):=by
        refine ⟨fun i=>if hi:i < len then Classical.choose (hex i hi) else default,fun i hi=>?_⟩
        simp only [dif_pos hi]
        exact Classical.choose_spec (hex i hi)
      obtain ⟨f,hf⟩:=hch
      -- the block
      have hcell:∀ i,i < len→∀ j,j < s→∃ cs',w.cells? 0 (a.add (i * s)) s=some cs'∧RL (Rep (H0 w)) (enc (f i)) cs'∧w.cell? ((a.add (i * s)).add j)=cs'[j]?∧cs'.length=s:=by
        intro i hi j hj
        obtain ⟨⟨cs',h1,h2⟩,_⟩:=hf i hi
        obtain ⟨_,h3,h4⟩:=World.cells?_some h1
        exact ⟨cs',h1,h2,h4 j hj,h3⟩
      obtain ⟨cs0,_,_,hc0,hl0⟩:=hcell 0 (by omega) 0 hs
      have ha0:w.cell? a=cs0[0]?:=by simpa [Addr.add] using hc0
      rw [List.getElem?_eq_getElem (by omega)] at ha0
      obtain ⟨C,ty,fr,hblk,hspot⟩:∃ C ty fr,w.heap[a.block]? = some (.cells C ty fr)∧a.spot=none:=by
        unfold World.cell? at ha0
        split at ha0
        · rename_i C ty fr hb
          refine ⟨C,ty,fr,hb,?_⟩
          cases hsp:a.spot with
          | none=>rfl
          | some k=>rw [hsp] at ha0;simp at ha0
        · cases ha0
      have ea:a=⟨a.block,a.off,none⟩:=by rw [← hspot]
      have hat:∀ i j,i < len→j < s→∃ cs',RL (Rep (H0 w)) (enc (f i)) cs'∧C[a.off+i * s+j]? = cs'[j]?∧cs'.length=s:=by
        intro i j hi hj
        obtain ⟨cs',_,h2,h3,h4⟩:=hcell i hi j hj
        refine ⟨cs',h2,?_,h4⟩
        rw [← h3]
        have e2:(a.add (i * s)).add j=⟨a.block,a.off+i * s+j,none⟩:=(congrArg (fun z:Addr=>(z.add (i * s)).add j) ea).trans (zC5 _ _ _ _)
        rw [e2]
        simp [World.cell?,hblk]
      refine ⟨⟨len,f⟩,⟨?_,trivial⟩,by simp only [maxLen] at hm;show len≤_;omega,fun i hi=>(hf i hi).2⟩
      rw [ea]
      refine .sl len s _ a.block a.off cap C ty fr (fun i j=>C.getD (a.off+i * s+j) undef) (by simp [H0,hblk]) hl (fun i _=>hlen _) ?_ ?_
      · intro i j x hi hx
        have hj:j < s:=by have:=(List.getElem?_eq_some_iff.1 hx).1;rw [hlen] at this;exact this
        obtain ⟨cs',h1,h2,h3⟩:=hat i j hi hj
        rw [Array.getD_eq_getD_getElem?,h2,List.getElem?_eq_getElem (by omega)]
        rfl
      · intro i j x hi hx
        have hj:j < s:=by have:=(List.getElem?_eq_some_iff.1 hx).1;rw [hlen] at this;exact this
        obtain ⟨cs',h1,h2,h3⟩:=hat i j hi hj
        obtain ⟨v,hv,hr⟩:=h1.get j x hx
        rw [Array.getD_eq_getD_getElem?,h2,hv]
        exact hr
theorem zi2 {α:Type} (l:List α) (o s:Nat):l.drop o=(l.drop o).take s ++ l.drop (o+s):=by
 rw [← List.drop_drop]
 exact (List.take_append_drop s (l.drop o)).symm
def zOu : TypeDesc → Bool
  | .struct _=>false
  | .array _ _=>false
  | _=>true
theorem okWide_one {t:TypeId} {d:TypeDesc} {r:Reach} {base:Nat} {v:Value} (ht:P.underlying t=some d) (hd:zOu d=true) (h:Value.okWide P w r base t v):v.cells.toList=[v]:=by
 unfold Value.okWide at h
 rw [ht] at h
 cases v with
 | agg cs =>
  exfalso
  cases d <;> first | (cases hd;done) | (simp only [Cell.okWide,Cell.ok,ht] at h)
 | _=>rfl
theorem pa_one {h:Fz} {p:PV} {v:Value} (hv:v.cells.toList=[v]) (r:RL (Rep h) [p] v.cells.toList):paR h (.one p) v:=by
 rw [hv] at r
 exact r.1
theorem below_H0 {w':World} (b:Bel (H0 w) w.heap.size w w'):Go.RowKit.Below w.heap.size w w' :=
 ⟨b.os,b.tape,b.output,b.size,fun k hk=>b.block k hk fun F e=>by
  unfold H0 at e
  cases hb:w.heap[k]? <;> rw [hb] at e <;> cases e⟩
end
end Go.Pm
/-
  DERIVED: THE SHELF's CONTRACTS AT THIS DUMP,IN PLAIN WORDS (tools/lay-plain.mjs out of 'YtkpjhhoafenogaaLs.lean',which tools/lay-shelf.mjs wrote): THE SAME DECLARATIONS UNDER THE SAME NAMES: 'import','namespace','open','def','theorem' AND NOTHING ELSE: no command of the shelf's: FOR A HAND-IN. Each laying: the table of numbers ('.._ren') and one theorem,a field a fact of the dump's own or the kernel's comparison;each contract: ONE APPLICATION.
-/
namespace Go.Proofs
open Go.Shelf
def Try.laysS106_ren:Go.Shelf.Ren:=⟨fun | 6=>106 | 15=>122 | 14=>121 | 28=>132 | 29=>133 | 20=>124 | 21=>125 | 22=>126 | 23=>127 | 24=>128 | 25=>129 | 26=>130 | 27=>131 | 46=>134 | 47=>135 | 48=>136 | 49=>137 | 50=>138 | 57=>139 | n=>n,fun | 22=>102 | 24=>118 | 25=>147 | 3=>3 | 39=>156 | 0=>0 | 53=>166 | 55=>168 | 4=>4 | 46=>159 | 45=>158 | 50=>163 | 5=>5 | 9=>9 | 66=>169 | 70=>173 | 76=>175 | 77=>143 | n=>n,fun | n=>n⟩
theorem Try.laysS106 : Go.Proofs.SlLaysF0.n6 Try.prog Try.laysS106_ren := {
  mixed:=by kernel_rfl
  f6:=⟨Try.f106.name,by decide,Try.func106.trans (congrArg some (by kernel_rfl))⟩
  f14:=⟨Try.f121.name,by decide,Try.func121.trans (congrArg some (by kernel_rfl))⟩
  f15:=Try.func122.trans (congrArg some (by kernel_rfl))
  f20:=⟨Try.f124.name,by decide,Try.func124.trans (congrArg some (by kernel_rfl))⟩
  f21:=⟨Try.f125.name,by decide,Try.func125.trans (congrArg some (by kernel_rfl))⟩
  f22:=⟨Try.f126.name,by decide,Try.func126.trans (congrArg some (by kernel_rfl))⟩
  f23:=⟨Try.f127.name,by decide,Try.func127.trans (congrArg some (by kernel_rfl))⟩
  f24:=⟨Try.f128.name,by decide,Try.func128.trans (congrArg some (by kernel_rfl))⟩
  f25:=⟨Try.f129.name,by decide,Try.func129.trans (congrArg some (by kernel_rfl))⟩
  f26:=⟨Try.f130.name,by decide,Try.func130.trans (congrArg some (by kernel_rfl))⟩
  f27:=⟨Try.f131.name,by decide,Try.func131.trans (congrArg some (by kernel_rfl))⟩
  f28:=Try.func132.trans (congrArg some (by kernel_rfl))
  f29:=Try.func133.trans (congrArg some (by kernel_rfl))
  f46:=⟨Try.f134.name,by decide,Try.func134.trans (congrArg some (by kernel_rfl))⟩
  f47:=Try.func135.trans (congrArg some (by kernel_rfl))
  f48:=Try.func136.trans (congrArg some (by kernel_rfl))
  f49:=⟨Try.f137.name,by decide,Try.func137.trans (congrArg some (by kernel_rfl))⟩
  f50:=⟨Try.f138.name,by decide,Try.func138.trans (congrArg some (by kernel_rfl))⟩
  f57:=⟨Try.f139.name,by decide,Try.func139.trans (congrArg some (by kernel_rfl))⟩
  t0:=Try.underlying0
  a0:=Try.isAgg0
  z0:=Try.sizeOf0
  v0:=Try.zeroValue0
  t3:=Try.underlying3
  a3:=Try.isAgg3
  z3:=Try.sizeOf3
  v3:=Try.zeroValue3
  t4:=Try.underlying4
  a4:=Try.isAgg4
  z4:=Try.sizeOf4
  v4:=Try.zeroValue4
  t5:=Try.underlying5
  a5:=Try.isAgg5
  z5:=Try.sizeOf5
  v5:=Try.zeroValue5
  t9:=Try.underlying9
  a9:=Try.isAgg9
  z9:=Try.sizeOf9
  v9:=Try.zeroValue9
  t22:=Try.underlying102
  a22:=Try.isAgg102
  z22:=Try.sizeOf102
  v22:=Try.zeroValue102
  t25:=Try.underlying147
  a25:=Try.isAgg147
  z25:=Try.sizeOf147
  v25:=Try.zeroValue147
  t39:=Try.underlying156
  a39:=Try.isAgg156
  z39:=Try.sizeOf156
  v39:=Try.zeroValue156
  t45:=Try.underlying158
  a45:=Try.isAgg158
  z45:=Try.sizeOf158
  v45:=Try.zeroValue158
  t46:=Try.underlying159
  a46:=Try.isAgg159
  z46:=Try.sizeOf159
  v46:=Try.zeroValue159
  t50:=Try.underlying163
  a50:=Try.isAgg163
  z50:=Try.sizeOf163
  v50:=Try.zeroValue163
  t53:=Try.underlying166
  a53:=Try.isAgg166
  z53:=Try.sizeOf166
  v53:=Try.zeroValue166
  t55:=Try.underlying168
  a55:=Try.isAgg168
  z55:=Try.sizeOf168
  v55:=Try.zeroValue168
  t66:=Try.underlying169
  a66:=Try.isAgg169
  z66:=Try.sizeOf169
  v66:=Try.zeroValue169
  t70:=Try.underlying173
  a70:=Try.isAgg173
  z70:=Try.sizeOf173
  v70:=Try.zeroValue173
  t76:=Try.underlying175
  a76:=Try.isAgg175
  z76:=Try.sizeOf175
  v76:=Try.zeroValue175
  t77:=Try.underlying143
  a77:=Try.isAgg143
  z77:=Try.sizeOf143
  v77:=Try.zeroValue143 }
end Go.Proofs
namespace Go.Pm
open Go.Shelf Go.RowKit Go.Lib Go.Sort Go.Proofs

section perm
variable {c:Nat→Nat→Int}
theorem zio (x : Nat) : ∀ l : List Nat, (zCo c x l).Perm (x :: l)
  | []=>.refl _
  | y :: r=>by
    unfold zCo
    split
    · exact .refl _
    · exact ((zio x r).cons y).trans (.swap _ _ _)
theorem znh (n:Nat):(zvT n c).Perm (List.range n):=by
 unfold zvT
 generalize List.range n=l
 induction l with
 | nil=>exact .refl _
 | cons x l ih=>exact (zio x _).trans (ih.cons x)
def leB (c:Nat→Nat→Int) (a b:Nat):Prop:=¬ c b a < 0
theorem zxU {n : Nat} (H : STO n c) {x : Nat} (hx : x < n) : ∀ {l : List Nat}, (∀ y ∈ l, y < n) → l.Pairwise (leB c) → (zCo c x l).Pairwise (leB c)
  | [],_,_=>by simp [zCo]
  | y :: r,hl,hp=>by
    have hy:=hl y List.mem_cons_self
    rw [List.pairwise_cons] at hp
    unfold zCo
    split
    · rename_i h
      have h:=of_decide_eq_true h
      rw [List.pairwise_cons]
      refine ⟨fun z hz=>?_,List.pairwise_cons.2 hp⟩
      have hxy:leB c x y:=fun h2=>by
        have:=H.1 x hx
        have:=H.2.2 x y x hx hy hx h h2
        omega
      rcases List.mem_cons.1 hz with rfl | hz
      · exact hxy
      · intro h2
        exact hp.1 z hz (H.2.2 z x y (hl z (List.mem_cons_of_mem _ hz)) hx hy h2 h)
    · rename_i h
      have h:=of_decide_eq_false h
      rw [List.pairwise_cons]
      refine ⟨fun z hz=>?_,zxU H hx (fun z hz=>hl z (List.mem_cons_of_mem _ hz)) hp.2⟩
      rcases List.mem_cons.1 ((zio x r).mem_iff.1 hz) with rfl | hz
      · exact h
      · exact hp.1 z hz
theorem zC7 {n:Nat} (H:STO n c):(zvT n c).Pairwise (leB c):=by
 have key:∀ l:List Nat,(∀ y∈l,y < n)→(l.foldr (zCo c) []).Pairwise (leB c)∧∀ y∈l.foldr (zCo c) [],y < n:=by
  intro l
  induction l with
  | nil=>intro _;exact ⟨List.Pairwise.nil,fun y hy=>by simp at hy⟩
  | cons x l ih =>
   intro h
   obtain ⟨h1,h2⟩:=ih fun y hy=>h y (List.mem_cons_of_mem _ hy)
   have hx:=h x List.mem_cons_self
   refine ⟨zxU H hx h2 h1,fun y hy=>?_⟩
   rcases List.mem_cons.1 ((zio x _).mem_iff.1 hy) with rfl | hy
   ·exact hx
   ·exact h2 y hy
 exact (key _ fun y hy=>List.mem_range.1 hy).1
theorem zwq {n:Nat} (H:STO n c) {l:List Nat} (hp:l.Perm (List.range n)) (hs:l.Pairwise (leB c)):l=zvT n c:=by
 refine List.Perm.eq_of_pairwise (le:=leB c) (fun a b ha hb h1 h2=>?_) hs (zC7 H) (hp.trans (znh n).symm)
 have ha:=List.mem_range.1 (hp.mem_iff.1 ha)
 have hb:=List.mem_range.1 ((znh n).mem_iff.1 hb)
 by_cases e:a=b
 ·exact e
 ·rcases H.2.1 a b ha hb e with h | h
  ·exact absurd h.1 h2
  ·exact absurd h.1 h1
end perm

theorem zxV {w w':World} (h1:w'.heap=w.heap) (h2:w'.tape=w.tape) (h3:w'.drawn=w.drawn) (h4:w'.os=w.os) (h5:w'.output=w.output):w'=w:=by
 cases w;cases w';simp_all
theorem zC8 {w w':World} {h:Fz} (b:Bel h w.heap.size w w') (hi:∀ k F,h k ≠ some (.inv F)):∃ q os,w'=grow (w.drewN q) os:=by
 refine ⟨w'.drawn - w.drawn,w'.heap.extract w.heap.size w'.heap.size,zxV ?_ b.tape ?_ b.os b.output⟩
 ·show w'.heap = w.heap ++ w'.heap.extract w.heap.size w'.heap.size
  apply Array.ext_getElem?
  intro i
  rw [Array.getElem?_append]
  split
  ·rename_i hl;exact b.block i hl (fun F=>hi i F)
  ·rename_i hl
   rw [Array.getElem?_extract]
   by_cases hlt:i < w'.heap.size
   ·rw [if_pos (by omega)];congr 1;omega
   ·rw [if_neg (by omega),Array.getElem?_eq_none (by omega)]
 ·show w'.drawn = w.drawn + (w'.drawn - w.drawn)
  have:=b.drawn;omega

theorem zqh {w : World} {g q : Nat} {cur : Array Value} {e : TypeId} {fr : Nat × Nat} {off : Nat} (F : Array Value) (hb : w.heap[g]? = some (.cells cur e fr)) :
  ∃ cur',(putRow id (Sort.ahead w q) g off F).heap[g]? = some (.cells cur' e fr)∧cur'.size=cur.size:=by
 refine ⟨putCells id off F cur,?_,by simp [putCells]⟩
 simp [putRow,mapBlock,Sort.ahead,Array.getElem?_modify,hb,onCells]
theorem zlq {w:World} {g q off:Nat} (F:Array Value) {k:Nat} (hk:k ≠ g):(putRow id (Sort.ahead w q) g off F).heap[k]? = w.heap[k]?:=by
 simp [putRow,mapBlock,Sort.ahead,Array.getElem?_modify,Ne.symm hk]

theorem zxW {P:Program} {ρ:Ren} (L:SlLaysF0.n6 P ρ) {e s b:Nat} (he:ρ.t 24=e) (hag:zfb P e=some true) (hsz:szT P e=some s) (hM : ¬ zpw) (hc:zaj P (ρ.f 6)):znz P (ρ.f 6) (.sort e s b):=by
 intro w h base v n get gf caps cv ag C hC hcv hag' _ hpos ⟨xs,hown,hr⟩ hone hw hob hbase hn hS hO
 rw [hag] at hag';simp only [Option.some.injEq] at hag';subst hag'
 refine ⟨hc,?_⟩
 have hni:∀ k F,h k ≠ some (.inv F):=fun k F hk=>by obtain ⟨o,_,ho⟩:=hw k _ hk;exact hM ho.2
 have hdr:∀ (w':World) (k:Nat),w.drawn≤w.drawn+k:=fun _ k=>Nat.le_add_right _ _
 have none:∀ (p:Option Addr) (cap:Nat),n=0→v=.slice p 0 cap→Calls P (ρ.f 6) #[v,.func (.func gf) #[] cv.toArray] w fun r w'=>r=.returned (.tuple #[])∧zEd h w' base e s v n (zrm n (zwC C caps true get) get)∧GrB w w' v.ownBlock:=by
  rintro p cap rfl rfl
  refine (AnyF.slices_SortFunc_none L p cap _ w).mono ?_
  rintro r w' ⟨rfl,rfl⟩
  exact ⟨rfl,⟨xs,hown,fun i hi=>absurd hi (Nat.not_lt_zero i)⟩,⟨rfl,rfl,rfl,Nat.le_refl _,fun _ _ _=>rfl⟩,Nat.le_refl _⟩
 rcases hown.2 with ⟨h1,h2⟩ | ⟨blk,cap,cur,rfl,hb,hcell,hncap,hcap,hcs,htk⟩
 ·exact none _ _ h2 h1
 by_cases hn0:n=0
 ·subst hn0;exact none _ _ rfl rfl
 have:Inhabited (Fin n):=⟨⟨0,by omega⟩⟩
 let enc:Fin n→List Value:=fun i=>(xs.drop (i.val * s)).take s
 let c:=zwC C caps true get
 let cf:Fin n→Fin n→Int:=fun x y=>c x.val y.val
 let d:Array (Fin n):=Array.ofFn id
 have hds:d.size=n:=Array.size_ofFn
 have hdi:∀ i (hi:i < n),d[i]! = ⟨i,hi⟩:=fun i hi=>by
  rw [getElem!_pos d i (by rw [hds];exact hi)];simp [d]
 have hlt:blk < w.heap.size:=(Array.getElem?_eq_some_iff.1 hcell).1
 have hbn:h blk=Option.none:=hob blk rfl
 have hmul:∀ i,i < n→i * s+s≤n * s:=fun i hi=>by have:=Nat.mul_le_mul_right s (Nat.succ_le_of_lt hi);rw [Nat.succ_mul] at this;exact this
 have hk:∀ x,(enc x).length=s:=fun x=>by
  have:=hmul x.val x.isLt
  simp only [enc,List.length_take,List.length_drop,hown.1];omega
 have hcur:∀ j,j < n * s→cur[j]? = xs[j]?:=fun j hj=>by
  have:(cur.toList.take (n * s))[j]? = xs[j]?:=by rw [htk]
  rw [List.getElem?_take,if_pos hj] at this;simpa using this
 have hxl:∀ j,j < n * s→∃ u,xs[j]? = some u:=fun j hj=>⟨xs[j]'(by rw [hown.1];exact hj),List.getElem?_eq_getElem _⟩
 have h1:∀ x,∀ u∈enc x,u.oneCell'=true:=fun x u hu=>by
  obtain ⟨j,hj⟩:=List.getElem?_of_mem hu
  obtain ⟨p,_,hp⟩:=(hr x.val x.isLt).get' j u hj
  exact hp.one
 have hflat:∀ j (hj:j < n * s),(flatK enc s d)[j]! = xs[j]'(by rw [hown.1];exact hj):=fun j hj=>by
  have hq:j / s < n:=Nat.div_lt_of_lt_mul (by rw [Nat.mul_comm];exact hj)
  rw [get_flatK _ _ _ _ (by rw [hds];exact hj),hdi _ hq]
  have hm:=Nat.mod_lt j hpos
  have hdm:=Nat.div_add_mod j s
  rw [getElem!_pos _ _ (by rw [hk];exact hm)]
  simp only [enc,List.getElem_take,List.getElem_drop]
  congr 1
  rw [Nat.mul_comm];exact hdm
 have hH:HoldsK enc s w blk 0 d:=fun j hj=>by
  have hj:j < n * s:=by rw [size_flatK,hds] at hj;exact hj
  refine ⟨?_,frozen_of_row w blk _ cur e hcell⟩
  rw [hflat j hj,cell_of hcell,Nat.zero_add,hcur j hj]
  exact List.getElem?_eq_getElem _
 have eg:∀ args w,(callFunc gf args).run P w=.ok (.enter gf args) w:=by
  have hcg:zaj P gf:=by
   have hs0:=hS 0 0 (by omega) (by omega)
   unfold zKo at hs0
   split at hs0
   ·rename_i s0 c0 hat
    have hwp:(C (elP true (get 0) :: elP true (get 0) :: caps.map .one)).wp (fun _=>True):=by
     unfold zCn at hat
     split at hat
     ·rename_i e1;rw [e1];trivial
     ·rename_i e1;simp only [Option.some.injEq,Prod.mk.injEq] at hat;rw [e1];exact ⟨by rw [hat.1];exact hs0,trivial⟩
     ·cases hat
    exact (hC _ _ hwp w h (.agg (enc ⟨0,by omega⟩).toArray :: .agg (enc ⟨0,by omega⟩).toArray :: cv) ⟨⟨_,rfl,hr 0 (by omega)⟩,⟨_,rfl,hr 0 (by omega)⟩,RL.map_left.2 hcv⟩ hw).1
   ·exact hs0.elim
  exact fun args w=>zcV hcg
 have hcmp:CmpLays P gf cv.toArray enc s cf blk 0 d.size w:=by
  intro m os dk hdk x y
  have hs0:=hS x.val y.val x.isLt y.isLt
  unfold zKo at hs0
  split at hs0
  ·rename_i s0 c0 hat
   have hwp:(C (elP true (get x.val) :: elP true (get y.val) :: caps.map .one)).wp (fun rs=>rs=[.one (.int .i64 (cf x y))]):=by
    have hcv:cf x y=c0:=by show zwC C caps true get x.val y.val=c0;unfold zwC;rw [hat]
    rw [hcv]
    unfold zCn at hat
    split at hat
    ·rename_i e1;simp only [Option.some.injEq,Prod.mk.injEq] at hat;rw [e1,hat.2];rfl
    ·rename_i e1;simp only [Option.some.injEq,Prod.mk.injEq] at hat;rw [e1,hat.2];exact ⟨by rw [hat.1];exact hs0,rfl⟩
    ·cases hat
   have hwh:Hw h (sortWorldK enc s w blk 0 m dk os):=hw.same fun k o hk=>by
    have hkb:k ≠ blk:=fun e=>by rw [e,hbn] at hk;cases hk
    have hkl:=hw.lt hk
    show ((putRow id (Sort.ahead w m) blk 0 (flatK enc s dk)).heap ++ os)[k]? = _
    rw [Array.getElem?_append_left (by simpa [putRow,mapBlock,Sort.ahead] using hkl)]
    exact zlq _ hkb
   obtain ⟨_,hrun⟩:=hC _ _ hwp (sortWorldK enc s w blk 0 m dk os) h (.agg (enc x).toArray :: .agg (enc y).toArray :: cv) ⟨⟨_,rfl,hr x.val x.isLt⟩,⟨_,rfl,hr y.val y.isLt⟩,RL.map_left.2 hcv⟩ hwh
   rw [show (#[Value.agg (enc x).toArray,.agg (enc y).toArray] ++ cv.toArray)=(Value.agg (enc x).toArray :: .agg (enc y).toArray :: cv).toArray by simp]
   refine hrun.mono ?_
   rintro e' w' ⟨h',rs,v',hrs,rfl,hres,hbel,_,_,_⟩
   subst hrs
   have hv':v'=.int .i64 (cf x y):=by
    have:Rep h' (.int .i64 (cf x y)) v':=hres
    cases this;rfl
   subst hv'
   exact ⟨rfl,zC8 hbel hni⟩
  ·exact hs0.elim
 have hSWO:SWO (ltOf cf):=by
  refine ⟨fun x=>?_,fun x y z hxy hyz=>?_,fun x y z hxy hyz=>?_⟩
  ·have : 0 ≤ c x.val x.val := hO.1 x.val x.isLt
   simp only [ltOf,decide_eq_false_iff_not];show ¬ c x.val x.val < 0;omega
  ·simp only [ltOf, decide_eq_true_eq] at hxy hyz ⊢
   exact hO.2.2 _ _ _ x.isLt y.isLt z.isLt hxy hyz
  ·simp only [ltOf, decide_eq_false_iff_not] at hxy hyz ⊢
   intro hxz
   have hxy : ¬ c x.val y.val < 0:=hxy
   have hyz : ¬ c y.val z.val < 0:=hyz
   have hxz:c x.val z.val < 0:=hxz
   by_cases e1:y.val=z.val
   ·rw [e1] at hxy;exact hxy hxz
   ·by_cases e2 : x.val = y.val
    ·rw [e2] at hxz;exact hyz hxz
    ·have a1 : c z.val y.val < 0 := by rcases hO.2.1 y.val z.val y.isLt z.isLt e1 with h | h; exact absurd h.1 hyz; exact h.1
     exact hxy (hO.2.2 _ _ _ x.isLt z.isLt y.isLt hxz a1)
 have aE:∀ w,(isAgg (ρ.t 24)).run P w=.ok true w:=fun w=>by rw [he];exact zeq hag
 have zE:∀ w,(Go.sizeOf (ρ.t 24)).run P w=.ok s w:=fun w=>by rw [he];exact run_sizeOf hsz
 have hrun:=AnyQ.slices_SortFunc L s aE zE enc hk h1 cf hSWO gf cv.toArray blk 0 cap d w eg hcmp hH hlt (by rw [hds];omega)
 rw [hds] at hrun
 refine hrun.mono ?_
 rintro r w' ⟨rfl,d',m,os,hperm,hsort,rfl⟩
 obtain ⟨hps,_,hpp⟩:=hperm
 have hd's:d'.size=n:=by rw [hps,hds]
 have hall:∀ (z:Array (Fin n)),z.size=n→z.extract 0 n=z:=fun z hz=>Array.ext (by simp [hz]) (fun i h1 h2=>by simp)
 rw [hall d' hd's,hall d hds] at hpp
 have hl:d'.toList.map Fin.val=zvT n c:=by
  refine zwq hO ?_ ?_
  ·refine (hpp.map Fin.val).trans ?_
   have:d.toList.map Fin.val=List.range n:=by
    apply List.ext_getElem?
    intro i
    simp only [d,List.getElem?_map]
    by_cases hi:i < n
    ·simp [hi]
    ·rw [List.getElem?_eq_none (by simp;omega),List.getElem?_eq_none (by simp;omega)];rfl
   rw [this]
  ·rw [List.pairwise_map, List.pairwise_iff_getElem]
   intro i j hi hj hij
   have hi':i < n:=by simpa [hd's] using hi
   have hj':j < n:=by simpa [hd's] using hj
   have:=hsort i j (Nat.zero_le _) hij hj'
   rw [getElem!_pos d' j (by omega),getElem!_pos d' i (by omega)] at this
   simp only [ltOf,decide_eq_false_iff_not] at this
   exact this
 have hget:∀ i (hi:i < n),zrm n c get i=get (d'[i]'(by omega)).val:=fun i hi=>by
  unfold zrm
  rw [← hl]
  congr 1
  rw [List.getD_eq_getElem?_getD,List.getElem?_map]
  simp [hd's,hi]
 obtain ⟨cur',hcell',hsz'⟩:=zqh (q:=m) (off:=0) (flatK enc s d') hcell
 have hgrow:(sortWorldK enc s w blk 0 m d' os).heap[blk]? = some (.cells cur' e (0,0)):=by
  show ((putRow id (Sort.ahead w m) blk 0 (flatK enc s d')).heap ++ os)[blk]? = _
  rw [Array.getElem?_append_left (by simpa [putRow,mapBlock,Sort.ahead] using hlt)]
  exact hcell'
 have hH':HoldsK enc s (sortWorldK enc s w blk 0 m d' os) blk 0 d':=holdsK_sortWorldK_c enc s w blk 0 d d' m os hH hlt (by rw [hd's,hds])
 have hcur':∀ j (hj:j < n * s),cur'[j]? = some ((flatK enc s d')[j]!):=fun j hj=>by
  have:=(hH' j (by rw [size_flatK,hd's];exact hj)).1
  rw [cell_of hgrow,Nat.zero_add] at this
  exact this
 refine ⟨rfl,⟨cur'.toList.take (n * s),⟨by rw [List.length_take,Array.length_toList,hsz',hcs];exact Nat.min_eq_left (Nat.mul_le_mul_right s hncap),.inr ⟨blk,cap,cur',rfl,hb,hgrow,hncap,hcap,by rw [hsz',hcs],rfl⟩⟩,fun i hi=>?_⟩,?_⟩
 ·have e1:((cur'.toList.take (n * s)).drop (i * s)).take s=enc (d'[i]'(by omega)):=by
   apply List.ext_getElem?
   intro j
   have hm:=hmul i hi
   rw [List.getElem?_take]
   split
   ·rename_i hj
    rw [List.getElem?_drop,List.getElem?_take,if_pos (by omega),Array.getElem?_toList,hcur' _ (by omega)]
    have hdiv:(i * s+j) / s=i:=by rw [Nat.mul_comm,Nat.mul_add_div hpos,Nat.div_eq_of_lt hj,Nat.add_zero]
    have hmod:(i * s+j) % s=j:=by rw [Nat.mul_comm,Nat.mul_add_mod,Nat.mod_eq_of_lt hj]
    rw [get_flatK _ _ _ _ (by rw [hd's];omega),hdiv,hmod,getElem!_pos d' i (by omega),getElem!_pos _ _ (by rw [hk];exact hj)]
    exact (List.getElem?_eq_getElem _).symm
   ·rename_i hj
    rw [List.getElem?_eq_none (by rw [hk];omega)]
  rw [e1,hget i hi]
  exact hr _ (d'[i]'(by omega)).isLt
 ·refine ⟨⟨rfl, rfl, rfl, ?_, fun k hk hne => ?_⟩, Nat.le_add_right _ _⟩
  ·show w.heap.size ≤ ((putRow id (Sort.ahead w m) blk 0 (flatK enc s d')).heap ++ os).size
   simp [putRow,mapBlock,Sort.ahead]
  ·show ((putRow id (Sort.ahead w m) blk 0 (flatK enc s d')).heap ++ os)[k]? = _
   rw [Array.getElem?_append_left (by simpa [putRow,mapBlock,Sort.ahead] using hk)]
   exact zlq _ fun e=>hne (by rw [e];rfl)
end Go.Pm
namespace Go.Pm

abbrev zI (x:Int):DV:=.one (.c (.p (.int .i64 x)))
abbrev zB (x:Bool):DV:=.one (.c (.p (.bool x)))
abbrev zP (x:PV):DV:=.one (.c (.p x))
abbrev zp (L k:Nat):DV:=.one (.c (.ptr L k))
abbrev zv (L:Nat):DV:=.one (.c (.vec L))
abbrev zs {α:Type} (enc:α→List PV) (s:Nat) (x:Sl α):PV:=.sl x.len s (fun i=>enc (x.get i))
abbrev zS {α:Type} (enc:α→List PV) (s:Nat) (x:Sl α):DV:=zP (zs enc s x)
abbrev zm (l:List PV):List Cl:=l.map Cl.p
abbrev zi (x:Int):Cl:=.p (.int .i64 x)
abbrev zg {α:Type} (enc:α→List PV) (x:Sl α):Nat→List PV:=fun i=>enc (x.get i)
abbrev zK (a b:List Nat):Keep:=⟨a,b,[],[],[],[],[]⟩
theorem zE {α:Type} (enc:α→List PV) (size:Nat) (f:Nat→α):IsE enc size size (fun i=>enc (f i)):=⟨rfl,f,rfl⟩

@[reducible] def lpO {A : Type} (d : A) (st : A → A) : Nat → A
  | 0=>d
  | k+1=>st (lpO d st k)
theorem zfT {A B : Type} (a : A) (b : B) (p : A → A) (s : B → B) (M : A → B → Prop) (h0 : M a b) (h1 : ∀ P S, M P S → M (p P) (s S)) : ∀ k, M (lpO a p k) (lpO b s k)
  | 0=>h0
  | k+1=>h1 _ _ (zfT a b p s M h0 h1 k)
section
variable (P:Program) (Γ:Ctrs) (ann:Ann)
def pt : Code → (Exit → St → Prop) → List Nat → List (St → Prop) → St → Prop
  | .seq a b,K,i :: r,X=>match i with | 0=>pt a (sqK P Γ ann b K) r X | _=>pt b K r X
  | .cond _ a b,K,i :: r,X=>match i with | 0=>pt a K r X | _=>pt b K r X
  | .block id b,K,_ :: r,X=>pt b (zaA id K) r X
  | .loop b,K,_ :: r,x :: X=>pt b (zb8 P ann (zmN b) x K) r X
  | .scope b,K,_ :: r,X=>pt b (zcT K) r X
  | c,K,_,_=>vc P Γ ann c K
def ptF (fn:Func) (K:List PA→Prop) (l:List Nat) (X:List (St→Prop)):St→Prop :=
 match fn.body with
 | some c=>pt P Γ ann c (zbF P fn K) l X
 | none=>fun _=>False
end

theorem zc {b:Bool} {A B:Prop} {S S':Bool} {α:Type} {e:α→List PA} {K:List PA→Prop} {x y:α} (hs:cond b S S'=true) (hk:K (e (cond b x y))) (h1:S=true→K (e x)→A) (h2:S'=true→K (e y)→B):zcP b A B:=by
 cases b
 ·exact h2 hs hk
 ·exact h1 hs hk
theorem zt {b:Bool} {A B:Prop} {α:Type} {e:α→List PA} {K:List PA→Prop} {x y:α} (hk:K (e (cond b x y))) (h1:K (e x)→A) (h2:K (e y)→B):zcP b A B:=by
 cases b
 ·exact h2 hk
 ·exact h1 hk
theorem zl {at_:Prop} {g:St} (B:(St→Prop)→St→Prop) (e:at_ = ∀ X:St→Prop,(∀ s,B X s→X s)→X g) (h:∀ X:St→Prop,(∀ s,B X s→X s)→X g):at_:=e ▸ h
end Go.Pm
namespace Go.Proofs
open Go Go.Pm
set_option maxRecDepth 100000
set_option linter.unusedVariables false
attribute [local irreducible] Go.Pm.vcFun Go.Pm.vc Go.Pm.vcIter
abbrev zal (x:Int):List PV:=[.int .i64 x]
def zOv : List PV → Int
  | [.int .i64 x]=>x
  | _=>default
def zbb (g:Nat→List PV):Nat→Int:=fun i=>zOv (g i)
theorem zbG (f:Nat→Int):zbb (fun i=>zal (f i))=f:=rfl
abbrev zOw (x:Bool):List PV:=[.bool x]
structure Gate where
  Z:Int
  Low:Int
  High:Int
deriving Inhabited
abbrev enc_55 (x:Gate):List PV:=[.int .i64 x.Z,.int .i64 x.Low,.int .i64 x.High]
def zLc : List PV → Gate
  | [.int .i64 x_Z,.int .i64 x_Low,.int .i64 x_High]=>(⟨x_Z,x_Low,x_High⟩:Gate)
  | _=>default
def zaf (g:Nat→List PV):Nat→Gate:=fun i=>zLc (g i)
theorem zae (f:Nat→Gate):zaf (fun i=>enc_55 (f i))=f:=rfl
abbrev zLd (x:(Sl Gate)):List PV:=[.sl x.len 3 (fun i=>enc_55 (x.get i))]
structure Frac where
  Num:Int
  Den:Int
deriving Inhabited
abbrev zah (x:Frac):List PV:=[.int .i64 x.Num,.int .i64 x.Den]
def zLe : List PV → Frac
  | [.int .i64 x_Num,.int .i64 x_Den]=>(⟨x_Num,x_Den⟩:Frac)
  | _=>default
def zhj (g:Nat→List PV):Nat→Frac:=fun i=>zLe (g i)
theorem zfp (f:Nat→Frac):zhj (fun i=>zah (f i))=f:=rfl
structure Line where
  Slope:Frac
  Start:Frac
deriving Inhabited
abbrev zcp (x:Line):List PV:=[.int .i64 x.Slope.Num,.int .i64 x.Slope.Den,.int .i64 x.Start.Num,.int .i64 x.Start.Den]
def zLf : List PV → Line
  | [.int .i64 x_Slope_Num,.int .i64 x_Slope_Den,.int .i64 x_Start_Num,.int .i64 x_Start_Den]=>(⟨(⟨x_Slope_Num,x_Slope_Den⟩:Frac),(⟨x_Start_Num,x_Start_Den⟩:Frac)⟩:Line)
  | _=>default
def zlr (g:Nat→List PV):Nat→Line:=fun i=>zLf (g i)
theorem zfq (f:Nat→Line):zlr (fun i=>zcp (f i))=f:=rfl
abbrev zdo (x:(Sl Int)):List PV:=[.sl x.len 1 (fun i=>zal (x.get i))]
structure Span where
  Low:Int
  High:Int
deriving Inhabited
abbrev zan (x:Span):List PV:=[.int .i64 x.Low,.int .i64 x.High]
def zLg : List PV → Span
  | [.int .i64 x_Low,.int .i64 x_High]=>(⟨x_Low,x_High⟩:Span)
  | _=>default
def zhk (g:Nat→List PV):Nat→Span:=fun i=>zLg (g i)
theorem zfr (f:Nat→Span):zhk (fun i=>zan (f i))=f:=rfl
structure list where
  Gates:(Sl Gate)
deriving Inhabited
abbrev zcL (x:list):List PV:=[.sl x.Gates.len 3 (fun i=>enc_55 (x.Gates.get i))]
structure straight where
  slope:Int
  start:Int
  den:Int
deriving Inhabited
abbrev zak (x:straight):List PV:=[.int .i64 x.slope,.int .i64 x.start,.int .i64 x.den]
def zGb : List PV → straight
  | [.int .i64 x_slope,.int .i64 x_start,.int .i64 x_den]=>(⟨x_slope,x_start,x_den⟩:straight)
  | _=>default
def za9 (g:Nat→List PV):Nat→straight:=fun i=>zGb (g i)
theorem za3 (f:Nat→straight):za9 (fun i=>zak (f i))=f:=rfl
structure set where
  list:list
  corners:(Sl straight)
deriving Inhabited
abbrev zbj (x:set):List PV:=[.sl x.list.Gates.len 3 (fun i=>enc_55 (x.list.Gates.get i)),.sl x.corners.len 3 (fun i=>zak (x.corners.get i))]
abbrev zbs (x:Mp):List PV:=[.fm (true,2,false,[some .i64]) x.n x.F]
end Go.Proofs
namespace Go.Proofs
open Go Go.Pm
set_option maxRecDepth 100000
set_option linter.unusedVariables false
attribute [local irreducible] Go.Pm.vcFun Go.Pm.vc Go.Pm.vcIter
abbrev T39:Tabs:=Tabs.nil
theorem zOx:TabsOk Try.prog T39:=TabsOk.nil
abbrev G39:Ctrs:=csm T39 (fun _ _=>[]) (fun _=>false)
def zGc:Ann:=⟨46,[(0,zK [0,1] []),(1,zK [0,1,5] []),(2,zK [0,1,5,15] []),(3,zK [0,1,5] []),(4,zK [0,1,5,26] []),(5,zK [4] []),(6,zK [0,1,5,35] []),(7,zK [4] []),(8,zK [0,1,40] []),(9,zK [4] []),(10,zK [45] []),(11,zK [4] []),(12,zK [4] [])],
 [(2,zK [0,1,5] [])],
 [(8,zK [0,1] [])],
 [],[]⟩
abbrev R39:=Int
abbrev e39 (r:R39):List PA:=[.one (.int .i64 r)]
@[irreducible] def z39:=ptF Try.prog G39 zGc Try.f39
def zEv (a:(Sl Int)) (b:(Sl Int)) (iv0:Int):St:=⟨[(0,zS zal 1 a),(1,zS zal 1 b),(5,zI iv0)],[],[]⟩
abbrev zLh (K:List PA→Prop) (a:(Sl Int)) (b:(Sl Int)) (X:St→Prop) (P:Int→Bool) (S:Int→Int):Prop:=∀ ⦃iv0:Int⦄,P iv0=true→K (e39 (S iv0))→X (zEv a b iv0)
section
variable {K:List PA→Prop} {a:(Sl Int)} {b:(Sl Int)} {iv0:Int} {X0:St→Prop} {P0:Int→Bool} {S0:Int→Int}
def zn7 (a:(Sl Int)) (b:(Sl Int)):Int :=
  (cond (decide ((a.len : Int) < (b.len : Int)))
 (-1:Int)
 (cond (decide ((a.len : Int) > (b.len : Int)))
 (1:Int)
 (0:Int)))
theorem zxX (hk:K (e39 (zn7 a b))):z39 K [1,1] [] ⟨[(0,zS zal 1 a),(1,zS zal 1 b)],[],[]⟩:=zaI (by kernel_rfl) (zt hk (fun hk=>hk) (fun hk=>(zt hk (fun hk=>hk) (fun hk=>hk))))
def zi3 (a:(Sl Int)) (b:(Sl Int)) (S0:Int→Int) (iv0:Int):Int :=
  (cond (decide (iv0 < (a.len : Int)))
 (cond (decide (iv0 < (b.len : Int)))
 (cond (decide ((a.get iv0.toNat) < (b.get iv0.toNat)))
 (-1:Int)
 (cond (decide ((a.get iv0.toNat) > (b.get iv0.toNat)))
 (1:Int)
 (S0 (w64 (iv0+(1:Int))))))
 (zn7 a b))
 (zn7 a b))
def zi4 (a:(Sl Int)) (b:(Sl Int)) (P0:Int→Bool) (iv0:Int):Bool :=
  (cond (decide (iv0 < (a.len : Int)))
 (cond (decide (iv0 < (b.len : Int)))
 (decide ((0≤iv0∧iv0 < (a.len:Int))) &&
 (decide ((0≤iv0∧iv0 < (b.len:Int))) &&
 (cond (decide ((a.get iv0.toNat) < (b.get iv0.toNat)))
 true
 (decide ((0≤iv0∧iv0 < (a.len:Int))) &&
 (decide ((0≤iv0∧iv0 < (b.len:Int))) &&
 (cond (decide ((a.get iv0.toNat) > (b.get iv0.toNat)))
 true
 (P0 (w64 (iv0+(1:Int))))))))))
 true)
 true)
def zi5 (a:(Sl Int)) (b:(Sl Int)):Nat→Int→Int:=lpO (fun _=>default) (zi3 a b)
def zi6 (a:(Sl Int)) (b:(Sl Int)):Nat→Int→Bool:=lpO (fun _=>false) (zi4 a b)
def zxY (a:(Sl Int)) (b:(Sl Int)) (iv0:Int):Int:=zi5 a b Fuel iv0
def zxZ (a:(Sl Int)) (b:(Sl Int)) (iv0:Int):Bool:=zi6 a b Fuel iv0
theorem zGd (hs:zxZ a b iv0=true) (hk:K (e39 (zxY a b iv0))):z39 K [1,0,1,0] [] (zEv a b iv0) :=
  zl (fun X=>z39 K [1,0,1,0,0] [X]) (by kernel_rfl) fun X0 hX =>
  (show ∀ k, zLh K a b X0 (zi6 a b k) (zi5 a b k) from zfT _ _ (zi4 a b) (zi3 a b) (zLh K a b X0)
 (by intro _ hs;exact absurd hs Bool.false_ne_true)
 (by intro P0 S0 hX0 iv0 hs hk;exact hX _ (zaI (by kernel_rfl) (zc hs hk (fun hs hk=>(zc hs hk (fun hs hk=>(zaE hs fun hc hs=>And.intro hc (zaE hs fun hc hs=>And.intro hc (zc hs hk (fun hs hk=>hk) (fun hs hk=>(zaE hs fun hc hs=>And.intro hc (zaE hs fun hc hs=>And.intro hc (zc hs hk (fun hs hk=>hk) (fun hs hk=>(hX0 hs hk)))))))))) (fun hs hk=>(zxX hk)))) (fun hs hk=>(zxX hk)))))) _ hs hk
def s39 (a:(Sl Int)) (b:(Sl Int)):Int :=
  (zxY a b (0:Int))
def p39 (a:(Sl Int)) (b:(Sl Int)):Bool :=
  (zxZ a b (0:Int))
end
theorem q39 (a:(Sl Int)) (b:(Sl Int)) (K:List PA→Prop) (hs:p39 a b=true) (hk:K (e39 (s39 a b))):vcFun Try.prog G39 zGc 39 [.one (.sl a.len 1 (fun i=>zal (a.get i))),.one (.sl b.len 1 (fun i=>zal (b.get i)))] K :=
  zaI (by kernel_rfl) (zGd hs hk)
def zC9 : List PA → COut
  | [.one (.sl a0_n a0_s a0_g),.one (.sl a1_n a1_s a1_g)]=>.det (IsE zal 1 a0_s a0_g∧IsE zal 1 a1_s a1_g∧p39 (⟨a0_n,zbb a0_g⟩:(Sl Int)) (⟨a1_n,zbb a1_g⟩:(Sl Int))=true) [.one (.int .i64 (s39 (⟨a0_n,zbb a0_g⟩:(Sl Int)) (⟨a1_n,zbb a1_g⟩:(Sl Int))))]
  | _=>.no
theorem zLi:zaj Try.prog 39:=⟨_,rfl,rfl,by kernel_rfl⟩
theorem zQq:Ok Try.prog 39 zC9:=zaP zOx zLi fun args K h=>by
  unfold zC9 at h
  split at h
  · rename_i a0_n a0_s a0_g a1_n a1_s a1_g
    obtain ⟨⟨⟨rfl,a0_f,rfl⟩,⟨rfl,a1_f,rfl⟩,hs⟩,hk⟩:=h
    try rw [zbG a0_f] at hs
    try rw [zbG a0_f] at hk
    try rw [zbG a1_f] at hs
    try rw [zbG a1_f] at hk
    exact ⟨(fun _ _=>[]),(fun _=>false),zGc,q39 (⟨a0_n,a0_f⟩:(Sl Int)) (⟨a1_n,a1_f⟩:(Sl Int)) K hs hk⟩
  · exact h.elim
abbrev T85:Tabs:=Tabs.nil
theorem zOy:TabsOk Try.prog T85:=TabsOk.nil
abbrev G85:Ctrs:=csm T85 (fun _ _=>[]) (fun _=>false)
def zLj:Ann:=⟨47,[(0,zK [0,1,2,3,4,5] []),(1,zK [0,1,2,13] []),(2,zK [13,14] []),(3,zK [12] [])],
 [],
 [],
 [],[]⟩
abbrev R85:=Int
abbrev e85 (r:R85):List PA:=[.one (.int .i64 r)]
section
variable {K:List PA→Prop} {u:Int} {v:Int} {w:Int} {p:Int} {q:Int} {r_a5:Int}
def s85 (u:Int) (v:Int) (w:Int) (p:Int) (q:Int) (r_a5:Int):Int :=
  (w64 ((w64 ((w64 ((w64 ((1000:Int) * (if (w64 (0 - (w64 ((w64 ((w64 (r_a5 - q)) * (w64 (v - u)))) - (w64 ((w64 (q - p)) * (w64 (w - v)))))))) > (w64 ((w64 ((w64 (r_a5 - q)) * (w64 (v - u)))) - (w64 ((w64 (q - p)) * (w64 (w - v)))))) then (w64 (0 - (w64 ((w64 ((w64 (r_a5 - q)) * (w64 (v - u)))) - (w64 ((w64 (q - p)) * (w64 (w - v)))))))) else (w64 ((w64 ((w64 (r_a5 - q)) * (w64 (v - u)))) - (w64 ((w64 (q - p)) * (w64 (w - v)))))))))+(w64 ((w64 (v - u)) * (w64 (w - v)))))) - (1:Int))).tdiv (w64 ((w64 (v - u)) * (w64 (w - v))))))
def p85 (u:Int) (v:Int) (w:Int) (p:Int) (q:Int) (r_a5:Int):Bool :=
  (decide (((w64 ((w64 (v - u)) * (w64 (w - v)))) ≠ 0)) &&
 true)
end
theorem q85 (u:Int) (v:Int) (w:Int) (p:Int) (q:Int) (r_a5:Int) (K:List PA→Prop) (hs:p85 u v w p q r_a5=true) (hk:K (e85 (s85 u v w p q r_a5))):vcFun Try.prog G85 zLj 85 [.one (.int .i64 u),.one (.int .i64 v),.one (.int .i64 w),.one (.int .i64 p),.one (.int .i64 q),.one (.int .i64 r_a5)] K :=
  zaI (by kernel_rfl) (zaE hs fun hc hs=>And.intro hc hk)
def zx0 : List PA → COut
  | [.one (.int .i64 a0),.one (.int .i64 a1),.one (.int .i64 a2),.one (.int .i64 a3),.one (.int .i64 a4),.one (.int .i64 a5)]=>.det (p85 a0 a1 a2 a3 a4 a5=true) [.one (.int .i64 (s85 a0 a1 a2 a3 a4 a5))]
  | _=>.no
theorem zLk:zaj Try.prog 85:=⟨_,rfl,rfl,by kernel_rfl⟩
theorem zOz:Ok Try.prog 85 zx0:=zaP zOy zLk fun args K h=>by
  unfold zx0 at h
  split at h
  · rename_i a0 a1 a2 a3 a4 a5
    obtain ⟨hs,hk⟩:=h
    exact ⟨(fun _ _=>[]),(fun _=>false),zLj,q85 a0 a1 a2 a3 a4 a5 K hs hk⟩
  · exact h.elim
abbrev T74:Tabs:=Tabs.nil
theorem zOA:TabsOk Try.prog T74:=TabsOk.nil
abbrev G74:Ctrs:=csm T74 (fun _ _=>[]) (fun _=>false)
def zLl:Ann:=⟨15,[(0,zK [0,1,2] []),(1,zK [6] [])],
 [],
 [],
 [],[]⟩
abbrev R74:=Bool
abbrev e74 (r:R74):List PA:=[.one (.bool r)]
section
variable {K:List PA→Prop} {x:Int} {low:Int} {high:Int}
def s74 (x:Int) (low:Int) (high:Int):Bool :=
  (cond (decide (x ≥ low))
 (decide (x≤high))
 false)
end
theorem q74 (x:Int) (low:Int) (high:Int) (K:List PA→Prop) (hk:K (e74 (s74 x low high))):vcFun Try.prog G74 zLl 74 [.one (.int .i64 x),.one (.int .i64 low),.one (.int .i64 high)] K :=
  zaI (by kernel_rfl) (zt hk (fun hk=>hk) (fun hk=>hk))
def zqi : List PA → COut
  | [.one (.int .i64 a0),.one (.int .i64 a1),.one (.int .i64 a2)]=>.tot [.one (.bool (s74 a0 a1 a2))]
  | _=>.no
theorem zLm:zaj Try.prog 74:=⟨_,rfl,rfl,by kernel_rfl⟩
theorem zKr:Ok Try.prog 74 zqi:=zaP zOA zLm fun args K h=>by
  unfold zqi at h
  split at h
  · rename_i a0 a1 a2
    have hk:=h
    exact ⟨(fun _ _=>[]),(fun _=>false),zLl,q74 a0 a1 a2 K hk⟩
  · exact h.elim
abbrev T87:Tabs:=(Tabs.nil.addF 74 zqi)
theorem zOB:TabsOk Try.prog T87:=(TabsOk.nil.addF zKr)
abbrev G87:Ctrs:=csm T87 (fun _ _=>[]) (fun _=>false)
def zLn:Ann:=⟨23,[(0,zK [1] [1]),(1,zK [2] [])],
 [],
 [],
 [],[]⟩
abbrev R87:=Bool
abbrev e87 (r:R87):List PA:=[.one (.bool r)]
section
variable {K:List PA→Prop} {g:Gate}
def s87 (g:Gate):Bool :=
  (cond (s74 g.Z (0:Int) (100000:Int))
 (cond (decide (g.Low ≥ (-1000000:Int)))
 (cond (decide (g.Low ≤ g.High))
 (decide (g.High≤(1000000:Int)))
 false)
 false)
 false)
end
theorem q87 (g:Gate) (K:List PA→Prop) (hk:K (e87 (s87 g))):vcFun Try.prog G87 zLn 87 [.agg (enc_55 g)] K :=
  zaI (by kernel_rfl) (zt hk (fun hk=>(zt hk (fun hk=>(zt hk (fun hk=>hk) (fun hk=>hk))) (fun hk=>hk))) (fun hk=>hk))
def zGe : List PA → COut
  | [.agg [.int .i64 a0_Z,.int .i64 a0_Low,.int .i64 a0_High]]=>.tot [.one (.bool (s87 (⟨a0_Z,a0_Low,a0_High⟩:Gate)))]
  | _=>.no
theorem zLo:zaj Try.prog 87:=⟨_,rfl,rfl,by kernel_rfl⟩
theorem zRa:Ok Try.prog 87 zGe:=zaP zOB zLo fun args K h=>by
  unfold zGe at h
  split at h
  · rename_i a0_Z a0_Low a0_High
    have hk:=h
    exact ⟨(fun _ _=>[]),(fun _=>false),zLn,q87 (⟨a0_Z,a0_Low,a0_High⟩:Gate) K hk⟩
  · exact h.elim
abbrev T64:Tabs:=((Tabs.nil.addF 74 zqi).addF 87 zGe)
theorem zOC:TabsOk Try.prog T64:=((TabsOk.nil.addF zKr).addF zRa)
abbrev G64:Ctrs:=csm T64 (fun _ _=>[]) (fun _=>false)
def zGf:Ann:=⟨18,[(0,zK [0] []),(1,zK [0,5,6,7] []),(2,zK [0,5,6,7,8] []),(3,zK [0,4,5,6,7] [4]),(4,zK [0,5,6,7,13] []),(5,zK [2] []),(6,zK [0,5,6,7] []),(7,zK [2] [])],
 [(2,zK [0,5,6,7] [])],
 [(5,zK [0,5,6,7,13] [])],
 [],[]⟩
abbrev R64:=Bool
abbrev e64 (r:R64):List PA:=[.one (.bool r)]
@[irreducible] def z64:=ptF Try.prog G64 zGf Try.f64
def zEw (zaa:(Sl Gate)) (zbm:Int):St:=⟨[(0,zS enc_55 3 zaa),(5,zS enc_55 3 zaa),(6,zI (zaa.len:Int)),(7,zI zbm)],[],[]⟩
abbrev zGg (K:List PA→Prop) (zaa:(Sl Gate)) (X:St→Prop) (P:Int→Bool) (S:Int→Bool):Prop:=∀ ⦃zbm:Int⦄,P zbm=true→K (e64 (S zbm))→X (zEw zaa zbm)
section
variable {K:List PA→Prop} {zaa:(Sl Gate)} {zbm:Int} {X0:St→Prop} {P0:Int→Bool} {S0:Int→Bool} {zhl:Int} {zr3:Bool}
def zr4 (S0:Int→Bool) (zaa:(Sl Gate)) (zhl:Int) (zr3:Bool):Bool :=
  (cond zr3
 false
 (S0 (w64 (zhl+(1:Int)))))
def zr5 (P0:Int→Bool) (zaa:(Sl Gate)) (zhl:Int) (zr3:Bool):Bool :=
  (cond zr3
 true
 (P0 (w64 (zhl+(1:Int)))))
theorem zGh (hX0:zGg K zaa X0 P0 S0) (hs:zr5 P0 zaa zhl zr3=true) (hk:K (e64 (zr4 S0 zaa zhl zr3))):z64 K [1,0,1,0,0,1,1,0,0,1,1] [X0] ⟨[(0,zS enc_55 3 zaa),(5,zS enc_55 3 zaa),(6,zI (zaa.len:Int)),(7,zI zhl),(13,zB zr3)],[],[]⟩:=zaI (by kernel_rfl) (zc hs hk (fun hs hk=>hk) (fun hs hk=>(hX0 hs hk)))
def zi7 (zaa:(Sl Gate)) (S0:Int→Bool) (zbm:Int):Bool :=
  (cond (decide (zbm < (zaa.len : Int)))
 (zr4 S0 zaa zbm (!(s87 (zaa.get zbm.toNat))))
 (s74 (zaa.len:Int) (1:Int) (24:Int)))
def zi8 (zaa:(Sl Gate)) (P0:Int→Bool) (zbm:Int):Bool :=
  (cond (decide (zbm < (zaa.len : Int)))
 (decide ((0≤zbm∧zbm < (zaa.len:Int))) &&
 (zr5 P0 zaa zbm (!(s87 (zaa.get zbm.toNat)))))
 true)
def zi9 (zaa:(Sl Gate)):Nat→Int→Bool:=lpO (fun _=>default) (zi7 zaa)
def zja (zaa:(Sl Gate)):Nat→Int→Bool:=lpO (fun _=>false) (zi8 zaa)
def zx1 (zaa:(Sl Gate)) (zbm:Int):Bool:=zi9 zaa Fuel zbm
def zx2 (zaa:(Sl Gate)) (zbm:Int):Bool:=zja zaa Fuel zbm
theorem zGi (hs:zx2 zaa zbm=true) (hk:K (e64 (zx1 zaa zbm))):z64 K [1,0,1,0] [] (zEw zaa zbm) :=
  zl (fun X=>z64 K [1,0,1,0,0] [X]) (by kernel_rfl) fun X0 hX =>
  (show ∀ k, zGg K zaa X0 (zja zaa k) (zi9 zaa k) from zfT _ _ (zi8 zaa) (zi7 zaa) (zGg K zaa X0)
 (by intro _ hs;exact absurd hs Bool.false_ne_true)
 (by intro P0 S0 hX0 zbm hs hk;exact hX _ (zaI (by kernel_rfl) (zc hs hk (fun hs hk=>(zaE hs fun hc hs=>And.intro hc (zGh hX0 hs hk))) (fun hs hk=>hk))))) _ hs hk
def s64 (zaa:(Sl Gate)):Bool :=
  (zx1 zaa (0:Int))
def p64 (zaa:(Sl Gate)):Bool :=
  (zx2 zaa (0:Int))
end
theorem q64 (zaa:(Sl Gate)) (K:List PA→Prop) (hs:p64 zaa=true) (hk:K (e64 (s64 zaa))):vcFun Try.prog G64 zGf 64 [.one (.sl zaa.len 3 (fun i=>enc_55 (zaa.get i)))] K :=
  zaI (by kernel_rfl) (zGi hs hk)
def zwr : List PA → COut
  | [.one (.sl a0_n a0_s a0_g)]=>.det (IsE enc_55 3 a0_s a0_g∧p64 (⟨a0_n,zaf a0_g⟩:(Sl Gate))=true) [.one (.bool (s64 (⟨a0_n,zaf a0_g⟩:(Sl Gate))))]
  | _=>.no
theorem zLp:zaj Try.prog 64:=⟨_,rfl,rfl,by kernel_rfl⟩
theorem zN3:Ok Try.prog 64 zwr:=zaP zOC zLp fun args K h=>by
  unfold zwr at h
  split at h
  · rename_i a0_n a0_s a0_g
    obtain ⟨⟨⟨rfl,a0_f,rfl⟩,hs⟩,hk⟩:=h
    try rw [zae a0_f] at hs
    try rw [zae a0_f] at hk
    exact ⟨(fun _ _=>[]),(fun _=>false),zGf,q64 (⟨a0_n,a0_f⟩:(Sl Gate)) K hs hk⟩
  · exact h.elim
abbrev T92:Tabs:=((Tabs.nil.addF 64 zwr).addF 74 zqi)
theorem zOD:TabsOk Try.prog T92:=((TabsOk.nil.addF zN3).addF zKr)
abbrev G92:Ctrs:=csm T92 (fun _ _=>[]) (fun _=>false)
def zGj:Ann:=⟨41,[(0,zK [0] []),(1,zK [0,5,6,7] []),(2,zK [0,5,6,7,8] []),(3,zK [0,3,4,5,6,7] [4]),(4,zK [0,5,6,7,32] []),(5,zK [2] []),(6,zK [0,5,6,7] []),(7,zK [2] [])],
 [(2,zK [0,5,6,7] [])],
 [],
 [],[]⟩
abbrev R92:=Bool
abbrev e92 (r:R92):List PA:=[.one (.bool r)]
@[irreducible] def z92:=ptF Try.prog G92 zGj Try.f92
def zEx (zaa:(Sl Gate)) (zbm:Int):St:=⟨[(0,zS enc_55 3 zaa),(5,zS enc_55 3 zaa),(6,zI (zaa.len:Int)),(7,zI zbm)],[],[]⟩
abbrev zLq (K:List PA→Prop) (zaa:(Sl Gate)) (X:St→Prop) (P:Int→Bool) (S:Int→Bool):Prop:=∀ ⦃zbm:Int⦄,P zbm=true→K (e92 (S zbm))→X (zEx zaa zbm)
section
variable {K:List PA→Prop} {zaa:(Sl Gate)} {zbm:Int} {X0:St→Prop} {P0:Int→Bool} {S0:Int→Bool}
def zjb (zaa:(Sl Gate)) (S0:Int→Bool) (zbm:Int):Bool :=
  (cond (decide (zbm < (zaa.len : Int)))
 (cond (decide ((w64 ((zaa.get zbm.toNat).High - (zaa.get zbm.toNat).Low)) > (60:Int)))
 false
 (cond (decide (zbm > (0:Int)))
 (cond (decide ((zaa.get zbm.toNat).Z ≤ (zaa.get ((w64 (zbm - (1:Int))).toNat)).Z))
 false
 (S0 (w64 (zbm+(1:Int)))))
 (S0 (w64 (zbm+(1:Int))))))
 (cond (s74 (zaa.len : Int) (2:Int) (8:Int))
 (s64 zaa)
 false))
def zjc (zaa:(Sl Gate)) (P0:Int→Bool) (zbm:Int):Bool :=
  (cond (decide (zbm < (zaa.len : Int)))
 (decide ((0≤zbm∧zbm < (zaa.len:Int))) &&
 (cond (decide ((w64 ((zaa.get zbm.toNat).High - (zaa.get zbm.toNat).Low)) > (60:Int)))
 true
 (cond (decide (zbm > (0:Int)))
 (decide ((0≤(w64 (zbm - (1:Int)))∧(w64 (zbm - (1:Int))) < (zaa.len:Int))) &&
 (cond (decide ((zaa.get zbm.toNat).Z ≤ (zaa.get ((w64 (zbm - (1:Int))).toNat)).Z))
 true
 (P0 (w64 (zbm+(1:Int))))))
 (P0 (w64 (zbm+(1:Int)))))))
 (cond (s74 (zaa.len : Int) (2:Int) (8:Int))
 (decide ((p64 zaa=true)) &&
 true)
 true))
def zjd (zaa:(Sl Gate)):Nat→Int→Bool:=lpO (fun _=>default) (zjb zaa)
def zje (zaa:(Sl Gate)):Nat→Int→Bool:=lpO (fun _=>false) (zjc zaa)
def zx3 (zaa:(Sl Gate)) (zbm:Int):Bool:=zjd zaa Fuel zbm
def zx4 (zaa:(Sl Gate)) (zbm:Int):Bool:=zje zaa Fuel zbm
theorem zGk (hs:zx4 zaa zbm=true) (hk:K (e92 (zx3 zaa zbm))):z92 K [1,0,1,0] [] (zEx zaa zbm) :=
  zl (fun X=>z92 K [1,0,1,0,0] [X]) (by kernel_rfl) fun X0 hX =>
  (show ∀ k, zLq K zaa X0 (zje zaa k) (zjd zaa k) from zfT _ _ (zjc zaa) (zjb zaa) (zLq K zaa X0)
 (by intro _ hs;exact absurd hs Bool.false_ne_true)
 (by intro P0 S0 hX0 zbm hs hk;exact hX _ (zaI (by kernel_rfl) (zc hs hk (fun hs hk=>(zaE hs fun hc hs=>And.intro hc (zc hs hk (fun hs hk=>hk) (fun hs hk=>(zc hs hk (fun hs hk=>(zaE hs fun hc hs=>And.intro hc (zc hs hk (fun hs hk=>hk) (fun hs hk=>(hX0 hs hk))))) (fun hs hk=>(hX0 hs hk))))))) (fun hs hk=>(zc hs hk (fun hs hk=>(zaE hs fun hc hs=>And.intro (And.intro (zE enc_55 3 zaa.get) hc) hk)) (fun hs hk=>hk))))))) _ hs hk
def s92 (zaa:(Sl Gate)):Bool :=
  (zx3 zaa (0:Int))
def p92 (zaa:(Sl Gate)):Bool :=
  (zx4 zaa (0:Int))
end
theorem q92 (zaa:(Sl Gate)) (K:List PA→Prop) (hs:p92 zaa=true) (hk:K (e92 (s92 zaa))):vcFun Try.prog G92 zGj 92 [.one (.sl zaa.len 3 (fun i=>enc_55 (zaa.get i)))] K :=
  zaI (by kernel_rfl) (zGk hs hk)
def zDa : List PA → COut
  | [.one (.sl a0_n a0_s a0_g)]=>.det (IsE enc_55 3 a0_s a0_g∧p92 (⟨a0_n,zaf a0_g⟩:(Sl Gate))=true) [.one (.bool (s92 (⟨a0_n,zaf a0_g⟩:(Sl Gate))))]
  | _=>.no
theorem zLr:zaj Try.prog 92:=⟨_,rfl,rfl,by kernel_rfl⟩
theorem zQr:Ok Try.prog 92 zDa:=zaP zOD zLr fun args K h=>by
  unfold zDa at h
  split at h
  · rename_i a0_n a0_s a0_g
    obtain ⟨⟨⟨rfl,a0_f,rfl⟩,hs⟩,hk⟩:=h
    try rw [zae a0_f] at hs
    try rw [zae a0_f] at hk
    exact ⟨(fun _ _=>[]),(fun _=>false),zGj,q92 (⟨a0_n,a0_f⟩:(Sl Gate)) K hs hk⟩
  · exact h.elim
abbrev T93:Tabs:=(Tabs.nil.addF 85 zx0)
theorem zOE:TabsOk Try.prog T93:=(TabsOk.nil.addF zOz)
abbrev G93:Ctrs:=csm T93 (fun _ _=>[]) (fun l=>Nat.beq l 15 || Nat.beq l 24)
def zGl:Ann:=⟨131,[(0,zK [0] []),(1,zK [0,3] []),(2,zK [0,3,4] [15]),(3,zK [0,3,4,5] [15]),(4,zK [0,3,4,5,19] [15]),(5,zK [0,3,4,5] [15]),(6,zK [0,3,4,5] [15]),(7,zK [0,3,4,5,6] [15]),(8,zK [0,3,4,5,6,37] [15]),(9,zK [0,3,4,5,6] [15]),(10,zK [0,3,4,5,6,7] [15]),(11,zK [0,3,4,5,6,7,53] [15]),(12,zK [0,3,4,5,6,7] [15]),(13,zK [0,3,4,5,6,7,59] [15]),(14,zK [0,3,4,5,6,7] [15]),(15,zK [0,3,4,5,6,7,8] [15]),(16,zK [0,3,4,5,6,7,8,9] [15]),(17,zK [0,3,4,5,6,7,8,9,80] [15]),(18,zK [0,3,4,5,6,7,8,9] [15]),(19,zK [0,3,4,5,6,7,8,9,10] [15]),(20,zK [0,3,4,5,6,7,8,9,10,120] [15]),(21,zK [0,3,4,5,6,7,8,9] [15]),(22,zK [0,3,4,5,6,7] [15]),(23,zK [2] [15])],
 [(4,zK [0,3,4,5] [15]),(8,zK [0,3,4,5,6] [15]),(11,zK [0,3,4,5,6,7] [15]),(17,zK [0,3,4,5,6,7,8,9] [15])],
 [(15,zK [0,3,4,5,6,7] [15]),(20,zK [0,3,4,5,6,7,8,9,10] [15])],
 [],[]⟩
abbrev R93:=(Sl Mp)
abbrev e93 (r:R93):List PA:=[.one (.sl r.len 1 (fun i=>zbs (r.get i)))]
@[irreducible] def z93:=ptF Try.prog G93 zGl Try.f93
def zEy (zaa:(Sl Gate)) (iv0:Int) (zce:Nat) (zb2:(Nat→Bool)) (zb3:(Nat→Nat)) (zcC:(Nat→List Int→Option (List Int))):St:=⟨[(0,zS enc_55 3 zaa),(3,zI (zaa.len:Int)),(4,zv 15),(5,zI iv0)],[(15,.vm 129 8 131 3 (true,2,false,[some .i64]) zce zb2 zb3 zcC)],[]⟩
abbrev zr6 (K:List PA→Prop) (zaa:(Sl Gate)) (X:St→Prop) (P:Int→Nat→(Nat→Bool)→(Nat→Nat)→(Nat→List Int→Option (List Int))→Bool) (S:Int→Nat→(Nat→Bool)→(Nat→Nat)→(Nat→List Int→Option (List Int))→(Sl Mp)):Prop:=∀ ⦃iv0:Int⦄ ⦃zce:Nat⦄ ⦃zb2:(Nat→Bool)⦄ ⦃zb3:(Nat→Nat)⦄ ⦃zcC:(Nat→List Int→Option (List Int))⦄,P iv0 zce zb2 zb3 zcC=true→K (e93 (S iv0 zce zb2 zb3 zcC))→X (zEy zaa iv0 zce zb2 zb3 zcC)
def zEz (zaa:(Sl Gate)) (iv1:Int) (pv1:Int) (zcq:Nat) (zbT:(Nat→Bool)) (zbU:(Nat→Nat)) (zcr:(Nat→List Int→Option (List Int))):St:=⟨[(0,zS enc_55 3 zaa),(3,zI (zaa.len:Int)),(4,zv 15),(5,zI iv1),(6,zI pv1)],[(15,.vm 129 8 131 3 (true,2,false,[some .i64]) zcq zbT zbU zcr)],[]⟩
abbrev zwt (K:List PA→Prop) (zaa:(Sl Gate)) (X:St→Prop) (P:Int→Int→Nat→(Nat→Bool)→(Nat→Nat)→(Nat→List Int→Option (List Int))→Bool) (S:Int→Int→Nat→(Nat→Bool)→(Nat→Nat)→(Nat→List Int→Option (List Int))→(Sl Mp)):Prop:=∀ ⦃iv1:Int⦄ ⦃pv1:Int⦄ ⦃zcq:Nat⦄ ⦃zbT:(Nat→Bool)⦄ ⦃zbU:(Nat→Nat)⦄ ⦃zcr:(Nat→List Int→Option (List Int))⦄,P iv1 pv1 zcq zbT zbU zcr=true→K (e93 (S iv1 pv1 zcq zbT zbU zcr))→X (zEz zaa iv1 pv1 zcq zbT zbU zcr)
def zEA (zaa:(Sl Gate)) (iv2:Int) (pv2:Int) (qv2:Int) (zb0:Nat) (zbt:(Nat→Bool)) (zbn:(Nat→Nat)) (zbN:(Nat→List Int→Option (List Int))):St:=⟨[(0,zS enc_55 3 zaa),(3,zI (zaa.len:Int)),(4,zv 15),(5,zI iv2),(6,zI pv2),(7,zI qv2)],[(15,.vm 129 8 131 3 (true,2,false,[some .i64]) zb0 zbt zbn zbN)],[]⟩
abbrev zx5 (K:List PA→Prop) (zaa:(Sl Gate)) (X:St→Prop) (P:Int→Int→Int→Nat→(Nat→Bool)→(Nat→Nat)→(Nat→List Int→Option (List Int))→Bool) (S:Int→Int→Int→Nat→(Nat→Bool)→(Nat→Nat)→(Nat→List Int→Option (List Int))→(Sl Mp)):Prop:=∀ ⦃iv2:Int⦄ ⦃pv2:Int⦄ ⦃qv2:Int⦄ ⦃zb0:Nat⦄ ⦃zbt:(Nat→Bool)⦄ ⦃zbn:(Nat→Nat)⦄ ⦃zbN:(Nat→List Int→Option (List Int))⦄,P iv2 pv2 qv2 zb0 zbt zbn zbN=true→K (e93 (S iv2 pv2 qv2 zb0 zbt zbn zbN))→X (zEA zaa iv2 pv2 qv2 zb0 zbt zbn zbN)
def zEB (zaa:(Sl Gate)) (qv3:Int) (iv4:Int) (pv4:Int) (zcc:Int) (rv4:Int) (zbO:Nat) (zbB:(Nat→Bool)) (zbC:(Nat→Nat)) (zbz:(Nat→List Int→Option (List Int))):St:=⟨[(0,zS enc_55 3 zaa),(3,zI (zaa.len:Int)),(4,zv 15),(5,zI iv4),(6,zI pv4),(7,zI qv3),(8,zI zcc),(9,zI rv4)],[(15,.vm 129 8 131 3 (true,2,false,[some .i64]) zbO zbB zbC zbz)],[]⟩
abbrev zGm (K:List PA→Prop) (zaa:(Sl Gate)) (qv3:Int) (X:St→Prop) (P:Int→Int→Int→Int→Nat→(Nat→Bool)→(Nat→Nat)→(Nat→List Int→Option (List Int))→Bool) (S:Int→Int→Int→Int→Nat→(Nat→Bool)→(Nat→Nat)→(Nat→List Int→Option (List Int))→(Sl Mp)):Prop:=∀ ⦃iv4:Int⦄ ⦃pv4:Int⦄ ⦃zcc:Int⦄ ⦃rv4:Int⦄ ⦃zbO:Nat⦄ ⦃zbB:(Nat→Bool)⦄ ⦃zbC:(Nat→Nat)⦄ ⦃zbz:(Nat→List Int→Option (List Int))⦄,P iv4 pv4 zcc rv4 zbO zbB zbC zbz=true→K (e93 (S iv4 pv4 zcc rv4 zbO zbB zbC zbz))→X (zEB zaa qv3 iv4 pv4 zcc rv4 zbO zbB zbC zbz)
section
variable {K:List PA→Prop} {zaa:(Sl Gate)} {iv0:Int} {zce:Nat} {zb2:(Nat→Bool)} {zb3:(Nat→Nat)} {zcC:(Nat→List Int→Option (List Int))} {X0:St→Prop} {P0:Int→Nat→(Nat→Bool)→(Nat→Nat)→(Nat→List Int→Option (List Int))→Bool} {S0:Int→Nat→(Nat→Bool)→(Nat→Nat)→(Nat→List Int→Option (List Int))→(Sl Mp)} {iv1:Int} {pv1:Int} {zcq:Nat} {zbT:(Nat→Bool)} {zbU:(Nat→Nat)} {zcr:(Nat→List Int→Option (List Int))} {X1:St→Prop} {P1:Int→Int→Nat→(Nat→Bool)→(Nat→Nat)→(Nat→List Int→Option (List Int))→Bool} {S1:Int→Int→Nat→(Nat→Bool)→(Nat→Nat)→(Nat→List Int→Option (List Int))→(Sl Mp)} {iv2:Int} {pv2:Int} {qv2:Int} {zb0:Nat} {zbt:(Nat→Bool)} {zbn:(Nat→Nat)} {zbN:(Nat→List Int→Option (List Int))} {X2:St→Prop} {P2:Int→Int→Int→Nat→(Nat→Bool)→(Nat→Nat)→(Nat→List Int→Option (List Int))→Bool} {S2:Int→Int→Int→Nat→(Nat→Bool)→(Nat→Nat)→(Nat→List Int→Option (List Int))→(Sl Mp)} {iv3:Int} {pv3:Int} {qv3:Int} {zhm:Nat} {zfs:(Nat→Bool)} {zft:(Nat→Nat)} {zhn:(Nat→List Int→Option (List Int))} {iv4:Int} {pv4:Int} {zcc:Int} {rv4:Int} {zbO:Nat} {zbB:(Nat→Bool)} {zbC:(Nat→Nat)} {zbz:(Nat→List Int→Option (List Int))} {X4:St→Prop} {P4:Int→Int→Int→Int→Nat→(Nat→Bool)→(Nat→Nat)→(Nat→List Int→Option (List Int))→Bool} {S4:Int→Int→Int→Int→Nat→(Nat→Bool)→(Nat→Nat)→(Nat→List Int→Option (List Int))→(Sl Mp)} {iv5:Int} {pv5:Int} {zf5:Int} {rv5:Int} {kv5:Int} {zet:Nat} {zdw:(Nat→Bool)} {zdx:(Nat→Nat)} {zeu:(Nat→List Int→Option (List Int))}
def zn8 (S0:Int→Nat→(Nat→Bool)→(Nat→Nat)→(Nat→List Int→Option (List Int))→(Sl Mp)) (S1:Int→Int→Nat→(Nat→Bool)→(Nat→Nat)→(Nat→List Int→Option (List Int))→(Sl Mp)) (S2:Int→Int→Int→Nat→(Nat→Bool)→(Nat→Nat)→(Nat→List Int→Option (List Int))→(Sl Mp)) (S4:Int→Int→Int→Int→Nat→(Nat→Bool)→(Nat→Nat)→(Nat→List Int→Option (List Int))→(Sl Mp)) (zaa:(Sl Gate)) (qv3:Int) (iv5:Int) (pv5:Int) (zf5:Int) (rv5:Int) (kv5:Int) (zet:Nat) (zdw:(Nat→Bool)) (zdx:(Nat→Nat)) (zeu:(Nat→List Int→Option (List Int))):(Sl Mp) :=
  (cond (decide (zf5 < (0:Int)))
 (S4 iv5 pv5 kv5 (w64 (rv5+(1:Int))) zet zdw zdx zeu)
 (cond (decide (kv5 < zf5))
 (S4 iv5 pv5 kv5 (w64 (rv5+(1:Int))) zet zdw zdx zeu)
 (S4 iv5 pv5 zf5 (w64 (rv5+(1:Int))) zet zdw zdx zeu)))
def zn9 (P0:Int→Nat→(Nat→Bool)→(Nat→Nat)→(Nat→List Int→Option (List Int))→Bool) (P1:Int→Int→Nat→(Nat→Bool)→(Nat→Nat)→(Nat→List Int→Option (List Int))→Bool) (P2:Int→Int→Int→Nat→(Nat→Bool)→(Nat→Nat)→(Nat→List Int→Option (List Int))→Bool) (P4:Int→Int→Int→Int→Nat→(Nat→Bool)→(Nat→Nat)→(Nat→List Int→Option (List Int))→Bool) (zaa:(Sl Gate)) (qv3:Int) (iv5:Int) (pv5:Int) (zf5:Int) (rv5:Int) (kv5:Int) (zet:Nat) (zdw:(Nat→Bool)) (zdx:(Nat→Nat)) (zeu:(Nat→List Int→Option (List Int))):Bool :=
  (cond (decide (zf5 < (0:Int)))
 (P4 iv5 pv5 kv5 (w64 (rv5+(1:Int))) zet zdw zdx zeu)
 (cond (decide (kv5 < zf5))
 (P4 iv5 pv5 kv5 (w64 (rv5+(1:Int))) zet zdw zdx zeu)
 (P4 iv5 pv5 zf5 (w64 (rv5+(1:Int))) zet zdw zdx zeu)))
theorem zGn (hX0:zr6 K zaa X0 P0 S0) (hX1:zwt K zaa X1 P1 S1) (hX2:zx5 K zaa X2 P2 S2) (hX4:zGm K zaa qv3 X4 P4 S4) (hs:zn9 P0 P1 P2 P4 zaa qv3 iv5 pv5 zf5 rv5 kv5 zet zdw zdx zeu=true) (hk:K (e93 (zn8 S0 S1 S2 S4 zaa qv3 iv5 pv5 zf5 rv5 kv5 zet zdw zdx zeu))):z93 K [1,1,1,0,1,0,0,1,0,0,1,1,0,0,1,0,0,1,0,0,1,0,0,1,1,0,1,0,0,1,0,0,1] [X0,X1,X2,X4] ⟨[(0,zS enc_55 3 zaa),(3,zI (zaa.len:Int)),(4,zv 15),(5,zI iv5),(6,zI pv5),(7,zI qv3),(8,zI zf5),(9,zI rv5),(10,zI kv5)],[(15,.vm 129 8 131 3 (true,2,false,[some .i64]) zet zdw zdx zeu)],[]⟩:=zaI (by kernel_rfl) (zc hs hk (fun hs hk=>(hX4 hs hk)) (fun hs hk=>(zc hs hk (fun hs hk=>(hX4 hs hk)) (fun hs hk=>(hX4 hs hk)))))
def zjf (S0:Int→Nat→(Nat→Bool)→(Nat→Nat)→(Nat→List Int→Option (List Int))→(Sl Mp)) (S1:Int→Int→Nat→(Nat→Bool)→(Nat→Nat)→(Nat→List Int→Option (List Int))→(Sl Mp)) (S2:Int→Int→Int→Nat→(Nat→Bool)→(Nat→Nat)→(Nat→List Int→Option (List Int))→(Sl Mp)) (zaa:(Sl Gate)) (qv3:Int) (S4:Int→Int→Int→Int→Nat→(Nat→Bool)→(Nat→Nat)→(Nat→List Int→Option (List Int))→(Sl Mp)) (iv4:Int) (pv4:Int) (zcc:Int) (rv4:Int) (zbO:Nat) (zbB:(Nat→Bool)) (zbC:(Nat→Nat)) (zbz:(Nat→List Int→Option (List Int))):(Sl Mp) :=
  (cond (decide (rv4 ≤ (zaa.get ((w64 (iv4 + (2:Int))).toNat)).High))
 (zn8 S0 S1 S2 S4 zaa qv3 iv4 pv4 zcc rv4 (if (zdn ((zbz ((w64 (iv4+(1:Int))).toNat)) [qv3,rv4]) 0) > (s85 ((zaa.get iv4.toNat).Z) ((zaa.get ((w64 (iv4+(1:Int))).toNat)).Z) ((zaa.get ((w64 (iv4+(2:Int))).toNat)).Z) pv4 qv3 rv4) then (zdn ((zbz ((w64 (iv4+(1:Int))).toNat)) [qv3,rv4]) 0) else (s85 ((zaa.get iv4.toNat).Z) ((zaa.get ((w64 (iv4+(1:Int))).toNat)).Z) ((zaa.get ((w64 (iv4+(2:Int))).toNat)).Z) pv4 qv3 rv4)) zbO zbB zbC zbz)
 (S2 iv4 pv4 (w64 (qv3+(1:Int))) zbO zbB (zbd iv4.toNat (addN ((zbz iv4.toNat) [pv4,qv3]) (zbC iv4.toNat)) zbC) (zbd iv4.toNat (zfa [pv4,qv3] [zcc] (zbz iv4.toNat)) zbz)))
def zjg (P0:Int→Nat→(Nat→Bool)→(Nat→Nat)→(Nat→List Int→Option (List Int))→Bool) (P1:Int→Int→Nat→(Nat→Bool)→(Nat→Nat)→(Nat→List Int→Option (List Int))→Bool) (P2:Int→Int→Int→Nat→(Nat→Bool)→(Nat→Nat)→(Nat→List Int→Option (List Int))→Bool) (zaa:(Sl Gate)) (qv3:Int) (P4:Int→Int→Int→Int→Nat→(Nat→Bool)→(Nat→Nat)→(Nat→List Int→Option (List Int))→Bool) (iv4:Int) (pv4:Int) (zcc:Int) (rv4:Int) (zbO:Nat) (zbB:(Nat→Bool)) (zbC:(Nat→Nat)) (zbz:(Nat→List Int→Option (List Int))):Bool :=
  (decide ((0≤(w64 (iv4+(2:Int)))∧(w64 (iv4+(2:Int))) < (zaa.len:Int))) &&
 (cond (decide (rv4 ≤ (zaa.get ((w64 (iv4 + (2:Int))).toNat)).High))
 (decide ((0≤iv4∧iv4 < (zaa.len:Int))) &&
 (decide ((0≤(w64 (iv4+(1:Int)))∧(w64 (iv4+(1:Int))) < (zaa.len:Int))) &&
 (decide ((0≤(w64 (iv4+(2:Int)))∧(w64 (iv4+(2:Int))) < (zaa.len:Int))) &&
 (decide ((p85 ((zaa.get iv4.toNat).Z) ((zaa.get ((w64 (iv4+(1:Int))).toNat)).Z) ((zaa.get ((w64 (iv4+(2:Int))).toNat)).Z) pv4 qv3 rv4=true)) &&
 (decide ((0≤(w64 (iv4+(1:Int)))∧(w64 (iv4+(1:Int))) < (zbO:Int))) &&
 (decide (((w64 (iv4+(1:Int))).toNat < zbO∧zbB ((w64 (iv4+(1:Int))).toNat)=true)) &&
 (decide (((w64 (iv4+(1:Int))).toNat < zbO)) &&
 (zn9 P0 P1 P2 P4 zaa qv3 iv4 pv4 zcc rv4 (if (zdn ((zbz ((w64 (iv4+(1:Int))).toNat)) [qv3,rv4]) 0) > (s85 ((zaa.get iv4.toNat).Z) ((zaa.get ((w64 (iv4+(1:Int))).toNat)).Z) ((zaa.get ((w64 (iv4+(2:Int))).toNat)).Z) pv4 qv3 rv4) then (zdn ((zbz ((w64 (iv4+(1:Int))).toNat)) [qv3,rv4]) 0) else (s85 ((zaa.get iv4.toNat).Z) ((zaa.get ((w64 (iv4+(1:Int))).toNat)).Z) ((zaa.get ((w64 (iv4+(2:Int))).toNat)).Z) pv4 qv3 rv4)) zbO zbB zbC zbz))))))))
 (decide ((0≤iv4∧iv4 < (zbO:Int))) &&
 (decide ((iv4.toNat < zbO∧zbB iv4.toNat=true)) &&
 (decide ((iv4.toNat < zbO)) &&
 (P2 iv4 pv4 (w64 (qv3+(1:Int))) zbO zbB (zbd iv4.toNat (addN ((zbz iv4.toNat) [pv4,qv3]) (zbC iv4.toNat)) zbC) (zbd iv4.toNat (zfa [pv4,qv3] [zcc] (zbz iv4.toNat)) zbz)))))))
def zho (S0:Int→Nat→(Nat→Bool)→(Nat→Nat)→(Nat→List Int→Option (List Int))→(Sl Mp)) (S1:Int→Int→Nat→(Nat→Bool)→(Nat→Nat)→(Nat→List Int→Option (List Int))→(Sl Mp)) (S2:Int→Int→Int→Nat→(Nat→Bool)→(Nat→Nat)→(Nat→List Int→Option (List Int))→(Sl Mp)) (zaa:(Sl Gate)) (qv3:Int):Nat→Int→Int→Int→Int→Nat→(Nat→Bool)→(Nat→Nat)→(Nat→List Int→Option (List Int))→(Sl Mp):=lpO (fun _ _ _ _ _ _ _ _=>default) (zjf S0 S1 S2 zaa qv3)
def zhp (P0:Int→Nat→(Nat→Bool)→(Nat→Nat)→(Nat→List Int→Option (List Int))→Bool) (P1:Int→Int→Nat→(Nat→Bool)→(Nat→Nat)→(Nat→List Int→Option (List Int))→Bool) (P2:Int→Int→Int→Nat→(Nat→Bool)→(Nat→Nat)→(Nat→List Int→Option (List Int))→Bool) (zaa:(Sl Gate)) (qv3:Int):Nat→Int→Int→Int→Int→Nat→(Nat→Bool)→(Nat→Nat)→(Nat→List Int→Option (List Int))→Bool:=lpO (fun _ _ _ _ _ _ _ _=>false) (zjg P0 P1 P2 zaa qv3)
def zr7 (S0:Int→Nat→(Nat→Bool)→(Nat→Nat)→(Nat→List Int→Option (List Int))→(Sl Mp)) (S1:Int→Int→Nat→(Nat→Bool)→(Nat→Nat)→(Nat→List Int→Option (List Int))→(Sl Mp)) (S2:Int→Int→Int→Nat→(Nat→Bool)→(Nat→Nat)→(Nat→List Int→Option (List Int))→(Sl Mp)) (zaa:(Sl Gate)) (qv3:Int) (iv4:Int) (pv4:Int) (zcc:Int) (rv4:Int) (zbO:Nat) (zbB:(Nat→Bool)) (zbC:(Nat→Nat)) (zbz:(Nat→List Int→Option (List Int))):(Sl Mp):=zho S0 S1 S2 zaa qv3 Fuel iv4 pv4 zcc rv4 zbO zbB zbC zbz
def zr8 (P0:Int→Nat→(Nat→Bool)→(Nat→Nat)→(Nat→List Int→Option (List Int))→Bool) (P1:Int→Int→Nat→(Nat→Bool)→(Nat→Nat)→(Nat→List Int→Option (List Int))→Bool) (P2:Int→Int→Int→Nat→(Nat→Bool)→(Nat→Nat)→(Nat→List Int→Option (List Int))→Bool) (zaa:(Sl Gate)) (qv3:Int) (iv4:Int) (pv4:Int) (zcc:Int) (rv4:Int) (zbO:Nat) (zbB:(Nat→Bool)) (zbC:(Nat→Nat)) (zbz:(Nat→List Int→Option (List Int))):Bool:=zhp P0 P1 P2 zaa qv3 Fuel iv4 pv4 zcc rv4 zbO zbB zbC zbz
theorem zGo (hX0:zr6 K zaa X0 P0 S0) (hX1:zwt K zaa X1 P1 S1) (hX2:zx5 K zaa X2 P2 S2) (hs:zr8 P0 P1 P2 zaa qv3 iv4 pv4 zcc rv4 zbO zbB zbC zbz=true) (hk:K (e93 (zr7 S0 S1 S2 zaa qv3 iv4 pv4 zcc rv4 zbO zbB zbC zbz))):z93 K [1,1,1,0,1,0,0,1,0,0,1,1,0,0,1,0,0,1,0,0,1,0,0,1,1,0,1,0] [X0,X1,X2] (zEB zaa qv3 iv4 pv4 zcc rv4 zbO zbB zbC zbz) :=
  zl (fun X=>z93 K [1,1,1,0,1,0,0,1,0,0,1,1,0,0,1,0,0,1,0,0,1,0,0,1,1,0,1,0,0] [X0,X1,X2,X]) (by kernel_rfl) fun X4 hX =>
  (show ∀ k, zGm K zaa qv3 X4 (zhp P0 P1 P2 zaa qv3 k) (zho S0 S1 S2 zaa qv3 k) from zfT _ _ (zjg P0 P1 P2 zaa qv3) (zjf S0 S1 S2 zaa qv3) (zGm K zaa qv3 X4)
 (by intro _ _ _ _ _ _ _ _ hs;exact absurd hs Bool.false_ne_true)
 (by intro P4 S4 hX4 iv4 pv4 zcc rv4 zbO zbB zbC zbz hs hk;exact hX _ (zaI (by kernel_rfl) (zaE hs fun hc hs=>And.intro hc (zc hs hk (fun hs hk=>(zaE hs fun hc hs=>And.intro hc (zaE hs fun hc hs=>And.intro hc (zaE hs fun hc hs=>And.intro hc (zaE hs fun hc hs=>And.intro hc (zaE hs fun hc hs=>And.intro hc (zaE hs fun hc hs=>And.intro hc (zaE hs fun hc hs=>And.intro hc (zGn hX0 hX1 hX2 hX4 hs hk))))))))) (fun hs hk=>(zaE hs fun hc hs=>And.intro hc (zaE hs fun hc hs=>And.intro hc (zaE hs fun hc hs=>And.intro hc (hX2 hs hk)))))))))) _ hs hk
def zr9 (S0:Int→Nat→(Nat→Bool)→(Nat→Nat)→(Nat→List Int→Option (List Int))→(Sl Mp)) (S1:Int→Int→Nat→(Nat→Bool)→(Nat→Nat)→(Nat→List Int→Option (List Int))→(Sl Mp)) (S2:Int→Int→Int→Nat→(Nat→Bool)→(Nat→Nat)→(Nat→List Int→Option (List Int))→(Sl Mp)) (zaa:(Sl Gate)) (iv3:Int) (pv3:Int) (qv3:Int) (zhm:Nat) (zfs:(Nat→Bool)) (zft:(Nat→Nat)) (zhn:(Nat→List Int→Option (List Int))):(Sl Mp) :=
  (zr7 S0 S1 S2 zaa qv3 iv3 pv3 (-1:Int) ((zaa.get ((w64 (iv3+(2:Int))).toNat)).Low) zhm zfs zft zhn)
def zsa (P0:Int→Nat→(Nat→Bool)→(Nat→Nat)→(Nat→List Int→Option (List Int))→Bool) (P1:Int→Int→Nat→(Nat→Bool)→(Nat→Nat)→(Nat→List Int→Option (List Int))→Bool) (P2:Int→Int→Int→Nat→(Nat→Bool)→(Nat→Nat)→(Nat→List Int→Option (List Int))→Bool) (zaa:(Sl Gate)) (iv3:Int) (pv3:Int) (qv3:Int) (zhm:Nat) (zfs:(Nat→Bool)) (zft:(Nat→Nat)) (zhn:(Nat→List Int→Option (List Int))):Bool :=
  (decide ((0≤(w64 (iv3+(2:Int)))∧(w64 (iv3+(2:Int))) < (zaa.len:Int))) &&
 (zr8 P0 P1 P2 zaa qv3 iv3 pv3 (-1:Int) ((zaa.get ((w64 (iv3+(2:Int))).toNat)).Low) zhm zfs zft zhn))
theorem zGp (hX0:zr6 K zaa X0 P0 S0) (hX1:zwt K zaa X1 P1 S1) (hX2:zx5 K zaa X2 P2 S2) (hs:zsa P0 P1 P2 zaa iv3 pv3 qv3 zhm zfs zft zhn=true) (hk:K (e93 (zr9 S0 S1 S2 zaa iv3 pv3 qv3 zhm zfs zft zhn))):z93 K [1,1,1,0,1,0,0,1,0,0,1,1,0,0,1,0,0,1,0,0,1,0,0,1] [X0,X1,X2] ⟨[(0,zS enc_55 3 zaa),(3,zI (zaa.len:Int)),(4,zv 15),(5,zI iv3),(6,zI pv3),(7,zI qv3)],[(15,.vm 129 8 131 3 (true,2,false,[some .i64]) zhm zfs zft zhn)],[]⟩:=zaI (by kernel_rfl) (zaE hs fun hc hs=>And.intro hc (zGo hX0 hX1 hX2 hs hk))
def zjh (S0:Int→Nat→(Nat→Bool)→(Nat→Nat)→(Nat→List Int→Option (List Int))→(Sl Mp)) (S1:Int→Int→Nat→(Nat→Bool)→(Nat→Nat)→(Nat→List Int→Option (List Int))→(Sl Mp)) (zaa:(Sl Gate)) (S2:Int→Int→Int→Nat→(Nat→Bool)→(Nat→Nat)→(Nat→List Int→Option (List Int))→(Sl Mp)) (iv2:Int) (pv2:Int) (qv2:Int) (zb0:Nat) (zbt:(Nat→Bool)) (zbn:(Nat→Nat)) (zbN:(Nat→List Int→Option (List Int))):(Sl Mp) :=
  (cond (decide (qv2 ≤ (zaa.get ((w64 (iv2 + (1:Int))).toNat)).High))
 (cond (iv2 == (w64 ((zaa.len : Int) - (2:Int))))
 (S2 iv2 pv2 (w64 (qv2+(1:Int))) zb0 zbt (zbd iv2.toNat (addN ((zbN iv2.toNat) [pv2,qv2]) (zbn iv2.toNat)) zbn) (zbd iv2.toNat (zfa [pv2,qv2] [(0:Int)] (zbN iv2.toNat)) zbN))
 (zr9 S0 S1 S2 zaa iv2 pv2 qv2 zb0 zbt zbn zbN))
 (S1 iv2 (w64 (pv2+(1:Int))) zb0 zbt zbn zbN))
def zji (P0:Int→Nat→(Nat→Bool)→(Nat→Nat)→(Nat→List Int→Option (List Int))→Bool) (P1:Int→Int→Nat→(Nat→Bool)→(Nat→Nat)→(Nat→List Int→Option (List Int))→Bool) (zaa:(Sl Gate)) (P2:Int→Int→Int→Nat→(Nat→Bool)→(Nat→Nat)→(Nat→List Int→Option (List Int))→Bool) (iv2:Int) (pv2:Int) (qv2:Int) (zb0:Nat) (zbt:(Nat→Bool)) (zbn:(Nat→Nat)) (zbN:(Nat→List Int→Option (List Int))):Bool :=
  (decide ((0≤(w64 (iv2+(1:Int)))∧(w64 (iv2+(1:Int))) < (zaa.len:Int))) &&
 (cond (decide (qv2 ≤ (zaa.get ((w64 (iv2 + (1:Int))).toNat)).High))
 (cond (iv2 == (w64 ((zaa.len : Int) - (2:Int))))
 (decide ((0≤iv2∧iv2 < (zb0:Int))) &&
 (decide ((iv2.toNat < zb0∧zbt iv2.toNat=true)) &&
 (decide ((iv2.toNat < zb0)) &&
 (P2 iv2 pv2 (w64 (qv2+(1:Int))) zb0 zbt (zbd iv2.toNat (addN ((zbN iv2.toNat) [pv2,qv2]) (zbn iv2.toNat)) zbn) (zbd iv2.toNat (zfa [pv2,qv2] [(0:Int)] (zbN iv2.toNat)) zbN)))))
 (zsa P0 P1 P2 zaa iv2 pv2 qv2 zb0 zbt zbn zbN))
 (P1 iv2 (w64 (pv2+(1:Int))) zb0 zbt zbn zbN)))
def zhq (S0:Int→Nat→(Nat→Bool)→(Nat→Nat)→(Nat→List Int→Option (List Int))→(Sl Mp)) (S1:Int→Int→Nat→(Nat→Bool)→(Nat→Nat)→(Nat→List Int→Option (List Int))→(Sl Mp)) (zaa:(Sl Gate)):Nat→Int→Int→Int→Nat→(Nat→Bool)→(Nat→Nat)→(Nat→List Int→Option (List Int))→(Sl Mp):=lpO (fun _ _ _ _ _ _ _=>default) (zjh S0 S1 zaa)
def zhr (P0:Int→Nat→(Nat→Bool)→(Nat→Nat)→(Nat→List Int→Option (List Int))→Bool) (P1:Int→Int→Nat→(Nat→Bool)→(Nat→Nat)→(Nat→List Int→Option (List Int))→Bool) (zaa:(Sl Gate)):Nat→Int→Int→Int→Nat→(Nat→Bool)→(Nat→Nat)→(Nat→List Int→Option (List Int))→Bool:=lpO (fun _ _ _ _ _ _ _=>false) (zji P0 P1 zaa)
def zsb (S0:Int→Nat→(Nat→Bool)→(Nat→Nat)→(Nat→List Int→Option (List Int))→(Sl Mp)) (S1:Int→Int→Nat→(Nat→Bool)→(Nat→Nat)→(Nat→List Int→Option (List Int))→(Sl Mp)) (zaa:(Sl Gate)) (iv2:Int) (pv2:Int) (qv2:Int) (zb0:Nat) (zbt:(Nat→Bool)) (zbn:(Nat→Nat)) (zbN:(Nat→List Int→Option (List Int))):(Sl Mp):=zhq S0 S1 zaa Fuel iv2 pv2 qv2 zb0 zbt zbn zbN
def zsc (P0:Int→Nat→(Nat→Bool)→(Nat→Nat)→(Nat→List Int→Option (List Int))→Bool) (P1:Int→Int→Nat→(Nat→Bool)→(Nat→Nat)→(Nat→List Int→Option (List Int))→Bool) (zaa:(Sl Gate)) (iv2:Int) (pv2:Int) (qv2:Int) (zb0:Nat) (zbt:(Nat→Bool)) (zbn:(Nat→Nat)) (zbN:(Nat→List Int→Option (List Int))):Bool:=zhr P0 P1 zaa Fuel iv2 pv2 qv2 zb0 zbt zbn zbN
theorem zGq (hX0:zr6 K zaa X0 P0 S0) (hX1:zwt K zaa X1 P1 S1) (hs:zsc P0 P1 zaa iv2 pv2 qv2 zb0 zbt zbn zbN=true) (hk:K (e93 (zsb S0 S1 zaa iv2 pv2 qv2 zb0 zbt zbn zbN))):z93 K [1,1,1,0,1,0,0,1,0,0,1,1,0,0,1,0,0,1,0] [X0,X1] (zEA zaa iv2 pv2 qv2 zb0 zbt zbn zbN) :=
  zl (fun X=>z93 K [1,1,1,0,1,0,0,1,0,0,1,1,0,0,1,0,0,1,0,0] [X0,X1,X]) (by kernel_rfl) fun X2 hX =>
  (show ∀ k, zx5 K zaa X2 (zhr P0 P1 zaa k) (zhq S0 S1 zaa k) from zfT _ _ (zji P0 P1 zaa) (zjh S0 S1 zaa) (zx5 K zaa X2)
 (by intro _ _ _ _ _ _ _ hs;exact absurd hs Bool.false_ne_true)
 (by intro P2 S2 hX2 iv2 pv2 qv2 zb0 zbt zbn zbN hs hk;exact hX _ (zaI (by kernel_rfl) (zaE hs fun hc hs=>And.intro hc (zc hs hk (fun hs hk=>(zc hs hk (fun hs hk=>(zaE hs fun hc hs=>And.intro hc (zaE hs fun hc hs=>And.intro hc (zaE hs fun hc hs=>And.intro hc (hX2 hs hk))))) (fun hs hk=>(zGp hX0 hX1 hX2 hs hk)))) (fun hs hk=>(hX1 hs hk))))))) _ hs hk
def zjj (S0:Int→Nat→(Nat→Bool)→(Nat→Nat)→(Nat→List Int→Option (List Int))→(Sl Mp)) (zaa:(Sl Gate)) (S1:Int→Int→Nat→(Nat→Bool)→(Nat→Nat)→(Nat→List Int→Option (List Int))→(Sl Mp)) (iv1:Int) (pv1:Int) (zcq:Nat) (zbT:(Nat→Bool)) (zbU:(Nat→Nat)) (zcr:(Nat→List Int→Option (List Int))):(Sl Mp) :=
  (cond (decide (pv1 ≤ (zaa.get iv1.toNat).High))
 (zsb S0 S1 zaa iv1 pv1 ((zaa.get ((w64 (iv1+(1:Int))).toNat)).Low) zcq zbT zbU zcr)
 (S0 (w64 (iv1 - (1:Int))) zcq zbT zbU zcr))
def zjk (P0:Int→Nat→(Nat→Bool)→(Nat→Nat)→(Nat→List Int→Option (List Int))→Bool) (zaa:(Sl Gate)) (P1:Int→Int→Nat→(Nat→Bool)→(Nat→Nat)→(Nat→List Int→Option (List Int))→Bool) (iv1:Int) (pv1:Int) (zcq:Nat) (zbT:(Nat→Bool)) (zbU:(Nat→Nat)) (zcr:(Nat→List Int→Option (List Int))):Bool :=
  (decide ((0≤iv1∧iv1 < (zaa.len:Int))) &&
 (cond (decide (pv1 ≤ (zaa.get iv1.toNat).High))
 (decide ((0≤(w64 (iv1+(1:Int)))∧(w64 (iv1+(1:Int))) < (zaa.len:Int))) &&
 (zsc P0 P1 zaa iv1 pv1 ((zaa.get ((w64 (iv1+(1:Int))).toNat)).Low) zcq zbT zbU zcr))
 (P0 (w64 (iv1 - (1:Int))) zcq zbT zbU zcr)))
def zhs (S0:Int→Nat→(Nat→Bool)→(Nat→Nat)→(Nat→List Int→Option (List Int))→(Sl Mp)) (zaa:(Sl Gate)):Nat→Int→Int→Nat→(Nat→Bool)→(Nat→Nat)→(Nat→List Int→Option (List Int))→(Sl Mp):=lpO (fun _ _ _ _ _ _=>default) (zjj S0 zaa)
def zht (P0:Int→Nat→(Nat→Bool)→(Nat→Nat)→(Nat→List Int→Option (List Int))→Bool) (zaa:(Sl Gate)):Nat→Int→Int→Nat→(Nat→Bool)→(Nat→Nat)→(Nat→List Int→Option (List Int))→Bool:=lpO (fun _ _ _ _ _ _=>false) (zjk P0 zaa)
def zoa (S0:Int→Nat→(Nat→Bool)→(Nat→Nat)→(Nat→List Int→Option (List Int))→(Sl Mp)) (zaa:(Sl Gate)) (iv1:Int) (pv1:Int) (zcq:Nat) (zbT:(Nat→Bool)) (zbU:(Nat→Nat)) (zcr:(Nat→List Int→Option (List Int))):(Sl Mp):=zhs S0 zaa Fuel iv1 pv1 zcq zbT zbU zcr
def zob (P0:Int→Nat→(Nat→Bool)→(Nat→Nat)→(Nat→List Int→Option (List Int))→Bool) (zaa:(Sl Gate)) (iv1:Int) (pv1:Int) (zcq:Nat) (zbT:(Nat→Bool)) (zbU:(Nat→Nat)) (zcr:(Nat→List Int→Option (List Int))):Bool:=zht P0 zaa Fuel iv1 pv1 zcq zbT zbU zcr
theorem zGr (hX0:zr6 K zaa X0 P0 S0) (hs:zob P0 zaa iv1 pv1 zcq zbT zbU zcr=true) (hk:K (e93 (zoa S0 zaa iv1 pv1 zcq zbT zbU zcr))):z93 K [1,1,1,0,1,0,0,1,0,0,1,1,0] [X0] (zEz zaa iv1 pv1 zcq zbT zbU zcr) :=
  zl (fun X=>z93 K [1,1,1,0,1,0,0,1,0,0,1,1,0,0] [X0,X]) (by kernel_rfl) fun X1 hX =>
  (show ∀ k, zwt K zaa X1 (zht P0 zaa k) (zhs S0 zaa k) from zfT _ _ (zjk P0 zaa) (zjj S0 zaa) (zwt K zaa X1)
 (by intro _ _ _ _ _ _ hs;exact absurd hs Bool.false_ne_true)
 (by intro P1 S1 hX1 iv1 pv1 zcq zbT zbU zcr hs hk;exact hX _ (zaI (by kernel_rfl) (zaE hs fun hc hs=>And.intro hc (zc hs hk (fun hs hk=>(zaE hs fun hc hs=>And.intro hc (zGq hX0 hX1 hs hk))) (fun hs hk=>(hX0 hs hk))))))) _ hs hk
def zjl (zaa:(Sl Gate)) (S0:Int→Nat→(Nat→Bool)→(Nat→Nat)→(Nat→List Int→Option (List Int))→(Sl Mp)) (iv0:Int) (zce:Nat) (zb2:(Nat→Bool)) (zb3:(Nat→Nat)) (zcC:(Nat→List Int→Option (List Int))):(Sl Mp) :=
  (cond (decide (iv0 ≥ (0:Int)))
 (zoa S0 zaa iv0 ((zaa.get iv0.toNat).Low) zce (zbd iv0.toNat true zb2) (zbd iv0.toNat 0 zb3) (zbd iv0.toNat (fun _=>none) zcC))
 (⟨zce,(fun i=>(⟨zb3 i,zcC i⟩:Mp))⟩:(Sl Mp)))
def zjm (zaa:(Sl Gate)) (P0:Int→Nat→(Nat→Bool)→(Nat→Nat)→(Nat→List Int→Option (List Int))→Bool) (iv0:Int) (zce:Nat) (zb2:(Nat→Bool)) (zb3:(Nat→Nat)) (zcC:(Nat→List Int→Option (List Int))):Bool :=
  (cond (decide (iv0 ≥ (0:Int)))
 (decide ((0≤iv0∧iv0 < (zce:Int))) &&
 (decide ((iv0.toNat < zce∧zb2 iv0.toNat=false)) &&
 (decide ((0≤iv0∧iv0 < (zaa.len:Int))) &&
 (zob P0 zaa iv0 ((zaa.get iv0.toNat).Low) zce (zbd iv0.toNat true zb2) (zbd iv0.toNat 0 zb3) (zbd iv0.toNat (fun _=>none) zcC)))))
 true)
def zev (zaa:(Sl Gate)):Nat→Int→Nat→(Nat→Bool)→(Nat→Nat)→(Nat→List Int→Option (List Int))→(Sl Mp):=lpO (fun _ _ _ _ _=>default) (zjl zaa)
def zfu (zaa:(Sl Gate)):Nat→Int→Nat→(Nat→Bool)→(Nat→Nat)→(Nat→List Int→Option (List Int))→Bool:=lpO (fun _ _ _ _ _=>false) (zjm zaa)
def zsd (zaa:(Sl Gate)) (iv0:Int) (zce:Nat) (zb2:(Nat→Bool)) (zb3:(Nat→Nat)) (zcC:(Nat→List Int→Option (List Int))):(Sl Mp):=zev zaa Fuel iv0 zce zb2 zb3 zcC
def zse (zaa:(Sl Gate)) (iv0:Int) (zce:Nat) (zb2:(Nat→Bool)) (zb3:(Nat→Nat)) (zcC:(Nat→List Int→Option (List Int))):Bool:=zfu zaa Fuel iv0 zce zb2 zb3 zcC
theorem zGs (hs:zse zaa iv0 zce zb2 zb3 zcC=true) (hk:K (e93 (zsd zaa iv0 zce zb2 zb3 zcC))):z93 K [1,1,1,0,1,0] [] (zEy zaa iv0 zce zb2 zb3 zcC) :=
  zl (fun X=>z93 K [1,1,1,0,1,0,0] [X]) (by kernel_rfl) fun X0 hX =>
  (show ∀ k, zr6 K zaa X0 (zfu zaa k) (zev zaa k) from zfT _ _ (zjm zaa) (zjl zaa) (zr6 K zaa X0)
 (by intro _ _ _ _ _ hs;exact absurd hs Bool.false_ne_true)
 (by intro P0 S0 hX0 iv0 zce zb2 zb3 zcC hs hk;exact hX _ (zaI (by kernel_rfl) (zc hs hk (fun hs hk=>(zaE hs fun hc hs=>And.intro hc (zaE hs fun hc hs=>And.intro hc (zaE hs fun hc hs=>And.intro hc (zGr hX0 hs hk))))) (fun hs hk=>hk))))) _ hs hk
def s93 (zaa:(Sl Gate)):(Sl Mp) :=
  (zsd zaa (w64 ((zaa.len:Int) - (2:Int))) ((w64 ((zaa.len:Int) - (1:Int))).toNat) (fun _=>false) (fun _=>0) (fun _ _=>none))
def p93 (zaa:(Sl Gate)):Bool :=
  (decide ((0≤(w64 ((zaa.len:Int) - (1:Int)))∧(w64 ((zaa.len:Int) - (1:Int)))=(w64 ((zaa.len:Int) - (1:Int)))∧(w64 ((zaa.len:Int) - (1:Int)))≤1000000)) &&
 (zse zaa (w64 ((zaa.len:Int) - (2:Int))) ((w64 ((zaa.len:Int) - (1:Int))).toNat) (fun _=>false) (fun _=>0) (fun _ _=>none)))
end
theorem q93 (zaa:(Sl Gate)) (K:List PA→Prop) (hs:p93 zaa=true) (hk:K (e93 (s93 zaa))):vcFun Try.prog G93 zGl 93 [.one (.sl zaa.len 3 (fun i=>enc_55 (zaa.get i)))] K :=
  zaI (by kernel_rfl) (zaE hs fun hc hs=>And.intro hc (zGs hs hk))
def zDb : List PA → COut
  | [.one (.sl a0_n a0_s a0_g)]=>.det (IsE enc_55 3 a0_s a0_g∧p93 (⟨a0_n,zaf a0_g⟩:(Sl Gate))=true) [.one (.sl ((s93 (⟨a0_n,zaf a0_g⟩:(Sl Gate))).len) 1 (fun i=>zbs ((s93 (⟨a0_n,zaf a0_g⟩:(Sl Gate))).get i)))]
  | _=>.no
theorem zLs:zaj Try.prog 93:=⟨_,rfl,rfl,by kernel_rfl⟩
theorem zQs:Ok Try.prog 93 zDb:=zaP zOE zLs fun args K h=>by
  unfold zDb at h
  split at h
  · rename_i a0_n a0_s a0_g
    obtain ⟨⟨⟨rfl,a0_f,rfl⟩,hs⟩,hk⟩:=h
    try rw [zae a0_f] at hs
    try rw [zae a0_f] at hk
    exact ⟨(fun _ _=>[]),(fun l=>Nat.beq l 15 || Nat.beq l 24),zGl,q93 (⟨a0_n,a0_f⟩:(Sl Gate)) K hs hk⟩
  · exact h.elim
def zOF (a b:Int):List Int:=(List.range (b - a+1).toNat).map fun (i:Nat)=>a+i
def zf6 (zaa:Sl Gate):List (List Int):=(zOF (zaa.get 0).Low (zaa.get 0).High).flatMap fun p=>(zOF (zaa.get 1).Low (zaa.get 1).High).map fun q=>[p,q]
abbrev T55:Tabs:=(((Tabs.nil.addF 85 zx0).addF 92 zDa).addF 93 zDb)
theorem zOG:TabsOk Try.prog T55:=(((TabsOk.nil.addF zOz).addF zQr).addF zQs)
abbrev G55:Ctrs:=csm T55 (fun _ _=>[]) (fun _=>false)
def zbe:Ann:=⟨145,[(0,⟨[0],[],[],[],[],[],[]⟩),(1,⟨[0,18],[],[],[],[],[],[]⟩),(2,⟨[2,3,4],[],[],[],[],[],[]⟩),(3,⟨[0,5],[],[],[],[],[],[]⟩),(4,⟨[0,5,6],[],[],[],[],[],[]⟩),(5,⟨[0,5,6,24],[24],[],[],[],[],[]⟩),(6,⟨[0,5,6,24,26],[24],[],[],[],[],[]⟩),(7,⟨[0,5,6,8,24],[24],[],[],[],[],[]⟩),(8,⟨[0,5,6,8,24,35],[24],[],[],[],[],[]⟩),(9,⟨[0,5,6,24],[24],[],[],[],[],[]⟩),(10,⟨[0,5,6,9],[],[],[],[],[],[]⟩),(11,⟨[0,5,6,9,10],[],[],[],[],[],[]⟩),(12,⟨[0,5,6,9,10,46],[],[],[],[],[],[]⟩),(13,⟨[0,5,6,9,10],[],[],[],[],[],[]⟩),(14,⟨[0,5,6,9,10,11],[],[],[],[],[],[]⟩),(15,⟨[0,5,6,9,10,11,58],[],[],[],[],[],[]⟩),(16,⟨[0,5,6,9,10,11],[],[],[],[],[],[]⟩),(17,⟨[0,5,6,9,10,11,69],[],[],[],[],[],[]⟩),(18,⟨[0,5,6,9],[72],[],[],[],[],[]⟩),(19,⟨[0,5,6,9,12],[72],[],[],[],[],[]⟩),(20,⟨[0,5,6,9,12,76],[72],[],[],[],[],[]⟩),(21,⟨[0,5,6,9,12],[72],[],[],[],[],[]⟩),(22,⟨[0,5,6,9,12,13,14],[72],[],[],[],[],[]⟩),(23,⟨[0,5,6,9,12,13,14,15],[72],[],[],[],[],[]⟩),(24,⟨[0,5,6,9,12,13,14,15,100],[72],[],[],[],[],[]⟩),(25,⟨[0,5,6,9,12,13,14,15],[72],[],[],[],[],[]⟩),(26,⟨[0,5,6,9,12,13,14,15,138],[72],[],[],[],[],[]⟩),(27,⟨[0,5,6,9,12],[72],[],[],[],[],[]⟩),(28,⟨[2,3,4],[72],[],[],[],[],[]⟩)],
 [(6,⟨[0,5,6,24],[24],[],[],[],[],[]⟩),(12,⟨[0,5,6,9,10],[],[],[],[],[],[]⟩),(15,⟨[0,5,6,9,10,11],[],[],[],[],[],[]⟩),(20,⟨[0,5,6,9,12],[72],[],[],[],[],[]⟩),(24,⟨[0,5,6,9,12,13,14,15],[72],[],[],[],[],[]⟩)],
 [(2,⟨[0,18],[],[],[],[],[],[]⟩),(3,⟨[0],[],[],[],[],[],[]⟩),(4,⟨[0,5],[],[],[],[],[],[]⟩),(10,⟨[0,5,6],[],[],[],[],[],[]⟩),(19,⟨[0,5,6,9],[72],[(9,72,3,fun _=>zal default)],[],[],[],[]⟩),(27,⟨[0,5,6,9,12,13,14,15,138],[72],[],[],[],[],[]⟩)],
 [],[]⟩
def zLt (zaa:(Sl Gate)) (zhu:Bool):St:=⟨[(0,.one (.c (.p (.sl zaa.len 3 (fun i=>enc_55 (zaa.get i)))))),(18,.one (.c (.p (.bool zhu))))],[],[]⟩
def zoc (K:List PA→Prop) (zaa:(Sl Gate)) (zhu:Bool):Prop:=vc Try.prog G55 zbe (cdF Try.f55 [1,0,0,1]) (sqK Try.prog G55 zbe (cdF Try.f55 [1,0,1]) (zcT (zbF Try.prog Try.f55 K))) (zLt zaa zhu)
def zLu (zaa:(Sl Gate)):St:=⟨[(0,.one (.c (.p (.sl zaa.len 3 (fun i=>enc_55 (zaa.get i))))))],[],[]⟩
def zod (K:List PA→Prop) (zaa:(Sl Gate)):Prop:=vc Try.prog G55 zbe (cdF Try.f55 [1,0,1]) (zcT (zbF Try.prog Try.f55 K)) (zLu zaa)
def zLv (zaa:(Sl Gate)) (zew:Nat) (zcs:Nat→List PV):St:=⟨[(0,.one (.c (.p (.sl zaa.len 3 (fun i=>enc_55 (zaa.get i)))))),(5,.one (.c (.p (.sl zew 1 zcs))))],[],[]⟩
def zoe (K:List PA→Prop) (zaa:(Sl Gate)) (zew:Nat) (zcs:Nat→List PV):Prop:=vc Try.prog G55 zbe (cdF Try.f55 [1,0,1,1]) (zcT (zbF Try.prog Try.f55 K)) (zLv zaa zew zcs)
def ziq (zaa:(Sl Gate)) (zab:(Sl Mp)) (za1:(List (List Int))) (zaM:Int):St:=⟨[(0,.one (.c (.p (.sl zaa.len 3 (fun i=>enc_55 (zaa.get i)))))),(5,.one (.c (.p (.sl zab.len 1 (fun i=>zbs (zab.get i)))))),(6,.one (.c (.p (.int .i64 zaM)))),(24,.one (.c (.ptr 24 0)))],[(24,.mit (true,2,false,[some .i64]) ((zab.get 0).n) ((zab.get 0).F) za1)],[]⟩
def zls (K:List PA→Prop) (zaa:(Sl Gate)) (zab:(Sl Mp)) (za1:(List (List Int))) (zaM:Int):Prop:=vc Try.prog G55 zbe (cdF Try.f55 [1,0,1,1,1,0,1,0]) (zaA 0 (sqK Try.prog G55 zbe (cdF Try.f55 [1,0,1,1,1,1]) (zcT (zbF Try.prog Try.f55 K)))) (ziq zaa zab za1 zaM)
def zLw (zaa:(Sl Gate)) (zab:(Sl Mp)) (zd7:Int):St:=⟨[(0,.one (.c (.p (.sl zaa.len 3 (fun i=>enc_55 (zaa.get i)))))),(5,.one (.c (.p (.sl zab.len 1 (fun i=>zbs (zab.get i)))))),(6,.one (.c (.p (.int .i64 zd7))))],[],[]⟩
def zof (K:List PA→Prop) (zaa:(Sl Gate)) (zab:(Sl Mp)) (zd7:Int):Prop:=vc Try.prog G55 zbe (cdF Try.f55 [1,0,1,1,1,1]) (zcT (zbF Try.prog Try.f55 K)) (zLw zaa zab zd7)
def zj7 (zaa:(Sl Gate)) (zab:(Sl Mp)) (zaJ:Int) (pv5:Int):St:=⟨[(0,.one (.c (.p (.sl zaa.len 3 (fun i=>enc_55 (zaa.get i)))))),(5,.one (.c (.p (.sl zab.len 1 (fun i=>zbs (zab.get i)))))),(6,.one (.c (.p (.int .i64 zaJ)))),(9,.one (.c (.p (.nils)))),(10,.one (.c (.p (.int .i64 pv5))))],[],[]⟩
def zlt (K:List PA→Prop) (zaa:(Sl Gate)) (zab:(Sl Mp)) (zaJ:Int) (pv5:Int):Prop:=vc Try.prog G55 zbe (cdF Try.f55 [1,0,1,1,1,1,1,1,0,1,0]) (zaA 2 (sqK Try.prog G55 zbe (cdF Try.f55 [1,0,1,1,1,1,1,1,1]) (zcT (zbF Try.prog Try.f55 K)))) (zj7 zaa zab zaJ pv5)
def zlu (zaa:(Sl Gate)) (zab:(Sl Mp)) (zaX:Int) (pv6:Int) (qv6:Int):St:=⟨[(0,.one (.c (.p (.sl zaa.len 3 (fun i=>enc_55 (zaa.get i)))))),(5,.one (.c (.p (.sl zab.len 1 (fun i=>zbs (zab.get i)))))),(6,.one (.c (.p (.int .i64 zaX)))),(9,.one (.c (.p (.nils)))),(10,.one (.c (.p (.int .i64 pv6)))),(11,.one (.c (.p (.int .i64 qv6))))],[],[]⟩
def zlv (K:List PA→Prop) (X5:St→Prop) (zaa:(Sl Gate)) (zab:(Sl Mp)) (zaX:Int) (pv6:Int) (qv6:Int):Prop:=vc Try.prog G55 zbe (cdF Try.f55 [1,0,1,1,1,1,1,1,0,1,0,0,1,0,0,1,0]) (zaA 4 (zaA 3 (sqK Try.prog G55 zbe (cdF Try.f55 [1,0,1,1,1,1,1,1,0,1,0,0,1,1]) (zb8 Try.prog zbe 12 X5 (zaA 2 (sqK Try.prog G55 zbe (cdF Try.f55 [1,0,1,1,1,1,1,1,1]) (zcT (zbF Try.prog Try.f55 K)))))))) (zlu zaa zab zaX pv6 qv6)
def zLx (zaa:(Sl Gate)) (zab:(Sl Mp)) (zd8:Int) (zsf:Nat) (zjn:Nat→List PV):St:=⟨[(0,.one (.c (.p (.sl zaa.len 3 (fun i=>enc_55 (zaa.get i)))))),(5,.one (.c (.p (.sl zab.len 1 (fun i=>zbs (zab.get i)))))),(6,.one (.c (.p (.int .i64 zd8)))),(9,.one (.c (.vec 72)))],[(72,.vec 3 1 8 zsf zjn)],[]⟩
def zlw (K:List PA→Prop) (zaa:(Sl Gate)) (zab:(Sl Mp)) (zd8:Int) (zsf:Nat) (zjn:Nat→List PV):Prop:=vc Try.prog G55 zbe (cdF Try.f55 [1,0,1,1,1,1,1,1,1]) (zcT (zbF Try.prog Try.f55 K)) (zLx zaa zab zd8 zsf zjn)
def zg4 (zaa:(Sl Gate)) (zab:(Sl Mp)) (za0:Int) (iv8:Int) (zf7:Nat) (zb4:Nat→List PV):St:=⟨[(0,.one (.c (.p (.sl zaa.len 3 (fun i=>enc_55 (zaa.get i)))))),(5,.one (.c (.p (.sl zab.len 1 (fun i=>zbs (zab.get i)))))),(6,.one (.c (.p (.int .i64 za0)))),(9,.one (.c (.vec 72))),(12,.one (.c (.p (.int .i64 iv8))))],[(72,.vec 3 1 8 zf7 zb4)],[]⟩
def zlx (K:List PA→Prop) (zaa:(Sl Gate)) (zab:(Sl Mp)) (za0:Int) (iv8:Int) (zf7:Nat) (zb4:Nat→List PV):Prop:=vc Try.prog G55 zbe (cdF Try.f55 [1,0,1,1,1,1,1,1,1,0,1,0]) (zaA 6 (sqK Try.prog G55 zbe (cdF Try.f55 [1,0,1,1,1,1,1,1,1,1]) (zcT (zbF Try.prog Try.f55 K)))) (zg4 zaa zab za0 iv8 zf7 zb4)
def zj8 (zaa:(Sl Gate)) (zab:(Sl Mp)) (zaK:Int) (iv9:Int) (pv9:Int) (qv9:Int) (rv9:Int) (zf8:Nat) (zcf:Nat→List PV):St:=⟨[(0,.one (.c (.p (.sl zaa.len 3 (fun i=>enc_55 (zaa.get i)))))),(5,.one (.c (.p (.sl zab.len 1 (fun i=>zbs (zab.get i)))))),(6,.one (.c (.p (.int .i64 zaK)))),(9,.one (.c (.vec 72))),(12,.one (.c (.p (.int .i64 iv9)))),(13,.one (.c (.p (.int .i64 pv9)))),(14,.one (.c (.p (.int .i64 qv9)))),(15,.one (.c (.p (.int .i64 rv9))))],[(72,.vec 3 1 8 zf8 zcf)],[]⟩
def zly (K:List PA→Prop) (X8:St→Prop) (zaa:(Sl Gate)) (zab:(Sl Mp)) (zaK:Int) (iv9:Int) (pv9:Int) (qv9:Int) (rv9:Int) (zf8:Nat) (zcf:Nat→List PV):Prop:=vc Try.prog G55 zbe (cdF Try.f55 [1,0,1,1,1,1,1,1,1,0,1,0,0,1,0,0,1,1,0]) (zaA 8 (zaA 7 (sqK Try.prog G55 zbe (cdF Try.f55 [1,0,1,1,1,1,1,1,1,0,1,0,0,1,1]) (zb8 Try.prog zbe 20 X8 (zaA 6 (sqK Try.prog G55 zbe (cdF Try.f55 [1,0,1,1,1,1,1,1,1,1]) (zcT (zbF Try.prog Try.f55 K)))))))) (zj8 zaa zab zaK iv9 pv9 qv9 rv9 zf8 zcf)
def zGt (zaa:(Sl Gate)) (zab:(Sl Mp)) (zct:Int) (zdW:Int) (zrd:Int) (zre:Int) (zmD:Int) (zdh:Bool) (zog:Nat) (zgK:Nat→List PV):St:=⟨[(0,.one (.c (.p (.sl zaa.len 3 (fun i=>enc_55 (zaa.get i)))))),(5,.one (.c (.p (.sl zab.len 1 (fun i=>zbs (zab.get i)))))),(6,.one (.c (.p (.int .i64 zct)))),(9,.one (.c (.vec 72))),(12,.one (.c (.p (.int .i64 zdW)))),(13,.one (.c (.p (.int .i64 zrd)))),(14,.one (.c (.p (.int .i64 zre)))),(15,.one (.c (.p (.int .i64 zmD)))),(138,.one (.c (.p (.bool zdh))))],[(72,.vec 3 1 8 zog zgK)],[]⟩
def zir (K:List PA→Prop) (X8:St→Prop) (X9:St→Prop) (zaa:(Sl Gate)) (zab:(Sl Mp)) (zct:Int) (zdW:Int) (zrd:Int) (zre:Int) (zmD:Int) (zdh:Bool) (zog:Nat) (zgK:Nat→List PV):Prop:=vc Try.prog G55 zbe (cdF Try.f55 [1,0,1,1,1,1,1,1,1,0,1,0,0,1,0,0,1,1,0,0,1,0,0,1]) (zaA 9 (sqK Try.prog G55 zbe (cdF Try.f55 [1,0,1,1,1,1,1,1,1,0,1,0,0,1,0,0,1,1,0,0,1,1]) (zb8 Try.prog zbe 24 X9 (zaA 8 (zaA 7 (sqK Try.prog G55 zbe (cdF Try.f55 [1,0,1,1,1,1,1,1,1,0,1,0,0,1,1]) (zb8 Try.prog zbe 20 X8 (zaA 6 (sqK Try.prog G55 zbe (cdF Try.f55 [1,0,1,1,1,1,1,1,1,1]) (zcT (zbF Try.prog Try.f55 K))))))))))) (zGt zaa zab zct zdW zrd zre zmD zdh zog zgK)
theorem zGu (zaa : (Sl Gate)) (K : List PA → Prop) :
  vcFun Try.prog G55 zbe 55 [.one (.sl zaa.len 3 (fun i=>enc_55 (zaa.get i)))] K =
  ((IsE enc_55 3 3 (fun i=>enc_55 (zaa.get i))∧(p92 zaa=true)) ∧
 (zoc K zaa (!(s92 zaa)))):=by kernel_rfl
theorem zGv (K : List PA → Prop) (zaa : (Sl Gate)) (zhu : Bool) :
  zoc K zaa zhu =
  (zcP zhu
 (K [.one (.nils),.one (.int .i64 (0:Int)),.one (.int .i64 (2:Int))])
 (zod K zaa)):=by kernel_rfl
theorem zGw (K : List PA → Prop) (zaa : (Sl Gate)) :
  zod K zaa =
  ((IsE enc_55 3 3 (fun i=>enc_55 (zaa.get i))∧(p93 zaa=true)) ∧
 (zoe K zaa ((s93 zaa).len) (fun i=>zbs ((s93 zaa).get i)))):=by kernel_rfl
theorem zGx (K : List PA → Prop) (zaa : (Sl Gate)) (zab : (Sl Mp)) :
  zoe K zaa zab.len (fun i=>zbs (zab.get i)) =
  (((0≤(0:Int)∧(0:Int) < (zab.len:Int))) ∧
 (zls K zaa zab ([]) (-1:Int))):=by kernel_rfl
def zqj (K:List PA→Prop) (X3:St→Prop) (zaa:(Sl Gate)) (zab:(Sl Mp)) (za1:(List (List Int))) (zaM:Int):Prop :=
  (zCr 2 ((zab.get 0).n) ((zab.get 0).F) →
 ((∀ c:List Int,c.length=2→((zab.get 0).F) c ≠ none→c∈za1) →
 (zof K zaa zab zaM))∧∀ k24_0 k24_1:Int,((zab.get 0).F) [k24_0,k24_1] ≠ none→[k24_0,k24_1] ∉ za1 →
 (zcP (decide (zaM < (0:Int)))
 (X3 (ziq zaa zab ([k24_0,k24_1] :: za1) (zdn (((zab.get 0).F) [k24_0,k24_1]) 0)))
 (zcP (decide ((zdn (((zab.get 0).F) [k24_0, k24_1]) 0) < zaM))
 (X3 (ziq zaa zab ([k24_0,k24_1] :: za1) (zdn (((zab.get 0).F) [k24_0,k24_1]) 0)))
 (X3 (ziq zaa zab ([k24_0,k24_1] :: za1) zaM)))))
theorem zsg (K : List PA → Prop) (X3 : St → Prop) (zaa : (Sl Gate)) (zab : (Sl Mp)) (za1 : (List (List Int))) (zaM : Int) :
  vc Try.prog G55 zbe (cd (cdF Try.f55 [1,0,1,1,1,0,1,0]) [0]) (zb8 Try.prog zbe 6 X3 (zaA 0 (sqK Try.prog G55 zbe (cdF Try.f55 [1,0,1,1,1,1]) (zcT (zbF Try.prog Try.f55 K))))) (ziq zaa zab za1 zaM) =
  zqj K X3 zaa zab za1 zaM:=by kernel_rfl
theorem zx6 (K : List PA → Prop) (zaa : (Sl Gate)) (zab : (Sl Mp)) (za1 : (List (List Int))) (zaM : Int)
  (h:∀ X3:St→Prop,(∀ (za1:(List (List Int))) (zaM:Int),zqj K X3 zaa zab za1 zaM→X3 (ziq zaa zab za1 zaM))→X3 (ziq zaa zab za1 zaM)) :
  zls K zaa zab za1 zaM:=by
  have e:zls K zaa zab za1 zaM=(∀ X:St→Prop,(∀ s,vc Try.prog G55 zbe (cd (cdF Try.f55 [1,0,1,1,1,0,1,0]) [0]) (zb8 Try.prog zbe 6 X (zaA 0 (sqK Try.prog G55 zbe (cdF Try.f55 [1,0,1,1,1,1]) (zcT (zbF Try.prog Try.f55 K))))) s→X s)→X (ziq zaa zab za1 zaM)):=by kernel_rfl
  refine zaI e ?_
  intro X hX
  refine h X ?_
  intro za1 zaM hs
  refine hX _ ?_
  have e2:=zsg K X zaa zab za1 zaM
  rw [e2]
  exact hs
theorem zGy (K : List PA → Prop) (zaa : (Sl Gate)) (zab : (Sl Mp)) (zd7 : Int) :
  zof K zaa zab zd7 =
  (((0≤(0:Int)∧(0:Int) < (zaa.len:Int))) ∧
 (zlt K zaa zab zd7 ((zaa.get 0).Low))):=by kernel_rfl
def zqk (K:List PA→Prop) (X5:St→Prop) (zaa:(Sl Gate)) (zab:(Sl Mp)) (zaJ:Int) (pv5:Int):Prop :=
  (((0≤(0:Int)∧(0:Int) < (zaa.len:Int))) ∧
 (zcP (decide (pv5 ≤ (zaa.get 0).High))
 (((0≤(1:Int)∧(1:Int) < (zaa.len:Int))) ∧
 (zlv K X5 zaa zab zaJ pv5 ((zaa.get 1).Low)))
 (zlw K zaa zab zaJ 0 (fun i=>zal ((fun _=>default) i)))))
theorem zsh (K : List PA → Prop) (X5 : St → Prop) (zaa : (Sl Gate)) (zab : (Sl Mp)) (zaJ : Int) (pv5 : Int) :
  vc Try.prog G55 zbe (cd (cdF Try.f55 [1,0,1,1,1,1,1,1,0,1,0]) [0]) (zb8 Try.prog zbe 12 X5 (zaA 2 (sqK Try.prog G55 zbe (cdF Try.f55 [1,0,1,1,1,1,1,1,1]) (zcT (zbF Try.prog Try.f55 K))))) (zj7 zaa zab zaJ pv5) =
  zqk K X5 zaa zab zaJ pv5:=by kernel_rfl
theorem zx7 (K : List PA → Prop) (zaa : (Sl Gate)) (zab : (Sl Mp)) (zaJ : Int) (pv5 : Int)
  (h:∀ X5:St→Prop,(∀ (zaJ:Int) (pv5:Int),zqk K X5 zaa zab zaJ pv5→X5 (zj7 zaa zab zaJ pv5))→X5 (zj7 zaa zab zaJ pv5)) :
  zlt K zaa zab zaJ pv5:=by
  have e:zlt K zaa zab zaJ pv5=(∀ X:St→Prop,(∀ s,vc Try.prog G55 zbe (cd (cdF Try.f55 [1,0,1,1,1,1,1,1,0,1,0]) [0]) (zb8 Try.prog zbe 12 X (zaA 2 (sqK Try.prog G55 zbe (cdF Try.f55 [1,0,1,1,1,1,1,1,1]) (zcT (zbF Try.prog Try.f55 K))))) s→X s)→X (zj7 zaa zab zaJ pv5)):=by kernel_rfl
  refine zaI e ?_
  intro X hX
  refine h X ?_
  intro zaJ pv5 hs
  refine hX _ ?_
  have e2:=zsh K X zaa zab zaJ pv5
  rw [e2]
  exact hs
def zql (K:List PA→Prop) (X5:St→Prop) (X6:St→Prop) (zaa:(Sl Gate)) (zab:(Sl Mp)) (zaX:Int) (pv6:Int) (qv6:Int):Prop :=
  (((0≤(1:Int)∧(1:Int) < (zaa.len:Int))) ∧
 (zcP (decide (qv6 ≤ (zaa.get 1).High))
 (((0≤(0:Int)∧(0:Int) < (zab.len:Int))) ∧
 (zcP ((zdn (((zab.get 0).F) [pv6, qv6]) 0) == zaX)
 (zlw K zaa zab zaX 2 (zec [(zal pv6),(zal qv6)]))
 (X6 (zlu zaa zab zaX pv6 (w64 (qv6+(1:Int)))))))
 (X5 (zj7 zaa zab zaX (w64 (pv6+(1:Int)))))))
theorem zsi (K : List PA → Prop) (X5 : St → Prop) (X6 : St → Prop) (zaa : (Sl Gate)) (zab : (Sl Mp)) (zaX : Int) (pv6 : Int) (qv6 : Int) :
  vc Try.prog G55 zbe (cd (cdF Try.f55 [1,0,1,1,1,1,1,1,0,1,0,0,1,0,0,1,0]) [0]) (zb8 Try.prog zbe 15 X6 (zaA 4 (zaA 3 (sqK Try.prog G55 zbe (cdF Try.f55 [1,0,1,1,1,1,1,1,0,1,0,0,1,1]) (zb8 Try.prog zbe 12 X5 (zaA 2 (sqK Try.prog G55 zbe (cdF Try.f55 [1,0,1,1,1,1,1,1,1]) (zcT (zbF Try.prog Try.f55 K))))))))) (zlu zaa zab zaX pv6 qv6) =
  zql K X5 X6 zaa zab zaX pv6 qv6:=by kernel_rfl
theorem zx8 (K : List PA → Prop) (X5 : St → Prop) (zaa : (Sl Gate)) (zab : (Sl Mp)) (zaX : Int) (pv6 : Int) (qv6 : Int)
  (h:∀ X6:St→Prop,(∀ (zaX:Int) (pv6:Int) (qv6:Int),zql K X5 X6 zaa zab zaX pv6 qv6→X6 (zlu zaa zab zaX pv6 qv6))→X6 (zlu zaa zab zaX pv6 qv6)) :
  zlv K X5 zaa zab zaX pv6 qv6:=by
  have e:zlv K X5 zaa zab zaX pv6 qv6=(∀ X:St→Prop,(∀ s,vc Try.prog G55 zbe (cd (cdF Try.f55 [1,0,1,1,1,1,1,1,0,1,0,0,1,0,0,1,0]) [0]) (zb8 Try.prog zbe 15 X (zaA 4 (zaA 3 (sqK Try.prog G55 zbe (cdF Try.f55 [1,0,1,1,1,1,1,1,0,1,0,0,1,1]) (zb8 Try.prog zbe 12 X5 (zaA 2 (sqK Try.prog G55 zbe (cdF Try.f55 [1,0,1,1,1,1,1,1,1]) (zcT (zbF Try.prog Try.f55 K))))))))) s→X s)→X (zlu zaa zab zaX pv6 qv6)):=by kernel_rfl
  refine zaI e ?_
  intro X hX
  refine h X ?_
  intro zaX pv6 qv6 hs
  refine hX _ ?_
  have e2:=zsi K X5 X zaa zab zaX pv6 qv6
  rw [e2]
  exact hs
theorem zGz (K : List PA → Prop) (zaa : (Sl Gate)) (zab : (Sl Mp)) (zd8 : Int) (zgX : (Sl Int)) :
  zlw K zaa zab zd8 zgX.len (fun i=>zal (zgX.get i)) =
  (zlx K zaa zab zd8 (2:Int) zgX.len (fun i=>zal (zgX.get i))):=by kernel_rfl
def zqm (K:List PA→Prop) (X8:St→Prop) (zaa:(Sl Gate)) (zab:(Sl Mp)) (za0:Int) (iv8:Int) (zbc:(Sl Int)):Prop :=
  (zcP (decide (iv8 < (zaa.len : Int)))
 (((0≤(w64 (iv8 - (2:Int)))∧(w64 (iv8 - (2:Int))) < (zbc.len:Int))) ∧
 ((((w64 (iv8 - (2:Int))).toNat < zbc.len)) ∧
 (((0≤(w64 (iv8 - (1:Int)))∧(w64 (iv8 - (1:Int))) < (zbc.len:Int))) ∧
 ((((w64 (iv8 - (1:Int))).toNat < zbc.len)) ∧
 (((0≤iv8∧iv8 < (zaa.len:Int))) ∧
 (zly K X8 zaa zab za0 iv8 (zbc.get ((w64 (iv8 - (2:Int))).toNat)) (zbc.get ((w64 (iv8 - (1:Int))).toNat)) ((zaa.get iv8.toNat).Low) zbc.len (fun i=>zal (zbc.get i))))))))
 (K [.one (.sl zbc.len 1 (fun i=>zal (zbc.get i))),.one (.int .i64 za0),.one (.int .i64 (0:Int))]))
theorem zsj (K : List PA → Prop) (X8 : St → Prop) (zaa : (Sl Gate)) (zab : (Sl Mp)) (za0 : Int) (iv8 : Int) (zbc : (Sl Int)) :
  vc Try.prog G55 zbe (cd (cdF Try.f55 [1,0,1,1,1,1,1,1,1,0,1,0]) [0]) (zb8 Try.prog zbe 20 X8 (zaA 6 (sqK Try.prog G55 zbe (cdF Try.f55 [1,0,1,1,1,1,1,1,1,1]) (zcT (zbF Try.prog Try.f55 K))))) (zg4 zaa zab za0 iv8 zbc.len (fun i=>zal (zbc.get i))) =
  zqm K X8 zaa zab za0 iv8 zbc:=by kernel_rfl
theorem zx9 (K : List PA → Prop) (zaa : (Sl Gate)) (zab : (Sl Mp)) (za0 : Int) (iv8 : Int) (zf7 : Nat) (zb4 : Nat → List PV)
  (h:∀ X8:St→Prop,(∀ (za0:Int) (iv8:Int) (zbc:(Sl Int)),zqm K X8 zaa zab za0 iv8 zbc→X8 (zg4 zaa zab za0 iv8 zbc.len (fun i=>zal (zbc.get i))))→X8 (zg4 zaa zab za0 iv8 zf7 zb4)) :
  zlx K zaa zab za0 iv8 zf7 zb4:=by
  have e:zlx K zaa zab za0 iv8 zf7 zb4=(∀ X:St→Prop,(∀ s,vc Try.prog G55 zbe (cd (cdF Try.f55 [1,0,1,1,1,1,1,1,1,0,1,0]) [0]) (zb8 Try.prog zbe 20 X (zaA 6 (sqK Try.prog G55 zbe (cdF Try.f55 [1,0,1,1,1,1,1,1,1,1]) (zcT (zbF Try.prog Try.f55 K))))) s→X s)→X (zg4 zaa zab za0 iv8 zf7 zb4)):=by kernel_rfl
  refine zaI e ?_
  intro X hX
  refine h X ?_
  intro za0 iv8 zbc hs
  refine hX _ ?_
  have e2:=zsj K X zaa zab za0 iv8 zbc
  rw [e2]
  exact hs
def zqn (K:List PA→Prop) (X8:St→Prop) (X9:St→Prop) (zaa:(Sl Gate)) (zab:(Sl Mp)) (zaK:Int) (iv9:Int) (pv9:Int) (qv9:Int) (rv9:Int) (zbE:(Sl Int)):Prop :=
  (((0≤iv9∧iv9 < (zaa.len:Int))) ∧
 (zcP (decide (rv9 ≤ (zaa.get iv9.toNat).High))
 (((0≤(w64 (iv9 - (2:Int)))∧(w64 (iv9 - (2:Int))) < (zaa.len:Int))) ∧
 (((0≤(w64 (iv9 - (1:Int)))∧(w64 (iv9 - (1:Int))) < (zaa.len:Int))) ∧
 (((0≤iv9∧iv9 < (zaa.len:Int))) ∧
 (((p85 ((zaa.get ((w64 (iv9 - (2:Int))).toNat)).Z) ((zaa.get ((w64 (iv9 - (1:Int))).toNat)).Z) ((zaa.get iv9.toNat).Z) pv9 qv9 rv9=true)) ∧
 (zcP (decide ((s85 ((zaa.get ((w64 (iv9 - (2:Int))).toNat)).Z) ((zaa.get ((w64 (iv9 - (1:Int))).toNat)).Z) ((zaa.get iv9.toNat).Z) pv9 qv9 rv9) ≤ zaK))
 (((0≤(w64 (iv9 - (1:Int)))∧(w64 (iv9 - (1:Int))) < (zab.len:Int))) ∧
 (zir K X8 X9 zaa zab zaK iv9 pv9 qv9 rv9 (decide ((zdn (((zab.get ((w64 (iv9 - (1:Int))).toNat)).F) [qv9,rv9]) 0)≤zaK)) zbE.len (fun i=>zal (zbE.get i))))
 (zir K X8 X9 zaa zab zaK iv9 pv9 qv9 rv9 false zbE.len (fun i=>zal (zbE.get i))))))))
 (X8 (zg4 zaa zab zaK (w64 (iv9+(1:Int))) zbE.len (fun i=>zal (zbE.get i))))))
theorem zsk (K : List PA → Prop) (X8 : St → Prop) (X9 : St → Prop) (zaa : (Sl Gate)) (zab : (Sl Mp)) (zaK : Int) (iv9 : Int) (pv9 : Int) (qv9 : Int) (rv9 : Int) (zbE : (Sl Int)) :
  vc Try.prog G55 zbe (cd (cdF Try.f55 [1,0,1,1,1,1,1,1,1,0,1,0,0,1,0,0,1,1,0]) [0]) (zb8 Try.prog zbe 24 X9 (zaA 8 (zaA 7 (sqK Try.prog G55 zbe (cdF Try.f55 [1,0,1,1,1,1,1,1,1,0,1,0,0,1,1]) (zb8 Try.prog zbe 20 X8 (zaA 6 (sqK Try.prog G55 zbe (cdF Try.f55 [1,0,1,1,1,1,1,1,1,1]) (zcT (zbF Try.prog Try.f55 K))))))))) (zj8 zaa zab zaK iv9 pv9 qv9 rv9 zbE.len (fun i=>zal (zbE.get i))) =
  zqn K X8 X9 zaa zab zaK iv9 pv9 qv9 rv9 zbE:=by kernel_rfl
theorem zya (K : List PA → Prop) (X8 : St → Prop) (zaa : (Sl Gate)) (zab : (Sl Mp)) (zaK : Int) (iv9 : Int) (pv9 : Int) (qv9 : Int) (rv9 : Int) (zf8 : Nat) (zcf : Nat → List PV)
  (h:∀ X9:St→Prop,(∀ (zaK:Int) (iv9:Int) (pv9:Int) (qv9:Int) (rv9:Int) (zbE:(Sl Int)),zqn K X8 X9 zaa zab zaK iv9 pv9 qv9 rv9 zbE→X9 (zj8 zaa zab zaK iv9 pv9 qv9 rv9 zbE.len (fun i=>zal (zbE.get i))))→X9 (zj8 zaa zab zaK iv9 pv9 qv9 rv9 zf8 zcf)) :
  zly K X8 zaa zab zaK iv9 pv9 qv9 rv9 zf8 zcf:=by
  have e:zly K X8 zaa zab zaK iv9 pv9 qv9 rv9 zf8 zcf=(∀ X:St→Prop,(∀ s,vc Try.prog G55 zbe (cd (cdF Try.f55 [1,0,1,1,1,1,1,1,1,0,1,0,0,1,0,0,1,1,0]) [0]) (zb8 Try.prog zbe 24 X (zaA 8 (zaA 7 (sqK Try.prog G55 zbe (cdF Try.f55 [1,0,1,1,1,1,1,1,1,0,1,0,0,1,1]) (zb8 Try.prog zbe 20 X8 (zaA 6 (sqK Try.prog G55 zbe (cdF Try.f55 [1,0,1,1,1,1,1,1,1,1]) (zcT (zbF Try.prog Try.f55 K))))))))) s→X s)→X (zj8 zaa zab zaK iv9 pv9 qv9 rv9 zf8 zcf)):=by kernel_rfl
  refine zaI e ?_
  intro X hX
  refine h X ?_
  intro zaK iv9 pv9 qv9 rv9 zbE hs
  refine hX _ ?_
  have e2:=zsk K X8 X zaa zab zaK iv9 pv9 qv9 rv9 zbE
  rw [e2]
  exact hs
theorem zDc (K : List PA → Prop) (X8 : St → Prop) (X9 : St → Prop) (zaa : (Sl Gate)) (zab : (Sl Mp)) (zct : Int) (zdW : Int) (zrd : Int) (zre : Int) (zmD : Int) (zdh : Bool) (zbP : (Sl Int)) :
  zir K X8 X9 zaa zab zct zdW zrd zre zmD zdh zbP.len (fun i=>zal (zbP.get i)) =
  (zcP zdh
 ((((zbP.len+1) * 8≤140737488355328∧zbP.len+1≤9223372036854775807)) ∧
 (X8 (zg4 zaa zab zct (w64 (zdW+(1:Int))) (zbP.len+1) (appG zbP.len (fun i=>zal (zbP.get i)) (fun _=>(zal zmD))))))
 (X9 (zj8 zaa zab zct zdW zrd zre (w64 (zmD+(1:Int))) zbP.len (fun i=>zal (zbP.get i))))):=by kernel_rfl
abbrev e55 (r:((Sl Int)×Int×Int)):List PA:=[.one (.sl r.1.len 1 (fun i=>zal (r.1.get i))),.one (.int .i64 r.2.1),.one (.int .i64 r.2.2)]
attribute [irreducible] zoc zod zoe zls zof zlt zlv zlw zlx zly zir
def zis (S8:Int→Int→(Sl Int)→((Sl Int)×Int×Int)) (S9:Int→Int→Int→Int→Int→(Sl Int)→((Sl Int)×Int×Int)) (zaa:(Sl Gate)) (zab:(Sl Mp)) (zct:Int) (zdW:Int) (zrd:Int) (zre:Int) (zmD:Int) (zdh:Bool) (zbP:(Sl Int)):((Sl Int)×Int×Int) :=
  (cond zdh
 (S8 zct (w64 (zdW+(1:Int))) (⟨(zbP.len+1),(zdN zbP.len zbP.get (fun _=>zmD))⟩:Sl Int))
 (S9 zct zdW zrd zre (w64 (zmD+(1:Int))) zbP))
def zit (P8:Int→Int→(Sl Int)→Bool) (P9:Int→Int→Int→Int→Int→(Sl Int)→Bool) (zaa:(Sl Gate)) (zab:(Sl Mp)) (zct:Int) (zdW:Int) (zrd:Int) (zre:Int) (zmD:Int) (zdh:Bool) (zbP:(Sl Int)):Bool :=
  (cond zdh
 (decide (((zbP.len+1) * 8≤140737488355328∧zbP.len+1≤9223372036854775807)) &&
 (P8 zct (w64 (zdW+(1:Int))) (⟨(zbP.len+1),(zdN zbP.len zbP.get (fun _=>zmD))⟩:Sl Int)))
 (P9 zct zdW zrd zre (w64 (zmD+(1:Int))) zbP))
theorem zuC (K : List PA → Prop) (zaa : (Sl Gate)) (zab : (Sl Mp))
  (X8:St→Prop) (P8:Int→Int→(Sl Int)→Bool) (S8:Int→Int→(Sl Int)→((Sl Int)×Int×Int))
  (hX8:∀ (za0:Int) (iv8:Int) (zbc:(Sl Int)) (zb4:Nat→List PV) (zhv:zb4=fun i=>zal (zbc.get i)),P8 za0 iv8 zbc=true→K (e55 (S8 za0 iv8 zbc))→X8 (zg4 zaa zab za0 iv8 zbc.len zb4))
  (X9:St→Prop) (P9:Int→Int→Int→Int→Int→(Sl Int)→Bool) (S9:Int→Int→Int→Int→Int→(Sl Int)→((Sl Int)×Int×Int))
  (hX9:∀ (zaK:Int) (iv9:Int) (pv9:Int) (qv9:Int) (rv9:Int) (zbE:(Sl Int)) (zcf:Nat→List PV) (zjo:zcf=fun i=>zal (zbE.get i)),P9 zaK iv9 pv9 qv9 rv9 zbE=true→K (e55 (S9 zaK iv9 pv9 qv9 rv9 zbE))→X9 (zj8 zaa zab zaK iv9 pv9 qv9 rv9 zbE.len zcf)) (zct:Int) (zdW:Int) (zrd:Int) (zre:Int) (zmD:Int) (zdh:Bool) (zbP:(Sl Int)) (zgK:Nat→List PV) (zDd:zgK=fun i=>zal (zbP.get i)) (hs:zit P8 P9 zaa zab zct zdW zrd zre zmD zdh zbP=true) (hk:K (e55 (zis S8 S9 zaa zab zct zdW zrd zre zmD zdh zbP))):zir (Wk K) X8 X9 zaa zab zct zdW zrd zre zmD zdh zbP.len zgK:=by
  subst zDd
  refine zaI (zDc (Wk K) X8 X9 zaa zab zct zdW zrd zre zmD zdh zbP) ?_
  unfold zit at hs
  unfold zis at hk
  exact (zbr (K := fun r => K (e55 r))
 (fun hs hk=>(zaE hs fun hc hs=>⟨hc,(hX8 zct (w64 (zdW+(1:Int))) (⟨(zbP.len+1),(zdN zbP.len zbP.get (fun _=>zmD))⟩:Sl Int) (appG zbP.len (fun i=>zal (zbP.get i)) (fun _=>(zal zmD))) (zf4 (enc:=zal) (f:=zbP.get) (h:=(fun _=>zmD)) rfl rfl) hs hk)⟩))
 (fun hs hk=>(hX9 zct zdW zrd zre (w64 (zmD+(1:Int))) zbP (fun i=>zal (zbP.get i)) rfl hs hk)) hs hk)
def zhw (S8:Int→Int→(Sl Int)→((Sl Int)×Int×Int)) (zaa:(Sl Gate)) (zab:(Sl Mp)) (S9:Int→Int→Int→Int→Int→(Sl Int)→((Sl Int)×Int×Int)) (zaK:Int) (iv9:Int) (pv9:Int) (qv9:Int) (rv9:Int) (zbE:(Sl Int)):((Sl Int)×Int×Int) :=
  (cond (decide (rv9 ≤ (zaa.get iv9.toNat).High))
 (cond (decide ((s85 ((zaa.get ((w64 (iv9 - (2:Int))).toNat)).Z) ((zaa.get ((w64 (iv9 - (1:Int))).toNat)).Z) ((zaa.get iv9.toNat).Z) pv9 qv9 rv9) ≤ zaK))
 (zis S8 S9 zaa zab zaK iv9 pv9 qv9 rv9 (decide ((zdn (((zab.get ((w64 (iv9 - (1:Int))).toNat)).F) [qv9,rv9]) 0)≤zaK)) zbE)
 (zis S8 S9 zaa zab zaK iv9 pv9 qv9 rv9 false zbE))
 (S8 zaK (w64 (iv9+(1:Int))) zbE))
def zhx (P8:Int→Int→(Sl Int)→Bool) (zaa:(Sl Gate)) (zab:(Sl Mp)) (P9:Int→Int→Int→Int→Int→(Sl Int)→Bool) (zaK:Int) (iv9:Int) (pv9:Int) (qv9:Int) (rv9:Int) (zbE:(Sl Int)):Bool :=
  (decide ((0≤iv9∧iv9 < (zaa.len:Int))) &&
 (cond (decide (rv9 ≤ (zaa.get iv9.toNat).High))
 (decide ((0≤(w64 (iv9 - (2:Int)))∧(w64 (iv9 - (2:Int))) < (zaa.len:Int))) &&
 (decide ((0≤(w64 (iv9 - (1:Int)))∧(w64 (iv9 - (1:Int))) < (zaa.len:Int))) &&
 (decide ((0≤iv9∧iv9 < (zaa.len:Int))) &&
 (decide ((p85 ((zaa.get ((w64 (iv9 - (2:Int))).toNat)).Z) ((zaa.get ((w64 (iv9 - (1:Int))).toNat)).Z) ((zaa.get iv9.toNat).Z) pv9 qv9 rv9=true)) &&
 (cond (decide ((s85 ((zaa.get ((w64 (iv9 - (2:Int))).toNat)).Z) ((zaa.get ((w64 (iv9 - (1:Int))).toNat)).Z) ((zaa.get iv9.toNat).Z) pv9 qv9 rv9) ≤ zaK))
 (decide ((0≤(w64 (iv9 - (1:Int)))∧(w64 (iv9 - (1:Int))) < (zab.len:Int))) &&
 (zit P8 P9 zaa zab zaK iv9 pv9 qv9 rv9 (decide ((zdn (((zab.get ((w64 (iv9 - (1:Int))).toNat)).F) [qv9,rv9]) 0)≤zaK)) zbE))
 (zit P8 P9 zaa zab zaK iv9 pv9 qv9 rv9 false zbE))))))
 (P8 zaK (w64 (iv9+(1:Int))) zbE)))
def zf9 (S8 : Int → Int → (Sl Int) → ((Sl Int) × Int × Int)) (zaa : (Sl Gate)) (zab : (Sl Mp)) : Nat → Int → Int → Int → Int → Int → (Sl Int) → ((Sl Int) × Int × Int)
  | 0=>fun _ _ _ _ _ _=>default
  | k+1=>zhw S8 zaa zab (zf9 S8 zaa zab k)
def zga (P8 : Int → Int → (Sl Int) → Bool) (zaa : (Sl Gate)) (zab : (Sl Mp)) : Nat → Int → Int → Int → Int → Int → (Sl Int) → Bool
  | 0=>fun _ _ _ _ _ _=>false
  | k+1=>zhx P8 zaa zab (zga P8 zaa zab k)
def zsl (S8:Int→Int→(Sl Int)→((Sl Int)×Int×Int)) (zaa:(Sl Gate)) (zab:(Sl Mp)) (zaK:Int) (iv9:Int) (pv9:Int) (qv9:Int) (rv9:Int) (zbE:(Sl Int)):((Sl Int)×Int×Int):=zf9 S8 zaa zab Fuel zaK iv9 pv9 qv9 rv9 zbE
def zsm (P8:Int→Int→(Sl Int)→Bool) (zaa:(Sl Gate)) (zab:(Sl Mp)) (zaK:Int) (iv9:Int) (pv9:Int) (qv9:Int) (rv9:Int) (zbE:(Sl Int)):Bool:=zga P8 zaa zab Fuel zaK iv9 pv9 qv9 rv9 zbE
theorem zGA (K : List PA → Prop) (zaa : (Sl Gate)) (zab : (Sl Mp))
  (X8:St→Prop) (P8:Int→Int→(Sl Int)→Bool) (S8:Int→Int→(Sl Int)→((Sl Int)×Int×Int))
  (hX8:∀ (za0:Int) (iv8:Int) (zbc:(Sl Int)) (zb4:Nat→List PV) (zhv:zb4=fun i=>zal (zbc.get i)),P8 za0 iv8 zbc=true→K (e55 (S8 za0 iv8 zbc))→X8 (zg4 zaa zab za0 iv8 zbc.len zb4)) (zaK:Int) (iv9:Int) (pv9:Int) (qv9:Int) (rv9:Int) (zbE:(Sl Int)) (zcf:Nat→List PV) (zjo:zcf=fun i=>zal (zbE.get i)) (hs:zsm P8 zaa zab zaK iv9 pv9 qv9 rv9 zbE=true) (hk:K (e55 (zsl S8 zaa zab zaK iv9 pv9 qv9 rv9 zbE))):zly (Wk K) X8 zaa zab zaK iv9 pv9 qv9 rv9 zbE.len zcf:=by
  refine zya (Wk K) X8 zaa zab zaK iv9 pv9 qv9 rv9 zbE.len zcf ?_
  intro X9 hstep
  have key:∀ (k:Nat) (zaK:Int) (iv9:Int) (pv9:Int) (qv9:Int) (rv9:Int) (zbE:(Sl Int)) (zcf:Nat→List PV) (zjo:zcf=fun i=>zal (zbE.get i)),zga P8 zaa zab k zaK iv9 pv9 qv9 rv9 zbE=true→K (e55 (zf9 S8 zaa zab k zaK iv9 pv9 qv9 rv9 zbE))→X9 (zj8 zaa zab zaK iv9 pv9 qv9 rv9 zbE.len zcf):=by
    intro k
    induction k with
    | zero=>intro zaK iv9 pv9 qv9 rv9 zbE zcf zjo hs;exact absurd hs Bool.false_ne_true
    | succ k ih =>
      intro zaK iv9 pv9 qv9 rv9 zbE zcf zjo hs hk
      subst zjo
      refine hstep zaK iv9 pv9 qv9 rv9 zbE ?_
      have hs:zhx P8 zaa zab (zga P8 zaa zab k) zaK iv9 pv9 qv9 rv9 zbE=true:=hs
      have hk:K (e55 (zhw S8 zaa zab (zf9 S8 zaa zab k) zaK iv9 pv9 qv9 rv9 zbE)):=hk
      unfold zhx at hs
      unfold zhw at hk
      generalize zf9 S8 zaa zab k=S9 at hk ih
      generalize zga P8 zaa zab k=P9 at hs ih
      have hX9:=ih
      exact (zaE hs fun hc hs => ⟨hc, (zbr (K := fun r => K (e55 r))
 (fun hs hk => (zaE hs fun hc hs => ⟨hc, (zaE hs fun hc hs => ⟨hc, (zaE hs fun hc hs => ⟨hc, (zaE hs fun hc hs => ⟨hc, (zbr (K := fun r => K (e55 r))
 (fun hs hk=>(zaE hs fun hc hs=>⟨hc,(zuC K zaa zab X8 P8 S8 hX8 X9 P9 S9 hX9 zaK iv9 pv9 qv9 rv9 (decide ((zdn (((zab.get ((w64 (iv9 - (1:Int))).toNat)).F) [qv9,rv9]) 0)≤zaK)) zbE (fun i=>zal (zbE.get i)) rfl hs hk)⟩))
 (fun hs hk=>(zuC K zaa zab X8 P8 S8 hX8 X9 P9 S9 hX9 zaK iv9 pv9 qv9 rv9 false zbE (fun i=>zal (zbE.get i)) rfl hs hk)) hs hk)⟩)⟩)⟩)⟩))
 (fun hs hk=>(hX8 zaK (w64 (iv9+(1:Int))) zbE (fun i=>zal (zbE.get i)) rfl hs hk)) hs hk)⟩)
  exact key _ zaK iv9 pv9 qv9 rv9 zbE zcf zjo hs hk
def zgb (zaa:(Sl Gate)) (zab:(Sl Mp)) (S8:Int→Int→(Sl Int)→((Sl Int)×Int×Int)) (za0:Int) (iv8:Int) (zbc:(Sl Int)):((Sl Int)×Int×Int) :=
  (cond (decide (iv8 < (zaa.len : Int)))
 (zsl S8 zaa zab za0 iv8 (zbc.get ((w64 (iv8 - (2:Int))).toNat)) (zbc.get ((w64 (iv8 - (1:Int))).toNat)) ((zaa.get iv8.toNat).Low) zbc)
 (zbc,za0,(0:Int)))
def zgc (zaa:(Sl Gate)) (zab:(Sl Mp)) (P8:Int→Int→(Sl Int)→Bool) (za0:Int) (iv8:Int) (zbc:(Sl Int)):Bool :=
  (cond (decide (iv8 < (zaa.len : Int)))
 (decide ((0≤(w64 (iv8 - (2:Int)))∧(w64 (iv8 - (2:Int))) < (zbc.len:Int))) &&
 (decide (((w64 (iv8 - (2:Int))).toNat < zbc.len)) &&
 (decide ((0≤(w64 (iv8 - (1:Int)))∧(w64 (iv8 - (1:Int))) < (zbc.len:Int))) &&
 (decide (((w64 (iv8 - (1:Int))).toNat < zbc.len)) &&
 (decide ((0≤iv8∧iv8 < (zaa.len:Int))) &&
 (zsm P8 zaa zab za0 iv8 (zbc.get ((w64 (iv8 - (2:Int))).toNat)) (zbc.get ((w64 (iv8 - (1:Int))).toNat)) ((zaa.get iv8.toNat).Low) zbc))))))
 true)
def zex (zaa : (Sl Gate)) (zab : (Sl Mp)) : Nat → Int → Int → (Sl Int) → ((Sl Int) × Int × Int)
  | 0=>fun _ _ _=>default
  | k+1=>zgb zaa zab (zex zaa zab k)
def zey (zaa : (Sl Gate)) (zab : (Sl Mp)) : Nat → Int → Int → (Sl Int) → Bool
  | 0=>fun _ _ _=>false
  | k+1=>zgc zaa zab (zey zaa zab k)
def zyb (zaa:(Sl Gate)) (zab:(Sl Mp)) (za0:Int) (iv8:Int) (zbc:(Sl Int)):((Sl Int)×Int×Int):=zex zaa zab Fuel za0 iv8 zbc
def zyc (zaa:(Sl Gate)) (zab:(Sl Mp)) (za0:Int) (iv8:Int) (zbc:(Sl Int)):Bool:=zey zaa zab Fuel za0 iv8 zbc
theorem zGB (K:List PA→Prop) (zaa:(Sl Gate)) (zab:(Sl Mp)) (za0:Int) (iv8:Int) (zbc:(Sl Int)) (zb4:Nat→List PV) (zhv:zb4=fun i=>zal (zbc.get i)) (hs:zyc zaa zab za0 iv8 zbc=true) (hk:K (e55 (zyb zaa zab za0 iv8 zbc))):zlx (Wk K) zaa zab za0 iv8 zbc.len zb4:=by
  refine zx9 (Wk K) zaa zab za0 iv8 zbc.len zb4 ?_
  intro X8 hstep
  have key:∀ (k:Nat) (za0:Int) (iv8:Int) (zbc:(Sl Int)) (zb4:Nat→List PV) (zhv:zb4=fun i=>zal (zbc.get i)),zey zaa zab k za0 iv8 zbc=true→K (e55 (zex zaa zab k za0 iv8 zbc))→X8 (zg4 zaa zab za0 iv8 zbc.len zb4):=by
    intro k
    induction k with
    | zero=>intro za0 iv8 zbc zb4 zhv hs;exact absurd hs Bool.false_ne_true
    | succ k ih =>
      intro za0 iv8 zbc zb4 zhv hs hk
      subst zhv
      refine hstep za0 iv8 zbc ?_
      have hs:zgc zaa zab (zey zaa zab k) za0 iv8 zbc=true:=hs
      have hk:K (e55 (zgb zaa zab (zex zaa zab k) za0 iv8 zbc)):=hk
      unfold zgc at hs
      unfold zgb at hk
      generalize zex zaa zab k=S8 at hk ih
      generalize zey zaa zab k=P8 at hs ih
      have hX8:=ih
      exact (zbr (K := fun r => K (e55 r))
 (fun hs hk=>(zaE hs fun hc hs=>⟨hc,(zaE hs fun hc hs=>⟨hc,(zaE hs fun hc hs=>⟨hc,(zaE hs fun hc hs=>⟨hc,(zaE hs fun hc hs=>⟨hc,(zGA K zaa zab X8 P8 S8 hX8 za0 iv8 (zbc.get ((w64 (iv8 - (2:Int))).toNat)) (zbc.get ((w64 (iv8 - (1:Int))).toNat)) ((zaa.get iv8.toNat).Low) zbc (fun i=>zal (zbc.get i)) rfl hs hk)⟩)⟩)⟩)⟩)⟩))
 (fun hs hk=>(zdI hk)) hs hk)
  exact key _ za0 iv8 zbc zb4 zhv hs hk
def zfv (zaa:(Sl Gate)) (zab:(Sl Mp)) (zd8:Int) (zgX:(Sl Int)):((Sl Int)×Int×Int) :=
  (zyb zaa zab zd8 (2:Int) zgX)
def zfw (zaa:(Sl Gate)) (zab:(Sl Mp)) (zd8:Int) (zgX:(Sl Int)):Bool :=
  (zyc zaa zab zd8 (2:Int) zgX)
theorem zyd (K:List PA→Prop) (zaa:(Sl Gate)) (zab:(Sl Mp)) (zd8:Int) (zgX:(Sl Int)) (zjn:Nat→List PV) (zGC:zjn=fun i=>zal (zgX.get i)) (hs:zfw zaa zab zd8 zgX=true) (hk:K (e55 (zfv zaa zab zd8 zgX))):zlw (Wk K) zaa zab zd8 zgX.len zjn:=by
  subst zGC
  refine zaI (zGz (Wk K) zaa zab zd8 zgX) ?_
  unfold zfw at hs
  unfold zfv at hk
  exact (zGB K zaa zab zd8 (2:Int) zgX (fun i=>zal (zgX.get i)) rfl hs hk)
def zhy (S5:Int→Int→((Sl Int)×Int×Int)) (zaa:(Sl Gate)) (zab:(Sl Mp)) (S6:Int→Int→Int→((Sl Int)×Int×Int)) (zaX:Int) (pv6:Int) (qv6:Int):((Sl Int)×Int×Int) :=
  (cond (decide (qv6 ≤ (zaa.get 1).High))
 (cond ((zdn (((zab.get 0).F) [pv6, qv6]) 0) == zaX)
 (zfv zaa zab zaX (⟨2,(zfY pv6 [pv6,qv6])⟩:Sl Int))
 (S6 zaX pv6 (w64 (qv6+(1:Int)))))
 (S5 zaX (w64 (pv6+(1:Int)))))
def zhz (P5:Int→Int→Bool) (zaa:(Sl Gate)) (zab:(Sl Mp)) (P6:Int→Int→Int→Bool) (zaX:Int) (pv6:Int) (qv6:Int):Bool :=
  (decide ((0≤(1:Int)∧(1:Int) < (zaa.len:Int))) &&
 (cond (decide (qv6 ≤ (zaa.get 1).High))
 (decide ((0≤(0:Int)∧(0:Int) < (zab.len:Int))) &&
 (cond ((zdn (((zab.get 0).F) [pv6, qv6]) 0) == zaX)
 (zfw zaa zab zaX (⟨2,(zfY pv6 [pv6,qv6])⟩:Sl Int))
 (P6 zaX pv6 (w64 (qv6+(1:Int))))))
 (P5 zaX (w64 (pv6+(1:Int))))))
def zgd (S5 : Int → Int → ((Sl Int) × Int × Int)) (zaa : (Sl Gate)) (zab : (Sl Mp)) : Nat → Int → Int → Int → ((Sl Int) × Int × Int)
  | 0=>fun _ _ _=>default
  | k+1=>zhy S5 zaa zab (zgd S5 zaa zab k)
def zge (P5 : Int → Int → Bool) (zaa : (Sl Gate)) (zab : (Sl Mp)) : Nat → Int → Int → Int → Bool
  | 0=>fun _ _ _=>false
  | k+1=>zhz P5 zaa zab (zge P5 zaa zab k)
def zoh (S5:Int→Int→((Sl Int)×Int×Int)) (zaa:(Sl Gate)) (zab:(Sl Mp)) (zaX:Int) (pv6:Int) (qv6:Int):((Sl Int)×Int×Int):=zgd S5 zaa zab Fuel zaX pv6 qv6
def zoi (P5:Int→Int→Bool) (zaa:(Sl Gate)) (zab:(Sl Mp)) (zaX:Int) (pv6:Int) (qv6:Int):Bool:=zge P5 zaa zab Fuel zaX pv6 qv6
theorem zGD (K : List PA → Prop) (zaa : (Sl Gate)) (zab : (Sl Mp))
  (X5:St→Prop) (P5:Int→Int→Bool) (S5:Int→Int→((Sl Int)×Int×Int))
  (hX5:∀ (zaJ:Int) (pv5:Int),P5 zaJ pv5=true→K (e55 (S5 zaJ pv5))→X5 (zj7 zaa zab zaJ pv5)) (zaX:Int) (pv6:Int) (qv6:Int) (hs:zoi P5 zaa zab zaX pv6 qv6=true) (hk:K (e55 (zoh S5 zaa zab zaX pv6 qv6))):zlv (Wk K) X5 zaa zab zaX pv6 qv6:=by
  refine zx8 (Wk K) X5 zaa zab zaX pv6 qv6 ?_
  intro X6 hstep
  have key:∀ (k:Nat) (zaX:Int) (pv6:Int) (qv6:Int),zge P5 zaa zab k zaX pv6 qv6=true→K (e55 (zgd S5 zaa zab k zaX pv6 qv6))→X6 (zlu zaa zab zaX pv6 qv6):=by
    intro k
    induction k with
    | zero=>intro zaX pv6 qv6 hs;exact absurd hs Bool.false_ne_true
    | succ k ih =>
      intro zaX pv6 qv6 hs hk
      refine hstep zaX pv6 qv6 ?_
      have hs:zhz P5 zaa zab (zge P5 zaa zab k) zaX pv6 qv6=true:=hs
      have hk:K (e55 (zhy S5 zaa zab (zgd S5 zaa zab k) zaX pv6 qv6)):=hk
      unfold zhz at hs
      unfold zhy at hk
      generalize zgd S5 zaa zab k=S6 at hk ih
      generalize zge P5 zaa zab k=P6 at hs ih
      have hX6:=ih
      exact (zaE hs fun hc hs => ⟨hc, (zbr (K := fun r => K (e55 r))
 (fun hs hk => (zaE hs fun hc hs => ⟨hc, (zbr (K := fun r => K (e55 r))
 (fun hs hk=>(zyd K zaa zab zaX (⟨2,(zfY pv6 [pv6,qv6])⟩:Sl Int) (zec [(zal pv6),(zal qv6)]) (zfn (enc:=zal) (x:=pv6) (y:=qv6) (r:=[])) hs hk))
 (fun hs hk=>(hX6 zaX pv6 (w64 (qv6+(1:Int))) hs hk)) hs hk)⟩))
 (fun hs hk=>(hX5 zaX (w64 (pv6+(1:Int))) hs hk)) hs hk)⟩)
  exact key _ zaX pv6 qv6 hs hk
def zhA (zaa:(Sl Gate)) (zab:(Sl Mp)) (S5:Int→Int→((Sl Int)×Int×Int)) (zaJ:Int) (pv5:Int):((Sl Int)×Int×Int) :=
  (cond (decide (pv5 ≤ (zaa.get 0).High))
 (zoh S5 zaa zab zaJ pv5 ((zaa.get 1).Low))
 (zfv zaa zab zaJ (⟨0,(fun _=>default)⟩:Sl Int)))
def zhB (zaa:(Sl Gate)) (zab:(Sl Mp)) (P5:Int→Int→Bool) (zaJ:Int) (pv5:Int):Bool :=
  (decide ((0≤(0:Int)∧(0:Int) < (zaa.len:Int))) &&
 (cond (decide (pv5 ≤ (zaa.get 0).High))
 (decide ((0≤(1:Int)∧(1:Int) < (zaa.len:Int))) &&
 (zoi P5 zaa zab zaJ pv5 ((zaa.get 1).Low)))
 (zfw zaa zab zaJ (⟨0,(fun _=>default)⟩:Sl Int))))
def zdZ (zaa : (Sl Gate)) (zab : (Sl Mp)) : Nat → Int → Int → ((Sl Int) × Int × Int)
  | 0=>fun _ _=>default
  | k+1=>zhA zaa zab (zdZ zaa zab k)
def zd0 (zaa : (Sl Gate)) (zab : (Sl Mp)) : Nat → Int → Int → Bool
  | 0=>fun _ _=>false
  | k+1=>zhB zaa zab (zd0 zaa zab k)
def zsn (zaa:(Sl Gate)) (zab:(Sl Mp)) (zaJ:Int) (pv5:Int):((Sl Int)×Int×Int):=zdZ zaa zab Fuel zaJ pv5
def zso (zaa:(Sl Gate)) (zab:(Sl Mp)) (zaJ:Int) (pv5:Int):Bool:=zd0 zaa zab Fuel zaJ pv5
theorem zGE (K:List PA→Prop) (zaa:(Sl Gate)) (zab:(Sl Mp)) (zaJ:Int) (pv5:Int) (hs:zso zaa zab zaJ pv5=true) (hk:K (e55 (zsn zaa zab zaJ pv5))):zlt (Wk K) zaa zab zaJ pv5:=by
  refine zx7 (Wk K) zaa zab zaJ pv5 ?_
  intro X5 hstep
  have key:∀ (k:Nat) (zaJ:Int) (pv5:Int),zd0 zaa zab k zaJ pv5=true→K (e55 (zdZ zaa zab k zaJ pv5))→X5 (zj7 zaa zab zaJ pv5):=by
    intro k
    induction k with
    | zero=>intro zaJ pv5 hs;exact absurd hs Bool.false_ne_true
    | succ k ih =>
      intro zaJ pv5 hs hk
      refine hstep zaJ pv5 ?_
      have hs:zhB zaa zab (zd0 zaa zab k) zaJ pv5=true:=hs
      have hk:K (e55 (zhA zaa zab (zdZ zaa zab k) zaJ pv5)):=hk
      unfold zhB at hs
      unfold zhA at hk
      generalize zdZ zaa zab k=S5 at hk ih
      generalize zd0 zaa zab k=P5 at hs ih
      have hX5:=ih
      exact (zaE hs fun hc hs => ⟨hc, (zbr (K := fun r => K (e55 r))
 (fun hs hk=>(zaE hs fun hc hs=>⟨hc,(zGD K zaa zab X5 P5 S5 hX5 zaJ pv5 ((zaa.get 1).Low) hs hk)⟩))
 (fun hs hk=>(zyd K zaa zab zaJ (⟨0,(fun _=>default)⟩:Sl Int) (fun i=>zal ((fun _=>default) i)) rfl hs hk)) hs hk)⟩)
  exact key _ zaJ pv5 hs hk
def zoj (zaa:(Sl Gate)) (zab:(Sl Mp)) (zd7:Int):((Sl Int)×Int×Int) :=
  (zsn zaa zab zd7 ((zaa.get 0).Low))
def zok (zaa:(Sl Gate)) (zab:(Sl Mp)) (zd7:Int):Bool :=
  (decide ((0≤(0:Int)∧(0:Int) < (zaa.len:Int))) &&
 (zso zaa zab zd7 ((zaa.get 0).Low)))
theorem zGF (K:List PA→Prop) (zaa:(Sl Gate)) (zab:(Sl Mp)) (zd7:Int) (hs:zok zaa zab zd7=true) (hk:K (e55 (zoj zaa zab zd7))):zof (Wk K) zaa zab zd7:=by
  refine zaI (zGy (Wk K) zaa zab zd7) ?_
  unfold zok at hs
  unfold zoj at hk
  exact (zaE hs fun hc hs=>⟨hc,(zGE K zaa zab zd7 ((zaa.get 0).Low) hs hk)⟩)
def zlz (zaa:(Sl Gate)) (zab:(Sl Mp)) (zaM:Int):((Sl Int)×Int×Int) :=
  (zoj zaa zab zaM)
def zlA (zaa:(Sl Gate)) (zab:(Sl Mp)) (zaM:Int):Bool :=
  (zok zaa zab zaM)
def zlB (zaa:(Sl Gate)) (zab:(Sl Mp)) (k24_0:Int) (k24_1:Int) (S3:Int→((Sl Int)×Int×Int)) (zaM:Int):((Sl Int)×Int×Int) :=
  (cond (decide (zaM < (0:Int)))
 (S3 (zdn (((zab.get 0).F) [k24_0,k24_1]) 0))
 (cond (decide ((zdn (((zab.get 0).F) [k24_0, k24_1]) 0) < zaM))
 (S3 (zdn (((zab.get 0).F) [k24_0,k24_1]) 0))
 (S3 zaM)))
def zlC (zaa:(Sl Gate)) (zab:(Sl Mp)) (k24_0:Int) (k24_1:Int) (P3:Int→Bool) (zaM:Int):Bool :=
  (cond (decide (zaM < (0:Int)))
 (P3 (zdn (((zab.get 0).F) [k24_0,k24_1]) 0))
 (cond (decide ((zdn (((zab.get 0).F) [k24_0, k24_1]) 0) < zaM))
 (P3 (zdn (((zab.get 0).F) [k24_0,k24_1]) 0))
 (P3 zaM)))
def zfx (zaa : (Sl Gate)) (zab : (Sl Mp)) : List (List Int) → Int → ((Sl Int) × Int × Int)
  | []=>zlz zaa zab
  | y :: r=>zlB zaa zab (y.getD 0 0) (y.getD 1 0) (zfx zaa zab r)
def zfy (zaa : (Sl Gate)) (zab : (Sl Mp)) : List (List Int) → Int → Bool
  | []=>zlA zaa zab
  | y :: r=>zlC zaa zab (y.getD 0 0) (y.getD 1 0) (zfy zaa zab r)
def zeQ (_gates:Sl Gate) (t:Sl Mp) (ys:List (List Int)):Bool:=ys.all fun y=>decide (0≤zdn ((t.get 0).F y) 0)
theorem zGG (zaa:Sl Gate) (t:Sl Mp):∀ (y:List Int) (r:List (List Int)),zeQ zaa t (y :: r)=true→zeQ zaa t r=true:=fun y r h=>by
  simp only [zeQ,List.all_cons,Bool.and_eq_true] at h ⊢;exact h.2
def kst (F:List Int→Option (List Int)) (k:Int) (y:List Int):Int:=if k < 0 then zdn (F y) 0 else if zdn (F y) 0 < k then zdn (F y) 0 else k
theorem zuD (F:List Int→Option (List Int)) {ys zs:List (List Int)} (h:∀ y∈ys,0≤zdn (F y) 0) (hp:ys.Perm zs) (k:Int):ys.foldl (kst F) k=zs.foldl (kst F) k:=by
  refine hp.foldl_eq' (fun x hx y hy z=>?_) k
  have h1:=h x hx
  have h2:=h y hy
  unfold kst
  repeat' split
  all_goals omega
theorem zol (zaa : Sl Gate) (t : Sl Mp) : ∀ (ys : List (List Int)) (k : Int), (∀ y ∈ ys, y.length = 2) → zfx zaa t ys k = zlz zaa t (ys.foldl (kst (t.get 0).F) k)
  | [],k,_=>rfl
  | y :: r,k,h=>by
    have hy:=h y List.mem_cons_self
    match y,hy with
    | [a,b],_ =>
    have ih:=fun k=>zol zaa t r k (fun z hz=>h z (List.mem_cons_of_mem _ hz))
    show zlB zaa t a b (zfx zaa t r) k=_
    rw [List.foldl_cons]
    unfold zlB
    by_cases h1:k < 0
    · rw [decide_eq_true h1,cond_true,ih,show kst (t.get 0).F k [a,b]=zdn ((t.get 0).F [a,b]) 0 from if_pos h1]
    · rw [decide_eq_false h1, cond_false]
      by_cases h2:zdn ((t.get 0).F [a,b]) 0 < k
      · rw [decide_eq_true h2,cond_true,ih,show kst (t.get 0).F k [a,b]=zdn ((t.get 0).F [a,b]) 0 from (if_neg h1).trans (if_pos h2)]
      · rw [decide_eq_false h2,cond_false,ih,show kst (t.get 0).F k [a,b]=k from (if_neg h1).trans (if_neg h2)]
theorem zom (zaa : Sl Gate) (t : Sl Mp) : ∀ (ys : List (List Int)) (k : Int), (∀ y ∈ ys, y.length = 2) → zfy zaa t ys k = zlA zaa t (ys.foldl (kst (t.get 0).F) k)
  | [],k,_=>rfl
  | y :: r,k,h=>by
    have hy:=h y List.mem_cons_self
    match y,hy with
    | [a,b],_ =>
    have ih:=fun k=>zom zaa t r k (fun z hz=>h z (List.mem_cons_of_mem _ hz))
    show zlC zaa t a b (zfy zaa t r) k=_
    rw [List.foldl_cons]
    unfold zlC
    by_cases h1:k < 0
    · rw [decide_eq_true h1,cond_true,ih,show kst (t.get 0).F k [a,b]=zdn ((t.get 0).F [a,b]) 0 from if_pos h1]
    · rw [decide_eq_false h1, cond_false]
      by_cases h2:zdn ((t.get 0).F [a,b]) 0 < k
      · rw [decide_eq_true h2,cond_true,ih,show kst (t.get 0).F k [a,b]=zdn ((t.get 0).F [a,b]) 0 from (if_neg h1).trans (if_pos h2)]
      · rw [decide_eq_false h2,cond_false,ih,show kst (t.get 0).F k [a,b]=k from (if_neg h1).trans (if_neg h2)]
theorem zGH (zaa : Sl Gate) (t : Sl Mp) (ys zs : List (List Int)) (hl : ∀ y ∈ ys, y.length = 2) (h : zeQ zaa t ys = true) (hp : ys.Perm zs) :
    zeQ zaa t zs=true∧zfx zaa t ys=zfx zaa t zs∧zfy zaa t ys=zfy zaa t zs:=by
  simp only [zeQ,List.all_eq_true,decide_eq_true_eq] at h ⊢
  have hl2:∀ y∈zs,y.length=2:=fun y hy=>hl y (hp.mem_iff.2 hy)
  refine ⟨fun y hy=>h y (hp.mem_iff.2 hy),funext fun k=>?_,funext fun k=>?_⟩
  · rw [zol zaa t ys k hl,zol zaa t zs k hl2,zuD _ h hp]
  · rw [zom zaa t ys k hl,zom zaa t zs k hl2,zuD _ h hp]
def zon (zaa:(Sl Gate)) (zab:(Sl Mp)) (zaM:Int):((Sl Int)×Int×Int):=zfx zaa zab (zf6 zaa) zaM
def zoo (zaa:(Sl Gate)) (zab:(Sl Mp)) (zaM:Int):Bool:=keysB 2 ((zab.get 0).n) ((zab.get 0).F) (zf6 zaa) && zeQ zaa zab (zf6 zaa) && zfy zaa zab (zf6 zaa) zaM
theorem zGI (K:List PA→Prop) (zaa:(Sl Gate)) (zab:(Sl Mp)) (zaM:Int) (hs:zoo zaa zab zaM=true) (hk:K (e55 (zon zaa zab zaM))):zls (Wk K) zaa zab [] zaM:=by
  unfold zoo at hs
  rw [Bool.and_eq_true,Bool.and_eq_true] at hs
  obtain ⟨⟨hkeys,hI⟩,hs⟩:=hs
  unfold zon at hk
  generalize hys:zf6 zaa=ys0 at hkeys hI hs hk
  refine zx6 (Wk K) zaa zab [] zaM ?_
  intro X3 hstep
  have key:∀ (N:Nat) (ys:List (List Int)) (za1:List (List Int)) (zaM:Int),ys.length=N→(zCr 2 ((zab.get 0).n) ((zab.get 0).F)→zGa 2 ((zab.get 0).F) za1 ys)→zeQ zaa zab ys=true→zfy zaa zab ys zaM=true→K (e55 (zfx zaa zab ys zaM))→X3 (ziq zaa zab za1 zaM):=by
    intro N
    induction N with
    | zero =>
      intro ys za1 zaM hN hrem hI hs hk
      obtain rfl:=List.eq_nil_of_length_eq_zero hN
      refine hstep za1 zaM ?_
      intro hfin
      have hrem:=hrem hfin
      refine ⟨fun _=>?_,fun k24_0 k24_1 hF hns=>absurd (hrem.2.2 [k24_0,k24_1] rfl hF hns) (by simp)⟩
      have hs:zlA zaa zab zaM=true:=hs
      have hk:K (e55 (zlz zaa zab zaM)):=hk
      unfold zlA at hs
      unfold zlz at hk
      exact (zGF K zaa zab zaM hs hk)
    | succ N ih =>
      intro ys za1 zaM hN hrem hI hs hk
      refine hstep za1 zaM ?_
      intro hfin
      have hrem:=hrem hfin
      refine ⟨fun hend=>?_,fun k24_0 k24_1 hF hns=>?_⟩
      · exact absurd (zr2 hrem hend) (fun e=>by rw [e] at hN;simp at hN)
      · obtain ⟨hperm, hrem2, hlen⟩ := zn5 hrem (c := [k24_0, k24_1]) rfl hF hns
        obtain ⟨hI2,e1,e2⟩:=zGH zaa zab ys _ (fun y hy=>(hrem.2.1 y hy).1) hI hperm
        have hI3:=zGG zaa zab _ _ hI2
        rw [e2] at hs
        rw [e1] at hk
        have hs:zlC zaa zab k24_0 k24_1 (zfy zaa zab (ys.erase [k24_0,k24_1])) zaM=true:=hs
        have hk:K (e55 (zlB zaa zab k24_0 k24_1 (zfx zaa zab (ys.erase [k24_0,k24_1])) zaM)):=hk
        have ih:=fun (zaM:Int)=>ih (ys.erase [k24_0,k24_1]) ([k24_0,k24_1] :: za1) zaM (by omega) (fun _=>hrem2) hI3
        unfold zlC at hs
        unfold zlB at hk
        generalize zfx zaa zab (ys.erase [k24_0,k24_1])=S3 at hk ih
        generalize zfy zaa zab (ys.erase [k24_0,k24_1])=P3 at hs ih
        have hX3:=ih
        exact (zbr (K := fun r => K (e55 r))
 (fun hs hk=>(hX3 (zdn (((zab.get 0).F) [k24_0,k24_1]) 0) hs hk))
 (fun hs hk => (zbr (K := fun r => K (e55 r))
 (fun hs hk=>(hX3 (zdn (((zab.get 0).F) [k24_0,k24_1]) 0) hs hk))
 (fun hs hk=>(hX3 zaM hs hk)) hs hk)) hs hk)
  exact key _ ys0 [] zaM rfl (fun hf=>zlp hkeys hf) hI hs hk
def zop (zaa:(Sl Gate)) (zab:(Sl Mp)):((Sl Int)×Int×Int) :=
  (zon zaa zab (-1:Int))
def zoq (zaa:(Sl Gate)) (zab:(Sl Mp)):Bool :=
  (decide ((0≤(0:Int)∧(0:Int) < (zab.len:Int))) &&
 (zoo zaa zab (-1:Int)))
theorem zGJ (K:List PA→Prop) (zaa:(Sl Gate)) (zab:(Sl Mp)) (zcs:Nat→List PV) (zlD:zcs=fun i=>zbs (zab.get i)) (hs:zoq zaa zab=true) (hk:K (e55 (zop zaa zab))):zoe (Wk K) zaa zab.len zcs:=by
  subst zlD
  refine zaI (zGx (Wk K) zaa zab) ?_
  unfold zoq at hs
  unfold zop at hk
  exact (zaE hs fun hc hs=>⟨hc,(zGI K zaa zab (-1:Int) hs hk)⟩)
def zor (zaa:(Sl Gate)):((Sl Int)×Int×Int) :=
  (zop zaa (s93 zaa))
def zos (zaa:(Sl Gate)):Bool :=
  (decide ((p93 zaa=true)) &&
 (zoq zaa (s93 zaa)))
theorem zGK (K:List PA→Prop) (zaa:(Sl Gate)) (hs:zos zaa=true) (hk:K (e55 (zor zaa))):zod (Wk K) zaa:=by
  refine zaI (zGw (Wk K) zaa) ?_
  unfold zos at hs
  unfold zor at hk
  exact (zaE hs fun hc hs=>⟨⟨isE,hc⟩,(zGJ K zaa (s93 zaa) (fun i=>zbs ((s93 zaa).get i)) rfl hs hk)⟩)
def zot (zaa:(Sl Gate)) (zhu:Bool):((Sl Int)×Int×Int) :=
  (cond zhu
 ((⟨0,fun _=>default⟩:(Sl Int)),(0:Int),(2:Int))
 (zor zaa))
def zou (zaa:(Sl Gate)) (zhu:Bool):Bool :=
  (cond zhu
 true
 (zos zaa))
theorem zGL (K:List PA→Prop) (zaa:(Sl Gate)) (zhu:Bool) (hs:zou zaa zhu=true) (hk:K (e55 (zot zaa zhu))):zoc (Wk K) zaa zhu:=by
  refine zaI (zGv (Wk K) zaa zhu) ?_
  unfold zou at hs
  unfold zot at hk
  exact (zbr (K := fun r => K (e55 r))
 (fun hs hk=>(wk hk (zdv (.one (.nil _ _)) (zdv (.one (.rfl _)) (zdv (.one (.rfl _)) zhi)))))
 (fun hs hk=>(zGK K zaa hs hk)) hs hk)
def s55 (zaa:(Sl Gate)):((Sl Int)×Int×Int) :=
  (zot zaa (!(s92 zaa)))
def p55 (zaa:(Sl Gate)):Bool :=
  (decide ((p92 zaa=true)) &&
 (zou zaa (!(s92 zaa))))
theorem q55 (zaa:(Sl Gate)) (K:List PA→Prop) (hs:p55 zaa=true) (hk:K (e55 (s55 zaa))):vcFun Try.prog G55 zbe 55 [.one (.sl zaa.len 3 (fun i=>enc_55 (zaa.get i)))] (Wk K):=by
  refine zaI (zGu zaa (Wk K)) ?_
  unfold p55 at hs
  unfold s55 at hk
  exact (zaE hs fun hc hs=>⟨⟨isE,hc⟩,(zGL K zaa (!(s92 zaa)) hs hk)⟩)
def zDe : List PA → COut
  | [.one (.sl a0_n a0_s a0_g)]=>.det (IsE enc_55 3 a0_s a0_g∧p55 (⟨a0_n,zaf a0_g⟩:(Sl Gate))=true) [.one (.sl (((s55 (⟨a0_n,zaf a0_g⟩:(Sl Gate))).1).len) 1 (fun i=>zal (((s55 (⟨a0_n,zaf a0_g⟩:(Sl Gate))).1).get i))),.one (.int .i64 ((s55 (⟨a0_n,zaf a0_g⟩:(Sl Gate))).2.1)),.one (.int .i64 ((s55 (⟨a0_n,zaf a0_g⟩:(Sl Gate))).2.2))]
  | _=>.no
theorem zLy:zaj Try.prog 55:=⟨_,rfl,rfl,by kernel_rfl⟩
theorem zQt:Ok Try.prog 55 zDe:=zfo zOG zLy fun args K h=>by
  unfold zDe at h
  split at h
  · rename_i a0_n a0_s a0_g
    obtain ⟨⟨⟨rfl,a0_f,rfl⟩,hs⟩,hk⟩:=h
    try rw [zae a0_f] at hs
    try rw [zae a0_f] at hk
    exact ⟨_,zeL zeM _,(fun _ _=>[]),(fun _=>false),zbe,q55 (⟨a0_n,a0_f⟩:(Sl Gate)) K hs hk⟩
  · exact h.elim
abbrev zQu:Tabs:=Tabs.nil
theorem zLz:TabsOk Try.prog zQu:=TabsOk.nil
abbrev zRb:Ctrs:=csm zQu (fun _ _=>[]) (fun _=>false)
def zEC:Ann:=⟨12,[(0,zK [1,2] [2]),(1,zK [3] [])],
 [],
 [],
 [],[]⟩
abbrev zRc:=Bool
abbrev zRd (r:zRc):List PA:=[.one (.bool r)]
section
variable {K:List PA→Prop} {c0:list} {g:Gate}
def zN4 (c0:list) (g:Gate):Bool :=
  (g.Z != (c0.Gates.get 0).Z)
def zOH (c0:list) (g:Gate):Bool :=
  (decide ((0≤(0:Int)∧(0:Int) < (c0.Gates.len:Int))) &&
 true)
end
theorem zRe (c0:list) (g:Gate) (K:List PA→Prop) (hs:zOH c0 g=true) (hk:K (zRd (zN4 c0 g))):vcFun Try.prog zRb zEC 100 [.agg (enc_55 g),.one (.fp (zcL c0) 0)] K :=
  zaI (by kernel_rfl) (zaE hs fun hc hs=>And.intro hc hk)
def zye : List PA → COut
  | [.agg [.int .i64 a0_Z,.int .i64 a0_Low,.int .i64 a0_High],.one (.fp [.sl c0_Gates_n c0_Gates_s c0_Gates_g] 0)]=>.det (IsE enc_55 3 c0_Gates_s c0_Gates_g∧zOH (⟨(⟨c0_Gates_n,zaf c0_Gates_g⟩:(Sl Gate))⟩:list) (⟨a0_Z,a0_Low,a0_High⟩:Gate)=true) [.one (.bool (zN4 (⟨(⟨c0_Gates_n,zaf c0_Gates_g⟩:(Sl Gate))⟩:list) (⟨a0_Z,a0_Low,a0_High⟩:Gate)))]
  | _=>.no
theorem zGM:zaj Try.prog 100:=⟨_,rfl,rfl,by kernel_rfl⟩
theorem zOI:Ok Try.prog 100 zye:=zaP zLz zGM fun args K h=>by
  unfold zye at h
  split at h
  · rename_i a0_Z a0_Low a0_High c0_Gates_n c0_Gates_s c0_Gates_g
    obtain ⟨⟨⟨rfl,c0_Gates_f,rfl⟩,hs⟩,hk⟩:=h
    try rw [zae c0_Gates_f] at hs
    try rw [zae c0_Gates_f] at hk
    exact ⟨(fun _ _=>[]),(fun _=>false),zEC,zRe (⟨(⟨c0_Gates_n,c0_Gates_f⟩:(Sl Gate))⟩:list) (⟨a0_Z,a0_Low,a0_High⟩:Gate) K hs hk⟩
  · exact h.elim
abbrev zQv:Tabs:=(Tabs.nil.addF 74 zqi)
theorem zLA:TabsOk Try.prog zQv:=(TabsOk.nil.addF zKr)
abbrev zRf:Ctrs:=csm zQv (fun _ _=>[]) (fun _=>false)
def zED:Ann:=⟨24,[(0,zK [2,3] [2,3]),(1,zK [4] [])],
 [],
 [],
 [],[]⟩
abbrev zRg:=Bool
abbrev e118 (r:zRg):List PA:=[.one (.bool r)]
section
variable {K:List PA→Prop} {s:straight} {g:Gate}
def zOJ (s:straight) (g:Gate):Bool :=
  (s74 (w64 (s.start+(w64 (s.slope * g.Z)))) (w64 (g.Low * s.den)) (w64 (g.High * s.den)))
end
theorem zRh (s:straight) (g:Gate) (K:List PA→Prop) (hk:K (e118 (zOJ s g))):vcFun Try.prog zRf zED 118 [.agg (zak s),.agg (enc_55 g)] K :=
  zaI (by kernel_rfl) hk
def zyf : List PA → COut
  | [.agg [.int .i64 a0_slope,.int .i64 a0_start,.int .i64 a0_den],.agg [.int .i64 a1_Z,.int .i64 a1_Low,.int .i64 a1_High]]=>.tot [.one (.bool (zOJ (⟨a0_slope,a0_start,a0_den⟩:straight) (⟨a1_Z,a1_Low,a1_High⟩:Gate)))]
  | _=>.no
theorem zGN:zaj Try.prog 118:=⟨_,rfl,rfl,by kernel_rfl⟩
theorem zOK:Ok Try.prog 118 zyf:=zaP zLA zGN fun args K h=>by
  unfold zyf at h
  split at h
  · rename_i a0_slope a0_start a0_den a1_Z a1_Low a1_High
    have hk:=h
    exact ⟨(fun _ _=>[]),(fun _=>false),zED,zRh (⟨a0_slope,a0_start,a0_den⟩:straight) (⟨a1_Z,a1_Low,a1_High⟩:Gate) K hk⟩
  · exact h.elim
abbrev zQw:Tabs:=(Tabs.nil.addF 118 zyf)
theorem zLB:TabsOk Try.prog zQw:=(TabsOk.nil.addF zOK)
abbrev zRi:Ctrs:=csm zQw (fun _ _=>[]) (fun _=>false)
def zEE:Ann:=⟨8,[(0,zK [1,2] [2]),(1,zK [3] [])],
 [],
 [],
 [],[]⟩
abbrev zRj:=Bool
abbrev e117 (r:zRj):List PA:=[.one (.bool r)]
section
variable {K:List PA→Prop} {c0:straight} {g:Gate}
def zN5 (c0:straight) (g:Gate):Bool :=
  (!(zOJ c0 g))
end
theorem zRk (c0:straight) (g:Gate) (K:List PA→Prop) (hk:K (e117 (zN5 c0 g))):vcFun Try.prog zRi zEE 117 [.agg (enc_55 g),.one (.fp (zak c0) 0)] K :=
  zaI (by kernel_rfl) hk
def zyg : List PA → COut
  | [.agg [.int .i64 a0_Z,.int .i64 a0_Low,.int .i64 a0_High],.one (.fp [.int .i64 c0_slope,.int .i64 c0_start,.int .i64 c0_den] 0)]=>.tot [.one (.bool (zN5 (⟨c0_slope,c0_start,c0_den⟩:straight) (⟨a0_Z,a0_Low,a0_High⟩:Gate)))]
  | _=>.no
theorem zGO:zaj Try.prog 117:=⟨_,rfl,rfl,by kernel_rfl⟩
theorem zOL:Ok Try.prog 117 zyg:=zaP zLB zGO fun args K h=>by
  unfold zyg at h
  split at h
  · rename_i a0_Z a0_Low a0_High c0_slope c0_start c0_den
    have hk:=h
    exact ⟨(fun _ _=>[]),(fun _=>false),zEE,zRk (⟨c0_slope,c0_start,c0_den⟩:straight) (⟨a0_Z,a0_Low,a0_High⟩:Gate) K hk⟩
  · exact h.elim
abbrev zQx:Tabs:=Tabs.nil
theorem zLC:TabsOk Try.prog zQx:=TabsOk.nil
abbrev zRl:Ctrs:=csm zQx (fun _ _=>[]) (fun _=>false)
def zEF:Ann:=⟨18,[(0,zK [1,2] [2]),(1,zK [3] [])],
 [],
 [],
 [],[]⟩
abbrev zRm:=Bool
abbrev zRn (r:zRm):List PA:=[.one (.bool r)]
section
variable {K:List PA→Prop} {c0:straight} {g:Gate}
def zN6 (c0:straight) (g:Gate):Bool :=
  ((w64 (c0.start+(w64 (c0.slope * g.Z)))) == (w64 (g.Low * c0.den)))
end
theorem zRo (c0:straight) (g:Gate) (K:List PA→Prop) (hk:K (zRn (zN6 c0 g))):vcFun Try.prog zRl zEF 123 [.agg (enc_55 g),.one (.fp (zak c0) 0)] K :=
  zaI (by kernel_rfl) hk
def zyh : List PA → COut
  | [.agg [.int .i64 a0_Z,.int .i64 a0_Low,.int .i64 a0_High],.one (.fp [.int .i64 c0_slope,.int .i64 c0_start,.int .i64 c0_den] 0)]=>.tot [.one (.bool (zN6 (⟨c0_slope,c0_start,c0_den⟩:straight) (⟨a0_Z,a0_Low,a0_High⟩:Gate)))]
  | _=>.no
theorem zGP:zaj Try.prog 123:=⟨_,rfl,rfl,by kernel_rfl⟩
theorem zOM:Ok Try.prog 123 zyh:=zaP zLC zGP fun args K h=>by
  unfold zyh at h
  split at h
  · rename_i a0_Z a0_Low a0_High c0_slope c0_start c0_den
    have hk:=h
    exact ⟨(fun _ _=>[]),(fun _=>false),zEF,zRo (⟨c0_slope,c0_start,c0_den⟩:straight) (⟨a0_Z,a0_Low,a0_High⟩:Gate) K hk⟩
  · exact h.elim
abbrev zN7:Tabs:=(((Tabs.nil.addF 100 zye).addF 117 zyg).addF 123 zyh)
theorem zLD:TabsOk Try.prog zN7:=(((TabsOk.nil.addF zOI).addF zOL).addF zOM)
abbrev zQy:Ctrs:=csm zN7 (fun _ _=>[]) (fun _=>false)
def zyi:Ann:=⟨19,[(0,zK [0,1] []),(1,zK [0,1,7,8] []),(2,zK [0,1,7,8,9] []),(3,zK [0,1,5,7,8] []),(4,zK [0,1,5,7,8,16] []),(5,zK [4] []),(6,zK [0,1,7,8] []),(7,zK [4] [])],
 [(2,zK [0,1,7,8] [])],
 [(5,zK [0,1,5,7,8,16] [])],
 [],[]⟩
abbrev zRp:=Int
abbrev e119 (r:zRp):List PA:=[.one (.int .i64 r)]
@[irreducible] def z119:=ptF Try.prog zQy zyi Try.f119
def zyj (c0:list) (sv0:(Sl Gate)) (zbm:Int) (zcv:Int) (zdU:Nat→List PV):St:=⟨[(0,zP (.sl sv0.len 3 zdU)),(1,zP (.fn 100 [] [.fp (zcL c0) 0])),(7,zI zbm),(8,zI zcv)],[],[]⟩
abbrev zyk (K:List PA→Prop) (c0:list) (X:St→Prop) (P:(Sl Gate)→Int→Int→Bool) (S:(Sl Gate)→Int→Int→Int):Prop:=∀ ⦃sv0:(Sl Gate)⦄ ⦃zbm:Int⦄ ⦃zcv:Int⦄ ⦃zdU:Nat→List PV⦄,P sv0 zbm zcv=true→K (e119 (S sv0 zbm zcv))→zdU=zg enc_55 sv0→X (zyj c0 sv0 zbm zcv zdU)
section
variable {K:List PA→Prop} {c0:list} {s:(Sl Gate)} {sv0:(Sl Gate)} {zbm:Int} {zcv:Int} {zdU:Nat→List PV} {X0:St→Prop} {P0:(Sl Gate)→Int→Int→Bool} {S0:(Sl Gate)→Int→Int→Int} {sv1:(Sl Gate)} {iv1:Int} {zhl:Int} {zlE:Int} {zez:Bool} {zqo:Nat→List PV}
def zuE (S0:(Sl Gate)→Int→Int→Int) (c0:list) (sv1:(Sl Gate)) (iv1:Int) (zhl:Int) (zlE:Int) (zez:Bool):Int :=
  (cond zez
 iv1
 (S0 sv1 zhl (w64 (zlE+(1:Int)))))
def zuF (P0:(Sl Gate)→Int→Int→Bool) (c0:list) (sv1:(Sl Gate)) (iv1:Int) (zhl:Int) (zlE:Int) (zez:Bool):Bool :=
  (cond zez
 true
 (P0 sv1 zhl (w64 (zlE+(1:Int)))))
theorem zDf (hX0:zyk K c0 X0 P0 S0) (hs:zuF P0 c0 sv1 iv1 zhl zlE zez=true) (hk:K (e119 (zuE S0 c0 sv1 iv1 zhl zlE zez))) (zyl:zqo=zg enc_55 sv1):z119 K [1,0,1,0,0,1,1,0,0,1,1] [X0] ⟨[(0,zP (.sl sv1.len 3 zqo)),(1,zP (.fn 100 [] [.fp (zcL c0) 0])),(5,zI iv1),(7,zI zhl),(8,zI zlE),(16,zB zez)],[],[]⟩:=by subst zyl;exact zaI (by kernel_rfl) (zc hs hk (fun hs hk=>hk) (fun hs hk=>(hX0 hs hk rfl)))
def zuG (c0:list) (S0:(Sl Gate)→Int→Int→Int) (sv0:(Sl Gate)) (zbm:Int) (zcv:Int):Int :=
  (cond (decide (zcv < zbm))
 (zuE S0 c0 sv0 zcv zbm zcv (zN4 c0 (sv0.get zcv.toNat)))
 (-1:Int))
def zuH (c0:list) (P0:(Sl Gate)→Int→Int→Bool) (sv0:(Sl Gate)) (zbm:Int) (zcv:Int):Bool :=
  (cond (decide (zcv < zbm))
 (decide ((0≤zcv∧zcv < (sv0.len:Int))) &&
 (decide ((zOH c0 (sv0.get zcv.toNat)=true)) &&
 (zuF P0 c0 sv0 zcv zbm zcv (zN4 c0 (sv0.get zcv.toNat)))))
 true)
def zuI (c0:list):Nat→(Sl Gate)→Int→Int→Int:=lpO (fun _ _ _=>default) (zuG c0)
def zuJ (c0:list):Nat→(Sl Gate)→Int→Int→Bool:=lpO (fun _ _ _=>false) (zuH c0)
def zuK (c0:list) (sv0:(Sl Gate)) (zbm:Int) (zcv:Int):Int:=zuI c0 Fuel sv0 zbm zcv
def zuL (c0:list) (sv0:(Sl Gate)) (zbm:Int) (zcv:Int):Bool:=zuJ c0 Fuel sv0 zbm zcv
theorem zDg (hs:zuL c0 sv0 zbm zcv=true) (hk:K (e119 (zuK c0 sv0 zbm zcv))) (zlF:zdU=zg enc_55 sv0):z119 K [1,0,1,0] [] (zyj c0 sv0 zbm zcv zdU) :=
  zl (fun X=>z119 K [1,0,1,0,0] [X]) (by kernel_rfl) fun X0 hX =>
  (show ∀ k, zyk K c0 X0 (zuJ c0 k) (zuI c0 k) from zfT _ _ (zuH c0) (zuG c0) (zyk K c0 X0)
 (by intro _ _ _ _ hs;exact absurd hs Bool.false_ne_true)
 (by intro P0 S0 hX0 sv0 zbm zcv zdU hs hk zlF;subst zlF;exact hX _ (zaI (by kernel_rfl) (zc hs hk (fun hs hk=>(zaE hs fun hc hs=>And.intro hc (zaE hs fun hc hs=>And.intro (And.intro (zE enc_55 3 c0.Gates.get) hc) (zDf hX0 hs hk rfl)))) (fun hs hk=>hk))))) _ hs hk zlF
def zON (c0:list) (s:(Sl Gate)):Int :=
  (zuK c0 s (s.len:Int) (0:Int))
def zOO (c0:list) (s:(Sl Gate)):Bool :=
  (zuL c0 s (s.len:Int) (0:Int))
end
theorem zRq (c0:list) (s:(Sl Gate)) (K:List PA→Prop) (hs:zOO c0 s=true) (hk:K (e119 (zON c0 s))):vcFun Try.prog zQy zyi 119 [.one (.sl s.len 3 (fun i=>enc_55 (s.get i))),.one (.fn 100 [] [.fp (zcL c0) 0])] K :=
  zaI (by kernel_rfl) (zDg hs hk rfl)
abbrev zLE:Ctrs:=csm zN7 (fun _ _=>[]) (fun _=>false)
def zsp:Ann:=⟨19,[(0,zK [0,1] []),(1,zK [0,1,7,8] []),(2,zK [0,1,7,8,9] []),(3,zK [0,1,5,7,8] []),(4,zK [0,1,5,7,8,16] []),(5,zK [4] []),(6,zK [0,1,7,8] []),(7,zK [4] [])],
 [(2,zK [0,1,7,8] [])],
 [(5,zK [0,1,5,7,8,16] [])],
 [],[]⟩
abbrev zOP:=Int
abbrev zDh (r:zOP):List PA:=[.one (.int .i64 r)]
@[irreducible] def z119a:=ptF Try.prog zLE zsp Try.f119
def zuM (c0:straight) (sv0:(Sl Gate)) (zbm:Int) (zcv:Int) (zdU:Nat→List PV):St:=⟨[(0,zP (.sl sv0.len 3 zdU)),(1,zP (.fn 117 [] [.fp (zak c0) 0])),(7,zI zbm),(8,zI zcv)],[],[]⟩
abbrev zsq (K:List PA→Prop) (c0:straight) (X:St→Prop) (P:(Sl Gate)→Int→Int→Bool) (S:(Sl Gate)→Int→Int→Int):Prop:=∀ ⦃sv0:(Sl Gate)⦄ ⦃zbm:Int⦄ ⦃zcv:Int⦄ ⦃zdU:Nat→List PV⦄,P sv0 zbm zcv=true→K (zDh (S sv0 zbm zcv))→zdU=zg enc_55 sv0→X (zuM c0 sv0 zbm zcv zdU)
section
variable {K:List PA→Prop} {c0:straight} {s:(Sl Gate)} {sv0:(Sl Gate)} {zbm:Int} {zcv:Int} {zdU:Nat→List PV} {X0:St→Prop} {P0:(Sl Gate)→Int→Int→Bool} {S0:(Sl Gate)→Int→Int→Int} {sv1:(Sl Gate)} {iv1:Int} {zhl:Int} {zlE:Int} {zez:Bool} {zqo:Nat→List PV}
def zqp (S0:(Sl Gate)→Int→Int→Int) (c0:straight) (sv1:(Sl Gate)) (iv1:Int) (zhl:Int) (zlE:Int) (zez:Bool):Int :=
  (cond zez
 iv1
 (S0 sv1 zhl (w64 (zlE+(1:Int)))))
def zqq (P0:(Sl Gate)→Int→Int→Bool) (c0:straight) (sv1:(Sl Gate)) (iv1:Int) (zhl:Int) (zlE:Int) (zez:Bool):Bool :=
  (cond zez
 true
 (P0 sv1 zhl (w64 (zlE+(1:Int)))))
theorem zym (hX0:zsq K c0 X0 P0 S0) (hs:zqq P0 c0 sv1 iv1 zhl zlE zez=true) (hk:K (zDh (zqp S0 c0 sv1 iv1 zhl zlE zez))) (zyl:zqo=zg enc_55 sv1):z119a K [1,0,1,0,0,1,1,0,0,1,1] [X0] ⟨[(0,zP (.sl sv1.len 3 zqo)),(1,zP (.fn 117 [] [.fp (zak c0) 0])),(5,zI iv1),(7,zI zhl),(8,zI zlE),(16,zB zez)],[],[]⟩:=by subst zyl;exact zaI (by kernel_rfl) (zc hs hk (fun hs hk=>hk) (fun hs hk=>(hX0 hs hk rfl)))
def zqr (c0:straight) (S0:(Sl Gate)→Int→Int→Int) (sv0:(Sl Gate)) (zbm:Int) (zcv:Int):Int :=
  (cond (decide (zcv < zbm))
 (zqp S0 c0 sv0 zcv zbm zcv (zN5 c0 (sv0.get zcv.toNat)))
 (-1:Int))
def zqs (c0:straight) (P0:(Sl Gate)→Int→Int→Bool) (sv0:(Sl Gate)) (zbm:Int) (zcv:Int):Bool :=
  (cond (decide (zcv < zbm))
 (decide ((0≤zcv∧zcv < (sv0.len:Int))) &&
 (zqq P0 c0 sv0 zcv zbm zcv (zN5 c0 (sv0.get zcv.toNat))))
 true)
def zqu (c0:straight):Nat→(Sl Gate)→Int→Int→Int:=lpO (fun _ _ _=>default) (zqr c0)
def zqv (c0:straight):Nat→(Sl Gate)→Int→Int→Bool:=lpO (fun _ _ _=>false) (zqs c0)
def zqw (c0:straight) (sv0:(Sl Gate)) (zbm:Int) (zcv:Int):Int:=zqu c0 Fuel sv0 zbm zcv
def zqx (c0:straight) (sv0:(Sl Gate)) (zbm:Int) (zcv:Int):Bool:=zqv c0 Fuel sv0 zbm zcv
theorem zyn (hs:zqx c0 sv0 zbm zcv=true) (hk:K (zDh (zqw c0 sv0 zbm zcv))) (zlF:zdU=zg enc_55 sv0):z119a K [1,0,1,0] [] (zuM c0 sv0 zbm zcv zdU) :=
  zl (fun X=>z119a K [1,0,1,0,0] [X]) (by kernel_rfl) fun X0 hX =>
  (show ∀ k, zsq K c0 X0 (zqv c0 k) (zqu c0 k) from zfT _ _ (zqs c0) (zqr c0) (zsq K c0 X0)
 (by intro _ _ _ _ hs;exact absurd hs Bool.false_ne_true)
 (by intro P0 S0 hX0 sv0 zbm zcv zdU hs hk zlF;subst zlF;exact hX _ (zaI (by kernel_rfl) (zc hs hk (fun hs hk=>(zaE hs fun hc hs=>And.intro hc (zym hX0 hs hk rfl))) (fun hs hk=>hk))))) _ hs hk zlF
def zGQ (c0:straight) (s:(Sl Gate)):Int :=
  (zqw c0 s (s.len:Int) (0:Int))
def zGR (c0:straight) (s:(Sl Gate)):Bool :=
  (zqx c0 s (s.len:Int) (0:Int))
end
theorem zOQ (c0:straight) (s:(Sl Gate)) (K:List PA→Prop) (hs:zGR c0 s=true) (hk:K (zDh (zGQ c0 s))):vcFun Try.prog zLE zsp 119 [.one (.sl s.len 3 (fun i=>enc_55 (s.get i))),.one (.fn 117 [] [.fp (zak c0) 0])] K :=
  zaI (by kernel_rfl) (zyn hs hk rfl)
abbrev zLF:Ctrs:=csm zN7 (fun _ _=>[]) (fun _=>false)
def zsr:Ann:=⟨19,[(0,zK [0,1] []),(1,zK [0,1,7,8] []),(2,zK [0,1,7,8,9] []),(3,zK [0,1,5,7,8] []),(4,zK [0,1,5,7,8,16] []),(5,zK [4] []),(6,zK [0,1,7,8] []),(7,zK [4] [])],
 [(2,zK [0,1,7,8] [])],
 [(5,zK [0,1,5,7,8,16] [])],
 [],[]⟩
abbrev zOR:=Int
abbrev zDi (r:zOR):List PA:=[.one (.int .i64 r)]
@[irreducible] def z119b:=ptF Try.prog zLF zsr Try.f119
def zuN (c0:straight) (sv0:(Sl Gate)) (zbm:Int) (zcv:Int) (zdU:Nat→List PV):St:=⟨[(0,zP (.sl sv0.len 3 zdU)),(1,zP (.fn 123 [] [.fp (zak c0) 0])),(7,zI zbm),(8,zI zcv)],[],[]⟩
abbrev zss (K:List PA→Prop) (c0:straight) (X:St→Prop) (P:(Sl Gate)→Int→Int→Bool) (S:(Sl Gate)→Int→Int→Int):Prop:=∀ ⦃sv0:(Sl Gate)⦄ ⦃zbm:Int⦄ ⦃zcv:Int⦄ ⦃zdU:Nat→List PV⦄,P sv0 zbm zcv=true→K (zDi (S sv0 zbm zcv))→zdU=zg enc_55 sv0→X (zuN c0 sv0 zbm zcv zdU)
section
variable {K:List PA→Prop} {c0:straight} {s:(Sl Gate)} {sv0:(Sl Gate)} {zbm:Int} {zcv:Int} {zdU:Nat→List PV} {X0:St→Prop} {P0:(Sl Gate)→Int→Int→Bool} {S0:(Sl Gate)→Int→Int→Int} {sv1:(Sl Gate)} {iv1:Int} {zhl:Int} {zlE:Int} {zez:Bool} {zqo:Nat→List PV}
def zqy (S0:(Sl Gate)→Int→Int→Int) (c0:straight) (sv1:(Sl Gate)) (iv1:Int) (zhl:Int) (zlE:Int) (zez:Bool):Int :=
  (cond zez
 iv1
 (S0 sv1 zhl (w64 (zlE+(1:Int)))))
def zqz (P0:(Sl Gate)→Int→Int→Bool) (c0:straight) (sv1:(Sl Gate)) (iv1:Int) (zhl:Int) (zlE:Int) (zez:Bool):Bool :=
  (cond zez
 true
 (P0 sv1 zhl (w64 (zlE+(1:Int)))))
theorem zyo (hX0:zss K c0 X0 P0 S0) (hs:zqz P0 c0 sv1 iv1 zhl zlE zez=true) (hk:K (zDi (zqy S0 c0 sv1 iv1 zhl zlE zez))) (zyl:zqo=zg enc_55 sv1):z119b K [1,0,1,0,0,1,1,0,0,1,1] [X0] ⟨[(0,zP (.sl sv1.len 3 zqo)),(1,zP (.fn 123 [] [.fp (zak c0) 0])),(5,zI iv1),(7,zI zhl),(8,zI zlE),(16,zB zez)],[],[]⟩:=by subst zyl;exact zaI (by kernel_rfl) (zc hs hk (fun hs hk=>hk) (fun hs hk=>(hX0 hs hk rfl)))
def zqA (c0:straight) (S0:(Sl Gate)→Int→Int→Int) (sv0:(Sl Gate)) (zbm:Int) (zcv:Int):Int :=
  (cond (decide (zcv < zbm))
 (zqy S0 c0 sv0 zcv zbm zcv (zN6 c0 (sv0.get zcv.toNat)))
 (-1:Int))
def zqB (c0:straight) (P0:(Sl Gate)→Int→Int→Bool) (sv0:(Sl Gate)) (zbm:Int) (zcv:Int):Bool :=
  (cond (decide (zcv < zbm))
 (decide ((0≤zcv∧zcv < (sv0.len:Int))) &&
 (zqz P0 c0 sv0 zcv zbm zcv (zN6 c0 (sv0.get zcv.toNat))))
 true)
def zqC (c0:straight):Nat→(Sl Gate)→Int→Int→Int:=lpO (fun _ _ _=>default) (zqA c0)
def zqD (c0:straight):Nat→(Sl Gate)→Int→Int→Bool:=lpO (fun _ _ _=>false) (zqB c0)
def zqE (c0:straight) (sv0:(Sl Gate)) (zbm:Int) (zcv:Int):Int:=zqC c0 Fuel sv0 zbm zcv
def zqF (c0:straight) (sv0:(Sl Gate)) (zbm:Int) (zcv:Int):Bool:=zqD c0 Fuel sv0 zbm zcv
theorem zyp (hs:zqF c0 sv0 zbm zcv=true) (hk:K (zDi (zqE c0 sv0 zbm zcv))) (zlF:zdU=zg enc_55 sv0):z119b K [1,0,1,0] [] (zuN c0 sv0 zbm zcv zdU) :=
  zl (fun X=>z119b K [1,0,1,0,0] [X]) (by kernel_rfl) fun X0 hX =>
  (show ∀ k, zss K c0 X0 (zqD c0 k) (zqC c0 k) from zfT _ _ (zqB c0) (zqA c0) (zss K c0 X0)
 (by intro _ _ _ _ hs;exact absurd hs Bool.false_ne_true)
 (by intro P0 S0 hX0 sv0 zbm zcv zdU hs hk zlF;subst zlF;exact hX _ (zaI (by kernel_rfl) (zc hs hk (fun hs hk=>(zaE hs fun hc hs=>And.intro hc (zyo hX0 hs hk rfl))) (fun hs hk=>hk))))) _ hs hk zlF
def zGS (c0:straight) (s:(Sl Gate)):Int :=
  (zqE c0 s (s.len:Int) (0:Int))
def zGT (c0:straight) (s:(Sl Gate)):Bool :=
  (zqF c0 s (s.len:Int) (0:Int))
end
theorem zOS (c0:straight) (s:(Sl Gate)) (K:List PA→Prop) (hs:zGT c0 s=true) (hk:K (zDi (zGS c0 s))):vcFun Try.prog zLF zsr 119 [.one (.sl s.len 3 (fun i=>enc_55 (s.get i))),.one (.fn 123 [] [.fp (zak c0) 0])] K :=
  zaI (by kernel_rfl) (zyp hs hk rfl)
def zyq : List PA → COut
  | [.one (.sl a0_n a0_s a0_g),.one (.fn 100 [] [.fp [.sl c0_Gates_n c0_Gates_s c0_Gates_g] 0])]=>.det (IsE enc_55 3 a0_s a0_g∧IsE enc_55 3 c0_Gates_s c0_Gates_g∧zOO (⟨(⟨c0_Gates_n,zaf c0_Gates_g⟩:(Sl Gate))⟩:list) (⟨a0_n,zaf a0_g⟩:(Sl Gate))=true) [.one (.int .i64 (zON (⟨(⟨c0_Gates_n,zaf c0_Gates_g⟩:(Sl Gate))⟩:list) (⟨a0_n,zaf a0_g⟩:(Sl Gate))))]
  | [.one (.sl a0_n a0_s a0_g),.one (.fn 117 [] [.fp [.int .i64 c0_slope,.int .i64 c0_start,.int .i64 c0_den] 0])]=>.det (IsE enc_55 3 a0_s a0_g∧zGR (⟨c0_slope,c0_start,c0_den⟩:straight) (⟨a0_n,zaf a0_g⟩:(Sl Gate))=true) [.one (.int .i64 (zGQ (⟨c0_slope,c0_start,c0_den⟩:straight) (⟨a0_n,zaf a0_g⟩:(Sl Gate))))]
  | [.one (.sl a0_n a0_s a0_g),.one (.fn 123 [] [.fp [.int .i64 c0_slope,.int .i64 c0_start,.int .i64 c0_den] 0])]=>.det (IsE enc_55 3 a0_s a0_g∧zGT (⟨c0_slope,c0_start,c0_den⟩:straight) (⟨a0_n,zaf a0_g⟩:(Sl Gate))=true) [.one (.int .i64 (zGS (⟨c0_slope,c0_start,c0_den⟩:straight) (⟨a0_n,zaf a0_g⟩:(Sl Gate))))]
  | _=>.no
theorem zGU:zaj Try.prog 119:=⟨_,rfl,rfl,by kernel_rfl⟩
theorem zOT:Ok Try.prog 119 zyq:=zaP zLD zGU fun args K h=>by
  unfold zyq at h
  split at h
  · rename_i a0_n a0_s a0_g c0_Gates_n c0_Gates_s c0_Gates_g
    obtain ⟨⟨⟨rfl,a0_f,rfl⟩,⟨rfl,c0_Gates_f,rfl⟩,hs⟩,hk⟩:=h
    try rw [zae a0_f] at hs
    try rw [zae a0_f] at hk
    try rw [zae c0_Gates_f] at hs
    try rw [zae c0_Gates_f] at hk
    exact ⟨(fun _ _=>[]),(fun _=>false),zyi,zRq (⟨(⟨c0_Gates_n,c0_Gates_f⟩:(Sl Gate))⟩:list) (⟨a0_n,a0_f⟩:(Sl Gate)) K hs hk⟩
  · rename_i a0_n a0_s a0_g c0_slope c0_start c0_den
    obtain ⟨⟨⟨rfl,a0_f,rfl⟩,hs⟩,hk⟩:=h
    try rw [zae a0_f] at hs
    try rw [zae a0_f] at hk
    exact ⟨(fun _ _=>[]),(fun _=>false),zsp,zOQ (⟨c0_slope,c0_start,c0_den⟩:straight) (⟨a0_n,a0_f⟩:(Sl Gate)) K hs hk⟩
  · rename_i a0_n a0_s a0_g c0_slope c0_start c0_den
    obtain ⟨⟨⟨rfl,a0_f,rfl⟩,hs⟩,hk⟩:=h
    try rw [zae a0_f] at hs
    try rw [zae a0_f] at hk
    exact ⟨(fun _ _=>[]),(fun _=>false),zsr,zOS (⟨c0_slope,c0_start,c0_den⟩:straight) (⟨a0_n,a0_f⟩:(Sl Gate)) K hs hk⟩
  · exact h.elim
abbrev T99:Tabs:=(Tabs.nil.addF 119 zyq)
theorem zOU:TabsOk Try.prog T99:=(TabsOk.nil.addF zOT)
abbrev G99:Ctrs:=csm T99 (fun _ _=>[]) (fun _=>false)
def zLG:Ann:=⟨9,[(0,zK [0,1] []),(1,zK [4] [])],
 [],
 [],
 [],[]⟩
abbrev R99:=Bool
abbrev e99 (r:R99):List PA:=[.one (.bool r)]
section
variable {K:List PA→Prop} {c0:list} {s:(Sl Gate)}
def s99 (c0:list) (s:(Sl Gate)):Bool :=
  (decide ((zON c0 s) ≥ (0:Int)))
def p99 (c0:list) (s:(Sl Gate)):Bool :=
  (decide ((zOO c0 s=true)) &&
 true)
end
theorem q99 (c0:list) (s:(Sl Gate)) (K:List PA→Prop) (hs:p99 c0 s=true) (hk:K (e99 (s99 c0 s))):vcFun Try.prog G99 zLG 99 [.one (.sl s.len 3 (fun i=>enc_55 (s.get i))),.one (.fn 100 [] [.fp (zcL c0) 0])] K :=
  zaI (by kernel_rfl) (zaE hs fun hc hs=>And.intro (And.intro (zE enc_55 3 s.get) (And.intro (zE enc_55 3 c0.Gates.get) hc)) hk)
abbrev zRr:Ctrs:=csm T99 (fun _ _=>[]) (fun _=>false)
def zEG:Ann:=⟨9,[(0,zK [0,1] []),(1,zK [4] [])],
 [],
 [],
 [],[]⟩
abbrev zRs:=Bool
abbrev zRt (r:zRs):List PA:=[.one (.bool r)]
section
variable {K:List PA→Prop} {c0:straight} {s:(Sl Gate)}
def zOV (c0:straight) (s:(Sl Gate)):Bool :=
  (decide ((zGQ c0 s) ≥ (0:Int)))
def zOW (c0:straight) (s:(Sl Gate)):Bool :=
  (decide ((zGR c0 s=true)) &&
 true)
end
theorem zRu (c0:straight) (s:(Sl Gate)) (K:List PA→Prop) (hs:zOW c0 s=true) (hk:K (zRt (zOV c0 s))):vcFun Try.prog zRr zEG 99 [.one (.sl s.len 3 (fun i=>enc_55 (s.get i))),.one (.fn 117 [] [.fp (zak c0) 0])] K :=
  zaI (by kernel_rfl) (zaE hs fun hc hs=>And.intro (And.intro (zE enc_55 3 s.get) hc) hk)
abbrev zRv:Ctrs:=csm T99 (fun _ _=>[]) (fun _=>false)
def zEH:Ann:=⟨9,[(0,zK [0,1] []),(1,zK [4] [])],
 [],
 [],
 [],[]⟩
abbrev zRw:=Bool
abbrev zRx (r:zRw):List PA:=[.one (.bool r)]
section
variable {K:List PA→Prop} {c0:straight} {s:(Sl Gate)}
def zOX (c0:straight) (s:(Sl Gate)):Bool :=
  (decide ((zGS c0 s) ≥ (0:Int)))
def zOY (c0:straight) (s:(Sl Gate)):Bool :=
  (decide ((zGT c0 s=true)) &&
 true)
end
theorem zRy (c0:straight) (s:(Sl Gate)) (K:List PA→Prop) (hs:zOY c0 s=true) (hk:K (zRx (zOX c0 s))):vcFun Try.prog zRv zEH 99 [.one (.sl s.len 3 (fun i=>enc_55 (s.get i))),.one (.fn 123 [] [.fp (zak c0) 0])] K :=
  zaI (by kernel_rfl) (zaE hs fun hc hs=>And.intro (And.intro (zE enc_55 3 s.get) hc) hk)
def zyr : List PA → COut
  | [.one (.sl a0_n a0_s a0_g),.one (.fn 100 [] [.fp [.sl c0_Gates_n c0_Gates_s c0_Gates_g] 0])]=>.det (IsE enc_55 3 a0_s a0_g∧IsE enc_55 3 c0_Gates_s c0_Gates_g∧p99 (⟨(⟨c0_Gates_n,zaf c0_Gates_g⟩:(Sl Gate))⟩:list) (⟨a0_n,zaf a0_g⟩:(Sl Gate))=true) [.one (.bool (s99 (⟨(⟨c0_Gates_n,zaf c0_Gates_g⟩:(Sl Gate))⟩:list) (⟨a0_n,zaf a0_g⟩:(Sl Gate))))]
  | [.one (.sl a0_n a0_s a0_g),.one (.fn 117 [] [.fp [.int .i64 c0_slope,.int .i64 c0_start,.int .i64 c0_den] 0])]=>.det (IsE enc_55 3 a0_s a0_g∧zOW (⟨c0_slope,c0_start,c0_den⟩:straight) (⟨a0_n,zaf a0_g⟩:(Sl Gate))=true) [.one (.bool (zOV (⟨c0_slope,c0_start,c0_den⟩:straight) (⟨a0_n,zaf a0_g⟩:(Sl Gate))))]
  | [.one (.sl a0_n a0_s a0_g),.one (.fn 123 [] [.fp [.int .i64 c0_slope,.int .i64 c0_start,.int .i64 c0_den] 0])]=>.det (IsE enc_55 3 a0_s a0_g∧zOY (⟨c0_slope,c0_start,c0_den⟩:straight) (⟨a0_n,zaf a0_g⟩:(Sl Gate))=true) [.one (.bool (zOX (⟨c0_slope,c0_start,c0_den⟩:straight) (⟨a0_n,zaf a0_g⟩:(Sl Gate))))]
  | _=>.no
theorem zLH:zaj Try.prog 99:=⟨_,rfl,rfl,by kernel_rfl⟩
theorem zOZ:Ok Try.prog 99 zyr:=zaP zOU zLH fun args K h=>by
  unfold zyr at h
  split at h
  · rename_i a0_n a0_s a0_g c0_Gates_n c0_Gates_s c0_Gates_g
    obtain ⟨⟨⟨rfl,a0_f,rfl⟩,⟨rfl,c0_Gates_f,rfl⟩,hs⟩,hk⟩:=h
    try rw [zae a0_f] at hs
    try rw [zae a0_f] at hk
    try rw [zae c0_Gates_f] at hs
    try rw [zae c0_Gates_f] at hk
    exact ⟨(fun _ _=>[]),(fun _=>false),zLG,q99 (⟨(⟨c0_Gates_n,c0_Gates_f⟩:(Sl Gate))⟩:list) (⟨a0_n,a0_f⟩:(Sl Gate)) K hs hk⟩
  · rename_i a0_n a0_s a0_g c0_slope c0_start c0_den
    obtain ⟨⟨⟨rfl,a0_f,rfl⟩,hs⟩,hk⟩:=h
    try rw [zae a0_f] at hs
    try rw [zae a0_f] at hk
    exact ⟨(fun _ _=>[]),(fun _=>false),zEG,zRu (⟨c0_slope,c0_start,c0_den⟩:straight) (⟨a0_n,a0_f⟩:(Sl Gate)) K hs hk⟩
  · rename_i a0_n a0_s a0_g c0_slope c0_start c0_den
    obtain ⟨⟨⟨rfl,a0_f,rfl⟩,hs⟩,hk⟩:=h
    try rw [zae a0_f] at hs
    try rw [zae a0_f] at hk
    exact ⟨(fun _ _=>[]),(fun _=>false),zEH,zRy (⟨c0_slope,c0_start,c0_den⟩:straight) (⟨a0_n,a0_f⟩:(Sl Gate)) K hs hk⟩
  · exact h.elim
abbrev T67:Tabs:=(Tabs.nil.addF 99 zyr)
theorem zO0:TabsOk Try.prog T67:=(TabsOk.nil.addF zOZ)
abbrev G67:Ctrs:=csm T67 (fun _ _=>[]) (fun _=>false)
def zLI:Ann:=⟨8,[(0,zK [1] [1]),(1,zK [2] [])],
 [],
 [],
 [],[]⟩
abbrev R67:=Bool
abbrev e67 (r:R67):List PA:=[.one (.bool r)]
section
variable {K:List PA→Prop} {l_a0:list}
def s67 (l_a0:list):Bool :=
  (!(s99 l_a0 l_a0.Gates))
def p67 (l_a0:list):Bool :=
  (decide ((p99 l_a0 l_a0.Gates=true)) &&
 true)
end
theorem q67 (l_a0:list) (K:List PA→Prop) (hs:p67 l_a0=true) (hk:K (e67 (s67 l_a0))):vcFun Try.prog G67 zLI 67 [.agg (zcL l_a0)] K :=
  zaI (by kernel_rfl) (zaE hs fun hc hs=>And.intro (And.intro (zE enc_55 3 l_a0.Gates.get) (And.intro (zE enc_55 3 l_a0.Gates.get) hc)) hk)
def zst : List PA → COut
  | [.agg [.sl a0_Gates_n a0_Gates_s a0_Gates_g]]=>.det (IsE enc_55 3 a0_Gates_s a0_Gates_g∧p67 (⟨(⟨a0_Gates_n,zaf a0_Gates_g⟩:(Sl Gate))⟩:list)=true) [.one (.bool (s67 (⟨(⟨a0_Gates_n,zaf a0_Gates_g⟩:(Sl Gate))⟩:list)))]
  | _=>.no
theorem zLJ:zaj Try.prog 67:=⟨_,rfl,rfl,by kernel_rfl⟩
theorem zLK:Ok Try.prog 67 zst:=zaP zO0 zLJ fun args K h=>by
  unfold zst at h
  split at h
  · rename_i a0_Gates_n a0_Gates_s a0_Gates_g
    obtain ⟨⟨⟨rfl,a0_Gates_f,rfl⟩,hs⟩,hk⟩:=h
    try rw [zae a0_Gates_f] at hs
    try rw [zae a0_Gates_f] at hk
    exact ⟨(fun _ _=>[]),(fun _=>false),zLI,q67 (⟨(⟨a0_Gates_n,a0_Gates_f⟩:(Sl Gate))⟩:list) K hs hk⟩
  · exact h.elim
abbrev zQz:Tabs:=Tabs.nil
theorem zLL:TabsOk Try.prog zQz:=TabsOk.nil
abbrev zQA:Ctrs:=csm zQz (fun _ _=>[]) (fun _=>false)
def zys:Ann:=⟨12,[(0,zK [0,1] []),(1,zK [0,1,6] []),(2,zK [0,1] []),(3,zK [4] [])],
 [(1,zK [0,1] [])],
 [],
 [],[]⟩
abbrev zRz:=Int
abbrev zO1 (r:zRz):List PA:=[.one (.int .i64 r)]
@[irreducible] def z114:=ptF Try.prog zQA zys Try.f114
def zyt (av0:Int) (bv0:Int):St:=⟨[(0,zI av0),(1,zI bv0)],[],[]⟩
abbrev zEI (K:List PA→Prop) (X:St→Prop) (P:Int→Int→Bool) (S:Int→Int→Int):Prop:=∀ ⦃av0:Int⦄ ⦃bv0:Int⦄,P av0 bv0=true→K (zO1 (S av0 bv0))→X (zyt av0 bv0)
section
variable {K:List PA→Prop} {a:Int} {b:Int} {av0:Int} {bv0:Int} {X0:St→Prop} {P0:Int→Int→Bool} {S0:Int→Int→Int}
def zuO (S0:Int→Int→Int) (av0:Int) (bv0:Int):Int :=
  (cond (decide (bv0 > (0:Int)))
 (S0 bv0 (av0.tmod bv0))
 av0)
def zuP (P0:Int→Int→Bool) (av0:Int) (bv0:Int):Bool :=
  (cond (decide (bv0 > (0:Int)))
 (decide ((bv0 ≠ 0)) &&
 (P0 bv0 (av0.tmod bv0)))
 true)
def zuQ:Nat→Int→Int→Int:=lpO (fun _ _=>default) (zuO)
def zuR:Nat→Int→Int→Bool:=lpO (fun _ _=>false) (zuP)
def zuS (av0:Int) (bv0:Int):Int:=zuQ Fuel av0 bv0
def zuT (av0:Int) (bv0:Int):Bool:=zuR Fuel av0 bv0
theorem zDj (hs:zuT av0 bv0=true) (hk:K (zO1 (zuS av0 bv0))):z114 K [1,0,0] [] (zyt av0 bv0) :=
  zl (fun X=>z114 K [1,0,0,0] [X]) (by kernel_rfl) fun X0 hX =>
  (show ∀ k, zEI K X0 (zuR k) (zuQ k) from zfT _ _ (zuP) (zuO) (zEI K X0)
 (by intro _ _ hs;exact absurd hs Bool.false_ne_true)
 (by intro P0 S0 hX0 av0 bv0 hs hk;exact hX _ (zaI (by kernel_rfl) (zc hs hk (fun hs hk=>(zaE hs fun hc hs=>And.intro hc (hX0 hs hk))) (fun hs hk=>hk))))) _ hs hk
def zKs (a:Int) (b:Int):Int :=
  (zuS a b)
def zO2 (a:Int) (b:Int):Bool :=
  (zuT a b)
end
theorem zRA (a:Int) (b:Int) (K:List PA→Prop) (hs:zO2 a b=true) (hk:K (zO1 (zKs a b))):vcFun Try.prog zQA zys 114 [.one (.int .i64 a),.one (.int .i64 b)] K :=
  zaI (by kernel_rfl) (zDj hs hk)
def zyu : List PA → COut
  | [.one (.int .i64 a0),.one (.int .i64 a1)]=>.det (zO2 a0 a1=true) [.one (.int .i64 (zKs a0 a1))]
  | _=>.no
theorem zGV:zaj Try.prog 114:=⟨_,rfl,rfl,by kernel_rfl⟩
theorem zO3:Ok Try.prog 114 zyu:=zaP zLL zGV fun args K h=>by
  unfold zyu at h
  split at h
  · rename_i a0 a1
    obtain ⟨hs,hk⟩:=h
    exact ⟨(fun _ _=>[]),(fun _=>false),zys,zRA a0 a1 K hs hk⟩
  · exact h.elim
abbrev T89:Tabs:=(Tabs.nil.addF 114 zyu)
theorem zO4:TabsOk Try.prog T89:=(TabsOk.nil.addF zO3)
abbrev G89:Ctrs:=csm T89 (fun _ _=>[]) (fun _=>false)
def zLM:Ann:=⟨19,[(0,zK [0,1,4] [4]),(1,zK [0,1,4,5] [4]),(2,zK [4] [4])],
 [],
 [],
 [],[]⟩
abbrev R89:=Frac
abbrev e89 (r:R89):List PA:=[.agg [.int .i64 r.Num,.int .i64 r.Den]]
section
variable {K:List PA→Prop} {num:Int} {den:Int}
def s89 (num:Int) (den:Int):Frac :=
  (⟨(w64 (num.tdiv (zKs (if (w64 (0 - num)) > num then (w64 (0 - num)) else num) den))),(w64 (den.tdiv (zKs (if (w64 (0 - num)) > num then (w64 (0 - num)) else num) den)))⟩:Frac)
def p89 (num:Int) (den:Int):Bool :=
  (decide ((zO2 (if (w64 (0 - num)) > num then (w64 (0 - num)) else num) den=true)) &&
 (decide (((zKs (if (w64 (0 - num)) > num then (w64 (0 - num)) else num) den) ≠ 0)) &&
 (decide (((zKs (if (w64 (0 - num)) > num then (w64 (0 - num)) else num) den) ≠ 0)) &&
 true)))
end
theorem q89 (num:Int) (den:Int) (K:List PA→Prop) (hs:p89 num den=true) (hk:K (e89 (s89 num den))):vcFun Try.prog G89 zLM 89 [.one (.int .i64 num),.one (.int .i64 den)] K :=
  zaI (by kernel_rfl) (zaE hs fun hc hs=>And.intro hc (zaE hs fun hc hs=>And.intro hc (zaE hs fun hc hs=>And.intro hc hk)))
def zwu : List PA → COut
  | [.one (.int .i64 a0),.one (.int .i64 a1)]=>.det (p89 a0 a1=true) [.agg [.int .i64 ((s89 a0 a1).Num),.int .i64 ((s89 a0 a1).Den)]]
  | _=>.no
theorem zLN:zaj Try.prog 89:=⟨_,rfl,rfl,by kernel_rfl⟩
theorem zN8:Ok Try.prog 89 zwu:=zaP zO4 zLN fun args K h=>by
  unfold zwu at h
  split at h
  · rename_i a0 a1
    obtain ⟨hs,hk⟩:=h
    exact ⟨(fun _ _=>[]),(fun _=>false),zLM,q89 a0 a1 K hs hk⟩
  · exact h.elim
abbrev T79:Tabs:=(Tabs.nil.addF 89 zwu)
theorem zO5:TabsOk Try.prog T79:=(TabsOk.nil.addF zN8)
abbrev G79:Ctrs:=csm T79 (fun _ _=>[]) (fun _=>false)
def zLO:Ann:=⟨14,[(0,zK [1,2] [1,2]),(1,zK [2] [2])],
 [],
 [],
 [],[]⟩
abbrev R79:=Line
abbrev e79 (r:R79):List PA:=[.agg [.int .i64 r.Slope.Num,.int .i64 r.Slope.Den,.int .i64 r.Start.Num,.int .i64 r.Start.Den]]
section
variable {K:List PA→Prop} {s:straight}
def s79 (s:straight):Line :=
  (⟨(s89 s.slope s.den),(s89 s.start s.den)⟩:Line)
def p79 (s:straight):Bool :=
  (decide ((p89 s.slope s.den=true)) &&
 (decide ((p89 s.start s.den=true)) &&
 true))
end
theorem q79 (s:straight) (K:List PA→Prop) (hs:p79 s=true) (hk:K (e79 (s79 s))):vcFun Try.prog G79 zLO 79 [.agg (zak s)] K :=
  zaI (by kernel_rfl) (zaE hs fun hc hs=>And.intro hc (zaE hs fun hc hs=>And.intro hc hk))
def zDk : List PA → COut
  | [.agg [.int .i64 a0_slope,.int .i64 a0_start,.int .i64 a0_den]]=>.det (p79 (⟨a0_slope,a0_start,a0_den⟩:straight)=true) [.agg [.int .i64 ((s79 (⟨a0_slope,a0_start,a0_den⟩:straight)).Slope.Num),.int .i64 ((s79 (⟨a0_slope,a0_start,a0_den⟩:straight)).Slope.Den),.int .i64 ((s79 (⟨a0_slope,a0_start,a0_den⟩:straight)).Start.Num),.int .i64 ((s79 (⟨a0_slope,a0_start,a0_den⟩:straight)).Start.Den)]]
  | _=>.no
theorem zLP:zaj Try.prog 79:=⟨_,rfl,rfl,by kernel_rfl⟩
theorem zQB:Ok Try.prog 79 zDk:=zaP zO5 zLP fun args K h=>by
  unfold zDk at h
  split at h
  · rename_i a0_slope a0_start a0_den
    obtain ⟨hs,hk⟩:=h
    exact ⟨(fun _ _=>[]),(fun _=>false),zLO,q79 (⟨a0_slope,a0_start,a0_den⟩:straight) K hs hk⟩
  · exact h.elim
abbrev T96:Tabs:=Tabs.nil
theorem zO6:TabsOk Try.prog T96:=TabsOk.nil
abbrev G96:Ctrs:=csm T96 (fun _ _=>[]) (fun _=>false)
def zGW:Ann:=⟨4,[(0,⟨[1],[1],[],[],[],[],[]⟩),(1,⟨[2],[],[],[],[],[],[]⟩)],
 [],
 [],
 [],[]⟩
theorem zGX (l_a0 : list) (K : List PA → Prop) :
  vcFun Try.prog G96 zGW 96 [.agg [.sl l_a0.Gates.len 3 (fun i=>enc_55 (l_a0.Gates.get i))]] K =
  (K [.one (.fn 115 [] [.fp (zcL l_a0) 0])]):=by kernel_rfl
theorem q96 (l_a0:list) (K:List PA→Prop) (hk:K [.one (.fn 115 [] [.fp (zcL l_a0) 0])]):vcFun Try.prog G96 zGW 96 [.agg [.sl l_a0.Gates.len 3 (fun i=>enc_55 (l_a0.Gates.get i))]] K:=zaI (zGX l_a0 K) hk
def zGY : List PA → COut
  | [.agg [.sl a0_Gates_n a0_Gates_s a0_Gates_g]]=>.det (IsE enc_55 3 a0_Gates_s a0_Gates_g) [.one (.fn 115 [] [.fp (zcL (⟨(⟨a0_Gates_n,zaf a0_Gates_g⟩:(Sl Gate))⟩:list)) 0])]
  | _=>.no
theorem zLQ:zaj Try.prog 96:=⟨_,rfl,rfl,by kernel_rfl⟩
theorem zRB:Ok Try.prog 96 zGY:=zaP zO6 zLQ fun args K h=>by
  unfold zGY at h
  split at h
  · rename_i a0_Gates_n a0_Gates_s a0_Gates_g
    obtain ⟨⟨rfl,a0_Gates_f,rfl⟩,hk⟩:=h
    try rw [zae a0_Gates_f] at hk
    exact ⟨fun _ _=>[],fun _=>false,zGW,q96 (⟨(⟨a0_Gates_n,a0_Gates_f⟩:(Sl Gate))⟩:list) K hk⟩
  · exact h.elim
abbrev T97:Tabs:=(Tabs.nil.addF 99 zyr)
theorem zO7:TabsOk Try.prog T97:=(TabsOk.nil.addF zOZ)
abbrev G97:Ctrs:=csm T97 (fun _ _=>[]) (fun _=>false)
def zGZ:Ann:=⟨11,[(0,zK [2,3] [2,3]),(1,zK [4] [])],
 [],
 [],
 [],[]⟩
abbrev R97:=Bool
abbrev e97 (r:R97):List PA:=[.one (.bool r)]
section
variable {K:List PA→Prop} {s:set} {x:straight}
def s97 (s:set) (x:straight):Bool :=
  (!(zOV x s.list.Gates))
def p97 (s:set) (x:straight):Bool :=
  (decide ((zOW x s.list.Gates=true)) &&
 true)
end
theorem q97 (s:set) (x:straight) (K:List PA→Prop) (hs:p97 s x=true) (hk:K (e97 (s97 s x))):vcFun Try.prog G97 zGZ 97 [.agg (zbj s),.agg (zak x)] K :=
  zaI (by kernel_rfl) (zaE hs fun hc hs=>And.intro (And.intro (zE enc_55 3 s.list.Gates.get) hc) hk)
def zG0 : List PA → COut
  | [.agg [.sl a0_list_Gates_n a0_list_Gates_s a0_list_Gates_g,.sl a0_corners_n a0_corners_s a0_corners_g],.agg [.int .i64 a1_slope,.int .i64 a1_start,.int .i64 a1_den]]=>.det (IsE enc_55 3 a0_list_Gates_s a0_list_Gates_g∧IsE zak 3 a0_corners_s a0_corners_g∧p97 (⟨(⟨(⟨a0_list_Gates_n,zaf a0_list_Gates_g⟩:(Sl Gate))⟩:list),(⟨a0_corners_n,za9 a0_corners_g⟩:(Sl straight))⟩:set) (⟨a1_slope,a1_start,a1_den⟩:straight)=true) [.one (.bool (s97 (⟨(⟨(⟨a0_list_Gates_n,zaf a0_list_Gates_g⟩:(Sl Gate))⟩:list),(⟨a0_corners_n,za9 a0_corners_g⟩:(Sl straight))⟩:set) (⟨a1_slope,a1_start,a1_den⟩:straight)))]
  | [.agg [.sl a0_list_Gates_n a0_list_Gates_s a0_list_Gates_g,.nils],.agg [.int .i64 a1_slope,.int .i64 a1_start,.int .i64 a1_den]]=>.det (IsE enc_55 3 a0_list_Gates_s a0_list_Gates_g∧p97 (⟨(⟨(⟨a0_list_Gates_n,zaf a0_list_Gates_g⟩:(Sl Gate))⟩:list),(⟨0,fun _=>default⟩:(Sl straight))⟩:set) (⟨a1_slope,a1_start,a1_den⟩:straight)=true) [.one (.bool (s97 (⟨(⟨(⟨a0_list_Gates_n,zaf a0_list_Gates_g⟩:(Sl Gate))⟩:list),(⟨0,fun _=>default⟩:(Sl straight))⟩:set) (⟨a1_slope,a1_start,a1_den⟩:straight)))]
  | _=>.no
theorem zLR:zaj Try.prog 97:=⟨_,rfl,rfl,by kernel_rfl⟩
theorem zRC:Ok Try.prog 97 zG0:=zfo zO7 zLR fun args K h=>by
  unfold zG0 at h
  split at h
  · rename_i a0_list_Gates_n a0_list_Gates_s a0_list_Gates_g a0_corners_n a0_corners_s a0_corners_g a1_slope a1_start a1_den
    obtain ⟨⟨⟨rfl,a0_list_Gates_f,rfl⟩,⟨rfl,a0_corners_f,rfl⟩,hs⟩,hk⟩:=h
    try rw [zae a0_list_Gates_f] at hs
    try rw [zae a0_list_Gates_f] at hk
    try rw [za3 a0_corners_f] at hs
    try rw [za3 a0_corners_f] at hk
    exact ⟨_,zeL zeM _,(fun _ _=>[]),(fun _=>false),zGZ,q97 (⟨(⟨(⟨a0_list_Gates_n,a0_list_Gates_f⟩:(Sl Gate))⟩:list),(⟨a0_corners_n,a0_corners_f⟩:(Sl straight))⟩:set) (⟨a1_slope,a1_start,a1_den⟩:straight) (Wk K) hs (zdI hk)⟩
  · rename_i a0_list_Gates_n a0_list_Gates_s a0_list_Gates_g a1_slope a1_start a1_den
    obtain ⟨⟨⟨rfl,a0_list_Gates_f,rfl⟩,hs⟩,hk⟩:=h
    try rw [zae a0_list_Gates_f] at hs
    try rw [zae a0_list_Gates_f] at hk
    exact ⟨_,(zdv (.agg (zdv (.rfl _) (zdv (.nil _ _) zhi))) (zdv (zeM _) zhi)),(fun _ _=>[]),(fun _=>false),zGZ,q97 (⟨(⟨(⟨a0_list_Gates_n,a0_list_Gates_f⟩:(Sl Gate))⟩:list),(⟨0,fun _=>default⟩:(Sl straight))⟩:set) (⟨a1_slope,a1_start,a1_den⟩:straight) (Wk K) hs (zdI hk)⟩
  · exact h.elim
abbrev zQC:Tabs:=Tabs.nil
theorem zLS:TabsOk Try.prog zQC:=TabsOk.nil
abbrev zQD:Ctrs:=csm zQC (fun _ _=>[]) (fun _=>false)
def zyv:Ann:=⟨30,[(0,zK [0,1,2,3,8] [8]),(1,zK [0,1,2,3,8,11] [8]),(2,zK [0,1,2,3,8] [8]),(3,zK [8] [8])],
 [],
 [(3,zK [0,1,2,3,8] [8])],
 [],[]⟩
abbrev zRD:=straight
abbrev e116 (r:zRD):List PA:=[.agg [.int .i64 r.slope,.int .i64 r.start,.int .i64 r.den]]
@[irreducible] def z116:=ptF Try.prog zQD zyv Try.f116
section
variable {K:List PA→Prop} {z:Int} {p:Int} {y_a2:Int} {q:Int} {zv0:Int} {pv0:Int} {yv0:Int} {qv0:Int}
def zov (zv0:Int) (pv0:Int) (yv0:Int) (qv0:Int):straight :=
  (⟨(w64 (qv0 - pv0)),(w64 ((w64 (pv0 * yv0)) - (w64 (qv0 * zv0)))),(w64 (yv0 - zv0))⟩:straight)
theorem zuU (hk:K (e116 (zov zv0 pv0 yv0 qv0))):z116 K [1,1] [] ⟨[(0,zI zv0),(1,zI pv0),(2,zI yv0),(3,zI qv0),(8,zp 8 0)],[(8,.box 118 (zm (zak (⟨(0:Int),(0:Int),(0:Int)⟩:straight))))],[]⟩:=zaI (by kernel_rfl) hk
def zni (z:Int) (p:Int) (y_a2:Int) (q:Int):straight :=
  (cond (decide (z > y_a2))
 (zov y_a2 q z p)
 (zov z p y_a2 q))
end
theorem zRE (z:Int) (p:Int) (y_a2:Int) (q:Int) (K:List PA→Prop) (hk:K (e116 (zni z p y_a2 q))):vcFun Try.prog zQD zyv 116 [.one (.int .i64 z),.one (.int .i64 p),.one (.int .i64 y_a2),.one (.int .i64 q)] K :=
  zaI (by kernel_rfl) (zt hk (fun hk=>(zuU hk)) (fun hk=>(zuU hk)))
def zyw : List PA → COut
  | [.one (.int .i64 a0),.one (.int .i64 a1),.one (.int .i64 a2),.one (.int .i64 a3)]=>.tot [.agg [.int .i64 ((zni a0 a1 a2 a3).slope),.int .i64 ((zni a0 a1 a2 a3).start),.int .i64 ((zni a0 a1 a2 a3).den)]]
  | _=>.no
theorem zG1:zaj Try.prog 116:=⟨_,rfl,rfl,by kernel_rfl⟩
theorem zO8:Ok Try.prog 116 zyw:=zaP zLS zG1 fun args K h=>by
  unfold zyw at h
  split at h
  · rename_i a0 a1 a2 a3
    have hk:=h
    exact ⟨(fun _ _=>[]),(fun _=>false),zyv,zRE a0 a1 a2 a3 K hk⟩
  · exact h.elim
abbrev zQE:Tabs:=(Tabs.nil.addF 116 zyw)
theorem zLT:TabsOk Try.prog zQE:=(TabsOk.nil.addF zO8)
abbrev zyx:Ctrs:=csm zQE (fun _ _=>[]) (fun _=>false)
def zcK:Ann:=⟨64,[(0,⟨[0,1,12,13,14],[],[],[],[],[],[]⟩),(1,⟨[0,1,12,13,14,15],[],[],[],[],[],[]⟩),(2,⟨[0,1,3,4,12,13,14],[4],[],[],[],[],[]⟩),(3,⟨[0,1,4,12,13,14,23,24,25],[4],[],[],[],[],[]⟩),(4,⟨[0,1,4,12,13,14,23,24,25,26],[4],[],[],[],[],[]⟩),(5,⟨[0,1,4,6,12,13,14,23,24,25],[4,6],[],[],[],[],[]⟩),(6,⟨[0,1,4,6,12,13,14,23,24,25,33],[4,6],[],[],[],[],[]⟩),(7,⟨[0,1,4,6,12,13,14,23,24,25,38,39],[4,6],[],[],[],[],[]⟩),(8,⟨[0,1,4,6,12,13,14,23,24,25,38,39,40],[4,6],[],[],[],[],[]⟩),(9,⟨[0,1,4,6,8,12,13,14,23,24,25,38,39],[4,6],[],[],[],[],[]⟩),(10,⟨[0,1,4,6,8,12,13,14,23,24,25,38,39,46,47],[4,6],[],[],[],[],[]⟩),(11,⟨[0,1,4,6,8,12,13,14,23,24,25,38,39,46,47,48],[4,6],[],[],[],[],[]⟩),(12,⟨[0,1,4,6,8,10,12,13,14,23,24,25,38,39,46,47],[4,6],[],[],[],[],[]⟩),(13,⟨[0,1,4,6,8,12,13,14,23,24,25,38,39,46,47,59],[4,6],[],[],[],[],[]⟩),(14,⟨[0,1,4,6,8,12,13,14,23,24,25,38,39,46,47],[4,6],[],[],[],[],[]⟩),(15,⟨[0,1,4,6,12,13,14,23,24,25,38,39],[4,6],[],[],[],[],[]⟩),(16,⟨[0,1,4,12,13,14,23,24,25],[4],[],[],[],[],[]⟩),(17,⟨[0,1,12,13,14],[],[],[],[],[],[]⟩)],
 [(1,⟨[0,1,12,13,14],[],[],[],[],[],[]⟩),(4,⟨[0,1,4,12,13,14,23,24,25],[4],[],[],[],[4],[]⟩)],
 [],
 [(8,3,⟨[0,1,4,6,12,13,14,23,24,25,38,39],[4,6],[],[],[],[],[]⟩),(11,3,⟨[0,1,4,6,8,12,13,14,23,24,25,38,39,46,47],[4,6],[],[],[],[],[]⟩)],[13]⟩
def zgf (l:Nat) (a:list) (zam:Int):St:=⟨[(0,.one (.c (.p (.yl l)))),(1,.one (.c (.p (.fp (zcL a) 0)))),(12,.one (.c (.p (.sl a.Gates.len 3 (fun i=>enc_55 (a.Gates.get i)))))),(13,.one (.c (.p (.int .i64 (a.Gates.len:Int))))),(14,.one (.c (.p (.int .i64 zam))))],[],[]⟩
def ziu (l:Nat) (ys:List (List PA)) (a:list) (zam:Int):Prop:=vcY Try.prog zyx zcK l (cdF Try.f115 [1,0]) (zdQ 0 zmG) ys false (zgf l a zam)
def zgg (l:Nat) (a:list) (za7:Int) (zgh:Nat) (zcM:Nat→List PV) (zb5:Int) (zaO:Int) (zbk:Int) (zbI:Int) (zbJ:Int):St:=⟨[(0,.one (.c (.p (.yl l)))),(1,.one (.c (.p (.fp (zcL a) 0)))),(4,.one (.c (.ptr 4 0))),(12,.one (.c (.p (.sl a.Gates.len 3 (fun i=>enc_55 (a.Gates.get i)))))),(13,.one (.c (.p (.int .i64 (a.Gates.len:Int))))),(14,.one (.c (.p (.int .i64 za7)))),(23,.one (.c (.p (.sl zgh 3 zcM)))),(24,.one (.c (.p (.int .i64 zb5)))),(25,.one (.c (.p (.int .i64 zaO))))],[(4,.fbox [.int .i64 zbk,.int .i64 zbI,.int .i64 zbJ])],[]⟩
def ziv (l:Nat) (X0:List (List PA)→Bool→St→Prop) (ys:List (List PA)) (a:list) (za7:Int) (zgh:Nat) (zcM:Nat→List PV) (zb5:Int) (zaO:Int) (zbk:Int) (zbI:Int) (zbJ:Int):Prop:=vcY Try.prog zyx zcK l (cdF Try.f115 [1,0,0,1,1,0,0,1,1,0]) (zdQ 2 (zdQ 1 (zKG (zKI Try.prog zcK 17 (vcY Try.prog zyx zcK l (cdF Try.f115 [1,0,0,1,1,1]) (zkc Try.prog zcK 1 X0 (zdQ 0 zmG)))) (zkc Try.prog zcK 1 X0 (zdQ 0 zmG))))) ys false (zgg l a za7 zgh zcM zb5 zaO zbk zbI zbJ)
theorem zDl (l : Nat) (a : list) (ys : List (List PA)) :
  vcIter Try.prog zyx zcK 115 l [.one (.fp (zcL a) 0)] ys =
  (ziu l ys a (0:Int)):=by kernel_rfl
def znj (l:Nat) (X0:List (List PA)→Bool→St→Prop) (ys:List (List PA)) (a:list) (zam:Int):Prop :=
  (zcP (decide (zam < (a.Gates.len : Int)))
 (((0≤zam∧zam < (a.Gates.len:Int))) ∧
 (((0≤(w64 (zam+(1:Int)))∧(w64 (zam+(1:Int)))≤(a.Gates.len:Int)∧(a.Gates.len:Int)≤(a.Gates.len:Int))) ∧
 (ziv l  X0 ys a zam (((a.Gates.len:Int) - (w64 (zam+(1:Int)))).toNat) (slG (fun i=>enc_55 (a.Gates.get i)) ((w64 (zam+(1:Int))).toNat)) (((a.Gates.len:Int) - (w64 (zam+(1:Int)))).toNat:Int) (0:Int) ((a.Gates.get zam.toNat).Z) ((a.Gates.get zam.toNat).Low) ((a.Gates.get zam.toNat).High))))
 (ys=[]))
theorem zqG (l : Nat) (X0 : List (List PA) → Bool → St → Prop) (ys : List (List PA)) (a : list) (zam : Int) :
  vcY Try.prog zyx zcK l (cd (cdF Try.f115 [1,0]) [0]) (zkc Try.prog zcK 1 X0 (zdQ 0 zmG)) ys false (zgf l a zam) =
  znj l X0 ys a zam:=by kernel_rfl
theorem zwv (l : Nat) (ys : List (List PA)) (a : list) (zam : Int)
  (h:∀ X0:List (List PA)→Bool→St→Prop,(∀ (ys:List (List PA)) (zam:Int),znj l X0 ys a zam→X0 ys false (zgf l a zam))→X0 ys false (zgf l a zam)) :
  ziu l ys a zam:=by
  have e:ziu l ys a zam=(∀ X:List (List PA)→Bool→St→Prop,(∀ ys q s,vcY Try.prog zyx zcK l (cd (cdF Try.f115 [1,0]) [0]) (zkc Try.prog zcK 1 X (zdQ 0 zmG)) ys q s→X ys q s)→X ys false (zgf l a zam)):=by kernel_rfl
  refine zaI e ?_
  intro X hX
  refine h X ?_
  intro ys zam hs
  refine hX _ _ _ ?_
  have e2:=zqG l X ys a zam
  rw [e2]
  exact hs
def znk (l:Nat) (X0:List (List PA)→Bool→St→Prop) (X1:List (List PA)→Bool→St→Prop) (ys:List (List PA)) (a:list) (za7:Int) (zaU:(Sl Gate)) (zb5:Int) (zaO:Int) (zbk:Int) (zbI:Int) (zbJ:Int):Prop :=
  (zcP (decide (zaO < zb5))
 (((0≤zaO∧zaO < (zaU.len:Int))) ∧
 (zcP (zbk == (zaU.get zaO.toNat).Z)
 (X1 ys false (zgg l a za7 zaU.len (fun i=>enc_55 (zaU.get i)) zb5 (w64 (zaO+(1:Int))) zbk zbI zbJ))
 (l=l∧∃ r1,ys=[.agg [.int .i64 ((zni zbk zbI ((zaU.get zaO.toNat).Z) ((zaU.get zaO.toNat).Low)).slope),.int .i64 ((zni zbk zbI ((zaU.get zaO.toNat).Z) ((zaU.get zaO.toNat).Low)).start),.int .i64 ((zni zbk zbI ((zaU.get zaO.toNat).Z) ((zaU.get zaO.toNat).Low)).den)]] :: r1 ∧
 (l=l∧∃ r2,r1=[.agg [.int .i64 ((zni zbk zbI ((zaU.get zaO.toNat).Z) ((zaU.get zaO.toNat).High)).slope),.int .i64 ((zni zbk zbI ((zaU.get zaO.toNat).Z) ((zaU.get zaO.toNat).High)).start),.int .i64 ((zni zbk zbI ((zaU.get zaO.toNat).Z) ((zaU.get zaO.toNat).High)).den)]] :: r2 ∧
 (l=l∧∃ r3,r2=[.agg [.int .i64 ((zni zbk zbJ ((zaU.get zaO.toNat).Z) ((zaU.get zaO.toNat).Low)).slope),.int .i64 ((zni zbk zbJ ((zaU.get zaO.toNat).Z) ((zaU.get zaO.toNat).Low)).start),.int .i64 ((zni zbk zbJ ((zaU.get zaO.toNat).Z) ((zaU.get zaO.toNat).Low)).den)]] :: r3 ∧
 (l=l∧∃ r4,r3=[.agg [.int .i64 ((zni zbk zbJ ((zaU.get zaO.toNat).Z) ((zaU.get zaO.toNat).High)).slope),.int .i64 ((zni zbk zbJ ((zaU.get zaO.toNat).Z) ((zaU.get zaO.toNat).High)).start),.int .i64 ((zni zbk zbJ ((zaU.get zaO.toNat).Z) ((zaU.get zaO.toNat).High)).den)]] :: r4 ∧
 (X1 r4 false (zgg l a za7 zaU.len (fun i=>enc_55 (zaU.get i)) zb5 (w64 (zaO+(1:Int))) zbk zbI zbJ))∧True)∧True)∧True)∧True)))
 (X0 ys false (zgf l a (w64 (za7+(1:Int))))))
theorem zqH (l : Nat) (X0 : List (List PA) → Bool → St → Prop) (X1 : List (List PA) → Bool → St → Prop) (ys : List (List PA)) (a : list) (za7 : Int) (zaU : (Sl Gate)) (zb5 : Int) (zaO : Int) (zbk : Int) (zbI : Int) (zbJ : Int) :
  vcY Try.prog zyx zcK l (cd (cdF Try.f115 [1,0,0,1,1,0,0,1,1,0]) [0]) (zkc Try.prog zcK 4 X1 (zdQ 2 (zdQ 1 (zKG (zKI Try.prog zcK 17 (vcY Try.prog zyx zcK l (cdF Try.f115 [1,0,0,1,1,1]) (zkc Try.prog zcK 1 X0 (zdQ 0 zmG)))) (zkc Try.prog zcK 1 X0 (zdQ 0 zmG)))))) ys false (zgg l a za7 zaU.len (fun i=>enc_55 (zaU.get i)) zb5 zaO zbk zbI zbJ) =
  znk l  X0 X1 ys a za7 zaU zb5 zaO zbk zbI zbJ:=by kernel_rfl
theorem zww (l : Nat) (X0 : List (List PA) → Bool → St → Prop) (ys : List (List PA)) (a : list) (za7 : Int) (zgh : Nat) (zcM : Nat → List PV) (zb5 : Int) (zaO : Int) (zbk : Int) (zbI : Int) (zbJ : Int)
  (h:∀ X1:List (List PA)→Bool→St→Prop,(∀ (ys:List (List PA)) (za7:Int) (zaU:(Sl Gate)) (zb5:Int) (zaO:Int) (zbk:Int) (zbI:Int) (zbJ:Int),znk l  X0 X1 ys a za7 zaU zb5 zaO zbk zbI zbJ→X1 ys false (zgg l a za7 zaU.len (fun i=>enc_55 (zaU.get i)) zb5 zaO zbk zbI zbJ))→X1 ys false (zgg l a za7 zgh zcM zb5 zaO zbk zbI zbJ)) :
  ziv l  X0 ys a za7 zgh zcM zb5 zaO zbk zbI zbJ:=by
  have e:ziv l  X0 ys a za7 zgh zcM zb5 zaO zbk zbI zbJ=(∀ X:List (List PA)→Bool→St→Prop,(∀ ys q s,vcY Try.prog zyx zcK l (cd (cdF Try.f115 [1,0,0,1,1,0,0,1,1,0]) [0]) (zkc Try.prog zcK 4 X (zdQ 2 (zdQ 1 (zKG (zKI Try.prog zcK 17 (vcY Try.prog zyx zcK l (cdF Try.f115 [1,0,0,1,1,1]) (zkc Try.prog zcK 1 X0 (zdQ 0 zmG)))) (zkc Try.prog zcK 1 X0 (zdQ 0 zmG)))))) ys q s→X ys q s)→X ys false (zgg l a za7 zgh zcM zb5 zaO zbk zbI zbJ)):=by kernel_rfl
  refine zaI e ?_
  intro X hX
  refine h X ?_
  intro ys za7 zaU zb5 zaO zbk zbI zbJ hs
  refine hX _ _ _ ?_
  have e2:=zqH l  X0 X ys a za7 zaU zb5 zaO zbk zbI zbJ
  rw [e2]
  exact hs
attribute [irreducible] ziu ziv
def zow (S0:Int→List straight) (a:list) (S1:Int→(Sl Gate)→Int→Int→Int→Int→Int→List straight) (za7:Int) (zaU:(Sl Gate)) (zb5:Int) (zaO:Int) (zbk:Int) (zbI:Int) (zbJ:Int):List straight :=
  (cond (decide (zaO < zb5))
 (cond (zbk == (zaU.get zaO.toNat).Z)
 (S1 za7 zaU zb5 (w64 (zaO+(1:Int))) zbk zbI zbJ)
 ((zni zbk zbI ((zaU.get zaO.toNat).Z) ((zaU.get zaO.toNat).Low)) :: ((zni zbk zbI ((zaU.get zaO.toNat).Z) ((zaU.get zaO.toNat).High)) :: ((zni zbk zbJ ((zaU.get zaO.toNat).Z) ((zaU.get zaO.toNat).Low)) :: ((zni zbk zbJ ((zaU.get zaO.toNat).Z) ((zaU.get zaO.toNat).High)) :: (S1 za7 zaU zb5 (w64 (zaO+(1:Int))) zbk zbI zbJ))))))
 (S0 (w64 (za7+(1:Int)))))
def zox (P0:Int→Bool) (a:list) (P1:Int→(Sl Gate)→Int→Int→Int→Int→Int→Bool) (za7:Int) (zaU:(Sl Gate)) (zb5:Int) (zaO:Int) (zbk:Int) (zbI:Int) (zbJ:Int):Bool :=
  (cond (decide (zaO < zb5))
 (decide ((0≤zaO∧zaO < (zaU.len:Int))) &&
 (cond (zbk == (zaU.get zaO.toNat).Z)
 (P1 za7 zaU zb5 (w64 (zaO+(1:Int))) zbk zbI zbJ)
 (P1 za7 zaU zb5 (w64 (zaO+(1:Int))) zbk zbI zbJ)))
 (P0 (w64 (za7+(1:Int)))))
def ziw (S0 : Int → List straight) (a : list) : Nat → Int → (Sl Gate) → Int → Int → Int → Int → Int → List straight
  | 0=>fun _ _ _ _ _ _ _=>[]
  | k+1=>zow S0 a (ziw S0 a k)
def zix (P0 : Int → Bool) (a : list) : Nat → Int → (Sl Gate) → Int → Int → Int → Int → Int → Bool
  | 0=>fun _ _ _ _ _ _ _=>false
  | k+1=>zox P0 a (zix P0 a k)
def zuV (S0:Int→List straight) (a:list) (za7:Int) (zaU:(Sl Gate)) (zb5:Int) (zaO:Int) (zbk:Int) (zbI:Int) (zbJ:Int):List straight:=ziw S0 a Fuel za7 zaU zb5 zaO zbk zbI zbJ
def zuW (P0:Int→Bool) (a:list) (za7:Int) (zaU:(Sl Gate)) (zb5:Int) (zaO:Int) (zbk:Int) (zbI:Int) (zbJ:Int):Bool:=zix P0 a Fuel za7 zaU zb5 zaO zbk zbI zbJ
theorem zDm (l : Nat) (a : list)
  (X0:List (List PA)→Bool→St→Prop) (P0:Int→Bool) (S0:Int→List straight)
  (hX0:∀ (ys:List (List PA)) (zam:Int),P0 zam=true→ys=(S0 zam).map (fun y=>[.agg (zak y)])→X0 ys false (zgf l a zam)) (ys:List (List PA)) (za7:Int) (zaU:(Sl Gate)) (zb5:Int) (zaO:Int) (zbk:Int) (zbI:Int) (zbJ:Int) (zcM:Nat→List PV) (zlG:zcM=fun i=>enc_55 (zaU.get i)) (hs:zuW P0 a za7 zaU zb5 zaO zbk zbI zbJ=true) (hk:ys=(zuV S0 a za7 zaU zb5 zaO zbk zbI zbJ).map (fun y=>[.agg (zak y)])):ziv l  X0 ys a za7 zaU.len zcM zb5 zaO zbk zbI zbJ:=by
  refine zww l  X0 ys a za7 zaU.len zcM zb5 zaO zbk zbI zbJ ?_
  intro X1 hstep
  have key:∀ (k:Nat) (ys:List (List PA)) (za7:Int) (zaU:(Sl Gate)) (zb5:Int) (zaO:Int) (zbk:Int) (zbI:Int) (zbJ:Int) (zcM:Nat→List PV) (zlG:zcM=fun i=>enc_55 (zaU.get i)),zix P0 a k za7 zaU zb5 zaO zbk zbI zbJ=true→ys=(ziw S0 a k za7 zaU zb5 zaO zbk zbI zbJ).map (fun y=>[.agg (zak y)])→X1 ys false (zgg l a za7 zaU.len zcM zb5 zaO zbk zbI zbJ):=by
    intro k
    induction k with
    | zero=>intro ys za7 zaU zb5 zaO zbk zbI zbJ zcM zlG hs;exact absurd hs Bool.false_ne_true
    | succ k ih =>
      intro ys za7 zaU zb5 zaO zbk zbI zbJ zcM zlG hs hk
      subst zlG
      refine hstep ys za7 zaU zb5 zaO zbk zbI zbJ ?_
      have hs:zox P0 a (zix P0 a k) za7 zaU zb5 zaO zbk zbI zbJ=true:=hs
      have hk:ys=(zow S0 a (ziw S0 a k) za7 zaU zb5 zaO zbk zbI zbJ).map (fun y=>[.agg (zak y)]):=hk
      unfold zox at hs
      unfold zow at hk
      generalize ziw S0 a k=S1 at hk ih
      generalize zix P0 a k=P1 at hs ih
      have hX1:=ih
      exact (zn4 hs hk
 (fun hs hk => (zaE hs fun hc hs => ⟨hc, (zn4 hs hk
 (fun hs hk=>(hX1 _ za7 zaU zb5 (w64 (zaO+(1:Int))) zbk zbI zbJ (fun i=>enc_55 (zaU.get i)) rfl hs hk))
 (fun hs hk=>(itY hk rfl (fun _ hk=>(itY hk rfl (fun _ hk=>(itY hk rfl (fun _ hk=>(itY hk rfl (fun _ hk=>(hX1 _ za7 zaU zb5 (w64 (zaO+(1:Int))) zbk zbI zbJ (fun i=>enc_55 (zaU.get i)) rfl hs hk)))))))))))⟩))
 (fun hs hk=>(hX0 _ (w64 (za7+(1:Int))) hs hk)))
  exact key _ _ za7 zaU zb5 zaO zbk zbI zbJ zcM zlG hs hk
def zoy (a:list) (S0:Int→List straight) (zam:Int):List straight :=
  (cond (decide (zam < (a.Gates.len : Int)))
 (zuV S0 a zam (⟨((a.Gates.len:Int) - (w64 (zam+(1:Int)))).toNat,(fun i=>a.Gates.get (i+((w64 (zam+(1:Int))).toNat)))⟩:Sl Gate) (((a.Gates.len:Int) - (w64 (zam+(1:Int)))).toNat:Int) (0:Int) ((a.Gates.get zam.toNat).Z) ((a.Gates.get zam.toNat).Low) ((a.Gates.get zam.toNat).High))
 [])
def zoz (a:list) (P0:Int→Bool) (zam:Int):Bool :=
  (cond (decide (zam < (a.Gates.len : Int)))
 (decide ((0≤zam∧zam < (a.Gates.len:Int))) &&
 (decide ((0≤(w64 (zam+(1:Int)))∧(w64 (zam+(1:Int)))≤(a.Gates.len:Int)∧(a.Gates.len:Int)≤(a.Gates.len:Int))) &&
 (zuW P0 a zam (⟨((a.Gates.len:Int) - (w64 (zam+(1:Int)))).toNat,(fun i=>a.Gates.get (i+((w64 (zam+(1:Int))).toNat)))⟩:Sl Gate) (((a.Gates.len:Int) - (w64 (zam+(1:Int)))).toNat:Int) (0:Int) ((a.Gates.get zam.toNat).Z) ((a.Gates.get zam.toNat).Low) ((a.Gates.get zam.toNat).High))))
 true)
def ziy (a : list) : Nat → Int → List straight
  | 0=>fun _=>[]
  | k+1=>zoy a (ziy a k)
def ziz (a : list) : Nat → Int → Bool
  | 0=>fun _=>false
  | k+1=>zoz a (ziz a k)
def zuX (a:list) (zam:Int):List straight:=ziy a Fuel zam
def zuY (a:list) (zam:Int):Bool:=ziz a Fuel zam
theorem zDn (l:Nat) (a:list) (ys:List (List PA)) (zam:Int) (hs:zuY a zam=true) (hk:ys=(zuX a zam).map (fun y=>[.agg (zak y)])):ziu l ys a zam:=by
  refine zwv l ys a zam ?_
  intro X0 hstep
  have key:∀ (k:Nat) (ys:List (List PA)) (zam:Int),ziz a k zam=true→ys=(ziy a k zam).map (fun y=>[.agg (zak y)])→X0 ys false (zgf l a zam):=by
    intro k
    induction k with
    | zero=>intro ys zam hs;exact absurd hs Bool.false_ne_true
    | succ k ih =>
      intro ys zam hs hk
      refine hstep ys zam ?_
      have hs:zoz a (ziz a k) zam=true:=hs
      have hk:ys=(zoy a (ziy a k) zam).map (fun y=>[.agg (zak y)]):=hk
      unfold zoz at hs
      unfold zoy at hk
      generalize ziy a k=S0 at hk ih
      generalize ziz a k=P0 at hs ih
      have hX0:=ih
      exact (zn4 hs hk
 (fun hs hk=>(zaE hs fun hc hs=>⟨hc,(zaE hs fun hc hs=>⟨hc,(zDm l a X0 P0 S0 hX0 _ zam (⟨((a.Gates.len:Int) - (w64 (zam+(1:Int)))).toNat,(fun i=>a.Gates.get (i+((w64 (zam+(1:Int))).toNat)))⟩:Sl Gate) (((a.Gates.len:Int) - (w64 (zam+(1:Int)))).toNat:Int) (0:Int) ((a.Gates.get zam.toNat).Z) ((a.Gates.get zam.toNat).Low) ((a.Gates.get zam.toNat).High) (slG (fun i=>enc_55 (a.Gates.get i)) ((w64 (zam+(1:Int))).toNat)) rfl hs hk)⟩)⟩))
 (fun hs hk=>hk))
  exact key _ _ zam hs hk
def zG2 (a:list):List straight :=
  (zuX a (0:Int))
def zKt (a:list):Bool :=
  (zuY a (0:Int))
theorem zRF (l:Nat) (a:list) (ys:List (List PA)) (hs:zKt a=true) (hk:ys=(zG2 a).map (fun y=>[.agg (zak y)])):vcIter Try.prog zyx zcK 115 l [.one (.fp (zcL a) 0)] ys:=by
  refine zaI (zDl l a ys) ?_
  unfold zKt at hs
  unfold zG2 at hk
  exact (zDn l a _ (0:Int) hs hk)
def zG3 : List PA → Option (Prop × List (List PA))
  | [.one (.fp [.sl a_Gates_n a_Gates_s a_Gates_g] 0)]=>some (IsE enc_55 3 a_Gates_s a_Gates_g∧zKt (⟨(⟨a_Gates_n,zaf a_Gates_g⟩:(Sl Gate))⟩:list)=true,(zG2 (⟨(⟨a_Gates_n,zaf a_Gates_g⟩:(Sl Gate))⟩:list)).map fun y=>[.agg (zak y)])
  | _=>none
theorem zG4:zaj Try.prog 115:=⟨_,rfl,rfl,by kernel_rfl⟩
theorem zO9:zEe Try.prog 115 zG3:=zK8 zLT zG4 fun l caps safe ys h hs=>by
  unfold zG3 at h
  split at h
  · rename_i a_Gates_n a_Gates_s a_Gates_g
    cases h
    obtain ⟨⟨rfl,a_Gates_f,rfl⟩,hs⟩:=hs
    try rw [zae a_Gates_f] at hs
    try rw [zae a_Gates_f]
    exact ⟨fun _ _=>[],fun _=>false,zcK,zRF l (⟨(⟨a_Gates_n,a_Gates_f⟩:(Sl Gate))⟩:list) _ hs rfl⟩
  · cases h
abbrev T65:Tabs:=(((((Tabs.nil.addF 67 zst).addF 79 zDk).addF 96 zGY).addF 97 zG0).addI 115 zG3)
theorem zPa:TabsOk Try.prog T65:=(((((TabsOk.nil.addF zLK).addF zQB).addF zRB).addF zRC).addI zO9)
abbrev G65:Ctrs:=csm T65 (fun _ _=>[]) (fun l=>Nat.beq l 14)
def ziA:Ann:=⟨39,[(0,⟨[0,2],[2],[],[],[],[],[]⟩),(1,⟨[2,3],[2,3],[],[],[],[],[]⟩),(2,⟨[2,3,12],[2,3],[],[],[],[],[]⟩),(3,⟨[2],[2],[],[],[],[],[]⟩),(4,⟨[2,3,4],[2,3,4,14],[],[],[],[],[]⟩),(5,⟨[2,3,4,17],[2,3,4,14],[],[],[],[],[]⟩),(6,⟨[2,3,4,5,17],[2,3,4,5,14,36],[],[],[],[],[]⟩),(7,⟨[2,3,4,5,6,17],[2,3,4,5,6,14,36],[],[],[],[],[]⟩),(8,⟨[2,3,4,5,6,17,29],[2,3,4,5,6,14,36],[],[],[],[],[]⟩),(9,⟨[2,3,4,5,17],[2,3,4,5,14,36],[],[],[],[],[]⟩),(10,⟨[2,3,4,17],[2,3,4,14,36],[],[],[],[],[]⟩),(11,⟨[2],[2,36],[],[],[],[],[]⟩)],
 [(6,⟨[2,3,4,17],[2,3,4,14,36],[],[(3,1,36,118,fun _=>zak default)],[],[],[]⟩)],
 [(3,⟨[2,3,12],[2,3],[],[],[],[],[]⟩),(4,⟨[2,3],[2,3],[],[],[],[],[]⟩)],
 [],[]⟩
def zLU (zaa:(Sl Gate)) (zaZ:Bool):St:=⟨[(2,.one (.c (.ptr 2 0))),(3,.one (.c (.ptr 3 0))),(12,.one (.c (.p (.bool zaZ))))],[(2,.box 104 [.p (.nils),.p (.nils)]),(3,.box 104 [.p (.sl zaa.len 3 (fun i=>enc_55 (zaa.get i))),.p (.nils)])],[]⟩
def zoA (K:List PA→Prop) (zaa:(Sl Gate)) (zaZ:Bool):Prop:=vc Try.prog G65 ziA (cdF Try.f65 [1,1,0,1]) (sqK Try.prog G65 ziA (cdF Try.f65 [1,1,1]) (zbF Try.prog Try.f65 K)) (zLU zaa zaZ)
def zLV (zaa:(Sl Gate)):St:=⟨[(2,.one (.c (.ptr 2 0))),(3,.one (.c (.ptr 3 0)))],[(2,.box 104 [.p (.nils),.p (.nils)]),(3,.box 104 [.p (.sl zaa.len 3 (fun i=>enc_55 (zaa.get i))),.p (.nils)])],[]⟩
def zoB (K:List PA→Prop) (zaa:(Sl Gate)):Prop:=vc Try.prog G65 ziA (cdF Try.f65 [1,1,1]) (zbF Try.prog Try.f65 K) (zLV zaa)
def zgi (zaa:(Sl Gate)) (zgj:Nat) (zcN:Nat→List PV) (zaB:Nat) (zar:(List Int→Option (List Int))):St:=⟨[(2,.one (.c (.ptr 2 0))),(3,.one (.c (.ptr 3 0))),(4,.one (.c (.ptr 4 0))),(17,.one (.c (.p (.fn 115 [] [.fp (zcL (⟨zaa⟩:list)) 0]))))],[(2,.box 104 [.p (.nils),.p (.nils)]),(3,.box 104 [.p (.sl zaa.len 3 (fun i=>enc_55 (zaa.get i))),.vec 36]),(4,.box 136 [.mo 14]),(14,.mo 37 4 (true,4,false,[none]) zaB zar),(36,.vec 118 3 24 zgj zcN)],[]⟩
def zlH (K:List PA→Prop) (zaa:(Sl Gate)) (zgj:Nat) (zcN:Nat→List PV) (zaB:Nat) (zar:(List Int→Option (List Int))):Prop:=vc Try.prog G65 ziA (cdF Try.f65 [1,1,1,1,0,1,0]) (zaA 0 (sqK Try.prog G65 ziA (cdF Try.f65 [1,1,1,1,1]) (zbF Try.prog Try.f65 K))) (zgi zaa zgj zcN zaB zar)
theorem zG5 (zaa : (Sl Gate)) (K : List PA → Prop) :
  vcFun Try.prog G65 ziA 65 [.one (.sl zaa.len 3 (fun i=>enc_55 (zaa.get i)))] K =
  ((IsE enc_55 3 3 (fun i=>enc_55 (zaa.get i))∧(p67 (⟨zaa⟩:list)=true)) ∧
 (zoA K zaa (s67 (⟨zaa⟩:list)))):=by kernel_rfl
theorem zG6 (K : List PA → Prop) (zaa : (Sl Gate)) (zaZ : Bool) :
  zoA K zaa zaZ =
  (zcP zaZ
 (K [.agg [.sl zaa.len 3 (fun i=>enc_55 (zaa.get i)),.nils]])
 (zoB K zaa)):=by kernel_rfl
theorem zG7 (K : List PA → Prop) (zaa : (Sl Gate)) :
  zoB K zaa =
  ((IsE enc_55 3 3 (fun i=>enc_55 (zaa.get i))) ∧
 (zlH K zaa 0 (fun i=>zak ((fun _=>default) i)) 0 (fun _=>none))):=by kernel_rfl
def zqI (K:List PA→Prop) (zaa:(Sl Gate)) (zaN:(Sl straight)) (zaB:Nat) (zar:(List Int→Option (List Int))):Prop :=
  (K [.agg [.sl zaa.len 3 (fun i=>enc_55 (zaa.get i)),.sl zaN.len 3 (fun i=>zak (zaN.get i))]])
def zqJ (K:List PA→Prop) (X2:List (List PA)→St→Prop) (y2:straight) (rest2:List (List PA)) (zaa:(Sl Gate)) (zaN:(Sl straight)) (zaB:Nat) (zar:(List Int→Option (List Int))):Prop :=
  (((p79 y2=true)) ∧
 (zcP (!((zdn (zar [(s79 y2).Slope.Num, (s79 y2).Slope.Den, (s79 y2).Start.Num, (s79 y2).Start.Den]) 0) != 0))
 ((IsE enc_55 3 3 (fun i=>enc_55 (zaa.get i))∧IsE zak 3 3 (fun i=>zak (zaN.get i))∧(p97 (⟨(⟨zaa⟩:list),zaN⟩:set) y2=true)) ∧
 (zcP (s97 (⟨(⟨zaa⟩ : list), zaN⟩ : set) y2)
 ((((zaN.len+1) * 24≤140737488355328∧zaN.len+1≤9223372036854775807)) ∧
 (X2 rest2 (zgi zaa (zaN.len+1) (appG zaN.len (fun i=>zak (zaN.get i)) (fun _=>(zak y2))) (addN (zar [(s79 y2).Slope.Num,(s79 y2).Slope.Den,(s79 y2).Start.Num,(s79 y2).Start.Den]) zaB) (zfa [(s79 y2).Slope.Num,(s79 y2).Slope.Den,(s79 y2).Start.Num,(s79 y2).Start.Den] [1] zar))))
 (X2 rest2 (zgi zaa zaN.len (fun i=>zak (zaN.get i)) zaB zar))))
 (X2 rest2 (zgi zaa zaN.len (fun i=>zak (zaN.get i)) zaB zar))))
theorem zsu (K:List PA→Prop) (zaa:(Sl Gate)) (zaN:(Sl straight)) (zaB:Nat) (zar:(List Int→Option (List Int))):(zaA 0 (sqK Try.prog G65 ziA (cdF Try.f65 [1,1,1,1,1]) (zbF Try.prog Try.f65 K))) .normal (zgi zaa zaN.len (fun i=>zak (zaN.get i)) zaB zar)=zqI K zaa zaN zaB zar:=by kernel_rfl
theorem zsv (K : List PA → Prop) (X2 : List (List PA) → St → Prop) (y2 : straight) (rest2 : List (List PA)) (zaa : (Sl Gate)) (zaN : (Sl straight)) (zaB : Nat) (zar : (List Int → Option (List Int))) :
  zQo Try.prog G65 ziA 6 [18] (cd (cdF Try.f65 [1,1,1,1,0,1,0]) [0]) (cd (cdF Try.f65 [1,1,1,1,0,1,0]) [1]) X2 (zaA 0 (sqK Try.prog G65 ziA (cdF Try.f65 [1,1,1,1,1]) (zbF Try.prog Try.f65 K))) [.agg (zak y2)] rest2 (zgi zaa zaN.len (fun i=>zak (zaN.get i)) zaB zar)=zqJ K X2 y2 rest2 zaa zaN zaB zar:=by kernel_rfl
theorem zyy (K : List PA → Prop) (zaa : (Sl Gate)) (zgj : Nat) (zcN : Nat → List PV) (zaB : Nat) (zar : (List Int → Option (List Int)))
  (hsafe:IsE enc_55 3 3 (fun i=>enc_55 ((⟨zaa⟩:list).Gates.get i))∧(zKt (⟨zaa⟩:list)=true)) (h:∀ X2:List (List PA)→St→Prop,(∀ (zaN:(Sl straight)) (zaB:Nat) (zar:(List Int→Option (List Int))),zqI K zaa zaN zaB zar→X2 [] (zgi zaa zaN.len (fun i=>zak (zaN.get i)) zaB zar))→(∀ (y:straight) (rest:List (List PA)) (zaN:(Sl straight)) (zaB:Nat) (zar:(List Int→Option (List Int))),zqJ K X2 y rest zaa zaN zaB zar→X2 ([.agg (zak y)] :: rest) (zgi zaa zaN.len (fun i=>zak (zaN.get i)) zaB zar))→X2 ((zG2 (⟨zaa⟩:list)).map fun y=>[.agg (zak y)]) (zgi zaa zgj zcN zaB zar)) :
  zlH K zaa zgj zcN zaB zar:=by
  have e:zlH K zaa zgj zcN zaB zar=((IsE enc_55 3 3 (fun i=>enc_55 ((⟨zaa⟩:list).Gates.get i))∧(zKt (⟨zaa⟩:list)=true))∧∀ X:List (List PA)→St→Prop,(∀ s,(zaA 0 (sqK Try.prog G65 ziA (cdF Try.f65 [1,1,1,1,1]) (zbF Try.prog Try.f65 K))) .normal s→X [] s)→(∀ y rest s,zQo Try.prog G65 ziA 6 [18] (cd (cdF Try.f65 [1,1,1,1,0,1,0]) [0]) (cd (cdF Try.f65 [1,1,1,1,0,1,0]) [1]) X (zaA 0 (sqK Try.prog G65 ziA (cdF Try.f65 [1,1,1,1,1]) (zbF Try.prog Try.f65 K))) y rest s→X (y :: rest) s)→X ((zG2 (⟨zaa⟩:list)).map fun y=>[.agg (zak y)]) (zgi zaa zgj zcN zaB zar)):=by kernel_rfl
  refine zaI e ⟨hsafe,?_⟩
  intro X h0 h1
  refine h X (fun zaN zaB zar hs=>h0 _ ?_) (fun y rest zaN zaB zar hs=>h1 _ rest _ ?_)
  · rw [zsu K zaa zaN zaB zar];exact hs
  · have e2 := zsv K X y rest zaa zaN zaB zar
    rw [e2];exact hs
abbrev e65 (r:set):List PA:=[.agg [.sl r.list.Gates.len 3 (fun i=>enc_55 (r.list.Gates.get i)),.sl r.corners.len 3 (fun i=>zak (r.corners.get i))]]
attribute [irreducible] zoA zoB zlH
def zsw (zaa:(Sl Gate)) (zaN:(Sl straight)) (zaB:Nat) (zar:(List Int→Option (List Int))):set :=
  (⟨(⟨zaa⟩:list),zaN⟩:set)
def zsx (zaa:(Sl Gate)) (zaN:(Sl straight)) (zaB:Nat) (zar:(List Int→Option (List Int))):Bool :=
  true
def zsy (zaa:(Sl Gate)) (y2:straight) (S2:(Sl straight)→Nat→(List Int→Option (List Int))→set) (zaN:(Sl straight)) (zaB:Nat) (zar:(List Int→Option (List Int))):set :=
  (cond (!((zdn (zar [(s79 y2).Slope.Num, (s79 y2).Slope.Den, (s79 y2).Start.Num, (s79 y2).Start.Den]) 0) != 0))
 (cond (s97 (⟨(⟨zaa⟩ : list), zaN⟩ : set) y2)
 (S2 (⟨(zaN.len+1),(zdN zaN.len zaN.get (fun _=>y2))⟩:Sl straight) (addN (zar [(s79 y2).Slope.Num,(s79 y2).Slope.Den,(s79 y2).Start.Num,(s79 y2).Start.Den]) zaB) (zfa [(s79 y2).Slope.Num,(s79 y2).Slope.Den,(s79 y2).Start.Num,(s79 y2).Start.Den] [1] zar))
 (S2 zaN zaB zar))
 (S2 zaN zaB zar))
def zsz (zaa:(Sl Gate)) (y2:straight) (P2:(Sl straight)→Nat→(List Int→Option (List Int))→Bool) (zaN:(Sl straight)) (zaB:Nat) (zar:(List Int→Option (List Int))):Bool :=
  (decide ((p79 y2=true)) &&
 (cond (!((zdn (zar [(s79 y2).Slope.Num, (s79 y2).Slope.Den, (s79 y2).Start.Num, (s79 y2).Start.Den]) 0) != 0))
 (decide ((p97 (⟨(⟨zaa⟩:list),zaN⟩:set) y2=true)) &&
 (cond (s97 (⟨(⟨zaa⟩ : list), zaN⟩ : set) y2)
 (decide (((zaN.len+1) * 24≤140737488355328∧zaN.len+1≤9223372036854775807)) &&
 (P2 (⟨(zaN.len+1),(zdN zaN.len zaN.get (fun _=>y2))⟩:Sl straight) (addN (zar [(s79 y2).Slope.Num,(s79 y2).Slope.Den,(s79 y2).Start.Num,(s79 y2).Start.Den]) zaB) (zfa [(s79 y2).Slope.Num,(s79 y2).Slope.Den,(s79 y2).Start.Num,(s79 y2).Start.Den] [1] zar)))
 (P2 zaN zaB zar)))
 (P2 zaN zaB zar)))
def zlI (zaa : (Sl Gate)) : List straight → (Sl straight) → Nat → (List Int → Option (List Int)) → set
  | []=>zsw zaa
  | y :: r=>zsy zaa y (zlI zaa r)
def zlJ (zaa : (Sl Gate)) : List straight → (Sl straight) → Nat → (List Int → Option (List Int)) → Bool
  | []=>zsx zaa
  | y :: r=>zsz zaa y (zlJ zaa r)
def zyz (zaa:(Sl Gate)) (zaN:(Sl straight)) (zaB:Nat) (zar:(List Int→Option (List Int))):set:=zlI zaa (zG2 (⟨zaa⟩:list)) zaN zaB zar
def zsA (zaa:(Sl Gate)) (zaN:(Sl straight)) (zaB:Nat) (zar:(List Int→Option (List Int))):Bool:=decide ((zKt (⟨zaa⟩:list)=true)) && zlJ zaa (zG2 (⟨zaa⟩:list)) zaN zaB zar
theorem zG8 (K:List PA→Prop) (zaa:(Sl Gate)) (zaN:(Sl straight)) (zaB:Nat) (zar:(List Int→Option (List Int))) (zcN:Nat→List PV) (zjq:zcN=fun i=>zak (zaN.get i)) (hs:zsA zaa zaN zaB zar=true) (hk:K (e65 (zyz zaa zaN zaB zar))):zlH (Wk K) zaa zaN.len zcN zaB zar:=by
  unfold zsA at hs
  rw [Bool.and_eq_true] at hs
  obtain ⟨hsf,hs⟩:=hs
  have hc:=of_decide_eq_true hsf
  refine zyy (Wk K) zaa zaN.len zcN zaB zar ⟨isE,hc⟩ ?_
  intro X2 hexit hstep
  have key:∀ (l:List straight) (zaN:(Sl straight)) (zaB:Nat) (zar:(List Int→Option (List Int))) (zcN:Nat→List PV) (zjq:zcN=fun i=>zak (zaN.get i)),zlJ zaa l zaN zaB zar=true→K (e65 (zlI zaa l zaN zaB zar))→X2 (l.map fun y=>[.agg (zak y)]) (zgi zaa zaN.len zcN zaB zar):=by
    intro l
    induction l with
    | nil =>
      intro zaN zaB zar zcN zjq hs hk
      subst zjq
      refine hexit zaN zaB zar ?_
      have hs:zsx zaa zaN zaB zar=true:=hs
      have hk:K (e65 (zsw zaa zaN zaB zar)):=hk
      unfold zsx at hs
      unfold zsw at hk
      exact (zdI hk)
    | cons y2 l ih =>
      intro zaN zaB zar zcN zjq hs hk
      subst zjq
      refine hstep y2 _ zaN zaB zar ?_
      have hs:zsz zaa y2 (zlJ zaa l) zaN zaB zar=true:=hs
      have hk:K (e65 (zsy zaa y2 (zlI zaa l) zaN zaB zar)):=hk
      unfold zsz at hs
      unfold zsy at hk
      generalize zlI zaa l=S2 at hk ih
      generalize zlJ zaa l=P2 at hs ih
      have hX2:=ih
      exact (zaE hs fun hc hs => ⟨hc, (zbr (K := fun r => K (e65 r))
 (fun hs hk => (zaE hs fun hc hs => ⟨⟨isE, isE, hc⟩, (zbr (K := fun r => K (e65 r))
 (fun hs hk=>(zaE hs fun hc hs=>⟨hc,(hX2 (⟨(zaN.len+1),(zdN zaN.len zaN.get (fun _=>y2))⟩:Sl straight) (addN (zar [(s79 y2).Slope.Num,(s79 y2).Slope.Den,(s79 y2).Start.Num,(s79 y2).Start.Den]) zaB) (zfa [(s79 y2).Slope.Num,(s79 y2).Slope.Den,(s79 y2).Start.Num,(s79 y2).Start.Den] [1] zar) (appG zaN.len (fun i=>zak (zaN.get i)) (fun _=>(zak y2))) (zf4 (enc:=zak) (f:=zaN.get) (h:=(fun _=>y2)) rfl rfl) hs hk)⟩))
 (fun hs hk=>(hX2 zaN zaB zar (fun i=>zak (zaN.get i)) rfl hs hk)) hs hk)⟩))
 (fun hs hk=>(hX2 zaN zaB zar (fun i=>zak (zaN.get i)) rfl hs hk)) hs hk)⟩)
  exact key _ zaN zaB zar zcN zjq hs hk
def zsB (zaa:(Sl Gate)):set :=
  (zyz zaa (⟨0,(fun _=>default)⟩:Sl straight) 0 (fun _=>none))
def zsC (zaa:(Sl Gate)):Bool :=
  (zsA zaa (⟨0,(fun _=>default)⟩:Sl straight) 0 (fun _=>none))
theorem zG9 (K:List PA→Prop) (zaa:(Sl Gate)) (hs:zsC zaa=true) (hk:K (e65 (zsB zaa))):zoB (Wk K) zaa:=by
  refine zaI (zG7 (Wk K) zaa) ?_
  unfold zsC at hs
  unfold zsB at hk
  exact ⟨isE,(zG8 K zaa (⟨0,(fun _=>default)⟩:Sl straight) 0 (fun _=>none) (fun i=>zak ((fun _=>default) i)) rfl hs hk)⟩
def zsD (zaa:(Sl Gate)) (zaZ:Bool):set :=
  (cond zaZ
 (⟨(⟨zaa⟩:list),(⟨0,fun _=>default⟩:(Sl straight))⟩:set)
 (zsB zaa))
def zsE (zaa:(Sl Gate)) (zaZ:Bool):Bool :=
  (cond zaZ
 true
 (zsC zaa))
theorem zHa (K:List PA→Prop) (zaa:(Sl Gate)) (zaZ:Bool) (hs:zsE zaa zaZ=true) (hk:K (e65 (zsD zaa zaZ))):zoA (Wk K) zaa zaZ:=by
  refine zaI (zG6 (Wk K) zaa zaZ) ?_
  unfold zsE at hs
  unfold zsD at hk
  exact (zbr (K := fun r => K (e65 r))
 (fun hs hk=>(wk hk (zdv (.agg (zdv (.rfl _) (zdv (.nil _ _) zhi))) zhi)))
 (fun hs hk=>(zG9 K zaa hs hk)) hs hk)
def s65 (zaa:(Sl Gate)):set :=
  (zsD zaa (s67 (⟨zaa⟩:list)))
def p65 (zaa:(Sl Gate)):Bool :=
  (decide ((p67 (⟨zaa⟩:list)=true)) &&
 (zsE zaa (s67 (⟨zaa⟩:list))))
theorem q65 (zaa:(Sl Gate)) (K:List PA→Prop) (hs:p65 zaa=true) (hk:K (e65 (s65 zaa))):vcFun Try.prog G65 ziA 65 [.one (.sl zaa.len 3 (fun i=>enc_55 (zaa.get i)))] (Wk K):=by
  refine zaI (zG5 zaa (Wk K)) ?_
  unfold p65 at hs
  unfold s65 at hk
  exact (zaE hs fun hc hs=>⟨⟨isE,hc⟩,(zHa K zaa (s67 (⟨zaa⟩:list)) hs hk)⟩)
def zyA : List PA → COut
  | [.one (.sl a0_n a0_s a0_g)]=>.det (IsE enc_55 3 a0_s a0_g∧p65 (⟨a0_n,zaf a0_g⟩:(Sl Gate))=true) [.agg [.sl ((s65 (⟨a0_n,zaf a0_g⟩:(Sl Gate))).list.Gates.len) 3 (fun i=>enc_55 ((s65 (⟨a0_n,zaf a0_g⟩:(Sl Gate))).list.Gates.get i)),.sl ((s65 (⟨a0_n,zaf a0_g⟩:(Sl Gate))).corners.len) 3 (fun i=>zak ((s65 (⟨a0_n,zaf a0_g⟩:(Sl Gate))).corners.get i))]]
  | _=>.no
theorem zLW:zaj Try.prog 65:=⟨_,rfl,rfl,by kernel_rfl⟩
theorem zPb:Ok Try.prog 65 zyA:=zfo zPa zLW fun args K h=>by
  unfold zyA at h
  split at h
  · rename_i a0_n a0_s a0_g
    obtain ⟨⟨⟨rfl,a0_f,rfl⟩,hs⟩,hk⟩:=h
    try rw [zae a0_f] at hs
    try rw [zae a0_f] at hk
    exact ⟨_,zeL zeM _,(fun _ _=>[]),(fun l=>Nat.beq l 14),ziA,q65 (⟨a0_n,a0_f⟩:(Sl Gate)) K hs hk⟩
  · exact h.elim
abbrev T98:Tabs:=Tabs.nil
theorem zPc:TabsOk Try.prog T98:=TabsOk.nil
abbrev G98:Ctrs:=csm T98 (fun _ _=>[]) (fun _=>false)
def zHb:Ann:=⟨38,[(0,zK [1,2] [1,2]),(1,zK [1,2,3] [1,2,3]),(2,zK [2,3,18,19,20] [2,3]),(3,zK [2,3,18,19,20,21] [2,3]),(4,zK [2,3,5,18,19,20] [2,3,5]),(5,zK [2,3,18,19,20] [2,3]),(6,zK [2,3,18,19,20] [2,3]),(7,zK [2] [2])],
 [(3,zK [2,3,18,19,20] [2,3])],
 [],
 [],[]⟩
abbrev R98:=Span
abbrev e98 (r:R98):List PA:=[.agg [.int .i64 r.Low,.int .i64 r.High]]
@[irreducible] def z98:=ptF Try.prog G98 zHb Try.f98
def zEJ (l_a0:list) (zcX:Int) (zay:Int) (zaz:Int):St:=⟨[(2,zp 2 0),(3,zp 3 0),(18,zS enc_55 3 l_a0.Gates),(19,zI (l_a0.Gates.len:Int)),(20,zI zcX)],[(2,.box 96 (zm (zan (⟨(0:Int),(0:Int)⟩:Span)))),(3,.box 96 (zm (zan (⟨zay,zaz⟩:Span))))],[]⟩
abbrev zLX (K:List PA→Prop) (l_a0:list) (X:St→Prop) (P:Int→Int→Int→Bool) (S:Int→Int→Int→Span):Prop:=∀ ⦃zcX:Int⦄ ⦃zay:Int⦄ ⦃zaz:Int⦄,P zcX zay zaz=true→K (e98 (S zcX zay zaz))→X (zEJ l_a0 zcX zay zaz)
section
variable {K:List PA→Prop} {l_a0:list} {zcX:Int} {zay:Int} {zaz:Int} {X0:St→Prop} {P0:Int→Int→Int→Bool} {S0:Int→Int→Int→Span}
def zyB (l_a0:list) (S0:Int→Int→Int→Span) (zcX:Int) (zay:Int) (zaz:Int):Span :=
  (cond (decide (zcX < (l_a0.Gates.len : Int)))
 (S0 (w64 (zcX+(1:Int))) (if (l_a0.Gates.get zcX.toNat).Low > zay then (l_a0.Gates.get zcX.toNat).Low else zay) (if (l_a0.Gates.get zcX.toNat).High < zaz then (l_a0.Gates.get zcX.toNat).High else zaz))
 (⟨zay,zaz⟩:Span))
def zyC (l_a0:list) (P0:Int→Int→Int→Bool) (zcX:Int) (zay:Int) (zaz:Int):Bool :=
  (cond (decide (zcX < (l_a0.Gates.len : Int)))
 (decide ((0≤zcX∧zcX < (l_a0.Gates.len:Int))) &&
 (P0 (w64 (zcX+(1:Int))) (if (l_a0.Gates.get zcX.toNat).Low > zay then (l_a0.Gates.get zcX.toNat).Low else zay) (if (l_a0.Gates.get zcX.toNat).High < zaz then (l_a0.Gates.get zcX.toNat).High else zaz)))
 true)
def zyD (l_a0:list):Nat→Int→Int→Int→Span:=lpO (fun _ _ _=>default) (zyB l_a0)
def zyE (l_a0:list):Nat→Int→Int→Int→Bool:=lpO (fun _ _ _=>false) (zyC l_a0)
def zyF (l_a0:list) (zcX:Int) (zay:Int) (zaz:Int):Span:=zyD l_a0 Fuel zcX zay zaz
def zyG (l_a0:list) (zcX:Int) (zay:Int) (zaz:Int):Bool:=zyE l_a0 Fuel zcX zay zaz
theorem zHc (hs:zyG l_a0 zcX zay zaz=true) (hk:K (e98 (zyF l_a0 zcX zay zaz))):z98 K [1,1,0,1,0] [] (zEJ l_a0 zcX zay zaz) :=
  zl (fun X=>z98 K [1,1,0,1,0,0] [X]) (by kernel_rfl) fun X0 hX =>
  (show ∀ k, zLX K l_a0 X0 (zyE l_a0 k) (zyD l_a0 k) from zfT _ _ (zyC l_a0) (zyB l_a0) (zLX K l_a0 X0)
 (by intro _ _ _ hs;exact absurd hs Bool.false_ne_true)
 (by intro P0 S0 hX0 zcX zay zaz hs hk;exact hX _ (zaI (by kernel_rfl) (zc hs hk (fun hs hk=>(zaE hs fun hc hs=>And.intro hc (hX0 hs hk))) (fun hs hk=>hk))))) _ hs hk
def s98 (l_a0:list):Span :=
  (zyF l_a0 (0:Int) ((l_a0.Gates.get 0).Low) ((l_a0.Gates.get 0).High))
def p98 (l_a0:list):Bool :=
  (decide ((0≤(0:Int)∧(0:Int) < (l_a0.Gates.len:Int))) &&
 (decide ((0≤(0:Int)∧(0:Int) < (l_a0.Gates.len:Int))) &&
 (zyG l_a0 (0:Int) ((l_a0.Gates.get 0).Low) ((l_a0.Gates.get 0).High))))
end
theorem q98 (l_a0:list) (K:List PA→Prop) (hs:p98 l_a0=true) (hk:K (e98 (s98 l_a0))):vcFun Try.prog G98 zHb 98 [.agg (zcL l_a0)] K :=
  zaI (by kernel_rfl) (zaE hs fun hc hs=>And.intro hc (zaE hs fun hc hs=>And.intro hc (zHc hs hk)))
def zDo : List PA → COut
  | [.agg [.sl a0_Gates_n a0_Gates_s a0_Gates_g]]=>.det (IsE enc_55 3 a0_Gates_s a0_Gates_g∧p98 (⟨(⟨a0_Gates_n,zaf a0_Gates_g⟩:(Sl Gate))⟩:list)=true) [.agg [.int .i64 ((s98 (⟨(⟨a0_Gates_n,zaf a0_Gates_g⟩:(Sl Gate))⟩:list)).Low),.int .i64 ((s98 (⟨(⟨a0_Gates_n,zaf a0_Gates_g⟩:(Sl Gate))⟩:list)).High)]]
  | _=>.no
theorem zLY:zaj Try.prog 98:=⟨_,rfl,rfl,by kernel_rfl⟩
theorem zQF:Ok Try.prog 98 zDo:=zaP zPc zLY fun args K h=>by
  unfold zDo at h
  split at h
  · rename_i a0_Gates_n a0_Gates_s a0_Gates_g
    obtain ⟨⟨⟨rfl,a0_Gates_f,rfl⟩,hs⟩,hk⟩:=h
    try rw [zae a0_Gates_f] at hs
    try rw [zae a0_Gates_f] at hk
    exact ⟨(fun _ _=>[]),(fun _=>false),zHb,q98 (⟨(⟨a0_Gates_n,a0_Gates_f⟩:(Sl Gate))⟩:list) K hs hk⟩
  · exact h.elim
abbrev T66:Tabs:=((Tabs.nil.addF 67 zst).addF 98 zDo)
theorem zPd:TabsOk Try.prog T66:=((TabsOk.nil.addF zLK).addF zQF)
abbrev G66:Ctrs:=csm T66 (fun _ _=>[]) (fun _=>false)
def zLZ:Ann:=⟨19,[(0,zK [1] [1]),(1,zK [1,3] [1,3]),(2,zK [1,3,9] [1,3]),(3,zK [2] []),(4,zK [2] [])],
 [],
 [],
 [],[]⟩
abbrev R66:=Bool
abbrev e66 (r:R66):List PA:=[.one (.bool r)]
section
variable {K:List PA→Prop} {s:set}
def s66 (s:set):Bool :=
  (cond (s67 s.list)
 (decide ((s98 s.list).Low≤(s98 s.list).High))
 (decide ((s.corners.len:Int) > (0:Int))))
def p66 (s:set):Bool :=
  (decide ((p98 s.list=true)) &&
 (decide ((p67 s.list=true)) &&
 true))
end
theorem q66 (s:set) (K:List PA→Prop) (hs:p66 s=true) (hk:K (e66 (s66 s))):vcFun Try.prog G66 zLZ 66 [.agg (zbj s)] K :=
  zaI (by kernel_rfl) (zaE hs fun hc hs=>And.intro (And.intro (zE enc_55 3 s.list.Gates.get) hc) (zaE hs fun hc hs=>And.intro (And.intro (zE enc_55 3 s.list.Gates.get) hc) (zt hk (fun hk=>hk) (fun hk=>hk))))
def zyH : List PA → COut
  | [.agg [.sl a0_list_Gates_n a0_list_Gates_s a0_list_Gates_g,.sl a0_corners_n a0_corners_s a0_corners_g]]=>.det (IsE enc_55 3 a0_list_Gates_s a0_list_Gates_g∧IsE zak 3 a0_corners_s a0_corners_g∧p66 (⟨(⟨(⟨a0_list_Gates_n,zaf a0_list_Gates_g⟩:(Sl Gate))⟩:list),(⟨a0_corners_n,za9 a0_corners_g⟩:(Sl straight))⟩:set)=true) [.one (.bool (s66 (⟨(⟨(⟨a0_list_Gates_n,zaf a0_list_Gates_g⟩:(Sl Gate))⟩:list),(⟨a0_corners_n,za9 a0_corners_g⟩:(Sl straight))⟩:set)))]
  | _=>.no
theorem zL0:zaj Try.prog 66:=⟨_,rfl,rfl,by kernel_rfl⟩
theorem zPe:Ok Try.prog 66 zyH:=zaP zPd zL0 fun args K h=>by
  unfold zyH at h
  split at h
  · rename_i a0_list_Gates_n a0_list_Gates_s a0_list_Gates_g a0_corners_n a0_corners_s a0_corners_g
    obtain ⟨⟨⟨rfl,a0_list_Gates_f,rfl⟩,⟨rfl,a0_corners_f,rfl⟩,hs⟩,hk⟩:=h
    try rw [zae a0_list_Gates_f] at hs
    try rw [zae a0_list_Gates_f] at hk
    try rw [za3 a0_corners_f] at hs
    try rw [za3 a0_corners_f] at hk
    exact ⟨(fun _ _=>[]),(fun _=>false),zLZ,q66 (⟨(⟨(⟨a0_list_Gates_n,a0_list_Gates_f⟩:(Sl Gate))⟩:list),(⟨a0_corners_n,a0_corners_f⟩:(Sl straight))⟩:set) K hs hk⟩
  · exact h.elim
abbrev zQG:Tabs:=Tabs.nil
theorem zL1:TabsOk Try.prog zQG:=TabsOk.nil
abbrev zRG:Ctrs:=csm zQG (fun _ _=>[]) (fun _=>false)
def zEK:Ann:=⟨6,[(0,zK [0] []),(1,zK [2] [])],
 [],
 [],
 [],[]⟩
abbrev zRH:=Bool
abbrev e120 (r:zRH):List PA:=[.one (.bool r)]
section
variable {K:List PA→Prop} {x:Int}
def zL2 (x:Int):Bool :=
  (x != x)
end
theorem zRI (x:Int) (K:List PA→Prop) (hk:K (e120 (zL2 x))):vcFun Try.prog zRG zEK 120 [.one (.int .i64 x)] K :=
  zaI (by kernel_rfl) hk
def zyI : List PA → COut
  | [.one (.int .i64 a0)]=>.tot [.one (.bool (zL2 a0))]
  | _=>.no
theorem zHd:zaj Try.prog 120:=⟨_,rfl,rfl,by kernel_rfl⟩
theorem zPf:Ok Try.prog 120 zyI:=zaP zL1 zHd fun args K h=>by
  unfold zyI at h
  split at h
  · rename_i a0
    have hk:=h
    exact ⟨(fun _ _=>[]),(fun _=>false),zEK,zRI a0 K hk⟩
  · exact h.elim
abbrev zQH:Tabs:=(Tabs.nil.addF 120 zyI)
theorem zL3:TabsOk Try.prog zQH:=(TabsOk.nil.addF zPf)
abbrev zRJ:Ctrs:=csm zQH (fun _ _=>[]) (fun _=>false)
def zEL:Ann:=⟨20,[(0,zK [0,1] []),(1,zK [0,1,5] []),(2,zK [0,1,5,6] []),(3,zK [0,1,6,11] []),(4,zK [12] []),(5,zK [4] []),(6,zK [4] []),(7,zK [0,1,13] []),(8,zK [4] []),(9,zK [0,1,16] []),(10,zK [4] []),(11,zK [19] []),(12,zK [4] []),(13,zK [4] [])],
 [],
 [],
 [],[]⟩
abbrev zRK:=Int
abbrev zRL (r:zRK):List PA:=[.one (.int .i64 r)]
section
variable {K:List PA→Prop} {x:Int} {y_a1:Int}
def zPg (x:Int) (y_a1:Int):Int :=
  (cond (zL2 x)
 (cond (zL2 y_a1)
 (0:Int)
 (-1:Int))
 (cond (zL2 y_a1)
 (1:Int)
 (cond (decide (x < y_a1))
 (-1:Int)
 (cond (decide (x > y_a1))
 (1:Int)
 (0:Int)))))
end
theorem zRM (x:Int) (y_a1:Int) (K:List PA→Prop) (hk:K (zRL (zPg x y_a1))):vcFun Try.prog zRJ zEL 103 [.one (.int .i64 x),.one (.int .i64 y_a1)] K :=
  zaI (by kernel_rfl) (zt hk (fun hk=>(zt hk (fun hk=>hk) (fun hk=>hk))) (fun hk=>(zt hk (fun hk=>hk) (fun hk=>(zt hk (fun hk=>hk) (fun hk=>(zt hk (fun hk=>hk) (fun hk=>hk))))))))
def zyJ : List PA → COut
  | [.one (.int .i64 a0),.one (.int .i64 a1)]=>.tot [.one (.int .i64 (zPg a0 a1))]
  | _=>.no
theorem zHe:zaj Try.prog 103:=⟨_,rfl,rfl,by kernel_rfl⟩
theorem zPh:Ok Try.prog 103 zyJ:=zaP zL3 zHe fun args K h=>by
  unfold zyJ at h
  split at h
  · rename_i a0 a1
    have hk:=h
    exact ⟨(fun _ _=>[]),(fun _=>false),zEL,zRM a0 a1 K hk⟩
  · exact h.elim
abbrev T69:Tabs:=(Tabs.nil.addF 103 zyJ)
theorem zPi:TabsOk Try.prog T69:=(TabsOk.nil.addF zPh)
abbrev G69:Ctrs:=csm T69 (fun _ _=>[]) (fun _=>false)
def zL4:Ann:=⟨16,[(0,zK [2,3] [2,3]),(1,zK [4] [])],
 [],
 [],
 [],[]⟩
abbrev R69:=Int
abbrev e69 (r:R69):List PA:=[.one (.int .i64 r)]
section
variable {K:List PA→Prop} {a:Frac} {b:Frac}
def s69 (a:Frac) (b:Frac):Int :=
  (zPg (w64 (a.Num * b.Den)) (w64 (b.Num * a.Den)))
end
theorem q69 (a:Frac) (b:Frac) (K:List PA→Prop) (hk:K (e69 (s69 a b))):vcFun Try.prog G69 zL4 69 [.agg (zah a),.agg (zah b)] K :=
  zaI (by kernel_rfl) hk
def zwx : List PA → COut
  | [.agg [.int .i64 a0_Num,.int .i64 a0_Den],.agg [.int .i64 a1_Num,.int .i64 a1_Den]]=>.tot [.one (.int .i64 (s69 (⟨a0_Num,a0_Den⟩:Frac) (⟨a1_Num,a1_Den⟩:Frac)))]
  | _=>.no
theorem zL5:zaj Try.prog 69:=⟨_,rfl,rfl,by kernel_rfl⟩
theorem zN9:Ok Try.prog 69 zwx:=zaP zPi zL5 fun args K h=>by
  unfold zwx at h
  split at h
  · rename_i a0_Num a0_Den a1_Num a1_Den
    have hk:=h
    exact ⟨(fun _ _=>[]),(fun _=>false),zL4,q69 (⟨a0_Num,a0_Den⟩:Frac) (⟨a1_Num,a1_Den⟩:Frac) K hk⟩
  · exact h.elim
abbrev T83:Tabs:=Tabs.nil
theorem zPj:TabsOk Try.prog T83:=TabsOk.nil
abbrev G83:Ctrs:=csm T83 (fun _ _=>[]) (fun _=>false)
def zL6:Ann:=⟨8,[(0,zK [1,2] [1,2]),(1,zK [2] [2])],
 [],
 [],
 [],[]⟩
abbrev R83:=Frac
abbrev e83 (r:R83):List PA:=[.agg [.int .i64 r.Num,.int .i64 r.Den]]
section
variable {K:List PA→Prop} {x:straight}
def s83 (x:straight):Frac :=
  (⟨x.slope,x.den⟩:Frac)
end
theorem q83 (x:straight) (K:List PA→Prop) (hk:K (e83 (s83 x))):vcFun Try.prog G83 zL6 83 [.agg (zak x)] K :=
  zaI (by kernel_rfl) hk
def zHf : List PA → COut
  | [.agg [.int .i64 a0_slope,.int .i64 a0_start,.int .i64 a0_den]]=>.tot [.agg [.int .i64 ((s83 (⟨a0_slope,a0_start,a0_den⟩:straight)).Num),.int .i64 ((s83 (⟨a0_slope,a0_start,a0_den⟩:straight)).Den)]]
  | _=>.no
theorem zL7:zaj Try.prog 83:=⟨_,rfl,rfl,by kernel_rfl⟩
theorem zRN:Ok Try.prog 83 zHf:=zaP zPj zL7 fun args K h=>by
  unfold zHf at h
  split at h
  · rename_i a0_slope a0_start a0_den
    have hk:=h
    exact ⟨(fun _ _=>[]),(fun _=>false),zL6,q83 (⟨a0_slope,a0_start,a0_den⟩:straight) K hk⟩
  · exact h.elim
abbrev zQI:Tabs:=Tabs.nil
theorem zL8:TabsOk Try.prog zQI:=TabsOk.nil
abbrev zRO:Ctrs:=csm zQI (fun _ _=>[]) (fun _=>false)
def zEM:Ann:=⟨15,[(0,zK [1,2,4] [2,4]),(1,zK [4] [4])],
 [],
 [],
 [],[]⟩
abbrev zRP:=Frac
abbrev zRQ (r:zRP):List PA:=[.agg [.int .i64 r.Num,.int .i64 r.Den]]
section
variable {K:List PA→Prop} {s:straight} {z:Int}
def zOa (s:straight) (z:Int):Frac :=
  (⟨(w64 (s.start+(w64 (s.slope * z)))),s.den⟩:Frac)
end
theorem zRR (s:straight) (z:Int) (K:List PA→Prop) (hk:K (zRQ (zOa s z))):vcFun Try.prog zRO zEM 102 [.agg (zak s),.one (.int .i64 z)] K :=
  zaI (by kernel_rfl) hk
def zyK : List PA → COut
  | [.agg [.int .i64 a0_slope,.int .i64 a0_start,.int .i64 a0_den],.one (.int .i64 a1)]=>.tot [.agg [.int .i64 ((zOa (⟨a0_slope,a0_start,a0_den⟩:straight) a1).Num),.int .i64 ((zOa (⟨a0_slope,a0_start,a0_den⟩:straight) a1).Den)]]
  | _=>.no
theorem zHg:zaj Try.prog 102:=⟨_,rfl,rfl,by kernel_rfl⟩
theorem zPk:Ok Try.prog 102 zyK:=zaP zL8 zHg fun args K h=>by
  unfold zyK at h
  split at h
  · rename_i a0_slope a0_start a0_den a1
    have hk:=h
    exact ⟨(fun _ _=>[]),(fun _=>false),zEM,zRR (⟨a0_slope,a0_start,a0_den⟩:straight) a1 K hk⟩
  · exact h.elim
abbrev zQJ:Tabs:=(Tabs.nil.addF 102 zyK)
theorem zL9:TabsOk Try.prog zQJ:=(TabsOk.nil.addF zPk)
abbrev zRS:Ctrs:=csm zQJ (fun _ _=>[]) (fun _=>false)
def zEN:Ann:=⟨7,[(0,zK [1,2,3] [2,3]),(1,zK [3] [3])],
 [],
 [],
 [],[]⟩
abbrev zRT:=Frac
abbrev zRU (r:zRT):List PA:=[.agg [.int .i64 r.Num,.int .i64 r.Den]]
section
variable {K:List PA→Prop} {c0:Int} {x:straight}
def zKu (c0:Int) (x:straight):Frac :=
  (zOa x c0)
end
theorem zRV (c0:Int) (x:straight) (K:List PA→Prop) (hk:K (zRU (zKu c0 x))):vcFun Try.prog zRS zEN 101 [.agg (zak x),.one (.fp (zal c0) 0)] K :=
  zaI (by kernel_rfl) hk
def zyL : List PA → COut
  | [.agg [.int .i64 a0_slope,.int .i64 a0_start,.int .i64 a0_den],.one (.fp [.int .i64 c0] 0)]=>.tot [.agg [.int .i64 ((zKu c0 (⟨a0_slope,a0_start,a0_den⟩:straight)).Num),.int .i64 ((zKu c0 (⟨a0_slope,a0_start,a0_den⟩:straight)).Den)]]
  | _=>.no
theorem zHh:zaj Try.prog 101:=⟨_,rfl,rfl,by kernel_rfl⟩
theorem zPl:Ok Try.prog 101 zyL:=zaP zL9 zHh fun args K h=>by
  unfold zyL at h
  split at h
  · rename_i a0_slope a0_start a0_den c0
    have hk:=h
    exact ⟨(fun _ _=>[]),(fun _=>false),zEN,zRV c0 (⟨a0_slope,a0_start,a0_den⟩:straight) K hk⟩
  · exact h.elim
abbrev zQK:Tabs:=(Tabs.nil.addF 69 zwx)
theorem zMa:TabsOk Try.prog zQK:=(TabsOk.nil.addF zN9)
abbrev zRW:Ctrs:=csm zQK (fun _ _=>[]) (fun _=>false)
def zEO:Ann:=⟨9,[(0,zK [2,3] [2,3]),(1,zK [4] [])],
 [],
 [],
 [],[]⟩
abbrev zRX:=Bool
abbrev zRY (r:zRX):List PA:=[.one (.bool r)]
section
variable {K:List PA→Prop} {a:Frac} {b:Frac}
def zOb (a:Frac) (b:Frac):Bool :=
  (decide ((s69 a b) < (0:Int)))
end
theorem zRZ (a:Frac) (b:Frac) (K:List PA→Prop) (hk:K (zRY (zOb a b))):vcFun Try.prog zRW zEO 112 [.agg (zah a),.agg (zah b)] K :=
  zaI (by kernel_rfl) hk
def zyM : List PA → COut
  | [.agg [.int .i64 a0_Num,.int .i64 a0_Den],.agg [.int .i64 a1_Num,.int .i64 a1_Den]]=>.tot [.one (.bool (zOb (⟨a0_Num,a0_Den⟩:Frac) (⟨a1_Num,a1_Den⟩:Frac)))]
  | _=>.no
theorem zHi:zaj Try.prog 112:=⟨_,rfl,rfl,by kernel_rfl⟩
theorem zPm:Ok Try.prog 112 zyM:=zaP zMa zHi fun args K h=>by
  unfold zyM at h
  split at h
  · rename_i a0_Num a0_Den a1_Num a1_Den
    have hk:=h
    exact ⟨(fun _ _=>[]),(fun _=>false),zEO,zRZ (⟨a0_Num,a0_Den⟩:Frac) (⟨a1_Num,a1_Den⟩:Frac) K hk⟩
  · exact h.elim
abbrev zQL:Tabs:=(Tabs.nil.addF 69 zwx)
theorem zMb:TabsOk Try.prog zQL:=(TabsOk.nil.addF zN9)
abbrev zR0:Ctrs:=csm zQL (fun _ _=>[]) (fun _=>false)
def zEP:Ann:=⟨9,[(0,zK [2,3] [2,3]),(1,zK [4] [])],
 [],
 [],
 [],[]⟩
abbrev zR1:=Bool
abbrev zR2 (r:zR1):List PA:=[.one (.bool r)]
section
variable {K:List PA→Prop} {a:Frac} {b:Frac}
def zOc (a:Frac) (b:Frac):Bool :=
  (decide ((s69 a b) > (0:Int)))
end
theorem zR3 (a:Frac) (b:Frac) (K:List PA→Prop) (hk:K (zR2 (zOc a b))):vcFun Try.prog zR0 zEP 113 [.agg (zah a),.agg (zah b)] K :=
  zaI (by kernel_rfl) hk
def zyN : List PA → COut
  | [.agg [.int .i64 a0_Num,.int .i64 a0_Den],.agg [.int .i64 a1_Num,.int .i64 a1_Den]]=>.tot [.one (.bool (zOc (⟨a0_Num,a0_Den⟩:Frac) (⟨a1_Num,a1_Den⟩:Frac)))]
  | _=>.no
theorem zHj:zaj Try.prog 113:=⟨_,rfl,rfl,by kernel_rfl⟩
theorem zPn:Ok Try.prog 113 zyN:=zaP zMb zHj fun args K h=>by
  unfold zyN at h
  split at h
  · rename_i a0_Num a0_Den a1_Num a1_Den
    have hk:=h
    exact ⟨(fun _ _=>[]),(fun _=>false),zEP,zR3 (⟨a0_Num,a0_Den⟩:Frac) (⟨a1_Num,a1_Den⟩:Frac) K hk⟩
  · exact h.elim
abbrev zPo:Tabs:=((Tabs.nil.addF 112 zyM).addF 113 zyN)
theorem zMc:TabsOk Try.prog zPo:=((TabsOk.nil.addF zPm).addF zPn)
abbrev zQM:Ctrs:=csm zPo (fun _ _=>[]) (fun _=>false)
def zyO:Ann:=⟨25,[(0,zK [0,1,4] [4]),(1,zK [0,1,4,5] [4,5]),(2,zK [1,4,5,12,13,14] [4,5]),(3,zK [1,4,5,12,13,14,15] [4,5]),(4,zK [1,4,5,7,12,13,14] [4,5,7]),(5,zK [1,4,5,7,12,13,14,21] [4,5,7]),(6,zK [1,4,5,12,13,14] [4,5]),(7,zK [1,4,5,12,13,14] [4,5]),(8,zK [4] [4])],
 [(3,zK [1,4,5,12,13,14] [4,5])],
 [(6,zK [1,4,5,7,12,13,14,21] [4,5,7])],
 [],[]⟩
abbrev zR4:=Frac
abbrev zOd (r:zR4):List PA:=[.agg [.int .i64 r.Num,.int .i64 r.Den]]
@[irreducible] def z111:=ptF Try.prog zQM zyO Try.f111
def zyP (l_a0:(Sl Frac)) (zaZ:(Sl Frac)) (zam:Int) (zay:Int) (zaz:Int) (zcY:Nat→List PV):St:=⟨[(1,zP (.fn 112 [] [])),(4,zp 4 0),(5,zp 5 0),(12,zP (.sl zaZ.len 2 zcY)),(13,zI (((l_a0.len:Int) - (1:Int)).toNat:Int)),(14,zI zam)],[(4,.box 25 (zm (zah (⟨(0:Int),(0:Int)⟩:Frac)))),(5,.box 25 (zm (zah (⟨zay,zaz⟩:Frac))))],[]⟩
abbrev zyQ (K:List PA→Prop) (l_a0:(Sl Frac)) (X:St→Prop) (P:(Sl Frac)→Int→Int→Int→Bool) (S:(Sl Frac)→Int→Int→Int→Frac):Prop:=∀ ⦃zaZ:(Sl Frac)⦄ ⦃zam:Int⦄ ⦃zay:Int⦄ ⦃zaz:Int⦄ ⦃zcY:Nat→List PV⦄,P zaZ zam zay zaz=true→K (zOd (S zaZ zam zay zaz))→zcY=zg zah zaZ→X (zyP l_a0 zaZ zam zay zaz zcY)
section
variable {K:List PA→Prop} {l_a0:(Sl Frac)} {zaZ:(Sl Frac)} {zam:Int} {zay:Int} {zaz:Int} {zcY:Nat→List PV} {X0:St→Prop} {P0:(Sl Frac)→Int→Int→Int→Bool} {S0:(Sl Frac)→Int→Int→Int→Frac} {zdy:(Sl Frac)} {za7:Int} {zhC:Bool} {zdi:Int} {zdj:Int} {zhD:Int} {zhE:Int} {zlK:Nat→List PV}
def zuZ (S0:(Sl Frac)→Int→Int→Int→Frac) (l_a0:(Sl Frac)) (zdy:(Sl Frac)) (za7:Int) (zhC:Bool) (zdi:Int) (zdj:Int) (zhD:Int) (zhE:Int):Frac :=
  (cond zhC
 (S0 zdy (w64 (za7+(1:Int))) zhD zhE)
 (S0 zdy (w64 (za7+(1:Int))) zdi zdj))
def zu0 (P0:(Sl Frac)→Int→Int→Int→Bool) (l_a0:(Sl Frac)) (zdy:(Sl Frac)) (za7:Int) (zhC:Bool) (zdi:Int) (zdj:Int) (zhD:Int) (zhE:Int):Bool :=
  (cond zhC
 (P0 zdy (w64 (za7+(1:Int))) zhD zhE)
 (P0 zdy (w64 (za7+(1:Int))) zdi zdj))
theorem zDp (hX0:zyQ K l_a0 X0 P0 S0) (hs:zu0 P0 l_a0 zdy za7 zhC zdi zdj zhD zhE=true) (hk:K (zOd (zuZ S0 l_a0 zdy za7 zhC zdi zdj zhD zhE))) (zsF:zlK=zg zah zdy):z111 K [1,1,0,1,0,0,1,1,0,0,1,1] [X0] ⟨[(1,zP (.fn 112 [] [])),(4,zp 4 0),(5,zp 5 0),(7,zp 7 0),(12,zP (.sl zdy.len 2 zlK)),(13,zI (((l_a0.len:Int) - (1:Int)).toNat:Int)),(14,zI za7),(21,zB zhC)],[(4,.box 25 (zm (zah (⟨(0:Int),(0:Int)⟩:Frac)))),(5,.box 25 (zm (zah (⟨zdi,zdj⟩:Frac)))),(7,.box 25 (zm (zah (⟨zhD,zhE⟩:Frac))))],[]⟩:=by subst zsF;exact zaI (by kernel_rfl) (zc hs hk (fun hs hk=>(hX0 hs hk rfl)) (fun hs hk=>(hX0 hs hk rfl)))
def zu1 (l_a0:(Sl Frac)) (S0:(Sl Frac)→Int→Int→Int→Frac) (zaZ:(Sl Frac)) (zam:Int) (zay:Int) (zaz:Int):Frac :=
  (cond (decide (zam < (((l_a0.len : Int) - (1:Int)).toNat : Int)))
 (zuZ S0 l_a0 zaZ zam (zOb (zaZ.get zam.toNat) (⟨zay,zaz⟩:Frac)) zay zaz ((zaZ.get zam.toNat).Num) ((zaZ.get zam.toNat).Den))
 (⟨zay,zaz⟩:Frac))
def zu3 (l_a0:(Sl Frac)) (P0:(Sl Frac)→Int→Int→Int→Bool) (zaZ:(Sl Frac)) (zam:Int) (zay:Int) (zaz:Int):Bool :=
  (cond (decide (zam < (((l_a0.len : Int) - (1:Int)).toNat : Int)))
 (decide ((0≤zam∧zam < (zaZ.len:Int))) &&
 (zu0 P0 l_a0 zaZ zam (zOb (zaZ.get zam.toNat) (⟨zay,zaz⟩:Frac)) zay zaz ((zaZ.get zam.toNat).Num) ((zaZ.get zam.toNat).Den)))
 true)
def zu4 (l_a0:(Sl Frac)):Nat→(Sl Frac)→Int→Int→Int→Frac:=lpO (fun _ _ _ _=>default) (zu1 l_a0)
def zu5 (l_a0:(Sl Frac)):Nat→(Sl Frac)→Int→Int→Int→Bool:=lpO (fun _ _ _ _=>false) (zu3 l_a0)
def zu6 (l_a0:(Sl Frac)) (zaZ:(Sl Frac)) (zam:Int) (zay:Int) (zaz:Int):Frac:=zu4 l_a0 Fuel zaZ zam zay zaz
def zu7 (l_a0:(Sl Frac)) (zaZ:(Sl Frac)) (zam:Int) (zay:Int) (zaz:Int):Bool:=zu5 l_a0 Fuel zaZ zam zay zaz
theorem zDq (hs:zu7 l_a0 zaZ zam zay zaz=true) (hk:K (zOd (zu6 l_a0 zaZ zam zay zaz))) (zhF:zcY=zg zah zaZ):z111 K [1,1,0,1,0] [] (zyP l_a0 zaZ zam zay zaz zcY) :=
  zl (fun X=>z111 K [1,1,0,1,0,0] [X]) (by kernel_rfl) fun X0 hX =>
  (show ∀ k, zyQ K l_a0 X0 (zu5 l_a0 k) (zu4 l_a0 k) from zfT _ _ (zu3 l_a0) (zu1 l_a0) (zyQ K l_a0 X0)
 (by intro _ _ _ _ _ hs;exact absurd hs Bool.false_ne_true)
 (by intro P0 S0 hX0 zaZ zam zay zaz zcY hs hk zhF;subst zhF;exact hX _ (zaI (by kernel_rfl) (zc hs hk (fun hs hk=>(zaE hs fun hc hs=>And.intro hc (zDp hX0 hs hk rfl))) (fun hs hk=>hk))))) _ hs hk zhF
def zyR (l_a0:(Sl Frac)):Frac :=
  (zu6 l_a0 (⟨((l_a0.len:Int) - (1:Int)).toNat,(fun i=>l_a0.get (i+((1:Int).toNat)))⟩:Sl Frac) (0:Int) ((l_a0.get 0).Num) ((l_a0.get 0).Den))
def zOe (l_a0:(Sl Frac)):Bool :=
  (decide ((0≤(0:Int)∧(0:Int) < (l_a0.len:Int))) &&
 (decide ((0≤(1:Int)∧(1:Int)≤(l_a0.len:Int)∧(l_a0.len:Int)≤(l_a0.len:Int))) &&
 (zu7 l_a0 (⟨((l_a0.len:Int) - (1:Int)).toNat,(fun i=>l_a0.get (i+((1:Int).toNat)))⟩:Sl Frac) (0:Int) ((l_a0.get 0).Num) ((l_a0.get 0).Den))))
end
theorem zR5 (l_a0:(Sl Frac)) (K:List PA→Prop) (hs:zOe l_a0=true) (hk:K (zOd (zyR l_a0))):vcFun Try.prog zQM zyO 111 [.one (.sl l_a0.len 2 (fun i=>zah (l_a0.get i))),.one (.fn 112 [] [])] K :=
  zaI (by kernel_rfl) (zaE hs fun hc hs=>And.intro hc (zaE hs fun hc hs=>And.intro hc (zDq hs hk rfl)))
abbrev zMd:Ctrs:=csm zPo (fun _ _=>[]) (fun _=>false)
def zsG:Ann:=⟨25,[(0,zK [0,1,4] [4]),(1,zK [0,1,4,5] [4,5]),(2,zK [1,4,5,12,13,14] [4,5]),(3,zK [1,4,5,12,13,14,15] [4,5]),(4,zK [1,4,5,7,12,13,14] [4,5,7]),(5,zK [1,4,5,7,12,13,14,21] [4,5,7]),(6,zK [1,4,5,12,13,14] [4,5]),(7,zK [1,4,5,12,13,14] [4,5]),(8,zK [4] [4])],
 [(3,zK [1,4,5,12,13,14] [4,5])],
 [(6,zK [1,4,5,7,12,13,14,21] [4,5,7])],
 [],[]⟩
abbrev zPp:=Frac
abbrev zDr (r:zPp):List PA:=[.agg [.int .i64 r.Num,.int .i64 r.Den]]
@[irreducible] def z111a:=ptF Try.prog zMd zsG Try.f111
def zu8 (l_a0:(Sl Frac)) (zaZ:(Sl Frac)) (zam:Int) (zay:Int) (zaz:Int) (zcY:Nat→List PV):St:=⟨[(1,zP (.fn 113 [] [])),(4,zp 4 0),(5,zp 5 0),(12,zP (.sl zaZ.len 2 zcY)),(13,zI (((l_a0.len:Int) - (1:Int)).toNat:Int)),(14,zI zam)],[(4,.box 25 (zm (zah (⟨(0:Int),(0:Int)⟩:Frac)))),(5,.box 25 (zm (zah (⟨zay,zaz⟩:Frac))))],[]⟩
abbrev zsH (K:List PA→Prop) (l_a0:(Sl Frac)) (X:St→Prop) (P:(Sl Frac)→Int→Int→Int→Bool) (S:(Sl Frac)→Int→Int→Int→Frac):Prop:=∀ ⦃zaZ:(Sl Frac)⦄ ⦃zam:Int⦄ ⦃zay:Int⦄ ⦃zaz:Int⦄ ⦃zcY:Nat→List PV⦄,P zaZ zam zay zaz=true→K (zDr (S zaZ zam zay zaz))→zcY=zg zah zaZ→X (zu8 l_a0 zaZ zam zay zaz zcY)
section
variable {K:List PA→Prop} {l_a0:(Sl Frac)} {zaZ:(Sl Frac)} {zam:Int} {zay:Int} {zaz:Int} {zcY:Nat→List PV} {X0:St→Prop} {P0:(Sl Frac)→Int→Int→Int→Bool} {S0:(Sl Frac)→Int→Int→Int→Frac} {zdy:(Sl Frac)} {za7:Int} {zhC:Bool} {zdi:Int} {zdj:Int} {zhD:Int} {zhE:Int} {zlK:Nat→List PV}
def zqK (S0:(Sl Frac)→Int→Int→Int→Frac) (l_a0:(Sl Frac)) (zdy:(Sl Frac)) (za7:Int) (zhC:Bool) (zdi:Int) (zdj:Int) (zhD:Int) (zhE:Int):Frac :=
  (cond zhC
 (S0 zdy (w64 (za7+(1:Int))) zhD zhE)
 (S0 zdy (w64 (za7+(1:Int))) zdi zdj))
def zqL (P0:(Sl Frac)→Int→Int→Int→Bool) (l_a0:(Sl Frac)) (zdy:(Sl Frac)) (za7:Int) (zhC:Bool) (zdi:Int) (zdj:Int) (zhD:Int) (zhE:Int):Bool :=
  (cond zhC
 (P0 zdy (w64 (za7+(1:Int))) zhD zhE)
 (P0 zdy (w64 (za7+(1:Int))) zdi zdj))
theorem zyS (hX0:zsH K l_a0 X0 P0 S0) (hs:zqL P0 l_a0 zdy za7 zhC zdi zdj zhD zhE=true) (hk:K (zDr (zqK S0 l_a0 zdy za7 zhC zdi zdj zhD zhE))) (zsF:zlK=zg zah zdy):z111a K [1,1,0,1,0,0,1,1,0,0,1,1] [X0] ⟨[(1,zP (.fn 113 [] [])),(4,zp 4 0),(5,zp 5 0),(7,zp 7 0),(12,zP (.sl zdy.len 2 zlK)),(13,zI (((l_a0.len:Int) - (1:Int)).toNat:Int)),(14,zI za7),(21,zB zhC)],[(4,.box 25 (zm (zah (⟨(0:Int),(0:Int)⟩:Frac)))),(5,.box 25 (zm (zah (⟨zdi,zdj⟩:Frac)))),(7,.box 25 (zm (zah (⟨zhD,zhE⟩:Frac))))],[]⟩:=by subst zsF;exact zaI (by kernel_rfl) (zc hs hk (fun hs hk=>(hX0 hs hk rfl)) (fun hs hk=>(hX0 hs hk rfl)))
def zqM (l_a0:(Sl Frac)) (S0:(Sl Frac)→Int→Int→Int→Frac) (zaZ:(Sl Frac)) (zam:Int) (zay:Int) (zaz:Int):Frac :=
  (cond (decide (zam < (((l_a0.len : Int) - (1:Int)).toNat : Int)))
 (zqK S0 l_a0 zaZ zam (zOc (zaZ.get zam.toNat) (⟨zay,zaz⟩:Frac)) zay zaz ((zaZ.get zam.toNat).Num) ((zaZ.get zam.toNat).Den))
 (⟨zay,zaz⟩:Frac))
def zqN (l_a0:(Sl Frac)) (P0:(Sl Frac)→Int→Int→Int→Bool) (zaZ:(Sl Frac)) (zam:Int) (zay:Int) (zaz:Int):Bool :=
  (cond (decide (zam < (((l_a0.len : Int) - (1:Int)).toNat : Int)))
 (decide ((0≤zam∧zam < (zaZ.len:Int))) &&
 (zqL P0 l_a0 zaZ zam (zOc (zaZ.get zam.toNat) (⟨zay,zaz⟩:Frac)) zay zaz ((zaZ.get zam.toNat).Num) ((zaZ.get zam.toNat).Den)))
 true)
def zqO (l_a0:(Sl Frac)):Nat→(Sl Frac)→Int→Int→Int→Frac:=lpO (fun _ _ _ _=>default) (zqM l_a0)
def zqP (l_a0:(Sl Frac)):Nat→(Sl Frac)→Int→Int→Int→Bool:=lpO (fun _ _ _ _=>false) (zqN l_a0)
def zqQ (l_a0:(Sl Frac)) (zaZ:(Sl Frac)) (zam:Int) (zay:Int) (zaz:Int):Frac:=zqO l_a0 Fuel zaZ zam zay zaz
def zqR (l_a0:(Sl Frac)) (zaZ:(Sl Frac)) (zam:Int) (zay:Int) (zaz:Int):Bool:=zqP l_a0 Fuel zaZ zam zay zaz
theorem zyT (hs:zqR l_a0 zaZ zam zay zaz=true) (hk:K (zDr (zqQ l_a0 zaZ zam zay zaz))) (zhF:zcY=zg zah zaZ):z111a K [1,1,0,1,0] [] (zu8 l_a0 zaZ zam zay zaz zcY) :=
  zl (fun X=>z111a K [1,1,0,1,0,0] [X]) (by kernel_rfl) fun X0 hX =>
  (show ∀ k, zsH K l_a0 X0 (zqP l_a0 k) (zqO l_a0 k) from zfT _ _ (zqN l_a0) (zqM l_a0) (zsH K l_a0 X0)
 (by intro _ _ _ _ _ hs;exact absurd hs Bool.false_ne_true)
 (by intro P0 S0 hX0 zaZ zam zay zaz zcY hs hk zhF;subst zhF;exact hX _ (zaI (by kernel_rfl) (zc hs hk (fun hs hk=>(zaE hs fun hc hs=>And.intro hc (zyS hX0 hs hk rfl))) (fun hs hk=>hk))))) _ hs hk zhF
def s111a (l_a0:(Sl Frac)):Frac :=
  (zqQ l_a0 (⟨((l_a0.len:Int) - (1:Int)).toNat,(fun i=>l_a0.get (i+((1:Int).toNat)))⟩:Sl Frac) (0:Int) ((l_a0.get 0).Num) ((l_a0.get 0).Den))
def zDs (l_a0:(Sl Frac)):Bool :=
  (decide ((0≤(0:Int)∧(0:Int) < (l_a0.len:Int))) &&
 (decide ((0≤(1:Int)∧(1:Int)≤(l_a0.len:Int)∧(l_a0.len:Int)≤(l_a0.len:Int))) &&
 (zqR l_a0 (⟨((l_a0.len:Int) - (1:Int)).toNat,(fun i=>l_a0.get (i+((1:Int).toNat)))⟩:Sl Frac) (0:Int) ((l_a0.get 0).Num) ((l_a0.get 0).Den))))
end
theorem zPq (l_a0:(Sl Frac)) (K:List PA→Prop) (hs:zDs l_a0=true) (hk:K (zDr (s111a l_a0))):vcFun Try.prog zMd zsG 111 [.one (.sl l_a0.len 2 (fun i=>zah (l_a0.get i))),.one (.fn 113 [] [])] K :=
  zaI (by kernel_rfl) (zaE hs fun hc hs=>And.intro hc (zaE hs fun hc hs=>And.intro hc (zyT hs hk rfl)))
def zyU : List PA → COut
  | [.one (.sl a0_n a0_s a0_g),.one (.fn 112 [] [])]=>.det (IsE zah 2 a0_s a0_g∧zOe (⟨a0_n,zhj a0_g⟩:(Sl Frac))=true) [.agg [.int .i64 ((zyR (⟨a0_n,zhj a0_g⟩:(Sl Frac))).Num),.int .i64 ((zyR (⟨a0_n,zhj a0_g⟩:(Sl Frac))).Den)]]
  | [.one (.sl a0_n a0_s a0_g),.one (.fn 113 [] [])]=>.det (IsE zah 2 a0_s a0_g∧zDs (⟨a0_n,zhj a0_g⟩:(Sl Frac))=true) [.agg [.int .i64 ((s111a (⟨a0_n,zhj a0_g⟩:(Sl Frac))).Num),.int .i64 ((s111a (⟨a0_n,zhj a0_g⟩:(Sl Frac))).Den)]]
  | _=>.no
theorem zHk:zaj Try.prog 111:=⟨_,rfl,rfl,by kernel_rfl⟩
theorem zPr:Ok Try.prog 111 zyU:=zaP zMc zHk fun args K h=>by
  unfold zyU at h
  split at h
  · rename_i a0_n a0_s a0_g
    obtain ⟨⟨⟨rfl,a0_f,rfl⟩,hs⟩,hk⟩:=h
    try rw [zfp a0_f] at hs
    try rw [zfp a0_f] at hk
    exact ⟨(fun _ _=>[]),(fun _=>false),zyO,zR5 (⟨a0_n,a0_f⟩:(Sl Frac)) K hs hk⟩
  · rename_i a0_n a0_s a0_g
    obtain ⟨⟨⟨rfl,a0_f,rfl⟩,hs⟩,hk⟩:=h
    try rw [zfp a0_f] at hs
    try rw [zfp a0_f] at hk
    exact ⟨(fun _ _=>[]),(fun _=>false),zsG,zPq (⟨a0_n,a0_f⟩:(Sl Frac)) K hs hk⟩
  · exact h.elim
abbrev T82:Tabs:=((((Tabs.nil.addF 83 zHf).addF 89 zwu).addF 101 zyL).addF 111 zyU)
theorem zPs:TabsOk Try.prog T82:=((((TabsOk.nil.addF zRN).addF zN8).addF zPl).addF zPr)
abbrev G82:Ctrs:=csm T82 (fun _ _=>[]) (fun _=>false)
def zHl:Ann:=⟨39,[(0,zK [1,2,4,5] [2,4,5]),(1,zK [1,2,4,5,6] [2,4,5]),(2,zK [1,4,5,6,12,13,14] [4,5]),(3,zK [1,4,5,6,12,13,14,15] [4,5,23]),(4,zK [1,4,5,6,8,12,13,14] [4,5,8,23]),(5,zK [1,4,5,6,12,13,14] [4,5,23]),(6,zK [1,4,5,6,12,13,14] [4,5,23]),(7,zK [4,5,6,9] [4,5,9,23]),(8,zK [4,5,9,10] [4,5,9,10]),(9,zK [4,5] [4,5])],
 [(3,⟨[1,4,5,6,12,13,14],[4,5,23],[(6,23,25,fun _=>zah default)],[],[],[],[]⟩)],
 [(7,zK [4,5,6] [4,5,23]),(8,zK [4,5,6,9] [4,5,9,23]),(9,zK [4,5,9,10] [4,5,9,10])],
 [],[]⟩
abbrev R82:=(Frac×Frac)
abbrev e82 (r:R82):List PA:=[.agg [.int .i64 r.1.Num,.int .i64 r.1.Den],.agg [.int .i64 r.2.Num,.int .i64 r.2.Den]]
@[irreducible] def z82:=ptF Try.prog G82 zHl Try.f82
def zEQ (c0:Int) (s:set) (zam:Int) (zbu:(Sl Frac)) (zcZ:Nat→List PV):St:=⟨[(1,zP (.fn 101 [] [.fp (zal c0) 0])),(4,zp 4 0),(5,zp 5 0),(6,zv 23),(12,zS zak 3 s.corners),(13,zI (s.corners.len:Int)),(14,zI zam)],[(4,.box 25 (zm (zah (⟨(0:Int),(0:Int)⟩:Frac)))),(5,.box 25 (zm (zah (⟨(0:Int),(0:Int)⟩:Frac)))),(23,.vec 25 2 16 zbu.len zcZ)],[]⟩
abbrev zMe (K:List PA→Prop) (c0:Int) (s:set) (X:St→Prop) (P:Int→(Sl Frac)→Bool) (S:Int→(Sl Frac)→(Frac×Frac)):Prop:=∀ ⦃zam:Int⦄ ⦃zbu:(Sl Frac)⦄ ⦃zcZ:Nat→List PV⦄,P zam zbu=true→K (e82 (S zam zbu))→zcZ=zg zah zbu→X (zEQ c0 s zam zbu zcZ)
section
variable {K:List PA→Prop} {c0:Int} {s:set} {zam:Int} {zbu:(Sl Frac)} {zcZ:Nat→List PV} {X0:St→Prop} {P0:Int→(Sl Frac)→Bool} {S0:Int→(Sl Frac)→(Frac×Frac)} {zdz:(Sl Frac)} {zlL:Nat→List PV} {zbv:Int} {zbw:Int} {zd1:(Sl Frac)} {zlM:Nat→List PV} {zcD:Int} {zcE:Int}
def zyV (zbv:Int) (zbw:Int) (zcD:Int) (zcE:Int):(Frac×Frac) :=
  ((s89 zbv zbw),(s89 zcD zcE))
def zyW (zbv:Int) (zbw:Int) (zcD:Int) (zcE:Int):Bool :=
  (decide ((p89 zbv zbw=true)) &&
 (decide ((p89 zcD zcE=true)) &&
 true))
theorem zHm (hs:zyW zbv zbw zcD zcE=true) (hk:K (e82 (zyV zbv zbw zcD zcE))):z82 K [1,1,1,1,1] [] ⟨[(4,zp 4 0),(5,zp 5 0),(9,zp 9 0),(10,zp 10 0)],[(4,.box 25 (zm (zah (⟨(0:Int),(0:Int)⟩:Frac)))),(5,.box 25 (zm (zah (⟨(0:Int),(0:Int)⟩:Frac)))),(9,.box 25 (zm (zah (⟨zbv,zbw⟩:Frac)))),(10,.box 25 (zm (zah (⟨zcD,zcE⟩:Frac))))],[]⟩:=zaI (by kernel_rfl) (zaE hs fun hc hs=>And.intro hc (zaE hs fun hc hs=>And.intro hc hk))
def zyX (zbv:Int) (zbw:Int) (zd1:(Sl Frac)):(Frac×Frac) :=
  (zyV zbv zbw ((s111a zd1).Num) ((s111a zd1).Den))
def zyY (zbv:Int) (zbw:Int) (zd1:(Sl Frac)):Bool :=
  (decide ((zDs zd1=true)) &&
 (zyW zbv zbw ((s111a zd1).Num) ((s111a zd1).Den)))
theorem zHn (hs:zyY zbv zbw zd1=true) (hk:K (e82 (zyX zbv zbw zd1))) (zsI:zlM=zg zah zd1):z82 K [1,1,1,1] [] ⟨[(4,zp 4 0),(5,zp 5 0),(6,zv 23),(9,zp 9 0)],[(4,.box 25 (zm (zah (⟨(0:Int),(0:Int)⟩:Frac)))),(5,.box 25 (zm (zah (⟨(0:Int),(0:Int)⟩:Frac)))),(9,.box 25 (zm (zah (⟨zbv,zbw⟩:Frac)))),(23,.vec 25 2 16 zd1.len zlM)],[]⟩:=by subst zsI;exact zaI (by kernel_rfl) (zaE hs fun hc hs=>And.intro (And.intro (zE zah 2 zd1.get) hc) (zHm hs hk))
def zyZ (zdz:(Sl Frac)):(Frac×Frac) :=
  (zyX ((zyR zdz).Num) ((zyR zdz).Den) zdz)
def zy0 (zdz:(Sl Frac)):Bool :=
  (decide ((zOe zdz=true)) &&
 (zyY ((zyR zdz).Num) ((zyR zdz).Den) zdz))
theorem zHo (hs:zy0 zdz=true) (hk:K (e82 (zyZ zdz))) (zsJ:zlL=zg zah zdz):z82 K [1,1,1] [] ⟨[(4,zp 4 0),(5,zp 5 0),(6,zv 23)],[(4,.box 25 (zm (zah (⟨(0:Int),(0:Int)⟩:Frac)))),(5,.box 25 (zm (zah (⟨(0:Int),(0:Int)⟩:Frac)))),(23,.vec 25 2 16 zdz.len zlL)],[]⟩:=by subst zsJ;exact zaI (by kernel_rfl) (zaE hs fun hc hs=>And.intro (And.intro (zE zah 2 zdz.get) hc) (zHn hs hk rfl))
def zy1 (c0:Int) (s:set) (S0:Int→(Sl Frac)→(Frac×Frac)) (zam:Int) (zbu:(Sl Frac)):(Frac×Frac) :=
  (cond (decide (zam < (s.corners.len : Int)))
 (S0 (w64 (zam+(1:Int))) (⟨(zbu.len+1),(zdN zbu.len zbu.get (fun _=>(zKu c0 (s.corners.get zam.toNat))))⟩:Sl Frac))
 (zyZ zbu))
def zy2 (c0:Int) (s:set) (P0:Int→(Sl Frac)→Bool) (zam:Int) (zbu:(Sl Frac)):Bool :=
  (cond (decide (zam < (s.corners.len : Int)))
 (decide ((0≤zam∧zam < (s.corners.len:Int))) &&
 (decide (((zbu.len+1) * 16≤140737488355328∧zbu.len+1≤9223372036854775807)) &&
 (P0 (w64 (zam+(1:Int))) (⟨(zbu.len+1),(zdN zbu.len zbu.get (fun _=>(zKu c0 (s.corners.get zam.toNat))))⟩:Sl Frac))))
 (zy0 zbu))
def zy3 (c0:Int) (s:set):Nat→Int→(Sl Frac)→(Frac×Frac):=lpO (fun _ _=>default) (zy1 c0 s)
def zy4 (c0:Int) (s:set):Nat→Int→(Sl Frac)→Bool:=lpO (fun _ _=>false) (zy2 c0 s)
def zy5 (c0:Int) (s:set) (zam:Int) (zbu:(Sl Frac)):(Frac×Frac):=zy3 c0 s Fuel zam zbu
def zy6 (c0:Int) (s:set) (zam:Int) (zbu:(Sl Frac)):Bool:=zy4 c0 s Fuel zam zbu
theorem zHp (hs:zy6 c0 s zam zbu=true) (hk:K (e82 (zy5 c0 s zam zbu))) (zhG:zcZ=zg zah zbu):z82 K [1,1,0,1,0] [] (zEQ c0 s zam zbu zcZ) :=
  zl (fun X=>z82 K [1,1,0,1,0,0] [X]) (by kernel_rfl) fun X0 hX =>
  (show ∀ k, zMe K c0 s X0 (zy4 c0 s k) (zy3 c0 s k) from zfT _ _ (zy2 c0 s) (zy1 c0 s) (zMe K c0 s X0)
 (by intro _ _ _ hs;exact absurd hs Bool.false_ne_true)
 (by intro P0 S0 hX0 zam zbu zcZ hs hk zhG;subst zhG;exact hX _ (zaI (by kernel_rfl) (zc hs hk (fun hs hk=>(zaE hs fun hc hs=>And.intro hc (zaE hs fun hc hs=>And.intro hc (hX0 hs hk (zf4 (enc:=zah) (f:=zbu.get) (h:=(fun _=>(zKu c0 (s.corners.get zam.toNat)))) rfl rfl))))) (fun hs hk=>(zHo hs hk rfl)))))) _ hs hk zhG
def s82 (c0:Int) (s:set):(Frac×Frac) :=
  (zy5 c0 s (0:Int) (⟨0,(fun _=>default)⟩:Sl Frac))
def p82 (c0:Int) (s:set):Bool :=
  (zy6 c0 s (0:Int) (⟨0,(fun _=>default)⟩:Sl Frac))
end
theorem q82 (c0:Int) (s:set) (K:List PA→Prop) (hs:p82 c0 s=true) (hk:K (e82 (s82 c0 s))):vcFun Try.prog G82 zHl 82 [.agg (zbj s),.one (.fn 101 [] [.fp (zal c0) 0])] K :=
  zaI (by kernel_rfl) (zHp hs hk rfl)
abbrev zQN:Ctrs:=csm T82 (fun _ _=>[]) (fun _=>false)
def zy7:Ann:=⟨39,[(0,zK [1,2,4,5] [2,4,5]),(1,zK [1,2,4,5,6] [2,4,5]),(2,zK [1,4,5,6,12,13,14] [4,5]),(3,zK [1,4,5,6,12,13,14,15] [4,5,23]),(4,zK [1,4,5,6,8,12,13,14] [4,5,8,23]),(5,zK [1,4,5,6,12,13,14] [4,5,23]),(6,zK [1,4,5,6,12,13,14] [4,5,23]),(7,zK [4,5,6,9] [4,5,9,23]),(8,zK [4,5,9,10] [4,5,9,10]),(9,zK [4,5] [4,5])],
 [(3,⟨[1,4,5,6,12,13,14],[4,5,23],[(6,23,25,fun _=>zah default)],[],[],[],[]⟩)],
 [(7,zK [4,5,6] [4,5,23]),(8,zK [4,5,6,9] [4,5,9,23]),(9,zK [4,5,9,10] [4,5,9,10])],
 [],[]⟩
abbrev zR6:=(Frac×Frac)
abbrev zKv (r:zR6):List PA:=[.agg [.int .i64 r.1.Num,.int .i64 r.1.Den],.agg [.int .i64 r.2.Num,.int .i64 r.2.Den]]
@[irreducible] def z82a:=ptF Try.prog zQN zy7 Try.f82
def zy8 (s:set) (zam:Int) (zbu:(Sl Frac)) (zcZ:Nat→List PV):St:=⟨[(1,zP (.fn 83 [] [])),(4,zp 4 0),(5,zp 5 0),(6,zv 23),(12,zS zak 3 s.corners),(13,zI (s.corners.len:Int)),(14,zI zam)],[(4,.box 25 (zm (zah (⟨(0:Int),(0:Int)⟩:Frac)))),(5,.box 25 (zm (zah (⟨(0:Int),(0:Int)⟩:Frac)))),(23,.vec 25 2 16 zbu.len zcZ)],[]⟩
abbrev zER (K:List PA→Prop) (s:set) (X:St→Prop) (P:Int→(Sl Frac)→Bool) (S:Int→(Sl Frac)→(Frac×Frac)):Prop:=∀ ⦃zam:Int⦄ ⦃zbu:(Sl Frac)⦄ ⦃zcZ:Nat→List PV⦄,P zam zbu=true→K (zKv (S zam zbu))→zcZ=zg zah zbu→X (zy8 s zam zbu zcZ)
section
variable {K:List PA→Prop} {s:set} {zam:Int} {zbu:(Sl Frac)} {zcZ:Nat→List PV} {X0:St→Prop} {P0:Int→(Sl Frac)→Bool} {S0:Int→(Sl Frac)→(Frac×Frac)} {zdz:(Sl Frac)} {zlL:Nat→List PV} {zbv:Int} {zbw:Int} {zd1:(Sl Frac)} {zlM:Nat→List PV} {zcD:Int} {zcE:Int}
def zu9 (zbv:Int) (zbw:Int) (zcD:Int) (zcE:Int):(Frac×Frac) :=
  ((s89 zbv zbw),(s89 zcD zcE))
def zva (zbv:Int) (zbw:Int) (zcD:Int) (zcE:Int):Bool :=
  (decide ((p89 zbv zbw=true)) &&
 (decide ((p89 zcD zcE=true)) &&
 true))
theorem zDt (hs:zva zbv zbw zcD zcE=true) (hk:K (zKv (zu9 zbv zbw zcD zcE))):z82a K [1,1,1,1,1] [] ⟨[(4,zp 4 0),(5,zp 5 0),(9,zp 9 0),(10,zp 10 0)],[(4,.box 25 (zm (zah (⟨(0:Int),(0:Int)⟩:Frac)))),(5,.box 25 (zm (zah (⟨(0:Int),(0:Int)⟩:Frac)))),(9,.box 25 (zm (zah (⟨zbv,zbw⟩:Frac)))),(10,.box 25 (zm (zah (⟨zcD,zcE⟩:Frac))))],[]⟩:=zaI (by kernel_rfl) (zaE hs fun hc hs=>And.intro hc (zaE hs fun hc hs=>And.intro hc hk))
def zvb (zbv:Int) (zbw:Int) (zd1:(Sl Frac)):(Frac×Frac) :=
  (zu9 zbv zbw ((s111a zd1).Num) ((s111a zd1).Den))
def zvc (zbv:Int) (zbw:Int) (zd1:(Sl Frac)):Bool :=
  (decide ((zDs zd1=true)) &&
 (zva zbv zbw ((s111a zd1).Num) ((s111a zd1).Den)))
theorem zDu (hs:zvc zbv zbw zd1=true) (hk:K (zKv (zvb zbv zbw zd1))) (zsI:zlM=zg zah zd1):z82a K [1,1,1,1] [] ⟨[(4,zp 4 0),(5,zp 5 0),(6,zv 23),(9,zp 9 0)],[(4,.box 25 (zm (zah (⟨(0:Int),(0:Int)⟩:Frac)))),(5,.box 25 (zm (zah (⟨(0:Int),(0:Int)⟩:Frac)))),(9,.box 25 (zm (zah (⟨zbv,zbw⟩:Frac)))),(23,.vec 25 2 16 zd1.len zlM)],[]⟩:=by subst zsI;exact zaI (by kernel_rfl) (zaE hs fun hc hs=>And.intro (And.intro (zE zah 2 zd1.get) hc) (zDt hs hk))
def zvd (zdz:(Sl Frac)):(Frac×Frac) :=
  (zvb ((zyR zdz).Num) ((zyR zdz).Den) zdz)
def zve (zdz:(Sl Frac)):Bool :=
  (decide ((zOe zdz=true)) &&
 (zvc ((zyR zdz).Num) ((zyR zdz).Den) zdz))
theorem zDv (hs:zve zdz=true) (hk:K (zKv (zvd zdz))) (zsJ:zlL=zg zah zdz):z82a K [1,1,1] [] ⟨[(4,zp 4 0),(5,zp 5 0),(6,zv 23)],[(4,.box 25 (zm (zah (⟨(0:Int),(0:Int)⟩:Frac)))),(5,.box 25 (zm (zah (⟨(0:Int),(0:Int)⟩:Frac)))),(23,.vec 25 2 16 zdz.len zlL)],[]⟩:=by subst zsJ;exact zaI (by kernel_rfl) (zaE hs fun hc hs=>And.intro (And.intro (zE zah 2 zdz.get) hc) (zDu hs hk rfl))
def zvf (s:set) (S0:Int→(Sl Frac)→(Frac×Frac)) (zam:Int) (zbu:(Sl Frac)):(Frac×Frac) :=
  (cond (decide (zam < (s.corners.len : Int)))
 (S0 (w64 (zam+(1:Int))) (⟨(zbu.len+1),(zdN zbu.len zbu.get (fun _=>(s83 (s.corners.get zam.toNat))))⟩:Sl Frac))
 (zvd zbu))
def zvg (s:set) (P0:Int→(Sl Frac)→Bool) (zam:Int) (zbu:(Sl Frac)):Bool :=
  (cond (decide (zam < (s.corners.len : Int)))
 (decide ((0≤zam∧zam < (s.corners.len:Int))) &&
 (decide (((zbu.len+1) * 16≤140737488355328∧zbu.len+1≤9223372036854775807)) &&
 (P0 (w64 (zam+(1:Int))) (⟨(zbu.len+1),(zdN zbu.len zbu.get (fun _=>(s83 (s.corners.get zam.toNat))))⟩:Sl Frac))))
 (zve zbu))
def zvh (s:set):Nat→Int→(Sl Frac)→(Frac×Frac):=lpO (fun _ _=>default) (zvf s)
def zvi (s:set):Nat→Int→(Sl Frac)→Bool:=lpO (fun _ _=>false) (zvg s)
def zvj (s:set) (zam:Int) (zbu:(Sl Frac)):(Frac×Frac):=zvh s Fuel zam zbu
def zvk (s:set) (zam:Int) (zbu:(Sl Frac)):Bool:=zvi s Fuel zam zbu
theorem zDw (hs:zvk s zam zbu=true) (hk:K (zKv (zvj s zam zbu))) (zhG:zcZ=zg zah zbu):z82a K [1,1,0,1,0] [] (zy8 s zam zbu zcZ) :=
  zl (fun X=>z82a K [1,1,0,1,0,0] [X]) (by kernel_rfl) fun X0 hX =>
  (show ∀ k, zER K s X0 (zvi s k) (zvh s k) from zfT _ _ (zvg s) (zvf s) (zER K s X0)
 (by intro _ _ _ hs;exact absurd hs Bool.false_ne_true)
 (by intro P0 S0 hX0 zam zbu zcZ hs hk zhG;subst zhG;exact hX _ (zaI (by kernel_rfl) (zc hs hk (fun hs hk=>(zaE hs fun hc hs=>And.intro hc (zaE hs fun hc hs=>And.intro hc (hX0 hs hk (zf4 (enc:=zah) (f:=zbu.get) (h:=(fun _=>(s83 (s.corners.get zam.toNat)))) rfl rfl))))) (fun hs hk=>(zDv hs hk rfl)))))) _ hs hk zhG
def zMf (s:set):(Frac×Frac) :=
  (zvj s (0:Int) (⟨0,(fun _=>default)⟩:Sl Frac))
def zQO (s:set):Bool :=
  (zvk s (0:Int) (⟨0,(fun _=>default)⟩:Sl Frac))
end
theorem zR7 (s:set) (K:List PA→Prop) (hs:zQO s=true) (hk:K (zKv (zMf s))):vcFun Try.prog zQN zy7 82 [.agg (zbj s),.one (.fn 83 [] [])] K :=
  zaI (by kernel_rfl) (zDw hs hk rfl)
def zHq : List PA → COut
  | [.agg [.sl a0_list_Gates_n a0_list_Gates_s a0_list_Gates_g,.sl a0_corners_n a0_corners_s a0_corners_g],.one (.fn 101 [] [.fp [.int .i64 c0] 0])]=>.det (IsE enc_55 3 a0_list_Gates_s a0_list_Gates_g∧IsE zak 3 a0_corners_s a0_corners_g∧p82 c0 (⟨(⟨(⟨a0_list_Gates_n,zaf a0_list_Gates_g⟩:(Sl Gate))⟩:list),(⟨a0_corners_n,za9 a0_corners_g⟩:(Sl straight))⟩:set)=true) [.agg [.int .i64 (((s82 c0 (⟨(⟨(⟨a0_list_Gates_n,zaf a0_list_Gates_g⟩:(Sl Gate))⟩:list),(⟨a0_corners_n,za9 a0_corners_g⟩:(Sl straight))⟩:set)).1).Num),.int .i64 (((s82 c0 (⟨(⟨(⟨a0_list_Gates_n,zaf a0_list_Gates_g⟩:(Sl Gate))⟩:list),(⟨a0_corners_n,za9 a0_corners_g⟩:(Sl straight))⟩:set)).1).Den)],.agg [.int .i64 (((s82 c0 (⟨(⟨(⟨a0_list_Gates_n,zaf a0_list_Gates_g⟩:(Sl Gate))⟩:list),(⟨a0_corners_n,za9 a0_corners_g⟩:(Sl straight))⟩:set)).2).Num),.int .i64 (((s82 c0 (⟨(⟨(⟨a0_list_Gates_n,zaf a0_list_Gates_g⟩:(Sl Gate))⟩:list),(⟨a0_corners_n,za9 a0_corners_g⟩:(Sl straight))⟩:set)).2).Den)]]
  | [.agg [.sl a0_list_Gates_n a0_list_Gates_s a0_list_Gates_g,.sl a0_corners_n a0_corners_s a0_corners_g],.one (.fn 83 [] [])]=>.det (IsE enc_55 3 a0_list_Gates_s a0_list_Gates_g∧IsE zak 3 a0_corners_s a0_corners_g∧zQO (⟨(⟨(⟨a0_list_Gates_n,zaf a0_list_Gates_g⟩:(Sl Gate))⟩:list),(⟨a0_corners_n,za9 a0_corners_g⟩:(Sl straight))⟩:set)=true) [.agg [.int .i64 (((zMf (⟨(⟨(⟨a0_list_Gates_n,zaf a0_list_Gates_g⟩:(Sl Gate))⟩:list),(⟨a0_corners_n,za9 a0_corners_g⟩:(Sl straight))⟩:set)).1).Num),.int .i64 (((zMf (⟨(⟨(⟨a0_list_Gates_n,zaf a0_list_Gates_g⟩:(Sl Gate))⟩:list),(⟨a0_corners_n,za9 a0_corners_g⟩:(Sl straight))⟩:set)).1).Den)],.agg [.int .i64 (((zMf (⟨(⟨(⟨a0_list_Gates_n,zaf a0_list_Gates_g⟩:(Sl Gate))⟩:list),(⟨a0_corners_n,za9 a0_corners_g⟩:(Sl straight))⟩:set)).2).Num),.int .i64 (((zMf (⟨(⟨(⟨a0_list_Gates_n,zaf a0_list_Gates_g⟩:(Sl Gate))⟩:list),(⟨a0_corners_n,za9 a0_corners_g⟩:(Sl straight))⟩:set)).2).Den)]]
  | _=>.no
theorem zMg:zaj Try.prog 82:=⟨_,rfl,rfl,by kernel_rfl⟩
theorem zR8:Ok Try.prog 82 zHq:=zaP zPs zMg fun args K h=>by
  unfold zHq at h
  split at h
  · rename_i a0_list_Gates_n a0_list_Gates_s a0_list_Gates_g a0_corners_n a0_corners_s a0_corners_g c0
    obtain ⟨⟨⟨rfl,a0_list_Gates_f,rfl⟩,⟨rfl,a0_corners_f,rfl⟩,hs⟩,hk⟩:=h
    try rw [zae a0_list_Gates_f] at hs
    try rw [zae a0_list_Gates_f] at hk
    try rw [za3 a0_corners_f] at hs
    try rw [za3 a0_corners_f] at hk
    exact ⟨(fun _ _=>[]),(fun _=>false),zHl,q82 c0 (⟨(⟨(⟨a0_list_Gates_n,a0_list_Gates_f⟩:(Sl Gate))⟩:list),(⟨a0_corners_n,a0_corners_f⟩:(Sl straight))⟩:set) K hs hk⟩
  · rename_i a0_list_Gates_n a0_list_Gates_s a0_list_Gates_g a0_corners_n a0_corners_s a0_corners_g
    obtain ⟨⟨⟨rfl,a0_list_Gates_f,rfl⟩,⟨rfl,a0_corners_f,rfl⟩,hs⟩,hk⟩:=h
    try rw [zae a0_list_Gates_f] at hs
    try rw [zae a0_list_Gates_f] at hk
    try rw [za3 a0_corners_f] at hs
    try rw [za3 a0_corners_f] at hk
    exact ⟨(fun _ _=>[]),(fun _=>false),zy7,zR7 (⟨(⟨(⟨a0_list_Gates_n,a0_list_Gates_f⟩:(Sl Gate))⟩:list),(⟨a0_corners_n,a0_corners_f⟩:(Sl straight))⟩:set) K hs hk⟩
  · exact h.elim
abbrev T68:Tabs:=((((Tabs.nil.addF 67 zst).addF 82 zHq).addF 89 zwu).addF 98 zDo)
theorem zPt:TabsOk Try.prog T68:=((((TabsOk.nil.addF zLK).addF zR8).addF zN8).addF zQF)
abbrev G68:Ctrs:=csm T68 (fun _ _=>[]) (fun _=>false)
def zMh:Ann:=⟨24,[(0,zK [2,3,4,5] [2,3,4,5]),(1,zK [2,3,4,5,9] [2,3,4,5]),(2,zK [4,5,6] [4,5,6]),(3,zK [4,5] [4,5]),(4,zK [4,5] [4,5])],
 [],
 [],
 [],[]⟩
abbrev R68:=(Frac×Frac)
abbrev e68 (r:R68):List PA:=[.agg [.int .i64 r.1.Num,.int .i64 r.1.Den],.agg [.int .i64 r.2.Num,.int .i64 r.2.Den]]
section
variable {K:List PA→Prop} {s:set} {z:Int}
def s68 (s:set) (z:Int):(Frac×Frac) :=
  (cond (s67 s.list)
 ((s89 ((s98 s.list).Low) (1:Int)),(s89 ((s98 s.list).High) (1:Int)))
 (((s82 z s).1),((s82 z s).2)))
def p68 (s:set) (z:Int):Bool :=
  (decide ((p67 s.list=true)) &&
 (cond (s67 s.list)
 (decide ((p98 s.list=true)) &&
 (decide ((p89 ((s98 s.list).Low) (1:Int)=true)) &&
 (decide ((p89 ((s98 s.list).High) (1:Int)=true)) &&
 true)))
 (decide ((p82 z s=true)) &&
 true)))
end
theorem q68 (s:set) (z:Int) (K:List PA→Prop) (hs:p68 s z=true) (hk:K (e68 (s68 s z))):vcFun Try.prog G68 zMh 68 [.agg (zbj s),.one (.int .i64 z)] K :=
  zaI (by kernel_rfl) (zaE hs fun hc hs=>And.intro (And.intro (zE enc_55 3 s.list.Gates.get) hc) (zc hs hk (fun hs hk=>(zaE hs fun hc hs=>And.intro (And.intro (zE enc_55 3 s.list.Gates.get) hc) (zaE hs fun hc hs=>And.intro hc (zaE hs fun hc hs=>And.intro hc hk)))) (fun hs hk=>(zaE hs fun hc hs=>And.intro (And.intro (zE enc_55 3 s.list.Gates.get) (And.intro (zE zak 3 s.corners.get) hc)) hk))))
def zDx : List PA → COut
  | [.agg [.sl a0_list_Gates_n a0_list_Gates_s a0_list_Gates_g,.sl a0_corners_n a0_corners_s a0_corners_g],.one (.int .i64 a1)]=>.det (IsE enc_55 3 a0_list_Gates_s a0_list_Gates_g∧IsE zak 3 a0_corners_s a0_corners_g∧p68 (⟨(⟨(⟨a0_list_Gates_n,zaf a0_list_Gates_g⟩:(Sl Gate))⟩:list),(⟨a0_corners_n,za9 a0_corners_g⟩:(Sl straight))⟩:set) a1=true) [.agg [.int .i64 (((s68 (⟨(⟨(⟨a0_list_Gates_n,zaf a0_list_Gates_g⟩:(Sl Gate))⟩:list),(⟨a0_corners_n,za9 a0_corners_g⟩:(Sl straight))⟩:set) a1).1).Num),.int .i64 (((s68 (⟨(⟨(⟨a0_list_Gates_n,zaf a0_list_Gates_g⟩:(Sl Gate))⟩:list),(⟨a0_corners_n,za9 a0_corners_g⟩:(Sl straight))⟩:set) a1).1).Den)],.agg [.int .i64 (((s68 (⟨(⟨(⟨a0_list_Gates_n,zaf a0_list_Gates_g⟩:(Sl Gate))⟩:list),(⟨a0_corners_n,za9 a0_corners_g⟩:(Sl straight))⟩:set) a1).2).Num),.int .i64 (((s68 (⟨(⟨(⟨a0_list_Gates_n,zaf a0_list_Gates_g⟩:(Sl Gate))⟩:list),(⟨a0_corners_n,za9 a0_corners_g⟩:(Sl straight))⟩:set) a1).2).Den)]]
  | _=>.no
theorem zMi:zaj Try.prog 68:=⟨_,rfl,rfl,by kernel_rfl⟩
theorem zQP:Ok Try.prog 68 zDx:=zaP zPt zMi fun args K h=>by
  unfold zDx at h
  split at h
  · rename_i a0_list_Gates_n a0_list_Gates_s a0_list_Gates_g a0_corners_n a0_corners_s a0_corners_g a1
    obtain ⟨⟨⟨rfl,a0_list_Gates_f,rfl⟩,⟨rfl,a0_corners_f,rfl⟩,hs⟩,hk⟩:=h
    try rw [zae a0_list_Gates_f] at hs
    try rw [zae a0_list_Gates_f] at hk
    try rw [za3 a0_corners_f] at hs
    try rw [za3 a0_corners_f] at hk
    exact ⟨(fun _ _=>[]),(fun _=>false),zMh,q68 (⟨(⟨(⟨a0_list_Gates_n,a0_list_Gates_f⟩:(Sl Gate))⟩:list),(⟨a0_corners_n,a0_corners_f⟩:(Sl straight))⟩:set) a1 K hs hk⟩
  · exact h.elim
end Go.Proofs
