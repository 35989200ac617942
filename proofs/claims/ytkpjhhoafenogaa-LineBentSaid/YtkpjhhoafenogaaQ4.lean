/- Part 4 of what the proof rests on: a machine that runs functions of the program on pure values, proved sound; the functions that the law reaches, and what they compute. -/
import Derived.Test.YtkpjhhoafenogaaQ3
import Derived.Sort.OwnSortedInts
import Derived.Lib.SlicesCompact
import Derived.ProofKit
import Derived.Deep.Slices
import Derived.OpenShut
import Derived.Shelf.SlSortCmp.WholeK
import Derived.Test.YtkpjhhoafenogaaProg
import Derived.Shelf.SlSortCmp.NoneTotal
set_option linter.all false
namespace Go.Pm

structure Tabs where
  fn:List (Nat×(List PA→COut))
  own:List (Nat×OwnK)
  it:List (Nat×(List PA→Option (Prop×List (List PA))))
  mt:List (Nat×MK)
def zwP : List (Nat × (List PA → COut)) → Nat → List PA → COut
  | [],_=>fun _=>.no
  | (k,c) :: r,n=>match Nat.beq k n with | true=>c | false=>zwP r n
def zwQ (l:List (Nat×OwnK)) (f:Nat):OwnK:=match lk l f with | some c=>c | none=>.none
def zEK (l:List (Nat×(List PA→Option (Prop×List (List PA))))) (f:Nat):List PA→Option (Prop×List (List PA)):=match lk l f with | some c=>c | none=>fun _=>none
def csm (T:Tabs) (memo:Nat→Int→List Int) (vv:Nat→Bool):Ctrs:=⟨zwP T.fn,zwQ T.own,zEK T.it,memo,vv,lk T.mt⟩
abbrev cs (T:Tabs):Ctrs:=csm T (fun _ _=>[]) (fun _=>false)
def Tabs.nil:Tabs:=⟨[],[],[],[]⟩
def Tabs.addF (T:Tabs) (f:Nat) (c:List PA→COut):Tabs:=⟨(f,c) :: T.fn,T.own,T.it,T.mt⟩
def Tabs.addO (T:Tabs) (f:Nat) (c:OwnK):Tabs:=⟨T.fn,(f,c) :: T.own,T.it,T.mt⟩
def Tabs.addI (T:Tabs) (f:Nat) (c:List PA→Option (Prop×List (List PA))):Tabs:=⟨T.fn,T.own,(f,c) :: T.it,T.mt⟩
def Tabs.addM (T:Tabs) (f:Nat) (c:MK):Tabs:=⟨T.fn,T.own,T.it,(f,c) :: T.mt⟩

theorem zMv {P:Program} {f:Nat} : Ok P f (fun _=>.no):=fun _ _ h=>h.elim
theorem zMw {P:Program} {f:Nat} : zCQ P f (fun _=>none):=fun _ _ _ h=>by cases h

structure TabsOk (P : Program) (T : Tabs) : Prop where
  fn:∀ x∈T.fn,Ok P x.1 x.2
  own:∀ x∈T.own,zm1 P x.1 x.2
  it:∀ x∈T.it,zCQ P x.1 x.2
  mt:∀ x∈T.mt,zuV P x.1 x.2
theorem TabsOk.nil {P:Program} : TabsOk P .nil:=⟨fun _ h=>(by cases h),fun _ h=>(by cases h),fun _ h=>(by cases h),fun _ h=>(by cases h)⟩
theorem TabsOk.addF {P:Program} {T:Tabs} (h:TabsOk P T) {f:Nat} {c:List PA→COut} (hc:Ok P f c):TabsOk P (T.addF f c) :=
 ⟨fun x hx=>(List.mem_cons.1 hx).elim (fun e=>by rw [e];exact hc) (fun hx=>h.fn x hx),h.own,h.it,h.mt⟩
theorem TabsOk.addO {P:Program} {T:Tabs} (h:TabsOk P T) {f:Nat} {c:OwnK} (hc:zm1 P f c):TabsOk P (T.addO f c) :=
 ⟨h.fn,fun x hx=>(List.mem_cons.1 hx).elim (fun e=>by rw [e];exact hc) (fun hx=>h.own x hx),h.it,h.mt⟩
theorem TabsOk.addI {P:Program} {T:Tabs} (h:TabsOk P T) {f:Nat} {c:List PA→Option (Prop×List (List PA))} (hc:zCQ P f c):TabsOk P (T.addI f c) :=
 ⟨h.fn,h.own,fun x hx=>(List.mem_cons.1 hx).elim (fun e=>by rw [e];exact hc) (fun hx=>h.it x hx),h.mt⟩
theorem TabsOk.addM {P:Program} {T:Tabs} (h:TabsOk P T) {f:Nat} {c:MK} (hc:zuV P f c):TabsOk P (T.addM f c) :=
 ⟨h.fn,h.own,h.it,fun x hx=>(List.mem_cons.1 hx).elim (fun e=>by rw [e];exact hc) (fun hx=>h.mt x hx)⟩
theorem TabsOk.all {P:Program} {T:Tabs} (h:TabsOk P T) (memo:Nat→Int→List Int) (vv:Nat→Bool):OkAll P (csm T memo vv):=by
 refine ⟨fun f C hC=>h.mt _ (zb5 hC),fun f=>?_,fun f=>?_,fun f=>?_⟩
 ·show Ok P f (zwP T.fn f)
  have key:∀ l:List (Nat×(List PA→COut)),(∀ x∈l,Ok P x.1 x.2)→Ok P f (zwP l f):=by
   intro l
   induction l with
   | nil=>intro _;exact zMv
   | cons x l ih =>
    intro hl
    obtain ⟨k,c⟩:=x
    simp only [zwP]
    split
    ·rename_i e
     have:=hl (k,c) List.mem_cons_self
     rw [← Nat.eq_of_beq_eq_true e];exact this
    ·exact ih fun x hx=>hl x (List.mem_cons_of_mem _ hx)
  exact key T.fn h.fn
 ·show zm1 P f (zwQ T.own f)
  unfold zwQ
  split
  ·rename_i c hc;exact h.own _ (zb5 hc)
  ·trivial
 ·show zCQ P f (zEK T.it f)
  unfold zEK
  split
  ·rename_i c hc;exact h.it _ (zb5 hc)
  ·exact zMw

theorem zaU {P : Program} {T : Tabs} (hT : TabsOk P T) {f : FuncId} {C : List PA → COut} (hc : zak P f)
    (h:∀ args K,(C args).wp K→∃ memo vv ann,vcFun P (csm T memo vv) ann f args K):Ok P f C :=
  zBE (hT.all (fun _ _=>[]) (fun _=>false)) hc h
theorem zEL {P : Program} {T : Tabs} (hT : TabsOk P T) {f : FuncId} {C : MK} (hc : zak P f)
    (h:∀ xs safe rs ys,C xs=some (safe,rs,ys)→safe→∀ K:List PA→List XA→Prop,K rs ys→∃ memo vv ann,zvl P (csm T memo vv) ann f xs K):zuV P f C :=
  zwM (hT.all (fun _ _=>[]) (fun _=>false)) hc h
theorem zJj {P : Program} {T : Tabs} (hT : TabsOk P T) {f : FuncId} {C : List PA → Option (Prop × List (List PA))} (hc : zak P f)
    (h:∀ l caps safe ys,C caps=some (safe,ys)→safe→∃ memo vv ann,vcIter P (csm T memo vv) ann f l caps ys):zCQ P f C :=
  zBK (hT.all (fun _ _=>[]) (fun _=>false)) hc h
theorem zwR {P : Program} {T : Tabs} (hT : TabsOk P T) {f : FuncId} {e s b : Nat} (hc : zak P f)
    (h:∀ n get,n * b≤140737488355328→n≤9223372036854775807→∃ memo vv ann,zwO P (csm T memo vv) ann f [.one (.sl n s get)] e s b n get):zm1 P f (.clone e s b) :=
  zrv (hT.all (fun _ _=>[]) (fun _=>false)) hc h

structure Sl (α : Type) where
  len:Nat
  get:Nat→α
instance {α:Type} [Inhabited α]:Inhabited (Sl α):=⟨⟨0,fun _=>default⟩⟩
abbrev w64 (x:Int):Int:=IntKind.i64.wrap x

def IsE {α:Type} (enc:α→List PV) (size s:Nat) (g:Nat→List PV):Prop:=s=size∧∃ f:Nat→α,g=fun i=>enc (f i)
theorem isE {α:Type} {enc:α→List PV} {size:Nat} {f:Nat→α} : IsE enc size size (fun i=>enc (f i)):=⟨rfl,f,rfl⟩
def zeD {α:Type} (n:Nat) (get new:Nat→α):Nat→α:=fun j=>match Nat.ble n j with | true=>new (j - n) | false=>get j
theorem zBL {α:Type} {enc:α→List PV} {n:Nat} {f h:Nat→α} : appG n (fun i=>enc (f i)) (fun i=>enc (h i))=fun i=>enc (zeD n f h i):=by
 funext j;simp only [appG,zeD];cases Nat.ble n j <;> rfl
def zfN {α : Type} (x : α) : List α → Nat → α
  | [],_=>x
  | y :: _,0=>y
  | _ :: r,i+1=>zfN x r i
theorem zfd {α:Type} {enc:α→List PV} {x y:α} {r:List α} : zd2 (enc x :: enc y :: r.map enc)=fun i=>enc (zfN x (x :: y :: r) i):=by
 have key:∀ (l:List α) (i:Nat),(match (l.map enc)[i]? with | some z=>z | none=>enc x)=enc (zfN x l i):=by
  intro l
  induction l with
  | nil=>intro i;rfl
  | cons a l ih =>
   intro i
   cases i with
   | zero=>rfl
   | succ i=>simpa [zfN] using ih i
 funext i
 exact key (x :: y :: r) i
theorem zgq {α:Type} {enc:α→List PV} {size:Nat} {x y:α} (r:List α):IsE enc size size (zd2 (enc x :: enc y :: r.map enc)):=⟨rfl,_,zfd⟩

theorem zbp {b:Bool} {A B:Prop} {S S':Bool} {α:Type} {K:α→Prop} {x y:α} (h1:S=true→K x→A) (h2:S'=true→K y→B) (hs:cond b S S'=true) (hk:K (cond b x y)):zcM b A B:=by
 cases b
 ·exact h2 hs hk
 ·exact h1 hs hk
theorem znv {b:Bool} {A B:Prop} {S S':Bool} {α β:Type} {f:α→β} {ys:List β} {x y:List α} (hs:cond b S S'=true) (hk:ys=(cond b x y).map f) (h1:S=true→ys=x.map f→A) (h2:S'=true→ys=y.map f→B):zcM b A B:=by
 cases b
 ·exact h2 hs hk
 ·exact h1 hs hk
theorem itY {α β:Type} {f:α→β} {ys:List β} {p:β} {x r:List α} {l:Nat} {A:List β→Prop} (hk:ys=x.map f) (e:x.map f=p :: r.map f) (h:∀ zs,zs=r.map f→A zs):l=l∧∃ z,ys=p :: z∧A z∧True :=
 ⟨rfl,_,hk.trans e,h _ rfl,trivial⟩
theorem zaE {C A:Prop} [d:Decidable C] {r:Bool} (hs:(decide C && r)=true) (k:C→r=true→A):A:=by
 rw [Bool.and_eq_true] at hs
 exact k (of_decide_eq_true hs.1) hs.2
abbrev Fuel:Nat:=9223372036854775808
def setT {α:Type} (i:Nat) (v:α) (get:Nat→α):Nat→α:=fun j=>match Nat.beq j i with | true=>v | false=>get j
theorem zh2 {α:Type} {enc:α→List PV} {n:Nat} {g g':Nat→List PV} {f h:Nat→α} (h1:g=fun i=>enc (f i)) (h2:g'=fun i=>enc (h i)):appG n g g'=fun i=>enc (zeD n f h i):=by
 subst h1;subst h2;exact zBL
theorem zJk {α:Type} {enc:α→List PV} {i k:Nat} {g:Nat→List PV} {f:Nat→α} {new:List PV} {v:α} (h1:g=fun i=>enc (f i)) (h2:spl (enc (f i)) k new=enc v):zoZ i k g new=fun j=>enc (setT i v f j):=by
 subst h1
 funext j
 simp only [zoZ,setT]
 cases e:Nat.beq j i
 ·rfl
 ·have := Nat.eq_of_beq_eq_true e
  subst this;exact h2
def zOk (P:Program) (G:Ctrs) (ann:Ann) (hd:Nat) (ps:List Nat) (assign body:Code) (X:List (List PA)→St→Prop) (K:Exit→St→Prop) (y:List PA) (rest:List (List PA)) (s:St):Prop :=
 match lk ann.head hd with
 | some k=>match zhQ ps y s.env with
  | some env=>vc P G ann assign (zEd (vc P G ann body (zmg P k (X rest) K)) fun _ _=>False) ⟨env,s.objs,[]⟩
  | none=>False
 | none=>False
def sortB (n:Nat) (p:Nat→Nat→Bool) (c:Nat→Nat→Int):Bool :=
  (List.range n).all fun i => decide (0 ≤ c i i) && (List.range n).all fun j => p i j && (Nat.beq i j || (decide (c i j < 0) && decide (0 ≤ c j i)) || (decide (c j i < 0) && decide (0 ≤ c i j))) &&
    (List.range n).all fun k=>!(decide (c i j < 0) && decide (c j k < 0)) || decide (c i k < 0)
theorem zBM {n:Nat} {p:Nat→Nat→Bool} {c c':Nat→Nat→Int} {s:Nat→Nat→Prop} (h:sortB n p c=true) (hp:∀ i j,p i j=true→s i j) (hc:c'=c):(∀ i j,i < n→j < n→s i j)∧STO n c':=by
 subst hc
 simp only [sortB,List.all_eq_true,List.mem_range,Bool.and_eq_true,Bool.or_eq_true,decide_eq_true_eq,Bool.not_eq_true',Bool.and_eq_false_iff,decide_eq_false_iff_not] at h
 refine ⟨fun i j hi hj=>hp i j ((h i hi).2 j hj).1.1,fun i hi=>(h i hi).1,fun i j hi hj hne=>?_,fun i j k hi hj hk h1 h2=>?_⟩
 ·rcases ((h i hi).2 j hj).1.2 with (h1 | h1) | h1
  ·exact absurd (Nat.eq_of_beq_eq_true h1) hne
  ·exact .inl h1
  ·exact .inr h1
 ·rcases ((h i hi).2 j hj).2 k hk with (h3 | h3) | h3
  ·exact absurd h1 h3
  ·exact absurd h2 h3
  ·exact h3
end Go.Pm
namespace Go.Pm
open Go Go.Sort

def ins (x : Int) : List Int → List Int
  | []=>[x]
  | y :: r=>match decide (x≤y) with | true=>x :: y :: r | false=>y :: ins x r
/-! Nil slices are slices of length 0. -/
inductive PVle : PV → PV → Prop
  | rfl (p:PV):PVle p p
  | nil (s:Nat) (g:Nat→List PV):PVle .nils (.sl 0 s g)
  | nilm (q:MQ):PVle .nilm (.fm q 0 (fun _=>none))
inductive PAle : PA → PA → Prop
  | one {p q:PV} : PVle p q→PAle (.one p) (.one q)
  | agg {l m:List PV} : RL PVle l m→PAle (.agg l) (.agg m)
theorem zhG {α β:Type} {R:α→β→Prop} : RL R [] []:=trivial
theorem zdt {α β:Type} {R:α→β→Prop} {a:α} {b:β} {l:List α} {m:List β} (h:R a b) (h':RL R l m):RL R (a :: l) (b :: m):=⟨h,h'⟩
theorem zeT {α : Type} {R : α → α → Prop} (h : ∀ a, R a a) : ∀ l : List α, RL R l l
  | []=>trivial
  | a :: l=>⟨h a,zeT h l⟩
theorem zfB (a:PA):PAle a a:=by
 cases a with
 | one p=>exact .one (.rfl p)
 | agg l=>exact .agg (zeT .rfl l)
def Wk (K:List PA→Prop) (l:List PA):Prop:=∃ l',RL PAle l l'∧K l'
theorem wk {K:List PA→Prop} {l l':List PA} (hk:K l') (h:RL PAle l l'):Wk K l:=⟨l',h,hk⟩
theorem zdW {K:List PA→Prop} {l:List PA} (hk:K l):Wk K l:=⟨l,zeT zfB l,hk⟩
theorem zJl {h:Fz} {p q:PV} {v:Value} (e:PVle p q) (r:Rep h p v):Rep h q v:=by
 cases e with
 | rfl=>exact r
 | nil s g=>cases r;exact .sl0 s g
 | nilm q=>cases r;exact .fmn q _ (fun _ _=>rfl)
theorem zBN {α β γ : Type} {R : α → β → Prop} {S : α → γ → Prop} {T : γ → β → Prop} (h : ∀ a b c, S a c → R a b → T c b) : ∀ (l : List α) (m : List β) (k : List γ), RL S l k → RL R l m → RL T k m
  | [],[],[],_,_=>trivial
  | a :: l,b :: m,c :: k,hs,hr=>⟨h a b c hs.1 hr.1,zBN h l m k hs.2 hr.2⟩
  | [],_ :: _,[],_,hr=>hr.elim
  | [],_,_ :: _,hs,_=>hs.elim
  | _ :: _,_,[],hs,_=>hs.elim
  | _ :: _,[],_ :: _,_,hr=>hr.elim
theorem zEM {h:Fz} {a b:PA} {v:Value} (e:PAle a b) (r:paR h a v):paR h b v:=by
 cases e with
 | one e=>exact zJl e r
 | agg e =>
  obtain ⟨vs,rfl,hv⟩:=r
  exact ⟨vs,rfl,zBN (R:=Rep h) (S:=PVle) (T:=Rep h) (fun _ _ _ e r=>zJl e r) _ _ _ e hv⟩
theorem zJm {h:Fz} {l m:List PA} {v:Value} (e:RL PAle l m) (r:zs7 h l v):zs7 h m v:=by
 match l,m,e,r with
 | [a],[b],e,r=>exact zEM e.1 r
 | [],[],_,r=>exact r
 | a :: b :: l,c :: d :: m,e,r =>
  obtain ⟨vs,hv,hr⟩:=r
  exact ⟨vs,hv,zBN (R:=paR h) (S:=PAle) (T:=paR h) (fun _ _ _ e r=>zEM e r) _ _ _ e hr⟩
 | [_],_ :: _ :: _,e,_=>exact e.2.elim
 | _ :: _ :: _,[_],e,_=>exact e.2.elim
 | [],_ :: _,e,_=>exact e.elim
 | _ :: _,[],e,_=>exact e.elim
theorem zfT {P : Program} {T : Tabs} (hT : TabsOk P T) {f : FuncId} {C : List PA → COut} (hc : zak P f)
    (h:∀ args K,(C args).wp K→∃ args',RL PAle args args'∧∃ memo vv ann,vcFun P (csm T memo vv) ann f args' (Wk K)):Ok P f C:=by
  intro args K hK w h0 vs hvs hfz
  obtain ⟨args',hle,memo,vv,ann,hv⟩:=h args K hK
  refine ⟨hc,(zwI (hT.all memo vv) hv (zBN (R:=paR h0) (S:=PAle) (T:=paR h0) (fun _ _ _ e r=>zEM e r) _ _ _ hle hvs) hfz).mono ?_⟩
  rintro e w' ⟨h',rs,v,⟨rs',hr,hk⟩,he,hres,rest⟩
  exact ⟨h',rs',v,hk,he,zJm hr hres,rest⟩
/-! Maps, as typed values; the keys of a map. -/
structure Mp where
  n:Nat
  F:List Int→Option (List Int)
instance:Inhabited Mp:=⟨⟨0,fun _=>none⟩⟩

def zEN (m:Nat) (F:List Int→Option (List Int)) (seen ys:List (List Int)):Prop :=
 ys.Nodup∧(∀ y∈ys,y.length=m∧F y ≠ none∧y ∉ seen)∧∀ c,c.length=m→F c ≠ none→c ∉ seen→c∈ys
def nodupB : List (List Int) → Bool
  | []=>true
  | y :: r=>!r.contains y && nodupB r
def keysB (m n:Nat) (F:List Int→Option (List Int)) (ys:List (List Int)):Bool :=
 Nat.beq ys.length n && ys.all (fun y=>Nat.beq y.length m && (F y).isSome) && nodupB ys
theorem zgr : ∀ {ys : List (List Int)}, nodupB ys = true ↔ ys.Nodup
  | []=>by simp [nodupB]
  | y :: r=>by simp [nodupB,zgr (ys:=r)]
theorem zpL {α : Type} [DecidableEq α] : ∀ {l m : List α}, l.Nodup → (∀ x ∈ l, x ∈ m) → m.length ≤ l.length → ∀ x ∈ m, x ∈ l
  | [],m,_,_,hl,x,hx=>by have:m=[]:=List.eq_nil_of_length_eq_zero (by simpa using hl);rw [this] at hx;exact hx
  | a :: l,m,hn,hs,hl,x,hx=>by
    have ha:=hs a List.mem_cons_self
    by_cases h:x=a
    · rw [h];exact List.mem_cons_self
    · have hx2 : x ∈ m.erase a := (List.mem_erase_of_ne h).2 hx
      have hn2:=List.nodup_cons.1 hn
      refine List.mem_cons_of_mem _ (zpL hn2.2 (fun z hz=>?_) ?_ x hx2)
      · have hza : z ≠ a := fun e => hn2.1 (e ▸ hz)
        exact (List.mem_erase_of_ne hza).2 (hs z (List.mem_cons_of_mem _ hz))
      · rw [List.length_erase_of_mem ha];simp at hl;omega
theorem zk5 {m n:Nat} {F:List Int→Option (List Int)} {ys:List (List Int)} (h:keysB m n F ys=true) (hf:zA9 m n F):zEN m F [] ys:=by
 simp only [keysB,Bool.and_eq_true,List.all_eq_true] at h
 obtain ⟨⟨h1,h2⟩,h3⟩:=h
 have h1:=Nat.eq_of_beq_eq_true h1
 have h3:=zgr.1 h3
 obtain ⟨ks,k1,k2,k3,k4⟩:=hf
 have hy:∀ y∈ys,y.length=m∧F y ≠ none:=fun y hy=>by
  obtain ⟨a,b⟩:=h2 y hy
  refine ⟨Nat.eq_of_beq_eq_true a,fun e=>?_⟩
  rw [e] at b;cases b
 refine ⟨h3,fun y hy'=>⟨(hy y hy').1,(hy y hy').2,by simp⟩,fun c hc hne _=>?_⟩
 exact zpL h3 (fun y hy'=>(k4 y (hy y hy').1).1 (hy y hy').2) (by rw [k1,h1];exact Nat.le_refl _) c ((k4 c hc).1 hne)
theorem znw {m : Nat} {F : List Int → Option (List Int)} {seen ys : List (List Int)} (h : zEN m F seen ys) {c : List Int} (hc : c.length = m) (hF : F c ≠ none) (hs : c ∉ seen) :
  ys.Perm (c :: ys.erase c)∧zEN m F (c :: seen) (ys.erase c)∧(ys.erase c).length+1=ys.length:=by
 obtain ⟨h1,h2,h3⟩:=h
 have hm:=h3 c hc hF hs
 refine ⟨List.perm_cons_erase hm,⟨h1.erase c,fun y hy=>?_,fun d hd hdF hds=>?_⟩,?_⟩
 ·have := (List.Nodup.mem_erase_iff h1).1 hy
  obtain ⟨a,b,e⟩:=h2 y this.2
  exact ⟨a,b,by simp [this.1,e]⟩
 ·simp only [List.mem_cons, not_or] at hds
  exact (List.mem_erase_of_ne hds.1).2 (h3 d hd hdF hds.2)
 ·rw [List.length_erase_of_mem hm]
  have:0 < ys.length:=List.length_pos_of_mem hm
  omega
theorem zrx {m:Nat} {F:List Int→Option (List Int)} {seen ys:List (List Int)} (h:zEN m F seen ys) (he:∀ c,c.length=m→F c ≠ none→c∈seen):ys=[]:=by
 cases ys with
 | nil=>rfl
 | cons y r =>
  obtain ⟨a,b,e⟩:=h.2.1 y List.mem_cons_self
  exact (e (he y a b)).elim

end Go.Pm
namespace Go.Pm
open Go

theorem za8 {x:Int} (h1 : -9223372036854775808≤x) (h2:x≤9223372036854775807):w64 x=x:=by
 have hb:IntKind.i64.bits=64:=rfl
 have hs:IntKind.i64.signed=true:=rfl
 unfold w64 IntKind.wrap
 rw [hb,hs]
 simp only [Bool.true_and,decide_eq_true_eq]
 split <;> omega
def zOl (c : Nat → Bool) : Nat → Nat → Nat
  | 0,i=>i
  | m+1,i=>match c i with | true=>i | false=>zOl c m (i+1)
def fst (c:Nat→Bool) (n:Nat):Nat:=zOl c n 0
theorem zj1 {good : Nat → Bool} {fin : Bool} {n : Nat} {lpS lpP : Nat → Int → Bool}
    (hS:∀ (k i:Nat),i < n→lpS (k+1) (i:Int)=cond (good i) (lpS k (w64 ((i:Int)+(1:Int)))) false)
    (hE:∀ k,lpS (k+1) (n:Int)=fin)
    (hP:∀ (k i:Nat),i < n→lpP (k+1) (i:Int)=cond (good i) (lpP k (w64 ((i:Int)+(1:Int)))) true)
    (hPE:∀ k,lpP (k+1) (n:Int)=true) (hn:n≤9223372036854775807) :
    lpP Fuel 0=true∧(lpS Fuel 0=true↔(∀ i,i < n→good i=true)∧fin=true):=by
  have key:∀ (m k i:Nat),i+m=n→m < k→lpP k (i:Int)=true∧(lpS k (i:Int)=true↔(∀ j,i≤j→j < n→good j=true)∧fin=true):=by
    intro m
    induction m with
    | zero =>
      intro k i hi hk
      obtain ⟨k,rfl⟩:∃ k',k=k'+1:=⟨k - 1,by omega⟩
      have:i=n:=by omega
      subst this
      rw [hE,hPE]
      exact ⟨rfl,⟨fun h=>⟨fun j h1 h2=>absurd h2 (by omega),h⟩,fun h=>h.2⟩⟩
    | succ m ih =>
      intro k i hi hk
      obtain ⟨k,rfl⟩:∃ k',k=k'+1:=⟨k - 1,by omega⟩
      rw [hS k i (by omega),hP k i (by omega)]
      have e3:w64 ((i:Int)+1)=((i+1:Nat):Int):=by rw [za8 (by omega) (by omega)];omega
      rw [e3]
      obtain ⟨h1,h2⟩:=ih k (i+1) (by omega) (by omega)
      cases hg:good i
      · refine ⟨rfl, ⟨fun h => (by cases h), fun h => ?_⟩⟩
        have:=h.1 i (Nat.le_refl _) (by omega)
        rw [hg] at this;cases this
      · refine ⟨h1, h2.trans ⟨fun h => ⟨fun j hj1 hj2 => ?_, h.2⟩, fun h => ⟨fun j hj1 hj2 => h.1 j (by omega) hj2, h.2⟩⟩⟩
        by_cases hji:j=i
        · rw [hji];exact hg
        · exact h.1 j (by omega) hj2
  have:=key n Fuel 0 (by omega) (by simp only [Fuel];omega)
  simpa using this

end Go.Pm
namespace Go.Pm
open Go Go.Deep

theorem zBO (b o i j:Nat):((⟨b,o,none⟩:Addr).add i).add j=⟨b,o+i+j,none⟩:=by
 simp only [Addr.add]
 by_cases h1:i=0
 ·subst h1
  by_cases h2:j=0
  ·subst h2;rfl
  ·rw [if_neg h2];rfl
 ·rw [if_neg h1]
  by_cases h2:j=0
  ·subst h2;rfl
  ·rw [if_neg h2]
def H0 (w:World):Fz:=fun b=>(w.heap[b]?).map .fz
theorem hw_H0 (w:World):Hw (H0 w) w:=by
 intro b x h
 unfold H0 at h
 cases e:w.heap[b]? with
 | none=>rw [e] at h;cases h
 | some o=>rw [e] at h;cases h;exact ⟨o,rfl,rfl⟩
def wfI (x:Int):Prop:=-9223372036854775808≤x∧x≤9223372036854775807
section
variable {H:Type} {en:TypeId×Value→H} {P:Program} {w:World} {sp:Nat→Bool} {held:Bool}
def Rd (H:Type) (en:TypeId×Value→H) (P:Program) (w:World) (sp:Nat→Bool) (held:Bool) (t:TypeId) {α:Type} (enc:α→List PV) (wf:α→Prop):Prop :=
 ∀ (fuel:Nat) (cs:List Value) (x:DataW H×List MemPlace),DataW.trod en P w 0 sp held fuel t cs=some x→∃ a:α,RL (Rep (H0 w)) (enc a) cs∧wf a
theorem zJn {t:TypeId} (ht:P.underlying t=some (.int .i64)):Rd H en P w sp held t (fun x=>[.int .i64 x]) wfI:=by
 intro fuel cs x h
 obtain ⟨n,rfl,_,hw⟩:=DataW.trod_int ht h
 refine ⟨n,⟨.int _ _,trivial⟩,?_⟩
 simp only [Lit.wf,Bool.and_eq_true,decide_eq_true_eq] at hw
 exact ⟨hw.1,hw.2⟩
theorem zwS {t : TypeId} {fs : Array Field} (ht : P.underlying t = some (.struct fs)) {fuel : Nat} {cs : List Value} {x : DataW H × List MemPlace} (h : DataW.trod en P w 0 sp held fuel t cs = some x) :
  cs.length=P.cellsOf t∧∀ (i:Nat) (f:Field),fs[i]? = some f→∃ n y,DataW.trod en P w 0 sp held n f.type ((cs.drop f.offset).take (P.cellsOf f.type))=some y:=by
 obtain ⟨xs,n,_,_,hl,hx,hf⟩:=DataW.trod_struct ht h
 refine ⟨hl,fun i f hi=>?_⟩
 have hlt:i < xs.length:=by rw [hx];exact (Array.getElem?_eq_some_iff.1 hi).1
 exact ⟨n,xs[i],by rw [hf i f hi,List.getElem?_eq_getElem hlt]⟩
theorem ztB {t e : TypeId} {α : Type} [Inhabited α] {enc : α → List PV} {wf : α → Prop} {s : Nat} (ht : P.underlying t = some (.slice e)) (hc : P.cellsOf e = s) (hs : 0 < s) (hlen : ∀ a, (enc a).length = s)
    (hel:Rd H en P w sp held e enc wf):Rd H en P w sp held t (fun x:Sl α=>[.sl x.len s (fun i=>enc (x.get i))]) (fun x=>x.len≤9223372036854775807∧∀ i,i < x.len→wf (x.get i)):=by
  intro fuel cs x h
  rcases open_slice ht h with ⟨rfl,_⟩ | ⟨a,len,cap,m,n,D,Pl,rfl,_,hl,hm,hmm,_,hget⟩
  · exact ⟨⟨0,default⟩,⟨.sl0 _ _,trivial⟩,Nat.zero_le _,fun i hi=>absurd hi (Nat.not_lt_zero i)⟩
  · by_cases h0 : len = 0
    · subst h0
      exact ⟨⟨0,default⟩,⟨.sle _ _ _ _,trivial⟩,Nat.zero_le _,fun i hi=>absurd hi (Nat.not_lt_zero i)⟩
    · have hlm : len ≤ m := by rw [hmm]; split <;> omega
      rw [hc] at hget
      have hex:∀ i,i < len→∃ y:α,(∃ cs',w.cells? 0 (a.add (i * s)) s=some cs'∧RL (Rep (H0 w)) (enc y) cs')∧wf y:=by
        intro i hi
        obtain ⟨cs',h1,h2⟩:=hget i (by omega)
        obtain ⟨y,h3,h4⟩:=hel _ _ _ h2
        exact ⟨y,⟨cs',h1,h3⟩,h4⟩
      have hch:∃ f:Nat→α,∀ i,i < len→(∃ cs',w.cells? 0 (a.add (i * s)) s=some cs'∧RL (Rep (H0 w)) (enc (f i)) cs')∧wf (f i):=by
        refine ⟨fun i=>if hi:i < len then Classical.choose (hex i hi) else default,fun i hi=>?_⟩
        simp only [dif_pos hi]
        exact Classical.choose_spec (hex i hi)
      obtain ⟨f,hf⟩:=hch
      -- the block
      have hcell:∀ i,i < len→∀ j,j < s→∃ cs',w.cells? 0 (a.add (i * s)) s=some cs'∧RL (Rep (H0 w)) (enc (f i)) cs'∧w.cell? ((a.add (i * s)).add j)=cs'[j]?∧cs'.length=s:=by
        intro i hi j hj
        obtain ⟨⟨cs',h1,h2⟩,_⟩:=hf i hi
        obtain ⟨_,h3,h4⟩:=World.cells?_some h1
        exact ⟨cs',h1,h2,h4 j hj,h3⟩
      obtain ⟨cs0,_,_,hc0,hl0⟩:=hcell 0 (by omega) 0 hs
      have ha0:w.cell? a=cs0[0]?:=by simpa [Addr.add] using hc0
      rw [List.getElem?_eq_getElem (by omega)] at ha0
      obtain ⟨C,ty,fr,hblk,hspot⟩:∃ C ty fr,w.heap[a.block]? = some (.cells C ty fr)∧a.spot=none:=by
        unfold World.cell? at ha0
        split at ha0
        · rename_i C ty fr hb
          refine ⟨C,ty,fr,hb,?_⟩
          cases hsp:a.spot with
          | none=>rfl
          | some k=>rw [hsp] at ha0;simp at ha0
        · cases ha0
      have ea:a=⟨a.block,a.off,none⟩:=by rw [← hspot]
      have hat:∀ i j,i < len→j < s→∃ cs',RL (Rep (H0 w)) (enc (f i)) cs'∧C[a.off+i * s+j]? = cs'[j]?∧cs'.length=s:=by
        intro i j hi hj
        obtain ⟨cs',_,h2,h3,h4⟩:=hcell i hi j hj
        refine ⟨cs',h2,?_,h4⟩
        rw [← h3]
        have e2:(a.add (i * s)).add j=⟨a.block,a.off+i * s+j,none⟩:=(congrArg (fun z:Addr=>(z.add (i * s)).add j) ea).trans (zBO _ _ _ _)
        rw [e2]
        simp [World.cell?,hblk]
      refine ⟨⟨len,f⟩,⟨?_,trivial⟩,by simp only [maxLen] at hm;show len≤_;omega,fun i hi=>(hf i hi).2⟩
      rw [ea]
      refine .sl len s _ a.block a.off cap C ty fr (fun i j=>C.getD (a.off+i * s+j) undef) (by simp [H0,hblk]) hl (fun i _=>hlen _) ?_ ?_
      · intro i j x hi hx
        have hj:j < s:=by have:=(List.getElem?_eq_some_iff.1 hx).1;rw [hlen] at this;exact this
        obtain ⟨cs',h1,h2,h3⟩:=hat i j hi hj
        rw [Array.getD_eq_getD_getElem?,h2,List.getElem?_eq_getElem (by omega)]
        rfl
      · intro i j x hi hx
        have hj:j < s:=by have:=(List.getElem?_eq_some_iff.1 hx).1;rw [hlen] at this;exact this
        obtain ⟨cs',h1,h2,h3⟩:=hat i j hi hj
        obtain ⟨v,hv,hr⟩:=h1.get j x hx
        rw [Array.getD_eq_getD_getElem?,h2,hv]
        exact hr
theorem ziH {α:Type} (l:List α) (o s:Nat):l.drop o=(l.drop o).take s ++ l.drop (o+s):=by
 rw [← List.drop_drop]
 exact (List.take_append_drop s (l.drop o)).symm
def zMx : TypeDesc → Bool
  | .struct _=>false
  | .array _ _=>false
  | _=>true
theorem okWide_one {t:TypeId} {d:TypeDesc} {r:Reach} {base:Nat} {v:Value} (ht:P.underlying t=some d) (hd:zMx d=true) (h:Value.okWide P w r base t v):v.cells.toList=[v]:=by
 unfold Value.okWide at h
 rw [ht] at h
 cases v with
 | agg cs =>
  exfalso
  cases d <;> first | (cases hd;done) | (simp only [Cell.okWide,Cell.ok,ht] at h)
 | _=>rfl
theorem pa_one {h:Fz} {p:PV} {v:Value} (hv:v.cells.toList=[v]) (r:RL (Rep h) [p] v.cells.toList):paR h (.one p) v:=by
 rw [hv] at r
 exact r.1
theorem below_H0 {w':World} (b:Bel (H0 w) w.heap.size w w'):Go.RowKit.Below w.heap.size w w' :=
 ⟨b.os,b.tape,b.output,b.size,fun k hk=>b.block k hk fun F e=>by
  unfold H0 at e
  cases hb:w.heap[k]? <;> rw [hb] at e <;> cases e⟩
end
end Go.Pm
/-
  DERIVED: THE SHELF's CONTRACTS AT THIS DUMP,IN PLAIN WORDS (tools/lay-plain.mjs out of 'YtkpjhhoafenogaaLs.lean',which tools/lay-shelf.mjs wrote): THE SAME DECLARATIONS UNDER THE SAME NAMES: 'import','namespace','open','def','theorem' AND NOTHING ELSE: no command of the shelf's: FOR A HAND-IN. Each laying: the table of numbers ('.._ren') and one theorem,a field a fact of the dump's own or the kernel's comparison;each contract: ONE APPLICATION.
-/
namespace Go.Proofs
open Go.Shelf
def Try.laysS106_ren:Go.Shelf.Ren:=⟨fun | 6=>106 | 15=>122 | 14=>121 | 28=>132 | 29=>133 | 20=>124 | 21=>125 | 22=>126 | 23=>127 | 24=>128 | 25=>129 | 26=>130 | 27=>131 | 46=>134 | 47=>135 | 48=>136 | 49=>137 | 50=>138 | 57=>139 | n=>n,fun | 22=>102 | 24=>118 | 25=>147 | 3=>3 | 39=>156 | 0=>0 | 53=>166 | 55=>168 | 4=>4 | 46=>159 | 45=>158 | 50=>163 | 5=>5 | 9=>9 | 66=>169 | 70=>173 | 76=>175 | 77=>143 | n=>n,fun | n=>n⟩
theorem Try.laysS106 : Go.Proofs.SlLaysF0.n6 Try.prog Try.laysS106_ren := {
  mixed:=by kernel_rfl
  f6:=⟨Try.f106.name,by decide,Try.func106.trans (congrArg some (by kernel_rfl))⟩
  f14:=⟨Try.f121.name,by decide,Try.func121.trans (congrArg some (by kernel_rfl))⟩
  f15:=Try.func122.trans (congrArg some (by kernel_rfl))
  f20:=⟨Try.f124.name,by decide,Try.func124.trans (congrArg some (by kernel_rfl))⟩
  f21:=⟨Try.f125.name,by decide,Try.func125.trans (congrArg some (by kernel_rfl))⟩
  f22:=⟨Try.f126.name,by decide,Try.func126.trans (congrArg some (by kernel_rfl))⟩
  f23:=⟨Try.f127.name,by decide,Try.func127.trans (congrArg some (by kernel_rfl))⟩
  f24:=⟨Try.f128.name,by decide,Try.func128.trans (congrArg some (by kernel_rfl))⟩
  f25:=⟨Try.f129.name,by decide,Try.func129.trans (congrArg some (by kernel_rfl))⟩
  f26:=⟨Try.f130.name,by decide,Try.func130.trans (congrArg some (by kernel_rfl))⟩
  f27:=⟨Try.f131.name,by decide,Try.func131.trans (congrArg some (by kernel_rfl))⟩
  f28:=Try.func132.trans (congrArg some (by kernel_rfl))
  f29:=Try.func133.trans (congrArg some (by kernel_rfl))
  f46:=⟨Try.f134.name,by decide,Try.func134.trans (congrArg some (by kernel_rfl))⟩
  f47:=Try.func135.trans (congrArg some (by kernel_rfl))
  f48:=Try.func136.trans (congrArg some (by kernel_rfl))
  f49:=⟨Try.f137.name,by decide,Try.func137.trans (congrArg some (by kernel_rfl))⟩
  f50:=⟨Try.f138.name,by decide,Try.func138.trans (congrArg some (by kernel_rfl))⟩
  f57:=⟨Try.f139.name,by decide,Try.func139.trans (congrArg some (by kernel_rfl))⟩
  t0:=Try.underlying0
  a0:=Try.isAgg0
  z0:=Try.sizeOf0
  v0:=Try.zeroValue0
  t3:=Try.underlying3
  a3:=Try.isAgg3
  z3:=Try.sizeOf3
  v3:=Try.zeroValue3
  t4:=Try.underlying4
  a4:=Try.isAgg4
  z4:=Try.sizeOf4
  v4:=Try.zeroValue4
  t5:=Try.underlying5
  a5:=Try.isAgg5
  z5:=Try.sizeOf5
  v5:=Try.zeroValue5
  t9:=Try.underlying9
  a9:=Try.isAgg9
  z9:=Try.sizeOf9
  v9:=Try.zeroValue9
  t22:=Try.underlying102
  a22:=Try.isAgg102
  z22:=Try.sizeOf102
  v22:=Try.zeroValue102
  t25:=Try.underlying147
  a25:=Try.isAgg147
  z25:=Try.sizeOf147
  v25:=Try.zeroValue147
  t39:=Try.underlying156
  a39:=Try.isAgg156
  z39:=Try.sizeOf156
  v39:=Try.zeroValue156
  t45:=Try.underlying158
  a45:=Try.isAgg158
  z45:=Try.sizeOf158
  v45:=Try.zeroValue158
  t46:=Try.underlying159
  a46:=Try.isAgg159
  z46:=Try.sizeOf159
  v46:=Try.zeroValue159
  t50:=Try.underlying163
  a50:=Try.isAgg163
  z50:=Try.sizeOf163
  v50:=Try.zeroValue163
  t53:=Try.underlying166
  a53:=Try.isAgg166
  z53:=Try.sizeOf166
  v53:=Try.zeroValue166
  t55:=Try.underlying168
  a55:=Try.isAgg168
  z55:=Try.sizeOf168
  v55:=Try.zeroValue168
  t66:=Try.underlying169
  a66:=Try.isAgg169
  z66:=Try.sizeOf169
  v66:=Try.zeroValue169
  t70:=Try.underlying173
  a70:=Try.isAgg173
  z70:=Try.sizeOf173
  v70:=Try.zeroValue173
  t76:=Try.underlying175
  a76:=Try.isAgg175
  z76:=Try.sizeOf175
  v76:=Try.zeroValue175
  t77:=Try.underlying143
  a77:=Try.isAgg143
  z77:=Try.sizeOf143
  v77:=Try.zeroValue143 }
end Go.Proofs
namespace Go.Pm
open Go.Shelf Go.RowKit Go.Lib Go.Sort Go.Proofs

section perm
variable {c:Nat→Nat→Int}
theorem zh3 (x : Nat) : ∀ l : List Nat, (zA6 c x l).Perm (x :: l)
  | []=>.refl _
  | y :: r=>by
    unfold zA6
    split
    · exact .refl _
    · exact ((zh3 x r).cons y).trans (.swap _ _ _)
theorem zmJ (n:Nat):(zuR n c).Perm (List.range n):=by
 unfold zuR
 generalize List.range n=l
 induction l with
 | nil=>exact .refl _
 | cons x l ih=>exact (zh3 x _).trans (ih.cons x)
def leB (c:Nat→Nat→Int) (a b:Nat):Prop:=¬ c b a < 0
theorem zwT {n : Nat} (H : STO n c) {x : Nat} (hx : x < n) : ∀ {l : List Nat}, (∀ y ∈ l, y < n) → l.Pairwise (leB c) → (zA6 c x l).Pairwise (leB c)
  | [],_,_=>by simp [zA6]
  | y :: r,hl,hp=>by
    have hy:=hl y List.mem_cons_self
    rw [List.pairwise_cons] at hp
    unfold zA6
    split
    · rename_i h
      have h:=of_decide_eq_true h
      rw [List.pairwise_cons]
      refine ⟨fun z hz=>?_,List.pairwise_cons.2 hp⟩
      have hxy:leB c x y:=fun h2=>by
        have:=H.1 x hx
        have:=H.2.2 x y x hx hy hx h h2
        omega
      rcases List.mem_cons.1 hz with rfl | hz
      · exact hxy
      · intro h2
        exact hp.1 z hz (H.2.2 z x y (hl z (List.mem_cons_of_mem _ hz)) hx hy h2 h)
    · rename_i h
      have h:=of_decide_eq_false h
      rw [List.pairwise_cons]
      refine ⟨fun z hz=>?_,zwT H hx (fun z hz=>hl z (List.mem_cons_of_mem _ hz)) hp.2⟩
      rcases List.mem_cons.1 ((zh3 x r).mem_iff.1 hz) with rfl | hz
      · exact h
      · exact hp.1 z hz
theorem zBP {n:Nat} (H:STO n c):(zuR n c).Pairwise (leB c):=by
 have key:∀ l:List Nat,(∀ y∈l,y < n)→(l.foldr (zA6 c) []).Pairwise (leB c)∧∀ y∈l.foldr (zA6 c) [],y < n:=by
  intro l
  induction l with
  | nil=>intro _;exact ⟨List.Pairwise.nil,fun y hy=>by simp at hy⟩
  | cons x l ih =>
   intro h
   obtain ⟨h1,h2⟩:=ih fun y hy=>h y (List.mem_cons_of_mem _ hy)
   have hx:=h x List.mem_cons_self
   refine ⟨zwT H hx h2 h1,fun y hy=>?_⟩
   rcases List.mem_cons.1 ((zh3 x _).mem_iff.1 hy) with rfl | hy
   ·exact hx
   ·exact h2 y hy
 exact (key _ fun y hy=>List.mem_range.1 hy).1
theorem zvm {n:Nat} (H:STO n c) {l:List Nat} (hp:l.Perm (List.range n)) (hs:l.Pairwise (leB c)):l=zuR n c:=by
 refine List.Perm.eq_of_pairwise (le:=leB c) (fun a b ha hb h1 h2=>?_) hs (zBP H) (hp.trans (zmJ n).symm)
 have ha:=List.mem_range.1 (hp.mem_iff.1 ha)
 have hb:=List.mem_range.1 ((zmJ n).mem_iff.1 hb)
 by_cases e:a=b
 ·exact e
 ·rcases H.2.1 a b ha hb e with h | h
  ·exact absurd h.1 h2
  ·exact absurd h.1 h1
end perm

theorem zwU {w w':World} (h1:w'.heap=w.heap) (h2:w'.tape=w.tape) (h3:w'.drawn=w.drawn) (h4:w'.os=w.os) (h5:w'.output=w.output):w'=w:=by
 cases w;cases w';simp_all
theorem zBQ {w w':World} {h:Fz} (b:Bel h w.heap.size w w') (hi:∀ k F,h k ≠ some (.inv F)):∃ q os,w'=grow (w.drewN q) os:=by
 refine ⟨w'.drawn - w.drawn,w'.heap.extract w.heap.size w'.heap.size,zwU ?_ b.tape ?_ b.os b.output⟩
 ·show w'.heap = w.heap ++ w'.heap.extract w.heap.size w'.heap.size
  apply Array.ext_getElem?
  intro i
  rw [Array.getElem?_append]
  split
  ·rename_i hl;exact b.block i hl (fun F=>hi i F)
  ·rename_i hl
   rw [Array.getElem?_extract]
   by_cases hlt:i < w'.heap.size
   ·rw [if_pos (by omega)];congr 1;omega
   ·rw [if_neg (by omega),Array.getElem?_eq_none (by omega)]
 ·show w'.drawn = w.drawn + (w'.drawn - w.drawn)
  have:=b.drawn;omega

theorem zpM {w : World} {g q : Nat} {cur : Array Value} {e : TypeId} {fr : Nat × Nat} {off : Nat} (F : Array Value) (hb : w.heap[g]? = some (.cells cur e fr)) :
  ∃ cur',(putRow id (Sort.ahead w q) g off F).heap[g]? = some (.cells cur' e fr)∧cur'.size=cur.size:=by
 refine ⟨putCells id off F cur,?_,by simp [putCells]⟩
 simp [putRow,mapBlock,Sort.ahead,Array.getElem?_modify,hb,onCells]
theorem zk6 {w:World} {g q off:Nat} (F:Array Value) {k:Nat} (hk:k ≠ g):(putRow id (Sort.ahead w q) g off F).heap[k]? = w.heap[k]?:=by
 simp [putRow,mapBlock,Sort.ahead,Array.getElem?_modify,Ne.symm hk]

theorem zwV {P:Program} {ρ:Ren} (L:SlLaysF0.n6 P ρ) {e s b:Nat} (he:ρ.t 24=e) (hag:ze1 P e=some true) (hsz:szT P e=some s) (hM : ¬ zo1) (hc:zak P (ρ.f 6)):zm1 P (ρ.f 6) (.sort e s b):=by
 intro w h base v n get gf caps cv ag C hC hcv hag' _ hpos ⟨xs,hown,hr⟩ hone hw hob hbase hn hS hO
 rw [hag] at hag';simp only [Option.some.injEq] at hag';subst hag'
 refine ⟨hc,?_⟩
 have hni:∀ k F,h k ≠ some (.inv F):=fun k F hk=>by obtain ⟨o,_,ho⟩:=hw k _ hk;exact hM ho.2
 have hdr:∀ (w':World) (k:Nat),w.drawn≤w.drawn+k:=fun _ k=>Nat.le_add_right _ _
 have none:∀ (p:Option Addr) (cap:Nat),n=0→v=.slice p 0 cap→Calls P (ρ.f 6) #[v,.func (.func gf) #[] cv.toArray] w fun r w'=>r=.returned (.tuple #[])∧zCP h w' base e s v n (zqQ n (zvy C caps true get) get)∧GrB w w' v.ownBlock:=by
  rintro p cap rfl rfl
  refine (AnyF.slices_SortFunc_none L p cap _ w).mono ?_
  rintro r w' ⟨rfl,rfl⟩
  exact ⟨rfl,⟨xs,hown,fun i hi=>absurd hi (Nat.not_lt_zero i)⟩,⟨rfl,rfl,rfl,Nat.le_refl _,fun _ _ _=>rfl⟩,Nat.le_refl _⟩
 rcases hown.2 with ⟨h1,h2⟩ | ⟨blk,cap,cur,rfl,hb,hcell,hncap,hcap,hcs,htk⟩
 ·exact none _ _ h2 h1
 by_cases hn0:n=0
 ·subst hn0;exact none _ _ rfl rfl
 have:Inhabited (Fin n):=⟨⟨0,by omega⟩⟩
 let enc:Fin n→List Value:=fun i=>(xs.drop (i.val * s)).take s
 let c:=zvy C caps true get
 let cf:Fin n→Fin n→Int:=fun x y=>c x.val y.val
 let d:Array (Fin n):=Array.ofFn id
 have hds:d.size=n:=Array.size_ofFn
 have hdi:∀ i (hi:i < n),d[i]! = ⟨i,hi⟩:=fun i hi=>by
  rw [getElem!_pos d i (by rw [hds];exact hi)];simp [d]
 have hlt:blk < w.heap.size:=(Array.getElem?_eq_some_iff.1 hcell).1
 have hbn:h blk=Option.none:=hob blk rfl
 have hmul:∀ i,i < n→i * s+s≤n * s:=fun i hi=>by have:=Nat.mul_le_mul_right s (Nat.succ_le_of_lt hi);rw [Nat.succ_mul] at this;exact this
 have hk:∀ x,(enc x).length=s:=fun x=>by
  have:=hmul x.val x.isLt
  simp only [enc,List.length_take,List.length_drop,hown.1];omega
 have hcur:∀ j,j < n * s→cur[j]? = xs[j]?:=fun j hj=>by
  have:(cur.toList.take (n * s))[j]? = xs[j]?:=by rw [htk]
  rw [List.getElem?_take,if_pos hj] at this;simpa using this
 have hxl:∀ j,j < n * s→∃ u,xs[j]? = some u:=fun j hj=>⟨xs[j]'(by rw [hown.1];exact hj),List.getElem?_eq_getElem _⟩
 have h1:∀ x,∀ u∈enc x,u.oneCell'=true:=fun x u hu=>by
  obtain ⟨j,hj⟩:=List.getElem?_of_mem hu
  obtain ⟨p,_,hp⟩:=(hr x.val x.isLt).get' j u hj
  exact hp.one
 have hflat:∀ j (hj:j < n * s),(flatK enc s d)[j]! = xs[j]'(by rw [hown.1];exact hj):=fun j hj=>by
  have hq:j / s < n:=Nat.div_lt_of_lt_mul (by rw [Nat.mul_comm];exact hj)
  rw [get_flatK _ _ _ _ (by rw [hds];exact hj),hdi _ hq]
  have hm:=Nat.mod_lt j hpos
  have hdm:=Nat.div_add_mod j s
  rw [getElem!_pos _ _ (by rw [hk];exact hm)]
  simp only [enc,List.getElem_take,List.getElem_drop]
  congr 1
  rw [Nat.mul_comm];exact hdm
 have hH:HoldsK enc s w blk 0 d:=fun j hj=>by
  have hj:j < n * s:=by rw [size_flatK,hds] at hj;exact hj
  refine ⟨?_,frozen_of_row w blk _ cur e hcell⟩
  rw [hflat j hj,cell_of hcell,Nat.zero_add,hcur j hj]
  exact List.getElem?_eq_getElem _
 have eg:∀ args w,(callFunc gf args).run P w=.ok (.enter gf args) w:=by
  have hcg:zak P gf:=by
   have hs0:=hS 0 0 (by omega) (by omega)
   unfold zIC at hs0
   split at hs0
   ·rename_i s0 c0 hat
    have hwp:(C (elP true (get 0) :: elP true (get 0) :: caps.map .one)).wp (fun _=>True):=by
     unfold zA5 at hat
     split at hat
     ·rename_i e1;rw [e1];trivial
     ·rename_i e1;simp only [Option.some.injEq,Prod.mk.injEq] at hat;rw [e1];exact ⟨by rw [hat.1];exact hs0,trivial⟩
     ·cases hat
    exact (hC _ _ hwp w h (.agg (enc ⟨0,by omega⟩).toArray :: .agg (enc ⟨0,by omega⟩).toArray :: cv) ⟨⟨_,rfl,hr 0 (by omega)⟩,⟨_,rfl,hr 0 (by omega)⟩,RL.map_left.2 hcv⟩ hw).1
   ·exact hs0.elim
  exact fun args w=>zcR hcg
 have hcmp:CmpLays P gf cv.toArray enc s cf blk 0 d.size w:=by
  intro m os dk hdk x y
  have hs0:=hS x.val y.val x.isLt y.isLt
  unfold zIC at hs0
  split at hs0
  ·rename_i s0 c0 hat
   have hwp:(C (elP true (get x.val) :: elP true (get y.val) :: caps.map .one)).wp (fun rs=>rs=[.one (.int .i64 (cf x y))]):=by
    have hcv:cf x y=c0:=by show zvy C caps true get x.val y.val=c0;unfold zvy;rw [hat]
    rw [hcv]
    unfold zA5 at hat
    split at hat
    ·rename_i e1;simp only [Option.some.injEq,Prod.mk.injEq] at hat;rw [e1,hat.2];rfl
    ·rename_i e1;simp only [Option.some.injEq,Prod.mk.injEq] at hat;rw [e1,hat.2];exact ⟨by rw [hat.1];exact hs0,rfl⟩
    ·cases hat
   have hwh:Hw h (sortWorldK enc s w blk 0 m dk os):=hw.same fun k o hk=>by
    have hkb:k ≠ blk:=fun e=>by rw [e,hbn] at hk;cases hk
    have hkl:=hw.lt hk
    show ((putRow id (Sort.ahead w m) blk 0 (flatK enc s dk)).heap ++ os)[k]? = _
    rw [Array.getElem?_append_left (by simpa [putRow,mapBlock,Sort.ahead] using hkl)]
    exact zk6 _ hkb
   obtain ⟨_,hrun⟩:=hC _ _ hwp (sortWorldK enc s w blk 0 m dk os) h (.agg (enc x).toArray :: .agg (enc y).toArray :: cv) ⟨⟨_,rfl,hr x.val x.isLt⟩,⟨_,rfl,hr y.val y.isLt⟩,RL.map_left.2 hcv⟩ hwh
   rw [show (#[Value.agg (enc x).toArray,.agg (enc y).toArray] ++ cv.toArray)=(Value.agg (enc x).toArray :: .agg (enc y).toArray :: cv).toArray by simp]
   refine hrun.mono ?_
   rintro e' w' ⟨h',rs,v',hrs,rfl,hres,hbel,_,_,_⟩
   subst hrs
   have hv':v'=.int .i64 (cf x y):=by
    have:Rep h' (.int .i64 (cf x y)) v':=hres
    cases this;rfl
   subst hv'
   exact ⟨rfl,zBQ hbel hni⟩
  ·exact hs0.elim
 have hSWO:SWO (ltOf cf):=by
  refine ⟨fun x=>?_,fun x y z hxy hyz=>?_,fun x y z hxy hyz=>?_⟩
  ·have : 0 ≤ c x.val x.val := hO.1 x.val x.isLt
   simp only [ltOf,decide_eq_false_iff_not];show ¬ c x.val x.val < 0;omega
  ·simp only [ltOf, decide_eq_true_eq] at hxy hyz ⊢
   exact hO.2.2 _ _ _ x.isLt y.isLt z.isLt hxy hyz
  ·simp only [ltOf, decide_eq_false_iff_not] at hxy hyz ⊢
   intro hxz
   have hxy : ¬ c x.val y.val < 0:=hxy
   have hyz : ¬ c y.val z.val < 0:=hyz
   have hxz:c x.val z.val < 0:=hxz
   by_cases e1:y.val=z.val
   ·rw [e1] at hxy;exact hxy hxz
   ·by_cases e2 : x.val = y.val
    ·rw [e2] at hxz;exact hyz hxz
    ·have a1 : c z.val y.val < 0 := by rcases hO.2.1 y.val z.val y.isLt z.isLt e1 with h | h; exact absurd h.1 hyz; exact h.1
     exact hxy (hO.2.2 _ _ _ x.isLt z.isLt y.isLt hxz a1)
 have aE:∀ w,(isAgg (ρ.t 24)).run P w=.ok true w:=fun w=>by rw [he];exact zeg hag
 have zE:∀ w,(Go.sizeOf (ρ.t 24)).run P w=.ok s w:=fun w=>by rw [he];exact run_sizeOf hsz
 have hrun:=AnyQ.slices_SortFunc L s aE zE enc hk h1 cf hSWO gf cv.toArray blk 0 cap d w eg hcmp hH hlt (by rw [hds];omega)
 rw [hds] at hrun
 refine hrun.mono ?_
 rintro r w' ⟨rfl,d',m,os,hperm,hsort,rfl⟩
 obtain ⟨hps,_,hpp⟩:=hperm
 have hd's:d'.size=n:=by rw [hps,hds]
 have hall:∀ (z:Array (Fin n)),z.size=n→z.extract 0 n=z:=fun z hz=>Array.ext (by simp [hz]) (fun i h1 h2=>by simp)
 rw [hall d' hd's,hall d hds] at hpp
 have hl:d'.toList.map Fin.val=zuR n c:=by
  refine zvm hO ?_ ?_
  ·refine (hpp.map Fin.val).trans ?_
   have:d.toList.map Fin.val=List.range n:=by
    apply List.ext_getElem?
    intro i
    simp only [d,List.getElem?_map]
    by_cases hi:i < n
    ·simp [hi]
    ·rw [List.getElem?_eq_none (by simp;omega),List.getElem?_eq_none (by simp;omega)];rfl
   rw [this]
  ·rw [List.pairwise_map, List.pairwise_iff_getElem]
   intro i j hi hj hij
   have hi':i < n:=by simpa [hd's] using hi
   have hj':j < n:=by simpa [hd's] using hj
   have:=hsort i j (Nat.zero_le _) hij hj'
   rw [getElem!_pos d' j (by omega),getElem!_pos d' i (by omega)] at this
   simp only [ltOf,decide_eq_false_iff_not] at this
   exact this
 have hget:∀ i (hi:i < n),zqQ n c get i=get (d'[i]'(by omega)).val:=fun i hi=>by
  unfold zqQ
  rw [← hl]
  congr 1
  rw [List.getD_eq_getElem?_getD,List.getElem?_map]
  simp [hd's,hi]
 obtain ⟨cur',hcell',hsz'⟩:=zpM (q:=m) (off:=0) (flatK enc s d') hcell
 have hgrow:(sortWorldK enc s w blk 0 m d' os).heap[blk]? = some (.cells cur' e (0,0)):=by
  show ((putRow id (Sort.ahead w m) blk 0 (flatK enc s d')).heap ++ os)[blk]? = _
  rw [Array.getElem?_append_left (by simpa [putRow,mapBlock,Sort.ahead] using hlt)]
  exact hcell'
 have hH':HoldsK enc s (sortWorldK enc s w blk 0 m d' os) blk 0 d':=holdsK_sortWorldK_c enc s w blk 0 d d' m os hH hlt (by rw [hd's,hds])
 have hcur':∀ j (hj:j < n * s),cur'[j]? = some ((flatK enc s d')[j]!):=fun j hj=>by
  have:=(hH' j (by rw [size_flatK,hd's];exact hj)).1
  rw [cell_of hgrow,Nat.zero_add] at this
  exact this
 refine ⟨rfl,⟨cur'.toList.take (n * s),⟨by rw [List.length_take,Array.length_toList,hsz',hcs];exact Nat.min_eq_left (Nat.mul_le_mul_right s hncap),.inr ⟨blk,cap,cur',rfl,hb,hgrow,hncap,hcap,by rw [hsz',hcs],rfl⟩⟩,fun i hi=>?_⟩,?_⟩
 ·have e1:((cur'.toList.take (n * s)).drop (i * s)).take s=enc (d'[i]'(by omega)):=by
   apply List.ext_getElem?
   intro j
   have hm:=hmul i hi
   rw [List.getElem?_take]
   split
   ·rename_i hj
    rw [List.getElem?_drop,List.getElem?_take,if_pos (by omega),Array.getElem?_toList,hcur' _ (by omega)]
    have hdiv:(i * s+j) / s=i:=by rw [Nat.mul_comm,Nat.mul_add_div hpos,Nat.div_eq_of_lt hj,Nat.add_zero]
    have hmod:(i * s+j) % s=j:=by rw [Nat.mul_comm,Nat.mul_add_mod,Nat.mod_eq_of_lt hj]
    rw [get_flatK _ _ _ _ (by rw [hd's];omega),hdiv,hmod,getElem!_pos d' i (by omega),getElem!_pos _ _ (by rw [hk];exact hj)]
    exact (List.getElem?_eq_getElem _).symm
   ·rename_i hj
    rw [List.getElem?_eq_none (by rw [hk];omega)]
  rw [e1,hget i hi]
  exact hr _ (d'[i]'(by omega)).isLt
 ·refine ⟨⟨rfl, rfl, rfl, ?_, fun k hk hne => ?_⟩, Nat.le_add_right _ _⟩
  ·show w.heap.size ≤ ((putRow id (Sort.ahead w m) blk 0 (flatK enc s d')).heap ++ os).size
   simp [putRow,mapBlock,Sort.ahead]
  ·show ((putRow id (Sort.ahead w m) blk 0 (flatK enc s d')).heap ++ os)[k]? = _
   rw [Array.getElem?_append_left (by simpa [putRow,mapBlock,Sort.ahead] using hk)]
   exact zk6 _ fun e=>hne (by rw [e];rfl)
end Go.Pm
namespace Go.Pm

abbrev zI (x:Int):DV:=.one (.c (.p (.int .i64 x)))
abbrev zB (x:Bool):DV:=.one (.c (.p (.bool x)))
abbrev zP (x:PV):DV:=.one (.c (.p x))
abbrev zp (L k:Nat):DV:=.one (.c (.ptr L k))
abbrev zv (L:Nat):DV:=.one (.c (.vec L))
abbrev zs {α:Type} (enc:α→List PV) (s:Nat) (x:Sl α):PV:=.sl x.len s (fun i=>enc (x.get i))
abbrev zS {α:Type} (enc:α→List PV) (s:Nat) (x:Sl α):DV:=zP (zs enc s x)
abbrev zm (l:List PV):List Cl:=l.map Cl.p
abbrev zi (x:Int):Cl:=.p (.int .i64 x)
abbrev zg {α:Type} (enc:α→List PV) (x:Sl α):Nat→List PV:=fun i=>enc (x.get i)
abbrev zK (a b:List Nat):Keep:=⟨a,b,[],[],[],[],[]⟩
theorem zE {α:Type} (enc:α→List PV) (size:Nat) (f:Nat→α):IsE enc size size (fun i=>enc (f i)):=⟨rfl,f,rfl⟩

@[reducible] def lpO {A : Type} (d : A) (st : A → A) : Nat → A
  | 0=>d
  | k+1=>st (lpO d st k)
theorem zgs {A B : Type} (a : A) (b : B) (p : A → A) (s : B → B) (M : A → B → Prop) (h0 : M a b) (h1 : ∀ P S, M P S → M (p P) (s S)) : ∀ k, M (lpO a p k) (lpO b s k)
  | 0=>h0
  | k+1=>h1 _ _ (zgs a b p s M h0 h1 k)
theorem zy {α:Type} {y:Sl α} {P:Sl α→Prop} (h:P y):P ⟨y.len,y.get⟩:=h

section
variable (P:Program) (Γ:Ctrs) (ann:Ann)
def pt : Code → (Exit → St → Prop) → List Nat → List (St → Prop) → St → Prop
  | .seq a b,K,i :: r,X=>match i with | 0=>pt a (sqK P Γ ann b K) r X | _=>pt b K r X
  | .cond _ a b,K,i :: r,X=>match i with | 0=>pt a K r X | _=>pt b K r X
  | .block id b,K,_ :: r,X=>pt b (zay id K) r X
  | .loop b,K,_ :: r,x :: X=>pt b (zb4 P ann (zmf b) x K) r X
  | .scope b,K,_ :: r,X=>pt b (zcP K) r X
  | c,K,_,_=>vc P Γ ann c K
def ptF (fn:Func) (K:List PA→Prop) (l:List Nat) (X:List (St→Prop)):St→Prop :=
 match fn.body with
 | some c=>pt P Γ ann c (zbC P fn K) l X
 | none=>fun _=>False
end

theorem zc {b:Bool} {A B:Prop} {S S':Bool} {α:Type} {e:α→List PA} {K:List PA→Prop} {x y:α} (hs:cond b S S'=true) (hk:K (e (cond b x y))) (h1:S=true→K (e x)→A) (h2:S'=true→K (e y)→B):zcM b A B:=by
 cases b
 ·exact h2 hs hk
 ·exact h1 hs hk
theorem zt {b:Bool} {A B:Prop} {α:Type} {e:α→List PA} {K:List PA→Prop} {x y:α} (hk:K (e (cond b x y))) (h1:K (e x)→A) (h2:K (e y)→B):zcM b A B:=by
 cases b
 ·exact h2 hk
 ·exact h1 hk
theorem zl {at_:Prop} {g:St} (B:(St→Prop)→St→Prop) (e:at_ = ∀ X:St→Prop,(∀ s,B X s→X s)→X g) (h:∀ X:St→Prop,(∀ s,B X s→X s)→X g):at_:=e ▸ h
end Go.Pm
namespace Go.Proofs
open Go Go.Pm
set_option maxRecDepth 100000
set_option linter.unusedVariables false
attribute [local irreducible] Go.Pm.vcFun Go.Pm.vc Go.Pm.vcIter
abbrev enc_3 (x:Int):List PV:=[.int .i64 x]
def zMy : List PV → Int
  | [.int .i64 x]=>x
  | _=>default
def zce (g:Nat→List PV):Nat→Int:=fun i=>zMy (g i)
theorem zbO (f:Nat→Int):zce (fun i=>enc_3 (f i))=f:=rfl
abbrev zMz (x:Bool):List PV:=[.bool x]
structure Gate where
  Z:Int
  Low:Int
  High:Int
deriving Inhabited
abbrev enc_55 (x:Gate):List PV:=[.int .i64 x.Z,.int .i64 x.Low,.int .i64 x.High]
def zJo : List PV → Gate
  | [.int .i64 x_Z,.int .i64 x_Low,.int .i64 x_High]=>(⟨x_Z,x_Low,x_High⟩:Gate)
  | _=>default
def zaf (g:Nat→List PV):Nat→Gate:=fun i=>zJo (g i)
theorem zae (f:Nat→Gate):zaf (fun i=>enc_55 (f i))=f:=rfl
abbrev zJp (x:(Sl Gate)):List PV:=[.sl x.len 3 (fun i=>enc_55 (x.get i))]
structure Frac where
  Num:Int
  Den:Int
deriving Inhabited
abbrev zah (x:Frac):List PV:=[.int .i64 x.Num,.int .i64 x.Den]
def zJq : List PV → Frac
  | [.int .i64 x_Num,.int .i64 x_Den]=>(⟨x_Num,x_Den⟩:Frac)
  | _=>default
def zgY (g:Nat→List PV):Nat→Frac:=fun i=>zJq (g i)
theorem zfe (f:Nat→Frac):zgY (fun i=>zah (f i))=f:=rfl
structure Line where
  Slope:Frac
  Start:Frac
deriving Inhabited
abbrev zcl (x:Line):List PV:=[.int .i64 x.Slope.Num,.int .i64 x.Slope.Den,.int .i64 x.Start.Num,.int .i64 x.Start.Den]
def zJr : List PV → Line
  | [.int .i64 x_Slope_Num,.int .i64 x_Slope_Den,.int .i64 x_Start_Num,.int .i64 x_Start_Den]=>(⟨(⟨x_Slope_Num,x_Slope_Den⟩:Frac),(⟨x_Start_Num,x_Start_Den⟩:Frac)⟩:Line)
  | _=>default
def zk7 (g:Nat→List PV):Nat→Line:=fun i=>zJr (g i)
theorem zff (f:Nat→Line):zk7 (fun i=>zcl (f i))=f:=rfl
abbrev zJs (x:(Sl Int)):List PV:=[.sl x.len 1 (fun i=>enc_3 (x.get i))]
structure Span where
  Low:Int
  High:Int
deriving Inhabited
abbrev zam (x:Span):List PV:=[.int .i64 x.Low,.int .i64 x.High]
def zJt : List PV → Span
  | [.int .i64 x_Low,.int .i64 x_High]=>(⟨x_Low,x_High⟩:Span)
  | _=>default
def zwW (g:Nat→List PV):Nat→Span:=fun i=>zJt (g i)
structure list where
  Gates:(Sl Gate)
deriving Inhabited
abbrev zcH (x:list):List PV:=[.sl x.Gates.len 3 (fun i=>enc_55 (x.Gates.get i))]
structure straight where
  slope:Int
  start:Int
  den:Int
deriving Inhabited
abbrev zaj (x:straight):List PV:=[.int .i64 x.slope,.int .i64 x.start,.int .i64 x.den]
def zEO : List PV → straight
  | [.int .i64 x_slope,.int .i64 x_start,.int .i64 x_den]=>(⟨x_slope,x_start,x_den⟩:straight)
  | _=>default
def za6 (g:Nat→List PV):Nat→straight:=fun i=>zEO (g i)
theorem za0 (f:Nat→straight):za6 (fun i=>zaj (f i))=f:=rfl
structure set where
  list:list
  corners:(Sl straight)
deriving Inhabited
abbrev zbg (x:set):List PV:=[.sl x.list.Gates.len 3 (fun i=>enc_55 (x.list.Gates.get i)),.sl x.corners.len 3 (fun i=>zaj (x.corners.get i))]
abbrev zbq (x:Mp):List PV:=[.fm (true,2,false,[some .i64]) x.n x.F]
end Go.Proofs
namespace Go.Proofs
open Go Go.Pm
set_option maxRecDepth 100000
set_option linter.unusedVariables false
attribute [local irreducible] Go.Pm.vcFun Go.Pm.vc Go.Pm.vcIter
abbrev T39:Tabs:=Tabs.nil
theorem zMA:TabsOk Try.prog T39:=TabsOk.nil
abbrev G39:Ctrs:=csm T39 (fun _ _=>[]) (fun _=>false)
def zEP:Ann:=⟨46,[(0,zK [0,1] []),(1,zK [0,1,5] []),(2,zK [0,1,5,15] []),(3,zK [0,1,5] []),(4,zK [0,1,5,26] []),(5,zK [4] []),(6,zK [0,1,5,35] []),(7,zK [4] []),(8,zK [0,1,40] []),(9,zK [4] []),(10,zK [45] []),(11,zK [4] []),(12,zK [4] [])],
 [(2,zK [0,1,5] [])],
 [(8,zK [0,1] [])],
 [],[]⟩
abbrev R39:=Int
abbrev e39 (r:R39):List PA:=[.one (.int .i64 r)]
@[irreducible] def z39:=ptF Try.prog G39 zEP Try.f39
def zC6 (a:(Sl Int)) (b:(Sl Int)) (iv0:Int):St:=⟨[(0,zS enc_3 1 a),(1,zS enc_3 1 b),(5,zI iv0)],[],[]⟩
abbrev zJu (K:List PA→Prop) (a:(Sl Int)) (b:(Sl Int)) (X:St→Prop) (P:Int→Bool) (S:Int→Int):Prop:=∀ ⦃iv0:Int⦄,P iv0=true→K (e39 (S iv0))→X (zC6 a b iv0)
section
variable {K:List PA→Prop} {a:(Sl Int)} {b:(Sl Int)} {iv0:Int} {X0:St→Prop} {P0:Int→Bool} {S0:Int→Int}
def znx (a:(Sl Int)) (b:(Sl Int)):Int :=
  (cond (decide ((a.len : Int) < (b.len : Int)))
 (-1:Int)
 (cond (decide ((a.len : Int) > (b.len : Int)))
 (1:Int)
 (0:Int)))
theorem zwX (hk:K (e39 (znx a b))):z39 K [1,1] [] ⟨[(0,zS enc_3 1 a),(1,zS enc_3 1 b)],[],[]⟩:=zaH (by kernel_rfl) (zt hk (fun hk=>hk) (fun hk=>(zt hk (fun hk=>hk) (fun hk=>hk))))
def ziI (a:(Sl Int)) (b:(Sl Int)) (S0:Int→Int) (iv0:Int):Int :=
  (cond (decide (iv0 < (a.len : Int)))
 (cond (decide (iv0 < (b.len : Int)))
 (cond (decide ((a.get iv0.toNat) < (b.get iv0.toNat)))
 (-1:Int)
 (cond (decide ((a.get iv0.toNat) > (b.get iv0.toNat)))
 (1:Int)
 (S0 (w64 (iv0+(1:Int))))))
 (znx a b))
 (znx a b))
def ziJ (a:(Sl Int)) (b:(Sl Int)) (P0:Int→Bool) (iv0:Int):Bool :=
  (cond (decide (iv0 < (a.len : Int)))
 (cond (decide (iv0 < (b.len : Int)))
 (decide ((0≤iv0∧iv0 < (a.len:Int))) &&
 (decide ((0≤iv0∧iv0 < (b.len:Int))) &&
 (cond (decide ((a.get iv0.toNat) < (b.get iv0.toNat)))
 true
 (decide ((0≤iv0∧iv0 < (a.len:Int))) &&
 (decide ((0≤iv0∧iv0 < (b.len:Int))) &&
 (cond (decide ((a.get iv0.toNat) > (b.get iv0.toNat)))
 true
 (P0 (w64 (iv0+(1:Int))))))))))
 true)
 true)
def zgZ (a:(Sl Int)) (b:(Sl Int)):Nat→Int→Int:=lpO (fun _=>default) (ziI a b)
def zg0 (a:(Sl Int)) (b:(Sl Int)):Nat→Int→Bool:=lpO (fun _=>false) (ziJ a b)
def zwY (a:(Sl Int)) (b:(Sl Int)) (iv0:Int):Int:=zgZ a b Fuel iv0
def zwZ (a:(Sl Int)) (b:(Sl Int)) (iv0:Int):Bool:=zg0 a b Fuel iv0
theorem zEQ (hs:zwZ a b iv0=true) (hk:K (e39 (zwY a b iv0))):z39 K [1,0,1,0] [] (zC6 a b iv0) :=
  zl (fun X=>z39 K [1,0,1,0,0] [X]) (by kernel_rfl) fun X0 hX =>
  (show ∀ k, zJu K a b X0 (zg0 a b k) (zgZ a b k) from zgs _ _ (ziJ a b) (ziI a b) (zJu K a b X0)
 (by intro _ hs;exact absurd hs Bool.false_ne_true)
 (by intro P0 S0 hX0 iv0 hs hk;exact hX _ (zaH (by kernel_rfl) (zc hs hk (fun hs hk=>(zc hs hk (fun hs hk=>(zaE hs fun hc hs=>And.intro hc (zaE hs fun hc hs=>And.intro hc (zc hs hk (fun hs hk=>hk) (fun hs hk=>(zaE hs fun hc hs=>And.intro hc (zaE hs fun hc hs=>And.intro hc (zc hs hk (fun hs hk=>hk) (fun hs hk=>(hX0 hs hk)))))))))) (fun hs hk=>(zwX hk)))) (fun hs hk=>(zwX hk)))))) _ hs hk
def s39 (a:(Sl Int)) (b:(Sl Int)):Int :=
  (zwY a b (0:Int))
def p39 (a:(Sl Int)) (b:(Sl Int)):Bool :=
  (zwZ a b (0:Int))
end
theorem q39 (a:(Sl Int)) (b:(Sl Int)) (K:List PA→Prop) (hs:p39 a b=true) (hk:K (e39 (s39 a b))):vcFun Try.prog G39 zEP 39 [.one (.sl a.len 1 (fun i=>enc_3 (a.get i))),.one (.sl b.len 1 (fun i=>enc_3 (b.get i)))] K :=
  zaH (by kernel_rfl) (zEQ hs hk)
def zBR : List PA → COut
  | [.one (.sl a0_n a0_s a0_g),.one (.sl a1_n a1_s a1_g)]=>.det (IsE enc_3 1 a0_s a0_g∧IsE enc_3 1 a1_s a1_g∧p39 (⟨a0_n,zce a0_g⟩:(Sl Int)) (⟨a1_n,zce a1_g⟩:(Sl Int))=true) [.one (.int .i64 (s39 (⟨a0_n,zce a0_g⟩:(Sl Int)) (⟨a1_n,zce a1_g⟩:(Sl Int))))]
  | _=>.no
theorem zJv:zak Try.prog 39:=⟨_,rfl,rfl,by kernel_rfl⟩
theorem zOm:Ok Try.prog 39 zBR:=zaU zMA zJv fun args K h=>by
  unfold zBR at h
  split at h
  · rename_i a0_n a0_s a0_g a1_n a1_s a1_g
    obtain ⟨⟨⟨rfl,a0_f,rfl⟩,⟨rfl,a1_f,rfl⟩,hs⟩,hk⟩:=h
    try rw [zbO a0_f] at hs
    try rw [zbO a0_f] at hk
    try rw [zbO a1_f] at hs
    try rw [zbO a1_f] at hk
    exact ⟨(fun _ _=>[]),(fun _=>false),zEP,q39 (⟨a0_n,a0_f⟩:(Sl Int)) (⟨a1_n,a1_f⟩:(Sl Int)) K hs hk⟩
  · exact h.elim
abbrev T85:Tabs:=Tabs.nil
theorem zMB:TabsOk Try.prog T85:=TabsOk.nil
abbrev G85:Ctrs:=csm T85 (fun _ _=>[]) (fun _=>false)
def zJw:Ann:=⟨47,[(0,zK [0,1,2,3,4,5] []),(1,zK [0,1,2,13] []),(2,zK [13,14] []),(3,zK [12] [])],
 [],
 [],
 [],[]⟩
abbrev R85:=Int
abbrev e85 (r:R85):List PA:=[.one (.int .i64 r)]
section
variable {K:List PA→Prop} {u:Int} {v:Int} {w:Int} {p:Int} {q:Int} {r_a5:Int}
def s85 (u:Int) (v:Int) (w:Int) (p:Int) (q:Int) (r_a5:Int):Int :=
  (w64 ((w64 ((w64 ((w64 ((1000:Int) * (if (w64 (0 - (w64 ((w64 ((w64 (r_a5 - q)) * (w64 (v - u)))) - (w64 ((w64 (q - p)) * (w64 (w - v)))))))) > (w64 ((w64 ((w64 (r_a5 - q)) * (w64 (v - u)))) - (w64 ((w64 (q - p)) * (w64 (w - v)))))) then (w64 (0 - (w64 ((w64 ((w64 (r_a5 - q)) * (w64 (v - u)))) - (w64 ((w64 (q - p)) * (w64 (w - v)))))))) else (w64 ((w64 ((w64 (r_a5 - q)) * (w64 (v - u)))) - (w64 ((w64 (q - p)) * (w64 (w - v)))))))))+(w64 ((w64 (v - u)) * (w64 (w - v)))))) - (1:Int))).tdiv (w64 ((w64 (v - u)) * (w64 (w - v))))))
def p85 (u:Int) (v:Int) (w:Int) (p:Int) (q:Int) (r_a5:Int):Bool :=
  (decide (((w64 ((w64 (v - u)) * (w64 (w - v)))) ≠ 0)) &&
 true)
end
theorem q85 (u:Int) (v:Int) (w:Int) (p:Int) (q:Int) (r_a5:Int) (K:List PA→Prop) (hs:p85 u v w p q r_a5=true) (hk:K (e85 (s85 u v w p q r_a5))):vcFun Try.prog G85 zJw 85 [.one (.int .i64 u),.one (.int .i64 v),.one (.int .i64 w),.one (.int .i64 p),.one (.int .i64 q),.one (.int .i64 r_a5)] K :=
  zaH (by kernel_rfl) (zaE hs fun hc hs=>And.intro hc hk)
def zvn : List PA → COut
  | [.one (.int .i64 a0),.one (.int .i64 a1),.one (.int .i64 a2),.one (.int .i64 a3),.one (.int .i64 a4),.one (.int .i64 a5)]=>.det (p85 a0 a1 a2 a3 a4 a5=true) [.one (.int .i64 (s85 a0 a1 a2 a3 a4 a5))]
  | _=>.no
theorem zJx:zak Try.prog 85:=⟨_,rfl,rfl,by kernel_rfl⟩
theorem zL7:Ok Try.prog 85 zvn:=zaU zMB zJx fun args K h=>by
  unfold zvn at h
  split at h
  · rename_i a0 a1 a2 a3 a4 a5
    obtain ⟨hs,hk⟩:=h
    exact ⟨(fun _ _=>[]),(fun _=>false),zJw,q85 a0 a1 a2 a3 a4 a5 K hs hk⟩
  · exact h.elim
abbrev T74:Tabs:=Tabs.nil
theorem zMC:TabsOk Try.prog T74:=TabsOk.nil
abbrev G74:Ctrs:=csm T74 (fun _ _=>[]) (fun _=>false)
def zJy:Ann:=⟨15,[(0,zK [0,1,2] []),(1,zK [6] [])],
 [],
 [],
 [],[]⟩
abbrev R74:=Bool
abbrev e74 (r:R74):List PA:=[.one (.bool r)]
section
variable {K:List PA→Prop} {x:Int} {low:Int} {high:Int}
def s74 (x:Int) (low:Int) (high:Int):Bool :=
  (cond (decide (x ≥ low))
 (decide (x≤high))
 false)
end
theorem q74 (x:Int) (low:Int) (high:Int) (K:List PA→Prop) (hk:K (e74 (s74 x low high))):vcFun Try.prog G74 zJy 74 [.one (.int .i64 x),.one (.int .i64 low),.one (.int .i64 high)] K :=
  zaH (by kernel_rfl) (zt hk (fun hk=>hk) (fun hk=>hk))
def zny : List PA → COut
  | [.one (.int .i64 a0),.one (.int .i64 a1),.one (.int .i64 a2)]=>.tot [.one (.bool (s74 a0 a1 a2))]
  | _=>.no
theorem zJz:zak Try.prog 74:=⟨_,rfl,rfl,by kernel_rfl⟩
theorem zER:Ok Try.prog 74 zny:=zaU zMC zJz fun args K h=>by
  unfold zny at h
  split at h
  · rename_i a0 a1 a2
    have hk:=h
    exact ⟨(fun _ _=>[]),(fun _=>false),zJy,q74 a0 a1 a2 K hk⟩
  · exact h.elim
abbrev T87:Tabs:=(Tabs.nil.addF 74 zny)
theorem zMD:TabsOk Try.prog T87:=(TabsOk.nil.addF zER)
abbrev G87:Ctrs:=csm T87 (fun _ _=>[]) (fun _=>false)
def zJA:Ann:=⟨23,[(0,zK [1] [1]),(1,zK [2] [])],
 [],
 [],
 [],[]⟩
abbrev R87:=Bool
abbrev e87 (r:R87):List PA:=[.one (.bool r)]
section
variable {K:List PA→Prop} {g:Gate}
def s87 (g:Gate):Bool :=
  (cond (s74 g.Z (0:Int) (100000:Int))
 (cond (decide (g.Low ≥ (-1000000:Int)))
 (cond (decide (g.Low ≤ g.High))
 (decide (g.High≤(1000000:Int)))
 false)
 false)
 false)
end
theorem q87 (g:Gate) (K:List PA→Prop) (hk:K (e87 (s87 g))):vcFun Try.prog G87 zJA 87 [.agg (enc_55 g)] K :=
  zaH (by kernel_rfl) (zt hk (fun hk=>(zt hk (fun hk=>(zt hk (fun hk=>hk) (fun hk=>hk))) (fun hk=>hk))) (fun hk=>hk))
def zES : List PA → COut
  | [.agg [.int .i64 a0_Z,.int .i64 a0_Low,.int .i64 a0_High]]=>.tot [.one (.bool (s87 (⟨a0_Z,a0_Low,a0_High⟩:Gate)))]
  | _=>.no
theorem zJB:zak Try.prog 87:=⟨_,rfl,rfl,by kernel_rfl⟩
theorem zO0:Ok Try.prog 87 zES:=zaU zMD zJB fun args K h=>by
  unfold zES at h
  split at h
  · rename_i a0_Z a0_Low a0_High
    have hk:=h
    exact ⟨(fun _ _=>[]),(fun _=>false),zJA,q87 (⟨a0_Z,a0_Low,a0_High⟩:Gate) K hk⟩
  · exact h.elim
abbrev T64:Tabs:=((Tabs.nil.addF 74 zny).addF 87 zES)
theorem zME:TabsOk Try.prog T64:=((TabsOk.nil.addF zER).addF zO0)
abbrev G64:Ctrs:=csm T64 (fun _ _=>[]) (fun _=>false)
def zET:Ann:=⟨18,[(0,zK [0] []),(1,zK [0,5,6,7] []),(2,zK [0,5,6,7,8] []),(3,zK [0,4,5,6,7] [4]),(4,zK [0,5,6,7,13] []),(5,zK [2] []),(6,zK [0,5,6,7] []),(7,zK [2] [])],
 [(2,zK [0,5,6,7] [])],
 [(5,zK [0,5,6,7,13] [])],
 [],[]⟩
abbrev R64:=Bool
abbrev e64 (r:R64):List PA:=[.one (.bool r)]
@[irreducible] def z64:=ptF Try.prog G64 zET Try.f64
def zC7 (zaa:(Sl Gate)) (zbk:Int):St:=⟨[(0,zS enc_55 3 zaa),(5,zS enc_55 3 zaa),(6,zI (zaa.len:Int)),(7,zI zbk)],[],[]⟩
abbrev zEU (K:List PA→Prop) (zaa:(Sl Gate)) (X:St→Prop) (P:Int→Bool) (S:Int→Bool):Prop:=∀ ⦃zbk:Int⦄,P zbk=true→K (e64 (S zbk))→X (zC7 zaa zbk)
section
variable {K:List PA→Prop} {zaa:(Sl Gate)} {zbk:Int} {X0:St→Prop} {P0:Int→Bool} {S0:Int→Bool} {zg1:Int} {zry:Bool}
def zrz (S0:Int→Bool) (zaa:(Sl Gate)) (zg1:Int) (zry:Bool):Bool :=
  (cond zry
 false
 (S0 (w64 (zg1+(1:Int)))))
def zrA (P0:Int→Bool) (zaa:(Sl Gate)) (zg1:Int) (zry:Bool):Bool :=
  (cond zry
 true
 (P0 (w64 (zg1+(1:Int)))))
theorem zEV (hX0:zEU K zaa X0 P0 S0) (hs:zrA P0 zaa zg1 zry=true) (hk:K (e64 (zrz S0 zaa zg1 zry))):z64 K [1,0,1,0,0,1,1,0,0,1,1] [X0] ⟨[(0,zS enc_55 3 zaa),(5,zS enc_55 3 zaa),(6,zI (zaa.len:Int)),(7,zI zg1),(13,zB zry)],[],[]⟩:=zaH (by kernel_rfl) (zc hs hk (fun hs hk=>hk) (fun hs hk=>(hX0 hs hk)))
def ziK (zaa:(Sl Gate)) (S0:Int→Bool) (zbk:Int):Bool :=
  (cond (decide (zbk < (zaa.len : Int)))
 (zrz S0 zaa zbk (!(s87 (zaa.get zbk.toNat))))
 (s74 (zaa.len:Int) (1:Int) (24:Int)))
def ziL (zaa:(Sl Gate)) (P0:Int→Bool) (zbk:Int):Bool :=
  (cond (decide (zbk < (zaa.len : Int)))
 (decide ((0≤zbk∧zbk < (zaa.len:Int))) &&
 (zrA P0 zaa zbk (!(s87 (zaa.get zbk.toNat)))))
 true)
def ziM (zaa:(Sl Gate)):Nat→Int→Bool:=lpO (fun _=>default) (ziK zaa)
def ziN (zaa:(Sl Gate)):Nat→Int→Bool:=lpO (fun _=>false) (ziL zaa)
def zw0 (zaa:(Sl Gate)) (zbk:Int):Bool:=ziM zaa Fuel zbk
def zw1 (zaa:(Sl Gate)) (zbk:Int):Bool:=ziN zaa Fuel zbk
theorem zEW (hs:zw1 zaa zbk=true) (hk:K (e64 (zw0 zaa zbk))):z64 K [1,0,1,0] [] (zC7 zaa zbk) :=
  zl (fun X=>z64 K [1,0,1,0,0] [X]) (by kernel_rfl) fun X0 hX =>
  (show ∀ k, zEU K zaa X0 (ziN zaa k) (ziM zaa k) from zgs _ _ (ziL zaa) (ziK zaa) (zEU K zaa X0)
 (by intro _ hs;exact absurd hs Bool.false_ne_true)
 (by intro P0 S0 hX0 zbk hs hk;exact hX _ (zaH (by kernel_rfl) (zc hs hk (fun hs hk=>(zaE hs fun hc hs=>And.intro hc (zEV hX0 hs hk))) (fun hs hk=>hk))))) _ hs hk
def s64 (zaa:(Sl Gate)):Bool :=
  (zw0 zaa (0:Int))
def p64 (zaa:(Sl Gate)):Bool :=
  (zw1 zaa (0:Int))
end
theorem q64 (zaa:(Sl Gate)) (K:List PA→Prop) (hs:p64 zaa=true) (hk:K (e64 (s64 zaa))):vcFun Try.prog G64 zET 64 [.one (.sl zaa.len 3 (fun i=>enc_55 (zaa.get i)))] K :=
  zaH (by kernel_rfl) (zEW hs hk)
def zvo : List PA → COut
  | [.one (.sl a0_n a0_s a0_g)]=>.det (IsE enc_55 3 a0_s a0_g∧p64 (⟨a0_n,zaf a0_g⟩:(Sl Gate))=true) [.one (.bool (s64 (⟨a0_n,zaf a0_g⟩:(Sl Gate))))]
  | _=>.no
theorem zJC:zak Try.prog 64:=⟨_,rfl,rfl,by kernel_rfl⟩
theorem zL8:Ok Try.prog 64 zvo:=zaU zME zJC fun args K h=>by
  unfold zvo at h
  split at h
  · rename_i a0_n a0_s a0_g
    obtain ⟨⟨⟨rfl,a0_f,rfl⟩,hs⟩,hk⟩:=h
    try rw [zae a0_f] at hs
    try rw [zae a0_f] at hk
    exact ⟨(fun _ _=>[]),(fun _=>false),zET,q64 (⟨a0_n,a0_f⟩:(Sl Gate)) K hs hk⟩
  · exact h.elim
abbrev T92:Tabs:=((Tabs.nil.addF 64 zvo).addF 74 zny)
theorem zMF:TabsOk Try.prog T92:=((TabsOk.nil.addF zL8).addF zER)
abbrev G92:Ctrs:=csm T92 (fun _ _=>[]) (fun _=>false)
def zEX:Ann:=⟨41,[(0,zK [0] []),(1,zK [0,5,6,7] []),(2,zK [0,5,6,7,8] []),(3,zK [0,3,4,5,6,7] [4]),(4,zK [0,5,6,7,32] []),(5,zK [2] []),(6,zK [0,5,6,7] []),(7,zK [2] [])],
 [(2,zK [0,5,6,7] [])],
 [],
 [],[]⟩
abbrev R92:=Bool
abbrev e92 (r:R92):List PA:=[.one (.bool r)]
@[irreducible] def z92:=ptF Try.prog G92 zEX Try.f92
def zC8 (zaa:(Sl Gate)) (zbk:Int):St:=⟨[(0,zS enc_55 3 zaa),(5,zS enc_55 3 zaa),(6,zI (zaa.len:Int)),(7,zI zbk)],[],[]⟩
abbrev zJD (K:List PA→Prop) (zaa:(Sl Gate)) (X:St→Prop) (P:Int→Bool) (S:Int→Bool):Prop:=∀ ⦃zbk:Int⦄,P zbk=true→K (e92 (S zbk))→X (zC8 zaa zbk)
section
variable {K:List PA→Prop} {zaa:(Sl Gate)} {zbk:Int} {X0:St→Prop} {P0:Int→Bool} {S0:Int→Bool}
def ziO (zaa:(Sl Gate)) (S0:Int→Bool) (zbk:Int):Bool :=
  (cond (decide (zbk < (zaa.len : Int)))
 (cond (decide ((w64 ((zaa.get zbk.toNat).High - (zaa.get zbk.toNat).Low)) > (60:Int)))
 false
 (cond (decide (zbk > (0:Int)))
 (cond (decide ((zaa.get zbk.toNat).Z ≤ (zaa.get ((w64 (zbk - (1:Int))).toNat)).Z))
 false
 (S0 (w64 (zbk+(1:Int)))))
 (S0 (w64 (zbk+(1:Int))))))
 (cond (s74 (zaa.len : Int) (2:Int) (8:Int))
 (s64 zaa)
 false))
def ziP (zaa:(Sl Gate)) (P0:Int→Bool) (zbk:Int):Bool :=
  (cond (decide (zbk < (zaa.len : Int)))
 (decide ((0≤zbk∧zbk < (zaa.len:Int))) &&
 (cond (decide ((w64 ((zaa.get zbk.toNat).High - (zaa.get zbk.toNat).Low)) > (60:Int)))
 true
 (cond (decide (zbk > (0:Int)))
 (decide ((0≤(w64 (zbk - (1:Int)))∧(w64 (zbk - (1:Int))) < (zaa.len:Int))) &&
 (cond (decide ((zaa.get zbk.toNat).Z ≤ (zaa.get ((w64 (zbk - (1:Int))).toNat)).Z))
 true
 (P0 (w64 (zbk+(1:Int))))))
 (P0 (w64 (zbk+(1:Int)))))))
 (cond (s74 (zaa.len : Int) (2:Int) (8:Int))
 (decide ((p64 zaa=true)) &&
 true)
 true))
def ziQ (zaa:(Sl Gate)):Nat→Int→Bool:=lpO (fun _=>default) (ziO zaa)
def ziR (zaa:(Sl Gate)):Nat→Int→Bool:=lpO (fun _=>false) (ziP zaa)
def zw2 (zaa:(Sl Gate)) (zbk:Int):Bool:=ziQ zaa Fuel zbk
def zw3 (zaa:(Sl Gate)) (zbk:Int):Bool:=ziR zaa Fuel zbk
theorem zEY (hs:zw3 zaa zbk=true) (hk:K (e92 (zw2 zaa zbk))):z92 K [1,0,1,0] [] (zC8 zaa zbk) :=
  zl (fun X=>z92 K [1,0,1,0,0] [X]) (by kernel_rfl) fun X0 hX =>
  (show ∀ k, zJD K zaa X0 (ziR zaa k) (ziQ zaa k) from zgs _ _ (ziP zaa) (ziO zaa) (zJD K zaa X0)
 (by intro _ hs;exact absurd hs Bool.false_ne_true)
 (by intro P0 S0 hX0 zbk hs hk;exact hX _ (zaH (by kernel_rfl) (zc hs hk (fun hs hk=>(zaE hs fun hc hs=>And.intro hc (zc hs hk (fun hs hk=>hk) (fun hs hk=>(zc hs hk (fun hs hk=>(zaE hs fun hc hs=>And.intro hc (zc hs hk (fun hs hk=>hk) (fun hs hk=>(hX0 hs hk))))) (fun hs hk=>(hX0 hs hk))))))) (fun hs hk=>(zc hs hk (fun hs hk=>(zaE hs fun hc hs=>And.intro (And.intro (zE enc_55 3 zaa.get) hc) hk)) (fun hs hk=>hk))))))) _ hs hk
def s92 (zaa:(Sl Gate)):Bool :=
  (zw2 zaa (0:Int))
def p92 (zaa:(Sl Gate)):Bool :=
  (zw3 zaa (0:Int))
end
theorem q92 (zaa:(Sl Gate)) (K:List PA→Prop) (hs:p92 zaa=true) (hk:K (e92 (s92 zaa))):vcFun Try.prog G92 zEX 92 [.one (.sl zaa.len 3 (fun i=>enc_55 (zaa.get i)))] K :=
  zaH (by kernel_rfl) (zEY hs hk)
def zBS : List PA → COut
  | [.one (.sl a0_n a0_s a0_g)]=>.det (IsE enc_55 3 a0_s a0_g∧p92 (⟨a0_n,zaf a0_g⟩:(Sl Gate))=true) [.one (.bool (s92 (⟨a0_n,zaf a0_g⟩:(Sl Gate))))]
  | _=>.no
theorem zJE:zak Try.prog 92:=⟨_,rfl,rfl,by kernel_rfl⟩
theorem zOn:Ok Try.prog 92 zBS:=zaU zMF zJE fun args K h=>by
  unfold zBS at h
  split at h
  · rename_i a0_n a0_s a0_g
    obtain ⟨⟨⟨rfl,a0_f,rfl⟩,hs⟩,hk⟩:=h
    try rw [zae a0_f] at hs
    try rw [zae a0_f] at hk
    exact ⟨(fun _ _=>[]),(fun _=>false),zEX,q92 (⟨a0_n,a0_f⟩:(Sl Gate)) K hs hk⟩
  · exact h.elim
abbrev T93:Tabs:=(Tabs.nil.addF 85 zvn)
theorem zMG:TabsOk Try.prog T93:=(TabsOk.nil.addF zL7)
abbrev G93:Ctrs:=csm T93 (fun _ _=>[]) (fun l=>Nat.beq l 15 || Nat.beq l 24)
def zEZ:Ann:=⟨131,[(0,zK [0] []),(1,zK [0,3] []),(2,zK [0,3,4] [15]),(3,zK [0,3,4,5] [15]),(4,zK [0,3,4,5,19] [15]),(5,zK [0,3,4,5] [15]),(6,zK [0,3,4,5] [15]),(7,zK [0,3,4,5,6] [15]),(8,zK [0,3,4,5,6,37] [15]),(9,zK [0,3,4,5,6] [15]),(10,zK [0,3,4,5,6,7] [15]),(11,zK [0,3,4,5,6,7,53] [15]),(12,zK [0,3,4,5,6,7] [15]),(13,zK [0,3,4,5,6,7,59] [15]),(14,zK [0,3,4,5,6,7] [15]),(15,zK [0,3,4,5,6,7,8] [15]),(16,zK [0,3,4,5,6,7,8,9] [15]),(17,zK [0,3,4,5,6,7,8,9,80] [15]),(18,zK [0,3,4,5,6,7,8,9] [15]),(19,zK [0,3,4,5,6,7,8,9,10] [15]),(20,zK [0,3,4,5,6,7,8,9,10,120] [15]),(21,zK [0,3,4,5,6,7,8,9] [15]),(22,zK [0,3,4,5,6,7] [15]),(23,zK [2] [15])],
 [(4,zK [0,3,4,5] [15]),(8,zK [0,3,4,5,6] [15]),(11,zK [0,3,4,5,6,7] [15]),(17,zK [0,3,4,5,6,7,8,9] [15])],
 [(15,zK [0,3,4,5,6,7] [15]),(20,zK [0,3,4,5,6,7,8,9,10] [15])],
 [],[]⟩
abbrev R93:=(Sl Mp)
abbrev e93 (r:R93):List PA:=[.one (.sl r.len 1 (fun i=>zbq (r.get i)))]
@[irreducible] def z93:=ptF Try.prog G93 zEZ Try.f93
def zC9 (zaa:(Sl Gate)) (iv0:Int) (zb9:Nat) (zbY:(Nat→Bool)) (zbZ:(Nat→Nat)) (zcy:(Nat→List Int→Option (List Int))):St:=⟨[(0,zS enc_55 3 zaa),(3,zI (zaa.len:Int)),(4,zv 15),(5,zI iv0)],[(15,.vm 129 8 131 3 (true,2,false,[some .i64]) zb9 zbY zbZ zcy)],[]⟩
abbrev zrB (K:List PA→Prop) (zaa:(Sl Gate)) (X:St→Prop) (P:Int→Nat→(Nat→Bool)→(Nat→Nat)→(Nat→List Int→Option (List Int))→Bool) (S:Int→Nat→(Nat→Bool)→(Nat→Nat)→(Nat→List Int→Option (List Int))→(Sl Mp)):Prop:=∀ ⦃iv0:Int⦄ ⦃zb9:Nat⦄ ⦃zbY:(Nat→Bool)⦄ ⦃zbZ:(Nat→Nat)⦄ ⦃zcy:(Nat→List Int→Option (List Int))⦄,P iv0 zb9 zbY zbZ zcy=true→K (e93 (S iv0 zb9 zbY zbZ zcy))→X (zC9 zaa iv0 zb9 zbY zbZ zcy)
def zDa (zaa:(Sl Gate)) (iv1:Int) (pv1:Int) (zcm:Nat) (zbP:(Nat→Bool)) (zbQ:(Nat→Nat)) (zcn:(Nat→List Int→Option (List Int))):St:=⟨[(0,zS enc_55 3 zaa),(3,zI (zaa.len:Int)),(4,zv 15),(5,zI iv1),(6,zI pv1)],[(15,.vm 129 8 131 3 (true,2,false,[some .i64]) zcm zbP zbQ zcn)],[]⟩
abbrev zvp (K:List PA→Prop) (zaa:(Sl Gate)) (X:St→Prop) (P:Int→Int→Nat→(Nat→Bool)→(Nat→Nat)→(Nat→List Int→Option (List Int))→Bool) (S:Int→Int→Nat→(Nat→Bool)→(Nat→Nat)→(Nat→List Int→Option (List Int))→(Sl Mp)):Prop:=∀ ⦃iv1:Int⦄ ⦃pv1:Int⦄ ⦃zcm:Nat⦄ ⦃zbP:(Nat→Bool)⦄ ⦃zbQ:(Nat→Nat)⦄ ⦃zcn:(Nat→List Int→Option (List Int))⦄,P iv1 pv1 zcm zbP zbQ zcn=true→K (e93 (S iv1 pv1 zcm zbP zbQ zcn))→X (zDa zaa iv1 pv1 zcm zbP zbQ zcn)
def zDb (zaa:(Sl Gate)) (iv2:Int) (pv2:Int) (qv2:Int) (zbW:Nat) (zbr:(Nat→Bool)) (zbl:(Nat→Nat)) (zbJ:(Nat→List Int→Option (List Int))):St:=⟨[(0,zS enc_55 3 zaa),(3,zI (zaa.len:Int)),(4,zv 15),(5,zI iv2),(6,zI pv2),(7,zI qv2)],[(15,.vm 129 8 131 3 (true,2,false,[some .i64]) zbW zbr zbl zbJ)],[]⟩
abbrev zw4 (K:List PA→Prop) (zaa:(Sl Gate)) (X:St→Prop) (P:Int→Int→Int→Nat→(Nat→Bool)→(Nat→Nat)→(Nat→List Int→Option (List Int))→Bool) (S:Int→Int→Int→Nat→(Nat→Bool)→(Nat→Nat)→(Nat→List Int→Option (List Int))→(Sl Mp)):Prop:=∀ ⦃iv2:Int⦄ ⦃pv2:Int⦄ ⦃qv2:Int⦄ ⦃zbW:Nat⦄ ⦃zbr:(Nat→Bool)⦄ ⦃zbl:(Nat→Nat)⦄ ⦃zbJ:(Nat→List Int→Option (List Int))⦄,P iv2 pv2 qv2 zbW zbr zbl zbJ=true→K (e93 (S iv2 pv2 qv2 zbW zbr zbl zbJ))→X (zDb zaa iv2 pv2 qv2 zbW zbr zbl zbJ)
def zDc (zaa:(Sl Gate)) (qv3:Int) (iv4:Int) (pv4:Int) (zdh:Int) (rv4:Int) (zbK:Nat) (zbx:(Nat→Bool)) (zby:(Nat→Nat)) (zbw:(Nat→List Int→Option (List Int))):St:=⟨[(0,zS enc_55 3 zaa),(3,zI (zaa.len:Int)),(4,zv 15),(5,zI iv4),(6,zI pv4),(7,zI qv3),(8,zI zdh),(9,zI rv4)],[(15,.vm 129 8 131 3 (true,2,false,[some .i64]) zbK zbx zby zbw)],[]⟩
abbrev zE0 (K:List PA→Prop) (zaa:(Sl Gate)) (qv3:Int) (X:St→Prop) (P:Int→Int→Int→Int→Nat→(Nat→Bool)→(Nat→Nat)→(Nat→List Int→Option (List Int))→Bool) (S:Int→Int→Int→Int→Nat→(Nat→Bool)→(Nat→Nat)→(Nat→List Int→Option (List Int))→(Sl Mp)):Prop:=∀ ⦃iv4:Int⦄ ⦃pv4:Int⦄ ⦃zdh:Int⦄ ⦃rv4:Int⦄ ⦃zbK:Nat⦄ ⦃zbx:(Nat→Bool)⦄ ⦃zby:(Nat→Nat)⦄ ⦃zbw:(Nat→List Int→Option (List Int))⦄,P iv4 pv4 zdh rv4 zbK zbx zby zbw=true→K (e93 (S iv4 pv4 zdh rv4 zbK zbx zby zbw))→X (zDc zaa qv3 iv4 pv4 zdh rv4 zbK zbx zby zbw)
section
variable {K:List PA→Prop} {zaa:(Sl Gate)} {iv0:Int} {zb9:Nat} {zbY:(Nat→Bool)} {zbZ:(Nat→Nat)} {zcy:(Nat→List Int→Option (List Int))} {X0:St→Prop} {P0:Int→Nat→(Nat→Bool)→(Nat→Nat)→(Nat→List Int→Option (List Int))→Bool} {S0:Int→Nat→(Nat→Bool)→(Nat→Nat)→(Nat→List Int→Option (List Int))→(Sl Mp)} {iv1:Int} {pv1:Int} {zcm:Nat} {zbP:(Nat→Bool)} {zbQ:(Nat→Nat)} {zcn:(Nat→List Int→Option (List Int))} {X1:St→Prop} {P1:Int→Int→Nat→(Nat→Bool)→(Nat→Nat)→(Nat→List Int→Option (List Int))→Bool} {S1:Int→Int→Nat→(Nat→Bool)→(Nat→Nat)→(Nat→List Int→Option (List Int))→(Sl Mp)} {iv2:Int} {pv2:Int} {qv2:Int} {zbW:Nat} {zbr:(Nat→Bool)} {zbl:(Nat→Nat)} {zbJ:(Nat→List Int→Option (List Int))} {X2:St→Prop} {P2:Int→Int→Int→Nat→(Nat→Bool)→(Nat→Nat)→(Nat→List Int→Option (List Int))→Bool} {S2:Int→Int→Int→Nat→(Nat→Bool)→(Nat→Nat)→(Nat→List Int→Option (List Int))→(Sl Mp)} {iv3:Int} {pv3:Int} {qv3:Int} {zg2:Nat} {zfg:(Nat→Bool)} {zfh:(Nat→Nat)} {zg3:(Nat→List Int→Option (List Int))} {iv4:Int} {pv4:Int} {zdh:Int} {rv4:Int} {zbK:Nat} {zbx:(Nat→Bool)} {zby:(Nat→Nat)} {zbw:(Nat→List Int→Option (List Int))} {X4:St→Prop} {P4:Int→Int→Int→Int→Nat→(Nat→Bool)→(Nat→Nat)→(Nat→List Int→Option (List Int))→Bool} {S4:Int→Int→Int→Int→Nat→(Nat→Bool)→(Nat→Nat)→(Nat→List Int→Option (List Int))→(Sl Mp)} {iv5:Int} {pv5:Int} {zfU:Int} {rv5:Int} {kv5:Int} {zej:Nat} {zdn:(Nat→Bool)} {zdo:(Nat→Nat)} {zek:(Nat→List Int→Option (List Int))}
def znz (S0:Int→Nat→(Nat→Bool)→(Nat→Nat)→(Nat→List Int→Option (List Int))→(Sl Mp)) (S1:Int→Int→Nat→(Nat→Bool)→(Nat→Nat)→(Nat→List Int→Option (List Int))→(Sl Mp)) (S2:Int→Int→Int→Nat→(Nat→Bool)→(Nat→Nat)→(Nat→List Int→Option (List Int))→(Sl Mp)) (S4:Int→Int→Int→Int→Nat→(Nat→Bool)→(Nat→Nat)→(Nat→List Int→Option (List Int))→(Sl Mp)) (zaa:(Sl Gate)) (qv3:Int) (iv5:Int) (pv5:Int) (zfU:Int) (rv5:Int) (kv5:Int) (zej:Nat) (zdn:(Nat→Bool)) (zdo:(Nat→Nat)) (zek:(Nat→List Int→Option (List Int))):(Sl Mp) :=
  (cond (decide (zfU < (0:Int)))
 (S4 iv5 pv5 kv5 (w64 (rv5+(1:Int))) zej zdn zdo zek)
 (cond (decide (kv5 < zfU))
 (S4 iv5 pv5 kv5 (w64 (rv5+(1:Int))) zej zdn zdo zek)
 (S4 iv5 pv5 zfU (w64 (rv5+(1:Int))) zej zdn zdo zek)))
def znA (P0:Int→Nat→(Nat→Bool)→(Nat→Nat)→(Nat→List Int→Option (List Int))→Bool) (P1:Int→Int→Nat→(Nat→Bool)→(Nat→Nat)→(Nat→List Int→Option (List Int))→Bool) (P2:Int→Int→Int→Nat→(Nat→Bool)→(Nat→Nat)→(Nat→List Int→Option (List Int))→Bool) (P4:Int→Int→Int→Int→Nat→(Nat→Bool)→(Nat→Nat)→(Nat→List Int→Option (List Int))→Bool) (zaa:(Sl Gate)) (qv3:Int) (iv5:Int) (pv5:Int) (zfU:Int) (rv5:Int) (kv5:Int) (zej:Nat) (zdn:(Nat→Bool)) (zdo:(Nat→Nat)) (zek:(Nat→List Int→Option (List Int))):Bool :=
  (cond (decide (zfU < (0:Int)))
 (P4 iv5 pv5 kv5 (w64 (rv5+(1:Int))) zej zdn zdo zek)
 (cond (decide (kv5 < zfU))
 (P4 iv5 pv5 kv5 (w64 (rv5+(1:Int))) zej zdn zdo zek)
 (P4 iv5 pv5 zfU (w64 (rv5+(1:Int))) zej zdn zdo zek)))
theorem zE1 (hX0:zrB K zaa X0 P0 S0) (hX1:zvp K zaa X1 P1 S1) (hX2:zw4 K zaa X2 P2 S2) (hX4:zE0 K zaa qv3 X4 P4 S4) (hs:znA P0 P1 P2 P4 zaa qv3 iv5 pv5 zfU rv5 kv5 zej zdn zdo zek=true) (hk:K (e93 (znz S0 S1 S2 S4 zaa qv3 iv5 pv5 zfU rv5 kv5 zej zdn zdo zek))):z93 K [1,1,1,0,1,0,0,1,0,0,1,1,0,0,1,0,0,1,0,0,1,0,0,1,1,0,1,0,0,1,0,0,1] [X0,X1,X2,X4] ⟨[(0,zS enc_55 3 zaa),(3,zI (zaa.len:Int)),(4,zv 15),(5,zI iv5),(6,zI pv5),(7,zI qv3),(8,zI zfU),(9,zI rv5),(10,zI kv5)],[(15,.vm 129 8 131 3 (true,2,false,[some .i64]) zej zdn zdo zek)],[]⟩:=zaH (by kernel_rfl) (zc hs hk (fun hs hk=>(hX4 hs hk)) (fun hs hk=>(zc hs hk (fun hs hk=>(hX4 hs hk)) (fun hs hk=>(hX4 hs hk)))))
def ziS (S0:Int→Nat→(Nat→Bool)→(Nat→Nat)→(Nat→List Int→Option (List Int))→(Sl Mp)) (S1:Int→Int→Nat→(Nat→Bool)→(Nat→Nat)→(Nat→List Int→Option (List Int))→(Sl Mp)) (S2:Int→Int→Int→Nat→(Nat→Bool)→(Nat→Nat)→(Nat→List Int→Option (List Int))→(Sl Mp)) (zaa:(Sl Gate)) (qv3:Int) (S4:Int→Int→Int→Int→Nat→(Nat→Bool)→(Nat→Nat)→(Nat→List Int→Option (List Int))→(Sl Mp)) (iv4:Int) (pv4:Int) (zdh:Int) (rv4:Int) (zbK:Nat) (zbx:(Nat→Bool)) (zby:(Nat→Nat)) (zbw:(Nat→List Int→Option (List Int))):(Sl Mp) :=
  (cond (decide (rv4 ≤ (zaa.get ((w64 (iv4 + (2:Int))).toNat)).High))
 (znz S0 S1 S2 S4 zaa qv3 iv4 pv4 zdh rv4 (if (zdg ((zbw ((w64 (iv4+(1:Int))).toNat)) [qv3,rv4]) 0) > (s85 ((zaa.get iv4.toNat).Z) ((zaa.get ((w64 (iv4+(1:Int))).toNat)).Z) ((zaa.get ((w64 (iv4+(2:Int))).toNat)).Z) pv4 qv3 rv4) then (zdg ((zbw ((w64 (iv4+(1:Int))).toNat)) [qv3,rv4]) 0) else (s85 ((zaa.get iv4.toNat).Z) ((zaa.get ((w64 (iv4+(1:Int))).toNat)).Z) ((zaa.get ((w64 (iv4+(2:Int))).toNat)).Z) pv4 qv3 rv4)) zbK zbx zby zbw)
 (S2 iv4 pv4 (w64 (qv3+(1:Int))) zbK zbx (zba iv4.toNat (addN ((zbw iv4.toNat) [pv4,qv3]) (zby iv4.toNat)) zby) (zba iv4.toNat (ze0 [pv4,qv3] [zdh] (zbw iv4.toNat)) zbw)))
def ziT (P0:Int→Nat→(Nat→Bool)→(Nat→Nat)→(Nat→List Int→Option (List Int))→Bool) (P1:Int→Int→Nat→(Nat→Bool)→(Nat→Nat)→(Nat→List Int→Option (List Int))→Bool) (P2:Int→Int→Int→Nat→(Nat→Bool)→(Nat→Nat)→(Nat→List Int→Option (List Int))→Bool) (zaa:(Sl Gate)) (qv3:Int) (P4:Int→Int→Int→Int→Nat→(Nat→Bool)→(Nat→Nat)→(Nat→List Int→Option (List Int))→Bool) (iv4:Int) (pv4:Int) (zdh:Int) (rv4:Int) (zbK:Nat) (zbx:(Nat→Bool)) (zby:(Nat→Nat)) (zbw:(Nat→List Int→Option (List Int))):Bool :=
  (decide ((0≤(w64 (iv4+(2:Int)))∧(w64 (iv4+(2:Int))) < (zaa.len:Int))) &&
 (cond (decide (rv4 ≤ (zaa.get ((w64 (iv4 + (2:Int))).toNat)).High))
 (decide ((0≤iv4∧iv4 < (zaa.len:Int))) &&
 (decide ((0≤(w64 (iv4+(1:Int)))∧(w64 (iv4+(1:Int))) < (zaa.len:Int))) &&
 (decide ((0≤(w64 (iv4+(2:Int)))∧(w64 (iv4+(2:Int))) < (zaa.len:Int))) &&
 (decide ((p85 ((zaa.get iv4.toNat).Z) ((zaa.get ((w64 (iv4+(1:Int))).toNat)).Z) ((zaa.get ((w64 (iv4+(2:Int))).toNat)).Z) pv4 qv3 rv4=true)) &&
 (decide ((0≤(w64 (iv4+(1:Int)))∧(w64 (iv4+(1:Int))) < (zbK:Int))) &&
 (decide (((w64 (iv4+(1:Int))).toNat < zbK∧zbx ((w64 (iv4+(1:Int))).toNat)=true)) &&
 (decide (((w64 (iv4+(1:Int))).toNat < zbK)) &&
 (znA P0 P1 P2 P4 zaa qv3 iv4 pv4 zdh rv4 (if (zdg ((zbw ((w64 (iv4+(1:Int))).toNat)) [qv3,rv4]) 0) > (s85 ((zaa.get iv4.toNat).Z) ((zaa.get ((w64 (iv4+(1:Int))).toNat)).Z) ((zaa.get ((w64 (iv4+(2:Int))).toNat)).Z) pv4 qv3 rv4) then (zdg ((zbw ((w64 (iv4+(1:Int))).toNat)) [qv3,rv4]) 0) else (s85 ((zaa.get iv4.toNat).Z) ((zaa.get ((w64 (iv4+(1:Int))).toNat)).Z) ((zaa.get ((w64 (iv4+(2:Int))).toNat)).Z) pv4 qv3 rv4)) zbK zbx zby zbw))))))))
 (decide ((0≤iv4∧iv4 < (zbK:Int))) &&
 (decide ((iv4.toNat < zbK∧zbx iv4.toNat=true)) &&
 (decide ((iv4.toNat < zbK)) &&
 (P2 iv4 pv4 (w64 (qv3+(1:Int))) zbK zbx (zba iv4.toNat (addN ((zbw iv4.toNat) [pv4,qv3]) (zby iv4.toNat)) zby) (zba iv4.toNat (ze0 [pv4,qv3] [zdh] (zbw iv4.toNat)) zbw)))))))
def zg4 (S0:Int→Nat→(Nat→Bool)→(Nat→Nat)→(Nat→List Int→Option (List Int))→(Sl Mp)) (S1:Int→Int→Nat→(Nat→Bool)→(Nat→Nat)→(Nat→List Int→Option (List Int))→(Sl Mp)) (S2:Int→Int→Int→Nat→(Nat→Bool)→(Nat→Nat)→(Nat→List Int→Option (List Int))→(Sl Mp)) (zaa:(Sl Gate)) (qv3:Int):Nat→Int→Int→Int→Int→Nat→(Nat→Bool)→(Nat→Nat)→(Nat→List Int→Option (List Int))→(Sl Mp):=lpO (fun _ _ _ _ _ _ _ _=>default) (ziS S0 S1 S2 zaa qv3)
def zg5 (P0:Int→Nat→(Nat→Bool)→(Nat→Nat)→(Nat→List Int→Option (List Int))→Bool) (P1:Int→Int→Nat→(Nat→Bool)→(Nat→Nat)→(Nat→List Int→Option (List Int))→Bool) (P2:Int→Int→Int→Nat→(Nat→Bool)→(Nat→Nat)→(Nat→List Int→Option (List Int))→Bool) (zaa:(Sl Gate)) (qv3:Int):Nat→Int→Int→Int→Int→Nat→(Nat→Bool)→(Nat→Nat)→(Nat→List Int→Option (List Int))→Bool:=lpO (fun _ _ _ _ _ _ _ _=>false) (ziT P0 P1 P2 zaa qv3)
def zrC (S0:Int→Nat→(Nat→Bool)→(Nat→Nat)→(Nat→List Int→Option (List Int))→(Sl Mp)) (S1:Int→Int→Nat→(Nat→Bool)→(Nat→Nat)→(Nat→List Int→Option (List Int))→(Sl Mp)) (S2:Int→Int→Int→Nat→(Nat→Bool)→(Nat→Nat)→(Nat→List Int→Option (List Int))→(Sl Mp)) (zaa:(Sl Gate)) (qv3:Int) (iv4:Int) (pv4:Int) (zdh:Int) (rv4:Int) (zbK:Nat) (zbx:(Nat→Bool)) (zby:(Nat→Nat)) (zbw:(Nat→List Int→Option (List Int))):(Sl Mp):=zg4 S0 S1 S2 zaa qv3 Fuel iv4 pv4 zdh rv4 zbK zbx zby zbw
def zrD (P0:Int→Nat→(Nat→Bool)→(Nat→Nat)→(Nat→List Int→Option (List Int))→Bool) (P1:Int→Int→Nat→(Nat→Bool)→(Nat→Nat)→(Nat→List Int→Option (List Int))→Bool) (P2:Int→Int→Int→Nat→(Nat→Bool)→(Nat→Nat)→(Nat→List Int→Option (List Int))→Bool) (zaa:(Sl Gate)) (qv3:Int) (iv4:Int) (pv4:Int) (zdh:Int) (rv4:Int) (zbK:Nat) (zbx:(Nat→Bool)) (zby:(Nat→Nat)) (zbw:(Nat→List Int→Option (List Int))):Bool:=zg5 P0 P1 P2 zaa qv3 Fuel iv4 pv4 zdh rv4 zbK zbx zby zbw
theorem zE2 (hX0:zrB K zaa X0 P0 S0) (hX1:zvp K zaa X1 P1 S1) (hX2:zw4 K zaa X2 P2 S2) (hs:zrD P0 P1 P2 zaa qv3 iv4 pv4 zdh rv4 zbK zbx zby zbw=true) (hk:K (e93 (zrC S0 S1 S2 zaa qv3 iv4 pv4 zdh rv4 zbK zbx zby zbw))):z93 K [1,1,1,0,1,0,0,1,0,0,1,1,0,0,1,0,0,1,0,0,1,0,0,1,1,0,1,0] [X0,X1,X2] (zDc zaa qv3 iv4 pv4 zdh rv4 zbK zbx zby zbw) :=
  zl (fun X=>z93 K [1,1,1,0,1,0,0,1,0,0,1,1,0,0,1,0,0,1,0,0,1,0,0,1,1,0,1,0,0] [X0,X1,X2,X]) (by kernel_rfl) fun X4 hX =>
  (show ∀ k, zE0 K zaa qv3 X4 (zg5 P0 P1 P2 zaa qv3 k) (zg4 S0 S1 S2 zaa qv3 k) from zgs _ _ (ziT P0 P1 P2 zaa qv3) (ziS S0 S1 S2 zaa qv3) (zE0 K zaa qv3 X4)
 (by intro _ _ _ _ _ _ _ _ hs;exact absurd hs Bool.false_ne_true)
 (by intro P4 S4 hX4 iv4 pv4 zdh rv4 zbK zbx zby zbw hs hk;exact hX _ (zaH (by kernel_rfl) (zaE hs fun hc hs=>And.intro hc (zc hs hk (fun hs hk=>(zaE hs fun hc hs=>And.intro hc (zaE hs fun hc hs=>And.intro hc (zaE hs fun hc hs=>And.intro hc (zaE hs fun hc hs=>And.intro hc (zaE hs fun hc hs=>And.intro hc (zaE hs fun hc hs=>And.intro hc (zaE hs fun hc hs=>And.intro hc (zE1 hX0 hX1 hX2 hX4 hs hk))))))))) (fun hs hk=>(zaE hs fun hc hs=>And.intro hc (zaE hs fun hc hs=>And.intro hc (zaE hs fun hc hs=>And.intro hc (hX2 hs hk)))))))))) _ hs hk
def zrE (S0:Int→Nat→(Nat→Bool)→(Nat→Nat)→(Nat→List Int→Option (List Int))→(Sl Mp)) (S1:Int→Int→Nat→(Nat→Bool)→(Nat→Nat)→(Nat→List Int→Option (List Int))→(Sl Mp)) (S2:Int→Int→Int→Nat→(Nat→Bool)→(Nat→Nat)→(Nat→List Int→Option (List Int))→(Sl Mp)) (zaa:(Sl Gate)) (iv3:Int) (pv3:Int) (qv3:Int) (zg2:Nat) (zfg:(Nat→Bool)) (zfh:(Nat→Nat)) (zg3:(Nat→List Int→Option (List Int))):(Sl Mp) :=
  (zrC S0 S1 S2 zaa qv3 iv3 pv3 (-1:Int) ((zaa.get ((w64 (iv3+(2:Int))).toNat)).Low) zg2 zfg zfh zg3)
def zrF (P0:Int→Nat→(Nat→Bool)→(Nat→Nat)→(Nat→List Int→Option (List Int))→Bool) (P1:Int→Int→Nat→(Nat→Bool)→(Nat→Nat)→(Nat→List Int→Option (List Int))→Bool) (P2:Int→Int→Int→Nat→(Nat→Bool)→(Nat→Nat)→(Nat→List Int→Option (List Int))→Bool) (zaa:(Sl Gate)) (iv3:Int) (pv3:Int) (qv3:Int) (zg2:Nat) (zfg:(Nat→Bool)) (zfh:(Nat→Nat)) (zg3:(Nat→List Int→Option (List Int))):Bool :=
  (decide ((0≤(w64 (iv3+(2:Int)))∧(w64 (iv3+(2:Int))) < (zaa.len:Int))) &&
 (zrD P0 P1 P2 zaa qv3 iv3 pv3 (-1:Int) ((zaa.get ((w64 (iv3+(2:Int))).toNat)).Low) zg2 zfg zfh zg3))
theorem zE3 (hX0:zrB K zaa X0 P0 S0) (hX1:zvp K zaa X1 P1 S1) (hX2:zw4 K zaa X2 P2 S2) (hs:zrF P0 P1 P2 zaa iv3 pv3 qv3 zg2 zfg zfh zg3=true) (hk:K (e93 (zrE S0 S1 S2 zaa iv3 pv3 qv3 zg2 zfg zfh zg3))):z93 K [1,1,1,0,1,0,0,1,0,0,1,1,0,0,1,0,0,1,0,0,1,0,0,1] [X0,X1,X2] ⟨[(0,zS enc_55 3 zaa),(3,zI (zaa.len:Int)),(4,zv 15),(5,zI iv3),(6,zI pv3),(7,zI qv3)],[(15,.vm 129 8 131 3 (true,2,false,[some .i64]) zg2 zfg zfh zg3)],[]⟩:=zaH (by kernel_rfl) (zaE hs fun hc hs=>And.intro hc (zE2 hX0 hX1 hX2 hs hk))
def ziU (S0:Int→Nat→(Nat→Bool)→(Nat→Nat)→(Nat→List Int→Option (List Int))→(Sl Mp)) (S1:Int→Int→Nat→(Nat→Bool)→(Nat→Nat)→(Nat→List Int→Option (List Int))→(Sl Mp)) (zaa:(Sl Gate)) (S2:Int→Int→Int→Nat→(Nat→Bool)→(Nat→Nat)→(Nat→List Int→Option (List Int))→(Sl Mp)) (iv2:Int) (pv2:Int) (qv2:Int) (zbW:Nat) (zbr:(Nat→Bool)) (zbl:(Nat→Nat)) (zbJ:(Nat→List Int→Option (List Int))):(Sl Mp) :=
  (cond (decide (qv2 ≤ (zaa.get ((w64 (iv2 + (1:Int))).toNat)).High))
 (cond (iv2 == (w64 ((zaa.len : Int) - (2:Int))))
 (S2 iv2 pv2 (w64 (qv2+(1:Int))) zbW zbr (zba iv2.toNat (addN ((zbJ iv2.toNat) [pv2,qv2]) (zbl iv2.toNat)) zbl) (zba iv2.toNat (ze0 [pv2,qv2] [(0:Int)] (zbJ iv2.toNat)) zbJ))
 (zrE S0 S1 S2 zaa iv2 pv2 qv2 zbW zbr zbl zbJ))
 (S1 iv2 (w64 (pv2+(1:Int))) zbW zbr zbl zbJ))
def ziV (P0:Int→Nat→(Nat→Bool)→(Nat→Nat)→(Nat→List Int→Option (List Int))→Bool) (P1:Int→Int→Nat→(Nat→Bool)→(Nat→Nat)→(Nat→List Int→Option (List Int))→Bool) (zaa:(Sl Gate)) (P2:Int→Int→Int→Nat→(Nat→Bool)→(Nat→Nat)→(Nat→List Int→Option (List Int))→Bool) (iv2:Int) (pv2:Int) (qv2:Int) (zbW:Nat) (zbr:(Nat→Bool)) (zbl:(Nat→Nat)) (zbJ:(Nat→List Int→Option (List Int))):Bool :=
  (decide ((0≤(w64 (iv2+(1:Int)))∧(w64 (iv2+(1:Int))) < (zaa.len:Int))) &&
 (cond (decide (qv2 ≤ (zaa.get ((w64 (iv2 + (1:Int))).toNat)).High))
 (cond (iv2 == (w64 ((zaa.len : Int) - (2:Int))))
 (decide ((0≤iv2∧iv2 < (zbW:Int))) &&
 (decide ((iv2.toNat < zbW∧zbr iv2.toNat=true)) &&
 (decide ((iv2.toNat < zbW)) &&
 (P2 iv2 pv2 (w64 (qv2+(1:Int))) zbW zbr (zba iv2.toNat (addN ((zbJ iv2.toNat) [pv2,qv2]) (zbl iv2.toNat)) zbl) (zba iv2.toNat (ze0 [pv2,qv2] [(0:Int)] (zbJ iv2.toNat)) zbJ)))))
 (zrF P0 P1 P2 zaa iv2 pv2 qv2 zbW zbr zbl zbJ))
 (P1 iv2 (w64 (pv2+(1:Int))) zbW zbr zbl zbJ)))
def zg6 (S0:Int→Nat→(Nat→Bool)→(Nat→Nat)→(Nat→List Int→Option (List Int))→(Sl Mp)) (S1:Int→Int→Nat→(Nat→Bool)→(Nat→Nat)→(Nat→List Int→Option (List Int))→(Sl Mp)) (zaa:(Sl Gate)):Nat→Int→Int→Int→Nat→(Nat→Bool)→(Nat→Nat)→(Nat→List Int→Option (List Int))→(Sl Mp):=lpO (fun _ _ _ _ _ _ _=>default) (ziU S0 S1 zaa)
def zg7 (P0:Int→Nat→(Nat→Bool)→(Nat→Nat)→(Nat→List Int→Option (List Int))→Bool) (P1:Int→Int→Nat→(Nat→Bool)→(Nat→Nat)→(Nat→List Int→Option (List Int))→Bool) (zaa:(Sl Gate)):Nat→Int→Int→Int→Nat→(Nat→Bool)→(Nat→Nat)→(Nat→List Int→Option (List Int))→Bool:=lpO (fun _ _ _ _ _ _ _=>false) (ziV P0 P1 zaa)
def zrG (S0:Int→Nat→(Nat→Bool)→(Nat→Nat)→(Nat→List Int→Option (List Int))→(Sl Mp)) (S1:Int→Int→Nat→(Nat→Bool)→(Nat→Nat)→(Nat→List Int→Option (List Int))→(Sl Mp)) (zaa:(Sl Gate)) (iv2:Int) (pv2:Int) (qv2:Int) (zbW:Nat) (zbr:(Nat→Bool)) (zbl:(Nat→Nat)) (zbJ:(Nat→List Int→Option (List Int))):(Sl Mp):=zg6 S0 S1 zaa Fuel iv2 pv2 qv2 zbW zbr zbl zbJ
def zrH (P0:Int→Nat→(Nat→Bool)→(Nat→Nat)→(Nat→List Int→Option (List Int))→Bool) (P1:Int→Int→Nat→(Nat→Bool)→(Nat→Nat)→(Nat→List Int→Option (List Int))→Bool) (zaa:(Sl Gate)) (iv2:Int) (pv2:Int) (qv2:Int) (zbW:Nat) (zbr:(Nat→Bool)) (zbl:(Nat→Nat)) (zbJ:(Nat→List Int→Option (List Int))):Bool:=zg7 P0 P1 zaa Fuel iv2 pv2 qv2 zbW zbr zbl zbJ
theorem zE4 (hX0:zrB K zaa X0 P0 S0) (hX1:zvp K zaa X1 P1 S1) (hs:zrH P0 P1 zaa iv2 pv2 qv2 zbW zbr zbl zbJ=true) (hk:K (e93 (zrG S0 S1 zaa iv2 pv2 qv2 zbW zbr zbl zbJ))):z93 K [1,1,1,0,1,0,0,1,0,0,1,1,0,0,1,0,0,1,0] [X0,X1] (zDb zaa iv2 pv2 qv2 zbW zbr zbl zbJ) :=
  zl (fun X=>z93 K [1,1,1,0,1,0,0,1,0,0,1,1,0,0,1,0,0,1,0,0] [X0,X1,X]) (by kernel_rfl) fun X2 hX =>
  (show ∀ k, zw4 K zaa X2 (zg7 P0 P1 zaa k) (zg6 S0 S1 zaa k) from zgs _ _ (ziV P0 P1 zaa) (ziU S0 S1 zaa) (zw4 K zaa X2)
 (by intro _ _ _ _ _ _ _ hs;exact absurd hs Bool.false_ne_true)
 (by intro P2 S2 hX2 iv2 pv2 qv2 zbW zbr zbl zbJ hs hk;exact hX _ (zaH (by kernel_rfl) (zaE hs fun hc hs=>And.intro hc (zc hs hk (fun hs hk=>(zc hs hk (fun hs hk=>(zaE hs fun hc hs=>And.intro hc (zaE hs fun hc hs=>And.intro hc (zaE hs fun hc hs=>And.intro hc (hX2 hs hk))))) (fun hs hk=>(zE3 hX0 hX1 hX2 hs hk)))) (fun hs hk=>(hX1 hs hk))))))) _ hs hk
def ziW (S0:Int→Nat→(Nat→Bool)→(Nat→Nat)→(Nat→List Int→Option (List Int))→(Sl Mp)) (zaa:(Sl Gate)) (S1:Int→Int→Nat→(Nat→Bool)→(Nat→Nat)→(Nat→List Int→Option (List Int))→(Sl Mp)) (iv1:Int) (pv1:Int) (zcm:Nat) (zbP:(Nat→Bool)) (zbQ:(Nat→Nat)) (zcn:(Nat→List Int→Option (List Int))):(Sl Mp) :=
  (cond (decide (pv1 ≤ (zaa.get iv1.toNat).High))
 (zrG S0 S1 zaa iv1 pv1 ((zaa.get ((w64 (iv1+(1:Int))).toNat)).Low) zcm zbP zbQ zcn)
 (S0 (w64 (iv1 - (1:Int))) zcm zbP zbQ zcn))
def ziX (P0:Int→Nat→(Nat→Bool)→(Nat→Nat)→(Nat→List Int→Option (List Int))→Bool) (zaa:(Sl Gate)) (P1:Int→Int→Nat→(Nat→Bool)→(Nat→Nat)→(Nat→List Int→Option (List Int))→Bool) (iv1:Int) (pv1:Int) (zcm:Nat) (zbP:(Nat→Bool)) (zbQ:(Nat→Nat)) (zcn:(Nat→List Int→Option (List Int))):Bool :=
  (decide ((0≤iv1∧iv1 < (zaa.len:Int))) &&
 (cond (decide (pv1 ≤ (zaa.get iv1.toNat).High))
 (decide ((0≤(w64 (iv1+(1:Int)))∧(w64 (iv1+(1:Int))) < (zaa.len:Int))) &&
 (zrH P0 P1 zaa iv1 pv1 ((zaa.get ((w64 (iv1+(1:Int))).toNat)).Low) zcm zbP zbQ zcn))
 (P0 (w64 (iv1 - (1:Int))) zcm zbP zbQ zcn)))
def zg8 (S0:Int→Nat→(Nat→Bool)→(Nat→Nat)→(Nat→List Int→Option (List Int))→(Sl Mp)) (zaa:(Sl Gate)):Nat→Int→Int→Nat→(Nat→Bool)→(Nat→Nat)→(Nat→List Int→Option (List Int))→(Sl Mp):=lpO (fun _ _ _ _ _ _=>default) (ziW S0 zaa)
def zg9 (P0:Int→Nat→(Nat→Bool)→(Nat→Nat)→(Nat→List Int→Option (List Int))→Bool) (zaa:(Sl Gate)):Nat→Int→Int→Nat→(Nat→Bool)→(Nat→Nat)→(Nat→List Int→Option (List Int))→Bool:=lpO (fun _ _ _ _ _ _=>false) (ziX P0 zaa)
def znB (S0:Int→Nat→(Nat→Bool)→(Nat→Nat)→(Nat→List Int→Option (List Int))→(Sl Mp)) (zaa:(Sl Gate)) (iv1:Int) (pv1:Int) (zcm:Nat) (zbP:(Nat→Bool)) (zbQ:(Nat→Nat)) (zcn:(Nat→List Int→Option (List Int))):(Sl Mp):=zg8 S0 zaa Fuel iv1 pv1 zcm zbP zbQ zcn
def znC (P0:Int→Nat→(Nat→Bool)→(Nat→Nat)→(Nat→List Int→Option (List Int))→Bool) (zaa:(Sl Gate)) (iv1:Int) (pv1:Int) (zcm:Nat) (zbP:(Nat→Bool)) (zbQ:(Nat→Nat)) (zcn:(Nat→List Int→Option (List Int))):Bool:=zg9 P0 zaa Fuel iv1 pv1 zcm zbP zbQ zcn
theorem zE5 (hX0:zrB K zaa X0 P0 S0) (hs:znC P0 zaa iv1 pv1 zcm zbP zbQ zcn=true) (hk:K (e93 (znB S0 zaa iv1 pv1 zcm zbP zbQ zcn))):z93 K [1,1,1,0,1,0,0,1,0,0,1,1,0] [X0] (zDa zaa iv1 pv1 zcm zbP zbQ zcn) :=
  zl (fun X=>z93 K [1,1,1,0,1,0,0,1,0,0,1,1,0,0] [X0,X]) (by kernel_rfl) fun X1 hX =>
  (show ∀ k, zvp K zaa X1 (zg9 P0 zaa k) (zg8 S0 zaa k) from zgs _ _ (ziX P0 zaa) (ziW S0 zaa) (zvp K zaa X1)
 (by intro _ _ _ _ _ _ hs;exact absurd hs Bool.false_ne_true)
 (by intro P1 S1 hX1 iv1 pv1 zcm zbP zbQ zcn hs hk;exact hX _ (zaH (by kernel_rfl) (zaE hs fun hc hs=>And.intro hc (zc hs hk (fun hs hk=>(zaE hs fun hc hs=>And.intro hc (zE4 hX0 hX1 hs hk))) (fun hs hk=>(hX0 hs hk))))))) _ hs hk
def ziY (zaa:(Sl Gate)) (S0:Int→Nat→(Nat→Bool)→(Nat→Nat)→(Nat→List Int→Option (List Int))→(Sl Mp)) (iv0:Int) (zb9:Nat) (zbY:(Nat→Bool)) (zbZ:(Nat→Nat)) (zcy:(Nat→List Int→Option (List Int))):(Sl Mp) :=
  (cond (decide (iv0 ≥ (0:Int)))
 (znB S0 zaa iv0 ((zaa.get iv0.toNat).Low) zb9 (zba iv0.toNat true zbY) (zba iv0.toNat 0 zbZ) (zba iv0.toNat (fun _=>none) zcy))
 (⟨zb9,(fun i=>(⟨zbZ i,zcy i⟩:Mp))⟩:(Sl Mp)))
def ziZ (zaa:(Sl Gate)) (P0:Int→Nat→(Nat→Bool)→(Nat→Nat)→(Nat→List Int→Option (List Int))→Bool) (iv0:Int) (zb9:Nat) (zbY:(Nat→Bool)) (zbZ:(Nat→Nat)) (zcy:(Nat→List Int→Option (List Int))):Bool :=
  (cond (decide (iv0 ≥ (0:Int)))
 (decide ((0≤iv0∧iv0 < (zb9:Int))) &&
 (decide ((iv0.toNat < zb9∧zbY iv0.toNat=false)) &&
 (decide ((0≤iv0∧iv0 < (zaa.len:Int))) &&
 (znC P0 zaa iv0 ((zaa.get iv0.toNat).Low) zb9 (zba iv0.toNat true zbY) (zba iv0.toNat 0 zbZ) (zba iv0.toNat (fun _=>none) zcy)))))
 true)
def zel (zaa:(Sl Gate)):Nat→Int→Nat→(Nat→Bool)→(Nat→Nat)→(Nat→List Int→Option (List Int))→(Sl Mp):=lpO (fun _ _ _ _ _=>default) (ziY zaa)
def zfi (zaa:(Sl Gate)):Nat→Int→Nat→(Nat→Bool)→(Nat→Nat)→(Nat→List Int→Option (List Int))→Bool:=lpO (fun _ _ _ _ _=>false) (ziZ zaa)
def zrI (zaa:(Sl Gate)) (iv0:Int) (zb9:Nat) (zbY:(Nat→Bool)) (zbZ:(Nat→Nat)) (zcy:(Nat→List Int→Option (List Int))):(Sl Mp):=zel zaa Fuel iv0 zb9 zbY zbZ zcy
def zrJ (zaa:(Sl Gate)) (iv0:Int) (zb9:Nat) (zbY:(Nat→Bool)) (zbZ:(Nat→Nat)) (zcy:(Nat→List Int→Option (List Int))):Bool:=zfi zaa Fuel iv0 zb9 zbY zbZ zcy
theorem zE6 (hs:zrJ zaa iv0 zb9 zbY zbZ zcy=true) (hk:K (e93 (zrI zaa iv0 zb9 zbY zbZ zcy))):z93 K [1,1,1,0,1,0] [] (zC9 zaa iv0 zb9 zbY zbZ zcy) :=
  zl (fun X=>z93 K [1,1,1,0,1,0,0] [X]) (by kernel_rfl) fun X0 hX =>
  (show ∀ k, zrB K zaa X0 (zfi zaa k) (zel zaa k) from zgs _ _ (ziZ zaa) (ziY zaa) (zrB K zaa X0)
 (by intro _ _ _ _ _ hs;exact absurd hs Bool.false_ne_true)
 (by intro P0 S0 hX0 iv0 zb9 zbY zbZ zcy hs hk;exact hX _ (zaH (by kernel_rfl) (zc hs hk (fun hs hk=>(zaE hs fun hc hs=>And.intro hc (zaE hs fun hc hs=>And.intro hc (zaE hs fun hc hs=>And.intro hc (zE5 hX0 hs hk))))) (fun hs hk=>hk))))) _ hs hk
def s93 (zaa:(Sl Gate)):(Sl Mp) :=
  (zrI zaa (w64 ((zaa.len:Int) - (2:Int))) ((w64 ((zaa.len:Int) - (1:Int))).toNat) (fun _=>false) (fun _=>0) (fun _ _=>none))
def p93 (zaa:(Sl Gate)):Bool :=
  (decide ((0≤(w64 ((zaa.len:Int) - (1:Int)))∧(w64 ((zaa.len:Int) - (1:Int)))=(w64 ((zaa.len:Int) - (1:Int)))∧(w64 ((zaa.len:Int) - (1:Int)))≤1000000)) &&
 (zrJ zaa (w64 ((zaa.len:Int) - (2:Int))) ((w64 ((zaa.len:Int) - (1:Int))).toNat) (fun _=>false) (fun _=>0) (fun _ _=>none)))
end
theorem q93 (zaa:(Sl Gate)) (K:List PA→Prop) (hs:p93 zaa=true) (hk:K (e93 (s93 zaa))):vcFun Try.prog G93 zEZ 93 [.one (.sl zaa.len 3 (fun i=>enc_55 (zaa.get i)))] K :=
  zaH (by kernel_rfl) (zaE hs fun hc hs=>And.intro hc (zE6 hs hk))
def zBT : List PA → COut
  | [.one (.sl a0_n a0_s a0_g)]=>.det (IsE enc_55 3 a0_s a0_g∧p93 (⟨a0_n,zaf a0_g⟩:(Sl Gate))=true) [.one (.sl ((s93 (⟨a0_n,zaf a0_g⟩:(Sl Gate))).len) 1 (fun i=>zbq ((s93 (⟨a0_n,zaf a0_g⟩:(Sl Gate))).get i)))]
  | _=>.no
theorem zJF:zak Try.prog 93:=⟨_,rfl,rfl,by kernel_rfl⟩
theorem zOo:Ok Try.prog 93 zBT:=zaU zMG zJF fun args K h=>by
  unfold zBT at h
  split at h
  · rename_i a0_n a0_s a0_g
    obtain ⟨⟨⟨rfl,a0_f,rfl⟩,hs⟩,hk⟩:=h
    try rw [zae a0_f] at hs
    try rw [zae a0_f] at hk
    exact ⟨(fun _ _=>[]),(fun l=>Nat.beq l 15 || Nat.beq l 24),zEZ,q93 (⟨a0_n,a0_f⟩:(Sl Gate)) K hs hk⟩
  · exact h.elim
def zMH (a b:Int):List Int:=(List.range (b - a+1).toNat).map fun (i:Nat)=>a+i
def zfV (zaa:Sl Gate):List (List Int):=(zMH (zaa.get 0).Low (zaa.get 0).High).flatMap fun p=>(zMH (zaa.get 1).Low (zaa.get 1).High).map fun q=>[p,q]
abbrev T55:Tabs:=(((Tabs.nil.addF 85 zvn).addF 92 zBS).addF 93 zBT)
theorem zMI:TabsOk Try.prog T55:=(((TabsOk.nil.addF zL7).addF zOn).addF zOo)
abbrev G55:Ctrs:=csm T55 (fun _ _=>[]) (fun _=>false)
def zbb:Ann:=⟨145,[(0,⟨[0],[],[],[],[],[],[]⟩),(1,⟨[0,18],[],[],[],[],[],[]⟩),(2,⟨[2,3,4],[],[],[],[],[],[]⟩),(3,⟨[0,5],[],[],[],[],[],[]⟩),(4,⟨[0,5,6],[],[],[],[],[],[]⟩),(5,⟨[0,5,6,24],[24],[],[],[],[],[]⟩),(6,⟨[0,5,6,24,26],[24],[],[],[],[],[]⟩),(7,⟨[0,5,6,8,24],[24],[],[],[],[],[]⟩),(8,⟨[0,5,6,8,24,35],[24],[],[],[],[],[]⟩),(9,⟨[0,5,6,24],[24],[],[],[],[],[]⟩),(10,⟨[0,5,6,9],[],[],[],[],[],[]⟩),(11,⟨[0,5,6,9,10],[],[],[],[],[],[]⟩),(12,⟨[0,5,6,9,10,46],[],[],[],[],[],[]⟩),(13,⟨[0,5,6,9,10],[],[],[],[],[],[]⟩),(14,⟨[0,5,6,9,10,11],[],[],[],[],[],[]⟩),(15,⟨[0,5,6,9,10,11,58],[],[],[],[],[],[]⟩),(16,⟨[0,5,6,9,10,11],[],[],[],[],[],[]⟩),(17,⟨[0,5,6,9,10,11,69],[],[],[],[],[],[]⟩),(18,⟨[0,5,6,9],[72],[],[],[],[],[]⟩),(19,⟨[0,5,6,9,12],[72],[],[],[],[],[]⟩),(20,⟨[0,5,6,9,12,76],[72],[],[],[],[],[]⟩),(21,⟨[0,5,6,9,12],[72],[],[],[],[],[]⟩),(22,⟨[0,5,6,9,12,13,14],[72],[],[],[],[],[]⟩),(23,⟨[0,5,6,9,12,13,14,15],[72],[],[],[],[],[]⟩),(24,⟨[0,5,6,9,12,13,14,15,100],[72],[],[],[],[],[]⟩),(25,⟨[0,5,6,9,12,13,14,15],[72],[],[],[],[],[]⟩),(26,⟨[0,5,6,9,12,13,14,15,138],[72],[],[],[],[],[]⟩),(27,⟨[0,5,6,9,12],[72],[],[],[],[],[]⟩),(28,⟨[2,3,4],[72],[],[],[],[],[]⟩)],
 [(6,⟨[0,5,6,24],[24],[],[],[],[],[]⟩),(12,⟨[0,5,6,9,10],[],[],[],[],[],[]⟩),(15,⟨[0,5,6,9,10,11],[],[],[],[],[],[]⟩),(20,⟨[0,5,6,9,12],[72],[],[],[],[],[]⟩),(24,⟨[0,5,6,9,12,13,14,15],[72],[],[],[],[],[]⟩)],
 [(2,⟨[0,18],[],[],[],[],[],[]⟩),(3,⟨[0],[],[],[],[],[],[]⟩),(4,⟨[0,5],[],[],[],[],[],[]⟩),(10,⟨[0,5,6],[],[],[],[],[],[]⟩),(19,⟨[0,5,6,9],[72],[(9,72,3,fun _=>enc_3 default)],[],[],[],[]⟩),(27,⟨[0,5,6,9,12,13,14,15,138],[72],[],[],[],[],[]⟩)],
 [],[]⟩
def zJG (zaa:(Sl Gate)) (zha:Bool):St:=⟨[(0,.one (.c (.p (.sl zaa.len 3 (fun i=>enc_55 (zaa.get i)))))),(18,.one (.c (.p (.bool zha))))],[],[]⟩
def znD (K:List PA→Prop) (zaa:(Sl Gate)) (zha:Bool):Prop:=vc Try.prog G55 zbb (cdF Try.f55 [1,0,0,1]) (sqK Try.prog G55 zbb (cdF Try.f55 [1,0,1]) (zcP (zbC Try.prog Try.f55 K))) (zJG zaa zha)
def zJH (zaa:(Sl Gate)):St:=⟨[(0,.one (.c (.p (.sl zaa.len 3 (fun i=>enc_55 (zaa.get i))))))],[],[]⟩
def znE (K:List PA→Prop) (zaa:(Sl Gate)):Prop:=vc Try.prog G55 zbb (cdF Try.f55 [1,0,1]) (zcP (zbC Try.prog Try.f55 K)) (zJH zaa)
def zJI (zaa:(Sl Gate)) (zem:Nat) (zco:Nat→List PV):St:=⟨[(0,.one (.c (.p (.sl zaa.len 3 (fun i=>enc_55 (zaa.get i)))))),(5,.one (.c (.p (.sl zem 1 zco))))],[],[]⟩
def znF (K:List PA→Prop) (zaa:(Sl Gate)) (zem:Nat) (zco:Nat→List PV):Prop:=vc Try.prog G55 zbb (cdF Try.f55 [1,0,1,1]) (zcP (zbC Try.prog Try.f55 K)) (zJI zaa zem zco)
def zh4 (zaa:(Sl Gate)) (zab:(Sl Mp)) (zaZ:(List (List Int))) (zaK:Int):St:=⟨[(0,.one (.c (.p (.sl zaa.len 3 (fun i=>enc_55 (zaa.get i)))))),(5,.one (.c (.p (.sl zab.len 1 (fun i=>zbq (zab.get i)))))),(6,.one (.c (.p (.int .i64 zaK)))),(24,.one (.c (.ptr 24 0)))],[(24,.mit (true,2,false,[some .i64]) ((zab.get 0).n) ((zab.get 0).F) zaZ)],[]⟩
def zk8 (K:List PA→Prop) (zaa:(Sl Gate)) (zab:(Sl Mp)) (zaZ:(List (List Int))) (zaK:Int):Prop:=vc Try.prog G55 zbb (cdF Try.f55 [1,0,1,1,1,0,1,0]) (zay 0 (sqK Try.prog G55 zbb (cdF Try.f55 [1,0,1,1,1,1]) (zcP (zbC Try.prog Try.f55 K)))) (zh4 zaa zab zaZ zaK)
def zJJ (zaa:(Sl Gate)) (zab:(Sl Mp)) (zdX:Int):St:=⟨[(0,.one (.c (.p (.sl zaa.len 3 (fun i=>enc_55 (zaa.get i)))))),(5,.one (.c (.p (.sl zab.len 1 (fun i=>zbq (zab.get i)))))),(6,.one (.c (.p (.int .i64 zdX))))],[],[]⟩
def znG (K:List PA→Prop) (zaa:(Sl Gate)) (zab:(Sl Mp)) (zdX:Int):Prop:=vc Try.prog G55 zbb (cdF Try.f55 [1,0,1,1,1,1]) (zcP (zbC Try.prog Try.f55 K)) (zJJ zaa zab zdX)
def zjI (zaa:(Sl Gate)) (zab:(Sl Mp)) (zaG:Int) (pv5:Int):St:=⟨[(0,.one (.c (.p (.sl zaa.len 3 (fun i=>enc_55 (zaa.get i)))))),(5,.one (.c (.p (.sl zab.len 1 (fun i=>zbq (zab.get i)))))),(6,.one (.c (.p (.int .i64 zaG)))),(9,.one (.c (.p (.nils)))),(10,.one (.c (.p (.int .i64 pv5))))],[],[]⟩
def zk9 (K:List PA→Prop) (zaa:(Sl Gate)) (zab:(Sl Mp)) (zaG:Int) (pv5:Int):Prop:=vc Try.prog G55 zbb (cdF Try.f55 [1,0,1,1,1,1,1,1,0,1,0]) (zay 2 (sqK Try.prog G55 zbb (cdF Try.f55 [1,0,1,1,1,1,1,1,1]) (zcP (zbC Try.prog Try.f55 K)))) (zjI zaa zab zaG pv5)
def zla (zaa:(Sl Gate)) (zab:(Sl Mp)) (zaV:Int) (pv6:Int) (qv6:Int):St:=⟨[(0,.one (.c (.p (.sl zaa.len 3 (fun i=>enc_55 (zaa.get i)))))),(5,.one (.c (.p (.sl zab.len 1 (fun i=>zbq (zab.get i)))))),(6,.one (.c (.p (.int .i64 zaV)))),(9,.one (.c (.p (.nils)))),(10,.one (.c (.p (.int .i64 pv6)))),(11,.one (.c (.p (.int .i64 qv6))))],[],[]⟩
def zlb (K:List PA→Prop) (X5:St→Prop) (zaa:(Sl Gate)) (zab:(Sl Mp)) (zaV:Int) (pv6:Int) (qv6:Int):Prop:=vc Try.prog G55 zbb (cdF Try.f55 [1,0,1,1,1,1,1,1,0,1,0,0,1,0,0,1,0]) (zay 4 (zay 3 (sqK Try.prog G55 zbb (cdF Try.f55 [1,0,1,1,1,1,1,1,0,1,0,0,1,1]) (zb4 Try.prog zbb 12 X5 (zay 2 (sqK Try.prog G55 zbb (cdF Try.f55 [1,0,1,1,1,1,1,1,1]) (zcP (zbC Try.prog Try.f55 K)))))))) (zla zaa zab zaV pv6 qv6)
def zJK (zaa:(Sl Gate)) (zab:(Sl Mp)) (zdY:Int) (zrK:Nat) (zi0:Nat→List PV):St:=⟨[(0,.one (.c (.p (.sl zaa.len 3 (fun i=>enc_55 (zaa.get i)))))),(5,.one (.c (.p (.sl zab.len 1 (fun i=>zbq (zab.get i)))))),(6,.one (.c (.p (.int .i64 zdY)))),(9,.one (.c (.vec 72)))],[(72,.vec 3 1 8 zrK zi0)],[]⟩
def zlc (K:List PA→Prop) (zaa:(Sl Gate)) (zab:(Sl Mp)) (zdY:Int) (zrK:Nat) (zi0:Nat→List PV):Prop:=vc Try.prog G55 zbb (cdF Try.f55 [1,0,1,1,1,1,1,1,1]) (zcP (zbC Try.prog Try.f55 K)) (zJK zaa zab zdY zrK zi0)
def zgL (zaa:(Sl Gate)) (zab:(Sl Mp)) (zaY:Int) (iv8:Int) (zfW:Nat) (zb0:Nat→List PV):St:=⟨[(0,.one (.c (.p (.sl zaa.len 3 (fun i=>enc_55 (zaa.get i)))))),(5,.one (.c (.p (.sl zab.len 1 (fun i=>zbq (zab.get i)))))),(6,.one (.c (.p (.int .i64 zaY)))),(9,.one (.c (.vec 72))),(12,.one (.c (.p (.int .i64 iv8))))],[(72,.vec 3 1 8 zfW zb0)],[]⟩
def zld (K:List PA→Prop) (zaa:(Sl Gate)) (zab:(Sl Mp)) (zaY:Int) (iv8:Int) (zfW:Nat) (zb0:Nat→List PV):Prop:=vc Try.prog G55 zbb (cdF Try.f55 [1,0,1,1,1,1,1,1,1,0,1,0]) (zay 6 (sqK Try.prog G55 zbb (cdF Try.f55 [1,0,1,1,1,1,1,1,1,1]) (zcP (zbC Try.prog Try.f55 K)))) (zgL zaa zab zaY iv8 zfW zb0)
def zjJ (zaa:(Sl Gate)) (zab:(Sl Mp)) (zaI:Int) (iv9:Int) (pv9:Int) (qv9:Int) (rv9:Int) (zfX:Nat) (zca:Nat→List PV):St:=⟨[(0,.one (.c (.p (.sl zaa.len 3 (fun i=>enc_55 (zaa.get i)))))),(5,.one (.c (.p (.sl zab.len 1 (fun i=>zbq (zab.get i)))))),(6,.one (.c (.p (.int .i64 zaI)))),(9,.one (.c (.vec 72))),(12,.one (.c (.p (.int .i64 iv9)))),(13,.one (.c (.p (.int .i64 pv9)))),(14,.one (.c (.p (.int .i64 qv9)))),(15,.one (.c (.p (.int .i64 rv9))))],[(72,.vec 3 1 8 zfX zca)],[]⟩
def zle (K:List PA→Prop) (X8:St→Prop) (zaa:(Sl Gate)) (zab:(Sl Mp)) (zaI:Int) (iv9:Int) (pv9:Int) (qv9:Int) (rv9:Int) (zfX:Nat) (zca:Nat→List PV):Prop:=vc Try.prog G55 zbb (cdF Try.f55 [1,0,1,1,1,1,1,1,1,0,1,0,0,1,0,0,1,1,0]) (zay 8 (zay 7 (sqK Try.prog G55 zbb (cdF Try.f55 [1,0,1,1,1,1,1,1,1,0,1,0,0,1,1]) (zb4 Try.prog zbb 20 X8 (zay 6 (sqK Try.prog G55 zbb (cdF Try.f55 [1,0,1,1,1,1,1,1,1,1]) (zcP (zbC Try.prog Try.f55 K)))))))) (zjJ zaa zab zaI iv9 pv9 qv9 rv9 zfX zca)
def zE7 (zaa:(Sl Gate)) (zab:(Sl Mp)) (zcp:Int) (zdL:Int) (zqH:Int) (zqI:Int) (zl5:Int) (zda:Bool) (znH:Nat) (zgt:Nat→List PV):St:=⟨[(0,.one (.c (.p (.sl zaa.len 3 (fun i=>enc_55 (zaa.get i)))))),(5,.one (.c (.p (.sl zab.len 1 (fun i=>zbq (zab.get i)))))),(6,.one (.c (.p (.int .i64 zcp)))),(9,.one (.c (.vec 72))),(12,.one (.c (.p (.int .i64 zdL)))),(13,.one (.c (.p (.int .i64 zqH)))),(14,.one (.c (.p (.int .i64 zqI)))),(15,.one (.c (.p (.int .i64 zl5)))),(138,.one (.c (.p (.bool zda))))],[(72,.vec 3 1 8 znH zgt)],[]⟩
def zh5 (K:List PA→Prop) (X8:St→Prop) (X9:St→Prop) (zaa:(Sl Gate)) (zab:(Sl Mp)) (zcp:Int) (zdL:Int) (zqH:Int) (zqI:Int) (zl5:Int) (zda:Bool) (znH:Nat) (zgt:Nat→List PV):Prop:=vc Try.prog G55 zbb (cdF Try.f55 [1,0,1,1,1,1,1,1,1,0,1,0,0,1,0,0,1,1,0,0,1,0,0,1]) (zay 9 (sqK Try.prog G55 zbb (cdF Try.f55 [1,0,1,1,1,1,1,1,1,0,1,0,0,1,0,0,1,1,0,0,1,1]) (zb4 Try.prog zbb 24 X9 (zay 8 (zay 7 (sqK Try.prog G55 zbb (cdF Try.f55 [1,0,1,1,1,1,1,1,1,0,1,0,0,1,1]) (zb4 Try.prog zbb 20 X8 (zay 6 (sqK Try.prog G55 zbb (cdF Try.f55 [1,0,1,1,1,1,1,1,1,1]) (zcP (zbC Try.prog Try.f55 K))))))))))) (zE7 zaa zab zcp zdL zqH zqI zl5 zda znH zgt)
theorem zE8 (zaa : (Sl Gate)) (K : List PA → Prop) :
  vcFun Try.prog G55 zbb 55 [.one (.sl zaa.len 3 (fun i=>enc_55 (zaa.get i)))] K =
  ((IsE enc_55 3 3 (fun i=>enc_55 (zaa.get i))∧(p92 zaa=true)) ∧
 (znD K zaa (!(s92 zaa)))):=by kernel_rfl
theorem zE9 (K : List PA → Prop) (zaa : (Sl Gate)) (zha : Bool) :
  znD K zaa zha =
  (zcM zha
 (K [.one (.nils),.one (.int .i64 (0:Int)),.one (.int .i64 (2:Int))])
 (znE K zaa)):=by kernel_rfl
theorem zFa (K : List PA → Prop) (zaa : (Sl Gate)) :
  znE K zaa =
  ((IsE enc_55 3 3 (fun i=>enc_55 (zaa.get i))∧(p93 zaa=true)) ∧
 (znF K zaa ((s93 zaa).len) (fun i=>zbq ((s93 zaa).get i)))):=by kernel_rfl
theorem zFb (K : List PA → Prop) (zaa : (Sl Gate)) (zab : (Sl Mp)) :
  znF K zaa zab.len (fun i=>zbq (zab.get i)) =
  (((0≤(0:Int)∧(0:Int) < (zab.len:Int))) ∧
 (zk8 K zaa zab ([]) (-1:Int))):=by kernel_rfl
def zpN (K:List PA→Prop) (X3:St→Prop) (zaa:(Sl Gate)) (zab:(Sl Mp)) (zaZ:(List (List Int))) (zaK:Int):Prop :=
  (zA9 2 ((zab.get 0).n) ((zab.get 0).F) →
 ((∀ c:List Int,c.length=2→((zab.get 0).F) c ≠ none→c∈zaZ) →
 (znG K zaa zab zaK))∧∀ k24_0 k24_1:Int,((zab.get 0).F) [k24_0,k24_1] ≠ none→[k24_0,k24_1] ∉ zaZ →
 (zcM (decide (zaK < (0:Int)))
 (X3 (zh4 zaa zab ([k24_0,k24_1] :: zaZ) (zdg (((zab.get 0).F) [k24_0,k24_1]) 0)))
 (zcM (decide ((zdg (((zab.get 0).F) [k24_0, k24_1]) 0) < zaK))
 (X3 (zh4 zaa zab ([k24_0,k24_1] :: zaZ) (zdg (((zab.get 0).F) [k24_0,k24_1]) 0)))
 (X3 (zh4 zaa zab ([k24_0,k24_1] :: zaZ) zaK)))))
theorem zrL (K : List PA → Prop) (X3 : St → Prop) (zaa : (Sl Gate)) (zab : (Sl Mp)) (zaZ : (List (List Int))) (zaK : Int) :
  vc Try.prog G55 zbb (cd (cdF Try.f55 [1,0,1,1,1,0,1,0]) [0]) (zb4 Try.prog zbb 6 X3 (zay 0 (sqK Try.prog G55 zbb (cdF Try.f55 [1,0,1,1,1,1]) (zcP (zbC Try.prog Try.f55 K))))) (zh4 zaa zab zaZ zaK) =
  zpN K X3 zaa zab zaZ zaK:=by kernel_rfl
theorem zw5 (K : List PA → Prop) (zaa : (Sl Gate)) (zab : (Sl Mp)) (zaZ : (List (List Int))) (zaK : Int)
  (h:∀ X3:St→Prop,(∀ (zaZ:(List (List Int))) (zaK:Int),zpN K X3 zaa zab zaZ zaK→X3 (zh4 zaa zab zaZ zaK))→X3 (zh4 zaa zab zaZ zaK)) :
  zk8 K zaa zab zaZ zaK:=by
  have e:zk8 K zaa zab zaZ zaK=(∀ X:St→Prop,(∀ s,vc Try.prog G55 zbb (cd (cdF Try.f55 [1,0,1,1,1,0,1,0]) [0]) (zb4 Try.prog zbb 6 X (zay 0 (sqK Try.prog G55 zbb (cdF Try.f55 [1,0,1,1,1,1]) (zcP (zbC Try.prog Try.f55 K))))) s→X s)→X (zh4 zaa zab zaZ zaK)):=by kernel_rfl
  refine zaH e ?_
  intro X hX
  refine h X ?_
  intro zaZ zaK hs
  refine hX _ ?_
  have e2:=zrL K X zaa zab zaZ zaK
  rw [e2]
  exact hs
theorem zFc (K : List PA → Prop) (zaa : (Sl Gate)) (zab : (Sl Mp)) (zdX : Int) :
  znG K zaa zab zdX =
  (((0≤(0:Int)∧(0:Int) < (zaa.len:Int))) ∧
 (zk9 K zaa zab zdX ((zaa.get 0).Low))):=by kernel_rfl
def zpO (K:List PA→Prop) (X5:St→Prop) (zaa:(Sl Gate)) (zab:(Sl Mp)) (zaG:Int) (pv5:Int):Prop :=
  (((0≤(0:Int)∧(0:Int) < (zaa.len:Int))) ∧
 (zcM (decide (pv5 ≤ (zaa.get 0).High))
 (((0≤(1:Int)∧(1:Int) < (zaa.len:Int))) ∧
 (zlb K X5 zaa zab zaG pv5 ((zaa.get 1).Low)))
 (zlc K zaa zab zaG 0 (fun i=>enc_3 ((fun _=>default) i)))))
theorem zrM (K : List PA → Prop) (X5 : St → Prop) (zaa : (Sl Gate)) (zab : (Sl Mp)) (zaG : Int) (pv5 : Int) :
  vc Try.prog G55 zbb (cd (cdF Try.f55 [1,0,1,1,1,1,1,1,0,1,0]) [0]) (zb4 Try.prog zbb 12 X5 (zay 2 (sqK Try.prog G55 zbb (cdF Try.f55 [1,0,1,1,1,1,1,1,1]) (zcP (zbC Try.prog Try.f55 K))))) (zjI zaa zab zaG pv5) =
  zpO K X5 zaa zab zaG pv5:=by kernel_rfl
theorem zw6 (K : List PA → Prop) (zaa : (Sl Gate)) (zab : (Sl Mp)) (zaG : Int) (pv5 : Int)
  (h:∀ X5:St→Prop,(∀ (zaG:Int) (pv5:Int),zpO K X5 zaa zab zaG pv5→X5 (zjI zaa zab zaG pv5))→X5 (zjI zaa zab zaG pv5)) :
  zk9 K zaa zab zaG pv5:=by
  have e:zk9 K zaa zab zaG pv5=(∀ X:St→Prop,(∀ s,vc Try.prog G55 zbb (cd (cdF Try.f55 [1,0,1,1,1,1,1,1,0,1,0]) [0]) (zb4 Try.prog zbb 12 X (zay 2 (sqK Try.prog G55 zbb (cdF Try.f55 [1,0,1,1,1,1,1,1,1]) (zcP (zbC Try.prog Try.f55 K))))) s→X s)→X (zjI zaa zab zaG pv5)):=by kernel_rfl
  refine zaH e ?_
  intro X hX
  refine h X ?_
  intro zaG pv5 hs
  refine hX _ ?_
  have e2:=zrM K X zaa zab zaG pv5
  rw [e2]
  exact hs
def zpP (K:List PA→Prop) (X5:St→Prop) (X6:St→Prop) (zaa:(Sl Gate)) (zab:(Sl Mp)) (zaV:Int) (pv6:Int) (qv6:Int):Prop :=
  (((0≤(1:Int)∧(1:Int) < (zaa.len:Int))) ∧
 (zcM (decide (qv6 ≤ (zaa.get 1).High))
 (((0≤(0:Int)∧(0:Int) < (zab.len:Int))) ∧
 (zcM ((zdg (((zab.get 0).F) [pv6, qv6]) 0) == zaV)
 (zlc K zaa zab zaV 2 (zd2 [(enc_3 pv6),(enc_3 qv6)]))
 (X6 (zla zaa zab zaV pv6 (w64 (qv6+(1:Int)))))))
 (X5 (zjI zaa zab zaV (w64 (pv6+(1:Int)))))))
theorem zrN (K : List PA → Prop) (X5 : St → Prop) (X6 : St → Prop) (zaa : (Sl Gate)) (zab : (Sl Mp)) (zaV : Int) (pv6 : Int) (qv6 : Int) :
  vc Try.prog G55 zbb (cd (cdF Try.f55 [1,0,1,1,1,1,1,1,0,1,0,0,1,0,0,1,0]) [0]) (zb4 Try.prog zbb 15 X6 (zay 4 (zay 3 (sqK Try.prog G55 zbb (cdF Try.f55 [1,0,1,1,1,1,1,1,0,1,0,0,1,1]) (zb4 Try.prog zbb 12 X5 (zay 2 (sqK Try.prog G55 zbb (cdF Try.f55 [1,0,1,1,1,1,1,1,1]) (zcP (zbC Try.prog Try.f55 K))))))))) (zla zaa zab zaV pv6 qv6) =
  zpP K X5 X6 zaa zab zaV pv6 qv6:=by kernel_rfl
theorem zw7 (K : List PA → Prop) (X5 : St → Prop) (zaa : (Sl Gate)) (zab : (Sl Mp)) (zaV : Int) (pv6 : Int) (qv6 : Int)
  (h:∀ X6:St→Prop,(∀ (zaV:Int) (pv6:Int) (qv6:Int),zpP K X5 X6 zaa zab zaV pv6 qv6→X6 (zla zaa zab zaV pv6 qv6))→X6 (zla zaa zab zaV pv6 qv6)) :
  zlb K X5 zaa zab zaV pv6 qv6:=by
  have e:zlb K X5 zaa zab zaV pv6 qv6=(∀ X:St→Prop,(∀ s,vc Try.prog G55 zbb (cd (cdF Try.f55 [1,0,1,1,1,1,1,1,0,1,0,0,1,0,0,1,0]) [0]) (zb4 Try.prog zbb 15 X (zay 4 (zay 3 (sqK Try.prog G55 zbb (cdF Try.f55 [1,0,1,1,1,1,1,1,0,1,0,0,1,1]) (zb4 Try.prog zbb 12 X5 (zay 2 (sqK Try.prog G55 zbb (cdF Try.f55 [1,0,1,1,1,1,1,1,1]) (zcP (zbC Try.prog Try.f55 K))))))))) s→X s)→X (zla zaa zab zaV pv6 qv6)):=by kernel_rfl
  refine zaH e ?_
  intro X hX
  refine h X ?_
  intro zaV pv6 qv6 hs
  refine hX _ ?_
  have e2:=zrN K X5 X zaa zab zaV pv6 qv6
  rw [e2]
  exact hs
theorem zFd (K : List PA → Prop) (zaa : (Sl Gate)) (zab : (Sl Mp)) (zdY : Int) (zgE : (Sl Int)) :
  zlc K zaa zab zdY zgE.len (fun i=>enc_3 (zgE.get i)) =
  (zld K zaa zab zdY (2:Int) zgE.len (fun i=>enc_3 (zgE.get i))):=by kernel_rfl
def zpQ (K:List PA→Prop) (X8:St→Prop) (zaa:(Sl Gate)) (zab:(Sl Mp)) (zaY:Int) (iv8:Int) (za9:(Sl Int)):Prop :=
  (zcM (decide (iv8 < (zaa.len : Int)))
 (((0≤(w64 (iv8 - (2:Int)))∧(w64 (iv8 - (2:Int))) < (za9.len:Int))) ∧
 ((((w64 (iv8 - (2:Int))).toNat < za9.len)) ∧
 (((0≤(w64 (iv8 - (1:Int)))∧(w64 (iv8 - (1:Int))) < (za9.len:Int))) ∧
 ((((w64 (iv8 - (1:Int))).toNat < za9.len)) ∧
 (((0≤iv8∧iv8 < (zaa.len:Int))) ∧
 (zle K X8 zaa zab zaY iv8 (za9.get ((w64 (iv8 - (2:Int))).toNat)) (za9.get ((w64 (iv8 - (1:Int))).toNat)) ((zaa.get iv8.toNat).Low) za9.len (fun i=>enc_3 (za9.get i))))))))
 (K [.one (.sl za9.len 1 (fun i=>enc_3 (za9.get i))),.one (.int .i64 zaY),.one (.int .i64 (0:Int))]))
theorem zrO (K : List PA → Prop) (X8 : St → Prop) (zaa : (Sl Gate)) (zab : (Sl Mp)) (zaY : Int) (iv8 : Int) (za9 : (Sl Int)) :
  vc Try.prog G55 zbb (cd (cdF Try.f55 [1,0,1,1,1,1,1,1,1,0,1,0]) [0]) (zb4 Try.prog zbb 20 X8 (zay 6 (sqK Try.prog G55 zbb (cdF Try.f55 [1,0,1,1,1,1,1,1,1,1]) (zcP (zbC Try.prog Try.f55 K))))) (zgL zaa zab zaY iv8 za9.len (fun i=>enc_3 (za9.get i))) =
  zpQ K X8 zaa zab zaY iv8 za9:=by kernel_rfl
theorem zw8 (K : List PA → Prop) (zaa : (Sl Gate)) (zab : (Sl Mp)) (zaY : Int) (iv8 : Int) (zfW : Nat) (zb0 : Nat → List PV)
  (h:∀ X8:St→Prop,(∀ (zaY:Int) (iv8:Int) (za9:(Sl Int)),zpQ K X8 zaa zab zaY iv8 za9→X8 (zgL zaa zab zaY iv8 za9.len (fun i=>enc_3 (za9.get i))))→X8 (zgL zaa zab zaY iv8 zfW zb0)) :
  zld K zaa zab zaY iv8 zfW zb0:=by
  have e:zld K zaa zab zaY iv8 zfW zb0=(∀ X:St→Prop,(∀ s,vc Try.prog G55 zbb (cd (cdF Try.f55 [1,0,1,1,1,1,1,1,1,0,1,0]) [0]) (zb4 Try.prog zbb 20 X (zay 6 (sqK Try.prog G55 zbb (cdF Try.f55 [1,0,1,1,1,1,1,1,1,1]) (zcP (zbC Try.prog Try.f55 K))))) s→X s)→X (zgL zaa zab zaY iv8 zfW zb0)):=by kernel_rfl
  refine zaH e ?_
  intro X hX
  refine h X ?_
  intro zaY iv8 za9 hs
  refine hX _ ?_
  have e2:=zrO K X zaa zab zaY iv8 za9
  rw [e2]
  exact hs
def zpR (K:List PA→Prop) (X8:St→Prop) (X9:St→Prop) (zaa:(Sl Gate)) (zab:(Sl Mp)) (zaI:Int) (iv9:Int) (pv9:Int) (qv9:Int) (rv9:Int) (zbA:(Sl Int)):Prop :=
  (((0≤iv9∧iv9 < (zaa.len:Int))) ∧
 (zcM (decide (rv9 ≤ (zaa.get iv9.toNat).High))
 (((0≤(w64 (iv9 - (2:Int)))∧(w64 (iv9 - (2:Int))) < (zaa.len:Int))) ∧
 (((0≤(w64 (iv9 - (1:Int)))∧(w64 (iv9 - (1:Int))) < (zaa.len:Int))) ∧
 (((0≤iv9∧iv9 < (zaa.len:Int))) ∧
 (((p85 ((zaa.get ((w64 (iv9 - (2:Int))).toNat)).Z) ((zaa.get ((w64 (iv9 - (1:Int))).toNat)).Z) ((zaa.get iv9.toNat).Z) pv9 qv9 rv9=true)) ∧
 (zcM (decide ((s85 ((zaa.get ((w64 (iv9 - (2:Int))).toNat)).Z) ((zaa.get ((w64 (iv9 - (1:Int))).toNat)).Z) ((zaa.get iv9.toNat).Z) pv9 qv9 rv9) ≤ zaI))
 (((0≤(w64 (iv9 - (1:Int)))∧(w64 (iv9 - (1:Int))) < (zab.len:Int))) ∧
 (zh5 K X8 X9 zaa zab zaI iv9 pv9 qv9 rv9 (decide ((zdg (((zab.get ((w64 (iv9 - (1:Int))).toNat)).F) [qv9,rv9]) 0)≤zaI)) zbA.len (fun i=>enc_3 (zbA.get i))))
 (zh5 K X8 X9 zaa zab zaI iv9 pv9 qv9 rv9 false zbA.len (fun i=>enc_3 (zbA.get i))))))))
 (X8 (zgL zaa zab zaI (w64 (iv9+(1:Int))) zbA.len (fun i=>enc_3 (zbA.get i))))))
theorem zrP (K : List PA → Prop) (X8 : St → Prop) (X9 : St → Prop) (zaa : (Sl Gate)) (zab : (Sl Mp)) (zaI : Int) (iv9 : Int) (pv9 : Int) (qv9 : Int) (rv9 : Int) (zbA : (Sl Int)) :
  vc Try.prog G55 zbb (cd (cdF Try.f55 [1,0,1,1,1,1,1,1,1,0,1,0,0,1,0,0,1,1,0]) [0]) (zb4 Try.prog zbb 24 X9 (zay 8 (zay 7 (sqK Try.prog G55 zbb (cdF Try.f55 [1,0,1,1,1,1,1,1,1,0,1,0,0,1,1]) (zb4 Try.prog zbb 20 X8 (zay 6 (sqK Try.prog G55 zbb (cdF Try.f55 [1,0,1,1,1,1,1,1,1,1]) (zcP (zbC Try.prog Try.f55 K))))))))) (zjJ zaa zab zaI iv9 pv9 qv9 rv9 zbA.len (fun i=>enc_3 (zbA.get i))) =
  zpR K X8 X9 zaa zab zaI iv9 pv9 qv9 rv9 zbA:=by kernel_rfl
theorem zw9 (K : List PA → Prop) (X8 : St → Prop) (zaa : (Sl Gate)) (zab : (Sl Mp)) (zaI : Int) (iv9 : Int) (pv9 : Int) (qv9 : Int) (rv9 : Int) (zfX : Nat) (zca : Nat → List PV)
  (h:∀ X9:St→Prop,(∀ (zaI:Int) (iv9:Int) (pv9:Int) (qv9:Int) (rv9:Int) (zbA:(Sl Int)),zpR K X8 X9 zaa zab zaI iv9 pv9 qv9 rv9 zbA→X9 (zjJ zaa zab zaI iv9 pv9 qv9 rv9 zbA.len (fun i=>enc_3 (zbA.get i))))→X9 (zjJ zaa zab zaI iv9 pv9 qv9 rv9 zfX zca)) :
  zle K X8 zaa zab zaI iv9 pv9 qv9 rv9 zfX zca:=by
  have e:zle K X8 zaa zab zaI iv9 pv9 qv9 rv9 zfX zca=(∀ X:St→Prop,(∀ s,vc Try.prog G55 zbb (cd (cdF Try.f55 [1,0,1,1,1,1,1,1,1,0,1,0,0,1,0,0,1,1,0]) [0]) (zb4 Try.prog zbb 24 X (zay 8 (zay 7 (sqK Try.prog G55 zbb (cdF Try.f55 [1,0,1,1,1,1,1,1,1,0,1,0,0,1,1]) (zb4 Try.prog zbb 20 X8 (zay 6 (sqK Try.prog G55 zbb (cdF Try.f55 [1,0,1,1,1,1,1,1,1,1]) (zcP (zbC Try.prog Try.f55 K))))))))) s→X s)→X (zjJ zaa zab zaI iv9 pv9 qv9 rv9 zfX zca)):=by kernel_rfl
  refine zaH e ?_
  intro X hX
  refine h X ?_
  intro zaI iv9 pv9 qv9 rv9 zbA hs
  refine hX _ ?_
  have e2:=zrP K X8 X zaa zab zaI iv9 pv9 qv9 rv9 zbA
  rw [e2]
  exact hs
theorem zBU (K : List PA → Prop) (X8 : St → Prop) (X9 : St → Prop) (zaa : (Sl Gate)) (zab : (Sl Mp)) (zcp : Int) (zdL : Int) (zqH : Int) (zqI : Int) (zl5 : Int) (zda : Bool) (zbL : (Sl Int)) :
  zh5 K X8 X9 zaa zab zcp zdL zqH zqI zl5 zda zbL.len (fun i=>enc_3 (zbL.get i)) =
  (zcM zda
 ((((zbL.len+1) * 8≤140737488355328∧zbL.len+1≤9223372036854775807)) ∧
 (X8 (zgL zaa zab zcp (w64 (zdL+(1:Int))) (zbL.len+1) (appG zbL.len (fun i=>enc_3 (zbL.get i)) (fun _=>(enc_3 zl5))))))
 (X9 (zjJ zaa zab zcp zdL zqH zqI (w64 (zl5+(1:Int))) zbL.len (fun i=>enc_3 (zbL.get i))))):=by kernel_rfl
abbrev e55 (r:((Sl Int)×Int×Int)):List PA:=[.one (.sl r.1.len 1 (fun i=>enc_3 (r.1.get i))),.one (.int .i64 r.2.1),.one (.int .i64 r.2.2)]
attribute [irreducible] znD znE znF zk8 znG zk9 zlb zlc zld zle zh5
def zh6 (S8:Int→Int→(Sl Int)→((Sl Int)×Int×Int)) (S9:Int→Int→Int→Int→Int→(Sl Int)→((Sl Int)×Int×Int)) (zaa:(Sl Gate)) (zab:(Sl Mp)) (zcp:Int) (zdL:Int) (zqH:Int) (zqI:Int) (zl5:Int) (zda:Bool) (zbL:(Sl Int)):((Sl Int)×Int×Int) :=
  (cond zda
 (S8 zcp (w64 (zdL+(1:Int))) (⟨(zbL.len+1),(zeD zbL.len zbL.get (fun _=>zl5))⟩:Sl Int))
 (S9 zcp zdL zqH zqI (w64 (zl5+(1:Int))) zbL))
def zh7 (P8:Int→Int→(Sl Int)→Bool) (P9:Int→Int→Int→Int→Int→(Sl Int)→Bool) (zaa:(Sl Gate)) (zab:(Sl Mp)) (zcp:Int) (zdL:Int) (zqH:Int) (zqI:Int) (zl5:Int) (zda:Bool) (zbL:(Sl Int)):Bool :=
  (cond zda
 (decide (((zbL.len+1) * 8≤140737488355328∧zbL.len+1≤9223372036854775807)) &&
 (P8 zcp (w64 (zdL+(1:Int))) (⟨(zbL.len+1),(zeD zbL.len zbL.get (fun _=>zl5))⟩:Sl Int)))
 (P9 zcp zdL zqH zqI (w64 (zl5+(1:Int))) zbL))
theorem ztC (K : List PA → Prop) (zaa : (Sl Gate)) (zab : (Sl Mp))
  (X8:St→Prop) (P8:Int→Int→(Sl Int)→Bool) (S8:Int→Int→(Sl Int)→((Sl Int)×Int×Int))
  (hX8:∀ (zaY:Int) (iv8:Int) (za9:(Sl Int)) (zb0:Nat→List PV) (zhb:zb0=fun i=>enc_3 (za9.get i)),P8 zaY iv8 za9=true→K (e55 (S8 zaY iv8 za9))→X8 (zgL zaa zab zaY iv8 za9.len zb0))
  (X9:St→Prop) (P9:Int→Int→Int→Int→Int→(Sl Int)→Bool) (S9:Int→Int→Int→Int→Int→(Sl Int)→((Sl Int)×Int×Int))
  (hX9:∀ (zaI:Int) (iv9:Int) (pv9:Int) (qv9:Int) (rv9:Int) (zbA:(Sl Int)) (zca:Nat→List PV) (zi1:zca=fun i=>enc_3 (zbA.get i)),P9 zaI iv9 pv9 qv9 rv9 zbA=true→K (e55 (S9 zaI iv9 pv9 qv9 rv9 zbA))→X9 (zjJ zaa zab zaI iv9 pv9 qv9 rv9 zbA.len zca)) (zcp:Int) (zdL:Int) (zqH:Int) (zqI:Int) (zl5:Int) (zda:Bool) (zbL:(Sl Int)) (zgt:Nat→List PV) (zBV:zgt=fun i=>enc_3 (zbL.get i)) (hs:zh7 P8 P9 zaa zab zcp zdL zqH zqI zl5 zda zbL=true) (hk:K (e55 (zh6 S8 S9 zaa zab zcp zdL zqH zqI zl5 zda zbL))):zh5 (Wk K) X8 X9 zaa zab zcp zdL zqH zqI zl5 zda zbL.len zgt:=by
  subst zBV
  refine zaH (zBU (Wk K) X8 X9 zaa zab zcp zdL zqH zqI zl5 zda zbL) ?_
  unfold zh7 at hs
  unfold zh6 at hk
  exact (zbp (K := fun r => K (e55 r))
 (fun hs hk=>(zaE hs fun hc hs=>⟨hc,(hX8 zcp (w64 (zdL+(1:Int))) (⟨(zbL.len+1),(zeD zbL.len zbL.get (fun _=>zl5))⟩:Sl Int) (appG zbL.len (fun i=>enc_3 (zbL.get i)) (fun _=>(enc_3 zl5))) (zh2 (enc:=enc_3) (f:=zbL.get) (h:=(fun _=>zl5)) rfl rfl) hs hk)⟩))
 (fun hs hk=>(hX9 zcp zdL zqH zqI (w64 (zl5+(1:Int))) zbL (fun i=>enc_3 (zbL.get i)) rfl hs hk)) hs hk)
def zhc (S8:Int→Int→(Sl Int)→((Sl Int)×Int×Int)) (zaa:(Sl Gate)) (zab:(Sl Mp)) (S9:Int→Int→Int→Int→Int→(Sl Int)→((Sl Int)×Int×Int)) (zaI:Int) (iv9:Int) (pv9:Int) (qv9:Int) (rv9:Int) (zbA:(Sl Int)):((Sl Int)×Int×Int) :=
  (cond (decide (rv9 ≤ (zaa.get iv9.toNat).High))
 (cond (decide ((s85 ((zaa.get ((w64 (iv9 - (2:Int))).toNat)).Z) ((zaa.get ((w64 (iv9 - (1:Int))).toNat)).Z) ((zaa.get iv9.toNat).Z) pv9 qv9 rv9) ≤ zaI))
 (zh6 S8 S9 zaa zab zaI iv9 pv9 qv9 rv9 (decide ((zdg (((zab.get ((w64 (iv9 - (1:Int))).toNat)).F) [qv9,rv9]) 0)≤zaI)) zbA)
 (zh6 S8 S9 zaa zab zaI iv9 pv9 qv9 rv9 false zbA))
 (S8 zaI (w64 (iv9+(1:Int))) zbA))
def zhd (P8:Int→Int→(Sl Int)→Bool) (zaa:(Sl Gate)) (zab:(Sl Mp)) (P9:Int→Int→Int→Int→Int→(Sl Int)→Bool) (zaI:Int) (iv9:Int) (pv9:Int) (qv9:Int) (rv9:Int) (zbA:(Sl Int)):Bool :=
  (decide ((0≤iv9∧iv9 < (zaa.len:Int))) &&
 (cond (decide (rv9 ≤ (zaa.get iv9.toNat).High))
 (decide ((0≤(w64 (iv9 - (2:Int)))∧(w64 (iv9 - (2:Int))) < (zaa.len:Int))) &&
 (decide ((0≤(w64 (iv9 - (1:Int)))∧(w64 (iv9 - (1:Int))) < (zaa.len:Int))) &&
 (decide ((0≤iv9∧iv9 < (zaa.len:Int))) &&
 (decide ((p85 ((zaa.get ((w64 (iv9 - (2:Int))).toNat)).Z) ((zaa.get ((w64 (iv9 - (1:Int))).toNat)).Z) ((zaa.get iv9.toNat).Z) pv9 qv9 rv9=true)) &&
 (cond (decide ((s85 ((zaa.get ((w64 (iv9 - (2:Int))).toNat)).Z) ((zaa.get ((w64 (iv9 - (1:Int))).toNat)).Z) ((zaa.get iv9.toNat).Z) pv9 qv9 rv9) ≤ zaI))
 (decide ((0≤(w64 (iv9 - (1:Int)))∧(w64 (iv9 - (1:Int))) < (zab.len:Int))) &&
 (zh7 P8 P9 zaa zab zaI iv9 pv9 qv9 rv9 (decide ((zdg (((zab.get ((w64 (iv9 - (1:Int))).toNat)).F) [qv9,rv9]) 0)≤zaI)) zbA))
 (zh7 P8 P9 zaa zab zaI iv9 pv9 qv9 rv9 false zbA))))))
 (P8 zaI (w64 (iv9+(1:Int))) zbA)))
def zfY (S8 : Int → Int → (Sl Int) → ((Sl Int) × Int × Int)) (zaa : (Sl Gate)) (zab : (Sl Mp)) : Nat → Int → Int → Int → Int → Int → (Sl Int) → ((Sl Int) × Int × Int)
  | 0=>fun _ _ _ _ _ _=>default
  | k+1=>zhc S8 zaa zab (zfY S8 zaa zab k)
def zfZ (P8 : Int → Int → (Sl Int) → Bool) (zaa : (Sl Gate)) (zab : (Sl Mp)) : Nat → Int → Int → Int → Int → Int → (Sl Int) → Bool
  | 0=>fun _ _ _ _ _ _=>false
  | k+1=>zhd P8 zaa zab (zfZ P8 zaa zab k)
def zrQ (S8:Int→Int→(Sl Int)→((Sl Int)×Int×Int)) (zaa:(Sl Gate)) (zab:(Sl Mp)) (zaI:Int) (iv9:Int) (pv9:Int) (qv9:Int) (rv9:Int) (zbA:(Sl Int)):((Sl Int)×Int×Int):=zfY S8 zaa zab Fuel zaI iv9 pv9 qv9 rv9 zbA
def zrR (P8:Int→Int→(Sl Int)→Bool) (zaa:(Sl Gate)) (zab:(Sl Mp)) (zaI:Int) (iv9:Int) (pv9:Int) (qv9:Int) (rv9:Int) (zbA:(Sl Int)):Bool:=zfZ P8 zaa zab Fuel zaI iv9 pv9 qv9 rv9 zbA
theorem zFe (K : List PA → Prop) (zaa : (Sl Gate)) (zab : (Sl Mp))
  (X8:St→Prop) (P8:Int→Int→(Sl Int)→Bool) (S8:Int→Int→(Sl Int)→((Sl Int)×Int×Int))
  (hX8:∀ (zaY:Int) (iv8:Int) (za9:(Sl Int)) (zb0:Nat→List PV) (zhb:zb0=fun i=>enc_3 (za9.get i)),P8 zaY iv8 za9=true→K (e55 (S8 zaY iv8 za9))→X8 (zgL zaa zab zaY iv8 za9.len zb0)) (zaI:Int) (iv9:Int) (pv9:Int) (qv9:Int) (rv9:Int) (zbA:(Sl Int)) (zca:Nat→List PV) (zi1:zca=fun i=>enc_3 (zbA.get i)) (hs:zrR P8 zaa zab zaI iv9 pv9 qv9 rv9 zbA=true) (hk:K (e55 (zrQ S8 zaa zab zaI iv9 pv9 qv9 rv9 zbA))):zle (Wk K) X8 zaa zab zaI iv9 pv9 qv9 rv9 zbA.len zca:=by
  refine zw9 (Wk K) X8 zaa zab zaI iv9 pv9 qv9 rv9 zbA.len zca ?_
  intro X9 hstep
  have key:∀ (k:Nat) (zaI:Int) (iv9:Int) (pv9:Int) (qv9:Int) (rv9:Int) (zbA:(Sl Int)) (zca:Nat→List PV) (zi1:zca=fun i=>enc_3 (zbA.get i)),zfZ P8 zaa zab k zaI iv9 pv9 qv9 rv9 zbA=true→K (e55 (zfY S8 zaa zab k zaI iv9 pv9 qv9 rv9 zbA))→X9 (zjJ zaa zab zaI iv9 pv9 qv9 rv9 zbA.len zca):=by
    intro k
    induction k with
    | zero=>intro zaI iv9 pv9 qv9 rv9 zbA zca zi1 hs;exact absurd hs Bool.false_ne_true
    | succ k ih =>
      intro zaI iv9 pv9 qv9 rv9 zbA zca zi1 hs hk
      subst zi1
      refine hstep zaI iv9 pv9 qv9 rv9 zbA ?_
      have hs:zhd P8 zaa zab (zfZ P8 zaa zab k) zaI iv9 pv9 qv9 rv9 zbA=true:=hs
      have hk:K (e55 (zhc S8 zaa zab (zfY S8 zaa zab k) zaI iv9 pv9 qv9 rv9 zbA)):=hk
      unfold zhd at hs
      unfold zhc at hk
      generalize zfY S8 zaa zab k=S9 at hk ih
      generalize zfZ P8 zaa zab k=P9 at hs ih
      have hX9:=ih
      exact (zaE hs fun hc hs => ⟨hc, (zbp (K := fun r => K (e55 r))
 (fun hs hk => (zaE hs fun hc hs => ⟨hc, (zaE hs fun hc hs => ⟨hc, (zaE hs fun hc hs => ⟨hc, (zaE hs fun hc hs => ⟨hc, (zbp (K := fun r => K (e55 r))
 (fun hs hk=>(zaE hs fun hc hs=>⟨hc,(ztC K zaa zab X8 P8 S8 hX8 X9 P9 S9 hX9 zaI iv9 pv9 qv9 rv9 (decide ((zdg (((zab.get ((w64 (iv9 - (1:Int))).toNat)).F) [qv9,rv9]) 0)≤zaI)) zbA (fun i=>enc_3 (zbA.get i)) rfl hs hk)⟩))
 (fun hs hk=>(ztC K zaa zab X8 P8 S8 hX8 X9 P9 S9 hX9 zaI iv9 pv9 qv9 rv9 false zbA (fun i=>enc_3 (zbA.get i)) rfl hs hk)) hs hk)⟩)⟩)⟩)⟩))
 (fun hs hk=>(hX8 zaI (w64 (iv9+(1:Int))) zbA (fun i=>enc_3 (zbA.get i)) rfl hs hk)) hs hk)⟩)
  exact key _ zaI iv9 pv9 qv9 rv9 zbA zca zi1 hs hk
def zf0 (zaa:(Sl Gate)) (zab:(Sl Mp)) (S8:Int→Int→(Sl Int)→((Sl Int)×Int×Int)) (zaY:Int) (iv8:Int) (za9:(Sl Int)):((Sl Int)×Int×Int) :=
  (cond (decide (iv8 < (zaa.len : Int)))
 (zrQ S8 zaa zab zaY iv8 (za9.get ((w64 (iv8 - (2:Int))).toNat)) (za9.get ((w64 (iv8 - (1:Int))).toNat)) ((zaa.get iv8.toNat).Low) za9)
 (za9,zaY,(0:Int)))
def zf1 (zaa:(Sl Gate)) (zab:(Sl Mp)) (P8:Int→Int→(Sl Int)→Bool) (zaY:Int) (iv8:Int) (za9:(Sl Int)):Bool :=
  (cond (decide (iv8 < (zaa.len : Int)))
 (decide ((0≤(w64 (iv8 - (2:Int)))∧(w64 (iv8 - (2:Int))) < (za9.len:Int))) &&
 (decide (((w64 (iv8 - (2:Int))).toNat < za9.len)) &&
 (decide ((0≤(w64 (iv8 - (1:Int)))∧(w64 (iv8 - (1:Int))) < (za9.len:Int))) &&
 (decide (((w64 (iv8 - (1:Int))).toNat < za9.len)) &&
 (decide ((0≤iv8∧iv8 < (zaa.len:Int))) &&
 (zrR P8 zaa zab zaY iv8 (za9.get ((w64 (iv8 - (2:Int))).toNat)) (za9.get ((w64 (iv8 - (1:Int))).toNat)) ((zaa.get iv8.toNat).Low) za9))))))
 true)
def zen (zaa : (Sl Gate)) (zab : (Sl Mp)) : Nat → Int → Int → (Sl Int) → ((Sl Int) × Int × Int)
  | 0=>fun _ _ _=>default
  | k+1=>zf0 zaa zab (zen zaa zab k)
def zeo (zaa : (Sl Gate)) (zab : (Sl Mp)) : Nat → Int → Int → (Sl Int) → Bool
  | 0=>fun _ _ _=>false
  | k+1=>zf1 zaa zab (zeo zaa zab k)
def zxa (zaa:(Sl Gate)) (zab:(Sl Mp)) (zaY:Int) (iv8:Int) (za9:(Sl Int)):((Sl Int)×Int×Int):=zen zaa zab Fuel zaY iv8 za9
def zxb (zaa:(Sl Gate)) (zab:(Sl Mp)) (zaY:Int) (iv8:Int) (za9:(Sl Int)):Bool:=zeo zaa zab Fuel zaY iv8 za9
theorem zFf (K:List PA→Prop) (zaa:(Sl Gate)) (zab:(Sl Mp)) (zaY:Int) (iv8:Int) (za9:(Sl Int)) (zb0:Nat→List PV) (zhb:zb0=fun i=>enc_3 (za9.get i)) (hs:zxb zaa zab zaY iv8 za9=true) (hk:K (e55 (zxa zaa zab zaY iv8 za9))):zld (Wk K) zaa zab zaY iv8 za9.len zb0:=by
  refine zw8 (Wk K) zaa zab zaY iv8 za9.len zb0 ?_
  intro X8 hstep
  have key:∀ (k:Nat) (zaY:Int) (iv8:Int) (za9:(Sl Int)) (zb0:Nat→List PV) (zhb:zb0=fun i=>enc_3 (za9.get i)),zeo zaa zab k zaY iv8 za9=true→K (e55 (zen zaa zab k zaY iv8 za9))→X8 (zgL zaa zab zaY iv8 za9.len zb0):=by
    intro k
    induction k with
    | zero=>intro zaY iv8 za9 zb0 zhb hs;exact absurd hs Bool.false_ne_true
    | succ k ih =>
      intro zaY iv8 za9 zb0 zhb hs hk
      subst zhb
      refine hstep zaY iv8 za9 ?_
      have hs:zf1 zaa zab (zeo zaa zab k) zaY iv8 za9=true:=hs
      have hk:K (e55 (zf0 zaa zab (zen zaa zab k) zaY iv8 za9)):=hk
      unfold zf1 at hs
      unfold zf0 at hk
      generalize zen zaa zab k=S8 at hk ih
      generalize zeo zaa zab k=P8 at hs ih
      have hX8:=ih
      exact (zbp (K := fun r => K (e55 r))
 (fun hs hk=>(zaE hs fun hc hs=>⟨hc,(zaE hs fun hc hs=>⟨hc,(zaE hs fun hc hs=>⟨hc,(zaE hs fun hc hs=>⟨hc,(zaE hs fun hc hs=>⟨hc,(zFe K zaa zab X8 P8 S8 hX8 zaY iv8 (za9.get ((w64 (iv8 - (2:Int))).toNat)) (za9.get ((w64 (iv8 - (1:Int))).toNat)) ((zaa.get iv8.toNat).Low) za9 (fun i=>enc_3 (za9.get i)) rfl hs hk)⟩)⟩)⟩)⟩)⟩))
 (fun hs hk=>(zdW hk)) hs hk)
  exact key _ zaY iv8 za9 zb0 zhb hs hk
def zfj (zaa:(Sl Gate)) (zab:(Sl Mp)) (zdY:Int) (zgE:(Sl Int)):((Sl Int)×Int×Int) :=
  (zxa zaa zab zdY (2:Int) zgE)
def zfk (zaa:(Sl Gate)) (zab:(Sl Mp)) (zdY:Int) (zgE:(Sl Int)):Bool :=
  (zxb zaa zab zdY (2:Int) zgE)
theorem zxc (K:List PA→Prop) (zaa:(Sl Gate)) (zab:(Sl Mp)) (zdY:Int) (zgE:(Sl Int)) (zi0:Nat→List PV) (zFg:zi0=fun i=>enc_3 (zgE.get i)) (hs:zfk zaa zab zdY zgE=true) (hk:K (e55 (zfj zaa zab zdY zgE))):zlc (Wk K) zaa zab zdY zgE.len zi0:=by
  subst zFg
  refine zaH (zFd (Wk K) zaa zab zdY zgE) ?_
  unfold zfk at hs
  unfold zfj at hk
  exact (zFf K zaa zab zdY (2:Int) zgE (fun i=>enc_3 (zgE.get i)) rfl hs hk)
def zhe (S5:Int→Int→((Sl Int)×Int×Int)) (zaa:(Sl Gate)) (zab:(Sl Mp)) (S6:Int→Int→Int→((Sl Int)×Int×Int)) (zaV:Int) (pv6:Int) (qv6:Int):((Sl Int)×Int×Int) :=
  (cond (decide (qv6 ≤ (zaa.get 1).High))
 (cond ((zdg (((zab.get 0).F) [pv6, qv6]) 0) == zaV)
 (zfj zaa zab zaV (⟨2,(zfN pv6 [pv6,qv6])⟩:Sl Int))
 (S6 zaV pv6 (w64 (qv6+(1:Int)))))
 (S5 zaV (w64 (pv6+(1:Int)))))
def zhf (P5:Int→Int→Bool) (zaa:(Sl Gate)) (zab:(Sl Mp)) (P6:Int→Int→Int→Bool) (zaV:Int) (pv6:Int) (qv6:Int):Bool :=
  (decide ((0≤(1:Int)∧(1:Int) < (zaa.len:Int))) &&
 (cond (decide (qv6 ≤ (zaa.get 1).High))
 (decide ((0≤(0:Int)∧(0:Int) < (zab.len:Int))) &&
 (cond ((zdg (((zab.get 0).F) [pv6, qv6]) 0) == zaV)
 (zfk zaa zab zaV (⟨2,(zfN pv6 [pv6,qv6])⟩:Sl Int))
 (P6 zaV pv6 (w64 (qv6+(1:Int))))))
 (P5 zaV (w64 (pv6+(1:Int))))))
def zf2 (S5 : Int → Int → ((Sl Int) × Int × Int)) (zaa : (Sl Gate)) (zab : (Sl Mp)) : Nat → Int → Int → Int → ((Sl Int) × Int × Int)
  | 0=>fun _ _ _=>default
  | k+1=>zhe S5 zaa zab (zf2 S5 zaa zab k)
def zf3 (P5 : Int → Int → Bool) (zaa : (Sl Gate)) (zab : (Sl Mp)) : Nat → Int → Int → Int → Bool
  | 0=>fun _ _ _=>false
  | k+1=>zhf P5 zaa zab (zf3 P5 zaa zab k)
def znI (S5:Int→Int→((Sl Int)×Int×Int)) (zaa:(Sl Gate)) (zab:(Sl Mp)) (zaV:Int) (pv6:Int) (qv6:Int):((Sl Int)×Int×Int):=zf2 S5 zaa zab Fuel zaV pv6 qv6
def znJ (P5:Int→Int→Bool) (zaa:(Sl Gate)) (zab:(Sl Mp)) (zaV:Int) (pv6:Int) (qv6:Int):Bool:=zf3 P5 zaa zab Fuel zaV pv6 qv6
theorem zFh (K : List PA → Prop) (zaa : (Sl Gate)) (zab : (Sl Mp))
  (X5:St→Prop) (P5:Int→Int→Bool) (S5:Int→Int→((Sl Int)×Int×Int))
  (hX5:∀ (zaG:Int) (pv5:Int),P5 zaG pv5=true→K (e55 (S5 zaG pv5))→X5 (zjI zaa zab zaG pv5)) (zaV:Int) (pv6:Int) (qv6:Int) (hs:znJ P5 zaa zab zaV pv6 qv6=true) (hk:K (e55 (znI S5 zaa zab zaV pv6 qv6))):zlb (Wk K) X5 zaa zab zaV pv6 qv6:=by
  refine zw7 (Wk K) X5 zaa zab zaV pv6 qv6 ?_
  intro X6 hstep
  have key:∀ (k:Nat) (zaV:Int) (pv6:Int) (qv6:Int),zf3 P5 zaa zab k zaV pv6 qv6=true→K (e55 (zf2 S5 zaa zab k zaV pv6 qv6))→X6 (zla zaa zab zaV pv6 qv6):=by
    intro k
    induction k with
    | zero=>intro zaV pv6 qv6 hs;exact absurd hs Bool.false_ne_true
    | succ k ih =>
      intro zaV pv6 qv6 hs hk
      refine hstep zaV pv6 qv6 ?_
      have hs:zhf P5 zaa zab (zf3 P5 zaa zab k) zaV pv6 qv6=true:=hs
      have hk:K (e55 (zhe S5 zaa zab (zf2 S5 zaa zab k) zaV pv6 qv6)):=hk
      unfold zhf at hs
      unfold zhe at hk
      generalize zf2 S5 zaa zab k=S6 at hk ih
      generalize zf3 P5 zaa zab k=P6 at hs ih
      have hX6:=ih
      exact (zaE hs fun hc hs => ⟨hc, (zbp (K := fun r => K (e55 r))
 (fun hs hk => (zaE hs fun hc hs => ⟨hc, (zbp (K := fun r => K (e55 r))
 (fun hs hk=>(zxc K zaa zab zaV (⟨2,(zfN pv6 [pv6,qv6])⟩:Sl Int) (zd2 [(enc_3 pv6),(enc_3 qv6)]) (zfd (enc:=enc_3) (x:=pv6) (y:=qv6) (r:=[])) hs hk))
 (fun hs hk=>(hX6 zaV pv6 (w64 (qv6+(1:Int))) hs hk)) hs hk)⟩))
 (fun hs hk=>(hX5 zaV (w64 (pv6+(1:Int))) hs hk)) hs hk)⟩)
  exact key _ zaV pv6 qv6 hs hk
def zhg (zaa:(Sl Gate)) (zab:(Sl Mp)) (S5:Int→Int→((Sl Int)×Int×Int)) (zaG:Int) (pv5:Int):((Sl Int)×Int×Int) :=
  (cond (decide (pv5 ≤ (zaa.get 0).High))
 (znI S5 zaa zab zaG pv5 ((zaa.get 1).Low))
 (zfj zaa zab zaG (⟨0,(fun _=>default)⟩:Sl Int)))
def zhh (zaa:(Sl Gate)) (zab:(Sl Mp)) (P5:Int→Int→Bool) (zaG:Int) (pv5:Int):Bool :=
  (decide ((0≤(0:Int)∧(0:Int) < (zaa.len:Int))) &&
 (cond (decide (pv5 ≤ (zaa.get 0).High))
 (decide ((0≤(1:Int)∧(1:Int) < (zaa.len:Int))) &&
 (znJ P5 zaa zab zaG pv5 ((zaa.get 1).Low)))
 (zfk zaa zab zaG (⟨0,(fun _=>default)⟩:Sl Int))))
def zdO (zaa : (Sl Gate)) (zab : (Sl Mp)) : Nat → Int → Int → ((Sl Int) × Int × Int)
  | 0=>fun _ _=>default
  | k+1=>zhg zaa zab (zdO zaa zab k)
def zdP (zaa : (Sl Gate)) (zab : (Sl Mp)) : Nat → Int → Int → Bool
  | 0=>fun _ _=>false
  | k+1=>zhh zaa zab (zdP zaa zab k)
def zrS (zaa:(Sl Gate)) (zab:(Sl Mp)) (zaG:Int) (pv5:Int):((Sl Int)×Int×Int):=zdO zaa zab Fuel zaG pv5
def zrT (zaa:(Sl Gate)) (zab:(Sl Mp)) (zaG:Int) (pv5:Int):Bool:=zdP zaa zab Fuel zaG pv5
theorem zFi (K:List PA→Prop) (zaa:(Sl Gate)) (zab:(Sl Mp)) (zaG:Int) (pv5:Int) (hs:zrT zaa zab zaG pv5=true) (hk:K (e55 (zrS zaa zab zaG pv5))):zk9 (Wk K) zaa zab zaG pv5:=by
  refine zw6 (Wk K) zaa zab zaG pv5 ?_
  intro X5 hstep
  have key:∀ (k:Nat) (zaG:Int) (pv5:Int),zdP zaa zab k zaG pv5=true→K (e55 (zdO zaa zab k zaG pv5))→X5 (zjI zaa zab zaG pv5):=by
    intro k
    induction k with
    | zero=>intro zaG pv5 hs;exact absurd hs Bool.false_ne_true
    | succ k ih =>
      intro zaG pv5 hs hk
      refine hstep zaG pv5 ?_
      have hs:zhh zaa zab (zdP zaa zab k) zaG pv5=true:=hs
      have hk:K (e55 (zhg zaa zab (zdO zaa zab k) zaG pv5)):=hk
      unfold zhh at hs
      unfold zhg at hk
      generalize zdO zaa zab k=S5 at hk ih
      generalize zdP zaa zab k=P5 at hs ih
      have hX5:=ih
      exact (zaE hs fun hc hs => ⟨hc, (zbp (K := fun r => K (e55 r))
 (fun hs hk=>(zaE hs fun hc hs=>⟨hc,(zFh K zaa zab X5 P5 S5 hX5 zaG pv5 ((zaa.get 1).Low) hs hk)⟩))
 (fun hs hk=>(zxc K zaa zab zaG (⟨0,(fun _=>default)⟩:Sl Int) (fun i=>enc_3 ((fun _=>default) i)) rfl hs hk)) hs hk)⟩)
  exact key _ zaG pv5 hs hk
def znK (zaa:(Sl Gate)) (zab:(Sl Mp)) (zdX:Int):((Sl Int)×Int×Int) :=
  (zrS zaa zab zdX ((zaa.get 0).Low))
def znL (zaa:(Sl Gate)) (zab:(Sl Mp)) (zdX:Int):Bool :=
  (decide ((0≤(0:Int)∧(0:Int) < (zaa.len:Int))) &&
 (zrT zaa zab zdX ((zaa.get 0).Low)))
theorem zFj (K:List PA→Prop) (zaa:(Sl Gate)) (zab:(Sl Mp)) (zdX:Int) (hs:znL zaa zab zdX=true) (hk:K (e55 (znK zaa zab zdX))):znG (Wk K) zaa zab zdX:=by
  refine zaH (zFc (Wk K) zaa zab zdX) ?_
  unfold znL at hs
  unfold znK at hk
  exact (zaE hs fun hc hs=>⟨hc,(zFi K zaa zab zdX ((zaa.get 0).Low) hs hk)⟩)
def zlf (zaa:(Sl Gate)) (zab:(Sl Mp)) (zaK:Int):((Sl Int)×Int×Int) :=
  (znK zaa zab zaK)
def zlg (zaa:(Sl Gate)) (zab:(Sl Mp)) (zaK:Int):Bool :=
  (znL zaa zab zaK)
def zlh (zaa:(Sl Gate)) (zab:(Sl Mp)) (k24_0:Int) (k24_1:Int) (S3:Int→((Sl Int)×Int×Int)) (zaK:Int):((Sl Int)×Int×Int) :=
  (cond (decide (zaK < (0:Int)))
 (S3 (zdg (((zab.get 0).F) [k24_0,k24_1]) 0))
 (cond (decide ((zdg (((zab.get 0).F) [k24_0, k24_1]) 0) < zaK))
 (S3 (zdg (((zab.get 0).F) [k24_0,k24_1]) 0))
 (S3 zaK)))
def zli (zaa:(Sl Gate)) (zab:(Sl Mp)) (k24_0:Int) (k24_1:Int) (P3:Int→Bool) (zaK:Int):Bool :=
  (cond (decide (zaK < (0:Int)))
 (P3 (zdg (((zab.get 0).F) [k24_0,k24_1]) 0))
 (cond (decide ((zdg (((zab.get 0).F) [k24_0, k24_1]) 0) < zaK))
 (P3 (zdg (((zab.get 0).F) [k24_0,k24_1]) 0))
 (P3 zaK)))
def zfl (zaa : (Sl Gate)) (zab : (Sl Mp)) : List (List Int) → Int → ((Sl Int) × Int × Int)
  | []=>zlf zaa zab
  | y :: r=>zlh zaa zab (y.getD 0 0) (y.getD 1 0) (zfl zaa zab r)
def zfm (zaa : (Sl Gate)) (zab : (Sl Mp)) : List (List Int) → Int → Bool
  | []=>zlg zaa zab
  | y :: r=>zli zaa zab (y.getD 0 0) (y.getD 1 0) (zfm zaa zab r)
def zeE (_gates:Sl Gate) (t:Sl Mp) (ys:List (List Int)):Bool:=ys.all fun y=>decide (0≤zdg ((t.get 0).F y) 0)
theorem zFk (zaa:Sl Gate) (t:Sl Mp):∀ (y:List Int) (r:List (List Int)),zeE zaa t (y :: r)=true→zeE zaa t r=true:=fun y r h=>by
  simp only [zeE,List.all_cons,Bool.and_eq_true] at h ⊢;exact h.2
def kst (F:List Int→Option (List Int)) (k:Int) (y:List Int):Int:=if k < 0 then zdg (F y) 0 else if zdg (F y) 0 < k then zdg (F y) 0 else k
theorem ztD (F:List Int→Option (List Int)) {ys zs:List (List Int)} (h:∀ y∈ys,0≤zdg (F y) 0) (hp:ys.Perm zs) (k:Int):ys.foldl (kst F) k=zs.foldl (kst F) k:=by
  refine hp.foldl_eq' (fun x hx y hy z=>?_) k
  have h1:=h x hx
  have h2:=h y hy
  unfold kst
  repeat' split
  all_goals omega
theorem znM (zaa : Sl Gate) (t : Sl Mp) : ∀ (ys : List (List Int)) (k : Int), (∀ y ∈ ys, y.length = 2) → zfl zaa t ys k = zlf zaa t (ys.foldl (kst (t.get 0).F) k)
  | [],k,_=>rfl
  | y :: r,k,h=>by
    have hy:=h y List.mem_cons_self
    match y,hy with
    | [a,b],_ =>
    have ih:=fun k=>znM zaa t r k (fun z hz=>h z (List.mem_cons_of_mem _ hz))
    show zlh zaa t a b (zfl zaa t r) k=_
    rw [List.foldl_cons]
    unfold zlh
    by_cases h1:k < 0
    · rw [decide_eq_true h1,cond_true,ih,show kst (t.get 0).F k [a,b]=zdg ((t.get 0).F [a,b]) 0 from if_pos h1]
    · rw [decide_eq_false h1, cond_false]
      by_cases h2:zdg ((t.get 0).F [a,b]) 0 < k
      · rw [decide_eq_true h2,cond_true,ih,show kst (t.get 0).F k [a,b]=zdg ((t.get 0).F [a,b]) 0 from (if_neg h1).trans (if_pos h2)]
      · rw [decide_eq_false h2,cond_false,ih,show kst (t.get 0).F k [a,b]=k from (if_neg h1).trans (if_neg h2)]
theorem znN (zaa : Sl Gate) (t : Sl Mp) : ∀ (ys : List (List Int)) (k : Int), (∀ y ∈ ys, y.length = 2) → zfm zaa t ys k = zlg zaa t (ys.foldl (kst (t.get 0).F) k)
  | [],k,_=>rfl
  | y :: r,k,h=>by
    have hy:=h y List.mem_cons_self
    match y,hy with
    | [a,b],_ =>
    have ih:=fun k=>znN zaa t r k (fun z hz=>h z (List.mem_cons_of_mem _ hz))
    show zli zaa t a b (zfm zaa t r) k=_
    rw [List.foldl_cons]
    unfold zli
    by_cases h1:k < 0
    · rw [decide_eq_true h1,cond_true,ih,show kst (t.get 0).F k [a,b]=zdg ((t.get 0).F [a,b]) 0 from if_pos h1]
    · rw [decide_eq_false h1, cond_false]
      by_cases h2:zdg ((t.get 0).F [a,b]) 0 < k
      · rw [decide_eq_true h2,cond_true,ih,show kst (t.get 0).F k [a,b]=zdg ((t.get 0).F [a,b]) 0 from (if_neg h1).trans (if_pos h2)]
      · rw [decide_eq_false h2,cond_false,ih,show kst (t.get 0).F k [a,b]=k from (if_neg h1).trans (if_neg h2)]
theorem zFl (zaa : Sl Gate) (t : Sl Mp) (ys zs : List (List Int)) (hl : ∀ y ∈ ys, y.length = 2) (h : zeE zaa t ys = true) (hp : ys.Perm zs) :
    zeE zaa t zs=true∧zfl zaa t ys=zfl zaa t zs∧zfm zaa t ys=zfm zaa t zs:=by
  simp only [zeE,List.all_eq_true,decide_eq_true_eq] at h ⊢
  have hl2:∀ y∈zs,y.length=2:=fun y hy=>hl y (hp.mem_iff.2 hy)
  refine ⟨fun y hy=>h y (hp.mem_iff.2 hy),funext fun k=>?_,funext fun k=>?_⟩
  · rw [znM zaa t ys k hl,znM zaa t zs k hl2,ztD _ h hp]
  · rw [znN zaa t ys k hl,znN zaa t zs k hl2,ztD _ h hp]
def znO (zaa:(Sl Gate)) (zab:(Sl Mp)) (zaK:Int):((Sl Int)×Int×Int):=zfl zaa zab (zfV zaa) zaK
def znP (zaa:(Sl Gate)) (zab:(Sl Mp)) (zaK:Int):Bool:=keysB 2 ((zab.get 0).n) ((zab.get 0).F) (zfV zaa) && zeE zaa zab (zfV zaa) && zfm zaa zab (zfV zaa) zaK
theorem zFm (K:List PA→Prop) (zaa:(Sl Gate)) (zab:(Sl Mp)) (zaK:Int) (hs:znP zaa zab zaK=true) (hk:K (e55 (znO zaa zab zaK))):zk8 (Wk K) zaa zab [] zaK:=by
  unfold znP at hs
  rw [Bool.and_eq_true,Bool.and_eq_true] at hs
  obtain ⟨⟨hkeys,hI⟩,hs⟩:=hs
  unfold znO at hk
  generalize hys:zfV zaa=ys0 at hkeys hI hs hk
  refine zw5 (Wk K) zaa zab [] zaK ?_
  intro X3 hstep
  have key:∀ (N:Nat) (ys:List (List Int)) (zaZ:List (List Int)) (zaK:Int),ys.length=N→(zA9 2 ((zab.get 0).n) ((zab.get 0).F)→zEN 2 ((zab.get 0).F) zaZ ys)→zeE zaa zab ys=true→zfm zaa zab ys zaK=true→K (e55 (zfl zaa zab ys zaK))→X3 (zh4 zaa zab zaZ zaK):=by
    intro N
    induction N with
    | zero =>
      intro ys zaZ zaK hN hrem hI hs hk
      obtain rfl:=List.eq_nil_of_length_eq_zero hN
      refine hstep zaZ zaK ?_
      intro hfin
      have hrem:=hrem hfin
      refine ⟨fun _=>?_,fun k24_0 k24_1 hF hns=>absurd (hrem.2.2 [k24_0,k24_1] rfl hF hns) (by simp)⟩
      have hs:zlg zaa zab zaK=true:=hs
      have hk:K (e55 (zlf zaa zab zaK)):=hk
      unfold zlg at hs
      unfold zlf at hk
      exact (zFj K zaa zab zaK hs hk)
    | succ N ih =>
      intro ys zaZ zaK hN hrem hI hs hk
      refine hstep zaZ zaK ?_
      intro hfin
      have hrem:=hrem hfin
      refine ⟨fun hend=>?_,fun k24_0 k24_1 hF hns=>?_⟩
      · exact absurd (zrx hrem hend) (fun e=>by rw [e] at hN;simp at hN)
      · obtain ⟨hperm, hrem2, hlen⟩ := znw hrem (c := [k24_0, k24_1]) rfl hF hns
        obtain ⟨hI2,e1,e2⟩:=zFl zaa zab ys _ (fun y hy=>(hrem.2.1 y hy).1) hI hperm
        have hI3:=zFk zaa zab _ _ hI2
        rw [e2] at hs
        rw [e1] at hk
        have hs:zli zaa zab k24_0 k24_1 (zfm zaa zab (ys.erase [k24_0,k24_1])) zaK=true:=hs
        have hk:K (e55 (zlh zaa zab k24_0 k24_1 (zfl zaa zab (ys.erase [k24_0,k24_1])) zaK)):=hk
        have ih:=fun (zaK:Int)=>ih (ys.erase [k24_0,k24_1]) ([k24_0,k24_1] :: zaZ) zaK (by omega) (fun _=>hrem2) hI3
        unfold zli at hs
        unfold zlh at hk
        generalize zfl zaa zab (ys.erase [k24_0,k24_1])=S3 at hk ih
        generalize zfm zaa zab (ys.erase [k24_0,k24_1])=P3 at hs ih
        have hX3:=ih
        exact (zbp (K := fun r => K (e55 r))
 (fun hs hk=>(hX3 (zdg (((zab.get 0).F) [k24_0,k24_1]) 0) hs hk))
 (fun hs hk => (zbp (K := fun r => K (e55 r))
 (fun hs hk=>(hX3 (zdg (((zab.get 0).F) [k24_0,k24_1]) 0) hs hk))
 (fun hs hk=>(hX3 zaK hs hk)) hs hk)) hs hk)
  exact key _ ys0 [] zaK rfl (fun hf=>zk5 hkeys hf) hI hs hk
def znQ (zaa:(Sl Gate)) (zab:(Sl Mp)):((Sl Int)×Int×Int) :=
  (znO zaa zab (-1:Int))
def znR (zaa:(Sl Gate)) (zab:(Sl Mp)):Bool :=
  (decide ((0≤(0:Int)∧(0:Int) < (zab.len:Int))) &&
 (znP zaa zab (-1:Int)))
theorem zFn (K:List PA→Prop) (zaa:(Sl Gate)) (zab:(Sl Mp)) (zco:Nat→List PV) (zlj:zco=fun i=>zbq (zab.get i)) (hs:znR zaa zab=true) (hk:K (e55 (znQ zaa zab))):znF (Wk K) zaa zab.len zco:=by
  subst zlj
  refine zaH (zFb (Wk K) zaa zab) ?_
  unfold znR at hs
  unfold znQ at hk
  exact (zaE hs fun hc hs=>⟨hc,(zFm K zaa zab (-1:Int) hs hk)⟩)
def znS (zaa:(Sl Gate)):((Sl Int)×Int×Int) :=
  (znQ zaa (s93 zaa))
def znT (zaa:(Sl Gate)):Bool :=
  (decide ((p93 zaa=true)) &&
 (znR zaa (s93 zaa)))
theorem zFo (K:List PA→Prop) (zaa:(Sl Gate)) (hs:znT zaa=true) (hk:K (e55 (znS zaa))):znE (Wk K) zaa:=by
  refine zaH (zFa (Wk K) zaa) ?_
  unfold znT at hs
  unfold znS at hk
  exact (zaE hs fun hc hs=>⟨⟨isE,hc⟩,(zFn K zaa (s93 zaa) (fun i=>zbq ((s93 zaa).get i)) rfl hs hk)⟩)
def znU (zaa:(Sl Gate)) (zha:Bool):((Sl Int)×Int×Int) :=
  (cond zha
 ((⟨0,fun _=>default⟩:(Sl Int)),(0:Int),(2:Int))
 (znS zaa))
def znV (zaa:(Sl Gate)) (zha:Bool):Bool :=
  (cond zha
 true
 (znT zaa))
theorem zFp (K:List PA→Prop) (zaa:(Sl Gate)) (zha:Bool) (hs:znV zaa zha=true) (hk:K (e55 (znU zaa zha))):znD (Wk K) zaa zha:=by
  refine zaH (zE9 (Wk K) zaa zha) ?_
  unfold znV at hs
  unfold znU at hk
  exact (zbp (K := fun r => K (e55 r))
 (fun hs hk=>(wk hk (zdt (.one (.nil _ _)) (zdt (.one (.rfl _)) (zdt (.one (.rfl _)) zhG)))))
 (fun hs hk=>(zFo K zaa hs hk)) hs hk)
def s55 (zaa:(Sl Gate)):((Sl Int)×Int×Int) :=
  (znU zaa (!(s92 zaa)))
def p55 (zaa:(Sl Gate)):Bool :=
  (decide ((p92 zaa=true)) &&
 (znV zaa (!(s92 zaa))))
theorem q55 (zaa:(Sl Gate)) (K:List PA→Prop) (hs:p55 zaa=true) (hk:K (e55 (s55 zaa))):vcFun Try.prog G55 zbb 55 [.one (.sl zaa.len 3 (fun i=>enc_55 (zaa.get i)))] (Wk K):=by
  refine zaH (zE8 zaa (Wk K)) ?_
  unfold p55 at hs
  unfold s55 at hk
  exact (zaE hs fun hc hs=>⟨⟨isE,hc⟩,(zFp K zaa (!(s92 zaa)) hs hk)⟩)
def zBW : List PA → COut
  | [.one (.sl a0_n a0_s a0_g)]=>.det (IsE enc_55 3 a0_s a0_g∧p55 (⟨a0_n,zaf a0_g⟩:(Sl Gate))=true) [.one (.sl (((s55 (⟨a0_n,zaf a0_g⟩:(Sl Gate))).1).len) 1 (fun i=>enc_3 (((s55 (⟨a0_n,zaf a0_g⟩:(Sl Gate))).1).get i))),.one (.int .i64 ((s55 (⟨a0_n,zaf a0_g⟩:(Sl Gate))).2.1)),.one (.int .i64 ((s55 (⟨a0_n,zaf a0_g⟩:(Sl Gate))).2.2))]
  | _=>.no
theorem zJL:zak Try.prog 55:=⟨_,rfl,rfl,by kernel_rfl⟩
theorem zOp:Ok Try.prog 55 zBW:=zfT zMI zJL fun args K h=>by
  unfold zBW at h
  split at h
  · rename_i a0_n a0_s a0_g
    obtain ⟨⟨⟨rfl,a0_f,rfl⟩,hs⟩,hk⟩:=h
    try rw [zae a0_f] at hs
    try rw [zae a0_f] at hk
    exact ⟨_,zeT zfB _,(fun _ _=>[]),(fun _=>false),zbb,q55 (⟨a0_n,a0_f⟩:(Sl Gate)) K hs hk⟩
  · exact h.elim
abbrev zOq:Tabs:=Tabs.nil
theorem zJM:TabsOk Try.prog zOq:=TabsOk.nil
abbrev zO1:Ctrs:=csm zOq (fun _ _=>[]) (fun _=>false)
def zDd:Ann:=⟨12,[(0,zK [1,2] [2]),(1,zK [3] [])],
 [],
 [],
 [],[]⟩
abbrev zO2:=Bool
abbrev zO3 (r:zO2):List PA:=[.one (.bool r)]
section
variable {K:List PA→Prop} {c0:list} {g:Gate}
def zL9 (c0:list) (g:Gate):Bool :=
  (g.Z != (c0.Gates.get 0).Z)
def zMJ (c0:list) (g:Gate):Bool :=
  (decide ((0≤(0:Int)∧(0:Int) < (c0.Gates.len:Int))) &&
 true)
end
theorem zO4 (c0:list) (g:Gate) (K:List PA→Prop) (hs:zMJ c0 g=true) (hk:K (zO3 (zL9 c0 g))):vcFun Try.prog zO1 zDd 100 [.agg (enc_55 g),.one (.fp (zcH c0) 0)] K :=
  zaH (by kernel_rfl) (zaE hs fun hc hs=>And.intro hc hk)
def zxd : List PA → COut
  | [.agg [.int .i64 a0_Z,.int .i64 a0_Low,.int .i64 a0_High],.one (.fp [.sl c0_Gates_n c0_Gates_s c0_Gates_g] 0)]=>.det (IsE enc_55 3 c0_Gates_s c0_Gates_g∧zMJ (⟨(⟨c0_Gates_n,zaf c0_Gates_g⟩:(Sl Gate))⟩:list) (⟨a0_Z,a0_Low,a0_High⟩:Gate)=true) [.one (.bool (zL9 (⟨(⟨c0_Gates_n,zaf c0_Gates_g⟩:(Sl Gate))⟩:list) (⟨a0_Z,a0_Low,a0_High⟩:Gate)))]
  | _=>.no
theorem zFq:zak Try.prog 100:=⟨_,rfl,rfl,by kernel_rfl⟩
theorem zMK:Ok Try.prog 100 zxd:=zaU zJM zFq fun args K h=>by
  unfold zxd at h
  split at h
  · rename_i a0_Z a0_Low a0_High c0_Gates_n c0_Gates_s c0_Gates_g
    obtain ⟨⟨⟨rfl,c0_Gates_f,rfl⟩,hs⟩,hk⟩:=h
    try rw [zae c0_Gates_f] at hs
    try rw [zae c0_Gates_f] at hk
    exact ⟨(fun _ _=>[]),(fun _=>false),zDd,zO4 (⟨(⟨c0_Gates_n,c0_Gates_f⟩:(Sl Gate))⟩:list) (⟨a0_Z,a0_Low,a0_High⟩:Gate) K hs hk⟩
  · exact h.elim
abbrev zOr:Tabs:=(Tabs.nil.addF 74 zny)
theorem zJN:TabsOk Try.prog zOr:=(TabsOk.nil.addF zER)
abbrev zO5:Ctrs:=csm zOr (fun _ _=>[]) (fun _=>false)
def zDe:Ann:=⟨24,[(0,zK [2,3] [2,3]),(1,zK [4] [])],
 [],
 [],
 [],[]⟩
abbrev zO6:=Bool
abbrev e118 (r:zO6):List PA:=[.one (.bool r)]
section
variable {K:List PA→Prop} {s:straight} {g:Gate}
def zML (s:straight) (g:Gate):Bool :=
  (s74 (w64 (s.start+(w64 (s.slope * g.Z)))) (w64 (g.Low * s.den)) (w64 (g.High * s.den)))
end
theorem zO7 (s:straight) (g:Gate) (K:List PA→Prop) (hk:K (e118 (zML s g))):vcFun Try.prog zO5 zDe 118 [.agg (zaj s),.agg (enc_55 g)] K :=
  zaH (by kernel_rfl) hk
def zxe : List PA → COut
  | [.agg [.int .i64 a0_slope,.int .i64 a0_start,.int .i64 a0_den],.agg [.int .i64 a1_Z,.int .i64 a1_Low,.int .i64 a1_High]]=>.tot [.one (.bool (zML (⟨a0_slope,a0_start,a0_den⟩:straight) (⟨a1_Z,a1_Low,a1_High⟩:Gate)))]
  | _=>.no
theorem zFr:zak Try.prog 118:=⟨_,rfl,rfl,by kernel_rfl⟩
theorem zMM:Ok Try.prog 118 zxe:=zaU zJN zFr fun args K h=>by
  unfold zxe at h
  split at h
  · rename_i a0_slope a0_start a0_den a1_Z a1_Low a1_High
    have hk:=h
    exact ⟨(fun _ _=>[]),(fun _=>false),zDe,zO7 (⟨a0_slope,a0_start,a0_den⟩:straight) (⟨a1_Z,a1_Low,a1_High⟩:Gate) K hk⟩
  · exact h.elim
abbrev zOs:Tabs:=(Tabs.nil.addF 118 zxe)
theorem zJO:TabsOk Try.prog zOs:=(TabsOk.nil.addF zMM)
abbrev zO8:Ctrs:=csm zOs (fun _ _=>[]) (fun _=>false)
def zDf:Ann:=⟨8,[(0,zK [1,2] [2]),(1,zK [3] [])],
 [],
 [],
 [],[]⟩
abbrev zO9:=Bool
abbrev e117 (r:zO9):List PA:=[.one (.bool r)]
section
variable {K:List PA→Prop} {c0:straight} {g:Gate}
def zMa (c0:straight) (g:Gate):Bool :=
  (!(zML c0 g))
end
theorem zPa (c0:straight) (g:Gate) (K:List PA→Prop) (hk:K (e117 (zMa c0 g))):vcFun Try.prog zO8 zDf 117 [.agg (enc_55 g),.one (.fp (zaj c0) 0)] K :=
  zaH (by kernel_rfl) hk
def zxf : List PA → COut
  | [.agg [.int .i64 a0_Z,.int .i64 a0_Low,.int .i64 a0_High],.one (.fp [.int .i64 c0_slope,.int .i64 c0_start,.int .i64 c0_den] 0)]=>.tot [.one (.bool (zMa (⟨c0_slope,c0_start,c0_den⟩:straight) (⟨a0_Z,a0_Low,a0_High⟩:Gate)))]
  | _=>.no
theorem zFs:zak Try.prog 117:=⟨_,rfl,rfl,by kernel_rfl⟩
theorem zMN:Ok Try.prog 117 zxf:=zaU zJO zFs fun args K h=>by
  unfold zxf at h
  split at h
  · rename_i a0_Z a0_Low a0_High c0_slope c0_start c0_den
    have hk:=h
    exact ⟨(fun _ _=>[]),(fun _=>false),zDf,zPa (⟨c0_slope,c0_start,c0_den⟩:straight) (⟨a0_Z,a0_Low,a0_High⟩:Gate) K hk⟩
  · exact h.elim
abbrev zOt:Tabs:=Tabs.nil
theorem zJP:TabsOk Try.prog zOt:=TabsOk.nil
abbrev zPb:Ctrs:=csm zOt (fun _ _=>[]) (fun _=>false)
def zDg:Ann:=⟨18,[(0,zK [1,2] [2]),(1,zK [3] [])],
 [],
 [],
 [],[]⟩
abbrev zPc:=Bool
abbrev zPd (r:zPc):List PA:=[.one (.bool r)]
section
variable {K:List PA→Prop} {c0:straight} {g:Gate}
def zMb (c0:straight) (g:Gate):Bool :=
  ((w64 (c0.start+(w64 (c0.slope * g.Z)))) == (w64 (g.Low * c0.den)))
end
theorem zPe (c0:straight) (g:Gate) (K:List PA→Prop) (hk:K (zPd (zMb c0 g))):vcFun Try.prog zPb zDg 123 [.agg (enc_55 g),.one (.fp (zaj c0) 0)] K :=
  zaH (by kernel_rfl) hk
def zxg : List PA → COut
  | [.agg [.int .i64 a0_Z,.int .i64 a0_Low,.int .i64 a0_High],.one (.fp [.int .i64 c0_slope,.int .i64 c0_start,.int .i64 c0_den] 0)]=>.tot [.one (.bool (zMb (⟨c0_slope,c0_start,c0_den⟩:straight) (⟨a0_Z,a0_Low,a0_High⟩:Gate)))]
  | _=>.no
theorem zFt:zak Try.prog 123:=⟨_,rfl,rfl,by kernel_rfl⟩
theorem zMO:Ok Try.prog 123 zxg:=zaU zJP zFt fun args K h=>by
  unfold zxg at h
  split at h
  · rename_i a0_Z a0_Low a0_High c0_slope c0_start c0_den
    have hk:=h
    exact ⟨(fun _ _=>[]),(fun _=>false),zDg,zPe (⟨c0_slope,c0_start,c0_den⟩:straight) (⟨a0_Z,a0_Low,a0_High⟩:Gate) K hk⟩
  · exact h.elim
abbrev zMc:Tabs:=(((Tabs.nil.addF 100 zxd).addF 117 zxf).addF 123 zxg)
theorem zJQ:TabsOk Try.prog zMc:=(((TabsOk.nil.addF zMK).addF zMN).addF zMO)
abbrev zOu:Ctrs:=csm zMc (fun _ _=>[]) (fun _=>false)
def zxh:Ann:=⟨19,[(0,zK [0,1] []),(1,zK [0,1,7,8] []),(2,zK [0,1,7,8,9] []),(3,zK [0,1,5,7,8] []),(4,zK [0,1,5,7,8,16] []),(5,zK [4] []),(6,zK [0,1,7,8] []),(7,zK [4] [])],
 [(2,zK [0,1,7,8] [])],
 [(5,zK [0,1,5,7,8,16] [])],
 [],[]⟩
abbrev zPf:=Int
abbrev e119 (r:zPf):List PA:=[.one (.int .i64 r)]
@[irreducible] def z119:=ptF Try.prog zOu zxh Try.f119
def zxi (c0:list) (sv0:(Sl Gate)) (zbk:Int) (zcr:Int) (zdI:Nat→List PV):St:=⟨[(0,zP (.sl sv0.len 3 zdI)),(1,zP (.fn 100 [] [.fp (zcH c0) 0])),(7,zI zbk),(8,zI zcr)],[],[]⟩
abbrev zxj (K:List PA→Prop) (c0:list) (X:St→Prop) (P:(Sl Gate)→Int→Int→Bool) (S:(Sl Gate)→Int→Int→Int):Prop:=∀ ⦃sv0:(Sl Gate)⦄ ⦃zbk:Int⦄ ⦃zcr:Int⦄ ⦃zdI:Nat→List PV⦄,P sv0 zbk zcr=true→K (e119 (S sv0 zbk zcr))→zdI=zg enc_55 sv0→X (zxi c0 sv0 zbk zcr zdI)
section
variable {K:List PA→Prop} {c0:list} {s:(Sl Gate)} {sv0:(Sl Gate)} {zbk:Int} {zcr:Int} {zdI:Nat→List PV} {X0:St→Prop} {P0:(Sl Gate)→Int→Int→Bool} {S0:(Sl Gate)→Int→Int→Int} {sv1:(Sl Gate)} {iv1:Int} {zg1:Int} {zlk:Int} {zep:Bool} {zpS:Nat→List PV}
def ztE (S0:(Sl Gate)→Int→Int→Int) (c0:list) (sv1:(Sl Gate)) (iv1:Int) (zg1:Int) (zlk:Int) (zep:Bool):Int :=
  (cond zep
 iv1
 (S0 sv1 zg1 (w64 (zlk+(1:Int)))))
def ztF (P0:(Sl Gate)→Int→Int→Bool) (c0:list) (sv1:(Sl Gate)) (iv1:Int) (zg1:Int) (zlk:Int) (zep:Bool):Bool :=
  (cond zep
 true
 (P0 sv1 zg1 (w64 (zlk+(1:Int)))))
theorem zBX (hX0:zxj K c0 X0 P0 S0) (hs:ztF P0 c0 sv1 iv1 zg1 zlk zep=true) (hk:K (e119 (ztE S0 c0 sv1 iv1 zg1 zlk zep))) (zxk:zpS=zg enc_55 sv1):z119 K [1,0,1,0,0,1,1,0,0,1,1] [X0] ⟨[(0,zP (.sl sv1.len 3 zpS)),(1,zP (.fn 100 [] [.fp (zcH c0) 0])),(5,zI iv1),(7,zI zg1),(8,zI zlk),(16,zB zep)],[],[]⟩:=by subst zxk;exact zaH (by kernel_rfl) (zc hs hk (fun hs hk=>hk) (fun hs hk=>(hX0 hs hk rfl)))
def ztG (c0:list) (S0:(Sl Gate)→Int→Int→Int) (sv0:(Sl Gate)) (zbk:Int) (zcr:Int):Int :=
  (cond (decide (zcr < zbk))
 (ztE S0 c0 sv0 zcr zbk zcr (zL9 c0 (sv0.get zcr.toNat)))
 (-1:Int))
def ztH (c0:list) (P0:(Sl Gate)→Int→Int→Bool) (sv0:(Sl Gate)) (zbk:Int) (zcr:Int):Bool :=
  (cond (decide (zcr < zbk))
 (decide ((0≤zcr∧zcr < (sv0.len:Int))) &&
 (decide ((zMJ c0 (sv0.get zcr.toNat)=true)) &&
 (ztF P0 c0 sv0 zcr zbk zcr (zL9 c0 (sv0.get zcr.toNat)))))
 true)
def ztI (c0:list):Nat→(Sl Gate)→Int→Int→Int:=lpO (fun _ _ _=>default) (ztG c0)
def ztJ (c0:list):Nat→(Sl Gate)→Int→Int→Bool:=lpO (fun _ _ _=>false) (ztH c0)
def ztK (c0:list) (sv0:(Sl Gate)) (zbk:Int) (zcr:Int):Int:=ztI c0 Fuel sv0 zbk zcr
def ztL (c0:list) (sv0:(Sl Gate)) (zbk:Int) (zcr:Int):Bool:=ztJ c0 Fuel sv0 zbk zcr
theorem zBY (hs:ztL c0 sv0 zbk zcr=true) (hk:K (e119 (ztK c0 sv0 zbk zcr))) (zll:zdI=zg enc_55 sv0):z119 K [1,0,1,0] [] (zxi c0 sv0 zbk zcr zdI) :=
  zl (fun X=>z119 K [1,0,1,0,0] [X]) (by kernel_rfl) fun X0 hX =>
  (show ∀ k, zxj K c0 X0 (ztJ c0 k) (ztI c0 k) from zgs _ _ (ztH c0) (ztG c0) (zxj K c0 X0)
 (by intro _ _ _ _ hs;exact absurd hs Bool.false_ne_true)
 (by intro P0 S0 hX0 sv0 zbk zcr zdI hs hk zll;subst zll;exact hX _ (zaH (by kernel_rfl) (zc hs hk (fun hs hk=>(zaE hs fun hc hs=>And.intro hc (zaE hs fun hc hs=>And.intro (And.intro (zE enc_55 3 c0.Gates.get) hc) (zBX hX0 hs hk rfl)))) (fun hs hk=>hk))))) _ hs hk zll
def zMP (c0:list) (s:(Sl Gate)):Int :=
  (ztK c0 s (s.len:Int) (0:Int))
def zMQ (c0:list) (s:(Sl Gate)):Bool :=
  (ztL c0 s (s.len:Int) (0:Int))
end
theorem zPg (c0:list) (s:(Sl Gate)) (K:List PA→Prop) (hs:zMQ c0 s=true) (hk:K (e119 (zMP c0 s))):vcFun Try.prog zOu zxh 119 [.one (.sl s.len 3 (fun i=>enc_55 (s.get i))),.one (.fn 100 [] [.fp (zcH c0) 0])] K :=
  zaH (by kernel_rfl) (zBY hs hk rfl)
abbrev zJR:Ctrs:=csm zMc (fun _ _=>[]) (fun _=>false)
def zrU:Ann:=⟨19,[(0,zK [0,1] []),(1,zK [0,1,7,8] []),(2,zK [0,1,7,8,9] []),(3,zK [0,1,5,7,8] []),(4,zK [0,1,5,7,8,16] []),(5,zK [4] []),(6,zK [0,1,7,8] []),(7,zK [4] [])],
 [(2,zK [0,1,7,8] [])],
 [(5,zK [0,1,5,7,8,16] [])],
 [],[]⟩
abbrev zMR:=Int
abbrev zBZ (r:zMR):List PA:=[.one (.int .i64 r)]
@[irreducible] def z119a:=ptF Try.prog zJR zrU Try.f119
def ztM (c0:straight) (sv0:(Sl Gate)) (zbk:Int) (zcr:Int) (zdI:Nat→List PV):St:=⟨[(0,zP (.sl sv0.len 3 zdI)),(1,zP (.fn 117 [] [.fp (zaj c0) 0])),(7,zI zbk),(8,zI zcr)],[],[]⟩
abbrev zrV (K:List PA→Prop) (c0:straight) (X:St→Prop) (P:(Sl Gate)→Int→Int→Bool) (S:(Sl Gate)→Int→Int→Int):Prop:=∀ ⦃sv0:(Sl Gate)⦄ ⦃zbk:Int⦄ ⦃zcr:Int⦄ ⦃zdI:Nat→List PV⦄,P sv0 zbk zcr=true→K (zBZ (S sv0 zbk zcr))→zdI=zg enc_55 sv0→X (ztM c0 sv0 zbk zcr zdI)
section
variable {K:List PA→Prop} {c0:straight} {s:(Sl Gate)} {sv0:(Sl Gate)} {zbk:Int} {zcr:Int} {zdI:Nat→List PV} {X0:St→Prop} {P0:(Sl Gate)→Int→Int→Bool} {S0:(Sl Gate)→Int→Int→Int} {sv1:(Sl Gate)} {iv1:Int} {zg1:Int} {zlk:Int} {zep:Bool} {zpS:Nat→List PV}
def zpT (S0:(Sl Gate)→Int→Int→Int) (c0:straight) (sv1:(Sl Gate)) (iv1:Int) (zg1:Int) (zlk:Int) (zep:Bool):Int :=
  (cond zep
 iv1
 (S0 sv1 zg1 (w64 (zlk+(1:Int)))))
def zpU (P0:(Sl Gate)→Int→Int→Bool) (c0:straight) (sv1:(Sl Gate)) (iv1:Int) (zg1:Int) (zlk:Int) (zep:Bool):Bool :=
  (cond zep
 true
 (P0 sv1 zg1 (w64 (zlk+(1:Int)))))
theorem zxl (hX0:zrV K c0 X0 P0 S0) (hs:zpU P0 c0 sv1 iv1 zg1 zlk zep=true) (hk:K (zBZ (zpT S0 c0 sv1 iv1 zg1 zlk zep))) (zxk:zpS=zg enc_55 sv1):z119a K [1,0,1,0,0,1,1,0,0,1,1] [X0] ⟨[(0,zP (.sl sv1.len 3 zpS)),(1,zP (.fn 117 [] [.fp (zaj c0) 0])),(5,zI iv1),(7,zI zg1),(8,zI zlk),(16,zB zep)],[],[]⟩:=by subst zxk;exact zaH (by kernel_rfl) (zc hs hk (fun hs hk=>hk) (fun hs hk=>(hX0 hs hk rfl)))
def zpV (c0:straight) (S0:(Sl Gate)→Int→Int→Int) (sv0:(Sl Gate)) (zbk:Int) (zcr:Int):Int :=
  (cond (decide (zcr < zbk))
 (zpT S0 c0 sv0 zcr zbk zcr (zMa c0 (sv0.get zcr.toNat)))
 (-1:Int))
def zpW (c0:straight) (P0:(Sl Gate)→Int→Int→Bool) (sv0:(Sl Gate)) (zbk:Int) (zcr:Int):Bool :=
  (cond (decide (zcr < zbk))
 (decide ((0≤zcr∧zcr < (sv0.len:Int))) &&
 (zpU P0 c0 sv0 zcr zbk zcr (zMa c0 (sv0.get zcr.toNat))))
 true)
def zpX (c0:straight):Nat→(Sl Gate)→Int→Int→Int:=lpO (fun _ _ _=>default) (zpV c0)
def zpY (c0:straight):Nat→(Sl Gate)→Int→Int→Bool:=lpO (fun _ _ _=>false) (zpW c0)
def zpZ (c0:straight) (sv0:(Sl Gate)) (zbk:Int) (zcr:Int):Int:=zpX c0 Fuel sv0 zbk zcr
def zp0 (c0:straight) (sv0:(Sl Gate)) (zbk:Int) (zcr:Int):Bool:=zpY c0 Fuel sv0 zbk zcr
theorem zxm (hs:zp0 c0 sv0 zbk zcr=true) (hk:K (zBZ (zpZ c0 sv0 zbk zcr))) (zll:zdI=zg enc_55 sv0):z119a K [1,0,1,0] [] (ztM c0 sv0 zbk zcr zdI) :=
  zl (fun X=>z119a K [1,0,1,0,0] [X]) (by kernel_rfl) fun X0 hX =>
  (show ∀ k, zrV K c0 X0 (zpY c0 k) (zpX c0 k) from zgs _ _ (zpW c0) (zpV c0) (zrV K c0 X0)
 (by intro _ _ _ _ hs;exact absurd hs Bool.false_ne_true)
 (by intro P0 S0 hX0 sv0 zbk zcr zdI hs hk zll;subst zll;exact hX _ (zaH (by kernel_rfl) (zc hs hk (fun hs hk=>(zaE hs fun hc hs=>And.intro hc (zxl hX0 hs hk rfl))) (fun hs hk=>hk))))) _ hs hk zll
def zFu (c0:straight) (s:(Sl Gate)):Int :=
  (zpZ c0 s (s.len:Int) (0:Int))
def zFv (c0:straight) (s:(Sl Gate)):Bool :=
  (zp0 c0 s (s.len:Int) (0:Int))
end
theorem zMS (c0:straight) (s:(Sl Gate)) (K:List PA→Prop) (hs:zFv c0 s=true) (hk:K (zBZ (zFu c0 s))):vcFun Try.prog zJR zrU 119 [.one (.sl s.len 3 (fun i=>enc_55 (s.get i))),.one (.fn 117 [] [.fp (zaj c0) 0])] K :=
  zaH (by kernel_rfl) (zxm hs hk rfl)
abbrev zJS:Ctrs:=csm zMc (fun _ _=>[]) (fun _=>false)
def zrW:Ann:=⟨19,[(0,zK [0,1] []),(1,zK [0,1,7,8] []),(2,zK [0,1,7,8,9] []),(3,zK [0,1,5,7,8] []),(4,zK [0,1,5,7,8,16] []),(5,zK [4] []),(6,zK [0,1,7,8] []),(7,zK [4] [])],
 [(2,zK [0,1,7,8] [])],
 [(5,zK [0,1,5,7,8,16] [])],
 [],[]⟩
abbrev zMT:=Int
abbrev zB0 (r:zMT):List PA:=[.one (.int .i64 r)]
@[irreducible] def z119b:=ptF Try.prog zJS zrW Try.f119
def ztN (c0:straight) (sv0:(Sl Gate)) (zbk:Int) (zcr:Int) (zdI:Nat→List PV):St:=⟨[(0,zP (.sl sv0.len 3 zdI)),(1,zP (.fn 123 [] [.fp (zaj c0) 0])),(7,zI zbk),(8,zI zcr)],[],[]⟩
abbrev zrX (K:List PA→Prop) (c0:straight) (X:St→Prop) (P:(Sl Gate)→Int→Int→Bool) (S:(Sl Gate)→Int→Int→Int):Prop:=∀ ⦃sv0:(Sl Gate)⦄ ⦃zbk:Int⦄ ⦃zcr:Int⦄ ⦃zdI:Nat→List PV⦄,P sv0 zbk zcr=true→K (zB0 (S sv0 zbk zcr))→zdI=zg enc_55 sv0→X (ztN c0 sv0 zbk zcr zdI)
section
variable {K:List PA→Prop} {c0:straight} {s:(Sl Gate)} {sv0:(Sl Gate)} {zbk:Int} {zcr:Int} {zdI:Nat→List PV} {X0:St→Prop} {P0:(Sl Gate)→Int→Int→Bool} {S0:(Sl Gate)→Int→Int→Int} {sv1:(Sl Gate)} {iv1:Int} {zg1:Int} {zlk:Int} {zep:Bool} {zpS:Nat→List PV}
def zp1 (S0:(Sl Gate)→Int→Int→Int) (c0:straight) (sv1:(Sl Gate)) (iv1:Int) (zg1:Int) (zlk:Int) (zep:Bool):Int :=
  (cond zep
 iv1
 (S0 sv1 zg1 (w64 (zlk+(1:Int)))))
def zp2 (P0:(Sl Gate)→Int→Int→Bool) (c0:straight) (sv1:(Sl Gate)) (iv1:Int) (zg1:Int) (zlk:Int) (zep:Bool):Bool :=
  (cond zep
 true
 (P0 sv1 zg1 (w64 (zlk+(1:Int)))))
theorem zxn (hX0:zrX K c0 X0 P0 S0) (hs:zp2 P0 c0 sv1 iv1 zg1 zlk zep=true) (hk:K (zB0 (zp1 S0 c0 sv1 iv1 zg1 zlk zep))) (zxk:zpS=zg enc_55 sv1):z119b K [1,0,1,0,0,1,1,0,0,1,1] [X0] ⟨[(0,zP (.sl sv1.len 3 zpS)),(1,zP (.fn 123 [] [.fp (zaj c0) 0])),(5,zI iv1),(7,zI zg1),(8,zI zlk),(16,zB zep)],[],[]⟩:=by subst zxk;exact zaH (by kernel_rfl) (zc hs hk (fun hs hk=>hk) (fun hs hk=>(hX0 hs hk rfl)))
def zp3 (c0:straight) (S0:(Sl Gate)→Int→Int→Int) (sv0:(Sl Gate)) (zbk:Int) (zcr:Int):Int :=
  (cond (decide (zcr < zbk))
 (zp1 S0 c0 sv0 zcr zbk zcr (zMb c0 (sv0.get zcr.toNat)))
 (-1:Int))
def zp4 (c0:straight) (P0:(Sl Gate)→Int→Int→Bool) (sv0:(Sl Gate)) (zbk:Int) (zcr:Int):Bool :=
  (cond (decide (zcr < zbk))
 (decide ((0≤zcr∧zcr < (sv0.len:Int))) &&
 (zp2 P0 c0 sv0 zcr zbk zcr (zMb c0 (sv0.get zcr.toNat))))
 true)
def zp5 (c0:straight):Nat→(Sl Gate)→Int→Int→Int:=lpO (fun _ _ _=>default) (zp3 c0)
def zp6 (c0:straight):Nat→(Sl Gate)→Int→Int→Bool:=lpO (fun _ _ _=>false) (zp4 c0)
def zp7 (c0:straight) (sv0:(Sl Gate)) (zbk:Int) (zcr:Int):Int:=zp5 c0 Fuel sv0 zbk zcr
def zp8 (c0:straight) (sv0:(Sl Gate)) (zbk:Int) (zcr:Int):Bool:=zp6 c0 Fuel sv0 zbk zcr
theorem zxo (hs:zp8 c0 sv0 zbk zcr=true) (hk:K (zB0 (zp7 c0 sv0 zbk zcr))) (zll:zdI=zg enc_55 sv0):z119b K [1,0,1,0] [] (ztN c0 sv0 zbk zcr zdI) :=
  zl (fun X=>z119b K [1,0,1,0,0] [X]) (by kernel_rfl) fun X0 hX =>
  (show ∀ k, zrX K c0 X0 (zp6 c0 k) (zp5 c0 k) from zgs _ _ (zp4 c0) (zp3 c0) (zrX K c0 X0)
 (by intro _ _ _ _ hs;exact absurd hs Bool.false_ne_true)
 (by intro P0 S0 hX0 sv0 zbk zcr zdI hs hk zll;subst zll;exact hX _ (zaH (by kernel_rfl) (zc hs hk (fun hs hk=>(zaE hs fun hc hs=>And.intro hc (zxn hX0 hs hk rfl))) (fun hs hk=>hk))))) _ hs hk zll
def zFw (c0:straight) (s:(Sl Gate)):Int :=
  (zp7 c0 s (s.len:Int) (0:Int))
def zFx (c0:straight) (s:(Sl Gate)):Bool :=
  (zp8 c0 s (s.len:Int) (0:Int))
end
theorem zMU (c0:straight) (s:(Sl Gate)) (K:List PA→Prop) (hs:zFx c0 s=true) (hk:K (zB0 (zFw c0 s))):vcFun Try.prog zJS zrW 119 [.one (.sl s.len 3 (fun i=>enc_55 (s.get i))),.one (.fn 123 [] [.fp (zaj c0) 0])] K :=
  zaH (by kernel_rfl) (zxo hs hk rfl)
def zxp : List PA → COut
  | [.one (.sl a0_n a0_s a0_g),.one (.fn 100 [] [.fp [.sl c0_Gates_n c0_Gates_s c0_Gates_g] 0])]=>.det (IsE enc_55 3 a0_s a0_g∧IsE enc_55 3 c0_Gates_s c0_Gates_g∧zMQ (⟨(⟨c0_Gates_n,zaf c0_Gates_g⟩:(Sl Gate))⟩:list) (⟨a0_n,zaf a0_g⟩:(Sl Gate))=true) [.one (.int .i64 (zMP (⟨(⟨c0_Gates_n,zaf c0_Gates_g⟩:(Sl Gate))⟩:list) (⟨a0_n,zaf a0_g⟩:(Sl Gate))))]
  | [.one (.sl a0_n a0_s a0_g),.one (.fn 117 [] [.fp [.int .i64 c0_slope,.int .i64 c0_start,.int .i64 c0_den] 0])]=>.det (IsE enc_55 3 a0_s a0_g∧zFv (⟨c0_slope,c0_start,c0_den⟩:straight) (⟨a0_n,zaf a0_g⟩:(Sl Gate))=true) [.one (.int .i64 (zFu (⟨c0_slope,c0_start,c0_den⟩:straight) (⟨a0_n,zaf a0_g⟩:(Sl Gate))))]
  | [.one (.sl a0_n a0_s a0_g),.one (.fn 123 [] [.fp [.int .i64 c0_slope,.int .i64 c0_start,.int .i64 c0_den] 0])]=>.det (IsE enc_55 3 a0_s a0_g∧zFx (⟨c0_slope,c0_start,c0_den⟩:straight) (⟨a0_n,zaf a0_g⟩:(Sl Gate))=true) [.one (.int .i64 (zFw (⟨c0_slope,c0_start,c0_den⟩:straight) (⟨a0_n,zaf a0_g⟩:(Sl Gate))))]
  | _=>.no
theorem zFy:zak Try.prog 119:=⟨_,rfl,rfl,by kernel_rfl⟩
theorem zMV:Ok Try.prog 119 zxp:=zaU zJQ zFy fun args K h=>by
  unfold zxp at h
  split at h
  · rename_i a0_n a0_s a0_g c0_Gates_n c0_Gates_s c0_Gates_g
    obtain ⟨⟨⟨rfl,a0_f,rfl⟩,⟨rfl,c0_Gates_f,rfl⟩,hs⟩,hk⟩:=h
    try rw [zae a0_f] at hs
    try rw [zae a0_f] at hk
    try rw [zae c0_Gates_f] at hs
    try rw [zae c0_Gates_f] at hk
    exact ⟨(fun _ _=>[]),(fun _=>false),zxh,zPg (⟨(⟨c0_Gates_n,c0_Gates_f⟩:(Sl Gate))⟩:list) (⟨a0_n,a0_f⟩:(Sl Gate)) K hs hk⟩
  · rename_i a0_n a0_s a0_g c0_slope c0_start c0_den
    obtain ⟨⟨⟨rfl,a0_f,rfl⟩,hs⟩,hk⟩:=h
    try rw [zae a0_f] at hs
    try rw [zae a0_f] at hk
    exact ⟨(fun _ _=>[]),(fun _=>false),zrU,zMS (⟨c0_slope,c0_start,c0_den⟩:straight) (⟨a0_n,a0_f⟩:(Sl Gate)) K hs hk⟩
  · rename_i a0_n a0_s a0_g c0_slope c0_start c0_den
    obtain ⟨⟨⟨rfl,a0_f,rfl⟩,hs⟩,hk⟩:=h
    try rw [zae a0_f] at hs
    try rw [zae a0_f] at hk
    exact ⟨(fun _ _=>[]),(fun _=>false),zrW,zMU (⟨c0_slope,c0_start,c0_den⟩:straight) (⟨a0_n,a0_f⟩:(Sl Gate)) K hs hk⟩
  · exact h.elim
abbrev T99:Tabs:=(Tabs.nil.addF 119 zxp)
theorem zMW:TabsOk Try.prog T99:=(TabsOk.nil.addF zMV)
abbrev G99:Ctrs:=csm T99 (fun _ _=>[]) (fun _=>false)
def zJT:Ann:=⟨9,[(0,zK [0,1] []),(1,zK [4] [])],
 [],
 [],
 [],[]⟩
abbrev R99:=Bool
abbrev e99 (r:R99):List PA:=[.one (.bool r)]
section
variable {K:List PA→Prop} {c0:list} {s:(Sl Gate)}
def s99 (c0:list) (s:(Sl Gate)):Bool :=
  (decide ((zMP c0 s) ≥ (0:Int)))
def p99 (c0:list) (s:(Sl Gate)):Bool :=
  (decide ((zMQ c0 s=true)) &&
 true)
end
theorem q99 (c0:list) (s:(Sl Gate)) (K:List PA→Prop) (hs:p99 c0 s=true) (hk:K (e99 (s99 c0 s))):vcFun Try.prog G99 zJT 99 [.one (.sl s.len 3 (fun i=>enc_55 (s.get i))),.one (.fn 100 [] [.fp (zcH c0) 0])] K :=
  zaH (by kernel_rfl) (zaE hs fun hc hs=>And.intro (And.intro (zE enc_55 3 s.get) (And.intro (zE enc_55 3 c0.Gates.get) hc)) hk)
abbrev zPh:Ctrs:=csm T99 (fun _ _=>[]) (fun _=>false)
def zDh:Ann:=⟨9,[(0,zK [0,1] []),(1,zK [4] [])],
 [],
 [],
 [],[]⟩
abbrev zPi:=Bool
abbrev zPj (r:zPi):List PA:=[.one (.bool r)]
section
variable {K:List PA→Prop} {c0:straight} {s:(Sl Gate)}
def zMX (c0:straight) (s:(Sl Gate)):Bool :=
  (decide ((zFu c0 s) ≥ (0:Int)))
def zMY (c0:straight) (s:(Sl Gate)):Bool :=
  (decide ((zFv c0 s=true)) &&
 true)
end
theorem zPk (c0:straight) (s:(Sl Gate)) (K:List PA→Prop) (hs:zMY c0 s=true) (hk:K (zPj (zMX c0 s))):vcFun Try.prog zPh zDh 99 [.one (.sl s.len 3 (fun i=>enc_55 (s.get i))),.one (.fn 117 [] [.fp (zaj c0) 0])] K :=
  zaH (by kernel_rfl) (zaE hs fun hc hs=>And.intro (And.intro (zE enc_55 3 s.get) hc) hk)
abbrev zPl:Ctrs:=csm T99 (fun _ _=>[]) (fun _=>false)
def zDi:Ann:=⟨9,[(0,zK [0,1] []),(1,zK [4] [])],
 [],
 [],
 [],[]⟩
abbrev zPm:=Bool
abbrev zPn (r:zPm):List PA:=[.one (.bool r)]
section
variable {K:List PA→Prop} {c0:straight} {s:(Sl Gate)}
def zMZ (c0:straight) (s:(Sl Gate)):Bool :=
  (decide ((zFw c0 s) ≥ (0:Int)))
def zM0 (c0:straight) (s:(Sl Gate)):Bool :=
  (decide ((zFx c0 s=true)) &&
 true)
end
theorem zPo (c0:straight) (s:(Sl Gate)) (K:List PA→Prop) (hs:zM0 c0 s=true) (hk:K (zPn (zMZ c0 s))):vcFun Try.prog zPl zDi 99 [.one (.sl s.len 3 (fun i=>enc_55 (s.get i))),.one (.fn 123 [] [.fp (zaj c0) 0])] K :=
  zaH (by kernel_rfl) (zaE hs fun hc hs=>And.intro (And.intro (zE enc_55 3 s.get) hc) hk)
def zxq : List PA → COut
  | [.one (.sl a0_n a0_s a0_g),.one (.fn 100 [] [.fp [.sl c0_Gates_n c0_Gates_s c0_Gates_g] 0])]=>.det (IsE enc_55 3 a0_s a0_g∧IsE enc_55 3 c0_Gates_s c0_Gates_g∧p99 (⟨(⟨c0_Gates_n,zaf c0_Gates_g⟩:(Sl Gate))⟩:list) (⟨a0_n,zaf a0_g⟩:(Sl Gate))=true) [.one (.bool (s99 (⟨(⟨c0_Gates_n,zaf c0_Gates_g⟩:(Sl Gate))⟩:list) (⟨a0_n,zaf a0_g⟩:(Sl Gate))))]
  | [.one (.sl a0_n a0_s a0_g),.one (.fn 117 [] [.fp [.int .i64 c0_slope,.int .i64 c0_start,.int .i64 c0_den] 0])]=>.det (IsE enc_55 3 a0_s a0_g∧zMY (⟨c0_slope,c0_start,c0_den⟩:straight) (⟨a0_n,zaf a0_g⟩:(Sl Gate))=true) [.one (.bool (zMX (⟨c0_slope,c0_start,c0_den⟩:straight) (⟨a0_n,zaf a0_g⟩:(Sl Gate))))]
  | [.one (.sl a0_n a0_s a0_g),.one (.fn 123 [] [.fp [.int .i64 c0_slope,.int .i64 c0_start,.int .i64 c0_den] 0])]=>.det (IsE enc_55 3 a0_s a0_g∧zM0 (⟨c0_slope,c0_start,c0_den⟩:straight) (⟨a0_n,zaf a0_g⟩:(Sl Gate))=true) [.one (.bool (zMZ (⟨c0_slope,c0_start,c0_den⟩:straight) (⟨a0_n,zaf a0_g⟩:(Sl Gate))))]
  | _=>.no
theorem zJU:zak Try.prog 99:=⟨_,rfl,rfl,by kernel_rfl⟩
theorem zM1:Ok Try.prog 99 zxq:=zaU zMW zJU fun args K h=>by
  unfold zxq at h
  split at h
  · rename_i a0_n a0_s a0_g c0_Gates_n c0_Gates_s c0_Gates_g
    obtain ⟨⟨⟨rfl,a0_f,rfl⟩,⟨rfl,c0_Gates_f,rfl⟩,hs⟩,hk⟩:=h
    try rw [zae a0_f] at hs
    try rw [zae a0_f] at hk
    try rw [zae c0_Gates_f] at hs
    try rw [zae c0_Gates_f] at hk
    exact ⟨(fun _ _=>[]),(fun _=>false),zJT,q99 (⟨(⟨c0_Gates_n,c0_Gates_f⟩:(Sl Gate))⟩:list) (⟨a0_n,a0_f⟩:(Sl Gate)) K hs hk⟩
  · rename_i a0_n a0_s a0_g c0_slope c0_start c0_den
    obtain ⟨⟨⟨rfl,a0_f,rfl⟩,hs⟩,hk⟩:=h
    try rw [zae a0_f] at hs
    try rw [zae a0_f] at hk
    exact ⟨(fun _ _=>[]),(fun _=>false),zDh,zPk (⟨c0_slope,c0_start,c0_den⟩:straight) (⟨a0_n,a0_f⟩:(Sl Gate)) K hs hk⟩
  · rename_i a0_n a0_s a0_g c0_slope c0_start c0_den
    obtain ⟨⟨⟨rfl,a0_f,rfl⟩,hs⟩,hk⟩:=h
    try rw [zae a0_f] at hs
    try rw [zae a0_f] at hk
    exact ⟨(fun _ _=>[]),(fun _=>false),zDi,zPo (⟨c0_slope,c0_start,c0_den⟩:straight) (⟨a0_n,a0_f⟩:(Sl Gate)) K hs hk⟩
  · exact h.elim
abbrev T67:Tabs:=(Tabs.nil.addF 99 zxq)
theorem zM2:TabsOk Try.prog T67:=(TabsOk.nil.addF zM1)
abbrev G67:Ctrs:=csm T67 (fun _ _=>[]) (fun _=>false)
def zJV:Ann:=⟨8,[(0,zK [1] [1]),(1,zK [2] [])],
 [],
 [],
 [],[]⟩
abbrev R67:=Bool
abbrev e67 (r:R67):List PA:=[.one (.bool r)]
section
variable {K:List PA→Prop} {l_a0:list}
def s67 (l_a0:list):Bool :=
  (!(s99 l_a0 l_a0.Gates))
def p67 (l_a0:list):Bool :=
  (decide ((p99 l_a0 l_a0.Gates=true)) &&
 true)
end
theorem q67 (l_a0:list) (K:List PA→Prop) (hs:p67 l_a0=true) (hk:K (e67 (s67 l_a0))):vcFun Try.prog G67 zJV 67 [.agg (zcH l_a0)] K :=
  zaH (by kernel_rfl) (zaE hs fun hc hs=>And.intro (And.intro (zE enc_55 3 l_a0.Gates.get) (And.intro (zE enc_55 3 l_a0.Gates.get) hc)) hk)
def zrY : List PA → COut
  | [.agg [.sl a0_Gates_n a0_Gates_s a0_Gates_g]]=>.det (IsE enc_55 3 a0_Gates_s a0_Gates_g∧p67 (⟨(⟨a0_Gates_n,zaf a0_Gates_g⟩:(Sl Gate))⟩:list)=true) [.one (.bool (s67 (⟨(⟨a0_Gates_n,zaf a0_Gates_g⟩:(Sl Gate))⟩:list)))]
  | _=>.no
theorem zJW:zak Try.prog 67:=⟨_,rfl,rfl,by kernel_rfl⟩
theorem zJX:Ok Try.prog 67 zrY:=zaU zM2 zJW fun args K h=>by
  unfold zrY at h
  split at h
  · rename_i a0_Gates_n a0_Gates_s a0_Gates_g
    obtain ⟨⟨⟨rfl,a0_Gates_f,rfl⟩,hs⟩,hk⟩:=h
    try rw [zae a0_Gates_f] at hs
    try rw [zae a0_Gates_f] at hk
    exact ⟨(fun _ _=>[]),(fun _=>false),zJV,q67 (⟨(⟨a0_Gates_n,a0_Gates_f⟩:(Sl Gate))⟩:list) K hs hk⟩
  · exact h.elim
abbrev zOv:Tabs:=Tabs.nil
theorem zJY:TabsOk Try.prog zOv:=TabsOk.nil
abbrev zOw:Ctrs:=csm zOv (fun _ _=>[]) (fun _=>false)
def zxr:Ann:=⟨12,[(0,zK [0,1] []),(1,zK [0,1,6] []),(2,zK [0,1] []),(3,zK [4] [])],
 [(1,zK [0,1] [])],
 [],
 [],[]⟩
abbrev zPp:=Int
abbrev zM3 (r:zPp):List PA:=[.one (.int .i64 r)]
@[irreducible] def z114:=ptF Try.prog zOw zxr Try.f114
def zxs (av0:Int) (bv0:Int):St:=⟨[(0,zI av0),(1,zI bv0)],[],[]⟩
abbrev zDj (K:List PA→Prop) (X:St→Prop) (P:Int→Int→Bool) (S:Int→Int→Int):Prop:=∀ ⦃av0:Int⦄ ⦃bv0:Int⦄,P av0 bv0=true→K (zM3 (S av0 bv0))→X (zxs av0 bv0)
section
variable {K:List PA→Prop} {a:Int} {b:Int} {av0:Int} {bv0:Int} {X0:St→Prop} {P0:Int→Int→Bool} {S0:Int→Int→Int}
def ztO (S0:Int→Int→Int) (av0:Int) (bv0:Int):Int :=
  (cond (decide (bv0 > (0:Int)))
 (S0 bv0 (av0.tmod bv0))
 av0)
def ztP (P0:Int→Int→Bool) (av0:Int) (bv0:Int):Bool :=
  (cond (decide (bv0 > (0:Int)))
 (decide ((bv0 ≠ 0)) &&
 (P0 bv0 (av0.tmod bv0)))
 true)
def ztQ:Nat→Int→Int→Int:=lpO (fun _ _=>default) (ztO)
def ztR:Nat→Int→Int→Bool:=lpO (fun _ _=>false) (ztP)
def ztS (av0:Int) (bv0:Int):Int:=ztQ Fuel av0 bv0
def ztT (av0:Int) (bv0:Int):Bool:=ztR Fuel av0 bv0
theorem zB1 (hs:ztT av0 bv0=true) (hk:K (zM3 (ztS av0 bv0))):z114 K [1,0,0] [] (zxs av0 bv0) :=
  zl (fun X=>z114 K [1,0,0,0] [X]) (by kernel_rfl) fun X0 hX =>
  (show ∀ k, zDj K X0 (ztR k) (ztQ k) from zgs _ _ (ztP) (ztO) (zDj K X0)
 (by intro _ _ hs;exact absurd hs Bool.false_ne_true)
 (by intro P0 S0 hX0 av0 bv0 hs hk;exact hX _ (zaH (by kernel_rfl) (zc hs hk (fun hs hk=>(zaE hs fun hc hs=>And.intro hc (hX0 hs hk))) (fun hs hk=>hk))))) _ hs hk
def zIF (a:Int) (b:Int):Int :=
  (ztS a b)
def zM4 (a:Int) (b:Int):Bool :=
  (ztT a b)
end
theorem zPq (a:Int) (b:Int) (K:List PA→Prop) (hs:zM4 a b=true) (hk:K (zM3 (zIF a b))):vcFun Try.prog zOw zxr 114 [.one (.int .i64 a),.one (.int .i64 b)] K :=
  zaH (by kernel_rfl) (zB1 hs hk)
def zxt : List PA → COut
  | [.one (.int .i64 a0),.one (.int .i64 a1)]=>.det (zM4 a0 a1=true) [.one (.int .i64 (zIF a0 a1))]
  | _=>.no
theorem zFz:zak Try.prog 114:=⟨_,rfl,rfl,by kernel_rfl⟩
theorem zM5:Ok Try.prog 114 zxt:=zaU zJY zFz fun args K h=>by
  unfold zxt at h
  split at h
  · rename_i a0 a1
    obtain ⟨hs,hk⟩:=h
    exact ⟨(fun _ _=>[]),(fun _=>false),zxr,zPq a0 a1 K hs hk⟩
  · exact h.elim
abbrev T89:Tabs:=(Tabs.nil.addF 114 zxt)
theorem zM6:TabsOk Try.prog T89:=(TabsOk.nil.addF zM5)
abbrev G89:Ctrs:=csm T89 (fun _ _=>[]) (fun _=>false)
def zJZ:Ann:=⟨19,[(0,zK [0,1,4] [4]),(1,zK [0,1,4,5] [4]),(2,zK [4] [4])],
 [],
 [],
 [],[]⟩
abbrev R89:=Frac
abbrev e89 (r:R89):List PA:=[.agg [.int .i64 r.Num,.int .i64 r.Den]]
section
variable {K:List PA→Prop} {num:Int} {den:Int}
def s89 (num:Int) (den:Int):Frac :=
  (⟨(w64 (num.tdiv (zIF (if (w64 (0 - num)) > num then (w64 (0 - num)) else num) den))),(w64 (den.tdiv (zIF (if (w64 (0 - num)) > num then (w64 (0 - num)) else num) den)))⟩:Frac)
def p89 (num:Int) (den:Int):Bool :=
  (decide ((zM4 (if (w64 (0 - num)) > num then (w64 (0 - num)) else num) den=true)) &&
 (decide (((zIF (if (w64 (0 - num)) > num then (w64 (0 - num)) else num) den) ≠ 0)) &&
 (decide (((zIF (if (w64 (0 - num)) > num then (w64 (0 - num)) else num) den) ≠ 0)) &&
 true)))
end
theorem q89 (num:Int) (den:Int) (K:List PA→Prop) (hs:p89 num den=true) (hk:K (e89 (s89 num den))):vcFun Try.prog G89 zJZ 89 [.one (.int .i64 num),.one (.int .i64 den)] K :=
  zaH (by kernel_rfl) (zaE hs fun hc hs=>And.intro hc (zaE hs fun hc hs=>And.intro hc (zaE hs fun hc hs=>And.intro hc hk)))
def zvq : List PA → COut
  | [.one (.int .i64 a0),.one (.int .i64 a1)]=>.det (p89 a0 a1=true) [.agg [.int .i64 ((s89 a0 a1).Num),.int .i64 ((s89 a0 a1).Den)]]
  | _=>.no
theorem zJ0:zak Try.prog 89:=⟨_,rfl,rfl,by kernel_rfl⟩
theorem zMd:Ok Try.prog 89 zvq:=zaU zM6 zJ0 fun args K h=>by
  unfold zvq at h
  split at h
  · rename_i a0 a1
    obtain ⟨hs,hk⟩:=h
    exact ⟨(fun _ _=>[]),(fun _=>false),zJZ,q89 a0 a1 K hs hk⟩
  · exact h.elim
abbrev T79:Tabs:=(Tabs.nil.addF 89 zvq)
theorem zM7:TabsOk Try.prog T79:=(TabsOk.nil.addF zMd)
abbrev G79:Ctrs:=csm T79 (fun _ _=>[]) (fun _=>false)
def zJ1:Ann:=⟨14,[(0,zK [1,2] [1,2]),(1,zK [2] [2])],
 [],
 [],
 [],[]⟩
abbrev R79:=Line
abbrev e79 (r:R79):List PA:=[.agg [.int .i64 r.Slope.Num,.int .i64 r.Slope.Den,.int .i64 r.Start.Num,.int .i64 r.Start.Den]]
section
variable {K:List PA→Prop} {s:straight}
def s79 (s:straight):Line :=
  (⟨(s89 s.slope s.den),(s89 s.start s.den)⟩:Line)
def p79 (s:straight):Bool :=
  (decide ((p89 s.slope s.den=true)) &&
 (decide ((p89 s.start s.den=true)) &&
 true))
end
theorem q79 (s:straight) (K:List PA→Prop) (hs:p79 s=true) (hk:K (e79 (s79 s))):vcFun Try.prog G79 zJ1 79 [.agg (zaj s)] K :=
  zaH (by kernel_rfl) (zaE hs fun hc hs=>And.intro hc (zaE hs fun hc hs=>And.intro hc hk))
def zB2 : List PA → COut
  | [.agg [.int .i64 a0_slope,.int .i64 a0_start,.int .i64 a0_den]]=>.det (p79 (⟨a0_slope,a0_start,a0_den⟩:straight)=true) [.agg [.int .i64 ((s79 (⟨a0_slope,a0_start,a0_den⟩:straight)).Slope.Num),.int .i64 ((s79 (⟨a0_slope,a0_start,a0_den⟩:straight)).Slope.Den),.int .i64 ((s79 (⟨a0_slope,a0_start,a0_den⟩:straight)).Start.Num),.int .i64 ((s79 (⟨a0_slope,a0_start,a0_den⟩:straight)).Start.Den)]]
  | _=>.no
theorem zJ2:zak Try.prog 79:=⟨_,rfl,rfl,by kernel_rfl⟩
theorem zOx:Ok Try.prog 79 zB2:=zaU zM7 zJ2 fun args K h=>by
  unfold zB2 at h
  split at h
  · rename_i a0_slope a0_start a0_den
    obtain ⟨hs,hk⟩:=h
    exact ⟨(fun _ _=>[]),(fun _=>false),zJ1,q79 (⟨a0_slope,a0_start,a0_den⟩:straight) K hs hk⟩
  · exact h.elim
abbrev T96:Tabs:=Tabs.nil
theorem zM8:TabsOk Try.prog T96:=TabsOk.nil
abbrev G96:Ctrs:=csm T96 (fun _ _=>[]) (fun _=>false)
def zFA:Ann:=⟨4,[(0,⟨[1],[1],[],[],[],[],[]⟩),(1,⟨[2],[],[],[],[],[],[]⟩)],
 [],
 [],
 [],[]⟩
theorem zFB (l_a0 : list) (K : List PA → Prop) :
  vcFun Try.prog G96 zFA 96 [.agg [.sl l_a0.Gates.len 3 (fun i=>enc_55 (l_a0.Gates.get i))]] K =
  (K [.one (.fn 115 [] [.fp (zcH l_a0) 0])]):=by kernel_rfl
theorem q96 (l_a0:list) (K:List PA→Prop) (hk:K [.one (.fn 115 [] [.fp (zcH l_a0) 0])]):vcFun Try.prog G96 zFA 96 [.agg [.sl l_a0.Gates.len 3 (fun i=>enc_55 (l_a0.Gates.get i))]] K:=zaH (zFB l_a0 K) hk
def zFC : List PA → COut
  | [.agg [.sl a0_Gates_n a0_Gates_s a0_Gates_g]]=>.det (IsE enc_55 3 a0_Gates_s a0_Gates_g) [.one (.fn 115 [] [.fp (zcH (⟨(⟨a0_Gates_n,zaf a0_Gates_g⟩:(Sl Gate))⟩:list)) 0])]
  | _=>.no
theorem zJ3:zak Try.prog 96:=⟨_,rfl,rfl,by kernel_rfl⟩
theorem zPr:Ok Try.prog 96 zFC:=zaU zM8 zJ3 fun args K h=>by
  unfold zFC at h
  split at h
  · rename_i a0_Gates_n a0_Gates_s a0_Gates_g
    obtain ⟨⟨rfl,a0_Gates_f,rfl⟩,hk⟩:=h
    try rw [zae a0_Gates_f] at hk
    exact ⟨fun _ _=>[],fun _=>false,zFA,q96 (⟨(⟨a0_Gates_n,a0_Gates_f⟩:(Sl Gate))⟩:list) K hk⟩
  · exact h.elim
abbrev T97:Tabs:=(Tabs.nil.addF 99 zxq)
theorem zM9:TabsOk Try.prog T97:=(TabsOk.nil.addF zM1)
abbrev G97:Ctrs:=csm T97 (fun _ _=>[]) (fun _=>false)
def zFD:Ann:=⟨11,[(0,zK [2,3] [2,3]),(1,zK [4] [])],
 [],
 [],
 [],[]⟩
abbrev R97:=Bool
abbrev e97 (r:R97):List PA:=[.one (.bool r)]
section
variable {K:List PA→Prop} {s:set} {x:straight}
def s97 (s:set) (x:straight):Bool :=
  (!(zMX x s.list.Gates))
def p97 (s:set) (x:straight):Bool :=
  (decide ((zMY x s.list.Gates=true)) &&
 true)
end
theorem q97 (s:set) (x:straight) (K:List PA→Prop) (hs:p97 s x=true) (hk:K (e97 (s97 s x))):vcFun Try.prog G97 zFD 97 [.agg (zbg s),.agg (zaj x)] K :=
  zaH (by kernel_rfl) (zaE hs fun hc hs=>And.intro (And.intro (zE enc_55 3 s.list.Gates.get) hc) hk)
def zFE : List PA → COut
  | [.agg [.sl a0_list_Gates_n a0_list_Gates_s a0_list_Gates_g,.sl a0_corners_n a0_corners_s a0_corners_g],.agg [.int .i64 a1_slope,.int .i64 a1_start,.int .i64 a1_den]]=>.det (IsE enc_55 3 a0_list_Gates_s a0_list_Gates_g∧IsE zaj 3 a0_corners_s a0_corners_g∧p97 (⟨(⟨(⟨a0_list_Gates_n,zaf a0_list_Gates_g⟩:(Sl Gate))⟩:list),(⟨a0_corners_n,za6 a0_corners_g⟩:(Sl straight))⟩:set) (⟨a1_slope,a1_start,a1_den⟩:straight)=true) [.one (.bool (s97 (⟨(⟨(⟨a0_list_Gates_n,zaf a0_list_Gates_g⟩:(Sl Gate))⟩:list),(⟨a0_corners_n,za6 a0_corners_g⟩:(Sl straight))⟩:set) (⟨a1_slope,a1_start,a1_den⟩:straight)))]
  | [.agg [.sl a0_list_Gates_n a0_list_Gates_s a0_list_Gates_g,.nils],.agg [.int .i64 a1_slope,.int .i64 a1_start,.int .i64 a1_den]]=>.det (IsE enc_55 3 a0_list_Gates_s a0_list_Gates_g∧p97 (⟨(⟨(⟨a0_list_Gates_n,zaf a0_list_Gates_g⟩:(Sl Gate))⟩:list),(⟨0,fun _=>default⟩:(Sl straight))⟩:set) (⟨a1_slope,a1_start,a1_den⟩:straight)=true) [.one (.bool (s97 (⟨(⟨(⟨a0_list_Gates_n,zaf a0_list_Gates_g⟩:(Sl Gate))⟩:list),(⟨0,fun _=>default⟩:(Sl straight))⟩:set) (⟨a1_slope,a1_start,a1_den⟩:straight)))]
  | _=>.no
theorem zJ4:zak Try.prog 97:=⟨_,rfl,rfl,by kernel_rfl⟩
theorem zPs:Ok Try.prog 97 zFE:=zfT zM9 zJ4 fun args K h=>by
  unfold zFE at h
  split at h
  · rename_i a0_list_Gates_n a0_list_Gates_s a0_list_Gates_g a0_corners_n a0_corners_s a0_corners_g a1_slope a1_start a1_den
    obtain ⟨⟨⟨rfl,a0_list_Gates_f,rfl⟩,⟨rfl,a0_corners_f,rfl⟩,hs⟩,hk⟩:=h
    try rw [zae a0_list_Gates_f] at hs
    try rw [zae a0_list_Gates_f] at hk
    try rw [za0 a0_corners_f] at hs
    try rw [za0 a0_corners_f] at hk
    exact ⟨_,zeT zfB _,(fun _ _=>[]),(fun _=>false),zFD,q97 (⟨(⟨(⟨a0_list_Gates_n,a0_list_Gates_f⟩:(Sl Gate))⟩:list),(⟨a0_corners_n,a0_corners_f⟩:(Sl straight))⟩:set) (⟨a1_slope,a1_start,a1_den⟩:straight) (Wk K) hs (zdW hk)⟩
  · rename_i a0_list_Gates_n a0_list_Gates_s a0_list_Gates_g a1_slope a1_start a1_den
    obtain ⟨⟨⟨rfl,a0_list_Gates_f,rfl⟩,hs⟩,hk⟩:=h
    try rw [zae a0_list_Gates_f] at hs
    try rw [zae a0_list_Gates_f] at hk
    exact ⟨_,(zdt (.agg (zdt (.rfl _) (zdt (.nil _ _) zhG))) (zdt (zfB _) zhG)),(fun _ _=>[]),(fun _=>false),zFD,q97 (⟨(⟨(⟨a0_list_Gates_n,a0_list_Gates_f⟩:(Sl Gate))⟩:list),(⟨0,fun _=>default⟩:(Sl straight))⟩:set) (⟨a1_slope,a1_start,a1_den⟩:straight) (Wk K) hs (zdW hk)⟩
  · exact h.elim
abbrev zOy:Tabs:=Tabs.nil
theorem zJ5:TabsOk Try.prog zOy:=TabsOk.nil
abbrev zOz:Ctrs:=csm zOy (fun _ _=>[]) (fun _=>false)
def zxu:Ann:=⟨30,[(0,zK [0,1,2,3,8] [8]),(1,zK [0,1,2,3,8,11] [8]),(2,zK [0,1,2,3,8] [8]),(3,zK [8] [8])],
 [],
 [(3,zK [0,1,2,3,8] [8])],
 [],[]⟩
abbrev zPt:=straight
abbrev e116 (r:zPt):List PA:=[.agg [.int .i64 r.slope,.int .i64 r.start,.int .i64 r.den]]
@[irreducible] def z116:=ptF Try.prog zOz zxu Try.f116
section
variable {K:List PA→Prop} {z:Int} {p:Int} {y_a2:Int} {q:Int} {zv0:Int} {pv0:Int} {yv0:Int} {qv0:Int}
def znW (zv0:Int) (pv0:Int) (yv0:Int) (qv0:Int):straight :=
  (⟨(w64 (qv0 - pv0)),(w64 ((w64 (pv0 * yv0)) - (w64 (qv0 * zv0)))),(w64 (yv0 - zv0))⟩:straight)
theorem ztU (hk:K (e116 (znW zv0 pv0 yv0 qv0))):z116 K [1,1] [] ⟨[(0,zI zv0),(1,zI pv0),(2,zI yv0),(3,zI qv0),(8,zp 8 0)],[(8,.box 118 (zm (zaj (⟨(0:Int),(0:Int),(0:Int)⟩:straight))))],[]⟩:=zaH (by kernel_rfl) hk
def zmK (z:Int) (p:Int) (y_a2:Int) (q:Int):straight :=
  (cond (decide (z > y_a2))
 (znW y_a2 q z p)
 (znW z p y_a2 q))
end
theorem zPu (z:Int) (p:Int) (y_a2:Int) (q:Int) (K:List PA→Prop) (hk:K (e116 (zmK z p y_a2 q))):vcFun Try.prog zOz zxu 116 [.one (.int .i64 z),.one (.int .i64 p),.one (.int .i64 y_a2),.one (.int .i64 q)] K :=
  zaH (by kernel_rfl) (zt hk (fun hk=>(ztU hk)) (fun hk=>(ztU hk)))
def zxv : List PA → COut
  | [.one (.int .i64 a0),.one (.int .i64 a1),.one (.int .i64 a2),.one (.int .i64 a3)]=>.tot [.agg [.int .i64 ((zmK a0 a1 a2 a3).slope),.int .i64 ((zmK a0 a1 a2 a3).start),.int .i64 ((zmK a0 a1 a2 a3).den)]]
  | _=>.no
theorem zFF:zak Try.prog 116:=⟨_,rfl,rfl,by kernel_rfl⟩
theorem zNa:Ok Try.prog 116 zxv:=zaU zJ5 zFF fun args K h=>by
  unfold zxv at h
  split at h
  · rename_i a0 a1 a2 a3
    have hk:=h
    exact ⟨(fun _ _=>[]),(fun _=>false),zxu,zPu a0 a1 a2 a3 K hk⟩
  · exact h.elim
abbrev zOA:Tabs:=(Tabs.nil.addF 116 zxv)
theorem zJ6:TabsOk Try.prog zOA:=(TabsOk.nil.addF zNa)
abbrev zxw:Ctrs:=csm zOA (fun _ _=>[]) (fun _=>false)
def zcF:Ann:=⟨64,[(0,⟨[0,1,12,13,14],[],[],[],[],[],[]⟩),(1,⟨[0,1,12,13,14,15],[],[],[],[],[],[]⟩),(2,⟨[0,1,3,4,12,13,14],[4],[],[],[],[],[]⟩),(3,⟨[0,1,4,12,13,14,23,24,25],[4],[],[],[],[],[]⟩),(4,⟨[0,1,4,12,13,14,23,24,25,26],[4],[],[],[],[],[]⟩),(5,⟨[0,1,4,6,12,13,14,23,24,25],[4,6],[],[],[],[],[]⟩),(6,⟨[0,1,4,6,12,13,14,23,24,25,33],[4,6],[],[],[],[],[]⟩),(7,⟨[0,1,4,6,12,13,14,23,24,25,38,39],[4,6],[],[],[],[],[]⟩),(8,⟨[0,1,4,6,12,13,14,23,24,25,38,39,40],[4,6],[],[],[],[],[]⟩),(9,⟨[0,1,4,6,8,12,13,14,23,24,25,38,39],[4,6],[],[],[],[],[]⟩),(10,⟨[0,1,4,6,8,12,13,14,23,24,25,38,39,46,47],[4,6],[],[],[],[],[]⟩),(11,⟨[0,1,4,6,8,12,13,14,23,24,25,38,39,46,47,48],[4,6],[],[],[],[],[]⟩),(12,⟨[0,1,4,6,8,10,12,13,14,23,24,25,38,39,46,47],[4,6],[],[],[],[],[]⟩),(13,⟨[0,1,4,6,8,12,13,14,23,24,25,38,39,46,47,59],[4,6],[],[],[],[],[]⟩),(14,⟨[0,1,4,6,8,12,13,14,23,24,25,38,39,46,47],[4,6],[],[],[],[],[]⟩),(15,⟨[0,1,4,6,12,13,14,23,24,25,38,39],[4,6],[],[],[],[],[]⟩),(16,⟨[0,1,4,12,13,14,23,24,25],[4],[],[],[],[],[]⟩),(17,⟨[0,1,12,13,14],[],[],[],[],[],[]⟩)],
 [(1,⟨[0,1,12,13,14],[],[],[],[],[],[]⟩),(4,⟨[0,1,4,12,13,14,23,24,25],[4],[],[],[],[4],[]⟩)],
 [],
 [(8,3,⟨[0,1,4,6,12,13,14,23,24,25,38,39],[4,6],[],[],[],[],[]⟩),(11,3,⟨[0,1,4,6,8,12,13,14,23,24,25,38,39,46,47],[4,6],[],[],[],[],[]⟩)],[13]⟩
def zf4 (l:Nat) (a:list) (zal:Int):St:=⟨[(0,.one (.c (.p (.yl l)))),(1,.one (.c (.p (.fp (zcH a) 0)))),(12,.one (.c (.p (.sl a.Gates.len 3 (fun i=>enc_55 (a.Gates.get i)))))),(13,.one (.c (.p (.int .i64 (a.Gates.len:Int))))),(14,.one (.c (.p (.int .i64 zal))))],[],[]⟩
def zh8 (l:Nat) (ys:List (List PA)) (a:list) (zal:Int):Prop:=vcY Try.prog zxw zcF l (cdF Try.f115 [1,0]) (zdE 0 zl8) ys false (zf4 l a zal)
def zf5 (l:Nat) (a:list) (za4:Int) (zf6:Nat) (zcI:Nat→List PV) (zb1:Int) (zaM:Int) (zbh:Int) (zbE:Int) (zbF:Int):St:=⟨[(0,.one (.c (.p (.yl l)))),(1,.one (.c (.p (.fp (zcH a) 0)))),(4,.one (.c (.ptr 4 0))),(12,.one (.c (.p (.sl a.Gates.len 3 (fun i=>enc_55 (a.Gates.get i)))))),(13,.one (.c (.p (.int .i64 (a.Gates.len:Int))))),(14,.one (.c (.p (.int .i64 za4)))),(23,.one (.c (.p (.sl zf6 3 zcI)))),(24,.one (.c (.p (.int .i64 zb1)))),(25,.one (.c (.p (.int .i64 zaM))))],[(4,.fbox [.int .i64 zbh,.int .i64 zbE,.int .i64 zbF])],[]⟩
def zh9 (l:Nat) (X0:List (List PA)→Bool→St→Prop) (ys:List (List PA)) (a:list) (za4:Int) (zf6:Nat) (zcI:Nat→List PV) (zb1:Int) (zaM:Int) (zbh:Int) (zbE:Int) (zbF:Int):Prop:=vcY Try.prog zxw zcF l (cdF Try.f115 [1,0,0,1,1,0,0,1,1,0]) (zdE 2 (zdE 1 (zIS (zIU Try.prog zcF 17 (vcY Try.prog zxw zcF l (cdF Try.f115 [1,0,0,1,1,1]) (zjN Try.prog zcF 1 X0 (zdE 0 zl8)))) (zjN Try.prog zcF 1 X0 (zdE 0 zl8))))) ys false (zf5 l a za4 zf6 zcI zb1 zaM zbh zbE zbF)
theorem zB3 (l : Nat) (a : list) (ys : List (List PA)) :
  vcIter Try.prog zxw zcF 115 l [.one (.fp (zcH a) 0)] ys =
  (zh8 l ys a (0:Int)):=by kernel_rfl
def zmL (l:Nat) (X0:List (List PA)→Bool→St→Prop) (ys:List (List PA)) (a:list) (zal:Int):Prop :=
  (zcM (decide (zal < (a.Gates.len : Int)))
 (((0≤zal∧zal < (a.Gates.len:Int))) ∧
 (((0≤(w64 (zal+(1:Int)))∧(w64 (zal+(1:Int)))≤(a.Gates.len:Int)∧(a.Gates.len:Int)≤(a.Gates.len:Int))) ∧
 (zh9 l  X0 ys a zal (((a.Gates.len:Int) - (w64 (zal+(1:Int)))).toNat) (slG (fun i=>enc_55 (a.Gates.get i)) ((w64 (zal+(1:Int))).toNat)) (((a.Gates.len:Int) - (w64 (zal+(1:Int)))).toNat:Int) (0:Int) ((a.Gates.get zal.toNat).Z) ((a.Gates.get zal.toNat).Low) ((a.Gates.get zal.toNat).High))))
 (ys=[]))
theorem zp9 (l : Nat) (X0 : List (List PA) → Bool → St → Prop) (ys : List (List PA)) (a : list) (zal : Int) :
  vcY Try.prog zxw zcF l (cd (cdF Try.f115 [1,0]) [0]) (zjN Try.prog zcF 1 X0 (zdE 0 zl8)) ys false (zf4 l a zal) =
  zmL l X0 ys a zal:=by kernel_rfl
theorem zvr (l : Nat) (ys : List (List PA)) (a : list) (zal : Int)
  (h:∀ X0:List (List PA)→Bool→St→Prop,(∀ (ys:List (List PA)) (zal:Int),zmL l X0 ys a zal→X0 ys false (zf4 l a zal))→X0 ys false (zf4 l a zal)) :
  zh8 l ys a zal:=by
  have e:zh8 l ys a zal=(∀ X:List (List PA)→Bool→St→Prop,(∀ ys q s,vcY Try.prog zxw zcF l (cd (cdF Try.f115 [1,0]) [0]) (zjN Try.prog zcF 1 X (zdE 0 zl8)) ys q s→X ys q s)→X ys false (zf4 l a zal)):=by kernel_rfl
  refine zaH e ?_
  intro X hX
  refine h X ?_
  intro ys zal hs
  refine hX _ _ _ ?_
  have e2:=zp9 l X ys a zal
  rw [e2]
  exact hs
def zmM (l:Nat) (X0:List (List PA)→Bool→St→Prop) (X1:List (List PA)→Bool→St→Prop) (ys:List (List PA)) (a:list) (za4:Int) (zaR:(Sl Gate)) (zb1:Int) (zaM:Int) (zbh:Int) (zbE:Int) (zbF:Int):Prop :=
  (zcM (decide (zaM < zb1))
 (((0≤zaM∧zaM < (zaR.len:Int))) ∧
 (zcM (zbh == (zaR.get zaM.toNat).Z)
 (X1 ys false (zf5 l a za4 zaR.len (fun i=>enc_55 (zaR.get i)) zb1 (w64 (zaM+(1:Int))) zbh zbE zbF))
 (l=l∧∃ r1,ys=[.agg [.int .i64 ((zmK zbh zbE ((zaR.get zaM.toNat).Z) ((zaR.get zaM.toNat).Low)).slope),.int .i64 ((zmK zbh zbE ((zaR.get zaM.toNat).Z) ((zaR.get zaM.toNat).Low)).start),.int .i64 ((zmK zbh zbE ((zaR.get zaM.toNat).Z) ((zaR.get zaM.toNat).Low)).den)]] :: r1 ∧
 (l=l∧∃ r2,r1=[.agg [.int .i64 ((zmK zbh zbE ((zaR.get zaM.toNat).Z) ((zaR.get zaM.toNat).High)).slope),.int .i64 ((zmK zbh zbE ((zaR.get zaM.toNat).Z) ((zaR.get zaM.toNat).High)).start),.int .i64 ((zmK zbh zbE ((zaR.get zaM.toNat).Z) ((zaR.get zaM.toNat).High)).den)]] :: r2 ∧
 (l=l∧∃ r3,r2=[.agg [.int .i64 ((zmK zbh zbF ((zaR.get zaM.toNat).Z) ((zaR.get zaM.toNat).Low)).slope),.int .i64 ((zmK zbh zbF ((zaR.get zaM.toNat).Z) ((zaR.get zaM.toNat).Low)).start),.int .i64 ((zmK zbh zbF ((zaR.get zaM.toNat).Z) ((zaR.get zaM.toNat).Low)).den)]] :: r3 ∧
 (l=l∧∃ r4,r3=[.agg [.int .i64 ((zmK zbh zbF ((zaR.get zaM.toNat).Z) ((zaR.get zaM.toNat).High)).slope),.int .i64 ((zmK zbh zbF ((zaR.get zaM.toNat).Z) ((zaR.get zaM.toNat).High)).start),.int .i64 ((zmK zbh zbF ((zaR.get zaM.toNat).Z) ((zaR.get zaM.toNat).High)).den)]] :: r4 ∧
 (X1 r4 false (zf5 l a za4 zaR.len (fun i=>enc_55 (zaR.get i)) zb1 (w64 (zaM+(1:Int))) zbh zbE zbF))∧True)∧True)∧True)∧True)))
 (X0 ys false (zf4 l a (w64 (za4+(1:Int))))))
theorem zqa (l : Nat) (X0 : List (List PA) → Bool → St → Prop) (X1 : List (List PA) → Bool → St → Prop) (ys : List (List PA)) (a : list) (za4 : Int) (zaR : (Sl Gate)) (zb1 : Int) (zaM : Int) (zbh : Int) (zbE : Int) (zbF : Int) :
  vcY Try.prog zxw zcF l (cd (cdF Try.f115 [1,0,0,1,1,0,0,1,1,0]) [0]) (zjN Try.prog zcF 4 X1 (zdE 2 (zdE 1 (zIS (zIU Try.prog zcF 17 (vcY Try.prog zxw zcF l (cdF Try.f115 [1,0,0,1,1,1]) (zjN Try.prog zcF 1 X0 (zdE 0 zl8)))) (zjN Try.prog zcF 1 X0 (zdE 0 zl8)))))) ys false (zf5 l a za4 zaR.len (fun i=>enc_55 (zaR.get i)) zb1 zaM zbh zbE zbF) =
  zmM l  X0 X1 ys a za4 zaR zb1 zaM zbh zbE zbF:=by kernel_rfl
theorem zvs (l : Nat) (X0 : List (List PA) → Bool → St → Prop) (ys : List (List PA)) (a : list) (za4 : Int) (zf6 : Nat) (zcI : Nat → List PV) (zb1 : Int) (zaM : Int) (zbh : Int) (zbE : Int) (zbF : Int)
  (h:∀ X1:List (List PA)→Bool→St→Prop,(∀ (ys:List (List PA)) (za4:Int) (zaR:(Sl Gate)) (zb1:Int) (zaM:Int) (zbh:Int) (zbE:Int) (zbF:Int),zmM l  X0 X1 ys a za4 zaR zb1 zaM zbh zbE zbF→X1 ys false (zf5 l a za4 zaR.len (fun i=>enc_55 (zaR.get i)) zb1 zaM zbh zbE zbF))→X1 ys false (zf5 l a za4 zf6 zcI zb1 zaM zbh zbE zbF)) :
  zh9 l  X0 ys a za4 zf6 zcI zb1 zaM zbh zbE zbF:=by
  have e:zh9 l  X0 ys a za4 zf6 zcI zb1 zaM zbh zbE zbF=(∀ X:List (List PA)→Bool→St→Prop,(∀ ys q s,vcY Try.prog zxw zcF l (cd (cdF Try.f115 [1,0,0,1,1,0,0,1,1,0]) [0]) (zjN Try.prog zcF 4 X (zdE 2 (zdE 1 (zIS (zIU Try.prog zcF 17 (vcY Try.prog zxw zcF l (cdF Try.f115 [1,0,0,1,1,1]) (zjN Try.prog zcF 1 X0 (zdE 0 zl8)))) (zjN Try.prog zcF 1 X0 (zdE 0 zl8)))))) ys q s→X ys q s)→X ys false (zf5 l a za4 zf6 zcI zb1 zaM zbh zbE zbF)):=by kernel_rfl
  refine zaH e ?_
  intro X hX
  refine h X ?_
  intro ys za4 zaR zb1 zaM zbh zbE zbF hs
  refine hX _ _ _ ?_
  have e2:=zqa l  X0 X ys a za4 zaR zb1 zaM zbh zbE zbF
  rw [e2]
  exact hs
attribute [irreducible] zh8 zh9
def znX (S0:Int→List straight) (a:list) (S1:Int→(Sl Gate)→Int→Int→Int→Int→Int→List straight) (za4:Int) (zaR:(Sl Gate)) (zb1:Int) (zaM:Int) (zbh:Int) (zbE:Int) (zbF:Int):List straight :=
  (cond (decide (zaM < zb1))
 (cond (zbh == (zaR.get zaM.toNat).Z)
 (S1 za4 zaR zb1 (w64 (zaM+(1:Int))) zbh zbE zbF)
 ((zmK zbh zbE ((zaR.get zaM.toNat).Z) ((zaR.get zaM.toNat).Low)) :: ((zmK zbh zbE ((zaR.get zaM.toNat).Z) ((zaR.get zaM.toNat).High)) :: ((zmK zbh zbF ((zaR.get zaM.toNat).Z) ((zaR.get zaM.toNat).Low)) :: ((zmK zbh zbF ((zaR.get zaM.toNat).Z) ((zaR.get zaM.toNat).High)) :: (S1 za4 zaR zb1 (w64 (zaM+(1:Int))) zbh zbE zbF))))))
 (S0 (w64 (za4+(1:Int)))))
def znY (P0:Int→Bool) (a:list) (P1:Int→(Sl Gate)→Int→Int→Int→Int→Int→Bool) (za4:Int) (zaR:(Sl Gate)) (zb1:Int) (zaM:Int) (zbh:Int) (zbE:Int) (zbF:Int):Bool :=
  (cond (decide (zaM < zb1))
 (decide ((0≤zaM∧zaM < (zaR.len:Int))) &&
 (cond (zbh == (zaR.get zaM.toNat).Z)
 (P1 za4 zaR zb1 (w64 (zaM+(1:Int))) zbh zbE zbF)
 (P1 za4 zaR zb1 (w64 (zaM+(1:Int))) zbh zbE zbF)))
 (P0 (w64 (za4+(1:Int)))))
def zia (S0 : Int → List straight) (a : list) : Nat → Int → (Sl Gate) → Int → Int → Int → Int → Int → List straight
  | 0=>fun _ _ _ _ _ _ _=>[]
  | k+1=>znX S0 a (zia S0 a k)
def zib (P0 : Int → Bool) (a : list) : Nat → Int → (Sl Gate) → Int → Int → Int → Int → Int → Bool
  | 0=>fun _ _ _ _ _ _ _=>false
  | k+1=>znY P0 a (zib P0 a k)
def ztV (S0:Int→List straight) (a:list) (za4:Int) (zaR:(Sl Gate)) (zb1:Int) (zaM:Int) (zbh:Int) (zbE:Int) (zbF:Int):List straight:=zia S0 a Fuel za4 zaR zb1 zaM zbh zbE zbF
def ztW (P0:Int→Bool) (a:list) (za4:Int) (zaR:(Sl Gate)) (zb1:Int) (zaM:Int) (zbh:Int) (zbE:Int) (zbF:Int):Bool:=zib P0 a Fuel za4 zaR zb1 zaM zbh zbE zbF
theorem zB4 (l : Nat) (a : list)
  (X0:List (List PA)→Bool→St→Prop) (P0:Int→Bool) (S0:Int→List straight)
  (hX0:∀ (ys:List (List PA)) (zal:Int),P0 zal=true→ys=(S0 zal).map (fun y=>[.agg (zaj y)])→X0 ys false (zf4 l a zal)) (ys:List (List PA)) (za4:Int) (zaR:(Sl Gate)) (zb1:Int) (zaM:Int) (zbh:Int) (zbE:Int) (zbF:Int) (zcI:Nat→List PV) (zlm:zcI=fun i=>enc_55 (zaR.get i)) (hs:ztW P0 a za4 zaR zb1 zaM zbh zbE zbF=true) (hk:ys=(ztV S0 a za4 zaR zb1 zaM zbh zbE zbF).map (fun y=>[.agg (zaj y)])):zh9 l  X0 ys a za4 zaR.len zcI zb1 zaM zbh zbE zbF:=by
  refine zvs l  X0 ys a za4 zaR.len zcI zb1 zaM zbh zbE zbF ?_
  intro X1 hstep
  have key:∀ (k:Nat) (ys:List (List PA)) (za4:Int) (zaR:(Sl Gate)) (zb1:Int) (zaM:Int) (zbh:Int) (zbE:Int) (zbF:Int) (zcI:Nat→List PV) (zlm:zcI=fun i=>enc_55 (zaR.get i)),zib P0 a k za4 zaR zb1 zaM zbh zbE zbF=true→ys=(zia S0 a k za4 zaR zb1 zaM zbh zbE zbF).map (fun y=>[.agg (zaj y)])→X1 ys false (zf5 l a za4 zaR.len zcI zb1 zaM zbh zbE zbF):=by
    intro k
    induction k with
    | zero=>intro ys za4 zaR zb1 zaM zbh zbE zbF zcI zlm hs;exact absurd hs Bool.false_ne_true
    | succ k ih =>
      intro ys za4 zaR zb1 zaM zbh zbE zbF zcI zlm hs hk
      subst zlm
      refine hstep ys za4 zaR zb1 zaM zbh zbE zbF ?_
      have hs:znY P0 a (zib P0 a k) za4 zaR zb1 zaM zbh zbE zbF=true:=hs
      have hk:ys=(znX S0 a (zia S0 a k) za4 zaR zb1 zaM zbh zbE zbF).map (fun y=>[.agg (zaj y)]):=hk
      unfold znY at hs
      unfold znX at hk
      generalize zia S0 a k=S1 at hk ih
      generalize zib P0 a k=P1 at hs ih
      have hX1:=ih
      exact (znv hs hk
 (fun hs hk => (zaE hs fun hc hs => ⟨hc, (znv hs hk
 (fun hs hk=>(hX1 _ za4 zaR zb1 (w64 (zaM+(1:Int))) zbh zbE zbF (fun i=>enc_55 (zaR.get i)) rfl hs hk))
 (fun hs hk=>(itY hk rfl (fun _ hk=>(itY hk rfl (fun _ hk=>(itY hk rfl (fun _ hk=>(itY hk rfl (fun _ hk=>(hX1 _ za4 zaR zb1 (w64 (zaM+(1:Int))) zbh zbE zbF (fun i=>enc_55 (zaR.get i)) rfl hs hk)))))))))))⟩))
 (fun hs hk=>(hX0 _ (w64 (za4+(1:Int))) hs hk)))
  exact key _ _ za4 zaR zb1 zaM zbh zbE zbF zcI zlm hs hk
def znZ (a:list) (S0:Int→List straight) (zal:Int):List straight :=
  (cond (decide (zal < (a.Gates.len : Int)))
 (ztV S0 a zal (⟨((a.Gates.len:Int) - (w64 (zal+(1:Int)))).toNat,(fun i=>a.Gates.get (i+((w64 (zal+(1:Int))).toNat)))⟩:Sl Gate) (((a.Gates.len:Int) - (w64 (zal+(1:Int)))).toNat:Int) (0:Int) ((a.Gates.get zal.toNat).Z) ((a.Gates.get zal.toNat).Low) ((a.Gates.get zal.toNat).High))
 [])
def zn0 (a:list) (P0:Int→Bool) (zal:Int):Bool :=
  (cond (decide (zal < (a.Gates.len : Int)))
 (decide ((0≤zal∧zal < (a.Gates.len:Int))) &&
 (decide ((0≤(w64 (zal+(1:Int)))∧(w64 (zal+(1:Int)))≤(a.Gates.len:Int)∧(a.Gates.len:Int)≤(a.Gates.len:Int))) &&
 (ztW P0 a zal (⟨((a.Gates.len:Int) - (w64 (zal+(1:Int)))).toNat,(fun i=>a.Gates.get (i+((w64 (zal+(1:Int))).toNat)))⟩:Sl Gate) (((a.Gates.len:Int) - (w64 (zal+(1:Int)))).toNat:Int) (0:Int) ((a.Gates.get zal.toNat).Z) ((a.Gates.get zal.toNat).Low) ((a.Gates.get zal.toNat).High))))
 true)
def zic (a : list) : Nat → Int → List straight
  | 0=>fun _=>[]
  | k+1=>znZ a (zic a k)
def zid (a : list) : Nat → Int → Bool
  | 0=>fun _=>false
  | k+1=>zn0 a (zid a k)
def ztX (a:list) (zal:Int):List straight:=zic a Fuel zal
def ztY (a:list) (zal:Int):Bool:=zid a Fuel zal
theorem zB5 (l:Nat) (a:list) (ys:List (List PA)) (zal:Int) (hs:ztY a zal=true) (hk:ys=(ztX a zal).map (fun y=>[.agg (zaj y)])):zh8 l ys a zal:=by
  refine zvr l ys a zal ?_
  intro X0 hstep
  have key:∀ (k:Nat) (ys:List (List PA)) (zal:Int),zid a k zal=true→ys=(zic a k zal).map (fun y=>[.agg (zaj y)])→X0 ys false (zf4 l a zal):=by
    intro k
    induction k with
    | zero=>intro ys zal hs;exact absurd hs Bool.false_ne_true
    | succ k ih =>
      intro ys zal hs hk
      refine hstep ys zal ?_
      have hs:zn0 a (zid a k) zal=true:=hs
      have hk:ys=(znZ a (zic a k) zal).map (fun y=>[.agg (zaj y)]):=hk
      unfold zn0 at hs
      unfold znZ at hk
      generalize zic a k=S0 at hk ih
      generalize zid a k=P0 at hs ih
      have hX0:=ih
      exact (znv hs hk
 (fun hs hk=>(zaE hs fun hc hs=>⟨hc,(zaE hs fun hc hs=>⟨hc,(zB4 l a X0 P0 S0 hX0 _ zal (⟨((a.Gates.len:Int) - (w64 (zal+(1:Int)))).toNat,(fun i=>a.Gates.get (i+((w64 (zal+(1:Int))).toNat)))⟩:Sl Gate) (((a.Gates.len:Int) - (w64 (zal+(1:Int)))).toNat:Int) (0:Int) ((a.Gates.get zal.toNat).Z) ((a.Gates.get zal.toNat).Low) ((a.Gates.get zal.toNat).High) (slG (fun i=>enc_55 (a.Gates.get i)) ((w64 (zal+(1:Int))).toNat)) rfl hs hk)⟩)⟩))
 (fun hs hk=>hk))
  exact key _ _ zal hs hk
def zFG (a:list):List straight :=
  (ztX a (0:Int))
def zIG (a:list):Bool :=
  (ztY a (0:Int))
theorem zPv (l:Nat) (a:list) (ys:List (List PA)) (hs:zIG a=true) (hk:ys=(zFG a).map (fun y=>[.agg (zaj y)])):vcIter Try.prog zxw zcF 115 l [.one (.fp (zcH a) 0)] ys:=by
  refine zaH (zB3 l a ys) ?_
  unfold zIG at hs
  unfold zFG at hk
  exact (zB5 l a _ (0:Int) hs hk)
def zFH : List PA → Option (Prop × List (List PA))
  | [.one (.fp [.sl a_Gates_n a_Gates_s a_Gates_g] 0)]=>some (IsE enc_55 3 a_Gates_s a_Gates_g∧zIG (⟨(⟨a_Gates_n,zaf a_Gates_g⟩:(Sl Gate))⟩:list)=true,(zFG (⟨(⟨a_Gates_n,zaf a_Gates_g⟩:(Sl Gate))⟩:list)).map fun y=>[.agg (zaj y)])
  | _=>none
theorem zFI:zak Try.prog 115:=⟨_,rfl,rfl,by kernel_rfl⟩
theorem zNb:zCQ Try.prog 115 zFH:=zJj zJ6 zFI fun l caps safe ys h hs=>by
  unfold zFH at h
  split at h
  · rename_i a_Gates_n a_Gates_s a_Gates_g
    cases h
    obtain ⟨⟨rfl,a_Gates_f,rfl⟩,hs⟩:=hs
    try rw [zae a_Gates_f] at hs
    try rw [zae a_Gates_f]
    exact ⟨fun _ _=>[],fun _=>false,zcF,zPv l (⟨(⟨a_Gates_n,a_Gates_f⟩:(Sl Gate))⟩:list) _ hs rfl⟩
  · cases h
abbrev T65:Tabs:=(((((Tabs.nil.addF 67 zrY).addF 79 zB2).addF 96 zFC).addF 97 zFE).addI 115 zFH)
theorem zNc:TabsOk Try.prog T65:=(((((TabsOk.nil.addF zJX).addF zOx).addF zPr).addF zPs).addI zNb)
abbrev G65:Ctrs:=csm T65 (fun _ _=>[]) (fun l=>Nat.beq l 14)
def zie:Ann:=⟨39,[(0,⟨[0,2],[2],[],[],[],[],[]⟩),(1,⟨[2,3],[2,3],[],[],[],[],[]⟩),(2,⟨[2,3,12],[2,3],[],[],[],[],[]⟩),(3,⟨[2],[2],[],[],[],[],[]⟩),(4,⟨[2,3,4],[2,3,4,14],[],[],[],[],[]⟩),(5,⟨[2,3,4,17],[2,3,4,14],[],[],[],[],[]⟩),(6,⟨[2,3,4,5,17],[2,3,4,5,14,36],[],[],[],[],[]⟩),(7,⟨[2,3,4,5,6,17],[2,3,4,5,6,14,36],[],[],[],[],[]⟩),(8,⟨[2,3,4,5,6,17,29],[2,3,4,5,6,14,36],[],[],[],[],[]⟩),(9,⟨[2,3,4,5,17],[2,3,4,5,14,36],[],[],[],[],[]⟩),(10,⟨[2,3,4,17],[2,3,4,14,36],[],[],[],[],[]⟩),(11,⟨[2],[2,36],[],[],[],[],[]⟩)],
 [(6,⟨[2,3,4,17],[2,3,4,14,36],[],[(3,1,36,118,fun _=>zaj default)],[],[],[]⟩)],
 [(3,⟨[2,3,12],[2,3],[],[],[],[],[]⟩),(4,⟨[2,3],[2,3],[],[],[],[],[]⟩)],
 [],[]⟩
def zJ7 (zaa:(Sl Gate)) (zaX:Bool):St:=⟨[(2,.one (.c (.ptr 2 0))),(3,.one (.c (.ptr 3 0))),(12,.one (.c (.p (.bool zaX))))],[(2,.box 104 [.p (.nils),.p (.nils)]),(3,.box 104 [.p (.sl zaa.len 3 (fun i=>enc_55 (zaa.get i))),.p (.nils)])],[]⟩
def zn1 (K:List PA→Prop) (zaa:(Sl Gate)) (zaX:Bool):Prop:=vc Try.prog G65 zie (cdF Try.f65 [1,1,0,1]) (sqK Try.prog G65 zie (cdF Try.f65 [1,1,1]) (zbC Try.prog Try.f65 K)) (zJ7 zaa zaX)
def zJ8 (zaa:(Sl Gate)):St:=⟨[(2,.one (.c (.ptr 2 0))),(3,.one (.c (.ptr 3 0)))],[(2,.box 104 [.p (.nils),.p (.nils)]),(3,.box 104 [.p (.sl zaa.len 3 (fun i=>enc_55 (zaa.get i))),.p (.nils)])],[]⟩
def zn2 (K:List PA→Prop) (zaa:(Sl Gate)):Prop:=vc Try.prog G65 zie (cdF Try.f65 [1,1,1]) (zbC Try.prog Try.f65 K) (zJ8 zaa)
def zf7 (zaa:(Sl Gate)) (zf8:Nat) (zcJ:Nat→List PV) (zaz:Nat) (zao:(List Int→Option (List Int))):St:=⟨[(2,.one (.c (.ptr 2 0))),(3,.one (.c (.ptr 3 0))),(4,.one (.c (.ptr 4 0))),(17,.one (.c (.p (.fn 115 [] [.fp (zcH (⟨zaa⟩:list)) 0]))))],[(2,.box 104 [.p (.nils),.p (.nils)]),(3,.box 104 [.p (.sl zaa.len 3 (fun i=>enc_55 (zaa.get i))),.vec 36]),(4,.box 136 [.mo 14]),(14,.mo 37 4 (true,4,false,[none]) zaz zao),(36,.vec 118 3 24 zf8 zcJ)],[]⟩
def zln (K:List PA→Prop) (zaa:(Sl Gate)) (zf8:Nat) (zcJ:Nat→List PV) (zaz:Nat) (zao:(List Int→Option (List Int))):Prop:=vc Try.prog G65 zie (cdF Try.f65 [1,1,1,1,0,1,0]) (zay 0 (sqK Try.prog G65 zie (cdF Try.f65 [1,1,1,1,1]) (zbC Try.prog Try.f65 K))) (zf7 zaa zf8 zcJ zaz zao)
theorem zFJ (zaa : (Sl Gate)) (K : List PA → Prop) :
  vcFun Try.prog G65 zie 65 [.one (.sl zaa.len 3 (fun i=>enc_55 (zaa.get i)))] K =
  ((IsE enc_55 3 3 (fun i=>enc_55 (zaa.get i))∧(p67 (⟨zaa⟩:list)=true)) ∧
 (zn1 K zaa (s67 (⟨zaa⟩:list)))):=by kernel_rfl
theorem zFK (K : List PA → Prop) (zaa : (Sl Gate)) (zaX : Bool) :
  zn1 K zaa zaX =
  (zcM zaX
 (K [.agg [.sl zaa.len 3 (fun i=>enc_55 (zaa.get i)),.nils]])
 (zn2 K zaa)):=by kernel_rfl
theorem zFL (K : List PA → Prop) (zaa : (Sl Gate)) :
  zn2 K zaa =
  ((IsE enc_55 3 3 (fun i=>enc_55 (zaa.get i))) ∧
 (zln K zaa 0 (fun i=>zaj ((fun _=>default) i)) 0 (fun _=>none))):=by kernel_rfl
def zqb (K:List PA→Prop) (zaa:(Sl Gate)) (zaL:(Sl straight)) (zaz:Nat) (zao:(List Int→Option (List Int))):Prop :=
  (K [.agg [.sl zaa.len 3 (fun i=>enc_55 (zaa.get i)),.sl zaL.len 3 (fun i=>zaj (zaL.get i))]])
def zqc (K:List PA→Prop) (X2:List (List PA)→St→Prop) (y2:straight) (rest2:List (List PA)) (zaa:(Sl Gate)) (zaL:(Sl straight)) (zaz:Nat) (zao:(List Int→Option (List Int))):Prop :=
  (((p79 y2=true)) ∧
 (zcM (!((zdg (zao [(s79 y2).Slope.Num, (s79 y2).Slope.Den, (s79 y2).Start.Num, (s79 y2).Start.Den]) 0) != 0))
 ((IsE enc_55 3 3 (fun i=>enc_55 (zaa.get i))∧IsE zaj 3 3 (fun i=>zaj (zaL.get i))∧(p97 (⟨(⟨zaa⟩:list),zaL⟩:set) y2=true)) ∧
 (zcM (s97 (⟨(⟨zaa⟩ : list), zaL⟩ : set) y2)
 ((((zaL.len+1) * 24≤140737488355328∧zaL.len+1≤9223372036854775807)) ∧
 (X2 rest2 (zf7 zaa (zaL.len+1) (appG zaL.len (fun i=>zaj (zaL.get i)) (fun _=>(zaj y2))) (addN (zao [(s79 y2).Slope.Num,(s79 y2).Slope.Den,(s79 y2).Start.Num,(s79 y2).Start.Den]) zaz) (ze0 [(s79 y2).Slope.Num,(s79 y2).Slope.Den,(s79 y2).Start.Num,(s79 y2).Start.Den] [1] zao))))
 (X2 rest2 (zf7 zaa zaL.len (fun i=>zaj (zaL.get i)) zaz zao))))
 (X2 rest2 (zf7 zaa zaL.len (fun i=>zaj (zaL.get i)) zaz zao))))
theorem zrZ (K:List PA→Prop) (zaa:(Sl Gate)) (zaL:(Sl straight)) (zaz:Nat) (zao:(List Int→Option (List Int))):(zay 0 (sqK Try.prog G65 zie (cdF Try.f65 [1,1,1,1,1]) (zbC Try.prog Try.f65 K))) .normal (zf7 zaa zaL.len (fun i=>zaj (zaL.get i)) zaz zao)=zqb K zaa zaL zaz zao:=by kernel_rfl
theorem zr0 (K : List PA → Prop) (X2 : List (List PA) → St → Prop) (y2 : straight) (rest2 : List (List PA)) (zaa : (Sl Gate)) (zaL : (Sl straight)) (zaz : Nat) (zao : (List Int → Option (List Int))) :
  zOk Try.prog G65 zie 6 [18] (cd (cdF Try.f65 [1,1,1,1,0,1,0]) [0]) (cd (cdF Try.f65 [1,1,1,1,0,1,0]) [1]) X2 (zay 0 (sqK Try.prog G65 zie (cdF Try.f65 [1,1,1,1,1]) (zbC Try.prog Try.f65 K))) [.agg (zaj y2)] rest2 (zf7 zaa zaL.len (fun i=>zaj (zaL.get i)) zaz zao)=zqc K X2 y2 rest2 zaa zaL zaz zao:=by kernel_rfl
theorem zxx (K : List PA → Prop) (zaa : (Sl Gate)) (zf8 : Nat) (zcJ : Nat → List PV) (zaz : Nat) (zao : (List Int → Option (List Int)))
  (hsafe:IsE enc_55 3 3 (fun i=>enc_55 ((⟨zaa⟩:list).Gates.get i))∧(zIG (⟨zaa⟩:list)=true)) (h:∀ X2:List (List PA)→St→Prop,(∀ (zaL:(Sl straight)) (zaz:Nat) (zao:(List Int→Option (List Int))),zqb K zaa zaL zaz zao→X2 [] (zf7 zaa zaL.len (fun i=>zaj (zaL.get i)) zaz zao))→(∀ (y:straight) (rest:List (List PA)) (zaL:(Sl straight)) (zaz:Nat) (zao:(List Int→Option (List Int))),zqc K X2 y rest zaa zaL zaz zao→X2 ([.agg (zaj y)] :: rest) (zf7 zaa zaL.len (fun i=>zaj (zaL.get i)) zaz zao))→X2 ((zFG (⟨zaa⟩:list)).map fun y=>[.agg (zaj y)]) (zf7 zaa zf8 zcJ zaz zao)) :
  zln K zaa zf8 zcJ zaz zao:=by
  have e:zln K zaa zf8 zcJ zaz zao=((IsE enc_55 3 3 (fun i=>enc_55 ((⟨zaa⟩:list).Gates.get i))∧(zIG (⟨zaa⟩:list)=true))∧∀ X:List (List PA)→St→Prop,(∀ s,(zay 0 (sqK Try.prog G65 zie (cdF Try.f65 [1,1,1,1,1]) (zbC Try.prog Try.f65 K))) .normal s→X [] s)→(∀ y rest s,zOk Try.prog G65 zie 6 [18] (cd (cdF Try.f65 [1,1,1,1,0,1,0]) [0]) (cd (cdF Try.f65 [1,1,1,1,0,1,0]) [1]) X (zay 0 (sqK Try.prog G65 zie (cdF Try.f65 [1,1,1,1,1]) (zbC Try.prog Try.f65 K))) y rest s→X (y :: rest) s)→X ((zFG (⟨zaa⟩:list)).map fun y=>[.agg (zaj y)]) (zf7 zaa zf8 zcJ zaz zao)):=by kernel_rfl
  refine zaH e ⟨hsafe,?_⟩
  intro X h0 h1
  refine h X (fun zaL zaz zao hs=>h0 _ ?_) (fun y rest zaL zaz zao hs=>h1 _ rest _ ?_)
  · rw [zrZ K zaa zaL zaz zao];exact hs
  · have e2 := zr0 K X y rest zaa zaL zaz zao
    rw [e2];exact hs
abbrev e65 (r:set):List PA:=[.agg [.sl r.list.Gates.len 3 (fun i=>enc_55 (r.list.Gates.get i)),.sl r.corners.len 3 (fun i=>zaj (r.corners.get i))]]
attribute [irreducible] zn1 zn2 zln
def zr1 (zaa:(Sl Gate)) (zaL:(Sl straight)) (zaz:Nat) (zao:(List Int→Option (List Int))):set :=
  (⟨(⟨zaa⟩:list),zaL⟩:set)
def zr2 (zaa:(Sl Gate)) (zaL:(Sl straight)) (zaz:Nat) (zao:(List Int→Option (List Int))):Bool :=
  true
def zr3 (zaa:(Sl Gate)) (y2:straight) (S2:(Sl straight)→Nat→(List Int→Option (List Int))→set) (zaL:(Sl straight)) (zaz:Nat) (zao:(List Int→Option (List Int))):set :=
  (cond (!((zdg (zao [(s79 y2).Slope.Num, (s79 y2).Slope.Den, (s79 y2).Start.Num, (s79 y2).Start.Den]) 0) != 0))
 (cond (s97 (⟨(⟨zaa⟩ : list), zaL⟩ : set) y2)
 (S2 (⟨(zaL.len+1),(zeD zaL.len zaL.get (fun _=>y2))⟩:Sl straight) (addN (zao [(s79 y2).Slope.Num,(s79 y2).Slope.Den,(s79 y2).Start.Num,(s79 y2).Start.Den]) zaz) (ze0 [(s79 y2).Slope.Num,(s79 y2).Slope.Den,(s79 y2).Start.Num,(s79 y2).Start.Den] [1] zao))
 (S2 zaL zaz zao))
 (S2 zaL zaz zao))
def zr4 (zaa:(Sl Gate)) (y2:straight) (P2:(Sl straight)→Nat→(List Int→Option (List Int))→Bool) (zaL:(Sl straight)) (zaz:Nat) (zao:(List Int→Option (List Int))):Bool :=
  (decide ((p79 y2=true)) &&
 (cond (!((zdg (zao [(s79 y2).Slope.Num, (s79 y2).Slope.Den, (s79 y2).Start.Num, (s79 y2).Start.Den]) 0) != 0))
 (decide ((p97 (⟨(⟨zaa⟩:list),zaL⟩:set) y2=true)) &&
 (cond (s97 (⟨(⟨zaa⟩ : list), zaL⟩ : set) y2)
 (decide (((zaL.len+1) * 24≤140737488355328∧zaL.len+1≤9223372036854775807)) &&
 (P2 (⟨(zaL.len+1),(zeD zaL.len zaL.get (fun _=>y2))⟩:Sl straight) (addN (zao [(s79 y2).Slope.Num,(s79 y2).Slope.Den,(s79 y2).Start.Num,(s79 y2).Start.Den]) zaz) (ze0 [(s79 y2).Slope.Num,(s79 y2).Slope.Den,(s79 y2).Start.Num,(s79 y2).Start.Den] [1] zao)))
 (P2 zaL zaz zao)))
 (P2 zaL zaz zao)))
def zlo (zaa : (Sl Gate)) : List straight → (Sl straight) → Nat → (List Int → Option (List Int)) → set
  | []=>zr1 zaa
  | y :: r=>zr3 zaa y (zlo zaa r)
def zlp (zaa : (Sl Gate)) : List straight → (Sl straight) → Nat → (List Int → Option (List Int)) → Bool
  | []=>zr2 zaa
  | y :: r=>zr4 zaa y (zlp zaa r)
def zxy (zaa:(Sl Gate)) (zaL:(Sl straight)) (zaz:Nat) (zao:(List Int→Option (List Int))):set:=zlo zaa (zFG (⟨zaa⟩:list)) zaL zaz zao
def zr5 (zaa:(Sl Gate)) (zaL:(Sl straight)) (zaz:Nat) (zao:(List Int→Option (List Int))):Bool:=decide ((zIG (⟨zaa⟩:list)=true)) && zlp zaa (zFG (⟨zaa⟩:list)) zaL zaz zao
theorem zFM (K:List PA→Prop) (zaa:(Sl Gate)) (zaL:(Sl straight)) (zaz:Nat) (zao:(List Int→Option (List Int))) (zcJ:Nat→List PV) (zi2:zcJ=fun i=>zaj (zaL.get i)) (hs:zr5 zaa zaL zaz zao=true) (hk:K (e65 (zxy zaa zaL zaz zao))):zln (Wk K) zaa zaL.len zcJ zaz zao:=by
  unfold zr5 at hs
  rw [Bool.and_eq_true] at hs
  obtain ⟨hsf,hs⟩:=hs
  have hc:=of_decide_eq_true hsf
  refine zxx (Wk K) zaa zaL.len zcJ zaz zao ⟨isE,hc⟩ ?_
  intro X2 hexit hstep
  have key:∀ (l:List straight) (zaL:(Sl straight)) (zaz:Nat) (zao:(List Int→Option (List Int))) (zcJ:Nat→List PV) (zi2:zcJ=fun i=>zaj (zaL.get i)),zlp zaa l zaL zaz zao=true→K (e65 (zlo zaa l zaL zaz zao))→X2 (l.map fun y=>[.agg (zaj y)]) (zf7 zaa zaL.len zcJ zaz zao):=by
    intro l
    induction l with
    | nil =>
      intro zaL zaz zao zcJ zi2 hs hk
      subst zi2
      refine hexit zaL zaz zao ?_
      have hs:zr2 zaa zaL zaz zao=true:=hs
      have hk:K (e65 (zr1 zaa zaL zaz zao)):=hk
      unfold zr2 at hs
      unfold zr1 at hk
      exact (zdW hk)
    | cons y2 l ih =>
      intro zaL zaz zao zcJ zi2 hs hk
      subst zi2
      refine hstep y2 _ zaL zaz zao ?_
      have hs:zr4 zaa y2 (zlp zaa l) zaL zaz zao=true:=hs
      have hk:K (e65 (zr3 zaa y2 (zlo zaa l) zaL zaz zao)):=hk
      unfold zr4 at hs
      unfold zr3 at hk
      generalize zlo zaa l=S2 at hk ih
      generalize zlp zaa l=P2 at hs ih
      have hX2:=ih
      exact (zaE hs fun hc hs => ⟨hc, (zbp (K := fun r => K (e65 r))
 (fun hs hk => (zaE hs fun hc hs => ⟨⟨isE, isE, hc⟩, (zbp (K := fun r => K (e65 r))
 (fun hs hk=>(zaE hs fun hc hs=>⟨hc,(hX2 (⟨(zaL.len+1),(zeD zaL.len zaL.get (fun _=>y2))⟩:Sl straight) (addN (zao [(s79 y2).Slope.Num,(s79 y2).Slope.Den,(s79 y2).Start.Num,(s79 y2).Start.Den]) zaz) (ze0 [(s79 y2).Slope.Num,(s79 y2).Slope.Den,(s79 y2).Start.Num,(s79 y2).Start.Den] [1] zao) (appG zaL.len (fun i=>zaj (zaL.get i)) (fun _=>(zaj y2))) (zh2 (enc:=zaj) (f:=zaL.get) (h:=(fun _=>y2)) rfl rfl) hs hk)⟩))
 (fun hs hk=>(hX2 zaL zaz zao (fun i=>zaj (zaL.get i)) rfl hs hk)) hs hk)⟩))
 (fun hs hk=>(hX2 zaL zaz zao (fun i=>zaj (zaL.get i)) rfl hs hk)) hs hk)⟩)
  exact key _ zaL zaz zao zcJ zi2 hs hk
def zr6 (zaa:(Sl Gate)):set :=
  (zxy zaa (⟨0,(fun _=>default)⟩:Sl straight) 0 (fun _=>none))
def zr7 (zaa:(Sl Gate)):Bool :=
  (zr5 zaa (⟨0,(fun _=>default)⟩:Sl straight) 0 (fun _=>none))
theorem zFN (K:List PA→Prop) (zaa:(Sl Gate)) (hs:zr7 zaa=true) (hk:K (e65 (zr6 zaa))):zn2 (Wk K) zaa:=by
  refine zaH (zFL (Wk K) zaa) ?_
  unfold zr7 at hs
  unfold zr6 at hk
  exact ⟨isE,(zFM K zaa (⟨0,(fun _=>default)⟩:Sl straight) 0 (fun _=>none) (fun i=>zaj ((fun _=>default) i)) rfl hs hk)⟩
def zr8 (zaa:(Sl Gate)) (zaX:Bool):set :=
  (cond zaX
 (⟨(⟨zaa⟩:list),(⟨0,fun _=>default⟩:(Sl straight))⟩:set)
 (zr6 zaa))
def zr9 (zaa:(Sl Gate)) (zaX:Bool):Bool :=
  (cond zaX
 true
 (zr7 zaa))
theorem zFO (K:List PA→Prop) (zaa:(Sl Gate)) (zaX:Bool) (hs:zr9 zaa zaX=true) (hk:K (e65 (zr8 zaa zaX))):zn1 (Wk K) zaa zaX:=by
  refine zaH (zFK (Wk K) zaa zaX) ?_
  unfold zr9 at hs
  unfold zr8 at hk
  exact (zbp (K := fun r => K (e65 r))
 (fun hs hk=>(wk hk (zdt (.agg (zdt (.rfl _) (zdt (.nil _ _) zhG))) zhG)))
 (fun hs hk=>(zFN K zaa hs hk)) hs hk)
def s65 (zaa:(Sl Gate)):set :=
  (zr8 zaa (s67 (⟨zaa⟩:list)))
def p65 (zaa:(Sl Gate)):Bool :=
  (decide ((p67 (⟨zaa⟩:list)=true)) &&
 (zr9 zaa (s67 (⟨zaa⟩:list))))
theorem q65 (zaa:(Sl Gate)) (K:List PA→Prop) (hs:p65 zaa=true) (hk:K (e65 (s65 zaa))):vcFun Try.prog G65 zie 65 [.one (.sl zaa.len 3 (fun i=>enc_55 (zaa.get i)))] (Wk K):=by
  refine zaH (zFJ zaa (Wk K)) ?_
  unfold p65 at hs
  unfold s65 at hk
  exact (zaE hs fun hc hs=>⟨⟨isE,hc⟩,(zFO K zaa (s67 (⟨zaa⟩:list)) hs hk)⟩)
def zxz : List PA → COut
  | [.one (.sl a0_n a0_s a0_g)]=>.det (IsE enc_55 3 a0_s a0_g∧p65 (⟨a0_n,zaf a0_g⟩:(Sl Gate))=true) [.agg [.sl ((s65 (⟨a0_n,zaf a0_g⟩:(Sl Gate))).list.Gates.len) 3 (fun i=>enc_55 ((s65 (⟨a0_n,zaf a0_g⟩:(Sl Gate))).list.Gates.get i)),.sl ((s65 (⟨a0_n,zaf a0_g⟩:(Sl Gate))).corners.len) 3 (fun i=>zaj ((s65 (⟨a0_n,zaf a0_g⟩:(Sl Gate))).corners.get i))]]
  | _=>.no
theorem zJ9:zak Try.prog 65:=⟨_,rfl,rfl,by kernel_rfl⟩
theorem zNd:Ok Try.prog 65 zxz:=zfT zNc zJ9 fun args K h=>by
  unfold zxz at h
  split at h
  · rename_i a0_n a0_s a0_g
    obtain ⟨⟨⟨rfl,a0_f,rfl⟩,hs⟩,hk⟩:=h
    try rw [zae a0_f] at hs
    try rw [zae a0_f] at hk
    exact ⟨_,zeT zfB _,(fun _ _=>[]),(fun l=>Nat.beq l 14),zie,q65 (⟨a0_n,a0_f⟩:(Sl Gate)) K hs hk⟩
  · exact h.elim
abbrev T98:Tabs:=Tabs.nil
theorem zNe:TabsOk Try.prog T98:=TabsOk.nil
abbrev G98:Ctrs:=csm T98 (fun _ _=>[]) (fun _=>false)
def zFP:Ann:=⟨38,[(0,zK [1,2] [1,2]),(1,zK [1,2,3] [1,2,3]),(2,zK [2,3,18,19,20] [2,3]),(3,zK [2,3,18,19,20,21] [2,3]),(4,zK [2,3,5,18,19,20] [2,3,5]),(5,zK [2,3,18,19,20] [2,3]),(6,zK [2,3,18,19,20] [2,3]),(7,zK [2] [2])],
 [(3,zK [2,3,18,19,20] [2,3])],
 [],
 [],[]⟩
abbrev R98:=Span
abbrev e98 (r:R98):List PA:=[.agg [.int .i64 r.Low,.int .i64 r.High]]
@[irreducible] def z98:=ptF Try.prog G98 zFP Try.f98
def zDk (l_a0:list) (zcG:Int) (zaw:Int) (zax:Int):St:=⟨[(2,zp 2 0),(3,zp 3 0),(18,zS enc_55 3 l_a0.Gates),(19,zI (l_a0.Gates.len:Int)),(20,zI zcG)],[(2,.box 96 (zm (zam (⟨(0:Int),(0:Int)⟩:Span)))),(3,.box 96 (zm (zam (⟨zaw,zax⟩:Span))))],[]⟩
abbrev zKa (K:List PA→Prop) (l_a0:list) (X:St→Prop) (P:Int→Int→Int→Bool) (S:Int→Int→Int→Span):Prop:=∀ ⦃zcG:Int⦄ ⦃zaw:Int⦄ ⦃zax:Int⦄,P zcG zaw zax=true→K (e98 (S zcG zaw zax))→X (zDk l_a0 zcG zaw zax)
section
variable {K:List PA→Prop} {l_a0:list} {zcG:Int} {zaw:Int} {zax:Int} {X0:St→Prop} {P0:Int→Int→Int→Bool} {S0:Int→Int→Int→Span}
def zxA (l_a0:list) (S0:Int→Int→Int→Span) (zcG:Int) (zaw:Int) (zax:Int):Span :=
  (cond (decide (zcG < (l_a0.Gates.len : Int)))
 (S0 (w64 (zcG+(1:Int))) (if (l_a0.Gates.get zcG.toNat).Low > zaw then (l_a0.Gates.get zcG.toNat).Low else zaw) (if (l_a0.Gates.get zcG.toNat).High < zax then (l_a0.Gates.get zcG.toNat).High else zax))
 (⟨zaw,zax⟩:Span))
def zxB (l_a0:list) (P0:Int→Int→Int→Bool) (zcG:Int) (zaw:Int) (zax:Int):Bool :=
  (cond (decide (zcG < (l_a0.Gates.len : Int)))
 (decide ((0≤zcG∧zcG < (l_a0.Gates.len:Int))) &&
 (P0 (w64 (zcG+(1:Int))) (if (l_a0.Gates.get zcG.toNat).Low > zaw then (l_a0.Gates.get zcG.toNat).Low else zaw) (if (l_a0.Gates.get zcG.toNat).High < zax then (l_a0.Gates.get zcG.toNat).High else zax)))
 true)
def zxC (l_a0:list):Nat→Int→Int→Int→Span:=lpO (fun _ _ _=>default) (zxA l_a0)
def zxD (l_a0:list):Nat→Int→Int→Int→Bool:=lpO (fun _ _ _=>false) (zxB l_a0)
def zxE (l_a0:list) (zcG:Int) (zaw:Int) (zax:Int):Span:=zxC l_a0 Fuel zcG zaw zax
def zxF (l_a0:list) (zcG:Int) (zaw:Int) (zax:Int):Bool:=zxD l_a0 Fuel zcG zaw zax
theorem zFQ (hs:zxF l_a0 zcG zaw zax=true) (hk:K (e98 (zxE l_a0 zcG zaw zax))):z98 K [1,1,0,1,0] [] (zDk l_a0 zcG zaw zax) :=
  zl (fun X=>z98 K [1,1,0,1,0,0] [X]) (by kernel_rfl) fun X0 hX =>
  (show ∀ k, zKa K l_a0 X0 (zxD l_a0 k) (zxC l_a0 k) from zgs _ _ (zxB l_a0) (zxA l_a0) (zKa K l_a0 X0)
 (by intro _ _ _ hs;exact absurd hs Bool.false_ne_true)
 (by intro P0 S0 hX0 zcG zaw zax hs hk;exact hX _ (zaH (by kernel_rfl) (zc hs hk (fun hs hk=>(zaE hs fun hc hs=>And.intro hc (hX0 hs hk))) (fun hs hk=>hk))))) _ hs hk
def s98 (l_a0:list):Span :=
  (zxE l_a0 (0:Int) ((l_a0.Gates.get 0).Low) ((l_a0.Gates.get 0).High))
def p98 (l_a0:list):Bool :=
  (decide ((0≤(0:Int)∧(0:Int) < (l_a0.Gates.len:Int))) &&
 (decide ((0≤(0:Int)∧(0:Int) < (l_a0.Gates.len:Int))) &&
 (zxF l_a0 (0:Int) ((l_a0.Gates.get 0).Low) ((l_a0.Gates.get 0).High))))
end
theorem q98 (l_a0:list) (K:List PA→Prop) (hs:p98 l_a0=true) (hk:K (e98 (s98 l_a0))):vcFun Try.prog G98 zFP 98 [.agg (zcH l_a0)] K :=
  zaH (by kernel_rfl) (zaE hs fun hc hs=>And.intro hc (zaE hs fun hc hs=>And.intro hc (zFQ hs hk)))
def zB6 : List PA → COut
  | [.agg [.sl a0_Gates_n a0_Gates_s a0_Gates_g]]=>.det (IsE enc_55 3 a0_Gates_s a0_Gates_g∧p98 (⟨(⟨a0_Gates_n,zaf a0_Gates_g⟩:(Sl Gate))⟩:list)=true) [.agg [.int .i64 ((s98 (⟨(⟨a0_Gates_n,zaf a0_Gates_g⟩:(Sl Gate))⟩:list)).Low),.int .i64 ((s98 (⟨(⟨a0_Gates_n,zaf a0_Gates_g⟩:(Sl Gate))⟩:list)).High)]]
  | _=>.no
theorem zKb:zak Try.prog 98:=⟨_,rfl,rfl,by kernel_rfl⟩
theorem zOB:Ok Try.prog 98 zB6:=zaU zNe zKb fun args K h=>by
  unfold zB6 at h
  split at h
  · rename_i a0_Gates_n a0_Gates_s a0_Gates_g
    obtain ⟨⟨⟨rfl,a0_Gates_f,rfl⟩,hs⟩,hk⟩:=h
    try rw [zae a0_Gates_f] at hs
    try rw [zae a0_Gates_f] at hk
    exact ⟨(fun _ _=>[]),(fun _=>false),zFP,q98 (⟨(⟨a0_Gates_n,a0_Gates_f⟩:(Sl Gate))⟩:list) K hs hk⟩
  · exact h.elim
abbrev T66:Tabs:=((Tabs.nil.addF 67 zrY).addF 98 zB6)
theorem zNf:TabsOk Try.prog T66:=((TabsOk.nil.addF zJX).addF zOB)
abbrev G66:Ctrs:=csm T66 (fun _ _=>[]) (fun _=>false)
def zKc:Ann:=⟨19,[(0,zK [1] [1]),(1,zK [1,3] [1,3]),(2,zK [1,3,9] [1,3]),(3,zK [2] []),(4,zK [2] [])],
 [],
 [],
 [],[]⟩
abbrev R66:=Bool
abbrev e66 (r:R66):List PA:=[.one (.bool r)]
section
variable {K:List PA→Prop} {s:set}
def s66 (s:set):Bool :=
  (cond (s67 s.list)
 (decide ((s98 s.list).Low≤(s98 s.list).High))
 (decide ((s.corners.len:Int) > (0:Int))))
def p66 (s:set):Bool :=
  (decide ((p98 s.list=true)) &&
 (decide ((p67 s.list=true)) &&
 true))
end
theorem q66 (s:set) (K:List PA→Prop) (hs:p66 s=true) (hk:K (e66 (s66 s))):vcFun Try.prog G66 zKc 66 [.agg (zbg s)] K :=
  zaH (by kernel_rfl) (zaE hs fun hc hs=>And.intro (And.intro (zE enc_55 3 s.list.Gates.get) hc) (zaE hs fun hc hs=>And.intro (And.intro (zE enc_55 3 s.list.Gates.get) hc) (zt hk (fun hk=>hk) (fun hk=>hk))))
def zxG : List PA → COut
  | [.agg [.sl a0_list_Gates_n a0_list_Gates_s a0_list_Gates_g,.sl a0_corners_n a0_corners_s a0_corners_g]]=>.det (IsE enc_55 3 a0_list_Gates_s a0_list_Gates_g∧IsE zaj 3 a0_corners_s a0_corners_g∧p66 (⟨(⟨(⟨a0_list_Gates_n,zaf a0_list_Gates_g⟩:(Sl Gate))⟩:list),(⟨a0_corners_n,za6 a0_corners_g⟩:(Sl straight))⟩:set)=true) [.one (.bool (s66 (⟨(⟨(⟨a0_list_Gates_n,zaf a0_list_Gates_g⟩:(Sl Gate))⟩:list),(⟨a0_corners_n,za6 a0_corners_g⟩:(Sl straight))⟩:set)))]
  | _=>.no
theorem zKd:zak Try.prog 66:=⟨_,rfl,rfl,by kernel_rfl⟩
theorem zNg:Ok Try.prog 66 zxG:=zaU zNf zKd fun args K h=>by
  unfold zxG at h
  split at h
  · rename_i a0_list_Gates_n a0_list_Gates_s a0_list_Gates_g a0_corners_n a0_corners_s a0_corners_g
    obtain ⟨⟨⟨rfl,a0_list_Gates_f,rfl⟩,⟨rfl,a0_corners_f,rfl⟩,hs⟩,hk⟩:=h
    try rw [zae a0_list_Gates_f] at hs
    try rw [zae a0_list_Gates_f] at hk
    try rw [za0 a0_corners_f] at hs
    try rw [za0 a0_corners_f] at hk
    exact ⟨(fun _ _=>[]),(fun _=>false),zKc,q66 (⟨(⟨(⟨a0_list_Gates_n,a0_list_Gates_f⟩:(Sl Gate))⟩:list),(⟨a0_corners_n,a0_corners_f⟩:(Sl straight))⟩:set) K hs hk⟩
  · exact h.elim
abbrev zOC:Tabs:=Tabs.nil
theorem zKe:TabsOk Try.prog zOC:=TabsOk.nil
abbrev zPw:Ctrs:=csm zOC (fun _ _=>[]) (fun _=>false)
def zDl:Ann:=⟨6,[(0,zK [0] []),(1,zK [2] [])],
 [],
 [],
 [],[]⟩
abbrev zPx:=Bool
abbrev e120 (r:zPx):List PA:=[.one (.bool r)]
section
variable {K:List PA→Prop} {x:Int}
def zKf (x:Int):Bool :=
  (x != x)
end
theorem zPy (x:Int) (K:List PA→Prop) (hk:K (e120 (zKf x))):vcFun Try.prog zPw zDl 120 [.one (.int .i64 x)] K :=
  zaH (by kernel_rfl) hk
def zxH : List PA → COut
  | [.one (.int .i64 a0)]=>.tot [.one (.bool (zKf a0))]
  | _=>.no
theorem zFR:zak Try.prog 120:=⟨_,rfl,rfl,by kernel_rfl⟩
theorem zNh:Ok Try.prog 120 zxH:=zaU zKe zFR fun args K h=>by
  unfold zxH at h
  split at h
  · rename_i a0
    have hk:=h
    exact ⟨(fun _ _=>[]),(fun _=>false),zDl,zPy a0 K hk⟩
  · exact h.elim
abbrev zOD:Tabs:=(Tabs.nil.addF 120 zxH)
theorem zKg:TabsOk Try.prog zOD:=(TabsOk.nil.addF zNh)
abbrev zPz:Ctrs:=csm zOD (fun _ _=>[]) (fun _=>false)
def zDm:Ann:=⟨20,[(0,zK [0,1] []),(1,zK [0,1,5] []),(2,zK [0,1,5,6] []),(3,zK [0,1,6,11] []),(4,zK [12] []),(5,zK [4] []),(6,zK [4] []),(7,zK [0,1,13] []),(8,zK [4] []),(9,zK [0,1,16] []),(10,zK [4] []),(11,zK [19] []),(12,zK [4] []),(13,zK [4] [])],
 [],
 [],
 [],[]⟩
abbrev zPA:=Int
abbrev zPB (r:zPA):List PA:=[.one (.int .i64 r)]
section
variable {K:List PA→Prop} {x:Int} {y_a1:Int}
def zNi (x:Int) (y_a1:Int):Int :=
  (cond (zKf x)
 (cond (zKf y_a1)
 (0:Int)
 (-1:Int))
 (cond (zKf y_a1)
 (1:Int)
 (cond (decide (x < y_a1))
 (-1:Int)
 (cond (decide (x > y_a1))
 (1:Int)
 (0:Int)))))
end
theorem zPC (x:Int) (y_a1:Int) (K:List PA→Prop) (hk:K (zPB (zNi x y_a1))):vcFun Try.prog zPz zDm 103 [.one (.int .i64 x),.one (.int .i64 y_a1)] K :=
  zaH (by kernel_rfl) (zt hk (fun hk=>(zt hk (fun hk=>hk) (fun hk=>hk))) (fun hk=>(zt hk (fun hk=>hk) (fun hk=>(zt hk (fun hk=>hk) (fun hk=>(zt hk (fun hk=>hk) (fun hk=>hk))))))))
def zxI : List PA → COut
  | [.one (.int .i64 a0),.one (.int .i64 a1)]=>.tot [.one (.int .i64 (zNi a0 a1))]
  | _=>.no
theorem zFS:zak Try.prog 103:=⟨_,rfl,rfl,by kernel_rfl⟩
theorem zNj:Ok Try.prog 103 zxI:=zaU zKg zFS fun args K h=>by
  unfold zxI at h
  split at h
  · rename_i a0 a1
    have hk:=h
    exact ⟨(fun _ _=>[]),(fun _=>false),zDm,zPC a0 a1 K hk⟩
  · exact h.elim
abbrev T69:Tabs:=(Tabs.nil.addF 103 zxI)
theorem zNk:TabsOk Try.prog T69:=(TabsOk.nil.addF zNj)
abbrev G69:Ctrs:=csm T69 (fun _ _=>[]) (fun _=>false)
def zKh:Ann:=⟨16,[(0,zK [2,3] [2,3]),(1,zK [4] [])],
 [],
 [],
 [],[]⟩
abbrev R69:=Int
abbrev e69 (r:R69):List PA:=[.one (.int .i64 r)]
section
variable {K:List PA→Prop} {a:Frac} {b:Frac}
def s69 (a:Frac) (b:Frac):Int :=
  (zNi (w64 (a.Num * b.Den)) (w64 (b.Num * a.Den)))
end
theorem q69 (a:Frac) (b:Frac) (K:List PA→Prop) (hk:K (e69 (s69 a b))):vcFun Try.prog G69 zKh 69 [.agg (zah a),.agg (zah b)] K :=
  zaH (by kernel_rfl) hk
def zvt : List PA → COut
  | [.agg [.int .i64 a0_Num,.int .i64 a0_Den],.agg [.int .i64 a1_Num,.int .i64 a1_Den]]=>.tot [.one (.int .i64 (s69 (⟨a0_Num,a0_Den⟩:Frac) (⟨a1_Num,a1_Den⟩:Frac)))]
  | _=>.no
theorem zKi:zak Try.prog 69:=⟨_,rfl,rfl,by kernel_rfl⟩
theorem zMe:Ok Try.prog 69 zvt:=zaU zNk zKi fun args K h=>by
  unfold zvt at h
  split at h
  · rename_i a0_Num a0_Den a1_Num a1_Den
    have hk:=h
    exact ⟨(fun _ _=>[]),(fun _=>false),zKh,q69 (⟨a0_Num,a0_Den⟩:Frac) (⟨a1_Num,a1_Den⟩:Frac) K hk⟩
  · exact h.elim
abbrev T83:Tabs:=Tabs.nil
theorem zNl:TabsOk Try.prog T83:=TabsOk.nil
abbrev G83:Ctrs:=csm T83 (fun _ _=>[]) (fun _=>false)
def zKj:Ann:=⟨8,[(0,zK [1,2] [1,2]),(1,zK [2] [2])],
 [],
 [],
 [],[]⟩
abbrev R83:=Frac
abbrev e83 (r:R83):List PA:=[.agg [.int .i64 r.Num,.int .i64 r.Den]]
section
variable {K:List PA→Prop} {x:straight}
def s83 (x:straight):Frac :=
  (⟨x.slope,x.den⟩:Frac)
end
theorem q83 (x:straight) (K:List PA→Prop) (hk:K (e83 (s83 x))):vcFun Try.prog G83 zKj 83 [.agg (zaj x)] K :=
  zaH (by kernel_rfl) hk
def zFT : List PA → COut
  | [.agg [.int .i64 a0_slope,.int .i64 a0_start,.int .i64 a0_den]]=>.tot [.agg [.int .i64 ((s83 (⟨a0_slope,a0_start,a0_den⟩:straight)).Num),.int .i64 ((s83 (⟨a0_slope,a0_start,a0_den⟩:straight)).Den)]]
  | _=>.no
theorem zKk:zak Try.prog 83:=⟨_,rfl,rfl,by kernel_rfl⟩
theorem zPD:Ok Try.prog 83 zFT:=zaU zNl zKk fun args K h=>by
  unfold zFT at h
  split at h
  · rename_i a0_slope a0_start a0_den
    have hk:=h
    exact ⟨(fun _ _=>[]),(fun _=>false),zKj,q83 (⟨a0_slope,a0_start,a0_den⟩:straight) K hk⟩
  · exact h.elim
abbrev zOE:Tabs:=Tabs.nil
theorem zKl:TabsOk Try.prog zOE:=TabsOk.nil
abbrev zPE:Ctrs:=csm zOE (fun _ _=>[]) (fun _=>false)
def zDn:Ann:=⟨15,[(0,zK [1,2,4] [2,4]),(1,zK [4] [4])],
 [],
 [],
 [],[]⟩
abbrev zPF:=Frac
abbrev zPG (r:zPF):List PA:=[.agg [.int .i64 r.Num,.int .i64 r.Den]]
section
variable {K:List PA→Prop} {s:straight} {z:Int}
def zMf (s:straight) (z:Int):Frac :=
  (⟨(w64 (s.start+(w64 (s.slope * z)))),s.den⟩:Frac)
end
theorem zPH (s:straight) (z:Int) (K:List PA→Prop) (hk:K (zPG (zMf s z))):vcFun Try.prog zPE zDn 102 [.agg (zaj s),.one (.int .i64 z)] K :=
  zaH (by kernel_rfl) hk
def zxJ : List PA → COut
  | [.agg [.int .i64 a0_slope,.int .i64 a0_start,.int .i64 a0_den],.one (.int .i64 a1)]=>.tot [.agg [.int .i64 ((zMf (⟨a0_slope,a0_start,a0_den⟩:straight) a1).Num),.int .i64 ((zMf (⟨a0_slope,a0_start,a0_den⟩:straight) a1).Den)]]
  | _=>.no
theorem zFU:zak Try.prog 102:=⟨_,rfl,rfl,by kernel_rfl⟩
theorem zNm:Ok Try.prog 102 zxJ:=zaU zKl zFU fun args K h=>by
  unfold zxJ at h
  split at h
  · rename_i a0_slope a0_start a0_den a1
    have hk:=h
    exact ⟨(fun _ _=>[]),(fun _=>false),zDn,zPH (⟨a0_slope,a0_start,a0_den⟩:straight) a1 K hk⟩
  · exact h.elim
abbrev zOF:Tabs:=(Tabs.nil.addF 102 zxJ)
theorem zKm:TabsOk Try.prog zOF:=(TabsOk.nil.addF zNm)
abbrev zPI:Ctrs:=csm zOF (fun _ _=>[]) (fun _=>false)
def zDo:Ann:=⟨7,[(0,zK [1,2,3] [2,3]),(1,zK [3] [3])],
 [],
 [],
 [],[]⟩
abbrev zPJ:=Frac
abbrev zPK (r:zPJ):List PA:=[.agg [.int .i64 r.Num,.int .i64 r.Den]]
section
variable {K:List PA→Prop} {c0:Int} {x:straight}
def zIH (c0:Int) (x:straight):Frac :=
  (zMf x c0)
end
theorem zPL (c0:Int) (x:straight) (K:List PA→Prop) (hk:K (zPK (zIH c0 x))):vcFun Try.prog zPI zDo 101 [.agg (zaj x),.one (.fp (enc_3 c0) 0)] K :=
  zaH (by kernel_rfl) hk
def zxK : List PA → COut
  | [.agg [.int .i64 a0_slope,.int .i64 a0_start,.int .i64 a0_den],.one (.fp [.int .i64 c0] 0)]=>.tot [.agg [.int .i64 ((zIH c0 (⟨a0_slope,a0_start,a0_den⟩:straight)).Num),.int .i64 ((zIH c0 (⟨a0_slope,a0_start,a0_den⟩:straight)).Den)]]
  | _=>.no
theorem zFV:zak Try.prog 101:=⟨_,rfl,rfl,by kernel_rfl⟩
theorem zNn:Ok Try.prog 101 zxK:=zaU zKm zFV fun args K h=>by
  unfold zxK at h
  split at h
  · rename_i a0_slope a0_start a0_den c0
    have hk:=h
    exact ⟨(fun _ _=>[]),(fun _=>false),zDo,zPL c0 (⟨a0_slope,a0_start,a0_den⟩:straight) K hk⟩
  · exact h.elim
abbrev zOG:Tabs:=(Tabs.nil.addF 69 zvt)
theorem zKn:TabsOk Try.prog zOG:=(TabsOk.nil.addF zMe)
abbrev zPM:Ctrs:=csm zOG (fun _ _=>[]) (fun _=>false)
def zDp:Ann:=⟨9,[(0,zK [2,3] [2,3]),(1,zK [4] [])],
 [],
 [],
 [],[]⟩
abbrev zPN:=Bool
abbrev zPO (r:zPN):List PA:=[.one (.bool r)]
section
variable {K:List PA→Prop} {a:Frac} {b:Frac}
def zMg (a:Frac) (b:Frac):Bool :=
  (decide ((s69 a b) < (0:Int)))
end
theorem zPP (a:Frac) (b:Frac) (K:List PA→Prop) (hk:K (zPO (zMg a b))):vcFun Try.prog zPM zDp 112 [.agg (zah a),.agg (zah b)] K :=
  zaH (by kernel_rfl) hk
def zxL : List PA → COut
  | [.agg [.int .i64 a0_Num,.int .i64 a0_Den],.agg [.int .i64 a1_Num,.int .i64 a1_Den]]=>.tot [.one (.bool (zMg (⟨a0_Num,a0_Den⟩:Frac) (⟨a1_Num,a1_Den⟩:Frac)))]
  | _=>.no
theorem zFW:zak Try.prog 112:=⟨_,rfl,rfl,by kernel_rfl⟩
theorem zNo:Ok Try.prog 112 zxL:=zaU zKn zFW fun args K h=>by
  unfold zxL at h
  split at h
  · rename_i a0_Num a0_Den a1_Num a1_Den
    have hk:=h
    exact ⟨(fun _ _=>[]),(fun _=>false),zDp,zPP (⟨a0_Num,a0_Den⟩:Frac) (⟨a1_Num,a1_Den⟩:Frac) K hk⟩
  · exact h.elim
abbrev zOH:Tabs:=(Tabs.nil.addF 69 zvt)
theorem zKo:TabsOk Try.prog zOH:=(TabsOk.nil.addF zMe)
abbrev zPQ:Ctrs:=csm zOH (fun _ _=>[]) (fun _=>false)
def zDq:Ann:=⟨9,[(0,zK [2,3] [2,3]),(1,zK [4] [])],
 [],
 [],
 [],[]⟩
abbrev zPR:=Bool
abbrev zPS (r:zPR):List PA:=[.one (.bool r)]
section
variable {K:List PA→Prop} {a:Frac} {b:Frac}
def zMh (a:Frac) (b:Frac):Bool :=
  (decide ((s69 a b) > (0:Int)))
end
theorem zPT (a:Frac) (b:Frac) (K:List PA→Prop) (hk:K (zPS (zMh a b))):vcFun Try.prog zPQ zDq 113 [.agg (zah a),.agg (zah b)] K :=
  zaH (by kernel_rfl) hk
def zxM : List PA → COut
  | [.agg [.int .i64 a0_Num,.int .i64 a0_Den],.agg [.int .i64 a1_Num,.int .i64 a1_Den]]=>.tot [.one (.bool (zMh (⟨a0_Num,a0_Den⟩:Frac) (⟨a1_Num,a1_Den⟩:Frac)))]
  | _=>.no
theorem zFX:zak Try.prog 113:=⟨_,rfl,rfl,by kernel_rfl⟩
theorem zNp:Ok Try.prog 113 zxM:=zaU zKo zFX fun args K h=>by
  unfold zxM at h
  split at h
  · rename_i a0_Num a0_Den a1_Num a1_Den
    have hk:=h
    exact ⟨(fun _ _=>[]),(fun _=>false),zDq,zPT (⟨a0_Num,a0_Den⟩:Frac) (⟨a1_Num,a1_Den⟩:Frac) K hk⟩
  · exact h.elim
abbrev zNq:Tabs:=((Tabs.nil.addF 112 zxL).addF 113 zxM)
theorem zKp:TabsOk Try.prog zNq:=((TabsOk.nil.addF zNo).addF zNp)
abbrev zOI:Ctrs:=csm zNq (fun _ _=>[]) (fun _=>false)
def zxN:Ann:=⟨25,[(0,zK [0,1,4] [4]),(1,zK [0,1,4,5] [4,5]),(2,zK [1,4,5,12,13,14] [4,5]),(3,zK [1,4,5,12,13,14,15] [4,5]),(4,zK [1,4,5,7,12,13,14] [4,5,7]),(5,zK [1,4,5,7,12,13,14,21] [4,5,7]),(6,zK [1,4,5,12,13,14] [4,5]),(7,zK [1,4,5,12,13,14] [4,5]),(8,zK [4] [4])],
 [(3,zK [1,4,5,12,13,14] [4,5])],
 [(6,zK [1,4,5,7,12,13,14,21] [4,5,7])],
 [],[]⟩
abbrev zPU:=Frac
abbrev zMi (r:zPU):List PA:=[.agg [.int .i64 r.Num,.int .i64 r.Den]]
@[irreducible] def z111:=ptF Try.prog zOI zxN Try.f111
def zxO (l_a0:(Sl Frac)) (zaX:(Sl Frac)) (zal:Int) (zaw:Int) (zax:Int) (zcT:Nat→List PV):St:=⟨[(1,zP (.fn 112 [] [])),(4,zp 4 0),(5,zp 5 0),(12,zP (.sl zaX.len 2 zcT)),(13,zI (((l_a0.len:Int) - (1:Int)).toNat:Int)),(14,zI zal)],[(4,.box 25 (zm (zah (⟨(0:Int),(0:Int)⟩:Frac)))),(5,.box 25 (zm (zah (⟨zaw,zax⟩:Frac))))],[]⟩
abbrev zxP (K:List PA→Prop) (l_a0:(Sl Frac)) (X:St→Prop) (P:(Sl Frac)→Int→Int→Int→Bool) (S:(Sl Frac)→Int→Int→Int→Frac):Prop:=∀ ⦃zaX:(Sl Frac)⦄ ⦃zal:Int⦄ ⦃zaw:Int⦄ ⦃zax:Int⦄ ⦃zcT:Nat→List PV⦄,P zaX zal zaw zax=true→K (zMi (S zaX zal zaw zax))→zcT=zg zah zaX→X (zxO l_a0 zaX zal zaw zax zcT)
section
variable {K:List PA→Prop} {l_a0:(Sl Frac)} {zaX:(Sl Frac)} {zal:Int} {zaw:Int} {zax:Int} {zcT:Nat→List PV} {X0:St→Prop} {P0:(Sl Frac)→Int→Int→Int→Bool} {S0:(Sl Frac)→Int→Int→Int→Frac} {zeF:(Sl Frac)} {za4:Int} {zhi:Bool} {zdb:Int} {zdc:Int} {zhj:Int} {zhk:Int} {zlq:Nat→List PV}
def ztZ (S0:(Sl Frac)→Int→Int→Int→Frac) (l_a0:(Sl Frac)) (zeF:(Sl Frac)) (za4:Int) (zhi:Bool) (zdb:Int) (zdc:Int) (zhj:Int) (zhk:Int):Frac :=
  (cond zhi
 (S0 zeF (w64 (za4+(1:Int))) zhj zhk)
 (S0 zeF (w64 (za4+(1:Int))) zdb zdc))
def zt0 (P0:(Sl Frac)→Int→Int→Int→Bool) (l_a0:(Sl Frac)) (zeF:(Sl Frac)) (za4:Int) (zhi:Bool) (zdb:Int) (zdc:Int) (zhj:Int) (zhk:Int):Bool :=
  (cond zhi
 (P0 zeF (w64 (za4+(1:Int))) zhj zhk)
 (P0 zeF (w64 (za4+(1:Int))) zdb zdc))
theorem zB7 (hX0:zxP K l_a0 X0 P0 S0) (hs:zt0 P0 l_a0 zeF za4 zhi zdb zdc zhj zhk=true) (hk:K (zMi (ztZ S0 l_a0 zeF za4 zhi zdb zdc zhj zhk))) (zsa:zlq=zg zah zeF):z111 K [1,1,0,1,0,0,1,1,0,0,1,1] [X0] ⟨[(1,zP (.fn 112 [] [])),(4,zp 4 0),(5,zp 5 0),(7,zp 7 0),(12,zP (.sl zeF.len 2 zlq)),(13,zI (((l_a0.len:Int) - (1:Int)).toNat:Int)),(14,zI za4),(21,zB zhi)],[(4,.box 25 (zm (zah (⟨(0:Int),(0:Int)⟩:Frac)))),(5,.box 25 (zm (zah (⟨zdb,zdc⟩:Frac)))),(7,.box 25 (zm (zah (⟨zhj,zhk⟩:Frac))))],[]⟩:=by subst zsa;exact zaH (by kernel_rfl) (zc hs hk (fun hs hk=>(hX0 hs hk rfl)) (fun hs hk=>(hX0 hs hk rfl)))
def zt1 (l_a0:(Sl Frac)) (S0:(Sl Frac)→Int→Int→Int→Frac) (zaX:(Sl Frac)) (zal:Int) (zaw:Int) (zax:Int):Frac :=
  (cond (decide (zal < (((l_a0.len : Int) - (1:Int)).toNat : Int)))
 (ztZ S0 l_a0 zaX zal (zMg (zaX.get zal.toNat) (⟨zaw,zax⟩:Frac)) zaw zax ((zaX.get zal.toNat).Num) ((zaX.get zal.toNat).Den))
 (⟨zaw,zax⟩:Frac))
def zt2 (l_a0:(Sl Frac)) (P0:(Sl Frac)→Int→Int→Int→Bool) (zaX:(Sl Frac)) (zal:Int) (zaw:Int) (zax:Int):Bool :=
  (cond (decide (zal < (((l_a0.len : Int) - (1:Int)).toNat : Int)))
 (decide ((0≤zal∧zal < (zaX.len:Int))) &&
 (zt0 P0 l_a0 zaX zal (zMg (zaX.get zal.toNat) (⟨zaw,zax⟩:Frac)) zaw zax ((zaX.get zal.toNat).Num) ((zaX.get zal.toNat).Den)))
 true)
def zt3 (l_a0:(Sl Frac)):Nat→(Sl Frac)→Int→Int→Int→Frac:=lpO (fun _ _ _ _=>default) (zt1 l_a0)
def zt4 (l_a0:(Sl Frac)):Nat→(Sl Frac)→Int→Int→Int→Bool:=lpO (fun _ _ _ _=>false) (zt2 l_a0)
def zt5 (l_a0:(Sl Frac)) (zaX:(Sl Frac)) (zal:Int) (zaw:Int) (zax:Int):Frac:=zt3 l_a0 Fuel zaX zal zaw zax
def zt6 (l_a0:(Sl Frac)) (zaX:(Sl Frac)) (zal:Int) (zaw:Int) (zax:Int):Bool:=zt4 l_a0 Fuel zaX zal zaw zax
theorem zB8 (hs:zt6 l_a0 zaX zal zaw zax=true) (hk:K (zMi (zt5 l_a0 zaX zal zaw zax))) (zhl:zcT=zg zah zaX):z111 K [1,1,0,1,0] [] (zxO l_a0 zaX zal zaw zax zcT) :=
  zl (fun X=>z111 K [1,1,0,1,0,0] [X]) (by kernel_rfl) fun X0 hX =>
  (show ∀ k, zxP K l_a0 X0 (zt4 l_a0 k) (zt3 l_a0 k) from zgs _ _ (zt2 l_a0) (zt1 l_a0) (zxP K l_a0 X0)
 (by intro _ _ _ _ _ hs;exact absurd hs Bool.false_ne_true)
 (by intro P0 S0 hX0 zaX zal zaw zax zcT hs hk zhl;subst zhl;exact hX _ (zaH (by kernel_rfl) (zc hs hk (fun hs hk=>(zaE hs fun hc hs=>And.intro hc (zB7 hX0 hs hk rfl))) (fun hs hk=>hk))))) _ hs hk zhl
def zxQ (l_a0:(Sl Frac)):Frac :=
  (zt5 l_a0 (⟨((l_a0.len:Int) - (1:Int)).toNat,(fun i=>l_a0.get (i+((1:Int).toNat)))⟩:Sl Frac) (0:Int) ((l_a0.get 0).Num) ((l_a0.get 0).Den))
def zMj (l_a0:(Sl Frac)):Bool :=
  (decide ((0≤(0:Int)∧(0:Int) < (l_a0.len:Int))) &&
 (decide ((0≤(1:Int)∧(1:Int)≤(l_a0.len:Int)∧(l_a0.len:Int)≤(l_a0.len:Int))) &&
 (zt6 l_a0 (⟨((l_a0.len:Int) - (1:Int)).toNat,(fun i=>l_a0.get (i+((1:Int).toNat)))⟩:Sl Frac) (0:Int) ((l_a0.get 0).Num) ((l_a0.get 0).Den))))
end
theorem zPV (l_a0:(Sl Frac)) (K:List PA→Prop) (hs:zMj l_a0=true) (hk:K (zMi (zxQ l_a0))):vcFun Try.prog zOI zxN 111 [.one (.sl l_a0.len 2 (fun i=>zah (l_a0.get i))),.one (.fn 112 [] [])] K :=
  zaH (by kernel_rfl) (zaE hs fun hc hs=>And.intro hc (zaE hs fun hc hs=>And.intro hc (zB8 hs hk rfl)))
abbrev zKq:Ctrs:=csm zNq (fun _ _=>[]) (fun _=>false)
def zsb:Ann:=⟨25,[(0,zK [0,1,4] [4]),(1,zK [0,1,4,5] [4,5]),(2,zK [1,4,5,12,13,14] [4,5]),(3,zK [1,4,5,12,13,14,15] [4,5]),(4,zK [1,4,5,7,12,13,14] [4,5,7]),(5,zK [1,4,5,7,12,13,14,21] [4,5,7]),(6,zK [1,4,5,12,13,14] [4,5]),(7,zK [1,4,5,12,13,14] [4,5]),(8,zK [4] [4])],
 [(3,zK [1,4,5,12,13,14] [4,5])],
 [(6,zK [1,4,5,7,12,13,14,21] [4,5,7])],
 [],[]⟩
abbrev zNr:=Frac
abbrev zB9 (r:zNr):List PA:=[.agg [.int .i64 r.Num,.int .i64 r.Den]]
@[irreducible] def z111a:=ptF Try.prog zKq zsb Try.f111
def zt7 (l_a0:(Sl Frac)) (zaX:(Sl Frac)) (zal:Int) (zaw:Int) (zax:Int) (zcT:Nat→List PV):St:=⟨[(1,zP (.fn 113 [] [])),(4,zp 4 0),(5,zp 5 0),(12,zP (.sl zaX.len 2 zcT)),(13,zI (((l_a0.len:Int) - (1:Int)).toNat:Int)),(14,zI zal)],[(4,.box 25 (zm (zah (⟨(0:Int),(0:Int)⟩:Frac)))),(5,.box 25 (zm (zah (⟨zaw,zax⟩:Frac))))],[]⟩
abbrev zsc (K:List PA→Prop) (l_a0:(Sl Frac)) (X:St→Prop) (P:(Sl Frac)→Int→Int→Int→Bool) (S:(Sl Frac)→Int→Int→Int→Frac):Prop:=∀ ⦃zaX:(Sl Frac)⦄ ⦃zal:Int⦄ ⦃zaw:Int⦄ ⦃zax:Int⦄ ⦃zcT:Nat→List PV⦄,P zaX zal zaw zax=true→K (zB9 (S zaX zal zaw zax))→zcT=zg zah zaX→X (zt7 l_a0 zaX zal zaw zax zcT)
section
variable {K:List PA→Prop} {l_a0:(Sl Frac)} {zaX:(Sl Frac)} {zal:Int} {zaw:Int} {zax:Int} {zcT:Nat→List PV} {X0:St→Prop} {P0:(Sl Frac)→Int→Int→Int→Bool} {S0:(Sl Frac)→Int→Int→Int→Frac} {zeF:(Sl Frac)} {za4:Int} {zhi:Bool} {zdb:Int} {zdc:Int} {zhj:Int} {zhk:Int} {zlq:Nat→List PV}
def zqd (S0:(Sl Frac)→Int→Int→Int→Frac) (l_a0:(Sl Frac)) (zeF:(Sl Frac)) (za4:Int) (zhi:Bool) (zdb:Int) (zdc:Int) (zhj:Int) (zhk:Int):Frac :=
  (cond zhi
 (S0 zeF (w64 (za4+(1:Int))) zhj zhk)
 (S0 zeF (w64 (za4+(1:Int))) zdb zdc))
def zqe (P0:(Sl Frac)→Int→Int→Int→Bool) (l_a0:(Sl Frac)) (zeF:(Sl Frac)) (za4:Int) (zhi:Bool) (zdb:Int) (zdc:Int) (zhj:Int) (zhk:Int):Bool :=
  (cond zhi
 (P0 zeF (w64 (za4+(1:Int))) zhj zhk)
 (P0 zeF (w64 (za4+(1:Int))) zdb zdc))
theorem zxR (hX0:zsc K l_a0 X0 P0 S0) (hs:zqe P0 l_a0 zeF za4 zhi zdb zdc zhj zhk=true) (hk:K (zB9 (zqd S0 l_a0 zeF za4 zhi zdb zdc zhj zhk))) (zsa:zlq=zg zah zeF):z111a K [1,1,0,1,0,0,1,1,0,0,1,1] [X0] ⟨[(1,zP (.fn 113 [] [])),(4,zp 4 0),(5,zp 5 0),(7,zp 7 0),(12,zP (.sl zeF.len 2 zlq)),(13,zI (((l_a0.len:Int) - (1:Int)).toNat:Int)),(14,zI za4),(21,zB zhi)],[(4,.box 25 (zm (zah (⟨(0:Int),(0:Int)⟩:Frac)))),(5,.box 25 (zm (zah (⟨zdb,zdc⟩:Frac)))),(7,.box 25 (zm (zah (⟨zhj,zhk⟩:Frac))))],[]⟩:=by subst zsa;exact zaH (by kernel_rfl) (zc hs hk (fun hs hk=>(hX0 hs hk rfl)) (fun hs hk=>(hX0 hs hk rfl)))
def zqf (l_a0:(Sl Frac)) (S0:(Sl Frac)→Int→Int→Int→Frac) (zaX:(Sl Frac)) (zal:Int) (zaw:Int) (zax:Int):Frac :=
  (cond (decide (zal < (((l_a0.len : Int) - (1:Int)).toNat : Int)))
 (zqd S0 l_a0 zaX zal (zMh (zaX.get zal.toNat) (⟨zaw,zax⟩:Frac)) zaw zax ((zaX.get zal.toNat).Num) ((zaX.get zal.toNat).Den))
 (⟨zaw,zax⟩:Frac))
def zqg (l_a0:(Sl Frac)) (P0:(Sl Frac)→Int→Int→Int→Bool) (zaX:(Sl Frac)) (zal:Int) (zaw:Int) (zax:Int):Bool :=
  (cond (decide (zal < (((l_a0.len : Int) - (1:Int)).toNat : Int)))
 (decide ((0≤zal∧zal < (zaX.len:Int))) &&
 (zqe P0 l_a0 zaX zal (zMh (zaX.get zal.toNat) (⟨zaw,zax⟩:Frac)) zaw zax ((zaX.get zal.toNat).Num) ((zaX.get zal.toNat).Den)))
 true)
def zqh (l_a0:(Sl Frac)):Nat→(Sl Frac)→Int→Int→Int→Frac:=lpO (fun _ _ _ _=>default) (zqf l_a0)
def zqi (l_a0:(Sl Frac)):Nat→(Sl Frac)→Int→Int→Int→Bool:=lpO (fun _ _ _ _=>false) (zqg l_a0)
def zqj (l_a0:(Sl Frac)) (zaX:(Sl Frac)) (zal:Int) (zaw:Int) (zax:Int):Frac:=zqh l_a0 Fuel zaX zal zaw zax
def zqk (l_a0:(Sl Frac)) (zaX:(Sl Frac)) (zal:Int) (zaw:Int) (zax:Int):Bool:=zqi l_a0 Fuel zaX zal zaw zax
theorem zxS (hs:zqk l_a0 zaX zal zaw zax=true) (hk:K (zB9 (zqj l_a0 zaX zal zaw zax))) (zhl:zcT=zg zah zaX):z111a K [1,1,0,1,0] [] (zt7 l_a0 zaX zal zaw zax zcT) :=
  zl (fun X=>z111a K [1,1,0,1,0,0] [X]) (by kernel_rfl) fun X0 hX =>
  (show ∀ k, zsc K l_a0 X0 (zqi l_a0 k) (zqh l_a0 k) from zgs _ _ (zqg l_a0) (zqf l_a0) (zsc K l_a0 X0)
 (by intro _ _ _ _ _ hs;exact absurd hs Bool.false_ne_true)
 (by intro P0 S0 hX0 zaX zal zaw zax zcT hs hk zhl;subst zhl;exact hX _ (zaH (by kernel_rfl) (zc hs hk (fun hs hk=>(zaE hs fun hc hs=>And.intro hc (zxR hX0 hs hk rfl))) (fun hs hk=>hk))))) _ hs hk zhl
def s111a (l_a0:(Sl Frac)):Frac :=
  (zqj l_a0 (⟨((l_a0.len:Int) - (1:Int)).toNat,(fun i=>l_a0.get (i+((1:Int).toNat)))⟩:Sl Frac) (0:Int) ((l_a0.get 0).Num) ((l_a0.get 0).Den))
def zCa (l_a0:(Sl Frac)):Bool :=
  (decide ((0≤(0:Int)∧(0:Int) < (l_a0.len:Int))) &&
 (decide ((0≤(1:Int)∧(1:Int)≤(l_a0.len:Int)∧(l_a0.len:Int)≤(l_a0.len:Int))) &&
 (zqk l_a0 (⟨((l_a0.len:Int) - (1:Int)).toNat,(fun i=>l_a0.get (i+((1:Int).toNat)))⟩:Sl Frac) (0:Int) ((l_a0.get 0).Num) ((l_a0.get 0).Den))))
end
theorem zNs (l_a0:(Sl Frac)) (K:List PA→Prop) (hs:zCa l_a0=true) (hk:K (zB9 (s111a l_a0))):vcFun Try.prog zKq zsb 111 [.one (.sl l_a0.len 2 (fun i=>zah (l_a0.get i))),.one (.fn 113 [] [])] K :=
  zaH (by kernel_rfl) (zaE hs fun hc hs=>And.intro hc (zaE hs fun hc hs=>And.intro hc (zxS hs hk rfl)))
def zxT : List PA → COut
  | [.one (.sl a0_n a0_s a0_g),.one (.fn 112 [] [])]=>.det (IsE zah 2 a0_s a0_g∧zMj (⟨a0_n,zgY a0_g⟩:(Sl Frac))=true) [.agg [.int .i64 ((zxQ (⟨a0_n,zgY a0_g⟩:(Sl Frac))).Num),.int .i64 ((zxQ (⟨a0_n,zgY a0_g⟩:(Sl Frac))).Den)]]
  | [.one (.sl a0_n a0_s a0_g),.one (.fn 113 [] [])]=>.det (IsE zah 2 a0_s a0_g∧zCa (⟨a0_n,zgY a0_g⟩:(Sl Frac))=true) [.agg [.int .i64 ((s111a (⟨a0_n,zgY a0_g⟩:(Sl Frac))).Num),.int .i64 ((s111a (⟨a0_n,zgY a0_g⟩:(Sl Frac))).Den)]]
  | _=>.no
theorem zFY:zak Try.prog 111:=⟨_,rfl,rfl,by kernel_rfl⟩
theorem zNt:Ok Try.prog 111 zxT:=zaU zKp zFY fun args K h=>by
  unfold zxT at h
  split at h
  · rename_i a0_n a0_s a0_g
    obtain ⟨⟨⟨rfl,a0_f,rfl⟩,hs⟩,hk⟩:=h
    try rw [zfe a0_f] at hs
    try rw [zfe a0_f] at hk
    exact ⟨(fun _ _=>[]),(fun _=>false),zxN,zPV (⟨a0_n,a0_f⟩:(Sl Frac)) K hs hk⟩
  · rename_i a0_n a0_s a0_g
    obtain ⟨⟨⟨rfl,a0_f,rfl⟩,hs⟩,hk⟩:=h
    try rw [zfe a0_f] at hs
    try rw [zfe a0_f] at hk
    exact ⟨(fun _ _=>[]),(fun _=>false),zsb,zNs (⟨a0_n,a0_f⟩:(Sl Frac)) K hs hk⟩
  · exact h.elim
abbrev T82:Tabs:=((((Tabs.nil.addF 83 zFT).addF 89 zvq).addF 101 zxK).addF 111 zxT)
theorem zNu:TabsOk Try.prog T82:=((((TabsOk.nil.addF zPD).addF zMd).addF zNn).addF zNt)
abbrev G82:Ctrs:=csm T82 (fun _ _=>[]) (fun _=>false)
def zFZ:Ann:=⟨39,[(0,zK [1,2,4,5] [2,4,5]),(1,zK [1,2,4,5,6] [2,4,5]),(2,zK [1,4,5,6,12,13,14] [4,5]),(3,zK [1,4,5,6,12,13,14,15] [4,5,23]),(4,zK [1,4,5,6,8,12,13,14] [4,5,8,23]),(5,zK [1,4,5,6,12,13,14] [4,5,23]),(6,zK [1,4,5,6,12,13,14] [4,5,23]),(7,zK [4,5,6,9] [4,5,9,23]),(8,zK [4,5,9,10] [4,5,9,10]),(9,zK [4,5] [4,5])],
 [(3,⟨[1,4,5,6,12,13,14],[4,5,23],[(6,23,25,fun _=>zah default)],[],[],[],[]⟩)],
 [(7,zK [4,5,6] [4,5,23]),(8,zK [4,5,6,9] [4,5,9,23]),(9,zK [4,5,9,10] [4,5,9,10])],
 [],[]⟩
abbrev R82:=(Frac×Frac)
abbrev e82 (r:R82):List PA:=[.agg [.int .i64 r.1.Num,.int .i64 r.1.Den],.agg [.int .i64 r.2.Num,.int .i64 r.2.Den]]
@[irreducible] def z82:=ptF Try.prog G82 zFZ Try.f82
def zDr (c0:Int) (s:set) (zal:Int) (zbs:(Sl Frac)) (zcU:Nat→List PV):St:=⟨[(1,zP (.fn 101 [] [.fp (enc_3 c0) 0])),(4,zp 4 0),(5,zp 5 0),(6,zv 23),(12,zS zaj 3 s.corners),(13,zI (s.corners.len:Int)),(14,zI zal)],[(4,.box 25 (zm (zah (⟨(0:Int),(0:Int)⟩:Frac)))),(5,.box 25 (zm (zah (⟨(0:Int),(0:Int)⟩:Frac)))),(23,.vec 25 2 16 zbs.len zcU)],[]⟩
abbrev zKr (K:List PA→Prop) (c0:Int) (s:set) (X:St→Prop) (P:Int→(Sl Frac)→Bool) (S:Int→(Sl Frac)→(Frac×Frac)):Prop:=∀ ⦃zal:Int⦄ ⦃zbs:(Sl Frac)⦄ ⦃zcU:Nat→List PV⦄,P zal zbs=true→K (e82 (S zal zbs))→zcU=zg zah zbs→X (zDr c0 s zal zbs zcU)
section
variable {K:List PA→Prop} {c0:Int} {s:set} {zal:Int} {zbs:(Sl Frac)} {zcU:Nat→List PV} {X0:St→Prop} {P0:Int→(Sl Frac)→Bool} {S0:Int→(Sl Frac)→(Frac×Frac)} {zdp:(Sl Frac)} {zlr:Nat→List PV} {zbt:Int} {zbu:Int} {zdQ:(Sl Frac)} {zls:Nat→List PV} {zcz:Int} {zcA:Int}
def zxU (zbt:Int) (zbu:Int) (zcz:Int) (zcA:Int):(Frac×Frac) :=
  ((s89 zbt zbu),(s89 zcz zcA))
def zxV (zbt:Int) (zbu:Int) (zcz:Int) (zcA:Int):Bool :=
  (decide ((p89 zbt zbu=true)) &&
 (decide ((p89 zcz zcA=true)) &&
 true))
theorem zF0 (hs:zxV zbt zbu zcz zcA=true) (hk:K (e82 (zxU zbt zbu zcz zcA))):z82 K [1,1,1,1,1] [] ⟨[(4,zp 4 0),(5,zp 5 0),(9,zp 9 0),(10,zp 10 0)],[(4,.box 25 (zm (zah (⟨(0:Int),(0:Int)⟩:Frac)))),(5,.box 25 (zm (zah (⟨(0:Int),(0:Int)⟩:Frac)))),(9,.box 25 (zm (zah (⟨zbt,zbu⟩:Frac)))),(10,.box 25 (zm (zah (⟨zcz,zcA⟩:Frac))))],[]⟩:=zaH (by kernel_rfl) (zaE hs fun hc hs=>And.intro hc (zaE hs fun hc hs=>And.intro hc hk))
def zxW (zbt:Int) (zbu:Int) (zdQ:(Sl Frac)):(Frac×Frac) :=
  (zxU zbt zbu ((s111a zdQ).Num) ((s111a zdQ).Den))
def zxX (zbt:Int) (zbu:Int) (zdQ:(Sl Frac)):Bool :=
  (decide ((zCa zdQ=true)) &&
 (zxV zbt zbu ((s111a zdQ).Num) ((s111a zdQ).Den)))
theorem zF1 (hs:zxX zbt zbu zdQ=true) (hk:K (e82 (zxW zbt zbu zdQ))) (zsd:zls=zg zah zdQ):z82 K [1,1,1,1] [] ⟨[(4,zp 4 0),(5,zp 5 0),(6,zv 23),(9,zp 9 0)],[(4,.box 25 (zm (zah (⟨(0:Int),(0:Int)⟩:Frac)))),(5,.box 25 (zm (zah (⟨(0:Int),(0:Int)⟩:Frac)))),(9,.box 25 (zm (zah (⟨zbt,zbu⟩:Frac)))),(23,.vec 25 2 16 zdQ.len zls)],[]⟩:=by subst zsd;exact zaH (by kernel_rfl) (zaE hs fun hc hs=>And.intro (And.intro (zE zah 2 zdQ.get) hc) (zF0 hs hk))
def zxY (zdp:(Sl Frac)):(Frac×Frac) :=
  (zxW ((zxQ zdp).Num) ((zxQ zdp).Den) zdp)
def zxZ (zdp:(Sl Frac)):Bool :=
  (decide ((zMj zdp=true)) &&
 (zxX ((zxQ zdp).Num) ((zxQ zdp).Den) zdp))
theorem zF2 (hs:zxZ zdp=true) (hk:K (e82 (zxY zdp))) (zse:zlr=zg zah zdp):z82 K [1,1,1] [] ⟨[(4,zp 4 0),(5,zp 5 0),(6,zv 23)],[(4,.box 25 (zm (zah (⟨(0:Int),(0:Int)⟩:Frac)))),(5,.box 25 (zm (zah (⟨(0:Int),(0:Int)⟩:Frac)))),(23,.vec 25 2 16 zdp.len zlr)],[]⟩:=by subst zse;exact zaH (by kernel_rfl) (zaE hs fun hc hs=>And.intro (And.intro (zE zah 2 zdp.get) hc) (zF1 hs hk rfl))
def zx0 (c0:Int) (s:set) (S0:Int→(Sl Frac)→(Frac×Frac)) (zal:Int) (zbs:(Sl Frac)):(Frac×Frac) :=
  (cond (decide (zal < (s.corners.len : Int)))
 (S0 (w64 (zal+(1:Int))) (⟨(zbs.len+1),(zeD zbs.len zbs.get (fun _=>(zIH c0 (s.corners.get zal.toNat))))⟩:Sl Frac))
 (zxY zbs))
def zx1 (c0:Int) (s:set) (P0:Int→(Sl Frac)→Bool) (zal:Int) (zbs:(Sl Frac)):Bool :=
  (cond (decide (zal < (s.corners.len : Int)))
 (decide ((0≤zal∧zal < (s.corners.len:Int))) &&
 (decide (((zbs.len+1) * 16≤140737488355328∧zbs.len+1≤9223372036854775807)) &&
 (P0 (w64 (zal+(1:Int))) (⟨(zbs.len+1),(zeD zbs.len zbs.get (fun _=>(zIH c0 (s.corners.get zal.toNat))))⟩:Sl Frac))))
 (zxZ zbs))
def zx2 (c0:Int) (s:set):Nat→Int→(Sl Frac)→(Frac×Frac):=lpO (fun _ _=>default) (zx0 c0 s)
def zx3 (c0:Int) (s:set):Nat→Int→(Sl Frac)→Bool:=lpO (fun _ _=>false) (zx1 c0 s)
def zx4 (c0:Int) (s:set) (zal:Int) (zbs:(Sl Frac)):(Frac×Frac):=zx2 c0 s Fuel zal zbs
def zx5 (c0:Int) (s:set) (zal:Int) (zbs:(Sl Frac)):Bool:=zx3 c0 s Fuel zal zbs
theorem zF3 (hs:zx5 c0 s zal zbs=true) (hk:K (e82 (zx4 c0 s zal zbs))) (zhm:zcU=zg zah zbs):z82 K [1,1,0,1,0] [] (zDr c0 s zal zbs zcU) :=
  zl (fun X=>z82 K [1,1,0,1,0,0] [X]) (by kernel_rfl) fun X0 hX =>
  (show ∀ k, zKr K c0 s X0 (zx3 c0 s k) (zx2 c0 s k) from zgs _ _ (zx1 c0 s) (zx0 c0 s) (zKr K c0 s X0)
 (by intro _ _ _ hs;exact absurd hs Bool.false_ne_true)
 (by intro P0 S0 hX0 zal zbs zcU hs hk zhm;subst zhm;exact hX _ (zaH (by kernel_rfl) (zc hs hk (fun hs hk=>(zaE hs fun hc hs=>And.intro hc (zaE hs fun hc hs=>And.intro hc (hX0 hs hk (zh2 (enc:=zah) (f:=zbs.get) (h:=(fun _=>(zIH c0 (s.corners.get zal.toNat)))) rfl rfl))))) (fun hs hk=>(zF2 hs hk rfl)))))) _ hs hk zhm
def s82 (c0:Int) (s:set):(Frac×Frac) :=
  (zx4 c0 s (0:Int) (⟨0,(fun _=>default)⟩:Sl Frac))
def p82 (c0:Int) (s:set):Bool :=
  (zx5 c0 s (0:Int) (⟨0,(fun _=>default)⟩:Sl Frac))
end
theorem q82 (c0:Int) (s:set) (K:List PA→Prop) (hs:p82 c0 s=true) (hk:K (e82 (s82 c0 s))):vcFun Try.prog G82 zFZ 82 [.agg (zbg s),.one (.fn 101 [] [.fp (enc_3 c0) 0])] K :=
  zaH (by kernel_rfl) (zF3 hs hk rfl)
abbrev zOJ:Ctrs:=csm T82 (fun _ _=>[]) (fun _=>false)
def zx6:Ann:=⟨39,[(0,zK [1,2,4,5] [2,4,5]),(1,zK [1,2,4,5,6] [2,4,5]),(2,zK [1,4,5,6,12,13,14] [4,5]),(3,zK [1,4,5,6,12,13,14,15] [4,5,23]),(4,zK [1,4,5,6,8,12,13,14] [4,5,8,23]),(5,zK [1,4,5,6,12,13,14] [4,5,23]),(6,zK [1,4,5,6,12,13,14] [4,5,23]),(7,zK [4,5,6,9] [4,5,9,23]),(8,zK [4,5,9,10] [4,5,9,10]),(9,zK [4,5] [4,5])],
 [(3,⟨[1,4,5,6,12,13,14],[4,5,23],[(6,23,25,fun _=>zah default)],[],[],[],[]⟩)],
 [(7,zK [4,5,6] [4,5,23]),(8,zK [4,5,6,9] [4,5,9,23]),(9,zK [4,5,9,10] [4,5,9,10])],
 [],[]⟩
abbrev zPW:=(Frac×Frac)
abbrev zII (r:zPW):List PA:=[.agg [.int .i64 r.1.Num,.int .i64 r.1.Den],.agg [.int .i64 r.2.Num,.int .i64 r.2.Den]]
@[irreducible] def z82a:=ptF Try.prog zOJ zx6 Try.f82
def zx7 (s:set) (zal:Int) (zbs:(Sl Frac)) (zcU:Nat→List PV):St:=⟨[(1,zP (.fn 83 [] [])),(4,zp 4 0),(5,zp 5 0),(6,zv 23),(12,zS zaj 3 s.corners),(13,zI (s.corners.len:Int)),(14,zI zal)],[(4,.box 25 (zm (zah (⟨(0:Int),(0:Int)⟩:Frac)))),(5,.box 25 (zm (zah (⟨(0:Int),(0:Int)⟩:Frac)))),(23,.vec 25 2 16 zbs.len zcU)],[]⟩
abbrev zDs (K:List PA→Prop) (s:set) (X:St→Prop) (P:Int→(Sl Frac)→Bool) (S:Int→(Sl Frac)→(Frac×Frac)):Prop:=∀ ⦃zal:Int⦄ ⦃zbs:(Sl Frac)⦄ ⦃zcU:Nat→List PV⦄,P zal zbs=true→K (zII (S zal zbs))→zcU=zg zah zbs→X (zx7 s zal zbs zcU)
section
variable {K:List PA→Prop} {s:set} {zal:Int} {zbs:(Sl Frac)} {zcU:Nat→List PV} {X0:St→Prop} {P0:Int→(Sl Frac)→Bool} {S0:Int→(Sl Frac)→(Frac×Frac)} {zdp:(Sl Frac)} {zlr:Nat→List PV} {zbt:Int} {zbu:Int} {zdQ:(Sl Frac)} {zls:Nat→List PV} {zcz:Int} {zcA:Int}
def zt8 (zbt:Int) (zbu:Int) (zcz:Int) (zcA:Int):(Frac×Frac) :=
  ((s89 zbt zbu),(s89 zcz zcA))
def zt9 (zbt:Int) (zbu:Int) (zcz:Int) (zcA:Int):Bool :=
  (decide ((p89 zbt zbu=true)) &&
 (decide ((p89 zcz zcA=true)) &&
 true))
theorem zCb (hs:zt9 zbt zbu zcz zcA=true) (hk:K (zII (zt8 zbt zbu zcz zcA))):z82a K [1,1,1,1,1] [] ⟨[(4,zp 4 0),(5,zp 5 0),(9,zp 9 0),(10,zp 10 0)],[(4,.box 25 (zm (zah (⟨(0:Int),(0:Int)⟩:Frac)))),(5,.box 25 (zm (zah (⟨(0:Int),(0:Int)⟩:Frac)))),(9,.box 25 (zm (zah (⟨zbt,zbu⟩:Frac)))),(10,.box 25 (zm (zah (⟨zcz,zcA⟩:Frac))))],[]⟩:=zaH (by kernel_rfl) (zaE hs fun hc hs=>And.intro hc (zaE hs fun hc hs=>And.intro hc hk))
def zua (zbt:Int) (zbu:Int) (zdQ:(Sl Frac)):(Frac×Frac) :=
  (zt8 zbt zbu ((s111a zdQ).Num) ((s111a zdQ).Den))
def zue (zbt:Int) (zbu:Int) (zdQ:(Sl Frac)):Bool :=
  (decide ((zCa zdQ=true)) &&
 (zt9 zbt zbu ((s111a zdQ).Num) ((s111a zdQ).Den)))
theorem zCc (hs:zue zbt zbu zdQ=true) (hk:K (zII (zua zbt zbu zdQ))) (zsd:zls=zg zah zdQ):z82a K [1,1,1,1] [] ⟨[(4,zp 4 0),(5,zp 5 0),(6,zv 23),(9,zp 9 0)],[(4,.box 25 (zm (zah (⟨(0:Int),(0:Int)⟩:Frac)))),(5,.box 25 (zm (zah (⟨(0:Int),(0:Int)⟩:Frac)))),(9,.box 25 (zm (zah (⟨zbt,zbu⟩:Frac)))),(23,.vec 25 2 16 zdQ.len zls)],[]⟩:=by subst zsd;exact zaH (by kernel_rfl) (zaE hs fun hc hs=>And.intro (And.intro (zE zah 2 zdQ.get) hc) (zCb hs hk))
def zuf (zdp:(Sl Frac)):(Frac×Frac) :=
  (zua ((zxQ zdp).Num) ((zxQ zdp).Den) zdp)
def zug (zdp:(Sl Frac)):Bool :=
  (decide ((zMj zdp=true)) &&
 (zue ((zxQ zdp).Num) ((zxQ zdp).Den) zdp))
theorem zCd (hs:zug zdp=true) (hk:K (zII (zuf zdp))) (zse:zlr=zg zah zdp):z82a K [1,1,1] [] ⟨[(4,zp 4 0),(5,zp 5 0),(6,zv 23)],[(4,.box 25 (zm (zah (⟨(0:Int),(0:Int)⟩:Frac)))),(5,.box 25 (zm (zah (⟨(0:Int),(0:Int)⟩:Frac)))),(23,.vec 25 2 16 zdp.len zlr)],[]⟩:=by subst zse;exact zaH (by kernel_rfl) (zaE hs fun hc hs=>And.intro (And.intro (zE zah 2 zdp.get) hc) (zCc hs hk rfl))
def zuh (s:set) (S0:Int→(Sl Frac)→(Frac×Frac)) (zal:Int) (zbs:(Sl Frac)):(Frac×Frac) :=
  (cond (decide (zal < (s.corners.len : Int)))
 (S0 (w64 (zal+(1:Int))) (⟨(zbs.len+1),(zeD zbs.len zbs.get (fun _=>(s83 (s.corners.get zal.toNat))))⟩:Sl Frac))
 (zuf zbs))
def zui (s:set) (P0:Int→(Sl Frac)→Bool) (zal:Int) (zbs:(Sl Frac)):Bool :=
  (cond (decide (zal < (s.corners.len : Int)))
 (decide ((0≤zal∧zal < (s.corners.len:Int))) &&
 (decide (((zbs.len+1) * 16≤140737488355328∧zbs.len+1≤9223372036854775807)) &&
 (P0 (w64 (zal+(1:Int))) (⟨(zbs.len+1),(zeD zbs.len zbs.get (fun _=>(s83 (s.corners.get zal.toNat))))⟩:Sl Frac))))
 (zug zbs))
def zuj (s:set):Nat→Int→(Sl Frac)→(Frac×Frac):=lpO (fun _ _=>default) (zuh s)
def zuk (s:set):Nat→Int→(Sl Frac)→Bool:=lpO (fun _ _=>false) (zui s)
def zul (s:set) (zal:Int) (zbs:(Sl Frac)):(Frac×Frac):=zuj s Fuel zal zbs
def zum (s:set) (zal:Int) (zbs:(Sl Frac)):Bool:=zuk s Fuel zal zbs
theorem zCe (hs:zum s zal zbs=true) (hk:K (zII (zul s zal zbs))) (zhm:zcU=zg zah zbs):z82a K [1,1,0,1,0] [] (zx7 s zal zbs zcU) :=
  zl (fun X=>z82a K [1,1,0,1,0,0] [X]) (by kernel_rfl) fun X0 hX =>
  (show ∀ k, zDs K s X0 (zuk s k) (zuj s k) from zgs _ _ (zui s) (zuh s) (zDs K s X0)
 (by intro _ _ _ hs;exact absurd hs Bool.false_ne_true)
 (by intro P0 S0 hX0 zal zbs zcU hs hk zhm;subst zhm;exact hX _ (zaH (by kernel_rfl) (zc hs hk (fun hs hk=>(zaE hs fun hc hs=>And.intro hc (zaE hs fun hc hs=>And.intro hc (hX0 hs hk (zh2 (enc:=zah) (f:=zbs.get) (h:=(fun _=>(s83 (s.corners.get zal.toNat)))) rfl rfl))))) (fun hs hk=>(zCd hs hk rfl)))))) _ hs hk zhm
def zKs (s:set):(Frac×Frac) :=
  (zul s (0:Int) (⟨0,(fun _=>default)⟩:Sl Frac))
def zOK (s:set):Bool :=
  (zum s (0:Int) (⟨0,(fun _=>default)⟩:Sl Frac))
end
theorem zPX (s:set) (K:List PA→Prop) (hs:zOK s=true) (hk:K (zII (zKs s))):vcFun Try.prog zOJ zx6 82 [.agg (zbg s),.one (.fn 83 [] [])] K :=
  zaH (by kernel_rfl) (zCe hs hk rfl)
def zF4 : List PA → COut
  | [.agg [.sl a0_list_Gates_n a0_list_Gates_s a0_list_Gates_g,.sl a0_corners_n a0_corners_s a0_corners_g],.one (.fn 101 [] [.fp [.int .i64 c0] 0])]=>.det (IsE enc_55 3 a0_list_Gates_s a0_list_Gates_g∧IsE zaj 3 a0_corners_s a0_corners_g∧p82 c0 (⟨(⟨(⟨a0_list_Gates_n,zaf a0_list_Gates_g⟩:(Sl Gate))⟩:list),(⟨a0_corners_n,za6 a0_corners_g⟩:(Sl straight))⟩:set)=true) [.agg [.int .i64 (((s82 c0 (⟨(⟨(⟨a0_list_Gates_n,zaf a0_list_Gates_g⟩:(Sl Gate))⟩:list),(⟨a0_corners_n,za6 a0_corners_g⟩:(Sl straight))⟩:set)).1).Num),.int .i64 (((s82 c0 (⟨(⟨(⟨a0_list_Gates_n,zaf a0_list_Gates_g⟩:(Sl Gate))⟩:list),(⟨a0_corners_n,za6 a0_corners_g⟩:(Sl straight))⟩:set)).1).Den)],.agg [.int .i64 (((s82 c0 (⟨(⟨(⟨a0_list_Gates_n,zaf a0_list_Gates_g⟩:(Sl Gate))⟩:list),(⟨a0_corners_n,za6 a0_corners_g⟩:(Sl straight))⟩:set)).2).Num),.int .i64 (((s82 c0 (⟨(⟨(⟨a0_list_Gates_n,zaf a0_list_Gates_g⟩:(Sl Gate))⟩:list),(⟨a0_corners_n,za6 a0_corners_g⟩:(Sl straight))⟩:set)).2).Den)]]
  | [.agg [.sl a0_list_Gates_n a0_list_Gates_s a0_list_Gates_g,.sl a0_corners_n a0_corners_s a0_corners_g],.one (.fn 83 [] [])]=>.det (IsE enc_55 3 a0_list_Gates_s a0_list_Gates_g∧IsE zaj 3 a0_corners_s a0_corners_g∧zOK (⟨(⟨(⟨a0_list_Gates_n,zaf a0_list_Gates_g⟩:(Sl Gate))⟩:list),(⟨a0_corners_n,za6 a0_corners_g⟩:(Sl straight))⟩:set)=true) [.agg [.int .i64 (((zKs (⟨(⟨(⟨a0_list_Gates_n,zaf a0_list_Gates_g⟩:(Sl Gate))⟩:list),(⟨a0_corners_n,za6 a0_corners_g⟩:(Sl straight))⟩:set)).1).Num),.int .i64 (((zKs (⟨(⟨(⟨a0_list_Gates_n,zaf a0_list_Gates_g⟩:(Sl Gate))⟩:list),(⟨a0_corners_n,za6 a0_corners_g⟩:(Sl straight))⟩:set)).1).Den)],.agg [.int .i64 (((zKs (⟨(⟨(⟨a0_list_Gates_n,zaf a0_list_Gates_g⟩:(Sl Gate))⟩:list),(⟨a0_corners_n,za6 a0_corners_g⟩:(Sl straight))⟩:set)).2).Num),.int .i64 (((zKs (⟨(⟨(⟨a0_list_Gates_n,zaf a0_list_Gates_g⟩:(Sl Gate))⟩:list),(⟨a0_corners_n,za6 a0_corners_g⟩:(Sl straight))⟩:set)).2).Den)]]
  | _=>.no
theorem zKt:zak Try.prog 82:=⟨_,rfl,rfl,by kernel_rfl⟩
theorem zPY:Ok Try.prog 82 zF4:=zaU zNu zKt fun args K h=>by
  unfold zF4 at h
  split at h
  · rename_i a0_list_Gates_n a0_list_Gates_s a0_list_Gates_g a0_corners_n a0_corners_s a0_corners_g c0
    obtain ⟨⟨⟨rfl,a0_list_Gates_f,rfl⟩,⟨rfl,a0_corners_f,rfl⟩,hs⟩,hk⟩:=h
    try rw [zae a0_list_Gates_f] at hs
    try rw [zae a0_list_Gates_f] at hk
    try rw [za0 a0_corners_f] at hs
    try rw [za0 a0_corners_f] at hk
    exact ⟨(fun _ _=>[]),(fun _=>false),zFZ,q82 c0 (⟨(⟨(⟨a0_list_Gates_n,a0_list_Gates_f⟩:(Sl Gate))⟩:list),(⟨a0_corners_n,a0_corners_f⟩:(Sl straight))⟩:set) K hs hk⟩
  · rename_i a0_list_Gates_n a0_list_Gates_s a0_list_Gates_g a0_corners_n a0_corners_s a0_corners_g
    obtain ⟨⟨⟨rfl,a0_list_Gates_f,rfl⟩,⟨rfl,a0_corners_f,rfl⟩,hs⟩,hk⟩:=h
    try rw [zae a0_list_Gates_f] at hs
    try rw [zae a0_list_Gates_f] at hk
    try rw [za0 a0_corners_f] at hs
    try rw [za0 a0_corners_f] at hk
    exact ⟨(fun _ _=>[]),(fun _=>false),zx6,zPX (⟨(⟨(⟨a0_list_Gates_n,a0_list_Gates_f⟩:(Sl Gate))⟩:list),(⟨a0_corners_n,a0_corners_f⟩:(Sl straight))⟩:set) K hs hk⟩
  · exact h.elim
abbrev T68:Tabs:=((((Tabs.nil.addF 67 zrY).addF 82 zF4).addF 89 zvq).addF 98 zB6)
theorem zNv:TabsOk Try.prog T68:=((((TabsOk.nil.addF zJX).addF zPY).addF zMd).addF zOB)
abbrev G68:Ctrs:=csm T68 (fun _ _=>[]) (fun _=>false)
def zKu:Ann:=⟨24,[(0,zK [2,3,4,5] [2,3,4,5]),(1,zK [2,3,4,5,9] [2,3,4,5]),(2,zK [4,5,6] [4,5,6]),(3,zK [4,5] [4,5]),(4,zK [4,5] [4,5])],
 [],
 [],
 [],[]⟩
abbrev R68:=(Frac×Frac)
abbrev e68 (r:R68):List PA:=[.agg [.int .i64 r.1.Num,.int .i64 r.1.Den],.agg [.int .i64 r.2.Num,.int .i64 r.2.Den]]
section
variable {K:List PA→Prop} {s:set} {z:Int}
def s68 (s:set) (z:Int):(Frac×Frac) :=
  (cond (s67 s.list)
 ((s89 ((s98 s.list).Low) (1:Int)),(s89 ((s98 s.list).High) (1:Int)))
 (((s82 z s).1),((s82 z s).2)))
def p68 (s:set) (z:Int):Bool :=
  (decide ((p67 s.list=true)) &&
 (cond (s67 s.list)
 (decide ((p98 s.list=true)) &&
 (decide ((p89 ((s98 s.list).Low) (1:Int)=true)) &&
 (decide ((p89 ((s98 s.list).High) (1:Int)=true)) &&
 true)))
 (decide ((p82 z s=true)) &&
 true)))
end
theorem q68 (s:set) (z:Int) (K:List PA→Prop) (hs:p68 s z=true) (hk:K (e68 (s68 s z))):vcFun Try.prog G68 zKu 68 [.agg (zbg s),.one (.int .i64 z)] K :=
  zaH (by kernel_rfl) (zaE hs fun hc hs=>And.intro (And.intro (zE enc_55 3 s.list.Gates.get) hc) (zc hs hk (fun hs hk=>(zaE hs fun hc hs=>And.intro (And.intro (zE enc_55 3 s.list.Gates.get) hc) (zaE hs fun hc hs=>And.intro hc (zaE hs fun hc hs=>And.intro hc hk)))) (fun hs hk=>(zaE hs fun hc hs=>And.intro (And.intro (zE enc_55 3 s.list.Gates.get) (And.intro (zE zaj 3 s.corners.get) hc)) hk))))
def zCf : List PA → COut
  | [.agg [.sl a0_list_Gates_n a0_list_Gates_s a0_list_Gates_g,.sl a0_corners_n a0_corners_s a0_corners_g],.one (.int .i64 a1)]=>.det (IsE enc_55 3 a0_list_Gates_s a0_list_Gates_g∧IsE zaj 3 a0_corners_s a0_corners_g∧p68 (⟨(⟨(⟨a0_list_Gates_n,zaf a0_list_Gates_g⟩:(Sl Gate))⟩:list),(⟨a0_corners_n,za6 a0_corners_g⟩:(Sl straight))⟩:set) a1=true) [.agg [.int .i64 (((s68 (⟨(⟨(⟨a0_list_Gates_n,zaf a0_list_Gates_g⟩:(Sl Gate))⟩:list),(⟨a0_corners_n,za6 a0_corners_g⟩:(Sl straight))⟩:set) a1).1).Num),.int .i64 (((s68 (⟨(⟨(⟨a0_list_Gates_n,zaf a0_list_Gates_g⟩:(Sl Gate))⟩:list),(⟨a0_corners_n,za6 a0_corners_g⟩:(Sl straight))⟩:set) a1).1).Den)],.agg [.int .i64 (((s68 (⟨(⟨(⟨a0_list_Gates_n,zaf a0_list_Gates_g⟩:(Sl Gate))⟩:list),(⟨a0_corners_n,za6 a0_corners_g⟩:(Sl straight))⟩:set) a1).2).Num),.int .i64 (((s68 (⟨(⟨(⟨a0_list_Gates_n,zaf a0_list_Gates_g⟩:(Sl Gate))⟩:list),(⟨a0_corners_n,za6 a0_corners_g⟩:(Sl straight))⟩:set) a1).2).Den)]]
  | _=>.no
theorem zKv:zak Try.prog 68:=⟨_,rfl,rfl,by kernel_rfl⟩
theorem zOL:Ok Try.prog 68 zCf:=zaU zNv zKv fun args K h=>by
  unfold zCf at h
  split at h
  · rename_i a0_list_Gates_n a0_list_Gates_s a0_list_Gates_g a0_corners_n a0_corners_s a0_corners_g a1
    obtain ⟨⟨⟨rfl,a0_list_Gates_f,rfl⟩,⟨rfl,a0_corners_f,rfl⟩,hs⟩,hk⟩:=h
    try rw [zae a0_list_Gates_f] at hs
    try rw [zae a0_list_Gates_f] at hk
    try rw [za0 a0_corners_f] at hs
    try rw [za0 a0_corners_f] at hk
    exact ⟨(fun _ _=>[]),(fun _=>false),zKu,q68 (⟨(⟨(⟨a0_list_Gates_n,a0_list_Gates_f⟩:(Sl Gate))⟩:list),(⟨a0_corners_n,a0_corners_f⟩:(Sl straight))⟩:set) a1 K hs hk⟩
  · exact h.elim
end Go.Proofs
