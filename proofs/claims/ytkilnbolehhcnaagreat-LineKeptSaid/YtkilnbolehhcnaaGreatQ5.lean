/- Part 5 of what the proof rests on: a machine that runs functions of the program on pure values, proved sound; the functions that the law reaches, and what they compute. -/
import Derived.Test.YtkilnbolehhcnaaGreatQ4
import Derived.Sort.OwnSortedInts
import Derived.Lib.SlicesCompact
import Derived.Test.YtkilnbolehhcnaaGreatProg
import Derived.ProofKit
import Derived.Deep.Slices
import Derived.OpenShut
import Derived.Shelf.SlSortCmp.NoneTotal
set_option linter.all false
namespace Go.Pm
variable [DrawZ]

structure Tabs where
  fn:List (Nat×(List PA->COut))
  own:List (Nat×OwnK)
  it:List (Nat×(List PA->Option (Prop×List (List PA))))
  mt:List (Nat×MK)
  cf:List (Nat×(List PA->COut))
def zx9 : List (Nat × (List PA → COut)) → Nat → List PA → COut
  | [],_=>λ _=>.no
  | (k,c) :: r,n=>match Nat.beq k n with | true=>c | false=>zx9 r n
def zya (l:List (Nat×OwnK)) (f:Nat):OwnK:=match lk l f with | some c=>c | none=>.none
def zGA (l:List (Nat×(List PA->Option (Prop×List (List PA))))) (f:Nat):List PA->Option (Prop×List (List PA)):=match lk l f with | some c=>c | none=>λ _=>none
def csm (T:Tabs) (memo:Nat->Int->List Int) (vv:Nat->Bool):Ctrs:=⟨zx9 T.fn,zya T.own,zGA T.it,memo,vv,lk T.mt,zx9 T.cf⟩
abbrev cs (T:Tabs):Ctrs:=csm T (λ _ _=>[]) (λ _=>false)
def Tabs.nil:Tabs:=⟨[],[],[],[],[]⟩
def Tabs.addF (T:Tabs) (f:Nat) (c:List PA->COut):Tabs:=⟨(f,c) :: T.fn,T.own,T.it,T.mt,T.cf⟩
def Tabs.addO (T:Tabs) (f:Nat) (c:OwnK):Tabs:=⟨T.fn,(f,c) :: T.own,T.it,T.mt,T.cf⟩
def Tabs.addI (T:Tabs) (f:Nat) (c:List PA->Option (Prop×List (List PA))):Tabs:=⟨T.fn,T.own,(f,c) :: T.it,T.mt,T.cf⟩
def Tabs.addC (T:Tabs) (f:Nat) (c:List PA->COut):Tabs:=⟨T.fn,T.own,T.it,T.mt,(f,c) :: T.cf⟩

theorem zOW {P:Program}{f:Nat} : Ok P f (λ _=>.no):=λ _ _ h=>h.elim
theorem zOX {P:Program}{f:Nat} : zEu P f (λ _=>none):=λ _ _ _ h=>by cases h

structure TabsOk (P : Program) (T : Tabs) : Prop where
  fn:∀ x∈T.fn,Ok P x.1 x.2
  own:∀ x∈T.own,zgF P x.1 x.2
  it:∀ x∈T.it,zEu P x.1 x.2
  mt:∀ x∈T.mt,zKJ P x.1 x.2
  cf:∀ x∈T.cf,@Ok ⟨1⟩ P x.1 x.2
theorem TabsOk.nil {P:Program} : TabsOk P .nil:=⟨λ _ h=>(by cases h),λ _ h=>(by cases h),λ _ h=>(by cases h),λ _ h=>(by cases h),λ _ h=>(by cases h)⟩
theorem TabsOk.addF {P:Program}{T:Tabs}(h:TabsOk P T){f:Nat}{c:List PA->COut}(hc:Ok P f c):TabsOk P (T.addF f c) :=
 ⟨λ x hx=>(dqq.1 hx).elim (λ e=>by rw[e];exact hc) (λ hx=>h.fn x hx),h.own,h.it,h.mt,h.cf⟩
theorem TabsOk.addO {P:Program}{T:Tabs}(h:TabsOk P T){f:Nat}{c:OwnK}(hc:zgF P f c):TabsOk P (T.addO f c) :=
 ⟨h.fn,λ x hx=>(dqq.1 hx).elim (λ e=>by rw[e];exact hc) (λ hx=>h.own x hx),h.it,h.mt,h.cf⟩
theorem TabsOk.addI {P:Program}{T:Tabs}(h:TabsOk P T){f:Nat}{c:List PA->Option (Prop×List (List PA))}(hc:zEu P f c):TabsOk P (T.addI f c) :=
 ⟨h.fn,h.own,λ x hx=>(dqq.1 hx).elim (λ e=>by rw[e];exact hc) (λ hx=>h.it x hx),h.mt,h.cf⟩
theorem TabsOk.addC {P:Program}{T:Tabs}(h:TabsOk P T){f:Nat}{c:List PA->COut}(hc : @Ok ⟨1⟩ P f c):TabsOk P (T.addC f c) :=
 ⟨h.fn,h.own,h.it,h.mt,λ x hx=>(dqq.1 hx).elim (λ e=>by rw[e];exact hc) (λ hx=>h.cf x hx)⟩
theorem zot {P : Program} {f : Nat} : ∀ {l : List (Nat × (List PA → COut))}, (∀ x ∈ l, Ok P x.1 x.2) → Ok P f (zx9 l f)
  | [],_=>zOW
  | (k,c) :: l,hl=>by
    simp only[zx9]
    split
    · rename_i e
      have:=hl (k,c) dqj
      rw[<- dqc e];exact this
    · exact zot λ x hx=>hl x (dqf _ hx)
theorem TabsOk.all {P:Program}{T:Tabs}(h:TabsOk P T) (memo:Nat->Int->List Int) (vv:Nat->Bool):OkAll P (csm T memo vv):=by
 refine⟨λ f C hC=>h.mt _ (zcy hC),λ f=>zot h.fn,λ f=>?_,λ f=>?_,λ f=>@zot ⟨1⟩ P f T.cf h.cf⟩
 ·show zgF P f (zya T.own f)
  unfold zya
  split
  ·rename_i c hc;exact h.own _ (zcy hc)
  ·trivial
 ·show zEu P f (zGA T.it f)
  unfold zGA
  split
  ·rename_i c hc;exact h.it _ (zcy hc)
  ·exact zOX

theorem za3 {P : Program} {T : Tabs} (hT : TabsOk P T) {f : FuncId} {C : List PA → COut} (hc : zah P f)
    (h:∀ args K,(C args).wp K->∃ memo vv ann,vcFun P (csm T memo vv) ann f args K):Ok P f C :=
  zDu (hT.all (λ _ _=>[]) (λ _=>false)) hc h
theorem zLb {P : Program} {T : Tabs} (hT : TabsOk P T) {f : FuncId} {C : List PA → Option (Prop × List (List PA))} (hc : zah P f)
    (h:∀ l caps safe ys,C caps=some (safe,ys)->safe->∃ memo vv ann,vcIter P (csm T memo vv) ann f l caps ys):zEu P f C :=
  zDy (hT.all (λ _ _=>[]) (λ _=>false)) hc h
theorem zyb {P : Program} {T : Tabs} (hT : TabsOk P T) {f : FuncId} {e s b : Nat} (hc : zah P f)
    (h:∀ n get,n * b<=140737488355328->n<=9223372036854775807->∃ memo vv ann,zx7 P (csm T memo vv) ann f [.one (.sl n s get)] e s b n get):zgF P f (.clone e s b) :=
  zrK (hT.all (λ _ _=>[]) (λ _=>false)) hc h

theorem zyc {P : Program} {T : Tabs} (hT : TabsOk P T) {f : FuncId} {e s b : Nat} {F : List PA → Option (Prop × Nat × (Nat → List PV) × List PV)} (hc : zah P f)
    (h:∀ az p n get rs,F az=some (p,n,get,rs)->p->∃ az':List PA,(∀ (h:Fz) vs,RL (paR h) az vs->RL (paR h) az' vs)/\∃ memo vv ann,zvT P (csm T memo vv) ann f az' e s b (zKm n s get rs)):zgF P f (.mkv e s b F) :=
  zx8 (hT.all (λ _ _=>[]) (λ _=>false)) hc h
structure Sl (α : Type) where
  len:Nat
  get:Nat->α
instance {α:Type} [Inhabited α]:Inhabited (Sl α):=⟨⟨0,λ _=>default⟩⟩
abbrev w64 (x:Int):Int:=IntKind.i64.wrap x

def IsE {α:Type}(enc:α->List PV) (size s:Nat) (g:Nat->List PV):Prop:=s=size/\∃ f:Nat->α,g=λ i=>enc (f i)
theorem isE {α:Type}{enc:α->List PV}{size:Nat}{f:Nat->α} : IsE enc size size (λ i=>enc (f i)):=⟨rfl,f,rfl⟩
theorem zLc {α:Type}{enc:α->List PV}{size:Nat}{x:α} : IsE enc size size (λ _=>enc x):=⟨rfl,λ _=>x,rfl⟩
def zgv {α:Type}(n:Nat) (get new:Nat->α):Nat->α:=λ j=>match Nat.ble n j with | true=>new (j - n) | false=>get j
theorem zou {α:Type}{enc:α->List PV}{n:Nat}{f h:Nat->α} : appG n (λ i=>enc (f i)) (λ i=>enc (h i))=λ i=>enc (zgv n f h i):=by
 funext j;simp only[appG,zgv];cases Nat.ble n j <;> rfl
theorem zGB {α:Type}{enc:α->List PV}{size n:Nat}{g h:Nat->List PV}(hg:IsE enc size size g) (hh:IsE enc size size h):IsE enc size size (appG n g h):=by
 obtain⟨_,f,rfl⟩:=hg
 obtain⟨_,f',rfl⟩:=hh
 exact⟨rfl,_,zou⟩
def zkk {α : Type} (x : α) : List α → Nat → α
  | [],_=>x
  | y :: _,0=>y
  | _ :: r,i+1=>zkk x r i
theorem zfV {α:Type}{enc:α->List PV}{x y:α}{r:List α} : zed (enc x :: enc y :: r.map enc)=λ i=>enc (zkk x (x :: y :: r) i):=by
 have key:∀ (l:List α) (i:Nat),(match (l.map enc)[i]? with | some z=>z | none=>enc x)=enc (zkk x l i):=by
  intro l
  induction l with
  | nil=>intro i;rfl
  | cons a l ih =>
   intro i
   cases i with
   | zero=>rfl
   | succ i=>simpa [zkk] using ih i
 funext i
 exact key (x :: y :: r) i
theorem zhm {α:Type}{enc:α->List PV}{size:Nat}{x y:α}(r:List α):IsE enc size size (zed (enc x :: enc y :: r.map enc)):=⟨rfl,_,zfV⟩

theorem zb6 {b:Bool}{A B:Prop}{S S':Bool}{α:Type}{K:α->Prop}{x y:α}(h1:S=true->K x->A) (h2:S'=true->K y->B) (hs:cond b S S'=true) (hk:K (cond b x y)):zc9 b A B:=by
 cases b
 ·exact h2 hs hk
 ·exact h1 hs hk
theorem zov {b:Bool}{A B:Prop}{S S':Bool}{α β:Type}{f:α->β}{ys:List β}{x y:List α}(hs:cond b S S'=true) (hk:ys=(cond b x y).map f) (h1:S=true->ys=x.map f->A) (h2:S'=true->ys=y.map f->B):zc9 b A B:=by
 cases b
 ·exact h2 hs hk
 ·exact h1 hs hk
theorem itY {α β:Type}{f:α->β}{ys:List β}{p:β}{x r:List α}{l:Nat}{A:List β->Prop}(hk:ys=x.map f) (e:x.map f=p :: r.map f) (h:∀ zs,zs=r.map f->A zs):l=l/\∃ z,ys=p :: z/\A z/\True :=
 ⟨rfl,_,hk.trans e,h _ rfl,trivial⟩
theorem zaI {C A:Prop} [d:Decidable C] {r:Bool}(hs:(decide C && r)=true) (k:C->r=true->A):A:=by
 rw[dqm] at hs
 exact k (of_decide_eq_true hs.1) hs.2
abbrev Fuel:Nat:=9223372036854775808
def setT {α:Type}(i:Nat) (v:α) (get:Nat->α):Nat->α:=λ j=>match Nat.beq j i with | true=>v | false=>get j
theorem zhA {α:Type}{enc:α->List PV}{n:Nat}{g g':Nat->List PV}{f h:Nat->α}(h1:g=λ i=>enc (f i)) (h2:g'=λ i=>enc (h i)):appG n g g'=λ i=>enc (zgv n f h i):=by
 subst h1;subst h2;exact zou
def zOY (P:Program) (G:Ctrs) (ann:Ann) (hd:Nat) (ps:List Nat) (assign body:Code) (X:List (List PA)->St->Prop) (K:Exit->St->Prop) (y:List PA) (rest:List (List PA)) (s:St):Prop :=
 match lk ann.head hd with
 | some k=>match ziu ps y s.env with
  | some env=>vc P G ann assign (zF6 (vc P G ann body (zk3 P k (X rest) K)) λ _ _=>False) ⟨env,s.objs,[]⟩
  | none=>False
 | none=>False
def sortB (n:Nat) (p:Nat->Nat->Bool) (c:Nat->Nat->Int):Bool :=
  (List.range n).all fun i => decide (0 ≤ c i i) && (List.range n).all fun j => p i j && (Nat.beq i j || (decide (c i j < 0) && decide (0 ≤ c j i)) || (decide (c j i < 0) && decide (0 ≤ c i j))) &&
    (List.range n).all λ k=>!(decide (c i j < 0) && decide (c j k < 0)) || decide (c i k < 0)
theorem zow {n:Nat}{p:Nat->Nat->Bool}{c c':Nat->Nat->Int}{s:Nat->Nat->Prop}(h:sortB n p c=true) (hp:∀ i j,p i j=true->s i j) (hc:c'=c):(∀ i j,i < n->j < n->s i j)/\STO n c':=by
 subst hc
 simp only[sortB,List.all_eq_true,List.mem_range,dqm,Bool.or_eq_true,decide_eq_true_eq,Bool.not_eq_true',Bool.and_eq_false_iff,decide_eq_false_iff_not] at h
 refine⟨λ i j hi hj=>hp i j ((h i hi).2 j hj).1.1,λ i hi=>(h i hi).1,λ i j hi hj hne=>?_,λ i j k hi hj hk h1 h2=>?_⟩
 ·rcases ((h i hi).2 j hj).1.2 with (h1 | h1) | h1
  ·exact absurd (dqc h1) hne
  ·exact .inl h1
  ·exact .inr h1
 ·rcases ((h i hi).2 j hj).2 k hk with (h3 | h3) | h3
  ·exact absurd h1 h3
  ·exact absurd h2 h3
  ·exact h3
end Go.Pm
namespace Go.Pm
variable [DrawZ]
open Go Go.Sort

/-! Nil slices are slices of length 0. -/
inductive PVle : PV → PV → Prop
  | rfl (p:PV):PVle p p
  | nil (s:Nat) (g:Nat->List PV):PVle .nils (.sl 0 s g)
  | nilm (q:MQ):PVle .nilm (.fm q 0 (λ _=>none))
inductive PAle : PA → PA → Prop
  | one {p q:PV} : PVle p q->PAle (.one p) (.one q)
  | agg {l m:List PV} : RL PVle l m->PAle (.agg l) (.agg m)
theorem zlL {α β:Type}{R:α->β->Prop} : RL R [] []:=trivial
theorem zfa {α β:Type}{R:α->β->Prop}{a:α}{b:β}{l:List α}{m:List β}(h:R a b) (h':RL R l m):RL R (a :: l) (b :: m):=⟨h,h'⟩
theorem zgn {α : Type} {R : α → α → Prop} (h : ∀ a, R a a) : ∀ l : List α, RL R l l
  | []=>trivial
  | a :: l=>⟨h a,zgn h l⟩
theorem zgJ (a:PA):PAle a a:=by
 cases a with
 | one p=>exact .one (.rfl p)
 | agg l=>exact .agg (zgn .rfl l)
def Wk (K:List PA->Prop) (l:List PA):Prop:=∃ l',RL PAle l l'/\K l'
theorem wk {K:List PA->Prop}{l l':List PA}(hk:K l') (h:RL PAle l l'):Wk K l:=⟨l',h,hk⟩
theorem zfz {K:List PA->Prop}{l:List PA}(hk:K l):Wk K l:=⟨l,zgn zgJ l,hk⟩
theorem zLd {h:Fz}{p q:PV}{v:Value}(e:PVle p q) (r:Rep h p v):Rep h q v:=by
 cases e with
 | rfl=>exact r
 | nil s g=>cases r;exact .sl0 s g
 | nilm q=>cases r;exact .fmn q _ (λ _ _=>rfl)
theorem zDz {α β γ : Type} {R : α → β → Prop} {S : α → γ → Prop} {T : γ → β → Prop} (h : ∀ a b c, S a c → R a b → T c b) : ∀ (l : List α) (m : List β) (k : List γ), RL S l k → RL R l m → RL T k m
  | [],[],[],_,_=>trivial
  | a :: l,b :: m,c :: k,hs,hr=>⟨h a b c hs.1 hr.1,zDz h l m k hs.2 hr.2⟩
  | [],_ :: _,[],_,hr=>hr.elim
  | [],_,_ :: _,hs,_=>hs.elim
  | _ :: _,_,[],hs,_=>hs.elim
  | _ :: _,[],_ :: _,_,hr=>hr.elim
theorem zGC {h:Fz}{a b:PA}{v:Value}(e:PAle a b) (r:paR h a v):paR h b v:=by
 cases e with
 | one e=>exact zLd e r
 | agg e =>
  obtain⟨vs,rfl,hv⟩:=r
  exact⟨vs,rfl,zDz (R:=Rep h) (S:=PVle) (T:=Rep h) (λ _ _ _ e r=>zLd e r) _ _ _ e hv⟩
theorem zLe {h:Fz}{l m:List PA}{v:Value}(e:RL PAle l m) (r:zwA h l v):zwA h m v:=by
 match l,m,e,r with
 | [a],[b],e,r=>exact zGC e.1 r
 | [],[],_,r=>exact r
 | a :: b :: l,c :: d :: m,e,r =>
  obtain⟨vs,hv,hr⟩:=r
  exact⟨vs,hv,zDz (R:=paR h) (S:=PAle) (T:=paR h) (λ _ _ _ e r=>zGC e r) _ _ _ e hr⟩
 | [_],_ :: _ :: _,e,_=>exact e.2.elim
 | _ :: _ :: _,[_],e,_=>exact e.2.elim
 | [],_ :: _,e,_=>exact e.elim
 | _ :: _,[],e,_=>exact e.elim
theorem zgK {P : Program} {T : Tabs} (hT : TabsOk P T) {f : FuncId} {C : List PA → COut} (hc : zah P f)
    (h:∀ args K,(C args).wp K->∃ args',RL PAle args args'/\∃ memo vv ann,vcFun P (csm T memo vv) ann f args' (Wk K)):Ok P f C:=by
  intro args K hK w h0 vs hvs hfz hgl
  obtain⟨args',hle,memo,vv,ann,hv⟩:=h args K hK
  refine⟨hc,(zx5 (hT.all memo vv) hv (zDz (R:=paR h0) (S:=PAle) (T:=paR h0) (λ _ _ _ e r=>zGC e r) _ _ _ hle hvs) hfz hgl).mono ?_⟩
  rintro e w' ⟨h',rs,v,⟨rs',hr,hk⟩,he,hres,rest⟩
  exact⟨h',rs',v,hk,he,zLe hr hres,rest⟩
/-! Maps, as typed zRc; the keys of a map. -/
structure Mp where
  n:Nat
  F:List Int->Option (List Int)
instance:Inhabited Mp:=⟨⟨0,λ _=>none⟩⟩

def zGD (m:Nat) (F:List Int->Option (List Int)) (seen ys:List (List Int)):Prop :=
 ys.Nodup/\(∀ y∈ys,y.length=m/\F y ≠ none/\y ∉ seen)/\∀ c,c.length=m->F c ≠ none->c ∉ seen->c∈ys
def nodupB : List (List Int) → Bool
  | []=>true
  | y :: r=>!r.contains y && nodupB r
def keysB (m n:Nat) (F:List Int->Option (List Int)) (ys:List (List Int)):Bool :=
 Nat.beq ys.length n && ys.all (λ y=>Nat.beq y.length m && (F y).isSome) && nodupB ys
theorem zja : ∀ {ys : List (List Int)}, nodupB ys = true ↔ ys.Nodup
  | []=>by simp[nodupB]
  | y :: r=>by simp[nodupB,zja (ys:=r)]
theorem zp9 {α : Type} [DecidableEq α] : ∀ {l m : List α}, l.Nodup → (∀ x ∈ l, x ∈ m) → m.length ≤ l.length → ∀ x ∈ m, x ∈ l
  | [],m,_,_,hl,x,hx=>by have:m=[]:=List.eq_nil_of_length_eq_zero (by simpa using hl);rw[this] at hx;exact hx
  | a :: l,m,hn,hs,hl,x,hx=>by
    have ha:=hs a dqj
    by_cases h:x=a
    · rw[h];exact dqj
    · have hx2 : x ∈ m.erase a := (List.mem_erase_of_ne h).2 hx
      have hn2:=List.nodup_cons.1 hn
      refine dqf _ (zp9 hn2.2 (λ z hz=>?_) ?_ x hx2)
      · have hza : z ≠ a := fun e => hn2.1 (e ▸ hz)
        exact (List.mem_erase_of_ne hza).2 (hs z (dqf _ hz))
      · rw[List.length_erase_of_mem ha];simp at hl;omega
theorem zlM {m n:Nat}{F:List Int->Option (List Int)}{ys:List (List Int)}(h:keysB m n F ys=true) (hf:zCQ m n F):zGD m F [] ys:=by
 simp only[keysB,dqm,List.all_eq_true] at h
 obtain⟨⟨h1,h2⟩,h3⟩:=h
 have h1:=dqc h1
 have h3:=zja.1 h3
 obtain⟨ks,k1,k2,k3,k4⟩:=hf
 have hy:∀ y∈ys,y.length=m/\F y ≠ none:=λ y hy=>by
  obtain⟨a,b⟩:=h2 y hy
  refine⟨dqc a,λ e=>?_⟩
  rw[e] at b;cases b
 refine⟨h3,λ y hy'=>⟨(hy y hy').1,(hy y hy').2,by simp⟩,λ c hc hne _=>?_⟩
 exact zp9 h3 (λ y hy'=>(k4 y (hy y hy').1).1 (hy y hy').2) (by rw[k1,h1];exact dqt _) c ((k4 c hc).1 hne)
theorem zox {m : Nat} {F : List Int → Option (List Int)} {seen ys : List (List Int)} (h : zGD m F seen ys) {c : List Int} (hc : c.length = m) (hF : F c ≠ none) (hs : c ∉ seen) :
  ys.Perm (c :: ys.erase c)/\zGD m F (c :: seen) (ys.erase c)/\(ys.erase c).length+1=ys.length:=by
 obtain⟨h1,h2,h3⟩:=h
 have hm:=h3 c hc hF hs
 refine⟨List.perm_cons_erase hm,⟨h1.erase c,λ y hy=>?_,λ d hd hdF hds=>?_⟩,?_⟩
 ·have := (List.Nodup.mem_erase_iff h1).1 hy
  obtain⟨a,b,e⟩:=h2 y this.2
  exact⟨a,b,by simp[this.1,e]⟩
 ·simp only [dqq, not_or] at hds
  exact (List.mem_erase_of_ne hds.1).2 (h3 d hd hdF hds.2)
 ·rw [List.length_erase_of_mem hm]
  have:0 < ys.length:=List.length_pos_of_mem hm
  omega
theorem zrL {m:Nat}{F:List Int->Option (List Int)}{seen ys:List (List Int)}(h:zGD m F seen ys) (he:∀ c,c.length=m->F c ≠ none->c∈seen):ys=[]:=by
 cases ys with
 | nil=>rfl
 | cons y r =>
  obtain⟨a,b,e⟩:=h.2.1 y dqj
  exact (e (he y a b)).elim

end Go.Pm
namespace Go.Pm
variable [DrawZ]

abbrev zI (x:Int):DV:=.one (.c (.p (.int .i64 x)))
abbrev zB (x:Bool):DV:=.one (.c (.p (.bool x)))
abbrev zP (x:PV):DV:=.one (.c (.p x))
abbrev zp (L k:Nat):DV:=.one (.c (.ptr L k))
abbrev zv (L:Nat):DV:=.one (.c (.vec L))
abbrev zs {α:Type}(enc:α->List PV) (s:Nat) (x:Sl α):PV:=.sl x.len s (λ i=>enc (x.get i))
abbrev zS {α:Type}(enc:α->List PV) (s:Nat) (x:Sl α):DV:=zP (zs enc s x)
abbrev zm (l:List PV):List Cl:=l.map Cl.p
abbrev zi (x:Int):Cl:=.p (.int .i64 x)
abbrev zg {α:Type}(enc:α->List PV) (x:Sl α):Nat->List PV:=λ i=>enc (x.get i)
abbrev zK (a b:List Nat):Keep:=⟨a,b,[],[],[],[],[]⟩
theorem zE {α:Type}(enc:α->List PV) (size:Nat) (f:Nat->α):IsE enc size size (λ i=>enc (f i)):=⟨rfl,f,rfl⟩

@[reducible] def lpO {A : Type} (d : A) (st : A → A) : Nat → A
  | 0=>d
  | k+1=>st (lpO d st k)
theorem zgw {A B : Type} (a : A) (b : B) (p : A → A) (s : B → B) (M : A → B → Prop) (h0 : M a b) (h1 : ∀ P S, M P S → M (p P) (s S)) : ∀ k, M (lpO a p k) (lpO b s k)
  | 0=>h0
  | k+1=>h1 _ _ (zgw a b p s M h0 h1 k)
section
variable (P:Program) (Γ:Ctrs) (ann:Ann)
def pt : Code → (Exit → St → Prop) → List Nat → List (St → Prop) → St → Prop
  | .seq a b,K,i :: r,X=>match i with | 0=>pt a (sqK P Γ ann b K) r X | _=>pt b K r X
  | .cond _ a b,K,i :: r,X=>match i with | 0=>pt a K r X | _=>pt b K r X
  | .block id b,K,_ :: r,X=>pt b (zaG id K) r X
  | .loop b,K,_ :: r,x :: X=>pt b (zcA P ann (zmU b) x K) r X
  | .scope b,K,_ :: r,X=>pt b (zbl K) r X
  | c,K,_,_=>vc P Γ ann c K
def zRg (fn:Func) (e s b:Nat) (K:List PA->Prop) (l:List Nat) (X:List (St->Prop)):St->Prop :=
 match fn.body with
 | some c=>pt P Γ ann c (zcB fn e s b K) l X
 | none=>λ _=>False
def ptF (fn:Func) (K:List PA->Prop) (l:List Nat) (X:List (St->Prop)):St->Prop :=
 match fn.body with
 | some c=>pt P Γ ann c (zd3 P fn K) l X
 | none=>λ _=>False
end

section
variable (P:Program) (Γ:Ctrs) (ann:Ann)
def ptR : Code → (Exit → St → Prop) → List Nat → List (St → Prop) → Code × (Exit → St → Prop)
  | .seq a b,K,i :: r,X=>match i with | 0=>ptR a (sqK P Γ ann b K) r X | _=>ptR b K r X
  | .cond _ a b,K,i :: r,X=>match i with | 0=>ptR a K r X | _=>ptR b K r X
  | .block id b,K,_ :: r,X=>ptR b (zaG id K) r X
  | .loop b,K,_ :: r,x :: X=>ptR b (zcA P ann (zmU b) x K) r X
  | .scope b,K,_ :: r,X=>ptR b (zbl K) r X
  | c,K,_,_=>(c,K)
def exF (fn:Func) (K:List PA->Prop) (l:List Nat) (X:List (St->Prop)) (s:St):Prop :=
 match fn.body with
 | some c=>(ptR P Γ ann c (zd3 P fn K) l X).2 .normal s
 | none=>False
def rnF (fn:Func) (K:List PA->Prop) (l:List Nat) (X:List (St->Prop)) (Y:List (List PA)->St->Prop) (y:List PA) (rest:List (List PA)) (s:St):Prop :=
 match fn.body with
 | some c=>match (ptR P Γ ann c (zd3 P fn K) l X).1 with
  | .rangeFunc _ ps a b=>zOY P Γ ann (zQI a b) ps.toList a b Y (ptR P Γ ann c (zd3 P fn K) l X).2 y rest s
  | _=>False
 | none=>False
end
@[reducible] def lpR {A Y : Type} (a : A) (st : Y → A → A) : List Y → A
  | []=>a
  | y :: r=>st y (lpR a st r)
theorem zri {Y A B : Type} {enc : Y → List PA} {X : List (List PA) → St → Prop} (pe : B) (se : A) (ps : Y → B → B) (ss : Y → A → A) (M : (St → Prop) → B → A → Prop) (h0 : M (X []) pe se)
    (h1:∀ y rest P S,M (X rest) P S->M (X (enc y :: rest)) (ps y P) (ss y S)):∀ l:List Y,M (X (l.map enc)) (lpR pe ps l) (lpR se ss l)
  | []=>h0
  | y :: r=>h1 y (r.map enc) _ _ (zri pe se ps ss M h0 h1 r)
theorem zr {at_ sf : Prop} {Y : Type} {enc : Y → List PA} {ys : List Y} {g : St} (Ex : St → Prop) (Rn : (List (List PA) → St → Prop) → List PA → List (List PA) → St → Prop)
    (e:at_=(sf/\∀ X:List (List PA)->St->Prop,(∀ s,Ex s->X [] s)->(∀ y rest s,Rn X y rest s->X (y :: rest) s)->X (ys.map enc) g)) (hs:sf)
    (h:∀ X:List (List PA)->St->Prop,(∀ s,Ex s->X [] s)->(∀ y rest s,Rn X y rest s->X (y :: rest) s)->X (ys.map enc) g):at_:=e ▸ ⟨hs,h⟩

theorem zc {b:Bool}{A B:Prop}{S S':Bool}{α:Type}{e:α->List PA}{K:List PA->Prop}{x y:α}(hs:cond b S S'=true) (hk:K (e (cond b x y))) (h1:S=true->K (e x)->A) (h2:S'=true->K (e y)->B):zc9 b A B:=by
 cases b
 ·exact h2 hs hk
 ·exact h1 hs hk
theorem zt {b:Bool}{A B:Prop}{α:Type}{e:α->List PA}{K:List PA->Prop}{x y:α}(hk:K (e (cond b x y))) (h1:K (e x)->A) (h2:K (e y)->B):zc9 b A B:=by
 cases b
 ·exact h2 hk
 ·exact h1 hk
theorem zl {at_:Prop}{g:St}(B:(St->Prop)->St->Prop) (e:at_ = ∀ X:St->Prop,(∀ s,B X s->X s)->X g) (h:∀ X:St->Prop,(∀ s,B X s->X s)->X g):at_:=e ▸ h
def zOZ (P:Program) (ann:Ann) (hd:Nat) (X:St->Prop) (K:Exit->St->Prop):Exit->St->Prop :=
 match lk ann.head hd with
 | some k=>zk3 P k X K
 | none=>λ _ _=>False
end Go.Pm
namespace Go.Pm
instance dz0:DrawZ:=⟨0⟩
end Go.Pm
namespace Go.Proofs
open Go Go.Pm
set_option maxRecDepth 100000
set_option linter.unusedVariables false
attribute [local irreducible] Go.Pm.vcFun Go.Pm.vc Go.Pm.vcIter
abbrev zak (x:Int):List PV:=[.int .i64 x]
def zO0 : List PV → Int
  | [.int .i64 x]=>x
  | _=>default
def zb7 (g:Nat->List PV):Nat->Int:=λ i=>zO0 (g i)
theorem zby (f:Nat->Int):zb7 (λ i=>zak (f i))=f:=rfl
structure Gate where
  Z:Int
  Low:Int
  High:Int
deriving Inhabited
abbrev enc_48 (x:Gate):List PV:=[.int .i64 x.Z,.int .i64 x.Low,.int .i64 x.High]
def zLf : List PV → Gate
  | [.int .i64 x_Z,.int .i64 x_Low,.int .i64 x_High]=>(⟨x_Z,x_Low,x_High⟩:Gate)
  | _=>default
def zaf (g:Nat->List PV):Nat->Gate:=λ i=>zLf (g i)
theorem zae (f:Nat->Gate):zaf (λ i=>enc_48 (f i))=f:=rfl
abbrev zLg (x:(Sl Gate)):List PV:=[.sl x.len 3 (λ i=>enc_48 (x.get i))]
abbrev zaS (x:(Sl Int)):List PV:=[.sl x.len 1 (λ i=>zak (x.get i))]
def zLh : List PV → (Sl Int)
  | [.sl x_n _ x_g]=>(⟨x_n,zb7 x_g⟩:(Sl Int))
  | _=>default
def zoy (g:Nat->List PV):Nat->(Sl Int):=λ i=>zLh (g i)
theorem zlN (f:Nat->(Sl Int)):zoy (λ i=>zaS (f i))=f:=rfl
structure Frac where
  Num:Int
  Den:Int
deriving Inhabited
abbrev zam (x:Frac):List PV:=[.int .i64 x.Num,.int .i64 x.Den]
def zLi : List PV → Frac
  | [.int .i64 x_Num,.int .i64 x_Den]=>(⟨x_Num,x_Den⟩:Frac)
  | _=>default
def zhP (g:Nat->List PV):Nat->Frac:=λ i=>zLi (g i)
theorem zfW (f:Nat->Frac):zhP (λ i=>zam (f i))=f:=rfl
structure Line where
  Slope:Frac
  Start:Frac
deriving Inhabited
abbrev zce (x:Line):List PV:=[.int .i64 x.Slope.Num,.int .i64 x.Slope.Den,.int .i64 x.Start.Num,.int .i64 x.Start.Den]
def zLj : List PV → Line
  | [.int .i64 x_Slope_Num,.int .i64 x_Slope_Den,.int .i64 x_Start_Num,.int .i64 x_Start_Den]=>(⟨(⟨x_Slope_Num,x_Slope_Den⟩:Frac),(⟨x_Start_Num,x_Start_Den⟩:Frac)⟩:Line)
  | _=>default
def zlO (g:Nat->List PV):Nat->Line:=λ i=>zLj (g i)
theorem zfX (f:Nat->Line):zlO (λ i=>zce (f i))=f:=rfl
structure list where
  Gates:(Sl Gate)
deriving Inhabited
abbrev zdN (x:list):List PV:=[.sl x.Gates.len 3 (λ i=>enc_48 (x.Gates.get i))]
structure straight where
  slope:Int
  start:Int
  den:Int
deriving Inhabited
abbrev zaz (x:straight):List PV:=[.int .i64 x.slope,.int .i64 x.start,.int .i64 x.den]
def zLk : List PV → straight
  | [.int .i64 x_slope,.int .i64 x_start,.int .i64 x_den]=>(⟨x_slope,x_start,x_den⟩:straight)
  | _=>default
def zcz (g:Nat->List PV):Nat->straight:=λ i=>zLk (g i)
theorem zbP (f:Nat->straight):zcz (λ i=>zaz (f i))=f:=rfl
structure set where
  list:list
  corners:(Sl straight)
deriving Inhabited
abbrev zct (x:set):List PV:=[.sl x.list.Gates.len 3 (λ i=>enc_48 (x.list.Gates.get i)),.sl x.corners.len 3 (λ i=>zaz (x.corners.get i))]
abbrev zfb (x:Mp):List PV:=[.fm (true,2,false,[some .i64]) x.n x.F]
structure Span where
  Low:Int
  High:Int
deriving Inhabited
abbrev zyd (x:Span):List PV:=[.int .i64 x.Low,.int .i64 x.High]
end Go.Proofs
namespace Go.Pm
variable [DrawZ]
open Go Go.Deep

theorem zDA (b o i j:Nat):((⟨b,o,none⟩:Addr).add i).add j=⟨b,o+i+j,none⟩:=by
 simp only[Addr.add]
 by_cases h1:i=0
 ·subst h1
  by_cases h2:j=0
  ·subst h2;rfl
  ·rw[if_neg h2];rfl
 ·rw [if_neg h1]
  by_cases h2:j=0
  ·subst h2;rfl
  ·rw[if_neg h2]
def H0 (w:World):Fz:=λ b=>(w.heap[b]?).map .fz
theorem hw_H0 (w:World):Hw (H0 w) w:=by
 intro b x h
 unfold H0 at h
 cases e:w.heap[b]? with
 | none=>rw[e] at h;cases h
 | some o=>rw[e] at h;cases h;exact⟨o,rfl,rfl⟩
def wfI (x:Int):Prop:=-9223372036854775808<=x/\x<=9223372036854775807
section
variable {H:Type}{en:TypeId×Value->H}{P:Program}{w:World}{sp:Nat->Bool}{held:Bool}
def Rd (H:Type) (en:TypeId×Value->H) (P:Program) (w:World) (sp:Nat->Bool) (held:Bool) (t:TypeId){α:Type}(enc:α->List PV) (wf:α->Prop):Prop :=
 ∀ (fuel:Nat) (cs:List Value) (x:DataW H×List MemPlace),DataW.trod en P w 0 sp held fuel t cs=some x->∃ a:α,RL (Rep (H0 w)) (enc a) cs/\wf a
theorem zLl {t:TypeId}(ht:P.underlying t=some (.int .i64)):Rd H en P w sp held t (λ x=>[.int .i64 x]) wfI:=by
 intro fuel cs x h
 obtain⟨n,rfl,_,hw⟩:=DataW.trod_int ht h
 refine⟨n,⟨.int _ _,trivial⟩,?_⟩
 simp only[Lit.wf,dqm,decide_eq_true_eq] at hw
 exact⟨hw.1,hw.2⟩
theorem zye {t : TypeId} {fs : Array Field} (ht : P.underlying t = some (.struct fs)) {fuel : Nat} {cs : List Value} {x : DataW H × List MemPlace} (h : DataW.trod en P w 0 sp held fuel t cs = some x) :
  cs.length=P.cellsOf t/\∀ (i:Nat) (f:Field),fs[i]? = some f->∃ n y,DataW.trod en P w 0 sp held n f.type ((cs.drop f.offset).take (P.cellsOf f.type))=some y:=by
 obtain⟨xs,n,_,_,hl,hx,hf⟩:=DataW.trod_struct ht h
 refine⟨hl,λ i f hi=>?_⟩
 have hlt:i < xs.length:=by rw[hx];exact (dqp.1 hi).1
 exact⟨n,xs[i],by rw[hf i f hi,dqD hlt]⟩
theorem zDB {t e : TypeId} {α : Type} [Inhabited α] {enc : α → List PV} {wf : α → Prop} {s : Nat} (ht : P.underlying t = some (.slice e)) (hc : P.cellsOf e = s) (hs : 0 < s) (hlen : ∀ a, (enc a).length = s)
    (hel:Rd H en P w sp held e enc wf):Rd H en P w sp held t (λ x:Sl α=>[.sl x.len s (λ i=>enc (x.get i))]) (λ x=>x.len<=9223372036854775807/\∀ i,i < x.len->wf (x.get i)):=by
  intro fuel cs x h
  rcases open_slice ht h with ⟨rfl,_⟩ | ⟨a,len,cap,m,n,D,Pl,rfl,_,hl,hm,hmm,_,hget⟩
  · exact⟨⟨0,default⟩,⟨.sl0 _ _,trivial⟩,Nat.zero_le _,λ i hi=>absurd hi (dqW i)⟩
  · by_cases h0 : len = 0
    · subst h0
      exact⟨⟨0,default⟩,⟨.sle _ _ _ _,trivial⟩,Nat.zero_le _,λ i hi=>absurd hi (dqW i)⟩
    · have hlm : len ≤ m := by rw [hmm]; split <;> omega
      rw[hc] at hget
      have hex:∀ i,i < len->∃ y:α,(∃ cs',w.cells? 0 (a.add (i * s)) s=some cs'/\RL (Rep (H0 w)) (enc y) cs')/\wf y:=by
        intro i hi
        obtain⟨cs',h1,h2⟩:=hget i (by omega)
        obtain⟨y,h3,h4⟩:=hel _ _ _ h2
        exact⟨y,⟨cs',h1,h3⟩,h4⟩
      have hch:∃ f:Nat->α,∀ i,i < len->(∃ cs',w.cells? 0 (a.add (i * s)) s=some cs'/\RL (Rep (H0 w)) (enc (f i)) cs')/\wf (f i):=by
        refine⟨λ i=>if hi:i < len then Classical.choose (hex i hi) else default,λ i hi=>?_⟩
        simp only[dif_pos hi]
        exact Classical.choose_spec (hex i hi)
      obtain⟨f,hf⟩:=hch
      -- the block
      have hcell:∀ i,i < len->∀ j,j < s->∃ cs',w.cells? 0 (a.add (i * s)) s=some cs'/\RL (Rep (H0 w)) (enc (f i)) cs'/\w.cell? ((a.add (i * s)).add j)=cs'[j]?/\cs'.length=s:=by
        intro i hi j hj
        obtain⟨⟨cs',h1,h2⟩,_⟩:=hf i hi
        obtain⟨_,h3,h4⟩:=World.cells?_some h1
        exact⟨cs',h1,h2,h4 j hj,h3⟩
      obtain⟨cs0,_,_,hc0,hl0⟩:=hcell 0 (by omega) 0 hs
      have ha0:w.cell? a=cs0[0]?:=by simpa [Addr.add] using hc0
      rw[dqD (by omega)] at ha0
      obtain⟨C,ty,fr,hblk,hspot⟩:∃ C ty fr,w.heap[a.block]? = some (.cells C ty fr)/\a.spot=none:=by
        unfold World.cell? at ha0
        split at ha0
        · rename_i C ty fr hb
          refine⟨C,ty,fr,hb,?_⟩
          cases hsp:a.spot with
          | none=>rfl
          | some k=>rw[hsp] at ha0;simp at ha0
        · cases ha0
      have ea:a=⟨a.block,a.off,none⟩:=by rw[<- hspot]
      have hat:∀ i j,i < len->j < s->∃ cs',RL (Rep (H0 w)) (enc (f i)) cs'/\C[a.off+i * s+j]? = cs'[j]?/\cs'.length=s:=by
        intro i j hi hj
        obtain⟨cs',_,h2,h3,h4⟩:=hcell i hi j hj
        refine⟨cs',h2,?_,h4⟩
        rw[<- h3]
        have e2:(a.add (i * s)).add j=⟨a.block,a.off+i * s+j,none⟩:=(congrArg (λ z:Addr=>(z.add (i * s)).add j) ea).trans (zDA _ _ _ _)
        rw[e2]
        simp[World.cell?,hblk]
      refine⟨⟨len,f⟩,⟨?_,trivial⟩,by simp only[maxLen] at hm;show len<=_;omega,λ i hi=>(hf i hi).2⟩
      rw[ea]
      refine .sl len s _ a.block a.off cap C ty fr (λ i j=>C.getD (a.off+i * s+j) undef) (by simp[H0,hblk]) hl (λ i _=>hlen _) ?_ ?_
      · intro i j x hi hx
        have hj:j < s:=by have:=(dqn.1 hx).1;rw[hlen] at this;exact this
        obtain⟨cs',h1,h2,h3⟩:=hat i j hi hj
        rw[dql,h2,dqD (by omega)]
        rfl
      · intro i j x hi hx
        have hj:j < s:=by have:=(dqn.1 hx).1;rw[hlen] at this;exact this
        obtain⟨cs',h1,h2,h3⟩:=hat i j hi hj
        obtain⟨v,hv,hr⟩:=h1.get j x hx
        rw[dql,h2,hv]
        exact hr
theorem zjb {α:Type}(l:List α) (o s:Nat):l.drop o=(l.drop o).take s ++ l.drop (o+s):=by
 rw[<- List.drop_drop]
 exact (List.take_append_drop s (l.drop o)).symm
def zO1 : TypeDesc → Bool
  | .struct _=>false
  | .array _ _=>false
  | _=>true
theorem okWide_one {t:TypeId}{d:TypeDesc}{r:Reach}{base:Nat}{v:Value}(ht:P.underlying t=some d) (hd:zO1 d=true) (h:Value.okWide P w r base t v):v.cells.toList=[v]:=by
 unfold Value.okWide at h
 rw[ht] at h
 cases v with
 | agg cs =>
  exfalso
  cases d <;> first | (cases hd;done) | (simp only[Cell.okWide,Cell.ok,ht] at h)
 | _=>rfl
theorem pa_one {h:Fz}{p:PV}{v:Value}(hv:v.cells.toList=[v]) (r:RL (Rep h) [p] v.cells.toList):paR h (.one p) v:=by
 rw[hv] at r
 exact r.1
theorem below_H0 {w':World}(b:Bel (H0 w) w.heap.size w w'):Go.RowKit.Below w.heap.size w w' :=
 ⟨b.os,b.tape,b.output,b.size,λ k hk=>b.block k hk λ F e=>by
  unfold H0 at e
  cases hb:w.heap[k]? <;> rw[hb] at e <;> cases e⟩
end
end Go.Pm
namespace Go.Proofs
open Go Go.Pm
set_option maxRecDepth 100000
set_option linter.unusedVariables false
attribute [local irreducible] Go.Pm.vcFun Go.Pm.vc Go.Pm.vcIter
theorem C_3:Tryz.prog.cellsOf 3=1:=by kernel_rfl
theorem zQL:Tryz.prog.cellsOf 48=3:=by kernel_rfl
abbrev wf_3 (x:Int):Prop:=wfI x
theorem rd_3 {H:Type}{en:TypeId×Value->H}{w:World}{sp:Nat->Bool}{held:Bool} : Rd H en Tryz.prog w sp held 3 zak wf_3:=zLl Tryz.underlying3
def zLm (x:Gate):Prop:=wf_3 x.Z/\wf_3 x.Low/\wf_3 x.High
theorem zO2 {H:Type}{en:TypeId×Value->H}{w:World}{sp:Nat->Bool}{held:Bool} : Rd H en Tryz.prog w sp held 48 enc_48 zLm:=by
  intro fuel cs x h
  obtain⟨hl,hf⟩:=zye Tryz.underlying48 h
  rw[zQL] at hl
  obtain⟨n0,y0,g0⟩:=hf 0 _ rfl
  have g0:DataW.trod en Tryz.prog w 0 sp held n0 3 ((cs.drop 0).take (Tryz.prog.cellsOf 3))=some y0:=g0
  rw[C_3] at g0
  obtain⟨a0,r0,w0⟩:=rd_3 _ _ _ g0
  obtain⟨n1,y1,g1⟩:=hf 1 _ rfl
  have g1:DataW.trod en Tryz.prog w 0 sp held n1 3 ((cs.drop 1).take (Tryz.prog.cellsOf 3))=some y1:=g1
  rw[C_3] at g1
  obtain⟨a1,r1,w1⟩:=rd_3 _ _ _ g1
  obtain⟨n2,y2,g2⟩:=hf 2 _ rfl
  have g2:DataW.trod en Tryz.prog w 0 sp held n2 3 ((cs.drop 2).take (Tryz.prog.cellsOf 3))=some y2:=g2
  rw[C_3] at g2
  obtain⟨a2,r2,w2⟩:=rd_3 _ _ _ g2
  have z:cs.drop 3=[]:=dqO (by omega)
  have R:=(r0.append (r1.append (r2.append (show RL (Rep (H0 w)) [] (cs.drop 3) by rw[z];exact zlL))))
  rw[<- (show cs.drop 2=(cs.drop 2).take 1 ++ cs.drop 3 from zjb cs 2 1)] at R
  rw[<- (show cs.drop 1=(cs.drop 1).take 1 ++ cs.drop 2 from zjb cs 1 1)] at R
  rw[<- (show cs.drop 0=(cs.drop 0).take 1 ++ cs.drop 1 from zjb cs 0 1)] at R
  exact⟨⟨a0,a1,a2⟩,R,⟨w0,w1,w2⟩⟩
def wf_22 (x:(Sl Gate)):Prop:=x.len<=9223372036854775807/\∀ i,i < x.len->zLm (x.get i)
theorem rd_22 {H:Type}{en:TypeId×Value->H}{w:World}{sp:Nat->Bool}{held:Bool} : Rd H en Tryz.prog w sp held 22 zLg wf_22:=zDB Tryz.underlying22 zQL (by decide) (λ _=>rfl) zO2
end Go.Proofs
namespace Go.Proofs
open Go Go.Pm
set_option maxRecDepth 100000
set_option linter.unusedVariables false
attribute [local irreducible] Go.Pm.vcFun Go.Pm.vc Go.Pm.vcIter
section
variable [DrawZ]
abbrev T44:Tabs:=Tabs.nil
theorem zO3:TabsOk Tryz.prog T44:=TabsOk.nil
abbrev G44:Ctrs:=csm T44 (λ _ _=>[]) (λ _=>false)
def zLn:Ann:=⟨15,[(0,zK [0,1,2] []),(1,zK [6] [])],
 [],
 [],
 [],[]⟩
abbrev R44:=Bool
abbrev e44 (r:R44):List PA:=[.one (.bool r)]
section
variable {K:List PA->Prop}{x:Int}{low:Int}{high:Int}
def s44 (x:Int) (low:Int) (high:Int):Bool :=
  (cond (decide (x >= low))
 (decide (x<=high))
 false)
end
theorem q44 (x:Int) (low:Int) (high:Int) (K:List PA->Prop) (hk:K (e44 (s44 x low high))):vcFun Tryz.prog G44 zLn 44 [.one (.int .i64 x),.one (.int .i64 low),.one (.int .i64 high)] K :=
  zaN (by kernel_rfl) (zt hk (λ hk=>hk) (λ hk=>hk))
def zqa : List PA → COut
  | [.one (.int .i64 a0),.one (.int .i64 a1),.one (.int .i64 a2)]=>.tot [.one (.bool (s44 a0 a1 a2))]
  | _=>.no
theorem zLo:zah Tryz.prog 44:=⟨_,rfl,rfl,by kernel_rfl⟩
theorem zKn:Ok Tryz.prog 44 zqa:=za3 zO3 zLo λ args K h=>by
  unfold zqa at h
  split at h
  · rename_i a0 a1 a2
    have hk:=h
    exact⟨(λ _ _=>[]),(λ _=>false),zLn,q44 a0 a1 a2 K hk⟩
  · exact h.elim
end

abbrev T55:Tabs:=(Tabs.nil.addF 44 zqa)
theorem zO4:TabsOk Tryz.prog T55:=(TabsOk.nil.addF zKn)
abbrev G55:Ctrs:=csm T55 (λ _ _=>[]) (λ _=>false)
def zLp:Ann:=⟨23,[(0,zK [1] [1]),(1,zK [2] [])],
 [],
 [],
 [],[]⟩
abbrev R55:=Bool
abbrev e55 (r:R55):List PA:=[.one (.bool r)]
section
variable {K:List PA->Prop}{g:Gate}
def s55 (g:Gate):Bool :=
  (cond (s44 g.Z (0:Int) (100000:Int))
 (cond (decide (g.Low >= (-1000000:Int)))
 (cond (decide (g.Low <= g.High))
 (decide (g.High<=(1000000:Int)))
 false)
 false)
 false)
end
theorem q55 (g:Gate) (K:List PA->Prop) (hk:K (e55 (s55 g))):vcFun Tryz.prog G55 zLp 55 [.agg (enc_48 g)] K :=
  zaN (by kernel_rfl) (zt hk (λ hk=>(zt hk (λ hk=>(zt hk (λ hk=>hk) (λ hk=>hk))) (λ hk=>hk))) (λ hk=>hk))
def zGE : List PA → COut
  | [.agg [.int .i64 znx,.int .i64 zdC,.int .i64 zcU]]=>.tot [.one (.bool (s55 (⟨znx,zdC,zcU⟩:Gate)))]
  | _=>.no
theorem zLq:zah Tryz.prog 55:=⟨_,rfl,rfl,by kernel_rfl⟩
theorem zRh:Ok Tryz.prog 55 zGE:=za3 zO4 zLq λ args K h=>by
  unfold zGE at h
  split at h
  · rename_i znx zdC zcU
    have hk:=h
    exact⟨(λ _ _=>[]),(λ _=>false),zLp,q55 (⟨znx,zdC,zcU⟩:Gate) K hk⟩
  · exact h.elim
abbrev T28:Tabs:=((Tabs.nil.addF 44 zqa).addF 55 zGE)
theorem zO5:TabsOk Tryz.prog T28:=((TabsOk.nil.addF zKn).addF zRh)
abbrev G28:Ctrs:=csm T28 (λ _ _=>[]) (λ _=>false)
def zGF:Ann:=⟨18,[(0,zK [0] []),(1,zK [0,5,6,7] []),(2,zK [0,5,6,7,8] []),(3,zK [0,4,5,6,7] [4]),(4,zK [0,5,6,7,13] []),(5,zK [2] []),(6,zK [0,5,6,7] []),(7,zK [2] [])],
 [(2,zK [0,5,6,7] [])],
 [(5,zK [0,5,6,7,13] [])],
 [],[]⟩
abbrev R28:=Bool
abbrev e28 (r:R28):List PA:=[.one (.bool r)]
@[irreducible] def z28:=ptF Tryz.prog G28 zGF Tryz.f28
def zEJ (zaa:(Sl Gate)) (zbJ:Int):St:=⟨[(0,zS enc_48 3 zaa),(5,zS enc_48 3 zaa),(6,zI (zaa.len:Int)),(7,zI zbJ)],[],[]⟩
abbrev zGG (K:List PA->Prop) (zaa:(Sl Gate)) (X:St->Prop) (P:Int->Bool) (S:Int->Bool):Prop:=∀ ⦃zbJ:Int⦄,P zbJ=true->K (e28 (S zbJ))->X (zEJ zaa zbJ)
section
variable {K:List PA->Prop}{zaa:(Sl Gate)}{zbJ:Int}{X0:St->Prop}{P0:Int->Bool}{S0:Int->Bool}{zhQ:Int}{zrM:Bool}
def zrN (S0:Int->Bool) (zaa:(Sl Gate)) (zhQ:Int) (zrM:Bool):Bool :=
  (cond zrM
 false
 (S0 (w64 (zhQ+(1:Int)))))
def zrO (P0:Int->Bool) (zaa:(Sl Gate)) (zhQ:Int) (zrM:Bool):Bool :=
  (cond zrM
 true
 (P0 (w64 (zhQ+(1:Int)))))
theorem zGH (hX0:zGG K zaa X0 P0 S0) (hs:zrO P0 zaa zhQ zrM=true) (hk:K (e28 (zrN S0 zaa zhQ zrM))):z28 K [1,0,1,0,0,1,1,0,0,1,1] [X0] ⟨[(0,zS enc_48 3 zaa),(5,zS enc_48 3 zaa),(6,zI (zaa.len:Int)),(7,zI zhQ),(13,zB zrM)],[],[]⟩:=zaN (by kernel_rfl) (zc hs hk (λ hs hk=>hk) (λ hs hk=>(hX0 hs hk)))
def zjc (zaa:(Sl Gate)) (S0:Int->Bool) (zbJ:Int):Bool :=
  (cond (decide (zbJ < (zaa.len : Int)))
 (zrN S0 zaa zbJ (!(s55 (zaa.get zbJ.toNat))))
 (s44 (zaa.len:Int) (1:Int) (24:Int)))
def zjd (zaa:(Sl Gate)) (P0:Int->Bool) (zbJ:Int):Bool :=
  (cond (decide (zbJ < (zaa.len : Int)))
 (decide ((0<=zbJ/\zbJ < (zaa.len:Int))) &&
 (zrO P0 zaa zbJ (!(s55 (zaa.get zbJ.toNat)))))
 true)
def zje (zaa:(Sl Gate)):Nat->Int->Bool:=lpO (λ _=>default) (zjc zaa)
def zjf (zaa:(Sl Gate)):Nat->Int->Bool:=lpO (λ _=>false) (zjd zaa)
def zyf (zaa:(Sl Gate)) (zbJ:Int):Bool:=zje zaa Fuel zbJ
def zyg (zaa:(Sl Gate)) (zbJ:Int):Bool:=zjf zaa Fuel zbJ
theorem zGI (hs:zyg zaa zbJ=true) (hk:K (e28 (zyf zaa zbJ))):z28 K [1,0,1,0] [] (zEJ zaa zbJ) :=
  zl (λ X=>z28 K [1,0,1,0,0] [X]) (by kernel_rfl) λ X0 hX =>
  (show ∀ k, zGG K zaa X0 (zjf zaa k) (zje zaa k) from zgw _ _ (zjd zaa) (zjc zaa) (zGG K zaa X0)
 (by intro _ hs;exact absurd hs dqk)
 (by intro P0 S0 hX0 zbJ hs hk;exact hX _ (zaN (by kernel_rfl) (zc hs hk (λ hs hk=>(zaI hs λ hc hs=>And.intro hc (zGH hX0 hs hk))) (λ hs hk=>hk))))) _ hs hk
def s28 (zaa:(Sl Gate)):Bool :=
  (zyf zaa (0:Int))
def p28 (zaa:(Sl Gate)):Bool :=
  (zyg zaa (0:Int))
end
theorem q28 (zaa:(Sl Gate)) (K:List PA->Prop) (hs:p28 zaa=true) (hk:K (e28 (s28 zaa))):vcFun Tryz.prog G28 zGF 28 [.one (.sl zaa.len 3 (λ i=>enc_48 (zaa.get i)))] K :=
  zaN (by kernel_rfl) (zGI hs hk)
def zqb : List PA → COut
  | [.one (.sl zaU zcu zaV)]=>.det (IsE enc_48 3 zcu zaV/\p28 (⟨zaU,zaf zaV⟩:(Sl Gate))=true) [.one (.bool (s28 (⟨zaU,zaf zaV⟩:(Sl Gate))))]
  | _=>.no
theorem call28:zah Tryz.prog 28:=⟨_,rfl,rfl,by kernel_rfl⟩
theorem zKo:Ok Tryz.prog 28 zqb:=za3 zO5 call28 λ args K h=>by
  unfold zqb at h
  split at h
  · rename_i zaU zcu zaV
    obtain⟨⟨⟨rfl,zbF,rfl⟩,hs⟩,hk⟩:=h
    try rw[zae zbF] at hs
    try rw[zae zbF] at hk
    exact⟨(λ _ _=>[]),(λ _=>false),zGF,q28 (⟨zaU,zbF⟩:(Sl Gate)) K hs hk⟩
  · exact h.elim
section
variable [DrawZ]
abbrev T84:Tabs:=Tabs.nil
theorem zO6:TabsOk Tryz.prog T84:=TabsOk.nil
abbrev G84:Ctrs:=csm T84 (λ _ _=>[]) (λ _=>false)
def zGJ:Ann:=⟨12,[(0,zK [0,1] []),(1,zK [0,1,6] []),(2,zK [0,1] []),(3,zK [4] [])],
 [(1,zK [0,1] [])],
 [],
 [],[]⟩
abbrev R84:=Int
abbrev e84 (r:R84):List PA:=[.one (.int .i64 r)]
@[irreducible] def z84:=ptF Tryz.prog G84 zGJ Tryz.f84
def zEK (av0:Int) (bv0:Int):St:=⟨[(0,zI av0),(1,zI bv0)],[],[]⟩
abbrev zLr (K:List PA->Prop) (X:St->Prop) (P:Int->Int->Bool) (S:Int->Int->Int):Prop:=∀ ⦃av0:Int⦄ ⦃bv0:Int⦄,P av0 bv0=true->K (e84 (S av0 bv0))->X (zEK av0 bv0)
section
variable {K:List PA->Prop}{a:Int}{b:Int}{av0:Int}{bv0:Int}{X0:St->Prop}{P0:Int->Int->Bool}{S0:Int->Int->Int}
def zoz (S0:Int->Int->Int) (av0:Int) (bv0:Int):Int :=
  (cond (decide (bv0 > (0:Int)))
 (S0 bv0 (av0.tmod bv0))
 av0)
def zoA (P0:Int->Int->Bool) (av0:Int) (bv0:Int):Bool :=
  (cond (decide (bv0 > (0:Int)))
 (decide ((bv0 ≠ 0)) &&
 (P0 bv0 (av0.tmod bv0)))
 true)
def zoB:Nat->Int->Int->Int:=lpO (λ _ _=>default) (zoz)
def zoC:Nat->Int->Int->Bool:=lpO (λ _ _=>false) (zoA)
def zyh (av0:Int) (bv0:Int):Int:=zoB Fuel av0 bv0
def zyi (av0:Int) (bv0:Int):Bool:=zoC Fuel av0 bv0
theorem zGK (hs:zyi av0 bv0=true) (hk:K (e84 (zyh av0 bv0))):z84 K [1,0,0] [] (zEK av0 bv0) :=
  zl (λ X=>z84 K [1,0,0,0] [X]) (by kernel_rfl) λ X0 hX =>
  (show ∀ k, zLr K X0 (zoC k) (zoB k) from zgw _ _ (zoA) (zoz) (zLr K X0)
 (by intro _ _ hs;exact absurd hs dqk)
 (by intro P0 S0 hX0 av0 bv0 hs hk;exact hX _ (zaN (by kernel_rfl) (zc hs hk (λ hs hk=>(zaI hs λ hc hs=>And.intro hc (hX0 hs hk))) (λ hs hk=>hk))))) _ hs hk
def s84 (a:Int) (b:Int):Int :=
  (zyh a b)
def p84 (a:Int) (b:Int):Bool :=
  (zyi a b)
end
theorem q84 (a:Int) (b:Int) (K:List PA->Prop) (hs:p84 a b=true) (hk:K (e84 (s84 a b))):vcFun Tryz.prog G84 zGJ 84 [.one (.int .i64 a),.one (.int .i64 b)] K :=
  zaN (by kernel_rfl) (zGK hs hk)
def zGL : List PA → COut
  | [.one (.int .i64 a0),.one (.int .i64 a1)]=>.det (p84 a0 a1=true) [.one (.int .i64 (s84 a0 a1))]
  | _=>.no
theorem zLs:zah Tryz.prog 84:=⟨_,rfl,rfl,by kernel_rfl⟩
theorem zRi:Ok Tryz.prog 84 zGL:=za3 zO6 zLs λ args K h=>by
  unfold zGL at h
  split at h
  · rename_i a0 a1
    obtain⟨hs,hk⟩:=h
    exact⟨(λ _ _=>[]),(λ _=>false),zGJ,q84 a0 a1 K hs hk⟩
  · exact h.elim
end

section
variable [DrawZ]
abbrev T68:Tabs:=(Tabs.nil.addF 84 zGL)
theorem zO7:TabsOk Tryz.prog T68:=(TabsOk.nil.addF zRi)
abbrev G68:Ctrs:=csm T68 (λ _ _=>[]) (λ _=>false)
def zLt:Ann:=⟨19,[(0,zK [0,1,4] [4]),(1,zK [0,1,4,5] [4]),(2,zK [4] [4])],
 [],
 [],
 [],[]⟩
abbrev R68:=Frac
abbrev e68 (r:R68):List PA:=[.agg [.int .i64 r.Num,.int .i64 r.Den]]
section
variable {K:List PA->Prop}{num:Int}{den:Int}
def s68 (num:Int) (den:Int):Frac :=
  (⟨(w64 (num.tdiv (s84 (if (w64 (0 - num)) > num then (w64 (0 - num)) else num) den))),(w64 (den.tdiv (s84 (if (w64 (0 - num)) > num then (w64 (0 - num)) else num) den)))⟩:Frac)
def p68 (num:Int) (den:Int):Bool :=
  (decide ((p84 (if (w64 (0 - num)) > num then (w64 (0 - num)) else num) den=true)) &&
 (decide (((s84 (if (w64 (0 - num)) > num then (w64 (0 - num)) else num) den) ≠ 0)) &&
 (decide (((s84 (if (w64 (0 - num)) > num then (w64 (0 - num)) else num) den) ≠ 0)) &&
 true)))
end
theorem q68 (num:Int) (den:Int) (K:List PA->Prop) (hs:p68 num den=true) (hk:K (e68 (s68 num den))):vcFun Tryz.prog G68 zLt 68 [.one (.int .i64 num),.one (.int .i64 den)] K :=
  zaN (by kernel_rfl) (zaI hs λ hc hs=>And.intro hc (zaI hs λ hc hs=>And.intro hc (zaI hs λ hc hs=>And.intro hc hk)))
def zwo : List PA → COut
  | [.one (.int .i64 a0),.one (.int .i64 a1)]=>.det (p68 a0 a1=true) [.agg [.int .i64 ((s68 a0 a1).Num),.int .i64 ((s68 a0 a1).Den)]]
  | _=>.no
theorem zLu:zah Tryz.prog 68:=⟨_,rfl,rfl,by kernel_rfl⟩
theorem zOD:Ok Tryz.prog 68 zwo:=za3 zO7 zLu λ args K h=>by
  unfold zwo at h
  split at h
  · rename_i a0 a1
    obtain⟨hs,hk⟩:=h
    exact⟨(λ _ _=>[]),(λ _=>false),zLt,q68 a0 a1 K hs hk⟩
  · exact h.elim
end

abbrev T43:Tabs:=(Tabs.nil.addF 68 zwo)
theorem zO8:TabsOk Tryz.prog T43:=(TabsOk.nil.addF zOD)
abbrev G43:Ctrs:=csm T43 (λ _ _=>[]) (λ _=>false)
def zLv:Ann:=⟨14,[(0,zK [1,2] [1,2]),(1,zK [2] [2])],
 [],
 [],
 [],[]⟩
abbrev R43:=Line
abbrev e43 (r:R43):List PA:=[.agg [.int .i64 r.Slope.Num,.int .i64 r.Slope.Den,.int .i64 r.Start.Num,.int .i64 r.Start.Den]]
section
variable {K:List PA->Prop}{s:straight}
def s43 (s:straight):Line :=
  (⟨(s68 s.slope s.den),(s68 s.start s.den)⟩:Line)
def p43 (s:straight):Bool :=
  (decide ((p68 s.slope s.den=true)) &&
 (decide ((p68 s.start s.den=true)) &&
 true))
end
theorem q43 (s:straight) (K:List PA->Prop) (hs:p43 s=true) (hk:K (e43 (s43 s))):vcFun Tryz.prog G43 zLv 43 [.agg (zaz s)] K :=
  zaN (by kernel_rfl) (zaI hs λ hc hs=>And.intro hc (zaI hs λ hc hs=>And.intro hc hk))
def zDC : List PA → COut
  | [.agg [.int .i64 zbs,.int .i64 zbt,.int .i64 zc2]]=>.det (p43 (⟨zbs,zbt,zc2⟩:straight)=true) [.agg [.int .i64 ((s43 (⟨zbs,zbt,zc2⟩:straight)).Slope.Num),.int .i64 ((s43 (⟨zbs,zbt,zc2⟩:straight)).Slope.Den),.int .i64 ((s43 (⟨zbs,zbt,zc2⟩:straight)).Start.Num),.int .i64 ((s43 (⟨zbs,zbt,zc2⟩:straight)).Start.Den)]]
  | _=>.no
theorem zLw:zah Tryz.prog 43:=⟨_,rfl,rfl,by kernel_rfl⟩
theorem zQM:Ok Tryz.prog 43 zDC:=za3 zO8 zLw λ args K h=>by
  unfold zDC at h
  split at h
  · rename_i zbs zbt zc2
    obtain⟨hs,hk⟩:=h
    exact⟨(λ _ _=>[]),(λ _=>false),zLv,q43 (⟨zbs,zbt,zc2⟩:straight) K hs hk⟩
  · exact h.elim
section
variable [DrawZ]
abbrev T75:Tabs:=Tabs.nil
theorem zO9:TabsOk Tryz.prog T75:=TabsOk.nil
abbrev G75:Ctrs:=csm T75 (λ _ _=>[]) (λ _=>false)
def zLx:Ann:=⟨12,[(0,zK [1,2] [2]),(1,zK [3] [])],
 [],
 [],
 [],[]⟩
abbrev R75:=Bool
abbrev e75 (r:R75):List PA:=[.one (.bool r)]
section
variable {K:List PA->Prop}{c0:list}{g:Gate}
def s75 (c0:list) (g:Gate):Bool :=
  (g.Z != (c0.Gates.get 0).Z)
def p75 (c0:list) (g:Gate):Bool :=
  (decide ((0<=(0:Int)/\(0:Int) < (c0.Gates.len:Int))) &&
 true)
end
theorem q75 (c0:list) (g:Gate) (K:List PA->Prop) (hs:p75 c0 g=true) (hk:K (e75 (s75 c0 g))):vcFun Tryz.prog G75 zLx 75 [.agg (enc_48 g),.one (.fp (zdN c0) 0)] K :=
  zaN (by kernel_rfl) (zaI hs λ hc hs=>And.intro hc hk)
def zGM : List PA → COut
  | [.agg [.int .i64 znx,.int .i64 zdC,.int .i64 zcU],.one (.fp [.sl c0_Gates_n c0_Gates_s c0_Gates_g] 0)]=>.det (IsE enc_48 3 c0_Gates_s c0_Gates_g/\p75 (⟨(⟨c0_Gates_n,zaf c0_Gates_g⟩:(Sl Gate))⟩:list) (⟨znx,zdC,zcU⟩:Gate)=true) [.one (.bool (s75 (⟨(⟨c0_Gates_n,zaf c0_Gates_g⟩:(Sl Gate))⟩:list) (⟨znx,zdC,zcU⟩:Gate)))]
  | _=>.no
theorem zLy:zah Tryz.prog 75:=⟨_,rfl,rfl,by kernel_rfl⟩
theorem zRj:Ok Tryz.prog 75 zGM:=za3 zO9 zLy λ args K h=>by
  unfold zGM at h
  split at h
  · rename_i znx zdC zcU c0_Gates_n c0_Gates_s c0_Gates_g
    obtain⟨⟨⟨rfl,c0_Gates_f,rfl⟩,hs⟩,hk⟩:=h
    try rw[zae c0_Gates_f] at hs
    try rw[zae c0_Gates_f] at hk
    exact⟨(λ _ _=>[]),(λ _=>false),zLx,q75 (⟨(⟨c0_Gates_n,c0_Gates_f⟩:(Sl Gate))⟩:list) (⟨znx,zdC,zcU⟩:Gate) K hs hk⟩
  · exact h.elim
end

section
variable [DrawZ]
abbrev T83:Tabs:=Tabs.nil
theorem zPa:TabsOk Tryz.prog T83:=TabsOk.nil
abbrev G83:Ctrs:=csm T83 (λ _ _=>[]) (λ _=>false)
def zLz:Ann:=⟨18,[(0,zK [1,2] [2]),(1,zK [3] [])],
 [],
 [],
 [],[]⟩
abbrev R83:=Bool
abbrev e83 (r:R83):List PA:=[.one (.bool r)]
section
variable {K:List PA->Prop}{c0:straight}{g:Gate}
def s83 (c0:straight) (g:Gate):Bool :=
  ((w64 (c0.start+(w64 (c0.slope * g.Z)))) == (w64 (g.Low * c0.den)))
end
theorem q83 (c0:straight) (g:Gate) (K:List PA->Prop) (hk:K (e83 (s83 c0 g))):vcFun Tryz.prog G83 zLz 83 [.agg (enc_48 g),.one (.fp (zaz c0) 0)] K :=
  zaN (by kernel_rfl) hk
def zGN : List PA → COut
  | [.agg [.int .i64 znx,.int .i64 zdC,.int .i64 zcU],.one (.fp [.int .i64 c0_slope,.int .i64 c0_start,.int .i64 c0_den] 0)]=>.tot [.one (.bool (s83 (⟨c0_slope,c0_start,c0_den⟩:straight) (⟨znx,zdC,zcU⟩:Gate)))]
  | _=>.no
theorem zLA:zah Tryz.prog 83:=⟨_,rfl,rfl,by kernel_rfl⟩
theorem zRk:Ok Tryz.prog 83 zGN:=za3 zPa zLA λ args K h=>by
  unfold zGN at h
  split at h
  · rename_i znx zdC zcU c0_slope c0_start c0_den
    have hk:=h
    exact⟨(λ _ _=>[]),(λ _=>false),zLz,q83 (⟨c0_slope,c0_start,c0_den⟩:straight) (⟨znx,zdC,zcU⟩:Gate) K hk⟩
  · exact h.elim
end

section
variable [DrawZ]
abbrev T57:Tabs:=(Tabs.nil.addF 44 zqa)
theorem zPb:TabsOk Tryz.prog T57:=(TabsOk.nil.addF zKn)
abbrev G57:Ctrs:=csm T57 (λ _ _=>[]) (λ _=>false)
def zLB:Ann:=⟨24,[(0,zK [2,3] [2,3]),(1,zK [4] [])],
 [],
 [],
 [],[]⟩
abbrev R57:=Bool
abbrev e57 (r:R57):List PA:=[.one (.bool r)]
section
variable {K:List PA->Prop}{s:straight}{g:Gate}
def s57 (s:straight) (g:Gate):Bool :=
  (s44 (w64 (s.start+(w64 (s.slope * g.Z)))) (w64 (g.Low * s.den)) (w64 (g.High * s.den)))
end
theorem q57 (s:straight) (g:Gate) (K:List PA->Prop) (hk:K (e57 (s57 s g))):vcFun Tryz.prog G57 zLB 57 [.agg (zaz s),.agg (enc_48 g)] K :=
  zaN (by kernel_rfl) hk
def zDD : List PA → COut
  | [.agg [.int .i64 zbs,.int .i64 zbt,.int .i64 zc2],.agg [.int .i64 zGO,.int .i64 zlP,.int .i64 zhR]]=>.tot [.one (.bool (s57 (⟨zbs,zbt,zc2⟩:straight) (⟨zGO,zlP,zhR⟩:Gate)))]
  | _=>.no
theorem zLC:zah Tryz.prog 57:=⟨_,rfl,rfl,by kernel_rfl⟩
theorem zQN:Ok Tryz.prog 57 zDD:=za3 zPb zLC λ args K h=>by
  unfold zDD at h
  split at h
  · rename_i zbs zbt zc2 zGO zlP zhR
    have hk:=h
    exact⟨(λ _ _=>[]),(λ _=>false),zLB,q57 (⟨zbs,zbt,zc2⟩:straight) (⟨zGO,zlP,zhR⟩:Gate) K hk⟩
  · exact h.elim
end

section
variable [DrawZ]
abbrev T88:Tabs:=(Tabs.nil.addF 57 zDD)
theorem zPc:TabsOk Tryz.prog T88:=(TabsOk.nil.addF zQN)
abbrev G88:Ctrs:=csm T88 (λ _ _=>[]) (λ _=>false)
def zLD:Ann:=⟨8,[(0,zK [1,2] [2]),(1,zK [3] [])],
 [],
 [],
 [],[]⟩
abbrev R88:=Bool
abbrev e88 (r:R88):List PA:=[.one (.bool r)]
section
variable {K:List PA->Prop}{c0:straight}{g:Gate}
def s88 (c0:straight) (g:Gate):Bool :=
  (!(s57 c0 g))
end
theorem q88 (c0:straight) (g:Gate) (K:List PA->Prop) (hk:K (e88 (s88 c0 g))):vcFun Tryz.prog G88 zLD 88 [.agg (enc_48 g),.one (.fp (zaz c0) 0)] K :=
  zaN (by kernel_rfl) hk
def zGP : List PA → COut
  | [.agg [.int .i64 znx,.int .i64 zdC,.int .i64 zcU],.one (.fp [.int .i64 c0_slope,.int .i64 c0_start,.int .i64 c0_den] 0)]=>.tot [.one (.bool (s88 (⟨c0_slope,c0_start,c0_den⟩:straight) (⟨znx,zdC,zcU⟩:Gate)))]
  | _=>.no
theorem zLE:zah Tryz.prog 88:=⟨_,rfl,rfl,by kernel_rfl⟩
theorem zRl:Ok Tryz.prog 88 zGP:=za3 zPc zLE λ args K h=>by
  unfold zGP at h
  split at h
  · rename_i znx zdC zcU c0_slope c0_start c0_den
    have hk:=h
    exact⟨(λ _ _=>[]),(λ _=>false),zLD,q88 (⟨c0_slope,c0_start,c0_den⟩:straight) (⟨znx,zdC,zcU⟩:Gate) K hk⟩
  · exact h.elim
end

section
variable [DrawZ]
abbrev T89:Tabs:=(((Tabs.nil.addF 75 zGM).addF 83 zGN).addF 88 zGP)
theorem zPd:TabsOk Tryz.prog T89:=(((TabsOk.nil.addF zRj).addF zRk).addF zRl)
abbrev G89:Ctrs:=csm T89 (λ _ _=>[]) (λ _=>false)
def zGQ:Ann:=⟨19,[(0,zK [0,1] []),(1,zK [0,1,7,8] []),(2,zK [0,1,7,8,9] []),(3,zK [0,1,5,7,8] []),(4,zK [0,1,5,7,8,16] []),(5,zK [4] []),(6,zK [0,1,7,8] []),(7,zK [4] [])],
 [(2,zK [0,1,7,8] [])],
 [(5,zK [0,1,5,7,8,16] [])],
 [],[]⟩
abbrev R89:=Int
abbrev e89 (r:R89):List PA:=[.one (.int .i64 r)]
@[irreducible] def z89:=ptF Tryz.prog G89 zGQ Tryz.f89
def zEL (c0:list) (sv0:(Sl Gate)) (zbJ:Int) (zc0:Int) (zeh:Nat->List PV):St:=⟨[(0,zP (.sl sv0.len 3 zeh)),(1,zP (.fn 75 [] [.fp (zdN c0) 0])),(7,zI zbJ),(8,zI zc0)],[],[]⟩
abbrev zGR (K:List PA->Prop) (c0:list) (X:St->Prop) (P:(Sl Gate)->Int->Int->Bool) (S:(Sl Gate)->Int->Int->Int):Prop:=∀ ⦃sv0:(Sl Gate)⦄ ⦃zbJ:Int⦄ ⦃zc0:Int⦄ ⦃zeh:Nat->List PV⦄,P sv0 zbJ zc0=true->K (e89 (S sv0 zbJ zc0))->zeh=zg enc_48 sv0->X (zEL c0 sv0 zbJ zc0 zeh)
section
variable {K:List PA->Prop}{c0:list}{s:(Sl Gate)}{sv0:(Sl Gate)}{zbJ:Int}{zc0:Int}{zeh:Nat->List PV}{X0:St->Prop}{P0:(Sl Gate)->Int->Int->Bool}{S0:(Sl Gate)->Int->Int->Int}{sv1:(Sl Gate)}{iv1:Int}{zhQ:Int}{zlQ:Int}{zeQ:Bool}{zqc:Nat->List PV}
def zrP (S0:(Sl Gate)->Int->Int->Int) (c0:list) (sv1:(Sl Gate)) (iv1:Int) (zhQ:Int) (zlQ:Int) (zeQ:Bool):Int :=
  (cond zeQ
 iv1
 (S0 sv1 zhQ (w64 (zlQ+(1:Int)))))
def zrQ (P0:(Sl Gate)->Int->Int->Bool) (c0:list) (sv1:(Sl Gate)) (iv1:Int) (zhQ:Int) (zlQ:Int) (zeQ:Bool):Bool :=
  (cond zeQ
 true
 (P0 sv1 zhQ (w64 (zlQ+(1:Int)))))
theorem zGS (hX0:zGR K c0 X0 P0 S0) (hs:zrQ P0 c0 sv1 iv1 zhQ zlQ zeQ=true) (hk:K (e89 (zrP S0 c0 sv1 iv1 zhQ zlQ zeQ))) (zyj:zqc=zg enc_48 sv1):z89 K [1,0,1,0,0,1,1,0,0,1,1] [X0] ⟨[(0,zP (.sl sv1.len 3 zqc)),(1,zP (.fn 75 [] [.fp (zdN c0) 0])),(5,zI iv1),(7,zI zhQ),(8,zI zlQ),(16,zB zeQ)],[],[]⟩:=by subst zyj;exact zaN (by kernel_rfl) (zc hs hk (λ hs hk=>hk) (λ hs hk=>(hX0 hs hk rfl)))
def zoD (c0:list) (S0:(Sl Gate)->Int->Int->Int) (sv0:(Sl Gate)) (zbJ:Int) (zc0:Int):Int :=
  (cond (decide (zc0 < zbJ))
 (zrP S0 c0 sv0 zc0 zbJ zc0 (s75 c0 (sv0.get zc0.toNat)))
 (-1:Int))
def zoE (c0:list) (P0:(Sl Gate)->Int->Int->Bool) (sv0:(Sl Gate)) (zbJ:Int) (zc0:Int):Bool :=
  (cond (decide (zc0 < zbJ))
 (decide ((0<=zc0/\zc0 < (sv0.len:Int))) &&
 (decide ((p75 c0 (sv0.get zc0.toNat)=true)) &&
 (zrQ P0 c0 sv0 zc0 zbJ zc0 (s75 c0 (sv0.get zc0.toNat)))))
 true)
def zoF (c0:list):Nat->(Sl Gate)->Int->Int->Int:=lpO (λ _ _ _=>default) (zoD c0)
def zoG (c0:list):Nat->(Sl Gate)->Int->Int->Bool:=lpO (λ _ _ _=>false) (zoE c0)
def zyk (c0:list) (sv0:(Sl Gate)) (zbJ:Int) (zc0:Int):Int:=zoF c0 Fuel sv0 zbJ zc0
def zyl (c0:list) (sv0:(Sl Gate)) (zbJ:Int) (zc0:Int):Bool:=zoG c0 Fuel sv0 zbJ zc0
theorem zGT (hs:zyl c0 sv0 zbJ zc0=true) (hk:K (e89 (zyk c0 sv0 zbJ zc0))) (zlR:zeh=zg enc_48 sv0):z89 K [1,0,1,0] [] (zEL c0 sv0 zbJ zc0 zeh) :=
  zl (λ X=>z89 K [1,0,1,0,0] [X]) (by kernel_rfl) λ X0 hX =>
  (show ∀ k, zGR K c0 X0 (zoG c0 k) (zoF c0 k) from zgw _ _ (zoE c0) (zoD c0) (zGR K c0 X0)
 (by intro _ _ _ _ hs;exact absurd hs dqk)
 (by intro P0 S0 hX0 sv0 zbJ zc0 zeh hs hk zlR;subst zlR;exact hX _ (zaN (by kernel_rfl) (zc hs hk (λ hs hk=>(zaI hs λ hc hs=>And.intro hc (zaI hs λ hc hs=>And.intro (And.intro (zE enc_48 3 c0.Gates.get) hc) (zGS hX0 hs hk rfl)))) (λ hs hk=>hk))))) _ hs hk zlR
def s89 (c0:list) (s:(Sl Gate)):Int :=
  (zyk c0 s (s.len:Int) (0:Int))
def p89 (c0:list) (s:(Sl Gate)):Bool :=
  (zyl c0 s (s.len:Int) (0:Int))
end
theorem q89 (c0:list) (s:(Sl Gate)) (K:List PA->Prop) (hs:p89 c0 s=true) (hk:K (e89 (s89 c0 s))):vcFun Tryz.prog G89 zGQ 89 [.one (.sl s.len 3 (λ i=>enc_48 (s.get i))),.one (.fn 75 [] [.fp (zdN c0) 0])] K :=
  zaN (by kernel_rfl) (zGT hs hk rfl)
abbrev zQO:Ctrs:=csm T89 (λ _ _=>[]) (λ _=>false)
def zym:Ann:=⟨19,[(0,zK [0,1] []),(1,zK [0,1,7,8] []),(2,zK [0,1,7,8,9] []),(3,zK [0,1,5,7,8] []),(4,zK [0,1,5,7,8,16] []),(5,zK [4] []),(6,zK [0,1,7,8] []),(7,zK [4] [])],
 [(2,zK [0,1,7,8] [])],
 [(5,zK [0,1,5,7,8,16] [])],
 [],[]⟩
abbrev zRm:=Int
abbrev zOE (r:zRm):List PA:=[.one (.int .i64 r)]
@[irreducible] def z89a:=ptF Tryz.prog zQO zym Tryz.f89
def zyn (c0:straight) (sv0:(Sl Gate)) (zbJ:Int) (zc0:Int) (zeh:Nat->List PV):St:=⟨[(0,zP (.sl sv0.len 3 zeh)),(1,zP (.fn 88 [] [.fp (zaz c0) 0])),(7,zI zbJ),(8,zI zc0)],[],[]⟩
abbrev zyo (K:List PA->Prop) (c0:straight) (X:St->Prop) (P:(Sl Gate)->Int->Int->Bool) (S:(Sl Gate)->Int->Int->Int):Prop:=∀ ⦃sv0:(Sl Gate)⦄ ⦃zbJ:Int⦄ ⦃zc0:Int⦄ ⦃zeh:Nat->List PV⦄,P sv0 zbJ zc0=true->K (zOE (S sv0 zbJ zc0))->zeh=zg enc_48 sv0->X (zyn c0 sv0 zbJ zc0 zeh)
section
variable {K:List PA->Prop}{c0:straight}{s:(Sl Gate)}{sv0:(Sl Gate)}{zbJ:Int}{zc0:Int}{zeh:Nat->List PV}{X0:St->Prop}{P0:(Sl Gate)->Int->Int->Bool}{S0:(Sl Gate)->Int->Int->Int}{sv1:(Sl Gate)}{iv1:Int}{zhQ:Int}{zlQ:Int}{zeQ:Bool}{zqc:Nat->List PV}
def zoH (S0:(Sl Gate)->Int->Int->Int) (c0:straight) (sv1:(Sl Gate)) (iv1:Int) (zhQ:Int) (zlQ:Int) (zeQ:Bool):Int :=
  (cond zeQ
 iv1
 (S0 sv1 zhQ (w64 (zlQ+(1:Int)))))
def zoI (P0:(Sl Gate)->Int->Int->Bool) (c0:straight) (sv1:(Sl Gate)) (iv1:Int) (zhQ:Int) (zlQ:Int) (zeQ:Bool):Bool :=
  (cond zeQ
 true
 (P0 sv1 zhQ (w64 (zlQ+(1:Int)))))
theorem zDE (hX0:zyo K c0 X0 P0 S0) (hs:zoI P0 c0 sv1 iv1 zhQ zlQ zeQ=true) (hk:K (zOE (zoH S0 c0 sv1 iv1 zhQ zlQ zeQ))) (zyj:zqc=zg enc_48 sv1):z89a K [1,0,1,0,0,1,1,0,0,1,1] [X0] ⟨[(0,zP (.sl sv1.len 3 zqc)),(1,zP (.fn 88 [] [.fp (zaz c0) 0])),(5,zI iv1),(7,zI zhQ),(8,zI zlQ),(16,zB zeQ)],[],[]⟩:=by subst zyj;exact zaN (by kernel_rfl) (zc hs hk (λ hs hk=>hk) (λ hs hk=>(hX0 hs hk rfl)))
def zkH (c0:straight) (S0:(Sl Gate)->Int->Int->Int) (sv0:(Sl Gate)) (zbJ:Int) (zc0:Int):Int :=
  (cond (decide (zc0 < zbJ))
 (zoH S0 c0 sv0 zc0 zbJ zc0 (s88 c0 (sv0.get zc0.toNat)))
 (-1:Int))
def zkI (c0:straight) (P0:(Sl Gate)->Int->Int->Bool) (sv0:(Sl Gate)) (zbJ:Int) (zc0:Int):Bool :=
  (cond (decide (zc0 < zbJ))
 (decide ((0<=zc0/\zc0 < (sv0.len:Int))) &&
 (zoI P0 c0 sv0 zc0 zbJ zc0 (s88 c0 (sv0.get zc0.toNat))))
 true)
def zkJ (c0:straight):Nat->(Sl Gate)->Int->Int->Int:=lpO (λ _ _ _=>default) (zkH c0)
def zkK (c0:straight):Nat->(Sl Gate)->Int->Int->Bool:=lpO (λ _ _ _=>false) (zkI c0)
def zuy (c0:straight) (sv0:(Sl Gate)) (zbJ:Int) (zc0:Int):Int:=zkJ c0 Fuel sv0 zbJ zc0
def zuz (c0:straight) (sv0:(Sl Gate)) (zbJ:Int) (zc0:Int):Bool:=zkK c0 Fuel sv0 zbJ zc0
theorem zDF (hs:zuz c0 sv0 zbJ zc0=true) (hk:K (zOE (zuy c0 sv0 zbJ zc0))) (zlR:zeh=zg enc_48 sv0):z89a K [1,0,1,0] [] (zyn c0 sv0 zbJ zc0 zeh) :=
  zl (λ X=>z89a K [1,0,1,0,0] [X]) (by kernel_rfl) λ X0 hX =>
  (show ∀ k, zyo K c0 X0 (zkK c0 k) (zkJ c0 k) from zgw _ _ (zkI c0) (zkH c0) (zyo K c0 X0)
 (by intro _ _ _ _ hs;exact absurd hs dqk)
 (by intro P0 S0 hX0 sv0 zbJ zc0 zeh hs hk zlR;subst zlR;exact hX _ (zaN (by kernel_rfl) (zc hs hk (λ hs hk=>(zaI hs λ hc hs=>And.intro hc (zDE hX0 hs hk rfl))) (λ hs hk=>hk))))) _ hs hk zlR
def zLF (c0:straight) (s:(Sl Gate)):Int :=
  (zuy c0 s (s.len:Int) (0:Int))
def zLG (c0:straight) (s:(Sl Gate)):Bool :=
  (zuz c0 s (s.len:Int) (0:Int))
end
theorem zRn (c0:straight) (s:(Sl Gate)) (K:List PA->Prop) (hs:zLG c0 s=true) (hk:K (zOE (zLF c0 s))):vcFun Tryz.prog zQO zym 89 [.one (.sl s.len 3 (λ i=>enc_48 (s.get i))),.one (.fn 88 [] [.fp (zaz c0) 0])] K :=
  zaN (by kernel_rfl) (zDF hs hk rfl)
abbrev zQP:Ctrs:=csm T89 (λ _ _=>[]) (λ _=>false)
def zyp:Ann:=⟨19,[(0,zK [0,1] []),(1,zK [0,1,7,8] []),(2,zK [0,1,7,8,9] []),(3,zK [0,1,5,7,8] []),(4,zK [0,1,5,7,8,16] []),(5,zK [4] []),(6,zK [0,1,7,8] []),(7,zK [4] [])],
 [(2,zK [0,1,7,8] [])],
 [(5,zK [0,1,5,7,8,16] [])],
 [],[]⟩
abbrev zRo:=Int
abbrev zOF (r:zRo):List PA:=[.one (.int .i64 r)]
@[irreducible] def z89b:=ptF Tryz.prog zQP zyp Tryz.f89
def zyq (c0:straight) (sv0:(Sl Gate)) (zbJ:Int) (zc0:Int) (zeh:Nat->List PV):St:=⟨[(0,zP (.sl sv0.len 3 zeh)),(1,zP (.fn 83 [] [.fp (zaz c0) 0])),(7,zI zbJ),(8,zI zc0)],[],[]⟩
abbrev zyr (K:List PA->Prop) (c0:straight) (X:St->Prop) (P:(Sl Gate)->Int->Int->Bool) (S:(Sl Gate)->Int->Int->Int):Prop:=∀ ⦃sv0:(Sl Gate)⦄ ⦃zbJ:Int⦄ ⦃zc0:Int⦄ ⦃zeh:Nat->List PV⦄,P sv0 zbJ zc0=true->K (zOF (S sv0 zbJ zc0))->zeh=zg enc_48 sv0->X (zyq c0 sv0 zbJ zc0 zeh)
section
variable {K:List PA->Prop}{c0:straight}{s:(Sl Gate)}{sv0:(Sl Gate)}{zbJ:Int}{zc0:Int}{zeh:Nat->List PV}{X0:St->Prop}{P0:(Sl Gate)->Int->Int->Bool}{S0:(Sl Gate)->Int->Int->Int}{sv1:(Sl Gate)}{iv1:Int}{zhQ:Int}{zlQ:Int}{zeQ:Bool}{zqc:Nat->List PV}
def zuA (S0:(Sl Gate)->Int->Int->Int) (c0:straight) (sv1:(Sl Gate)) (iv1:Int) (zhQ:Int) (zlQ:Int) (zeQ:Bool):Int :=
  (cond zeQ
 iv1
 (S0 sv1 zhQ (w64 (zlQ+(1:Int)))))
def zuB (P0:(Sl Gate)->Int->Int->Bool) (c0:straight) (sv1:(Sl Gate)) (iv1:Int) (zhQ:Int) (zlQ:Int) (zeQ:Bool):Bool :=
  (cond zeQ
 true
 (P0 sv1 zhQ (w64 (zlQ+(1:Int)))))
theorem zDG (hX0:zyr K c0 X0 P0 S0) (hs:zuB P0 c0 sv1 iv1 zhQ zlQ zeQ=true) (hk:K (zOF (zuA S0 c0 sv1 iv1 zhQ zlQ zeQ))) (zyj:zqc=zg enc_48 sv1):z89b K [1,0,1,0,0,1,1,0,0,1,1] [X0] ⟨[(0,zP (.sl sv1.len 3 zqc)),(1,zP (.fn 83 [] [.fp (zaz c0) 0])),(5,zI iv1),(7,zI zhQ),(8,zI zlQ),(16,zB zeQ)],[],[]⟩:=by subst zyj;exact zaN (by kernel_rfl) (zc hs hk (λ hs hk=>hk) (λ hs hk=>(hX0 hs hk rfl)))
def zuC (c0:straight) (S0:(Sl Gate)->Int->Int->Int) (sv0:(Sl Gate)) (zbJ:Int) (zc0:Int):Int :=
  (cond (decide (zc0 < zbJ))
 (zuA S0 c0 sv0 zc0 zbJ zc0 (s83 c0 (sv0.get zc0.toNat)))
 (-1:Int))
def zuD (c0:straight) (P0:(Sl Gate)->Int->Int->Bool) (sv0:(Sl Gate)) (zbJ:Int) (zc0:Int):Bool :=
  (cond (decide (zc0 < zbJ))
 (decide ((0<=zc0/\zc0 < (sv0.len:Int))) &&
 (zuB P0 c0 sv0 zc0 zbJ zc0 (s83 c0 (sv0.get zc0.toNat))))
 true)
def zuE (c0:straight):Nat->(Sl Gate)->Int->Int->Int:=lpO (λ _ _ _=>default) (zuC c0)
def zuF (c0:straight):Nat->(Sl Gate)->Int->Int->Bool:=lpO (λ _ _ _=>false) (zuD c0)
def zuG (c0:straight) (sv0:(Sl Gate)) (zbJ:Int) (zc0:Int):Int:=zuE c0 Fuel sv0 zbJ zc0
def zuH (c0:straight) (sv0:(Sl Gate)) (zbJ:Int) (zc0:Int):Bool:=zuF c0 Fuel sv0 zbJ zc0
theorem zDH (hs:zuH c0 sv0 zbJ zc0=true) (hk:K (zOF (zuG c0 sv0 zbJ zc0))) (zlR:zeh=zg enc_48 sv0):z89b K [1,0,1,0] [] (zyq c0 sv0 zbJ zc0 zeh) :=
  zl (λ X=>z89b K [1,0,1,0,0] [X]) (by kernel_rfl) λ X0 hX =>
  (show ∀ k, zyr K c0 X0 (zuF c0 k) (zuE c0 k) from zgw _ _ (zuD c0) (zuC c0) (zyr K c0 X0)
 (by intro _ _ _ _ hs;exact absurd hs dqk)
 (by intro P0 S0 hX0 sv0 zbJ zc0 zeh hs hk zlR;subst zlR;exact hX _ (zaN (by kernel_rfl) (zc hs hk (λ hs hk=>(zaI hs λ hc hs=>And.intro hc (zDG hX0 hs hk rfl))) (λ hs hk=>hk))))) _ hs hk zlR
def zPe (c0:straight) (s:(Sl Gate)):Int :=
  (zuG c0 s (s.len:Int) (0:Int))
def zPf (c0:straight) (s:(Sl Gate)):Bool :=
  (zuH c0 s (s.len:Int) (0:Int))
end
theorem zRp (c0:straight) (s:(Sl Gate)) (K:List PA->Prop) (hs:zPf c0 s=true) (hk:K (zOF (zPe c0 s))):vcFun Tryz.prog zQP zyp 89 [.one (.sl s.len 3 (λ i=>enc_48 (s.get i))),.one (.fn 83 [] [.fp (zaz c0) 0])] K :=
  zaN (by kernel_rfl) (zDH hs hk rfl)
def zGU : List PA → COut
  | [.one (.sl zaU zcu zaV),.one (.fn 75 [] [.fp [.sl c0_Gates_n c0_Gates_s c0_Gates_g] 0])]=>.det (IsE enc_48 3 zcu zaV/\IsE enc_48 3 c0_Gates_s c0_Gates_g/\p89 (⟨(⟨c0_Gates_n,zaf c0_Gates_g⟩:(Sl Gate))⟩:list) (⟨zaU,zaf zaV⟩:(Sl Gate))=true) [.one (.int .i64 (s89 (⟨(⟨c0_Gates_n,zaf c0_Gates_g⟩:(Sl Gate))⟩:list) (⟨zaU,zaf zaV⟩:(Sl Gate))))]
  | [.one (.sl zaU zcu zaV),.one (.fn 88 [] [.fp [.int .i64 c0_slope,.int .i64 c0_start,.int .i64 c0_den] 0])]=>.det (IsE enc_48 3 zcu zaV/\zLG (⟨c0_slope,c0_start,c0_den⟩:straight) (⟨zaU,zaf zaV⟩:(Sl Gate))=true) [.one (.int .i64 (zLF (⟨c0_slope,c0_start,c0_den⟩:straight) (⟨zaU,zaf zaV⟩:(Sl Gate))))]
  | [.one (.sl zaU zcu zaV),.one (.fn 83 [] [.fp [.int .i64 c0_slope,.int .i64 c0_start,.int .i64 c0_den] 0])]=>.det (IsE enc_48 3 zcu zaV/\zPf (⟨c0_slope,c0_start,c0_den⟩:straight) (⟨zaU,zaf zaV⟩:(Sl Gate))=true) [.one (.int .i64 (zPe (⟨c0_slope,c0_start,c0_den⟩:straight) (⟨zaU,zaf zaV⟩:(Sl Gate))))]
  | _=>.no
theorem zLH:zah Tryz.prog 89:=⟨_,rfl,rfl,by kernel_rfl⟩
theorem zRq:Ok Tryz.prog 89 zGU:=za3 zPd zLH λ args K h=>by
  unfold zGU at h
  split at h
  · rename_i zaU zcu zaV c0_Gates_n c0_Gates_s c0_Gates_g
    obtain⟨⟨⟨rfl,zbF,rfl⟩,⟨rfl,c0_Gates_f,rfl⟩,hs⟩,hk⟩:=h
    try rw[zae zbF] at hs
    try rw[zae zbF] at hk
    try rw[zae c0_Gates_f] at hs
    try rw[zae c0_Gates_f] at hk
    exact⟨(λ _ _=>[]),(λ _=>false),zGQ,q89 (⟨(⟨c0_Gates_n,c0_Gates_f⟩:(Sl Gate))⟩:list) (⟨zaU,zbF⟩:(Sl Gate)) K hs hk⟩
  · rename_i zaU zcu zaV c0_slope c0_start c0_den
    obtain⟨⟨⟨rfl,zbF,rfl⟩,hs⟩,hk⟩:=h
    try rw[zae zbF] at hs
    try rw[zae zbF] at hk
    exact⟨(λ _ _=>[]),(λ _=>false),zym,zRn (⟨c0_slope,c0_start,c0_den⟩:straight) (⟨zaU,zbF⟩:(Sl Gate)) K hs hk⟩
  · rename_i zaU zcu zaV c0_slope c0_start c0_den
    obtain⟨⟨⟨rfl,zbF,rfl⟩,hs⟩,hk⟩:=h
    try rw[zae zbF] at hs
    try rw[zae zbF] at hk
    exact⟨(λ _ _=>[]),(λ _=>false),zyp,zRp (⟨c0_slope,c0_start,c0_den⟩:straight) (⟨zaU,zbF⟩:(Sl Gate)) K hs hk⟩
  · exact h.elim
end

section
variable [DrawZ]
abbrev T74:Tabs:=(Tabs.nil.addF 89 zGU)
theorem zPg:TabsOk Tryz.prog T74:=(TabsOk.nil.addF zRq)
abbrev G74:Ctrs:=csm T74 (λ _ _=>[]) (λ _=>false)
def zLI:Ann:=⟨9,[(0,zK [0,1] []),(1,zK [4] [])],
 [],
 [],
 [],[]⟩
abbrev R74:=Bool
abbrev e74 (r:R74):List PA:=[.one (.bool r)]
section
variable {K:List PA->Prop}{c0:list}{s:(Sl Gate)}
def s74 (c0:list) (s:(Sl Gate)):Bool :=
  (decide ((s89 c0 s) >= (0:Int)))
def p74 (c0:list) (s:(Sl Gate)):Bool :=
  (decide ((p89 c0 s=true)) &&
 true)
end
theorem q74 (c0:list) (s:(Sl Gate)) (K:List PA->Prop) (hs:p74 c0 s=true) (hk:K (e74 (s74 c0 s))):vcFun Tryz.prog G74 zLI 74 [.one (.sl s.len 3 (λ i=>enc_48 (s.get i))),.one (.fn 75 [] [.fp (zdN c0) 0])] K :=
  zaN (by kernel_rfl) (zaI hs λ hc hs=>And.intro (And.intro (zE enc_48 3 s.get) (And.intro (zE enc_48 3 c0.Gates.get) hc)) hk)
abbrev zRr:Ctrs:=csm T74 (λ _ _=>[]) (λ _=>false)
def zEM:Ann:=⟨9,[(0,zK [0,1] []),(1,zK [4] [])],
 [],
 [],
 [],[]⟩
abbrev zRs:=Bool
abbrev zRt (r:zRs):List PA:=[.one (.bool r)]
section
variable {K:List PA->Prop}{c0:straight}{s:(Sl Gate)}
def zOG (c0:straight) (s:(Sl Gate)):Bool :=
  (decide ((zLF c0 s) >= (0:Int)))
def zOH (c0:straight) (s:(Sl Gate)):Bool :=
  (decide ((zLG c0 s=true)) &&
 true)
end
theorem zRu (c0:straight) (s:(Sl Gate)) (K:List PA->Prop) (hs:zOH c0 s=true) (hk:K (zRt (zOG c0 s))):vcFun Tryz.prog zRr zEM 74 [.one (.sl s.len 3 (λ i=>enc_48 (s.get i))),.one (.fn 88 [] [.fp (zaz c0) 0])] K :=
  zaN (by kernel_rfl) (zaI hs λ hc hs=>And.intro (And.intro (zE enc_48 3 s.get) hc) hk)
abbrev zRv:Ctrs:=csm T74 (λ _ _=>[]) (λ _=>false)
def zEN:Ann:=⟨9,[(0,zK [0,1] []),(1,zK [4] [])],
 [],
 [],
 [],[]⟩
abbrev zRw:=Bool
abbrev zRx (r:zRw):List PA:=[.one (.bool r)]
section
variable {K:List PA->Prop}{c0:straight}{s:(Sl Gate)}
def zPh (c0:straight) (s:(Sl Gate)):Bool :=
  (decide ((zPe c0 s) >= (0:Int)))
def zPi (c0:straight) (s:(Sl Gate)):Bool :=
  (decide ((zPf c0 s=true)) &&
 true)
end
theorem zRy (c0:straight) (s:(Sl Gate)) (K:List PA->Prop) (hs:zPi c0 s=true) (hk:K (zRx (zPh c0 s))):vcFun Tryz.prog zRv zEN 74 [.one (.sl s.len 3 (λ i=>enc_48 (s.get i))),.one (.fn 83 [] [.fp (zaz c0) 0])] K :=
  zaN (by kernel_rfl) (zaI hs λ hc hs=>And.intro (And.intro (zE enc_48 3 s.get) hc) hk)
def zys : List PA → COut
  | [.one (.sl zaU zcu zaV),.one (.fn 75 [] [.fp [.sl c0_Gates_n c0_Gates_s c0_Gates_g] 0])]=>.det (IsE enc_48 3 zcu zaV/\IsE enc_48 3 c0_Gates_s c0_Gates_g/\p74 (⟨(⟨c0_Gates_n,zaf c0_Gates_g⟩:(Sl Gate))⟩:list) (⟨zaU,zaf zaV⟩:(Sl Gate))=true) [.one (.bool (s74 (⟨(⟨c0_Gates_n,zaf c0_Gates_g⟩:(Sl Gate))⟩:list) (⟨zaU,zaf zaV⟩:(Sl Gate))))]
  | [.one (.sl zaU zcu zaV),.one (.fn 88 [] [.fp [.int .i64 c0_slope,.int .i64 c0_start,.int .i64 c0_den] 0])]=>.det (IsE enc_48 3 zcu zaV/\zOH (⟨c0_slope,c0_start,c0_den⟩:straight) (⟨zaU,zaf zaV⟩:(Sl Gate))=true) [.one (.bool (zOG (⟨c0_slope,c0_start,c0_den⟩:straight) (⟨zaU,zaf zaV⟩:(Sl Gate))))]
  | [.one (.sl zaU zcu zaV),.one (.fn 83 [] [.fp [.int .i64 c0_slope,.int .i64 c0_start,.int .i64 c0_den] 0])]=>.det (IsE enc_48 3 zcu zaV/\zPi (⟨c0_slope,c0_start,c0_den⟩:straight) (⟨zaU,zaf zaV⟩:(Sl Gate))=true) [.one (.bool (zPh (⟨c0_slope,c0_start,c0_den⟩:straight) (⟨zaU,zaf zaV⟩:(Sl Gate))))]
  | _=>.no
theorem zLJ:zah Tryz.prog 74:=⟨_,rfl,rfl,by kernel_rfl⟩
theorem zPj:Ok Tryz.prog 74 zys:=za3 zPg zLJ λ args K h=>by
  unfold zys at h
  split at h
  · rename_i zaU zcu zaV c0_Gates_n c0_Gates_s c0_Gates_g
    obtain⟨⟨⟨rfl,zbF,rfl⟩,⟨rfl,c0_Gates_f,rfl⟩,hs⟩,hk⟩:=h
    try rw[zae zbF] at hs
    try rw[zae zbF] at hk
    try rw[zae c0_Gates_f] at hs
    try rw[zae c0_Gates_f] at hk
    exact⟨(λ _ _=>[]),(λ _=>false),zLI,q74 (⟨(⟨c0_Gates_n,c0_Gates_f⟩:(Sl Gate))⟩:list) (⟨zaU,zbF⟩:(Sl Gate)) K hs hk⟩
  · rename_i zaU zcu zaV c0_slope c0_start c0_den
    obtain⟨⟨⟨rfl,zbF,rfl⟩,hs⟩,hk⟩:=h
    try rw[zae zbF] at hs
    try rw[zae zbF] at hk
    exact⟨(λ _ _=>[]),(λ _=>false),zEM,zRu (⟨c0_slope,c0_start,c0_den⟩:straight) (⟨zaU,zbF⟩:(Sl Gate)) K hs hk⟩
  · rename_i zaU zcu zaV c0_slope c0_start c0_den
    obtain⟨⟨⟨rfl,zbF,rfl⟩,hs⟩,hk⟩:=h
    try rw[zae zbF] at hs
    try rw[zae zbF] at hk
    exact⟨(λ _ _=>[]),(λ _=>false),zEN,zRy (⟨c0_slope,c0_start,c0_den⟩:straight) (⟨zaU,zbF⟩:(Sl Gate)) K hs hk⟩
  · exact h.elim
end

abbrev T49:Tabs:=(Tabs.nil.addF 74 zys)
theorem zPk:TabsOk Tryz.prog T49:=(TabsOk.nil.addF zPj)
abbrev G49:Ctrs:=csm T49 (λ _ _=>[]) (λ _=>false)
def zLK:Ann:=⟨8,[(0,zK [1] [1]),(1,zK [2] [])],
 [],
 [],
 [],[]⟩
abbrev R49:=Bool
abbrev e49 (r:R49):List PA:=[.one (.bool r)]
section
variable {K:List PA->Prop}{l_a0:list}
def s49 (l_a0:list):Bool :=
  (!(s74 l_a0 l_a0.Gates))
def p49 (l_a0:list):Bool :=
  (decide ((p74 l_a0 l_a0.Gates=true)) &&
 true)
end
theorem q49 (l_a0:list) (K:List PA->Prop) (hs:p49 l_a0=true) (hk:K (e49 (s49 l_a0))):vcFun Tryz.prog G49 zLK 49 [.agg (zdN l_a0)] K :=
  zaN (by kernel_rfl) (zaI hs λ hc hs=>And.intro (And.intro (zE enc_48 3 l_a0.Gates.get) (And.intro (zE enc_48 3 l_a0.Gates.get) hc)) hk)
def zqd : List PA → COut
  | [.agg [.sl za9 zb8 zba]]=>.det (IsE enc_48 3 zb8 zba/\p49 (⟨(⟨za9,zaf zba⟩:(Sl Gate))⟩:list)=true) [.one (.bool (s49 (⟨(⟨za9,zaf zba⟩:(Sl Gate))⟩:list)))]
  | _=>.no
theorem zLL:zah Tryz.prog 49:=⟨_,rfl,rfl,by kernel_rfl⟩
theorem zKp:Ok Tryz.prog 49 zqd:=za3 zPk zLL λ args K h=>by
  unfold zqd at h
  split at h
  · rename_i za9 zb8 zba
    obtain⟨⟨⟨rfl,zbH,rfl⟩,hs⟩,hk⟩:=h
    try rw[zae zbH] at hs
    try rw[zae zbH] at hk
    exact⟨(λ _ _=>[]),(λ _=>false),zLK,q49 (⟨(⟨za9,zbH⟩:(Sl Gate))⟩:list) K hs hk⟩
  · exact h.elim
abbrev T56:Tabs:=Tabs.nil
theorem zPl:TabsOk Tryz.prog T56:=TabsOk.nil
abbrev G56:Ctrs:=csm T56 (λ _ _=>[]) (λ _=>false)
def zGV:Ann:=⟨4,[(0,zK [1] [1]),(1,zK [2] [])],
 [],
 [],
 [],[]⟩
theorem zGW (l_a0 : list) (K : List PA → Prop) :
  vcFun Tryz.prog G56 zGV 56 [.agg [.sl l_a0.Gates.len 3 (λ i=>enc_48 (l_a0.Gates.get i))]] K =
  (K [.one (.fn 77 [] [.fp (zdN l_a0) 0])]):=by kernel_rfl
theorem q56 (l_a0:list) (K:List PA->Prop) (hk:K [.one (.fn 77 [] [.fp (zdN l_a0) 0])]):vcFun Tryz.prog G56 zGV 56 [.agg [.sl l_a0.Gates.len 3 (λ i=>enc_48 (l_a0.Gates.get i))]] K:=zaN (zGW l_a0 K) hk
def zDI : List PA → COut
  | [.agg [.sl za9 zb8 zba]]=>.det (IsE enc_48 3 zb8 zba) [.one (.fn 77 [] [.fp (zdN (⟨(⟨za9,zaf zba⟩:(Sl Gate))⟩:list)) 0])]
  | _=>.no
theorem zLM:zah Tryz.prog 56:=⟨_,rfl,rfl,by kernel_rfl⟩
theorem zQQ:Ok Tryz.prog 56 zDI:=za3 zPl zLM λ args K h=>by
  unfold zDI at h
  split at h
  · rename_i za9 zb8 zba
    obtain⟨⟨rfl,zbH,rfl⟩,hk⟩:=h
    try rw[zae zbH] at hk
    exact⟨λ _ _=>[],λ _=>false,zGV,q56 (⟨(⟨za9,zbH⟩:(Sl Gate))⟩:list) K hk⟩
  · exact h.elim
abbrev T73:Tabs:=(Tabs.nil.addF 74 zys)
theorem zPm:TabsOk Tryz.prog T73:=(TabsOk.nil.addF zPj)
abbrev G73:Ctrs:=csm T73 (λ _ _=>[]) (λ _=>false)
def zGX:Ann:=⟨11,[(0,zK [2,3] [2,3]),(1,zK [4] [])],
 [],
 [],
 [],[]⟩
abbrev R73:=Bool
abbrev e73 (r:R73):List PA:=[.one (.bool r)]
section
variable {K:List PA->Prop}{s:set}{x:straight}
def s73 (s:set) (x:straight):Bool :=
  (!(zOG x s.list.Gates))
def p73 (s:set) (x:straight):Bool :=
  (decide ((zOH x s.list.Gates=true)) &&
 true)
end
theorem q73 (s:set) (x:straight) (K:List PA->Prop) (hs:p73 s x=true) (hk:K (e73 (s73 s x))):vcFun Tryz.prog G73 zGX 73 [.agg (zct s),.agg (zaz x)] K :=
  zaN (by kernel_rfl) (zaI hs λ hc hs=>And.intro (And.intro (zE enc_48 3 s.list.Gates.get) hc) hk)
def zGY : List PA → COut
  | [.agg [.sl zai zaH zaj,.sl zas zbf zat],.agg [.int .i64 zch,.int .i64 zci,.int .i64 zdO]]=>.det (IsE enc_48 3 zaH zaj/\IsE zaz 3 zbf zat/\p73 (⟨(⟨(⟨zai,zaf zaj⟩:(Sl Gate))⟩:list),(⟨zas,zcz zat⟩:(Sl straight))⟩:set) (⟨zch,zci,zdO⟩:straight)=true) [.one (.bool (s73 (⟨(⟨(⟨zai,zaf zaj⟩:(Sl Gate))⟩:list),(⟨zas,zcz zat⟩:(Sl straight))⟩:set) (⟨zch,zci,zdO⟩:straight)))]
  | [.agg [.sl zai zaH zaj,.nils],.agg [.int .i64 zch,.int .i64 zci,.int .i64 zdO]]=>.det (IsE enc_48 3 zaH zaj/\p73 (⟨(⟨(⟨zai,zaf zaj⟩:(Sl Gate))⟩:list),(⟨0,λ _=>default⟩:(Sl straight))⟩:set) (⟨zch,zci,zdO⟩:straight)=true) [.one (.bool (s73 (⟨(⟨(⟨zai,zaf zaj⟩:(Sl Gate))⟩:list),(⟨0,λ _=>default⟩:(Sl straight))⟩:set) (⟨zch,zci,zdO⟩:straight)))]
  | _=>.no
theorem zLN:zah Tryz.prog 73:=⟨_,rfl,rfl,by kernel_rfl⟩
theorem zRz:Ok Tryz.prog 73 zGY:=zgK zPm zLN λ args K h=>by
  unfold zGY at h
  split at h
  · rename_i zai zaH zaj zas zbf zat zch zci zdO
    obtain⟨⟨⟨rfl,zar,rfl⟩,⟨rfl,zaL,rfl⟩,hs⟩,hk⟩:=h
    try rw[zae zar] at hs
    try rw[zae zar] at hk
    try rw[zbP zaL] at hs
    try rw[zbP zaL] at hk
    exact⟨_,zgn zgJ _,(λ _ _=>[]),(λ _=>false),zGX,q73 (⟨(⟨(⟨zai,zar⟩:(Sl Gate))⟩:list),(⟨zas,zaL⟩:(Sl straight))⟩:set) (⟨zch,zci,zdO⟩:straight) (Wk K) hs (zfz hk)⟩
  · rename_i zai zaH zaj zch zci zdO
    obtain⟨⟨⟨rfl,zar,rfl⟩,hs⟩,hk⟩:=h
    try rw[zae zar] at hs
    try rw[zae zar] at hk
    exact⟨_,(zfa (.agg (zfa (.rfl _) (zfa (.nil _ _) zlL))) (zfa (zgJ _) zlL)),(λ _ _=>[]),(λ _=>false),zGX,q73 (⟨(⟨(⟨zai,zar⟩:(Sl Gate))⟩:list),(⟨0,λ _=>default⟩:(Sl straight))⟩:set) (⟨zch,zci,zdO⟩:straight) (Wk K) hs (zfz hk)⟩
  · exact h.elim
abbrev T78:Tabs:=Tabs.nil
theorem zPn:TabsOk Tryz.prog T78:=TabsOk.nil
abbrev G78:Ctrs:=csm T78 (λ _ _=>[]) (λ _=>false)
def zGZ:Ann:=⟨30,[(0,zK [0,1,2,3,8] [8]),(1,zK [0,1,2,3,8,11] [8]),(2,zK [0,1,2,3,8] [8]),(3,zK [8] [8])],
 [],
 [(3,zK [0,1,2,3,8] [8])],
 [],[]⟩
abbrev R78:=straight
abbrev e78 (r:R78):List PA:=[.agg [.int .i64 r.slope,.int .i64 r.start,.int .i64 r.den]]
@[irreducible] def z78:=ptF Tryz.prog G78 zGZ Tryz.f78
section
variable {K:List PA->Prop}{z:Int}{p:Int}{y_a2:Int}{q:Int}{zv0:Int}{pv0:Int}{yv0:Int}{qv0:Int}
def zoJ (zv0:Int) (pv0:Int) (yv0:Int) (qv0:Int):straight :=
  (⟨(w64 (qv0 - pv0)),(w64 ((w64 (pv0 * yv0)) - (w64 (qv0 * zv0)))),(w64 (yv0 - zv0))⟩:straight)
theorem zyt (hk:K (e78 (zoJ zv0 pv0 yv0 qv0))):z78 K [1,1] [] ⟨[(0,zI zv0),(1,zI pv0),(2,zI yv0),(3,zI qv0),(8,zp 8 0)],[(8,.box 81 (zm (zaz (⟨(0:Int),(0:Int),(0:Int)⟩:straight))))],[]⟩:=zaN (by kernel_rfl) hk
def s78 (z:Int) (p:Int) (y_a2:Int) (q:Int):straight :=
  (cond (decide (z > y_a2))
 (zoJ y_a2 q z p)
 (zoJ z p y_a2 q))
end
theorem q78 (z:Int) (p:Int) (y_a2:Int) (q:Int) (K:List PA->Prop) (hk:K (e78 (s78 z p y_a2 q))):vcFun Tryz.prog G78 zGZ 78 [.one (.int .i64 z),.one (.int .i64 p),.one (.int .i64 y_a2),.one (.int .i64 q)] K :=
  zaN (by kernel_rfl) (zt hk (λ hk=>(zyt hk)) (λ hk=>(zyt hk)))
def zG0 : List PA → COut
  | [.one (.int .i64 a0),.one (.int .i64 a1),.one (.int .i64 a2),.one (.int .i64 a3)]=>.tot [.agg [.int .i64 ((s78 a0 a1 a2 a3).slope),.int .i64 ((s78 a0 a1 a2 a3).start),.int .i64 ((s78 a0 a1 a2 a3).den)]]
  | _=>.no
theorem zLO:zah Tryz.prog 78:=⟨_,rfl,rfl,by kernel_rfl⟩
theorem zRA:Ok Tryz.prog 78 zG0:=za3 zPn zLO λ args K h=>by
  unfold zG0 at h
  split at h
  · rename_i a0 a1 a2 a3
    have hk:=h
    exact⟨(λ _ _=>[]),(λ _=>false),zGZ,q78 a0 a1 a2 a3 K hk⟩
  · exact h.elim
abbrev T77:Tabs:=(Tabs.nil.addF 78 zG0)
theorem zPo:TabsOk Tryz.prog T77:=(TabsOk.nil.addF zRA)
abbrev G77:Ctrs:=csm T77 (λ _ _=>[]) (λ _=>false)
def zep:Ann:=⟨64,[(0,zK [0,1,12,13,14] []),(1,zK [0,1,12,13,14,15] []),(2,zK [0,1,3,4,12,13,14] [4]),(3,zK [0,1,4,12,13,14,23,24,25] [4]),(4,zK [0,1,4,12,13,14,23,24,25,26] [4]),(5,zK [0,1,4,6,12,13,14,23,24,25] [4,6]),(6,zK [0,1,4,6,12,13,14,23,24,25,33] [4,6]),(7,zK [0,1,4,6,12,13,14,23,24,25,38,39] [4,6]),(8,zK [0,1,4,6,12,13,14,23,24,25,38,39,40] [4,6]),(9,zK [0,1,4,6,8,12,13,14,23,24,25,38,39] [4,6]),(10,zK [0,1,4,6,8,12,13,14,23,24,25,38,39,46,47] [4,6]),(11,zK [0,1,4,6,8,12,13,14,23,24,25,38,39,46,47,48] [4,6]),(12,zK [0,1,4,6,8,10,12,13,14,23,24,25,38,39,46,47] [4,6]),(13,zK [0,1,4,6,8,12,13,14,23,24,25,38,39,46,47,59] [4,6]),(14,zK [0,1,4,6,8,12,13,14,23,24,25,38,39,46,47] [4,6]),(15,zK [0,1,4,6,12,13,14,23,24,25,38,39] [4,6]),(16,zK [0,1,4,12,13,14,23,24,25] [4]),(17,zK [0,1,12,13,14] [])],
 [(1,zK [0,1,12,13,14] []),(4,⟨[0,1,4,12,13,14,23,24,25],[4],[],[],[],[4],[]⟩)],
 [],
 [(8,3,zK [0,1,4,6,12,13,14,23,24,25,38,39] [4,6]),(11,3,zK [0,1,4,6,8,12,13,14,23,24,25,38,39,46,47] [4,6])],[13]⟩
def zj7 (l:Nat) (a:list) (zan:Int):St:=⟨[(0,.one (.c (.p (.yl l)))),(1,.one (.c (.p (.fp (zdN a) 0)))),(12,.one (.c (.p (.sl a.Gates.len 3 (λ i=>enc_48 (a.Gates.get i)))))),(13,.one (.c (.p (.int .i64 (a.Gates.len:Int))))),(14,.one (.c (.p (.int .i64 zan))))],[],[]⟩
def zlS (l:Nat) (ys:List (List PA)) (a:list) (zan:Int):Prop:=vcY Tryz.prog G77 zep l (cdF Tryz.f77 [1,0]) (zee 0 zmV) ys false (zj7 l a zan)
def zj8 (l:Nat) (a:list) (zbg:Int) (zgL:Nat) (zda:Nat->List PV) (zcj:Int) (za4:Int) (zbz:Int) (zbY:Int) (zbZ:Int):St:=⟨[(0,.one (.c (.p (.yl l)))),(1,.one (.c (.p (.fp (zdN a) 0)))),(4,.one (.c (.ptr 4 0))),(12,.one (.c (.p (.sl a.Gates.len 3 (λ i=>enc_48 (a.Gates.get i)))))),(13,.one (.c (.p (.int .i64 (a.Gates.len:Int))))),(14,.one (.c (.p (.int .i64 zbg)))),(23,.one (.c (.p (.sl zgL 3 zda)))),(24,.one (.c (.p (.int .i64 zcj)))),(25,.one (.c (.p (.int .i64 za4))))],[(4,.fbox [.int .i64 zbz,.int .i64 zbY,.int .i64 zbZ])],[]⟩
def zlT (l:Nat) (X0:List (List PA)->Bool->St->Prop) (ys:List (List PA)) (a:list) (zbg:Int) (zgL:Nat) (zda:Nat->List PV) (zcj:Int) (za4:Int) (zbz:Int) (zbY:Int) (zbZ:Int):Prop:=vcY Tryz.prog G77 zep l (cdF Tryz.f77 [1,0,0,1,1,0,0,1,1,0]) (zee 2 (zee 1 (zKE (zKG Tryz.prog zep 17 (vcY Tryz.prog G77 zep l (cdF Tryz.f77 [1,0,0,1,1,1]) (zkm Tryz.prog zep 1 X0 (zee 0 zmV)))) (zkm Tryz.prog zep 1 X0 (zee 0 zmV))))) ys false (zj8 l a zbg zgL zda zcj za4 zbz zbY zbZ)
theorem zG1 (l : Nat) (a : list) (ys : List (List PA)) :
  vcIter Tryz.prog G77 zep 77 l [.one (.fp (zdN a) 0)] ys =
  (zlS l ys a (0:Int)):=by kernel_rfl
def zqe (l:Nat) (X0:List (List PA)->Bool->St->Prop) (ys:List (List PA)) (a:list) (zan:Int):Prop :=
  (zc9 (decide (zan < (a.Gates.len : Int)))
 (((0<=zan/\zan < (a.Gates.len:Int))) /\
 (((0<=(w64 (zan+(1:Int)))/\(w64 (zan+(1:Int)))<=(a.Gates.len:Int)/\(a.Gates.len:Int)<=(a.Gates.len:Int))) /\
 (zlT l  X0 ys a zan (((a.Gates.len:Int) - (w64 (zan+(1:Int)))).toNat) (slG (λ i=>enc_48 (a.Gates.get i)) ((w64 (zan+(1:Int))).toNat)) (((a.Gates.len:Int) - (w64 (zan+(1:Int)))).toNat:Int) (0:Int) ((a.Gates.get zan.toNat).Z) ((a.Gates.get zan.toNat).Low) ((a.Gates.get zan.toNat).High))))
 (ys=[]))
theorem zrR (l : Nat) (X0 : List (List PA) → Bool → St → Prop) (ys : List (List PA)) (a : list) (zan : Int) :
  vcY Tryz.prog G77 zep l (cd (cdF Tryz.f77 [1,0]) [0]) (zkm Tryz.prog zep 1 X0 (zee 0 zmV)) ys false (zj7 l a zan) =
  zqe l X0 ys a zan:=by kernel_rfl
theorem zyu (l : Nat) (ys : List (List PA)) (a : list) (zan : Int)
  (h:∀ X0:List (List PA)->Bool->St->Prop,(∀ (ys:List (List PA)) (zan:Int),zqe l X0 ys a zan->X0 ys false (zj7 l a zan))->X0 ys false (zj7 l a zan)) :
  zlS l ys a zan:=by
  have e:zlS l ys a zan=(∀ X:List (List PA)->Bool->St->Prop,(∀ ys q s,vcY Tryz.prog G77 zep l (cd (cdF Tryz.f77 [1,0]) [0]) (zkm Tryz.prog zep 1 X (zee 0 zmV)) ys q s->X ys q s)->X ys false (zj7 l a zan)):=by kernel_rfl
  refine zaN e ?_
  intro X hX
  refine h X ?_
  intro ys zan hs
  refine hX _ _ _ ?_
  have e2:=zrR l X ys a zan
  rw[e2]
  exact hs
def zqf (l:Nat) (X0:List (List PA)->Bool->St->Prop) (X1:List (List PA)->Bool->St->Prop) (ys:List (List PA)) (a:list) (zbg:Int) (zbb:(Sl Gate)) (zcj:Int) (za4:Int) (zbz:Int) (zbY:Int) (zbZ:Int):Prop :=
  (zc9 (decide (za4 < zcj))
 (((0<=za4/\za4 < (zbb.len:Int))) /\
 (zc9 (zbz == (zbb.get za4.toNat).Z)
 (X1 ys false (zj8 l a zbg zbb.len (λ i=>enc_48 (zbb.get i)) zcj (w64 (za4+(1:Int))) zbz zbY zbZ))
 (l=l/\∃ r1,ys=[.agg [.int .i64 ((s78 zbz zbY ((zbb.get za4.toNat).Z) ((zbb.get za4.toNat).Low)).slope),.int .i64 ((s78 zbz zbY ((zbb.get za4.toNat).Z) ((zbb.get za4.toNat).Low)).start),.int .i64 ((s78 zbz zbY ((zbb.get za4.toNat).Z) ((zbb.get za4.toNat).Low)).den)]] :: r1 /\
 (l=l/\∃ r2,r1=[.agg [.int .i64 ((s78 zbz zbY ((zbb.get za4.toNat).Z) ((zbb.get za4.toNat).High)).slope),.int .i64 ((s78 zbz zbY ((zbb.get za4.toNat).Z) ((zbb.get za4.toNat).High)).start),.int .i64 ((s78 zbz zbY ((zbb.get za4.toNat).Z) ((zbb.get za4.toNat).High)).den)]] :: r2 /\
 (l=l/\∃ r3,r2=[.agg [.int .i64 ((s78 zbz zbZ ((zbb.get za4.toNat).Z) ((zbb.get za4.toNat).Low)).slope),.int .i64 ((s78 zbz zbZ ((zbb.get za4.toNat).Z) ((zbb.get za4.toNat).Low)).start),.int .i64 ((s78 zbz zbZ ((zbb.get za4.toNat).Z) ((zbb.get za4.toNat).Low)).den)]] :: r3 /\
 (l=l/\∃ r4,r3=[.agg [.int .i64 ((s78 zbz zbZ ((zbb.get za4.toNat).Z) ((zbb.get za4.toNat).High)).slope),.int .i64 ((s78 zbz zbZ ((zbb.get za4.toNat).Z) ((zbb.get za4.toNat).High)).start),.int .i64 ((s78 zbz zbZ ((zbb.get za4.toNat).Z) ((zbb.get za4.toNat).High)).den)]] :: r4 /\
 (X1 r4 false (zj8 l a zbg zbb.len (λ i=>enc_48 (zbb.get i)) zcj (w64 (za4+(1:Int))) zbz zbY zbZ))/\True)/\True)/\True)/\True)))
 (X0 ys false (zj7 l a (w64 (zbg+(1:Int))))))
theorem zrS (l : Nat) (X0 : List (List PA) → Bool → St → Prop) (X1 : List (List PA) → Bool → St → Prop) (ys : List (List PA)) (a : list) (zbg : Int) (zbb : (Sl Gate)) (zcj : Int) (za4 : Int) (zbz : Int) (zbY : Int) (zbZ : Int) :
  vcY Tryz.prog G77 zep l (cd (cdF Tryz.f77 [1,0,0,1,1,0,0,1,1,0]) [0]) (zkm Tryz.prog zep 4 X1 (zee 2 (zee 1 (zKE (zKG Tryz.prog zep 17 (vcY Tryz.prog G77 zep l (cdF Tryz.f77 [1,0,0,1,1,1]) (zkm Tryz.prog zep 1 X0 (zee 0 zmV)))) (zkm Tryz.prog zep 1 X0 (zee 0 zmV)))))) ys false (zj8 l a zbg zbb.len (λ i=>enc_48 (zbb.get i)) zcj za4 zbz zbY zbZ) =
  zqf l  X0 X1 ys a zbg zbb zcj za4 zbz zbY zbZ:=by kernel_rfl
theorem zyv (l : Nat) (X0 : List (List PA) → Bool → St → Prop) (ys : List (List PA)) (a : list) (zbg : Int) (zgL : Nat) (zda : Nat → List PV) (zcj : Int) (za4 : Int) (zbz : Int) (zbY : Int) (zbZ : Int)
  (h:∀ X1:List (List PA)->Bool->St->Prop,(∀ (ys:List (List PA)) (zbg:Int) (zbb:(Sl Gate)) (zcj:Int) (za4:Int) (zbz:Int) (zbY:Int) (zbZ:Int),zqf l  X0 X1 ys a zbg zbb zcj za4 zbz zbY zbZ->X1 ys false (zj8 l a zbg zbb.len (λ i=>enc_48 (zbb.get i)) zcj za4 zbz zbY zbZ))->X1 ys false (zj8 l a zbg zgL zda zcj za4 zbz zbY zbZ)) :
  zlT l  X0 ys a zbg zgL zda zcj za4 zbz zbY zbZ:=by
  have e:zlT l  X0 ys a zbg zgL zda zcj za4 zbz zbY zbZ=(∀ X:List (List PA)->Bool->St->Prop,(∀ ys q s,vcY Tryz.prog G77 zep l (cd (cdF Tryz.f77 [1,0,0,1,1,0,0,1,1,0]) [0]) (zkm Tryz.prog zep 4 X (zee 2 (zee 1 (zKE (zKG Tryz.prog zep 17 (vcY Tryz.prog G77 zep l (cdF Tryz.f77 [1,0,0,1,1,1]) (zkm Tryz.prog zep 1 X0 (zee 0 zmV)))) (zkm Tryz.prog zep 1 X0 (zee 0 zmV)))))) ys q s->X ys q s)->X ys false (zj8 l a zbg zgL zda zcj za4 zbz zbY zbZ)):=by kernel_rfl
  refine zaN e ?_
  intro X hX
  refine h X ?_
  intro ys zbg zbb zcj za4 zbz zbY zbZ hs
  refine hX _ _ _ ?_
  have e2:=zrS l  X0 X ys a zbg zbb zcj za4 zbz zbY zbZ
  rw[e2]
  exact hs
attribute [irreducible] zlS zlT
def zhS (S0:Int->List straight) (a:list) (S1:Int->(Sl Gate)->Int->Int->Int->Int->Int->List straight) (zbg:Int) (zbb:(Sl Gate)) (zcj:Int) (za4:Int) (zbz:Int) (zbY:Int) (zbZ:Int):List straight :=
  (cond (decide (za4 < zcj))
 (cond (zbz == (zbb.get za4.toNat).Z)
 (S1 zbg zbb zcj (w64 (za4+(1:Int))) zbz zbY zbZ)
 ((s78 zbz zbY ((zbb.get za4.toNat).Z) ((zbb.get za4.toNat).Low)) :: ((s78 zbz zbY ((zbb.get za4.toNat).Z) ((zbb.get za4.toNat).High)) :: ((s78 zbz zbZ ((zbb.get za4.toNat).Z) ((zbb.get za4.toNat).Low)) :: ((s78 zbz zbZ ((zbb.get za4.toNat).Z) ((zbb.get za4.toNat).High)) :: (S1 zbg zbb zcj (w64 (za4+(1:Int))) zbz zbY zbZ))))))
 (S0 (w64 (zbg+(1:Int)))))
def zhT (P0:Int->Bool) (a:list) (P1:Int->(Sl Gate)->Int->Int->Int->Int->Int->Bool) (zbg:Int) (zbb:(Sl Gate)) (zcj:Int) (za4:Int) (zbz:Int) (zbY:Int) (zbZ:Int):Bool :=
  (cond (decide (za4 < zcj))
 (decide ((0<=za4/\za4 < (zbb.len:Int))) &&
 (cond (zbz == (zbb.get za4.toNat).Z)
 (P1 zbg zbb zcj (w64 (za4+(1:Int))) zbz zbY zbZ)
 (P1 zbg zbb zcj (w64 (za4+(1:Int))) zbz zbY zbZ)))
 (P0 (w64 (zbg+(1:Int)))))
def zfY (S0 : Int → List straight) (a : list) : Nat → Int → (Sl Gate) → Int → Int → Int → Int → Int → List straight
  | 0=>λ _ _ _ _ _ _ _=>[]
  | k+1=>zhS S0 a (zfY S0 a k)
def zfZ (P0 : Int → Bool) (a : list) : Nat → Int → (Sl Gate) → Int → Int → Int → Int → Int → Bool
  | 0=>λ _ _ _ _ _ _ _=>false
  | k+1=>zhT P0 a (zfZ P0 a k)
def zrT (S0:Int->List straight) (a:list) (zbg:Int) (zbb:(Sl Gate)) (zcj:Int) (za4:Int) (zbz:Int) (zbY:Int) (zbZ:Int):List straight:=zfY S0 a Fuel zbg zbb zcj za4 zbz zbY zbZ
def zrU (P0:Int->Bool) (a:list) (zbg:Int) (zbb:(Sl Gate)) (zcj:Int) (za4:Int) (zbz:Int) (zbY:Int) (zbZ:Int):Bool:=zfZ P0 a Fuel zbg zbb zcj za4 zbz zbY zbZ
theorem zG2 (l : Nat) (a : list)
  (X0:List (List PA)->Bool->St->Prop) (P0:Int->Bool) (S0:Int->List straight)
  (hX0:∀ (ys:List (List PA)) (zan:Int),P0 zan=true->ys=(S0 zan).map (λ y=>[.agg (zaz y)])->X0 ys false (zj7 l a zan)) (ys:List (List PA)) (zbg:Int) (zbb:(Sl Gate)) (zcj:Int) (za4:Int) (zbz:Int) (zbY:Int) (zbZ:Int) (zda:Nat->List PV) (zlU:zda=λ i=>enc_48 (zbb.get i)) (hs:zrU P0 a zbg zbb zcj za4 zbz zbY zbZ=true) (hk:ys=(zrT S0 a zbg zbb zcj za4 zbz zbY zbZ).map (λ y=>[.agg (zaz y)])):zlT l  X0 ys a zbg zbb.len zda zcj za4 zbz zbY zbZ:=by
  refine zyv l  X0 ys a zbg zbb.len zda zcj za4 zbz zbY zbZ ?_
  intro X1 hstep
  have key:∀ (k:Nat) (ys:List (List PA)) (zbg:Int) (zbb:(Sl Gate)) (zcj:Int) (za4:Int) (zbz:Int) (zbY:Int) (zbZ:Int) (zda:Nat->List PV) (zlU:zda=λ i=>enc_48 (zbb.get i)),zfZ P0 a k zbg zbb zcj za4 zbz zbY zbZ=true->ys=(zfY S0 a k zbg zbb zcj za4 zbz zbY zbZ).map (λ y=>[.agg (zaz y)])->X1 ys false (zj8 l a zbg zbb.len zda zcj za4 zbz zbY zbZ):=by
    intro k
    induction k with
    | zero=>intro ys zbg zbb zcj za4 zbz zbY zbZ zda zlU hs;exact absurd hs dqk
    | succ k ih =>
      intro ys zbg zbb zcj za4 zbz zbY zbZ zda zlU hs hk
      subst zlU
      refine hstep ys zbg zbb zcj za4 zbz zbY zbZ ?_
      have hs:zhT P0 a (zfZ P0 a k) zbg zbb zcj za4 zbz zbY zbZ=true:=hs
      have hk:ys=(zhS S0 a (zfY S0 a k) zbg zbb zcj za4 zbz zbY zbZ).map (λ y=>[.agg (zaz y)]):=hk
      unfold zhT at hs
      unfold zhS at hk
      generalize zfY S0 a k=S1 at hk ih
      generalize zfZ P0 a k=P1 at hs ih
      have hX1:=ih
      exact (zov hs hk
 (λ hs hk => (zaI hs λ hc hs => ⟨hc, (zov hs hk
 (λ hs hk=>(hX1 _ zbg zbb zcj (w64 (za4+(1:Int))) zbz zbY zbZ (λ i=>enc_48 (zbb.get i)) rfl hs hk))
 (λ hs hk=>(itY hk rfl (λ _ hk=>(itY hk rfl (λ _ hk=>(itY hk rfl (λ _ hk=>(itY hk rfl (λ _ hk=>(hX1 _ zbg zbb zcj (w64 (za4+(1:Int))) zbz zbY zbZ (λ i=>enc_48 (zbb.get i)) rfl hs hk)))))))))))⟩))
 (fun hs hk=>(hX0 _ (w64 (zbg+(1:Int))) hs hk)))
  exact key _ _ zbg zbb zcj za4 zbz zbY zbZ zda zlU hs hk
def zhU (a:list) (S0:Int->List straight) (zan:Int):List straight :=
  (cond (decide (zan < (a.Gates.len : Int)))
 (zrT S0 a zan (⟨((a.Gates.len:Int) - (w64 (zan+(1:Int)))).toNat,(λ i=>a.Gates.get (i+((w64 (zan+(1:Int))).toNat)))⟩:Sl Gate) (((a.Gates.len:Int) - (w64 (zan+(1:Int)))).toNat:Int) (0:Int) ((a.Gates.get zan.toNat).Z) ((a.Gates.get zan.toNat).Low) ((a.Gates.get zan.toNat).High))
 [])
def zhV (a:list) (P0:Int->Bool) (zan:Int):Bool :=
  (cond (decide (zan < (a.Gates.len : Int)))
 (decide ((0<=zan/\zan < (a.Gates.len:Int))) &&
 (decide ((0<=(w64 (zan+(1:Int)))/\(w64 (zan+(1:Int)))<=(a.Gates.len:Int)/\(a.Gates.len:Int)<=(a.Gates.len:Int))) &&
 (zrU P0 a zan (⟨((a.Gates.len:Int) - (w64 (zan+(1:Int)))).toNat,(λ i=>a.Gates.get (i+((w64 (zan+(1:Int))).toNat)))⟩:Sl Gate) (((a.Gates.len:Int) - (w64 (zan+(1:Int)))).toNat:Int) (0:Int) ((a.Gates.get zan.toNat).Z) ((a.Gates.get zan.toNat).Low) ((a.Gates.get zan.toNat).High))))
 true)
def zf0 (a : list) : Nat → Int → List straight
  | 0=>λ _=>[]
  | k+1=>zhU a (zf0 a k)
def zf1 (a : list) : Nat → Int → Bool
  | 0=>λ _=>false
  | k+1=>zhV a (zf1 a k)
def zyw (a:list) (zan:Int):List straight:=zf0 a Fuel zan
def zyx (a:list) (zan:Int):Bool:=zf1 a Fuel zan
theorem zG3 (l:Nat) (a:list) (ys:List (List PA)) (zan:Int) (hs:zyx a zan=true) (hk:ys=(zyw a zan).map (λ y=>[.agg (zaz y)])):zlS l ys a zan:=by
  refine zyu l ys a zan ?_
  intro X0 hstep
  have key:∀ (k:Nat) (ys:List (List PA)) (zan:Int),zf1 a k zan=true->ys=(zf0 a k zan).map (λ y=>[.agg (zaz y)])->X0 ys false (zj7 l a zan):=by
    intro k
    induction k with
    | zero=>intro ys zan hs;exact absurd hs dqk
    | succ k ih =>
      intro ys zan hs hk
      refine hstep ys zan ?_
      have hs:zhV a (zf1 a k) zan=true:=hs
      have hk:ys=(zhU a (zf0 a k) zan).map (λ y=>[.agg (zaz y)]):=hk
      unfold zhV at hs
      unfold zhU at hk
      generalize zf0 a k=S0 at hk ih
      generalize zf1 a k=P0 at hs ih
      have hX0:=ih
      exact (zov hs hk
 (λ hs hk=>(zaI hs λ hc hs=>⟨hc,(zaI hs λ hc hs=>⟨hc,(zG2 l a X0 P0 S0 hX0 _ zan (⟨((a.Gates.len:Int) - (w64 (zan+(1:Int)))).toNat,(λ i=>a.Gates.get (i+((w64 (zan+(1:Int))).toNat)))⟩:Sl Gate) (((a.Gates.len:Int) - (w64 (zan+(1:Int)))).toNat:Int) (0:Int) ((a.Gates.get zan.toNat).Z) ((a.Gates.get zan.toNat).Low) ((a.Gates.get zan.toNat).High) (slG (λ i=>enc_48 (a.Gates.get i)) ((w64 (zan+(1:Int))).toNat)) rfl hs hk)⟩)⟩))
 (fun hs hk=>hk))
  exact key _ _ zan hs hk
def s77 (a:list):List straight :=
  (zyw a (0:Int))
def p77 (a:list):Bool :=
  (zyx a (0:Int))
theorem q77 (l:Nat) (a:list) (ys:List (List PA)) (hs:p77 a=true) (hk:ys=(s77 a).map (λ y=>[.agg (zaz y)])):vcIter Tryz.prog G77 zep 77 l [.one (.fp (zdN a) 0)] ys:=by
  refine zaN (zG1 l a ys) ?_
  unfold p77 at hs
  unfold s77 at hk
  exact (zG3 l a _ (0:Int) hs hk)
def zOI : List PA → Option (Prop × List (List PA))
  | [.one (.fp [.sl a_Gates_n a_Gates_s a_Gates_g] 0)]=>some (IsE enc_48 3 a_Gates_s a_Gates_g/\p77 (⟨(⟨a_Gates_n,zaf a_Gates_g⟩:(Sl Gate))⟩:list)=true,(s77 (⟨(⟨a_Gates_n,zaf a_Gates_g⟩:(Sl Gate))⟩:list)).map λ y=>[.agg (zaz y)])
  | _=>none
theorem zLP:zah Tryz.prog 77:=⟨_,rfl,rfl,by kernel_rfl⟩
theorem zQR:zEu Tryz.prog 77 zOI:=zLb zPo zLP λ l caps safe ys h hs=>by
  unfold zOI at h
  split at h
  · rename_i a_Gates_n a_Gates_s a_Gates_g
    cases h
    obtain⟨⟨rfl,a_Gates_f,rfl⟩,hs⟩:=hs
    try rw[zae a_Gates_f] at hs
    try rw[zae a_Gates_f]
    exact⟨λ _ _=>[],λ _=>false,zep,q77 l (⟨(⟨a_Gates_n,a_Gates_f⟩:(Sl Gate))⟩:list) _ hs rfl⟩
  · cases h
abbrev T47:Tabs:=(((((Tabs.nil.addF 43 zDC).addF 49 zqd).addF 56 zDI).addF 73 zGY).addI 77 zOI)
theorem zPp:TabsOk Tryz.prog T47:=(((((TabsOk.nil.addF zQM).addF zKp).addF zQQ).addF zRz).addI zQR)
abbrev G47:Ctrs:=csm T47 (λ _ _=>[]) (λ l=>Nat.beq l 14)
def zyy:Ann:=⟨39,[(0,zK [0,2] [2]),(1,zK [2,3] [2,3]),(2,zK [2,3,12] [2,3]),(3,zK [2] [2]),(4,zK [2,3,4] [2,3,4,14]),(5,zK [2,3,4,17] [2,3,4,14]),(6,zK [2,3,4,5,17] [2,3,4,5,14,36]),(7,zK [2,3,4,5,6,17] [2,3,4,5,6,14,36]),(8,zK [2,3,4,5,6,17,29] [2,3,4,5,6,14,36]),(9,zK [2,3,4,5,17] [2,3,4,5,14,36]),(10,zK [2,3,4,17] [2,3,4,14,36]),(11,zK [2] [2,36])],
 [(6,⟨[2,3,4,17],[2,3,4,14,36],[],[(3,1,36,81,λ _=>zaz default)],[],[],[]⟩)],
 [(3,zK [2,3,12] [2,3]),(4,zK [2,3] [2,3])],
 [],[]⟩
abbrev R47:=set
abbrev e47 (r:R47):List PA:=[.agg [.sl r.list.Gates.len 3 (λ i=>enc_48 (r.list.Gates.get i)),.sl r.corners.len 3 (λ i=>zaz (r.corners.get i))]]
@[irreducible] def z47:=ptF Tryz.prog G47 zyy Tryz.f47
@[irreducible] def x47:=exF Tryz.prog G47 zyy Tryz.f47
@[irreducible] def y47:=rnF Tryz.prog G47 zyy Tryz.f47
def zyz (zaa:(Sl Gate)) (zcM:(Sl straight)) (zb1:Nat) (zbM:(List Int->Option (List Int))) (zfi:Nat->List PV):St:=⟨[(2,zp 2 0),(3,zp 3 0),(4,zp 4 0),(17,zP (.fn 77 [] [.fp (zdN (⟨zaa⟩:list)) 0]))],[(2,.box 75 [.p (.nils),.p (.nils)]),(3,.box 75 [.p (.sl zaa.len 3 (λ i=>enc_48 (zaa.get i))),.vec 36]),(4,.box 112 [.mo 14]),(14,.mo 42 4 (true,4,false,[none]) zb1 zbM),(36,.vec 81 3 24 zcM.len zfi)],[]⟩
abbrev zLQ (K:List PA->Prop) (zaa:(Sl Gate)) (X:St->Prop) (P:(Sl straight)->Nat->(List Int->Option (List Int))->Bool) (S:(Sl straight)->Nat->(List Int->Option (List Int))->set):Prop:=∀ ⦃zcM:(Sl straight)⦄ ⦃zb1:Nat⦄ ⦃zbM:(List Int->Option (List Int))⦄ ⦃zfi:Nat->List PV⦄,P zcM zb1 zbM=true->K (e47 (S zcM zb1 zbM))->zfi=zg zaz zcM->X (zyz zaa zcM zb1 zbM zfi)
section
variable {K:List PA->Prop}{zaa:(Sl Gate)}{zaT:Bool}{zcM:(Sl straight)}{zb1:Nat}{zbM:(List Int->Option (List Int))}{zfi:Nat->List PV}
def zG4 (zaa:(Sl Gate)) (zcM:(Sl straight)) (zb1:Nat) (zbM:(List Int->Option (List Int))):set :=
  (⟨(⟨zaa⟩:list),zcM⟩:set)
def zG5 (zaa:(Sl Gate)) (zcM:(Sl straight)) (zb1:Nat) (zbM:(List Int->Option (List Int))):Bool :=
  true
def zoK (zaa:(Sl Gate)) (y2:straight) (S2:(Sl straight)->Nat->(List Int->Option (List Int))->set) (zcM:(Sl straight)) (zb1:Nat) (zbM:(List Int->Option (List Int))):set :=
  (cond (!((zff (zbM [(s43 y2).Slope.Num, (s43 y2).Slope.Den, (s43 y2).Start.Num, (s43 y2).Start.Den]) 0) != 0))
 (cond (s73 (⟨(⟨zaa⟩ : list), zcM⟩ : set) y2)
 (S2 (⟨(zcM.len+1),(zgv zcM.len zcM.get (λ _=>y2))⟩:Sl straight) (addN (zbM [(s43 y2).Slope.Num,(s43 y2).Slope.Den,(s43 y2).Start.Num,(s43 y2).Start.Den]) zb1) (zgA [(s43 y2).Slope.Num,(s43 y2).Slope.Den,(s43 y2).Start.Num,(s43 y2).Start.Den] [1] zbM))
 (S2 zcM zb1 zbM))
 (S2 zcM zb1 zbM))
def zoL (zaa:(Sl Gate)) (y2:straight) (P2:(Sl straight)->Nat->(List Int->Option (List Int))->Bool) (zcM:(Sl straight)) (zb1:Nat) (zbM:(List Int->Option (List Int))):Bool :=
  (decide ((p43 y2=true)) &&
 (cond (!((zff (zbM [(s43 y2).Slope.Num, (s43 y2).Slope.Den, (s43 y2).Start.Num, (s43 y2).Start.Den]) 0) != 0))
 (decide ((p73 (⟨(⟨zaa⟩:list),zcM⟩:set) y2=true)) &&
 (cond (s73 (⟨(⟨zaa⟩ : list), zcM⟩ : set) y2)
 (decide (((zcM.len+1) * 24<=140737488355328/\zcM.len+1<=9223372036854775807)) &&
 (P2 (⟨(zcM.len+1),(zgv zcM.len zcM.get (λ _=>y2))⟩:Sl straight) (addN (zbM [(s43 y2).Slope.Num,(s43 y2).Slope.Den,(s43 y2).Start.Num,(s43 y2).Start.Den]) zb1) (zgA [(s43 y2).Slope.Num,(s43 y2).Slope.Den,(s43 y2).Start.Num,(s43 y2).Start.Den] [1] zbM)))
 (P2 zcM zb1 zbM)))
 (P2 zcM zb1 zbM)))
def zlV (zaa:(Sl Gate)):List straight->(Sl straight)->Nat->(List Int->Option (List Int))->set:=lpR (zG4 zaa) (zoK zaa)
def zlW (zaa:(Sl Gate)):List straight->(Sl straight)->Nat->(List Int->Option (List Int))->Bool:=lpR (zG5 zaa) (zoL zaa)
def zrV (zaa:(Sl Gate)) (zcM:(Sl straight)) (zb1:Nat) (zbM:(List Int->Option (List Int))):set:=zlV zaa (s77 (⟨zaa⟩:list)) zcM zb1 zbM
def zrW (zaa:(Sl Gate)) (zcM:(Sl straight)) (zb1:Nat) (zbM:(List Int->Option (List Int))):Bool:=decide ((p77 (⟨zaa⟩:list)=true)) && zlW zaa (s77 (⟨zaa⟩:list)) zcM zb1 zbM
theorem zG6 (hs:zrW zaa zcM zb1 zbM=true) (hk:K (e47 (zrV zaa zcM zb1 zbM))) (zlX:zfi=zg zaz zcM):z47 (Wk K) [1,1,1,1,0,1,0] [] (zyz zaa zcM zb1 zbM zfi) :=
  zaI hs λ hc hs=>zr (enc:=(λ y:straight=>[.agg (zaz y)])) (ys:=s77 (⟨zaa⟩:list)) (g:=(zyz zaa zcM zb1 zbM zfi)) (x47 (Wk K) [1,1,1,1,0,1,0] []) (y47 (Wk K) [1,1,1,1,0,1,0] []) (by kernel_rfl) (And.intro (zE enc_48 3 ((⟨zaa⟩:list).Gates.get)) hc) λ X2 hE hR =>
  (show ∀ l : List straight, zLQ K zaa (X2 (l.map (λ y : straight => [.agg (zaz y)]))) (zlW zaa l) (zlV zaa l) from zri (X := X2) (enc := (λ y : straight => [.agg (zaz y)])) _ _ (zoL zaa) (zoK zaa) (λ Z P S => zLQ K zaa Z P S)
 (by intro zcM zb1 zbM zfi hs hk zlX;subst zlX;exact hE _ (zaN (by kernel_rfl) ((zfz hk):Wk K [.agg [.sl zaa.len 3 (λ i=>enc_48 (zaa.get i)),.sl zcM.len 3 (λ i=>zaz (zcM.get i))]])))
 (by intro y2 rest P2 S2 hX2 zcM zb1 zbM zfi hs hk zlX;subst zlX;exact hR _ rest _ (zaN (by kernel_rfl) (zaI hs λ hc hs=>And.intro hc (zc hs hk (λ hs hk=>(zaI hs λ hc hs=>And.intro (And.intro (zE enc_48 3 zaa.get) (And.intro (zE zaz 3 zcM.get) hc)) (zc hs hk (λ hs hk=>(zaI hs λ hc hs=>And.intro hc (hX2 hs hk (zhA (enc:=zaz) (f:=zcM.get) (h:=(λ _=>y2)) rfl rfl)))) (λ hs hk=>(hX2 hs hk rfl))))) (λ hs hk=>(hX2 hs hk rfl))))))) _ hs hk zlX
def zrX (zaa:(Sl Gate)):set :=
  (zrV zaa (⟨0,(λ _=>default)⟩:Sl straight) 0 (λ _=>none))
def zrY (zaa:(Sl Gate)):Bool :=
  (zrW zaa (⟨0,(λ _=>default)⟩:Sl straight) 0 (λ _=>none))
theorem zG7 (hs:zrY zaa=true) (hk:K (e47 (zrX zaa))):z47 (Wk K) [1,1,1] [] ⟨[(2,zp 2 0),(3,zp 3 0)],[(2,.box 75 [.p (.nils),.p (.nils)]),(3,.box 75 [.p (.sl zaa.len 3 (λ i=>enc_48 (zaa.get i))),.p (.nils)])],[]⟩:=zaN (by kernel_rfl) (And.intro (zE enc_48 3 zaa.get) (zG6 hs hk rfl))
def zrZ (zaa:(Sl Gate)) (zaT:Bool):set :=
  (cond zaT
 (⟨(⟨zaa⟩:list),(⟨0,λ _=>default⟩:(Sl straight))⟩:set)
 (zrX zaa))
def zr0 (zaa:(Sl Gate)) (zaT:Bool):Bool :=
  (cond zaT
 true
 (zrY zaa))
theorem zG8 (hs:zr0 zaa zaT=true) (hk:K (e47 (zrZ zaa zaT))):z47 (Wk K) [1,1,0,1] [] ⟨[(2,zp 2 0),(3,zp 3 0),(12,zB zaT)],[(2,.box 75 [.p (.nils),.p (.nils)]),(3,.box 75 [.p (.sl zaa.len 3 (λ i=>enc_48 (zaa.get i))),.p (.nils)])],[]⟩:=zaN (by kernel_rfl) (zc hs hk (λ hs hk=>((wk hk (zfa (.agg (zfa (.rfl _) (zfa (.nil _ _) zlL))) zlL)):Wk K [.agg [.sl zaa.len 3 (λ i=>enc_48 (zaa.get i)),.nils]])) (λ hs hk=>(zG7 hs hk)))
def s47 (zaa:(Sl Gate)):set :=
  (zrZ zaa (s49 (⟨zaa⟩:list)))
def p47 (zaa:(Sl Gate)):Bool :=
  (decide ((p49 (⟨zaa⟩:list)=true)) &&
 (zr0 zaa (s49 (⟨zaa⟩:list))))
end
theorem q47 (zaa:(Sl Gate)) (K:List PA->Prop) (hs:p47 zaa=true) (hk:K (e47 (s47 zaa))):vcFun Tryz.prog G47 zyy 47 [.one (.sl zaa.len 3 (λ i=>enc_48 (zaa.get i)))] (Wk K) :=
  zaN (by kernel_rfl) (zaI hs λ hc hs=>And.intro (And.intro (zE enc_48 3 zaa.get) hc) (zG8 hs hk))
def zyA : List PA → COut
  | [.one (.sl zaU zcu zaV)]=>.det (IsE enc_48 3 zcu zaV/\p47 (⟨zaU,zaf zaV⟩:(Sl Gate))=true) [.agg [.sl ((s47 (⟨zaU,zaf zaV⟩:(Sl Gate))).list.Gates.len) 3 (λ i=>enc_48 ((s47 (⟨zaU,zaf zaV⟩:(Sl Gate))).list.Gates.get i)),.sl ((s47 (⟨zaU,zaf zaV⟩:(Sl Gate))).corners.len) 3 (λ i=>zaz ((s47 (⟨zaU,zaf zaV⟩:(Sl Gate))).corners.get i))]]
  | _=>.no
theorem zLR:zah Tryz.prog 47:=⟨_,rfl,rfl,by kernel_rfl⟩
theorem zPq:Ok Tryz.prog 47 zyA:=zgK zPp zLR λ args K h=>by
  unfold zyA at h
  split at h
  · rename_i zaU zcu zaV
    obtain⟨⟨⟨rfl,zbF,rfl⟩,hs⟩,hk⟩:=h
    try rw[zae zbF] at hs
    try rw[zae zbF] at hk
    exact⟨_,zgn zgJ _,(λ _ _=>[]),(λ l=>Nat.beq l 14),zyy,q47 (⟨zaU,zbF⟩:(Sl Gate)) K hs hk⟩
  · exact h.elim
abbrev T69:Tabs:=Tabs.nil
theorem zPr:TabsOk Tryz.prog T69:=TabsOk.nil
abbrev G69:Ctrs:=csm T69 (λ _ _=>[]) (λ _=>false)
def zG9:Ann:=⟨38,[(0,zK [1,2] [1,2]),(1,zK [1,2,3] [1,2,3]),(2,zK [2,3,18,19,20] [2,3]),(3,zK [2,3,18,19,20,21] [2,3]),(4,zK [2,3,5,18,19,20] [2,3,5]),(5,zK [2,3,18,19,20] [2,3]),(6,zK [2,3,18,19,20] [2,3]),(7,zK [2] [2])],
 [(3,zK [2,3,18,19,20] [2,3])],
 [],
 [],[]⟩
abbrev R69:=Span
abbrev e69 (r:R69):List PA:=[.agg [.int .i64 r.Low,.int .i64 r.High]]
@[irreducible] def z69:=ptF Tryz.prog G69 zG9 Tryz.f69
def zEO (l_a0:list) (zdG:Int) (zaA:Int) (zaB:Int):St:=⟨[(2,zp 2 0),(3,zp 3 0),(18,zS enc_48 3 l_a0.Gates),(19,zI (l_a0.Gates.len:Int)),(20,zI zdG)],[(2,.box 107 (zm (zyd (⟨(0:Int),(0:Int)⟩:Span)))),(3,.box 107 (zm (zyd (⟨zaA,zaB⟩:Span))))],[]⟩
abbrev zLS (K:List PA->Prop) (l_a0:list) (X:St->Prop) (P:Int->Int->Int->Bool) (S:Int->Int->Int->Span):Prop:=∀ ⦃zdG:Int⦄ ⦃zaA:Int⦄ ⦃zaB:Int⦄,P zdG zaA zaB=true->K (e69 (S zdG zaA zaB))->X (zEO l_a0 zdG zaA zaB)
section
variable {K:List PA->Prop}{l_a0:list}{zdG:Int}{zaA:Int}{zaB:Int}{X0:St->Prop}{P0:Int->Int->Int->Bool}{S0:Int->Int->Int->Span}
def zjg (l_a0:list) (S0:Int->Int->Int->Span) (zdG:Int) (zaA:Int) (zaB:Int):Span :=
  (cond (decide (zdG < (l_a0.Gates.len : Int)))
 (S0 (w64 (zdG+(1:Int))) (if (l_a0.Gates.get zdG.toNat).Low > zaA then (l_a0.Gates.get zdG.toNat).Low else zaA) (if (l_a0.Gates.get zdG.toNat).High < zaB then (l_a0.Gates.get zdG.toNat).High else zaB))
 (⟨zaA,zaB⟩:Span))
def zjh (l_a0:list) (P0:Int->Int->Int->Bool) (zdG:Int) (zaA:Int) (zaB:Int):Bool :=
  (cond (decide (zdG < (l_a0.Gates.len : Int)))
 (decide ((0<=zdG/\zdG < (l_a0.Gates.len:Int))) &&
 (P0 (w64 (zdG+(1:Int))) (if (l_a0.Gates.get zdG.toNat).Low > zaA then (l_a0.Gates.get zdG.toNat).Low else zaA) (if (l_a0.Gates.get zdG.toNat).High < zaB then (l_a0.Gates.get zdG.toNat).High else zaB)))
 true)
def zji (l_a0:list):Nat->Int->Int->Int->Span:=lpO (λ _ _ _=>default) (zjg l_a0)
def zjj (l_a0:list):Nat->Int->Int->Int->Bool:=lpO (λ _ _ _=>false) (zjh l_a0)
def zyB (l_a0:list) (zdG:Int) (zaA:Int) (zaB:Int):Span:=zji l_a0 Fuel zdG zaA zaB
def zyC (l_a0:list) (zdG:Int) (zaA:Int) (zaB:Int):Bool:=zjj l_a0 Fuel zdG zaA zaB
theorem zHa (hs:zyC l_a0 zdG zaA zaB=true) (hk:K (e69 (zyB l_a0 zdG zaA zaB))):z69 K [1,1,0,1,0] [] (zEO l_a0 zdG zaA zaB) :=
  zl (λ X=>z69 K [1,1,0,1,0,0] [X]) (by kernel_rfl) λ X0 hX =>
  (show ∀ k, zLS K l_a0 X0 (zjj l_a0 k) (zji l_a0 k) from zgw _ _ (zjh l_a0) (zjg l_a0) (zLS K l_a0 X0)
 (by intro _ _ _ hs;exact absurd hs dqk)
 (by intro P0 S0 hX0 zdG zaA zaB hs hk;exact hX _ (zaN (by kernel_rfl) (zc hs hk (λ hs hk=>(zaI hs λ hc hs=>And.intro hc (hX0 hs hk))) (λ hs hk=>hk))))) _ hs hk
def s69 (l_a0:list):Span :=
  (zyB l_a0 (0:Int) ((l_a0.Gates.get 0).Low) ((l_a0.Gates.get 0).High))
def p69 (l_a0:list):Bool :=
  (decide ((0<=(0:Int)/\(0:Int) < (l_a0.Gates.len:Int))) &&
 (decide ((0<=(0:Int)/\(0:Int) < (l_a0.Gates.len:Int))) &&
 (zyC l_a0 (0:Int) ((l_a0.Gates.get 0).Low) ((l_a0.Gates.get 0).High))))
end
theorem q69 (l_a0:list) (K:List PA->Prop) (hs:p69 l_a0=true) (hk:K (e69 (s69 l_a0))):vcFun Tryz.prog G69 zG9 69 [.agg (zdN l_a0)] K :=
  zaN (by kernel_rfl) (zaI hs λ hc hs=>And.intro hc (zaI hs λ hc hs=>And.intro hc (zHa hs hk)))
def zDJ : List PA → COut
  | [.agg [.sl za9 zb8 zba]]=>.det (IsE enc_48 3 zb8 zba/\p69 (⟨(⟨za9,zaf zba⟩:(Sl Gate))⟩:list)=true) [.agg [.int .i64 ((s69 (⟨(⟨za9,zaf zba⟩:(Sl Gate))⟩:list)).Low),.int .i64 ((s69 (⟨(⟨za9,zaf zba⟩:(Sl Gate))⟩:list)).High)]]
  | _=>.no
theorem zLT:zah Tryz.prog 69:=⟨_,rfl,rfl,by kernel_rfl⟩
theorem zQS:Ok Tryz.prog 69 zDJ:=za3 zPr zLT λ args K h=>by
  unfold zDJ at h
  split at h
  · rename_i za9 zb8 zba
    obtain⟨⟨⟨rfl,zbH,rfl⟩,hs⟩,hk⟩:=h
    try rw[zae zbH] at hs
    try rw[zae zbH] at hk
    exact⟨(λ _ _=>[]),(λ _=>false),zG9,q69 (⟨(⟨za9,zbH⟩:(Sl Gate))⟩:list) K hs hk⟩
  · exact h.elim
abbrev T48:Tabs:=((Tabs.nil.addF 49 zqd).addF 69 zDJ)
theorem zPs:TabsOk Tryz.prog T48:=((TabsOk.nil.addF zKp).addF zQS)
abbrev G48:Ctrs:=csm T48 (λ _ _=>[]) (λ _=>false)
def zLU:Ann:=⟨19,[(0,zK [1] [1]),(1,zK [1,3] [1,3]),(2,zK [1,3,9] [1,3]),(3,zK [2] []),(4,zK [2] [])],
 [],
 [],
 [],[]⟩
abbrev R48:=Bool
abbrev e48 (r:R48):List PA:=[.one (.bool r)]
section
variable {K:List PA->Prop}{s:set}
def s48 (s:set):Bool :=
  (cond (s49 s.list)
 (decide ((s69 s.list).Low<=(s69 s.list).High))
 (decide ((s.corners.len:Int) > (0:Int))))
def p48 (s:set):Bool :=
  (decide ((p69 s.list=true)) &&
 (decide ((p49 s.list=true)) &&
 true))
end
theorem q48 (s:set) (K:List PA->Prop) (hs:p48 s=true) (hk:K (e48 (s48 s))):vcFun Tryz.prog G48 zLU 48 [.agg (zct s)] K :=
  zaN (by kernel_rfl) (zaI hs λ hc hs=>And.intro (And.intro (zE enc_48 3 s.list.Gates.get) hc) (zaI hs λ hc hs=>And.intro (And.intro (zE enc_48 3 s.list.Gates.get) hc) (zt hk (λ hk=>hk) (λ hk=>hk))))
def zyD : List PA → COut
  | [.agg [.sl zai zaH zaj,.sl zas zbf zat]]=>.det (IsE enc_48 3 zaH zaj/\IsE zaz 3 zbf zat/\p48 (⟨(⟨(⟨zai,zaf zaj⟩:(Sl Gate))⟩:list),(⟨zas,zcz zat⟩:(Sl straight))⟩:set)=true) [.one (.bool (s48 (⟨(⟨(⟨zai,zaf zaj⟩:(Sl Gate))⟩:list),(⟨zas,zcz zat⟩:(Sl straight))⟩:set)))]
  | _=>.no
theorem zLV:zah Tryz.prog 48:=⟨_,rfl,rfl,by kernel_rfl⟩
theorem zPt:Ok Tryz.prog 48 zyD:=za3 zPs zLV λ args K h=>by
  unfold zyD at h
  split at h
  · rename_i zai zaH zaj zas zbf zat
    obtain⟨⟨⟨rfl,zar,rfl⟩,⟨rfl,zaL,rfl⟩,hs⟩,hk⟩:=h
    try rw[zae zar] at hs
    try rw[zae zar] at hk
    try rw[zbP zaL] at hs
    try rw[zbP zaL] at hk
    exact⟨(λ _ _=>[]),(λ _=>false),zLU,q48 (⟨(⟨(⟨zai,zar⟩:(Sl Gate))⟩:list),(⟨zas,zaL⟩:(Sl straight))⟩:set) K hs hk⟩
  · exact h.elim
abbrev T39:Tabs:=((Tabs.nil.addF 47 zyA).addF 48 zyD)
theorem zPu:TabsOk Tryz.prog T39:=((TabsOk.nil.addF zPq).addF zPt)
abbrev G39:Ctrs:=csm T39 (λ _ _=>[]) (λ _=>false)
def zHb:Ann:=⟨25,[(0,zK [0,1] []),(1,zK [0,1,5] []),(2,zK [0,5,8,9,10] []),(3,zK [0,5,8,9,10,11] [20]),(4,zK [0,5,7,8,9,10] [20]),(5,zK [0,5,8,9,10] [20]),(6,zK [0,5,8,9,10] [20]),(7,zK [4] [])],
 [(3,⟨[0,5,8,9,10],[20],[(5,20,48,λ _=>enc_48 default)],[],[],[],[]⟩)],
 [],
 [],[]⟩
abbrev R39:=Bool
abbrev e39 (r:R39):List PA:=[.one (.bool r)]
@[irreducible] def z39:=ptF Tryz.prog G39 zHb Tryz.f39
def zEP (zaa:(Sl Gate)) (l_a1:(Sl Int)) (zcr:Int) (zdo:(Sl Gate)) (zgM:Nat->List PV):St:=⟨[(0,zS enc_48 3 zaa),(5,zv 20),(8,zS zak 1 l_a1),(9,zI (l_a1.len:Int)),(10,zI zcr)],[(20,.vec 48 3 24 zdo.len zgM)],[]⟩
abbrev zLW (K:List PA->Prop) (zaa:(Sl Gate)) (l_a1:(Sl Int)) (X:St->Prop) (P:Int->(Sl Gate)->Bool) (S:Int->(Sl Gate)->Bool):Prop:=∀ ⦃zcr:Int⦄ ⦃zdo:(Sl Gate)⦄ ⦃zgM:Nat->List PV⦄,P zcr zdo=true->K (e39 (S zcr zdo))->zgM=zg enc_48 zdo->X (zEP zaa l_a1 zcr zdo zgM)
section
variable {K:List PA->Prop}{zaa:(Sl Gate)}{l_a1:(Sl Int)}{zcr:Int}{zdo:(Sl Gate)}{zgM:Nat->List PV}{X0:St->Prop}{P0:Int->(Sl Gate)->Bool}{S0:Int->(Sl Gate)->Bool}
def zjk (zaa:(Sl Gate)) (l_a1:(Sl Int)) (S0:Int->(Sl Gate)->Bool) (zcr:Int) (zdo:(Sl Gate)):Bool :=
  (cond (decide (zcr < (l_a1.len : Int)))
 (S0 (w64 (zcr+(1:Int))) (⟨(zdo.len+1),(zgv zdo.len zdo.get (λ _=>(zaa.get ((l_a1.get zcr.toNat).toNat))))⟩:Sl Gate))
 (s48 (s47 zdo)))
def zjl (zaa:(Sl Gate)) (l_a1:(Sl Int)) (P0:Int->(Sl Gate)->Bool) (zcr:Int) (zdo:(Sl Gate)):Bool :=
  (cond (decide (zcr < (l_a1.len : Int)))
 (decide ((0<=zcr/\zcr < (l_a1.len:Int))) &&
 (decide ((0<=(l_a1.get zcr.toNat)/\(l_a1.get zcr.toNat) < (zaa.len:Int))) &&
 (decide (((zdo.len+1) * 24<=140737488355328/\zdo.len+1<=9223372036854775807)) &&
 (P0 (w64 (zcr+(1:Int))) (⟨(zdo.len+1),(zgv zdo.len zdo.get (λ _=>(zaa.get ((l_a1.get zcr.toNat).toNat))))⟩:Sl Gate)))))
 (decide ((p47 zdo=true)) &&
 (decide ((p48 (s47 zdo)=true)) &&
 true)))
def zjm (zaa:(Sl Gate)) (l_a1:(Sl Int)):Nat->Int->(Sl Gate)->Bool:=lpO (λ _ _=>default) (zjk zaa l_a1)
def zjn (zaa:(Sl Gate)) (l_a1:(Sl Int)):Nat->Int->(Sl Gate)->Bool:=lpO (λ _ _=>false) (zjl zaa l_a1)
def zyE (zaa:(Sl Gate)) (l_a1:(Sl Int)) (zcr:Int) (zdo:(Sl Gate)):Bool:=zjm zaa l_a1 Fuel zcr zdo
def zyF (zaa:(Sl Gate)) (l_a1:(Sl Int)) (zcr:Int) (zdo:(Sl Gate)):Bool:=zjn zaa l_a1 Fuel zcr zdo
theorem zHc (hs:zyF zaa l_a1 zcr zdo=true) (hk:K (e39 (zyE zaa l_a1 zcr zdo))) (zr1:zgM=zg enc_48 zdo):z39 K [1,1,0,1,0] [] (zEP zaa l_a1 zcr zdo zgM) :=
  zl (λ X=>z39 K [1,1,0,1,0,0] [X]) (by kernel_rfl) λ X0 hX =>
  (show ∀ k, zLW K zaa l_a1 X0 (zjn zaa l_a1 k) (zjm zaa l_a1 k) from zgw _ _ (zjl zaa l_a1) (zjk zaa l_a1) (zLW K zaa l_a1 X0)
 (by intro _ _ _ hs;exact absurd hs dqk)
 (by intro P0 S0 hX0 zcr zdo zgM hs hk zr1;subst zr1;exact hX _ (zaN (by kernel_rfl) (zc hs hk (λ hs hk=>(zaI hs λ hc hs=>And.intro hc (zaI hs λ hc hs=>And.intro hc (zaI hs λ hc hs=>And.intro hc (hX0 hs hk (zhA (enc:=enc_48) (f:=zdo.get) (h:=(λ _=>(zaa.get ((l_a1.get zcr.toNat).toNat)))) rfl rfl)))))) (λ hs hk=>(zaI hs λ hc hs=>And.intro (And.intro (zE enc_48 3 zdo.get) hc) (zaI hs λ hc hs=>And.intro (And.intro (zE enc_48 3 ((s47 zdo).list.Gates.get)) (And.intro (zE zaz 3 ((s47 zdo).corners.get)) hc)) hk))))))) _ hs hk zr1
def s39 (zaa:(Sl Gate)) (l_a1:(Sl Int)):Bool :=
  (zyE zaa l_a1 (0:Int) (⟨0,(λ _=>default)⟩:Sl Gate))
def p39 (zaa:(Sl Gate)) (l_a1:(Sl Int)):Bool :=
  (zyF zaa l_a1 (0:Int) (⟨0,(λ _=>default)⟩:Sl Gate))
end
theorem q39 (zaa:(Sl Gate)) (l_a1:(Sl Int)) (K:List PA->Prop) (hs:p39 zaa l_a1=true) (hk:K (e39 (s39 zaa l_a1))):vcFun Tryz.prog G39 zHb 39 [.one (.sl zaa.len 3 (λ i=>enc_48 (zaa.get i))),.one (.sl l_a1.len 1 (λ i=>zak (l_a1.get i)))] K :=
  zaN (by kernel_rfl) (zHc hs hk rfl)
def zHd : List PA → COut
  | [.one (.sl zaU zcu zaV),.one (.sl zet zj9 zeu)]=>.det (IsE enc_48 3 zcu zaV/\IsE zak 1 zj9 zeu/\p39 (⟨zaU,zaf zaV⟩:(Sl Gate)) (⟨zet,zb7 zeu⟩:(Sl Int))=true) [.one (.bool (s39 (⟨zaU,zaf zaV⟩:(Sl Gate)) (⟨zet,zb7 zeu⟩:(Sl Int))))]
  | _=>.no
theorem zLX:zah Tryz.prog 39:=⟨_,rfl,rfl,by kernel_rfl⟩
theorem zRB:Ok Tryz.prog 39 zHd:=za3 zPu zLX λ args K h=>by
  unfold zHd at h
  split at h
  · rename_i zaU zcu zaV zet zj9 zeu
    obtain⟨⟨⟨rfl,zbF,rfl⟩,⟨rfl,zhn,rfl⟩,hs⟩,hk⟩:=h
    try rw[zae zbF] at hs
    try rw[zae zbF] at hk
    try rw[zby zhn] at hs
    try rw[zby zhn] at hk
    exact⟨(λ _ _=>[]),(λ _=>false),zHb,q39 (⟨zaU,zbF⟩:(Sl Gate)) (⟨zet,zhn⟩:(Sl Int)) K hs hk⟩
  · exact h.elim
abbrev T18:Tabs:=((Tabs.nil.addF 28 zqb).addF 39 zHd)
theorem zPv:TabsOk Tryz.prog T18:=((TabsOk.nil.addF zKo).addF zRB)
abbrev G18:Ctrs:=csm T18 (λ _ _=>[]) (λ _=>false)
def zHe:Ann:=⟨66,[(0,zK [0] []),(1,zK [0,12] []),(2,zK [2,3] []),(3,zK [0,4] []),(4,zK [0,4,15,16] []),(5,zK [0,4,15,16,17] []),(6,zK [0,4,5,15,16] []),(7,zK [0,4,5,6,15,16] []),(8,zK [0,4,5,6,15,16,23] []),(9,zK [0,4,5,6,15,16] []),(10,zK [0,4,5,6,15,16,31] []),(11,zK [2,3] [34]),(12,zK [0,4,15,16] []),(13,zK [0,4,36,37] []),(14,zK [0,4,36,37,38] []),(15,zK [0,4,7,36,37] []),(16,zK [0,4,7,8,36,37] []),(17,zK [0,4,7,8,36,37,44] []),(18,zK [0,4,7,8,36,37] []),(19,zK [0,4,7,8,9,36,37] []),(20,zK [0,4,7,8,9,36,37,51] []),(21,zK [0,4,7,8,9,36,37] []),(22,zK [0,4,7,8,9,36,37,60] []),(23,zK [2,3] [64]),(24,zK [0,4,36,37] []),(25,zK [2,3] [])],
 [(5,zK [0,4,15,16] []),(8,zK [0,4,5,6,15,16] []),(14,zK [0,4,36,37] []),(17,zK [0,4,7,8,36,37] []),(20,zK [0,4,7,8,9,36,37] [])],
 [(2,zK [0,12] []),(3,zK [0] []),(13,zK [0,4] []),(11,zK [0,4,5,6,15,16,31] []),(23,zK [0,4,7,8,9,36,37,60] [])],
 [],[]⟩
abbrev R18:=((Sl Int)×Int)
abbrev e18 (r:R18):List PA:=[.one (.sl r.1.len 1 (λ i=>zak (r.1.get i))),.one (.int .i64 r.2)]
@[irreducible] def z18:=ptF Tryz.prog G18 zHe Tryz.f18
def zEQ (zaa:(Sl Gate)) (zeC:Int):St:=⟨[(0,zS enc_48 3 zaa),(4,zI (zaa.len:Int)),(15,zI (zaa.len:Int)),(16,zI zeC)],[],[]⟩
abbrev zDK (K:List PA->Prop) (zaa:(Sl Gate)) (X:St->Prop) (P:Int->Bool) (S:Int->((Sl Int)×Int)):Prop:=∀ ⦃zeC:Int⦄,P zeC=true->K (e18 (S zeC))->X (zEQ zaa zeC)
def zER (zaa:(Sl Gate)) (iv3:Int) (jv3:Int) (zfA:Int):St:=⟨[(0,zS enc_48 3 zaa),(4,zI (zaa.len:Int)),(5,zI iv3),(6,zI jv3),(15,zI (zaa.len:Int)),(16,zI zfA)],[],[]⟩
abbrev zHf (K:List PA->Prop) (zaa:(Sl Gate)) (X:St->Prop) (P:Int->Int->Int->Bool) (S:Int->Int->Int->((Sl Int)×Int)):Prop:=∀ ⦃iv3:Int⦄ ⦃jv3:Int⦄ ⦃zfA:Int⦄,P iv3 jv3 zfA=true->K (e18 (S iv3 jv3 zfA))->X (zER zaa iv3 jv3 zfA)
def zES (zaa:(Sl Gate)) (zeD:Int):St:=⟨[(0,zS enc_48 3 zaa),(4,zI (zaa.len:Int)),(36,zI (zaa.len:Int)),(37,zI zeD)],[],[]⟩
abbrev zyG (K:List PA->Prop) (zaa:(Sl Gate)) (X:St->Prop) (P:Int->Bool) (S:Int->((Sl Int)×Int)):Prop:=∀ ⦃zeD:Int⦄,P zeD=true->K (e18 (S zeD))->X (zES zaa zeD)
def zET (zaa:(Sl Gate)) (iv7:Int) (jv7:Int) (zfB:Int):St:=⟨[(0,zS enc_48 3 zaa),(4,zI (zaa.len:Int)),(7,zI iv7),(8,zI jv7),(36,zI (zaa.len:Int)),(37,zI zfB)],[],[]⟩
abbrev zDL (K:List PA->Prop) (zaa:(Sl Gate)) (X:St->Prop) (P:Int->Int->Int->Bool) (S:Int->Int->Int->((Sl Int)×Int)):Prop:=∀ ⦃iv7:Int⦄ ⦃jv7:Int⦄ ⦃zfB:Int⦄,P iv7 jv7 zfB=true->K (e18 (S iv7 jv7 zfB))->X (zET zaa iv7 jv7 zfB)
def zEU (zaa:(Sl Gate)) (iv8:Int) (jv8:Int) (kv8:Int) (zfC:Int):St:=⟨[(0,zS enc_48 3 zaa),(4,zI (zaa.len:Int)),(7,zI iv8),(8,zI jv8),(9,zI kv8),(36,zI (zaa.len:Int)),(37,zI zfC)],[],[]⟩
abbrev zHg (K:List PA->Prop) (zaa:(Sl Gate)) (X:St->Prop) (P:Int->Int->Int->Int->Bool) (S:Int->Int->Int->Int->((Sl Int)×Int)):Prop:=∀ ⦃iv8:Int⦄ ⦃jv8:Int⦄ ⦃kv8:Int⦄ ⦃zfC:Int⦄,P iv8 jv8 kv8 zfC=true->K (e18 (S iv8 jv8 kv8 zfC))->X (zEU zaa iv8 jv8 kv8 zfC)
section
variable {K:List PA->Prop}{zaa:(Sl Gate)}{zaT:Bool}{zeC:Int}{X2:St->Prop}{P2:Int->Bool}{S2:Int->((Sl Int)×Int)}{iv3:Int}{jv3:Int}{zfA:Int}{X3:St->Prop}{P3:Int->Int->Int->Bool}{S3:Int->Int->Int->((Sl Int)×Int)}{iv5:Int}{jv5:Int}{zr2:Int}{zr3:Bool}{zeD:Int}{X6:St->Prop}{P6:Int->Bool}{S6:Int->((Sl Int)×Int)}{iv7:Int}{jv7:Int}{zfB:Int}{X7:St->Prop}{P7:Int->Int->Int->Bool}{S7:Int->Int->Int->((Sl Int)×Int)}{iv8:Int}{jv8:Int}{kv8:Int}{zfC:Int}{X8:St->Prop}{P8:Int->Int->Int->Int->Bool}{S8:Int->Int->Int->Int->((Sl Int)×Int)}{iv9:Int}{jv9:Int}{kv9:Int}{zr4:Int}{zr5:Bool}
def zr6 (S6:Int->((Sl Int)×Int)) (S7:Int->Int->Int->((Sl Int)×Int)) (S8:Int->Int->Int->Int->((Sl Int)×Int)) (zaa:(Sl Gate)) (iv9:Int) (jv9:Int) (kv9:Int) (zr4:Int) (zr5:Bool):((Sl Int)×Int) :=
  (cond zr5
 ((⟨3,(zkk iv9 [iv9,jv9,kv9])⟩:(Sl Int)),(0:Int))
 (S8 iv9 jv9 (w64 (kv9+(1:Int))) zr4))
def zr7 (P6:Int->Bool) (P7:Int->Int->Int->Bool) (P8:Int->Int->Int->Int->Bool) (zaa:(Sl Gate)) (iv9:Int) (jv9:Int) (kv9:Int) (zr4:Int) (zr5:Bool):Bool :=
  (cond zr5
 true
 (P8 iv9 jv9 (w64 (kv9+(1:Int))) zr4))
theorem zHh (hX6:zyG K zaa X6 P6 S6) (hX7:zDL K zaa X7 P7 S7) (hX8:zHg K zaa X8 P8 S8) (hs:zr7 P6 P7 P8 zaa iv9 jv9 kv9 zr4 zr5=true) (hk:K (e18 (zr6 S6 S7 S8 zaa iv9 jv9 kv9 zr4 zr5))):z18 (Wk K) [1,1,1,1,0,1,0,0,1,1,0,0,1,1,0,0,1,0,0,1,0,0,1,0,0,1] [X6,X7,X8] ⟨[(0,zS enc_48 3 zaa),(4,zI (zaa.len:Int)),(7,zI iv9),(8,zI jv9),(9,zI kv9),(36,zI (zaa.len:Int)),(37,zI zr4),(60,zB zr5)],[],[]⟩:=zaN (by kernel_rfl) (zc hs hk (λ hs hk=>((zfz (Eq.mpr (congrArg K (congrArg (λ (g_:Nat->List PV)=>([.one (.sl 3 1 g_),.one (.int .i64 (0:Int))]:List PA)) (zfV (enc:=zak) (x:=iv9) (y:=jv9) (r:=[kv9])))) hk)):Wk K [.one (.sl 3 1 (zed [(zak iv9),(zak jv9),(zak kv9)])),.one (.int .i64 (0:Int))])) (λ hs hk=>(hX8 hs hk)))
def zjo (S6:Int->((Sl Int)×Int)) (S7:Int->Int->Int->((Sl Int)×Int)) (zaa:(Sl Gate)) (S8:Int->Int->Int->Int->((Sl Int)×Int)) (iv8:Int) (jv8:Int) (kv8:Int) (zfC:Int):((Sl Int)×Int) :=
  (cond (decide (kv8 < (zaa.len : Int)))
 (zr6 S6 S7 S8 zaa iv8 jv8 kv8 zfC (!(s39 zaa (⟨3,zb7 (zed [(zak iv8),(zak jv8),(zak kv8)])⟩:(Sl Int)))))
 (S7 iv8 (w64 (jv8+(1:Int))) zfC))
def zjq (P6:Int->Bool) (P7:Int->Int->Int->Bool) (zaa:(Sl Gate)) (P8:Int->Int->Int->Int->Bool) (iv8:Int) (jv8:Int) (kv8:Int) (zfC:Int):Bool :=
  (cond (decide (kv8 < (zaa.len : Int)))
 (decide ((p39 zaa (⟨3,zb7 (zed [(zak iv8),(zak jv8),(zak kv8)])⟩:(Sl Int))=true)) &&
 (zr7 P6 P7 P8 zaa iv8 jv8 kv8 zfC (!(s39 zaa (⟨3,zb7 (zed [(zak iv8),(zak jv8),(zak kv8)])⟩:(Sl Int))))))
 (P7 iv8 (w64 (jv8+(1:Int))) zfC))
def zf2 (S6:Int->((Sl Int)×Int)) (S7:Int->Int->Int->((Sl Int)×Int)) (zaa:(Sl Gate)):Nat->Int->Int->Int->Int->((Sl Int)×Int):=lpO (λ _ _ _ _=>default) (zjo S6 S7 zaa)
def zf3 (P6:Int->Bool) (P7:Int->Int->Int->Bool) (zaa:(Sl Gate)):Nat->Int->Int->Int->Int->Bool:=lpO (λ _ _ _ _=>false) (zjq P6 P7 zaa)
def zr8 (S6:Int->((Sl Int)×Int)) (S7:Int->Int->Int->((Sl Int)×Int)) (zaa:(Sl Gate)) (iv8:Int) (jv8:Int) (kv8:Int) (zfC:Int):((Sl Int)×Int):=zf2 S6 S7 zaa Fuel iv8 jv8 kv8 zfC
def zr9 (P6:Int->Bool) (P7:Int->Int->Int->Bool) (zaa:(Sl Gate)) (iv8:Int) (jv8:Int) (kv8:Int) (zfC:Int):Bool:=zf3 P6 P7 zaa Fuel iv8 jv8 kv8 zfC
theorem zHi (hX6:zyG K zaa X6 P6 S6) (hX7:zDL K zaa X7 P7 S7) (hs:zr9 P6 P7 zaa iv8 jv8 kv8 zfC=true) (hk:K (e18 (zr8 S6 S7 zaa iv8 jv8 kv8 zfC))):z18 (Wk K) [1,1,1,1,0,1,0,0,1,1,0,0,1,1,0,0,1,0,0,1,0] [X6,X7] (zEU zaa iv8 jv8 kv8 zfC) :=
  zl (λ X=>z18 (Wk K) [1,1,1,1,0,1,0,0,1,1,0,0,1,1,0,0,1,0,0,1,0,0] [X6,X7,X]) (by kernel_rfl) λ X8 hX =>
  (show ∀ k, zHg K zaa X8 (zf3 P6 P7 zaa k) (zf2 S6 S7 zaa k) from zgw _ _ (zjq P6 P7 zaa) (zjo S6 S7 zaa) (zHg K zaa X8)
 (by intro _ _ _ _ hs;exact absurd hs dqk)
 (by intro P8 S8 hX8 iv8 jv8 kv8 zfC hs hk;exact hX _ (zaN (by kernel_rfl) (zc hs hk (λ hs hk=>(zaI hs λ hc hs=>And.intro (And.intro (zE enc_48 3 zaa.get) (And.intro ((zhm [kv8]):IsE zak 1 1 (zed [(zak iv8),(zak jv8),(zak kv8)])) hc)) (zHh hX6 hX7 hX8 hs hk))) (λ hs hk=>(hX7 hs hk)))))) _ hs hk
def zjr (S6:Int->((Sl Int)×Int)) (zaa:(Sl Gate)) (S7:Int->Int->Int->((Sl Int)×Int)) (iv7:Int) (jv7:Int) (zfB:Int):((Sl Int)×Int) :=
  (cond (decide (jv7 < (zaa.len : Int)))
 (zr8 S6 S7 zaa iv7 jv7 (w64 (jv7+(1:Int))) zfB)
 (S6 (w64 (zfB+(1:Int)))))
def zjs (P6:Int->Bool) (zaa:(Sl Gate)) (P7:Int->Int->Int->Bool) (iv7:Int) (jv7:Int) (zfB:Int):Bool :=
  (cond (decide (jv7 < (zaa.len : Int)))
 (zr9 P6 P7 zaa iv7 jv7 (w64 (jv7+(1:Int))) zfB)
 (P6 (w64 (zfB+(1:Int)))))
def zfj (S6:Int->((Sl Int)×Int)) (zaa:(Sl Gate)):Nat->Int->Int->Int->((Sl Int)×Int):=lpO (λ _ _ _=>default) (zjr S6 zaa)
def zfk (P6:Int->Bool) (zaa:(Sl Gate)):Nat->Int->Int->Int->Bool:=lpO (λ _ _ _=>false) (zjs P6 zaa)
def zsa (S6:Int->((Sl Int)×Int)) (zaa:(Sl Gate)) (iv7:Int) (jv7:Int) (zfB:Int):((Sl Int)×Int):=zfj S6 zaa Fuel iv7 jv7 zfB
def zsb (P6:Int->Bool) (zaa:(Sl Gate)) (iv7:Int) (jv7:Int) (zfB:Int):Bool:=zfk P6 zaa Fuel iv7 jv7 zfB
theorem zHj (hX6:zyG K zaa X6 P6 S6) (hs:zsb P6 zaa iv7 jv7 zfB=true) (hk:K (e18 (zsa S6 zaa iv7 jv7 zfB))):z18 (Wk K) [1,1,1,1,0,1,0,0,1,1,0,0,1,1,0] [X6] (zET zaa iv7 jv7 zfB) :=
  zl (λ X=>z18 (Wk K) [1,1,1,1,0,1,0,0,1,1,0,0,1,1,0,0] [X6,X]) (by kernel_rfl) λ X7 hX =>
  (show ∀ k, zDL K zaa X7 (zfk P6 zaa k) (zfj S6 zaa k) from zgw _ _ (zjs P6 zaa) (zjr S6 zaa) (zDL K zaa X7)
 (by intro _ _ _ hs;exact absurd hs dqk)
 (by intro P7 S7 hX7 iv7 jv7 zfB hs hk;exact hX _ (zaN (by kernel_rfl) (zc hs hk (λ hs hk=>(zHi hX6 hX7 hs hk)) (λ hs hk=>(hX6 hs hk)))))) _ hs hk
def zjt (zaa:(Sl Gate)) (S6:Int->((Sl Int)×Int)) (zeD:Int):((Sl Int)×Int) :=
  (cond (decide (zeD < (zaa.len : Int)))
 (zsa S6 zaa zeD (w64 (zeD+(1:Int))) zeD)
 ((⟨0,λ _=>default⟩:(Sl Int)),(7:Int)))
def zju (zaa:(Sl Gate)) (P6:Int->Bool) (zeD:Int):Bool :=
  (cond (decide (zeD < (zaa.len : Int)))
 (zsb P6 zaa zeD (w64 (zeD+(1:Int))) zeD)
 true)
def zeR (zaa:(Sl Gate)):Nat->Int->((Sl Int)×Int):=lpO (λ _=>default) (zjt zaa)
def zfl (zaa:(Sl Gate)):Nat->Int->Bool:=lpO (λ _=>false) (zju zaa)
def zsc (zaa:(Sl Gate)) (zeD:Int):((Sl Int)×Int):=zeR zaa Fuel zeD
def zsd (zaa:(Sl Gate)) (zeD:Int):Bool:=zfl zaa Fuel zeD
theorem zHk (hs:zsd zaa zeD=true) (hk:K (e18 (zsc zaa zeD))):z18 (Wk K) [1,1,1,1,0,1,0] [] (zES zaa zeD) :=
  zl (λ X=>z18 (Wk K) [1,1,1,1,0,1,0,0] [X]) (by kernel_rfl) λ X6 hX =>
  (show ∀ k, zyG K zaa X6 (zfl zaa k) (zeR zaa k) from zgw _ _ (zju zaa) (zjt zaa) (zyG K zaa X6)
 (by intro _ hs;exact absurd hs dqk)
 (by intro P6 S6 hX6 zeD hs hk;exact hX _ (zaN (by kernel_rfl) (zc hs hk (λ hs hk=>(zHj hX6 hs hk)) (λ hs hk=>((wk hk (zfa (.one (.nil _ _)) (zfa (.one (.rfl _)) zlL))):Wk K [.one (.nils),.one (.int .i64 (7:Int))])))))) _ hs hk
def zse (S2:Int->((Sl Int)×Int)) (S3:Int->Int->Int->((Sl Int)×Int)) (zaa:(Sl Gate)) (iv5:Int) (jv5:Int) (zr2:Int) (zr3:Bool):((Sl Int)×Int) :=
  (cond zr3
 ((⟨2,(zkk iv5 [iv5,jv5])⟩:(Sl Int)),(0:Int))
 (S3 iv5 (w64 (jv5+(1:Int))) zr2))
def zsf (P2:Int->Bool) (P3:Int->Int->Int->Bool) (zaa:(Sl Gate)) (iv5:Int) (jv5:Int) (zr2:Int) (zr3:Bool):Bool :=
  (cond zr3
 true
 (P3 iv5 (w64 (jv5+(1:Int))) zr2))
theorem zHl (hX2:zDK K zaa X2 P2 S2) (hX3:zHf K zaa X3 P3 S3) (hs:zsf P2 P3 zaa iv5 jv5 zr2 zr3=true) (hk:K (e18 (zse S2 S3 zaa iv5 jv5 zr2 zr3))):z18 (Wk K) [1,1,1,0,1,0,0,1,1,0,0,1,1,0,0,1,0,0,1] [X2,X3] ⟨[(0,zS enc_48 3 zaa),(4,zI (zaa.len:Int)),(5,zI iv5),(6,zI jv5),(15,zI (zaa.len:Int)),(16,zI zr2),(31,zB zr3)],[],[]⟩:=zaN (by kernel_rfl) (zc hs hk (λ hs hk=>((zfz (Eq.mpr (congrArg K (congrArg (λ (g_:Nat->List PV)=>([.one (.sl 2 1 g_),.one (.int .i64 (0:Int))]:List PA)) (zfV (enc:=zak) (x:=iv5) (y:=jv5) (r:=[])))) hk)):Wk K [.one (.sl 2 1 (zed [(zak iv5),(zak jv5)])),.one (.int .i64 (0:Int))])) (λ hs hk=>(hX3 hs hk)))
def zsg (zaa:(Sl Gate)):((Sl Int)×Int) :=
  (zsc zaa (0:Int))
def zsh (zaa:(Sl Gate)):Bool :=
  (zsd zaa (0:Int))
theorem zHm (hs:zsh zaa=true) (hk:K (e18 (zsg zaa))):z18 (Wk K) [1,1,1,1] [] ⟨[(0,zS enc_48 3 zaa),(4,zI (zaa.len:Int))],[],[]⟩:=zaN (by kernel_rfl) (zHk hs hk)
def zjv (S2:Int->((Sl Int)×Int)) (zaa:(Sl Gate)) (S3:Int->Int->Int->((Sl Int)×Int)) (iv3:Int) (jv3:Int) (zfA:Int):((Sl Int)×Int) :=
  (cond (decide (jv3 < (zaa.len : Int)))
 (zse S2 S3 zaa iv3 jv3 zfA (!(s39 zaa (⟨2,zb7 (zed [(zak iv3),(zak jv3)])⟩:(Sl Int)))))
 (S2 (w64 (zfA+(1:Int)))))
def zjw (P2:Int->Bool) (zaa:(Sl Gate)) (P3:Int->Int->Int->Bool) (iv3:Int) (jv3:Int) (zfA:Int):Bool :=
  (cond (decide (jv3 < (zaa.len : Int)))
 (decide ((p39 zaa (⟨2,zb7 (zed [(zak iv3),(zak jv3)])⟩:(Sl Int))=true)) &&
 (zsf P2 P3 zaa iv3 jv3 zfA (!(s39 zaa (⟨2,zb7 (zed [(zak iv3),(zak jv3)])⟩:(Sl Int))))))
 (P2 (w64 (zfA+(1:Int)))))
def zf4 (S2:Int->((Sl Int)×Int)) (zaa:(Sl Gate)):Nat->Int->Int->Int->((Sl Int)×Int):=lpO (λ _ _ _=>default) (zjv S2 zaa)
def zf5 (P2:Int->Bool) (zaa:(Sl Gate)):Nat->Int->Int->Int->Bool:=lpO (λ _ _ _=>false) (zjw P2 zaa)
def zsi (S2:Int->((Sl Int)×Int)) (zaa:(Sl Gate)) (iv3:Int) (jv3:Int) (zfA:Int):((Sl Int)×Int):=zf4 S2 zaa Fuel iv3 jv3 zfA
def zsj (P2:Int->Bool) (zaa:(Sl Gate)) (iv3:Int) (jv3:Int) (zfA:Int):Bool:=zf5 P2 zaa Fuel iv3 jv3 zfA
theorem zHn (hX2:zDK K zaa X2 P2 S2) (hs:zsj P2 zaa iv3 jv3 zfA=true) (hk:K (e18 (zsi S2 zaa iv3 jv3 zfA))):z18 (Wk K) [1,1,1,0,1,0,0,1,1,0,0,1,1,0] [X2] (zER zaa iv3 jv3 zfA) :=
  zl (λ X=>z18 (Wk K) [1,1,1,0,1,0,0,1,1,0,0,1,1,0,0] [X2,X]) (by kernel_rfl) λ X3 hX =>
  (show ∀ k, zHf K zaa X3 (zf5 P2 zaa k) (zf4 S2 zaa k) from zgw _ _ (zjw P2 zaa) (zjv S2 zaa) (zHf K zaa X3)
 (by intro _ _ _ hs;exact absurd hs dqk)
 (by intro P3 S3 hX3 iv3 jv3 zfA hs hk;exact hX _ (zaN (by kernel_rfl) (zc hs hk (λ hs hk=>(zaI hs λ hc hs=>And.intro (And.intro (zE enc_48 3 zaa.get) (And.intro ((zhm []):IsE zak 1 1 (zed [(zak iv3),(zak jv3)])) hc)) (zHl hX2 hX3 hs hk))) (λ hs hk=>(hX2 hs hk)))))) _ hs hk
def zjx (zaa:(Sl Gate)) (S2:Int->((Sl Int)×Int)) (zeC:Int):((Sl Int)×Int) :=
  (cond (decide (zeC < (zaa.len : Int)))
 (zsi S2 zaa zeC (w64 (zeC+(1:Int))) zeC)
 (zsg zaa))
def zjy (zaa:(Sl Gate)) (P2:Int->Bool) (zeC:Int):Bool :=
  (cond (decide (zeC < (zaa.len : Int)))
 (zsj P2 zaa zeC (w64 (zeC+(1:Int))) zeC)
 (zsh zaa))
def zfm (zaa:(Sl Gate)):Nat->Int->((Sl Int)×Int):=lpO (λ _=>default) (zjx zaa)
def zfn (zaa:(Sl Gate)):Nat->Int->Bool:=lpO (λ _=>false) (zjy zaa)
def zyH (zaa:(Sl Gate)) (zeC:Int):((Sl Int)×Int):=zfm zaa Fuel zeC
def zyI (zaa:(Sl Gate)) (zeC:Int):Bool:=zfn zaa Fuel zeC
theorem zHo (hs:zyI zaa zeC=true) (hk:K (e18 (zyH zaa zeC))):z18 (Wk K) [1,1,1,0,1,0] [] (zEQ zaa zeC) :=
  zl (λ X=>z18 (Wk K) [1,1,1,0,1,0,0] [X]) (by kernel_rfl) λ X2 hX =>
  (show ∀ k, zDK K zaa X2 (zfn zaa k) (zfm zaa k) from zgw _ _ (zjy zaa) (zjx zaa) (zDK K zaa X2)
 (by intro _ hs;exact absurd hs dqk)
 (by intro P2 S2 hX2 zeC hs hk;exact hX _ (zaN (by kernel_rfl) (zc hs hk (λ hs hk=>(zHn hX2 hs hk)) (λ hs hk=>(zHm hs hk)))))) _ hs hk
def zyJ (zaa:(Sl Gate)):((Sl Int)×Int) :=
  (zyH zaa (0:Int))
def zyK (zaa:(Sl Gate)):Bool :=
  (zyI zaa (0:Int))
theorem zHp (hs:zyK zaa=true) (hk:K (e18 (zyJ zaa))):z18 (Wk K) [1,1] [] ⟨[(0,zS enc_48 3 zaa)],[],[]⟩:=zaN (by kernel_rfl) (zHo hs hk)
def zyL (zaa:(Sl Gate)) (zaT:Bool):((Sl Int)×Int) :=
  (cond zaT
 ((⟨0,λ _=>default⟩:(Sl Int)),(2:Int))
 (zyJ zaa))
def zyM (zaa:(Sl Gate)) (zaT:Bool):Bool :=
  (cond zaT
 true
 (zyK zaa))
theorem zHq (hs:zyM zaa zaT=true) (hk:K (e18 (zyL zaa zaT))):z18 (Wk K) [1,0,1] [] ⟨[(0,zS enc_48 3 zaa),(12,zB zaT)],[],[]⟩:=zaN (by kernel_rfl) (zc hs hk (λ hs hk=>((wk hk (zfa (.one (.nil _ _)) (zfa (.one (.rfl _)) zlL))):Wk K [.one (.nils),.one (.int .i64 (2:Int))])) (λ hs hk=>(zHp hs hk)))
def s18 (zaa:(Sl Gate)):((Sl Int)×Int) :=
  (zyL zaa (!(s28 zaa)))
def p18 (zaa:(Sl Gate)):Bool :=
  (decide ((p28 zaa=true)) &&
 (zyM zaa (!(s28 zaa))))
end
theorem q18 (zaa:(Sl Gate)) (K:List PA->Prop) (hs:p18 zaa=true) (hk:K (e18 (s18 zaa))):vcFun Tryz.prog G18 zHe 18 [.one (.sl zaa.len 3 (λ i=>enc_48 (zaa.get i)))] (Wk K) :=
  zaN (by kernel_rfl) (zaI hs λ hc hs=>And.intro (And.intro (zE enc_48 3 zaa.get) hc) (zHq hs hk))
def zDM : List PA → COut
  | [.one (.sl zaU zcu zaV)]=>.det (IsE enc_48 3 zcu zaV/\p18 (⟨zaU,zaf zaV⟩:(Sl Gate))=true) [.one (.sl (((s18 (⟨zaU,zaf zaV⟩:(Sl Gate))).1).len) 1 (λ i=>zak (((s18 (⟨zaU,zaf zaV⟩:(Sl Gate))).1).get i))),.one (.int .i64 ((s18 (⟨zaU,zaf zaV⟩:(Sl Gate))).2))]
  | _=>.no
theorem zLY:zah Tryz.prog 18:=⟨_,rfl,rfl,by kernel_rfl⟩
theorem zQT:Ok Tryz.prog 18 zDM:=zgK zPv zLY λ args K h=>by
  unfold zDM at h
  split at h
  · rename_i zaU zcu zaV
    obtain⟨⟨⟨rfl,zbF,rfl⟩,hs⟩,hk⟩:=h
    try rw[zae zbF] at hs
    try rw[zae zbF] at hk
    exact⟨_,zgn zgJ _,(λ _ _=>[]),(λ _=>false),zHe,q18 (⟨zaU,zbF⟩:(Sl Gate)) K hs hk⟩
  · exact h.elim
abbrev T9:Tabs:=Tabs.nil
theorem zRC:TabsOk Tryz.prog T9:=TabsOk.nil
abbrev G9:Ctrs:=csm T9 (λ _ _=>[]) (λ _=>false)
def zPw:Ann:=⟨46,[(0,zK [0,1] []),(1,zK [0,1,5] []),(2,zK [0,1,5,15] []),(3,zK [0,1,5] []),(4,zK [0,1,5,26] []),(5,zK [4] []),(6,zK [0,1,5,35] []),(7,zK [4] []),(8,zK [0,1,40] []),(9,zK [4] []),(10,zK [45] []),(11,zK [4] []),(12,zK [4] [])],
 [(2,zK [0,1,5] [])],
 [(8,zK [0,1] [])],
 [],[]⟩
abbrev R9:=Int
abbrev e9 (r:R9):List PA:=[.one (.int .i64 r)]
@[irreducible] def z9:=ptF Tryz.prog G9 zPw Tryz.f9
def zLZ (a:(Sl Int)) (b:(Sl Int)) (iv0:Int):St:=⟨[(0,zS zak 1 a),(1,zS zak 1 b),(5,zI iv0)],[],[]⟩
abbrev zQU (K:List PA->Prop) (a:(Sl Int)) (b:(Sl Int)) (X:St->Prop) (P:Int->Bool) (S:Int->Int):Prop:=∀ ⦃iv0:Int⦄,P iv0=true->K (e9 (S iv0))->X (zLZ a b iv0)
section
variable {K:List PA->Prop}{a:(Sl Int)}{b:(Sl Int)}{iv0:Int}{X0:St->Prop}{P0:Int->Bool}{S0:Int->Int}
def zyN (a:(Sl Int)) (b:(Sl Int)):Int :=
  (cond (decide ((a.len : Int) < (b.len : Int)))
 (-1:Int)
 (cond (decide ((a.len : Int) > (b.len : Int)))
 (1:Int)
 (0:Int)))
theorem zEV (hk:K (e9 (zyN a b))):z9 K [1,1] [] ⟨[(0,zS zak 1 a),(1,zS zak 1 b)],[],[]⟩:=zaN (by kernel_rfl) (zt hk (λ hk=>hk) (λ hk=>(zt hk (λ hk=>hk) (λ hk=>hk))))
def zEW (a:(Sl Int)) (b:(Sl Int)) (S0:Int->Int) (iv0:Int):Int :=
  (cond (decide (iv0 < (a.len : Int)))
 (cond (decide (iv0 < (b.len : Int)))
 (cond (decide ((a.get iv0.toNat) < (b.get iv0.toNat)))
 (-1:Int)
 (cond (decide ((a.get iv0.toNat) > (b.get iv0.toNat)))
 (1:Int)
 (S0 (w64 (iv0+(1:Int))))))
 (zyN a b))
 (zyN a b))
def zEX (a:(Sl Int)) (b:(Sl Int)) (P0:Int->Bool) (iv0:Int):Bool :=
  (cond (decide (iv0 < (a.len : Int)))
 (cond (decide (iv0 < (b.len : Int)))
 (decide ((0<=iv0/\iv0 < (a.len:Int))) &&
 (decide ((0<=iv0/\iv0 < (b.len:Int))) &&
 (cond (decide ((a.get iv0.toNat) < (b.get iv0.toNat)))
 true
 (decide ((0<=iv0/\iv0 < (a.len:Int))) &&
 (decide ((0<=iv0/\iv0 < (b.len:Int))) &&
 (cond (decide ((a.get iv0.toNat) > (b.get iv0.toNat)))
 true
 (P0 (w64 (iv0+(1:Int))))))))))
 true)
 true)
def zEY (a:(Sl Int)) (b:(Sl Int)):Nat->Int->Int:=lpO (λ _=>default) (zEW a b)
def zEZ (a:(Sl Int)) (b:(Sl Int)):Nat->Int->Bool:=lpO (λ _=>false) (zEX a b)
def zE0 (a:(Sl Int)) (b:(Sl Int)) (iv0:Int):Int:=zEY a b Fuel iv0
def zE1 (a:(Sl Int)) (b:(Sl Int)) (iv0:Int):Bool:=zEZ a b Fuel iv0
theorem zL0 (hs:zE1 a b iv0=true) (hk:K (e9 (zE0 a b iv0))):z9 K [1,0,1,0] [] (zLZ a b iv0) :=
  zl (λ X=>z9 K [1,0,1,0,0] [X]) (by kernel_rfl) λ X0 hX =>
  (show ∀ k, zQU K a b X0 (zEZ a b k) (zEY a b k) from zgw _ _ (zEX a b) (zEW a b) (zQU K a b X0)
 (by intro _ hs;exact absurd hs dqk)
 (by intro P0 S0 hX0 iv0 hs hk;exact hX _ (zaN (by kernel_rfl) (zc hs hk (λ hs hk=>(zc hs hk (λ hs hk=>(zaI hs λ hc hs=>And.intro hc (zaI hs λ hc hs=>And.intro hc (zc hs hk (λ hs hk=>hk) (λ hs hk=>(zaI hs λ hc hs=>And.intro hc (zaI hs λ hc hs=>And.intro hc (zc hs hk (λ hs hk=>hk) (λ hs hk=>(hX0 hs hk)))))))))) (λ hs hk=>(zEV hk)))) (λ hs hk=>(zEV hk)))))) _ hs hk
def s9 (a:(Sl Int)) (b:(Sl Int)):Int :=
  (zE0 a b (0:Int))
def p9 (a:(Sl Int)) (b:(Sl Int)):Bool :=
  (zE1 a b (0:Int))
end
theorem q9 (a:(Sl Int)) (b:(Sl Int)) (K:List PA->Prop) (hs:p9 a b=true) (hk:K (e9 (s9 a b))):vcFun Tryz.prog G9 zPw 9 [.one (.sl a.len 1 (λ i=>zak (a.get i))),.one (.sl b.len 1 (λ i=>zak (b.get i)))] K :=
  zaN (by kernel_rfl) (zL0 hs hk)
def zPx : List PA → COut
  | [.one (.sl zaU zcu zaV),.one (.sl zet zj9 zeu)]=>.det (IsE zak 1 zcu zaV/\IsE zak 1 zj9 zeu/\p9 (⟨zaU,zb7 zaV⟩:(Sl Int)) (⟨zet,zb7 zeu⟩:(Sl Int))=true) [.one (.int .i64 (s9 (⟨zaU,zb7 zaV⟩:(Sl Int)) (⟨zet,zb7 zeu⟩:(Sl Int))))]
  | _=>.no
theorem call9:zah Tryz.prog 9:=⟨_,rfl,rfl,by kernel_rfl⟩
theorem ok9:Ok Tryz.prog 9 zPx:=za3 zRC call9 λ args K h=>by
  unfold zPx at h
  split at h
  · rename_i zaU zcu zaV zet zj9 zeu
    obtain⟨⟨⟨rfl,zbF,rfl⟩,⟨rfl,zhn,rfl⟩,hs⟩,hk⟩:=h
    try rw[zby zbF] at hs
    try rw[zby zbF] at hk
    try rw[zby zhn] at hs
    try rw[zby zhn] at hk
    exact⟨(λ _ _=>[]),(λ _=>false),zPw,q9 (⟨zaU,zbF⟩:(Sl Int)) (⟨zet,zhn⟩:(Sl Int)) K hs hk⟩
  · exact h.elim
abbrev T41:Tabs:=Tabs.nil
theorem zPy:TabsOk Tryz.prog T41:=TabsOk.nil
abbrev G41:Ctrs:=csm T41 (λ _ _=>[]) (λ _=>false)
def zL1:Ann:=⟨3,[(0,zK [] []),(1,zK [2] [])],
 [],
 [],
 [],[]⟩
abbrev R41:=Bool
abbrev e41 (r:R41):List PA:=[.one (.bool r)]
section
variable {K:List PA->Prop}{zDN:list}
def s41 (zDN:list):Bool :=
  false
end
theorem q41 (zDN:list) (K:List PA->Prop) (hk:K (e41 (s41 zDN))):vcFun Tryz.prog G41 zL1 41 [.agg (zdN zDN)] K :=
  zaN (by kernel_rfl) hk
def zHr : List PA → COut
  | [.agg [.sl za9 zb8 zba]]=>.det (IsE enc_48 3 zb8 zba) [.one (.bool (s41 (⟨(⟨za9,zaf zba⟩:(Sl Gate))⟩:list)))]
  | _=>.no
theorem zL2:zah Tryz.prog 41:=⟨_,rfl,rfl,by kernel_rfl⟩
theorem zRD:Ok Tryz.prog 41 zHr:=za3 zPy zL2 λ args K h=>by
  unfold zHr at h
  split at h
  · rename_i za9 zb8 zba
    obtain⟨⟨rfl,zbH,rfl⟩,hk⟩:=h
    try rw[zae zbH] at hk
    exact⟨(λ _ _=>[]),(λ _=>false),zL1,q41 (⟨(⟨za9,zbH⟩:(Sl Gate))⟩:list) K hk⟩
  · exact h.elim
abbrev T45:Tabs:=Tabs.nil
theorem zPz:TabsOk Tryz.prog T45:=TabsOk.nil
abbrev G45:Ctrs:=csm T45 (λ _ _=>[]) (λ _=>false)
def zL3:Ann:=⟨11,[(0,zK [1,2] [2]),(1,zK [3] [])],
 [],
 [],
 [],[]⟩
abbrev R45:=Bool
abbrev e45 (r:R45):List PA:=[.one (.bool r)]
section
variable {K:List PA->Prop}{c0:Int}{l_a0:list}
def s45 (c0:Int) (l_a0:list):Bool :=
  ((l_a0.Gates.get 0).Z == c0)
def p45 (c0:Int) (l_a0:list):Bool :=
  (decide ((0<=(0:Int)/\(0:Int) < (l_a0.Gates.len:Int))) &&
 true)
end
theorem q45 (c0:Int) (l_a0:list) (K:List PA->Prop) (hs:p45 c0 l_a0=true) (hk:K (e45 (s45 c0 l_a0))):vcFun Tryz.prog G45 zL3 45 [.agg (zdN l_a0),.one (.fp (zak c0) 0)] K :=
  zaN (by kernel_rfl) (zaI hs λ hc hs=>And.intro hc hk)
def zHs : List PA → COut
  | [.agg [.sl za9 zb8 zba],.one (.fp [.int .i64 c0] 0)]=>.det (IsE enc_48 3 zb8 zba/\p45 c0 (⟨(⟨za9,zaf zba⟩:(Sl Gate))⟩:list)=true) [.one (.bool (s45 c0 (⟨(⟨za9,zaf zba⟩:(Sl Gate))⟩:list)))]
  | _=>.no
theorem zL4:zah Tryz.prog 45:=⟨_,rfl,rfl,by kernel_rfl⟩
theorem zRE:Ok Tryz.prog 45 zHs:=za3 zPz zL4 λ args K h=>by
  unfold zHs at h
  split at h
  · rename_i za9 zb8 zba c0
    obtain⟨⟨⟨rfl,zbH,rfl⟩,hs⟩,hk⟩:=h
    try rw[zae zbH] at hs
    try rw[zae zbH] at hk
    exact⟨(λ _ _=>[]),(λ _=>false),zL3,q45 c0 (⟨(⟨za9,zbH⟩:(Sl Gate))⟩:list) K hs hk⟩
  · exact h.elim
abbrev T40:Tabs:=((((((Tabs.nil.addF 28 zqb).addF 41 zHr).addF 45 zHs).addF 47 zyA).addF 48 zyD).addF 49 zqd)
theorem zPA:TabsOk Tryz.prog T40:=((((((TabsOk.nil.addF zKo).addF zRD).addF zRE).addF zPq).addF zPt).addF zKp)
abbrev G40:Ctrs:=csm T40 (λ _ _=>[]) (λ _=>false)
def zHt:Ann:=⟨31,[(0,zK [0,1,4] [4]),(1,zK [0,1,4,9] [4]),(2,zK [4,5] [4]),(3,zK [1,4,6] [4,6]),(4,zK [1,4,6,13] [4,6]),(5,zK [4,5] [4]),(6,zK [4,6,18] [4,6]),(7,zK [4,5] [4]),(8,zK [4,5] [4])],
 [],
 [(3,zK [0,1,4] [4])],
 [],[]⟩
abbrev R40:=(set×Int)
abbrev e40 (r:R40):List PA:=[.agg [.sl r.1.list.Gates.len 3 (λ i=>enc_48 (r.1.list.Gates.get i)),.sl r.1.corners.len 3 (λ i=>zaz (r.1.corners.get i))],.one (.int .i64 r.2)]
@[irreducible] def z40:=ptF Tryz.prog G40 zHt Tryz.f40
section
variable {K:List PA->Prop}{zaa:(Sl Gate)}
def zyO (zaa:(Sl Gate)):(set×Int) :=
  (cond (!(s48 (s47 zaa)))
 ((⟨(⟨(⟨0,λ _=>default⟩:(Sl Gate))⟩:list),(⟨0,λ _=>default⟩:(Sl straight))⟩:set),(5:Int))
 (cond (s49 ((s47 zaa).list))
 (cond (!(s41 ((s47 zaa).list)))
 ((⟨(⟨(⟨0,λ _=>default⟩:(Sl Gate))⟩:list),(⟨0,λ _=>default⟩:(Sl straight))⟩:set),(6:Int))
 ((s47 zaa),(0:Int)))
 ((s47 zaa),(0:Int))))
def zyP (zaa:(Sl Gate)):Bool :=
  (decide ((p47 zaa=true)) &&
 (decide ((p48 (s47 zaa)=true)) &&
 (cond (!(s48 (s47 zaa)))
 true
 (decide ((p49 ((s47 zaa).list)=true)) &&
 true))))
theorem zHu (hs:zyP zaa=true) (hk:K (e40 (zyO zaa))):z40 (Wk K) [1,1] [] ⟨[(0,zS enc_48 3 zaa),(1,zP (.fn 41 [] [])),(4,zp 4 0)],[(4,.box 75 [.p (.nils),.p (.nils)])],[]⟩:=zaN (by kernel_rfl) (zaI hs λ hc hs=>And.intro (And.intro (zE enc_48 3 zaa.get) hc) (zaI hs λ hc hs=>And.intro (And.intro (zE enc_48 3 ((s47 zaa).list.Gates.get)) (And.intro (zE zaz 3 ((s47 zaa).corners.get)) hc)) (zc hs hk (λ hs hk=>((wk hk (zfa (.agg (zfa (.nil _ _) (zfa (.nil _ _) zlL))) (zfa (.one (.rfl _)) zlL))):Wk K [.agg [.nils,.nils],.one (.int .i64 (5:Int))])) (λ hs hk=>(zaI hs λ hc hs=>And.intro (And.intro (zE enc_48 3 ((s47 zaa).list.Gates.get)) hc) (zt hk (λ hk=>(And.intro (zE enc_48 3 ((s47 zaa).list.Gates.get)) (zt hk (λ hk=>((wk hk (zfa (.agg (zfa (.nil _ _) (zfa (.nil _ _) zlL))) (zfa (.one (.rfl _)) zlL))):Wk K [.agg [.nils,.nils],.one (.int .i64 (6:Int))])) (λ hk=>((zfz hk):Wk K [.agg [.sl ((s47 zaa).list.Gates.len) 3 (λ i=>enc_48 ((s47 zaa).list.Gates.get i)),.sl ((s47 zaa).corners.len) 3 (λ i=>zaz ((s47 zaa).corners.get i))],.one (.int .i64 (0:Int))]))))) (λ hk=>((zfz hk):Wk K [.agg [.sl ((s47 zaa).list.Gates.len) 3 (λ i=>enc_48 ((s47 zaa).list.Gates.get i)),.sl ((s47 zaa).corners.len) 3 (λ i=>zaz ((s47 zaa).corners.get i))],.one (.int .i64 (0:Int))]))))))))
def s40 (zaa:(Sl Gate)):(set×Int) :=
  (cond (!(s28 zaa))
 ((⟨(⟨(⟨0,λ _=>default⟩:(Sl Gate))⟩:list),(⟨0,λ _=>default⟩:(Sl straight))⟩:set),(2:Int))
 (zyO zaa))
def p40 (zaa:(Sl Gate)):Bool :=
  (decide ((p28 zaa=true)) &&
 (cond (!(s28 zaa))
 true
 (zyP zaa)))
end
theorem q40 (zaa:(Sl Gate)) (K:List PA->Prop) (hs:p40 zaa=true) (hk:K (e40 (s40 zaa))):vcFun Tryz.prog G40 zHt 40 [.one (.sl zaa.len 3 (λ i=>enc_48 (zaa.get i))),.one (.fn 41 [] [])] (Wk K) :=
  zaN (by kernel_rfl) (zaI hs λ hc hs=>And.intro (And.intro (zE enc_48 3 zaa.get) hc) (zc hs hk (λ hs hk=>((wk hk (zfa (.agg (zfa (.nil _ _) (zfa (.nil _ _) zlL))) (zfa (.one (.rfl _)) zlL))):Wk K [.agg [.nils,.nils],.one (.int .i64 (2:Int))])) (λ hs hk=>(zHu hs hk))))
abbrev zQV:Ctrs:=csm T40 (λ _ _=>[]) (λ _=>false)
def zyQ:Ann:=⟨31,[(0,zK [0,1,4] [4]),(1,zK [0,1,4,9] [4]),(2,zK [4,5] [4]),(3,zK [1,4,6] [4,6]),(4,zK [1,4,6,13] [4,6]),(5,zK [4,5] [4]),(6,zK [4,6,18] [4,6]),(7,zK [4,5] [4]),(8,zK [4,5] [4])],
 [],
 [(3,zK [0,1,4] [4])],
 [],[]⟩
abbrev zRF:=(set×Int)
abbrev zQW (r:zRF):List PA:=[.agg [.sl r.1.list.Gates.len 3 (λ i=>enc_48 (r.1.list.Gates.get i)),.sl r.1.corners.len 3 (λ i=>zaz (r.1.corners.get i))],.one (.int .i64 r.2)]
@[irreducible] def z40a:=ptF Tryz.prog zQV zyQ Tryz.f40
section
variable {K:List PA->Prop}{c0:Int}{zaa:(Sl Gate)}
def zuI (c0:Int) (zaa:(Sl Gate)):(set×Int) :=
  (cond (!(s48 (s47 zaa)))
 ((⟨(⟨(⟨0,λ _=>default⟩:(Sl Gate))⟩:list),(⟨0,λ _=>default⟩:(Sl straight))⟩:set),(5:Int))
 (cond (s49 ((s47 zaa).list))
 (cond (!(s45 c0 ((s47 zaa).list)))
 ((⟨(⟨(⟨0,λ _=>default⟩:(Sl Gate))⟩:list),(⟨0,λ _=>default⟩:(Sl straight))⟩:set),(6:Int))
 ((s47 zaa),(0:Int)))
 ((s47 zaa),(0:Int))))
def zuJ (c0:Int) (zaa:(Sl Gate)):Bool :=
  (decide ((p47 zaa=true)) &&
 (decide ((p48 (s47 zaa)=true)) &&
 (cond (!(s48 (s47 zaa)))
 true
 (decide ((p49 ((s47 zaa).list)=true)) &&
 (cond (s49 ((s47 zaa).list))
 (decide ((p45 c0 ((s47 zaa).list)=true)) &&
 true)
 true)))))
theorem zDO (hs:zuJ c0 zaa=true) (hk:K (zQW (zuI c0 zaa))):z40a (Wk K) [1,1] [] ⟨[(0,zS enc_48 3 zaa),(1,zP (.fn 45 [] [.fp (zak c0) 0])),(4,zp 4 0)],[(4,.box 75 [.p (.nils),.p (.nils)])],[]⟩:=zaN (by kernel_rfl) (zaI hs λ hc hs=>And.intro (And.intro (zE enc_48 3 zaa.get) hc) (zaI hs λ hc hs=>And.intro (And.intro (zE enc_48 3 ((s47 zaa).list.Gates.get)) (And.intro (zE zaz 3 ((s47 zaa).corners.get)) hc)) (zc hs hk (λ hs hk=>((wk hk (zfa (.agg (zfa (.nil _ _) (zfa (.nil _ _) zlL))) (zfa (.one (.rfl _)) zlL))):Wk K [.agg [.nils,.nils],.one (.int .i64 (5:Int))])) (λ hs hk=>(zaI hs λ hc hs=>And.intro (And.intro (zE enc_48 3 ((s47 zaa).list.Gates.get)) hc) (zc hs hk (λ hs hk=>(zaI hs λ hc hs=>And.intro (And.intro (zE enc_48 3 ((s47 zaa).list.Gates.get)) hc) (zt hk (λ hk=>((wk hk (zfa (.agg (zfa (.nil _ _) (zfa (.nil _ _) zlL))) (zfa (.one (.rfl _)) zlL))):Wk K [.agg [.nils,.nils],.one (.int .i64 (6:Int))])) (λ hk=>((zfz hk):Wk K [.agg [.sl ((s47 zaa).list.Gates.len) 3 (λ i=>enc_48 ((s47 zaa).list.Gates.get i)),.sl ((s47 zaa).corners.len) 3 (λ i=>zaz ((s47 zaa).corners.get i))],.one (.int .i64 (0:Int))]))))) (λ hs hk=>((zfz hk):Wk K [.agg [.sl ((s47 zaa).list.Gates.len) 3 (λ i=>enc_48 ((s47 zaa).list.Gates.get i)),.sl ((s47 zaa).corners.len) 3 (λ i=>zaz ((s47 zaa).corners.get i))],.one (.int .i64 (0:Int))]))))))))
def zwB (c0:Int) (zaa:(Sl Gate)):(set×Int) :=
  (cond (!(s28 zaa))
 ((⟨(⟨(⟨0,λ _=>default⟩:(Sl Gate))⟩:list),(⟨0,λ _=>default⟩:(Sl straight))⟩:set),(2:Int))
 (zuI c0 zaa))
def zPB (c0:Int) (zaa:(Sl Gate)):Bool :=
  (decide ((p28 zaa=true)) &&
 (cond (!(s28 zaa))
 true
 (zuJ c0 zaa)))
end
theorem zRG (c0:Int) (zaa:(Sl Gate)) (K:List PA->Prop) (hs:zPB c0 zaa=true) (hk:K (zQW (zwB c0 zaa))):vcFun Tryz.prog zQV zyQ 40 [.one (.sl zaa.len 3 (λ i=>enc_48 (zaa.get i))),.one (.fn 45 [] [.fp (zak c0) 0])] (Wk K) :=
  zaN (by kernel_rfl) (zaI hs λ hc hs=>And.intro (And.intro (zE enc_48 3 zaa.get) hc) (zc hs hk (λ hs hk=>((wk hk (zfa (.agg (zfa (.nil _ _) (zfa (.nil _ _) zlL))) (zfa (.one (.rfl _)) zlL))):Wk K [.agg [.nils,.nils],.one (.int .i64 (2:Int))])) (λ hs hk=>(zDO hs hk))))
def zDP : List PA → COut
  | [.one (.sl zaU zcu zaV),.one (.fn 41 [] [])]=>.det (IsE enc_48 3 zcu zaV/\p40 (⟨zaU,zaf zaV⟩:(Sl Gate))=true) [.agg [.sl (((s40 (⟨zaU,zaf zaV⟩:(Sl Gate))).1).list.Gates.len) 3 (λ i=>enc_48 (((s40 (⟨zaU,zaf zaV⟩:(Sl Gate))).1).list.Gates.get i)),.sl (((s40 (⟨zaU,zaf zaV⟩:(Sl Gate))).1).corners.len) 3 (λ i=>zaz (((s40 (⟨zaU,zaf zaV⟩:(Sl Gate))).1).corners.get i))],.one (.int .i64 ((s40 (⟨zaU,zaf zaV⟩:(Sl Gate))).2))]
  | [.one (.sl zaU zcu zaV),.one (.fn 45 [] [.fp [.int .i64 c0] 0])]=>.det (IsE enc_48 3 zcu zaV/\zPB c0 (⟨zaU,zaf zaV⟩:(Sl Gate))=true) [.agg [.sl (((zwB c0 (⟨zaU,zaf zaV⟩:(Sl Gate))).1).list.Gates.len) 3 (λ i=>enc_48 (((zwB c0 (⟨zaU,zaf zaV⟩:(Sl Gate))).1).list.Gates.get i)),.sl (((zwB c0 (⟨zaU,zaf zaV⟩:(Sl Gate))).1).corners.len) 3 (λ i=>zaz (((zwB c0 (⟨zaU,zaf zaV⟩:(Sl Gate))).1).corners.get i))],.one (.int .i64 ((zwB c0 (⟨zaU,zaf zaV⟩:(Sl Gate))).2))]
  | _=>.no
theorem zL5:zah Tryz.prog 40:=⟨_,rfl,rfl,by kernel_rfl⟩
theorem zQX:Ok Tryz.prog 40 zDP:=zgK zPA zL5 λ args K h=>by
  unfold zDP at h
  split at h
  · rename_i zaU zcu zaV
    obtain⟨⟨⟨rfl,zbF,rfl⟩,hs⟩,hk⟩:=h
    try rw[zae zbF] at hs
    try rw[zae zbF] at hk
    exact⟨_,zgn zgJ _,(λ _ _=>[]),(λ _=>false),zHt,q40 (⟨zaU,zbF⟩:(Sl Gate)) K hs hk⟩
  · rename_i zaU zcu zaV c0
    obtain⟨⟨⟨rfl,zbF,rfl⟩,hs⟩,hk⟩:=h
    try rw[zae zbF] at hs
    try rw[zae zbF] at hk
    exact⟨_,zgn zgJ _,(λ _ _=>[]),(λ _=>false),zyQ,zRG c0 (⟨zaU,zbF⟩:(Sl Gate)) K hs hk⟩
  · exact h.elim
abbrev T64:Tabs:=Tabs.nil
theorem zPC:TabsOk Tryz.prog T64:=TabsOk.nil
abbrev G64:Ctrs:=csm T64 (λ _ _=>[]) (λ _=>false)
def zHv:Ann:=⟨8,[(0,zK [0] []),(1,zK [0,4] []),(2,zK [2] []),(3,zK [2] [5])],
 [],
 [],
 [],[]⟩
theorem zHw (n : Nat) (get : Nat → List PV) : zx7 Tryz.prog G64 zHv 64 [.one (.sl n 3 get)] 81 3 24 n get =
  ((True)/\(∃ r1:Bool,(n ≠ 0->r1=false))/\∀ r1:Bool,(n ≠ 0->r1=false) ->
 (zc9 r1
 (True/\n=0)
 ((((0+n) * 24<=140737488355328/\0+n<=9223372036854775807)) /\
 (True/\81=81/\3=3/\24=24/\(0+n)=n/\∀ i,i < n->(appG 0 (zed []) get) i=get i)))):=by kernel_rfl
abbrev zL6:OwnK:=.clone 81 3 24
theorem zL7:zah Tryz.prog 64:=⟨_,rfl,rfl,by kernel_rfl⟩
theorem zRH:zgF Tryz.prog 64 zL6:=zyb zPC zL7 λ n get h1 h2=>by
  refine⟨λ _ _=>[],λ _=>false,zHv,?_⟩
  show zx7 Tryz.prog G64 zHv 64 _ _ _ _ _ _
  rw[zHw]
  refine⟨trivial,⟨decide (n=0),λ h=>decide_eq_false h⟩,λ r1 hr=>?_⟩
  cases r1
  · refine⟨⟨by omega,by omega⟩,trivial,rfl,rfl,rfl,Nat.zero_add n,λ i _=>rfl⟩
  · exact⟨trivial,Classical.byContradiction λ h=>by simpa using hr h⟩
end Go.Proofs
namespace Go.Pm
section perm
variable {c:Nat->Nat->Int}
theorem ziI (x : Nat) : ∀ l : List Nat, (zCN c x l).Perm (x :: l)
  | []=>.refl _
  | y :: r=>by
    unfold zCN
    split
    · exact .refl _
    · exact ((ziI x r).cons y).trans (.swap _ _ _)
theorem zeG (n:Nat):(zfg n c).Perm (List.range n):=by
 unfold zfg
 generalize List.range n=l
 induction l with
 | nil=>exact .refl _
 | cons x l ih=>exact (ziI x _).trans (ih.cons x)
def leB (c:Nat->Nat->Int) (a b:Nat):Prop:=¬ c b a < 0
theorem zyR {n : Nat} (H : STO n c) {x : Nat} (hx : x < n) : ∀ {l : List Nat}, (∀ y ∈ l, y < n) → l.Pairwise (leB c) → (zCN c x l).Pairwise (leB c)
  | [],_,_=>by simp[zCN]
  | y :: r,hl,hp=>by
    have hy:=hl y dqj
    rw[List.pairwise_cons] at hp
    unfold zCN
    split
    · rename_i h
      have h:=of_decide_eq_true h
      rw[List.pairwise_cons]
      refine⟨λ z hz=>?_,List.pairwise_cons.2 hp⟩
      have hxy:leB c x y:=λ h2=>by
        have:=H.1 x hx
        have:=H.2.2 x y x hx hy hx h h2
        omega
      rcases dqq.1 hz with rfl | hz
      · exact hxy
      · intro h2
        exact hp.1 z hz (H.2.2 z x y (hl z (dqf _ hz)) hx hy h2 h)
    · rename_i h
      have h:=of_decide_eq_false h
      rw[List.pairwise_cons]
      refine⟨λ z hz=>?_,zyR H hx (λ z hz=>hl z (dqf _ hz)) hp.2⟩
      rcases dqq.1 ((ziI x r).mem_iff.1 hz) with rfl | hz
      · exact h
      · exact hp.1 z hz
theorem zuK {n:Nat}(H:STO n c):(zfg n c).Pairwise (leB c):=by
 have key:∀ l:List Nat,(∀ y∈l,y < n)->(l.foldr (zCN c) []).Pairwise (leB c)/\∀ y∈l.foldr (zCN c) [],y < n:=by
  intro l
  induction l with
  | nil=>intro _;exact⟨List.Pairwise.nil,λ y hy=>by simp at hy⟩
  | cons x l ih =>
   intro h
   obtain⟨h1,h2⟩:=ih λ y hy=>h y (dqf _ hy)
   have hx:=h x dqj
   refine⟨zyR H hx h2 h1,λ y hy=>?_⟩
   rcases dqq.1 ((ziI x _).mem_iff.1 hy) with rfl | hy
   ·exact hx
   ·exact h2 y hy
 exact (key _ λ y hy=>List.mem_range.1 hy).1
theorem zny {n:Nat}(H:STO n c){l:List Nat}(hp:l.Perm (List.range n)) (hs:l.Pairwise (leB c)):l=zfg n c:=by
 refine List.Perm.eq_of_pairwise (le:=leB c) (λ a b ha hb h1 h2=>?_) hs (zuK H) (hp.trans (zeG n).symm)
 have ha:=List.mem_range.1 (hp.mem_iff.1 ha)
 have hb:=List.mem_range.1 ((zeG n).mem_iff.1 hb)
 by_cases e:a=b
 ·exact e
 ·rcases H.2.1 a b ha hb e with h | h
  ·exact absurd h.1 h2
  ·exact absurd h.1 h1
end perm
end Go.Pm
namespace Go.Pm
variable [DrawZ]
open Go.Shelf Go.RowKit Go.Lib Go.Sort Go.Proofs


theorem zyS {w w':World}(h1:w'.heap=w.heap) (h2:w'.tape=w.tape) (h3:w'.drawn=w.drawn) (h4:w'.os=w.os) (h5:w'.output=w.output):w'=w:=by
 cases w;cases w';simp_all
theorem zuL {w w':World}{h:Fz}(b : @Bel ⟨1⟩ h w.heap.size w w') (hi:∀ k F,h k ≠ some (.inv F)):∃ q os,w'=grow (w.drewN q) os:=by
 obtain⟨bos,btape,bout,bsize,bdrawn,bblock⟩:=b
 refine⟨w'.drawn - w.drawn,w'.heap.extract w.heap.size w'.heap.size,zyS ?_ btape ?_ bos bout⟩
 ·show w'.heap = w.heap ++ w'.heap.extract w.heap.size w'.heap.size
  apply Array.ext_getElem?
  intro i
  rw[Array.getElem?_append]
  split
  ·rename_i hl;exact bblock i hl (λ F=>hi i F)
  ·rename_i hl
   rw[Array.getElem?_extract]
   by_cases hlt:i < w'.heap.size
   ·rw[if_pos (by omega)];congr 1;omega
   ·rw[if_neg (by omega),Array.getElem?_eq_none (by omega)]
 ·show w'.drawn = w.drawn + (w'.drawn - w.drawn)
  have:w.drawn * 1<=w'.drawn * 1:=bdrawn
  omega

theorem zqg {w : World} {g q : Nat} {cur : Array Value} {e : TypeId} {fr : Nat × Nat} {off : Nat} (F : Array Value) (hb : w.heap[g]? = some (.cells cur e fr)) :
  ∃ cur',(putRow id (Sort.ahead w q) g off F).heap[g]? = some (.cells cur' e fr)/\cur'.size=cur.size:=by
 refine⟨putCells id off F cur,?_,by simp[putCells]⟩
 simp[putRow,mapBlock,Sort.ahead,Array.getElem?_modify,hb,onCells]
theorem zlY {w:World}{g q off:Nat}(F:Array Value){k:Nat}(hk:k ≠ g):(putRow id (Sort.ahead w q) g off F).heap[k]? = w.heap[k]?:=by
 simp[putRow,mapBlock,Sort.ahead,Array.getElem?_modify,Ne.symm hk]

theorem zyT {P:Program}{ρ:Ren}(L:SlLaysF0.n6 P ρ){e s b:Nat}(he:ρ.t 24=e) (hag:zfe P e=some true) (hsz:szT P e=some s) (hM : ¬ zm3) (hc:zah P (ρ.f 6)):zgF P (ρ.f 6) (.sort e s b):=by
 intro w h base v n get gf caps cv ag C hC hcv hag' _ hpos ⟨xs,hown,hr⟩ hone hw hgl hob hbase hn hS hO
 rw[hag] at hag';simp only[dqa] at hag';subst hag'
 refine⟨hc,?_⟩
 have hni:∀ k F,h k ≠ some (.inv F):=λ k F hk=>by obtain⟨o,_,ho⟩:=hw k _ hk;exact hM ho.2
 have hdr:∀ (w':World) (k:Nat),w.drawn<=w.drawn+k:=λ _ k=>Nat.le_add_right _ _
 have none:∀ (p:Option Addr) (cap:Nat),n=0->v=.slice p 0 cap->Calls P (ρ.f 6) #[v,.func (.func gf) #[] cv.toArray] w λ r w'=>r=.returned (.tuple #[])/\zt0 h w' base e s v n (zgp n (zpo C caps true get) get)/\GrB w w' v.ownBlock:=by
  rintro p cap rfl rfl
  refine (AnyF.slices_SortFunc_none L p cap _ w).mono ?_
  rintro r w' ⟨rfl,rfl⟩
  exact⟨rfl,⟨xs,hown,λ i hi=>absurd hi (dqW i)⟩,⟨rfl,rfl,rfl,dqt _,λ _ _ _=>rfl⟩,dqt _⟩
 rcases hown.2 with ⟨h1,h2⟩ | ⟨blk,cap,cur,rfl,hb,hcell,hncap,hcap,hcs,htk⟩
 ·exact none _ _ h2 h1
 by_cases hn0:n=0
 ·subst hn0;exact none _ _ rfl rfl
 have:Inhabited (Fin n):=⟨⟨0,by omega⟩⟩
 let enc:Fin n->List Value:=λ i=>(xs.drop (i.val * s)).take s
 let c:=zpo C caps true get
 let cf:Fin n->Fin n->Int:=λ x y=>c x.val y.val
 let d:Array (Fin n):=Array.ofFn id
 have hds:d.size=n:=Array.size_ofFn
 have hdi:∀ i (hi:i < n),d[i]! = ⟨i,hi⟩:=λ i hi=>by
  rw[getElem!_pos d i (by rw[hds];exact hi)];simp[d]
 have hlt:blk < w.heap.size:=(dqp.1 hcell).1
 have hbn:h blk=Option.none:=hob blk rfl
 have hmul:∀ i,i < n->i * s+s<=n * s:=λ i hi=>by have:=dqw s (Nat.succ_le_of_lt hi);rw[dqV] at this;exact this
 have hk:∀ x,(enc x).length=s:=λ x=>by
  have:=hmul x.val x.isLt
  simp only[enc,List.length_take,List.length_drop,hown.1];omega
 have hcur:∀ j,j < n * s->cur[j]? = xs[j]?:=λ j hj=>by
  have:(cur.toList.take (n * s))[j]? = xs[j]?:=by rw[htk]
  rw[dqs,if_pos hj] at this;simpa using this
 have hxl:∀ j,j < n * s->∃ u,xs[j]? = some u:=λ j hj=>⟨xs[j]'(by rw[hown.1];exact hj),dqD _⟩
 have h1:∀ x,∀ u∈enc x,u.oneCell'=true:=λ x u hu=>by
  obtain⟨j,hj⟩:=List.getElem?_of_mem hu
  obtain⟨p,_,hp⟩:=(hr x.val x.isLt).get' j u hj
  exact hp.one
 have hflat:∀ j (hj:j < n * s),(flatK enc s d)[j]! = xs[j]'(by rw[hown.1];exact hj):=λ j hj=>by
  have hq:j / s < n:=Nat.div_lt_of_lt_mul (by rw[Nat.mul_comm];exact hj)
  rw[get_flatK _ _ _ _ (by rw[hds];exact hj),hdi _ hq]
  have hm:=Nat.mod_lt j hpos
  have hdm:=Nat.div_add_mod j s
  rw[getElem!_pos _ _ (by rw[hk];exact hm)]
  simp only[enc,List.getElem_take,List.getElem_drop]
  congr 1
  rw[Nat.mul_comm];exact hdm
 have hH:HoldsK enc s w blk 0 d:=λ j hj=>by
  have hj:j < n * s:=by rw[size_flatK,hds] at hj;exact hj
  refine⟨?_,frozen_of_row w blk _ cur e hcell⟩
  rw[hflat j hj,cell_of hcell,Nat.zero_add,hcur j hj]
  exact dqD _
 have eg:∀ args w,(callFunc gf args).run P w=.ok (.enter gf args) w:=by
  have hcg:zah P gf:=by
   have hs0:=hS 0 0 (by omega) (by omega)
   unfold zwJ at hs0
   split at hs0
   ·rename_i s0 c0 hat
    have hwp:(C (elP true (get 0) :: elP true (get 0) :: caps.map .one)).wp (λ _=>True):=by
     unfold zvO at hat
     split at hat
     ·rename_i e1;rw[e1];trivial
     ·rename_i e1;simp only[dqa,dqh] at hat;rw[e1];exact⟨by rw[hat.1];exact hs0,trivial⟩
     ·cases hat
    exact (hC _ _ hwp w h (.agg (enc ⟨0,by omega⟩).toArray :: .agg (enc ⟨0,by omega⟩).toArray :: cv) ⟨⟨_,rfl,hr 0 (by omega)⟩,⟨_,rfl,hr 0 (by omega)⟩,RL.map_left.2 hcv⟩ hw hgl).1
   ·exact hs0.elim
  exact λ args w=>zbG hcg
 have hcmp:CmpLays P gf cv.toArray enc s cf blk 0 d.size w:=by
  intro m os dk hdk x y
  have hs0:=hS x.val y.val x.isLt y.isLt
  unfold zwJ at hs0
  split at hs0
  ·rename_i s0 c0 hat
   have hwp:(C (elP true (get x.val) :: elP true (get y.val) :: caps.map .one)).wp (λ rs=>rs=[.one (.int .i64 (cf x y))]):=by
    have hcv:cf x y=c0:=by show zpo C caps true get x.val y.val=c0;unfold zpo;rw[hat]
    rw[hcv]
    unfold zvO at hat
    split at hat
    ·rename_i e1;simp only[dqa,dqh] at hat;rw[e1,hat.2];rfl
    ·rename_i e1;simp only[dqa,dqh] at hat;rw[e1,hat.2];exact⟨by rw[hat.1];exact hs0,rfl⟩
    ·cases hat
   have hwh:Hw h (sortWorldK enc s w blk 0 m dk os):=hw.same λ k o hk=>by
    have hkb:k ≠ blk:=λ e=>by rw[e,hbn] at hk;cases hk
    have hkl:=hw.lt hk
    show ((putRow id (Sort.ahead w m) blk 0 (flatK enc s dk)).heap ++ os)[k]? = _
    rw[Array.getElem?_append_left (by simpa [putRow,mapBlock,Sort.ahead] using hkl)]
    exact zlY _ hkb
   obtain⟨_,hrun⟩:=hC _ _ hwp (sortWorldK enc s w blk 0 m dk os) h (.agg (enc x).toArray :: .agg (enc y).toArray :: cv) ⟨⟨_,rfl,hr x.val x.isLt⟩,⟨_,rfl,hr y.val y.isLt⟩,RL.map_left.2 hcv⟩ hwh hgl
   rw[show (#[Value.agg (enc x).toArray,.agg (enc y).toArray] ++ cv.toArray)=(Value.agg (enc x).toArray :: .agg (enc y).toArray :: cv).toArray by simp]
   refine hrun.mono ?_
   rintro e' w' ⟨h',rs,v',hrs,rfl,hres,hbel,_,_,_⟩
   subst hrs
   have hv':v'=.int .i64 (cf x y):=by
    have:Rep h' (.int .i64 (cf x y)) v':=hres
    cases this;rfl
   subst hv'
   exact⟨rfl,zuL hbel hni⟩
  ·exact hs0.elim
 have hSWO:SWO (ltOf cf):=by
  refine⟨λ x=>?_,λ x y z hxy hyz=>?_,λ x y z hxy hyz=>?_⟩
  ·have : 0 ≤ c x.val x.val := hO.1 x.val x.isLt
   simp only[ltOf,decide_eq_false_iff_not];show ¬ c x.val x.val < 0;omega
  ·simp only [ltOf, decide_eq_true_eq] at hxy hyz ⊢
   exact hO.2.2 _ _ _ x.isLt y.isLt z.isLt hxy hyz
  ·simp only [ltOf, decide_eq_false_iff_not] at hxy hyz ⊢
   intro hxz
   have hxy : ¬ c x.val y.val < 0:=hxy
   have hyz : ¬ c y.val z.val < 0:=hyz
   have hxz:c x.val z.val < 0:=hxz
   by_cases e1:y.val=z.val
   ·rw[e1] at hxy;exact hxy hxz
   ·by_cases e2 : x.val = y.val
    ·rw[e2] at hxz;exact hyz hxz
    ·have a1 : c z.val y.val < 0 := by rcases hO.2.1 y.val z.val y.isLt z.isLt e1 with h | h; exact absurd h.1 hyz; exact h.1
     exact hxy (hO.2.2 _ _ _ x.isLt z.isLt y.isLt hxz a1)
 have aE:∀ w,(isAgg (ρ.t 24)).run P w=.ok true w:=λ w=>by rw[he];exact zeO hag
 have zE:∀ w,(Go.sizeOf (ρ.t 24)).run P w=.ok s w:=λ w=>by rw[he];exact run_sizeOf hsz
 have hrun:=AnyQ.slices_SortFunc L s aE zE enc hk h1 cf hSWO gf cv.toArray blk 0 cap d w eg hcmp hH hlt (by rw[hds];omega)
 rw[hds] at hrun
 refine hrun.mono ?_
 rintro r w' ⟨rfl,d',m,os,hperm,hsort,rfl⟩
 obtain⟨hps,_,hpp⟩:=hperm
 have hd's:d'.size=n:=by rw[hps,hds]
 have hall:∀ (z:Array (Fin n)),z.size=n->z.extract 0 n=z:=λ z hz=>Array.ext (by simp[hz]) (λ i h1 h2=>by simp)
 rw[hall d' hd's,hall d hds] at hpp
 have hl:d'.toList.map Fin.val=zfg n c:=by
  refine zny hO ?_ ?_
  ·refine (hpp.map Fin.val).trans ?_
   have:d.toList.map Fin.val=List.range n:=by
    apply List.ext_getElem?
    intro i
    simp only[d,dqH]
    by_cases hi:i < n
    ·simp[hi]
    ·rw[dqM (by simp;omega),dqM (by simp;omega)];rfl
   rw[this]
  ·rw [List.pairwise_map, List.pairwise_iff_getElem]
   intro i j hi hj hij
   have hi':i < n:=by simpa [hd's] using hi
   have hj':j < n:=by simpa [hd's] using hj
   have:=hsort i j (Nat.zero_le _) hij hj'
   rw[getElem!_pos d' j (by omega),getElem!_pos d' i (by omega)] at this
   simp only[ltOf,decide_eq_false_iff_not] at this
   exact this
 have hget:∀ i (hi:i < n),zgp n c get i=get (d'[i]'(by omega)).val:=λ i hi=>by
  unfold zgp
  rw[<- hl]
  congr 1
  rw[List.getD_eq_getElem?_getD,dqH]
  simp[hd's,hi]
 obtain⟨cur',hcell',hsz'⟩:=zqg (q:=m) (off:=0) (flatK enc s d') hcell
 have hgrow:(sortWorldK enc s w blk 0 m d' os).heap[blk]? = some (.cells cur' e (0,0)):=by
  show ((putRow id (Sort.ahead w m) blk 0 (flatK enc s d')).heap ++ os)[blk]? = _
  rw[Array.getElem?_append_left (by simpa [putRow,mapBlock,Sort.ahead] using hlt)]
  exact hcell'
 have hH':HoldsK enc s (sortWorldK enc s w blk 0 m d' os) blk 0 d':=holdsK_sortWorldK_c enc s w blk 0 d d' m os hH hlt (by rw[hd's,hds])
 have hcur':∀ j (hj:j < n * s),cur'[j]? = some ((flatK enc s d')[j]!):=λ j hj=>by
  have:=(hH' j (by rw[size_flatK,hd's];exact hj)).1
  rw[cell_of hgrow,Nat.zero_add] at this
  exact this
 refine⟨rfl,⟨cur'.toList.take (n * s),⟨by rw[List.length_take,Array.length_toList,hsz',hcs];exact Nat.min_eq_left (dqw s hncap),.inr ⟨blk,cap,cur',rfl,hb,hgrow,hncap,hcap,by rw[hsz',hcs],rfl⟩⟩,λ i hi=>?_⟩,?_⟩
 ·have e1:((cur'.toList.take (n * s)).drop (i * s)).take s=enc (d'[i]'(by omega)):=by
   apply List.ext_getElem?
   intro j
   have hm:=hmul i hi
   rw[dqs]
   split
   ·rename_i hj
    rw[dqI,dqs,if_pos (by omega),Array.getElem?_toList,hcur' _ (by omega)]
    have hdiv:(i * s+j) / s=i:=by rw[Nat.mul_comm,Nat.mul_add_div hpos,Nat.div_eq_of_lt hj,Nat.add_zero]
    have hmod:(i * s+j) % s=j:=by rw[Nat.mul_comm,Nat.mul_add_mod,Nat.mod_eq_of_lt hj]
    rw[get_flatK _ _ _ _ (by rw[hd's];omega),hdiv,hmod,getElem!_pos d' i (by omega),getElem!_pos _ _ (by rw[hk];exact hj)]
    exact (dqD _).symm
   ·rename_i hj
    rw[dqM (by rw[hk];omega)]
  rw[e1,hget i hi]
  exact hr _ (d'[i]'(by omega)).isLt
 ·refine ⟨⟨rfl, rfl, rfl, ?_, fun k hk hne => ?_⟩, zj1 (Nat.le_add_right _ _)⟩
  ·show w.heap.size ≤ ((putRow id (Sort.ahead w m) blk 0 (flatK enc s d')).heap ++ os).size
   simp[putRow,mapBlock,Sort.ahead]
  ·show ((putRow id (Sort.ahead w m) blk 0 (flatK enc s d')).heap ++ os)[k]? = _
   rw[Array.getElem?_append_left (by simpa [putRow,mapBlock,Sort.ahead] using hk)]
   exact zlY _ λ e=>hne (by rw[e];rfl)
end Go.Pm
/-
  DERIVED: THE SHELF's CONTRACTS AT THIS DUMP,IN PLAIN WORDS (tools/lay-plain.mjs out of 'YtkilnbolehhcnaaGreatLayA.lean',which tools/lay-shelf.mjs wrote): THE SAME DECLARATIONS UNDER THE SAME NAMES: 'import','namespace','open','def','theorem' AND NOTHING ELSE: no command of the shelf's: FOR A HAND-IN. Each laying: the table of numbers ('.._ren') and one theorem,a field a fact of the dump's own or the kernel's comparison;each contract: ONE APPLICATION.
-/
namespace Go.Proofs
open Go.Shelf
def Tryz.laysS65_ren:Go.Shelf.Ren:=⟨fun | 6=>65 | 15=>80 | 14=>82 | 28=>99 | 29=>100 | 20=>101 | 21=>102 | 22=>103 | 23=>104 | 24=>105 | 25=>106 | 26=>107 | 27=>108 | 46=>114 | 47=>110 | 48=>111 | 49=>115 | 50=>116 | 57=>118 | n=>n,fun | 22=>73 | 24=>81 | 25=>105 | 3=>3 | 39=>117 | 0=>0 | 53=>134 | 55=>136 | 4=>4 | 46=>127 | 45=>126 | 50=>131 | 5=>5 | 9=>9 | 66=>142 | 70=>146 | 76=>150 | 77=>100 | n=>n,fun | n=>n⟩
theorem Tryz.laysS65 : Go.Proofs.SlLaysF0.n6 Tryz.prog Tryz.laysS65_ren := {
  mixed:=by kernel_rfl
  f6:=⟨Tryz.f65.name,by decide,Tryz.func65.trans (congrArg some (by kernel_rfl))⟩
  f14:=⟨Tryz.f82.name,by decide,Tryz.func82.trans (congrArg some (by kernel_rfl))⟩
  f15:=Tryz.func80.trans (congrArg some (by kernel_rfl))
  f20:=⟨Tryz.f101.name,by decide,Tryz.func101.trans (congrArg some (by kernel_rfl))⟩
  f21:=⟨Tryz.f102.name,by decide,Tryz.func102.trans (congrArg some (by kernel_rfl))⟩
  f22:=⟨Tryz.f103.name,by decide,Tryz.func103.trans (congrArg some (by kernel_rfl))⟩
  f23:=⟨Tryz.f104.name,by decide,Tryz.func104.trans (congrArg some (by kernel_rfl))⟩
  f24:=⟨Tryz.f105.name,by decide,Tryz.func105.trans (congrArg some (by kernel_rfl))⟩
  f25:=⟨Tryz.f106.name,by decide,Tryz.func106.trans (congrArg some (by kernel_rfl))⟩
  f26:=⟨Tryz.f107.name,by decide,Tryz.func107.trans (congrArg some (by kernel_rfl))⟩
  f27:=⟨Tryz.f108.name,by decide,Tryz.func108.trans (congrArg some (by kernel_rfl))⟩
  f28:=Tryz.func99.trans (congrArg some (by kernel_rfl))
  f29:=Tryz.func100.trans (congrArg some (by kernel_rfl))
  f46:=⟨Tryz.f114.name,by decide,Tryz.func114.trans (congrArg some (by kernel_rfl))⟩
  f47:=Tryz.func110.trans (congrArg some (by kernel_rfl))
  f48:=Tryz.func111.trans (congrArg some (by kernel_rfl))
  f49:=⟨Tryz.f115.name,by decide,Tryz.func115.trans (congrArg some (by kernel_rfl))⟩
  f50:=⟨Tryz.f116.name,by decide,Tryz.func116.trans (congrArg some (by kernel_rfl))⟩
  f57:=⟨Tryz.f118.name,by decide,Tryz.func118.trans (congrArg some (by kernel_rfl))⟩
  t0:=Tryz.underlying0
  a0:=Tryz.isAgg0
  z0:=Tryz.sizeOf0
  v0:=Tryz.zeroValue0
  t3:=Tryz.underlying3
  a3:=Tryz.isAgg3
  z3:=Tryz.sizeOf3
  v3:=Tryz.zeroValue3
  t4:=Tryz.underlying4
  a4:=Tryz.isAgg4
  z4:=Tryz.sizeOf4
  v4:=Tryz.zeroValue4
  t5:=Tryz.underlying5
  a5:=Tryz.isAgg5
  z5:=Tryz.sizeOf5
  v5:=Tryz.zeroValue5
  t9:=Tryz.underlying9
  a9:=Tryz.isAgg9
  z9:=Tryz.sizeOf9
  v9:=Tryz.zeroValue9
  t22:=Tryz.underlying73
  a22:=Tryz.isAgg73
  z22:=Tryz.sizeOf73
  v22:=Tryz.zeroValue73
  t25:=Tryz.underlying105
  a25:=Tryz.isAgg105
  z25:=Tryz.sizeOf105
  v25:=Tryz.zeroValue105
  t39:=Tryz.underlying117
  a39:=Tryz.isAgg117
  z39:=Tryz.sizeOf117
  v39:=Tryz.zeroValue117
  t45:=Tryz.underlying126
  a45:=Tryz.isAgg126
  z45:=Tryz.sizeOf126
  v45:=Tryz.zeroValue126
  t46:=Tryz.underlying127
  a46:=Tryz.isAgg127
  z46:=Tryz.sizeOf127
  v46:=Tryz.zeroValue127
  t50:=Tryz.underlying131
  a50:=Tryz.isAgg131
  z50:=Tryz.sizeOf131
  v50:=Tryz.zeroValue131
  t53:=Tryz.underlying134
  a53:=Tryz.isAgg134
  z53:=Tryz.sizeOf134
  v53:=Tryz.zeroValue134
  t55:=Tryz.underlying136
  a55:=Tryz.isAgg136
  z55:=Tryz.sizeOf136
  v55:=Tryz.zeroValue136
  t66:=Tryz.underlying142
  a66:=Tryz.isAgg142
  z66:=Tryz.sizeOf142
  v66:=Tryz.zeroValue142
  t70:=Tryz.underlying146
  a70:=Tryz.isAgg146
  z70:=Tryz.sizeOf146
  v70:=Tryz.zeroValue146
  t76:=Tryz.underlying150
  a76:=Tryz.isAgg150
  z76:=Tryz.sizeOf150
  v76:=Tryz.zeroValue150
  t77:=Tryz.underlying100
  a77:=Tryz.isAgg100
  z77:=Tryz.sizeOf100
  v77:=Tryz.zeroValue100 }
def Tryz.laysS58_ren:Go.Shelf.Ren:=⟨fun | 6=>58 | 15=>80 | 14=>79 | 28=>99 | 29=>100 | 20=>91 | 21=>92 | 22=>93 | 23=>94 | 24=>95 | 25=>96 | 26=>97 | 27=>98 | 46=>109 | 47=>110 | 48=>111 | 49=>112 | 50=>113 | 57=>117 | n=>n,fun | 22=>28 | 24=>24 | 25=>32 | 3=>3 | 39=>117 | 0=>0 | 53=>134 | 55=>136 | 4=>4 | 46=>127 | 45=>126 | 50=>131 | 5=>5 | 9=>9 | 66=>142 | 70=>146 | 76=>150 | 77=>100 | n=>n,fun | n=>n⟩
theorem Tryz.laysS58 : Go.Proofs.SlLaysF.n6 Tryz.prog Tryz.laysS58_ren := {
  mixed:=by kernel_rfl
  f6:=⟨Tryz.f58.name,by decide,Tryz.func58.trans (congrArg some (by kernel_rfl))⟩
  f14:=⟨Tryz.f79.name,by decide,Tryz.func79.trans (congrArg some (by kernel_rfl))⟩
  f15:=Tryz.func80.trans (congrArg some (by kernel_rfl))
  f20:=⟨Tryz.f91.name,by decide,Tryz.func91.trans (congrArg some (by kernel_rfl))⟩
  f21:=⟨Tryz.f92.name,by decide,Tryz.func92.trans (congrArg some (by kernel_rfl))⟩
  f22:=⟨Tryz.f93.name,by decide,Tryz.func93.trans (congrArg some (by kernel_rfl))⟩
  f23:=⟨Tryz.f94.name,by decide,Tryz.func94.trans (congrArg some (by kernel_rfl))⟩
  f24:=⟨Tryz.f95.name,by decide,Tryz.func95.trans (congrArg some (by kernel_rfl))⟩
  f25:=⟨Tryz.f96.name,by decide,Tryz.func96.trans (congrArg some (by kernel_rfl))⟩
  f26:=⟨Tryz.f97.name,by decide,Tryz.func97.trans (congrArg some (by kernel_rfl))⟩
  f27:=⟨Tryz.f98.name,by decide,Tryz.func98.trans (congrArg some (by kernel_rfl))⟩
  f28:=Tryz.func99.trans (congrArg some (by kernel_rfl))
  f29:=Tryz.func100.trans (congrArg some (by kernel_rfl))
  f46:=⟨Tryz.f109.name,by decide,Tryz.func109.trans (congrArg some (by kernel_rfl))⟩
  f47:=Tryz.func110.trans (congrArg some (by kernel_rfl))
  f48:=Tryz.func111.trans (congrArg some (by kernel_rfl))
  f49:=⟨Tryz.f112.name,by decide,Tryz.func112.trans (congrArg some (by kernel_rfl))⟩
  f50:=⟨Tryz.f113.name,by decide,Tryz.func113.trans (congrArg some (by kernel_rfl))⟩
  f57:=⟨Tryz.f117.name,by decide,Tryz.func117.trans (congrArg some (by kernel_rfl))⟩
  t0:=Tryz.underlying0
  a0:=Tryz.isAgg0
  z0:=Tryz.sizeOf0
  v0:=Tryz.zeroValue0
  t3:=Tryz.underlying3
  a3:=Tryz.isAgg3
  z3:=Tryz.sizeOf3
  v3:=Tryz.zeroValue3
  t4:=Tryz.underlying4
  a4:=Tryz.isAgg4
  z4:=Tryz.sizeOf4
  v4:=Tryz.zeroValue4
  t5:=Tryz.underlying5
  a5:=Tryz.isAgg5
  z5:=Tryz.sizeOf5
  v5:=Tryz.zeroValue5
  t9:=Tryz.underlying9
  a9:=Tryz.isAgg9
  z9:=Tryz.sizeOf9
  v9:=Tryz.zeroValue9
  t22:=Tryz.underlying28
  a22:=Tryz.isAgg28
  z22:=Tryz.sizeOf28
  v22:=Tryz.zeroValue28
  a24:=Tryz.isAgg24
  z24:=Tryz.sizeOf24
  t25:=Tryz.underlying32
  a25:=Tryz.isAgg32
  z25:=Tryz.sizeOf32
  v25:=Tryz.zeroValue32
  t39:=Tryz.underlying117
  a39:=Tryz.isAgg117
  z39:=Tryz.sizeOf117
  v39:=Tryz.zeroValue117
  t45:=Tryz.underlying126
  a45:=Tryz.isAgg126
  z45:=Tryz.sizeOf126
  v45:=Tryz.zeroValue126
  t46:=Tryz.underlying127
  a46:=Tryz.isAgg127
  z46:=Tryz.sizeOf127
  v46:=Tryz.zeroValue127
  t50:=Tryz.underlying131
  a50:=Tryz.isAgg131
  z50:=Tryz.sizeOf131
  v50:=Tryz.zeroValue131
  t53:=Tryz.underlying134
  a53:=Tryz.isAgg134
  z53:=Tryz.sizeOf134
  v53:=Tryz.zeroValue134
  t55:=Tryz.underlying136
  a55:=Tryz.isAgg136
  z55:=Tryz.sizeOf136
  v55:=Tryz.zeroValue136
  t66:=Tryz.underlying142
  a66:=Tryz.isAgg142
  z66:=Tryz.sizeOf142
  v66:=Tryz.zeroValue142
  t70:=Tryz.underlying146
  a70:=Tryz.isAgg146
  z70:=Tryz.sizeOf146
  v70:=Tryz.zeroValue146
  t76:=Tryz.underlying150
  a76:=Tryz.isAgg150
  z76:=Tryz.sizeOf150
  v76:=Tryz.zeroValue150
  t77:=Tryz.underlying100
  a77:=Tryz.isAgg100
  z77:=Tryz.sizeOf100
  v77:=Tryz.zeroValue100 }
end Go.Proofs
namespace Go.Proofs
open Go Go.Pm
set_option maxRecDepth 100000
set_option linter.unusedVariables false
attribute [local irreducible] Go.Pm.vcFun Go.Pm.vc Go.Pm.vcIter
abbrev zL8:OwnK:=.sort 81 3 24
theorem zRI:zgF Tryz.prog 65 zL8:=zyT Tryz.laysS65 rfl rfl rfl (λ h=>h) ⟨_,rfl,rfl,by kernel_rfl⟩
section
variable [DrawZ]
abbrev T90:Tabs:=Tabs.nil
theorem zPD:TabsOk Tryz.prog T90:=TabsOk.nil
abbrev G90:Ctrs:=csm T90 (λ _ _=>[]) (λ _=>false)
def zL9:Ann:=⟨6,[(0,zK [0] []),(1,zK [2] [])],
 [],
 [],
 [],[]⟩
abbrev R90:=Bool
abbrev e90 (r:R90):List PA:=[.one (.bool r)]
section
variable {K:List PA->Prop}{x:Int}
def s90 (x:Int):Bool :=
  (x != x)
end
theorem q90 (x:Int) (K:List PA->Prop) (hk:K (e90 (s90 x))):vcFun Tryz.prog G90 zL9 90 [.one (.int .i64 x)] K :=
  zaN (by kernel_rfl) hk
def zHx : List PA → COut
  | [.one (.int .i64 a0)]=>.tot [.one (.bool (s90 a0))]
  | _=>.no
theorem zMa:zah Tryz.prog 90:=⟨_,rfl,rfl,by kernel_rfl⟩
theorem zRJ:Ok Tryz.prog 90 zHx:=za3 zPD zMa λ args K h=>by
  unfold zHx at h
  split at h
  · rename_i a0
    have hk:=h
    exact⟨(λ _ _=>[]),(λ _=>false),zL9,q90 a0 K hk⟩
  · exact h.elim
end

section
variable [DrawZ]
abbrev T76:Tabs:=(Tabs.nil.addF 90 zHx)
theorem zPE:TabsOk Tryz.prog T76:=(TabsOk.nil.addF zRJ)
abbrev G76:Ctrs:=csm T76 (λ _ _=>[]) (λ _=>false)
def zMb:Ann:=⟨20,[(0,zK [0,1] []),(1,zK [0,1,5] []),(2,zK [0,1,5,6] []),(3,zK [0,1,6,11] []),(4,zK [12] []),(5,zK [4] []),(6,zK [4] []),(7,zK [0,1,13] []),(8,zK [4] []),(9,zK [0,1,16] []),(10,zK [4] []),(11,zK [19] []),(12,zK [4] []),(13,zK [4] [])],
 [],
 [],
 [],[]⟩
abbrev R76:=Int
abbrev e76 (r:R76):List PA:=[.one (.int .i64 r)]
section
variable {K:List PA->Prop}{x:Int}{y_a1:Int}
def s76 (x:Int) (y_a1:Int):Int :=
  (cond (s90 x)
 (cond (s90 y_a1)
 (0:Int)
 (-1:Int))
 (cond (s90 y_a1)
 (1:Int)
 (cond (decide (x < y_a1))
 (-1:Int)
 (cond (decide (x > y_a1))
 (1:Int)
 (0:Int)))))
end
theorem q76 (x:Int) (y_a1:Int) (K:List PA->Prop) (hk:K (e76 (s76 x y_a1))):vcFun Tryz.prog G76 zMb 76 [.one (.int .i64 x),.one (.int .i64 y_a1)] K :=
  zaN (by kernel_rfl) (zt hk (λ hk=>(zt hk (λ hk=>hk) (λ hk=>hk))) (λ hk=>(zt hk (λ hk=>hk) (λ hk=>(zt hk (λ hk=>hk) (λ hk=>(zt hk (λ hk=>hk) (λ hk=>hk))))))))
def zDQ : List PA → COut
  | [.one (.int .i64 a0),.one (.int .i64 a1)]=>.tot [.one (.int .i64 (s76 a0 a1))]
  | _=>.no
theorem zMc:zah Tryz.prog 76:=⟨_,rfl,rfl,by kernel_rfl⟩
theorem zQY:Ok Tryz.prog 76 zDQ:=za3 zPE zMc λ args K h=>by
  unfold zDQ at h
  split at h
  · rename_i a0 a1
    have hk:=h
    exact⟨(λ _ _=>[]),(λ _=>false),zMb,q76 a0 a1 K hk⟩
  · exact h.elim
end

section
variable [DrawZ]
abbrev T50:Tabs:=(Tabs.nil.addF 76 zDQ)
theorem zPF:TabsOk Tryz.prog T50:=(TabsOk.nil.addF zQY)
abbrev G50:Ctrs:=csm T50 (λ _ _=>[]) (λ _=>false)
def zMd:Ann:=⟨16,[(0,zK [2,3] [2,3]),(1,zK [4] [])],
 [],
 [],
 [],[]⟩
abbrev R50:=Int
abbrev e50 (r:R50):List PA:=[.one (.int .i64 r)]
section
variable {K:List PA->Prop}{a:Frac}{b:Frac}
def s50 (a:Frac) (b:Frac):Int :=
  (s76 (w64 (a.Num * b.Den)) (w64 (b.Num * a.Den)))
end
theorem q50 (a:Frac) (b:Frac) (K:List PA->Prop) (hk:K (e50 (s50 a b))):vcFun Tryz.prog G50 zMd 50 [.agg (zam a),.agg (zam b)] K :=
  zaN (by kernel_rfl) hk
def zwp : List PA → COut
  | [.agg [.int .i64 zgN,.int .i64 zgO],.agg [.int .i64 zgP,.int .i64 zgQ]]=>.tot [.one (.int .i64 (s50 (⟨zgN,zgO⟩:Frac) (⟨zgP,zgQ⟩:Frac)))]
  | _=>.no
theorem zMe:zah Tryz.prog 50:=⟨_,rfl,rfl,by kernel_rfl⟩
theorem zOJ:Ok Tryz.prog 50 zwp:=za3 zPF zMe λ args K h=>by
  unfold zwp at h
  split at h
  · rename_i zgN zgO zgP zgQ
    have hk:=h
    exact⟨(λ _ _=>[]),(λ _=>false),zMd,q50 (⟨zgN,zgO⟩:Frac) (⟨zgP,zgQ⟩:Frac) K hk⟩
  · exact h.elim
end

section
variable [DrawZ]
abbrev T67:Tabs:=(Tabs.nil.addF 74 zys)
theorem zPG:TabsOk Tryz.prog T67:=(TabsOk.nil.addF zPj)
abbrev G67:Ctrs:=csm T67 (λ _ _=>[]) (λ _=>false)
def zMf:Ann:=⟨10,[(0,zK [2,3] [2,3]),(1,zK [4] [])],
 [],
 [],
 [],[]⟩
abbrev R67:=Bool
abbrev e67 (r:R67):List PA:=[.one (.bool r)]
section
variable {K:List PA->Prop}{s:set}{x:straight}
def s67 (s:set) (x:straight):Bool :=
  (zPh x s.list.Gates)
def p67 (s:set) (x:straight):Bool :=
  (decide ((zPi x s.list.Gates=true)) &&
 true)
end
theorem q67 (s:set) (x:straight) (K:List PA->Prop) (hs:p67 s x=true) (hk:K (e67 (s67 s x))):vcFun Tryz.prog G67 zMf 67 [.agg (zct s),.agg (zaz x)] K :=
  zaN (by kernel_rfl) (zaI hs λ hc hs=>And.intro (And.intro (zE enc_48 3 s.list.Gates.get) hc) hk)
def zHy : List PA → COut
  | [.agg [.sl zai zaH zaj,.sl zas zbf zat],.agg [.int .i64 zch,.int .i64 zci,.int .i64 zdO]]=>.det (IsE enc_48 3 zaH zaj/\IsE zaz 3 zbf zat/\p67 (⟨(⟨(⟨zai,zaf zaj⟩:(Sl Gate))⟩:list),(⟨zas,zcz zat⟩:(Sl straight))⟩:set) (⟨zch,zci,zdO⟩:straight)=true) [.one (.bool (s67 (⟨(⟨(⟨zai,zaf zaj⟩:(Sl Gate))⟩:list),(⟨zas,zcz zat⟩:(Sl straight))⟩:set) (⟨zch,zci,zdO⟩:straight)))]
  | _=>.no
theorem zMg:zah Tryz.prog 67:=⟨_,rfl,rfl,by kernel_rfl⟩
theorem zRK:Ok Tryz.prog 67 zHy:=za3 zPG zMg λ args K h=>by
  unfold zHy at h
  split at h
  · rename_i zai zaH zaj zas zbf zat zch zci zdO
    obtain⟨⟨⟨rfl,zar,rfl⟩,⟨rfl,zaL,rfl⟩,hs⟩,hk⟩:=h
    try rw[zae zar] at hs
    try rw[zae zar] at hk
    try rw[zbP zaL] at hs
    try rw[zbP zaL] at hk
    exact⟨(λ _ _=>[]),(λ _=>false),zMf,q67 (⟨(⟨(⟨zai,zar⟩:(Sl Gate))⟩:list),(⟨zas,zaL⟩:(Sl straight))⟩:set) (⟨zch,zci,zdO⟩:straight) K hs hk⟩
  · exact h.elim
end

section
variable [DrawZ]
abbrev T66:Tabs:=(((Tabs.nil.addF 50 zwp).addF 67 zHy).addF 68 zwo)
theorem zPH:TabsOk Tryz.prog T66:=(((TabsOk.nil.addF zOJ).addF zRK).addF zOD)
abbrev G66:Ctrs:=csm T66 (λ _ _=>[]) (λ _=>false)
def zMh:Ann:=⟨38,[(0,zK [2,3,4] [3,4]),(1,zK [3,4,6,7] [3,4]),(2,zK [6,7,8] []),(3,zK [6,7,8,26] []),(4,zK [5] []),(5,zK [7,8,32] []),(6,zK [5] []),(7,zK [8,34] []),(8,zK [5] []),(9,zK [5] [])],
 [],
 [],
 [],[]⟩
abbrev R66:=Int
abbrev e66 (r:R66):List PA:=[.one (.int .i64 r)]
section
variable {K:List PA->Prop}{c0:set}{a:straight}{b:straight}
def s66 (c0:set) (a:straight) (b:straight):Int :=
  (cond (s67 c0 a)
 (cond (s67 c0 b)
 (s50 (s68 a.slope a.den) (s68 b.slope b.den))
 (cond (s67 c0 a)
 (-1:Int)
 (cond (s67 c0 b)
 (1:Int)
 (w64 (0 - (s50 (s68 a.slope a.den) (s68 b.slope b.den)))))))
 (cond (s67 c0 a)
 (-1:Int)
 (cond (s67 c0 b)
 (1:Int)
 (w64 (0 - (s50 (s68 a.slope a.den) (s68 b.slope b.den)))))))
def p66 (c0:set) (a:straight) (b:straight):Bool :=
  (decide ((p67 c0 a=true)) &&
 (decide ((p67 c0 b=true)) &&
 (decide ((p68 a.slope a.den=true)) &&
 (decide ((p68 b.slope b.den=true)) &&
 true))))
end
theorem q66 (c0:set) (a:straight) (b:straight) (K:List PA->Prop) (hs:p66 c0 a b=true) (hk:K (e66 (s66 c0 a b))):vcFun Tryz.prog G66 zMh 66 [.agg (zaz a),.agg (zaz b),.one (.fp (zct c0) 0)] K :=
  zaN (by kernel_rfl) (zaI hs λ hc hs=>And.intro (And.intro (zE enc_48 3 c0.list.Gates.get) (And.intro (zE zaz 3 c0.corners.get) hc)) (zaI hs λ hc hs=>And.intro (And.intro (zE enc_48 3 c0.list.Gates.get) (And.intro (zE zaz 3 c0.corners.get) hc)) (zaI hs λ hc hs=>And.intro hc (zaI hs λ hc hs=>And.intro hc (zt hk (λ hk=>(zt hk (λ hk=>hk) (λ hk=>(zt hk (λ hk=>hk) (λ hk=>(zt hk (λ hk=>hk) (λ hk=>hk))))))) (λ hk=>(zt hk (λ hk=>hk) (λ hk=>(zt hk (λ hk=>hk) (λ hk=>hk))))))))))
def zyU : List PA → COut
  | [.agg [.int .i64 zbs,.int .i64 zbt,.int .i64 zc2],.agg [.int .i64 zch,.int .i64 zci,.int .i64 zdO],.one (.fp [.sl c0_list_Gates_n c0_list_Gates_s c0_list_Gates_g,.sl c0_corners_n c0_corners_s c0_corners_g] 0)]=>.det (IsE enc_48 3 c0_list_Gates_s c0_list_Gates_g/\IsE zaz 3 c0_corners_s c0_corners_g/\p66 (⟨(⟨(⟨c0_list_Gates_n,zaf c0_list_Gates_g⟩:(Sl Gate))⟩:list),(⟨c0_corners_n,zcz c0_corners_g⟩:(Sl straight))⟩:set) (⟨zbs,zbt,zc2⟩:straight) (⟨zch,zci,zdO⟩:straight)=true) [.one (.int .i64 (s66 (⟨(⟨(⟨c0_list_Gates_n,zaf c0_list_Gates_g⟩:(Sl Gate))⟩:list),(⟨c0_corners_n,zcz c0_corners_g⟩:(Sl straight))⟩:set) (⟨zbs,zbt,zc2⟩:straight) (⟨zch,zci,zdO⟩:straight)))]
  | _=>.no
theorem zMi:zah Tryz.prog 66:=⟨_,rfl,rfl,by kernel_rfl⟩
theorem zRL:Ok Tryz.prog 66 zyU:=za3 zPH zMi λ args K h=>by
  unfold zyU at h
  split at h
  · rename_i zbs zbt zc2 zch zci zdO c0_list_Gates_n c0_list_Gates_s c0_list_Gates_g c0_corners_n c0_corners_s c0_corners_g
    obtain⟨⟨⟨rfl,c0_list_Gates_f,rfl⟩,⟨rfl,c0_corners_f,rfl⟩,hs⟩,hk⟩:=h
    try rw[zae c0_list_Gates_f] at hs
    try rw[zae c0_list_Gates_f] at hk
    try rw[zbP c0_corners_f] at hs
    try rw[zbP c0_corners_f] at hk
    exact⟨(λ _ _=>[]),(λ _=>false),zMh,q66 (⟨(⟨(⟨c0_list_Gates_n,c0_list_Gates_f⟩:(Sl Gate))⟩:list),(⟨c0_corners_n,c0_corners_f⟩:(Sl straight))⟩:set) (⟨zbs,zbt,zc2⟩:straight) (⟨zch,zci,zdO⟩:straight) K hs hk⟩
  · exact h.elim
end

abbrev T42:Tabs:=(((Tabs.nil.addO 64 zL6).addO 65 zL8).addC 66 zyU)
theorem zPI:TabsOk Tryz.prog T42:=(((TabsOk.nil.addO zRH).addO zRI).addC (@zRL ⟨1⟩))
abbrev G42:Ctrs:=csm T42 (λ _ _=>[]) (λ _=>false)
def zMj:Ann:=⟨11,[(0,zK [1] [1]),(1,zK [1,3] [1,6]),(2,zK [3] [6]),(3,zK [2] [6])],
 [],
 [],
 [],[]⟩
abbrev R42:=(Sl straight)
abbrev e42 (r:R42):List PA:=[.one (.sl r.len 3 (λ i=>zaz (r.get i)))]
section
variable {K:List PA->Prop}{s:set}
def s42 (s:set):(Sl straight) :=
  (⟨s.corners.len,(zgp s.corners.len (λ i j=>(s66 s (s.corners.get i) (s.corners.get j))) s.corners.get)⟩:(Sl straight))
def p42 (s:set):Bool :=
  (decide ((s.corners.len * 24<=140737488355328/\s.corners.len<=9223372036854775807)) &&
 (decide ((s.corners.len<=4611686018427387)/\(sortB s.corners.len (λ i j=>decide (p66 s (s.corners.get i) (s.corners.get j)=true)) (λ i j=>(s66 s (s.corners.get i) (s.corners.get j)))=true)) &&
 true))
end
theorem q42 (s:set) (K:List PA->Prop) (hs:p42 s=true) (hk:K (e42 (s42 s))):vcFun Tryz.prog G42 zMj 42 [.agg (zct s)] K :=
  zaN (by kernel_rfl) (zaI hs λ hc hs=>And.intro hc (zaI hs λ hc hs=>And.intro (And.intro (hc.1) ((zow (hc.2) (λ i j h=>(show IsE enc_48 3 3 (λ i=>enc_48 (s.list.Gates.get i))/\IsE zaz 3 3 (λ i=>zaz (s.corners.get i))/\(p66 s (s.corners.get i) (s.corners.get j)=true) from ⟨isE,isE,(of_decide_eq_true h)⟩)) rfl):(∀ i j,i < s.corners.len->j < s.corners.len->zwJ (zyU) [.fp (zct s) 0] true (λ i=>zaz (s.corners.get i)) i j)/\STO s.corners.len (zpo (zyU) [.fp (zct s) 0] true (λ i=>zaz (s.corners.get i))))) hk))
def zHz : List PA → COut
  | [.agg [.sl zai zaH zaj,.sl zas zbf zat]]=>.det (IsE enc_48 3 zaH zaj/\IsE zaz 3 zbf zat/\p42 (⟨(⟨(⟨zai,zaf zaj⟩:(Sl Gate))⟩:list),(⟨zas,zcz zat⟩:(Sl straight))⟩:set)=true) [.one (.sl ((s42 (⟨(⟨(⟨zai,zaf zaj⟩:(Sl Gate))⟩:list),(⟨zas,zcz zat⟩:(Sl straight))⟩:set)).len) 3 (λ i=>zaz ((s42 (⟨(⟨(⟨zai,zaf zaj⟩:(Sl Gate))⟩:list),(⟨zas,zcz zat⟩:(Sl straight))⟩:set)).get i)))]
  | _=>.no
theorem zMk:zah Tryz.prog 42:=⟨_,rfl,rfl,by kernel_rfl⟩
theorem zRM:Ok Tryz.prog 42 zHz:=za3 zPI zMk λ args K h=>by
  unfold zHz at h
  split at h
  · rename_i zai zaH zaj zas zbf zat
    obtain⟨⟨⟨rfl,zar,rfl⟩,⟨rfl,zaL,rfl⟩,hs⟩,hk⟩:=h
    try rw[zae zar] at hs
    try rw[zae zar] at hk
    try rw[zbP zaL] at hs
    try rw[zbP zaL] at hk
    exact⟨(λ _ _=>[]),(λ _=>false),zMj,q42 (⟨(⟨(⟨zai,zar⟩:(Sl Gate))⟩:list),(⟨zas,zaL⟩:(Sl straight))⟩:set) K hs hk⟩
  · exact h.elim
abbrev T20:Tabs:=(((Tabs.nil.addF 40 zDP).addF 42 zHz).addF 43 zDC)
theorem zPJ:TabsOk Tryz.prog T20:=(((TabsOk.nil.addF zQX).addF zRM).addF zQM)
abbrev G20:Ctrs:=csm T20 (λ _ _=>[]) (λ _=>false)
def zHA:Ann:=⟨31,[(0,zK [0] []),(1,zK [4,5] [4]),(2,zK [4,5,15] [4]),(3,zK [2,3] []),(4,zK [4,6] [4]),(5,zK [6,18,19,20] []),(6,zK [6,18,19,20,21] [28]),(7,zK [6,8,18,19,20] [8,28]),(8,zK [6,18,19,20] [28]),(9,zK [6,18,19,20] [28]),(10,zK [2,3] [28])],
 [(6,⟨[6,18,19,20],[28],[(6,28,42,λ _=>zce default)],[],[],[],[]⟩)],
 [(2,zK [4,5] [4]),(4,zK [4] [4]),(6,zK [6,18,19,20] [])],
 [],[]⟩
abbrev R20:=((Sl Line)×Int)
abbrev e20 (r:R20):List PA:=[.one (.sl r.1.len 4 (λ i=>zce (r.1.get i))),.one (.int .i64 r.2)]
@[irreducible] def z20:=ptF Tryz.prog G20 zHA Tryz.f20
def zE2 (zdb:(Sl straight)) (zdt:Int) (zei:Int) (zdH:(Sl Line)) (zgR:Nat->List PV):St:=⟨[(6,zv 28),(18,zS zaz 3 zdb),(19,zI zdt),(20,zI zei)],[(28,.vec 42 4 32 zdH.len zgR)],[]⟩
abbrev zMl (K:List PA->Prop) (zdb:(Sl straight)) (zdt:Int) (X:St->Prop) (P:Int->(Sl Line)->Bool) (S:Int->(Sl Line)->((Sl Line)×Int)):Prop:=∀ ⦃zei:Int⦄ ⦃zdH:(Sl Line)⦄ ⦃zgR:Nat->List PV⦄,P zei zdH=true->K (e20 (S zei zdH))->zgR=zg zce zdH->X (zE2 zdb zdt zei zdH zgR)
section
variable {K:List PA->Prop}{zaa:(Sl Gate)}{ev0:Int}{zqh:(Sl Gate)}{zqi:(Sl straight)}{zyV:Nat->List PV}{zyW:Nat->List PV}{zko:(Sl Gate)}{zkp:(Sl straight)}{zyX:Nat->List PV}{zyY:Nat->List PV}{zdb:(Sl straight)}{zdt:Int}{zyZ:Nat->List PV}{zei:Int}{zdH:(Sl Line)}{zgR:Nat->List PV}{X3:St->Prop}{P3:Int->(Sl Line)->Bool}{S3:Int->(Sl Line)->((Sl Line)×Int)}
def zy0 (zdb:(Sl straight)) (zdt:Int) (S3:Int->(Sl Line)->((Sl Line)×Int)) (zei:Int) (zdH:(Sl Line)):((Sl Line)×Int) :=
  (cond (decide (zei < zdt))
 (S3 (w64 (zei+(1:Int))) (⟨(zdH.len+1),(zgv zdH.len zdH.get (λ _=>(s43 (zdb.get zei.toNat))))⟩:Sl Line))
 (zdH,(0:Int)))
def zy1 (zdb:(Sl straight)) (zdt:Int) (P3:Int->(Sl Line)->Bool) (zei:Int) (zdH:(Sl Line)):Bool :=
  (cond (decide (zei < zdt))
 (decide ((0<=zei/\zei < (zdb.len:Int))) &&
 (decide ((p43 (zdb.get zei.toNat)=true)) &&
 (decide (((zdH.len+1) * 32<=140737488355328/\zdH.len+1<=9223372036854775807)) &&
 (P3 (w64 (zei+(1:Int))) (⟨(zdH.len+1),(zgv zdH.len zdH.get (λ _=>(s43 (zdb.get zei.toNat))))⟩:Sl Line)))))
 true)
def zy2 (zdb:(Sl straight)) (zdt:Int):Nat->Int->(Sl Line)->((Sl Line)×Int):=lpO (λ _ _=>default) (zy0 zdb zdt)
def zy3 (zdb:(Sl straight)) (zdt:Int):Nat->Int->(Sl Line)->Bool:=lpO (λ _ _=>false) (zy1 zdb zdt)
def zy4 (zdb:(Sl straight)) (zdt:Int) (zei:Int) (zdH:(Sl Line)):((Sl Line)×Int):=zy2 zdb zdt Fuel zei zdH
def zy5 (zdb:(Sl straight)) (zdt:Int) (zei:Int) (zdH:(Sl Line)):Bool:=zy3 zdb zdt Fuel zei zdH
theorem zHB (hs:zy5 zdb zdt zei zdH=true) (hk:K (e20 (zy4 zdb zdt zei zdH))) (zsk:zgR=zg zce zdH):z20 (Wk K) [1,1,1,1,0,1,0] [] (zE2 zdb zdt zei zdH zgR) :=
  zl (λ X=>z20 (Wk K) [1,1,1,1,0,1,0,0] [X]) (by kernel_rfl) λ X3 hX =>
  (show ∀ k, zMl K zdb zdt X3 (zy3 zdb zdt k) (zy2 zdb zdt k) from zgw _ _ (zy1 zdb zdt) (zy0 zdb zdt) (zMl K zdb zdt X3)
 (by intro _ _ _ hs;exact absurd hs dqk)
 (by intro P3 S3 hX3 zei zdH zgR hs hk zsk;subst zsk;exact hX _ (zaN (by kernel_rfl) (zc hs hk (λ hs hk=>(zaI hs λ hc hs=>And.intro hc (zaI hs λ hc hs=>And.intro hc (zaI hs λ hc hs=>And.intro hc (hX3 hs hk (zhA (enc:=zce) (f:=zdH.get) (h:=(λ _=>(s43 (zdb.get zei.toNat)))) rfl rfl)))))) (λ hs hk=>((zfz hk):Wk K [.one (.sl zdH.len 4 (λ i=>zce (zdH.get i))),.one (.int .i64 (0:Int))])))))) _ hs hk zsk
def zy6 (zdb:(Sl straight)) (zdt:Int):((Sl Line)×Int) :=
  (zy4 zdb zdt (0:Int) (⟨0,(λ _=>default)⟩:Sl Line))
def zy7 (zdb:(Sl straight)) (zdt:Int):Bool :=
  (zy5 zdb zdt (0:Int) (⟨0,(λ _=>default)⟩:Sl Line))
theorem zHC (hs:zy7 zdb zdt=true) (hk:K (e20 (zy6 zdb zdt))) (zHD:zyZ=zg zaz zdb):z20 (Wk K) [1,1,1,1,0,1] [] ⟨[(6,zP (.nils)),(18,zP (.sl zdb.len 3 zyZ)),(19,zI zdt),(20,zI (0:Int))],[],[]⟩:=by subst zHD;exact zaN (by kernel_rfl) (zHB hs hk rfl)
def zy8 (zko:(Sl Gate)) (zkp:(Sl straight)):((Sl Line)×Int) :=
  (zy6 (s42 (⟨(⟨zko⟩:list),zkp⟩:set)) ((s42 (⟨(⟨zko⟩:list),zkp⟩:set)).len:Int))
def zy9 (zko:(Sl Gate)) (zkp:(Sl straight)):Bool :=
  (decide ((p42 (⟨(⟨zko⟩:list),zkp⟩:set)=true)) &&
 (zy7 (s42 (⟨(⟨zko⟩:list),zkp⟩:set)) ((s42 (⟨(⟨zko⟩:list),zkp⟩:set)).len:Int)))
theorem zHE (hs:zy9 zko zkp=true) (hk:K (e20 (zy8 zko zkp))) (zHF:zyX=zg enc_48 zko) (zHG:zyY=zg zaz zkp):z20 (Wk K) [1,1,1] [] ⟨[(4,zp 4 0)],[(4,.box 75 [.p (.sl zko.len 3 zyX),.p (.sl zkp.len 3 zyY)])],[]⟩:=by subst zHF;subst zHG;exact zaN (by kernel_rfl) (zaI hs λ hc hs=>And.intro (And.intro (zE enc_48 3 zko.get) (And.intro (zE zaz 3 zkp.get) hc)) (zHC hs hk rfl))
def zza (ev0:Int) (zqh:(Sl Gate)) (zqi:(Sl straight)):((Sl Line)×Int) :=
  (cond (ev0 != (0:Int))
 ((⟨0,λ _=>default⟩:(Sl Line)),ev0)
 (zy8 zqh zqi))
def zzb (ev0:Int) (zqh:(Sl Gate)) (zqi:(Sl straight)):Bool :=
  (cond (ev0 != (0:Int))
 true
 (zy9 zqh zqi))
theorem zHH (hs:zzb ev0 zqh zqi=true) (hk:K (e20 (zza ev0 zqh zqi))) (zHI:zyV=zg enc_48 zqh) (zHJ:zyW=zg zaz zqi):z20 (Wk K) [1,1] [] ⟨[(4,zp 4 0),(5,zI ev0)],[(4,.box 75 [.p (.sl zqh.len 3 zyV),.p (.sl zqi.len 3 zyW)])],[]⟩:=by subst zHI;subst zHJ;exact zaN (by kernel_rfl) (zc hs hk (λ hs hk=>((wk hk (zfa (.one (.nil _ _)) (zfa (.one (.rfl _)) zlL))):Wk K [.one (.nils),.one (.int .i64 ev0)])) (λ hs hk=>(zHE hs hk rfl rfl)))
def s20 (zaa:(Sl Gate)):((Sl Line)×Int) :=
  (zza ((s40 zaa).2) (((s40 zaa).1).list.Gates) (((s40 zaa).1).corners))
def p20 (zaa:(Sl Gate)):Bool :=
  (decide ((p40 zaa=true)) &&
 (zzb ((s40 zaa).2) (((s40 zaa).1).list.Gates) (((s40 zaa).1).corners)))
end
theorem q20 (zaa:(Sl Gate)) (K:List PA->Prop) (hs:p20 zaa=true) (hk:K (e20 (s20 zaa))):vcFun Tryz.prog G20 zHA 20 [.one (.sl zaa.len 3 (λ i=>enc_48 (zaa.get i)))] (Wk K) :=
  zaN (by kernel_rfl) (zaI hs λ hc hs=>And.intro (And.intro (zE enc_48 3 zaa.get) hc) (zHH hs hk rfl rfl))
def zHK : List PA → COut
  | [.one (.sl zaU zcu zaV)]=>.det (IsE enc_48 3 zcu zaV/\p20 (⟨zaU,zaf zaV⟩:(Sl Gate))=true) [.one (.sl (((s20 (⟨zaU,zaf zaV⟩:(Sl Gate))).1).len) 4 (λ i=>zce (((s20 (⟨zaU,zaf zaV⟩:(Sl Gate))).1).get i))),.one (.int .i64 ((s20 (⟨zaU,zaf zaV⟩:(Sl Gate))).2))]
  | _=>.no
theorem zMm:zah Tryz.prog 20:=⟨_,rfl,rfl,by kernel_rfl⟩
theorem zRN:Ok Tryz.prog 20 zHK:=zgK zPJ zMm λ args K h=>by
  unfold zHK at h
  split at h
  · rename_i zaU zcu zaV
    obtain⟨⟨⟨rfl,zbF,rfl⟩,hs⟩,hk⟩:=h
    try rw[zae zbF] at hs
    try rw[zae zbF] at hk
    exact⟨_,zgn zgJ _,(λ _ _=>[]),(λ _=>false),zHA,q20 (⟨zaU,zbF⟩:(Sl Gate)) K hs hk⟩
  · exact h.elim
abbrev T21:Tabs:=Tabs.nil
theorem zPK:TabsOk Tryz.prog T21:=TabsOk.nil
abbrev G21:Ctrs:=csm T21 (λ _ _=>[]) (λ _=>false)
def zMn:Ann:=⟨5,[(0,zK [] []),(1,zK [0] [4])],
 [],
 [],
 [],[]⟩
abbrev R21:=(Sl Gate)
abbrev e21 (r:R21):List PA:=[.one (.sl r.len 3 (λ i=>enc_48 (r.get i)))]
section
variable {K:List PA->Prop}
def s21:(Sl Gate) :=
  (⟨3,(zkk (⟨(0:Int),(0:Int),(10:Int)⟩:Gate) [(⟨(0:Int),(0:Int),(10:Int)⟩:Gate),(⟨(100:Int),(20:Int),(30:Int)⟩:Gate),(⟨(200:Int),(30:Int),(60:Int)⟩:Gate)])⟩:(Sl Gate))
end
theorem q21 (K:List PA->Prop) (hk:K (e21 (s21))):vcFun Tryz.prog G21 zMn 21 [] K :=
  zaN (by kernel_rfl) (Eq.mpr (congrArg K (congrArg (λ (g_:Nat->List PV)=>([.one (.sl 3 3 g_)]:List PA)) (zfV (enc:=enc_48) (x:=(⟨(0:Int),(0:Int),(10:Int)⟩:Gate)) (y:=(⟨(100:Int),(20:Int),(30:Int)⟩:Gate)) (r:=[(⟨(200:Int),(30:Int),(60:Int)⟩:Gate)])))) hk)
def zHL : List PA → COut
  | []=>.tot [.one (.sl ((s21).len) 3 (λ i=>enc_48 ((s21).get i)))]
  | _=>.no
theorem zMo:zah Tryz.prog 21:=⟨_,rfl,rfl,by kernel_rfl⟩
theorem zRO:Ok Tryz.prog 21 zHL:=za3 zPK zMo λ args K h=>by
  unfold zHL at h
  split at h
  · have hk := h
    exact⟨(λ _ _=>[]),(λ _=>false),zMn,q21 K hk⟩
  · exact h.elim
abbrev T72:Tabs:=Tabs.nil
theorem zPL:TabsOk Tryz.prog T72:=TabsOk.nil
abbrev G72:Ctrs:=csm T72 (λ _ _=>[]) (λ _=>false)
def zMp:Ann:=⟨15,[(0,zK [1,2,4] [2,4]),(1,zK [4] [4])],
 [],
 [],
 [],[]⟩
abbrev R72:=Frac
abbrev e72 (r:R72):List PA:=[.agg [.int .i64 r.Num,.int .i64 r.Den]]
section
variable {K:List PA->Prop}{s:straight}{z:Int}
def s72 (s:straight) (z:Int):Frac :=
  (⟨(w64 (s.start+(w64 (s.slope * z)))),s.den⟩:Frac)
end
theorem q72 (s:straight) (z:Int) (K:List PA->Prop) (hk:K (e72 (s72 s z))):vcFun Tryz.prog G72 zMp 72 [.agg (zaz s),.one (.int .i64 z)] K :=
  zaN (by kernel_rfl) hk
def zHM : List PA → COut
  | [.agg [.int .i64 zbs,.int .i64 zbt,.int .i64 zc2],.one (.int .i64 a1)]=>.tot [.agg [.int .i64 ((s72 (⟨zbs,zbt,zc2⟩:straight) a1).Num),.int .i64 ((s72 (⟨zbs,zbt,zc2⟩:straight) a1).Den)]]
  | _=>.no
theorem zMq:zah Tryz.prog 72:=⟨_,rfl,rfl,by kernel_rfl⟩
theorem zRP:Ok Tryz.prog 72 zHM:=za3 zPL zMq λ args K h=>by
  unfold zHM at h
  split at h
  · rename_i zbs zbt zc2 a1
    have hk:=h
    exact⟨(λ _ _=>[]),(λ _=>false),zMp,q72 (⟨zbs,zbt,zc2⟩:straight) a1 K hk⟩
  · exact h.elim
abbrev T71:Tabs:=(Tabs.nil.addF 72 zHM)
theorem zPM:TabsOk Tryz.prog T71:=(TabsOk.nil.addF zRP)
abbrev G71:Ctrs:=csm T71 (λ _ _=>[]) (λ _=>false)
def zMr:Ann:=⟨7,[(0,zK [1,2,3] [2,3]),(1,zK [3] [3])],
 [],
 [],
 [],[]⟩
abbrev R71:=Frac
abbrev e71 (r:R71):List PA:=[.agg [.int .i64 r.Num,.int .i64 r.Den]]
section
variable {K:List PA->Prop}{c0:Int}{x:straight}
def s71 (c0:Int) (x:straight):Frac :=
  (s72 x c0)
end
theorem q71 (c0:Int) (x:straight) (K:List PA->Prop) (hk:K (e71 (s71 c0 x))):vcFun Tryz.prog G71 zMr 71 [.agg (zaz x),.one (.fp (zak c0) 0)] K :=
  zaN (by kernel_rfl) hk
def zHN : List PA → COut
  | [.agg [.int .i64 zbs,.int .i64 zbt,.int .i64 zc2],.one (.fp [.int .i64 c0] 0)]=>.tot [.agg [.int .i64 ((s71 c0 (⟨zbs,zbt,zc2⟩:straight)).Num),.int .i64 ((s71 c0 (⟨zbs,zbt,zc2⟩:straight)).Den)]]
  | _=>.no
theorem zMs:zah Tryz.prog 71:=⟨_,rfl,rfl,by kernel_rfl⟩
theorem zRQ:Ok Tryz.prog 71 zHN:=za3 zPM zMs λ args K h=>by
  unfold zHN at h
  split at h
  · rename_i zbs zbt zc2 c0
    have hk:=h
    exact⟨(λ _ _=>[]),(λ _=>false),zMr,q71 c0 (⟨zbs,zbt,zc2⟩:straight) K hk⟩
  · exact h.elim
abbrev T86:Tabs:=(Tabs.nil.addF 50 zwp)
theorem zPN:TabsOk Tryz.prog T86:=(TabsOk.nil.addF zOJ)
abbrev G86:Ctrs:=csm T86 (λ _ _=>[]) (λ _=>false)
def zMt:Ann:=⟨9,[(0,zK [2,3] [2,3]),(1,zK [4] [])],
 [],
 [],
 [],[]⟩
abbrev R86:=Bool
abbrev e86 (r:R86):List PA:=[.one (.bool r)]
section
variable {K:List PA->Prop}{a:Frac}{b:Frac}
def s86 (a:Frac) (b:Frac):Bool :=
  (decide ((s50 a b) < (0:Int)))
end
theorem q86 (a:Frac) (b:Frac) (K:List PA->Prop) (hk:K (e86 (s86 a b))):vcFun Tryz.prog G86 zMt 86 [.agg (zam a),.agg (zam b)] K :=
  zaN (by kernel_rfl) hk
def zHO : List PA → COut
  | [.agg [.int .i64 zgN,.int .i64 zgO],.agg [.int .i64 zgP,.int .i64 zgQ]]=>.tot [.one (.bool (s86 (⟨zgN,zgO⟩:Frac) (⟨zgP,zgQ⟩:Frac)))]
  | _=>.no
theorem zMu:zah Tryz.prog 86:=⟨_,rfl,rfl,by kernel_rfl⟩
theorem zRR:Ok Tryz.prog 86 zHO:=za3 zPN zMu λ args K h=>by
  unfold zHO at h
  split at h
  · rename_i zgN zgO zgP zgQ
    have hk:=h
    exact⟨(λ _ _=>[]),(λ _=>false),zMt,q86 (⟨zgN,zgO⟩:Frac) (⟨zgP,zgQ⟩:Frac) K hk⟩
  · exact h.elim
abbrev T87:Tabs:=(Tabs.nil.addF 50 zwp)
theorem zPO:TabsOk Tryz.prog T87:=(TabsOk.nil.addF zOJ)
abbrev G87:Ctrs:=csm T87 (λ _ _=>[]) (λ _=>false)
def zMv:Ann:=⟨9,[(0,zK [2,3] [2,3]),(1,zK [4] [])],
 [],
 [],
 [],[]⟩
abbrev R87:=Bool
abbrev e87 (r:R87):List PA:=[.one (.bool r)]
section
variable {K:List PA->Prop}{a:Frac}{b:Frac}
def s87 (a:Frac) (b:Frac):Bool :=
  (decide ((s50 a b) > (0:Int)))
end
theorem q87 (a:Frac) (b:Frac) (K:List PA->Prop) (hk:K (e87 (s87 a b))):vcFun Tryz.prog G87 zMv 87 [.agg (zam a),.agg (zam b)] K :=
  zaN (by kernel_rfl) hk
def zHP : List PA → COut
  | [.agg [.int .i64 zgN,.int .i64 zgO],.agg [.int .i64 zgP,.int .i64 zgQ]]=>.tot [.one (.bool (s87 (⟨zgN,zgO⟩:Frac) (⟨zgP,zgQ⟩:Frac)))]
  | _=>.no
theorem zMw:zah Tryz.prog 87:=⟨_,rfl,rfl,by kernel_rfl⟩
theorem zRS:Ok Tryz.prog 87 zHP:=za3 zPO zMw λ args K h=>by
  unfold zHP at h
  split at h
  · rename_i zgN zgO zgP zgQ
    have hk:=h
    exact⟨(λ _ _=>[]),(λ _=>false),zMv,q87 (⟨zgN,zgO⟩:Frac) (⟨zgP,zgQ⟩:Frac) K hk⟩
  · exact h.elim
abbrev T85:Tabs:=((Tabs.nil.addF 86 zHO).addF 87 zHP)
theorem zPP:TabsOk Tryz.prog T85:=((TabsOk.nil.addF zRR).addF zRS)
abbrev G85:Ctrs:=csm T85 (λ _ _=>[]) (λ _=>false)
def zHQ:Ann:=⟨25,[(0,zK [0,1,4] [4]),(1,zK [0,1,4,5] [4,5]),(2,zK [1,4,5,12,13,14] [4,5]),(3,zK [1,4,5,12,13,14,15] [4,5]),(4,zK [1,4,5,7,12,13,14] [4,5,7]),(5,zK [1,4,5,7,12,13,14,21] [4,5,7]),(6,zK [1,4,5,12,13,14] [4,5]),(7,zK [1,4,5,12,13,14] [4,5]),(8,zK [4] [4])],
 [(3,zK [1,4,5,12,13,14] [4,5])],
 [(6,zK [1,4,5,7,12,13,14,21] [4,5,7])],
 [],[]⟩
abbrev R85:=Frac
abbrev e85 (r:R85):List PA:=[.agg [.int .i64 r.Num,.int .i64 r.Den]]
@[irreducible] def z85:=ptF Tryz.prog G85 zHQ Tryz.f85
def zE3 (l_a0:(Sl Frac)) (zaT:(Sl Frac)) (zan:Int) (zaA:Int) (zaB:Int) (zb2:Nat->List PV):St:=⟨[(1,zP (.fn 86 [] [])),(4,zp 4 0),(5,zp 5 0),(12,zP (.sl zaT.len 2 zb2)),(13,zI (((l_a0.len:Int) - (1:Int)).toNat:Int)),(14,zI zan)],[(4,.box 40 (zm (zam (⟨(0:Int),(0:Int)⟩:Frac)))),(5,.box 40 (zm (zam (⟨zaA,zaB⟩:Frac))))],[]⟩
abbrev zHR (K:List PA->Prop) (l_a0:(Sl Frac)) (X:St->Prop) (P:(Sl Frac)->Int->Int->Int->Bool) (S:(Sl Frac)->Int->Int->Int->Frac):Prop:=∀ ⦃zaT:(Sl Frac)⦄ ⦃zan:Int⦄ ⦃zaA:Int⦄ ⦃zaB:Int⦄ ⦃zb2:Nat->List PV⦄,P zaT zan zaA zaB=true->K (e85 (S zaT zan zaA zaB))->zb2=zg zam zaT->X (zE3 l_a0 zaT zan zaA zaB zb2)
section
variable {K:List PA->Prop}{l_a0:(Sl Frac)}{zaT:(Sl Frac)}{zan:Int}{zaA:Int}{zaB:Int}{zb2:Nat->List PV}{X0:St->Prop}{P0:(Sl Frac)->Int->Int->Int->Bool}{S0:(Sl Frac)->Int->Int->Int->Frac}{zdu:(Sl Frac)}{zbg:Int}{zeS:Bool}{zdw:Int}{zdx:Int}{zhW:Int}{zhX:Int}{zgS:Nat->List PV}
def zzc (S0:(Sl Frac)->Int->Int->Int->Frac) (l_a0:(Sl Frac)) (zdu:(Sl Frac)) (zbg:Int) (zeS:Bool) (zdw:Int) (zdx:Int) (zhW:Int) (zhX:Int):Frac :=
  (cond zeS
 (S0 zdu (w64 (zbg+(1:Int))) zhW zhX)
 (S0 zdu (w64 (zbg+(1:Int))) zdw zdx))
def zzd (P0:(Sl Frac)->Int->Int->Int->Bool) (l_a0:(Sl Frac)) (zdu:(Sl Frac)) (zbg:Int) (zeS:Bool) (zdw:Int) (zdx:Int) (zhW:Int) (zhX:Int):Bool :=
  (cond zeS
 (P0 zdu (w64 (zbg+(1:Int))) zhW zhX)
 (P0 zdu (w64 (zbg+(1:Int))) zdw zdx))
theorem zHS (hX0:zHR K l_a0 X0 P0 S0) (hs:zzd P0 l_a0 zdu zbg zeS zdw zdx zhW zhX=true) (hk:K (e85 (zzc S0 l_a0 zdu zbg zeS zdw zdx zhW zhX))) (zlZ:zgS=zg zam zdu):z85 K [1,1,0,1,0,0,1,1,0,0,1,1] [X0] ⟨[(1,zP (.fn 86 [] [])),(4,zp 4 0),(5,zp 5 0),(7,zp 7 0),(12,zP (.sl zdu.len 2 zgS)),(13,zI (((l_a0.len:Int) - (1:Int)).toNat:Int)),(14,zI zbg),(21,zB zeS)],[(4,.box 40 (zm (zam (⟨(0:Int),(0:Int)⟩:Frac)))),(5,.box 40 (zm (zam (⟨zdw,zdx⟩:Frac)))),(7,.box 40 (zm (zam (⟨zhW,zhX⟩:Frac))))],[]⟩:=by subst zlZ;exact zaN (by kernel_rfl) (zc hs hk (λ hs hk=>(hX0 hs hk rfl)) (λ hs hk=>(hX0 hs hk rfl)))
def zze (l_a0:(Sl Frac)) (S0:(Sl Frac)->Int->Int->Int->Frac) (zaT:(Sl Frac)) (zan:Int) (zaA:Int) (zaB:Int):Frac :=
  (cond (decide (zan < (((l_a0.len : Int) - (1:Int)).toNat : Int)))
 (zzc S0 l_a0 zaT zan (s86 (zaT.get zan.toNat) (⟨zaA,zaB⟩:Frac)) zaA zaB ((zaT.get zan.toNat).Num) ((zaT.get zan.toNat).Den))
 (⟨zaA,zaB⟩:Frac))
def zzf (l_a0:(Sl Frac)) (P0:(Sl Frac)->Int->Int->Int->Bool) (zaT:(Sl Frac)) (zan:Int) (zaA:Int) (zaB:Int):Bool :=
  (cond (decide (zan < (((l_a0.len : Int) - (1:Int)).toNat : Int)))
 (decide ((0<=zan/\zan < (zaT.len:Int))) &&
 (zzd P0 l_a0 zaT zan (s86 (zaT.get zan.toNat) (⟨zaA,zaB⟩:Frac)) zaA zaB ((zaT.get zan.toNat).Num) ((zaT.get zan.toNat).Den)))
 true)
def zzg (l_a0:(Sl Frac)):Nat->(Sl Frac)->Int->Int->Int->Frac:=lpO (λ _ _ _ _=>default) (zze l_a0)
def zzh (l_a0:(Sl Frac)):Nat->(Sl Frac)->Int->Int->Int->Bool:=lpO (λ _ _ _ _=>false) (zzf l_a0)
def zzi (l_a0:(Sl Frac)) (zaT:(Sl Frac)) (zan:Int) (zaA:Int) (zaB:Int):Frac:=zzg l_a0 Fuel zaT zan zaA zaB
def zzj (l_a0:(Sl Frac)) (zaT:(Sl Frac)) (zan:Int) (zaA:Int) (zaB:Int):Bool:=zzh l_a0 Fuel zaT zan zaA zaB
theorem zHT (hs:zzj l_a0 zaT zan zaA zaB=true) (hk:K (e85 (zzi l_a0 zaT zan zaA zaB))) (zeT:zb2=zg zam zaT):z85 K [1,1,0,1,0] [] (zE3 l_a0 zaT zan zaA zaB zb2) :=
  zl (λ X=>z85 K [1,1,0,1,0,0] [X]) (by kernel_rfl) λ X0 hX =>
  (show ∀ k, zHR K l_a0 X0 (zzh l_a0 k) (zzg l_a0 k) from zgw _ _ (zzf l_a0) (zze l_a0) (zHR K l_a0 X0)
 (by intro _ _ _ _ _ hs;exact absurd hs dqk)
 (by intro P0 S0 hX0 zaT zan zaA zaB zb2 hs hk zeT;subst zeT;exact hX _ (zaN (by kernel_rfl) (zc hs hk (λ hs hk=>(zaI hs λ hc hs=>And.intro hc (zHS hX0 hs hk rfl))) (λ hs hk=>hk))))) _ hs hk zeT
def s85 (l_a0:(Sl Frac)):Frac :=
  (zzi l_a0 (⟨((l_a0.len:Int) - (1:Int)).toNat,(λ i=>l_a0.get (i+((1:Int).toNat)))⟩:Sl Frac) (0:Int) ((l_a0.get 0).Num) ((l_a0.get 0).Den))
def p85 (l_a0:(Sl Frac)):Bool :=
  (decide ((0<=(0:Int)/\(0:Int) < (l_a0.len:Int))) &&
 (decide ((0<=(1:Int)/\(1:Int)<=(l_a0.len:Int)/\(l_a0.len:Int)<=(l_a0.len:Int))) &&
 (zzj l_a0 (⟨((l_a0.len:Int) - (1:Int)).toNat,(λ i=>l_a0.get (i+((1:Int).toNat)))⟩:Sl Frac) (0:Int) ((l_a0.get 0).Num) ((l_a0.get 0).Den))))
end
theorem q85 (l_a0:(Sl Frac)) (K:List PA->Prop) (hs:p85 l_a0=true) (hk:K (e85 (s85 l_a0))):vcFun Tryz.prog G85 zHQ 85 [.one (.sl l_a0.len 2 (λ i=>zam (l_a0.get i))),.one (.fn 86 [] [])] K :=
  zaN (by kernel_rfl) (zaI hs λ hc hs=>And.intro hc (zaI hs λ hc hs=>And.intro hc (zHT hs hk rfl)))
abbrev zQZ:Ctrs:=csm T85 (λ _ _=>[]) (λ _=>false)
def zzk:Ann:=⟨25,[(0,zK [0,1,4] [4]),(1,zK [0,1,4,5] [4,5]),(2,zK [1,4,5,12,13,14] [4,5]),(3,zK [1,4,5,12,13,14,15] [4,5]),(4,zK [1,4,5,7,12,13,14] [4,5,7]),(5,zK [1,4,5,7,12,13,14,21] [4,5,7]),(6,zK [1,4,5,12,13,14] [4,5]),(7,zK [1,4,5,12,13,14] [4,5]),(8,zK [4] [4])],
 [(3,zK [1,4,5,12,13,14] [4,5])],
 [(6,zK [1,4,5,7,12,13,14,21] [4,5,7])],
 [],[]⟩
abbrev zRT:=Frac
abbrev zOK (r:zRT):List PA:=[.agg [.int .i64 r.Num,.int .i64 r.Den]]
@[irreducible] def z85a:=ptF Tryz.prog zQZ zzk Tryz.f85
def zzl (l_a0:(Sl Frac)) (zaT:(Sl Frac)) (zan:Int) (zaA:Int) (zaB:Int) (zb2:Nat->List PV):St:=⟨[(1,zP (.fn 87 [] [])),(4,zp 4 0),(5,zp 5 0),(12,zP (.sl zaT.len 2 zb2)),(13,zI (((l_a0.len:Int) - (1:Int)).toNat:Int)),(14,zI zan)],[(4,.box 40 (zm (zam (⟨(0:Int),(0:Int)⟩:Frac)))),(5,.box 40 (zm (zam (⟨zaA,zaB⟩:Frac))))],[]⟩
abbrev zzm (K:List PA->Prop) (l_a0:(Sl Frac)) (X:St->Prop) (P:(Sl Frac)->Int->Int->Int->Bool) (S:(Sl Frac)->Int->Int->Int->Frac):Prop:=∀ ⦃zaT:(Sl Frac)⦄ ⦃zan:Int⦄ ⦃zaA:Int⦄ ⦃zaB:Int⦄ ⦃zb2:Nat->List PV⦄,P zaT zan zaA zaB=true->K (zOK (S zaT zan zaA zaB))->zb2=zg zam zaT->X (zzl l_a0 zaT zan zaA zaB zb2)
section
variable {K:List PA->Prop}{l_a0:(Sl Frac)}{zaT:(Sl Frac)}{zan:Int}{zaA:Int}{zaB:Int}{zb2:Nat->List PV}{X0:St->Prop}{P0:(Sl Frac)->Int->Int->Int->Bool}{S0:(Sl Frac)->Int->Int->Int->Frac}{zdu:(Sl Frac)}{zbg:Int}{zeS:Bool}{zdw:Int}{zdx:Int}{zhW:Int}{zhX:Int}{zgS:Nat->List PV}
def zuM (S0:(Sl Frac)->Int->Int->Int->Frac) (l_a0:(Sl Frac)) (zdu:(Sl Frac)) (zbg:Int) (zeS:Bool) (zdw:Int) (zdx:Int) (zhW:Int) (zhX:Int):Frac :=
  (cond zeS
 (S0 zdu (w64 (zbg+(1:Int))) zhW zhX)
 (S0 zdu (w64 (zbg+(1:Int))) zdw zdx))
def zuN (P0:(Sl Frac)->Int->Int->Int->Bool) (l_a0:(Sl Frac)) (zdu:(Sl Frac)) (zbg:Int) (zeS:Bool) (zdw:Int) (zdx:Int) (zhW:Int) (zhX:Int):Bool :=
  (cond zeS
 (P0 zdu (w64 (zbg+(1:Int))) zhW zhX)
 (P0 zdu (w64 (zbg+(1:Int))) zdw zdx))
theorem zDR (hX0:zzm K l_a0 X0 P0 S0) (hs:zuN P0 l_a0 zdu zbg zeS zdw zdx zhW zhX=true) (hk:K (zOK (zuM S0 l_a0 zdu zbg zeS zdw zdx zhW zhX))) (zlZ:zgS=zg zam zdu):z85a K [1,1,0,1,0,0,1,1,0,0,1,1] [X0] ⟨[(1,zP (.fn 87 [] [])),(4,zp 4 0),(5,zp 5 0),(7,zp 7 0),(12,zP (.sl zdu.len 2 zgS)),(13,zI (((l_a0.len:Int) - (1:Int)).toNat:Int)),(14,zI zbg),(21,zB zeS)],[(4,.box 40 (zm (zam (⟨(0:Int),(0:Int)⟩:Frac)))),(5,.box 40 (zm (zam (⟨zdw,zdx⟩:Frac)))),(7,.box 40 (zm (zam (⟨zhW,zhX⟩:Frac))))],[]⟩:=by subst zlZ;exact zaN (by kernel_rfl) (zc hs hk (λ hs hk=>(hX0 hs hk rfl)) (λ hs hk=>(hX0 hs hk rfl)))
def zuO (l_a0:(Sl Frac)) (S0:(Sl Frac)->Int->Int->Int->Frac) (zaT:(Sl Frac)) (zan:Int) (zaA:Int) (zaB:Int):Frac :=
  (cond (decide (zan < (((l_a0.len : Int) - (1:Int)).toNat : Int)))
 (zuM S0 l_a0 zaT zan (s87 (zaT.get zan.toNat) (⟨zaA,zaB⟩:Frac)) zaA zaB ((zaT.get zan.toNat).Num) ((zaT.get zan.toNat).Den))
 (⟨zaA,zaB⟩:Frac))
def zuP (l_a0:(Sl Frac)) (P0:(Sl Frac)->Int->Int->Int->Bool) (zaT:(Sl Frac)) (zan:Int) (zaA:Int) (zaB:Int):Bool :=
  (cond (decide (zan < (((l_a0.len : Int) - (1:Int)).toNat : Int)))
 (decide ((0<=zan/\zan < (zaT.len:Int))) &&
 (zuN P0 l_a0 zaT zan (s87 (zaT.get zan.toNat) (⟨zaA,zaB⟩:Frac)) zaA zaB ((zaT.get zan.toNat).Num) ((zaT.get zan.toNat).Den)))
 true)
def zuQ (l_a0:(Sl Frac)):Nat->(Sl Frac)->Int->Int->Int->Frac:=lpO (λ _ _ _ _=>default) (zuO l_a0)
def zuR (l_a0:(Sl Frac)):Nat->(Sl Frac)->Int->Int->Int->Bool:=lpO (λ _ _ _ _=>false) (zuP l_a0)
def zuS (l_a0:(Sl Frac)) (zaT:(Sl Frac)) (zan:Int) (zaA:Int) (zaB:Int):Frac:=zuQ l_a0 Fuel zaT zan zaA zaB
def zuT (l_a0:(Sl Frac)) (zaT:(Sl Frac)) (zan:Int) (zaA:Int) (zaB:Int):Bool:=zuR l_a0 Fuel zaT zan zaA zaB
theorem zDS (hs:zuT l_a0 zaT zan zaA zaB=true) (hk:K (zOK (zuS l_a0 zaT zan zaA zaB))) (zeT:zb2=zg zam zaT):z85a K [1,1,0,1,0] [] (zzl l_a0 zaT zan zaA zaB zb2) :=
  zl (λ X=>z85a K [1,1,0,1,0,0] [X]) (by kernel_rfl) λ X0 hX =>
  (show ∀ k, zzm K l_a0 X0 (zuR l_a0 k) (zuQ l_a0 k) from zgw _ _ (zuP l_a0) (zuO l_a0) (zzm K l_a0 X0)
 (by intro _ _ _ _ _ hs;exact absurd hs dqk)
 (by intro P0 S0 hX0 zaT zan zaA zaB zb2 hs hk zeT;subst zeT;exact hX _ (zaN (by kernel_rfl) (zc hs hk (λ hs hk=>(zaI hs λ hc hs=>And.intro hc (zDR hX0 hs hk rfl))) (λ hs hk=>hk))))) _ hs hk zeT
def zHU (l_a0:(Sl Frac)):Frac :=
  (zuS l_a0 (⟨((l_a0.len:Int) - (1:Int)).toNat,(λ i=>l_a0.get (i+((1:Int).toNat)))⟩:Sl Frac) (0:Int) ((l_a0.get 0).Num) ((l_a0.get 0).Den))
def zPQ (l_a0:(Sl Frac)):Bool :=
  (decide ((0<=(0:Int)/\(0:Int) < (l_a0.len:Int))) &&
 (decide ((0<=(1:Int)/\(1:Int)<=(l_a0.len:Int)/\(l_a0.len:Int)<=(l_a0.len:Int))) &&
 (zuT l_a0 (⟨((l_a0.len:Int) - (1:Int)).toNat,(λ i=>l_a0.get (i+((1:Int).toNat)))⟩:Sl Frac) (0:Int) ((l_a0.get 0).Num) ((l_a0.get 0).Den))))
end
theorem zRU (l_a0:(Sl Frac)) (K:List PA->Prop) (hs:zPQ l_a0=true) (hk:K (zOK (zHU l_a0))):vcFun Tryz.prog zQZ zzk 85 [.one (.sl l_a0.len 2 (λ i=>zam (l_a0.get i))),.one (.fn 87 [] [])] K :=
  zaN (by kernel_rfl) (zaI hs λ hc hs=>And.intro hc (zaI hs λ hc hs=>And.intro hc (zDS hs hk rfl)))
def zHV : List PA → COut
  | [.one (.sl zaU zcu zaV),.one (.fn 86 [] [])]=>.det (IsE zam 2 zcu zaV/\p85 (⟨zaU,zhP zaV⟩:(Sl Frac))=true) [.agg [.int .i64 ((s85 (⟨zaU,zhP zaV⟩:(Sl Frac))).Num),.int .i64 ((s85 (⟨zaU,zhP zaV⟩:(Sl Frac))).Den)]]
  | [.one (.sl zaU zcu zaV),.one (.fn 87 [] [])]=>.det (IsE zam 2 zcu zaV/\zPQ (⟨zaU,zhP zaV⟩:(Sl Frac))=true) [.agg [.int .i64 ((zHU (⟨zaU,zhP zaV⟩:(Sl Frac))).Num),.int .i64 ((zHU (⟨zaU,zhP zaV⟩:(Sl Frac))).Den)]]
  | _=>.no
theorem zMx:zah Tryz.prog 85:=⟨_,rfl,rfl,by kernel_rfl⟩
theorem zRV:Ok Tryz.prog 85 zHV:=za3 zPP zMx λ args K h=>by
  unfold zHV at h
  split at h
  · rename_i zaU zcu zaV
    obtain⟨⟨⟨rfl,zbF,rfl⟩,hs⟩,hk⟩:=h
    try rw[zfW zbF] at hs
    try rw[zfW zbF] at hk
    exact⟨(λ _ _=>[]),(λ _=>false),zHQ,q85 (⟨zaU,zbF⟩:(Sl Frac)) K hs hk⟩
  · rename_i zaU zcu zaV
    obtain⟨⟨⟨rfl,zbF,rfl⟩,hs⟩,hk⟩:=h
    try rw[zfW zbF] at hs
    try rw[zfW zbF] at hk
    exact⟨(λ _ _=>[]),(λ _=>false),zzk,zRU (⟨zaU,zbF⟩:(Sl Frac)) K hs hk⟩
  · exact h.elim
abbrev T70:Tabs:=(((Tabs.nil.addF 68 zwo).addF 71 zHN).addF 85 zHV)
theorem zPR:TabsOk Tryz.prog T70:=(((TabsOk.nil.addF zOD).addF zRQ).addF zRV)
abbrev G70:Ctrs:=csm T70 (λ _ _=>[]) (λ _=>false)
def zHW:Ann:=⟨39,[(0,zK [1,2,4,5] [2,4,5]),(1,zK [1,2,4,5,6] [2,4,5]),(2,zK [1,4,5,6,12,13,14] [4,5]),(3,zK [1,4,5,6,12,13,14,15] [4,5,23]),(4,zK [1,4,5,6,8,12,13,14] [4,5,8,23]),(5,zK [1,4,5,6,12,13,14] [4,5,23]),(6,zK [1,4,5,6,12,13,14] [4,5,23]),(7,zK [4,5,6,9] [4,5,9,23]),(8,zK [4,5,9,10] [4,5,9,10]),(9,zK [4,5] [4,5])],
 [(3,⟨[1,4,5,6,12,13,14],[4,5,23],[(6,23,40,λ _=>zam default)],[],[],[],[]⟩)],
 [(7,zK [4,5,6] [4,5,23]),(8,zK [4,5,6,9] [4,5,9,23]),(9,zK [4,5,9,10] [4,5,9,10])],
 [],[]⟩
abbrev R70:=(Frac×Frac)
abbrev e70 (r:R70):List PA:=[.agg [.int .i64 r.1.Num,.int .i64 r.1.Den],.agg [.int .i64 r.2.Num,.int .i64 r.2.Den]]
@[irreducible] def z70:=ptF Tryz.prog G70 zHW Tryz.f70
def zE4 (c0:Int) (s:set) (zan:Int) (zdP:(Sl Frac)) (zgT:Nat->List PV):St:=⟨[(1,zP (.fn 71 [] [.fp (zak c0) 0])),(4,zp 4 0),(5,zp 5 0),(6,zv 23),(12,zS zaz 3 s.corners),(13,zI (s.corners.len:Int)),(14,zI zan)],[(4,.box 40 (zm (zam (⟨(0:Int),(0:Int)⟩:Frac)))),(5,.box 40 (zm (zam (⟨(0:Int),(0:Int)⟩:Frac)))),(23,.vec 40 2 16 zdP.len zgT)],[]⟩
abbrev zMy (K:List PA->Prop) (c0:Int) (s:set) (X:St->Prop) (P:Int->(Sl Frac)->Bool) (S:Int->(Sl Frac)->(Frac×Frac)):Prop:=∀ ⦃zan:Int⦄ ⦃zdP:(Sl Frac)⦄ ⦃zgT:Nat->List PV⦄,P zan zdP=true->K (e70 (S zan zdP))->zgT=zg zam zdP->X (zE4 c0 s zan zdP zgT)
section
variable {K:List PA->Prop}{c0:Int}{s:set}{zan:Int}{zdP:(Sl Frac)}{zgT:Nat->List PV}{X0:St->Prop}{P0:Int->(Sl Frac)->Bool}{S0:Int->(Sl Frac)->(Frac×Frac)}{ziJ:(Sl Frac)}{zzn:Nat->List PV}{zdQ:Int}{zdR:Int}{zkq:(Sl Frac)}{zzo:Nat->List PV}{zf6:Int}{zf7:Int}
def zzp (zdQ:Int) (zdR:Int) (zf6:Int) (zf7:Int):(Frac×Frac) :=
  ((s68 zdQ zdR),(s68 zf6 zf7))
def zzq (zdQ:Int) (zdR:Int) (zf6:Int) (zf7:Int):Bool :=
  (decide ((p68 zdQ zdR=true)) &&
 (decide ((p68 zf6 zf7=true)) &&
 true))
theorem zHX (hs:zzq zdQ zdR zf6 zf7=true) (hk:K (e70 (zzp zdQ zdR zf6 zf7))):z70 K [1,1,1,1,1] [] ⟨[(4,zp 4 0),(5,zp 5 0),(9,zp 9 0),(10,zp 10 0)],[(4,.box 40 (zm (zam (⟨(0:Int),(0:Int)⟩:Frac)))),(5,.box 40 (zm (zam (⟨(0:Int),(0:Int)⟩:Frac)))),(9,.box 40 (zm (zam (⟨zdQ,zdR⟩:Frac)))),(10,.box 40 (zm (zam (⟨zf6,zf7⟩:Frac))))],[]⟩:=zaN (by kernel_rfl) (zaI hs λ hc hs=>And.intro hc (zaI hs λ hc hs=>And.intro hc hk))
def zzr (zdQ:Int) (zdR:Int) (zkq:(Sl Frac)):(Frac×Frac) :=
  (zzp zdQ zdR ((zHU zkq).Num) ((zHU zkq).Den))
def zzs (zdQ:Int) (zdR:Int) (zkq:(Sl Frac)):Bool :=
  (decide ((zPQ zkq=true)) &&
 (zzq zdQ zdR ((zHU zkq).Num) ((zHU zkq).Den)))
theorem zHY (hs:zzs zdQ zdR zkq=true) (hk:K (e70 (zzr zdQ zdR zkq))) (zHZ:zzo=zg zam zkq):z70 K [1,1,1,1] [] ⟨[(4,zp 4 0),(5,zp 5 0),(6,zv 23),(9,zp 9 0)],[(4,.box 40 (zm (zam (⟨(0:Int),(0:Int)⟩:Frac)))),(5,.box 40 (zm (zam (⟨(0:Int),(0:Int)⟩:Frac)))),(9,.box 40 (zm (zam (⟨zdQ,zdR⟩:Frac)))),(23,.vec 40 2 16 zkq.len zzo)],[]⟩:=by subst zHZ;exact zaN (by kernel_rfl) (zaI hs λ hc hs=>And.intro (And.intro (zE zam 2 zkq.get) hc) (zHX hs hk))
def zzt (ziJ:(Sl Frac)):(Frac×Frac) :=
  (zzr ((s85 ziJ).Num) ((s85 ziJ).Den) ziJ)
def zzu (ziJ:(Sl Frac)):Bool :=
  (decide ((p85 ziJ=true)) &&
 (zzs ((s85 ziJ).Num) ((s85 ziJ).Den) ziJ))
theorem zH0 (hs:zzu ziJ=true) (hk:K (e70 (zzt ziJ))) (zH1:zzn=zg zam ziJ):z70 K [1,1,1] [] ⟨[(4,zp 4 0),(5,zp 5 0),(6,zv 23)],[(4,.box 40 (zm (zam (⟨(0:Int),(0:Int)⟩:Frac)))),(5,.box 40 (zm (zam (⟨(0:Int),(0:Int)⟩:Frac)))),(23,.vec 40 2 16 ziJ.len zzn)],[]⟩:=by subst zH1;exact zaN (by kernel_rfl) (zaI hs λ hc hs=>And.intro (And.intro (zE zam 2 ziJ.get) hc) (zHY hs hk rfl))
def zzv (c0:Int) (s:set) (S0:Int->(Sl Frac)->(Frac×Frac)) (zan:Int) (zdP:(Sl Frac)):(Frac×Frac) :=
  (cond (decide (zan < (s.corners.len : Int)))
 (S0 (w64 (zan+(1:Int))) (⟨(zdP.len+1),(zgv zdP.len zdP.get (λ _=>(s71 c0 (s.corners.get zan.toNat))))⟩:Sl Frac))
 (zzt zdP))
def zzw (c0:Int) (s:set) (P0:Int->(Sl Frac)->Bool) (zan:Int) (zdP:(Sl Frac)):Bool :=
  (cond (decide (zan < (s.corners.len : Int)))
 (decide ((0<=zan/\zan < (s.corners.len:Int))) &&
 (decide (((zdP.len+1) * 16<=140737488355328/\zdP.len+1<=9223372036854775807)) &&
 (P0 (w64 (zan+(1:Int))) (⟨(zdP.len+1),(zgv zdP.len zdP.get (λ _=>(s71 c0 (s.corners.get zan.toNat))))⟩:Sl Frac))))
 (zzu zdP))
def zzx (c0:Int) (s:set):Nat->Int->(Sl Frac)->(Frac×Frac):=lpO (λ _ _=>default) (zzv c0 s)
def zzy (c0:Int) (s:set):Nat->Int->(Sl Frac)->Bool:=lpO (λ _ _=>false) (zzw c0 s)
def zzz (c0:Int) (s:set) (zan:Int) (zdP:(Sl Frac)):(Frac×Frac):=zzx c0 s Fuel zan zdP
def zzA (c0:Int) (s:set) (zan:Int) (zdP:(Sl Frac)):Bool:=zzy c0 s Fuel zan zdP
theorem zH2 (hs:zzA c0 s zan zdP=true) (hk:K (e70 (zzz c0 s zan zdP))) (zsl:zgT=zg zam zdP):z70 K [1,1,0,1,0] [] (zE4 c0 s zan zdP zgT) :=
  zl (λ X=>z70 K [1,1,0,1,0,0] [X]) (by kernel_rfl) λ X0 hX =>
  (show ∀ k, zMy K c0 s X0 (zzy c0 s k) (zzx c0 s k) from zgw _ _ (zzw c0 s) (zzv c0 s) (zMy K c0 s X0)
 (by intro _ _ _ hs;exact absurd hs dqk)
 (by intro P0 S0 hX0 zan zdP zgT hs hk zsl;subst zsl;exact hX _ (zaN (by kernel_rfl) (zc hs hk (λ hs hk=>(zaI hs λ hc hs=>And.intro hc (zaI hs λ hc hs=>And.intro hc (hX0 hs hk (zhA (enc:=zam) (f:=zdP.get) (h:=(λ _=>(s71 c0 (s.corners.get zan.toNat)))) rfl rfl))))) (λ hs hk=>(zH0 hs hk rfl)))))) _ hs hk zsl
def s70 (c0:Int) (s:set):(Frac×Frac) :=
  (zzz c0 s (0:Int) (⟨0,(λ _=>default)⟩:Sl Frac))
def p70 (c0:Int) (s:set):Bool :=
  (zzA c0 s (0:Int) (⟨0,(λ _=>default)⟩:Sl Frac))
end
theorem q70 (c0:Int) (s:set) (K:List PA->Prop) (hs:p70 c0 s=true) (hk:K (e70 (s70 c0 s))):vcFun Tryz.prog G70 zHW 70 [.agg (zct s),.one (.fn 71 [] [.fp (zak c0) 0])] K :=
  zaN (by kernel_rfl) (zH2 hs hk rfl)
def zH3 : List PA → COut
  | [.agg [.sl zai zaH zaj,.sl zas zbf zat],.one (.fn 71 [] [.fp [.int .i64 c0] 0])]=>.det (IsE enc_48 3 zaH zaj/\IsE zaz 3 zbf zat/\p70 c0 (⟨(⟨(⟨zai,zaf zaj⟩:(Sl Gate))⟩:list),(⟨zas,zcz zat⟩:(Sl straight))⟩:set)=true) [.agg [.int .i64 (((s70 c0 (⟨(⟨(⟨zai,zaf zaj⟩:(Sl Gate))⟩:list),(⟨zas,zcz zat⟩:(Sl straight))⟩:set)).1).Num),.int .i64 (((s70 c0 (⟨(⟨(⟨zai,zaf zaj⟩:(Sl Gate))⟩:list),(⟨zas,zcz zat⟩:(Sl straight))⟩:set)).1).Den)],.agg [.int .i64 (((s70 c0 (⟨(⟨(⟨zai,zaf zaj⟩:(Sl Gate))⟩:list),(⟨zas,zcz zat⟩:(Sl straight))⟩:set)).2).Num),.int .i64 (((s70 c0 (⟨(⟨(⟨zai,zaf zaj⟩:(Sl Gate))⟩:list),(⟨zas,zcz zat⟩:(Sl straight))⟩:set)).2).Den)]]
  | _=>.no
theorem zMz:zah Tryz.prog 70:=⟨_,rfl,rfl,by kernel_rfl⟩
theorem zRW:Ok Tryz.prog 70 zH3:=za3 zPR zMz λ args K h=>by
  unfold zH3 at h
  split at h
  · rename_i zai zaH zaj zas zbf zat c0
    obtain⟨⟨⟨rfl,zar,rfl⟩,⟨rfl,zaL,rfl⟩,hs⟩,hk⟩:=h
    try rw[zae zar] at hs
    try rw[zae zar] at hk
    try rw[zbP zaL] at hs
    try rw[zbP zaL] at hk
    exact⟨(λ _ _=>[]),(λ _=>false),zHW,q70 c0 (⟨(⟨(⟨zai,zar⟩:(Sl Gate))⟩:list),(⟨zas,zaL⟩:(Sl straight))⟩:set) K hs hk⟩
  · exact h.elim
abbrev T46:Tabs:=((((Tabs.nil.addF 49 zqd).addF 68 zwo).addF 69 zDJ).addF 70 zH3)
theorem zPS:TabsOk Tryz.prog T46:=((((TabsOk.nil.addF zKp).addF zOD).addF zQS).addF zRW)
abbrev G46:Ctrs:=csm T46 (λ _ _=>[]) (λ _=>false)
def zMA:Ann:=⟨24,[(0,zK [2,3,4,5] [2,3,4,5]),(1,zK [2,3,4,5,9] [2,3,4,5]),(2,zK [4,5,6] [4,5,6]),(3,zK [4,5] [4,5]),(4,zK [4,5] [4,5])],
 [],
 [],
 [],[]⟩
abbrev R46:=(Frac×Frac)
abbrev e46 (r:R46):List PA:=[.agg [.int .i64 r.1.Num,.int .i64 r.1.Den],.agg [.int .i64 r.2.Num,.int .i64 r.2.Den]]
section
variable {K:List PA->Prop}{s:set}{z:Int}
def s46 (s:set) (z:Int):(Frac×Frac) :=
  (cond (s49 s.list)
 ((s68 ((s69 s.list).Low) (1:Int)),(s68 ((s69 s.list).High) (1:Int)))
 (((s70 z s).1),((s70 z s).2)))
def p46 (s:set) (z:Int):Bool :=
  (decide ((p49 s.list=true)) &&
 (cond (s49 s.list)
 (decide ((p69 s.list=true)) &&
 (decide ((p68 ((s69 s.list).Low) (1:Int)=true)) &&
 (decide ((p68 ((s69 s.list).High) (1:Int)=true)) &&
 true)))
 (decide ((p70 z s=true)) &&
 true)))
end
theorem q46 (s:set) (z:Int) (K:List PA->Prop) (hs:p46 s z=true) (hk:K (e46 (s46 s z))):vcFun Tryz.prog G46 zMA 46 [.agg (zct s),.one (.int .i64 z)] K :=
  zaN (by kernel_rfl) (zaI hs λ hc hs=>And.intro (And.intro (zE enc_48 3 s.list.Gates.get) hc) (zc hs hk (λ hs hk=>(zaI hs λ hc hs=>And.intro (And.intro (zE enc_48 3 s.list.Gates.get) hc) (zaI hs λ hc hs=>And.intro hc (zaI hs λ hc hs=>And.intro hc hk)))) (λ hs hk=>(zaI hs λ hc hs=>And.intro (And.intro (zE enc_48 3 s.list.Gates.get) (And.intro (zE zaz 3 s.corners.get) hc)) hk))))
def zDT : List PA → COut
  | [.agg [.sl zai zaH zaj,.sl zas zbf zat],.one (.int .i64 a1)]=>.det (IsE enc_48 3 zaH zaj/\IsE zaz 3 zbf zat/\p46 (⟨(⟨(⟨zai,zaf zaj⟩:(Sl Gate))⟩:list),(⟨zas,zcz zat⟩:(Sl straight))⟩:set) a1=true) [.agg [.int .i64 (((s46 (⟨(⟨(⟨zai,zaf zaj⟩:(Sl Gate))⟩:list),(⟨zas,zcz zat⟩:(Sl straight))⟩:set) a1).1).Num),.int .i64 (((s46 (⟨(⟨(⟨zai,zaf zaj⟩:(Sl Gate))⟩:list),(⟨zas,zcz zat⟩:(Sl straight))⟩:set) a1).1).Den)],.agg [.int .i64 (((s46 (⟨(⟨(⟨zai,zaf zaj⟩:(Sl Gate))⟩:list),(⟨zas,zcz zat⟩:(Sl straight))⟩:set) a1).2).Num),.int .i64 (((s46 (⟨(⟨(⟨zai,zaf zaj⟩:(Sl Gate))⟩:list),(⟨zas,zcz zat⟩:(Sl straight))⟩:set) a1).2).Den)]]
  | _=>.no
theorem zMB:zah Tryz.prog 46:=⟨_,rfl,rfl,by kernel_rfl⟩
theorem zQ0:Ok Tryz.prog 46 zDT:=za3 zPS zMB λ args K h=>by
  unfold zDT at h
  split at h
  · rename_i zai zaH zaj zas zbf zat a1
    obtain⟨⟨⟨rfl,zar,rfl⟩,⟨rfl,zaL,rfl⟩,hs⟩,hk⟩:=h
    try rw[zae zar] at hs
    try rw[zae zar] at hk
    try rw[zbP zaL] at hs
    try rw[zbP zaL] at hk
    exact⟨(λ _ _=>[]),(λ _=>false),zMA,q46 (⟨(⟨(⟨zai,zar⟩:(Sl Gate))⟩:list),(⟨zas,zaL⟩:(Sl straight))⟩:set) a1 K hs hk⟩
  · exact h.elim
abbrev T22:Tabs:=(((Tabs.nil.addF 40 zDP).addF 44 zqa).addF 46 zDT)
theorem zPT:TabsOk Tryz.prog T22:=(((TabsOk.nil.addF zQX).addF zKn).addF zQ0)
abbrev G22:Ctrs:=csm T22 (λ _ _=>[]) (λ _=>false)
def zH4:Ann:=⟨35,[(0,zK [0,3,4,5] [3,4,5]),(1,zK [0,3,4,5,13] [3,4,5]),(2,zK [4,5,6] [4,5]),(3,zK [3,4,5,7,8] [3,4,5,7]),(4,zK [3,4,5,7,8,23] [3,4,5,7]),(5,zK [4,5,6] [4,5]),(6,zK [4,5,9,10] [4,5,9,10]),(7,zK [4,5,6] [4,5])],
 [],
 [(2,zK [0,3,4,5,13] [3,4,5]),(3,zK [0,3,4,5] [3,4,5]),(4,zK [3,4,5,7,8] [3,4,5,7]),(6,zK [3,4,5,7] [3,4,5,7]),(7,zK [4,5,9,10] [4,5,9,10])],
 [],[]⟩
abbrev R22:=(Frac×Frac×Int)
abbrev e22 (r:R22):List PA:=[.agg [.int .i64 r.1.Num,.int .i64 r.1.Den],.agg [.int .i64 r.2.1.Num,.int .i64 r.2.1.Den],.one (.int .i64 r.2.2)]
@[irreducible] def z22:=ptF Tryz.prog G22 zH4 Tryz.f22
section
variable {K:List PA->Prop}{zaa:(Sl Gate)}{z:Int}{zsm:Bool}{ev2:Int}{zqj:(Sl Gate)}{zqk:(Sl straight)}{zzB:Nat->List PV}{zzC:Nat->List PV}{zkr:(Sl Gate)}{zks:(Sl straight)}{zzD:Nat->List PV}{zzE:Nat->List PV}{zoM:Int}{zoN:Int}{zkL:Int}{zkM:Int}
def zzF (zoM:Int) (zoN:Int) (zkL:Int) (zkM:Int):(Frac×Frac×Int) :=
  ((⟨zoM,zoN⟩:Frac),(⟨zkL,zkM⟩:Frac),(0:Int))
theorem zH5 (hk:K (e22 (zzF zoM zoN zkL zkM))):z22 K [1,1,1,1,1] [] ⟨[(4,zp 4 0),(5,zp 5 0),(9,zp 9 0),(10,zp 10 0)],[(4,.box 40 (zm (zam (⟨(0:Int),(0:Int)⟩:Frac)))),(5,.box 40 (zm (zam (⟨(0:Int),(0:Int)⟩:Frac)))),(9,.box 40 (zm (zam (⟨zoM,zoN⟩:Frac)))),(10,.box 40 (zm (zam (⟨zkL,zkM⟩:Frac))))],[]⟩:=zaN (by kernel_rfl) hk
def zzG (z:Int) (zkr:(Sl Gate)) (zks:(Sl straight)):(Frac×Frac×Int) :=
  (zzF (((s46 (⟨(⟨zkr⟩:list),zks⟩:set) z).1).Num) (((s46 (⟨(⟨zkr⟩:list),zks⟩:set) z).1).Den) (((s46 (⟨(⟨zkr⟩:list),zks⟩:set) z).2).Num) (((s46 (⟨(⟨zkr⟩:list),zks⟩:set) z).2).Den))
def zzH (z:Int) (zkr:(Sl Gate)) (zks:(Sl straight)):Bool :=
  (decide ((p46 (⟨(⟨zkr⟩:list),zks⟩:set) z=true)) &&
 true)
theorem zH6 (hs:zzH z zkr zks=true) (hk:K (e22 (zzG z zkr zks))) (zH7:zzD=zg enc_48 zkr) (zH8:zzE=zg zaz zks):z22 K [1,1,1,1] [] ⟨[(3,zp 3 0),(4,zp 4 0),(5,zp 5 0),(7,zp 7 0)],[(3,.fbox [.int .i64 z]),(4,.box 40 (zm (zam (⟨(0:Int),(0:Int)⟩:Frac)))),(5,.box 40 (zm (zam (⟨(0:Int),(0:Int)⟩:Frac)))),(7,.box 75 [.p (.sl zkr.len 3 zzD),.p (.sl zks.len 3 zzE)])],[]⟩:=by subst zH7;subst zH8;exact zaN (by kernel_rfl) (zaI hs λ hc hs=>And.intro (And.intro (zE enc_48 3 zkr.get) (And.intro (zE zaz 3 zks.get) hc)) (zH5 hk))
def zzI (z:Int) (ev2:Int) (zqj:(Sl Gate)) (zqk:(Sl straight)):(Frac×Frac×Int) :=
  (cond (ev2 != (0:Int))
 ((⟨(0:Int),(0:Int)⟩:Frac),(⟨(0:Int),(0:Int)⟩:Frac),ev2)
 (zzG z zqj zqk))
def zzJ (z:Int) (ev2:Int) (zqj:(Sl Gate)) (zqk:(Sl straight)):Bool :=
  (cond (ev2 != (0:Int))
 true
 (zzH z zqj zqk))
theorem zH9 (hs:zzJ z ev2 zqj zqk=true) (hk:K (e22 (zzI z ev2 zqj zqk))) (zIa:zzB=zg enc_48 zqj) (zIb:zzC=zg zaz zqk):z22 K [1,1,1] [] ⟨[(3,zp 3 0),(4,zp 4 0),(5,zp 5 0),(7,zp 7 0),(8,zI ev2)],[(3,.fbox [.int .i64 z]),(4,.box 40 (zm (zam (⟨(0:Int),(0:Int)⟩:Frac)))),(5,.box 40 (zm (zam (⟨(0:Int),(0:Int)⟩:Frac)))),(7,.box 75 [.p (.sl zqj.len 3 zzB),.p (.sl zqk.len 3 zzC)])],[]⟩:=by subst zIa;subst zIb;exact zaN (by kernel_rfl) (zc hs hk (λ hs hk=>hk) (λ hs hk=>(zH6 hs hk rfl rfl)))
def zzK (zaa:(Sl Gate)) (z:Int):(Frac×Frac×Int) :=
  (zzI z ((zwB z zaa).2) (((zwB z zaa).1).list.Gates) (((zwB z zaa).1).corners))
def zzL (zaa:(Sl Gate)) (z:Int):Bool :=
  (decide ((zPB z zaa=true)) &&
 (zzJ z ((zwB z zaa).2) (((zwB z zaa).1).list.Gates) (((zwB z zaa).1).corners)))
theorem zIc (hs:zzL zaa z=true) (hk:K (e22 (zzK zaa z))):z22 K [1,1] [] ⟨[(0,zS enc_48 3 zaa),(3,zp 3 0),(4,zp 4 0),(5,zp 5 0)],[(3,.box 3 [zi z]),(4,.box 40 (zm (zam (⟨(0:Int),(0:Int)⟩:Frac)))),(5,.box 40 (zm (zam (⟨(0:Int),(0:Int)⟩:Frac))))],[]⟩:=zaN (by kernel_rfl) (zaI hs λ hc hs=>And.intro (And.intro (zE enc_48 3 zaa.get) hc) (zH9 hs hk rfl rfl))
def zzM (zaa:(Sl Gate)) (z:Int) (zsm:Bool):(Frac×Frac×Int) :=
  (cond zsm
 ((⟨(0:Int),(0:Int)⟩:Frac),(⟨(0:Int),(0:Int)⟩:Frac),(2:Int))
 (zzK zaa z))
def zzN (zaa:(Sl Gate)) (z:Int) (zsm:Bool):Bool :=
  (cond zsm
 true
 (zzL zaa z))
theorem zId (hs:zzN zaa z zsm=true) (hk:K (e22 (zzM zaa z zsm))):z22 K [1,0,1] [] ⟨[(0,zS enc_48 3 zaa),(3,zp 3 0),(4,zp 4 0),(5,zp 5 0),(13,zB zsm)],[(3,.box 3 [zi z]),(4,.box 40 (zm (zam (⟨(0:Int),(0:Int)⟩:Frac)))),(5,.box 40 (zm (zam (⟨(0:Int),(0:Int)⟩:Frac))))],[]⟩:=zaN (by kernel_rfl) (zc hs hk (λ hs hk=>hk) (λ hs hk=>(zIc hs hk)))
def s22 (zaa:(Sl Gate)) (z:Int):(Frac×Frac×Int) :=
  (zzM zaa z (!(s44 z (-100000:Int) (200000:Int))))
def p22 (zaa:(Sl Gate)) (z:Int):Bool :=
  (zzN zaa z (!(s44 z (-100000:Int) (200000:Int))))
end
theorem q22 (zaa:(Sl Gate)) (z:Int) (K:List PA->Prop) (hs:p22 zaa z=true) (hk:K (e22 (s22 zaa z))):vcFun Tryz.prog G22 zH4 22 [.one (.sl zaa.len 3 (λ i=>enc_48 (zaa.get i))),.one (.int .i64 z)] K :=
  zaN (by kernel_rfl) (zId hs hk)
def zIe : List PA → COut
  | [.one (.sl zaU zcu zaV),.one (.int .i64 a1)]=>.det (IsE enc_48 3 zcu zaV/\p22 (⟨zaU,zaf zaV⟩:(Sl Gate)) a1=true) [.agg [.int .i64 (((s22 (⟨zaU,zaf zaV⟩:(Sl Gate)) a1).1).Num),.int .i64 (((s22 (⟨zaU,zaf zaV⟩:(Sl Gate)) a1).1).Den)],.agg [.int .i64 (((s22 (⟨zaU,zaf zaV⟩:(Sl Gate)) a1).2.1).Num),.int .i64 (((s22 (⟨zaU,zaf zaV⟩:(Sl Gate)) a1).2.1).Den)],.one (.int .i64 ((s22 (⟨zaU,zaf zaV⟩:(Sl Gate)) a1).2.2))]
  | _=>.no
theorem zMC:zah Tryz.prog 22:=⟨_,rfl,rfl,by kernel_rfl⟩
theorem zRX:Ok Tryz.prog 22 zIe:=za3 zPT zMC λ args K h=>by
  unfold zIe at h
  split at h
  · rename_i zaU zcu zaV a1
    obtain⟨⟨⟨rfl,zbF,rfl⟩,hs⟩,hk⟩:=h
    try rw[zae zbF] at hs
    try rw[zae zbF] at hk
    exact⟨(λ _ _=>[]),(λ _=>false),zH4,q22 (⟨zaU,zbF⟩:(Sl Gate)) a1 K hs hk⟩
  · exact h.elim
abbrev T23:Tabs:=Tabs.nil
theorem zPU:TabsOk Tryz.prog T23:=TabsOk.nil
abbrev G23:Ctrs:=csm T23 (λ _ _=>[]) (λ _=>false)
def zMD:Ann:=⟨5,[(0,zK [] []),(1,zK [0] [4])],
 [],
 [],
 [],[]⟩
abbrev R23:=(Sl Gate)
abbrev e23 (r:R23):List PA:=[.one (.sl r.len 3 (λ i=>enc_48 (r.get i)))]
section
variable {K:List PA->Prop}
def s23:(Sl Gate) :=
  (⟨3,(zkk (⟨(0:Int),(0:Int),(10:Int)⟩:Gate) [(⟨(0:Int),(0:Int),(10:Int)⟩:Gate),(⟨(100:Int),(20:Int),(30:Int)⟩:Gate),(⟨(200:Int),(0:Int),(9:Int)⟩:Gate)])⟩:(Sl Gate))
end
theorem q23 (K:List PA->Prop) (hk:K (e23 (s23))):vcFun Tryz.prog G23 zMD 23 [] K :=
  zaN (by kernel_rfl) (Eq.mpr (congrArg K (congrArg (λ (g_:Nat->List PV)=>([.one (.sl 3 3 g_)]:List PA)) (zfV (enc:=enc_48) (x:=(⟨(0:Int),(0:Int),(10:Int)⟩:Gate)) (y:=(⟨(100:Int),(20:Int),(30:Int)⟩:Gate)) (r:=[(⟨(200:Int),(0:Int),(9:Int)⟩:Gate)])))) hk)
def zIf : List PA → COut
  | []=>.tot [.one (.sl ((s23).len) 3 (λ i=>enc_48 ((s23).get i)))]
  | _=>.no
theorem zME:zah Tryz.prog 23:=⟨_,rfl,rfl,by kernel_rfl⟩
theorem zRY:Ok Tryz.prog 23 zIf:=za3 zPU zME λ args K h=>by
  unfold zIf at h
  split at h
  · have hk := h
    exact⟨(λ _ _=>[]),(λ _=>false),zMD,q23 K hk⟩
  · exact h.elim
abbrev T24:Tabs:=((((((Tabs.nil.addF 28 zqb).addF 46 zDT).addF 47 zyA).addF 48 zyD).addF 49 zqd).addF 50 zwp)
theorem zPV:TabsOk Tryz.prog T24:=((((((TabsOk.nil.addF zKo).addF zQ0).addF zPq).addF zPt).addF zKp).addF zOJ)
abbrev G24:Ctrs:=csm T24 (λ _ _=>[]) (λ _=>false)
def zIg:Ann:=⟨124,[(0,zK [0,1,2,3,9,10] [9,10]),(1,zK [0,1,2,3,9,10,12] [9,10,12]),(2,zK [0,1,2,3,9,10,12,44] [9,10,12]),(3,zK [8,9,10,11] [9,10]),(4,zK [2,3,9,10,12,13,14] [9,10,12,13,14]),(5,zK [2,3,9,10,12,13,14,58] [9,10,12,13,14]),(6,zK [8,9,10,11] [9,10]),(7,zK [2,3,9,10,12,13,14,68] [9,10,12,13,14]),(8,zK [8,9,10,11] [9,10]),(9,zK [2,3,9,10,12,13,14,15,16] [9,10,12,13,14,15,16]),(10,zK [2,3,9,10,12,13,14,15,16,17] [9,10,12,13,14,15,16]),(11,zK [2,3,9,10,12,13,14,15,16,17,76,77] [9,10,12,13,14,15,16]),(12,zK [2,3,9,10,12,13,14,15,16,17,76,77,78] [9,10,12,13,14,15,16]),(13,zK [2,3,9,10,12,13,14,15,16,17,18,76,77] [9,10,12,13,14,15,16]),(14,zK [2,3,9,10,12,13,14,15,16,17,18,19,20,76,77] [9,10,12,13,14,15,16,19,20]),(15,zK [2,3,9,10,12,13,14,15,16,17,18,19,20,21,22,76,77] [9,10,12,13,14,15,16,19,20,21,22]),(16,zK [2,3,9,10,12,13,14,15,16,17,18,19,20,21,22,76,77] [9,10,12,13,14,15,16,19,20,21,22]),(17,zK [2,3,9,10,12,13,14,15,16,17,18,20,21,22,76,77,101] [9,10,12,13,14,15,16,20,21,22]),(18,zK [2,3,9,10,12,13,14,15,16,17,18,20,22,76,77] [9,10,12,13,14,15,16,20,22]),(19,zK [2,3,9,10,12,13,14,15,16,17,18,22,76,77,106] [9,10,12,13,14,15,16,22]),(20,zK [2,3,9,10,12,13,14,15,16,17,18,76,77] [9,10,12,13,14,15,16]),(21,zK [2,3,9,10,12,13,14,15,16,17,18,76,77,111] [9,10,12,13,14,15,16]),(22,zK [3,9,10,12,15,16,17] [9,10,12,15,16]),(23,zK [2,3,9,10,12,13,14,15,16,17,76,77] [9,10,12,13,14,15,16]),(24,zK [9,10,12,15,16,17,118] [9,10,12,15,16]),(25,zK [8,9,10,11] [9,10]),(26,zK [8,9,10,11] [9,10])],
 [(12,zK [2,3,9,10,12,13,14,15,16,17,76,77] [9,10,12,13,14,15,16])],
 [(3,zK [0,1,2,3,9,10,12,44] [9,10,12]),(4,zK [0,1,2,3,9,10,12] [9,10,12]),(5,zK [2,3,9,10,12,13,14] [9,10,12,13,14]),(6,zK [2,3,9,10,12,13,14,58] [9,10,12,13,14]),(7,zK [2,3,9,10,12,13,14] [9,10,12,13,14]),(8,zK [2,3,9,10,12,13,14,68] [9,10,12,13,14]),(9,zK [2,3,9,10,12,13,14] [9,10,12,13,14]),(15,zK [2,3,9,10,12,13,14,15,16,17,18,19,20,76,77] [9,10,12,13,14,15,16,19,20]),(24,zK [3,9,10,12,15,16,17] [9,10,12,15,16]),(16,zK [2,3,9,10,12,13,14,15,16,17,18,19,20,21,22,76,77] [9,10,12,13,14,15,16,19,20,21,22]),(18,zK [2,3,9,10,12,13,14,15,16,17,18,20,21,22,76,77,101] [9,10,12,13,14,15,16,20,21,22]),(19,zK [2,3,9,10,12,13,14,15,16,17,18,20,22,76,77] [9,10,12,13,14,15,16,20,22]),(20,zK [2,3,9,10,12,13,14,15,16,17,18,22,76,77,106] [9,10,12,13,14,15,16,22]),(22,zK [2,3,9,10,12,13,14,15,16,17,18,76,77,111] [9,10,12,13,14,15,16])],
 [],[]⟩
abbrev R24:=(Int×Frac×Frac×Int)
abbrev e24 (r:R24):List PA:=[.one (.int .i64 r.1),.agg [.int .i64 r.2.1.Num,.int .i64 r.2.1.Den],.agg [.int .i64 r.2.2.1.Num,.int .i64 r.2.2.1.Den],.one (.int .i64 r.2.2.2)]
@[irreducible] def z24:=ptF Tryz.prog G24 zIg Tryz.f24
def zE5 (low:Int) (high:Int) (zax:(Sl Gate)) (zaC:(Sl straight)) (zay:(Sl Gate)) (zaD:(Sl straight)) (zdy:Int) (zck:Int) (zcl:Int) (zdS:Int) (zdT:Int):St:=⟨[(2,zI low),(3,zI high),(9,zp 9 0),(10,zp 10 0),(12,zp 12 0),(13,zp 13 0),(14,zp 14 0),(15,zp 15 0),(16,zp 16 0),(17,zI (w64 (high+(1:Int)))),(76,zI (w64 ((w64 (high - low))+(1:Int)))),(77,zI zdy)],[(9,.box 40 (zm (zam (⟨(0:Int),(0:Int)⟩:Frac)))),(10,.box 40 (zm (zam (⟨(0:Int),(0:Int)⟩:Frac)))),(12,.box 40 (zm (zam (⟨(0:Int),(0:Int)⟩:Frac)))),(13,.box 75 (zm (zct (⟨(⟨zax⟩:list),zaC⟩:set)))),(14,.box 75 (zm (zct (⟨(⟨zay⟩:list),zaD⟩:set)))),(15,.box 40 (zm (zam (⟨zck,zcl⟩:Frac)))),(16,.box 40 (zm (zam (⟨zdS,zdT⟩:Frac))))],[]⟩
abbrev zql (K:List PA->Prop) (low:Int) (high:Int) (zax:(Sl Gate)) (zaC:(Sl straight)) (zay:(Sl Gate)) (zaD:(Sl straight)) (X:St->Prop) (P:Int->Int->Int->Int->Int->Bool) (S:Int->Int->Int->Int->Int->(Int×Frac×Frac×Int)):Prop:=∀ ⦃zdy:Int⦄ ⦃zck:Int⦄ ⦃zcl:Int⦄ ⦃zdS:Int⦄ ⦃zdT:Int⦄,P zdy zck zcl zdS zdT=true->K (e24 (S zdy zck zcl zdS zdT))->X (zE5 low high zax zaC zay zaD zdy zck zcl zdS zdT)
section
variable {K:List PA->Prop}{a:(Sl Gate)}{b:(Sl Gate)}{low:Int}{high:Int}{zsn:Bool}{zax:(Sl Gate)}{zaC:(Sl straight)}{zay:(Sl Gate)}{zaD:(Sl straight)}{zzO:Nat->List PV}{zzP:Nat->List PV}{zzQ:Nat->List PV}{zzR:Nat->List PV}{zso:Bool}{zsp:Bool}{zdy:Int}{zck:Int}{zcl:Int}{zdS:Int}{zdT:Int}{X7:St->Prop}{P7:Int->Int->Int->Int->Int->Bool}{S7:Int->Int->Int->Int->Int->(Int×Frac×Frac×Int)}{iv8:Int}{zsq:Int}{zf8:Int}{zf9:Int}{zl0:Int}{zl1:Int}{zeU:Int}{zeV:Int}{zcF:Int}{zcG:Int}{zMF:Int}{zkN:Int}{zkO:Int}{zuU:Int}{zuV:Int}{zgx:Int}{zl2:Int}{zgU:Int}{zgV:Int}{zl3:Int}{zl4:Int}{zev:Int}{zew:Int}{zb9:Int}{zca:Int}{zqm:Int}{ziK:Int}{zhY:Bool}{zd7:Int}{zl5:Int}{za7:Int}{za8:Int}{zqn:Int}{ziL:Int}{zhZ:Bool}{zKq:Int}{zl6:Int}{zh0:Bool}{zgW:Int}{zgX:Int}
def zsr (high:Int) (zMF:Int) (zkN:Int) (zkO:Int) (zuU:Int) (zuV:Int):(Int×Frac×Frac×Int) :=
  (cond (decide (zMF > high))
 ((0:Int),(⟨(0:Int),(0:Int)⟩:Frac),(⟨(0:Int),(0:Int)⟩:Frac),(5:Int))
 (zMF,(⟨zkN,zkO⟩:Frac),(⟨zuU,zuV⟩:Frac),(0:Int)))
theorem zzS (hk:K (e24 (zsr high zMF zkN zkO zuU zuV))):z24 K [1,0,1,1,1,1,1,1,1,1,1] [] ⟨[(3,zI high),(9,zp 9 0),(10,zp 10 0),(12,zp 12 0),(15,zp 15 0),(16,zp 16 0),(17,zI zMF)],[(9,.box 40 (zm (zam (⟨(0:Int),(0:Int)⟩:Frac)))),(10,.box 40 (zm (zam (⟨(0:Int),(0:Int)⟩:Frac)))),(12,.box 40 (zm (zam (⟨(0:Int),(0:Int)⟩:Frac)))),(15,.box 40 (zm (zam (⟨zkN,zkO⟩:Frac)))),(16,.box 40 (zm (zam (⟨zuU,zuV⟩:Frac))))],[]⟩:=zaN (by kernel_rfl) (zt hk (λ hk=>hk) (λ hk=>hk))
def zoO (S7:Int->Int->Int->Int->Int->(Int×Frac×Frac×Int)) (low:Int) (high:Int) (zax:(Sl Gate)) (zaC:(Sl straight)) (zay:(Sl Gate)) (zaD:(Sl straight)) (za7:Int) (za8:Int) (zKq:Int) (zl6:Int) (zh0:Bool) (zgW:Int) (zgX:Int):(Int×Frac×Frac×Int) :=
  (cond zh0
 (zsr high (w64 (low+zKq)) za7 za8 zgW zgX)
 (S7 (w64 (zl6+(1:Int))) za7 za8 zgW zgX))
def zoP (P7:Int->Int->Int->Int->Int->Bool) (low:Int) (high:Int) (zax:(Sl Gate)) (zaC:(Sl straight)) (zay:(Sl Gate)) (zaD:(Sl straight)) (za7:Int) (za8:Int) (zKq:Int) (zl6:Int) (zh0:Bool) (zgW:Int) (zgX:Int):Bool :=
  (cond zh0
 true
 (P7 (w64 (zl6+(1:Int))) za7 za8 zgW zgX))
theorem zuW (hX7:zql K low high zax zaC zay zaD X7 P7 S7) (hs:zoP P7 low high zax zaC zay zaD za7 za8 zKq zl6 zh0 zgW zgX=true) (hk:K (e24 (zoO S7 low high zax zaC zay zaD za7 za8 zKq zl6 zh0 zgW zgX))):z24 K [1,0,1,1,1,1,1,1,1,1,0,1,0,0,1,1,0,0,1,1,1,1,1,1,1] [X7] ⟨[(2,zI low),(3,zI high),(9,zp 9 0),(10,zp 10 0),(12,zp 12 0),(13,zp 13 0),(14,zp 14 0),(15,zp 15 0),(16,zp 16 0),(17,zI (w64 (high+(1:Int)))),(18,zI zKq),(76,zI (w64 ((w64 (high - low))+(1:Int)))),(77,zI zl6),(111,zB zh0)],[(9,.box 40 (zm (zam (⟨(0:Int),(0:Int)⟩:Frac)))),(10,.box 40 (zm (zam (⟨(0:Int),(0:Int)⟩:Frac)))),(12,.box 40 (zm (zam (⟨(0:Int),(0:Int)⟩:Frac)))),(13,.box 75 (zm (zct (⟨(⟨zax⟩:list),zaC⟩:set)))),(14,.box 75 (zm (zct (⟨(⟨zay⟩:list),zaD⟩:set)))),(15,.box 40 (zm (zam (⟨za7,za8⟩:Frac)))),(16,.box 40 (zm (zam (⟨zgW,zgX⟩:Frac))))],[]⟩:=zaN (by kernel_rfl) (zc hs hk (λ hs hk=>(zzS hk)) (λ hs hk=>(hX7 hs hk)))
def zuX (S7:Int->Int->Int->Int->Int->(Int×Frac×Frac×Int)) (low:Int) (high:Int) (zax:(Sl Gate)) (zaC:(Sl straight)) (zay:(Sl Gate)) (zaD:(Sl straight)) (zcF:Int) (zcG:Int) (zb9:Int) (zca:Int) (za7:Int) (za8:Int) (zqn:Int) (ziL:Int) (zhZ:Bool):(Int×Frac×Frac×Int) :=
  (cond zhZ
 (zoO S7 low high zax zaC zay zaD za7 za8 zqn ziL (decide ((s50 (⟨za7,za8⟩:Frac) (⟨zb9,zca⟩:Frac))<=(0:Int))) zb9 zca)
 (zoO S7 low high zax zaC zay zaD za7 za8 zqn ziL (decide ((s50 (⟨za7,za8⟩:Frac) (⟨zcF,zcG⟩:Frac))<=(0:Int))) zcF zcG))
def zuY (P7:Int->Int->Int->Int->Int->Bool) (low:Int) (high:Int) (zax:(Sl Gate)) (zaC:(Sl straight)) (zay:(Sl Gate)) (zaD:(Sl straight)) (zcF:Int) (zcG:Int) (zb9:Int) (zca:Int) (za7:Int) (za8:Int) (zqn:Int) (ziL:Int) (zhZ:Bool):Bool :=
  (cond zhZ
 (zoP P7 low high zax zaC zay zaD za7 za8 zqn ziL (decide ((s50 (⟨za7,za8⟩:Frac) (⟨zb9,zca⟩:Frac))<=(0:Int))) zb9 zca)
 (zoP P7 low high zax zaC zay zaD za7 za8 zqn ziL (decide ((s50 (⟨za7,za8⟩:Frac) (⟨zcF,zcG⟩:Frac))<=(0:Int))) zcF zcG))
theorem zDU (hX7:zql K low high zax zaC zay zaD X7 P7 S7) (hs:zuY P7 low high zax zaC zay zaD zcF zcG zb9 zca za7 za8 zqn ziL zhZ=true) (hk:K (e24 (zuX S7 low high zax zaC zay zaD zcF zcG zb9 zca za7 za8 zqn ziL zhZ))):z24 K [1,0,1,1,1,1,1,1,1,1,0,1,0,0,1,1,0,0,1,1,1,1,1,0,1] [X7] ⟨[(2,zI low),(3,zI high),(9,zp 9 0),(10,zp 10 0),(12,zp 12 0),(13,zp 13 0),(14,zp 14 0),(15,zp 15 0),(16,zp 16 0),(17,zI (w64 (high+(1:Int)))),(18,zI zqn),(22,zp 22 0),(76,zI (w64 ((w64 (high - low))+(1:Int)))),(77,zI ziL),(106,zB zhZ)],[(9,.box 40 (zm (zam (⟨(0:Int),(0:Int)⟩:Frac)))),(10,.box 40 (zm (zam (⟨(0:Int),(0:Int)⟩:Frac)))),(12,.box 40 (zm (zam (⟨(0:Int),(0:Int)⟩:Frac)))),(13,.box 75 (zm (zct (⟨(⟨zax⟩:list),zaC⟩:set)))),(14,.box 75 (zm (zct (⟨(⟨zay⟩:list),zaD⟩:set)))),(15,.box 40 (zm (zam (⟨za7,za8⟩:Frac)))),(16,.box 40 (zm (zam (⟨zcF,zcG⟩:Frac)))),(22,.box 40 (zm (zam (⟨zb9,zca⟩:Frac))))],[]⟩:=zaN (by kernel_rfl) (zc hs hk (λ hs hk=>(zuW hX7 hs hk)) (λ hs hk=>(zuW hX7 hs hk)))
def zoQ (S7:Int->Int->Int->Int->Int->(Int×Frac×Frac×Int)) (low:Int) (high:Int) (zax:(Sl Gate)) (zaC:(Sl straight)) (zay:(Sl Gate)) (zaD:(Sl straight)) (zcF:Int) (zcG:Int) (zb9:Int) (zca:Int) (zd7:Int) (zl5:Int) (za7:Int) (za8:Int):(Int×Frac×Frac×Int) :=
  (zuX S7 low high zax zaC zay zaD zcF zcG zb9 zca za7 za8 zd7 zl5 (decide ((s50 (⟨zb9,zca⟩:Frac) (⟨zcF,zcG⟩:Frac)) < (0:Int))))
def zoR (P7:Int->Int->Int->Int->Int->Bool) (low:Int) (high:Int) (zax:(Sl Gate)) (zaC:(Sl straight)) (zay:(Sl Gate)) (zaD:(Sl straight)) (zcF:Int) (zcG:Int) (zb9:Int) (zca:Int) (zd7:Int) (zl5:Int) (za7:Int) (za8:Int):Bool :=
  (zuY P7 low high zax zaC zay zaD zcF zcG zb9 zca za7 za8 zd7 zl5 (decide ((s50 (⟨zb9,zca⟩:Frac) (⟨zcF,zcG⟩:Frac)) < (0:Int))))
theorem zuZ (hX7:zql K low high zax zaC zay zaD X7 P7 S7) (hs:zoR P7 low high zax zaC zay zaD zcF zcG zb9 zca zd7 zl5 za7 za8=true) (hk:K (e24 (zoQ S7 low high zax zaC zay zaD zcF zcG zb9 zca zd7 zl5 za7 za8))):z24 K [1,0,1,1,1,1,1,1,1,1,0,1,0,0,1,1,0,0,1,1,1,1,1] [X7] ⟨[(2,zI low),(3,zI high),(9,zp 9 0),(10,zp 10 0),(12,zp 12 0),(13,zp 13 0),(14,zp 14 0),(15,zp 15 0),(16,zp 16 0),(17,zI (w64 (high+(1:Int)))),(18,zI zd7),(20,zp 20 0),(22,zp 22 0),(76,zI (w64 ((w64 (high - low))+(1:Int)))),(77,zI zl5)],[(9,.box 40 (zm (zam (⟨(0:Int),(0:Int)⟩:Frac)))),(10,.box 40 (zm (zam (⟨(0:Int),(0:Int)⟩:Frac)))),(12,.box 40 (zm (zam (⟨(0:Int),(0:Int)⟩:Frac)))),(13,.box 75 (zm (zct (⟨(⟨zax⟩:list),zaC⟩:set)))),(14,.box 75 (zm (zct (⟨(⟨zay⟩:list),zaD⟩:set)))),(15,.box 40 (zm (zam (⟨za7,za8⟩:Frac)))),(16,.box 40 (zm (zam (⟨zcF,zcG⟩:Frac)))),(20,.box 40 (zm (zam (⟨zcF,zcG⟩:Frac)))),(22,.box 40 (zm (zam (⟨zb9,zca⟩:Frac))))],[]⟩:=zaN (by kernel_rfl) (zDU hX7 hs hk)
def zu0 (S7:Int->Int->Int->Int->Int->(Int×Frac×Frac×Int)) (low:Int) (high:Int) (zax:(Sl Gate)) (zaC:(Sl straight)) (zay:(Sl Gate)) (zaD:(Sl straight)) (zeU:Int) (zeV:Int) (zcF:Int) (zcG:Int) (zev:Int) (zew:Int) (zb9:Int) (zca:Int) (zqm:Int) (ziK:Int) (zhY:Bool):(Int×Frac×Frac×Int) :=
  (cond zhY
 (zoQ S7 low high zax zaC zay zaD zcF zcG zb9 zca zqm ziK zev zew)
 (zoQ S7 low high zax zaC zay zaD zcF zcG zb9 zca zqm ziK zeU zeV))
def zu1 (P7:Int->Int->Int->Int->Int->Bool) (low:Int) (high:Int) (zax:(Sl Gate)) (zaC:(Sl straight)) (zay:(Sl Gate)) (zaD:(Sl straight)) (zeU:Int) (zeV:Int) (zcF:Int) (zcG:Int) (zev:Int) (zew:Int) (zb9:Int) (zca:Int) (zqm:Int) (ziK:Int) (zhY:Bool):Bool :=
  (cond zhY
 (zoR P7 low high zax zaC zay zaD zcF zcG zb9 zca zqm ziK zev zew)
 (zoR P7 low high zax zaC zay zaD zcF zcG zb9 zca zqm ziK zeU zeV))
theorem zDV (hX7:zql K low high zax zaC zay zaD X7 P7 S7) (hs:zu1 P7 low high zax zaC zay zaD zeU zeV zcF zcG zev zew zb9 zca zqm ziK zhY=true) (hk:K (e24 (zu0 S7 low high zax zaC zay zaD zeU zeV zcF zcG zev zew zb9 zca zqm ziK zhY))):z24 K [1,0,1,1,1,1,1,1,1,1,0,1,0,0,1,1,0,0,1,1,1,1,0,1] [X7] ⟨[(2,zI low),(3,zI high),(9,zp 9 0),(10,zp 10 0),(12,zp 12 0),(13,zp 13 0),(14,zp 14 0),(15,zp 15 0),(16,zp 16 0),(17,zI (w64 (high+(1:Int)))),(18,zI zqm),(20,zp 20 0),(21,zp 21 0),(22,zp 22 0),(76,zI (w64 ((w64 (high - low))+(1:Int)))),(77,zI ziK),(101,zB zhY)],[(9,.box 40 (zm (zam (⟨(0:Int),(0:Int)⟩:Frac)))),(10,.box 40 (zm (zam (⟨(0:Int),(0:Int)⟩:Frac)))),(12,.box 40 (zm (zam (⟨(0:Int),(0:Int)⟩:Frac)))),(13,.box 75 (zm (zct (⟨(⟨zax⟩:list),zaC⟩:set)))),(14,.box 75 (zm (zct (⟨(⟨zay⟩:list),zaD⟩:set)))),(15,.box 40 (zm (zam (⟨zeU,zeV⟩:Frac)))),(16,.box 40 (zm (zam (⟨zcF,zcG⟩:Frac)))),(20,.box 40 (zm (zam (⟨zcF,zcG⟩:Frac)))),(21,.box 40 (zm (zam (⟨zev,zew⟩:Frac)))),(22,.box 40 (zm (zam (⟨zb9,zca⟩:Frac))))],[]⟩:=zaN (by kernel_rfl) (zc hs hk (λ hs hk=>(zuZ hX7 hs hk)) (λ hs hk=>(zuZ hX7 hs hk)))
def zu3 (S7:Int->Int->Int->Int->Int->(Int×Frac×Frac×Int)) (low:Int) (high:Int) (zax:(Sl Gate)) (zaC:(Sl straight)) (zay:(Sl Gate)) (zaD:(Sl straight)) (zeU:Int) (zeV:Int) (zcF:Int) (zcG:Int) (zgx:Int) (zl2:Int) (zgU:Int) (zgV:Int) (zl3:Int) (zl4:Int) (zev:Int) (zew:Int) (zb9:Int) (zca:Int):(Int×Frac×Frac×Int) :=
  (zu0 S7 low high zax zaC zay zaD zeU zeV zcF zcG zev zew zb9 zca zgx zl2 (decide ((s50 (⟨zev,zew⟩:Frac) (⟨zeU,zeV⟩:Frac)) > (0:Int))))
def zu4 (P7:Int->Int->Int->Int->Int->Bool) (low:Int) (high:Int) (zax:(Sl Gate)) (zaC:(Sl straight)) (zay:(Sl Gate)) (zaD:(Sl straight)) (zeU:Int) (zeV:Int) (zcF:Int) (zcG:Int) (zgx:Int) (zl2:Int) (zgU:Int) (zgV:Int) (zl3:Int) (zl4:Int) (zev:Int) (zew:Int) (zb9:Int) (zca:Int):Bool :=
  (zu1 P7 low high zax zaC zay zaD zeU zeV zcF zcG zev zew zb9 zca zgx zl2 (decide ((s50 (⟨zev,zew⟩:Frac) (⟨zeU,zeV⟩:Frac)) > (0:Int))))
theorem zDW (hX7:zql K low high zax zaC zay zaD X7 P7 S7) (hs:zu4 P7 low high zax zaC zay zaD zeU zeV zcF zcG zgx zl2 zgU zgV zl3 zl4 zev zew zb9 zca=true) (hk:K (e24 (zu3 S7 low high zax zaC zay zaD zeU zeV zcF zcG zgx zl2 zgU zgV zl3 zl4 zev zew zb9 zca))):z24 K [1,0,1,1,1,1,1,1,1,1,0,1,0,0,1,1,0,0,1,1,1] [X7] ⟨[(2,zI low),(3,zI high),(9,zp 9 0),(10,zp 10 0),(12,zp 12 0),(13,zp 13 0),(14,zp 14 0),(15,zp 15 0),(16,zp 16 0),(17,zI (w64 (high+(1:Int)))),(18,zI zgx),(19,zp 19 0),(20,zp 20 0),(21,zp 21 0),(22,zp 22 0),(76,zI (w64 ((w64 (high - low))+(1:Int)))),(77,zI zl2)],[(9,.box 40 (zm (zam (⟨(0:Int),(0:Int)⟩:Frac)))),(10,.box 40 (zm (zam (⟨(0:Int),(0:Int)⟩:Frac)))),(12,.box 40 (zm (zam (⟨(0:Int),(0:Int)⟩:Frac)))),(13,.box 75 (zm (zct (⟨(⟨zax⟩:list),zaC⟩:set)))),(14,.box 75 (zm (zct (⟨(⟨zay⟩:list),zaD⟩:set)))),(15,.box 40 (zm (zam (⟨zgU,zgV⟩:Frac)))),(16,.box 40 (zm (zam (⟨zl3,zl4⟩:Frac)))),(19,.box 40 (zm (zam (⟨zeU,zeV⟩:Frac)))),(20,.box 40 (zm (zam (⟨zcF,zcG⟩:Frac)))),(21,.box 40 (zm (zam (⟨zev,zew⟩:Frac)))),(22,.box 40 (zm (zam (⟨zb9,zca⟩:Frac))))],[]⟩:=zaN (by kernel_rfl) (zDV hX7 hs hk)
def zzT (S7:Int->Int->Int->Int->Int->(Int×Frac×Frac×Int)) (low:Int) (high:Int) (zax:(Sl Gate)) (zaC:(Sl straight)) (zay:(Sl Gate)) (zaD:(Sl straight)) (iv8:Int) (zsq:Int) (zf8:Int) (zf9:Int) (zl0:Int) (zl1:Int) (zeU:Int) (zeV:Int) (zcF:Int) (zcG:Int):(Int×Frac×Frac×Int) :=
  (zu3 S7 low high zax zaC zay zaD zeU zeV zcF zcG iv8 zsq zf8 zf9 zl0 zl1 (((s46 (⟨(⟨zay⟩:list),zaD⟩:set) (w64 (low+iv8))).1).Num) (((s46 (⟨(⟨zay⟩:list),zaD⟩:set) (w64 (low+iv8))).1).Den) (((s46 (⟨(⟨zay⟩:list),zaD⟩:set) (w64 (low+iv8))).2).Num) (((s46 (⟨(⟨zay⟩:list),zaD⟩:set) (w64 (low+iv8))).2).Den))
def zzU (P7:Int->Int->Int->Int->Int->Bool) (low:Int) (high:Int) (zax:(Sl Gate)) (zaC:(Sl straight)) (zay:(Sl Gate)) (zaD:(Sl straight)) (iv8:Int) (zsq:Int) (zf8:Int) (zf9:Int) (zl0:Int) (zl1:Int) (zeU:Int) (zeV:Int) (zcF:Int) (zcG:Int):Bool :=
  (decide ((p46 (⟨(⟨zay⟩:list),zaD⟩:set) (w64 (low+iv8))=true)) &&
 (zu4 P7 low high zax zaC zay zaD zeU zeV zcF zcG iv8 zsq zf8 zf9 zl0 zl1 (((s46 (⟨(⟨zay⟩:list),zaD⟩:set) (w64 (low+iv8))).1).Num) (((s46 (⟨(⟨zay⟩:list),zaD⟩:set) (w64 (low+iv8))).1).Den) (((s46 (⟨(⟨zay⟩:list),zaD⟩:set) (w64 (low+iv8))).2).Num) (((s46 (⟨(⟨zay⟩:list),zaD⟩:set) (w64 (low+iv8))).2).Den)))
theorem zIh (hX7:zql K low high zax zaC zay zaD X7 P7 S7) (hs:zzU P7 low high zax zaC zay zaD iv8 zsq zf8 zf9 zl0 zl1 zeU zeV zcF zcG=true) (hk:K (e24 (zzT S7 low high zax zaC zay zaD iv8 zsq zf8 zf9 zl0 zl1 zeU zeV zcF zcG))):z24 K [1,0,1,1,1,1,1,1,1,1,0,1,0,0,1,1,0,0,1,1] [X7] ⟨[(2,zI low),(3,zI high),(9,zp 9 0),(10,zp 10 0),(12,zp 12 0),(13,zp 13 0),(14,zp 14 0),(15,zp 15 0),(16,zp 16 0),(17,zI (w64 (high+(1:Int)))),(18,zI iv8),(19,zp 19 0),(20,zp 20 0),(76,zI (w64 ((w64 (high - low))+(1:Int)))),(77,zI zsq)],[(9,.box 40 (zm (zam (⟨(0:Int),(0:Int)⟩:Frac)))),(10,.box 40 (zm (zam (⟨(0:Int),(0:Int)⟩:Frac)))),(12,.box 40 (zm (zam (⟨(0:Int),(0:Int)⟩:Frac)))),(13,.box 75 (zm (zct (⟨(⟨zax⟩:list),zaC⟩:set)))),(14,.box 75 (zm (zct (⟨(⟨zay⟩:list),zaD⟩:set)))),(15,.box 40 (zm (zam (⟨zf8,zf9⟩:Frac)))),(16,.box 40 (zm (zam (⟨zl0,zl1⟩:Frac)))),(19,.box 40 (zm (zam (⟨zeU,zeV⟩:Frac)))),(20,.box 40 (zm (zam (⟨zcF,zcG⟩:Frac))))],[]⟩:=zaN (by kernel_rfl) (zaI hs λ hc hs=>And.intro (And.intro (zE enc_48 3 zay.get) (And.intro (zE zaz 3 zaD.get) hc)) (zDW hX7 hs hk))
def zzV (low:Int) (high:Int) (zax:(Sl Gate)) (zaC:(Sl straight)) (zay:(Sl Gate)) (zaD:(Sl straight)) (S7:Int->Int->Int->Int->Int->(Int×Frac×Frac×Int)) (zdy:Int) (zck:Int) (zcl:Int) (zdS:Int) (zdT:Int):(Int×Frac×Frac×Int) :=
  (cond (decide (zdy < (w64 ((w64 (high - low)) + (1:Int)))))
 (zzT S7 low high zax zaC zay zaD zdy zdy zck zcl zdS zdT (((s46 (⟨(⟨zax⟩:list),zaC⟩:set) (w64 (low+zdy))).1).Num) (((s46 (⟨(⟨zax⟩:list),zaC⟩:set) (w64 (low+zdy))).1).Den) (((s46 (⟨(⟨zax⟩:list),zaC⟩:set) (w64 (low+zdy))).2).Num) (((s46 (⟨(⟨zax⟩:list),zaC⟩:set) (w64 (low+zdy))).2).Den))
 (zsr high (w64 (high+(1:Int))) zck zcl zdS zdT))
def zzW (low:Int) (high:Int) (zax:(Sl Gate)) (zaC:(Sl straight)) (zay:(Sl Gate)) (zaD:(Sl straight)) (P7:Int->Int->Int->Int->Int->Bool) (zdy:Int) (zck:Int) (zcl:Int) (zdS:Int) (zdT:Int):Bool :=
  (cond (decide (zdy < (w64 ((w64 (high - low)) + (1:Int)))))
 (decide ((p46 (⟨(⟨zax⟩:list),zaC⟩:set) (w64 (low+zdy))=true)) &&
 (zzU P7 low high zax zaC zay zaD zdy zdy zck zcl zdS zdT (((s46 (⟨(⟨zax⟩:list),zaC⟩:set) (w64 (low+zdy))).1).Num) (((s46 (⟨(⟨zax⟩:list),zaC⟩:set) (w64 (low+zdy))).1).Den) (((s46 (⟨(⟨zax⟩:list),zaC⟩:set) (w64 (low+zdy))).2).Num) (((s46 (⟨(⟨zax⟩:list),zaC⟩:set) (w64 (low+zdy))).2).Den)))
 true)
def zzX (low:Int) (high:Int) (zax:(Sl Gate)) (zaC:(Sl straight)) (zay:(Sl Gate)) (zaD:(Sl straight)):Nat->Int->Int->Int->Int->Int->(Int×Frac×Frac×Int):=lpO (λ _ _ _ _ _=>default) (zzV low high zax zaC zay zaD)
def zzY (low:Int) (high:Int) (zax:(Sl Gate)) (zaC:(Sl straight)) (zay:(Sl Gate)) (zaD:(Sl straight)):Nat->Int->Int->Int->Int->Int->Bool:=lpO (λ _ _ _ _ _=>false) (zzW low high zax zaC zay zaD)
def zzZ (low:Int) (high:Int) (zax:(Sl Gate)) (zaC:(Sl straight)) (zay:(Sl Gate)) (zaD:(Sl straight)) (zdy:Int) (zck:Int) (zcl:Int) (zdS:Int) (zdT:Int):(Int×Frac×Frac×Int):=zzX low high zax zaC zay zaD Fuel zdy zck zcl zdS zdT
def zz0 (low:Int) (high:Int) (zax:(Sl Gate)) (zaC:(Sl straight)) (zay:(Sl Gate)) (zaD:(Sl straight)) (zdy:Int) (zck:Int) (zcl:Int) (zdS:Int) (zdT:Int):Bool:=zzY low high zax zaC zay zaD Fuel zdy zck zcl zdS zdT
theorem zIi (hs:zz0 low high zax zaC zay zaD zdy zck zcl zdS zdT=true) (hk:K (e24 (zzZ low high zax zaC zay zaD zdy zck zcl zdS zdT))):z24 K [1,0,1,1,1,1,1,1,1,1,0,1,0] [] (zE5 low high zax zaC zay zaD zdy zck zcl zdS zdT) :=
  zl (λ X=>z24 K [1,0,1,1,1,1,1,1,1,1,0,1,0,0] [X]) (by kernel_rfl) λ X7 hX =>
  (show ∀ k, zql K low high zax zaC zay zaD X7 (zzY low high zax zaC zay zaD k) (zzX low high zax zaC zay zaD k) from zgw _ _ (zzW low high zax zaC zay zaD) (zzV low high zax zaC zay zaD) (zql K low high zax zaC zay zaD X7)
 (by intro _ _ _ _ _ hs;exact absurd hs dqk)
 (by intro P7 S7 hX7 zdy zck zcl zdS zdT hs hk;exact hX _ (zaN (by kernel_rfl) (zc hs hk (λ hs hk=>(zaI hs λ hc hs=>And.intro (And.intro (zE enc_48 3 zax.get) (And.intro (zE zaz 3 zaC.get) hc)) (zIh hX7 hs hk))) (λ hs hk=>(zzS hk)))))) _ hs hk
def zz1 (low:Int) (high:Int) (zax:(Sl Gate)) (zaC:(Sl straight)) (zay:(Sl Gate)) (zaD:(Sl straight)):(Int×Frac×Frac×Int) :=
  (zzZ low high zax zaC zay zaD (0:Int) (0:Int) (0:Int) (0:Int) (0:Int))
def zz2 (low:Int) (high:Int) (zax:(Sl Gate)) (zaC:(Sl straight)) (zay:(Sl Gate)) (zaD:(Sl straight)):Bool :=
  (zz0 low high zax zaC zay zaD (0:Int) (0:Int) (0:Int) (0:Int) (0:Int))
theorem zIj (hs:zz2 low high zax zaC zay zaD=true) (hk:K (e24 (zz1 low high zax zaC zay zaD))):z24 K [1,0,1,1,1,1,1] [] ⟨[(2,zI low),(3,zI high),(9,zp 9 0),(10,zp 10 0),(12,zp 12 0),(13,zp 13 0),(14,zp 14 0)],[(9,.box 40 (zm (zam (⟨(0:Int),(0:Int)⟩:Frac)))),(10,.box 40 (zm (zam (⟨(0:Int),(0:Int)⟩:Frac)))),(12,.box 40 (zm (zam (⟨(0:Int),(0:Int)⟩:Frac)))),(13,.box 75 (zm (zct (⟨(⟨zax⟩:list),zaC⟩:set)))),(14,.box 75 (zm (zct (⟨(⟨zay⟩:list),zaD⟩:set))))],[]⟩:=zaN (by kernel_rfl) (zIi hs hk)
def zss (low:Int) (high:Int) (zax:(Sl Gate)) (zaC:(Sl straight)) (zay:(Sl Gate)) (zaD:(Sl straight)) (zsp:Bool):(Int×Frac×Frac×Int) :=
  (cond zsp
 ((0:Int),(⟨(0:Int),(0:Int)⟩:Frac),(⟨(0:Int),(0:Int)⟩:Frac),(6:Int))
 (zz1 low high zax zaC zay zaD))
def zst (low:Int) (high:Int) (zax:(Sl Gate)) (zaC:(Sl straight)) (zay:(Sl Gate)) (zaD:(Sl straight)) (zsp:Bool):Bool :=
  (cond zsp
 true
 (zz2 low high zax zaC zay zaD))
theorem zz3 (hs:zst low high zax zaC zay zaD zsp=true) (hk:K (e24 (zss low high zax zaC zay zaD zsp))):z24 K [1,0,1,1,1,1,0,1] [] ⟨[(2,zI low),(3,zI high),(9,zp 9 0),(10,zp 10 0),(12,zp 12 0),(13,zp 13 0),(14,zp 14 0),(68,zB zsp)],[(9,.box 40 (zm (zam (⟨(0:Int),(0:Int)⟩:Frac)))),(10,.box 40 (zm (zam (⟨(0:Int),(0:Int)⟩:Frac)))),(12,.box 40 (zm (zam (⟨(0:Int),(0:Int)⟩:Frac)))),(13,.box 75 (zm (zct (⟨(⟨zax⟩:list),zaC⟩:set)))),(14,.box 75 (zm (zct (⟨(⟨zay⟩:list),zaD⟩:set))))],[]⟩:=zaN (by kernel_rfl) (zc hs hk (λ hs hk=>hk) (λ hs hk=>(zIj hs hk)))
def zz4 (low:Int) (high:Int) (zax:(Sl Gate)) (zaC:(Sl straight)) (zay:(Sl Gate)) (zaD:(Sl straight)):(Int×Frac×Frac×Int) :=
  (cond (s49 (⟨zax⟩ : list))
 (zss low high zax zaC zay zaD true)
 (zss low high zax zaC zay zaD (s49 (⟨zay⟩:list))))
def zz5 (low:Int) (high:Int) (zax:(Sl Gate)) (zaC:(Sl straight)) (zay:(Sl Gate)) (zaD:(Sl straight)):Bool :=
  (decide ((p49 (⟨zax⟩:list)=true)) &&
 (cond (s49 (⟨zax⟩ : list))
 (zst low high zax zaC zay zaD true)
 (decide ((p49 (⟨zay⟩:list)=true)) &&
 (zst low high zax zaC zay zaD (s49 (⟨zay⟩:list))))))
theorem zIk (hs:zz5 low high zax zaC zay zaD=true) (hk:K (e24 (zz4 low high zax zaC zay zaD))):z24 K [1,0,1,1,1,1] [] ⟨[(2,zI low),(3,zI high),(9,zp 9 0),(10,zp 10 0),(12,zp 12 0),(13,zp 13 0),(14,zp 14 0)],[(9,.box 40 (zm (zam (⟨(0:Int),(0:Int)⟩:Frac)))),(10,.box 40 (zm (zam (⟨(0:Int),(0:Int)⟩:Frac)))),(12,.box 40 (zm (zam (⟨(0:Int),(0:Int)⟩:Frac)))),(13,.box 75 (zm (zct (⟨(⟨zax⟩:list),zaC⟩:set)))),(14,.box 75 (zm (zct (⟨(⟨zay⟩:list),zaD⟩:set))))],[]⟩:=zaN (by kernel_rfl) (zaI hs λ hc hs=>And.intro (And.intro (zE enc_48 3 zax.get) hc) (zc hs hk (λ hs hk=>(zz3 hs hk)) (λ hs hk=>(zaI hs λ hc hs=>And.intro (And.intro (zE enc_48 3 zay.get) hc) (zz3 hs hk)))))
def zsu (low:Int) (high:Int) (zax:(Sl Gate)) (zaC:(Sl straight)) (zay:(Sl Gate)) (zaD:(Sl straight)) (zso:Bool):(Int×Frac×Frac×Int) :=
  (cond zso
 ((0:Int),(⟨(0:Int),(0:Int)⟩:Frac),(⟨(0:Int),(0:Int)⟩:Frac),(5:Int))
 (zz4 low high zax zaC zay zaD))
def zsv (low:Int) (high:Int) (zax:(Sl Gate)) (zaC:(Sl straight)) (zay:(Sl Gate)) (zaD:(Sl straight)) (zso:Bool):Bool :=
  (cond zso
 true
 (zz5 low high zax zaC zay zaD))
theorem zz6 (hs:zsv low high zax zaC zay zaD zso=true) (hk:K (e24 (zsu low high zax zaC zay zaD zso))):z24 K [1,0,1,1,1,0,1] [] ⟨[(2,zI low),(3,zI high),(9,zp 9 0),(10,zp 10 0),(12,zp 12 0),(13,zp 13 0),(14,zp 14 0),(58,zB zso)],[(9,.box 40 (zm (zam (⟨(0:Int),(0:Int)⟩:Frac)))),(10,.box 40 (zm (zam (⟨(0:Int),(0:Int)⟩:Frac)))),(12,.box 40 (zm (zam (⟨(0:Int),(0:Int)⟩:Frac)))),(13,.box 75 (zm (zct (⟨(⟨zax⟩:list),zaC⟩:set)))),(14,.box 75 (zm (zct (⟨(⟨zay⟩:list),zaD⟩:set))))],[]⟩:=zaN (by kernel_rfl) (zc hs hk (λ hs hk=>hk) (λ hs hk=>(zIk hs hk)))
def zz7 (low:Int) (high:Int) (zax:(Sl Gate)) (zaC:(Sl straight)) (zay:(Sl Gate)) (zaD:(Sl straight)):(Int×Frac×Frac×Int) :=
  (cond (!(s48 (⟨(⟨zax⟩ : list), zaC⟩ : set)))
 (zsu low high zax zaC zay zaD true)
 (zsu low high zax zaC zay zaD (!(s48 (⟨(⟨zay⟩:list),zaD⟩:set)))))
def zz8 (low:Int) (high:Int) (zax:(Sl Gate)) (zaC:(Sl straight)) (zay:(Sl Gate)) (zaD:(Sl straight)):Bool :=
  (decide ((p48 (⟨(⟨zax⟩:list),zaC⟩:set)=true)) &&
 (cond (!(s48 (⟨(⟨zax⟩ : list), zaC⟩ : set)))
 (zsv low high zax zaC zay zaD true)
 (decide ((p48 (⟨(⟨zay⟩:list),zaD⟩:set)=true)) &&
 (zsv low high zax zaC zay zaD (!(s48 (⟨(⟨zay⟩:list),zaD⟩:set)))))))
theorem zIl (hs:zz8 low high zax zaC zay zaD=true) (hk:K (e24 (zz7 low high zax zaC zay zaD))) (zIm:zzO=zg enc_48 zax) (zIn:zzP=zg zaz zaC) (zIo:zzQ=zg enc_48 zay) (zIp:zzR=zg zaz zaD):z24 K [1,0,1,1,1] [] ⟨[(2,zI low),(3,zI high),(9,zp 9 0),(10,zp 10 0),(12,zp 12 0),(13,zp 13 0),(14,zp 14 0)],[(9,.box 40 (zm (zam (⟨(0:Int),(0:Int)⟩:Frac)))),(10,.box 40 (zm (zam (⟨(0:Int),(0:Int)⟩:Frac)))),(12,.box 40 (zm (zam (⟨(0:Int),(0:Int)⟩:Frac)))),(13,.box 75 [.p (.sl zax.len 3 zzO),.p (.sl zaC.len 3 zzP)]),(14,.box 75 [.p (.sl zay.len 3 zzQ),.p (.sl zaD.len 3 zzR)])],[]⟩:=by subst zIm;subst zIn;subst zIo;subst zIp;exact zaN (by kernel_rfl) (zaI hs λ hc hs=>And.intro (And.intro (zE enc_48 3 zax.get) (And.intro (zE zaz 3 zaC.get) hc)) (zc hs hk (λ hs hk=>(zz6 hs hk)) (λ hs hk=>(zaI hs λ hc hs=>And.intro (And.intro (zE enc_48 3 zay.get) (And.intro (zE zaz 3 zaD.get) hc)) (zz6 hs hk)))))
def zz9 (a:(Sl Gate)) (b:(Sl Gate)) (low:Int) (high:Int):(Int×Frac×Frac×Int) :=
  (zz7 low high ((s47 a).list.Gates) ((s47 a).corners) ((s47 b).list.Gates) ((s47 b).corners))
def zAa (a:(Sl Gate)) (b:(Sl Gate)) (low:Int) (high:Int):Bool :=
  (decide ((p47 a=true)) &&
 (decide ((p47 b=true)) &&
 (zz8 low high ((s47 a).list.Gates) ((s47 a).corners) ((s47 b).list.Gates) ((s47 b).corners))))
theorem zIq (hs:zAa a b low high=true) (hk:K (e24 (zz9 a b low high))):z24 K [1,0,1,1] [] ⟨[(0,zS enc_48 3 a),(1,zS enc_48 3 b),(2,zI low),(3,zI high),(9,zp 9 0),(10,zp 10 0),(12,zp 12 0)],[(9,.box 40 (zm (zam (⟨(0:Int),(0:Int)⟩:Frac)))),(10,.box 40 (zm (zam (⟨(0:Int),(0:Int)⟩:Frac)))),(12,.box 40 (zm (zam (⟨(0:Int),(0:Int)⟩:Frac))))],[]⟩:=zaN (by kernel_rfl) (zaI hs λ hc hs=>And.intro (And.intro (zE enc_48 3 a.get) hc) (zaI hs λ hc hs=>And.intro (And.intro (zE enc_48 3 b.get) hc) (zIl hs hk rfl rfl rfl rfl)))
def zjz (a:(Sl Gate)) (b:(Sl Gate)) (low:Int) (high:Int) (zsn:Bool):(Int×Frac×Frac×Int) :=
  (cond zsn
 ((0:Int),(⟨(0:Int),(0:Int)⟩:Frac),(⟨(0:Int),(0:Int)⟩:Frac),(2:Int))
 (zz9 a b low high))
def zjA (a:(Sl Gate)) (b:(Sl Gate)) (low:Int) (high:Int) (zsn:Bool):Bool :=
  (cond zsn
 true
 (zAa a b low high))
theorem zl7 (hs:zjA a b low high zsn=true) (hk:K (e24 (zjz a b low high zsn))):z24 K [1,0,1,0,1] [] ⟨[(0,zS enc_48 3 a),(1,zS enc_48 3 b),(2,zI low),(3,zI high),(9,zp 9 0),(10,zp 10 0),(12,zp 12 0),(44,zB zsn)],[(9,.box 40 (zm (zam (⟨(0:Int),(0:Int)⟩:Frac)))),(10,.box 40 (zm (zam (⟨(0:Int),(0:Int)⟩:Frac)))),(12,.box 40 (zm (zam (⟨(0:Int),(0:Int)⟩:Frac))))],[]⟩:=zaN (by kernel_rfl) (zc hs hk (λ hs hk=>hk) (λ hs hk=>(zIq hs hk)))
def s24 (a:(Sl Gate)) (b:(Sl Gate)) (low:Int) (high:Int):(Int×Frac×Frac×Int) :=
  (cond (decide (low < (-100000:Int)))
 (zjz a b low high true)
 (cond (decide (low > high))
 (zjz a b low high true)
 (cond (decide (high > (200000:Int)))
 (zjz a b low high true)
 (cond (!(s28 a))
 (zjz a b low high true)
 (zjz a b low high (!(s28 b)))))))
def p24 (a:(Sl Gate)) (b:(Sl Gate)) (low:Int) (high:Int):Bool :=
  (cond (decide (low < (-100000:Int)))
 (zjA a b low high true)
 (cond (decide (low > high))
 (zjA a b low high true)
 (cond (decide (high > (200000:Int)))
 (zjA a b low high true)
 (decide ((p28 a=true)) &&
 (cond (!(s28 a))
 (zjA a b low high true)
 (decide ((p28 b=true)) &&
 (zjA a b low high (!(s28 b)))))))))
end
theorem q24 (a:(Sl Gate)) (b:(Sl Gate)) (low:Int) (high:Int) (K:List PA->Prop) (hs:p24 a b low high=true) (hk:K (e24 (s24 a b low high))):vcFun Tryz.prog G24 zIg 24 [.one (.sl a.len 3 (λ i=>enc_48 (a.get i))),.one (.sl b.len 3 (λ i=>enc_48 (b.get i))),.one (.int .i64 low),.one (.int .i64 high)] K :=
  zaN (by kernel_rfl) (zc hs hk (λ hs hk=>(zl7 hs hk)) (λ hs hk=>(zc hs hk (λ hs hk=>(zl7 hs hk)) (λ hs hk=>(zc hs hk (λ hs hk=>(zl7 hs hk)) (λ hs hk=>(zaI hs λ hc hs=>And.intro (And.intro (zE enc_48 3 a.get) hc) (zc hs hk (λ hs hk=>(zl7 hs hk)) (λ hs hk=>(zaI hs λ hc hs=>And.intro (And.intro (zE enc_48 3 b.get) hc) (zl7 hs hk)))))))))))
def zIr : List PA → COut
  | [.one (.sl zaU zcu zaV),.one (.sl zet zj9 zeu),.one (.int .i64 a2),.one (.int .i64 a3)]=>.det (IsE enc_48 3 zcu zaV/\IsE enc_48 3 zj9 zeu/\p24 (⟨zaU,zaf zaV⟩:(Sl Gate)) (⟨zet,zaf zeu⟩:(Sl Gate)) a2 a3=true) [.one (.int .i64 ((s24 (⟨zaU,zaf zaV⟩:(Sl Gate)) (⟨zet,zaf zeu⟩:(Sl Gate)) a2 a3).1)),.agg [.int .i64 (((s24 (⟨zaU,zaf zaV⟩:(Sl Gate)) (⟨zet,zaf zeu⟩:(Sl Gate)) a2 a3).2.1).Num),.int .i64 (((s24 (⟨zaU,zaf zaV⟩:(Sl Gate)) (⟨zet,zaf zeu⟩:(Sl Gate)) a2 a3).2.1).Den)],.agg [.int .i64 (((s24 (⟨zaU,zaf zaV⟩:(Sl Gate)) (⟨zet,zaf zeu⟩:(Sl Gate)) a2 a3).2.2.1).Num),.int .i64 (((s24 (⟨zaU,zaf zaV⟩:(Sl Gate)) (⟨zet,zaf zeu⟩:(Sl Gate)) a2 a3).2.2.1).Den)],.one (.int .i64 ((s24 (⟨zaU,zaf zaV⟩:(Sl Gate)) (⟨zet,zaf zeu⟩:(Sl Gate)) a2 a3).2.2.2))]
  | _=>.no
theorem zMG:zah Tryz.prog 24:=⟨_,rfl,rfl,by kernel_rfl⟩
theorem zRZ:Ok Tryz.prog 24 zIr:=za3 zPV zMG λ args K h=>by
  unfold zIr at h
  split at h
  · rename_i zaU zcu zaV zet zj9 zeu a2 a3
    obtain⟨⟨⟨rfl,zbF,rfl⟩,⟨rfl,zhn,rfl⟩,hs⟩,hk⟩:=h
    try rw[zae zbF] at hs
    try rw[zae zbF] at hk
    try rw[zae zhn] at hs
    try rw[zae zhn] at hk
    exact⟨(λ _ _=>[]),(λ _=>false),zIg,q24 (⟨zaU,zbF⟩:(Sl Gate)) (⟨zet,zhn⟩:(Sl Gate)) a2 a3 K hs hk⟩
  · exact h.elim
abbrev T51:Tabs:=((Tabs.nil.addF 28 zqb).addF 44 zqa)
theorem zPW:TabsOk Tryz.prog T51:=((TabsOk.nil.addF zKo).addF zKn)
abbrev G51:Ctrs:=csm T51 (λ _ _=>[]) (λ _=>false)
def zIs:Ann:=⟨41,[(0,zK [0] []),(1,zK [0,5,6,7] []),(2,zK [0,5,6,7,8] []),(3,zK [0,3,4,5,6,7] [4]),(4,zK [0,5,6,7,32] []),(5,zK [2] []),(6,zK [0,5,6,7] []),(7,zK [2] [])],
 [(2,zK [0,5,6,7] [])],
 [],
 [],[]⟩
abbrev R51:=Bool
abbrev e51 (r:R51):List PA:=[.one (.bool r)]
@[irreducible] def z51:=ptF Tryz.prog G51 zIs Tryz.f51
def zE6 (zaa:(Sl Gate)) (zbJ:Int):St:=⟨[(0,zS enc_48 3 zaa),(5,zS enc_48 3 zaa),(6,zI (zaa.len:Int)),(7,zI zbJ)],[],[]⟩
abbrev zMH (K:List PA->Prop) (zaa:(Sl Gate)) (X:St->Prop) (P:Int->Bool) (S:Int->Bool):Prop:=∀ ⦃zbJ:Int⦄,P zbJ=true->K (e51 (S zbJ))->X (zE6 zaa zbJ)
section
variable {K:List PA->Prop}{zaa:(Sl Gate)}{zbJ:Int}{X0:St->Prop}{P0:Int->Bool}{S0:Int->Bool}
def zAb (zaa:(Sl Gate)) (S0:Int->Bool) (zbJ:Int):Bool :=
  (cond (decide (zbJ < (zaa.len : Int)))
 (cond (decide ((w64 ((zaa.get zbJ.toNat).High - (zaa.get zbJ.toNat).Low)) > (60:Int)))
 false
 (cond (decide (zbJ > (0:Int)))
 (cond (decide ((zaa.get zbJ.toNat).Z <= (zaa.get ((w64 (zbJ - (1:Int))).toNat)).Z))
 false
 (S0 (w64 (zbJ+(1:Int)))))
 (S0 (w64 (zbJ+(1:Int))))))
 (cond (s44 (zaa.len : Int) (2:Int) (8:Int))
 (s28 zaa)
 false))
def zAc (zaa:(Sl Gate)) (P0:Int->Bool) (zbJ:Int):Bool :=
  (cond (decide (zbJ < (zaa.len : Int)))
 (decide ((0<=zbJ/\zbJ < (zaa.len:Int))) &&
 (cond (decide ((w64 ((zaa.get zbJ.toNat).High - (zaa.get zbJ.toNat).Low)) > (60:Int)))
 true
 (cond (decide (zbJ > (0:Int)))
 (decide ((0<=(w64 (zbJ - (1:Int)))/\(w64 (zbJ - (1:Int))) < (zaa.len:Int))) &&
 (cond (decide ((zaa.get zbJ.toNat).Z <= (zaa.get ((w64 (zbJ - (1:Int))).toNat)).Z))
 true
 (P0 (w64 (zbJ+(1:Int))))))
 (P0 (w64 (zbJ+(1:Int)))))))
 (cond (s44 (zaa.len : Int) (2:Int) (8:Int))
 (decide ((p28 zaa=true)) &&
 true)
 true))
def zAd (zaa:(Sl Gate)):Nat->Int->Bool:=lpO (λ _=>default) (zAb zaa)
def zAe (zaa:(Sl Gate)):Nat->Int->Bool:=lpO (λ _=>false) (zAc zaa)
def zAf (zaa:(Sl Gate)) (zbJ:Int):Bool:=zAd zaa Fuel zbJ
def zAg (zaa:(Sl Gate)) (zbJ:Int):Bool:=zAe zaa Fuel zbJ
theorem zIt (hs:zAg zaa zbJ=true) (hk:K (e51 (zAf zaa zbJ))):z51 K [1,0,1,0] [] (zE6 zaa zbJ) :=
  zl (λ X=>z51 K [1,0,1,0,0] [X]) (by kernel_rfl) λ X0 hX =>
  (show ∀ k, zMH K zaa X0 (zAe zaa k) (zAd zaa k) from zgw _ _ (zAc zaa) (zAb zaa) (zMH K zaa X0)
 (by intro _ hs;exact absurd hs dqk)
 (by intro P0 S0 hX0 zbJ hs hk;exact hX _ (zaN (by kernel_rfl) (zc hs hk (λ hs hk=>(zaI hs λ hc hs=>And.intro hc (zc hs hk (λ hs hk=>hk) (λ hs hk=>(zc hs hk (λ hs hk=>(zaI hs λ hc hs=>And.intro hc (zc hs hk (λ hs hk=>hk) (λ hs hk=>(hX0 hs hk))))) (λ hs hk=>(hX0 hs hk))))))) (λ hs hk=>(zc hs hk (λ hs hk=>(zaI hs λ hc hs=>And.intro (And.intro (zE enc_48 3 zaa.get) hc) hk)) (λ hs hk=>hk))))))) _ hs hk
def s51 (zaa:(Sl Gate)):Bool :=
  (zAf zaa (0:Int))
def p51 (zaa:(Sl Gate)):Bool :=
  (zAg zaa (0:Int))
end
theorem q51 (zaa:(Sl Gate)) (K:List PA->Prop) (hs:p51 zaa=true) (hk:K (e51 (s51 zaa))):vcFun Tryz.prog G51 zIs 51 [.one (.sl zaa.len 3 (λ i=>enc_48 (zaa.get i)))] K :=
  zaN (by kernel_rfl) (zIt hs hk)
def zIu : List PA → COut
  | [.one (.sl zaU zcu zaV)]=>.det (IsE enc_48 3 zcu zaV/\p51 (⟨zaU,zaf zaV⟩:(Sl Gate))=true) [.one (.bool (s51 (⟨zaU,zaf zaV⟩:(Sl Gate))))]
  | _=>.no
theorem zMI:zah Tryz.prog 51:=⟨_,rfl,rfl,by kernel_rfl⟩
theorem zR0:Ok Tryz.prog 51 zIu:=za3 zPW zMI λ args K h=>by
  unfold zIu at h
  split at h
  · rename_i zaU zcu zaV
    obtain⟨⟨⟨rfl,zbF,rfl⟩,hs⟩,hk⟩:=h
    try rw[zae zbF] at hs
    try rw[zae zbF] at hk
    exact⟨(λ _ _=>[]),(λ _=>false),zIs,q51 (⟨zaU,zbF⟩:(Sl Gate)) K hs hk⟩
  · exact h.elim
end Go.Proofs
