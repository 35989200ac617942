/- Part 5 of what the proof rests on: a machine that runs functions of the program on pure values, proved sound; the functions that the law reaches, and what they compute. -/
import Derived.Test.YtedhjaaikeakoaaDoorQ4
import Derived.Sort.OwnSortedInts
import Derived.Lib.SlicesCompact
import Derived.Test.YtedhjaaikeakoaaDoorProg
import Derived.ProofKit
import Derived.Deep.Slices
import Derived.OpenShut
import Derived.Shelf.SlIterI.Nil
import Derived.Shelf.SortM.Plain
import Derived.Shelf.SortM.SortNone
import Derived.Ground.GgzProg
import Derived.Ground.SlgmProg
import Derived.Tactics
import Derived.Tactics2
import Derived.Recover
import Derived.RecoverIn
import Derived.TacticsInMore
set_option linter.all false
namespace Go.Pm
variable [DrawZ]

structure Tabs where
  fn:List (Nat×(List PA->COut))
  own:List (Nat×OwnK)
  it:List (Nat×(List PA->Option (Prop×List (List PA))))
  mt:List (Nat×MK)
  cf:List (Nat×(List PA->COut))
def zvq : List (Nat × (List PA → COut)) → Nat → List PA → COut
  | [],_=>λ _=>.no
  | (k,c) :: r,n=>match Nat.beq k n with | true=>c | false=>zvq r n
def zvr (l:List (Nat×OwnK)) (f:Nat):OwnK:=match lk l f with | some c=>c | none=>.none
def zD0 (l:List (Nat×(List PA->Option (Prop×List (List PA))))) (f:Nat):List PA->Option (Prop×List (List PA)):=match lk l f with | some c=>c | none=>λ _=>none
def csm (T:Tabs) (memo:Nat->Int->List Int) (vv:Nat->Bool):Ctrs:=⟨zvq T.fn,zvr T.own,zD0 T.it,memo,vv,lk T.mt,zvq T.cf⟩
abbrev cs (T:Tabs):Ctrs:=csm T (λ _ _=>[]) (λ _=>false)
def Tabs.nil:Tabs:=⟨[],[],[],[],[]⟩
def Tabs.addF (T:Tabs) (f:Nat) (c:List PA->COut):Tabs:=⟨(f,c) :: T.fn,T.own,T.it,T.mt,T.cf⟩
def Tabs.addO (T:Tabs) (f:Nat) (c:OwnK):Tabs:=⟨T.fn,(f,c) :: T.own,T.it,T.mt,T.cf⟩
def Tabs.addI (T:Tabs) (f:Nat) (c:List PA->Option (Prop×List (List PA))):Tabs:=⟨T.fn,T.own,(f,c) :: T.it,T.mt,T.cf⟩
def Tabs.addM (T:Tabs) (f:Nat) (c:MK):Tabs:=⟨T.fn,T.own,T.it,(f,c) :: T.mt,T.cf⟩
def Tabs.addC (T:Tabs) (f:Nat) (c:List PA->COut):Tabs:=⟨T.fn,T.own,T.it,T.mt,(f,c) :: T.cf⟩

theorem zLj {P:Program}{f:Nat} : Ok P f (λ _=>.no):=λ _ _ h=>h.elim
theorem zLk {P:Program}{f:Nat} : zCg P f (λ _=>none):=λ _ _ _ h=>by cases h

structure TabsOk (P : Program) (T : Tabs) : Prop where
  fn:∀ x∈T.fn,Ok P x.1 x.2
  own:∀ x∈T.own,zlb P x.1 x.2
  it:∀ x∈T.it,zCg P x.1 x.2
  mt:∀ x∈T.mt,zi7 P x.1 x.2
  cf:∀ x∈T.cf,@Ok ⟨1⟩ P x.1 x.2
theorem TabsOk.nil {P:Program} : TabsOk P .nil:=⟨λ _ h=>(by cases h),λ _ h=>(by cases h),λ _ h=>(by cases h),λ _ h=>(by cases h),λ _ h=>(by cases h)⟩
theorem TabsOk.addF {P:Program}{T:Tabs}(h:TabsOk P T){f:Nat}{c:List PA->COut}(hc:Ok P f c):TabsOk P (T.addF f c) :=
 ⟨λ x hx=>(dqq.1 hx).elim (λ e=>by rw[e];exact hc) (λ hx=>h.fn x hx),h.own,h.it,h.mt,h.cf⟩
theorem TabsOk.addO {P:Program}{T:Tabs}(h:TabsOk P T){f:Nat}{c:OwnK}(hc:zlb P f c):TabsOk P (T.addO f c) :=
 ⟨h.fn,λ x hx=>(dqq.1 hx).elim (λ e=>by rw[e];exact hc) (λ hx=>h.own x hx),h.it,h.mt,h.cf⟩
theorem TabsOk.addI {P:Program}{T:Tabs}(h:TabsOk P T){f:Nat}{c:List PA->Option (Prop×List (List PA))}(hc:zCg P f c):TabsOk P (T.addI f c) :=
 ⟨h.fn,h.own,λ x hx=>(dqq.1 hx).elim (λ e=>by rw[e];exact hc) (λ hx=>h.it x hx),h.mt,h.cf⟩
theorem TabsOk.addM {P:Program}{T:Tabs}(h:TabsOk P T){f:Nat}{c:MK}(hc:zi7 P f c):TabsOk P (T.addM f c) :=
 ⟨h.fn,h.own,h.it,λ x hx=>(dqq.1 hx).elim (λ e=>by rw[e];exact hc) (λ hx=>h.mt x hx),h.cf⟩
theorem TabsOk.addC {P:Program}{T:Tabs}(h:TabsOk P T){f:Nat}{c:List PA->COut}(hc : @Ok ⟨1⟩ P f c):TabsOk P (T.addC f c) :=
 ⟨h.fn,h.own,h.it,h.mt,λ x hx=>(dqq.1 hx).elim (λ e=>by rw[e];exact hc) (λ hx=>h.cf x hx)⟩
theorem zmJ {P : Program} {f : Nat} : ∀ {l : List (Nat × (List PA → COut))}, (∀ x ∈ l, Ok P x.1 x.2) → Ok P f (zvq l f)
  | [],_=>zLj
  | (k,c) :: l,hl=>by
    simp only[zvq]
    split
    · rename_i e
      have:=hl (k,c) dqj
      rw[<- dqc e];exact this
    · exact zmJ λ x hx=>hl x (dqf _ hx)
theorem TabsOk.all {P:Program}{T:Tabs}(h:TabsOk P T) (memo:Nat->Int->List Int) (vv:Nat->Bool):OkAll P (csm T memo vv):=by
 refine⟨λ f C hC=>h.mt _ (zbS hC),λ f=>zmJ h.fn,λ f=>?_,λ f=>?_,λ f=>@zmJ ⟨1⟩ P f T.cf h.cf⟩
 ·show zlb P f (zvr T.own f)
  unfold zvr
  split
  ·rename_i c hc;exact h.own _ (zbS hc)
  ·trivial
 ·show zCg P f (zD0 T.it f)
  unfold zD0
  split
  ·rename_i c hc;exact h.it _ (zbS hc)
  ·exact zLk

theorem zbu {P : Program} {T : Tabs} (hT : TabsOk P T) {f : FuncId} {C : List PA → COut} (hc : zar P f)
    (h:∀ args K,(C args).wp K->∃ memo vv ann,vcFun P (csm T memo vv) ann f args K):Ok P f C :=
  zBc (hT.all (λ _ _=>[]) (λ _=>false)) hc h
theorem zD1 {P : Program} {T : Tabs} (hT : TabsOk P T) {f : FuncId} {C : MK} (hc : zar P f)
    (h:∀ xs safe rs ys,C xs=some (safe,rs,ys)->safe->∀ K:List PA->List XA->Prop,K rs ys->∃ memo vv ann,zkk P (csm T memo vv) ann f xs K):zi7 P f C :=
  zvp (hT.all (λ _ _=>[]) (λ _=>false)) hc h
theorem zIy {P : Program} {T : Tabs} (hT : TabsOk P T) {f : FuncId} {C : List PA → Option (Prop × List (List PA))} (hc : zar P f)
    (h:∀ l caps safe ys,C caps=some (safe,ys)->safe->∃ memo vv ann,vcIter P (csm T memo vv) ann f l caps ys):zCg P f C :=
  zBg (hT.all (λ _ _=>[]) (λ _=>false)) hc h
structure Sl (α : Type) where
  len:Nat
  get:Nat->α
instance {α:Type} [Inhabited α]:Inhabited (Sl α):=⟨⟨0,λ _=>default⟩⟩
abbrev w64 (x:Int):Int:=IntKind.i64.wrap x

def IsE {α:Type}(enc:α->List PV) (size s:Nat) (g:Nat->List PV):Prop:=s=size/\∃ f:Nat->α,g=λ i=>enc (f i)
theorem isE {α:Type}{enc:α->List PV}{size:Nat}{f:Nat->α} : IsE enc size size (λ i=>enc (f i)):=⟨rfl,f,rfl⟩
theorem zvs {α:Type}{enc:α->List PV}{size:Nat}{x:α} : IsE enc size size (λ _=>enc x):=⟨rfl,λ _=>x,rfl⟩
def zgB {α:Type}(n:Nat) (get new:Nat->α):Nat->α:=λ j=>match Nat.ble n j with | true=>new (j - n) | false=>get j
theorem zBk {α:Type}{enc:α->List PV}{n:Nat}{f h:Nat->α} : appG n (λ i=>enc (f i)) (λ i=>enc (h i))=λ i=>enc (zgB n f h i):=by
 funext j;simp only[appG,zgB];cases Nat.ble n j <;> rfl
def zoW {α : Type} (x : α) : List α → Nat → α
  | [],_=>x
  | y :: _,0=>y
  | _ :: r,i+1=>zoW x r i
theorem zrI {α:Type}{enc:α->List PV}{x y:α}{r:List α} : zbB (enc x :: enc y :: r.map enc)=λ i=>enc (zoW x (x :: y :: r) i):=by
 have key:∀ (l:List α) (i:Nat),(match (l.map enc)[i]? with | some z=>z | none=>enc x)=enc (zoW x l i):=by
  intro l
  induction l with
  | nil=>intro i;rfl
  | cons a l ih =>
   intro i
   cases i with
   | zero=>rfl
   | succ i=>simpa [zoW] using ih i
 funext i
 exact key (x :: y :: r) i
theorem zd0 {α:Type}{enc:α->List PV}{size:Nat}{x y:α}(r:List α):IsE enc size size (zbB (enc x :: enc y :: r.map enc)):=⟨rfl,_,zrI⟩

theorem zcS {b:Bool}{A B:Prop}{S S':Bool}{α:Type}{K:α->Prop}{x y:α}(h1:S=true->K x->A) (h2:S'=true->K y->B) (hs:cond b S S'=true) (hk:K (cond b x y)):zc1 b A B:=by
 cases b
 ·exact h2 hs hk
 ·exact h1 hs hk
theorem zhC {b:Bool}{A B:Prop}{S S':Bool}{α β:Type}{f:α->β}{ys:List β}{x y:List α}(hs:cond b S S'=true) (hk:ys=(cond b x y).map f) (h1:S=true->ys=x.map f->A) (h2:S'=true->ys=y.map f->B):zc1 b A B:=by
 cases b
 ·exact h2 hs hk
 ·exact h1 hs hk
theorem itY {α β:Type}{f:α->β}{ys:List β}{p:β}{x r:List α}{l:Nat}{A:List β->Prop}(hk:ys=x.map f) (e:x.map f=p :: r.map f) (h:∀ zs,zs=r.map f->A zs):l=l/\∃ z,ys=p :: z/\A z/\True :=
 ⟨rfl,_,hk.trans e,h _ rfl,trivial⟩
theorem zaT {C A:Prop} [d:Decidable C] {r:Bool}(hs:(decide C && r)=true) (k:C->r=true->A):A:=by
 rw[dqm] at hs
 exact k (of_decide_eq_true hs.1) hs.2
abbrev Fuel:Nat:=9223372036854775808
def setT {α:Type}(i:Nat) (v:α) (get:Nat->α):Nat->α:=λ j=>match Nat.beq j i with | true=>v | false=>get j
theorem zko {α:Type}{enc:α->List PV}{n:Nat}{g g':Nat->List PV}{f h:Nat->α}(h1:g=λ i=>enc (f i)) (h2:g'=λ i=>enc (h i)):appG n g g'=λ i=>enc (zgB n f h i):=by
 subst h1;subst h2;exact zBk
theorem ziQ {α:Type}{enc:α->List PV}{i k:Nat}{g:Nat->List PV}{f:Nat->α}{new:List PV}{v:α}(h1:g=λ i=>enc (f i)) (h2:spl (enc (f i)) k new=enc v):zoO i k g new=λ j=>enc (setT i v f j):=by
 subst h1
 funext j
 simp only[zoO,setT]
 cases e:Nat.beq j i
 ·rfl
 ·have := dqc e
  subst this;exact h2
def zLl (P:Program) (G:Ctrs) (ann:Ann) (hd:Nat) (ps:List Nat) (assign body:Code) (X:List (List PA)->St->Prop) (K:Exit->St->Prop) (y:List PA) (rest:List (List PA)) (s:St):Prop :=
 match lk ann.head hd with
 | some k=>match zhp ps y s.env with
  | some env=>vc P G ann assign (zAy (vc P G ann body (zlp P k (X rest) K)) λ _ _=>False) ⟨env,s.objs,[]⟩
  | none=>False
 | none=>False
def sortB (n:Nat) (p:Nat->Nat->Bool) (c:Nat->Nat->Int):Bool :=
  (List.range n).all fun i => decide (0 ≤ c i i) && (List.range n).all fun j => p i j && (Nat.beq i j || (decide (c i j < 0) && decide (0 ≤ c j i)) || (decide (c j i < 0) && decide (0 ≤ c i j))) &&
    (List.range n).all λ k=>!(decide (c i j < 0) && decide (c j k < 0)) || decide (c i k < 0)
theorem zrJ {n:Nat}{p:Nat->Nat->Bool}{c c':Nat->Nat->Int}{s:Nat->Nat->Prop}(h:sortB n p c=true) (hp:∀ i j,p i j=true->s i j) (hc:c'=c):(∀ i j,i < n->j < n->s i j)/\STO n c':=by
 subst hc
 simp only[sortB,List.all_eq_true,List.mem_range,dqm,Bool.or_eq_true,decide_eq_true_eq,Bool.not_eq_true',Bool.and_eq_false_iff,decide_eq_false_iff_not] at h
 refine⟨λ i j hi hj=>hp i j ((h i hi).2 j hj).1.1,λ i hi=>(h i hi).1,λ i j hi hj hne=>?_,λ i j k hi hj hk h1 h2=>?_⟩
 ·rcases ((h i hi).2 j hj).1.2 with (h1 | h1) | h1
  ·exact absurd (dqc h1) hne
  ·exact .inl h1
  ·exact .inr h1
 ·rcases ((h i hi).2 j hj).2 k hk with (h3 | h3) | h3
  ·exact absurd h1 h3
  ·exact absurd h2 h3
  ·exact h3
end Go.Pm
namespace Go.Pm
variable [DrawZ]
open Go Go.Sort

/-! Nil slices are slices of length 0. -/
inductive PVle : PV → PV → Prop
  | rfl (p:PV):PVle p p
  | nil (s:Nat) (g:Nat->List PV):PVle .nils (.sl 0 s g)
  | nilm (q:MQ):PVle .nilm (.fm q 0 (λ _=>none))
inductive PAle : PA → PA → Prop
  | one {p q:PV} : PVle p q->PAle (.one p) (.one q)
  | agg {l m:List PV} : RL PVle l m->PAle (.agg l) (.agg m)
theorem ziR {α β:Type}{R:α->β->Prop} : RL R [] []:=trivial
theorem zeu {α β:Type}{R:α->β->Prop}{a:α}{b:β}{l:List α}{m:List β}(h:R a b) (h':RL R l m):RL R (a :: l) (b :: m):=⟨h,h'⟩
theorem zeI {α : Type} {R : α → α → Prop} (h : ∀ a, R a a) : ∀ l : List α, RL R l l
  | []=>trivial
  | a :: l=>⟨h a,zeI h l⟩
theorem zeJ (a:PA):PAle a a:=by
 cases a with
 | one p=>exact .one (.rfl p)
 | agg l=>exact .agg (zeI .rfl l)
def Wk (K:List PA->Prop) (l:List PA):Prop:=∃ l',RL PAle l l'/\K l'
theorem wk {K:List PA->Prop}{l l':List PA}(hk:K l') (h:RL PAle l l'):Wk K l:=⟨l',h,hk⟩
theorem zeK {K:List PA->Prop}{l:List PA}(hk:K l):Wk K l:=⟨l,zeI zeJ l,hk⟩
theorem zIz {h:Fz}{p q:PV}{v:Value}(e:PVle p q) (r:Rep h p v):Rep h q v:=by
 cases e with
 | rfl=>exact r
 | nil s g=>cases r;exact .sl0 s g
 | nilm q=>cases r;exact .fmn q _ (λ _ _=>rfl)
theorem zvt {α β γ : Type} {R : α → β → Prop} {S : α → γ → Prop} {T : γ → β → Prop} (h : ∀ a b c, S a c → R a b → T c b) : ∀ (l : List α) (m : List β) (k : List γ), RL S l k → RL R l m → RL T k m
  | [],[],[],_,_=>trivial
  | a :: l,b :: m,c :: k,hs,hr=>⟨h a b c hs.1 hr.1,zvt h l m k hs.2 hr.2⟩
  | [],_ :: _,[],_,hr=>hr.elim
  | [],_,_ :: _,hs,_=>hs.elim
  | _ :: _,_,[],hs,_=>hs.elim
  | _ :: _,[],_ :: _,_,hr=>hr.elim
theorem zBl {h:Fz}{a b:PA}{v:Value}(e:PAle a b) (r:paR h a v):paR h b v:=by
 cases e with
 | one e=>exact zIz e r
 | agg e =>
  obtain⟨vs,rfl,hv⟩:=r
  exact⟨vs,rfl,zvt (R:=Rep h) (S:=PVle) (T:=Rep h) (λ _ _ _ e r=>zIz e r) _ _ _ e hv⟩
theorem zvu {h:Fz}{l m:List PA}{v:Value}(e:RL PAle l m) (r:zl9 h l v):zl9 h m v:=by
 match l,m,e,r with
 | [a],[b],e,r=>exact zBl e.1 r
 | [],[],_,r=>exact r
 | a :: b :: l,c :: d :: m,e,r =>
  obtain⟨vs,hv,hr⟩:=r
  exact⟨vs,hv,zvt (R:=paR h) (S:=PAle) (T:=paR h) (λ _ _ _ e r=>zBl e r) _ _ _ e hr⟩
 | [_],_ :: _ :: _,e,_=>exact e.2.elim
 | _ :: _ :: _,[_],e,_=>exact e.2.elim
 | [],_ :: _,e,_=>exact e.elim
 | _ :: _,[],e,_=>exact e.elim
theorem zfC {P : Program} {T : Tabs} (hT : TabsOk P T) {f : FuncId} {C : List PA → COut} (hc : zar P f)
    (h:∀ args K,(C args).wp K->∃ args',RL PAle args args'/\∃ memo vv ann,vcFun P (csm T memo vv) ann f args' (Wk K)):Ok P f C:=by
  intro args K hK w h0 vs hvs hfz hgl
  obtain⟨args',hle,memo,vv,ann,hv⟩:=h args K hK
  refine⟨hc,(zvi (hT.all memo vv) hv (zvt (R:=paR h0) (S:=PAle) (T:=paR h0) (λ _ _ _ e r=>zBl e r) _ _ _ hle hvs) hfz hgl).mono ?_⟩
  rintro e w' ⟨h',rs,v,⟨rs',hr,hk⟩,he,hres,rest⟩
  exact⟨h',rs',v,hk,he,zvu hr hres,rest⟩
theorem zBm {P : Program} {T : Tabs} (hT : TabsOk P T) {f : FuncId} {C : MK} (hc : zar P f)
    (h:∀ xs safe rs ys,C xs=some (safe,rs,ys)->safe->∀ K:List PA->List XA->Prop,K rs ys->∃ memo vv ann,zkk P (csm T memo vv) ann f xs (λ a b=>Wk (λ a'=>K a' b) a)):zi7 P f C:=by
  intro xs ys safe rs hC hs w h0 base vs hvs hn hK hw hgl hB
  obtain⟨memo,vv,ann,hv⟩:=h xs safe rs ys hC hs (λ l zs=>l=rs/\zs=ys) ⟨rfl,rfl⟩
  refine⟨hc,(zvo (hT.all memo vv) hv hvs hn hK hw hgl hB).mono ?_⟩
  rintro e w' ⟨h',v,rs',ys',⟨rs2,hr,rfl,rfl⟩,he,hres,r⟩
  exact⟨h',v,he,zvu hr hres,r⟩
def WkM (K:List PA×List XA->Prop) (p:List PA×List XA):Prop:=Wk (λ a=>K (a,p.2)) p.1
theorem wkM {K:List PA×List XA->Prop}{l l':List PA}{b:List XA}(hk:K (l',b)) (h:RL PAle l l'):WkM K (l,b):=⟨l',h,hk⟩
theorem zvv {K:List PA×List XA->Prop}{p:List PA×List XA}(hk:K p):WkM K p:=⟨p.1,zeI zeJ p.1,hk⟩
/-! Maps, as typed zaa; the keys of a map. -/
structure Mp where
  n:Nat
  F:List Int->Option (List Int)
instance:Inhabited Mp:=⟨⟨0,λ _=>none⟩⟩

def zIA (m:Nat) (F:List Int->Option (List Int)) (seen ys:List (List Int)):Prop :=
 ys.Nodup/\(∀ y∈ys,y.length=m/\F y ≠ none/\y ∉ seen)/\∀ c,c.length=m->F c ≠ none->c ∉ seen->c∈ys
def nodupB : List (List Int) → Bool
  | []=>true
  | y :: r=>!r.contains y && nodupB r
def keysB (m n:Nat) (F:List Int->Option (List Int)) (ys:List (List Int)):Bool :=
 Nat.beq ys.length n && ys.all (λ y=>Nat.beq y.length m && (F y).isSome) && nodupB ys
theorem zh7 : ∀ {ys : List (List Int)}, nodupB ys = true ↔ ys.Nodup
  | []=>by simp[nodupB]
  | y :: r=>by simp[nodupB,zh7 (ys:=r)]
theorem zof {α : Type} [DecidableEq α] : ∀ {l m : List α}, l.Nodup → (∀ x ∈ l, x ∈ m) → m.length ≤ l.length → ∀ x ∈ m, x ∈ l
  | [],m,_,_,hl,x,hx=>by have:m=[]:=List.eq_nil_of_length_eq_zero (by simpa using hl);rw[this] at hx;exact hx
  | a :: l,m,hn,hs,hl,x,hx=>by
    have ha:=hs a dqj
    by_cases h:x=a
    · rw[h];exact dqj
    · have hx2 : x ∈ m.erase a := (List.mem_erase_of_ne h).2 hx
      have hn2:=List.nodup_cons.1 hn
      refine dqf _ (zof hn2.2 (λ z hz=>?_) ?_ x hx2)
      · have hza : z ≠ a := fun e => hn2.1 (e ▸ hz)
        exact (List.mem_erase_of_ne hza).2 (hs z (dqf _ hz))
      · rw[List.length_erase_of_mem ha];simp at hl;omega
theorem zvw {m n:Nat}{F:List Int->Option (List Int)}{ys:List (List Int)}(h:keysB m n F ys=true) (hf:zH4 m n F):zIA m F [] ys:=by
 simp only[keysB,dqm,List.all_eq_true] at h
 obtain⟨⟨h1,h2⟩,h3⟩:=h
 have h1:=dqc h1
 have h3:=zh7.1 h3
 obtain⟨ks,k1,k2,k3,k4⟩:=hf
 have hy:∀ y∈ys,y.length=m/\F y ≠ none:=λ y hy=>by
  obtain⟨a,b⟩:=h2 y hy
  refine⟨dqc a,λ e=>?_⟩
  rw[e] at b;cases b
 refine⟨h3,λ y hy'=>⟨(hy y hy').1,(hy y hy').2,by simp⟩,λ c hc hne _=>?_⟩
 exact zof h3 (λ y hy'=>(k4 y (hy y hy').1).1 (hy y hy').2) (by rw[k1,h1];exact dqt _) c ((k4 c hc).1 hne)
theorem zBn {m : Nat} {F : List Int → Option (List Int)} {seen ys : List (List Int)} (h : zIA m F seen ys) {c : List Int} (hc : c.length = m) (hF : F c ≠ none) (hs : c ∉ seen) :
  ys.Perm (c :: ys.erase c)/\zIA m F (c :: seen) (ys.erase c)/\(ys.erase c).length+1=ys.length:=by
 obtain⟨h1,h2,h3⟩:=h
 have hm:=h3 c hc hF hs
 refine⟨List.perm_cons_erase hm,⟨h1.erase c,λ y hy=>?_,λ d hd hdF hds=>?_⟩,?_⟩
 ·have := (List.Nodup.mem_erase_iff h1).1 hy
  obtain⟨a,b,e⟩:=h2 y this.2
  exact⟨a,b,by simp[this.1,e]⟩
 ·simp only [dqq, not_or] at hds
  exact (List.mem_erase_of_ne hds.1).2 (h3 d hd hdF hds.2)
 ·rw [List.length_erase_of_mem hm]
  have:0 < ys.length:=List.length_pos_of_mem hm
  omega
theorem zD2 {m:Nat}{F:List Int->Option (List Int)}{seen ys:List (List Int)}(h:zIA m F seen ys) (he:∀ c,c.length=m->F c ≠ none->c∈seen):ys=[]:=by
 cases ys with
 | nil=>rfl
 | cons y r =>
  obtain⟨a,b,e⟩:=h.2.1 y dqj
  exact (e (he y a b)).elim

end Go.Pm
namespace Go.Pm
variable [DrawZ]

abbrev zI (x:Int):DV:=.one (.c (.p (.int .i64 x)))
abbrev zB (x:Bool):DV:=.one (.c (.p (.bool x)))
abbrev zP (x:PV):DV:=.one (.c (.p x))
abbrev zp (L k:Nat):DV:=.one (.c (.ptr L k))
abbrev zv (L:Nat):DV:=.one (.c (.vec L))
abbrev zs {α:Type}(enc:α->List PV) (s:Nat) (x:Sl α):PV:=.sl x.len s (λ i=>enc (x.get i))
abbrev zS {α:Type}(enc:α->List PV) (s:Nat) (x:Sl α):DV:=zP (zs enc s x)
abbrev zm (l:List PV):List Cl:=l.map Cl.p
abbrev zi (x:Int):Cl:=.p (.int .i64 x)
abbrev zg {α:Type}(enc:α->List PV) (x:Sl α):Nat->List PV:=λ i=>enc (x.get i)
abbrev zK (a b:List Nat):Keep:=⟨a,b,[],[],[],[],[]⟩
theorem zE {α:Type}(enc:α->List PV) (size:Nat) (f:Nat->α):IsE enc size size (λ i=>enc (f i)):=⟨rfl,f,rfl⟩

theorem zvx {α : Type} : ∀ (new l pre : List α), l.length = new.length → spl (pre ++ l) pre.length new = pre ++ new
  | [],l,pre,h=>by
    have:l=[]:=List.eq_nil_of_length_eq_zero h
    subst this;rfl
  | x :: r,[],pre,h=>by simp at h
  | x :: r,y :: l,pre,h=>by
    have e:=zvx r l (pre ++ [x]) (by simpa using h)
    simp only[spl,List.append_assoc,List.singleton_append,dqu,List.length_singleton] at e ⊢
    rw[List.set_append_right _ _ (dqt _),Nat.sub_self,List.set_cons_zero]
    exact e
theorem zmK {n:Nat}{F G:Nat->Int} : spl (zhj 0 n F) 0 (zhj 0 n G)=zhj 0 n G:=by
 have h:=zvx (zhj 0 n G) (zhj 0 n F) [] (by rw[zfr,zfr])
 simpa using h
theorem zhD {n:Nat}{F:Nat->Int} : zhj 0 n F=zhj 0 n (zll (zm (zhj 0 n F))):=by
 refine List.ext_getElem? λ k=>?_
 by_cases hk:k < n
 ·rw [zgs n 0 F k hk, zgs n 0 _ k hk, Nat.zero_add]
  congr 2
  have h:(zm (zhj 0 n F))[k]? = some (.p (.int .i64 (F k))):=by
   rw[zm,dqH,zgs n 0 F k hk,Nat.zero_add];rfl
  unfold zll
  rw[h]
 ·rw[dqM (by rw[zfr];omega),dqM (by rw[zfr];omega)]

@[reducible] def lpO {A : Type} (d : A) (st : A → A) : Nat → A
  | 0=>d
  | k+1=>st (lpO d st k)
theorem zfg {A B : Type} (a : A) (b : B) (p : A → A) (s : B → B) (M : A → B → Prop) (h0 : M a b) (h1 : ∀ P S, M P S → M (p P) (s S)) : ∀ k, M (lpO a p k) (lpO b s k)
  | 0=>h0
  | k+1=>h1 _ _ (zfg a b p s M h0 h1 k)
def xcm (l:List PV):List XC:=l.map .p
def unX : List XC → List PV
  | []=>[]
  | .p v :: r=>v :: unX r
  | _ :: r=>.nilp :: unX r
theorem zvy : ∀ l : List PV, unX (xcm l) = l
  | []=>rfl
  | v :: r=>by show v :: unX (xcm r)=v :: r;rw[zvy r]
theorem zD3 {n:Nat}{F:Nat->Int} : xcm (zhj 0 n F)=xcm (zhj 0 n (zll (zm (unX (xcm (zhj 0 n F)))))):=by
 rw[zvy,<- zhD]

section
variable (P:Program) (Γ:Ctrs) (ann:Ann)
def pt : Code → (Exit → St → Prop) → List Nat → List (St → Prop) → St → Prop
  | .seq a b,K,i :: r,X=>match i with | 0=>pt a (sqK P Γ ann b K) r X | _=>pt b K r X
  | .cond _ a b,K,i :: r,X=>match i with | 0=>pt a K r X | _=>pt b K r X
  | .block id b,K,_ :: r,X=>pt b (zcu id K) r X
  | .loop b,K,_ :: r,x :: X=>pt b (zhV P ann (zla b) x K) r X
  | .scope b,K,_ :: r,X=>pt b (zt0 K) r X
  | c,K,_,_=>vc P Γ ann c K
def ptF (fn:Func) (K:List PA->Prop) (l:List Nat) (X:List (St->Prop)):St->Prop :=
 match fn.body with
 | some c=>pt P Γ ann c (zeW P fn K) l X
 | none=>λ _=>False
end

section
variable (P:Program) (Γ:Ctrs) (ann:Ann)
def ptR : Code → (Exit → St → Prop) → List Nat → List (St → Prop) → Code × (Exit → St → Prop)
  | .seq a b,K,i :: r,X=>match i with | 0=>ptR a (sqK P Γ ann b K) r X | _=>ptR b K r X
  | .cond _ a b,K,i :: r,X=>match i with | 0=>ptR a K r X | _=>ptR b K r X
  | .block id b,K,_ :: r,X=>ptR b (zcu id K) r X
  | .loop b,K,_ :: r,x :: X=>ptR b (zhV P ann (zla b) x K) r X
  | .scope b,K,_ :: r,X=>ptR b (zt0 K) r X
  | c,K,_,_=>(c,K)
def exF (fn:Func) (K:List PA->Prop) (l:List Nat) (X:List (St->Prop)) (s:St):Prop :=
 match fn.body with
 | some c=>(ptR P Γ ann c (zeW P fn K) l X).2 .normal s
 | none=>False
def rnF (fn:Func) (K:List PA->Prop) (l:List Nat) (X:List (St->Prop)) (Y:List (List PA)->St->Prop) (y:List PA) (rest:List (List PA)) (s:St):Prop :=
 match fn.body with
 | some c=>match (ptR P Γ ann c (zeW P fn K) l X).1 with
  | .rangeFunc _ ps a b=>zLl P Γ ann (zMO a b) ps.toList a b Y (ptR P Γ ann c (zeW P fn K) l X).2 y rest s
  | _=>False
 | none=>False
end
@[reducible] def lpR {A Y : Type} (a : A) (st : Y → A → A) : List Y → A
  | []=>a
  | y :: r=>st y (lpR a st r)
theorem zri {Y A B : Type} {enc : Y → List PA} {X : List (List PA) → St → Prop} (pe : B) (se : A) (ps : Y → B → B) (ss : Y → A → A) (M : (St → Prop) → B → A → Prop) (h0 : M (X []) pe se)
    (h1:∀ y rest P S,M (X rest) P S->M (X (enc y :: rest)) (ps y P) (ss y S)):∀ l:List Y,M (X (l.map enc)) (lpR pe ps l) (lpR se ss l)
  | []=>h0
  | y :: r=>h1 y (r.map enc) _ _ (zri pe se ps ss M h0 h1 r)
theorem zr {at_ sf : Prop} {Y : Type} {enc : Y → List PA} {ys : List Y} {g : St} (Ex : St → Prop) (Rn : (List (List PA) → St → Prop) → List PA → List (List PA) → St → Prop)
    (e:at_=(sf/\∀ X:List (List PA)->St->Prop,(∀ s,Ex s->X [] s)->(∀ y rest s,Rn X y rest s->X (y :: rest) s)->X (ys.map enc) g)) (hs:sf)
    (h:∀ X:List (List PA)->St->Prop,(∀ s,Ex s->X [] s)->(∀ y rest s,Rn X y rest s->X (y :: rest) s)->X (ys.map enc) g):at_:=e ▸ ⟨hs,h⟩

theorem zc {b:Bool}{A B:Prop}{S S':Bool}{α:Type}{e:α->List PA}{K:List PA->Prop}{x y:α}(hs:cond b S S'=true) (hk:K (e (cond b x y))) (h1:S=true->K (e x)->A) (h2:S'=true->K (e y)->B):zc1 b A B:=by
 cases b
 ·exact h2 hs hk
 ·exact h1 hs hk
theorem zt {b:Bool}{A B:Prop}{α:Type}{e:α->List PA}{K:List PA->Prop}{x y:α}(hk:K (e (cond b x y))) (h1:K (e x)->A) (h2:K (e y)->B):zc1 b A B:=by
 cases b
 ·exact h2 hk
 ·exact h1 hk
theorem zIB {b:Bool}{s:Prop}{r1 r2:List PA}{K:List PA->Prop}(h:(COut.alt b s r1 s r2).wp K):s/\K (cond b r1 r2):=by
 cases b
 ·exact h.2 rfl
 ·exact h.1 rfl
theorem zl {at_:Prop}{g:St}(B:(St->Prop)->St->Prop) (e:at_ = ∀ X:St->Prop,(∀ s,B X s->X s)->X g) (h:∀ X:St->Prop,(∀ s,B X s->X s)->X g):at_:=e ▸ h
end Go.Pm
namespace Go.Pm
instance dz0:DrawZ:=⟨0⟩
end Go.Pm
namespace Go.Proofs
open Go Go.Pm
set_option maxRecDepth 100000
set_option linter.unusedVariables false
attribute [local irreducible] Go.Pm.vcFun Go.Pm.vc Go.Pm.vcIter
abbrev Tab:=Nat->Int
def tg (n:Nat) (F:Tab) (k:Nat):Int:=zll (zm (zhj 0 n F)) k
def ts (n:Nat) (F:Tab) (k:Nat) (vs:List Int):Tab:=zB9 k vs (zll (zm (zhj 0 n F)))
abbrev enc_3 (x:Int):List PV:=[.int .i64 x]
def zLm : List PV → Int
  | [.int .i64 x]=>x
  | _=>default
def zav (g:Nat->List PV):Nat->Int:=λ i=>zLm (g i)
theorem za8 (f:Nat->Int):zav (λ i=>enc_3 (f i))=f:=rfl
structure Tie where
  From:Int
  To:Int
  Low:Int
  High:Int
deriving Inhabited
abbrev enc_40 (x:Tie):List PV:=[.int .i64 x.From,.int .i64 x.To,.int .i64 x.Low,.int .i64 x.High]
def zIC : List PV → Tie
  | [.int .i64 x_From,.int .i64 x_To,.int .i64 x_Low,.int .i64 x_High]=>(⟨x_From,x_To,x_Low,x_High⟩:Tie)
  | _=>default
def zam (g:Nat->List PV):Nat->Tie:=λ i=>zIC (g i)
theorem zak (f:Nat->Tie):zam (λ i=>enc_40 (f i))=f:=rfl
abbrev zID (x:(Sl Tie)):List PV:=[.sl x.len 4 (λ i=>enc_40 (x.get i))]
structure Net where
  Nodes:Int
  Ties:(Sl Tie)
deriving Inhabited
abbrev enc_24 (x:Net):List PV:=[.int .i64 x.Nodes,.sl x.Ties.len 4 (λ i=>enc_40 (x.Ties.get i))]
abbrev zb4 (x:(Sl Int)):List PV:=[.sl x.len 1 (λ i=>enc_3 (x.get i))]
def zIE : List PV → (Sl Int)
  | [.sl x_n _ x_g]=>(⟨x_n,zav x_g⟩:(Sl Int))
  | _=>default
def zmL (g:Nat->List PV):Nat->(Sl Int):=λ i=>zIE (g i)
theorem zkp (f:Nat->(Sl Int)):zmL (λ i=>zb4 (f i))=f:=rfl
structure Span where
  Low:Int
  High:Int
deriving Inhabited
abbrev zbE (x:Span):List PV:=[.int .i64 x.Low,.int .i64 x.High]
def zIF : List PV → Span
  | [.int .i64 x_Low,.int .i64 x_High]=>(⟨x_Low,x_High⟩:Span)
  | _=>default
def zf2 (g:Nat->List PV):Nat->Span:=λ i=>zIF (g i)
theorem zfD (f:Nat->Span):zf2 (λ i=>zbE (f i))=f:=rfl
structure Pulse where
  A:Int
  B:Int
  TimeA:Int
  TimeB:Int
  Flight:Span
  Jitter:Int
deriving Inhabited
structure Use where
  Tie:Int
  Back:Bool
deriving Inhabited
abbrev zaX (x:Use):List PV:=[.int .i64 x.Tie,.bool x.Back]
def zIG : List PV → Use
  | [.int .i64 x_Tie,.bool x_Back]=>(⟨x_Tie,x_Back⟩:Use)
  | _=>default
def zdj (g:Nat->List PV):Nat->Use:=λ i=>zIG (g i)
theorem zdk (f:Nat->Use):zdj (λ i=>zaX (f i))=f:=rfl
structure Flash where
  A:Int
  B:Int
  Time:Int
  Flight:Int
  Wrong:Int
deriving Inhabited
structure web where
  Net:Net
  out:Mp
deriving Inhabited
abbrev zaD (x:web):List PV:=[.int .i64 x.Net.Nodes,.sl x.Net.Ties.len 4 (λ i=>enc_40 (x.Net.Ties.get i)),.fm (false,1,false,[none]) x.out.n x.out.F]
structure far where
  length:Int
  uses:Int
deriving Inhabited
abbrev zck (x:far):List PV:=[.int .i64 x.length,.int .i64 x.uses]
def zD4 : List PV → far
  | [.int .i64 x_length,.int .i64 x_uses]=>(⟨x_length,x_uses⟩:far)
  | _=>default
def zjk (g:Nat->List PV):Nat->far:=λ i=>zD4 (g i)
theorem ziS (f:Nat->far):zjk (λ i=>zck (f i))=f:=rfl
abbrev zan (x:Tab):List PV:=zhj 0 80 x
def zaH (l:List PV):Tab:=zll (zm l)
structure Step where
  From:Int
  To:Int
  Length:Int
  Use:Use
deriving Inhabited
structure step where
  Use:Use
  from_:Int
  to:Int
  length:Int
deriving Inhabited
abbrev zaF (x:step):List PV:=[.int .i64 x.Use.Tie,.bool x.Use.Back,.int .i64 x.from_,.int .i64 x.to,.int .i64 x.length]
def zD5 : List PV → step
  | [.int .i64 x_Use_Tie,.bool x_Use_Back,.int .i64 x_from_,.int .i64 x_to,.int .i64 x_length]=>(⟨(⟨x_Use_Tie,x_Use_Back⟩:Use),x_from_,x_to,x_length⟩:step)
  | _=>default
def zhE (g:Nat->List PV):Nat->step:=λ i=>zD5 (g i)
theorem zeL (f:Nat->step):zhE (λ i=>zaF (f i))=f:=rfl
structure tie where
  Tie:Tie
  index:Int
deriving Inhabited
abbrev zvz (x:tie):List PV:=[.int .i64 x.Tie.From,.int .i64 x.Tie.To,.int .i64 x.Tie.Low,.int .i64 x.Tie.High,.int .i64 x.index]
abbrev zvA (x:Tab):List PV:=zhj 0 40 x
abbrev zcU (x:(Sl Tab)):List PV:=[.sl x.len 80 (λ i=>zan (x.get i))]
abbrev tL (T:Tab) (i:Int):Int:=tg 80 T (0+i.toNat * 2+0)
abbrev tU (T:Tab) (i:Int):Int:=tg 80 T (0+i.toNat * 2+0+1)
abbrev tV (T:Tab) (i:Int):Int:=tg 80 T (0+i.toNat * 2+1)
abbrev nvr (x y:Int):Bool:=match (x == (1000000000000:Int)) with | true=>(match (y == (0:Int)) with | true=>true | false=>false) | false=>false
end Go.Proofs
namespace Go.Pm
variable [DrawZ]
open Go Go.Deep

theorem zBo (b o i j:Nat):((⟨b,o,none⟩:Addr).add i).add j=⟨b,o+i+j,none⟩:=by
 simp only[Addr.add]
 by_cases h1:i=0
 ·subst h1
  by_cases h2:j=0
  ·subst h2;rfl
  ·rw[if_neg h2];rfl
 ·rw [if_neg h1]
  by_cases h2:j=0
  ·subst h2;rfl
  ·rw[if_neg h2]
def H0 (w:World):Fz:=λ b=>(w.heap[b]?).map .fz
theorem hw_H0 (w:World):Hw (H0 w) w:=by
 intro b x h
 unfold H0 at h
 cases e:w.heap[b]? with
 | none=>rw[e] at h;cases h
 | some o=>rw[e] at h;cases h;exact⟨o,rfl,rfl⟩
def wfI (x:Int):Prop:=-9223372036854775808<=x/\x<=9223372036854775807
section
variable {H:Type}{en:TypeId×Value->H}{P:Program}{w:World}{sp:Nat->Bool}{held:Bool}
def Rd (H:Type) (en:TypeId×Value->H) (P:Program) (w:World) (sp:Nat->Bool) (held:Bool) (t:TypeId){α:Type}(enc:α->List PV) (wf:α->Prop):Prop :=
 ∀ (fuel:Nat) (cs:List Value) (x:DataW H×List MemPlace),DataW.trod en P w 0 sp held fuel t cs=some x->∃ a:α,RL (Rep (H0 w)) (enc a) cs/\wf a
theorem zIH {t:TypeId}(ht:P.underlying t=some (.int .i64)):Rd H en P w sp held t (λ x=>[.int .i64 x]) wfI:=by
 intro fuel cs x h
 obtain⟨n,rfl,_,hw⟩:=DataW.trod_int ht h
 refine⟨n,⟨.int _ _,trivial⟩,?_⟩
 simp only[Lit.wf,dqm,decide_eq_true_eq] at hw
 exact⟨hw.1,hw.2⟩
theorem zog {t : TypeId} {fs : Array Field} (ht : P.underlying t = some (.struct fs)) {fuel : Nat} {cs : List Value} {x : DataW H × List MemPlace} (h : DataW.trod en P w 0 sp held fuel t cs = some x) :
  cs.length=P.cellsOf t/\∀ (i:Nat) (f:Field),fs[i]? = some f->∃ n y,DataW.trod en P w 0 sp held n f.type ((cs.drop f.offset).take (P.cellsOf f.type))=some y:=by
 obtain⟨xs,n,_,_,hl,hx,hf⟩:=DataW.trod_struct ht h
 refine⟨hl,λ i f hi=>?_⟩
 have hlt:i < xs.length:=by rw[hx];exact (dqp.1 hi).1
 exact⟨n,xs[i],by rw[hf i f hi,dqD hlt]⟩
theorem zrK {t e : TypeId} {α : Type} [Inhabited α] {enc : α → List PV} {wf : α → Prop} {s : Nat} (ht : P.underlying t = some (.slice e)) (hc : P.cellsOf e = s) (hs : 0 < s) (hlen : ∀ a, (enc a).length = s)
    (hel:Rd H en P w sp held e enc wf):Rd H en P w sp held t (λ x:Sl α=>[.sl x.len s (λ i=>enc (x.get i))]) (λ x=>x.len<=9223372036854775807/\∀ i,i < x.len->wf (x.get i)):=by
  intro fuel cs x h
  rcases open_slice ht h with ⟨rfl,_⟩ | ⟨a,len,cap,m,n,D,Pl,rfl,_,hl,hm,hmm,_,hget⟩
  · exact⟨⟨0,default⟩,⟨.sl0 _ _,trivial⟩,Nat.zero_le _,λ i hi=>absurd hi (dqW i)⟩
  · by_cases h0 : len = 0
    · subst h0
      exact⟨⟨0,default⟩,⟨.sle _ _ _ _,trivial⟩,Nat.zero_le _,λ i hi=>absurd hi (dqW i)⟩
    · have hlm : len ≤ m := by rw [hmm]; split <;> omega
      rw[hc] at hget
      have hex:∀ i,i < len->∃ y:α,(∃ cs',w.cells? 0 (a.add (i * s)) s=some cs'/\RL (Rep (H0 w)) (enc y) cs')/\wf y:=by
        intro i hi
        obtain⟨cs',h1,h2⟩:=hget i (by omega)
        obtain⟨y,h3,h4⟩:=hel _ _ _ h2
        exact⟨y,⟨cs',h1,h3⟩,h4⟩
      have hch:∃ f:Nat->α,∀ i,i < len->(∃ cs',w.cells? 0 (a.add (i * s)) s=some cs'/\RL (Rep (H0 w)) (enc (f i)) cs')/\wf (f i):=by
        refine⟨λ i=>if hi:i < len then Classical.choose (hex i hi) else default,λ i hi=>?_⟩
        simp only[dif_pos hi]
        exact Classical.choose_spec (hex i hi)
      obtain⟨f,hf⟩:=hch
      -- the block
      have hcell:∀ i,i < len->∀ j,j < s->∃ cs',w.cells? 0 (a.add (i * s)) s=some cs'/\RL (Rep (H0 w)) (enc (f i)) cs'/\w.cell? ((a.add (i * s)).add j)=cs'[j]?/\cs'.length=s:=by
        intro i hi j hj
        obtain⟨⟨cs',h1,h2⟩,_⟩:=hf i hi
        obtain⟨_,h3,h4⟩:=World.cells?_some h1
        exact⟨cs',h1,h2,h4 j hj,h3⟩
      obtain⟨cs0,_,_,hc0,hl0⟩:=hcell 0 (by omega) 0 hs
      have ha0:w.cell? a=cs0[0]?:=by simpa [Addr.add] using hc0
      rw[dqD (by omega)] at ha0
      obtain⟨C,ty,fr,hblk,hspot⟩:∃ C ty fr,w.heap[a.block]? = some (.cells C ty fr)/\a.spot=none:=by
        unfold World.cell? at ha0
        split at ha0
        · rename_i C ty fr hb
          refine⟨C,ty,fr,hb,?_⟩
          cases hsp:a.spot with
          | none=>rfl
          | some k=>rw[hsp] at ha0;simp at ha0
        · cases ha0
      have ea:a=⟨a.block,a.off,none⟩:=by rw[<- hspot]
      have hat:∀ i j,i < len->j < s->∃ cs',RL (Rep (H0 w)) (enc (f i)) cs'/\C[a.off+i * s+j]? = cs'[j]?/\cs'.length=s:=by
        intro i j hi hj
        obtain⟨cs',_,h2,h3,h4⟩:=hcell i hi j hj
        refine⟨cs',h2,?_,h4⟩
        rw[<- h3]
        have e2:(a.add (i * s)).add j=⟨a.block,a.off+i * s+j,none⟩:=(congrArg (λ z:Addr=>(z.add (i * s)).add j) ea).trans (zBo _ _ _ _)
        rw[e2]
        simp[World.cell?,hblk]
      refine⟨⟨len,f⟩,⟨?_,trivial⟩,by simp only[maxLen] at hm;show len<=_;omega,λ i hi=>(hf i hi).2⟩
      rw[ea]
      refine .sl len s _ a.block a.off cap C ty fr (λ i j=>C.getD (a.off+i * s+j) undef) (by simp[H0,hblk]) hl (λ i _=>hlen _) ?_ ?_
      · intro i j x hi hx
        have hj:j < s:=by have:=(dqn.1 hx).1;rw[hlen] at this;exact this
        obtain⟨cs',h1,h2,h3⟩:=hat i j hi hj
        rw[dql,h2,dqD (by omega)]
        rfl
      · intro i j x hi hx
        have hj:j < s:=by have:=(dqn.1 hx).1;rw[hlen] at this;exact this
        obtain⟨cs',h1,h2,h3⟩:=hat i j hi hj
        obtain⟨v,hv,hr⟩:=h1.get j x hx
        rw[dql,h2,hv]
        exact hr
theorem zeb {α:Type}(l:List α) (o s:Nat):l.drop o=(l.drop o).take s ++ l.drop (o+s):=by
 rw[<- List.drop_drop]
 exact (List.take_append_drop s (l.drop o)).symm
theorem okWide_agg {t:TypeId}{fs:Array Field}{r:Reach}{base:Nat}{v:Value}(ht:P.underlying t=some (.struct fs)) (h:Value.okWide P w r base t v):∃ cs,v=.agg cs:=by
 unfold Value.okWide at h
 rw[ht] at h
 obtain⟨cs,hv,_⟩:=h
 exact⟨cs,hv⟩
def zLn : TypeDesc → Bool
  | .struct _=>false
  | .array _ _=>false
  | _=>true
theorem okWide_one {t:TypeId}{d:TypeDesc}{r:Reach}{base:Nat}{v:Value}(ht:P.underlying t=some d) (hd:zLn d=true) (h:Value.okWide P w r base t v):v.cells.toList=[v]:=by
 unfold Value.okWide at h
 rw[ht] at h
 cases v with
 | agg cs =>
  exfalso
  cases d <;> first | (cases hd;done) | (simp only[Cell.okWide,Cell.ok,ht] at h)
 | _=>rfl
theorem pa_one {h:Fz}{p:PV}{v:Value}(hv:v.cells.toList=[v]) (r:RL (Rep h) [p] v.cells.toList):paR h (.one p) v:=by
 rw[hv] at r
 exact r.1
theorem pa_agg {h:Fz}{l:List PV}{v:Value}(hv:∃ cs,v=.agg cs) (r:RL (Rep h) l v.cells.toList):paR h (.agg l) v:=by
 obtain⟨cs,rfl⟩:=hv
 exact⟨cs.toList,by simp,r⟩
theorem below_H0 {w':World}(b:Bel (H0 w) w.heap.size w w'):Go.RowKit.Below w.heap.size w w' :=
 ⟨b.os,b.tape,b.output,b.size,λ k hk=>b.block k hk λ F e=>by
  unfold H0 at e
  cases hb:w.heap[k]? <;> rw[hb] at e <;> cases e⟩
end
end Go.Pm
namespace Go.Proofs
open Go Go.Pm
set_option maxRecDepth 100000
set_option linter.unusedVariables false
attribute [local irreducible] Go.Pm.vcFun Go.Pm.vc Go.Pm.vcIter
theorem C_3:Tryd.prog.cellsOf 3=1:=by kernel_rfl
theorem zNi:Tryd.prog.cellsOf 22=1:=by kernel_rfl
theorem zNj:Tryd.prog.cellsOf 24=2:=by kernel_rfl
theorem zMT:Tryd.prog.cellsOf 40=4:=by kernel_rfl
abbrev zD6 (x:Int):Prop:=wfI x
theorem zHR {H:Type}{en:TypeId×Value->H}{w:World}{sp:Nat->Bool}{held:Bool} : Rd H en Tryd.prog w sp held 3 enc_3 zD6:=zIH Tryd.underlying3
def zII (x:Tie):Prop:=zD6 x.From/\zD6 x.To/\zD6 x.Low/\zD6 x.High
theorem zLo {H:Type}{en:TypeId×Value->H}{w:World}{sp:Nat->Bool}{held:Bool} : Rd H en Tryd.prog w sp held 40 enc_40 zII:=by
  intro fuel cs x h
  obtain⟨hl,hf⟩:=zog Tryd.underlying40 h
  rw[zMT] at hl
  obtain⟨n0,y0,g0⟩:=hf 0 _ rfl
  have g0:DataW.trod en Tryd.prog w 0 sp held n0 3 ((cs.drop 0).take (Tryd.prog.cellsOf 3))=some y0:=g0
  rw[C_3] at g0
  obtain⟨a0,r0,w0⟩:=zHR _ _ _ g0
  obtain⟨n1,y1,g1⟩:=hf 1 _ rfl
  have g1:DataW.trod en Tryd.prog w 0 sp held n1 3 ((cs.drop 1).take (Tryd.prog.cellsOf 3))=some y1:=g1
  rw[C_3] at g1
  obtain⟨a1,r1,w1⟩:=zHR _ _ _ g1
  obtain⟨n2,y2,g2⟩:=hf 2 _ rfl
  have g2:DataW.trod en Tryd.prog w 0 sp held n2 3 ((cs.drop 2).take (Tryd.prog.cellsOf 3))=some y2:=g2
  rw[C_3] at g2
  obtain⟨a2,r2,w2⟩:=zHR _ _ _ g2
  obtain⟨n3,y3,g3⟩:=hf 3 _ rfl
  have g3:DataW.trod en Tryd.prog w 0 sp held n3 3 ((cs.drop 3).take (Tryd.prog.cellsOf 3))=some y3:=g3
  rw[C_3] at g3
  obtain⟨a3,r3,w3⟩:=zHR _ _ _ g3
  have z:cs.drop 4=[]:=dqO (by omega)
  have R:=(r0.append (r1.append (r2.append (r3.append (show RL (Rep (H0 w)) [] (cs.drop 4) by rw[z];exact ziR)))))
  rw[<- (show cs.drop 3=(cs.drop 3).take 1 ++ cs.drop 4 from zeb cs 3 1)] at R
  rw[<- (show cs.drop 2=(cs.drop 2).take 1 ++ cs.drop 3 from zeb cs 2 1)] at R
  rw[<- (show cs.drop 1=(cs.drop 1).take 1 ++ cs.drop 2 from zeb cs 1 1)] at R
  rw[<- (show cs.drop 0=(cs.drop 0).take 1 ++ cs.drop 1 from zeb cs 0 1)] at R
  exact⟨⟨a0,a1,a2,a3⟩,R,⟨w0,w1,w2,w3⟩⟩
def zIJ (x:(Sl Tie)):Prop:=x.len<=9223372036854775807/\∀ i,i < x.len->zII (x.get i)
theorem zLp {H:Type}{en:TypeId×Value->H}{w:World}{sp:Nat->Bool}{held:Bool} : Rd H en Tryd.prog w sp held 22 zID zIJ:=zrK Tryd.underlying22 zMT (by decide) (λ _=>rfl) zLo
def wf_24 (x:Net):Prop:=zD6 x.Nodes/\zIJ x.Ties
theorem rd_24 {H:Type}{en:TypeId×Value->H}{w:World}{sp:Nat->Bool}{held:Bool} : Rd H en Tryd.prog w sp held 24 enc_24 wf_24:=by
  intro fuel cs x h
  obtain⟨hl,hf⟩:=zog Tryd.underlying24 h
  rw[zNj] at hl
  obtain⟨n0,y0,g0⟩:=hf 0 _ rfl
  have g0:DataW.trod en Tryd.prog w 0 sp held n0 3 ((cs.drop 0).take (Tryd.prog.cellsOf 3))=some y0:=g0
  rw[C_3] at g0
  obtain⟨a0,r0,w0⟩:=zHR _ _ _ g0
  obtain⟨n1,y1,g1⟩:=hf 1 _ rfl
  have g1:DataW.trod en Tryd.prog w 0 sp held n1 22 ((cs.drop 1).take (Tryd.prog.cellsOf 22))=some y1:=g1
  rw[zNi] at g1
  obtain⟨a1,r1,w1⟩:=zLp _ _ _ g1
  have z:cs.drop 2=[]:=dqO (by omega)
  have R:=(r0.append (r1.append (show RL (Rep (H0 w)) [] (cs.drop 2) by rw[z];exact ziR)))
  rw[<- (show cs.drop 1=(cs.drop 1).take 1 ++ cs.drop 2 from zeb cs 1 1)] at R
  rw[<- (show cs.drop 0=(cs.drop 0).take 1 ++ cs.drop 1 from zeb cs 0 1)] at R
  exact⟨⟨a0,a1⟩,R,⟨w0,w1⟩⟩
def wf_27 (x:(Sl Int)):Prop:=x.len<=9223372036854775807/\∀ i,i < x.len->zD6 (x.get i)
theorem rd_27 {H:Type}{en:TypeId×Value->H}{w:World}{sp:Nat->Bool}{held:Bool} : Rd H en Tryd.prog w sp held 27 zb4 wf_27:=zrK Tryd.underlying27 C_3 (by decide) (λ _=>rfl) zHR
end Go.Proofs
namespace Go.Proofs
open Go Go.Pm
set_option maxRecDepth 100000
set_option linter.unusedVariables false
attribute [local irreducible] Go.Pm.vcFun Go.Pm.vc Go.Pm.vcIter
abbrev T81:Tabs:=Tabs.nil
theorem zLq:TabsOk Tryd.prog T81:=TabsOk.nil
abbrev G81:Ctrs:=csm T81 (λ _ _=>[]) (λ _=>false)
def zIK:Ann:=⟨15,[(0,zK [0,1,2] []),(1,zK [6] [])],
 [],
 [],
 [],[]⟩
abbrev R81:=Bool
abbrev e81 (r:R81):List PA:=[.one (.bool r)]
section
variable {K:List PA->Prop}{n:Int}{low:Int}{high:Int}
def s81 (n:Int) (low:Int) (high:Int):Bool :=
  (cond (decide (n >= low))
 (decide (n<=high))
 false)
end
theorem q81 (n:Int) (low:Int) (high:Int) (K:List PA->Prop) (hk:K (e81 (s81 n low high))):vcFun Tryd.prog G81 zIK 81 [.one (.int .i64 n),.one (.int .i64 low),.one (.int .i64 high)] K :=
  zaZ (by kernel_rfl) (zt hk (λ hk=>hk) (λ hk=>hk))
def ztB : List PA → COut
  | [.one (.int .i64 a0),.one (.int .i64 a1),.one (.int .i64 a2)]=>.tot [.one (.bool (s81 a0 a1 a2))]
  | _=>.no
theorem zIL:zar Tryd.prog 81:=⟨_,rfl,rfl,by kernel_rfl⟩
theorem zK3:Ok Tryd.prog 81 ztB:=zbu zLq zIL λ args K h=>by
  unfold ztB at h
  split at h
  · rename_i a0 a1 a2
    have hk:=h
    exact⟨(λ _ _=>[]),(λ _=>false),zIK,q81 a0 a1 a2 K hk⟩
  · exact h.elim
abbrev T78:Tabs:=(Tabs.nil.addF 81 ztB)
theorem zLr:TabsOk Tryd.prog T78:=(TabsOk.nil.addF zK3)
abbrev G78:Ctrs:=csm T78 (λ _ _=>[]) (λ _=>false)
def zD7:Ann:=⟨55,[(0,zK [1,2] [2]),(1,zK [1,2,5] [2]),(2,zK [1,2,5,6] [2]),(3,zK [4] [])],
 [],
 [(2,zK [1,2,5] [2]),(3,zK [1,2,5,6] [2])],
 [],[]⟩
abbrev R78:=Bool
abbrev e78 (r:R78):List PA:=[.one (.bool r)]
@[irreducible] def z78:=ptF Tryd.prog G78 zD7 Tryd.f78
section
variable {K:List PA->Prop}{t:Tie}{nodes:Int}{zmM:Bool}{zrL:Bool}
def zkq (t:Tie) (nodes:Int) (zmM:Bool) (zrL:Bool):Bool :=
  (cond (s81 t.From (0:Int) (w64 (nodes - (1:Int))))
 (cond (s81 t.To (0:Int) (w64 (nodes - (1:Int))))
 (cond (t.From != t.To)
 (cond zmM
 (cond zrL
 (decide (t.Low<=t.High))
 false)
 false)
 false)
 false)
 false)
theorem zvB (hk:K (e78 (zkq t nodes zmM zrL))):z78 K [1,1,1] [] ⟨[(1,zI nodes),(2,zp 2 0),(5,zB zmM),(6,zB zrL)],[(2,.box 40 (zm (enc_40 t)))],[]⟩:=zaZ (by kernel_rfl) (zt hk (λ hk=>(zt hk (λ hk=>(zt hk (λ hk=>(zt hk (λ hk=>(zt hk (λ hk=>hk) (λ hk=>hk))) (λ hk=>hk))) (λ hk=>hk))) (λ hk=>hk))) (λ hk=>hk))
def zkr (t:Tie) (nodes:Int) (zmM:Bool):Bool :=
  (cond (t.High == (1000000000000:Int))
 (zkq t nodes zmM true)
 (zkq t nodes zmM (s81 t.High (-1000000000:Int) (1000000000:Int))))
theorem zvC (hk:K (e78 (zkr t nodes zmM))):z78 K [1,1] [] ⟨[(1,zI nodes),(2,zp 2 0),(5,zB zmM)],[(2,.box 40 (zm (enc_40 t)))],[]⟩:=zaZ (by kernel_rfl) (zt hk (λ hk=>(zvB hk)) (λ hk=>(zvB hk)))
def s78 (t:Tie) (nodes:Int):Bool :=
  (cond (t.Low == (-1000000000000:Int))
 (zkr t nodes true)
 (zkr t nodes (s81 t.Low (-1000000000:Int) (1000000000:Int))))
end
theorem q78 (t:Tie) (nodes:Int) (K:List PA->Prop) (hk:K (e78 (s78 t nodes))):vcFun Tryd.prog G78 zD7 78 [.agg (enc_40 t),.one (.int .i64 nodes)] K :=
  zaZ (by kernel_rfl) (zt hk (λ hk=>(zvC hk)) (λ hk=>(zvC hk)))
def zD8 : List PA → COut
  | [.agg [.int .i64 zdl,.int .i64 zh8,.int .i64 zfh,.int .i64 zdm],.one (.int .i64 a1)]=>.tot [.one (.bool (s78 (⟨zdl,zh8,zfh,zdm⟩:Tie) a1))]
  | _=>.no
theorem zIM:zar Tryd.prog 78:=⟨_,rfl,rfl,by kernel_rfl⟩
theorem zNk:Ok Tryd.prog 78 zD8:=zbu zLr zIM λ args K h=>by
  unfold zD8 at h
  split at h
  · rename_i zdl zh8 zfh zdm a1
    have hk:=h
    exact⟨(λ _ _=>[]),(λ _=>false),zD7,q78 (⟨zdl,zh8,zfh,zdm⟩:Tie) a1 K hk⟩
  · exact h.elim
abbrev T67:Tabs:=((Tabs.nil.addF 78 zD8).addF 81 ztB)
theorem zLs:TabsOk Tryd.prog T67:=((TabsOk.nil.addF zNk).addF zK3)
abbrev G67:Ctrs:=csm T67 (λ _ _=>[]) (λ _=>false)
def zBp:Ann:=⟨27,[(0,zK [1] [1]),(1,zK [1,6,7,8] [1]),(2,zK [1,6,7,8,9] [1]),(3,zK [1,4,6,7,8] [1,4]),(4,zK [1,6,7,8,16] [1]),(5,zK [2] []),(6,zK [1,6,7,8] [1]),(7,zK [2] [])],
 [(2,zK [1,6,7,8] [1])],
 [(5,zK [1,6,7,8,16] [1])],
 [],[]⟩
abbrev R67:=Bool
abbrev e67 (r:R67):List PA:=[.one (.bool r)]
@[irreducible] def z67:=ptF Tryd.prog G67 zBp Tryd.f67
def zCy (n:Net) (zdS:Int):St:=⟨[(1,zp 1 0),(6,zS enc_40 4 n.Ties),(7,zI (n.Ties.len:Int)),(8,zI zdS)],[(1,.box 24 (zm (enc_24 n)))],[]⟩
abbrev zD9 (K:List PA->Prop) (n:Net) (X:St->Prop) (P:Int->Bool) (S:Int->Bool):Prop:=∀ ⦃zdS:Int⦄,P zdS=true->K (e67 (S zdS))->X (zCy n zdS)
section
variable {K:List PA->Prop}{n:Net}{zdS:Int}{X0:St->Prop}{P0:Int->Bool}{S0:Int->Bool}{zEa:Int}{zpw:Bool}
def zpx (S0:Int->Bool) (n:Net) (zEa:Int) (zpw:Bool):Bool :=
  (cond zpw
 false
 (S0 (w64 (zEa+(1:Int)))))
def zpy (P0:Int->Bool) (n:Net) (zEa:Int) (zpw:Bool):Bool :=
  (cond zpw
 true
 (P0 (w64 (zEa+(1:Int)))))
theorem zEb (hX0:zD9 K n X0 P0 S0) (hs:zpy P0 n zEa zpw=true) (hk:K (e67 (zpx S0 n zEa zpw))):z67 K [1,0,1,0,0,1,1,0,0,1,1] [X0] ⟨[(1,zp 1 0),(6,zS enc_40 4 n.Ties),(7,zI (n.Ties.len:Int)),(8,zI zEa),(16,zB zpw)],[(1,.box 24 (zm (enc_24 n)))],[]⟩:=zaZ (by kernel_rfl) (zc hs hk (λ hs hk=>hk) (λ hs hk=>(hX0 hs hk)))
def zh9 (n:Net) (S0:Int->Bool) (zdS:Int):Bool :=
  (cond (decide (zdS < (n.Ties.len : Int)))
 (zpx S0 n zdS (!(s78 (n.Ties.get zdS.toNat) n.Nodes)))
 (cond (s81 n.Nodes (1:Int) (40:Int))
 (decide ((n.Ties.len:Int)<=(200:Int)))
 false))
def zia (n:Net) (P0:Int->Bool) (zdS:Int):Bool :=
  (cond (decide (zdS < (n.Ties.len : Int)))
 (decide ((0<=zdS/\zdS < (n.Ties.len:Int))) &&
 (zpy P0 n zdS (!(s78 (n.Ties.get zdS.toNat) n.Nodes))))
 true)
def zib (n:Net):Nat->Int->Bool:=lpO (λ _=>default) (zh9 n)
def zic (n:Net):Nat->Int->Bool:=lpO (λ _=>false) (zia n)
def zvD (n:Net) (zdS:Int):Bool:=zib n Fuel zdS
def zvE (n:Net) (zdS:Int):Bool:=zic n Fuel zdS
theorem zEc (hs:zvE n zdS=true) (hk:K (e67 (zvD n zdS))):z67 K [1,0,1,0] [] (zCy n zdS) :=
  zl (λ X=>z67 K [1,0,1,0,0] [X]) (by kernel_rfl) λ X0 hX =>
  (show ∀ k, zD9 K n X0 (zic n k) (zib n k) from zfg _ _ (zia n) (zh9 n) (zD9 K n X0)
 (by intro _ hs;exact absurd hs dqk)
 (by intro P0 S0 hX0 zdS hs hk;exact hX _ (zaZ (by kernel_rfl) (zc hs hk (λ hs hk=>(zaT hs λ hc hs=>And.intro hc (zEb hX0 hs hk))) (λ hs hk=>(zt hk (λ hk=>hk) (λ hk=>hk))))))) _ hs hk
def s67 (n:Net):Bool :=
  (zvD n (0:Int))
def p67 (n:Net):Bool :=
  (zvE n (0:Int))
end
theorem q67 (n:Net) (K:List PA->Prop) (hs:p67 n=true) (hk:K (e67 (s67 n))):vcFun Tryd.prog G67 zBp 67 [.agg (enc_24 n)] K :=
  zaZ (by kernel_rfl) (zEc hs hk)
def zpz : List PA → COut
  | [.agg [.int .i64 zae,.sl zad zaz zac]]=>.det (IsE enc_40 4 zaz zac/\p67 (⟨zae,(⟨zad,zam zac⟩:(Sl Tie))⟩:Net)=true) [.one (.bool (s67 (⟨zae,(⟨zad,zam zac⟩:(Sl Tie))⟩:Net)))]
  | [.agg [.int .i64 zae,.nils]]=>.det (p67 (⟨zae,(⟨0,λ _=>default⟩:(Sl Tie))⟩:Net)=true) [.one (.bool (s67 (⟨zae,(⟨0,λ _=>default⟩:(Sl Tie))⟩:Net)))]
  | _=>.no
theorem zIN:zar Tryd.prog 67:=⟨_,rfl,rfl,by kernel_rfl⟩
theorem zIO:Ok Tryd.prog 67 zpz:=zfC zLs zIN λ args K h=>by
  unfold zpz at h
  split at h
  · rename_i zae zad zaz zac
    obtain⟨⟨⟨rfl,zaq,rfl⟩,hs⟩,hk⟩:=h
    try rw[zak zaq] at hs
    try rw[zak zaq] at hk
    exact⟨_,zeI zeJ _,(λ _ _=>[]),(λ _=>false),zBp,q67 (⟨zae,(⟨zad,zaq⟩:(Sl Tie))⟩:Net) (Wk K) hs (zeK hk)⟩
  · rename_i zae
    obtain⟨hs,hk⟩:=h
    exact⟨_,(zeu (.agg (zeu (.rfl _) (zeu (.nil _ _) ziR))) ziR),(λ _ _=>[]),(λ _=>false),zBp,q67 (⟨zae,(⟨0,λ _=>default⟩:(Sl Tie))⟩:Net) (Wk K) hs (zeK hk)⟩
  · exact h.elim
abbrev T93:Tabs:=Tabs.nil
theorem zLt:TabsOk Tryd.prog T93:=TabsOk.nil
abbrev G93:Ctrs:=csm T93 (λ _ _=>[]) (λ _=>false)
def zEd:Ann:=⟨4,[(0,zK [1] [1]),(1,zK [2] [])],
 [],
 [],
 [],[]⟩
theorem zEe (w : web) (K : List PA → Prop) :
  vcFun Tryd.prog G93 zEd 93 [.one (.fp (zaD w) 0)] K =
  (K [.one (.fn 110 [] [.fp [.fp (zaD w) 0] 0])]):=by kernel_rfl
theorem q93 (w:web) (K:List PA->Prop) (hk:K [.one (.fn 110 [] [.fp [.fp (zaD w) 0] 0])]):vcFun Tryd.prog G93 zEd 93 [.one (.fp (zaD w) 0)] K:=zaZ (zEe w K) hk
def zoh : List PA → COut
  | [.one (.fp [.int .i64 zal,.sl zai zaC zaj,.fm zbd zaI zaJ] 0)]=>.det (IsE enc_40 4 zaC zaj/\zbd=(false,1,false,[none])) [.one (.fn 110 [] [.fp [.fp (zaD (⟨(⟨(⟨zal,(⟨zai,zam zaj⟩:(Sl Tie))⟩:Net),(⟨zaI,zaJ⟩:Mp)⟩:web).Net,((⟨(⟨zal,(⟨zai,zam zaj⟩:(Sl Tie))⟩:Net),(⟨zaI,zaJ⟩:Mp)⟩:web).out)⟩:web)) 0] 0])]
  | _=>.no
theorem zIP:zar Tryd.prog 93:=⟨_,rfl,rfl,by kernel_rfl⟩
theorem zHS:Ok Tryd.prog 93 zoh:=zbu zLt zIP λ args K h=>by
  unfold zoh at h
  split at h
  · rename_i zal zai zaC zaj zbd zaI zaJ
    obtain⟨⟨⟨rfl,zat,rfl⟩,rfl⟩,hk⟩:=h
    try rw[zak zat] at hk
    exact⟨λ _ _=>[],λ _=>false,zEd,q93 (⟨(⟨zal,(⟨zai,zat⟩:(Sl Tie))⟩:Net),(⟨zaI,zaJ⟩:Mp)⟩:web) K hk⟩
  · exact h.elim
abbrev T94:Tabs:=Tabs.nil
theorem zLu:TabsOk Tryd.prog T94:=TabsOk.nil
abbrev G94:Ctrs:=csm T94 (λ _ _=>[]) (λ _=>false)
def zIQ:Ann:=⟨21,[(0,zK [1,2] [1,2]),(1,zK [2,3] [2])],
 [],
 [],
 [],[]⟩
abbrev R94:=(step×Bool)
abbrev e94 (r:R94):List PA:=[.agg [.int .i64 r.1.Use.Tie,.bool r.1.Use.Back,.int .i64 r.1.from_,.int .i64 r.1.to,.int .i64 r.1.length],.one (.bool r.2)]
section
variable {K:List PA->Prop}{t:tie}
def s94 (t:tie):(step×Bool) :=
  ((⟨(⟨t.index,false⟩:Use),t.Tie.From,t.Tie.To,t.Tie.High⟩:step),(t.Tie.High != (1000000000000:Int)))
end
theorem q94 (t:tie) (K:List PA->Prop) (hk:K (e94 (s94 t))):vcFun Tryd.prog G94 zIQ 94 [.agg (zvz t)] K :=
  zaZ (by kernel_rfl) hk
def zEf : List PA → COut
  | [.agg [.int .i64 zbh,.int .i64 zbJ,.int .i64 zbv,.int .i64 zbi,.int .i64 zbX]]=>.tot [.agg [.int .i64 (((s94 (⟨(⟨zbh,zbJ,zbv,zbi⟩:Tie),zbX⟩:tie)).1).Use.Tie),.bool (((s94 (⟨(⟨zbh,zbJ,zbv,zbi⟩:Tie),zbX⟩:tie)).1).Use.Back),.int .i64 (((s94 (⟨(⟨zbh,zbJ,zbv,zbi⟩:Tie),zbX⟩:tie)).1).from_),.int .i64 (((s94 (⟨(⟨zbh,zbJ,zbv,zbi⟩:Tie),zbX⟩:tie)).1).to),.int .i64 (((s94 (⟨(⟨zbh,zbJ,zbv,zbi⟩:Tie),zbX⟩:tie)).1).length)],.one (.bool ((s94 (⟨(⟨zbh,zbJ,zbv,zbi⟩:Tie),zbX⟩:tie)).2))]
  | _=>.no
theorem zIR:zar Tryd.prog 94:=⟨_,rfl,rfl,by kernel_rfl⟩
theorem zNl:Ok Tryd.prog 94 zEf:=zbu zLu zIR λ args K h=>by
  unfold zEf at h
  split at h
  · rename_i zbh zbJ zbv zbi zbX
    have hk:=h
    exact⟨(λ _ _=>[]),(λ _=>false),zIQ,q94 (⟨(⟨zbh,zbJ,zbv,zbi⟩:Tie),zbX⟩:tie) K hk⟩
  · exact h.elim
abbrev T95:Tabs:=Tabs.nil
theorem zLv:TabsOk Tryd.prog T95:=TabsOk.nil
abbrev G95:Ctrs:=csm T95 (λ _ _=>[]) (λ _=>false)
def zIS:Ann:=⟨22,[(0,zK [1,2] [1,2]),(1,zK [2,3] [2])],
 [],
 [],
 [],[]⟩
abbrev R95:=(step×Bool)
abbrev e95 (r:R95):List PA:=[.agg [.int .i64 r.1.Use.Tie,.bool r.1.Use.Back,.int .i64 r.1.from_,.int .i64 r.1.to,.int .i64 r.1.length],.one (.bool r.2)]
section
variable {K:List PA->Prop}{t:tie}
def s95 (t:tie):(step×Bool) :=
  ((⟨(⟨t.index,true⟩:Use),t.Tie.To,t.Tie.From,(w64 (0 - t.Tie.Low))⟩:step),(t.Tie.Low != (-1000000000000:Int)))
end
theorem q95 (t:tie) (K:List PA->Prop) (hk:K (e95 (s95 t))):vcFun Tryd.prog G95 zIS 95 [.agg (zvz t)] K :=
  zaZ (by kernel_rfl) hk
def zEg : List PA → COut
  | [.agg [.int .i64 zbh,.int .i64 zbJ,.int .i64 zbv,.int .i64 zbi,.int .i64 zbX]]=>.tot [.agg [.int .i64 (((s95 (⟨(⟨zbh,zbJ,zbv,zbi⟩:Tie),zbX⟩:tie)).1).Use.Tie),.bool (((s95 (⟨(⟨zbh,zbJ,zbv,zbi⟩:Tie),zbX⟩:tie)).1).Use.Back),.int .i64 (((s95 (⟨(⟨zbh,zbJ,zbv,zbi⟩:Tie),zbX⟩:tie)).1).from_),.int .i64 (((s95 (⟨(⟨zbh,zbJ,zbv,zbi⟩:Tie),zbX⟩:tie)).1).to),.int .i64 (((s95 (⟨(⟨zbh,zbJ,zbv,zbi⟩:Tie),zbX⟩:tie)).1).length)],.one (.bool ((s95 (⟨(⟨zbh,zbJ,zbv,zbi⟩:Tie),zbX⟩:tie)).2))]
  | _=>.no
theorem zIT:zar Tryd.prog 95:=⟨_,rfl,rfl,by kernel_rfl⟩
theorem zNm:Ok Tryd.prog 95 zEg:=zbu zLv zIT λ args K h=>by
  unfold zEg at h
  split at h
  · rename_i zbh zbJ zbv zbi zbX
    have hk:=h
    exact⟨(λ _ _=>[]),(λ _=>false),zIS,q95 (⟨(⟨zbh,zbJ,zbv,zbi⟩:Tie),zbX⟩:tie) K hk⟩
  · exact h.elim
abbrev zMU:Tabs:=((Tabs.nil.addF 94 zEf).addF 95 zEg)
theorem zIU:TabsOk Tryd.prog zMU:=((TabsOk.nil.addF zNl).addF zNm)
abbrev zIV:Ctrs:=csm zMU (λ _ _=>[]) (λ _=>false)
def ziT:Ann:=⟨52,[(0,zK [0,1,14,15,16] []),(1,zK [0,1,14,15,16,17] []),(2,zK [0,1,3,4,14,15,16] [4]),(3,zK [0,1,3,4,14,15,16,26] [4]),(4,zK [0,1,5,14,15,16] [5]),(5,zK [0,1,14,15,16,34,35] []),(6,zK [0,1,14,15,16,34,35,36] []),(7,zK [0,1,7,14,15,16,34,35] []),(8,zK [0,1,8,9,14,15,16,34,35] [8]),(9,zK [0,1,14,15,16,34,35,49] []),(10,zK [0,1,14,15,16,34,35] []),(11,zK [0,1,14,15,16] [])],
 [(1,zK [0,1,14,15,16] [])],
 [],
 [(6,3,zK [0,1,14,15,16,34,35] [])],[9]⟩
def zek (l:Nat) (a:web) (zaL:Int):St:=⟨[(0,.one (.c (.p (.yl l)))),(1,.one (.c (.p (.fp [.fp (zaD a) 0] 0)))),(14,.one (.c (.p (.sl a.Net.Ties.len 4 (λ i=>enc_40 (a.Net.Ties.get i)))))),(15,.one (.c (.p (.int .i64 (a.Net.Ties.len:Int))))),(16,.one (.c (.p (.int .i64 zaL))))],[],[]⟩
def zhF (l:Nat) (ys:List (List PA)) (a:web) (zaL:Int):Prop:=vcY Tryd.prog zIV ziT l (cdF Tryd.f110 [1,0]) (znw 0 zAC) ys false (zek l a zaL)
theorem zBq (l : Nat) (a : web) (ys : List (List PA)) :
  vcIter Tryd.prog zIV ziT 110 l [.one (.fp [.fp (zaD a) 0] 0)] ys =
  (zhF l ys a (0:Int)):=by kernel_rfl
def zlR (l:Nat) (X0:List (List PA)->Bool->St->Prop) (ys:List (List PA)) (a:web) (zaL:Int):Prop :=
  (zc1 (decide (zaL < (a.Net.Ties.len : Int)))
 (((0<=zaL/\zaL < (a.Net.Ties.len:Int))) /\
 (zc1 ((zdU (a.out.F [zaL]) 0) != 0)
 (X0 ys false (zek l a (w64 (zaL+(1:Int)))))
 (zc1 ((s94 (⟨(a.Net.Ties.get zaL.toNat), zaL⟩ : tie)).2)
 (l=l/\∃ r1,ys=[.agg [.int .i64 (((s94 (⟨(a.Net.Ties.get zaL.toNat),zaL⟩:tie)).1).Use.Tie),.bool (((s94 (⟨(a.Net.Ties.get zaL.toNat),zaL⟩:tie)).1).Use.Back),.int .i64 (((s94 (⟨(a.Net.Ties.get zaL.toNat),zaL⟩:tie)).1).from_),.int .i64 (((s94 (⟨(a.Net.Ties.get zaL.toNat),zaL⟩:tie)).1).to),.int .i64 (((s94 (⟨(a.Net.Ties.get zaL.toNat),zaL⟩:tie)).1).length)]] :: r1 /\
 (zc1 ((s95 (⟨(a.Net.Ties.get zaL.toNat), zaL⟩ : tie)).2)
 (l=l/\∃ r2,r1=[.agg [.int .i64 (((s95 (⟨(a.Net.Ties.get zaL.toNat),zaL⟩:tie)).1).Use.Tie),.bool (((s95 (⟨(a.Net.Ties.get zaL.toNat),zaL⟩:tie)).1).Use.Back),.int .i64 (((s95 (⟨(a.Net.Ties.get zaL.toNat),zaL⟩:tie)).1).from_),.int .i64 (((s95 (⟨(a.Net.Ties.get zaL.toNat),zaL⟩:tie)).1).to),.int .i64 (((s95 (⟨(a.Net.Ties.get zaL.toNat),zaL⟩:tie)).1).length)]] :: r2 /\
 (X0 r2 false (zek l a (w64 (zaL+(1:Int)))))/\True)
 (X0 r1 false (zek l a (w64 (zaL+(1:Int))))))/\True)
 (zc1 ((s95 (⟨(a.Net.Ties.get zaL.toNat), zaL⟩ : tie)).2)
 (l=l/\∃ r3,ys=[.agg [.int .i64 (((s95 (⟨(a.Net.Ties.get zaL.toNat),zaL⟩:tie)).1).Use.Tie),.bool (((s95 (⟨(a.Net.Ties.get zaL.toNat),zaL⟩:tie)).1).Use.Back),.int .i64 (((s95 (⟨(a.Net.Ties.get zaL.toNat),zaL⟩:tie)).1).from_),.int .i64 (((s95 (⟨(a.Net.Ties.get zaL.toNat),zaL⟩:tie)).1).to),.int .i64 (((s95 (⟨(a.Net.Ties.get zaL.toNat),zaL⟩:tie)).1).length)]] :: r3 /\
 (X0 r3 false (zek l a (w64 (zaL+(1:Int)))))/\True)
 (X0 ys false (zek l a (w64 (zaL+(1:Int)))))))))
 (ys=[]))
theorem zoi (l : Nat) (X0 : List (List PA) → Bool → St → Prop) (ys : List (List PA)) (a : web) (zaL : Int) :
  vcY Tryd.prog zIV ziT l (cd (cdF Tryd.f110 [1,0]) [0]) (zAA Tryd.prog ziT 1 X0 (znw 0 zAC)) ys false (zek l a zaL) =
  zlR l X0 ys a zaL:=by kernel_rfl
theorem ztC (l : Nat) (ys : List (List PA)) (a : web) (zaL : Int)
  (h:∀ X0:List (List PA)->Bool->St->Prop,(∀ (ys:List (List PA)) (zaL:Int),zlR l X0 ys a zaL->X0 ys false (zek l a zaL))->X0 ys false (zek l a zaL)) :
  zhF l ys a zaL:=by
  have e:zhF l ys a zaL=(∀ X:List (List PA)->Bool->St->Prop,(∀ ys q s,vcY Tryd.prog zIV ziT l (cd (cdF Tryd.f110 [1,0]) [0]) (zAA Tryd.prog ziT 1 X (znw 0 zAC)) ys q s->X ys q s)->X ys false (zek l a zaL)):=by kernel_rfl
  refine zaZ e ?_
  intro X hX
  refine h X ?_
  intro ys zaL hs
  refine hX _ _ _ ?_
  have e2:=zoi l X ys a zaL
  rw[e2]
  exact hs
attribute [irreducible] zhF
def zfE (a:web) (S0:Int->List step) (zaL:Int):List step :=
  (cond (decide (zaL < (a.Net.Ties.len : Int)))
 (cond ((zdU (a.out.F [zaL]) 0) != 0)
 (S0 (w64 (zaL+(1:Int))))
 (cond ((s94 (⟨(a.Net.Ties.get zaL.toNat), zaL⟩ : tie)).2)
 (((s94 (⟨(a.Net.Ties.get zaL.toNat), zaL⟩ : tie)).1) :: (cond ((s95 (⟨(a.Net.Ties.get zaL.toNat), zaL⟩ : tie)).2)
 (((s95 (⟨(a.Net.Ties.get zaL.toNat),zaL⟩:tie)).1) :: (S0 (w64 (zaL+(1:Int)))))
 (S0 (w64 (zaL+(1:Int))))))
 (cond ((s95 (⟨(a.Net.Ties.get zaL.toNat), zaL⟩ : tie)).2)
 (((s95 (⟨(a.Net.Ties.get zaL.toNat),zaL⟩:tie)).1) :: (S0 (w64 (zaL+(1:Int)))))
 (S0 (w64 (zaL+(1:Int)))))))
 [])
def zfF (a:web) (P0:Int->Bool) (zaL:Int):Bool :=
  (cond (decide (zaL < (a.Net.Ties.len : Int)))
 (decide ((0<=zaL/\zaL < (a.Net.Ties.len:Int))) &&
 (cond ((zdU (a.out.F [zaL]) 0) != 0)
 (P0 (w64 (zaL+(1:Int))))
 (cond ((s94 (⟨(a.Net.Ties.get zaL.toNat), zaL⟩ : tie)).2)
 (cond ((s95 (⟨(a.Net.Ties.get zaL.toNat), zaL⟩ : tie)).2)
 (P0 (w64 (zaL+(1:Int))))
 (P0 (w64 (zaL+(1:Int)))))
 (cond ((s95 (⟨(a.Net.Ties.get zaL.toNat), zaL⟩ : tie)).2)
 (P0 (w64 (zaL+(1:Int))))
 (P0 (w64 (zaL+(1:Int))))))))
 true)
def zeM (a : web) : Nat → Int → List step
  | 0=>λ _=>[]
  | k+1=>zfE a (zeM a k)
def zeN (a : web) : Nat → Int → Bool
  | 0=>λ _=>false
  | k+1=>zfF a (zeN a k)
def zrM (a:web) (zaL:Int):List step:=zeM a Fuel zaL
def zrN (a:web) (zaL:Int):Bool:=zeN a Fuel zaL
theorem zBr (l:Nat) (a:web) (ys:List (List PA)) (zaL:Int) (hs:zrN a zaL=true) (hk:ys=(zrM a zaL).map (λ y=>[.agg (zaF y)])):zhF l ys a zaL:=by
  refine ztC l ys a zaL ?_
  intro X0 hstep
  have key:∀ (k:Nat) (ys:List (List PA)) (zaL:Int),zeN a k zaL=true->ys=(zeM a k zaL).map (λ y=>[.agg (zaF y)])->X0 ys false (zek l a zaL):=by
    intro k
    induction k with
    | zero=>intro ys zaL hs;exact absurd hs dqk
    | succ k ih =>
      intro ys zaL hs hk
      refine hstep ys zaL ?_
      have hs:zfF a (zeN a k) zaL=true:=hs
      have hk:ys=(zfE a (zeM a k) zaL).map (λ y=>[.agg (zaF y)]):=hk
      unfold zfF at hs
      unfold zfE at hk
      generalize zeM a k=S0 at hk ih
      generalize zeN a k=P0 at hs ih
      have hX0:=ih
      exact (zhC hs hk
 (λ hs hk => (zaT hs λ hc hs => ⟨hc, (zhC hs hk
 (λ hs hk=>(hX0 _ (w64 (zaL+(1:Int))) hs hk))
 (λ hs hk => (zhC hs hk
 (λ hs hk => (itY hk rfl (λ _ hk => (zhC hs hk
 (λ hs hk=>(itY hk rfl (λ _ hk=>(hX0 _ (w64 (zaL+(1:Int))) hs hk))))
 (λ hs hk=>(hX0 _ (w64 (zaL+(1:Int))) hs hk))))))
 (λ hs hk => (zhC hs hk
 (λ hs hk=>(itY hk rfl (λ _ hk=>(hX0 _ (w64 (zaL+(1:Int))) hs hk))))
 (λ hs hk=>(hX0 _ (w64 (zaL+(1:Int))) hs hk)))))))⟩))
 (fun hs hk=>hk))
  exact key _ _ zaL hs hk
def zks (a:web):List step :=
  (zrM a (0:Int))
def ztP (a:web):Bool :=
  (zrN a (0:Int))
theorem zNn (l:Nat) (a:web) (ys:List (List PA)) (hs:ztP a=true) (hk:ys=(zks a).map (λ y=>[.agg (zaF y)])):vcIter Tryd.prog zIV ziT 110 l [.one (.fp [.fp (zaD a) 0] 0)] ys:=by
  refine zaZ (zBq l a ys) ?_
  unfold ztP at hs
  unfold zks at hk
  exact (zBr l a _ (0:Int) hs hk)
def zoj : List PA → Option (Prop × List (List PA))
  | [.one (.fp [.fp [.int .i64 a_Net_Nodes,.sl a_Net_Ties_n a_Net_Ties_s a_Net_Ties_g,.fm a_out_q a_out_n a_out_F] 0] 0)]=>some (IsE enc_40 4 a_Net_Ties_s a_Net_Ties_g/\a_out_q=(false,1,false,[none])/\ztP (⟨(⟨a_Net_Nodes,(⟨a_Net_Ties_n,zam a_Net_Ties_g⟩:(Sl Tie))⟩:Net),(⟨a_out_n,a_out_F⟩:Mp)⟩:web)=true,(zks (⟨(⟨a_Net_Nodes,(⟨a_Net_Ties_n,zam a_Net_Ties_g⟩:(Sl Tie))⟩:Net),(⟨a_out_n,a_out_F⟩:Mp)⟩:web)).map λ y=>[.agg (zaF y)])
  | _=>none
theorem zEh:zar Tryd.prog 110:=⟨_,rfl,rfl,by kernel_rfl⟩
theorem ztD:zCg Tryd.prog 110 zoj:=zIy zIU zEh λ l caps safe ys h hs=>by
  unfold zoj at h
  split at h
  · rename_i a_Net_Nodes a_Net_Ties_n a_Net_Ties_s a_Net_Ties_g a_out_q a_out_n a_out_F
    cases h
    obtain⟨⟨rfl,a_Net_Ties_f,rfl⟩,rfl,hs⟩:=hs
    try rw[zak a_Net_Ties_f] at hs
    try rw[zak a_Net_Ties_f]
    exact⟨λ _ _=>[],λ _=>false,ziT,zNn l (⟨(⟨a_Net_Nodes,(⟨a_Net_Ties_n,a_Net_Ties_f⟩:(Sl Tie))⟩:Net),(⟨a_out_n,a_out_F⟩:Mp)⟩:web) _ hs rfl⟩
  · cases h
abbrev T88:Tabs:=((Tabs.nil.addF 93 zoh).addI 110 zoj)
theorem zLw:TabsOk Tryd.prog T88:=((TabsOk.nil.addF zHS).addI ztD)
abbrev G88:Ctrs:=csm T88 (λ _ _=>[]) (λ _=>false)
def zvF:Ann:=⟨37,[(0,zK [0] []),(1,zK [0,3] [3]),(2,zK [0,3,11,12] [3]),(3,zK [0,3,11,12,13] [3]),(4,zK [0,3,4,11,12] [3,4]),(5,zK [0,3,4,11,12,15] [3,4]),(6,zK [0,3,4,5,11,12,15] [3,4,5]),(7,zK [0,3,4,5,6,11,12,15] [3,4,5]),(8,zK [0,3,4,5,6,11,12,15,29] [3,4,5]),(9,zK [0,3,4,11,12,15] [3,4]),(10,zK [0,3,4,11,12,15] [3,4]),(11,zK [0,3,11,12,35] [3]),(12,zK [2] []),(13,zK [0,3,11,12] [3]),(14,zK [2] [])],
 [(3,zK [0,3,11,12] [3]),(6,zK [0,3,4,11,12,15] [3,4])],
 [],
 [],[]⟩
abbrev R88:=Bool
abbrev e88 (r:R88):List PA:=[.one (.bool r)]
@[irreducible] def z88:=ptF Tryd.prog G88 zvF Tryd.f88
@[irreducible] def x88:=exF Tryd.prog G88 zvF Tryd.f88
@[irreducible] def y88:=rnF Tryd.prog G88 zvF Tryd.f88
def zCz (w:web) (zb8:Int) (dt0:Tab):St:=⟨[(0,zP (.fp (zaD w) 0)),(3,zp 3 0),(11,zI w.Net.Nodes),(12,zI zb8)],[(3,.box 157 (zm (zvA dt0)))],[]⟩
abbrev zEi (K:List PA->Prop) (w:web) (X:St->Prop) (P:Int->Tab->Bool) (S:Int->Tab->Bool):Prop:=∀ ⦃zb8:Int⦄ ⦃dt0:Tab⦄,P zb8 dt0=true->K (e88 (S zb8 dt0))->X (zCz w zb8 dt0)
def zvG (w:web) (zb9:Int) (zbe:Bool) (dt1:Tab):St:=⟨[(0,zP (.fp (zaD w) 0)),(3,zp 3 0),(4,zp 4 0),(11,zI w.Net.Nodes),(12,zI zb9),(15,zP (.fn 110 [] [.fp [.fp (zaD w) 0] 0]))],[(3,.box 157 (zm (zvA dt1))),(4,.box 4 [.p (.bool zbe)])],[]⟩
abbrev zIW (K:List PA->Prop) (w:web) (X:St->Prop) (P:Int->Bool->Tab->Bool) (S:Int->Bool->Tab->Bool):Prop:=∀ ⦃zb9:Int⦄ ⦃zbe:Bool⦄ ⦃dt1:Tab⦄,P zb9 zbe dt1=true->K (e88 (S zb9 zbe dt1))->X (zvG w zb9 zbe dt1)
section
variable {K:List PA->Prop}{w:web}{zb8:Int}{dt0:Tab}{X0:St->Prop}{P0:Int->Tab->Bool}{S0:Int->Tab->Bool}{zb9:Int}{zbe:Bool}{dt1:Tab}
def zEj (S0:Int->Tab->Bool) (w:web) (zb9:Int) (zbe:Bool) (dt1:Tab):Bool :=
  (cond (!zbe)
 false
 (S0 (w64 (zb9+(1:Int))) dt1))
def zEk (P0:Int->Tab->Bool) (w:web) (zb9:Int) (zbe:Bool) (dt1:Tab):Bool :=
  (cond (!zbe)
 true
 (P0 (w64 (zb9+(1:Int))) dt1))
def zvH (S0:Int->Tab->Bool) (w:web) (y1:step) (S1:Int->Bool->Tab->Bool) (zb9:Int) (zbe:Bool) (dt1:Tab):Bool :=
  (cond (decide ((w64 ((tg 40 dt1 (0 + y1.from_.toNat * 1 + 0)) + y1.length)) < (tg 40 dt1 (0 + y1.to.toNat * 1 + 0))))
 (S1 zb9 true (ts 40 dt1 (0+y1.to.toNat * 1+0) [(w64 ((tg 40 dt1 (0+y1.from_.toNat * 1+0))+y1.length))]))
 (S1 zb9 zbe dt1))
def zvI (P0:Int->Tab->Bool) (w:web) (y1:step) (P1:Int->Bool->Tab->Bool) (zb9:Int) (zbe:Bool) (dt1:Tab):Bool :=
  (decide ((0<=y1.from_/\y1.from_ < (40:Int))) &&
 (decide ((0<=y1.to/\y1.to < (40:Int))) &&
 (cond (decide ((w64 ((tg 40 dt1 (0 + y1.from_.toNat * 1 + 0)) + y1.length)) < (tg 40 dt1 (0 + y1.to.toNat * 1 + 0))))
 (decide ((0<=y1.to/\y1.to < (40:Int))) &&
 (P1 zb9 true (ts 40 dt1 (0+y1.to.toNat * 1+0) [(w64 ((tg 40 dt1 (0+y1.from_.toNat * 1+0))+y1.length))])))
 (P1 zb9 zbe dt1))))
def zvJ (S0:Int->Tab->Bool) (w:web):List step->Int->Bool->Tab->Bool:=lpR (zEj S0 w) (zvH S0 w)
def zvK (P0:Int->Tab->Bool) (w:web):List step->Int->Bool->Tab->Bool:=lpR (zEk P0 w) (zvI P0 w)
def zvL (S0:Int->Tab->Bool) (w:web) (zb9:Int) (zbe:Bool) (dt1:Tab):Bool:=zvJ S0 w (zks w) zb9 zbe dt1
def zvM (P0:Int->Tab->Bool) (w:web) (zb9:Int) (zbe:Bool) (dt1:Tab):Bool:=decide ((ztP w=true)) && zvK P0 w (zks w) zb9 zbe dt1
theorem zEl (hX0:zEi K w X0 P0 S0) (hs:zvM P0 w zb9 zbe dt1=true) (hk:K (e88 (zvL S0 w zb9 zbe dt1))):z88 K [1,1,0,1,0,0,1,1,0,0,1,0,1,0] [X0] (zvG w zb9 zbe dt1) :=
  zaT hs λ hc hs=>zr (enc:=(λ y:step=>[.agg (zaF y)])) (ys:=zks w) (g:=(zvG w zb9 zbe dt1)) (x88 K [1,1,0,1,0,0,1,1,0,0,1,0,1,0] [X0]) (y88 K [1,1,0,1,0,0,1,1,0,0,1,0,1,0] [X0]) (by kernel_rfl) (And.intro (zE enc_40 4 w.Net.Ties.get) (And.intro (rfl:((false,1,false,[none]):MQ)=(false,1,false,[none])) hc)) λ X1 hE hR =>
  (show ∀ l : List step, zIW K w (X1 (l.map (λ y : step => [.agg (zaF y)]))) (zvK P0 w l) (zvJ S0 w l) from zri (X := X1) (enc := (λ y : step => [.agg (zaF y)])) _ _ (zvI P0 w) (zvH S0 w) (λ Z P S => zIW K w Z P S)
 (by intro zb9 zbe dt1 hs hk;exact hE _ (zaZ (by kernel_rfl) (zc hs hk (λ hs hk=>hk) (λ hs hk=>(hX0 hs hk)))))
 (by intro y1 rest P1 S1 hX1 zb9 zbe dt1 hs hk;exact hR _ rest _ (zaZ (by kernel_rfl) (zaT hs λ hc hs=>And.intro hc (zaT hs λ hc hs=>And.intro hc (zc hs hk (λ hs hk=>(zaT hs λ hc hs=>And.intro hc (hX1 hs hk))) (λ hs hk=>(hX1 hs hk)))))))) _ hs hk
def zvN (w:web) (S0:Int->Tab->Bool) (zb8:Int) (dt0:Tab):Bool :=
  (cond (decide (zb8 < w.Net.Nodes))
 (zvL S0 w zb8 false dt0)
 true)
def zvO (w:web) (P0:Int->Tab->Bool) (zb8:Int) (dt0:Tab):Bool :=
  (cond (decide (zb8 < w.Net.Nodes))
 (zvM P0 w zb8 false dt0)
 true)
def zvP (w:web):Nat->Int->Tab->Bool:=lpO (λ _ _=>default) (zvN w)
def zvQ (w:web):Nat->Int->Tab->Bool:=lpO (λ _ _=>false) (zvO w)
def zvR (w:web) (zb8:Int) (dt0:Tab):Bool:=zvP w Fuel zb8 dt0
def zvS (w:web) (zb8:Int) (dt0:Tab):Bool:=zvQ w Fuel zb8 dt0
theorem zEm (hs:zvS w zb8 dt0=true) (hk:K (e88 (zvR w zb8 dt0))):z88 K [1,1,0,1,0] [] (zCz w zb8 dt0) :=
  zl (λ X=>z88 K [1,1,0,1,0,0] [X]) (by kernel_rfl) λ X0 hX =>
  (show ∀ k, zEi K w X0 (zvQ w k) (zvP w k) from zfg _ _ (zvO w) (zvN w) (zEi K w X0)
 (by intro _ _ hs;exact absurd hs dqk)
 (by intro P0 S0 hX0 zb8 dt0 hs hk;exact hX _ (zaZ (by kernel_rfl) (zc hs hk (λ hs hk=>(And.intro (And.intro (zE enc_40 4 w.Net.Ties.get) (rfl:((false,1,false,[none]):MQ)=(false,1,false,[none]))) (zEl hX0 hs hk))) (λ hs hk=>hk))))) _ hs hk
def s88 (w:web):Bool :=
  (zvR w (0:Int) (λ _=>(0:Int)))
def p88 (w:web):Bool :=
  (zvS w (0:Int) (λ _=>(0:Int)))
end
theorem q88 (w:web) (K:List PA->Prop) (hs:p88 w=true) (hk:K (e88 (s88 w))):vcFun Tryd.prog G88 zvF 88 [.one (.fp (zaD w) 0)] K :=
  zaZ (by kernel_rfl) (zEm hs hk)
def zvT : List PA → COut
  | [.one (.fp [.int .i64 zal,.sl zai zaC zaj,.fm zbd zaI zaJ] 0)]=>.det (IsE enc_40 4 zaC zaj/\zbd=(false,1,false,[none])/\p88 (⟨(⟨zal,(⟨zai,zam zaj⟩:(Sl Tie))⟩:Net),(⟨zaI,zaJ⟩:Mp)⟩:web)=true) [.one (.bool (s88 (⟨(⟨zal,(⟨zai,zam zaj⟩:(Sl Tie))⟩:Net),(⟨zaI,zaJ⟩:Mp)⟩:web)))]
  | _=>.no
theorem zIX:zar Tryd.prog 88:=⟨_,rfl,rfl,by kernel_rfl⟩
theorem zLx:Ok Tryd.prog 88 zvT:=zbu zLw zIX λ args K h=>by
  unfold zvT at h
  split at h
  · rename_i zal zai zaC zaj zbd zaI zaJ
    obtain⟨⟨⟨rfl,zat,rfl⟩,rfl,hs⟩,hk⟩:=h
    try rw[zak zat] at hs
    try rw[zak zat] at hk
    exact⟨(λ _ _=>[]),(λ _=>false),zvF,q88 (⟨(⟨zal,(⟨zai,zat⟩:(Sl Tie))⟩:Net),(⟨zaI,zaJ⟩:Mp)⟩:web) K hs hk⟩
  · exact h.elim
abbrev zMV:Tabs:=Tabs.nil
theorem zIY:TabsOk Tryd.prog zMV:=TabsOk.nil
abbrev zNo:Ctrs:=csm zMV (λ _ _=>[]) (λ _=>false)
def zCA:Ann:=⟨24,[(0,zK [2,3] [2,3]),(1,zK [4] [])],
 [],
 [],
 [],[]⟩
abbrev zNp:=Bool
abbrev zNq (r:zNp):List PA:=[.one (.bool r)]
section
variable {K:List PA->Prop}{a:far}{b:far}
def zK4 (a:far) (b:far):Bool :=
  (cond (decide (a.length < b.length))
 true
 (cond (a.length == b.length)
 (decide (a.uses < b.uses))
 false))
end
theorem zNr (a:far) (b:far) (K:List PA->Prop) (hk:K (zNq (zK4 a b))):vcFun Tryd.prog zNo zCA 105 [.agg (zck a),.agg (zck b)] K :=
  zaZ (by kernel_rfl) (zt hk (λ hk=>hk) (λ hk=>(zt hk (λ hk=>hk) (λ hk=>hk))))
def zvU : List PA → COut
  | [.agg [.int .i64 zco,.int .i64 zpA],.agg [.int .i64 zbY,.int .i64 zfG]]=>.tot [.one (.bool (zK4 (⟨zco,zpA⟩:far) (⟨zbY,zfG⟩:far)))]
  | _=>.no
theorem zEn:zar Tryd.prog 105:=⟨_,rfl,rfl,by kernel_rfl⟩
theorem zLy:Ok Tryd.prog 105 zvU:=zbu zIY zEn λ args K h=>by
  unfold zvU at h
  split at h
  · rename_i zco zpA zbY zfG
    have hk:=h
    exact⟨(λ _ _=>[]),(λ _=>false),zCA,zNr (⟨zco,zpA⟩:far) (⟨zbY,zfG⟩:far) K hk⟩
  · exact h.elim
abbrev zMW:Tabs:=(Tabs.nil.addF 105 zvU)
theorem zIZ:TabsOk Tryd.prog zMW:=(TabsOk.nil.addF zLy)
abbrev zMX:Ctrs:=csm zMW (λ _ _=>[]) (λ _=>false)
def zvV:Ann:=⟨22,[(0,zK [0,2,4,6] [4,6]),(1,zK [0,4,6,9,10,11] [4,6]),(2,zK [0,4,6,9,10,11,12] [4,6]),(3,zK [0,4,6,8,9,10,11] [4,6,8]),(4,zK [0,4,6,8,9,10,11,18] [4,6,8]),(5,zK [0,4,6,9,10,11] [4,6]),(6,zK [0,4,6,9,10,11] [4,6]),(7,zK [6] [6])],
 [(2,zK [0,4,6,9,10,11] [4,6])],
 [(5,zK [0,4,6,8,9,10,11,18] [4,6,8])],
 [],[]⟩
abbrev zNs:=far
abbrev zK5 (r:zNs):List PA:=[.agg [.int .i64 r.length,.int .i64 r.uses]]
@[irreducible] def z104:=ptF Tryd.prog zMX zvV Tryd.f104
def zvW (others:(Sl far)) (zaY:Int) (zbl:Int) (zbm:Int):St:=⟨[(0,zP (.fn 105 [] [])),(4,zp 4 0),(6,zp 6 0),(9,zS zck 2 others),(10,zI (others.len:Int)),(11,zI zaY)],[(4,.box 114 (zm (zck (⟨zbl,zbm⟩:far)))),(6,.box 114 (zm (zck (⟨(0:Int),(0:Int)⟩:far))))],[]⟩
abbrev zvX (K:List PA->Prop) (others:(Sl far)) (X:St->Prop) (P:Int->Int->Int->Bool) (S:Int->Int->Int->far):Prop:=∀ ⦃zaY:Int⦄ ⦃zbl:Int⦄ ⦃zbm:Int⦄,P zaY zbl zbm=true->K (zK5 (S zaY zbl zbm))->X (zvW others zaY zbl zbm)
section
variable {K:List PA->Prop}{first:far}{others:(Sl far)}{zaY:Int}{zbl:Int}{zbm:Int}{X0:St->Prop}{P0:Int->Int->Int->Bool}{S0:Int->Int->Int->far}{zcL:Int}{zde:Bool}{zel:Int}{zem:Int}{zpB:Int}{zpC:Int}
def zrO (S0:Int->Int->Int->far) (others:(Sl far)) (zcL:Int) (zde:Bool) (zel:Int) (zem:Int) (zpB:Int) (zpC:Int):far :=
  (cond zde
 (S0 (w64 (zcL+(1:Int))) zpB zpC)
 (S0 (w64 (zcL+(1:Int))) zel zem))
def zrP (P0:Int->Int->Int->Bool) (others:(Sl far)) (zcL:Int) (zde:Bool) (zel:Int) (zem:Int) (zpB:Int) (zpC:Int):Bool :=
  (cond zde
 (P0 (w64 (zcL+(1:Int))) zpB zpC)
 (P0 (w64 (zcL+(1:Int))) zel zem))
theorem zBs (hX0:zvX K others X0 P0 S0) (hs:zrP P0 others zcL zde zel zem zpB zpC=true) (hk:K (zK5 (zrO S0 others zcL zde zel zem zpB zpC))):z104 K [1,0,1,0,0,1,1,0,0,1,1] [X0] ⟨[(0,zP (.fn 105 [] [])),(4,zp 4 0),(6,zp 6 0),(8,zp 8 0),(9,zS zck 2 others),(10,zI (others.len:Int)),(11,zI zcL),(18,zB zde)],[(4,.box 114 (zm (zck (⟨zel,zem⟩:far)))),(6,.box 114 (zm (zck (⟨(0:Int),(0:Int)⟩:far)))),(8,.box 114 (zm (zck (⟨zpB,zpC⟩:far))))],[]⟩:=zaZ (by kernel_rfl) (zc hs hk (λ hs hk=>(hX0 hs hk)) (λ hs hk=>(hX0 hs hk)))
def zrQ (others:(Sl far)) (S0:Int->Int->Int->far) (zaY:Int) (zbl:Int) (zbm:Int):far :=
  (cond (decide (zaY < (others.len : Int)))
 (zrO S0 others zaY (zK4 (others.get zaY.toNat) (⟨zbl,zbm⟩:far)) zbl zbm ((others.get zaY.toNat).length) ((others.get zaY.toNat).uses))
 (⟨zbl,zbm⟩:far))
def zrR (others:(Sl far)) (P0:Int->Int->Int->Bool) (zaY:Int) (zbl:Int) (zbm:Int):Bool :=
  (cond (decide (zaY < (others.len : Int)))
 (decide ((0<=zaY/\zaY < (others.len:Int))) &&
 (zrP P0 others zaY (zK4 (others.get zaY.toNat) (⟨zbl,zbm⟩:far)) zbl zbm ((others.get zaY.toNat).length) ((others.get zaY.toNat).uses)))
 true)
def zrS (others:(Sl far)):Nat->Int->Int->Int->far:=lpO (λ _ _ _=>default) (zrQ others)
def zrT (others:(Sl far)):Nat->Int->Int->Int->Bool:=lpO (λ _ _ _=>false) (zrR others)
def zrU (others:(Sl far)) (zaY:Int) (zbl:Int) (zbm:Int):far:=zrS others Fuel zaY zbl zbm
def zrV (others:(Sl far)) (zaY:Int) (zbl:Int) (zbm:Int):Bool:=zrT others Fuel zaY zbl zbm
theorem zBt (hs:zrV others zaY zbl zbm=true) (hk:K (zK5 (zrU others zaY zbl zbm))):z104 K [1,0,1,0] [] (zvW others zaY zbl zbm) :=
  zl (λ X=>z104 K [1,0,1,0,0] [X]) (by kernel_rfl) λ X0 hX =>
  (show ∀ k, zvX K others X0 (zrT others k) (zrS others k) from zfg _ _ (zrR others) (zrQ others) (zvX K others X0)
 (by intro _ _ _ hs;exact absurd hs dqk)
 (by intro P0 S0 hX0 zaY zbl zbm hs hk;exact hX _ (zaZ (by kernel_rfl) (zc hs hk (λ hs hk=>(zaT hs λ hc hs=>And.intro hc (zBs hX0 hs hk))) (λ hs hk=>hk))))) _ hs hk
def zf3 (first:far) (others:(Sl far)):far :=
  (zrU others (0:Int) first.length first.uses)
def zI0 (first:far) (others:(Sl far)):Bool :=
  (zrV others (0:Int) first.length first.uses)
end
theorem zNt (first:far) (others:(Sl far)) (K:List PA->Prop) (hs:zI0 first others=true) (hk:K (zK5 (zf3 first others))):vcFun Tryd.prog zMX zvV 104 [.one (.fn 105 [] []),.agg (zck first),.one (.sl others.len 2 (λ i=>zck (others.get i)))] K :=
  zaZ (by kernel_rfl) (zBt hs hk)
def zok : List PA → COut
  | [.one (.fn 105 [] []),.agg [.int .i64 zbY,.int .i64 zfG],.one (.sl zI1 zMY zI2)]=>.det (IsE zck 2 zMY zI2/\zI0 (⟨zbY,zfG⟩:far) (⟨zI1,zjk zI2⟩:(Sl far))=true) [.agg [.int .i64 ((zf3 (⟨zbY,zfG⟩:far) (⟨zI1,zjk zI2⟩:(Sl far))).length),.int .i64 ((zf3 (⟨zbY,zfG⟩:far) (⟨zI1,zjk zI2⟩:(Sl far))).uses)]]
  | _=>.no
theorem zEo:zar Tryd.prog 104:=⟨_,rfl,rfl,by kernel_rfl⟩
theorem zEp:Ok Tryd.prog 104 zok:=zbu zIZ zEo λ args K h=>by
  unfold zok at h
  split at h
  · rename_i zbY zfG zI1 zMY zI2
    obtain⟨⟨⟨rfl,zLz,rfl⟩,hs⟩,hk⟩:=h
    try rw[ziS zLz] at hs
    try rw[ziS zLz] at hk
    exact⟨(λ _ _=>[]),(λ _=>false),zvV,zNt (⟨zbY,zfG⟩:far) (⟨zI1,zLz⟩:(Sl far)) K hs hk⟩
  · exact h.elim
abbrev zMZ:Tabs:=(((Tabs.nil.addF 93 zoh).addF 104 zok).addI 110 zoj)
theorem zI3:TabsOk Tryd.prog zMZ:=(((TabsOk.nil.addF zHS).addF zEp).addI ztD)
abbrev zK6:Ctrs:=csm zMZ (λ _ _=>[]) (λ _=>false)
def zol:Ann:=⟨91,[(0,zK [0,2,4] [4]),(1,zK [0,2,4,7] [4,7,15]),(2,zK [0,2,4,7,17,18] [4,7,15]),(3,zK [0,2,4,7,17,18,19] [4,7,15]),(4,zK [0,2,4,7,8,17,18] [4,7,15]),(5,zK [0,2,4,7,8,17,18,21] [4,7,15]),(6,zK [0,2,4,7,8,17,18,21,22] [4,7,15]),(7,zK [0,2,4,7,8,9,17,18,21] [4,7,15]),(8,zK [0,2,4,7,8,17,18,21] [4,7,15]),(9,zK [0,2,4,7,8,17,18,21] [4,7,15]),(10,zK [0,2,4,7,17,18] [4,7,15]),(11,zK [0,2,4,7] [4,7,15]),(12,zK [0,2,4,7,10] [4,7,10,15]),(13,zK [0,2,4,7,10,39] [4,7,10,15]),(14,zK [0,2,4,7,10] [4,7,10,15]),(15,zK [0,2,4,7,10,43] [4,7,10,15]),(16,zK [0,2,4,7,10,11,43] [4,7,10,11,15]),(17,zK [0,2,4,7,10,11,12,43] [4,7,10,11,12,15]),(18,zK [0,2,4,7,10,11,12,43,67] [4,7,10,11,12,15]),(19,zK [0,2,4,7,10,43] [4,7,10,15]),(20,zK [0,2,4,7,89] [4,7,15]),(21,zK [0,2,4,7,10] [4,7,10,15]),(22,zK [6] [15])],
 [(3,zK [0,2,4,7,17,18] [4,7,15]),(6,zK [0,2,4,7,8,17,18,21] [4,7,15]),(13,zK [0,2,4,7,10] [4,7,10,15]),(16,zK [0,2,4,7,10,43] [4,7,10,15])],
 [(11,zK [0,2,4,7] [4,7,15])],
 [],[]⟩
abbrev zNu:=(Sl Tab)
abbrev zAp (r:zNu):List PA:=[.one (.sl r.len 80 (λ i=>zan (r.get i)))]
@[irreducible] def z106:=ptF Tryd.prog zK6 zol Tryd.f106
@[irreducible] def x106:=exF Tryd.prog zK6 zol Tryd.f106
@[irreducible] def y106:=rnF Tryd.prog zK6 zol Tryd.f106
def zvY (w:web) (node:Int) (uses:Int) (zew:Int) (zex:(Sl Tab)) (zf4:Nat->List PV):St:=⟨[(0,zP (.fp (zaD w) 0)),(2,zI uses),(4,zp 4 0),(7,zp 7 0),(17,zI ((w64 (uses+(1:Int))).toNat:Int)),(18,zI zew)],[(4,.box 3 [zi node]),(7,.box 159 [.vec 15]),(15,.vec 116 80 640 zex.len zf4)],[]⟩
abbrev zvZ (K:List PA->Prop) (w:web) (node:Int) (uses:Int) (X:St->Prop) (P:Int->(Sl Tab)->Bool) (S:Int->(Sl Tab)->(Sl Tab)):Prop:=∀ ⦃zew:Int⦄ ⦃zex:(Sl Tab)⦄ ⦃zf4:Nat->List PV⦄,P zew zex=true->K (zAp (S zew zex))->zf4=zg zan zex->X (zvY w node uses zew zex zf4)
def zv0 (w:web) (node:Int) (uses:Int) (iv1:Int) (zde:Int) (zdE:Int) (zcV:(Sl Tab)) (zf5:Nat->List PV):St:=⟨[(0,zP (.fp (zaD w) 0)),(2,zI uses),(4,zp 4 0),(7,zp 7 0),(8,zI iv1),(17,zI ((w64 (uses+(1:Int))).toNat:Int)),(18,zI zde),(21,zI zdE)],[(4,.box 3 [zi node]),(7,.box 159 [.vec 15]),(15,.vec 116 80 640 zcV.len zf5)],[]⟩
abbrev zCB (K:List PA->Prop) (w:web) (node:Int) (uses:Int) (X:St->Prop) (P:Int->Int->Int->(Sl Tab)->Bool) (S:Int->Int->Int->(Sl Tab)->(Sl Tab)):Prop:=∀ ⦃iv1:Int⦄ ⦃zde:Int⦄ ⦃zdE:Int⦄ ⦃zcV:(Sl Tab)⦄ ⦃zf5:Nat->List PV⦄,P iv1 zde zdE zcV=true->K (zAp (S iv1 zde zdE zcV))->zf5=zg zan zcV->X (zv0 w node uses iv1 zde zdE zcV zf5)
def zv1 (w:web) (node:Int) (uses:Int) (kv3:Int) (zeY:(Sl Tab)) (zf6:Nat->List PV):St:=⟨[(0,zP (.fp (zaD w) 0)),(2,zI uses),(4,zp 4 0),(7,zp 7 0),(10,zp 10 0)],[(4,.box 3 [zi node]),(7,.box 159 [.vec 15]),(10,.box 3 [zi kv3]),(15,.vec 116 80 640 zeY.len zf6)],[]⟩
abbrev zv3 (K:List PA->Prop) (w:web) (node:Int) (uses:Int) (X:St->Prop) (P:Int->(Sl Tab)->Bool) (S:Int->(Sl Tab)->(Sl Tab)):Prop:=∀ ⦃kv3:Int⦄ ⦃zeY:(Sl Tab)⦄ ⦃zf6:Nat->List PV⦄,P kv3 zeY=true->K (zAp (S kv3 zeY))->zf6=zg zan zeY->X (zv1 w node uses kv3 zeY zf6)
def zpD (w:web) (node:Int) (uses:Int) (kv4:Int) (zbb:(Sl Tab)) (zeZ:Nat->List PV):St:=⟨[(0,zP (.fp (zaD w) 0)),(2,zI uses),(4,zp 4 0),(7,zp 7 0),(10,zp 10 0),(43,zP (.fn 110 [] [.fp [.fp (zaD w) 0] 0]))],[(4,.box 3 [zi node]),(7,.box 159 [.vec 15]),(10,.box 3 [zi kv4]),(15,.vec 116 80 640 zbb.len zeZ)],[]⟩
abbrev zCC (K:List PA->Prop) (w:web) (node:Int) (uses:Int) (X:St->Prop) (P:Int->(Sl Tab)->Bool) (S:Int->(Sl Tab)->(Sl Tab)):Prop:=∀ ⦃kv4:Int⦄ ⦃zbb:(Sl Tab)⦄ ⦃zeZ:Nat->List PV⦄,P kv4 zbb=true->K (zAp (S kv4 zbb))->zeZ=zg zan zbb->X (zpD w node uses kv4 zbb zeZ)
section
variable {K:List PA->Prop}{w:web}{node:Int}{uses:Int}{zew:Int}{zex:(Sl Tab)}{zf4:Nat->List PV}{X0:St->Prop}{P0:Int->(Sl Tab)->Bool}{S0:Int->(Sl Tab)->(Sl Tab)}{iv1:Int}{zde:Int}{zdE:Int}{zcV:(Sl Tab)}{zf5:Nat->List PV}{X1:St->Prop}{P1:Int->Int->Int->(Sl Tab)->Bool}{S1:Int->Int->Int->(Sl Tab)->(Sl Tab)}{zf7:(Sl Tab)}{zv4:Nat->List PV}{kv3:Int}{zeY:(Sl Tab)}{zf6:Nat->List PV}{X3:St->Prop}{P3:Int->(Sl Tab)->Bool}{S3:Int->(Sl Tab)->(Sl Tab)}{kv4:Int}{zbb:(Sl Tab)}{zeZ:Nat->List PV}
def zBu (S3:Int->(Sl Tab)->(Sl Tab)) (w:web) (node:Int) (uses:Int) (kv4:Int) (zbb:(Sl Tab)):(Sl Tab) :=
  (S3 (w64 (kv4+(1:Int))) zbb)
def zBv (P3:Int->(Sl Tab)->Bool) (w:web) (node:Int) (uses:Int) (kv4:Int) (zbb:(Sl Tab)):Bool :=
  (P3 (w64 (kv4+(1:Int))) zbb)
def zrW (S3:Int->(Sl Tab)->(Sl Tab)) (w:web) (node:Int) (uses:Int) (y4:step) (S4:Int->(Sl Tab)->(Sl Tab)) (kv4:Int) (zbb:(Sl Tab)):(Sl Tab) :=
  (cond (decide (y4.from_ >= node))
 (cond (decide (y4.to >= node))
 (cond (!(nvr (tg 80 (zbb.get ((w64 (kv4 - (1:Int))).toNat)) (0 + y4.to.toNat * 2 + 0)) (tg 80 (zbb.get ((w64 (kv4 - (1:Int))).toNat)) (0 + y4.to.toNat * 2 + 0 + 1))))
 (S4 kv4 (⟨zbb.len,(setT kv4.toNat (ts 80 (zbb.get kv4.toNat) (0+y4.from_.toNat * 2+0) [(zf3 (⟨(tL (zbb.get kv4.toNat) y4.from_),(tU (zbb.get kv4.toNat) y4.from_)⟩:far) (⟨1,λ _=>(⟨(w64 ((tg 80 (zbb.get ((w64 (kv4 - (1:Int))).toNat)) (0+y4.to.toNat * 2+0))+y4.length)),(0:Int)⟩:far)⟩:(Sl far))).length,(zf3 (⟨(tL (zbb.get kv4.toNat) y4.from_),(tU (zbb.get kv4.toNat) y4.from_)⟩:far) (⟨1,λ _=>(⟨(w64 ((tg 80 (zbb.get ((w64 (kv4 - (1:Int))).toNat)) (0+y4.to.toNat * 2+0))+y4.length)),(0:Int)⟩:far)⟩:(Sl far))).uses]) zbb.get)⟩:Sl Tab))
 (S4 kv4 zbb))
 (S4 kv4 zbb))
 (S4 kv4 zbb))
def zrX (P3:Int->(Sl Tab)->Bool) (w:web) (node:Int) (uses:Int) (y4:step) (P4:Int->(Sl Tab)->Bool) (kv4:Int) (zbb:(Sl Tab)):Bool :=
  (decide ((0<=(w64 (kv4 - (1:Int)))/\(w64 (kv4 - (1:Int))) < (zbb.len:Int))) &&
 (decide ((0<=y4.to/\y4.to < (40:Int))) &&
 (decide (((w64 (kv4 - (1:Int))).toNat < zbb.len)) &&
 (cond (decide (y4.from_ >= node))
 (cond (decide (y4.to >= node))
 (cond (!(nvr (tg 80 (zbb.get ((w64 (kv4 - (1:Int))).toNat)) (0 + y4.to.toNat * 2 + 0)) (tg 80 (zbb.get ((w64 (kv4 - (1:Int))).toNat)) (0 + y4.to.toNat * 2 + 0 + 1))))
 (decide ((0<=kv4/\kv4 < (zbb.len:Int))) &&
 (decide ((0<=y4.from_/\y4.from_ < (40:Int))) &&
 (decide ((kv4.toNat < zbb.len)) &&
 (decide ((zI0 (⟨(tL (zbb.get kv4.toNat) y4.from_),(tU (zbb.get kv4.toNat) y4.from_)⟩:far) (⟨1,λ _=>(⟨(w64 ((tg 80 (zbb.get ((w64 (kv4 - (1:Int))).toNat)) (0+y4.to.toNat * 2+0))+y4.length)),(0:Int)⟩:far)⟩:(Sl far))=true)) &&
 (decide ((0<=kv4/\kv4 < (zbb.len:Int))) &&
 (decide ((0<=y4.from_/\y4.from_ < (40:Int))) &&
 (decide ((kv4.toNat < zbb.len)) &&
 (P4 kv4 (⟨zbb.len,(setT kv4.toNat (ts 80 (zbb.get kv4.toNat) (0+y4.from_.toNat * 2+0) [(zf3 (⟨(tL (zbb.get kv4.toNat) y4.from_),(tU (zbb.get kv4.toNat) y4.from_)⟩:far) (⟨1,λ _=>(⟨(w64 ((tg 80 (zbb.get ((w64 (kv4 - (1:Int))).toNat)) (0+y4.to.toNat * 2+0))+y4.length)),(0:Int)⟩:far)⟩:(Sl far))).length,(zf3 (⟨(tL (zbb.get kv4.toNat) y4.from_),(tU (zbb.get kv4.toNat) y4.from_)⟩:far) (⟨1,λ _=>(⟨(w64 ((tg 80 (zbb.get ((w64 (kv4 - (1:Int))).toNat)) (0+y4.to.toNat * 2+0))+y4.length)),(0:Int)⟩:far)⟩:(Sl far))).uses]) zbb.get)⟩:Sl Tab)))))))))
 (P4 kv4 zbb))
 (P4 kv4 zbb))
 (P4 kv4 zbb)))))
def zrY (S3:Int->(Sl Tab)->(Sl Tab)) (w:web) (node:Int) (uses:Int):List step->Int->(Sl Tab)->(Sl Tab):=lpR (zBu S3 w node uses) (zrW S3 w node uses)
def zrZ (P3:Int->(Sl Tab)->Bool) (w:web) (node:Int) (uses:Int):List step->Int->(Sl Tab)->Bool:=lpR (zBv P3 w node uses) (zrX P3 w node uses)
def zr0 (S3:Int->(Sl Tab)->(Sl Tab)) (w:web) (node:Int) (uses:Int) (kv4:Int) (zbb:(Sl Tab)):(Sl Tab):=zrY S3 w node uses (zks w) kv4 zbb
def zr1 (P3:Int->(Sl Tab)->Bool) (w:web) (node:Int) (uses:Int) (kv4:Int) (zbb:(Sl Tab)):Bool:=decide ((ztP w=true)) && zrZ P3 w node uses (zks w) kv4 zbb
theorem zBw (hX3:zv3 K w node uses X3 P3 S3) (hs:zr1 P3 w node uses kv4 zbb=true) (hk:K (zAp (zr0 S3 w node uses kv4 zbb))) (zkt:zeZ=zg zan zbb):z106 K [1,1,1,1,0,1,0,0,1,0,0,1,0] [X3] (zpD w node uses kv4 zbb zeZ) :=
  zaT hs λ hc hs=>zr (enc:=(λ y:step=>[.agg (zaF y)])) (ys:=zks w) (g:=(zpD w node uses kv4 zbb zeZ)) (x106 K [1,1,1,1,0,1,0,0,1,0,0,1,0] [X3]) (y106 K [1,1,1,1,0,1,0,0,1,0,0,1,0] [X3]) (by kernel_rfl) (And.intro (zE enc_40 4 w.Net.Ties.get) (And.intro (rfl:((false,1,false,[none]):MQ)=(false,1,false,[none])) hc)) λ X4 hE hR =>
  (show ∀ l : List step, zCC K w node uses (X4 (l.map (λ y : step => [.agg (zaF y)]))) (zrZ P3 w node uses l) (zrY S3 w node uses l) from zri (X := X4) (enc := (λ y : step => [.agg (zaF y)])) _ _ (zrX P3 w node uses) (zrW S3 w node uses) (λ Z P S => zCC K w node uses Z P S)
 (by intro kv4 zbb zeZ hs hk zkt;subst zkt;exact hE _ (zaZ (by kernel_rfl) (hX3 hs hk rfl)))
 (by intro y4 rest P4 S4 hX4 kv4 zbb zeZ hs hk zkt;subst zkt;exact hR _ rest _ (zaZ (by kernel_rfl) (zaT hs λ hc hs=>And.intro hc (zaT hs λ hc hs=>And.intro hc (zaT hs λ hc hs=>And.intro hc (zc hs hk (λ hs hk=>(zc hs hk (λ hs hk=>(zc hs hk (λ hs hk=>(zaT hs λ hc hs=>And.intro hc (zaT hs λ hc hs=>And.intro hc (zaT hs λ hc hs=>And.intro hc (zaT hs λ hc hs=>And.intro (And.intro (zvs:IsE zck 2 2 (λ _=>(zck (⟨(w64 ((tg 80 (zbb.get ((w64 (kv4 - (1:Int))).toNat)) (0+y4.to.toNat * 2+0))+y4.length)),(0:Int)⟩:far)))) hc) (zaT hs λ hc hs=>And.intro hc (zaT hs λ hc hs=>And.intro hc (zaT hs λ hc hs=>And.intro hc (hX4 hs hk (ziQ (enc:=zan) (i:=kv4.toNat) (k:=0) (f:=zbb.get) (new:=(zan (ts 80 (zbb.get kv4.toNat) (0+y4.from_.toNat * 2+0) [(zf3 (⟨(tL (zbb.get kv4.toNat) y4.from_),(tU (zbb.get kv4.toNat) y4.from_)⟩:far) (⟨1,λ _=>(⟨(w64 ((tg 80 (zbb.get ((w64 (kv4 - (1:Int))).toNat)) (0+y4.to.toNat * 2+0))+y4.length)),(0:Int)⟩:far)⟩:(Sl far))).length,(zf3 (⟨(tL (zbb.get kv4.toNat) y4.from_),(tU (zbb.get kv4.toNat) y4.from_)⟩:far) (⟨1,λ _=>(⟨(w64 ((tg 80 (zbb.get ((w64 (kv4 - (1:Int))).toNat)) (0+y4.to.toNat * 2+0))+y4.length)),(0:Int)⟩:far)⟩:(Sl far))).uses]))) (v:=(ts 80 (zbb.get kv4.toNat) (0+y4.from_.toNat * 2+0) [(zf3 (⟨(tL (zbb.get kv4.toNat) y4.from_),(tU (zbb.get kv4.toNat) y4.from_)⟩:far) (⟨1,λ _=>(⟨(w64 ((tg 80 (zbb.get ((w64 (kv4 - (1:Int))).toNat)) (0+y4.to.toNat * 2+0))+y4.length)),(0:Int)⟩:far)⟩:(Sl far))).length,(zf3 (⟨(tL (zbb.get kv4.toNat) y4.from_),(tU (zbb.get kv4.toNat) y4.from_)⟩:far) (⟨1,λ _=>(⟨(w64 ((tg 80 (zbb.get ((w64 (kv4 - (1:Int))).toNat)) (0+y4.to.toNat * 2+0))+y4.length)),(0:Int)⟩:far)⟩:(Sl far))).uses])) rfl zmK)))))))))) (λ hs hk=>(hX4 hs hk rfl)))) (λ hs hk=>(hX4 hs hk rfl)))) (λ hs hk=>(hX4 hs hk rfl))))))))) _ hs hk zkt
def zr2 (w:web) (node:Int) (uses:Int) (S3:Int->(Sl Tab)->(Sl Tab)) (kv3:Int) (zeY:(Sl Tab)):(Sl Tab) :=
  (cond (decide (kv3 <= uses))
 (zr0 S3 w node uses kv3 zeY)
 zeY)
def zr3 (w:web) (node:Int) (uses:Int) (P3:Int->(Sl Tab)->Bool) (kv3:Int) (zeY:(Sl Tab)):Bool :=
  (cond (decide (kv3 <= uses))
 (zr1 P3 w node uses kv3 zeY)
 true)
def zr4 (w:web) (node:Int) (uses:Int):Nat->Int->(Sl Tab)->(Sl Tab):=lpO (λ _ _=>default) (zr2 w node uses)
def zr5 (w:web) (node:Int) (uses:Int):Nat->Int->(Sl Tab)->Bool:=lpO (λ _ _=>false) (zr3 w node uses)
def zr6 (w:web) (node:Int) (uses:Int) (kv3:Int) (zeY:(Sl Tab)):(Sl Tab):=zr4 w node uses Fuel kv3 zeY
def zr7 (w:web) (node:Int) (uses:Int) (kv3:Int) (zeY:(Sl Tab)):Bool:=zr5 w node uses Fuel kv3 zeY
theorem zBx (hs:zr7 w node uses kv3 zeY=true) (hk:K (zAp (zr6 w node uses kv3 zeY))) (zpE:zf6=zg zan zeY):z106 K [1,1,1,1,0,1,0] [] (zv1 w node uses kv3 zeY zf6) :=
  zl (λ X=>z106 K [1,1,1,1,0,1,0,0] [X]) (by kernel_rfl) λ X3 hX =>
  (show ∀ k, zv3 K w node uses X3 (zr5 w node uses k) (zr4 w node uses k) from zfg _ _ (zr3 w node uses) (zr2 w node uses) (zv3 K w node uses X3)
 (by intro _ _ _ hs;exact absurd hs dqk)
 (by intro P3 S3 hX3 kv3 zeY zf6 hs hk zpE;subst zpE;exact hX _ (zaZ (by kernel_rfl) (zc hs hk (λ hs hk=>(And.intro (And.intro (zE enc_40 4 w.Net.Ties.get) (rfl:((false,1,false,[none]):MQ)=(false,1,false,[none]))) (zBw hX3 hs hk rfl))) (λ hs hk=>hk))))) _ hs hk zpE
def zr8 (w:web) (node:Int) (uses:Int) (zf7:(Sl Tab)):(Sl Tab) :=
  (zr6 w node uses (1:Int) (⟨zf7.len,(setT 0 (ts 80 (zf7.get 0) (0+node.toNat * 2+0) [(0:Int),(0:Int)]) zf7.get)⟩:Sl Tab))
def zr9 (w:web) (node:Int) (uses:Int) (zf7:(Sl Tab)):Bool :=
  (decide ((0<=(0:Int)/\(0:Int) < (zf7.len:Int))) &&
 (decide ((0<=node/\node < (40:Int))) &&
 (decide ((0 < zf7.len)) &&
 (zr7 w node uses (1:Int) (⟨zf7.len,(setT 0 (ts 80 (zf7.get 0) (0+node.toNat * 2+0) [(0:Int),(0:Int)]) zf7.get)⟩:Sl Tab)))))
theorem zBy (hs:zr9 w node uses zf7=true) (hk:K (zAp (zr8 w node uses zf7))) (zEq:zv4=zg zan zf7):z106 K [1,1,1] [] ⟨[(0,zP (.fp (zaD w) 0)),(2,zI uses),(4,zp 4 0),(7,zp 7 0)],[(4,.box 3 [zi node]),(7,.box 159 [.vec 15]),(15,.vec 116 80 640 zf7.len zv4)],[]⟩:=by subst zEq;exact zaZ (by kernel_rfl) (zaT hs λ hc hs=>And.intro hc (zaT hs λ hc hs=>And.intro hc (zaT hs λ hc hs=>And.intro hc (zBx hs hk (ziQ (enc:=zan) (i:=0) (k:=0) (f:=zf7.get) (new:=(zan (ts 80 (zf7.get 0) (0+node.toNat * 2+0) [(0:Int),(0:Int)]))) (v:=(ts 80 (zf7.get 0) (0+node.toNat * 2+0) [(0:Int),(0:Int)])) rfl zmK)))))
def zsa (S0:Int->(Sl Tab)->(Sl Tab)) (w:web) (node:Int) (uses:Int) (S1:Int->Int->Int->(Sl Tab)->(Sl Tab)) (iv1:Int) (zde:Int) (zdE:Int) (zcV:(Sl Tab)):(Sl Tab) :=
  (cond (decide (zdE < (40:Int)))
 (S1 iv1 zde (w64 (zdE+(1:Int))) (⟨zcV.len,(setT iv1.toNat (ts 80 (zcV.get iv1.toNat) (0+zdE.toNat * 2+0) [(1000000000000:Int),(0:Int)]) zcV.get)⟩:Sl Tab))
 (S0 (w64 (zde+(1:Int))) zcV))
def zsb (P0:Int->(Sl Tab)->Bool) (w:web) (node:Int) (uses:Int) (P1:Int->Int->Int->(Sl Tab)->Bool) (iv1:Int) (zde:Int) (zdE:Int) (zcV:(Sl Tab)):Bool :=
  (cond (decide (zdE < (40:Int)))
 (decide ((0<=iv1/\iv1 < (zcV.len:Int))) &&
 (decide ((0<=zdE/\zdE < (40:Int))) &&
 (decide ((iv1.toNat < zcV.len)) &&
 (P1 iv1 zde (w64 (zdE+(1:Int))) (⟨zcV.len,(setT iv1.toNat (ts 80 (zcV.get iv1.toNat) (0+zdE.toNat * 2+0) [(1000000000000:Int),(0:Int)]) zcV.get)⟩:Sl Tab)))))
 (P0 (w64 (zde+(1:Int))) zcV))
def zsc (S0:Int->(Sl Tab)->(Sl Tab)) (w:web) (node:Int) (uses:Int):Nat->Int->Int->Int->(Sl Tab)->(Sl Tab):=lpO (λ _ _ _ _=>default) (zsa S0 w node uses)
def zsd (P0:Int->(Sl Tab)->Bool) (w:web) (node:Int) (uses:Int):Nat->Int->Int->Int->(Sl Tab)->Bool:=lpO (λ _ _ _ _=>false) (zsb P0 w node uses)
def zse (S0:Int->(Sl Tab)->(Sl Tab)) (w:web) (node:Int) (uses:Int) (iv1:Int) (zde:Int) (zdE:Int) (zcV:(Sl Tab)):(Sl Tab):=zsc S0 w node uses Fuel iv1 zde zdE zcV
def zsf (P0:Int->(Sl Tab)->Bool) (w:web) (node:Int) (uses:Int) (iv1:Int) (zde:Int) (zdE:Int) (zcV:(Sl Tab)):Bool:=zsd P0 w node uses Fuel iv1 zde zdE zcV
theorem zBz (hX0:zvZ K w node uses X0 P0 S0) (hs:zsf P0 w node uses iv1 zde zdE zcV=true) (hk:K (zAp (zse S0 w node uses iv1 zde zdE zcV))) (zpF:zf5=zg zan zcV):z106 K [1,1,0,1,0,0,1,1,0,0,1,1,0] [X0] (zv0 w node uses iv1 zde zdE zcV zf5) :=
  zl (λ X=>z106 K [1,1,0,1,0,0,1,1,0,0,1,1,0,0] [X0,X]) (by kernel_rfl) λ X1 hX =>
  (show ∀ k, zCB K w node uses X1 (zsd P0 w node uses k) (zsc S0 w node uses k) from zfg _ _ (zsb P0 w node uses) (zsa S0 w node uses) (zCB K w node uses X1)
 (by intro _ _ _ _ _ hs;exact absurd hs dqk)
 (by intro P1 S1 hX1 iv1 zde zdE zcV zf5 hs hk zpF;subst zpF;exact hX _ (zaZ (by kernel_rfl) (zc hs hk (λ hs hk=>(zaT hs λ hc hs=>And.intro hc (zaT hs λ hc hs=>And.intro hc (zaT hs λ hc hs=>And.intro hc (hX1 hs hk (ziQ (enc:=zan) (i:=iv1.toNat) (k:=0) (f:=zcV.get) (new:=(zan (ts 80 (zcV.get iv1.toNat) (0+zdE.toNat * 2+0) [(1000000000000:Int),(0:Int)]))) (v:=(ts 80 (zcV.get iv1.toNat) (0+zdE.toNat * 2+0) [(1000000000000:Int),(0:Int)])) rfl zmK)))))) (λ hs hk=>(hX0 hs hk rfl)))))) _ hs hk zpF
def zsg (w:web) (node:Int) (uses:Int) (S0:Int->(Sl Tab)->(Sl Tab)) (zew:Int) (zex:(Sl Tab)):(Sl Tab) :=
  (cond (decide (zew < ((w64 (uses + (1:Int))).toNat : Int)))
 (zse S0 w node uses zew zew (0:Int) zex)
 (zr8 w node uses zex))
def zsh (w:web) (node:Int) (uses:Int) (P0:Int->(Sl Tab)->Bool) (zew:Int) (zex:(Sl Tab)):Bool :=
  (cond (decide (zew < ((w64 (uses + (1:Int))).toNat : Int)))
 (zsf P0 w node uses zew zew (0:Int) zex)
 (zr9 w node uses zex))
def zsi (w:web) (node:Int) (uses:Int):Nat->Int->(Sl Tab)->(Sl Tab):=lpO (λ _ _=>default) (zsg w node uses)
def zsj (w:web) (node:Int) (uses:Int):Nat->Int->(Sl Tab)->Bool:=lpO (λ _ _=>false) (zsh w node uses)
def zsk (w:web) (node:Int) (uses:Int) (zew:Int) (zex:(Sl Tab)):(Sl Tab):=zsi w node uses Fuel zew zex
def zsl (w:web) (node:Int) (uses:Int) (zew:Int) (zex:(Sl Tab)):Bool:=zsj w node uses Fuel zew zex
theorem zBA (hs:zsl w node uses zew zex=true) (hk:K (zAp (zsk w node uses zew zex))) (zpG:zf4=zg zan zex):z106 K [1,1,0,1,0] [] (zvY w node uses zew zex zf4) :=
  zl (λ X=>z106 K [1,1,0,1,0,0] [X]) (by kernel_rfl) λ X0 hX =>
  (show ∀ k, zvZ K w node uses X0 (zsj w node uses k) (zsi w node uses k) from zfg _ _ (zsh w node uses) (zsg w node uses) (zvZ K w node uses X0)
 (by intro _ _ _ hs;exact absurd hs dqk)
 (by intro P0 S0 hX0 zew zex zf4 hs hk zpG;subst zpG;exact hX _ (zaZ (by kernel_rfl) (zc hs hk (λ hs hk=>(zBz hX0 hs hk rfl)) (λ hs hk=>(zBy hs hk rfl)))))) _ hs hk zpG
def zEr (w:web) (node:Int) (uses:Int):(Sl Tab) :=
  (zsk w node uses (0:Int) (⟨(w64 (uses+(1:Int))).toNat,(λ _=>(λ _=>(0:Int)))⟩:Sl Tab))
def zLA (w:web) (node:Int) (uses:Int):Bool :=
  (decide ((0<=(w64 (uses+(1:Int)))/\(w64 (uses+(1:Int)))=(w64 (uses+(1:Int)))/\(w64 (uses+(1:Int)))<=1000000)) &&
 (zsl w node uses (0:Int) (⟨(w64 (uses+(1:Int))).toNat,(λ _=>(λ _=>(0:Int)))⟩:Sl Tab)))
end
theorem zNv (w:web) (node:Int) (uses:Int) (K:List PA->Prop) (hs:zLA w node uses=true) (hk:K (zAp (zEr w node uses))):vcFun Tryd.prog zK6 zol 106 [.one (.fp (zaD w) 0),.one (.int .i64 node),.one (.int .i64 uses)] K :=
  zaZ (by kernel_rfl) (zaT hs λ hc hs=>And.intro hc (zBA hs hk rfl))
def zv5 : List PA → COut
  | [.one (.fp [.int .i64 zal,.sl zai zaC zaj,.fm zbd zaI zaJ] 0),.one (.int .i64 a1),.one (.int .i64 a2)]=>.det (IsE enc_40 4 zaC zaj/\zbd=(false,1,false,[none])/\zLA (⟨(⟨zal,(⟨zai,zam zaj⟩:(Sl Tie))⟩:Net),(⟨zaI,zaJ⟩:Mp)⟩:web) a1 a2=true) [.one (.sl ((zEr (⟨(⟨zal,(⟨zai,zam zaj⟩:(Sl Tie))⟩:Net),(⟨zaI,zaJ⟩:Mp)⟩:web) a1 a2).len) 80 (λ i=>zan ((zEr (⟨(⟨zal,(⟨zai,zam zaj⟩:(Sl Tie))⟩:Net),(⟨zaI,zaJ⟩:Mp)⟩:web) a1 a2).get i)))]
  | _=>.no
theorem zEs:zar Tryd.prog 106:=⟨_,rfl,rfl,by kernel_rfl⟩
theorem zLB:Ok Tryd.prog 106 zv5:=zbu zI3 zEs λ args K h=>by
  unfold zv5 at h
  split at h
  · rename_i zal zai zaC zaj zbd zaI zaJ a1 a2
    obtain⟨⟨⟨rfl,zat,rfl⟩,rfl,hs⟩,hk⟩:=h
    try rw[zak zat] at hs
    try rw[zak zat] at hk
    exact⟨(λ _ _=>[]),(λ _=>false),zol,zNv (⟨(⟨zal,(⟨zai,zat⟩:(Sl Tie))⟩:Net),(⟨zaI,zaJ⟩:Mp)⟩:web) a1 a2 K hs hk⟩
  · exact h.elim
section
variable [DrawZ]
abbrev zM0:Tabs:=Tabs.nil
theorem zI4:TabsOk Tryd.prog zM0:=TabsOk.nil
abbrev zM1:Ctrs:=csm zM0 (λ _ _=>[]) (λ _=>false)
def zv6:Ann:=⟨18,[(0,zK [0] []),(1,zK [0,3] []),(2,zK [3,6,7,8] []),(3,zK [3,6,7,8,9] []),(4,zK [3,5,6,7,8] []),(5,zK [3,5,6,7,8,14] []),(6,zK [2] []),(7,zK [3,6,7,8] []),(8,zK [2] [])],
 [(3,zK [3,6,7,8] [])],
 [],
 [],[]⟩
abbrev zNw:=Int
abbrev zLC (r:zNw):List PA:=[.one (.int .i64 r)]
@[irreducible] def z100:=ptF Tryd.prog zM1 zv6 Tryd.f100
def zv7 (vals:(Sl Int)) (zdS:Int):St:=⟨[(3,zI (0:Int)),(6,zS enc_3 1 vals),(7,zI (vals.len:Int)),(8,zI zdS)],[],[]⟩
abbrev zCD (K:List PA->Prop) (vals:(Sl Int)) (X:St->Prop) (P:Int->Bool) (S:Int->Int):Prop:=∀ ⦃zdS:Int⦄,P zdS=true->K (zLC (S zdS))->X (zv7 vals zdS)
section
variable {K:List PA->Prop}{vals:(Sl Int)}{zdS:Int}{X0:St->Prop}{P0:Int->Bool}{S0:Int->Int}
def zeO (vals:(Sl Int)) (S0:Int->Int) (zdS:Int):Int :=
  (cond (decide (zdS < (vals.len : Int)))
 (cond ((vals.get zdS.toNat) != (0:Int))
 (vals.get zdS.toNat)
 (S0 (w64 (zdS+(1:Int)))))
 (0:Int))
def zgw (vals:(Sl Int)) (P0:Int->Bool) (zdS:Int):Bool :=
  (cond (decide (zdS < (vals.len : Int)))
 (decide ((0<=zdS/\zdS < (vals.len:Int))) &&
 (cond ((vals.get zdS.toNat) != (0:Int))
 true
 (P0 (w64 (zdS+(1:Int))))))
 true)
def zgx (vals:(Sl Int)):Nat->Int->Int:=lpO (λ _=>default) (zeO vals)
def zhG (vals:(Sl Int)):Nat->Int->Bool:=lpO (λ _=>false) (zgw vals)
def zsm (vals:(Sl Int)) (zdS:Int):Int:=zgx vals Fuel zdS
def zsn (vals:(Sl Int)) (zdS:Int):Bool:=zhG vals Fuel zdS
theorem zBB (hs:zsn vals zdS=true) (hk:K (zLC (zsm vals zdS))):z100 K [1,1,0,1,0] [] (zv7 vals zdS) :=
  zl (λ X=>z100 K [1,1,0,1,0,0] [X]) (by kernel_rfl) λ X0 hX =>
  (show ∀ k, zCD K vals X0 (zhG vals k) (zgx vals k) from zfg _ _ (zgw vals) (zeO vals) (zCD K vals X0)
 (by intro _ hs;exact absurd hs dqk)
 (by intro P0 S0 hX0 zdS hs hk;exact hX _ (zaZ (by kernel_rfl) (zc hs hk (λ hs hk=>(zaT hs λ hc hs=>And.intro hc (zc hs hk (λ hs hk=>hk) (λ hs hk=>(hX0 hs hk))))) (λ hs hk=>hk))))) _ hs hk
def zHT (vals:(Sl Int)):Int :=
  (zsm vals (0:Int))
def zI5 (vals:(Sl Int)):Bool :=
  (zsn vals (0:Int))
end
theorem zNx (vals:(Sl Int)) (K:List PA->Prop) (hs:zI5 vals=true) (hk:K (zLC (zHT vals))):vcFun Tryd.prog zM1 zv6 100 [.one (.sl vals.len 1 (λ i=>enc_3 (vals.get i)))] K :=
  zaZ (by kernel_rfl) (zBB hs hk)
def zso : List PA → COut
  | [.one (.sl zf8 zlS zf9)]=>.det (IsE enc_3 1 zlS zf9/\zI5 (⟨zf8,zav zf9⟩:(Sl Int))=true) [.one (.int .i64 (zHT (⟨zf8,zav zf9⟩:(Sl Int))))]
  | _=>.no
theorem zEt:zar Tryd.prog 100:=⟨_,rfl,rfl,by kernel_rfl⟩
theorem zI6:Ok Tryd.prog 100 zso:=zbu zI4 zEt λ args K h=>by
  unfold zso at h
  split at h
  · rename_i zf8 zlS zf9
    obtain⟨⟨⟨rfl,zid,rfl⟩,hs⟩,hk⟩:=h
    try rw[za8 zid] at hs
    try rw[za8 zid] at hk
    exact⟨(λ _ _=>[]),(λ _=>false),zv6,zNx (⟨zf8,zid⟩:(Sl Int)) K hs hk⟩
  · exact h.elim
end

section
variable [DrawZ]
abbrev zM2:Tabs:=Tabs.nil
theorem zI7:TabsOk Tryd.prog zM2:=TabsOk.nil
abbrev zNy:Ctrs:=csm zM2 (λ _ _=>[]) (λ _=>false)
def zCE:Ann:=⟨6,[(0,zK [0] []),(1,zK [2] [])],
 [],
 [],
 [],[]⟩
abbrev zNz:=Bool
abbrev zNA (r:zNz):List PA:=[.one (.bool r)]
section
variable {K:List PA->Prop}{x:Int}
def zBC (x:Int):Bool :=
  (x != x)
end
theorem zNB (x:Int) (K:List PA->Prop) (hk:K (zNA (zBC x))):vcFun Tryd.prog zNy zCE 114 [.one (.int .i64 x)] K :=
  zaZ (by kernel_rfl) hk
def zv8 : List PA → COut
  | [.one (.int .i64 a0)]=>.tot [.one (.bool (zBC a0))]
  | _=>.no
theorem zEu:zar Tryd.prog 114:=⟨_,rfl,rfl,by kernel_rfl⟩
theorem zLD:Ok Tryd.prog 114 zv8:=zbu zI7 zEu λ args K h=>by
  unfold zv8 at h
  split at h
  · rename_i a0
    have hk:=h
    exact⟨(λ _ _=>[]),(λ _=>false),zCE,zNB a0 K hk⟩
  · exact h.elim
end

section
variable [DrawZ]
abbrev zM3:Tabs:=(Tabs.nil.addF 114 zv8)
theorem zI8:TabsOk Tryd.prog zM3:=(TabsOk.nil.addF zLD)
abbrev zNC:Ctrs:=csm zM3 (λ _ _=>[]) (λ _=>false)
def zCF:Ann:=⟨20,[(0,zK [0,1] []),(1,zK [0,1,5] []),(2,zK [0,1,5,6] []),(3,zK [0,1,6,11] []),(4,zK [12] []),(5,zK [4] []),(6,zK [4] []),(7,zK [0,1,13] []),(8,zK [4] []),(9,zK [0,1,16] []),(10,zK [4] []),(11,zK [19] []),(12,zK [4] []),(13,zK [4] [])],
 [],
 [],
 [],[]⟩
abbrev zND:=Int
abbrev zNE (r:zND):List PA:=[.one (.int .i64 r)]
section
variable {K:List PA->Prop}{x:Int}{y_a1:Int}
def znp (x:Int) (y_a1:Int):Int :=
  (cond (zBC x)
 (cond (zBC y_a1)
 (0:Int)
 (-1:Int))
 (cond (zBC y_a1)
 (1:Int)
 (cond (decide (x < y_a1))
 (-1:Int)
 (cond (decide (x > y_a1))
 (1:Int)
 (0:Int)))))
end
theorem zNF (x:Int) (y_a1:Int) (K:List PA->Prop) (hk:K (zNE (znp x y_a1))):vcFun Tryd.prog zNC zCF 101 [.one (.int .i64 x),.one (.int .i64 y_a1)] K :=
  zaZ (by kernel_rfl) (zt hk (λ hk=>(zt hk (λ hk=>hk) (λ hk=>hk))) (λ hk=>(zt hk (λ hk=>hk) (λ hk=>(zt hk (λ hk=>hk) (λ hk=>(zt hk (λ hk=>hk) (λ hk=>hk))))))))
def zom : List PA → COut
  | [.one (.int .i64 a0),.one (.int .i64 a1)]=>.tot [.one (.int .i64 (znp a0 a1))]
  | _=>.no
theorem zEv:zar Tryd.prog 101:=⟨_,rfl,rfl,by kernel_rfl⟩
theorem zEw:Ok Tryd.prog 101 zom:=zbu zI8 zEv λ args K h=>by
  unfold zom at h
  split at h
  · rename_i a0 a1
    have hk:=h
    exact⟨(λ _ _=>[]),(λ _=>false),zCF,zNF a0 a1 K hk⟩
  · exact h.elim
end

abbrev zM4:Tabs:=Tabs.nil
theorem zI9:TabsOk Tryd.prog zM4:=TabsOk.nil
abbrev zNG:Ctrs:=csm zM4 (λ _ _=>[]) (λ _=>false)
def zCG:Ann:=⟨6,[(0,zK [1] [1]),(1,zK [5] []),(2,zK [2] []),(3,zK [2] [])],
 [],
 [],
 [],[]⟩
abbrev zNH:=Int
abbrev e118 (r:zNH):List PA:=[.one (.int .i64 r)]
section
variable {K:List PA->Prop}{s:step}
def zCH (s:step):Int :=
  (cond s.Use.Back
 (1:Int)
 (0:Int))
end
theorem zNI (s:step) (K:List PA->Prop) (hk:K (e118 (zCH s))):vcFun Tryd.prog zNG zCG 118 [.agg (zaF s)] K :=
  zaZ (by kernel_rfl) (zt hk (λ hk=>hk) (λ hk=>hk))
def zv9 : List PA → COut
  | [.agg [.int .i64 zc0,.bool zcB,.int .i64 zeP,.int .i64 zon,.int .i64 zco]]=>.tot [.one (.int .i64 (zCH (⟨(⟨zc0,zcB⟩:Use),zeP,zon,zco⟩:step)))]
  | _=>.no
theorem zEx:zar Tryd.prog 118:=⟨_,rfl,rfl,by kernel_rfl⟩
theorem zLE:Ok Tryd.prog 118 zv9:=zbu zI9 zEx λ args K h=>by
  unfold zv9 at h
  split at h
  · rename_i zc0 zcB zeP zon zco
    have hk:=h
    exact⟨(λ _ _=>[]),(λ _=>false),zCG,zNI (⟨(⟨zc0,zcB⟩:Use),zeP,zon,zco⟩:step) K hk⟩
  · exact h.elim
abbrev zM5:Tabs:=(((Tabs.nil.addF 100 zso).addF 101 zom).addF 118 zv9)
theorem zJa:TabsOk Tryd.prog zM5:=(((TabsOk.nil.addF zI6).addF zEw).addF zLE)
abbrev zNJ:Ctrs:=csm zM5 (λ _ _=>[]) (λ _=>false)
def zCI:Ann:=⟨22,[(0,zK [2,3] [2,3]),(1,zK [2,3,5] [2,3]),(2,zK [4] [])],
 [],
 [],
 [],[]⟩
abbrev zNK:=Int
abbrev e108 (r:zNK):List PA:=[.one (.int .i64 r)]
section
variable {K:List PA->Prop}{a:step}{b:step}
def zK7 (a:step) (b:step):Int :=
  (zHT (⟨2,zav (zbB [(enc_3 (znp a.Use.Tie b.Use.Tie)),(enc_3 (znp (zCH a) (zCH b)))])⟩:(Sl Int)))
def zLF (a:step) (b:step):Bool :=
  (decide ((zI5 (⟨2,zav (zbB [(enc_3 (znp a.Use.Tie b.Use.Tie)),(enc_3 (znp (zCH a) (zCH b)))])⟩:(Sl Int))=true)) &&
 true)
end
theorem zNL (a:step) (b:step) (K:List PA->Prop) (hs:zLF a b=true) (hk:K (e108 (zK7 a b))):vcFun Tryd.prog zNJ zCI 108 [.agg (zaF a),.agg (zaF b)] K :=
  zaZ (by kernel_rfl) (zaT hs λ hc hs=>And.intro (And.intro ((zd0 []):IsE enc_3 1 1 (zbB [(enc_3 (znp a.Use.Tie b.Use.Tie)),(enc_3 (znp (zCH a) (zCH b)))])) hc) hk)
def zwa : List PA → COut
  | [.agg [.int .i64 zc0,.bool zcB,.int .i64 zeP,.int .i64 zon,.int .i64 zco],.agg [.int .i64 zgy,.bool zfH,.int .i64 zjl,.int .i64 zBD,.int .i64 zbY]]=>.det (zLF (⟨(⟨zc0,zcB⟩:Use),zeP,zon,zco⟩:step) (⟨(⟨zgy,zfH⟩:Use),zjl,zBD,zbY⟩:step)=true) [.one (.int .i64 (zK7 (⟨(⟨zc0,zcB⟩:Use),zeP,zon,zco⟩:step) (⟨(⟨zgy,zfH⟩:Use),zjl,zBD,zbY⟩:step)))]
  | _=>.no
theorem zEy:zar Tryd.prog 108:=⟨_,rfl,rfl,by kernel_rfl⟩
theorem zLG:Ok Tryd.prog 108 zwa:=zbu zJa zEy λ args K h=>by
  unfold zwa at h
  split at h
  · rename_i zc0 zcB zeP zon zco zgy zfH zjl zBD zbY
    obtain⟨hs,hk⟩:=h
    exact⟨(λ _ _=>[]),(λ _=>false),zCI,zNL (⟨(⟨zc0,zcB⟩:Use),zeP,zon,zco⟩:step) (⟨(⟨zgy,zfH⟩:Use),zjl,zBD,zbY⟩:step) K hs hk⟩
  · exact h.elim
abbrev zM6:Tabs:=(Tabs.nil.addF 108 zwa)
theorem zJb:TabsOk Tryd.prog zM6:=(TabsOk.nil.addF zLG)
abbrev zM7:Ctrs:=csm zM6 (λ _ _=>[]) (λ _=>false)
def zwb:Ann:=⟨39,[(0,zK [0,1,2] []),(1,zK [0,1,2,11,12,13] []),(2,zK [0,1,2,11,12,13,14] []),(3,zK [0,1,2,7,8,11,12,13] [8]),(4,zK [0,1,2,7,8,11,12,13,21] [8]),(5,zK [6] []),(6,zK [0,1,2,8,9,11,12,13] [8,9]),(7,zK [0,1,2,10,11,12,13] []),(8,zK [0,1,2,10,11,12,13,31] []),(9,zK [6] []),(10,zK [0,1,2,11,12,13] []),(11,zK [38] []),(12,zK [6] []),(13,zK [6] [])],
 [(2,zK [0,1,2,11,12,13] [])],
 [(6,zK [0,1,2,7,8,11,12,13] [8]),(8,zK [0,1,2,10,11,12,13] [])],
 [],[]⟩
abbrev zNM:=Int
abbrev zJc (r:zNM):List PA:=[.one (.int .i64 r)]
@[irreducible] def z107:=ptF Tryd.prog zM7 zwb Tryd.f107
def zwc (ze0:(Sl step)) (zen:(Sl step)) (zaY:(Sl step)) (zb8:Int) (zbZ:Int) (zdF:Nat->List PV) (zdG:Nat->List PV) (zga:Nat->List PV):St:=⟨[(0,zP (.sl ze0.len 5 zdF)),(1,zP (.sl zen.len 5 zdG)),(2,zP (.fn 108 [] [])),(11,zP (.sl zaY.len 5 zga)),(12,zI zb8),(13,zI zbZ)],[],[]⟩
abbrev zsp (K:List PA->Prop) (X:St->Prop) (P:(Sl step)->(Sl step)->(Sl step)->Int->Int->Bool) (S:(Sl step)->(Sl step)->(Sl step)->Int->Int->Int):Prop:=∀ ⦃ze0:(Sl step)⦄ ⦃zen:(Sl step)⦄ ⦃zaY:(Sl step)⦄ ⦃zb8:Int⦄ ⦃zbZ:Int⦄ ⦃zdF:Nat->List PV⦄ ⦃zdG:Nat->List PV⦄ ⦃zga:Nat->List PV⦄,P ze0 zen zaY zb8 zbZ=true->K (zJc (S ze0 zen zaY zb8 zbZ))->zdF=zg zaF ze0->zdG=zg zaF zen->zga=zg zaF zaY->X (zwc ze0 zen zaY zb8 zbZ zdF zdG zga)
section
variable {K:List PA->Prop}{s1_a0:(Sl step)}{s2_a1:(Sl step)}{ze0:(Sl step)}{zen:(Sl step)}{zaY:(Sl step)}{zb8:Int}{zbZ:Int}{zdF:Nat->List PV}{zdG:Nat->List PV}{zga:Nat->List PV}{X0:St->Prop}{P0:(Sl step)->(Sl step)->(Sl step)->Int->Int->Bool}{S0:(Sl step)->(Sl step)->(Sl step)->Int->Int->Int}{zoo:(Sl step)}{zjm:(Sl step)}{iv1:Int}{zcL:(Sl step)}{zb9:Int}{zpH:Int}{ziU:Int}{ziV:Bool}{ziW:Int}{ziX:Int}{ziY:Int}{zop:Nat->List PV}{zoq:Nat->List PV}{zwd:Nat->List PV}{zor:(Sl step)}{zos:(Sl step)}{cv2:Int}{zpI:Int}{zot:Nat->List PV}{zou:Nat->List PV}
def zsq (S0:(Sl step)->(Sl step)->(Sl step)->Int->Int->Int) (zcL:(Sl step)) (zb9:Int) (zor:(Sl step)) (zos:(Sl step)) (cv2:Int) (zpI:Int):Int :=
  (cond (cv2 != (0:Int))
 cv2
 (S0 zor zos zcL zb9 (w64 (zpI+(1:Int)))))
def zsr (P0:(Sl step)->(Sl step)->(Sl step)->Int->Int->Bool) (zcL:(Sl step)) (zb9:Int) (zor:(Sl step)) (zos:(Sl step)) (cv2:Int) (zpI:Int):Bool :=
  (cond (cv2 != (0:Int))
 true
 (P0 zor zos zcL zb9 (w64 (zpI+(1:Int)))))
theorem zBE (hX0:zsp K X0 P0 S0) (hs:zsr P0 zcL zb9 zor zos cv2 zpI=true) (hk:K (zJc (zsq S0 zcL zb9 zor zos cv2 zpI))) (zwe:zot=zg zaF zor) (zwf:zou=zg zaF zos):z107 K [1,0,1,0,0,1,1,0,0,1,1,1,1] [X0] ⟨[(0,zP (.sl zor.len 5 zot)),(1,zP (.sl zos.len 5 zou)),(2,zP (.fn 108 [] [])),(10,zI cv2),(11,zS zaF 5 zcL),(12,zI zb9),(13,zI zpI)],[],[]⟩:=by subst zwe;subst zwf;exact zaZ (by kernel_rfl) (zc hs hk (λ hs hk=>hk) (λ hs hk=>(hX0 hs hk rfl rfl rfl)))
def zss (S0:(Sl step)->(Sl step)->(Sl step)->Int->Int->Int) (zoo:(Sl step)) (zjm:(Sl step)) (iv1:Int) (zcL:(Sl step)) (zb9:Int) (zpH:Int) (ziU:Int) (ziV:Bool) (ziW:Int) (ziX:Int) (ziY:Int):Int :=
  (zsq S0 zcL zb9 zoo zjm (zK7 (⟨(⟨ziU,ziV⟩:Use),ziW,ziX,ziY⟩:step) (zjm.get iv1.toNat)) zpH)
def zst (P0:(Sl step)->(Sl step)->(Sl step)->Int->Int->Bool) (zoo:(Sl step)) (zjm:(Sl step)) (iv1:Int) (zcL:(Sl step)) (zb9:Int) (zpH:Int) (ziU:Int) (ziV:Bool) (ziW:Int) (ziX:Int) (ziY:Int):Bool :=
  (decide ((0<=iv1/\iv1 < (zjm.len:Int))) &&
 (decide ((zLF (⟨(⟨ziU,ziV⟩:Use),ziW,ziX,ziY⟩:step) (zjm.get iv1.toNat)=true)) &&
 (zsr P0 zcL zb9 zoo zjm (zK7 (⟨(⟨ziU,ziV⟩:Use),ziW,ziX,ziY⟩:step) (zjm.get iv1.toNat)) zpH)))
theorem zBF (hX0:zsp K X0 P0 S0) (hs:zst P0 zoo zjm iv1 zcL zb9 zpH ziU ziV ziW ziX ziY=true) (hk:K (zJc (zss S0 zoo zjm iv1 zcL zb9 zpH ziU ziV ziW ziX ziY))) (zwg:zop=zg zaF zoo) (zwh:zoq=zg zaF zjm) (zEz:zwd=zg zaF zcL):z107 K [1,0,1,0,0,1,1,0,0,1,1] [X0] ⟨[(0,zP (.sl zoo.len 5 zop)),(1,zP (.sl zjm.len 5 zoq)),(2,zP (.fn 108 [] [])),(7,zI iv1),(8,zp 8 0),(11,zP (.sl zcL.len 5 zwd)),(12,zI zb9),(13,zI zpH)],[(8,.box 130 (zm (zaF (⟨(⟨ziU,ziV⟩:Use),ziW,ziX,ziY⟩:step))))],[]⟩:=by subst zwg;subst zwh;subst zEz;exact zaZ (by kernel_rfl) (zaT hs λ hc hs=>And.intro hc (zaT hs λ hc hs=>And.intro hc (zBE hX0 hs hk rfl rfl)))
def zsu (S0:(Sl step)->(Sl step)->(Sl step)->Int->Int->Int) (ze0:(Sl step)) (zen:(Sl step)) (zaY:(Sl step)) (zb8:Int) (zbZ:Int):Int :=
  (cond (decide (zbZ < zb8))
 (cond (decide (zbZ >= (zen.len : Int)))
 (1:Int)
 (zss S0 ze0 zen zbZ zaY zb8 zbZ ((zaY.get zbZ.toNat).Use.Tie) ((zaY.get zbZ.toNat).Use.Back) ((zaY.get zbZ.toNat).from_) ((zaY.get zbZ.toNat).to) ((zaY.get zbZ.toNat).length)))
 (cond (decide ((ze0.len : Int) < (zen.len : Int)))
 (-1:Int)
 (0:Int)))
def zsv (P0:(Sl step)->(Sl step)->(Sl step)->Int->Int->Bool) (ze0:(Sl step)) (zen:(Sl step)) (zaY:(Sl step)) (zb8:Int) (zbZ:Int):Bool :=
  (cond (decide (zbZ < zb8))
 (decide ((0<=zbZ/\zbZ < (zaY.len:Int))) &&
 (cond (decide (zbZ >= (zen.len : Int)))
 true
 (zst P0 ze0 zen zbZ zaY zb8 zbZ ((zaY.get zbZ.toNat).Use.Tie) ((zaY.get zbZ.toNat).Use.Back) ((zaY.get zbZ.toNat).from_) ((zaY.get zbZ.toNat).to) ((zaY.get zbZ.toNat).length))))
 true)
def zsw:Nat->(Sl step)->(Sl step)->(Sl step)->Int->Int->Int:=lpO (λ _ _ _ _ _=>default) (zsu)
def zsx:Nat->(Sl step)->(Sl step)->(Sl step)->Int->Int->Bool:=lpO (λ _ _ _ _ _=>false) (zsv)
def zsy (ze0:(Sl step)) (zen:(Sl step)) (zaY:(Sl step)) (zb8:Int) (zbZ:Int):Int:=zsw Fuel ze0 zen zaY zb8 zbZ
def zsz (ze0:(Sl step)) (zen:(Sl step)) (zaY:(Sl step)) (zb8:Int) (zbZ:Int):Bool:=zsx Fuel ze0 zen zaY zb8 zbZ
theorem zBG (hs:zsz ze0 zen zaY zb8 zbZ=true) (hk:K (zJc (zsy ze0 zen zaY zb8 zbZ))) (zku:zdF=zg zaF ze0) (zkv:zdG=zg zaF zen) (zpJ:zga=zg zaF zaY):z107 K [1,0,1,0] [] (zwc ze0 zen zaY zb8 zbZ zdF zdG zga) :=
  zl (λ X=>z107 K [1,0,1,0,0] [X]) (by kernel_rfl) λ X0 hX =>
  (show ∀ k, zsp K X0 (zsx k) (zsw k) from zfg _ _ (zsv) (zsu) (zsp K X0)
 (by intro _ _ _ _ _ _ _ _ hs;exact absurd hs dqk)
 (by intro P0 S0 hX0 ze0 zen zaY zb8 zbZ zdF zdG zga hs hk zku zkv zpJ;subst zku;subst zkv;subst zpJ;exact hX _ (zaZ (by kernel_rfl) (zc hs hk (λ hs hk=>(zaT hs λ hc hs=>And.intro hc (zc hs hk (λ hs hk=>hk) (λ hs hk=>(zBF hX0 hs hk rfl rfl rfl))))) (λ hs hk=>(zt hk (λ hk=>hk) (λ hk=>hk))))))) _ hs hk zku zkv zpJ
def zHU (s1_a0:(Sl step)) (s2_a1:(Sl step)):Int :=
  (zsy s1_a0 s2_a1 s1_a0 (s1_a0.len:Int) (0:Int))
def zK8 (s1_a0:(Sl step)) (s2_a1:(Sl step)):Bool :=
  (zsz s1_a0 s2_a1 s1_a0 (s1_a0.len:Int) (0:Int))
end
theorem zNN (s1_a0:(Sl step)) (s2_a1:(Sl step)) (K:List PA->Prop) (hs:zK8 s1_a0 s2_a1=true) (hk:K (zJc (zHU s1_a0 s2_a1))):vcFun Tryd.prog zM7 zwb 107 [.one (.sl s1_a0.len 5 (λ i=>zaF (s1_a0.get i))),.one (.sl s2_a1.len 5 (λ i=>zaF (s2_a1.get i))),.one (.fn 108 [] [])] K :=
  zaZ (by kernel_rfl) (zBG hs hk rfl rfl rfl)
def zwi : List PA → COut
  | [.one (.sl zf8 zlS zf9),.one (.sl zdb zgC zc8),.one (.fn 108 [] [])]=>.det (IsE zaF 5 zlS zf9/\IsE zaF 5 zgC zc8/\zK8 (⟨zf8,zhE zf9⟩:(Sl step)) (⟨zdb,zhE zc8⟩:(Sl step))=true) [.one (.int .i64 (zHU (⟨zf8,zhE zf9⟩:(Sl step)) (⟨zdb,zhE zc8⟩:(Sl step))))]
  | _=>.no
theorem zEA:zar Tryd.prog 107:=⟨_,rfl,rfl,by kernel_rfl⟩
theorem zLH:Ok Tryd.prog 107 zwi:=zbu zJb zEA λ args K h=>by
  unfold zwi at h
  split at h
  · rename_i zf8 zlS zf9 zdb zgC zc8
    obtain⟨⟨⟨rfl,zid,rfl⟩,⟨rfl,ze1,rfl⟩,hs⟩,hk⟩:=h
    try rw[zeL zid] at hs
    try rw[zeL zid] at hk
    try rw[zeL ze1] at hs
    try rw[zeL ze1] at hk
    exact⟨(λ _ _=>[]),(λ _=>false),zwb,zNN (⟨zf8,zid⟩:(Sl step)) (⟨zdb,ze1⟩:(Sl step)) K hs hk⟩
  · exact h.elim
abbrev T89:Tabs:=((((Tabs.nil.addF 93 zoh).addF 106 zv5).addF 107 zwi).addI 110 zoj)
theorem zLI:TabsOk Tryd.prog T89:=((((TabsOk.nil.addF zHS).addF zLB).addF zLH).addI ztD)
abbrev G89:Ctrs:=csm T89 (λ _ _=>[]) (λ _=>false)
def zwj:Ann:=⟨148,[(0,zK [0] []),(1,zK [0,3] [21]),(2,zK [0,3,23,24] [21]),(3,zK [0,3,23,24,25] [21]),(4,zK [0,3,4,23,24] [21]),(5,zK [0,3,23,24] [21]),(6,zK [0,3,23,24] [21]),(7,zK [0,3] [21]),(8,zK [0,3,5] [21]),(9,zK [0,3,5,45] [21]),(10,zK [0,3,5] [21]),(11,zK [0,3,5,48,49,50] [21]),(12,zK [0,3,5,48,49,50,51] [21]),(13,zK [0,3,5,6,7,48,49,50] [21]),(14,zK [0,3,5,48,49,50,62] [21]),(15,zK [0,3,5,48,49,50] [21]),(16,zK [0,3,5,8] [21]),(17,zK [0,5,8,64,65,66] [21]),(18,zK [0,5,8,64,65,66,67] [21]),(19,zK [0,5,8,9,10,64,65,66] [9,10,21]),(20,zK [0,5,8,9,10,64,65,66,78] [9,10,21]),(21,zK [0,5,8,9,10,11,64,65,66] [9,10,11,21]),(22,zK [0,5,8,9,10,11,12,13,64,65,66] [9,10,11,12,13,21]),(23,zK [0,5,8,9,10,11,12,13,14,64,65,66] [9,10,11,12,13,14,21]),(24,zK [0,5,8,9,10,11,12,13,14,64,65,66,83] [9,10,11,12,13,14,21,129]),(25,zK [0,5,8,9,10,11,12,13,14,64,65,66] [9,10,11,12,13,14,21,129]),(26,zK [0,5,8,9,10,11,12,13,14,64,65,66,87] [9,10,11,12,13,14,21,129]),(27,zK [0,5,8,9,10,11,12,13,14,15,64,65,66,87] [9,10,11,12,13,14,15,21,129]),(28,zK [0,5,8,9,10,11,12,13,14,15,64,65,66,87,125] [9,10,11,12,13,14,15,21,129]),(29,zK [0,5,8,9,10,11,12,13,14,15,64,65,66] [9,10,11,12,13,14,15,21,129]),(30,zK [0,5,8,9,10,11,12,13,14,64,65,66] [9,10,11,12,13,14,21,129]),(31,zK [0,5,8,9,10,11,12,13,64,65,66,136] [9,10,11,12,13,21,129]),(32,zK [0,5,8,9,10,11,12,13,14,64,65,66] [9,10,11,12,13,14,21,129]),(33,zK [0,5,8,11,64,65,66,144] [11,21,129]),(34,zK [0,5,8,64,65,66] [21,129]),(35,zK [0,5,8,64,65,66] [21,129]),(36,zK [2] [])],
 [(3,zK [0,3,23,24] [21]),(9,zK [0,3,5] [21]),(12,zK [0,3,5,48,49,50] [21]),(18,⟨[0,5,8,64,65,66],[21],[],[],[],[],[(8,1005,λ _=>zaF default)]⟩),(24,⟨[0,5,8,9,10,11,12,13,14,64,65,66],[9,10,11,12,13,14,21,129],[],[(11,0,129,130,λ _=>zaF default)],[],[],[]⟩),(27,zK [0,5,8,9,10,11,12,13,14,64,65,66,87] [9,10,11,12,13,14,21,129])],
 [(7,zK [0,3] [21]),(16,zK [0,3,5] [21]),(34,zK [0,5,8,11,64,65,66,144] [11,21,129])],
 [],[]⟩
abbrev R89:=(Sl step)
abbrev e89 (r:R89):List PA:=[.one (.sl r.len 5 (λ i=>zaF (r.get i)))]
@[irreducible] def z89:=ptF Tryd.prog G89 zwj Tryd.f89
@[irreducible] def x89:=exF Tryd.prog G89 zwj Tryd.f89
@[irreducible] def y89:=rnF Tryd.prog G89 zwj Tryd.f89
def zCJ (w:web) (zcW:Int) (zdn:(Sl (Sl Tab))) (zgb:Nat->List PV):St:=⟨[(0,zP (.fp (zaD w) 0)),(3,zv 21),(23,zI (w.Net.Nodes.toNat:Int)),(24,zI zcW)],[(21,.vec 159 1 24 zdn.len zgb)],[]⟩
abbrev zJd (K:List PA->Prop) (w:web) (X:St->Prop) (P:Int->(Sl (Sl Tab))->Bool) (S:Int->(Sl (Sl Tab))->(Sl step)):Prop:=∀ ⦃zcW:Int⦄ ⦃zdn:(Sl (Sl Tab))⦄ ⦃zgb:Nat->List PV⦄,P zcW zdn=true->K (e89 (S zcW zdn))->zgb=zg zcU zdn->X (zCJ w zcW zdn zgb)
def zCK (w:web) (zbj:(Sl (Sl Tab))) (zcH:Int):St:=⟨[(0,zP (.fp (zaD w) 0)),(3,zv 21),(5,zI zcH)],[(21,.vec 159 1 24 zbj.len (λ i=>zcU (zbj.get i)))],[]⟩
abbrev zEB (K:List PA->Prop) (w:web) (zbj:(Sl (Sl Tab))) (X:St->Prop) (P:Int->Bool) (S:Int->(Sl step)):Prop:=∀ ⦃zcH:Int⦄,P zcH=true->K (e89 (S zcH))->X (zCK w zbj zcH)
def zCL (w:web) (zbj:(Sl (Sl Tab))) (zch:Int) (zc3:Int):St:=⟨[(0,zP (.fp (zaD w) 0)),(3,zv 21),(5,zI zch),(48,zv 21),(49,zI (zbj.len:Int)),(50,zI zc3)],[(21,.vec 159 1 24 zbj.len (λ i=>zcU (zbj.get i)))],[]⟩
abbrev zJe (K:List PA->Prop) (w:web) (zbj:(Sl (Sl Tab))) (X:St->Prop) (P:Int->Int->Bool) (S:Int->Int->(Sl step)):Prop:=∀ ⦃zch:Int⦄ ⦃zc3:Int⦄,P zch zc3=true->K (e89 (S zch zc3))->X (zCL w zbj zch zc3)
def zCM (w:web) (zaQ:(Sl (Sl Tab))) (zci:Int) (zbN:Bool) (zcC:(Sl step)) (zcp:Int) (zc9:(Sl (Sl Tab))) (zeQ:Nat->List PV) (zgc:Nat->List PV):St:=⟨[(0,zP (.fp (zaD w) 0)),(5,zI zci),(8,zP (.ns zbN zcC.len 5 zeQ)),(64,zv 21),(65,zI (zaQ.len:Int)),(66,zI zcp)],[(21,.vec 159 1 24 zc9.len zgc)],[]⟩
abbrev zwk (K:List PA->Prop) (w:web) (zaQ:(Sl (Sl Tab))) (X:St->Prop) (P:Int->Bool->(Sl step)->Int->(Sl (Sl Tab))->Bool) (S:Int->Bool->(Sl step)->Int->(Sl (Sl Tab))->(Sl step)):Prop:=∀ ⦃zci:Int⦄ ⦃zbN:Bool⦄ ⦃zcC:(Sl step)⦄ ⦃zcp:Int⦄ ⦃zc9:(Sl (Sl Tab))⦄ ⦃zeQ:Nat->List PV⦄ ⦃zgc:Nat->List PV⦄,P zci zbN zcC zcp zc9=true->K (e89 (S zci zbN zcC zcp zc9))->zeQ=zg zaF zcC->zgc=zg zcU zc9->X (zCM w zaQ zci zbN zcC zcp zc9 zeQ zgc)
def zCN (w:web) (zaQ:(Sl (Sl Tab))) (zcI:Int) (zbr:Bool) (zb0:(Sl step)) (zey:Int) (iv6:Int) (hv6:(Sl Tab)) (znq:Int) (zbT:Int) (kv6:Int) (zd1:(Sl (Sl Tab))) (zb5:(Sl step)) (zeR:Nat->List PV) (zov:Nat->List PV) (zgd:Nat->List PV) (zeS:Nat->List PV):St:=⟨[(0,zP (.fp (zaD w) 0)),(5,zI zcI),(8,zP (.ns zbr zb0.len 5 zeR)),(9,zp 9 0),(10,zp 10 0),(11,zp 11 0),(12,zp 12 0),(13,zp 13 0),(14,zp 14 0),(64,zv 21),(65,zI (zaQ.len:Int)),(66,zI zey)],[(9,.box 3 [zi iv6]),(10,.box 159 [.p (.sl hv6.len 80 zov)]),(11,.box 127 [.vec 129]),(12,.box 3 [zi znq]),(13,.box 3 [zi zbT]),(14,.box 3 [zi kv6]),(21,.vec 159 1 24 zd1.len zgd),(129,.vec 130 5 40 zb5.len zeS)],[]⟩
abbrev zEC (K:List PA->Prop) (w:web) (zaQ:(Sl (Sl Tab))) (X:St->Prop) (P:Int->Bool->(Sl step)->Int->Int->(Sl Tab)->Int->Int->Int->(Sl (Sl Tab))->(Sl step)->Bool) (S:Int->Bool->(Sl step)->Int->Int->(Sl Tab)->Int->Int->Int->(Sl (Sl Tab))->(Sl step)->(Sl step)):Prop:=∀ ⦃zcI:Int⦄ ⦃zbr:Bool⦄ ⦃zb0:(Sl step)⦄ ⦃zey:Int⦄ ⦃iv6:Int⦄ ⦃hv6:(Sl Tab)⦄ ⦃znq:Int⦄ ⦃zbT:Int⦄ ⦃kv6:Int⦄ ⦃zd1:(Sl (Sl Tab))⦄ ⦃zb5:(Sl step)⦄ ⦃zeR:Nat->List PV⦄ ⦃zov:Nat->List PV⦄ ⦃zgd:Nat->List PV⦄ ⦃zeS:Nat->List PV⦄,P zcI zbr zb0 zey iv6 hv6 znq zbT kv6 zd1 zb5=true->K (e89 (S zcI zbr zb0 zey iv6 hv6 znq zbT kv6 zd1 zb5))->zeR=zg zaF zb0->zov=zg zan hv6->zgd=zg zcU zd1->zeS=zg zaF zb5->X (zCN w zaQ zcI zbr zb0 zey iv6 hv6 znq zbT kv6 zd1 zb5 zeR zov zgd zeS)
def zwl (w:web) (zaQ:(Sl (Sl Tab))) (zbP:Int) (za5:Bool) (zbO:(Sl step)) (zcO:Int) (iv7:Int) (hv7:(Sl Tab)) (zgK:Int) (za1:Int) (kv7:Int) (zcG:(Sl (Sl Tab))) (zbw:(Sl step)) (zdw:Nat->List PV) (zlf:Nat->List PV) (ze2:Nat->List PV) (zdx:Nat->List PV):St:=⟨[(0,zP (.fp (zaD w) 0)),(5,zI zbP),(8,zP (.ns za5 zbO.len 5 zdw)),(9,zp 9 0),(10,zp 10 0),(11,zp 11 0),(12,zp 12 0),(13,zp 13 0),(14,zp 14 0),(64,zv 21),(65,zI (zaQ.len:Int)),(66,zI zcO),(87,zP (.fn 110 [] [.fp [.fp (zaD w) 0] 0]))],[(9,.box 3 [zi iv7]),(10,.box 159 [.p (.sl hv7.len 80 zlf)]),(11,.box 127 [.vec 129]),(12,.box 3 [zi zgK]),(13,.box 3 [zi za1]),(14,.box 3 [zi kv7]),(21,.vec 159 1 24 zcG.len ze2),(129,.vec 130 5 40 zbw.len zdx)],[]⟩
abbrev zJf (K:List PA->Prop) (w:web) (zaQ:(Sl (Sl Tab))) (X:St->Prop) (P:Int->Bool->(Sl step)->Int->Int->(Sl Tab)->Int->Int->Int->(Sl (Sl Tab))->(Sl step)->Bool) (S:Int->Bool->(Sl step)->Int->Int->(Sl Tab)->Int->Int->Int->(Sl (Sl Tab))->(Sl step)->(Sl step)):Prop:=∀ ⦃zbP:Int⦄ ⦃za5:Bool⦄ ⦃zbO:(Sl step)⦄ ⦃zcO:Int⦄ ⦃iv7:Int⦄ ⦃hv7:(Sl Tab)⦄ ⦃zgK:Int⦄ ⦃za1:Int⦄ ⦃kv7:Int⦄ ⦃zcG:(Sl (Sl Tab))⦄ ⦃zbw:(Sl step)⦄ ⦃zdw:Nat->List PV⦄ ⦃zlf:Nat->List PV⦄ ⦃ze2:Nat->List PV⦄ ⦃zdx:Nat->List PV⦄,P zbP za5 zbO zcO iv7 hv7 zgK za1 kv7 zcG zbw=true->K (e89 (S zbP za5 zbO zcO iv7 hv7 zgK za1 kv7 zcG zbw))->zdw=zg zaF zbO->zlf=zg zan hv7->ze2=zg zcU zcG->zdx=zg zaF zbw->X (zwl w zaQ zbP za5 zbO zcO iv7 hv7 zgK za1 kv7 zcG zbw zdw zlf ze2 zdx)
section
variable {K:List PA->Prop}{w:web}{zcW:Int}{zdn:(Sl (Sl Tab))}{zgb:Nat->List PV}{X0:St->Prop}{P0:Int->(Sl (Sl Tab))->Bool}{S0:Int->(Sl (Sl Tab))->(Sl step)}{zbj:(Sl (Sl Tab))}{zwm:Nat->List PV}{zcH:Int}{X2:St->Prop}{P2:Int->Bool}{S2:Int->(Sl step)}{zch:Int}{zc3:Int}{X3:St->Prop}{P3:Int->Int->Bool}{S3:Int->Int->(Sl step)}{zkw:Int}{zaQ:(Sl (Sl Tab))}{zwn:Nat->List PV}{zci:Int}{zbN:Bool}{zcC:(Sl step)}{zcp:Int}{zc9:(Sl (Sl Tab))}{zeQ:Nat->List PV}{zgc:Nat->List PV}{X5:St->Prop}{P5:Int->Bool->(Sl step)->Int->(Sl (Sl Tab))->Bool}{S5:Int->Bool->(Sl step)->Int->(Sl (Sl Tab))->(Sl step)}{zcI:Int}{zbr:Bool}{zb0:(Sl step)}{zey:Int}{iv6:Int}{hv6:(Sl Tab)}{znq:Int}{zbT:Int}{kv6:Int}{zd1:(Sl (Sl Tab))}{zb5:(Sl step)}{zeR:Nat->List PV}{zov:Nat->List PV}{zgd:Nat->List PV}{zeS:Nat->List PV}{X6:St->Prop}{P6:Int->Bool->(Sl step)->Int->Int->(Sl Tab)->Int->Int->Int->(Sl (Sl Tab))->(Sl step)->Bool}{S6:Int->Bool->(Sl step)->Int->Int->(Sl Tab)->Int->Int->Int->(Sl (Sl Tab))->(Sl step)->(Sl step)}{zbP:Int}{za5:Bool}{zbO:(Sl step)}{zcO:Int}{iv7:Int}{hv7:(Sl Tab)}{zgK:Int}{za1:Int}{kv7:Int}{zcG:(Sl (Sl Tab))}{zbw:(Sl step)}{zdw:Nat->List PV}{zlf:Nat->List PV}{ze2:Nat->List PV}{zdx:Nat->List PV}{zhH:Int}{zfI:Bool}{ziZ:(Sl step)}{zmN:Int}{zkx:Bool}{zlg:(Sl (Sl Tab))}{zi0:(Sl step)}{zsA:Nat->List PV}{zwo:Nat->List PV}{zsB:Nat->List PV}
def zky (S5:Int->Bool->(Sl step)->Int->(Sl (Sl Tab))->(Sl step)) (w:web) (zaQ:(Sl (Sl Tab))) (zhH:Int) (zfI:Bool) (ziZ:(Sl step)) (zmN:Int) (zkx:Bool) (zlg:(Sl (Sl Tab))) (zi0:(Sl step)):(Sl step) :=
  (cond zkx
 (S5 zhH false zi0 (w64 (zmN+(1:Int))) zlg)
 (S5 zhH zfI ziZ (w64 (zmN+(1:Int))) zlg))
def zkz (P5:Int->Bool->(Sl step)->Int->(Sl (Sl Tab))->Bool) (w:web) (zaQ:(Sl (Sl Tab))) (zhH:Int) (zfI:Bool) (ziZ:(Sl step)) (zmN:Int) (zkx:Bool) (zlg:(Sl (Sl Tab))) (zi0:(Sl step)):Bool :=
  (cond zkx
 (P5 zhH false zi0 (w64 (zmN+(1:Int))) zlg)
 (P5 zhH zfI ziZ (w64 (zmN+(1:Int))) zlg))
theorem zwp (hX5:zwk K w zaQ X5 P5 S5) (hs:zkz P5 w zaQ zhH zfI ziZ zmN zkx zlg zi0=true) (hk:K (e89 (zky S5 w zaQ zhH zfI ziZ zmN zkx zlg zi0))) (zBH:zsA=zg zaF ziZ) (zED:zwo=zg zcU zlg) (zBI:zsB=zg zaF zi0):z89 K [1,0,1,1,1,1,1,1,0,1,0,0,1,1,0,0,1,1,1,1,1,1] [X5] ⟨[(0,zP (.fp (zaD w) 0)),(5,zI zhH),(8,zP (.ns zfI ziZ.len 5 zsA)),(11,zp 11 0),(64,zv 21),(65,zI (zaQ.len:Int)),(66,zI zmN),(144,zB zkx)],[(11,.box 127 [.vec 129]),(21,.vec 159 1 24 zlg.len zwo),(129,.vec 130 5 40 zi0.len zsB)],[]⟩:=by subst zBH;subst zED;subst zBI;exact zaZ (by kernel_rfl) (zc hs hk (λ hs hk=>(hX5 hs hk rfl rfl)) (λ hs hk=>(hX5 hs hk rfl rfl)))
def zEE (S5:Int->Bool->(Sl step)->Int->(Sl (Sl Tab))->(Sl step)) (S6:Int->Bool->(Sl step)->Int->Int->(Sl Tab)->Int->Int->Int->(Sl (Sl Tab))->(Sl step)->(Sl step)) (w:web) (zaQ:(Sl (Sl Tab))) (zbP:Int) (za5:Bool) (zbO:(Sl step)) (zcO:Int) (iv7:Int) (hv7:(Sl Tab)) (zgK:Int) (za1:Int) (kv7:Int) (zcG:(Sl (Sl Tab))) (zbw:(Sl step)):(Sl step) :=
  (S6 zbP za5 zbO zcO iv7 hv7 zgK za1 (w64 (kv7 - (1:Int))) zcG zbw)
def zEF (P5:Int->Bool->(Sl step)->Int->(Sl (Sl Tab))->Bool) (P6:Int->Bool->(Sl step)->Int->Int->(Sl Tab)->Int->Int->Int->(Sl (Sl Tab))->(Sl step)->Bool) (w:web) (zaQ:(Sl (Sl Tab))) (zbP:Int) (za5:Bool) (zbO:(Sl step)) (zcO:Int) (iv7:Int) (hv7:(Sl Tab)) (zgK:Int) (za1:Int) (kv7:Int) (zcG:(Sl (Sl Tab))) (zbw:(Sl step)):Bool :=
  (P6 zbP za5 zbO zcO iv7 hv7 zgK za1 (w64 (kv7 - (1:Int))) zcG zbw)
def zpK (S5:Int->Bool->(Sl step)->Int->(Sl (Sl Tab))->(Sl step)) (S6:Int->Bool->(Sl step)->Int->Int->(Sl Tab)->Int->Int->Int->(Sl (Sl Tab))->(Sl step)->(Sl step)) (w:web) (zaQ:(Sl (Sl Tab))) (y7:step) (S7:Int->Bool->(Sl step)->Int->Int->(Sl Tab)->Int->Int->Int->(Sl (Sl Tab))->(Sl step)->(Sl step)) (zbP:Int) (za5:Bool) (zbO:(Sl step)) (zcO:Int) (iv7:Int) (hv7:(Sl Tab)) (zgK:Int) (za1:Int) (kv7:Int) (zcG:(Sl (Sl Tab))) (zbw:(Sl step)):(Sl step) :=
  (cond (y7.from_ == zgK)
 (cond (decide (y7.to >= iv7))
 (cond (!(nvr (tL (hv7.get kv7.toNat) y7.to) (tU (hv7.get kv7.toNat) y7.to)))
 (cond (decide ((w64 ((w64 (za1 + y7.length)) + (tL (hv7.get kv7.toNat) y7.to))) < (0:Int)))
 (S6 zbP za5 zbO zcO iv7 hv7 y7.to (w64 (za1+y7.length)) (w64 (kv7 - (1:Int))) zcG (⟨(zbw.len+1),(zgB zbw.len zbw.get (λ _=>y7))⟩:Sl step))
 (S7 zbP za5 zbO zcO iv7 hv7 zgK za1 kv7 zcG zbw))
 (S7 zbP za5 zbO zcO iv7 hv7 zgK za1 kv7 zcG zbw))
 (S7 zbP za5 zbO zcO iv7 hv7 zgK za1 kv7 zcG zbw))
 (S7 zbP za5 zbO zcO iv7 hv7 zgK za1 kv7 zcG zbw))
def zpL (P5:Int->Bool->(Sl step)->Int->(Sl (Sl Tab))->Bool) (P6:Int->Bool->(Sl step)->Int->Int->(Sl Tab)->Int->Int->Int->(Sl (Sl Tab))->(Sl step)->Bool) (w:web) (zaQ:(Sl (Sl Tab))) (y7:step) (P7:Int->Bool->(Sl step)->Int->Int->(Sl Tab)->Int->Int->Int->(Sl (Sl Tab))->(Sl step)->Bool) (zbP:Int) (za5:Bool) (zbO:(Sl step)) (zcO:Int) (iv7:Int) (hv7:(Sl Tab)) (zgK:Int) (za1:Int) (kv7:Int) (zcG:(Sl (Sl Tab))) (zbw:(Sl step)):Bool :=
  (cond (y7.from_ == zgK)
 (cond (decide (y7.to >= iv7))
 (decide ((0<=kv7/\kv7 < (hv7.len:Int))) &&
 (decide ((0<=y7.to/\y7.to < (40:Int))) &&
 (cond (!(nvr (tL (hv7.get kv7.toNat) y7.to) (tU (hv7.get kv7.toNat) y7.to)))
 (decide ((0<=kv7/\kv7 < (hv7.len:Int))) &&
 (decide ((0<=y7.to/\y7.to < (40:Int))) &&
 (cond (decide ((w64 ((w64 (za1 + y7.length)) + (tL (hv7.get kv7.toNat) y7.to))) < (0:Int)))
 (decide (((zbw.len+1) * 40<=140737488355328/\zbw.len+1<=9223372036854775807)) &&
 (P6 zbP za5 zbO zcO iv7 hv7 y7.to (w64 (za1+y7.length)) (w64 (kv7 - (1:Int))) zcG (⟨(zbw.len+1),(zgB zbw.len zbw.get (λ _=>y7))⟩:Sl step)))
 (P7 zbP za5 zbO zcO iv7 hv7 zgK za1 kv7 zcG zbw))))
 (P7 zbP za5 zbO zcO iv7 hv7 zgK za1 kv7 zcG zbw))))
 (P7 zbP za5 zbO zcO iv7 hv7 zgK za1 kv7 zcG zbw))
 (P7 zbP za5 zbO zcO iv7 hv7 zgK za1 kv7 zcG zbw))
def zdo (S5:Int->Bool->(Sl step)->Int->(Sl (Sl Tab))->(Sl step)) (S6:Int->Bool->(Sl step)->Int->Int->(Sl Tab)->Int->Int->Int->(Sl (Sl Tab))->(Sl step)->(Sl step)) (w:web) (zaQ:(Sl (Sl Tab))):List step->Int->Bool->(Sl step)->Int->Int->(Sl Tab)->Int->Int->Int->(Sl (Sl Tab))->(Sl step)->(Sl step):=lpR (zEE S5 S6 w zaQ) (zpK S5 S6 w zaQ)
def zdp (P5:Int->Bool->(Sl step)->Int->(Sl (Sl Tab))->Bool) (P6:Int->Bool->(Sl step)->Int->Int->(Sl Tab)->Int->Int->Int->(Sl (Sl Tab))->(Sl step)->Bool) (w:web) (zaQ:(Sl (Sl Tab))):List step->Int->Bool->(Sl step)->Int->Int->(Sl Tab)->Int->Int->Int->(Sl (Sl Tab))->(Sl step)->Bool:=lpR (zEF P5 P6 w zaQ) (zpL P5 P6 w zaQ)
def zpM (S5:Int->Bool->(Sl step)->Int->(Sl (Sl Tab))->(Sl step)) (S6:Int->Bool->(Sl step)->Int->Int->(Sl Tab)->Int->Int->Int->(Sl (Sl Tab))->(Sl step)->(Sl step)) (w:web) (zaQ:(Sl (Sl Tab))) (zbP:Int) (za5:Bool) (zbO:(Sl step)) (zcO:Int) (iv7:Int) (hv7:(Sl Tab)) (zgK:Int) (za1:Int) (kv7:Int) (zcG:(Sl (Sl Tab))) (zbw:(Sl step)):(Sl step):=zdo S5 S6 w zaQ (zks w) zbP za5 zbO zcO iv7 hv7 zgK za1 kv7 zcG zbw
def zpN (P5:Int->Bool->(Sl step)->Int->(Sl (Sl Tab))->Bool) (P6:Int->Bool->(Sl step)->Int->Int->(Sl Tab)->Int->Int->Int->(Sl (Sl Tab))->(Sl step)->Bool) (w:web) (zaQ:(Sl (Sl Tab))) (zbP:Int) (za5:Bool) (zbO:(Sl step)) (zcO:Int) (iv7:Int) (hv7:(Sl Tab)) (zgK:Int) (za1:Int) (kv7:Int) (zcG:(Sl (Sl Tab))) (zbw:(Sl step)):Bool:=decide ((ztP w=true)) && zdp P5 P6 w zaQ (zks w) zbP za5 zbO zcO iv7 hv7 zgK za1 kv7 zcG zbw
theorem zEG (hX5:zwk K w zaQ X5 P5 S5) (hX6:zEC K w zaQ X6 P6 S6) (hs:zpN P5 P6 w zaQ zbP za5 zbO zcO iv7 hv7 zgK za1 kv7 zcG zbw=true) (hk:K (e89 (zpM S5 S6 w zaQ zbP za5 zbO zcO iv7 hv7 zgK za1 kv7 zcG zbw))) (zhI:zdw=zg zaF zbO) (zwq:zlf=zg zan hv7) (zkA:ze2=zg zcU zcG) (zhJ:zdx=zg zaF zbw):z89 K [1,0,1,1,1,1,1,1,0,1,0,0,1,1,0,0,1,1,1,1,0,1,0,0,1,0,0,1,0] [X5,X6] (zwl w zaQ zbP za5 zbO zcO iv7 hv7 zgK za1 kv7 zcG zbw zdw zlf ze2 zdx) :=
  zaT hs λ hc hs=>zr (enc:=(λ y:step=>[.agg (zaF y)])) (ys:=zks w) (g:=(zwl w zaQ zbP za5 zbO zcO iv7 hv7 zgK za1 kv7 zcG zbw zdw zlf ze2 zdx)) (x89 K [1,0,1,1,1,1,1,1,0,1,0,0,1,1,0,0,1,1,1,1,0,1,0,0,1,0,0,1,0] [X5,X6]) (y89 K [1,0,1,1,1,1,1,1,0,1,0,0,1,1,0,0,1,1,1,1,0,1,0,0,1,0,0,1,0] [X5,X6]) (by kernel_rfl) (And.intro (zE enc_40 4 w.Net.Ties.get) (And.intro (rfl:((false,1,false,[none]):MQ)=(false,1,false,[none])) hc)) λ X7 hE hR =>
  (show ∀ l : List step, zJf K w zaQ (X7 (l.map (λ y : step => [.agg (zaF y)]))) (zdp P5 P6 w zaQ l) (zdo S5 S6 w zaQ l) from zri (X := X7) (enc := (λ y : step => [.agg (zaF y)])) _ _ (zpL P5 P6 w zaQ) (zpK S5 S6 w zaQ) (λ Z P S => zJf K w zaQ Z P S)
 (by intro zbP za5 zbO zcO iv7 hv7 zgK za1 kv7 zcG zbw zdw zlf ze2 zdx hs hk zhI zwq zkA zhJ;subst zhI;subst zwq;subst zkA;subst zhJ;exact hE _ (zaZ (by kernel_rfl) (hX6 hs hk rfl rfl rfl rfl)))
 (by intro y7 rest P7 S7 hX7 zbP za5 zbO zcO iv7 hv7 zgK za1 kv7 zcG zbw zdw zlf ze2 zdx hs hk zhI zwq zkA zhJ;subst zhI;subst zwq;subst zkA;subst zhJ;exact hR _ rest _ (zaZ (by kernel_rfl) (zc hs hk (λ hs hk=>(zc hs hk (λ hs hk=>(zaT hs λ hc hs=>And.intro hc (zaT hs λ hc hs=>And.intro hc (zc hs hk (λ hs hk=>(zaT hs λ hc hs=>And.intro hc (zaT hs λ hc hs=>And.intro hc (zc hs hk (λ hs hk=>(zaT hs λ hc hs=>And.intro hc (hX6 hs hk rfl rfl rfl (zko (enc:=zaF) (f:=zbw.get) (h:=(λ _=>y7)) rfl rfl)))) (λ hs hk=>(hX7 hs hk rfl rfl rfl rfl)))))) (λ hs hk=>(hX7 hs hk rfl rfl rfl rfl)))))) (λ hs hk=>(hX7 hs hk rfl rfl rfl rfl)))) (λ hs hk=>(hX7 hs hk rfl rfl rfl rfl)))))) _ hs hk zhI zwq zkA zhJ
def zie (S5:Int->Bool->(Sl step)->Int->(Sl (Sl Tab))->(Sl step)) (w:web) (zaQ:(Sl (Sl Tab))) (S6:Int->Bool->(Sl step)->Int->Int->(Sl Tab)->Int->Int->Int->(Sl (Sl Tab))->(Sl step)->(Sl step)) (zcI:Int) (zbr:Bool) (zb0:(Sl step)) (zey:Int) (iv6:Int) (hv6:(Sl Tab)) (znq:Int) (zbT:Int) (kv6:Int) (zd1:(Sl (Sl Tab))) (zb5:(Sl step)):(Sl step) :=
  (cond (decide (kv6 >= (0:Int)))
 (zpM S5 S6 w zaQ zcI zbr zb0 zey iv6 hv6 znq zbT kv6 zd1 zb5)
 (cond zbr
 (zky S5 w zaQ zcI zbr zb0 zey true zd1 zb5)
 (zky S5 w zaQ zcI zbr zb0 zey (decide ((zHU zb5 zb0) < (0:Int))) zd1 zb5)))
def zif (P5:Int->Bool->(Sl step)->Int->(Sl (Sl Tab))->Bool) (w:web) (zaQ:(Sl (Sl Tab))) (P6:Int->Bool->(Sl step)->Int->Int->(Sl Tab)->Int->Int->Int->(Sl (Sl Tab))->(Sl step)->Bool) (zcI:Int) (zbr:Bool) (zb0:(Sl step)) (zey:Int) (iv6:Int) (hv6:(Sl Tab)) (znq:Int) (zbT:Int) (kv6:Int) (zd1:(Sl (Sl Tab))) (zb5:(Sl step)):Bool :=
  (cond (decide (kv6 >= (0:Int)))
 (zpN P5 P6 w zaQ zcI zbr zb0 zey iv6 hv6 znq zbT kv6 zd1 zb5)
 (decide ((zbr=true\/zb0.len ≠ 0)) &&
 (cond zbr
 (zkz P5 w zaQ zcI zbr zb0 zey true zd1 zb5)
 (decide ((zK8 zb5 zb0=true)) &&
 (zkz P5 w zaQ zcI zbr zb0 zey (decide ((zHU zb5 zb0) < (0:Int))) zd1 zb5)))))
def zih (S5:Int->Bool->(Sl step)->Int->(Sl (Sl Tab))->(Sl step)) (w:web) (zaQ:(Sl (Sl Tab))):Nat->Int->Bool->(Sl step)->Int->Int->(Sl Tab)->Int->Int->Int->(Sl (Sl Tab))->(Sl step)->(Sl step):=lpO (λ _ _ _ _ _ _ _ _ _ _ _=>default) (zie S5 w zaQ)
def zii (P5:Int->Bool->(Sl step)->Int->(Sl (Sl Tab))->Bool) (w:web) (zaQ:(Sl (Sl Tab))):Nat->Int->Bool->(Sl step)->Int->Int->(Sl Tab)->Int->Int->Int->(Sl (Sl Tab))->(Sl step)->Bool:=lpO (λ _ _ _ _ _ _ _ _ _ _ _=>false) (zif P5 w zaQ)
def zwr (S5:Int->Bool->(Sl step)->Int->(Sl (Sl Tab))->(Sl step)) (w:web) (zaQ:(Sl (Sl Tab))) (zcI:Int) (zbr:Bool) (zb0:(Sl step)) (zey:Int) (iv6:Int) (hv6:(Sl Tab)) (znq:Int) (zbT:Int) (kv6:Int) (zd1:(Sl (Sl Tab))) (zb5:(Sl step)):(Sl step):=zih S5 w zaQ Fuel zcI zbr zb0 zey iv6 hv6 znq zbT kv6 zd1 zb5
def zwt (P5:Int->Bool->(Sl step)->Int->(Sl (Sl Tab))->Bool) (w:web) (zaQ:(Sl (Sl Tab))) (zcI:Int) (zbr:Bool) (zb0:(Sl step)) (zey:Int) (iv6:Int) (hv6:(Sl Tab)) (znq:Int) (zbT:Int) (kv6:Int) (zd1:(Sl (Sl Tab))) (zb5:(Sl step)):Bool:=zii P5 w zaQ Fuel zcI zbr zb0 zey iv6 hv6 znq zbT kv6 zd1 zb5
theorem zEH (hX5:zwk K w zaQ X5 P5 S5) (hs:zwt P5 w zaQ zcI zbr zb0 zey iv6 hv6 znq zbT kv6 zd1 zb5=true) (hk:K (e89 (zwr S5 w zaQ zcI zbr zb0 zey iv6 hv6 znq zbT kv6 zd1 zb5))) (zmO:zeR=zg zaF zb0) (zEI:zov=zg zan hv6) (zpO:zgd=zg zcU zd1) (zmP:zeS=zg zaF zb5):z89 K [1,0,1,1,1,1,1,1,0,1,0,0,1,1,0,0,1,1,1,1,0,1,0] [X5] (zCN w zaQ zcI zbr zb0 zey iv6 hv6 znq zbT kv6 zd1 zb5 zeR zov zgd zeS) :=
  zl (λ X=>z89 K [1,0,1,1,1,1,1,1,0,1,0,0,1,1,0,0,1,1,1,1,0,1,0,0] [X5,X]) (by kernel_rfl) λ X6 hX =>
  (show ∀ k, zEC K w zaQ X6 (zii P5 w zaQ k) (zih S5 w zaQ k) from zfg _ _ (zif P5 w zaQ) (zie S5 w zaQ) (zEC K w zaQ X6)
 (by intro _ _ _ _ _ _ _ _ _ _ _ _ _ _ _ hs;exact absurd hs dqk)
 (by intro P6 S6 hX6 zcI zbr zb0 zey iv6 hv6 znq zbT kv6 zd1 zb5 zeR zov zgd zeS hs hk zmO zEI zpO zmP;subst zmO;subst zEI;subst zpO;subst zmP;exact hX _ (zaZ (by kernel_rfl) (zc hs hk (λ hs hk=>(And.intro (And.intro (zE enc_40 4 w.Net.Ties.get) (rfl:((false,1,false,[none]):MQ)=(false,1,false,[none]))) (zEG hX5 hX6 hs hk rfl rfl rfl rfl))) (λ hs hk=>(zaT hs λ hc hs=>And.intro hc (zc hs hk (λ hs hk=>(zwp hX5 hs hk rfl rfl rfl)) (λ hs hk=>(zaT hs λ hc hs=>And.intro (And.intro (zE zaF 5 zb5.get) (And.intro (zE zaF 5 zb0.get) hc)) (zwp hX5 hs hk rfl rfl rfl)))))))))) _ hs hk zmO zEI zpO zmP
def zwu (w:web) (zaQ:(Sl (Sl Tab))) (S5:Int->Bool->(Sl step)->Int->(Sl (Sl Tab))->(Sl step)) (zci:Int) (zbN:Bool) (zcC:(Sl step)) (zcp:Int) (zc9:(Sl (Sl Tab))):(Sl step) :=
  (cond (decide (zcp < (zaQ.len : Int)))
 (cond (decide ((tL ((zc9.get zcp.toNat).get zci.toNat) zcp) >= (0:Int)))
 (S5 zci zbN zcC (w64 (zcp+(1:Int))) zc9)
 (zwr S5 w zaQ zci zbN zcC zcp zcp (zc9.get zcp.toNat) zcp (0:Int) (w64 (zci - (1:Int))) zc9 (⟨0,(λ _=>default)⟩:Sl step)))
 zcC)
def zwv (w:web) (zaQ:(Sl (Sl Tab))) (P5:Int->Bool->(Sl step)->Int->(Sl (Sl Tab))->Bool) (zci:Int) (zbN:Bool) (zcC:(Sl step)) (zcp:Int) (zc9:(Sl (Sl Tab))):Bool :=
  (cond (decide (zcp < (zaQ.len : Int)))
 (decide ((0<=zcp/\zcp < (zc9.len:Int))) &&
 (decide ((zcp.toNat < zc9.len)) &&
 (decide ((0<=zci/\zci < ((zc9.get zcp.toNat).len:Int))) &&
 (decide ((0<=zcp/\zcp < (40:Int))) &&
 (cond (decide ((tL ((zc9.get zcp.toNat).get zci.toNat) zcp) >= (0:Int)))
 (P5 zci zbN zcC (w64 (zcp+(1:Int))) zc9)
 (zwt P5 w zaQ zci zbN zcC zcp zcp (zc9.get zcp.toNat) zcp (0:Int) (w64 (zci - (1:Int))) zc9 (⟨0,(λ _=>default)⟩:Sl step)))))))
 true)
def zww (w:web) (zaQ:(Sl (Sl Tab))):Nat->Int->Bool->(Sl step)->Int->(Sl (Sl Tab))->(Sl step):=lpO (λ _ _ _ _ _=>default) (zwu w zaQ)
def zwx (w:web) (zaQ:(Sl (Sl Tab))):Nat->Int->Bool->(Sl step)->Int->(Sl (Sl Tab))->Bool:=lpO (λ _ _ _ _ _=>false) (zwv w zaQ)
def zwy (w:web) (zaQ:(Sl (Sl Tab))) (zci:Int) (zbN:Bool) (zcC:(Sl step)) (zcp:Int) (zc9:(Sl (Sl Tab))):(Sl step):=zww w zaQ Fuel zci zbN zcC zcp zc9
def zwz (w:web) (zaQ:(Sl (Sl Tab))) (zci:Int) (zbN:Bool) (zcC:(Sl step)) (zcp:Int) (zc9:(Sl (Sl Tab))):Bool:=zwx w zaQ Fuel zci zbN zcC zcp zc9
theorem zEJ (hs:zwz w zaQ zci zbN zcC zcp zc9=true) (hk:K (e89 (zwy w zaQ zci zbN zcC zcp zc9))) (zmQ:zeQ=zg zaF zcC) (zpP:zgc=zg zcU zc9):z89 K [1,0,1,1,1,1,1,1,0,1,0] [] (zCM w zaQ zci zbN zcC zcp zc9 zeQ zgc) :=
  zl (λ X=>z89 K [1,0,1,1,1,1,1,1,0,1,0,0] [X]) (by kernel_rfl) λ X5 hX =>
  (show ∀ k, zwk K w zaQ X5 (zwx w zaQ k) (zww w zaQ k) from zfg _ _ (zwv w zaQ) (zwu w zaQ) (zwk K w zaQ X5)
 (by intro _ _ _ _ _ _ _ hs;exact absurd hs dqk)
 (by intro P5 S5 hX5 zci zbN zcC zcp zc9 zeQ zgc hs hk zmQ zpP;subst zmQ;subst zpP;exact hX _ (zaZ (by kernel_rfl) (zc hs hk (λ hs hk=>(zaT hs λ hc hs=>And.intro hc (zaT hs λ hc hs=>And.intro hc (zaT hs λ hc hs=>And.intro hc (zaT hs λ hc hs=>And.intro hc (zc hs hk (λ hs hk=>(hX5 hs hk rfl rfl)) (λ hs hk=>(zEH hX5 hs hk rfl rfl rfl rfl)))))))) (λ hs hk=>hk))))) _ hs hk zmQ zpP
def zpQ (w:web) (zkw:Int) (zaQ:(Sl (Sl Tab))):(Sl step) :=
  (zwy w zaQ zkw true (⟨0,(λ _=>default)⟩:Sl step) (0:Int) zaQ)
def zpR (w:web) (zkw:Int) (zaQ:(Sl (Sl Tab))):Bool :=
  (zwz w zaQ zkw true (⟨0,(λ _=>default)⟩:Sl step) (0:Int) zaQ)
theorem zwA (hs:zpR w zkw zaQ=true) (hk:K (e89 (zpQ w zkw zaQ))) (zEK:zwn=zg zcU zaQ):z89 K [1,0,1,1,1,1,1] [] ⟨[(0,zP (.fp (zaD w) 0)),(3,zv 21),(5,zI zkw)],[(21,.vec 159 1 24 zaQ.len zwn)],[]⟩:=by subst zEK;exact zaZ (by kernel_rfl) (zEJ hs hk rfl rfl)
def zwB (S2:Int->(Sl step)) (w:web) (zbj:(Sl (Sl Tab))) (S3:Int->Int->(Sl step)) (zch:Int) (zc3:Int):(Sl step) :=
  (cond (decide (zc3 < (zbj.len : Int)))
 (cond (decide ((tL ((zbj.get zc3.toNat).get zch.toNat) zc3) < (0:Int)))
 (zpQ w zch zbj)
 (S3 zch (w64 (zc3+(1:Int)))))
 (S2 (w64 (zch+(1:Int)))))
def zwC (P2:Int->Bool) (w:web) (zbj:(Sl (Sl Tab))) (P3:Int->Int->Bool) (zch:Int) (zc3:Int):Bool :=
  (cond (decide (zc3 < (zbj.len : Int)))
 (decide ((0<=zc3/\zc3 < (zbj.len:Int))) &&
 (decide ((zc3.toNat < zbj.len)) &&
 (decide ((0<=zch/\zch < ((zbj.get zc3.toNat).len:Int))) &&
 (decide ((0<=zc3/\zc3 < (40:Int))) &&
 (cond (decide ((tL ((zbj.get zc3.toNat).get zch.toNat) zc3) < (0:Int)))
 (zpR w zch zbj)
 (P3 zch (w64 (zc3+(1:Int)))))))))
 (P2 (w64 (zch+(1:Int)))))
def zwD (S2:Int->(Sl step)) (w:web) (zbj:(Sl (Sl Tab))):Nat->Int->Int->(Sl step):=lpO (λ _ _=>default) (zwB S2 w zbj)
def zwE (P2:Int->Bool) (w:web) (zbj:(Sl (Sl Tab))):Nat->Int->Int->Bool:=lpO (λ _ _=>false) (zwC P2 w zbj)
def zwF (S2:Int->(Sl step)) (w:web) (zbj:(Sl (Sl Tab))) (zch:Int) (zc3:Int):(Sl step):=zwD S2 w zbj Fuel zch zc3
def zwG (P2:Int->Bool) (w:web) (zbj:(Sl (Sl Tab))) (zch:Int) (zc3:Int):Bool:=zwE P2 w zbj Fuel zch zc3
theorem zEL (hX2:zEB K w zbj X2 P2 S2) (hs:zwG P2 w zbj zch zc3=true) (hk:K (e89 (zwF S2 w zbj zch zc3))):z89 K [1,0,1,1,1,1,0,1,0,0,1,0,0,1,0] [X2] (zCL w zbj zch zc3) :=
  zl (λ X=>z89 K [1,0,1,1,1,1,0,1,0,0,1,0,0,1,0,0] [X2,X]) (by kernel_rfl) λ X3 hX =>
  (show ∀ k, zJe K w zbj X3 (zwE P2 w zbj k) (zwD S2 w zbj k) from zfg _ _ (zwC P2 w zbj) (zwB S2 w zbj) (zJe K w zbj X3)
 (by intro _ _ hs;exact absurd hs dqk)
 (by intro P3 S3 hX3 zch zc3 hs hk;exact hX _ (zaZ (by kernel_rfl) (zc hs hk (λ hs hk=>(zaT hs λ hc hs=>And.intro hc (zaT hs λ hc hs=>And.intro hc (zaT hs λ hc hs=>And.intro hc (zaT hs λ hc hs=>And.intro hc (zc hs hk (λ hs hk=>(zwA hs hk rfl)) (λ hs hk=>(hX3 hs hk)))))))) (λ hs hk=>(hX2 hs hk)))))) _ hs hk
def zwH (w:web) (zbj:(Sl (Sl Tab))) (S2:Int->(Sl step)) (zcH:Int):(Sl step) :=
  (cond (decide (zcH < w.Net.Nodes))
 (zwF S2 w zbj zcH (0:Int))
 (zpQ w zcH zbj))
def zwI (w:web) (zbj:(Sl (Sl Tab))) (P2:Int->Bool) (zcH:Int):Bool :=
  (cond (decide (zcH < w.Net.Nodes))
 (zwG P2 w zbj zcH (0:Int))
 (zpR w zcH zbj))
def zwJ (w:web) (zbj:(Sl (Sl Tab))):Nat->Int->(Sl step):=lpO (λ _=>default) (zwH w zbj)
def zwK (w:web) (zbj:(Sl (Sl Tab))):Nat->Int->Bool:=lpO (λ _=>false) (zwI w zbj)
def zwL (w:web) (zbj:(Sl (Sl Tab))) (zcH:Int):(Sl step):=zwJ w zbj Fuel zcH
def zwM (w:web) (zbj:(Sl (Sl Tab))) (zcH:Int):Bool:=zwK w zbj Fuel zcH
theorem zEM (hs:zwM w zbj zcH=true) (hk:K (e89 (zwL w zbj zcH))):z89 K [1,0,1,1,1,1,0,1,0] [] (zCK w zbj zcH) :=
  zl (λ X=>z89 K [1,0,1,1,1,1,0,1,0,0] [X]) (by kernel_rfl) λ X2 hX =>
  (show ∀ k, zEB K w zbj X2 (zwK w zbj k) (zwJ w zbj k) from zfg _ _ (zwI w zbj) (zwH w zbj) (zEB K w zbj X2)
 (by intro _ hs;exact absurd hs dqk)
 (by intro P2 S2 hX2 zcH hs hk;exact hX _ (zaZ (by kernel_rfl) (zc hs hk (λ hs hk=>(zEL hX2 hs hk)) (λ hs hk=>(zwA hs hk rfl)))))) _ hs hk
def zwN (w:web) (zbj:(Sl (Sl Tab))):(Sl step) :=
  (zwL w zbj (1:Int))
def zwO (w:web) (zbj:(Sl (Sl Tab))):Bool :=
  (zwM w zbj (1:Int))
theorem zEN (hs:zwO w zbj=true) (hk:K (e89 (zwN w zbj))) (zEO:zwm=zg zcU zbj):z89 K [1,0,1,1] [] ⟨[(0,zP (.fp (zaD w) 0)),(3,zv 21)],[(21,.vec 159 1 24 zbj.len zwm)],[]⟩:=by subst zEO;exact zaZ (by kernel_rfl) (zEM hs hk)
def zwP (w:web) (S0:Int->(Sl (Sl Tab))->(Sl step)) (zcW:Int) (zdn:(Sl (Sl Tab))):(Sl step) :=
  (cond (decide (zcW < (w.Net.Nodes.toNat : Int)))
 (S0 (w64 (zcW+(1:Int))) (⟨zdn.len,(setT zcW.toNat (zEr w zcW w.Net.Nodes) zdn.get)⟩:Sl (Sl Tab)))
 (zwN w zdn))
def zwQ (w:web) (P0:Int->(Sl (Sl Tab))->Bool) (zcW:Int) (zdn:(Sl (Sl Tab))):Bool :=
  (cond (decide (zcW < (w.Net.Nodes.toNat : Int)))
 (decide ((zLA w zcW w.Net.Nodes=true)) &&
 (decide ((0<=zcW/\zcW < (zdn.len:Int))) &&
 (decide ((zcW.toNat < zdn.len)) &&
 (P0 (w64 (zcW+(1:Int))) (⟨zdn.len,(setT zcW.toNat (zEr w zcW w.Net.Nodes) zdn.get)⟩:Sl (Sl Tab))))))
 (zwO w zdn))
def zwR (w:web):Nat->Int->(Sl (Sl Tab))->(Sl step):=lpO (λ _ _=>default) (zwP w)
def zwS (w:web):Nat->Int->(Sl (Sl Tab))->Bool:=lpO (λ _ _=>false) (zwQ w)
def zwT (w:web) (zcW:Int) (zdn:(Sl (Sl Tab))):(Sl step):=zwR w Fuel zcW zdn
def zwU (w:web) (zcW:Int) (zdn:(Sl (Sl Tab))):Bool:=zwS w Fuel zcW zdn
theorem zEP (hs:zwU w zcW zdn=true) (hk:K (e89 (zwT w zcW zdn))) (zpS:zgb=zg zcU zdn):z89 K [1,0,1,0,1,0] [] (zCJ w zcW zdn zgb) :=
  zl (λ X=>z89 K [1,0,1,0,1,0,0] [X]) (by kernel_rfl) λ X0 hX =>
  (show ∀ k, zJd K w X0 (zwS w k) (zwR w k) from zfg _ _ (zwQ w) (zwP w) (zJd K w X0)
 (by intro _ _ _ hs;exact absurd hs dqk)
 (by intro P0 S0 hX0 zcW zdn zgb hs hk zpS;subst zpS;exact hX _ (zaZ (by kernel_rfl) (zc hs hk (λ hs hk=>(zaT hs λ hc hs=>And.intro (And.intro (zE enc_40 4 w.Net.Ties.get) (And.intro (rfl:((false,1,false,[none]):MQ)=(false,1,false,[none])) hc)) (zaT hs λ hc hs=>And.intro hc (zaT hs λ hc hs=>And.intro hc (hX0 hs hk (ziQ (enc:=zcU) (i:=zcW.toNat) (k:=0) (f:=zdn.get) (new:=(zcU (zEr w zcW w.Net.Nodes))) (v:=(zEr w zcW w.Net.Nodes)) rfl rfl)))))) (λ hs hk=>(zEN hs hk rfl)))))) _ hs hk zpS
def s89 (w:web):(Sl step) :=
  (zwT w (0:Int) (⟨w.Net.Nodes.toNat,(λ _=>(⟨0,λ _=>(λ _=>(0:Int))⟩:(Sl Tab)))⟩:Sl (Sl Tab)))
def p89 (w:web):Bool :=
  (decide ((0<=w.Net.Nodes/\w.Net.Nodes=w.Net.Nodes/\w.Net.Nodes<=1000000)) &&
 (zwU w (0:Int) (⟨w.Net.Nodes.toNat,(λ _=>(⟨0,λ _=>(λ _=>(0:Int))⟩:(Sl Tab)))⟩:Sl (Sl Tab))))
end
theorem q89 (w:web) (K:List PA->Prop) (hs:p89 w=true) (hk:K (e89 (s89 w))):vcFun Tryd.prog G89 zwj 89 [.one (.fp (zaD w) 0)] K :=
  zaZ (by kernel_rfl) (zaT hs λ hc hs=>And.intro hc (zEP hs hk rfl))
def zBJ : List PA → COut
  | [.one (.fp [.int .i64 zal,.sl zai zaC zaj,.fm zbd zaI zaJ] 0)]=>.det (IsE enc_40 4 zaC zaj/\zbd=(false,1,false,[none])/\p89 (⟨(⟨zal,(⟨zai,zam zaj⟩:(Sl Tie))⟩:Net),(⟨zaI,zaJ⟩:Mp)⟩:web)=true) [.one (.sl ((s89 (⟨(⟨zal,(⟨zai,zam zaj⟩:(Sl Tie))⟩:Net),(⟨zaI,zaJ⟩:Mp)⟩:web)).len) 5 (λ i=>zaF ((s89 (⟨(⟨zal,(⟨zai,zam zaj⟩:(Sl Tie))⟩:Net),(⟨zaI,zaJ⟩:Mp)⟩:web)).get i)))]
  | _=>.no
theorem zJg:zar Tryd.prog 89:=⟨_,rfl,rfl,by kernel_rfl⟩
theorem zM8:Ok Tryd.prog 89 zBJ:=zbu zLI zJg λ args K h=>by
  unfold zBJ at h
  split at h
  · rename_i zal zai zaC zaj zbd zaI zaJ
    obtain⟨⟨⟨rfl,zat,rfl⟩,rfl,hs⟩,hk⟩:=h
    try rw[zak zat] at hs
    try rw[zak zat] at hk
    exact⟨(λ _ _=>[]),(λ _=>false),zwj,q89 (⟨(⟨zal,(⟨zai,zat⟩:(Sl Tie))⟩:Net),(⟨zaI,zaJ⟩:Mp)⟩:web) K hs hk⟩
  · exact h.elim
end Go.Proofs
/-
  DERIVED: THE SHELF's CONTRACTS AT THIS DUMP,IN PLAIN WORDS (tools/lay-plain.mjs out of 'YtedhjaaikeakoaaDoorPmLk.lean',which tools/lay-shelf.mjs wrote): THE SAME DECLARATIONS UNDER THE SAME NAMES: 'import','namespace','open','def','theorem' AND NOTHING ELSE: no command of the shelf's: FOR A HAND-IN. Each laying: the table of numbers ('.._ren') and one theorem,a field a fact of the dump's own or the kernel's comparison;each contract: ONE APPLICATION.
-/
namespace Go.Proofs
open Go.Shelf
def Tryd.keysA_ren:Go.Shelf.Ren:=⟨fun | 7=>103 | 10=>117 | n=>n,fun | 23=>103 | 26=>3 | 3=>4 | 28=>152 | 0=>0 | 27=>151 | 33=>169 | 4=>4 | n=>n,fun | n=>n⟩
theorem Tryd.keysA : Go.Proofs.SlLaysZI.n7 Tryd.prog Tryd.keysA_ren := {
  mixed:=by kernel_rfl
  f7:=⟨Tryd.f103.name,by decide,Tryd.func103.trans (congrArg some (by kernel_rfl))⟩
  f10:=⟨Tryd.f117.name,by decide,Tryd.func117.trans (congrArg some (by kernel_rfl))⟩
  t0:=Tryd.underlying0
  a0:=Tryd.isAgg0
  z0:=Tryd.sizeOf0
  v0:=Tryd.zeroValue0
  t4:=Tryd.underlying4
  a4:=Tryd.isAgg4
  z4:=Tryd.sizeOf4
  v4:=Tryd.zeroValue4
  t23:=Tryd.underlying103
  a23:=Tryd.isAgg103
  z23:=Tryd.sizeOf103
  v23:=Tryd.zeroValue103
  t26:=Tryd.underlying3
  a26:=Tryd.isAgg3
  z26:=Tryd.sizeOf3
  v26:=Tryd.zeroValue3
  t27:=Tryd.underlying151
  a27:=Tryd.isAgg151
  z27:=Tryd.sizeOf151
  v27:=Tryd.zeroValue151
  t28:=Tryd.underlying152
  a28:=Tryd.isAgg152
  z28:=Tryd.sizeOf152
  v28:=Tryd.zeroValue152
  t33:=Tryd.underlying169
  a33:=Tryd.isAgg169
  z33:=Tryd.sizeOf169
  v33:=Tryd.zeroValue169 }
def Tryd.sortedA_ren:Go.Shelf.Ren:=⟨fun | 6=>102 | 8=>115 | 9=>116 | 11=>129 | 13=>113 | 12=>130 | 23=>127 | 24=>128 | 14=>136 | 15=>137 | 16=>138 | 17=>139 | 18=>140 | 19=>141 | 20=>142 | 21=>143 | 22=>144 | 25=>146 | 26=>132 | 27=>133 | 28=>147 | 29=>148 | 30=>114 | 31=>149 | n=>n,fun | 26=>3 | 28=>152 | 24=>27 | 0=>0 | 3=>3 | 37=>168 | 48=>182 | 50=>184 | 4=>4 | 40=>175 | 39=>174 | 45=>179 | 5=>5 | 9=>9 | 51=>187 | 55=>191 | 57=>199 | 58=>200 | 33=>169 | n=>n,fun | n=>n⟩
theorem Tryd.sortedA : Go.Proofs.SlLaysZI.n6 Tryd.prog Tryd.sortedA_ren := {
  mixed:=by kernel_rfl
  f6:=⟨Tryd.f102.name,by decide,Tryd.func102.trans (congrArg some (by kernel_rfl))⟩
  f8:=⟨Tryd.f115.name,by decide,Tryd.func115.trans (congrArg some (by kernel_rfl))⟩
  f11:=⟨Tryd.f129.name,by decide,Tryd.func129.trans (congrArg some (by kernel_rfl))⟩
  t0:=Tryd.underlying0
  a0:=Tryd.isAgg0
  z0:=Tryd.sizeOf0
  v0:=Tryd.zeroValue0
  t24:=Tryd.underlying27
  a24:=Tryd.isAgg27
  z24:=Tryd.sizeOf27
  v24:=Tryd.zeroValue27
  t26:=Tryd.underlying3
  a26:=Tryd.isAgg3
  z26:=Tryd.sizeOf3
  v26:=Tryd.zeroValue3
  t28:=Tryd.underlying152
  a28:=Tryd.isAgg152
  z28:=Tryd.sizeOf152
  v28:=Tryd.zeroValue152
  i26:=by kernel_rfl }
def Tryd.sortA_ren:Go.Shelf.Ren:=⟨fun | 5=>116 | 8=>113 | 7=>130 | 19=>127 | 20=>128 | 10=>136 | 11=>137 | 12=>138 | 13=>139 | 14=>140 | 15=>141 | 16=>142 | 17=>143 | 18=>144 | 30=>146 | 31=>132 | 32=>133 | 33=>147 | 34=>148 | 35=>114 | 40=>149 | n=>n,fun | 23=>27 | 25=>3 | 3=>3 | 32=>168 | 22=>27 | 0=>0 | 44=>182 | 46=>184 | 4=>4 | 36=>175 | 35=>174 | 41=>179 | 5=>5 | 9=>9 | 53=>187 | 57=>191 | 63=>199 | 64=>200 | n=>n,fun | n=>n⟩
theorem Tryd.sortA : Go.Proofs.SlLaysM.n5 Tryd.prog Tryd.sortA_ren := {
  mixed:=by kernel_rfl
  f5:=⟨Tryd.f116.name,by decide,Tryd.func116.trans (congrArg some (by kernel_rfl))⟩
  f7:=⟨Tryd.f130.name,by decide,Tryd.func130.trans (congrArg some (by kernel_rfl))⟩
  f8:=Tryd.func113.trans (congrArg some (by kernel_rfl))
  f10:=⟨Tryd.f136.name,by decide,Tryd.func136.trans (congrArg some (by kernel_rfl))⟩
  f11:=⟨Tryd.f137.name,by decide,Tryd.func137.trans (congrArg some (by kernel_rfl))⟩
  f12:=⟨Tryd.f138.name,by decide,Tryd.func138.trans (congrArg some (by kernel_rfl))⟩
  f13:=⟨Tryd.f139.name,by decide,Tryd.func139.trans (congrArg some (by kernel_rfl))⟩
  f14:=⟨Tryd.f140.name,by decide,Tryd.func140.trans (congrArg some (by kernel_rfl))⟩
  f15:=⟨Tryd.f141.name,by decide,Tryd.func141.trans (congrArg some (by kernel_rfl))⟩
  f16:=⟨Tryd.f142.name,by decide,Tryd.func142.trans (congrArg some (by kernel_rfl))⟩
  f17:=⟨Tryd.f143.name,by decide,Tryd.func143.trans (congrArg some (by kernel_rfl))⟩
  f18:=⟨Tryd.f144.name,by decide,Tryd.func144.trans (congrArg some (by kernel_rfl))⟩
  f19:=Tryd.func127.trans (congrArg some (by kernel_rfl))
  f20:=Tryd.func128.trans (congrArg some (by kernel_rfl))
  f30:=⟨Tryd.f146.name,by decide,Tryd.func146.trans (congrArg some (by kernel_rfl))⟩
  f31:=Tryd.func132.trans (congrArg some (by kernel_rfl))
  f32:=Tryd.func133.trans (congrArg some (by kernel_rfl))
  f33:=⟨Tryd.f147.name,by decide,Tryd.func147.trans (congrArg some (by kernel_rfl))⟩
  f34:=⟨Tryd.f148.name,by decide,Tryd.func148.trans (congrArg some (by kernel_rfl))⟩
  f35:=⟨Tryd.f114.name,by decide,Tryd.func114.trans (congrArg some (by kernel_rfl))⟩
  f40:=⟨Tryd.f149.name,by decide,Tryd.func149.trans (congrArg some (by kernel_rfl))⟩
  t0:=Tryd.underlying0
  a0:=Tryd.isAgg0
  z0:=Tryd.sizeOf0
  v0:=Tryd.zeroValue0
  t3:=Tryd.underlying3
  a3:=Tryd.isAgg3
  z3:=Tryd.sizeOf3
  v3:=Tryd.zeroValue3
  t4:=Tryd.underlying4
  a4:=Tryd.isAgg4
  z4:=Tryd.sizeOf4
  v4:=Tryd.zeroValue4
  t5:=Tryd.underlying5
  a5:=Tryd.isAgg5
  z5:=Tryd.sizeOf5
  v5:=Tryd.zeroValue5
  t9:=Tryd.underlying9
  a9:=Tryd.isAgg9
  z9:=Tryd.sizeOf9
  v9:=Tryd.zeroValue9
  t22:=Tryd.underlying27
  a22:=Tryd.isAgg27
  z22:=Tryd.sizeOf27
  v22:=Tryd.zeroValue27
  t23:=Tryd.underlying27
  a23:=Tryd.isAgg27
  z23:=Tryd.sizeOf27
  v23:=Tryd.zeroValue27
  t25:=Tryd.underlying3
  a25:=Tryd.isAgg3
  z25:=Tryd.sizeOf3
  v25:=Tryd.zeroValue3
  t32:=Tryd.underlying168
  a32:=Tryd.isAgg168
  z32:=Tryd.sizeOf168
  v32:=Tryd.zeroValue168
  t35:=Tryd.underlying174
  a35:=Tryd.isAgg174
  z35:=Tryd.sizeOf174
  v35:=Tryd.zeroValue174
  t36:=Tryd.underlying175
  a36:=Tryd.isAgg175
  z36:=Tryd.sizeOf175
  v36:=Tryd.zeroValue175
  t41:=Tryd.underlying179
  a41:=Tryd.isAgg179
  z41:=Tryd.sizeOf179
  v41:=Tryd.zeroValue179
  t44:=Tryd.underlying182
  a44:=Tryd.isAgg182
  z44:=Tryd.sizeOf182
  v44:=Tryd.zeroValue182
  t46:=Tryd.underlying184
  a46:=Tryd.isAgg184
  z46:=Tryd.sizeOf184
  v46:=Tryd.zeroValue184
  t53:=Tryd.underlying187
  a53:=Tryd.isAgg187
  z53:=Tryd.sizeOf187
  v53:=Tryd.zeroValue187
  t57:=Tryd.underlying191
  a57:=Tryd.isAgg191
  z57:=Tryd.sizeOf191
  v57:=Tryd.zeroValue191
  t63:=Tryd.underlying199
  a63:=Tryd.isAgg199
  z63:=Tryd.sizeOf199
  v63:=Tryd.zeroValue199
  t64:=Tryd.underlying200
  a64:=Tryd.isAgg200
  z64:=Tryd.sizeOf200
  v64:=Tryd.zeroValue200 }
end Go.Proofs
namespace Go.Pm
open Go.RowKit Go.Maps Go.Sort Go.Shelf Go.Proofs
set_option maxRecDepth 100000

theorem zkB {F : List Int → Option (List Int)} : ∀ (f : Nat) (i : Int) (n : Nat) (l : List Int), ztM F f i n = some l → l.length = n ∧ (∀ x ∈ l, F [x] ≠ none ∧ i ≤ x ∧ x < i + f) ∧ l.Pairwise (· < ·)
  | _,_,0,l,h=>by simp[ztM] at h;subst h;exact⟨rfl,λ x hx=>by simp at hx,List.Pairwise.nil⟩
  | 0,_,n+1,l,h=>by simp[ztM] at h
  | f+1,i,n+1,l,h=>by
    simp only[ztM] at h
    split at h
    · rename_i v hv
      split at h
      · rename_i r hr
        simp only[dqa] at h;subst h
        obtain⟨h1,h2,h3⟩:=zkB f (i+1) n r hr
        refine⟨by simp[h1],λ x hx=>?_,List.pairwise_cons.2 ⟨λ x hx=>by have:=h2 x hx;omega,h3⟩⟩
        rcases dqq.1 hx with rfl | hx
        · exact⟨by rw[hv];simp,by omega,by omega⟩
        · have:=h2 x hx;exact⟨this.1,by omega,by omega⟩
      · cases h
    · obtain ⟨h1, h2, h3⟩ := zkB f (i + 1) (n + 1) l h
      exact⟨h1,λ x hx=>by have:=h2 x hx;exact⟨this.1,by omega,by omega⟩,h3⟩
theorem zkC {α : Type} [DecidableEq α] : ∀ {l m : List α}, l.Nodup → (∀ x ∈ l, x ∈ m) → m.length ≤ l.length → l.Perm m
  | [],m,_,_,h=>by
    have:m=[]:=List.eq_nil_of_length_eq_zero (by simpa using h)
    subst this;exact .refl _
  | a :: l,m,hn,hs,h=>by
    obtain⟨h1,h2⟩:=List.nodup_cons.1 hn
    have ha:=hs a dqj
    have hp:=List.perm_cons_erase ha
    refine (List.Perm.cons a (zkC h2 (λ x hx=>?_) ?_)).trans hp.symm
    · exact (List.mem_erase_of_ne (λ e=>h1 (by rw[<- e];exact hx))).2 (hs x (dqf _ hx))
    · have := hp.length_eq
      simp at this h
      omega

theorem zBK:zlb Tryd.prog 103 (.keys 117):=λ w mb=>by
 refine⟨⟨_,rfl,rfl,by kernel_rfl⟩,?_⟩
 have c:CallsIn Fence.wide 5 Tryd.prog 103 #[.map (some mb)] w λ e w'=>e=.returned (.func (.func 117) #[] #[.pointer (some ⟨w.heap.size,0,none⟩)])/\w'=w.alloc (.cells #[.map (some mb)] 103):=AnyZI.keys_in Tryd.keysA Fence.wide 5 trivial rfl (some mb) w
 refine ((callsIn_wide (n:=5)).1 c).mono ?_
 rintro e w' ⟨rfl,rfl⟩
 exact⟨rfl,_,rfl⟩
theorem sortsA (m:Nat):AnyZI.SortsIn Tryd.prog Tryd.sortedA_ren Fence.wide m :=
  ⟨λ blk off cap ss W hH hblk hsz=>callsIn_wide.2 (AnyM.slices_Sort_int Tryd.sortA blk off cap ss W hH hblk hsz),
   λ p cap W=>callsIn_wide.2 (AnyM.slices_Sort_int_none Tryd.sortA p cap W)⟩

def rdN:Value->Option (DataW Unit×List MemPlace):=λ _=>some (.nil,[])
theorem ztE:zlb Tryd.prog 102 (.sorted 117):=λ w h k mb C ty fr es clock vt q n F hw hk hC hb hE hm hn hky=>by
 refine⟨⟨_,rfl,rfl,by kernel_rfl⟩,?_⟩
 obtain⟨en,M⟩:=hm
 have E:=zgH hE
 have hq1:q.1=false:=by
  have e:=E.kag
  rw[show zeT Tryd.prog 3=some false by kernel_rfl] at e
  exact (Option.some.inj e).symm
 have hq2:q.2.1=1:=by
  have e:=E.key
  rw[show zdT Tryd.prog 8 3=some 1 by kernel_rfl] at e
  exact (Option.some.inj e).symm
 obtain⟨l,hl⟩:=Option.isSome_iff_exists.1 hky
 have hll:ztN F n=l:=by unfold ztN;rw[hl];rfl
 obtain⟨l1,l2,l3⟩:=zkB _ _ _ _ hl
 rw[hll]
 have one:∀ x∈en,x.1=[x.1.headD 0]:=λ x hx=>by
  have:=(M.len x hx).1
  rw[hq2] at this
  match x.1,this with
  | [a],_=>rfl
 have hkeys:es.toList.map (·.key)=(en.map λ x=>x.1.headD 0).map encZ:=by
  have:=congrArg (List.map Prod.fst) M.ents
  simp only[List.map_map] at this ⊢
  refine (show es.toList.map (·.key)=_ from this).trans (List.map_congr_left λ x hx=>?_)
  show zbD q.1 x.1=encZ (x.1.headD 0)
  rw[hq1];rfl
 have hkn:(en.map λ x=>x.1.headD 0).Nodup:=by
  have:(en.map (·.1))=(en.map λ x=>x.1.headD 0).map λ a=>[a]:=by
   rw[List.map_map];exact List.map_congr_left λ x hx=>one x hx
  have hd:=M.nodup
  rw[this] at hd
  exact (List.pairwise_map.1 hd).imp λ h e=>h (by rw[e])
 have hperm:l.Perm (en.map λ x=>x.1.headD 0):=by
  refine zkC (l3.imp λ h=>Int.ne_of_lt h) (λ x hx=>?_) (by rw[List.length_map,<- M.size,l1];exact dqt _)
  have h1:=(l2 x hx).1
  rw[M.find [x] (by rw[hq2];rfl)] at h1
  by_cases hex:∃ y∈en,y.1=[x]
  ·obtain ⟨y, hy, e⟩ := hex
   exact dqz.2 ⟨y,hy,by rw[e];rfl⟩
  ·exact absurd (zgu λ y hy e=>hex ⟨y,hy,e⟩) h1
 have hread:∀ x∈es.toList,∃ a:Int,x.key=encZ a/\keyOf Tryd.prog 3 x.key=some (.int .i64 a):=λ x hx=>by
  have hm:x.key∈es.toList.map (·.key):=dqz.2 ⟨x,hx,rfl⟩
  rw[hkeys] at hm
  obtain⟨a,ha,e⟩:=dqz.1 hm
  have hb:=(l2 a (hperm.mem_iff.2 ha)).2
  refine⟨a,e.symm,?_⟩
  rw[<- e]
  have hu:Tryd.prog.underlying 3=some (.int .i64):=Tryd.underlying3
  have hwf:(Lit.int .i64 a).wf=true:=by
   simp only[Lit.wf,dqm,decide_eq_true_eq]
   have e1:IntKind.i64.min = -9223372036854775808:=by decide
   have e2:IntKind.i64.max=9223372036854775807:=by decide
   rw[e1,e2]
   have:=hb.2
   omega
  simp[keyOf,mapKey,hu,hwf]
 have hsize:es.size=n:=by
  have:=congrArg List.length M.ents
  simp at this
  rw[this,M.size]
 have hst:MapKept.Stamped es clock:=⟨M.born,M.bornN,by rw[hkeys];exact List.pairwise_map.2 (hkn.imp λ h e=>h (encZ_inj e))⟩
 have hown:w.ownsMap Tryd.prog 3 rdN mb n (.map ((es.toList.map (WideElems.rg Tryd.prog 3 rdN)).foldr DataW.insert [])) :=
  ⟨es,clock,hb,⟨by rw[hsize];exact dqE hn (by decide),hst,λ x hx=>by
   obtain⟨a,e1,e2⟩:=hread x hx
   exact⟨(.int .i64 a,.nil),by simp only[WideElems.rd,e2,rdN,Option.bind_some,Option.map_some]⟩⟩,by omega,rfl⟩
 have hik:(intKeys (.map ((es.toList.map (WideElems.rg Tryd.prog 3 rdN)).foldr DataW.insert []))).Perm l:=by
  show (((es.toList.map (WideElems.rg Tryd.prog 3 rdN)).foldr DataW.insert []).map λ p=>intOf p.1).Perm l
  refine ((WideShapes.sorted_perm _).map _).trans (List.Perm.trans (List.Perm.of_eq ?_) hperm.symm)
  rw[List.map_map]
  have e:(en.map λ x=>x.1.headD 0)=es.toList.map λ x=>intOf ((keyOf Tryd.prog 3 x.key).getD (.bool false)):=by
   have h1:(en.map λ x=>x.1.headD 0)=((en.map λ x=>x.1.headD 0).map encZ).map λ v=>match v with | .int _ a=>a | _=>0:=by
    rw[List.map_map];exact (List.map_id _).symm
   rw[h1,<- hkeys,List.map_map]
   refine List.map_congr_left λ x hx=>?_
   obtain⟨a,e1,e2⟩:=hread x hx
   simp only[Function.comp,e2]
   rw[e1];rfl
  rw[e]
  refine List.map_congr_left λ x hx=>?_
  obtain⟨a,e1,e2⟩:=hread x hx
  simp only[Function.comp,WideElems.rg,WideElems.rd,e2,rdN,Option.bind_some,Option.map_some,Option.getD_some]
 have hsz:Maps.size (DataW.map ((es.toList.map (WideElems.rg Tryd.prog 3 rdN)).foldr DataW.insert []):DataW Unit)=n:=by
  show List.length _=n
  rw[(WideShapes.sorted_perm _).length_eq];simp[hsize]
 have hlt:k < w.heap.size:=hw.lt hk
 have hcell:w.cell? ⟨k,0,none⟩=some (.map (some mb)):=by
  have:=hw.fz hk
  simp[World.cell?,this,hC]
 have hseq:SeqGives Fence.wide 2 Tryd.prog 117 #[.pointer (some ⟨k,0,none⟩)] encZ (λ ss=>ss.Perm (intKeys _)) (Maps.size _) w :=
  AnyZI.keys_gives (ρ:=Tryd.keysA_ren) { Tryd.keysA with } Fence.wide _ trivial rfl (by omega) k mb n _ w hlt hcell hown
 have cS:=AnyZI.sorted_in Tryd.sortedA Fence.wide 5 trivial trivial trivial trivial rfl (by omega) (sortsA _) (enters_of Tryd.func116 (by kernel_rfl) rfl) 117 #[.pointer (some ⟨k,0,none⟩)] trivial (enters_of Tryd.func117 (by kernel_rfl) rfl) _ _ (by rw[hsz];exact dqE hn (by decide)) (by rw[hsz];omega) _ hseq
 change CallsIn _ _ Tryd.prog 102 _ _ _ at cS
 refine ((callsIn_wide (n:=5)).1 cS).mono ?_
 rintro e w' ⟨v,ss,rfl,hS,hrow,_,hbel⟩
 refine⟨v,rfl,?_,⟨hbel,Nat.zero_le _⟩⟩
 have hsl:ss.mergeSort (λ x y=>decide (x<=y))=l:=by
  rw[show ss.mergeSort (λ x y=>decide (x<=y))=l.mergeSort leI from mergeSort_of_perm_i (hS.trans hik)]
  exact List.mergeSort_of_pairwise (l3.imp λ h=>by simp only[leI,decide_eq_true_eq];exact Int.le_of_lt h)
 have hlen:ss.length=n:=by rw[(hS.trans hik).length_eq,l1]
 rw[hsl,hlen] at hrow
 exact hrow
end Go.Pm
namespace Go.Proofs
open Go Go.Pm
set_option maxRecDepth 100000
set_option linter.unusedVariables false
attribute [local irreducible] Go.Pm.vcFun Go.Pm.vc Go.Pm.vcIter
abbrev zCO:OwnK:=.sorted 117
theorem zLJ:zlb Tryd.prog 102 zCO:=ztE
abbrev zCP:OwnK:=.keys 117
theorem zLK:zlb Tryd.prog 103 zCP:=zBK
structure Rec69 where
  S:web->Int->((Sl (Sl Int))×web)
  P:web->Int->Bool
class Slf69 where
  r:Rec69
section
variable [Slf69]
def zwV : MK
  | [.box 105 [.p (.int .i64 zaA),.p (.sl zau zbG zas),.mo 3 4 zdy zaU zaV],.d (.one (.int .i64 b1))]=>some (IsE enc_40 4 zbG zas/\zdy=(false,1,false,[none])/\Slf69.r.P (⟨(⟨zaA,(⟨zau,zam zas⟩:(Sl Tie))⟩:Net),(⟨zaU,zaV⟩:Mp)⟩:web) b1=true,[.one (.sl (((Slf69.r.S (⟨(⟨zaA,(⟨zau,zam zas⟩:(Sl Tie))⟩:Net),(⟨zaU,zaV⟩:Mp)⟩:web) b1).1).len) 1 (λ i=>zb4 (((Slf69.r.S (⟨(⟨zaA,(⟨zau,zam zas⟩:(Sl Tie))⟩:Net),(⟨zaU,zaV⟩:Mp)⟩:web) b1).1).get i)))],[.box 105 [.p (.int .i64 (((Slf69.r.S (⟨(⟨zaA,(⟨zau,zam zas⟩:(Sl Tie))⟩:Net),(⟨zaU,zaV⟩:Mp)⟩:web) b1).2).Net.Nodes)),.p (.sl (((Slf69.r.S (⟨(⟨zaA,(⟨zau,zam zas⟩:(Sl Tie))⟩:Net),(⟨zaU,zaV⟩:Mp)⟩:web) b1).2).Net.Ties.len) 4 (λ i=>enc_40 (((Slf69.r.S (⟨(⟨zaA,(⟨zau,zam zas⟩:(Sl Tie))⟩:Net),(⟨zaU,zaV⟩:Mp)⟩:web) b1).2).Net.Ties.get i))),.mo 3 4 (false,1,false,[none]) ((((Slf69.r.S (⟨(⟨zaA,(⟨zau,zam zas⟩:(Sl Tie))⟩:Net),(⟨zaU,zaV⟩:Mp)⟩:web) b1).2).out).n) ((((Slf69.r.S (⟨(⟨zaA,(⟨zau,zam zas⟩:(Sl Tie))⟩:Net),(⟨zaU,zaV⟩:Mp)⟩:web) b1).2).out).F)],.d (.one (.int .i64 b1))])
  | _=>none
abbrev T69:Tabs:=(((((Tabs.nil.addF 88 zvT).addF 89 zBJ).addO 102 zCO).addO 103 zCP).addM 69 zwV)
theorem zLL (hself:zi7 Tryd.prog 69 zwV):TabsOk Tryd.prog T69:=(((((TabsOk.nil.addF zLx).addF zM8).addO zLJ).addO zLK).addM hself)
abbrev zBL:Ctrs:=csm T69 (λ _ _=>[]) (λ _=>false)
def zfM:Ann:=⟨57,[(0,zK [0,1] [0,12288]),(1,zK [0,1,10] [0,12288]),(2,zK [0,4] [0,17,12288]),(3,zK [0,1,19] [0,12288]),(4,zK [0,4] [0,12288]),(5,zK [0,1,5] [0,12288]),(6,zK [0,1,5,21,22,23] [0,12288]),(7,zK [0,1,5,21,22,23,24] [0,47,12288]),(8,zK [0,1,5,7,21,22,23] [0,7,47,12288]),(9,zK [0,1,5,7,21,22,23,34] [0,7,47,12288]),(10,zK [0,1,5,7,21,22,23] [0,7,47,12288]),(11,zK [0,1,5,7,21,22,23] [0,7,47,12288]),(12,zK [0,1,5,21,22,23] [0,47,12288]),(13,zK [0,1,5,21,22,23] [0,47,12288]),(14,zK [0,4] [0,47,12288])],
 [(7,⟨[0,1,5,21,22,23],[0,47,12288],[(5,47,27,λ _=>zb4 default)],[],[],[],[]⟩)],
 [],
 [],[]⟩
def zge (w:web) (left:Int) (zaG:Int) (za4:Int) (zgf:Nat) (zcs:Nat->List PV) (zgg:Nat) (zct:Nat->List PV) (zaf:Nat) (zab:(List Int->Option (List Int))):St:=⟨[(0,.one (.c (.ptr 0 0))),(1,.one (.c (.p (.int .i64 left)))),(5,.one (.c (.vec 47))),(21,.one (.c (.p (.sl ((s89 w).len) 5 (λ i=>zaF ((s89 w).get i)))))),(22,.one (.c (.p (.int .i64 ((s89 w).len:Int))))),(23,.one (.c (.p (.int .i64 zaG))))],[(0,.box 105 [.p (.int .i64 za4),.p (.sl zgf 4 zcs),.mo 12288]),(47,.vec 27 1 24 zgg zct),(12288,.mo 3 4 (false,1,false,[none]) zaf zab)],[]⟩
def zhK (K:List PA×List XA->Prop) (w:web) (left:Int) (zaG:Int) (za4:Int) (zgf:Nat) (zcs:Nat->List PV) (zgg:Nat) (zct:Nat->List PV) (zaf:Nat) (zab:(List Int->Option (List Int))):Prop:=vc Tryd.prog zBL zfM (cdF Tryd.f69 [1,1,1,1,0,1,0]) (zcu 0 (sqK Tryd.prog zBL zfM (cdF Tryd.f69 [1,1,1,1,1]) (zle Tryd.prog Tryd.f69 [.box 105 [.p (.int .i64 w.Net.Nodes),.p (.sl w.Net.Ties.len 4 (λ i=>enc_40 (w.Net.Ties.get i))),.mo 3 4 (false,1,false,[none]) w.out.n w.out.F],.d (.one (.int .i64 left))] (λ a b=>K (a,b))))) (zge w left zaG za4 zgf zcs zgg zct zaf zab)
theorem zBM (w : web) (left : Int) (K : List PA × List XA → Prop) :
  zkk Tryd.prog zBL zfM 69 [.box 105 [.p (.int .i64 w.Net.Nodes),.p (.sl w.Net.Ties.len 4 (λ i=>enc_40 (w.Net.Ties.get i))),.mo 3 4 (false,1,false,[none]) w.out.n w.out.F],.d (.one (.int .i64 left))] (λ a b=>K (a,b)) =
  ((IsE enc_40 4 4 (λ i=>enc_40 (w.Net.Ties.get i))/\((false,1,false,[none]):MQ)=(false,1,false,[none])/\(p88 w=true)) /\
 (zc1 (!(s88 w))
 (((w.out.n<=1000000/\(ztM w.out.F 9223372036854775808 0 w.out.n).isSome=true)) /\
 (K ([.one (.sl 1 1 (λ _=>(zb4 (⟨w.out.n,(λ i=>(ztN w.out.F w.out.n).getD i 0)⟩:(Sl Int)))))],[.box 105 [.p (.int .i64 w.Net.Nodes),.p (.sl w.Net.Ties.len 4 (λ i=>enc_40 (w.Net.Ties.get i))),.mo 3 4 (false,1,false,[none]) w.out.n w.out.F],.d (.one (.int .i64 left))])))
 (zc1 (left == (0:Int))
 (K ([.one (.nils)],[.box 105 [.p (.int .i64 w.Net.Nodes),.p (.sl w.Net.Ties.len 4 (λ i=>enc_40 (w.Net.Ties.get i))),.mo 3 4 (false,1,false,[none]) w.out.n w.out.F],.d (.one (.int .i64 left))]))
 (((∀ i,sc2 ((λ i=>zaF ((s89 w).get i)) i)=true)/\IsE enc_40 4 4 (λ i=>enc_40 (w.Net.Ties.get i))/\((false,1,false,[none]):MQ)=(false,1,false,[none])/\(p89 w=true)) /\
 (zhK K w left (0:Int) w.Net.Nodes w.Net.Ties.len (λ i=>enc_40 (w.Net.Ties.get i)) 0 (λ i=>zb4 ((λ _=>default) i)) w.out.n w.out.F))))):=by kernel_rfl
def zlT (K:List PA×List XA->Prop) (X0:St->Prop) (w:web) (left:Int) (zaG:Int) (za4:Int) (za6:(Sl Tie)) (zby:(Sl (Sl Int))) (zaf:Nat) (zab:(List Int->Option (List Int))):Prop :=
  (zc1 (decide (zaG < ((s89 w).len : Int)))
 (((0<=zaG/\zaG < ((s89 w).len:Int))) /\
 (zc1 ((zdU (zab [((s89 w).get zaG.toNat).Use.Tie]) 0) != 0)
 (X0 (zge w left (w64 (zaG+(1:Int))) za4 za6.len (λ i=>enc_40 (za6.get i)) zby.len (λ i=>zb4 (zby.get i)) zaf zab))
 ((IsE enc_40 4 4 (λ i=>enc_40 (za6.get i))/\((false,1,false,[none]):MQ)=(false,1,false,[none])/\(Slf69.r.P (⟨(⟨za4,za6⟩:Net),(⟨(addN (zab [((s89 w).get zaG.toNat).Use.Tie]) zaf),(zc5 [((s89 w).get zaG.toNat).Use.Tie] [1] zab)⟩:Mp)⟩:web) (w64 (left - (1:Int)))=true)) /\
 ((((zby.len+((Slf69.r.S (⟨(⟨za4,za6⟩:Net),(⟨(addN (zab [((s89 w).get zaG.toNat).Use.Tie]) zaf),(zc5 [((s89 w).get zaG.toNat).Use.Tie] [1] zab)⟩:Mp)⟩:web) (w64 (left - (1:Int)))).1).len) * 24<=140737488355328/\zby.len+((Slf69.r.S (⟨(⟨za4,za6⟩:Net),(⟨(addN (zab [((s89 w).get zaG.toNat).Use.Tie]) zaf),(zc5 [((s89 w).get zaG.toNat).Use.Tie] [1] zab)⟩:Mp)⟩:web) (w64 (left - (1:Int)))).1).len<=9223372036854775807)) /\
 (X0 (zge w left (w64 (zaG+(1:Int))) (((Slf69.r.S (⟨(⟨za4,za6⟩:Net),(⟨(addN (zab [((s89 w).get zaG.toNat).Use.Tie]) zaf),(zc5 [((s89 w).get zaG.toNat).Use.Tie] [1] zab)⟩:Mp)⟩:web) (w64 (left - (1:Int)))).2).Net.Nodes) (((Slf69.r.S (⟨(⟨za4,za6⟩:Net),(⟨(addN (zab [((s89 w).get zaG.toNat).Use.Tie]) zaf),(zc5 [((s89 w).get zaG.toNat).Use.Tie] [1] zab)⟩:Mp)⟩:web) (w64 (left - (1:Int)))).2).Net.Ties.len) (λ i=>enc_40 (((Slf69.r.S (⟨(⟨za4,za6⟩:Net),(⟨(addN (zab [((s89 w).get zaG.toNat).Use.Tie]) zaf),(zc5 [((s89 w).get zaG.toNat).Use.Tie] [1] zab)⟩:Mp)⟩:web) (w64 (left - (1:Int)))).2).Net.Ties.get i)) (zby.len+((Slf69.r.S (⟨(⟨za4,za6⟩:Net),(⟨(addN (zab [((s89 w).get zaG.toNat).Use.Tie]) zaf),(zc5 [((s89 w).get zaG.toNat).Use.Tie] [1] zab)⟩:Mp)⟩:web) (w64 (left - (1:Int)))).1).len) (appG zby.len (λ i=>zb4 (zby.get i)) (λ i=>zb4 (((Slf69.r.S (⟨(⟨za4,za6⟩:Net),(⟨(addN (zab [((s89 w).get zaG.toNat).Use.Tie]) zaf),(zc5 [((s89 w).get zaG.toNat).Use.Tie] [1] zab)⟩:Mp)⟩:web) (w64 (left - (1:Int)))).1).get i))) (zCc (((((Slf69.r.S (⟨(⟨za4,za6⟩:Net),(⟨(addN (zab [((s89 w).get zaG.toNat).Use.Tie]) zaf),(zc5 [((s89 w).get zaG.toNat).Use.Tie] [1] zab)⟩:Mp)⟩:web) (w64 (left - (1:Int)))).2).out).F) [((s89 w).get zaG.toNat).Use.Tie]) ((((Slf69.r.S (⟨(⟨za4,za6⟩:Net),(⟨(addN (zab [((s89 w).get zaG.toNat).Use.Tie]) zaf),(zc5 [((s89 w).get zaG.toNat).Use.Tie] [1] zab)⟩:Mp)⟩:web) (w64 (left - (1:Int)))).2).out).n)) (zAt [((s89 w).get zaG.toNat).Use.Tie] ((((Slf69.r.S (⟨(⟨za4,za6⟩:Net),(⟨(addN (zab [((s89 w).get zaG.toNat).Use.Tie]) zaf),(zc5 [((s89 w).get zaG.toNat).Use.Tie] [1] zab)⟩:Mp)⟩:web) (w64 (left - (1:Int)))).2).out).F))))))))
 (K ([.one (.sl zby.len 1 (λ i=>zb4 (zby.get i)))],[.box 105 [.p (.int .i64 za4),.p (.sl za6.len 4 (λ i=>enc_40 (za6.get i))),.mo 3 4 (false,1,false,[none]) zaf zab],.d (.one (.int .i64 left))])))
theorem zow (K : List PA × List XA → Prop) (X0 : St → Prop) (w : web) (left : Int) (zaG : Int) (za4 : Int) (za6 : (Sl Tie)) (zby : (Sl (Sl Int))) (zaf : Nat) (zab : (List Int → Option (List Int))) :
  vc Tryd.prog zBL zfM (cd (cdF Tryd.f69 [1,1,1,1,0,1,0]) [0]) (zhV Tryd.prog zfM 7 X0 (zcu 0 (sqK Tryd.prog zBL zfM (cdF Tryd.f69 [1,1,1,1,1]) (zle Tryd.prog Tryd.f69 [.box 105 [.p (.int .i64 w.Net.Nodes),.p (.sl w.Net.Ties.len 4 (λ i=>enc_40 (w.Net.Ties.get i))),.mo 3 4 (false,1,false,[none]) w.out.n w.out.F],.d (.one (.int .i64 left))] (λ a b=>K (a,b)))))) (zge w left zaG za4 za6.len (λ i=>enc_40 (za6.get i)) zby.len (λ i=>zb4 (zby.get i)) zaf zab) =
  zlT K X0 w left zaG za4 za6 zby zaf zab:=by kernel_rfl
theorem ztF (K : List PA × List XA → Prop) (w : web) (left : Int) (zaG : Int) (za4 : Int) (zgf : Nat) (zcs : Nat → List PV) (zgg : Nat) (zct : Nat → List PV) (zaf : Nat) (zab : (List Int → Option (List Int)))
  (h:∀ X0:St->Prop,(∀ (zaG:Int) (za4:Int) (za6:(Sl Tie)) (zby:(Sl (Sl Int))) (zaf:Nat) (zab:(List Int->Option (List Int))),zlT K X0 w left zaG za4 za6 zby zaf zab->X0 (zge w left zaG za4 za6.len (λ i=>enc_40 (za6.get i)) zby.len (λ i=>zb4 (zby.get i)) zaf zab))->X0 (zge w left zaG za4 zgf zcs zgg zct zaf zab)) :
  zhK K w left zaG za4 zgf zcs zgg zct zaf zab:=by
  have e:zhK K w left zaG za4 zgf zcs zgg zct zaf zab=(∀ X:St->Prop,(∀ s,vc Tryd.prog zBL zfM (cd (cdF Tryd.f69 [1,1,1,1,0,1,0]) [0]) (zhV Tryd.prog zfM 7 X (zcu 0 (sqK Tryd.prog zBL zfM (cdF Tryd.f69 [1,1,1,1,1]) (zle Tryd.prog Tryd.f69 [.box 105 [.p (.int .i64 w.Net.Nodes),.p (.sl w.Net.Ties.len 4 (λ i=>enc_40 (w.Net.Ties.get i))),.mo 3 4 (false,1,false,[none]) w.out.n w.out.F],.d (.one (.int .i64 left))] (λ a b=>K (a,b)))))) s->X s)->X (zge w left zaG za4 zgf zcs zgg zct zaf zab)):=by kernel_rfl
  refine zaZ e ?_
  intro X hX
  refine h X ?_
  intro zaG za4 za6 zby zaf zab hs
  refine hX _ ?_
  have e2:=zow K X w left zaG za4 za6 zby zaf zab
  rw[e2]
  exact hs
abbrev zCQ (left:Int) (r:((Sl (Sl Int))×web)):List PA×List XA:=([.one (.sl r.1.len 1 (λ i=>zb4 (r.1.get i)))],[.box 105 [.p (.int .i64 r.2.Net.Nodes),.p (.sl r.2.Net.Ties.len 4 (λ i=>enc_40 (r.2.Net.Ties.get i))),.mo 3 4 (false,1,false,[none]) r.2.out.n r.2.out.F],.d (.one (.int .i64 left))])
attribute [irreducible] zhK
def zmR (w:web) (left:Int) (S0:Int->Int->(Sl Tie)->(Sl (Sl Int))->Nat->(List Int->Option (List Int))->((Sl (Sl Int))×web)) (zaG:Int) (za4:Int) (za6:(Sl Tie)) (zby:(Sl (Sl Int))) (zaf:Nat) (zab:(List Int->Option (List Int))):((Sl (Sl Int))×web) :=
  (cond (decide (zaG < ((s89 w).len : Int)))
 (cond ((zdU (zab [((s89 w).get zaG.toNat).Use.Tie]) 0) != 0)
 (S0 (w64 (zaG+(1:Int))) za4 za6 zby zaf zab)
 (S0 (w64 (zaG+(1:Int))) (((Slf69.r.S (⟨(⟨za4,za6⟩:Net),(⟨(addN (zab [((s89 w).get zaG.toNat).Use.Tie]) zaf),(zc5 [((s89 w).get zaG.toNat).Use.Tie] [1] zab)⟩:Mp)⟩:web) (w64 (left - (1:Int)))).2).Net.Nodes) (((Slf69.r.S (⟨(⟨za4,za6⟩:Net),(⟨(addN (zab [((s89 w).get zaG.toNat).Use.Tie]) zaf),(zc5 [((s89 w).get zaG.toNat).Use.Tie] [1] zab)⟩:Mp)⟩:web) (w64 (left - (1:Int)))).2).Net.Ties) (⟨(zby.len+((Slf69.r.S (⟨(⟨za4,za6⟩:Net),(⟨(addN (zab [((s89 w).get zaG.toNat).Use.Tie]) zaf),(zc5 [((s89 w).get zaG.toNat).Use.Tie] [1] zab)⟩:Mp)⟩:web) (w64 (left - (1:Int)))).1).len),(zgB zby.len zby.get ((Slf69.r.S (⟨(⟨za4,za6⟩:Net),(⟨(addN (zab [((s89 w).get zaG.toNat).Use.Tie]) zaf),(zc5 [((s89 w).get zaG.toNat).Use.Tie] [1] zab)⟩:Mp)⟩:web) (w64 (left - (1:Int)))).1).get)⟩:Sl (Sl Int)) (zCc (((((Slf69.r.S (⟨(⟨za4,za6⟩:Net),(⟨(addN (zab [((s89 w).get zaG.toNat).Use.Tie]) zaf),(zc5 [((s89 w).get zaG.toNat).Use.Tie] [1] zab)⟩:Mp)⟩:web) (w64 (left - (1:Int)))).2).out).F) [((s89 w).get zaG.toNat).Use.Tie]) ((((Slf69.r.S (⟨(⟨za4,za6⟩:Net),(⟨(addN (zab [((s89 w).get zaG.toNat).Use.Tie]) zaf),(zc5 [((s89 w).get zaG.toNat).Use.Tie] [1] zab)⟩:Mp)⟩:web) (w64 (left - (1:Int)))).2).out).n)) (zAt [((s89 w).get zaG.toNat).Use.Tie] ((((Slf69.r.S (⟨(⟨za4,za6⟩:Net),(⟨(addN (zab [((s89 w).get zaG.toNat).Use.Tie]) zaf),(zc5 [((s89 w).get zaG.toNat).Use.Tie] [1] zab)⟩:Mp)⟩:web) (w64 (left - (1:Int)))).2).out).F))))
 (zby,(⟨(⟨za4,za6⟩:Net),(⟨zaf,zab⟩:Mp)⟩:web)))
def zmS (w:web) (left:Int) (P0:Int->Int->(Sl Tie)->(Sl (Sl Int))->Nat->(List Int->Option (List Int))->Bool) (zaG:Int) (za4:Int) (za6:(Sl Tie)) (zby:(Sl (Sl Int))) (zaf:Nat) (zab:(List Int->Option (List Int))):Bool :=
  (cond (decide (zaG < ((s89 w).len : Int)))
 (decide ((0<=zaG/\zaG < ((s89 w).len:Int))) &&
 (cond ((zdU (zab [((s89 w).get zaG.toNat).Use.Tie]) 0) != 0)
 (P0 (w64 (zaG+(1:Int))) za4 za6 zby zaf zab)
 (decide ((Slf69.r.P (⟨(⟨za4,za6⟩:Net),(⟨(addN (zab [((s89 w).get zaG.toNat).Use.Tie]) zaf),(zc5 [((s89 w).get zaG.toNat).Use.Tie] [1] zab)⟩:Mp)⟩:web) (w64 (left - (1:Int)))=true)) &&
 (decide (((zby.len+((Slf69.r.S (⟨(⟨za4,za6⟩:Net),(⟨(addN (zab [((s89 w).get zaG.toNat).Use.Tie]) zaf),(zc5 [((s89 w).get zaG.toNat).Use.Tie] [1] zab)⟩:Mp)⟩:web) (w64 (left - (1:Int)))).1).len) * 24<=140737488355328/\zby.len+((Slf69.r.S (⟨(⟨za4,za6⟩:Net),(⟨(addN (zab [((s89 w).get zaG.toNat).Use.Tie]) zaf),(zc5 [((s89 w).get zaG.toNat).Use.Tie] [1] zab)⟩:Mp)⟩:web) (w64 (left - (1:Int)))).1).len<=9223372036854775807)) &&
 (P0 (w64 (zaG+(1:Int))) (((Slf69.r.S (⟨(⟨za4,za6⟩:Net),(⟨(addN (zab [((s89 w).get zaG.toNat).Use.Tie]) zaf),(zc5 [((s89 w).get zaG.toNat).Use.Tie] [1] zab)⟩:Mp)⟩:web) (w64 (left - (1:Int)))).2).Net.Nodes) (((Slf69.r.S (⟨(⟨za4,za6⟩:Net),(⟨(addN (zab [((s89 w).get zaG.toNat).Use.Tie]) zaf),(zc5 [((s89 w).get zaG.toNat).Use.Tie] [1] zab)⟩:Mp)⟩:web) (w64 (left - (1:Int)))).2).Net.Ties) (⟨(zby.len+((Slf69.r.S (⟨(⟨za4,za6⟩:Net),(⟨(addN (zab [((s89 w).get zaG.toNat).Use.Tie]) zaf),(zc5 [((s89 w).get zaG.toNat).Use.Tie] [1] zab)⟩:Mp)⟩:web) (w64 (left - (1:Int)))).1).len),(zgB zby.len zby.get ((Slf69.r.S (⟨(⟨za4,za6⟩:Net),(⟨(addN (zab [((s89 w).get zaG.toNat).Use.Tie]) zaf),(zc5 [((s89 w).get zaG.toNat).Use.Tie] [1] zab)⟩:Mp)⟩:web) (w64 (left - (1:Int)))).1).get)⟩:Sl (Sl Int)) (zCc (((((Slf69.r.S (⟨(⟨za4,za6⟩:Net),(⟨(addN (zab [((s89 w).get zaG.toNat).Use.Tie]) zaf),(zc5 [((s89 w).get zaG.toNat).Use.Tie] [1] zab)⟩:Mp)⟩:web) (w64 (left - (1:Int)))).2).out).F) [((s89 w).get zaG.toNat).Use.Tie]) ((((Slf69.r.S (⟨(⟨za4,za6⟩:Net),(⟨(addN (zab [((s89 w).get zaG.toNat).Use.Tie]) zaf),(zc5 [((s89 w).get zaG.toNat).Use.Tie] [1] zab)⟩:Mp)⟩:web) (w64 (left - (1:Int)))).2).out).n)) (zAt [((s89 w).get zaG.toNat).Use.Tie] ((((Slf69.r.S (⟨(⟨za4,za6⟩:Net),(⟨(addN (zab [((s89 w).get zaG.toNat).Use.Tie]) zaf),(zc5 [((s89 w).get zaG.toNat).Use.Tie] [1] zab)⟩:Mp)⟩:web) (w64 (left - (1:Int)))).2).out).F)))))))
 true)
def zhL (w : web) (left : Int) : Nat → Int → Int → (Sl Tie) → (Sl (Sl Int)) → Nat → (List Int → Option (List Int)) → ((Sl (Sl Int)) × web)
  | 0=>λ _ _ _ _ _ _=>default
  | k+1=>zmR w left (zhL w left k)
def zhM (w : web) (left : Int) : Nat → Int → Int → (Sl Tie) → (Sl (Sl Int)) → Nat → (List Int → Option (List Int)) → Bool
  | 0=>λ _ _ _ _ _ _=>false
  | k+1=>zmS w left (zhM w left k)
def zsC (w:web) (left:Int) (zaG:Int) (za4:Int) (za6:(Sl Tie)) (zby:(Sl (Sl Int))) (zaf:Nat) (zab:(List Int->Option (List Int))):((Sl (Sl Int))×web):=zhL w left Fuel zaG za4 za6 zby zaf zab
def zsD (w:web) (left:Int) (zaG:Int) (za4:Int) (za6:(Sl Tie)) (zby:(Sl (Sl Int))) (zaf:Nat) (zab:(List Int->Option (List Int))):Bool:=zhM w left Fuel zaG za4 za6 zby zaf zab
theorem zBN (K:List PA×List XA->Prop) (w:web) (left:Int) (zaG:Int) (za4:Int) (za6:(Sl Tie)) (zby:(Sl (Sl Int))) (zaf:Nat) (zab:(List Int->Option (List Int))) (zcs:Nat->List PV) (zkD:zcs=λ i=>enc_40 (za6.get i)) (zct:Nat->List PV) (zkE:zct=λ i=>zb4 (zby.get i)) (hs:zsD w left zaG za4 za6 zby zaf zab=true) (hk:K (zCQ left (zsC w left zaG za4 za6 zby zaf zab))):zhK (WkM K) w left zaG za4 za6.len zcs zby.len zct zaf zab:=by
  refine ztF (WkM K) w left zaG za4 za6.len zcs zby.len zct zaf zab ?_
  intro X0 hstep
  have key:∀ (k:Nat) (zaG:Int) (za4:Int) (za6:(Sl Tie)) (zby:(Sl (Sl Int))) (zaf:Nat) (zab:(List Int->Option (List Int))) (zcs:Nat->List PV) (zkD:zcs=λ i=>enc_40 (za6.get i)) (zct:Nat->List PV) (zkE:zct=λ i=>zb4 (zby.get i)),zhM w left k zaG za4 za6 zby zaf zab=true->K (zCQ left (zhL w left k zaG za4 za6 zby zaf zab))->X0 (zge w left zaG za4 za6.len zcs zby.len zct zaf zab):=by
    intro k
    induction k with
    | zero=>intro zaG za4 za6 zby zaf zab zcs zkD zct zkE hs;exact absurd hs dqk
    | succ k ih =>
      intro zaG za4 za6 zby zaf zab zcs zkD zct zkE hs hk
      subst zkD
      subst zkE
      refine hstep zaG za4 za6 zby zaf zab ?_
      have hs:zmS w left (zhM w left k) zaG za4 za6 zby zaf zab=true:=hs
      have hk:K (zCQ left (zmR w left (zhL w left k) zaG za4 za6 zby zaf zab)):=hk
      unfold zmS at hs
      unfold zmR at hk
      generalize zhL w left k=S0 at hk ih
      generalize zhM w left k=P0 at hs ih
      have hX0:=ih
      exact (zcS (K := λ r => K (zCQ left r))
 (λ hs hk => (zaT hs λ hc hs => ⟨hc, (zcS (K := λ r => K (zCQ left r))
 (λ hs hk=>(hX0 (w64 (zaG+(1:Int))) za4 za6 zby zaf zab (λ i=>enc_40 (za6.get i)) rfl (λ i=>zb4 (zby.get i)) rfl hs hk))
 (λ hs hk=>(zaT hs λ hc hs=>⟨⟨isE,rfl,hc⟩,(zaT hs λ hc hs=>⟨hc,(hX0 (w64 (zaG+(1:Int))) (((Slf69.r.S (⟨(⟨za4,za6⟩:Net),(⟨(addN (zab [((s89 w).get zaG.toNat).Use.Tie]) zaf),(zc5 [((s89 w).get zaG.toNat).Use.Tie] [1] zab)⟩:Mp)⟩:web) (w64 (left - (1:Int)))).2).Net.Nodes) (((Slf69.r.S (⟨(⟨za4,za6⟩:Net),(⟨(addN (zab [((s89 w).get zaG.toNat).Use.Tie]) zaf),(zc5 [((s89 w).get zaG.toNat).Use.Tie] [1] zab)⟩:Mp)⟩:web) (w64 (left - (1:Int)))).2).Net.Ties) (⟨(zby.len+((Slf69.r.S (⟨(⟨za4,za6⟩:Net),(⟨(addN (zab [((s89 w).get zaG.toNat).Use.Tie]) zaf),(zc5 [((s89 w).get zaG.toNat).Use.Tie] [1] zab)⟩:Mp)⟩:web) (w64 (left - (1:Int)))).1).len),(zgB zby.len zby.get ((Slf69.r.S (⟨(⟨za4,za6⟩:Net),(⟨(addN (zab [((s89 w).get zaG.toNat).Use.Tie]) zaf),(zc5 [((s89 w).get zaG.toNat).Use.Tie] [1] zab)⟩:Mp)⟩:web) (w64 (left - (1:Int)))).1).get)⟩:Sl (Sl Int)) (zCc (((((Slf69.r.S (⟨(⟨za4,za6⟩:Net),(⟨(addN (zab [((s89 w).get zaG.toNat).Use.Tie]) zaf),(zc5 [((s89 w).get zaG.toNat).Use.Tie] [1] zab)⟩:Mp)⟩:web) (w64 (left - (1:Int)))).2).out).F) [((s89 w).get zaG.toNat).Use.Tie]) ((((Slf69.r.S (⟨(⟨za4,za6⟩:Net),(⟨(addN (zab [((s89 w).get zaG.toNat).Use.Tie]) zaf),(zc5 [((s89 w).get zaG.toNat).Use.Tie] [1] zab)⟩:Mp)⟩:web) (w64 (left - (1:Int)))).2).out).n)) (zAt [((s89 w).get zaG.toNat).Use.Tie] ((((Slf69.r.S (⟨(⟨za4,za6⟩:Net),(⟨(addN (zab [((s89 w).get zaG.toNat).Use.Tie]) zaf),(zc5 [((s89 w).get zaG.toNat).Use.Tie] [1] zab)⟩:Mp)⟩:web) (w64 (left - (1:Int)))).2).out).F)) (λ i=>enc_40 (((Slf69.r.S (⟨(⟨za4,za6⟩:Net),(⟨(addN (zab [((s89 w).get zaG.toNat).Use.Tie]) zaf),(zc5 [((s89 w).get zaG.toNat).Use.Tie] [1] zab)⟩:Mp)⟩:web) (w64 (left - (1:Int)))).2).Net.Ties.get i)) rfl (appG zby.len (λ i=>zb4 (zby.get i)) (λ i=>zb4 (((Slf69.r.S (⟨(⟨za4,za6⟩:Net),(⟨(addN (zab [((s89 w).get zaG.toNat).Use.Tie]) zaf),(zc5 [((s89 w).get zaG.toNat).Use.Tie] [1] zab)⟩:Mp)⟩:web) (w64 (left - (1:Int)))).1).get i))) (zko (enc:=zb4) (f:=zby.get) (h:=((Slf69.r.S (⟨(⟨za4,za6⟩:Net),(⟨(addN (zab [((s89 w).get zaG.toNat).Use.Tie]) zaf),(zc5 [((s89 w).get zaG.toNat).Use.Tie] [1] zab)⟩:Mp)⟩:web) (w64 (left - (1:Int)))).1).get) rfl rfl) hs hk)⟩)⟩)) hs hk)⟩))
 (fun hs hk=>(zvv hk)) hs hk)
  exact key _ zaG za4 za6 zby zaf zab zcs zkD zct zkE hs hk
def zAq (w:web) (left:Int):((Sl (Sl Int))×web) :=
  (cond (!(s88 w))
 ((⟨1,λ _=>(⟨w.out.n,(λ i=>(ztN w.out.F w.out.n).getD i 0)⟩:(Sl Int))⟩:(Sl (Sl Int))),w)
 (cond (left == (0:Int))
 ((⟨0,λ _=>default⟩:(Sl (Sl Int))),w)
 (zsC w left (0:Int) w.Net.Nodes w.Net.Ties (⟨0,(λ _=>default)⟩:Sl (Sl Int)) w.out.n w.out.F)))
def zK9 (w:web) (left:Int):Bool :=
  (decide ((p88 w=true)) &&
 (cond (!(s88 w))
 (decide ((w.out.n<=1000000/\(ztM w.out.F 9223372036854775808 0 w.out.n).isSome=true)) &&
 true)
 (cond (left == (0:Int))
 true
 (decide ((p89 w=true)) &&
 (zsD w left (0:Int) w.Net.Nodes w.Net.Ties (⟨0,(λ _=>default)⟩:Sl (Sl Int)) w.out.n w.out.F)))))
theorem zNO (w:web) (left:Int) (K:List PA×List XA->Prop) (hs:zK9 w left=true) (hk:K (zCQ left (zAq w left))):zkk Tryd.prog zBL zfM 69 [.box 105 [.p (.int .i64 w.Net.Nodes),.p (.sl w.Net.Ties.len 4 (λ i=>enc_40 (w.Net.Ties.get i))),.mo 3 4 (false,1,false,[none]) w.out.n w.out.F],.d (.one (.int .i64 left))] (λ a b=>(WkM K) (a,b)):=by
  refine zaZ (zBM w left (WkM K)) ?_
  unfold zK9 at hs
  unfold zAq at hk
  exact (zaT hs λ hc hs => ⟨⟨isE, rfl, hc⟩, (zcS (K := λ r => K (zCQ left r))
 (λ hs hk=>(zaT hs λ hc hs=>⟨hc,(zvv hk)⟩))
 (λ hs hk => (zcS (K := λ r => K (zCQ left r))
 (λ hs hk=>(wkM hk (zeu (.one (.nil _ _)) ziR)))
 (λ hs hk=>(zaT hs λ hc hs=>⟨⟨(λ _=>rfl),isE,rfl,hc⟩,(zBN K w left (0:Int) w.Net.Nodes w.Net.Ties (⟨0,(λ _=>default)⟩:Sl (Sl Int)) w.out.n w.out.F (λ i=>enc_40 (w.Net.Ties.get i)) rfl (λ i=>zb4 ((λ _=>default) i)) rfl hs hk)⟩)) hs hk)) hs hk)⟩)
def zJh : MK
  | [.box 105 [.p (.int .i64 zaA),.p (.sl zau zbG zas),.mo 3 4 zdy zaU zaV],.d (.one (.int .i64 b1))]=>some (IsE enc_40 4 zbG zas/\zdy=(false,1,false,[none])/\zK9 (⟨(⟨zaA,(⟨zau,zam zas⟩:(Sl Tie))⟩:Net),(⟨zaU,zaV⟩:Mp)⟩:web) b1=true,[.one (.sl (((zAq (⟨(⟨zaA,(⟨zau,zam zas⟩:(Sl Tie))⟩:Net),(⟨zaU,zaV⟩:Mp)⟩:web) b1).1).len) 1 (λ i=>zb4 (((zAq (⟨(⟨zaA,(⟨zau,zam zas⟩:(Sl Tie))⟩:Net),(⟨zaU,zaV⟩:Mp)⟩:web) b1).1).get i)))],[.box 105 [.p (.int .i64 (((zAq (⟨(⟨zaA,(⟨zau,zam zas⟩:(Sl Tie))⟩:Net),(⟨zaU,zaV⟩:Mp)⟩:web) b1).2).Net.Nodes)),.p (.sl (((zAq (⟨(⟨zaA,(⟨zau,zam zas⟩:(Sl Tie))⟩:Net),(⟨zaU,zaV⟩:Mp)⟩:web) b1).2).Net.Ties.len) 4 (λ i=>enc_40 (((zAq (⟨(⟨zaA,(⟨zau,zam zas⟩:(Sl Tie))⟩:Net),(⟨zaU,zaV⟩:Mp)⟩:web) b1).2).Net.Ties.get i))),.mo 3 4 (false,1,false,[none]) ((((zAq (⟨(⟨zaA,(⟨zau,zam zas⟩:(Sl Tie))⟩:Net),(⟨zaU,zaV⟩:Mp)⟩:web) b1).2).out).n) ((((zAq (⟨(⟨zaA,(⟨zau,zam zas⟩:(Sl Tie))⟩:Net),(⟨zaU,zaV⟩:Mp)⟩:web) b1).2).out).F)],.d (.one (.int .i64 b1))])
  | _=>none
theorem zJi:zar Tryd.prog 69:=⟨_,rfl,rfl,by kernel_rfl⟩
theorem zLM (hself:zi7 Tryd.prog 69 zwV):zi7 Tryd.prog 69 zJh:=zBm (zLL hself) zJi λ xs safe rs ys h hs K hk=>by
  unfold zJh at h
  split at h
  · rename_i zaA zau zbG zas zdy zaU zaV b1
    simp only[dqa,dqh] at h
    obtain⟨rfl,rfl,rfl⟩:=h
    obtain⟨⟨rfl,zcl,rfl⟩,rfl,hs⟩:=hs
    try rw[zak zcl] at hs
    try rw[zak zcl] at hk
    refine⟨λ _ _=>[],λ _=>false,zfM,?_⟩
    show zkk Tryd.prog zBL zfM 69 _ _
    exact zNO (⟨(⟨zaA,(⟨zau,zcl⟩:(Sl Tie))⟩:Net),(⟨zaU,zaV⟩:Mp)⟩:web) b1 (λ x=>K x.1 x.2) hs hk
  · cases h
end
def ztG : Nat → Rec69
  | 0=>⟨λ _ _=>default,λ _ _=>false⟩
  | k+1=>⟨@zAq ⟨ztG k⟩,@zK9 ⟨ztG k⟩⟩
theorem zJj : ∀ k, zi7 Tryd.prog 69 (@zwV ⟨ztG k⟩)
  | 0=>λ xs ys safe rs h hs=>by
    unfold zwV at h
    split at h
    · simp only [dqa, dqh] at h
      obtain⟨rfl,rfl,rfl⟩:=h
      exact absurd hs.2.2 dqk
    · cases h
  | k+1=>@zLM ⟨ztG k⟩ (zJj k)
def s69 (w:web) (left:Int):((Sl (Sl Int))×web):=(ztG 64).S w left
def p69 (w:web) (left:Int):Bool:=(ztG 64).P w left
def zJk : MK
  | [.box 105 [.p (.int .i64 zaA),.p (.sl zau zbG zas),.mo 3 4 zdy zaU zaV],.d (.one (.int .i64 b1))]=>some (IsE enc_40 4 zbG zas/\zdy=(false,1,false,[none])/\p69 (⟨(⟨zaA,(⟨zau,zam zas⟩:(Sl Tie))⟩:Net),(⟨zaU,zaV⟩:Mp)⟩:web) b1=true,[.one (.sl (((s69 (⟨(⟨zaA,(⟨zau,zam zas⟩:(Sl Tie))⟩:Net),(⟨zaU,zaV⟩:Mp)⟩:web) b1).1).len) 1 (λ i=>zb4 (((s69 (⟨(⟨zaA,(⟨zau,zam zas⟩:(Sl Tie))⟩:Net),(⟨zaU,zaV⟩:Mp)⟩:web) b1).1).get i)))],[.box 105 [.p (.int .i64 (((s69 (⟨(⟨zaA,(⟨zau,zam zas⟩:(Sl Tie))⟩:Net),(⟨zaU,zaV⟩:Mp)⟩:web) b1).2).Net.Nodes)),.p (.sl (((s69 (⟨(⟨zaA,(⟨zau,zam zas⟩:(Sl Tie))⟩:Net),(⟨zaU,zaV⟩:Mp)⟩:web) b1).2).Net.Ties.len) 4 (λ i=>enc_40 (((s69 (⟨(⟨zaA,(⟨zau,zam zas⟩:(Sl Tie))⟩:Net),(⟨zaU,zaV⟩:Mp)⟩:web) b1).2).Net.Ties.get i))),.mo 3 4 (false,1,false,[none]) ((((s69 (⟨(⟨zaA,(⟨zau,zam zas⟩:(Sl Tie))⟩:Net),(⟨zaU,zaV⟩:Mp)⟩:web) b1).2).out).n) ((((s69 (⟨(⟨zaA,(⟨zau,zam zas⟩:(Sl Tie))⟩:Net),(⟨zaU,zaV⟩:Mp)⟩:web) b1).2).out).F)],.d (.one (.int .i64 b1))])
  | _=>none
theorem zNP:zi7 Tryd.prog 69 zJk:=zJj 64
abbrev T71:Tabs:=(Tabs.nil.addF 101 zom)
theorem zLN:TabsOk Tryd.prog T71:=(TabsOk.nil.addF zEw)
abbrev G71:Ctrs:=csm T71 (λ _ _=>[]) (λ _=>false)
def zEQ:Ann:=⟨36,[(0,zK [0,1] []),(1,zK [0,1,9,10,11] []),(2,zK [0,1,9,10,11,12] []),(3,zK [0,1,5,6,9,10,11] []),(4,zK [0,1,5,6,9,10,11,19] []),(5,zK [4] []),(6,zK [0,1,6,7,9,10,11] []),(7,zK [0,1,8,9,10,11] []),(8,zK [0,1,8,9,10,11,28] []),(9,zK [4] []),(10,zK [0,1,9,10,11] []),(11,zK [35] []),(12,zK [4] []),(13,zK [4] [])],
 [(2,zK [0,1,9,10,11] [])],
 [(6,zK [0,1,5,6,9,10,11] []),(8,zK [0,1,8,9,10,11] [])],
 [],[]⟩
abbrev R71:=Int
abbrev e71 (r:R71):List PA:=[.one (.int .i64 r)]
@[irreducible] def z71:=ptF Tryd.prog G71 zEQ Tryd.f71
def zCR (ze0:(Sl Int)) (zen:(Sl Int)) (zgX:(Sl Int)) (za9:Int) (zaY:Int) (zdF:Nat->List PV) (zdG:Nat->List PV) (zi1:Nat->List PV):St:=⟨[(0,zP (.sl ze0.len 1 zdF)),(1,zP (.sl zen.len 1 zdG)),(9,zP (.sl zgX.len 1 zi1)),(10,zI za9),(11,zI zaY)],[],[]⟩
abbrev zBO (K:List PA->Prop) (X:St->Prop) (P:(Sl Int)->(Sl Int)->(Sl Int)->Int->Int->Bool) (S:(Sl Int)->(Sl Int)->(Sl Int)->Int->Int->Int):Prop:=∀ ⦃ze0:(Sl Int)⦄ ⦃zen:(Sl Int)⦄ ⦃zgX:(Sl Int)⦄ ⦃za9:Int⦄ ⦃zaY:Int⦄ ⦃zdF:Nat->List PV⦄ ⦃zdG:Nat->List PV⦄ ⦃zi1:Nat->List PV⦄,P ze0 zen zgX za9 zaY=true->K (e71 (S ze0 zen zgX za9 zaY))->zdF=zg enc_3 ze0->zdG=zg enc_3 zen->zi1=zg enc_3 zgX->X (zCR ze0 zen zgX za9 zaY zdF zdG zi1)
section
variable {K:List PA->Prop}{s1_a0:(Sl Int)}{s2_a1:(Sl Int)}{ze0:(Sl Int)}{zen:(Sl Int)}{zgX:(Sl Int)}{za9:Int}{zaY:Int}{zdF:Nat->List PV}{zdG:Nat->List PV}{zi1:Nat->List PV}{X0:St->Prop}{P0:(Sl Int)->(Sl Int)->(Sl Int)->Int->Int->Bool}{S0:(Sl Int)->(Sl Int)->(Sl Int)->Int->Int->Int}{zoo:(Sl Int)}{zjm:(Sl Int)}{iv1:Int}{zER:Int}{zpT:(Sl Int)}{zhN:Int}{zcL:Int}{zop:Nat->List PV}{zoq:Nat->List PV}{zCS:Nat->List PV}{zor:(Sl Int)}{zos:(Sl Int)}{cv2:Int}{zpU:Int}{zot:Nat->List PV}{zou:Nat->List PV}
def zwW (S0:(Sl Int)->(Sl Int)->(Sl Int)->Int->Int->Int) (zpT:(Sl Int)) (zhN:Int) (zor:(Sl Int)) (zos:(Sl Int)) (cv2:Int) (zpU:Int):Int :=
  (cond (cv2 != (0:Int))
 cv2
 (S0 zor zos zpT zhN (w64 (zpU+(1:Int)))))
def zwX (P0:(Sl Int)->(Sl Int)->(Sl Int)->Int->Int->Bool) (zpT:(Sl Int)) (zhN:Int) (zor:(Sl Int)) (zos:(Sl Int)) (cv2:Int) (zpU:Int):Bool :=
  (cond (cv2 != (0:Int))
 true
 (P0 zor zos zpT zhN (w64 (zpU+(1:Int)))))
theorem zES (hX0:zBO K X0 P0 S0) (hs:zwX P0 zpT zhN zor zos cv2 zpU=true) (hk:K (e71 (zwW S0 zpT zhN zor zos cv2 zpU))) (zwe:zot=zg enc_3 zor) (zwf:zou=zg enc_3 zos):z71 K [1,0,1,0,0,1,1,0,0,1,1,1,1] [X0] ⟨[(0,zP (.sl zor.len 1 zot)),(1,zP (.sl zos.len 1 zou)),(8,zI cv2),(9,zS enc_3 1 zpT),(10,zI zhN),(11,zI zpU)],[],[]⟩:=by subst zwe;subst zwf;exact zaZ (by kernel_rfl) (zc hs hk (λ hs hk=>hk) (λ hs hk=>(hX0 hs hk rfl rfl rfl)))
def zwY (S0:(Sl Int)->(Sl Int)->(Sl Int)->Int->Int->Int) (zoo:(Sl Int)) (zjm:(Sl Int)) (iv1:Int) (zER:Int) (zpT:(Sl Int)) (zhN:Int) (zcL:Int):Int :=
  (zwW S0 zpT zhN zoo zjm (znp zER (zjm.get iv1.toNat)) zcL)
def zwZ (P0:(Sl Int)->(Sl Int)->(Sl Int)->Int->Int->Bool) (zoo:(Sl Int)) (zjm:(Sl Int)) (iv1:Int) (zER:Int) (zpT:(Sl Int)) (zhN:Int) (zcL:Int):Bool :=
  (decide ((0<=iv1/\iv1 < (zjm.len:Int))) &&
 (zwX P0 zpT zhN zoo zjm (znp zER (zjm.get iv1.toNat)) zcL))
theorem zET (hX0:zBO K X0 P0 S0) (hs:zwZ P0 zoo zjm iv1 zER zpT zhN zcL=true) (hk:K (e71 (zwY S0 zoo zjm iv1 zER zpT zhN zcL))) (zwg:zop=zg enc_3 zoo) (zwh:zoq=zg enc_3 zjm) (zJl:zCS=zg enc_3 zpT):z71 K [1,0,1,0,0,1,1,0,0,1,1] [X0] ⟨[(0,zP (.sl zoo.len 1 zop)),(1,zP (.sl zjm.len 1 zoq)),(5,zI iv1),(6,zI zER),(9,zP (.sl zpT.len 1 zCS)),(10,zI zhN),(11,zI zcL)],[],[]⟩:=by subst zwg;subst zwh;subst zJl;exact zaZ (by kernel_rfl) (zaT hs λ hc hs=>And.intro hc (zES hX0 hs hk rfl rfl))
def zw0 (S0:(Sl Int)->(Sl Int)->(Sl Int)->Int->Int->Int) (ze0:(Sl Int)) (zen:(Sl Int)) (zgX:(Sl Int)) (za9:Int) (zaY:Int):Int :=
  (cond (decide (zaY < za9))
 (cond (decide (zaY >= (zen.len : Int)))
 (1:Int)
 (zwY S0 ze0 zen zaY (zgX.get zaY.toNat) zgX za9 zaY))
 (cond (decide ((ze0.len : Int) < (zen.len : Int)))
 (-1:Int)
 (0:Int)))
def zw1 (P0:(Sl Int)->(Sl Int)->(Sl Int)->Int->Int->Bool) (ze0:(Sl Int)) (zen:(Sl Int)) (zgX:(Sl Int)) (za9:Int) (zaY:Int):Bool :=
  (cond (decide (zaY < za9))
 (decide ((0<=zaY/\zaY < (zgX.len:Int))) &&
 (cond (decide (zaY >= (zen.len : Int)))
 true
 (zwZ P0 ze0 zen zaY (zgX.get zaY.toNat) zgX za9 zaY)))
 true)
def zw2:Nat->(Sl Int)->(Sl Int)->(Sl Int)->Int->Int->Int:=lpO (λ _ _ _ _ _=>default) (zw0)
def zw3:Nat->(Sl Int)->(Sl Int)->(Sl Int)->Int->Int->Bool:=lpO (λ _ _ _ _ _=>false) (zw1)
def zw4 (ze0:(Sl Int)) (zen:(Sl Int)) (zgX:(Sl Int)) (za9:Int) (zaY:Int):Int:=zw2 Fuel ze0 zen zgX za9 zaY
def zw5 (ze0:(Sl Int)) (zen:(Sl Int)) (zgX:(Sl Int)) (za9:Int) (zaY:Int):Bool:=zw3 Fuel ze0 zen zgX za9 zaY
theorem zEU (hs:zw5 ze0 zen zgX za9 zaY=true) (hk:K (e71 (zw4 ze0 zen zgX za9 zaY))) (zku:zdF=zg enc_3 ze0) (zkv:zdG=zg enc_3 zen) (zw6:zi1=zg enc_3 zgX):z71 K [1,0,1,0] [] (zCR ze0 zen zgX za9 zaY zdF zdG zi1) :=
  zl (λ X=>z71 K [1,0,1,0,0] [X]) (by kernel_rfl) λ X0 hX =>
  (show ∀ k, zBO K X0 (zw3 k) (zw2 k) from zfg _ _ (zw1) (zw0) (zBO K X0)
 (by intro _ _ _ _ _ _ _ _ hs;exact absurd hs dqk)
 (by intro P0 S0 hX0 ze0 zen zgX za9 zaY zdF zdG zi1 hs hk zku zkv zw6;subst zku;subst zkv;subst zw6;exact hX _ (zaZ (by kernel_rfl) (zc hs hk (λ hs hk=>(zaT hs λ hc hs=>And.intro hc (zc hs hk (λ hs hk=>hk) (λ hs hk=>(zET hX0 hs hk rfl rfl rfl))))) (λ hs hk=>(zt hk (λ hk=>hk) (λ hk=>hk))))))) _ hs hk zku zkv zw6
def s71 (s1_a0:(Sl Int)) (s2_a1:(Sl Int)):Int :=
  (zw4 s1_a0 s2_a1 s1_a0 (s1_a0.len:Int) (0:Int))
def p71 (s1_a0:(Sl Int)) (s2_a1:(Sl Int)):Bool :=
  (zw5 s1_a0 s2_a1 s1_a0 (s1_a0.len:Int) (0:Int))
end
theorem q71 (s1_a0:(Sl Int)) (s2_a1:(Sl Int)) (K:List PA->Prop) (hs:p71 s1_a0 s2_a1=true) (hk:K (e71 (s71 s1_a0 s2_a1))):vcFun Tryd.prog G71 zEQ 71 [.one (.sl s1_a0.len 1 (λ i=>enc_3 (s1_a0.get i))),.one (.sl s2_a1.len 1 (λ i=>enc_3 (s2_a1.get i)))] K :=
  zaZ (by kernel_rfl) (zEU hs hk rfl rfl rfl)
def zEV : List PA → COut
  | [.one (.sl zf8 zlS zf9),.one (.sl zdb zgC zc8)]=>.det (IsE enc_3 1 zlS zf9/\IsE enc_3 1 zgC zc8/\p71 (⟨zf8,zav zf9⟩:(Sl Int)) (⟨zdb,zav zc8⟩:(Sl Int))=true) [.one (.int .i64 (s71 (⟨zf8,zav zf9⟩:(Sl Int)) (⟨zdb,zav zc8⟩:(Sl Int))))]
  | _=>.no
theorem zJm:zar Tryd.prog 71:=⟨_,rfl,rfl,by kernel_rfl⟩
theorem zNQ:Ok Tryd.prog 71 zEV:=zbu zLN zJm λ args K h=>by
  unfold zEV at h
  split at h
  · rename_i zf8 zlS zf9 zdb zgC zc8
    obtain⟨⟨⟨rfl,zid,rfl⟩,⟨rfl,ze1,rfl⟩,hs⟩,hk⟩:=h
    try rw[za8 zid] at hs
    try rw[za8 zid] at hk
    try rw[za8 ze1] at hs
    try rw[za8 ze1] at hk
    exact⟨(λ _ _=>[]),(λ _=>false),zEQ,q71 (⟨zf8,zid⟩:(Sl Int)) (⟨zdb,ze1⟩:(Sl Int)) K hs hk⟩
  · exact h.elim
abbrev T70:Tabs:=(Tabs.nil.addF 71 zEV)
theorem zLO:TabsOk Tryd.prog T70:=(TabsOk.nil.addF zNQ)
abbrev G70:Ctrs:=csm T70 (λ _ _=>[]) (λ _=>false)
def zEW:Ann:=⟨33,[(0,zK [0,1] []),(1,zK [0,1,9] []),(3,zK [0,1,5] []),(4,zK [0,1,5,6] []),(5,zK [0,1,5,6,17] []),(6,zK [0,1,5,6] []),(7,zK [0,1,5,6,27] []),(8,zK [0,1,5,6] []),(9,zK [4] [])],
 [(5,zK [0,1,5,6] [])],
 [(3,zK [0,1] []),(8,zK [0,1,5,6,27] [])],
 [],[]⟩
abbrev R70:=(Sl Int)
abbrev e70 (r:R70):List PA:=[.one (.sl r.len 1 (λ i=>enc_3 (r.get i)))]
@[irreducible] def z70:=ptF Tryd.prog G70 zEW Tryd.f70
def zCT (x:(Sl (Sl Int))) (mv1:(Sl Int)) (iv1:Int) (zox:Nat->List PV):St:=⟨[(0,zS zb4 1 x),(1,zP (.fn 71 [] [])),(5,zP (.sl mv1.len 1 zox)),(6,zI iv1)],[],[]⟩
abbrev zEX (K:List PA->Prop) (x:(Sl (Sl Int))) (X:St->Prop) (P:(Sl Int)->Int->Bool) (S:(Sl Int)->Int->(Sl Int)):Prop:=∀ ⦃mv1:(Sl Int)⦄ ⦃iv1:Int⦄ ⦃zox:Nat->List PV⦄,P mv1 iv1=true->K (e70 (S mv1 iv1))->zox=zg enc_3 mv1->X (zCT x mv1 iv1 zox)
section
variable {K:List PA->Prop}{x:(Sl (Sl Int))}{mv1:(Sl Int)}{iv1:Int}{zox:Nat->List PV}{X1:St->Prop}{P1:(Sl Int)->Int->Bool}{S1:(Sl Int)->Int->(Sl Int)}{mv2:(Sl Int)}{iv2:Int}{zpV:Bool}{zJn:Nat->List PV}
def zw7 (S1:(Sl Int)->Int->(Sl Int)) (x:(Sl (Sl Int))) (mv2:(Sl Int)) (iv2:Int) (zpV:Bool):(Sl Int) :=
  (cond zpV
 (S1 (x.get iv2.toNat) (w64 (iv2+(1:Int))))
 (S1 mv2 (w64 (iv2+(1:Int)))))
def zw8 (P1:(Sl Int)->Int->Bool) (x:(Sl (Sl Int))) (mv2:(Sl Int)) (iv2:Int) (zpV:Bool):Bool :=
  (cond zpV
 (decide ((0<=iv2/\iv2 < (x.len:Int))) &&
 (P1 (x.get iv2.toNat) (w64 (iv2+(1:Int)))))
 (P1 mv2 (w64 (iv2+(1:Int)))))
theorem zEY (hX1:zEX K x X1 P1 S1) (hs:zw8 P1 x mv2 iv2 zpV=true) (hk:K (e70 (zw7 S1 x mv2 iv2 zpV))) (zLP:zJn=zg enc_3 mv2):z70 K [1,1,1,0,1,0,0,1,0,0,1] [X1] ⟨[(0,zS zb4 1 x),(1,zP (.fn 71 [] [])),(5,zP (.sl mv2.len 1 zJn)),(6,zI iv2),(27,zB zpV)],[],[]⟩:=by subst zLP;exact zaZ (by kernel_rfl) (zc hs hk (λ hs hk=>(zaT hs λ hc hs=>And.intro hc (hX1 hs hk rfl))) (λ hs hk=>(hX1 hs hk rfl)))
def zw9 (x:(Sl (Sl Int))) (S1:(Sl Int)->Int->(Sl Int)) (mv1:(Sl Int)) (iv1:Int):(Sl Int) :=
  (cond (decide (iv1 < (x.len : Int)))
 (zw7 S1 x mv1 iv1 (decide ((s71 (x.get iv1.toNat) mv1) < (0:Int))))
 mv1)
def zxa (x:(Sl (Sl Int))) (P1:(Sl Int)->Int->Bool) (mv1:(Sl Int)) (iv1:Int):Bool :=
  (cond (decide (iv1 < (x.len : Int)))
 (decide ((0<=iv1/\iv1 < (x.len:Int))) &&
 (decide ((p71 (x.get iv1.toNat) mv1=true)) &&
 (zw8 P1 x mv1 iv1 (decide ((s71 (x.get iv1.toNat) mv1) < (0:Int))))))
 true)
def zxb (x:(Sl (Sl Int))):Nat->(Sl Int)->Int->(Sl Int):=lpO (λ _ _=>default) (zw9 x)
def zxc (x:(Sl (Sl Int))):Nat->(Sl Int)->Int->Bool:=lpO (λ _ _=>false) (zxa x)
def zxd (x:(Sl (Sl Int))) (mv1:(Sl Int)) (iv1:Int):(Sl Int):=zxb x Fuel mv1 iv1
def zxe (x:(Sl (Sl Int))) (mv1:(Sl Int)) (iv1:Int):Bool:=zxc x Fuel mv1 iv1
theorem zEZ (hs:zxe x mv1 iv1=true) (hk:K (e70 (zxd x mv1 iv1))) (zE0:zox=zg enc_3 mv1):z70 K [1,1,1,0,1,0] [] (zCT x mv1 iv1 zox) :=
  zl (λ X=>z70 K [1,1,1,0,1,0,0] [X]) (by kernel_rfl) λ X1 hX =>
  (show ∀ k, zEX K x X1 (zxc x k) (zxb x k) from zfg _ _ (zxa x) (zw9 x) (zEX K x X1)
 (by intro _ _ _ hs;exact absurd hs dqk)
 (by intro P1 S1 hX1 mv1 iv1 zox hs hk zE0;subst zE0;exact hX _ (zaZ (by kernel_rfl) (zc hs hk (λ hs hk=>(zaT hs λ hc hs=>And.intro hc (zaT hs λ hc hs=>And.intro (And.intro (zE enc_3 1 ((x.get iv1.toNat).get)) (And.intro (zE enc_3 1 mv1.get) hc)) (zEY hX1 hs hk rfl)))) (λ hs hk=>hk))))) _ hs hk zE0
def zxf (x:(Sl (Sl Int))):(Sl Int) :=
  (zxd x (x.get 0) (1:Int))
def zxg (x:(Sl (Sl Int))):Bool :=
  (decide ((0<=(0:Int)/\(0:Int) < (x.len:Int))) &&
 (zxe x (x.get 0) (1:Int)))
theorem zE1 (hs:zxg x=true) (hk:K (e70 (zxf x))):z70 K [1,1] [] ⟨[(0,zS zb4 1 x),(1,zP (.fn 71 [] []))],[],[]⟩:=zaZ (by kernel_rfl) (zaT hs λ hc hs=>And.intro hc (zEZ hs hk rfl))
def s70 (x:(Sl (Sl Int))):(Sl Int) :=
  (cond (decide ((x.len : Int) < (1:Int)))
 default
 (zxf x))
def p70 (x:(Sl (Sl Int))):Bool :=
  (cond (decide ((x.len : Int) < (1:Int)))
 false
 (zxg x))
end
theorem q70 (x:(Sl (Sl Int))) (K:List PA->Prop) (hs:p70 x=true) (hk:K (e70 (s70 x))):vcFun Tryd.prog G70 zEW 70 [.one (.sl x.len 1 (λ i=>zb4 (x.get i))),.one (.fn 71 [] [])] K :=
  zaZ (by kernel_rfl) (zc hs hk (λ hs hk=>(absurd hs dqk:False)) (λ hs hk=>(zE1 hs hk)))
def zE2 : List PA → COut
  | [.one (.sl zf8 zlS zf9),.one (.fn 71 [] [])]=>.det (IsE zb4 1 zlS zf9/\p70 (⟨zf8,zmL zf9⟩:(Sl (Sl Int)))=true) [.one (.sl ((s70 (⟨zf8,zmL zf9⟩:(Sl (Sl Int)))).len) 1 (λ i=>enc_3 ((s70 (⟨zf8,zmL zf9⟩:(Sl (Sl Int)))).get i)))]
  | _=>.no
theorem zJo:zar Tryd.prog 70:=⟨_,rfl,rfl,by kernel_rfl⟩
theorem zNR:Ok Tryd.prog 70 zE2:=zbu zLO zJo λ args K h=>by
  unfold zE2 at h
  split at h
  · rename_i zf8 zlS zf9
    obtain⟨⟨⟨rfl,zid,rfl⟩,hs⟩,hk⟩:=h
    try rw[zkp zid] at hs
    try rw[zkp zid] at hk
    exact⟨(λ _ _=>[]),(λ _=>false),zEW,q70 (⟨zf8,zid⟩:(Sl (Sl Int))) K hs hk⟩
  · exact h.elim
end Go.Proofs
namespace Go.Pm
variable [DrawZ]
open Go.RowKit (Below)
structure PanR where
  t1:Nat
  y1:TypeId
  t2:Nat
  y2:TypeId
  e:Int
  ty:TypeId
def PanR.v (pr:PanR):Value:=.iface pr.ty (.agg #[])
def stA (pr : PanR) : Oper := { dst := none, op := .store pr.y1 (.tmp pr.t1) (.const (.slice none 0 0)), type := 0, pos := "", after := #[], guard := none }
def stB (pr : PanR) : Oper := { dst := none, op := .store pr.y2 (.tmp pr.t2) (.const (.int .i64 pr.e)), type := 0, pos := "", after := #[], guard := none }
def zlh (pr:PanR):Array Oper:=#[stA pr,stB pr]
section
variable (P:Program) (Γ:Ctrs)
def zoy (pr : PanR) (fi : FuncId) : Code → Option (Nat × Nat)
  | .region id ops false=>match ops.toList with
    | [o1,o2]=>match o1.op,o1.dst,o1.guard,o2.op,o2.dst,o2.guard with
      | .makeFunc (.func f) first caps,some t,none,.defer { callee:=.value (.tmp t'),args,argTypes:=_ },none,none=>match caps.toList with
        | [.tmp c1,.tmp c2]=>match Nat.beq f fi && Nat.beq t t' && first.isEmpty && args.isEmpty && Nat.beq c1 pr.t1 && Nat.beq c2 pr.t2 && !Nat.beq t pr.t1 && !Nat.beq t pr.t2 with
          | true=>some (id,t)
          | false=>none
        | _=>none
      | _,_,_,_,_,_=>none
    | _=>none
  | _=>none
def zxh (nt : Nat) (pr : PanR) : Code → Option (Nat × Nat)
  | .region _ ops false=>match ops.toList with
    | [o1,o2,o3]=>match o1.op,o1.dst,o1.guard,o2.op,o2.dst,o2.guard,o3.op,o3.guard with
      | .build ty parts,some x,none,.makeInterface ty' (.tmp x'),some y,none,.panic (.tmp y'),none=>match parts.isEmpty && Nat.beq ty pr.ty && Nat.beq ty' pr.ty && Nat.beq x x' && Nat.beq y y' && Nat.blt x nt && Nat.blt y nt with
        | true=>some (x,y)
        | false=>none
      | _,_,_,_,_,_,_,_=>none
    | _=>none
  | _=>none
def zmT (pr : PanR) (fi : FuncId) (ann : Ann) : Bool → Code → (Exit → St → Prop) → St → Prop
  | dn,.seq a b,K,σ=>match zoy pr fi a with
    | some (id,t)=>match Nat.blt t ann.nt && !dn && zH5 [pr.t1,pr.t2] (zfX b) with
      | true=>zDt P ann id (zmT pr fi ann true b K) ⟨(t,.junk) :: σ.env,σ.objs,[]⟩
      | false=>False
    | none=>vc P Γ ann a (zAy (zmT pr fi ann dn b K) K) σ
  | dn,c,K,σ=>match zxh ann.nt pr c with
    | some (x,y)=>match dn with
      | true=>zeV P Γ ann.nt (zlh pr) 0 (zlh pr).toList (K .ret) ⟨(y,.junk) :: (x,.junk) :: σ.env,σ.objs,[]⟩
      | false=>False
    | none=>vc P Γ ann c K σ
def ptD (ann : Ann) (pr : PanR) (fi : FuncId) : Bool → Code → (Exit → St → Prop) → List Nat → List (St → Prop) → St → Prop
  | dn,.seq a b,K,i :: r,X=>match i with
    | 0=>pt P Γ ann a (zAy (zmT P Γ pr fi ann dn b K) K) r X
    | _=>match zoy pr fi a with
      | some _=>ptD ann pr fi true b K r X
      | none=>ptD ann pr fi dn b K r X
  | _,c,K,l,X=>pt P Γ ann c K l X
def zNS (ann:Ann) (pr:PanR) (fi:FuncId) (fn:Func) (K:List PA->Prop) (l:List Nat) (X:List (St->Prop)):St->Prop :=
 match fn.body with
 | some c=>ptD P Γ ann pr fi false c (zeW P fn K) l X
 | none=>λ _=>False
def zsE (pr:PanR) (fi:FuncId) (ann:Ann) (f:FuncId) (args:List PA) (K:List PA->Prop):Prop :=
 match P.funcs[f]? with
 | some fn=>match fn.body with
  | some c=>match Nat.beq ann.nt fn.ntmps && Nat.ble args.length ann.nt && zH5 [rfS] (zfX c) with
   | true=>zmT P Γ pr fi ann false c (zeW P fn K) ⟨zhq 0 args,[],[]⟩
   | false=>False
  | none=>False
 | none=>False
end
section
variable {P:Program}{Γ:Ctrs}{B:Nat}{w0:World}{pr:PanR}
abbrev dfD (fi:FuncId) (v1 v2:Value):Deferred:={ target:=.fn (.func fi) #[v1,v2],args:=#[] }
theorem zlU {fi:FuncId}{c:Code}{id t:Nat}(h:zoy pr fi c=some (id,t)):∃ (o1 o2:Oper) (ats:Array TypeId),c=.region id #[o1,o2] false/\t ≠ pr.t1/\t ≠ pr.t2/\o1.op=.makeFunc (.func fi) #[] #[.tmp pr.t1,.tmp pr.t2]/\o1.dst=some t/\o1.guard=none /\
  o2.op=.defer { callee:=.value (.tmp t),args:=#[],argTypes:=ats }/\o2.dst=none/\o2.guard=none:=by
 unfold zoy at h
 split at h
 ·rename_i id' ops
  split at h
  ·rename_i o1 o2 hops
   split at h
   ·rename_i f first caps t' t2 args ats e1 e2 e3 e4 e5 e6
    split at h
    ·rename_i c1 c2 hcaps
     split at h
     ·rename_i hc
      simp only[dqm] at hc
      simp only[dqa,dqh] at h
      obtain⟨rfl,rfl⟩:=h
      obtain⟨⟨⟨⟨⟨⟨⟨h1,h2⟩,h3⟩,h4⟩,h5⟩,h6⟩,h7⟩,h8⟩:=hc
      have h1:=dqc h1
      have h2:=dqc h2
      have h3:first = #[]:=by simpa using h3
      have h4:args = #[]:=by simpa using h4
      have h5:=dqc h5
      have h6:=dqc h6
      have h7:t' ≠ pr.t1:=Nat.ne_of_beq_eq_false (by simpa using h7)
      have h8:t' ≠ pr.t2:=Nat.ne_of_beq_eq_false (by simpa using h8)
      have h9:caps = #[.tmp c1,.tmp c2]:=by rw[<- Array.toArray_toList (xs:=caps),hcaps]
      subst h1 h2 h3 h4 h9
      rw[h5,h6] at e1
      refine⟨o1,o2,ats,?_,h7,h8,e1,e2,e3,e4,e5,e6⟩
      rw[<- Array.toArray_toList (xs:=ops),hops]
     ·cases h
    ·cases h
   ·cases h
  ·cases h
 ·cases h
theorem zoz {nt:Nat}{c:Code}{x y:Nat}(h:zxh nt pr c=some (x,y)):∃ (id:Nat) (o1 o2 o3:Oper),c=.region id #[o1,o2,o3] false/\x < nt/\y < nt/\o1.op=.build pr.ty #[]/\o1.dst=some x/\o1.guard=none /\
  o2.op=.makeInterface pr.ty (.tmp x)/\o2.dst=some y/\o2.guard=none/\o3.op=.panic (.tmp y)/\o3.guard=none:=by
 unfold zxh at h
 split at h
 ·rename_i id' ops
  split at h
  ·rename_i o1 o2 o3 hops
   split at h
   ·rename_i ty parts a ty' a' b b' e1 e2 e3 e4 e5 e6 e7 e8
    split at h
    ·rename_i hc
     simp only[dqm] at hc
     simp only[dqa,dqh] at h
     obtain⟨rfl,rfl⟩:=h
     obtain⟨⟨⟨⟨⟨⟨h1,h2⟩,h3⟩,h4⟩,h5⟩,h6⟩,h7⟩:=hc
     have h1:parts = #[]:=by simpa using h1
     have h2:=dqc h2
     have h3:=dqc h3
     have h4:=dqc h4
     have h5:=dqc h5
     subst h1 h2 h4 h5
     rw[h3] at e4
     refine⟨id',o1,o2,o3,?_,by simpa [Nat.blt_eq] using h6,by simpa [Nat.blt_eq] using h7,e1,e2,e3,e4,e5,e6,e7,e8⟩
     rw[<- Array.toArray_toList (xs:=ops),hops]
    ·cases h
   ·cases h
  ·cases h
 ·cases h
theorem ztH {fi : FuncId} (hidle : ∀ caps : Array Value, caps.size = 2 → znx P { target := .fn (.func fi) caps, args := #[] }) {c : Code} {id t nt n : Nat} {h0 : Fz} {a : Act} {σ : St} {g : Gh} {w : World} {Q : Exit → Act → World → Prop}
    (h:zoy pr fi c=some (id,t)) (ht:t < nt) (S:Sim P nt B w0 h0 g σ a w)
    (hQ:∀ a',Sim P nt B w0 h0 g ⟨(t,.junk) :: σ.env,σ.objs,[]⟩ a' w->a'.defers=dfD fi (a.tmps.getD pr.t1 undef) (a.tmps.getD pr.t2 undef) :: a.defers->(∀ u,u ≠ t->a'.tmps.getD u undef=a.tmps.getD u undef)->Q .normal a' w):c.wpIn (FR none) n P Q a w:=by
  obtain⟨o1,o2,ats,rfl,n1,n2,e1,e2,e3,e4,e5,e6⟩:=zlU h
  refine wpIn_region ?_
  show wpOpsIn (FR none) n P #[o1,o2] Q [0,1] a w
  have w1:∀ tm,Region.wanted o1 (yielded #[o1,o2] tm)=true:=λ tm=>by simp[Region.wanted,e3]
  have w2:∀ tm,Region.wanted o2 (yielded #[o1,o2] tm)=true:=λ tm=>by simp[Region.wanted,e6]
  have r1:(execOp a.eval o1).run P w=.ok (.value (.func (.func fi) #[] #[a.tmps.getD pr.t1 undef,a.tmps.getD pr.t2 undef])) w:=by
    simp only[execOp,e1,Instr.makeFunc,dqd,dqe,dqb];simp[Act.eval]
  have ets:t < a.tmps.size:=dqS ht S.size
  have ev:(a.put (some t) (.func (.func fi) #[] #[a.tmps.getD pr.t1 undef,a.tmps.getD pr.t2 undef])).eval (.tmp t)=.func (.func fi) #[] #[a.tmps.getD pr.t1 undef,a.tmps.getD pr.t2 undef]:=by
    simp[Act.put,Act.eval,dql,ets]
  have r2:(execOp (a.put (some t) (.func (.func fi) #[] #[a.tmps.getD pr.t1 undef,a.tmps.getD pr.t2 undef])).eval o2).run P w=.ok (.defer (dfD fi (a.tmps.getD pr.t1 undef) (a.tmps.getD pr.t2 undef))) w:=by
    simp only[execOp,e4,resolve,dqd,ev,Deferred.ofValue,dqe,dqb];simp
  show (if Region.wanted o1 (yielded #[o1,o2] a.tmps) then o1.wpIn (FR none) n P a w (wpOpsIn (FR none) n P #[o1,o2] Q [1]) Q else _)
  rw[if_pos (w1 _)]
  refine⟨λ _ _=>trivial,?_⟩
  rw[show o1.semAt (FR none).round a.eval=execOp a.eval o1 from rfl,r1]
  show wpOpsIn (FR none) n P #[o1,o2] Q [1] (a.put o1.dst _) w
  rw[e2]
  show (if Region.wanted o2 (yielded #[o1,o2] (a.put (some t) _).tmps) then o2.wpIn (FR none) n P (a.put (some t) _) w (wpOpsIn (FR none) n P #[o1,o2] Q []) Q else _)
  rw[if_pos (w2 _)]
  refine⟨λ _ _=>trivial,?_⟩
  have r3:Sem.run P (o2.semAt (FR none).round (a.put (some t) (.func (.func fi) #[] #[a.tmps.getD pr.t1 undef,a.tmps.getD pr.t2 undef])).eval) w=.ok (.defer (dfD fi (a.tmps.getD pr.t1 undef) (a.tmps.getD pr.t2 undef))) w:=r2
  rw[r3]
  have S1:=S.put (dst:=some t) (d:=.junk) (v:=.func (.func fi) #[] #[a.tmps.getD pr.t1 undef,a.tmps.getD pr.t2 undef]) (by simpa [zbC,Nat.blt_eq] using ht) trivial (λ L hL=>by simp[zaW,zbg,zaE] at hL) []
  rw[Oper.uponIn_defer,e5]
  refine hQ _ (S1.act ?_ ?_ ?_) rfl λ u hu=>?_
  · obtain ⟨es, m1, m2, m3, m4⟩ := S1.dfr
    refine⟨.inr (dfD fi (a.tmps.getD pr.t1 undef) (a.tmps.getD pr.t2 undef)) :: es,m1,?_,λ E hE=>?_,λ d hd=>?_⟩
    · rw[dqK,<- m2];rfl
    · rcases dqq.1 hE with e | hE
      · cases e
      · exact m3 E hE
    · rcases dqq.1 hd with e | hd
      · cases e;exact hidle _ rfl
      · exact m4 d hd
  · exact S1.size
  · exact S1.env
  · simp[Act.put,dql,Array.getElem?_setIfInBounds_ne (Ne.symm hu)]
theorem zxi (hb : ∀ w, (Instr.build pr.ty #[]).run P w = .ok (.agg #[]) w) (hm : ∀ w, (Instr.makeInterface pr.ty (.agg #[])).run P w = .ok pr.v w) {c : Code} {x y nt n : Nat} {h0 : Fz} {a : Act} {σ : St} {g : Gh} {w : World} {Q : Exit → Act → World → Prop}
    (h:zxh nt pr c=some (x,y)) (S:Sim P nt B w0 h0 g σ a w)
    (hQ:∀ a',Sim P nt B w0 h0 g ⟨(y,.junk) :: (x,.junk) :: σ.env,σ.objs,[]⟩ a' w->a'.defers=a.defers->(∀ u,u ≠ x->u ≠ y->a'.tmps.getD u undef=a.tmps.getD u undef)->Q (.panic [{ v:=pr.v,recovered:=false }]) a' w):c.wpIn (FR none) n P Q a w:=by
  obtain⟨id,o1,o2,o3,rfl,hx,hy,e1,e2,e3,e4,e5,e6,e7,e8⟩:=zoz h
  refine wpIn_region ?_
  show wpOpsIn (FR none) n P #[o1,o2,o3] Q [0,1,2] a w
  have w1:∀ tm,Region.wanted o1 (yielded #[o1,o2,o3] tm)=true:=λ tm=>by simp[Region.wanted,e3]
  have w2:∀ tm,Region.wanted o2 (yielded #[o1,o2,o3] tm)=true:=λ tm=>by simp[Region.wanted,e6]
  have w3:∀ tm,Region.wanted o3 (yielded #[o1,o2,o3] tm)=true:=λ tm=>by simp[Region.wanted,e8]
  have r1:(execOp a.eval o1).run P w=.ok (.value (.agg #[])) w:=by
    simp only[execOp,e1,dqd,Array.map_empty,hb,dqe,dqb]
  have S1:=S.put (dst:=some x) (d:=.junk) (v:=.agg #[]) (by simpa [zbC,Nat.blt_eq] using hx) trivial (λ L hL=>by simp[zaW,zbg,zaE] at hL) []
  have S2:=S1.put (dst:=some y) (d:=.junk) (v:=pr.v) (by simpa [zbC,Nat.blt_eq] using hy) trivial (λ L hL=>by simp[zaW,zbg,zaE] at hL) []
  have ex:(a.put (some x) (.agg #[])).eval (.tmp x)=.agg #[]:=by
    simp[Act.put,Act.eval,dql,dqS hx S.size]
  have ey:((a.put (some x) (.agg #[])).put (some y) pr.v).eval (.tmp y)=pr.v:=by
    simp[Act.put,Act.eval,dql,dqS hy S.size]
  have r2:(execOp (a.put (some x) (.agg #[])).eval o2).run P w=.ok (.value pr.v) w:=by
    simp only[execOp,e4,ex,dqd,hm,dqe,dqb]
  have r3:(execOp ((a.put (some x) (.agg #[])).put (some y) pr.v).eval o3).run P w=.halt (.panic pr.v) w:=by
    simp only[execOp,e7,ey];rfl
  show (if Region.wanted o1 (yielded #[o1,o2,o3] a.tmps) then o1.wpIn (FR none) n P a w (wpOpsIn (FR none) n P #[o1,o2,o3] Q [1,2]) Q else _)
  rw[if_pos (w1 _)]
  refine⟨λ _ _=>trivial,?_⟩
  rw[show o1.semAt (FR none).round a.eval=execOp a.eval o1 from rfl,r1,Oper.uponIn_value,e2]
  show (if Region.wanted o2 (yielded #[o1,o2,o3] (a.put (some x) _).tmps) then o2.wpIn (FR none) n P (a.put (some x) _) w (wpOpsIn (FR none) n P #[o1,o2,o3] Q [2]) Q else _)
  rw[if_pos (w2 _)]
  refine⟨λ _ _=>trivial,?_⟩
  rw[show o2.semAt (FR none).round (a.put (some x) (.agg #[])).eval=execOp (a.put (some x) (.agg #[])).eval o2 from rfl,r2,Oper.uponIn_value,e5]
  show (if Region.wanted o3 (yielded #[o1,o2,o3] ((a.put (some x) _).put (some y) _).tmps) then o3.wpIn (FR none) n P ((a.put (some x) _).put (some y) _) w (wpOpsIn (FR none) n P #[o1,o2,o3] Q []) Q else _)
  rw[if_pos (w3 _)]
  refine⟨λ _ _=>trivial,?_⟩
  rw[show o3.semAt (FR none).round ((a.put (some x) (.agg #[])).put (some y) pr.v).eval=execOp ((a.put (some x) (.agg #[])).put (some y) pr.v).eval o3 from rfl,r3,Oper.uponIn_panic]
  refine hQ _ S2 rfl λ u hu hu'=>?_
  simp[Act.put,dql,Array.getElem?_setIfInBounds_ne (Ne.symm hu),Array.getElem?_setIfInBounds_ne (Ne.symm hu')]
def zpW (P:Program) (Γ:Ctrs) (nt B:Nat) (w0:World) (h0:Fz) (pr:PanR) (fi:FuncId) (K:Exit->St->Prop):Exit->Act->World->Prop :=
 fun e a' w' => (∃ g' σ', K e σ' ∧ Sim P nt B w0 h0 g' σ' a' w') ∨
  (e=.panic [{ v:=pr.v,recovered:=false }]/\∃ g' σ',Sim P nt B w0 h0 g' σ' a' w'/\a'.defers=[dfD fi (a'.tmps.getD pr.t1 undef) (a'.tmps.getD pr.t2 undef)]/\zeV P Γ nt (zlh pr) 0 (zlh pr).toList (K .ret) { σ' with log:=[] })
def PhD (pr : PanR) (fi : FuncId) (D : List Nat) (a0 : Act) : Bool → Prop
  | false=>a0.defers=[]
  | true=>a0.defers=[dfD fi (a0.tmps.getD pr.t1 undef) (a0.tmps.getD pr.t2 undef)]/\pr.t1 ∉ D/\pr.t2 ∉ D
theorem zxj {a b:List Nat}(h:zH5 a b=true):∀ t∈a,t ∉ b:=λ t ht hb=>by
 have:=List.all_eq_true.1 h t ht
 simp at this
 exact this hb
theorem zE3 (hok : OkAll P Γ) {fi : FuncId} (hidle : ∀ caps : Array Value, caps.size = 2 → znx P { target := .fn (.func fi) caps, args := #[] })
    (hb:∀ w,(Instr.build pr.ty #[]).run P w=.ok (.agg #[]) w) (hm:∀ w,(Instr.makeInterface pr.ty (.agg #[])).run P w=.ok pr.v w) (ann:Ann):∀ (c:Code) (dn:Bool) (n:Nat) (h0:Fz) (D:List Nat) (a0:Act) (K:Exit->St->Prop) (σ:St) (g:Gh) (a:Act) (w:World),
    (∀ t∈zfX c,t∈D)->rfS ∉ D->PhD pr fi D a0 dn->zmT P Γ pr fi ann dn c K σ->Sim P ann.nt B w0 h0 g σ a w->Kp D a0 a->c.wpIn (FR none) n P (zpW P Γ ann.nt B w0 h0 pr fi K) a w:=by
  intro c
  have leaf:∀ (c:Code),(∀ dn K σ,zmT P Γ pr fi ann dn c K σ=(match zxh ann.nt pr c with
      | some (x,y)=>(match dn with
        | true=>zeV P Γ ann.nt (zlh pr) 0 (zlh pr).toList (K .ret) ⟨(y,.junk) :: (x,.junk) :: σ.env,σ.objs,[]⟩
        | false=>False)
      | none=>vc P Γ ann c K σ))->∀ (dn:Bool) (n:Nat) (h0:Fz) (D:List Nat) (a0:Act) (K:Exit->St->Prop) (σ:St) (g:Gh) (a:Act) (w:World),
      (∀ t∈zfX c,t∈D)->rfS ∉ D->PhD pr fi D a0 dn->zmT P Γ pr fi ann dn c K σ->Sim P ann.nt B w0 h0 g σ a w->Kp D a0 a->c.wpIn (FR none) n P (zpW P Γ ann.nt B w0 h0 pr fi K) a w:=by
    intro c hc dn n h0 D a0 K σ g a w hD hr hph h S hkp
    rw[hc] at h
    split at h
    · rename_i x y hpan
      split at h
      · refine zxi hb hm hpan S fun a' S' hdf htm => .inr ⟨rfl, g, _, S', ?_, h⟩
        obtain⟨p1,p2,p3⟩:=hph
        obtain⟨id,o1,o2,o3,rfl,_,_,_,e2,_,_,e5,_⟩:=zoz hpan
        have hxD:x∈D:=hD x (by simp[zfX,ztO,e2])
        have hyD:y∈D:=hD y (by simp only[zfX,ztO,e2,e5];simp)
        rw[hdf,hkp.2.2 hr,p1,htm _ (λ e=>p2 (by rw[e];exact hxD)) (λ e=>p2 (by rw[e];exact hyD)),htm _ (λ e=>p3 (by rw[e];exact hxD)) (λ e=>p3 (by rw[e];exact hyD)),hkp.1 _ p2,hkp.1 _ p3]
      · exact h.elim
    · exact wpIn_mono (zrH hok ann c none n h0 D a0 K σ g a w hD (Rnd.none h0) h S hkp) λ e a' w' ⟨g',σ',hK,S',_⟩=>.inl ⟨g',σ',hK,S'⟩
  induction c with
  | seq x y _ ihy =>
    intro dn n h0 D a0 K σ g a w hD hr hph h S hkp
    have hDx:∀ t∈zfX x,t∈D:=λ t ht=>hD t (dqg.2 (.inl ht))
    have hDy:∀ t∈zfX y,t∈D:=λ t ht=>hD t (dqg.2 (.inr ht))
    simp only[zmT] at h
    split at h
    · rename_i id t hdf
      split at h
      · rename_i hlt
        simp only[dqm,Bool.not_eq_true'] at hlt
        obtain⟨⟨ht,hdn⟩,hdj⟩:=hlt
        subst hdn
        have ht:t < ann.nt:=by simpa [Nat.blt_eq] using ht
        have hph:a0.defers=[]:=hph
        refine wpIn_seq (ztH hidle hdf ht S λ a' S' hd' htm=>?_)
        have hd:=zxj hdj
        obtain⟨_,_,_,rfl,n1,n2,_⟩:=zlU hdf
        have hph':PhD pr fi (zfX y) a' true:=by
          refine⟨?_,hd _ (by simp),hd _ (by simp)⟩
          rw[hd',hkp.2.2 hr,hph,htm _ (Ne.symm n1),htm _ (Ne.symm n2)]
        have hk:∀ s g2,zmT P Γ pr fi ann true y K s->Sim P ann.nt B w0 h0 g2 s a' w->y.wpIn (FR none) n P (zpW P Γ ann.nt B w0 h0 pr fi K) a' w:=λ s g2 hv S2 =>
          ihy true n h0 (zfX y) a' K s g2 a' w (λ _ h=>h) (λ h=>hr (hDy _ h)) hph' hv S2 (Kp.refl _ _)
        unfold zDt at h
        split at h
        · split at h
          · rename_i s hs
            obtain⟨g2,S2⟩:=zbs hs S'
            exact hk s g2 h S2
          · exact h.elim
        · exact hk _ g h S'
      · exact h.elim
    · refine wpIn_seq (wpIn_mono (zrH hok ann x none n h0 D a0 _ σ g a w hDx (Rnd.none h0) h S hkp) ?_)
      rintro e a' w' ⟨g',σ',hK,S',hk'⟩
      cases e with
      | normal=>exact ihy dn n h0 D a0 K σ' g' a' w' hDy hr hph hK S' hk'
      | exit id=>exact .inl ⟨g',σ',hK,S'⟩
      | goto l=>exact .inl ⟨g',σ',hK,S'⟩
      | ret=>exact .inl ⟨g',σ',hK,S'⟩
      | panic ch=>exact .inl ⟨g',σ',hK,S'⟩
      | outgrown=>exact .inl ⟨g',σ',hK,S'⟩
  | skip=>exact leaf _ λ dn K σ=>rfl
  | region i o d=>exact leaf _ λ dn K σ=>rfl
  | cond c x y=>exact leaf _ λ dn K σ=>rfl
  | block i x=>exact leaf _ λ dn K σ=>rfl
  | loop x=>exact leaf _ λ dn K σ=>rfl
  | scope x=>exact leaf _ λ dn K σ=>rfl
  | exit i=>exact leaf _ λ dn K σ=>rfl
  | goto i=>exact leaf _ λ dn K σ=>rfl
  | label i=>exact leaf _ λ dn K σ=>rfl
  | ret=>exact leaf _ λ dn K σ=>rfl
  | rangeFunc f p x y=>exact leaf _ λ dn K σ=>rfl
  | refuse x=>exact leaf _ λ dn K σ=>rfl
theorem zE4 {n : Nat} {a : Act} {w : World} {Q : Exit → Act → World → Prop} (h : wpOpsIn (FR none) n P (zlh pr) Q [0, 1] a w) (hQ : ∀ ch a' w', ¬ Q (.panic ch) a' w') :
  ∃ w1 w2,(Instr.storeAt pr.y1 (a.tmps.getD pr.t1 undef) (.slice none 0 0)).run P w=.ok () w1/\(Instr.storeAt pr.y2 (a.tmps.getD pr.t2 undef) (.int .i64 pr.e)).run P w1=.ok () w2/\Q .normal a w2:=by
 have one:∀ (o:Oper) (ty:TypeId) (t:Nat) (v:Value) (w:World) (next:Act->World->Prop),o.op=.store ty (.tmp t) (.const v)->o.dst=none->o.wpIn (FR none) n P a w next Q->∃ w1,(Instr.storeAt ty (a.tmps.getD t undef) v).run P w=.ok () w1/\next a w1:=by
  intro o ty t v w next ho hd h
  obtain⟨_,h⟩:=h
  have e:o.semAt (FR none).round a.eval=(do Instr.storeAt ty (a.tmps.getD t undef) v;pure .skip):=by
   show execOp a.eval o=_
   simp only[execOp,ho];rfl
  rw[e] at h
  simp only[dqd] at h
  cases hr:(Instr.storeAt ty (a.tmps.getD t undef) v).run P w with
  | ok u w1 =>
   rw[hr] at h
   simp only[dqb,dqe,Oper.uponIn_skip,hd] at h
   exact⟨w1,rfl,h⟩
  | halt hh w1 =>
   rw[hr] at h
   cases hh with
   | panic v=>exact (hQ _ _ _ h).elim
   | _=>exact h.elim
 have w1:∀ (o:Oper) tm,o.guard=none->Region.wanted o (yielded (zlh pr) tm)=true:=λ o tm e3=>by simp[Region.wanted,e3]
 have e0:(zlh pr)[0]? = some (stA pr):=rfl
 have e1:(zlh pr)[1]? = some (stB pr):=rfl
 simp only[wpOpsIn,e0,e1] at h
 rw[if_pos (w1 _ _ rfl)] at h
 obtain⟨wa,hr1,h⟩:=one _ _ _ _ _ _ rfl rfl h
 rw[if_pos (w1 _ _ rfl)] at h
 obtain⟨wb,hr2,h⟩:=one _ _ _ _ _ _ rfl rfl h
 exact⟨wa,wb,hr1,hr2,h⟩
def zM9 (P:Program) (pr:PanR) (fi:FuncId):Prop:=∀ (v1 v2:Value) (w:World),∃ os:Array Obj,∀ w1 w2,(Instr.storeAt pr.y1 v1 (.slice none 0 0)).run P { w with heap:=w.heap ++ os } = .ok () w1->(Instr.storeAt pr.y2 v2 (.int .i64 pr.e)).run P w1=.ok () w2 ->
 (∀ w,(invoke (dfD fi v1 v2).target (dfD fi v1 v2).args).run P w=.ok (.enter fi #[v1,v2]) w) /\
 ∀ n,CallsDIn (FR none) n P fi #[v1,v2] (.panicking [{ v:=pr.v,recovered:=false }]) w λ e u' w'=>(∃ v,e=.returned v)/\u'=.panicking [{ v:=pr.v,recovered:=true }]/\w'=w2
structure DefD (P : Program) (pr : PanR) (fi : FuncId) : Prop where
  idle:∀ caps:Array Value,caps.size=2->znx P { target:=.fn (.func fi) caps,args:=#[] }
  bld:∀ w,(Instr.build pr.ty #[]).run P w=.ok (.agg #[]) w
  mki:∀ w,(Instr.makeInterface pr.ty (.agg #[])).run P w=.ok pr.v w
  pan:zM9 P pr fi
theorem zBP {G : Ctrs} (hok : OkAll P G) {f fi : FuncId} (H : DefD P pr fi) {args : List PA} {K : List PA → Prop} {ann : Ann} (hv : zsE P G pr fi ann f args K) {w : World} {h0 : Fz} {vs : List Value} (hvs : RL (paR h0) args vs) (hfz : Hw h0 w) (hgl : zeh h0) :
    Calls P f vs.toArray w λ e w'=>∃ (h':Fz) (rs:List PA) (v:Value),K rs/\e=.returned v/\zl9 h' rs v/\Bel h0 w.heap.size w w' /\
      Fle h0 h'/\Hw h' w'/\∀ b o,h' b=some o->h0 b=some o\/w.heap.size<=b:=by
  unfold zsE at hv
  split at hv
  · rename_i fn hfn
    split at hv
    · rename_i c hbody
      split at hv
      · rename_i hnt
        simp only[dqm,Nat.ble_eq] at hnt
        have S:=zkj (P:=P) (dqc hnt.1.1) hnt.1.2 hvs hfz hgl
        have hwp:=zE3 (B:=w.heap.size) (w0:=w) hok H.idle H.bld H.mki ann c false 0 h0 (zfX c) { tmps:=vs.toArray ++ Array.replicate (fn.ntmps - vs.toArray.size) undef,defers:=[] } _ _ _ _ _ (λ _ h=>h) (zxj hnt.2 _ (by simp)) rfl hv S (Kp.refl _ _)
        refine (callsIn_wide (n:=0)).1 ?_
        refine callsIn_of_wp_marks (F:=FR none) hfn hbody trivial (wpIn_mono hwp ?_)
        have h0b:∀ b,h0 b=some (.fz (.deferred (some [])))->b < w.heap.size:=λ b h=>hfz.lt h
        have res:∀ σ' g2 a2 w2,zCe P fn K σ'->Sim P ann.nt w.heap.size w h0 g2 σ' a2 w2->∃ v,(results fn a2.tmps).run P w2=.ok v w2/\∃ (h':Fz) (rs:List PA) (v':Value),K rs/\Ending.returned v=.returned v'/\zl9 h' rs v'/\Bel h0 w.heap.size w w2 /\
            Fle h0 h'/\Hw h' w2/\∀ b o,h' b=some o->h0 b=some o\/w.heap.size<=b:=by
          intro σ' g2 a2 w2 hf S2
          unfold zCe at hf
          split at hf
          · rename_i l hl
            obtain⟨u,v,hu,hrun,hres⟩:=zkh S2 hl
            obtain⟨h',S3,F⟩:=S2.freeze hu
            exact⟨v,hrun,h',l,v,hf,rfl,hres h' F,S3.below,S3.le0,S3.hw,S3.hn⟩
          · exact hf.elim
        rintro e a' w' (⟨g',σ',hK',S'⟩ | ⟨rfl,g',σ',S',hdf,hvo⟩)
        · have fin:zCe P fn K σ'->LeavesInM (FR none) 0 P fn a'.tmps (λ e w'=>∃ (h':Fz) (rs:List PA) (v:Value),K rs/\e=.returned v/\zl9 h' rs v/\Bel h0 w.heap.size w w' /\
              Fle h0 h'/\Hw h' w'/\∀ b o,h' b=some o->h0 b=some o\/w.heap.size<=b) a'.defers .returning w':=by
            intro hf
            obtain⟨Ds,h1,h2,h3,h4⟩:=S'.dfr
            exact zki h0b Ds g' a' w' h1 h2 h3 h4 S' λ g2 a2 w2 _ S2=>res σ' g2 a2 w2 hf S2
          cases e with
          | normal=>exact fin hK'
          | ret=>exact fin hK'
          | exit id=>exact hK'.elim
          | goto l=>exact hK'.elim
          | panic ch=>exact hK'.elim
          | outgrown=>exact hK'.elim
        · show LeavesInM (FR none) 0 P fn a'.tmps _ a'.defers (.panicking _) w'
          rw[hdf]
          obtain⟨os,hpan⟩:=H.pan (a'.tmps.getD pr.t1 undef) (a'.tmps.getD pr.t2 undef) w'
          have hsame:∀ k,k < w'.heap.size->(w'.heap ++ os)[k]? = w'.heap[k]?:=λ k hk=>Array.getElem?_append_left hk
          have S1 : Sim P ann.nt w.heap.size w h0 g' σ' a' { w' with heap := w'.heap ++ os } := S'.world (h' := g'.h) (fun _ _ h => h) (S'.hw.same fun k o hk => hsame k (S'.hw.lt hk)) (fun _ _ h => .inl h)
            ⟨rfl,rfl,rfl,by simp,dqt _,λ k hk _=>hsame k hk⟩
          have hops:=zjZ (r:=none) (n:=0) (D:=[]) (a0:=a') (Q:=λ e a2 w2=>e=.normal/\a2.tmps=a'.tmps/\∃ g2 σ2,zCe P fn K σ2/\Sim P ann.nt w.heap.size w h0 g2 σ2 a2 w2) hok (λ j o ho t ht=>by
            match j,ho with
            | 0,ho=>cases ho;cases ht
            | 1,ho=>cases ho;cases ht
            | _+2,ho=>cases ho) hvo (S1.log []) (Kp.refl _ _) λ σ2 hK g2 a2 w2 S2 hk2 _=>⟨rfl,?_,g2,σ2,hK,S2⟩
          · obtain ⟨w1, w2, hr1, hr2, _, _, g2, σ2, hf, S2⟩ := zE4 hops fun ch a2 w2 h => by cases h.1
            obtain⟨hinv,hcall⟩:=hpan w1 w2 hr1 hr2
            refine⟨by simp,.inr ⟨(λ h=>by cases h),.func fi,_,fi,_,rfl,hinv w',(λ _ _=>trivial),?_⟩⟩
            refine (hcall _).mono ?_
            rintro e u' w3 ⟨⟨v,rfl⟩,rfl,rfl⟩
            exact res σ2 g2 a' _ hf S2
          · refine Array.ext (hk2.2.1) fun i h1 h2 => ?_
            have:=hk2.1 i (by simp)
            rw[dql,dql,Array.getElem?_eq_getElem h1,Array.getElem?_eq_getElem h2] at this
            exact this
      · exact hv.elim
    · exact hv.elim
  · exact hv.elim
theorem zBQ {T : Tabs} (hT : TabsOk P T) {f fi : FuncId} {C : List PA → COut} (hc : zar P f) (H : DefD P pr fi)
    (h:∀ args K,(C args).wp K->∃ args',RL PAle args args'/\∃ memo vv ann,zsE P (csm T memo vv) pr fi ann f args' (Wk K)):Ok P f C:=by
  intro args K hK w h0 vs hvs hfz hgl
  obtain⟨args',hle,memo,vv,ann,hv⟩:=h args K hK
  refine⟨hc,(zBP (hT.all memo vv) H hv (zvt (R:=paR h0) (S:=PAle) (T:=paR h0) (λ _ _ _ e r=>zBl e r) _ _ _ hle hvs) hfz hgl).mono ?_⟩
  rintro e w' ⟨h',rs,v,⟨rs',hr,hk⟩,he,hres,rest⟩
  exact⟨h',rs',v,hk,he,zvu hr hres,rest⟩
end
end Go.Pm
namespace Go.Pm
open Go Go.Proofs
set_option maxRecDepth 100000
theorem zJp:∀ caps:Array Value,caps.size=2->znx Tryd.prog { target:=.fn (.func 68) caps,args:=#[] }:=λ caps hc=>by
 match caps,hc with
 | ⟨[x,y]⟩,_ =>
 refine⟨.func 68,#[x,y],68,#[x,y],rfl,λ w=>?_,λ n w=>?_⟩
 ·have h : zar Tryd.prog 68 := ⟨_, rfl, rfl, by kernel_rfl⟩
  show (callFunc 68 (#[] ++ #[x,y])).run Tryd.prog w=_
  exact zbI h
 have key:CallsDIn { fn:=λ _=>True,depth:=none,alive:=false,round:=none } n Tryd.prog 68 #[x,y] .returning w λ e u' w'=>e=.returned (.tuple #[])/\u'=.returning/\w'=w:=by
  refine callsDIn_of_wpSIn Tryd.func68 rfl trivial λ c₀ cs hu=>?_
  apply wpSIn_seq
  apply wpSIn_region
  simp[wpOpsSIn,go_sem,recoverD,hu,Tryd.ntmps68,Exit.thenS]
  apply wpSIn_seq
  apply wpSIn_region
  simp[wpOpsSIn,go_sem,recoverD,hu,Tryd.ntmps68,Exit.thenS]
  refine wpSIn_cond (t:=false) (by simp[Act.eval,Array.replicate]) ?_
  simp only[Bool.false_eq_true,if_false]
  refine wpSIn_of_wpIn rfl (wpIn_skip ?_)
  cases c₀
  simp_all [bodyPostS,results,Tryd.results68]
 exact key.mono λ e u' w' h=>⟨⟨_,h.1⟩,h.2⟩
theorem zE5:Tryd.prog.underlying 100=some (.struct #[]):=by kernel_rfl
theorem zLQ (w:World):(Instr.typeAssert (.iface 100 (.agg #[])) 20 100 true).run Tryd.prog w=.ok (.tuple #[.agg #[],.bool true]) w:=by
 simp only[Instr.typeAssert,dqd,run_underlying zE5,dqb,if_true,dqe]
abbrev zHV:PanR:=⟨2,27,3,28,8,100⟩
theorem zLR:zM9 Tryd.prog zHV 68:=λ v1 v2 w=>by
 refine⟨#[.cells #[] 100 (0,0)],λ w1 w2 h1 h2=>⟨λ w=>?_,λ n=>?_⟩⟩
 ·have h : zar Tryd.prog 68 := ⟨_, rfl, rfl, by kernel_rfl⟩
  show (callFunc 68 (#[] ++ #[v1,v2])).run Tryd.prog w=_
  exact zbI h
 have key:CallsDIn { fn:=λ _=>True,depth:=none,alive:=false,round:=none } n Tryd.prog 68 #[v1,v2] (.panicking [{ v:=zHV.v,recovered:=false }]) w λ e u' w'=>e=.returned (.tuple #[])/\u'=.panicking [{ v:=zHV.v,recovered:=true }]/\w'=w2:=by
  refine callsDIn_of_wpSIn Tryd.func68 rfl trivial λ c₀ cs hu=>?_
  apply wpSIn_seq
  apply wpSIn_region
  simp[wpOpsSIn,go_sem,recoverD,hu,Tryd.ntmps68,Exit.thenS]
  apply wpSIn_seq
  apply wpSIn_region
  simp[wpOpsSIn,go_sem,recoverD,hu,Tryd.ntmps68,Exit.thenS,PanR.v]
  refine wpSIn_cond (t:=true) (by simp[Act.eval,Array.replicate]) ?_
  simp only[if_true]
  apply wpSIn_seq
  apply wpSIn_seq
  apply wpSIn_region
  simp[wpOpsSIn,go_sem,recoverD,hu,Tryd.ntmps68,Exit.thenS,PanR.v,zLQ]
  apply wpSIn_seq
  apply wpSIn_region
  simp[wpOpsSIn,go_sem,recoverD,hu,Tryd.ntmps68,Exit.thenS]
  refine wpSIn_cond (t:=false) (by simp[Act.eval,Array.replicate]) ?_
  simp only[Bool.false_eq_true,if_false]
  refine wpSIn_of_wpIn rfl (wpIn_skip ?_)
  simp only[Exit.thenS]
  apply wpSIn_region
  have e:w.alloc (Obj.cells #[] 100) = { w with heap:=w.heap ++ #[.cells #[] 100 (0,0)] }:=by
   show ({ w with heap:=w.heap.push _ } : World)=_
   rw[Array.push_eq_append]
  rw[<- e] at h1
  generalize hA:(Act.mk _ _)=A
  have hA0:A.eval (.tmp 0)=v1:=by subst hA;simp[Act.eval]
  have hA1:A.eval (.tmp 1)=v2:=by subst hA;simp[Act.eval]
  have hc:A.eval (.const (.slice none 0 0))=.slice none 0 0:=rfl
  have hc':A.eval (.const (.int .i64 8))=.int .i64 8:=rfl
  have hAd:A.defers=[]:=by subst hA;rfl
  clear hA
  show wpOpsSIn _ n Tryd.prog _ _ [0,1] A _ _
  simp[wpOpsSIn,execOp,hA0,hA1,hc,hc',h1,h2,Region.wanted,Act.put,Oper.about,bodyPostS,results,Tryd.results68]
  exact hAd
 exact key.mono λ e u' w' h=>⟨⟨_,h.1⟩,h.2⟩
theorem zLS:DefD Tryd.prog zHV 68:=by
 refine⟨zJp,λ w=>?_,λ w=>?_,zLR⟩
 ·have hz : (zeroValue 100).run Tryd.prog w = .ok (.agg #[]) w := by simp [go_sem]
  have hm:(Array.mapM (λ (f:Field)=>do let __do_lift <- sizeOf f.type;pure (f.offset,__do_lift)) #[]:Sem (Array (Nat×Nat)))=pure #[]:=by simp
  simp only[Instr.build,dqd,run_underlying zE5,hz,dqb,hm,dqe]
  rfl
 ·simp only [Instr.makeInterface, dqd, run_underlying zE5, dqb, dqe]
  rfl
end Go.Pm
namespace Go.Proofs
open Go Go.Pm
set_option maxRecDepth 100000
set_option linter.unusedVariables false
attribute [local irreducible] Go.Pm.vcFun Go.Pm.vc Go.Pm.vcIter
abbrev T22:Tabs:=(((Tabs.nil.addF 67 zpz).addM 69 zJk).addF 70 zE2)
theorem zLT:TabsOk Tryd.prog T22:=(((TabsOk.nil.addF zIO).addM zNP).addF zNR)
abbrev G22:Ctrs:=csm T22 (λ _ _=>[]) (λ l=>Nat.beq l 12)
def zE6:Ann:=⟨29,[(0,zK [1,2,3] [1,2,3]),(1,zK [1,2,3,9] [1,2,3]),(2,zK [2,3] [2,3]),(3,zK [1,2,3] [1,2,3]),(4,zK [2,3,4] [2,3,12,14]),(5,zK [2,3,4,15] [2,3,12,14]),(6,zK [2,3,4,15,16] [2,3,12,14]),(7,zK [2,3,4,5,15] [2,3,12,14]),(8,zK [2,3,4,6,15] [2,3,12,14]),(9,zK [2,3,4,6,15,23] [2,3,12,14]),(10,zK [2,3] [2,3]),(11,zK [2,3,4,15] [2,3,12,14])],
 [(6,zK [2,3,4,15] [2,3,12,14])],
 [],
 [],[]⟩
abbrev R22:=((Sl Int)×Int)
abbrev e22 (r:R22):List PA:=[.one (.sl r.1.len 1 (λ i=>enc_3 (r.1.get i))),.one (.int .i64 r.2)]
@[irreducible] def z22:=zNS Tryd.prog G22 zE6 zHV 68 Tryd.f22
def zCU (zaK:Int) (zbn:Int) (zbk:(Sl Tie)) (zbo:Nat) (zbp:(List Int->Option (List Int))) (zdH:Nat->List PV):St:=⟨[(2,zp 2 0),(3,zp 3 0),(4,zp 14 0),(15,zI zaK)],[(2,.box 27 [.p (.nils)]),(3,.box 28 [zi (0:Int)]),(12,.mo 3 4 (false,1,false,[none]) zbo zbp),(14,.box 105 [zi zbn,.p (.sl zbk.len 4 zdH),.mo 12])],[]⟩
abbrev zJq (K:List PA->Prop) (X:St->Prop) (P:Int->Int->(Sl Tie)->Nat->(List Int->Option (List Int))->Bool) (S:Int->Int->(Sl Tie)->Nat->(List Int->Option (List Int))->((Sl Int)×Int)):Prop:=∀ ⦃zaK:Int⦄ ⦃zbn:Int⦄ ⦃zbk:(Sl Tie)⦄ ⦃zbo:Nat⦄ ⦃zbp:(List Int->Option (List Int))⦄ ⦃zdH:Nat->List PV⦄,P zaK zbn zbk zbo zbp=true->K (e22 (S zaK zbn zbk zbo zbp))->zdH=zg enc_40 zbk->X (zCU zaK zbn zbk zbo zbp zdH)
section
variable {K:List PA->Prop}{n:Net}{zaK:Int}{zbn:Int}{zbk:(Sl Tie)}{zbo:Nat}{zbp:(List Int->Option (List Int))}{zdH:Nat->List PV}{X0:St->Prop}{P0:Int->Int->(Sl Tie)->Nat->(List Int->Option (List Int))->Bool}{S0:Int->Int->(Sl Tie)->Nat->(List Int->Option (List Int))->((Sl Int)×Int)}
def zxk (S0:Int->Int->(Sl Tie)->Nat->(List Int->Option (List Int))->((Sl Int)×Int)) (zaK:Int) (zbn:Int) (zbk:(Sl Tie)) (zbo:Nat) (zbp:(List Int->Option (List Int))):((Sl Int)×Int) :=
  (cond (decide (zaK < (4:Int)))
 (cond (decide ((((s69 (⟨(⟨zbn, zbk⟩ : Net), (⟨zbo, zbp⟩ : Mp)⟩ : web) zaK).1).len : Int) > (0:Int)))
 ((s70 ((s69 (⟨(⟨zbn,zbk⟩:Net),(⟨zbo,zbp⟩:Mp)⟩:web) zaK).1)),(0:Int))
 (S0 (w64 (zaK+(1:Int))) (((s69 (⟨(⟨zbn,zbk⟩:Net),(⟨zbo,zbp⟩:Mp)⟩:web) zaK).2).Net.Nodes) (((s69 (⟨(⟨zbn,zbk⟩:Net),(⟨zbo,zbp⟩:Mp)⟩:web) zaK).2).Net.Ties) ((((s69 (⟨(⟨zbn,zbk⟩:Net),(⟨zbo,zbp⟩:Mp)⟩:web) zaK).2).out).n) ((((s69 (⟨(⟨zbn,zbk⟩:Net),(⟨zbo,zbp⟩:Mp)⟩:web) zaK).2).out).F)))
 ((⟨0,λ _=>default⟩:(Sl Int)),(8:Int)))
def zxl (P0:Int->Int->(Sl Tie)->Nat->(List Int->Option (List Int))->Bool) (zaK:Int) (zbn:Int) (zbk:(Sl Tie)) (zbo:Nat) (zbp:(List Int->Option (List Int))):Bool :=
  (cond (decide (zaK < (4:Int)))
 (decide ((p69 (⟨(⟨zbn,zbk⟩:Net),(⟨zbo,zbp⟩:Mp)⟩:web) zaK=true)) &&
 (cond (decide ((((s69 (⟨(⟨zbn, zbk⟩ : Net), (⟨zbo, zbp⟩ : Mp)⟩ : web) zaK).1).len : Int) > (0:Int)))
 (decide ((p70 ((s69 (⟨(⟨zbn,zbk⟩:Net),(⟨zbo,zbp⟩:Mp)⟩:web) zaK).1)=true)) &&
 true)
 (P0 (w64 (zaK+(1:Int))) (((s69 (⟨(⟨zbn,zbk⟩:Net),(⟨zbo,zbp⟩:Mp)⟩:web) zaK).2).Net.Nodes) (((s69 (⟨(⟨zbn,zbk⟩:Net),(⟨zbo,zbp⟩:Mp)⟩:web) zaK).2).Net.Ties) ((((s69 (⟨(⟨zbn,zbk⟩:Net),(⟨zbo,zbp⟩:Mp)⟩:web) zaK).2).out).n) ((((s69 (⟨(⟨zbn,zbk⟩:Net),(⟨zbo,zbp⟩:Mp)⟩:web) zaK).2).out).F))))
 true)
def zxm:Nat->Int->Int->(Sl Tie)->Nat->(List Int->Option (List Int))->((Sl Int)×Int):=lpO (λ _ _ _ _ _=>default) (zxk)
def zxn:Nat->Int->Int->(Sl Tie)->Nat->(List Int->Option (List Int))->Bool:=lpO (λ _ _ _ _ _=>false) (zxl)
def zxo (zaK:Int) (zbn:Int) (zbk:(Sl Tie)) (zbo:Nat) (zbp:(List Int->Option (List Int))):((Sl Int)×Int):=zxm Fuel zaK zbn zbk zbo zbp
def zxp (zaK:Int) (zbn:Int) (zbk:(Sl Tie)) (zbo:Nat) (zbp:(List Int->Option (List Int))):Bool:=zxn Fuel zaK zbn zbk zbo zbp
theorem zE7 (hs:zxp zaK zbn zbk zbo zbp=true) (hk:K (e22 (zxo zaK zbn zbk zbo zbp))) (zkF:zdH=zg enc_40 zbk):z22 (Wk K) [1,1,1,1,0,1,0] [] (zCU zaK zbn zbk zbo zbp zdH) :=
  zl (λ X=>z22 (Wk K) [1,1,1,1,0,1,0,0] [X]) (by kernel_rfl) λ X0 hX =>
  (show ∀ k, zJq K X0 (zxn k) (zxm k) from zfg _ _ (zxl) (zxk) (zJq K X0)
 (by intro _ _ _ _ _ _ hs;exact absurd hs dqk)
 (by intro P0 S0 hX0 zaK zbn zbk zbo zbp zdH hs hk zkF;subst zkF;exact hX _ (zaZ (by kernel_rfl) (zc hs hk (λ hs hk=>(zaT hs λ hc hs=>And.intro (And.intro (zE enc_40 4 zbk.get) (And.intro (rfl:((false,1,false,[none]):MQ)=(false,1,false,[none])) hc)) (zc hs hk (λ hs hk=>(zaT hs λ hc hs=>And.intro (And.intro (zE zb4 1 (((s69 (⟨(⟨zbn,zbk⟩:Net),(⟨zbo,zbp⟩:Mp)⟩:web) zaK).1).get)) hc) ((zeK hk):Wk K [.one (.sl ((s70 ((s69 (⟨(⟨zbn,zbk⟩:Net),(⟨zbo,zbp⟩:Mp)⟩:web) zaK).1)).len) 1 (λ i=>enc_3 ((s70 ((s69 (⟨(⟨zbn,zbk⟩:Net),(⟨zbo,zbp⟩:Mp)⟩:web) zaK).1)).get i))),.one (.int .i64 (0:Int))]))) (λ hs hk=>(hX0 hs hk rfl))))) (λ hs hk=>((wk hk (zeu (.one (.nil _ _)) (zeu (.one (.rfl _)) ziR))):Wk K [.one (.nils),.one (.int .i64 (8:Int))])))))) _ hs hk zkF
def s22 (n:Net):((Sl Int)×Int) :=
  (cond (!(s67 n))
 ((⟨0,λ _=>default⟩:(Sl Int)),(2:Int))
 (zxo (0:Int) n.Nodes n.Ties 0 (λ _=>none)))
def p22 (n:Net):Bool :=
  (decide ((p67 n=true)) &&
 (cond (!(s67 n))
 true
 (zxp (0:Int) n.Nodes n.Ties 0 (λ _=>none))))
end
theorem q22 (n:Net) (K:List PA->Prop) (hs:p22 n=true) (hk:K (e22 (s22 n))):zsE Tryd.prog G22 zHV 68 zE6 22 [.agg (enc_24 n)] (Wk K) :=
  zaZ (by kernel_rfl) (zaT hs λ hc hs=>And.intro (And.intro (zE enc_40 4 n.Ties.get) hc) (zc hs hk (λ hs hk=>((wk hk (zeu (.one (.nil _ _)) (zeu (.one (.rfl _)) ziR))):Wk K [.one (.nils),.one (.int .i64 (2:Int))])) (λ hs hk=>(zE7 hs hk rfl))))
def zE8 : List PA → COut
  | [.agg [.int .i64 zae,.sl zad zaz zac]]=>.det (IsE enc_40 4 zaz zac/\p22 (⟨zae,(⟨zad,zam zac⟩:(Sl Tie))⟩:Net)=true) [.one (.sl (((s22 (⟨zae,(⟨zad,zam zac⟩:(Sl Tie))⟩:Net)).1).len) 1 (λ i=>enc_3 (((s22 (⟨zae,(⟨zad,zam zac⟩:(Sl Tie))⟩:Net)).1).get i))),.one (.int .i64 ((s22 (⟨zae,(⟨zad,zam zac⟩:(Sl Tie))⟩:Net)).2))]
  | _=>.no
theorem zJr:zar Tryd.prog 22:=⟨_,rfl,rfl,by kernel_rfl⟩
theorem zNT:Ok Tryd.prog 22 zE8:=zBQ zLT zJr zLS λ args K h=>by
  unfold zE8 at h
  split at h
  · rename_i zae zad zaz zac
    obtain⟨⟨⟨rfl,zaq,rfl⟩,hs⟩,hk⟩:=h
    try rw[zak zaq] at hs
    try rw[zak zaq] at hk
    exact⟨_,zeI zeJ _,(λ _ _=>[]),(λ l=>Nat.beq l 12),zE6,q22 (⟨zae,(⟨zad,zaq⟩:(Sl Tie))⟩:Net) K hs hk⟩
  · exact h.elim
abbrev T25:Tabs:=Tabs.nil
theorem zLU:TabsOk Tryd.prog T25:=TabsOk.nil
abbrev G25:Ctrs:=csm T25 (λ _ _=>[]) (λ _=>false)
def zE9:Ann:=⟨26,[(0,zK [0,1] []),(1,zK [0,1,10] []),(2,zK [4] []),(3,zK [0,1,5] []),(4,zK [0,1,5,14] []),(5,zK [0,1,5] []),(6,zK [0,1,5,25] []),(7,zK [4] []),(8,zK [4] [])],
 [(4,zK [0,1,5] [])],
 [(3,zK [0,1] [])],
 [],[]⟩
abbrev R25:=Bool
abbrev e25 (r:R25):List PA:=[.one (.bool r)]
@[irreducible] def z25:=ptF Tryd.prog G25 zE9 Tryd.f25
def zCV (a:(Sl Int)) (b:(Sl Int)) (iv1:Int):St:=⟨[(0,zS enc_3 1 a),(1,zS enc_3 1 b),(5,zI iv1)],[],[]⟩
abbrev zJs (K:List PA->Prop) (a:(Sl Int)) (b:(Sl Int)) (X:St->Prop) (P:Int->Bool) (S:Int->Bool):Prop:=∀ ⦃iv1:Int⦄,P iv1=true->K (e25 (S iv1))->X (zCV a b iv1)
section
variable {K:List PA->Prop}{a:(Sl Int)}{b:(Sl Int)}{iv1:Int}{X1:St->Prop}{P1:Int->Bool}{S1:Int->Bool}
def zxq (a:(Sl Int)) (b:(Sl Int)) (S1:Int->Bool) (iv1:Int):Bool :=
  (cond (decide (iv1 < (a.len : Int)))
 (cond ((a.get iv1.toNat) != (b.get iv1.toNat))
 false
 (S1 (w64 (iv1+(1:Int)))))
 true)
def zxr (a:(Sl Int)) (b:(Sl Int)) (P1:Int->Bool) (iv1:Int):Bool :=
  (cond (decide (iv1 < (a.len : Int)))
 (decide ((0<=iv1/\iv1 < (a.len:Int))) &&
 (decide ((0<=iv1/\iv1 < (b.len:Int))) &&
 (cond ((a.get iv1.toNat) != (b.get iv1.toNat))
 true
 (P1 (w64 (iv1+(1:Int)))))))
 true)
def zxs (a:(Sl Int)) (b:(Sl Int)):Nat->Int->Bool:=lpO (λ _=>default) (zxq a b)
def zxt (a:(Sl Int)) (b:(Sl Int)):Nat->Int->Bool:=lpO (λ _=>false) (zxr a b)
def zxu (a:(Sl Int)) (b:(Sl Int)) (iv1:Int):Bool:=zxs a b Fuel iv1
def zxv (a:(Sl Int)) (b:(Sl Int)) (iv1:Int):Bool:=zxt a b Fuel iv1
theorem zFa (hs:zxv a b iv1=true) (hk:K (e25 (zxu a b iv1))):z25 K [1,1,0,1,0] [] (zCV a b iv1) :=
  zl (λ X=>z25 K [1,1,0,1,0,0] [X]) (by kernel_rfl) λ X1 hX =>
  (show ∀ k, zJs K a b X1 (zxt a b k) (zxs a b k) from zfg _ _ (zxr a b) (zxq a b) (zJs K a b X1)
 (by intro _ hs;exact absurd hs dqk)
 (by intro P1 S1 hX1 iv1 hs hk;exact hX _ (zaZ (by kernel_rfl) (zc hs hk (λ hs hk=>(zaT hs λ hc hs=>And.intro hc (zaT hs λ hc hs=>And.intro hc (zc hs hk (λ hs hk=>hk) (λ hs hk=>(hX1 hs hk)))))) (λ hs hk=>hk))))) _ hs hk
def zxw (a:(Sl Int)) (b:(Sl Int)):Bool :=
  (zxu a b (0:Int))
def zxx (a:(Sl Int)) (b:(Sl Int)):Bool :=
  (zxv a b (0:Int))
theorem zFb (hs:zxx a b=true) (hk:K (e25 (zxw a b))):z25 K [1,1] [] ⟨[(0,zS enc_3 1 a),(1,zS enc_3 1 b)],[],[]⟩:=zaZ (by kernel_rfl) (zFa hs hk)
def s25 (a:(Sl Int)) (b:(Sl Int)):Bool :=
  (cond ((a.len : Int) != (b.len : Int))
 false
 (zxw a b))
def p25 (a:(Sl Int)) (b:(Sl Int)):Bool :=
  (cond ((a.len : Int) != (b.len : Int))
 true
 (zxx a b))
end
theorem q25 (a:(Sl Int)) (b:(Sl Int)) (K:List PA->Prop) (hs:p25 a b=true) (hk:K (e25 (s25 a b))):vcFun Tryd.prog G25 zE9 25 [.one (.sl a.len 1 (λ i=>enc_3 (a.get i))),.one (.sl b.len 1 (λ i=>enc_3 (b.get i)))] K :=
  zaZ (by kernel_rfl) (zc hs hk (λ hs hk=>hk) (λ hs hk=>(zFb hs hk)))
def zFc : List PA → COut
  | [.one (.sl zf8 zlS zf9),.one (.sl zdb zgC zc8)]=>.det (IsE enc_3 1 zlS zf9/\IsE enc_3 1 zgC zc8/\p25 (⟨zf8,zav zf9⟩:(Sl Int)) (⟨zdb,zav zc8⟩:(Sl Int))=true) [.one (.bool (s25 (⟨zf8,zav zf9⟩:(Sl Int)) (⟨zdb,zav zc8⟩:(Sl Int))))]
  | _=>.no
theorem zJt:zar Tryd.prog 25:=⟨_,rfl,rfl,by kernel_rfl⟩
theorem zNU:Ok Tryd.prog 25 zFc:=zbu zLU zJt λ args K h=>by
  unfold zFc at h
  split at h
  · rename_i zf8 zlS zf9 zdb zgC zc8
    obtain⟨⟨⟨rfl,zid,rfl⟩,⟨rfl,ze1,rfl⟩,hs⟩,hk⟩:=h
    try rw[za8 zid] at hs
    try rw[za8 zid] at hk
    try rw[za8 ze1] at hs
    try rw[za8 ze1] at hk
    exact⟨(λ _ _=>[]),(λ _=>false),zE9,q25 (⟨zf8,zid⟩:(Sl Int)) (⟨zdb,ze1⟩:(Sl Int)) K hs hk⟩
  · exact h.elim
abbrev T74:Tabs:=(((Tabs.nil.addF 67 zpz).addF 81 ztB).addF 88 zvT)
theorem zLV:TabsOk Tryd.prog T74:=(((TabsOk.nil.addF zIO).addF zK3).addF zLx)
abbrev G74:Ctrs:=csm T74 (λ _ _=>[]) (λ _=>false)
def zBR:Ann:=⟨31,[(0,zK [1,2] [2]),(1,zK [1,2,6] [2,11]),(2,zK [1,2,6,14] [2,11]),(3,zK [4,5] []),(4,zK [2,6,15,16,17] [2,11]),(5,zK [2,6,15,16,17,18] [2,11]),(6,zK [2,6,8,15,16,17] [2,11]),(7,zK [2,6,15,16,17,26] [2,11]),(8,zK [4,5] []),(9,zK [2,6,15,16,17] [2,11]),(10,zK [6,29] [11]),(11,zK [4,5] []),(12,zK [4,5] [11])],
 [(5,zK [2,6,15,16,17] [2,11])],
 [(3,zK [1,2,6,14] [2,11]),(4,zK [1,2,6] [2,11]),(8,zK [2,6,15,16,17,26] [2,11]),(11,zK [6,29] [11])],
 [],[]⟩
abbrev R74:=(web×Int)
abbrev e74 (r:R74):List PA:=cond (r.2 == 0) [.one (.fp (zaD r.1) 0),.one (.int .i64 (0:Int))] [.one (.nilp),.one (.int .i64 r.2)]
@[irreducible] def z74:=ptF Tryd.prog G74 zBR Tryd.f74
def zCW (n:Net) (nodes:(Sl Int)) (zd2:Int):St:=⟨[(2,zp 2 0),(6,zp 11 0),(15,zS enc_3 1 nodes),(16,zI (nodes.len:Int)),(17,zI zd2)],[(2,.box 24 (zm (enc_24 n))),(11,.box 105 (zm (zaD (⟨n,(⟨0,(λ _=>none)⟩:Mp)⟩:web))))],[]⟩
abbrev zFd (K:List PA->Prop) (n:Net) (nodes:(Sl Int)) (X:St->Prop) (P:Int->Bool) (S:Int->(web×Int)):Prop:=∀ ⦃zd2:Int⦄,P zd2=true->K (e74 (S zd2))->X (zCW n nodes zd2)
section
variable {K:List PA->Prop}{n:Net}{nodes:(Sl Int)}{zpX:Bool}{zd2:Int}{X2:St->Prop}{P2:Int->Bool}{S2:Int->(web×Int)}{zpY:Int}{zpZ:Bool}{zBS:Bool}
def zxy (n:Net) (zBS:Bool):(web×Int) :=
  (cond zBS
 ((default:web),(5:Int))
 ((⟨n,(⟨0,(λ _=>none)⟩:Mp)⟩:web),(0:Int)))
theorem zFe (hk:K (e74 (zxy n zBS))):z74 K [1,1,1,1,0,1] [] ⟨[(6,zp 11 0),(29,zB zBS)],[(11,.box 105 (zm (zaD (⟨n,(⟨0,(λ _=>none)⟩:Mp)⟩:web))))],[]⟩:=zaZ (by kernel_rfl) (zt hk (λ hk=>hk) (λ hk=>hk))
def zxz (S2:Int->(web×Int)) (n:Net) (nodes:(Sl Int)) (zpY:Int) (zpZ:Bool):(web×Int) :=
  (cond zpZ
 ((default:web),(2:Int))
 (S2 (w64 (zpY+(1:Int)))))
def zxA (P2:Int->Bool) (n:Net) (nodes:(Sl Int)) (zpY:Int) (zpZ:Bool):Bool :=
  (cond zpZ
 true
 (P2 (w64 (zpY+(1:Int)))))
theorem zFf (hX2:zFd K n nodes X2 P2 S2) (hs:zxA P2 n nodes zpY zpZ=true) (hk:K (e74 (zxz S2 n nodes zpY zpZ))):z74 K [1,1,1,0,1,0,0,1,1,0,0,1,1] [X2] ⟨[(2,zp 2 0),(6,zp 11 0),(15,zS enc_3 1 nodes),(16,zI (nodes.len:Int)),(17,zI zpY),(26,zB zpZ)],[(2,.box 24 (zm (enc_24 n))),(11,.box 105 (zm (zaD (⟨n,(⟨0,(λ _=>none)⟩:Mp)⟩:web))))],[]⟩:=zaZ (by kernel_rfl) (zc hs hk (λ hs hk=>hk) (λ hs hk=>(hX2 hs hk)))
def zxB (n:Net) (nodes:(Sl Int)) (S2:Int->(web×Int)) (zd2:Int):(web×Int) :=
  (cond (decide (zd2 < (nodes.len : Int)))
 (zxz S2 n nodes zd2 (!(s81 (nodes.get zd2.toNat) (0:Int) (w64 (n.Nodes - (1:Int))))))
 (zxy n (s88 (⟨n,(⟨0,(λ _=>none)⟩:Mp)⟩:web))))
def zxC (n:Net) (nodes:(Sl Int)) (P2:Int->Bool) (zd2:Int):Bool :=
  (cond (decide (zd2 < (nodes.len : Int)))
 (decide ((0<=zd2/\zd2 < (nodes.len:Int))) &&
 (zxA P2 n nodes zd2 (!(s81 (nodes.get zd2.toNat) (0:Int) (w64 (n.Nodes - (1:Int)))))))
 (decide ((p88 (⟨n,(⟨0,(λ _=>none)⟩:Mp)⟩:web)=true)) &&
 true))
def zxD (n:Net) (nodes:(Sl Int)):Nat->Int->(web×Int):=lpO (λ _=>default) (zxB n nodes)
def zxE (n:Net) (nodes:(Sl Int)):Nat->Int->Bool:=lpO (λ _=>false) (zxC n nodes)
def zxF (n:Net) (nodes:(Sl Int)) (zd2:Int):(web×Int):=zxD n nodes Fuel zd2
def zxG (n:Net) (nodes:(Sl Int)) (zd2:Int):Bool:=zxE n nodes Fuel zd2
theorem zFg (hs:zxG n nodes zd2=true) (hk:K (e74 (zxF n nodes zd2))):z74 K [1,1,1,0,1,0] [] (zCW n nodes zd2) :=
  zl (λ X=>z74 K [1,1,1,0,1,0,0] [X]) (by kernel_rfl) λ X2 hX =>
  (show ∀ k, zFd K n nodes X2 (zxE n nodes k) (zxD n nodes k) from zfg _ _ (zxC n nodes) (zxB n nodes) (zFd K n nodes X2)
 (by intro _ hs;exact absurd hs dqk)
 (by intro P2 S2 hX2 zd2 hs hk;exact hX _ (zaZ (by kernel_rfl) (zc hs hk (λ hs hk=>(zaT hs λ hc hs=>And.intro hc (zFf hX2 hs hk))) (λ hs hk=>(zaT hs λ hc hs=>And.intro (And.intro (zE enc_40 4 n.Ties.get) (And.intro (rfl:((false,1,false,[none]):MQ)=(false,1,false,[none])) hc)) (zFe hk))))))) _ hs hk
def zxH (n:Net) (nodes:(Sl Int)):(web×Int) :=
  (zxF n nodes (0:Int))
def zxI (n:Net) (nodes:(Sl Int)):Bool :=
  (zxG n nodes (0:Int))
theorem zFh (hs:zxI n nodes=true) (hk:K (e74 (zxH n nodes))):z74 K [1,1,1] [] ⟨[(1,zS enc_3 1 nodes),(2,zp 2 0),(6,zp 11 0)],[(2,.box 24 (zm (enc_24 n))),(11,.box 105 (zm (zaD (⟨n,(⟨0,(λ _=>none)⟩:Mp)⟩:web))))],[]⟩:=zaZ (by kernel_rfl) (zFg hs hk)
def zxJ (n:Net) (nodes:(Sl Int)) (zpX:Bool):(web×Int) :=
  (cond zpX
 ((default:web),(2:Int))
 (zxH n nodes))
def zxK (n:Net) (nodes:(Sl Int)) (zpX:Bool):Bool :=
  (cond zpX
 true
 (zxI n nodes))
theorem zFi (hs:zxK n nodes zpX=true) (hk:K (e74 (zxJ n nodes zpX))):z74 K [1,1,0,1] [] ⟨[(1,zS enc_3 1 nodes),(2,zp 2 0),(6,zp 11 0),(14,zB zpX)],[(2,.box 24 (zm (enc_24 n))),(11,.box 105 (zm (zaD (⟨n,(⟨0,(λ _=>none)⟩:Mp)⟩:web))))],[]⟩:=zaZ (by kernel_rfl) (zc hs hk (λ hs hk=>hk) (λ hs hk=>(zFh hs hk)))
def s74 (n:Net) (nodes:(Sl Int)):(web×Int) :=
  (zxJ n nodes (!(s67 n)))
def p74 (n:Net) (nodes:(Sl Int)):Bool :=
  (decide ((p67 n=true)) &&
 (zxK n nodes (!(s67 n))))
end
theorem q74 (n:Net) (nodes:(Sl Int)) (K:List PA->Prop) (hs:p74 n nodes=true) (hk:K (e74 (s74 n nodes))):vcFun Tryd.prog G74 zBR 74 [.agg (enc_24 n),.one (.sl nodes.len 1 (λ i=>enc_3 (nodes.get i)))] K :=
  zaZ (by kernel_rfl) (zaT hs λ hc hs=>And.intro (And.intro (zE enc_40 4 n.Ties.get) hc) (zFi hs hk))
def zxL : List PA → COut
  | [.agg [.int .i64 zae,.sl zad zaz zac],.one (.sl zdb zgC zc8)]=>.alt ((s74 (⟨zae,(⟨zad,zam zac⟩:(Sl Tie))⟩:Net) (⟨zdb,zav zc8⟩:(Sl Int))).2 == 0) (IsE enc_40 4 zaz zac/\IsE enc_3 1 zgC zc8/\p74 (⟨zae,(⟨zad,zam zac⟩:(Sl Tie))⟩:Net) (⟨zdb,zav zc8⟩:(Sl Int))=true) [.one (.fp (zaD (⟨(s74 (⟨zae,(⟨zad,zam zac⟩:(Sl Tie))⟩:Net) (⟨zdb,zav zc8⟩:(Sl Int))).1.Net,((s74 (⟨zae,(⟨zad,zam zac⟩:(Sl Tie))⟩:Net) (⟨zdb,zav zc8⟩:(Sl Int))).1.out)⟩:web)) 0),.one (.int .i64 (0:Int))] (IsE enc_40 4 zaz zac/\IsE enc_3 1 zgC zc8/\p74 (⟨zae,(⟨zad,zam zac⟩:(Sl Tie))⟩:Net) (⟨zdb,zav zc8⟩:(Sl Int))=true) [.one (.nilp),.one (.int .i64 ((s74 (⟨zae,(⟨zad,zam zac⟩:(Sl Tie))⟩:Net) (⟨zdb,zav zc8⟩:(Sl Int))).2))]
  | [.agg [.int .i64 zae,.sl zad zaz zac],.one (.nils)]=>.alt ((s74 (⟨zae,(⟨zad,zam zac⟩:(Sl Tie))⟩:Net) (⟨0,λ _=>default⟩:(Sl Int))).2 == 0) (IsE enc_40 4 zaz zac/\p74 (⟨zae,(⟨zad,zam zac⟩:(Sl Tie))⟩:Net) (⟨0,λ _=>default⟩:(Sl Int))=true) [.one (.fp (zaD (⟨(s74 (⟨zae,(⟨zad,zam zac⟩:(Sl Tie))⟩:Net) (⟨0,λ _=>default⟩:(Sl Int))).1.Net,((s74 (⟨zae,(⟨zad,zam zac⟩:(Sl Tie))⟩:Net) (⟨0,λ _=>default⟩:(Sl Int))).1.out)⟩:web)) 0),.one (.int .i64 (0:Int))] (IsE enc_40 4 zaz zac/\p74 (⟨zae,(⟨zad,zam zac⟩:(Sl Tie))⟩:Net) (⟨0,λ _=>default⟩:(Sl Int))=true) [.one (.nilp),.one (.int .i64 ((s74 (⟨zae,(⟨zad,zam zac⟩:(Sl Tie))⟩:Net) (⟨0,λ _=>default⟩:(Sl Int))).2))]
  | _=>.no
theorem zJu:zar Tryd.prog 74:=⟨_,rfl,rfl,by kernel_rfl⟩
theorem zLW:Ok Tryd.prog 74 zxL:=zfC zLV zJu λ args K h=>by
  unfold zxL at h
  split at h
  · rename_i zae zad zaz zac zdb zgC zc8
    have h:=zIB h
    obtain⟨⟨⟨rfl,zaq,rfl⟩,⟨rfl,ze1,rfl⟩,hs⟩,hk⟩:=h
    try rw[zak zaq] at hs
    try rw[zak zaq] at hk
    try rw[za8 ze1] at hs
    try rw[za8 ze1] at hk
    exact⟨_,zeI zeJ _,(λ _ _=>[]),(λ _=>false),zBR,q74 (⟨zae,(⟨zad,zaq⟩:(Sl Tie))⟩:Net) (⟨zdb,ze1⟩:(Sl Int)) (Wk K) hs (zeK hk)⟩
  · rename_i zae zad zaz zac
    have h:=zIB h
    obtain⟨⟨⟨rfl,zaq,rfl⟩,hs⟩,hk⟩:=h
    try rw[zak zaq] at hs
    try rw[zak zaq] at hk
    exact⟨_,(zeu (zeJ _) (zeu (.one (.nil _ _)) ziR)),(λ _ _=>[]),(λ _=>false),zBR,q74 (⟨zae,(⟨zad,zaq⟩:(Sl Tie))⟩:Net) (⟨0,λ _=>default⟩:(Sl Int)) (Wk K) hs (zeK hk)⟩
  · exact h.elim
abbrev T75:Tabs:=(((Tabs.nil.addF 93 zoh).addF 104 zok).addI 110 zoj)
theorem zLX:TabsOk Tryd.prog T75:=(((TabsOk.nil.addF zHS).addF zEp).addI ztD)
abbrev G75:Ctrs:=csm T75 (λ _ _=>[]) (λ _=>false)
def zxM:Ann:=⟨66,[(0,zK [0,1,4] [4]),(1,zK [0,1,4,5] [4,5]),(2,zK [0,1,4,5,10] [4,5]),(3,zK [0,1,4,5,10,11] [4,5]),(4,zK [0,1,4,5,6,10] [4,5]),(5,zK [0,1,4,5,10] [4,5]),(6,zK [0,1,4,5,10] [4,5]),(7,zK [0,4,5] [4,5]),(8,zK [0,4,5,7] [4,5,7]),(9,zK [0,4,5,7,20] [4,5,7]),(10,zK [0,4,5,7] [4,5,7]),(11,zK [0,4,5,7,22] [4,5,7]),(12,zK [0,4,5,7,8,22] [4,5,7,8]),(13,zK [0,4,5,7,8,22,29] [4,5,7,8]),(14,zK [0,4,5,7,8,9,22] [4,5,7,8,9]),(15,zK [0,4,5,7,8,9,22] [4,5,7,8,9]),(16,zK [0,4,5,7,22] [4,5,7]),(17,zK [0,4,5,64] [4,5]),(18,zK [0,4,5,7] [4,5,7]),(19,zK [4] [4])],
 [(3,zK [0,1,4,5,10] [4,5]),(9,zK [0,4,5,7] [4,5,7]),(12,zK [0,4,5,7,22] [4,5,7])],
 [(7,zK [0,1,4,5] [4,5])],
 [],[]⟩
abbrev R75:=Tab
abbrev e75 (r:R75):List PA:=[.agg (zan r)]
@[irreducible] def z75:=ptF Tryd.prog G75 zxM Tryd.f75
@[irreducible] def x75:=exF Tryd.prog G75 zxM Tryd.f75
@[irreducible] def y75:=rnF Tryd.prog G75 zxM Tryd.f75
def zCX (w:web) (node:Int) (za9:Int) (t4t0:Tab) (dt0:Tab):St:=⟨[(0,zP (.fp (zaD w) 0)),(1,zI node),(4,zp 4 0),(5,zp 5 0),(10,zI za9)],[(4,.box 116 (zm (zan t4t0))),(5,.box 116 (zm (zan dt0)))],[]⟩
abbrev zJv (K:List PA->Prop) (w:web) (node:Int) (X:St->Prop) (P:Int->Tab->Tab->Bool) (S:Int->Tab->Tab->Tab):Prop:=∀ ⦃za9:Int⦄ ⦃t4t0:Tab⦄ ⦃dt0:Tab⦄,P za9 t4t0 dt0=true->K (e75 (S za9 t4t0 dt0))->X (zCX w node za9 t4t0 dt0)
def zCY (w:web) (zaO:Bool) (t4t2:Tab) (dt2:Tab):St:=⟨[(0,zP (.fp (zaD w) 0)),(4,zp 4 0),(5,zp 5 0),(7,zp 7 0)],[(4,.box 116 (zm (zan t4t2))),(5,.box 116 (zm (zan dt2))),(7,.box 4 [.p (.bool zaO)])],[]⟩
abbrev zFj (K:List PA->Prop) (w:web) (X:St->Prop) (P:Bool->Tab->Tab->Bool) (S:Bool->Tab->Tab->Tab):Prop:=∀ ⦃zaO:Bool⦄ ⦃t4t2:Tab⦄ ⦃dt2:Tab⦄,P zaO t4t2 dt2=true->K (e75 (S zaO t4t2 dt2))->X (zCY w zaO t4t2 dt2)
def zxN (w:web) (zaB:Bool) (t4t3:Tab) (dt3:Tab):St:=⟨[(0,zP (.fp (zaD w) 0)),(4,zp 4 0),(5,zp 5 0),(7,zp 7 0),(22,zP (.fn 110 [] [.fp [.fp (zaD w) 0] 0]))],[(4,.box 116 (zm (zan t4t3))),(5,.box 116 (zm (zan dt3))),(7,.box 4 [.p (.bool zaB)])],[]⟩
abbrev zJw (K:List PA->Prop) (w:web) (X:St->Prop) (P:Bool->Tab->Tab->Bool) (S:Bool->Tab->Tab->Tab):Prop:=∀ ⦃zaB:Bool⦄ ⦃t4t3:Tab⦄ ⦃dt3:Tab⦄,P zaB t4t3 dt3=true->K (e75 (S zaB t4t3 dt3))->X (zxN w zaB t4t3 dt3)
section
variable {K:List PA->Prop}{w:web}{node:Int}{za9:Int}{t4t0:Tab}{dt0:Tab}{X0:St->Prop}{P0:Int->Tab->Tab->Bool}{S0:Int->Tab->Tab->Tab}{t4t1:Tab}{dt1:Tab}{zaO:Bool}{t4t2:Tab}{dt2:Tab}{X2:St->Prop}{P2:Bool->Tab->Tab->Bool}{S2:Bool->Tab->Tab->Tab}{zaB:Bool}{t4t3:Tab}{dt3:Tab}
def zFk (S2:Bool->Tab->Tab->Tab) (w:web) (zaB:Bool) (t4t3:Tab) (dt3:Tab):Tab :=
  (S2 zaB t4t3 dt3)
def zFl (P2:Bool->Tab->Tab->Bool) (w:web) (zaB:Bool) (t4t3:Tab) (dt3:Tab):Bool :=
  (P2 zaB t4t3 dt3)
def zxO (S2:Bool->Tab->Tab->Tab) (w:web) (y3:step) (S3:Bool->Tab->Tab->Tab) (zaB:Bool) (t4t3:Tab) (dt3:Tab):Tab :=
  (cond (nvr (tL dt3 y3.to) (tU dt3 y3.to))
 (S3 zaB t4t3 dt3)
 (cond zaB
 (S3 true t4t3 (ts 80 dt3 (0+y3.from_.toNat * 2+0) [(zf3 (⟨(tL dt3 y3.from_),(tU dt3 y3.from_)⟩:far) (⟨1,λ _=>(⟨(w64 ((tL dt3 y3.to)+y3.length)),(w64 ((tV dt3 y3.to)+(1:Int)))⟩:far)⟩:(Sl far))).length,(zf3 (⟨(tL dt3 y3.from_),(tU dt3 y3.from_)⟩:far) (⟨1,λ _=>(⟨(w64 ((tL dt3 y3.to)+y3.length)),(w64 ((tV dt3 y3.to)+(1:Int)))⟩:far)⟩:(Sl far))).uses]))
 (S3 (!(match ((zf3 (⟨(tL dt3 y3.from_),(tU dt3 y3.from_)⟩:far) (⟨1,λ _=>(⟨(w64 ((tL dt3 y3.to)+y3.length)),(w64 ((tV dt3 y3.to)+(1:Int)))⟩:far)⟩:(Sl far))).length == (tL dt3 y3.from_)) with | true=>(match ((zf3 (⟨(tL dt3 y3.from_),(tU dt3 y3.from_)⟩:far) (⟨1,λ _=>(⟨(w64 ((tL dt3 y3.to)+y3.length)),(w64 ((tV dt3 y3.to)+(1:Int)))⟩:far)⟩:(Sl far))).uses == (tU dt3 y3.from_)) with | true=>true | false=>false) | false=>false)) t4t3 (ts 80 dt3 (0+y3.from_.toNat * 2+0) [(zf3 (⟨(tL dt3 y3.from_),(tU dt3 y3.from_)⟩:far) (⟨1,λ _=>(⟨(w64 ((tL dt3 y3.to)+y3.length)),(w64 ((tV dt3 y3.to)+(1:Int)))⟩:far)⟩:(Sl far))).length,(zf3 (⟨(tL dt3 y3.from_),(tU dt3 y3.from_)⟩:far) (⟨1,λ _=>(⟨(w64 ((tL dt3 y3.to)+y3.length)),(w64 ((tV dt3 y3.to)+(1:Int)))⟩:far)⟩:(Sl far))).uses]))))
def zxP (P2:Bool->Tab->Tab->Bool) (w:web) (y3:step) (P3:Bool->Tab->Tab->Bool) (zaB:Bool) (t4t3:Tab) (dt3:Tab):Bool :=
  (decide ((0<=y3.to/\y3.to < (40:Int))) &&
 (cond (nvr (tL dt3 y3.to) (tU dt3 y3.to))
 (P3 zaB t4t3 dt3)
 (decide ((0<=y3.from_/\y3.from_ < (40:Int))) &&
 (decide ((0<=y3.to/\y3.to < (40:Int))) &&
 (decide ((0<=y3.to/\y3.to < (40:Int))) &&
 (decide ((zI0 (⟨(tL dt3 y3.from_),(tU dt3 y3.from_)⟩:far) (⟨1,λ _=>(⟨(w64 ((tL dt3 y3.to)+y3.length)),(w64 ((tV dt3 y3.to)+(1:Int)))⟩:far)⟩:(Sl far))=true)) &&
 (cond zaB
 (decide ((0<=y3.from_/\y3.from_ < (40:Int))) &&
 (P3 true t4t3 (ts 80 dt3 (0+y3.from_.toNat * 2+0) [(zf3 (⟨(tL dt3 y3.from_),(tU dt3 y3.from_)⟩:far) (⟨1,λ _=>(⟨(w64 ((tL dt3 y3.to)+y3.length)),(w64 ((tV dt3 y3.to)+(1:Int)))⟩:far)⟩:(Sl far))).length,(zf3 (⟨(tL dt3 y3.from_),(tU dt3 y3.from_)⟩:far) (⟨1,λ _=>(⟨(w64 ((tL dt3 y3.to)+y3.length)),(w64 ((tV dt3 y3.to)+(1:Int)))⟩:far)⟩:(Sl far))).uses])))
 (decide ((0<=y3.from_/\y3.from_ < (40:Int))) &&
 (decide ((0<=y3.from_/\y3.from_ < (40:Int))) &&
 (P3 (!(match ((zf3 (⟨(tL dt3 y3.from_),(tU dt3 y3.from_)⟩:far) (⟨1,λ _=>(⟨(w64 ((tL dt3 y3.to)+y3.length)),(w64 ((tV dt3 y3.to)+(1:Int)))⟩:far)⟩:(Sl far))).length == (tL dt3 y3.from_)) with | true=>(match ((zf3 (⟨(tL dt3 y3.from_),(tU dt3 y3.from_)⟩:far) (⟨1,λ _=>(⟨(w64 ((tL dt3 y3.to)+y3.length)),(w64 ((tV dt3 y3.to)+(1:Int)))⟩:far)⟩:(Sl far))).uses == (tU dt3 y3.from_)) with | true=>true | false=>false) | false=>false)) t4t3 (ts 80 dt3 (0+y3.from_.toNat * 2+0) [(zf3 (⟨(tL dt3 y3.from_),(tU dt3 y3.from_)⟩:far) (⟨1,λ _=>(⟨(w64 ((tL dt3 y3.to)+y3.length)),(w64 ((tV dt3 y3.to)+(1:Int)))⟩:far)⟩:(Sl far))).length,(zf3 (⟨(tL dt3 y3.from_),(tU dt3 y3.from_)⟩:far) (⟨1,λ _=>(⟨(w64 ((tL dt3 y3.to)+y3.length)),(w64 ((tV dt3 y3.to)+(1:Int)))⟩:far)⟩:(Sl far))).uses])))))))))))
def zxQ (S2:Bool->Tab->Tab->Tab) (w:web):List step->Bool->Tab->Tab->Tab:=lpR (zFk S2 w) (zxO S2 w)
def zxR (P2:Bool->Tab->Tab->Bool) (w:web):List step->Bool->Tab->Tab->Bool:=lpR (zFl P2 w) (zxP P2 w)
def zxS (S2:Bool->Tab->Tab->Tab) (w:web) (zaB:Bool) (t4t3:Tab) (dt3:Tab):Tab:=zxQ S2 w (zks w) zaB t4t3 dt3
def zxT (P2:Bool->Tab->Tab->Bool) (w:web) (zaB:Bool) (t4t3:Tab) (dt3:Tab):Bool:=decide ((ztP w=true)) && zxR P2 w (zks w) zaB t4t3 dt3
theorem zFm (hX2:zFj K w X2 P2 S2) (hs:zxT P2 w zaB t4t3 dt3=true) (hk:K (e75 (zxS S2 w zaB t4t3 dt3))):z75 K [1,1,1,1,0,1,0,0,1,0,0,1,1,0] [X2] (zxN w zaB t4t3 dt3) :=
  zaT hs λ hc hs=>zr (enc:=(λ y:step=>[.agg (zaF y)])) (ys:=zks w) (g:=(zxN w zaB t4t3 dt3)) (x75 K [1,1,1,1,0,1,0,0,1,0,0,1,1,0] [X2]) (y75 K [1,1,1,1,0,1,0,0,1,0,0,1,1,0] [X2]) (by kernel_rfl) (And.intro (zE enc_40 4 w.Net.Ties.get) (And.intro (rfl:((false,1,false,[none]):MQ)=(false,1,false,[none])) hc)) λ X3 hE hR =>
  (show ∀ l : List step, zJw K w (X3 (l.map (λ y : step => [.agg (zaF y)]))) (zxR P2 w l) (zxQ S2 w l) from zri (X := X3) (enc := (λ y : step => [.agg (zaF y)])) _ _ (zxP P2 w) (zxO S2 w) (λ Z P S => zJw K w Z P S)
 (by intro zaB t4t3 dt3 hs hk;exact hE _ (zaZ (by kernel_rfl) (hX2 hs hk)))
 (by intro y3 rest P3 S3 hX3 zaB t4t3 dt3 hs hk;exact hR _ rest _ (zaZ (by kernel_rfl) (zaT hs λ hc hs=>And.intro hc (zc hs hk (λ hs hk=>(hX3 hs hk)) (λ hs hk=>(zaT hs λ hc hs=>And.intro hc (zaT hs λ hc hs=>And.intro hc (zaT hs λ hc hs=>And.intro hc (zaT hs λ hc hs=>And.intro (And.intro (zvs:IsE zck 2 2 (λ _=>(zck (⟨(w64 ((tL dt3 y3.to)+y3.length)),(w64 ((tV dt3 y3.to)+(1:Int)))⟩:far)))) hc) (zc hs hk (λ hs hk=>(zaT hs λ hc hs=>And.intro hc (hX3 hs hk))) (λ hs hk=>(zaT hs λ hc hs=>And.intro hc (zaT hs λ hc hs=>And.intro hc (hX3 hs hk))))))))))))))) _ hs hk
def zxU (w:web) (S2:Bool->Tab->Tab->Tab) (zaO:Bool) (t4t2:Tab) (dt2:Tab):Tab :=
  (cond zaO
 (zxS S2 w false t4t2 dt2)
 dt2)
def zxV (w:web) (P2:Bool->Tab->Tab->Bool) (zaO:Bool) (t4t2:Tab) (dt2:Tab):Bool :=
  (cond zaO
 (zxT P2 w false t4t2 dt2)
 true)
def zxW (w:web):Nat->Bool->Tab->Tab->Tab:=lpO (λ _ _ _=>default) (zxU w)
def zxX (w:web):Nat->Bool->Tab->Tab->Bool:=lpO (λ _ _ _=>false) (zxV w)
def zxY (w:web) (zaO:Bool) (t4t2:Tab) (dt2:Tab):Tab:=zxW w Fuel zaO t4t2 dt2
def zxZ (w:web) (zaO:Bool) (t4t2:Tab) (dt2:Tab):Bool:=zxX w Fuel zaO t4t2 dt2
theorem zFn (hs:zxZ w zaO t4t2 dt2=true) (hk:K (e75 (zxY w zaO t4t2 dt2))):z75 K [1,1,1,1,0,1,0] [] (zCY w zaO t4t2 dt2) :=
  zl (λ X=>z75 K [1,1,1,1,0,1,0,0] [X]) (by kernel_rfl) λ X2 hX =>
  (show ∀ k, zFj K w X2 (zxX w k) (zxW w k) from zfg _ _ (zxV w) (zxU w) (zFj K w X2)
 (by intro _ _ _ hs;exact absurd hs dqk)
 (by intro P2 S2 hX2 zaO t4t2 dt2 hs hk;exact hX _ (zaZ (by kernel_rfl) (zc hs hk (λ hs hk=>(And.intro (And.intro (zE enc_40 4 w.Net.Ties.get) (rfl:((false,1,false,[none]):MQ)=(false,1,false,[none]))) (zFm hX2 hs hk))) (λ hs hk=>hk))))) _ hs hk
def zx0 (w:web) (node:Int) (t4t1:Tab) (dt1:Tab):Tab :=
  (zxY w true t4t1 (ts 80 dt1 (0+node.toNat * 2+0) [(0:Int),(0:Int)]))
def zx1 (w:web) (node:Int) (t4t1:Tab) (dt1:Tab):Bool :=
  (decide ((0<=node/\node < (40:Int))) &&
 (zxZ w true t4t1 (ts 80 dt1 (0+node.toNat * 2+0) [(0:Int),(0:Int)])))
theorem zFo (hs:zx1 w node t4t1 dt1=true) (hk:K (e75 (zx0 w node t4t1 dt1))):z75 K [1,1,1] [] ⟨[(0,zP (.fp (zaD w) 0)),(1,zI node),(4,zp 4 0),(5,zp 5 0)],[(4,.box 116 (zm (zan t4t1))),(5,.box 116 (zm (zan dt1)))],[]⟩:=zaZ (by kernel_rfl) (zaT hs λ hc hs=>And.intro hc (zFn hs hk))
def zx2 (w:web) (node:Int) (S0:Int->Tab->Tab->Tab) (za9:Int) (t4t0:Tab) (dt0:Tab):Tab :=
  (cond (decide (za9 < (40:Int)))
 (S0 (w64 (za9+(1:Int))) t4t0 (ts 80 dt0 (0+za9.toNat * 2+0) [(1000000000000:Int),(0:Int)]))
 (zx0 w node t4t0 dt0))
def zx3 (w:web) (node:Int) (P0:Int->Tab->Tab->Bool) (za9:Int) (t4t0:Tab) (dt0:Tab):Bool :=
  (cond (decide (za9 < (40:Int)))
 (decide ((0<=za9/\za9 < (40:Int))) &&
 (P0 (w64 (za9+(1:Int))) t4t0 (ts 80 dt0 (0+za9.toNat * 2+0) [(1000000000000:Int),(0:Int)])))
 (zx1 w node t4t0 dt0))
def zx4 (w:web) (node:Int):Nat->Int->Tab->Tab->Tab:=lpO (λ _ _ _=>default) (zx2 w node)
def zx5 (w:web) (node:Int):Nat->Int->Tab->Tab->Bool:=lpO (λ _ _ _=>false) (zx3 w node)
def zx6 (w:web) (node:Int) (za9:Int) (t4t0:Tab) (dt0:Tab):Tab:=zx4 w node Fuel za9 t4t0 dt0
def zx7 (w:web) (node:Int) (za9:Int) (t4t0:Tab) (dt0:Tab):Bool:=zx5 w node Fuel za9 t4t0 dt0
theorem zFp (hs:zx7 w node za9 t4t0 dt0=true) (hk:K (e75 (zx6 w node za9 t4t0 dt0))):z75 K [1,1,0,1,0] [] (zCX w node za9 t4t0 dt0) :=
  zl (λ X=>z75 K [1,1,0,1,0,0] [X]) (by kernel_rfl) λ X0 hX =>
  (show ∀ k, zJv K w node X0 (zx5 w node k) (zx4 w node k) from zfg _ _ (zx3 w node) (zx2 w node) (zJv K w node X0)
 (by intro _ _ _ hs;exact absurd hs dqk)
 (by intro P0 S0 hX0 za9 t4t0 dt0 hs hk;exact hX _ (zaZ (by kernel_rfl) (zc hs hk (λ hs hk=>(zaT hs λ hc hs=>And.intro hc (hX0 hs hk))) (λ hs hk=>(zFo hs hk)))))) _ hs hk
def s75 (w:web) (node:Int):Tab :=
  (zx6 w node (0:Int) (λ _=>(0:Int)) (λ _=>(0:Int)))
def p75 (w:web) (node:Int):Bool :=
  (zx7 w node (0:Int) (λ _=>(0:Int)) (λ _=>(0:Int)))
end
theorem q75 (w:web) (node:Int) (K:List PA->Prop) (hs:p75 w node=true) (hk:K (e75 (s75 w node))):vcFun Tryd.prog G75 zxM 75 [.one (.fp (zaD w) 0),.one (.int .i64 node)] K :=
  zaZ (by kernel_rfl) (zFp hs hk)
def zx8 : List PA → COut
  | [.one (.fp [.int .i64 zal,.sl zai zaC zaj,.fm zbd zaI zaJ] 0),.one (.int .i64 a1)]=>.det (IsE enc_40 4 zaC zaj/\zbd=(false,1,false,[none])/\p75 (⟨(⟨zal,(⟨zai,zam zaj⟩:(Sl Tie))⟩:Net),(⟨zaI,zaJ⟩:Mp)⟩:web) a1=true) [.agg (zan ((s75 (⟨(⟨zal,(⟨zai,zam zaj⟩:(Sl Tie))⟩:Net),(⟨zaI,zaJ⟩:Mp)⟩:web) a1)))]
  | _=>.no
theorem zJx:zar Tryd.prog 75:=⟨_,rfl,rfl,by kernel_rfl⟩
theorem zLY:Ok Tryd.prog 75 zx8:=zbu zLX zJx λ args K h=>by
  unfold zx8 at h
  split at h
  · rename_i zal zai zaC zaj zbd zaI zaJ a1
    obtain⟨⟨⟨rfl,zat,rfl⟩,rfl,hs⟩,hk⟩:=h
    try rw[zak zat] at hs
    try rw[zak zat] at hk
    exact⟨(λ _ _=>[]),(λ _=>false),zxM,q75 (⟨(⟨zal,(⟨zai,zat⟩:(Sl Tie))⟩:Net),(⟨zaI,zaJ⟩:Mp)⟩:web) a1 K hs hk⟩
  · exact h.elim
end Go.Proofs
