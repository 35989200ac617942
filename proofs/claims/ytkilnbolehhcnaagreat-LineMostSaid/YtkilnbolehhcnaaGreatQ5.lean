/- Part 5 of what the proof rests on: a machine that runs functions of the program on pure values, proved sound; the functions that the law reaches, and what they compute. -/
import Derived.Test.YtkilnbolehhcnaaGreatQ4
import Derived.Sort.OwnSortedInts
import Derived.Lib.SlicesCompact
import Derived.Test.YtkilnbolehhcnaaGreatProg
import Derived.ProofKit
import Derived.Deep.Slices
import Derived.OpenShut
import Derived.Shelf.SlSortCmp.NoneTotal
set_option linter.all false
namespace Go.Pm
variable [DrawZ]

structure Tabs where
  fn:List (Nat×(List PA->COut))
  own:List (Nat×OwnK)
  it:List (Nat×(List PA->Option (Prop×List (List PA))))
  mt:List (Nat×MK)
  cf:List (Nat×(List PA->COut))
def zyn : List (Nat × (List PA → COut)) → Nat → List PA → COut
  | [],_=>λ _=>.no
  | (k,c) :: r,n=>match Nat.beq k n with | true=>c | false=>zyn r n
def zyo (l:List (Nat×OwnK)) (f:Nat):OwnK:=match lk l f with | some c=>c | none=>.none
def zHP (l:List (Nat×(List PA->Option (Prop×List (List PA))))) (f:Nat):List PA->Option (Prop×List (List PA)):=match lk l f with | some c=>c | none=>λ _=>none
def csm (T:Tabs) (memo:Nat->Int->List Int) (vv:Nat->Bool):Ctrs:=⟨zyn T.fn,zyo T.own,zHP T.it,memo,vv,lk T.mt,zyn T.cf⟩
abbrev cs (T:Tabs):Ctrs:=csm T (λ _ _=>[]) (λ _=>false)
def Tabs.nil:Tabs:=⟨[],[],[],[],[]⟩
def Tabs.addF (T:Tabs) (f:Nat) (c:List PA->COut):Tabs:=⟨(f,c) :: T.fn,T.own,T.it,T.mt,T.cf⟩
def Tabs.addO (T:Tabs) (f:Nat) (c:OwnK):Tabs:=⟨T.fn,(f,c) :: T.own,T.it,T.mt,T.cf⟩
def Tabs.addI (T:Tabs) (f:Nat) (c:List PA->Option (Prop×List (List PA))):Tabs:=⟨T.fn,T.own,(f,c) :: T.it,T.mt,T.cf⟩
def Tabs.addC (T:Tabs) (f:Nat) (c:List PA->COut):Tabs:=⟨T.fn,T.own,T.it,T.mt,(f,c) :: T.cf⟩

theorem zQx {P:Program}{f:Nat} : Ok P f (λ _=>.no):=λ _ _ h=>h.elim
theorem zQy {P:Program}{f:Nat} : zFD P f (λ _=>none):=λ _ _ _ h=>by cases h

structure TabsOk (P : Program) (T : Tabs) : Prop where
  fn:∀ x∈T.fn,Ok P x.1 x.2
  own:∀ x∈T.own,zhQ P x.1 x.2
  it:∀ x∈T.it,zFD P x.1 x.2
  mt:∀ x∈T.mt,zMt P x.1 x.2
  cf:∀ x∈T.cf,@Ok ⟨1⟩ P x.1 x.2
theorem TabsOk.nil {P:Program} : TabsOk P .nil:=⟨λ _ h=>(by cases h),λ _ h=>(by cases h),λ _ h=>(by cases h),λ _ h=>(by cases h),λ _ h=>(by cases h)⟩
theorem TabsOk.addF {P:Program}{T:Tabs}(h:TabsOk P T){f:Nat}{c:List PA->COut}(hc:Ok P f c):TabsOk P (T.addF f c) :=
 ⟨λ x hx=>(dqq.1 hx).elim (λ e=>by rw[e];exact hc) (λ hx=>h.fn x hx),h.own,h.it,h.mt,h.cf⟩
theorem TabsOk.addO {P:Program}{T:Tabs}(h:TabsOk P T){f:Nat}{c:OwnK}(hc:zhQ P f c):TabsOk P (T.addO f c) :=
 ⟨h.fn,λ x hx=>(dqq.1 hx).elim (λ e=>by rw[e];exact hc) (λ hx=>h.own x hx),h.it,h.mt,h.cf⟩
theorem TabsOk.addI {P:Program}{T:Tabs}(h:TabsOk P T){f:Nat}{c:List PA->Option (Prop×List (List PA))}(hc:zFD P f c):TabsOk P (T.addI f c) :=
 ⟨h.fn,h.own,λ x hx=>(dqq.1 hx).elim (λ e=>by rw[e];exact hc) (λ hx=>h.it x hx),h.mt,h.cf⟩
theorem TabsOk.addC {P:Program}{T:Tabs}(h:TabsOk P T){f:Nat}{c:List PA->COut}(hc : @Ok ⟨1⟩ P f c):TabsOk P (T.addC f c) :=
 ⟨h.fn,h.own,h.it,h.mt,λ x hx=>(dqq.1 hx).elim (λ e=>by rw[e];exact hc) (λ hx=>h.cf x hx)⟩
theorem zoW {P : Program} {f : Nat} : ∀ {l : List (Nat × (List PA → COut))}, (∀ x ∈ l, Ok P x.1 x.2) → Ok P f (zyn l f)
  | [],_=>zQx
  | (k,c) :: l,hl=>by
    simp only[zyn]
    split
    · rename_i e
      have:=hl (k,c) dqj
      rw[<- dqc e];exact this
    · exact zoW λ x hx=>hl x (dqf _ hx)
theorem TabsOk.all {P:Program}{T:Tabs}(h:TabsOk P T) (memo:Nat->Int->List Int) (vv:Nat->Bool):OkAll P (csm T memo vv):=by
 refine⟨λ f C hC=>h.mt _ (zcz hC),λ f=>zoW h.fn,λ f=>?_,λ f=>?_,λ f=>@zoW ⟨1⟩ P f T.cf h.cf⟩
 ·show zhQ P f (zyo T.own f)
  unfold zyo
  split
  ·rename_i c hc;exact h.own _ (zcz hc)
  ·trivial
 ·show zFD P f (zHP T.it f)
  unfold zHP
  split
  ·rename_i c hc;exact h.it _ (zcz hc)
  ·exact zQy

theorem zaV {P : Program} {T : Tabs} (hT : TabsOk P T) {f : FuncId} {C : List PA → COut} (hc : zah P f)
    (h:∀ args K,(C args).wp K->∃ memo vv ann,vcFun P (csm T memo vv) ann f args K):Ok P f C :=
  zEC (hT.all (λ _ _=>[]) (λ _=>false)) hc h
theorem zMU {P : Program} {T : Tabs} (hT : TabsOk P T) {f : FuncId} {C : List PA → Option (Prop × List (List PA))} (hc : zah P f)
    (h:∀ l caps safe ys,C caps=some (safe,ys)->safe->∃ memo vv ann,vcIter P (csm T memo vv) ann f l caps ys):zFD P f C :=
  zEG (hT.all (λ _ _=>[]) (λ _=>false)) hc h
theorem zyp {P : Program} {T : Tabs} (hT : TabsOk P T) {f : FuncId} {e s b : Nat} (hc : zah P f)
    (h:∀ n get,n * b<=140737488355328->n<=9223372036854775807->∃ memo vv ann,zyl P (csm T memo vv) ann f [.one (.sl n s get)] e s b n get):zhQ P f (.clone e s b) :=
  zr6 (hT.all (λ _ _=>[]) (λ _=>false)) hc h

theorem zHQ {P : Program} {T : Tabs} (hT : TabsOk P T) {f : FuncId} {e s b : Nat} {F : List PA → Option (Prop × Nat × (Nat → List PV) × List PV)} (hc : zah P f)
    (h:∀ az p n get rs,F az=some (p,n,get,rs)->p->∃ az':List PA,(∀ (h:Fz) vs,RL (paR h) az vs->RL (paR h) az' vs)/\∃ memo vv ann,zw3 P (csm T memo vv) ann f az' e s b (zL8 n s get rs)):zhQ P f (.mkv e s b F) :=
  zym (hT.all (λ _ _=>[]) (λ _=>false)) hc h
structure Sl (α : Type) where
  len:Nat
  get:Nat->α
instance {α:Type} [Inhabited α]:Inhabited (Sl α):=⟨⟨0,λ _=>default⟩⟩
abbrev w64 (x:Int):Int:=IntKind.i64.wrap x

def IsE {α:Type}(enc:α->List PV) (size s:Nat) (g:Nat->List PV):Prop:=s=size/\∃ f:Nat->α,g=λ i=>enc (f i)
theorem isE {α:Type}{enc:α->List PV}{size:Nat}{f:Nat->α} : IsE enc size size (λ i=>enc (f i)):=⟨rfl,f,rfl⟩
def zfe {α:Type}(n:Nat) (get new:Nat->α):Nat->α:=λ j=>match Nat.ble n j with | true=>new (j - n) | false=>get j
theorem zEH {α:Type}{enc:α->List PV}{n:Nat}{f h:Nat->α} : appG n (λ i=>enc (f i)) (λ i=>enc (h i))=λ i=>enc (zfe n f h i):=by
 funext j;simp only[appG,zfe];cases Nat.ble n j <;> rfl
def zlo {α : Type} (x : α) : List α → Nat → α
  | [],_=>x
  | y :: _,0=>y
  | _ :: r,i+1=>zlo x r i
theorem zf8 {α:Type}{enc:α->List PV}{x y:α}{r:List α} : zet (enc x :: enc y :: r.map enc)=λ i=>enc (zlo x (x :: y :: r) i):=by
 have key:∀ (l:List α) (i:Nat),(match (l.map enc)[i]? with | some z=>z | none=>enc x)=enc (zlo x l i):=by
  intro l
  induction l with
  | nil=>intro i;rfl
  | cons a l ih =>
   intro i
   cases i with
   | zero=>rfl
   | succ i=>simpa [zlo] using ih i
 funext i
 exact key (x :: y :: r) i
theorem zhI {α:Type}{enc:α->List PV}{size:Nat}{x y:α}(r:List α):IsE enc size size (zet (enc x :: enc y :: r.map enc)):=⟨rfl,_,zf8⟩

theorem zb8 {b:Bool}{A B:Prop}{S S':Bool}{α:Type}{K:α->Prop}{x y:α}(h1:S=true->K x->A) (h2:S'=true->K y->B) (hs:cond b S S'=true) (hk:K (cond b x y)):zc7 b A B:=by
 cases b
 ·exact h2 hs hk
 ·exact h1 hs hk
theorem zoX {b:Bool}{A B:Prop}{S S':Bool}{α β:Type}{f:α->β}{ys:List β}{x y:List α}(hs:cond b S S'=true) (hk:ys=(cond b x y).map f) (h1:S=true->ys=x.map f->A) (h2:S'=true->ys=y.map f->B):zc7 b A B:=by
 cases b
 ·exact h2 hs hk
 ·exact h1 hs hk
theorem itY {α β:Type}{f:α->β}{ys:List β}{p:β}{x r:List α}{l:Nat}{A:List β->Prop}(hk:ys=x.map f) (e:x.map f=p :: r.map f) (h:∀ zs,zs=r.map f->A zs):l=l/\∃ z,ys=p :: z/\A z/\True :=
 ⟨rfl,_,hk.trans e,h _ rfl,trivial⟩
theorem zaI {C A:Prop} [d:Decidable C] {r:Bool}(hs:(decide C && r)=true) (k:C->r=true->A):A:=by
 rw[dqm] at hs
 exact k (of_decide_eq_true hs.1) hs.2
abbrev Fuel:Nat:=9223372036854775808
def setT {α:Type}(i:Nat) (v:α) (get:Nat->α):Nat->α:=λ j=>match Nat.beq j i with | true=>v | false=>get j
theorem zfm {α:Type}{enc:α->List PV}{n:Nat}{g g':Nat->List PV}{f h:Nat->α}(h1:g=λ i=>enc (f i)) (h2:g'=λ i=>enc (h i)):appG n g g'=λ i=>enc (zfe n f h i):=by
 subst h1;subst h2;exact zEH
def zQz (P:Program) (G:Ctrs) (ann:Ann) (hd:Nat) (ps:List Nat) (assign body:Code) (X:List (List PA)->St->Prop) (K:Exit->St->Prop) (y:List PA) (rest:List (List PA)) (s:St):Prop :=
 match lk ann.head hd with
 | some k=>match ziV ps y s.env with
  | some env=>vc P G ann assign (zHl (vc P G ann body (zls P k (X rest) K)) λ _ _=>False) ⟨env,s.objs,[]⟩
  | none=>False
 | none=>False
def sortB (n:Nat) (p:Nat->Nat->Bool) (c:Nat->Nat->Int):Bool :=
  (List.range n).all fun i => decide (0 ≤ c i i) && (List.range n).all fun j => p i j && (Nat.beq i j || (decide (c i j < 0) && decide (0 ≤ c j i)) || (decide (c j i < 0) && decide (0 ≤ c i j))) &&
    (List.range n).all λ k=>!(decide (c i j < 0) && decide (c j k < 0)) || decide (c i k < 0)
theorem zoY {n:Nat}{p:Nat->Nat->Bool}{c c':Nat->Nat->Int}{s:Nat->Nat->Prop}(h:sortB n p c=true) (hp:∀ i j,p i j=true->s i j) (hc:c'=c):(∀ i j,i < n->j < n->s i j)/\STO n c':=by
 subst hc
 simp only[sortB,List.all_eq_true,List.mem_range,dqm,Bool.or_eq_true,decide_eq_true_eq,Bool.not_eq_true',Bool.and_eq_false_iff,decide_eq_false_iff_not] at h
 refine⟨λ i j hi hj=>hp i j ((h i hi).2 j hj).1.1,λ i hi=>(h i hi).1,λ i j hi hj hne=>?_,λ i j k hi hj hk h1 h2=>?_⟩
 ·rcases ((h i hi).2 j hj).1.2 with (h1 | h1) | h1
  ·exact absurd (dqc h1) hne
  ·exact .inl h1
  ·exact .inr h1
 ·rcases ((h i hi).2 j hj).2 k hk with (h3 | h3) | h3
  ·exact absurd h1 h3
  ·exact absurd h2 h3
  ·exact h3
end Go.Pm
namespace Go.Pm
variable [DrawZ]
open Go Go.Sort

def ins (x : Int) : List Int → List Int
  | []=>[x]
  | y :: r=>match decide (x<=y) with | true=>x :: y :: r | false=>y :: ins x r
/-! Nil slices are slices of length 0. -/
inductive PVle : PV → PV → Prop
  | rfl (p:PV):PVle p p
  | nil (s:Nat) (g:Nat->List PV):PVle .nils (.sl 0 s g)
  | nilm (q:MQ):PVle .nilm (.fm q 0 (λ _=>none))
inductive PAle : PA → PA → Prop
  | one {p q:PV} : PVle p q->PAle (.one p) (.one q)
  | agg {l m:List PV} : RL PVle l m->PAle (.agg l) (.agg m)
theorem zma {α β:Type}{R:α->β->Prop} : RL R [] []:=trivial
theorem zfn {α β:Type}{R:α->β->Prop}{a:α}{b:β}{l:List α}{m:List β}(h:R a b) (h':RL R l m):RL R (a :: l) (b :: m):=⟨h,h'⟩
theorem zgx {α : Type} {R : α → α → Prop} (h : ∀ a, R a a) : ∀ l : List α, RL R l l
  | []=>trivial
  | a :: l=>⟨h a,zgx h l⟩
theorem zgP (a:PA):PAle a a:=by
 cases a with
 | one p=>exact .one (.rfl p)
 | agg l=>exact .agg (zgx .rfl l)
def Wk (K:List PA->Prop) (l:List PA):Prop:=∃ l',RL PAle l l'/\K l'
theorem wk {K:List PA->Prop}{l l':List PA}(hk:K l') (h:RL PAle l l'):Wk K l:=⟨l',h,hk⟩
theorem zfL {K:List PA->Prop}{l:List PA}(hk:K l):Wk K l:=⟨l,zgx zgP l,hk⟩
theorem zMV {h:Fz}{p q:PV}{v:Value}(e:PVle p q) (r:Rep h p v):Rep h q v:=by
 cases e with
 | rfl=>exact r
 | nil s g=>cases r;exact .sl0 s g
 | nilm q=>cases r;exact .fmn q _ (λ _ _=>rfl)
theorem zEI {α β γ : Type} {R : α → β → Prop} {S : α → γ → Prop} {T : γ → β → Prop} (h : ∀ a b c, S a c → R a b → T c b) : ∀ (l : List α) (m : List β) (k : List γ), RL S l k → RL R l m → RL T k m
  | [],[],[],_,_=>trivial
  | a :: l,b :: m,c :: k,hs,hr=>⟨h a b c hs.1 hr.1,zEI h l m k hs.2 hr.2⟩
  | [],_ :: _,[],_,hr=>hr.elim
  | [],_,_ :: _,hs,_=>hs.elim
  | _ :: _,_,[],hs,_=>hs.elim
  | _ :: _,[],_ :: _,_,hr=>hr.elim
theorem zHR {h:Fz}{a b:PA}{v:Value}(e:PAle a b) (r:paR h a v):paR h b v:=by
 cases e with
 | one e=>exact zMV e r
 | agg e =>
  obtain⟨vs,rfl,hv⟩:=r
  exact⟨vs,rfl,zEI (R:=Rep h) (S:=PVle) (T:=Rep h) (λ _ _ _ e r=>zMV e r) _ _ _ e hv⟩
theorem zMW {h:Fz}{l m:List PA}{v:Value}(e:RL PAle l m) (r:zwP h l v):zwP h m v:=by
 match l,m,e,r with
 | [a],[b],e,r=>exact zHR e.1 r
 | [],[],_,r=>exact r
 | a :: b :: l,c :: d :: m,e,r =>
  obtain⟨vs,hv,hr⟩:=r
  exact⟨vs,hv,zEI (R:=paR h) (S:=PAle) (T:=paR h) (λ _ _ _ e r=>zHR e r) _ _ _ e hr⟩
 | [_],_ :: _ :: _,e,_=>exact e.2.elim
 | _ :: _ :: _,[_],e,_=>exact e.2.elim
 | [],_ :: _,e,_=>exact e.elim
 | _ :: _,[],e,_=>exact e.elim
theorem zgQ {P : Program} {T : Tabs} (hT : TabsOk P T) {f : FuncId} {C : List PA → COut} (hc : zah P f)
    (h:∀ args K,(C args).wp K->∃ args',RL PAle args args'/\∃ memo vv ann,vcFun P (csm T memo vv) ann f args' (Wk K)):Ok P f C:=by
  intro args K hK w h0 vs hvs hfz hgl
  obtain⟨args',hle,memo,vv,ann,hv⟩:=h args K hK
  refine⟨hc,(zyj (hT.all memo vv) hv (zEI (R:=paR h0) (S:=PAle) (T:=paR h0) (λ _ _ _ e r=>zHR e r) _ _ _ hle hvs) hfz hgl).mono ?_⟩
  rintro e w' ⟨h',rs,v,⟨rs',hr,hk⟩,he,hres,rest⟩
  exact⟨h',rs',v,hk,he,zMW hr hres,rest⟩
/-! Maps, as typed zSW; the keys of a map. -/
structure Mp where
  n:Nat
  F:List Int->Option (List Int)
instance:Inhabited Mp:=⟨⟨0,λ _=>none⟩⟩

def zHS (m:Nat) (F:List Int->Option (List Int)) (seen ys:List (List Int)):Prop :=
 ys.Nodup/\(∀ y∈ys,y.length=m/\F y ≠ none/\y ∉ seen)/\∀ c,c.length=m->F c ≠ none->c ∉ seen->c∈ys
def nodupB : List (List Int) → Bool
  | []=>true
  | y :: r=>!r.contains y && nodupB r
def keysB (m n:Nat) (F:List Int->Option (List Int)) (ys:List (List Int)):Bool :=
 Nat.beq ys.length n && ys.all (λ y=>Nat.beq y.length m && (F y).isSome) && nodupB ys
theorem zjF : ∀ {ys : List (List Int)}, nodupB ys = true ↔ ys.Nodup
  | []=>by simp[nodupB]
  | y :: r=>by simp[nodupB,zjF (ys:=r)]
theorem zqx {α : Type} [DecidableEq α] : ∀ {l m : List α}, l.Nodup → (∀ x ∈ l, x ∈ m) → m.length ≤ l.length → ∀ x ∈ m, x ∈ l
  | [],m,_,_,hl,x,hx=>by have:m=[]:=List.eq_nil_of_length_eq_zero (by simpa using hl);rw[this] at hx;exact hx
  | a :: l,m,hn,hs,hl,x,hx=>by
    have ha:=hs a dqj
    by_cases h:x=a
    · rw[h];exact dqj
    · have hx2 : x ∈ m.erase a := (List.mem_erase_of_ne h).2 hx
      have hn2:=List.nodup_cons.1 hn
      refine dqf _ (zqx hn2.2 (λ z hz=>?_) ?_ x hx2)
      · have hza : z ≠ a := fun e => hn2.1 (e ▸ hz)
        exact (List.mem_erase_of_ne hza).2 (hs z (dqf _ hz))
      · rw[List.length_erase_of_mem ha];simp at hl;omega
theorem zmb {m n:Nat}{F:List Int->Option (List Int)}{ys:List (List Int)}(h:keysB m n F ys=true) (hf:zDY m n F):zHS m F [] ys:=by
 simp only[keysB,dqm,List.all_eq_true] at h
 obtain⟨⟨h1,h2⟩,h3⟩:=h
 have h1:=dqc h1
 have h3:=zjF.1 h3
 obtain⟨ks,k1,k2,k3,k4⟩:=hf
 have hy:∀ y∈ys,y.length=m/\F y ≠ none:=λ y hy=>by
  obtain⟨a,b⟩:=h2 y hy
  refine⟨dqc a,λ e=>?_⟩
  rw[e] at b;cases b
 refine⟨h3,λ y hy'=>⟨(hy y hy').1,(hy y hy').2,by simp⟩,λ c hc hne _=>?_⟩
 exact zqx h3 (λ y hy'=>(k4 y (hy y hy').1).1 (hy y hy').2) (by rw[k1,h1];exact dqt _) c ((k4 c hc).1 hne)
theorem zoZ {m : Nat} {F : List Int → Option (List Int)} {seen ys : List (List Int)} (h : zHS m F seen ys) {c : List Int} (hc : c.length = m) (hF : F c ≠ none) (hs : c ∉ seen) :
  ys.Perm (c :: ys.erase c)/\zHS m F (c :: seen) (ys.erase c)/\(ys.erase c).length+1=ys.length:=by
 obtain⟨h1,h2,h3⟩:=h
 have hm:=h3 c hc hF hs
 refine⟨List.perm_cons_erase hm,⟨h1.erase c,λ y hy=>?_,λ d hd hdF hds=>?_⟩,?_⟩
 ·have := (List.Nodup.mem_erase_iff h1).1 hy
  obtain⟨a,b,e⟩:=h2 y this.2
  exact⟨a,b,by simp[this.1,e]⟩
 ·simp only [dqq, not_or] at hds
  exact (List.mem_erase_of_ne hds.1).2 (h3 d hd hdF hds.2)
 ·rw [List.length_erase_of_mem hm]
  have:0 < ys.length:=List.length_pos_of_mem hm
  omega
theorem zr7 {m:Nat}{F:List Int->Option (List Int)}{seen ys:List (List Int)}(h:zHS m F seen ys) (he:∀ c,c.length=m->F c ≠ none->c∈seen):ys=[]:=by
 cases ys with
 | nil=>rfl
 | cons y r =>
  obtain⟨a,b,e⟩:=h.2.1 y dqj
  exact (e (he y a b)).elim

end Go.Pm
namespace Go.Pm
variable [DrawZ]

abbrev zI (x:Int):DV:=.one (.c (.p (.int .i64 x)))
abbrev zB (x:Bool):DV:=.one (.c (.p (.bool x)))
abbrev zP (x:PV):DV:=.one (.c (.p x))
abbrev zp (L k:Nat):DV:=.one (.c (.ptr L k))
abbrev zv (L:Nat):DV:=.one (.c (.vec L))
abbrev zs {α:Type}(enc:α->List PV) (s:Nat) (x:Sl α):PV:=.sl x.len s (λ i=>enc (x.get i))
abbrev zS {α:Type}(enc:α->List PV) (s:Nat) (x:Sl α):DV:=zP (zs enc s x)
abbrev zm (l:List PV):List Cl:=l.map Cl.p
abbrev zi (x:Int):Cl:=.p (.int .i64 x)
abbrev zg {α:Type}(enc:α->List PV) (x:Sl α):Nat->List PV:=λ i=>enc (x.get i)
abbrev zK (a b:List Nat):Keep:=⟨a,b,[],[],[],[],[]⟩
theorem zE {α:Type}(enc:α->List PV) (size:Nat) (f:Nat->α):IsE enc size size (λ i=>enc (f i)):=⟨rfl,f,rfl⟩

@[reducible] def lpO {A : Type} (d : A) (st : A → A) : Nat → A
  | 0=>d
  | k+1=>st (lpO d st k)
theorem zfo {A B : Type} (a : A) (b : B) (p : A → A) (s : B → B) (M : A → B → Prop) (h0 : M a b) (h1 : ∀ P S, M P S → M (p P) (s S)) : ∀ k, M (lpO a p k) (lpO b s k)
  | 0=>h0
  | k+1=>h1 _ _ (zfo a b p s M h0 h1 k)
section
variable (P:Program) (Γ:Ctrs) (ann:Ann)
def pt : Code → (Exit → St → Prop) → List Nat → List (St → Prop) → St → Prop
  | .seq a b,K,i :: r,X=>match i with | 0=>pt a (sqK P Γ ann b K) r X | _=>pt b K r X
  | .cond _ a b,K,i :: r,X=>match i with | 0=>pt a K r X | _=>pt b K r X
  | .block id b,K,_ :: r,X=>pt b (zaH id K) r X
  | .loop b,K,_ :: r,x :: X=>pt b (zcB P ann (znr b) x K) r X
  | .scope b,K,_ :: r,X=>pt b (zbl K) r X
  | c,K,_,_=>vc P Γ ann c K
def ptF (fn:Func) (K:List PA->Prop) (l:List Nat) (X:List (St->Prop)):St->Prop :=
 match fn.body with
 | some c=>pt P Γ ann c (zd5 P fn K) l X
 | none=>λ _=>False
end

section
variable (P:Program) (Γ:Ctrs) (ann:Ann)
def ptR : Code → (Exit → St → Prop) → List Nat → List (St → Prop) → Code × (Exit → St → Prop)
  | .seq a b,K,i :: r,X=>match i with | 0=>ptR a (sqK P Γ ann b K) r X | _=>ptR b K r X
  | .cond _ a b,K,i :: r,X=>match i with | 0=>ptR a K r X | _=>ptR b K r X
  | .block id b,K,_ :: r,X=>ptR b (zaH id K) r X
  | .loop b,K,_ :: r,x :: X=>ptR b (zcB P ann (znr b) x K) r X
  | .scope b,K,_ :: r,X=>ptR b (zbl K) r X
  | c,K,_,_=>(c,K)
def exF (fn:Func) (K:List PA->Prop) (l:List Nat) (X:List (St->Prop)) (s:St):Prop :=
 match fn.body with
 | some c=>(ptR P Γ ann c (zd5 P fn K) l X).2 .normal s
 | none=>False
def rnF (fn:Func) (K:List PA->Prop) (l:List Nat) (X:List (St->Prop)) (Y:List (List PA)->St->Prop) (y:List PA) (rest:List (List PA)) (s:St):Prop :=
 match fn.body with
 | some c=>match (ptR P Γ ann c (zd5 P fn K) l X).1 with
  | .rangeFunc _ ps a b=>zQz P Γ ann (zSu a b) ps.toList a b Y (ptR P Γ ann c (zd5 P fn K) l X).2 y rest s
  | _=>False
 | none=>False
end
@[reducible] def lpR {A Y : Type} (a : A) (st : Y → A → A) : List Y → A
  | []=>a
  | y :: r=>st y (lpR a st r)
theorem zri {Y A B : Type} {enc : Y → List PA} {X : List (List PA) → St → Prop} (pe : B) (se : A) (ps : Y → B → B) (ss : Y → A → A) (M : (St → Prop) → B → A → Prop) (h0 : M (X []) pe se)
    (h1:∀ y rest P S,M (X rest) P S->M (X (enc y :: rest)) (ps y P) (ss y S)):∀ l:List Y,M (X (l.map enc)) (lpR pe ps l) (lpR se ss l)
  | []=>h0
  | y :: r=>h1 y (r.map enc) _ _ (zri pe se ps ss M h0 h1 r)
theorem zr {at_ sf : Prop} {Y : Type} {enc : Y → List PA} {ys : List Y} {g : St} (Ex : St → Prop) (Rn : (List (List PA) → St → Prop) → List PA → List (List PA) → St → Prop)
    (e:at_=(sf/\∀ X:List (List PA)->St->Prop,(∀ s,Ex s->X [] s)->(∀ y rest s,Rn X y rest s->X (y :: rest) s)->X (ys.map enc) g)) (hs:sf)
    (h:∀ X:List (List PA)->St->Prop,(∀ s,Ex s->X [] s)->(∀ y rest s,Rn X y rest s->X (y :: rest) s)->X (ys.map enc) g):at_:=e ▸ ⟨hs,h⟩

theorem zc {b:Bool}{A B:Prop}{S S':Bool}{α:Type}{e:α->List PA}{K:List PA->Prop}{x y:α}(hs:cond b S S'=true) (hk:K (e (cond b x y))) (h1:S=true->K (e x)->A) (h2:S'=true->K (e y)->B):zc7 b A B:=by
 cases b
 ·exact h2 hs hk
 ·exact h1 hs hk
theorem zt {b:Bool}{A B:Prop}{α:Type}{e:α->List PA}{K:List PA->Prop}{x y:α}(hk:K (e (cond b x y))) (h1:K (e x)->A) (h2:K (e y)->B):zc7 b A B:=by
 cases b
 ·exact h2 hk
 ·exact h1 hk
theorem zl {at_:Prop}{g:St}(B:(St->Prop)->St->Prop) (e:at_ = ∀ X:St->Prop,(∀ s,B X s->X s)->X g) (h:∀ X:St->Prop,(∀ s,B X s->X s)->X g):at_:=e ▸ h
def zQA (P:Program) (ann:Ann) (hd:Nat) (X:St->Prop) (K:Exit->St->Prop):Exit->St->Prop :=
 match lk ann.head hd with
 | some k=>zls P k X K
 | none=>λ _ _=>False
end Go.Pm
namespace Go.Pm
instance dz0:DrawZ:=⟨0⟩
end Go.Pm
namespace Go.Proofs
open Go Go.Pm
set_option maxRecDepth 100000
set_option linter.unusedVariables false
attribute [local irreducible] Go.Pm.vcFun Go.Pm.vc Go.Pm.vcIter
abbrev zam (x:Int):List PV:=[.int .i64 x]
def zQB : List PV → Int
  | [.int .i64 x]=>x
  | _=>default
def zcf (g:Nat->List PV):Nat->Int:=λ i=>zQB (g i)
theorem zbA (f:Nat->Int):zcf (λ i=>zam (f i))=f:=rfl
structure Gate where
  Z:Int
  Low:Int
  High:Int
deriving Inhabited
abbrev enc_48 (x:Gate):List PV:=[.int .i64 x.Z,.int .i64 x.Low,.int .i64 x.High]
def zMX : List PV → Gate
  | [.int .i64 x_Z,.int .i64 x_Low,.int .i64 x_High]=>(⟨x_Z,x_Low,x_High⟩:Gate)
  | _=>default
def zaf (g:Nat->List PV):Nat->Gate:=λ i=>zMX (g i)
theorem zae (f:Nat->Gate):zaf (λ i=>enc_48 (f i))=f:=rfl
abbrev zMY (x:(Sl Gate)):List PV:=[.sl x.len 3 (λ i=>enc_48 (x.get i))]
abbrev zar (x:(Sl Int)):List PV:=[.sl x.len 1 (λ i=>zam (x.get i))]
def zMZ : List PV → (Sl Int)
  | [.sl x_n _ x_g]=>(⟨x_n,zcf x_g⟩:(Sl Int))
  | _=>default
def zew (g:Nat->List PV):Nat->(Sl Int):=λ i=>zMZ (g i)
theorem zdh (f:Nat->(Sl Int)):zew (λ i=>zar (f i))=f:=rfl
structure Frac where
  Num:Int
  Den:Int
deriving Inhabited
abbrev zal (x:Frac):List PV:=[.int .i64 x.Num,.int .i64 x.Den]
def zM0 : List PV → Frac
  | [.int .i64 x_Num,.int .i64 x_Den]=>(⟨x_Num,x_Den⟩:Frac)
  | _=>default
def zia (g:Nat->List PV):Nat->Frac:=λ i=>zM0 (g i)
theorem zf9 (f:Nat->Frac):zia (λ i=>zal (f i))=f:=rfl
structure Line where
  Slope:Frac
  Start:Frac
deriving Inhabited
abbrev zbr (x:Line):List PV:=[.int .i64 x.Slope.Num,.int .i64 x.Slope.Den,.int .i64 x.Start.Num,.int .i64 x.Start.Den]
def zM1 : List PV → Line
  | [.int .i64 x_Slope_Num,.int .i64 x_Slope_Den,.int .i64 x_Start_Num,.int .i64 x_Start_Den]=>(⟨(⟨x_Slope_Num,x_Slope_Den⟩:Frac),(⟨x_Start_Num,x_Start_Den⟩:Frac)⟩:Line)
  | _=>default
def zmc (g:Nat->List PV):Nat->Line:=λ i=>zM1 (g i)
theorem zga (f:Nat->Line):zmc (λ i=>zbr (f i))=f:=rfl
structure list where
  Gates:(Sl Gate)
deriving Inhabited
abbrev zdM (x:list):List PV:=[.sl x.Gates.len 3 (λ i=>enc_48 (x.Gates.get i))]
structure straight where
  slope:Int
  start:Int
  den:Int
deriving Inhabited
abbrev zaA (x:straight):List PV:=[.int .i64 x.slope,.int .i64 x.start,.int .i64 x.den]
def zM2 : List PV → straight
  | [.int .i64 x_slope,.int .i64 x_start,.int .i64 x_den]=>(⟨x_slope,x_start,x_den⟩:straight)
  | _=>default
def zcA (g:Nat->List PV):Nat->straight:=λ i=>zM2 (g i)
theorem zbP (f:Nat->straight):zcA (λ i=>zaA (f i))=f:=rfl
structure set where
  list:list
  corners:(Sl straight)
deriving Inhabited
abbrev zcv (x:set):List PV:=[.sl x.list.Gates.len 3 (λ i=>enc_48 (x.list.Gates.get i)),.sl x.corners.len 3 (λ i=>zaA (x.corners.get i))]
abbrev zfp (x:Mp):List PV:=[.fm (true,2,false,[some .i64]) x.n x.F]
structure Span where
  Low:Int
  High:Int
deriving Inhabited
abbrev zyq (x:Span):List PV:=[.int .i64 x.Low,.int .i64 x.High]
end Go.Proofs
namespace Go.Pm
variable [DrawZ]
open Go Go.Deep

theorem zEJ (b o i j:Nat):((⟨b,o,none⟩:Addr).add i).add j=⟨b,o+i+j,none⟩:=by
 simp only[Addr.add]
 by_cases h1:i=0
 ·subst h1
  by_cases h2:j=0
  ·subst h2;rfl
  ·rw[if_neg h2];rfl
 ·rw [if_neg h1]
  by_cases h2:j=0
  ·subst h2;rfl
  ·rw[if_neg h2]
def H0 (w:World):Fz:=λ b=>(w.heap[b]?).map .fz
theorem hw_H0 (w:World):Hw (H0 w) w:=by
 intro b x h
 unfold H0 at h
 cases e:w.heap[b]? with
 | none=>rw[e] at h;cases h
 | some o=>rw[e] at h;cases h;exact⟨o,rfl,rfl⟩
def wfI (x:Int):Prop:=-9223372036854775808<=x/\x<=9223372036854775807
section
variable {H:Type}{en:TypeId×Value->H}{P:Program}{w:World}{sp:Nat->Bool}{held:Bool}
def Rd (H:Type) (en:TypeId×Value->H) (P:Program) (w:World) (sp:Nat->Bool) (held:Bool) (t:TypeId){α:Type}(enc:α->List PV) (wf:α->Prop):Prop :=
 ∀ (fuel:Nat) (cs:List Value) (x:DataW H×List MemPlace),DataW.trod en P w 0 sp held fuel t cs=some x->∃ a:α,RL (Rep (H0 w)) (enc a) cs/\wf a
theorem zM3 {t:TypeId}(ht:P.underlying t=some (.int .i64)):Rd H en P w sp held t (λ x=>[.int .i64 x]) wfI:=by
 intro fuel cs x h
 obtain⟨n,rfl,_,hw⟩:=DataW.trod_int ht h
 refine⟨n,⟨.int _ _,trivial⟩,?_⟩
 simp only[Lit.wf,dqm,decide_eq_true_eq] at hw
 exact⟨hw.1,hw.2⟩
theorem zyr {t : TypeId} {fs : Array Field} (ht : P.underlying t = some (.struct fs)) {fuel : Nat} {cs : List Value} {x : DataW H × List MemPlace} (h : DataW.trod en P w 0 sp held fuel t cs = some x) :
  cs.length=P.cellsOf t/\∀ (i:Nat) (f:Field),fs[i]? = some f->∃ n y,DataW.trod en P w 0 sp held n f.type ((cs.drop f.offset).take (P.cellsOf f.type))=some y:=by
 obtain⟨xs,n,_,_,hl,hx,hf⟩:=DataW.trod_struct ht h
 refine⟨hl,λ i f hi=>?_⟩
 have hlt:i < xs.length:=by rw[hx];exact (dqp.1 hi).1
 exact⟨n,xs[i],by rw[hf i f hi,dqD hlt]⟩
theorem zEK {t e : TypeId} {α : Type} [Inhabited α] {enc : α → List PV} {wf : α → Prop} {s : Nat} (ht : P.underlying t = some (.slice e)) (hc : P.cellsOf e = s) (hs : 0 < s) (hlen : ∀ a, (enc a).length = s)
    (hel:Rd H en P w sp held e enc wf):Rd H en P w sp held t (λ x:Sl α=>[.sl x.len s (λ i=>enc (x.get i))]) (λ x=>x.len<=9223372036854775807/\∀ i,i < x.len->wf (x.get i)):=by
  intro fuel cs x h
  rcases open_slice ht h with ⟨rfl,_⟩ | ⟨a,len,cap,m,n,D,Pl,rfl,_,hl,hm,hmm,_,hget⟩
  · exact⟨⟨0,default⟩,⟨.sl0 _ _,trivial⟩,Nat.zero_le _,λ i hi=>absurd hi (dqW i)⟩
  · by_cases h0 : len = 0
    · subst h0
      exact⟨⟨0,default⟩,⟨.sle _ _ _ _,trivial⟩,Nat.zero_le _,λ i hi=>absurd hi (dqW i)⟩
    · have hlm : len ≤ m := by rw [hmm]; split <;> omega
      rw[hc] at hget
      have hex:∀ i,i < len->∃ y:α,(∃ cs',w.cells? 0 (a.add (i * s)) s=some cs'/\RL (Rep (H0 w)) (enc y) cs')/\wf y:=by
        intro i hi
        obtain⟨cs',h1,h2⟩:=hget i (by omega)
        obtain⟨y,h3,h4⟩:=hel _ _ _ h2
        exact⟨y,⟨cs',h1,h3⟩,h4⟩
      have hch:∃ f:Nat->α,∀ i,i < len->(∃ cs',w.cells? 0 (a.add (i * s)) s=some cs'/\RL (Rep (H0 w)) (enc (f i)) cs')/\wf (f i):=by
        refine⟨λ i=>if hi:i < len then Classical.choose (hex i hi) else default,λ i hi=>?_⟩
        simp only[dif_pos hi]
        exact Classical.choose_spec (hex i hi)
      obtain⟨f,hf⟩:=hch
      -- the block
      have hcell:∀ i,i < len->∀ j,j < s->∃ cs',w.cells? 0 (a.add (i * s)) s=some cs'/\RL (Rep (H0 w)) (enc (f i)) cs'/\w.cell? ((a.add (i * s)).add j)=cs'[j]?/\cs'.length=s:=by
        intro i hi j hj
        obtain⟨⟨cs',h1,h2⟩,_⟩:=hf i hi
        obtain⟨_,h3,h4⟩:=World.cells?_some h1
        exact⟨cs',h1,h2,h4 j hj,h3⟩
      obtain⟨cs0,_,_,hc0,hl0⟩:=hcell 0 (by omega) 0 hs
      have ha0:w.cell? a=cs0[0]?:=by simpa [Addr.add] using hc0
      rw[dqD (by omega)] at ha0
      obtain⟨C,ty,fr,hblk,hspot⟩:∃ C ty fr,w.heap[a.block]? = some (.cells C ty fr)/\a.spot=none:=by
        unfold World.cell? at ha0
        split at ha0
        · rename_i C ty fr hb
          refine⟨C,ty,fr,hb,?_⟩
          cases hsp:a.spot with
          | none=>rfl
          | some k=>rw[hsp] at ha0;simp at ha0
        · cases ha0
      have ea:a=⟨a.block,a.off,none⟩:=by rw[<- hspot]
      have hat:∀ i j,i < len->j < s->∃ cs',RL (Rep (H0 w)) (enc (f i)) cs'/\C[a.off+i * s+j]? = cs'[j]?/\cs'.length=s:=by
        intro i j hi hj
        obtain⟨cs',_,h2,h3,h4⟩:=hcell i hi j hj
        refine⟨cs',h2,?_,h4⟩
        rw[<- h3]
        have e2:(a.add (i * s)).add j=⟨a.block,a.off+i * s+j,none⟩:=(congrArg (λ z:Addr=>(z.add (i * s)).add j) ea).trans (zEJ _ _ _ _)
        rw[e2]
        simp[World.cell?,hblk]
      refine⟨⟨len,f⟩,⟨?_,trivial⟩,by simp only[maxLen] at hm;show len<=_;omega,λ i hi=>(hf i hi).2⟩
      rw[ea]
      refine .sl len s _ a.block a.off cap C ty fr (λ i j=>C.getD (a.off+i * s+j) undef) (by simp[H0,hblk]) hl (λ i _=>hlen _) ?_ ?_
      · intro i j x hi hx
        have hj:j < s:=by have:=(dqn.1 hx).1;rw[hlen] at this;exact this
        obtain⟨cs',h1,h2,h3⟩:=hat i j hi hj
        rw[dql,h2,dqD (by omega)]
        rfl
      · intro i j x hi hx
        have hj:j < s:=by have:=(dqn.1 hx).1;rw[hlen] at this;exact this
        obtain⟨cs',h1,h2,h3⟩:=hat i j hi hj
        obtain⟨v,hv,hr⟩:=h1.get j x hx
        rw[dql,h2,hv]
        exact hr
theorem zjG {α:Type}(l:List α) (o s:Nat):l.drop o=(l.drop o).take s ++ l.drop (o+s):=by
 rw[<- List.drop_drop]
 exact (List.take_append_drop s (l.drop o)).symm
def zQC : TypeDesc → Bool
  | .struct _=>false
  | .array _ _=>false
  | _=>true
theorem okWide_one {t:TypeId}{d:TypeDesc}{r:Reach}{base:Nat}{v:Value}(ht:P.underlying t=some d) (hd:zQC d=true) (h:Value.okWide P w r base t v):v.cells.toList=[v]:=by
 unfold Value.okWide at h
 rw[ht] at h
 cases v with
 | agg cs =>
  exfalso
  cases d <;> first | (cases hd;done) | (simp only[Cell.okWide,Cell.ok,ht] at h)
 | _=>rfl
theorem pa_one {h:Fz}{p:PV}{v:Value}(hv:v.cells.toList=[v]) (r:RL (Rep h) [p] v.cells.toList):paR h (.one p) v:=by
 rw[hv] at r
 exact r.1
theorem below_H0 {w':World}(b:Bel (H0 w) w.heap.size w w'):Go.RowKit.Below w.heap.size w w' :=
 ⟨b.os,b.tape,b.output,b.size,λ k hk=>b.block k hk λ F e=>by
  unfold H0 at e
  cases hb:w.heap[k]? <;> rw[hb] at e <;> cases e⟩
end
end Go.Pm
namespace Go.Proofs
open Go Go.Pm
set_option maxRecDepth 100000
set_option linter.unusedVariables false
attribute [local irreducible] Go.Pm.vcFun Go.Pm.vc Go.Pm.vcIter
theorem C_3:Tryz.prog.cellsOf 3=1:=by kernel_rfl
theorem zSx:Tryz.prog.cellsOf 48=3:=by kernel_rfl
abbrev wf_3 (x:Int):Prop:=wfI x
theorem rd_3 {H:Type}{en:TypeId×Value->H}{w:World}{sp:Nat->Bool}{held:Bool} : Rd H en Tryz.prog w sp held 3 zam wf_3:=zM3 Tryz.underlying3
def zM4 (x:Gate):Prop:=wf_3 x.Z/\wf_3 x.Low/\wf_3 x.High
theorem zQD {H:Type}{en:TypeId×Value->H}{w:World}{sp:Nat->Bool}{held:Bool} : Rd H en Tryz.prog w sp held 48 enc_48 zM4:=by
  intro fuel cs x h
  obtain⟨hl,hf⟩:=zyr Tryz.underlying48 h
  rw[zSx] at hl
  obtain⟨n0,y0,g0⟩:=hf 0 _ rfl
  have g0:DataW.trod en Tryz.prog w 0 sp held n0 3 ((cs.drop 0).take (Tryz.prog.cellsOf 3))=some y0:=g0
  rw[C_3] at g0
  obtain⟨a0,r0,w0⟩:=rd_3 _ _ _ g0
  obtain⟨n1,y1,g1⟩:=hf 1 _ rfl
  have g1:DataW.trod en Tryz.prog w 0 sp held n1 3 ((cs.drop 1).take (Tryz.prog.cellsOf 3))=some y1:=g1
  rw[C_3] at g1
  obtain⟨a1,r1,w1⟩:=rd_3 _ _ _ g1
  obtain⟨n2,y2,g2⟩:=hf 2 _ rfl
  have g2:DataW.trod en Tryz.prog w 0 sp held n2 3 ((cs.drop 2).take (Tryz.prog.cellsOf 3))=some y2:=g2
  rw[C_3] at g2
  obtain⟨a2,r2,w2⟩:=rd_3 _ _ _ g2
  have z:cs.drop 3=[]:=dqO (by omega)
  have R:=(r0.append (r1.append (r2.append (show RL (Rep (H0 w)) [] (cs.drop 3) by rw[z];exact zma))))
  rw[<- (show cs.drop 2=(cs.drop 2).take 1 ++ cs.drop 3 from zjG cs 2 1)] at R
  rw[<- (show cs.drop 1=(cs.drop 1).take 1 ++ cs.drop 2 from zjG cs 1 1)] at R
  rw[<- (show cs.drop 0=(cs.drop 0).take 1 ++ cs.drop 1 from zjG cs 0 1)] at R
  exact⟨⟨a0,a1,a2⟩,R,⟨w0,w1,w2⟩⟩
def wf_22 (x:(Sl Gate)):Prop:=x.len<=9223372036854775807/\∀ i,i < x.len->zM4 (x.get i)
theorem rd_22 {H:Type}{en:TypeId×Value->H}{w:World}{sp:Nat->Bool}{held:Bool} : Rd H en Tryz.prog w sp held 22 zMY wf_22:=zEK Tryz.underlying22 zSx (by decide) (λ _=>rfl) zQD
end Go.Proofs
namespace Go.Proofs
open Go Go.Pm
set_option maxRecDepth 100000
set_option linter.unusedVariables false
attribute [local irreducible] Go.Pm.vcFun Go.Pm.vc Go.Pm.vcIter
abbrev T9:Tabs:=Tabs.nil
theorem zS0:TabsOk Tryz.prog T9:=TabsOk.nil
abbrev G9:Ctrs:=csm T9 (λ _ _=>[]) (λ _=>false)
def zQE:Ann:=⟨46,[(0,zK [0,1] []),(1,zK [0,1,5] []),(2,zK [0,1,5,15] []),(3,zK [0,1,5] []),(4,zK [0,1,5,26] []),(5,zK [4] []),(6,zK [0,1,5,35] []),(7,zK [4] []),(8,zK [0,1,40] []),(9,zK [4] []),(10,zK [45] []),(11,zK [4] []),(12,zK [4] [])],
 [(2,zK [0,1,5] [])],
 [(8,zK [0,1] [])],
 [],[]⟩
abbrev R9:=Int
abbrev e9 (r:R9):List PA:=[.one (.int .i64 r)]
@[irreducible] def z9:=ptF Tryz.prog G9 zQE Tryz.f9
def zM5 (a:(Sl Int)) (b:(Sl Int)) (iv0:Int):St:=⟨[(0,zS zam 1 a),(1,zS zam 1 b),(5,zI iv0)],[],[]⟩
abbrev zSy (K:List PA->Prop) (a:(Sl Int)) (b:(Sl Int)) (X:St->Prop) (P:Int->Bool) (S:Int->Int):Prop:=∀ ⦃iv0:Int⦄,P iv0=true->K (e9 (S iv0))->X (zM5 a b iv0)
section
variable {K:List PA->Prop}{a:(Sl Int)}{b:(Sl Int)}{iv0:Int}{X0:St->Prop}{P0:Int->Bool}{S0:Int->Int}
def zqy (a:(Sl Int)) (b:(Sl Int)):Int :=
  (cond (decide ((a.len : Int) < (b.len : Int)))
 (-1:Int)
 (cond (decide ((a.len : Int) > (b.len : Int)))
 (1:Int)
 (0:Int)))
theorem zFS (hk:K (e9 (zqy a b))):z9 K [1,1] [] ⟨[(0,zS zam 1 a),(1,zS zam 1 b)],[],[]⟩:=zaM (by kernel_rfl) (zt hk (λ hk=>hk) (λ hk=>(zt hk (λ hk=>hk) (λ hk=>hk))))
def zmd (a:(Sl Int)) (b:(Sl Int)) (S0:Int->Int) (iv0:Int):Int :=
  (cond (decide (iv0 < (a.len : Int)))
 (cond (decide (iv0 < (b.len : Int)))
 (cond (decide ((a.get iv0.toNat) < (b.get iv0.toNat)))
 (-1:Int)
 (cond (decide ((a.get iv0.toNat) > (b.get iv0.toNat)))
 (1:Int)
 (S0 (w64 (iv0+(1:Int))))))
 (zqy a b))
 (zqy a b))
def zme (a:(Sl Int)) (b:(Sl Int)) (P0:Int->Bool) (iv0:Int):Bool :=
  (cond (decide (iv0 < (a.len : Int)))
 (cond (decide (iv0 < (b.len : Int)))
 (decide ((0<=iv0/\iv0 < (a.len:Int))) &&
 (decide ((0<=iv0/\iv0 < (b.len:Int))) &&
 (cond (decide ((a.get iv0.toNat) < (b.get iv0.toNat)))
 true
 (decide ((0<=iv0/\iv0 < (a.len:Int))) &&
 (decide ((0<=iv0/\iv0 < (b.len:Int))) &&
 (cond (decide ((a.get iv0.toNat) > (b.get iv0.toNat)))
 true
 (P0 (w64 (iv0+(1:Int))))))))))
 true)
 true)
def zkz (a:(Sl Int)) (b:(Sl Int)):Nat->Int->Int:=lpO (λ _=>default) (zmd a b)
def zkA (a:(Sl Int)) (b:(Sl Int)):Nat->Int->Bool:=lpO (λ _=>false) (zme a b)
def zFT (a:(Sl Int)) (b:(Sl Int)) (iv0:Int):Int:=zkz a b Fuel iv0
def zFU (a:(Sl Int)) (b:(Sl Int)) (iv0:Int):Bool:=zkA a b Fuel iv0
theorem zM6 (hs:zFU a b iv0=true) (hk:K (e9 (zFT a b iv0))):z9 K [1,0,1,0] [] (zM5 a b iv0) :=
  zl (λ X=>z9 K [1,0,1,0,0] [X]) (by kernel_rfl) λ X0 hX =>
  (show ∀ k, zSy K a b X0 (zkA a b k) (zkz a b k) from zfo _ _ (zme a b) (zmd a b) (zSy K a b X0)
 (by intro _ hs;exact absurd hs dqk)
 (by intro P0 S0 hX0 iv0 hs hk;exact hX _ (zaM (by kernel_rfl) (zc hs hk (λ hs hk=>(zc hs hk (λ hs hk=>(zaI hs λ hc hs=>And.intro hc (zaI hs λ hc hs=>And.intro hc (zc hs hk (λ hs hk=>hk) (λ hs hk=>(zaI hs λ hc hs=>And.intro hc (zaI hs λ hc hs=>And.intro hc (zc hs hk (λ hs hk=>hk) (λ hs hk=>(hX0 hs hk)))))))))) (λ hs hk=>(zFS hk)))) (λ hs hk=>(zFS hk)))))) _ hs hk
def s9 (a:(Sl Int)) (b:(Sl Int)):Int :=
  (zFT a b (0:Int))
def p9 (a:(Sl Int)) (b:(Sl Int)):Bool :=
  (zFU a b (0:Int))
end
theorem q9 (a:(Sl Int)) (b:(Sl Int)) (K:List PA->Prop) (hs:p9 a b=true) (hk:K (e9 (s9 a b))):vcFun Tryz.prog G9 zQE 9 [.one (.sl a.len 1 (λ i=>zam (a.get i))),.one (.sl b.len 1 (λ i=>zam (b.get i)))] K :=
  zaM (by kernel_rfl) (zM6 hs hk)
def zHT : List PA → COut
  | [.one (.sl zaK zbW zaL),.one (.sl zd9 zi9 zea)]=>.det (IsE zam 1 zbW zaL/\IsE zam 1 zi9 zea/\p9 (⟨zaK,zcf zaL⟩:(Sl Int)) (⟨zd9,zcf zea⟩:(Sl Int))=true) [.one (.int .i64 (s9 (⟨zaK,zcf zaL⟩:(Sl Int)) (⟨zd9,zcf zea⟩:(Sl Int))))]
  | _=>.no
theorem call9:zah Tryz.prog 9:=⟨_,rfl,rfl,by kernel_rfl⟩
theorem ok9:Ok Tryz.prog 9 zHT:=zaV zS0 call9 λ args K h=>by
  unfold zHT at h
  split at h
  · rename_i zaK zbW zaL zd9 zi9 zea
    obtain⟨⟨⟨rfl,zbn,rfl⟩,⟨rfl,zgy,rfl⟩,hs⟩,hk⟩:=h
    try rw[zbA zbn] at hs
    try rw[zbA zbn] at hk
    try rw[zbA zgy] at hs
    try rw[zbA zgy] at hk
    exact⟨(λ _ _=>[]),(λ _=>false),zQE,q9 (⟨zaK,zbn⟩:(Sl Int)) (⟨zd9,zgy⟩:(Sl Int)) K hs hk⟩
  · exact h.elim
section
variable [DrawZ]
abbrev T44:Tabs:=Tabs.nil
theorem zQF:TabsOk Tryz.prog T44:=TabsOk.nil
abbrev G44:Ctrs:=csm T44 (λ _ _=>[]) (λ _=>false)
def zM7:Ann:=⟨15,[(0,zK [0,1,2] []),(1,zK [6] [])],
 [],
 [],
 [],[]⟩
abbrev R44:=Bool
abbrev e44 (r:R44):List PA:=[.one (.bool r)]
section
variable {K:List PA->Prop}{x:Int}{low:Int}{high:Int}
def s44 (x:Int) (low:Int) (high:Int):Bool :=
  (cond (decide (x >= low))
 (decide (x<=high))
 false)
end
theorem q44 (x:Int) (low:Int) (high:Int) (K:List PA->Prop) (hk:K (e44 (s44 x low high))):vcFun Tryz.prog G44 zM7 44 [.one (.int .i64 x),.one (.int .i64 low),.one (.int .i64 high)] K :=
  zaM (by kernel_rfl) (zt hk (λ hk=>hk) (λ hk=>hk))
def zqz : List PA → COut
  | [.one (.int .i64 a0),.one (.int .i64 a1),.one (.int .i64 a2)]=>.tot [.one (.bool (s44 a0 a1 a2))]
  | _=>.no
theorem zM8:zah Tryz.prog 44:=⟨_,rfl,rfl,by kernel_rfl⟩
theorem zL9:Ok Tryz.prog 44 zqz:=zaV zQF zM8 λ args K h=>by
  unfold zqz at h
  split at h
  · rename_i a0 a1 a2
    have hk:=h
    exact⟨(λ _ _=>[]),(λ _=>false),zM7,q44 a0 a1 a2 K hk⟩
  · exact h.elim
end

abbrev T55:Tabs:=(Tabs.nil.addF 44 zqz)
theorem zQG:TabsOk Tryz.prog T55:=(TabsOk.nil.addF zL9)
abbrev G55:Ctrs:=csm T55 (λ _ _=>[]) (λ _=>false)
def zM9:Ann:=⟨23,[(0,zK [1] [1]),(1,zK [2] [])],
 [],
 [],
 [],[]⟩
abbrev R55:=Bool
abbrev e55 (r:R55):List PA:=[.one (.bool r)]
section
variable {K:List PA->Prop}{g:Gate}
def s55 (g:Gate):Bool :=
  (cond (s44 g.Z (0:Int) (100000:Int))
 (cond (decide (g.Low >= (-1000000:Int)))
 (cond (decide (g.Low <= g.High))
 (decide (g.High<=(1000000:Int)))
 false)
 false)
 false)
end
theorem q55 (g:Gate) (K:List PA->Prop) (hk:K (e55 (s55 g))):vcFun Tryz.prog G55 zM9 55 [.agg (enc_48 g)] K :=
  zaM (by kernel_rfl) (zt hk (λ hk=>(zt hk (λ hk=>(zt hk (λ hk=>hk) (λ hk=>hk))) (λ hk=>hk))) (λ hk=>hk))
def zHU : List PA → COut
  | [.agg [.int .i64 zla,.int .i64 zc9,.int .i64 zch]]=>.tot [.one (.bool (s55 (⟨zla,zc9,zch⟩:Gate)))]
  | _=>.no
theorem zNa:zah Tryz.prog 55:=⟨_,rfl,rfl,by kernel_rfl⟩
theorem zS1:Ok Tryz.prog 55 zHU:=zaV zQG zNa λ args K h=>by
  unfold zHU at h
  split at h
  · rename_i zla zc9 zch
    have hk:=h
    exact⟨(λ _ _=>[]),(λ _=>false),zM9,q55 (⟨zla,zc9,zch⟩:Gate) K hk⟩
  · exact h.elim
abbrev T28:Tabs:=((Tabs.nil.addF 44 zqz).addF 55 zHU)
theorem zQH:TabsOk Tryz.prog T28:=((TabsOk.nil.addF zL9).addF zS1)
abbrev G28:Ctrs:=csm T28 (λ _ _=>[]) (λ _=>false)
def zHV:Ann:=⟨18,[(0,zK [0] []),(1,zK [0,5,6,7] []),(2,zK [0,5,6,7,8] []),(3,zK [0,4,5,6,7] [4]),(4,zK [0,5,6,7,13] []),(5,zK [2] []),(6,zK [0,5,6,7] []),(7,zK [2] [])],
 [(2,zK [0,5,6,7] [])],
 [(5,zK [0,5,6,7,13] [])],
 [],[]⟩
abbrev R28:=Bool
abbrev e28 (r:R28):List PA:=[.one (.bool r)]
@[irreducible] def z28:=ptF Tryz.prog G28 zHV Tryz.f28
def zFV (zaa:(Sl Gate)) (zbJ:Int):St:=⟨[(0,zS enc_48 3 zaa),(5,zS enc_48 3 zaa),(6,zI (zaa.len:Int)),(7,zI zbJ)],[],[]⟩
abbrev zHW (K:List PA->Prop) (zaa:(Sl Gate)) (X:St->Prop) (P:Int->Bool) (S:Int->Bool):Prop:=∀ ⦃zbJ:Int⦄,P zbJ=true->K (e28 (S zbJ))->X (zFV zaa zbJ)
section
variable {K:List PA->Prop}{zaa:(Sl Gate)}{zbJ:Int}{X0:St->Prop}{P0:Int->Bool}{S0:Int->Bool}{zib:Int}{zr8:Bool}
def zr9 (S0:Int->Bool) (zaa:(Sl Gate)) (zib:Int) (zr8:Bool):Bool :=
  (cond zr8
 false
 (S0 (w64 (zib+(1:Int)))))
def zsa (P0:Int->Bool) (zaa:(Sl Gate)) (zib:Int) (zr8:Bool):Bool :=
  (cond zr8
 true
 (P0 (w64 (zib+(1:Int)))))
theorem zHX (hX0:zHW K zaa X0 P0 S0) (hs:zsa P0 zaa zib zr8=true) (hk:K (e28 (zr9 S0 zaa zib zr8))):z28 K [1,0,1,0,0,1,1,0,0,1,1] [X0] ⟨[(0,zS enc_48 3 zaa),(5,zS enc_48 3 zaa),(6,zI (zaa.len:Int)),(7,zI zib),(13,zB zr8)],[],[]⟩:=zaM (by kernel_rfl) (zc hs hk (λ hs hk=>hk) (λ hs hk=>(hX0 hs hk)))
def zjH (zaa:(Sl Gate)) (S0:Int->Bool) (zbJ:Int):Bool :=
  (cond (decide (zbJ < (zaa.len : Int)))
 (zr9 S0 zaa zbJ (!(s55 (zaa.get zbJ.toNat))))
 (s44 (zaa.len:Int) (1:Int) (24:Int)))
def zjI (zaa:(Sl Gate)) (P0:Int->Bool) (zbJ:Int):Bool :=
  (cond (decide (zbJ < (zaa.len : Int)))
 (decide ((0<=zbJ/\zbJ < (zaa.len:Int))) &&
 (zsa P0 zaa zbJ (!(s55 (zaa.get zbJ.toNat)))))
 true)
def zjJ (zaa:(Sl Gate)):Nat->Int->Bool:=lpO (λ _=>default) (zjH zaa)
def zjK (zaa:(Sl Gate)):Nat->Int->Bool:=lpO (λ _=>false) (zjI zaa)
def zys (zaa:(Sl Gate)) (zbJ:Int):Bool:=zjJ zaa Fuel zbJ
def zyt (zaa:(Sl Gate)) (zbJ:Int):Bool:=zjK zaa Fuel zbJ
theorem zHY (hs:zyt zaa zbJ=true) (hk:K (e28 (zys zaa zbJ))):z28 K [1,0,1,0] [] (zFV zaa zbJ) :=
  zl (λ X=>z28 K [1,0,1,0,0] [X]) (by kernel_rfl) λ X0 hX =>
  (show ∀ k, zHW K zaa X0 (zjK zaa k) (zjJ zaa k) from zfo _ _ (zjI zaa) (zjH zaa) (zHW K zaa X0)
 (by intro _ hs;exact absurd hs dqk)
 (by intro P0 S0 hX0 zbJ hs hk;exact hX _ (zaM (by kernel_rfl) (zc hs hk (λ hs hk=>(zaI hs λ hc hs=>And.intro hc (zHX hX0 hs hk))) (λ hs hk=>hk))))) _ hs hk
def s28 (zaa:(Sl Gate)):Bool :=
  (zys zaa (0:Int))
def p28 (zaa:(Sl Gate)):Bool :=
  (zyt zaa (0:Int))
end
theorem q28 (zaa:(Sl Gate)) (K:List PA->Prop) (hs:p28 zaa=true) (hk:K (e28 (s28 zaa))):vcFun Tryz.prog G28 zHV 28 [.one (.sl zaa.len 3 (λ i=>enc_48 (zaa.get i)))] K :=
  zaM (by kernel_rfl) (zHY hs hk)
def zqA : List PA → COut
  | [.one (.sl zaK zbW zaL)]=>.det (IsE enc_48 3 zbW zaL/\p28 (⟨zaK,zaf zaL⟩:(Sl Gate))=true) [.one (.bool (s28 (⟨zaK,zaf zaL⟩:(Sl Gate))))]
  | _=>.no
theorem call28:zah Tryz.prog 28:=⟨_,rfl,rfl,by kernel_rfl⟩
theorem zMa:Ok Tryz.prog 28 zqA:=zaV zQH call28 λ args K h=>by
  unfold zqA at h
  split at h
  · rename_i zaK zbW zaL
    obtain⟨⟨⟨rfl,zbn,rfl⟩,hs⟩,hk⟩:=h
    try rw[zae zbn] at hs
    try rw[zae zbn] at hk
    exact⟨(λ _ _=>[]),(λ _=>false),zHV,q28 (⟨zaK,zbn⟩:(Sl Gate)) K hs hk⟩
  · exact h.elim
section
variable [DrawZ]
abbrev T84:Tabs:=Tabs.nil
theorem zQI:TabsOk Tryz.prog T84:=TabsOk.nil
abbrev G84:Ctrs:=csm T84 (λ _ _=>[]) (λ _=>false)
def zHZ:Ann:=⟨12,[(0,zK [0,1] []),(1,zK [0,1,6] []),(2,zK [0,1] []),(3,zK [4] [])],
 [(1,zK [0,1] [])],
 [],
 [],[]⟩
abbrev R84:=Int
abbrev e84 (r:R84):List PA:=[.one (.int .i64 r)]
@[irreducible] def z84:=ptF Tryz.prog G84 zHZ Tryz.f84
def zFW (av0:Int) (bv0:Int):St:=⟨[(0,zI av0),(1,zI bv0)],[],[]⟩
abbrev zNb (K:List PA->Prop) (X:St->Prop) (P:Int->Int->Bool) (S:Int->Int->Int):Prop:=∀ ⦃av0:Int⦄ ⦃bv0:Int⦄,P av0 bv0=true->K (e84 (S av0 bv0))->X (zFW av0 bv0)
section
variable {K:List PA->Prop}{a:Int}{b:Int}{av0:Int}{bv0:Int}{X0:St->Prop}{P0:Int->Int->Bool}{S0:Int->Int->Int}
def zo0 (S0:Int->Int->Int) (av0:Int) (bv0:Int):Int :=
  (cond (decide (bv0 > (0:Int)))
 (S0 bv0 (av0.tmod bv0))
 av0)
def zo1 (P0:Int->Int->Bool) (av0:Int) (bv0:Int):Bool :=
  (cond (decide (bv0 > (0:Int)))
 (decide ((bv0 ≠ 0)) &&
 (P0 bv0 (av0.tmod bv0)))
 true)
def zo2:Nat->Int->Int->Int:=lpO (λ _ _=>default) (zo0)
def zo3:Nat->Int->Int->Bool:=lpO (λ _ _=>false) (zo1)
def zyu (av0:Int) (bv0:Int):Int:=zo2 Fuel av0 bv0
def zyv (av0:Int) (bv0:Int):Bool:=zo3 Fuel av0 bv0
theorem zH0 (hs:zyv av0 bv0=true) (hk:K (e84 (zyu av0 bv0))):z84 K [1,0,0] [] (zFW av0 bv0) :=
  zl (λ X=>z84 K [1,0,0,0] [X]) (by kernel_rfl) λ X0 hX =>
  (show ∀ k, zNb K X0 (zo3 k) (zo2 k) from zfo _ _ (zo1) (zo0) (zNb K X0)
 (by intro _ _ hs;exact absurd hs dqk)
 (by intro P0 S0 hX0 av0 bv0 hs hk;exact hX _ (zaM (by kernel_rfl) (zc hs hk (λ hs hk=>(zaI hs λ hc hs=>And.intro hc (hX0 hs hk))) (λ hs hk=>hk))))) _ hs hk
def s84 (a:Int) (b:Int):Int :=
  (zyu a b)
def p84 (a:Int) (b:Int):Bool :=
  (zyv a b)
end
theorem q84 (a:Int) (b:Int) (K:List PA->Prop) (hs:p84 a b=true) (hk:K (e84 (s84 a b))):vcFun Tryz.prog G84 zHZ 84 [.one (.int .i64 a),.one (.int .i64 b)] K :=
  zaM (by kernel_rfl) (zH0 hs hk)
def zH1 : List PA → COut
  | [.one (.int .i64 a0),.one (.int .i64 a1)]=>.det (p84 a0 a1=true) [.one (.int .i64 (s84 a0 a1))]
  | _=>.no
theorem zNc:zah Tryz.prog 84:=⟨_,rfl,rfl,by kernel_rfl⟩
theorem zS2:Ok Tryz.prog 84 zH1:=zaV zQI zNc λ args K h=>by
  unfold zH1 at h
  split at h
  · rename_i a0 a1
    obtain⟨hs,hk⟩:=h
    exact⟨(λ _ _=>[]),(λ _=>false),zHZ,q84 a0 a1 K hs hk⟩
  · exact h.elim
end

section
variable [DrawZ]
abbrev T68:Tabs:=(Tabs.nil.addF 84 zH1)
theorem zQJ:TabsOk Tryz.prog T68:=(TabsOk.nil.addF zS2)
abbrev G68:Ctrs:=csm T68 (λ _ _=>[]) (λ _=>false)
def zNd:Ann:=⟨19,[(0,zK [0,1,4] [4]),(1,zK [0,1,4,5] [4]),(2,zK [4] [4])],
 [],
 [],
 [],[]⟩
abbrev R68:=Frac
abbrev e68 (r:R68):List PA:=[.agg [.int .i64 r.Num,.int .i64 r.Den]]
section
variable {K:List PA->Prop}{num:Int}{den:Int}
def s68 (num:Int) (den:Int):Frac :=
  (⟨(w64 (num.tdiv (s84 (if (w64 (0 - num)) > num then (w64 (0 - num)) else num) den))),(w64 (den.tdiv (s84 (if (w64 (0 - num)) > num then (w64 (0 - num)) else num) den)))⟩:Frac)
def p68 (num:Int) (den:Int):Bool :=
  (decide ((p84 (if (w64 (0 - num)) > num then (w64 (0 - num)) else num) den=true)) &&
 (decide (((s84 (if (w64 (0 - num)) > num then (w64 (0 - num)) else num) den) ≠ 0)) &&
 (decide (((s84 (if (w64 (0 - num)) > num then (w64 (0 - num)) else num) den) ≠ 0)) &&
 true)))
end
theorem q68 (num:Int) (den:Int) (K:List PA->Prop) (hs:p68 num den=true) (hk:K (e68 (s68 num den))):vcFun Tryz.prog G68 zNd 68 [.one (.int .i64 num),.one (.int .i64 den)] K :=
  zaM (by kernel_rfl) (zaI hs λ hc hs=>And.intro hc (zaI hs λ hc hs=>And.intro hc (zaI hs λ hc hs=>And.intro hc hk)))
def zwI : List PA → COut
  | [.one (.int .i64 a0),.one (.int .i64 a1)]=>.det (p68 a0 a1=true) [.agg [.int .i64 ((s68 a0 a1).Num),.int .i64 ((s68 a0 a1).Den)]]
  | _=>.no
theorem zNe:zah Tryz.prog 68:=⟨_,rfl,rfl,by kernel_rfl⟩
theorem zQg:Ok Tryz.prog 68 zwI:=zaV zQJ zNe λ args K h=>by
  unfold zwI at h
  split at h
  · rename_i a0 a1
    obtain⟨hs,hk⟩:=h
    exact⟨(λ _ _=>[]),(λ _=>false),zNd,q68 a0 a1 K hs hk⟩
  · exact h.elim
end

abbrev T43:Tabs:=(Tabs.nil.addF 68 zwI)
theorem zQK:TabsOk Tryz.prog T43:=(TabsOk.nil.addF zQg)
abbrev G43:Ctrs:=csm T43 (λ _ _=>[]) (λ _=>false)
def zNf:Ann:=⟨14,[(0,zK [1,2] [1,2]),(1,zK [2] [2])],
 [],
 [],
 [],[]⟩
abbrev R43:=Line
abbrev e43 (r:R43):List PA:=[.agg [.int .i64 r.Slope.Num,.int .i64 r.Slope.Den,.int .i64 r.Start.Num,.int .i64 r.Start.Den]]
section
variable {K:List PA->Prop}{s:straight}
def s43 (s:straight):Line :=
  (⟨(s68 s.slope s.den),(s68 s.start s.den)⟩:Line)
def p43 (s:straight):Bool :=
  (decide ((p68 s.slope s.den=true)) &&
 (decide ((p68 s.start s.den=true)) &&
 true))
end
theorem q43 (s:straight) (K:List PA->Prop) (hs:p43 s=true) (hk:K (e43 (s43 s))):vcFun Tryz.prog G43 zNf 43 [.agg (zaA s)] K :=
  zaM (by kernel_rfl) (zaI hs λ hc hs=>And.intro hc (zaI hs λ hc hs=>And.intro hc hk))
def zEL : List PA → COut
  | [.agg [.int .i64 zbu,.int .i64 zbv,.int .i64 zc0]]=>.det (p43 (⟨zbu,zbv,zc0⟩:straight)=true) [.agg [.int .i64 ((s43 (⟨zbu,zbv,zc0⟩:straight)).Slope.Num),.int .i64 ((s43 (⟨zbu,zbv,zc0⟩:straight)).Slope.Den),.int .i64 ((s43 (⟨zbu,zbv,zc0⟩:straight)).Start.Num),.int .i64 ((s43 (⟨zbu,zbv,zc0⟩:straight)).Start.Den)]]
  | _=>.no
theorem zNg:zah Tryz.prog 43:=⟨_,rfl,rfl,by kernel_rfl⟩
theorem zSz:Ok Tryz.prog 43 zEL:=zaV zQK zNg λ args K h=>by
  unfold zEL at h
  split at h
  · rename_i zbu zbv zc0
    obtain⟨hs,hk⟩:=h
    exact⟨(λ _ _=>[]),(λ _=>false),zNf,q43 (⟨zbu,zbv,zc0⟩:straight) K hs hk⟩
  · exact h.elim
section
variable [DrawZ]
abbrev T75:Tabs:=Tabs.nil
theorem zQL:TabsOk Tryz.prog T75:=TabsOk.nil
abbrev G75:Ctrs:=csm T75 (λ _ _=>[]) (λ _=>false)
def zNh:Ann:=⟨12,[(0,zK [1,2] [2]),(1,zK [3] [])],
 [],
 [],
 [],[]⟩
abbrev R75:=Bool
abbrev e75 (r:R75):List PA:=[.one (.bool r)]
section
variable {K:List PA->Prop}{c0:list}{g:Gate}
def s75 (c0:list) (g:Gate):Bool :=
  (g.Z != (c0.Gates.get 0).Z)
def p75 (c0:list) (g:Gate):Bool :=
  (decide ((0<=(0:Int)/\(0:Int) < (c0.Gates.len:Int))) &&
 true)
end
theorem q75 (c0:list) (g:Gate) (K:List PA->Prop) (hs:p75 c0 g=true) (hk:K (e75 (s75 c0 g))):vcFun Tryz.prog G75 zNh 75 [.agg (enc_48 g),.one (.fp (zdM c0) 0)] K :=
  zaM (by kernel_rfl) (zaI hs λ hc hs=>And.intro hc hk)
def zH2 : List PA → COut
  | [.agg [.int .i64 zla,.int .i64 zc9,.int .i64 zch],.one (.fp [.sl c0_Gates_n c0_Gates_s c0_Gates_g] 0)]=>.det (IsE enc_48 3 c0_Gates_s c0_Gates_g/\p75 (⟨(⟨c0_Gates_n,zaf c0_Gates_g⟩:(Sl Gate))⟩:list) (⟨zla,zc9,zch⟩:Gate)=true) [.one (.bool (s75 (⟨(⟨c0_Gates_n,zaf c0_Gates_g⟩:(Sl Gate))⟩:list) (⟨zla,zc9,zch⟩:Gate)))]
  | _=>.no
theorem zNi:zah Tryz.prog 75:=⟨_,rfl,rfl,by kernel_rfl⟩
theorem zS3:Ok Tryz.prog 75 zH2:=zaV zQL zNi λ args K h=>by
  unfold zH2 at h
  split at h
  · rename_i zla zc9 zch c0_Gates_n c0_Gates_s c0_Gates_g
    obtain⟨⟨⟨rfl,c0_Gates_f,rfl⟩,hs⟩,hk⟩:=h
    try rw[zae c0_Gates_f] at hs
    try rw[zae c0_Gates_f] at hk
    exact⟨(λ _ _=>[]),(λ _=>false),zNh,q75 (⟨(⟨c0_Gates_n,c0_Gates_f⟩:(Sl Gate))⟩:list) (⟨zla,zc9,zch⟩:Gate) K hs hk⟩
  · exact h.elim
end

section
variable [DrawZ]
abbrev T83:Tabs:=Tabs.nil
theorem zQM:TabsOk Tryz.prog T83:=TabsOk.nil
abbrev G83:Ctrs:=csm T83 (λ _ _=>[]) (λ _=>false)
def zNj:Ann:=⟨18,[(0,zK [1,2] [2]),(1,zK [3] [])],
 [],
 [],
 [],[]⟩
abbrev R83:=Bool
abbrev e83 (r:R83):List PA:=[.one (.bool r)]
section
variable {K:List PA->Prop}{c0:straight}{g:Gate}
def s83 (c0:straight) (g:Gate):Bool :=
  ((w64 (c0.start+(w64 (c0.slope * g.Z)))) == (w64 (g.Low * c0.den)))
end
theorem q83 (c0:straight) (g:Gate) (K:List PA->Prop) (hk:K (e83 (s83 c0 g))):vcFun Tryz.prog G83 zNj 83 [.agg (enc_48 g),.one (.fp (zaA c0) 0)] K :=
  zaM (by kernel_rfl) hk
def zH3 : List PA → COut
  | [.agg [.int .i64 zla,.int .i64 zc9,.int .i64 zch],.one (.fp [.int .i64 c0_slope,.int .i64 c0_start,.int .i64 c0_den] 0)]=>.tot [.one (.bool (s83 (⟨c0_slope,c0_start,c0_den⟩:straight) (⟨zla,zc9,zch⟩:Gate)))]
  | _=>.no
theorem zNk:zah Tryz.prog 83:=⟨_,rfl,rfl,by kernel_rfl⟩
theorem zS4:Ok Tryz.prog 83 zH3:=zaV zQM zNk λ args K h=>by
  unfold zH3 at h
  split at h
  · rename_i zla zc9 zch c0_slope c0_start c0_den
    have hk:=h
    exact⟨(λ _ _=>[]),(λ _=>false),zNj,q83 (⟨c0_slope,c0_start,c0_den⟩:straight) (⟨zla,zc9,zch⟩:Gate) K hk⟩
  · exact h.elim
end

section
variable [DrawZ]
abbrev T57:Tabs:=(Tabs.nil.addF 44 zqz)
theorem zQN:TabsOk Tryz.prog T57:=(TabsOk.nil.addF zL9)
abbrev G57:Ctrs:=csm T57 (λ _ _=>[]) (λ _=>false)
def zNl:Ann:=⟨24,[(0,zK [2,3] [2,3]),(1,zK [4] [])],
 [],
 [],
 [],[]⟩
abbrev R57:=Bool
abbrev e57 (r:R57):List PA:=[.one (.bool r)]
section
variable {K:List PA->Prop}{s:straight}{g:Gate}
def s57 (s:straight) (g:Gate):Bool :=
  (s44 (w64 (s.start+(w64 (s.slope * g.Z)))) (w64 (g.Low * s.den)) (w64 (g.High * s.den)))
end
theorem q57 (s:straight) (g:Gate) (K:List PA->Prop) (hk:K (e57 (s57 s g))):vcFun Tryz.prog G57 zNl 57 [.agg (zaA s),.agg (enc_48 g)] K :=
  zaM (by kernel_rfl) hk
def zEM : List PA → COut
  | [.agg [.int .i64 zbu,.int .i64 zbv,.int .i64 zc0],.agg [.int .i64 zH4,.int .i64 zmf,.int .i64 zic]]=>.tot [.one (.bool (s57 (⟨zbu,zbv,zc0⟩:straight) (⟨zH4,zmf,zic⟩:Gate)))]
  | _=>.no
theorem zNm:zah Tryz.prog 57:=⟨_,rfl,rfl,by kernel_rfl⟩
theorem zSA:Ok Tryz.prog 57 zEM:=zaV zQN zNm λ args K h=>by
  unfold zEM at h
  split at h
  · rename_i zbu zbv zc0 zH4 zmf zic
    have hk:=h
    exact⟨(λ _ _=>[]),(λ _=>false),zNl,q57 (⟨zbu,zbv,zc0⟩:straight) (⟨zH4,zmf,zic⟩:Gate) K hk⟩
  · exact h.elim
end

section
variable [DrawZ]
abbrev T88:Tabs:=(Tabs.nil.addF 57 zEM)
theorem zQO:TabsOk Tryz.prog T88:=(TabsOk.nil.addF zSA)
abbrev G88:Ctrs:=csm T88 (λ _ _=>[]) (λ _=>false)
def zNn:Ann:=⟨8,[(0,zK [1,2] [2]),(1,zK [3] [])],
 [],
 [],
 [],[]⟩
abbrev R88:=Bool
abbrev e88 (r:R88):List PA:=[.one (.bool r)]
section
variable {K:List PA->Prop}{c0:straight}{g:Gate}
def s88 (c0:straight) (g:Gate):Bool :=
  (!(s57 c0 g))
end
theorem q88 (c0:straight) (g:Gate) (K:List PA->Prop) (hk:K (e88 (s88 c0 g))):vcFun Tryz.prog G88 zNn 88 [.agg (enc_48 g),.one (.fp (zaA c0) 0)] K :=
  zaM (by kernel_rfl) hk
def zH5 : List PA → COut
  | [.agg [.int .i64 zla,.int .i64 zc9,.int .i64 zch],.one (.fp [.int .i64 c0_slope,.int .i64 c0_start,.int .i64 c0_den] 0)]=>.tot [.one (.bool (s88 (⟨c0_slope,c0_start,c0_den⟩:straight) (⟨zla,zc9,zch⟩:Gate)))]
  | _=>.no
theorem zNo:zah Tryz.prog 88:=⟨_,rfl,rfl,by kernel_rfl⟩
theorem zS5:Ok Tryz.prog 88 zH5:=zaV zQO zNo λ args K h=>by
  unfold zH5 at h
  split at h
  · rename_i zla zc9 zch c0_slope c0_start c0_den
    have hk:=h
    exact⟨(λ _ _=>[]),(λ _=>false),zNn,q88 (⟨c0_slope,c0_start,c0_den⟩:straight) (⟨zla,zc9,zch⟩:Gate) K hk⟩
  · exact h.elim
end

section
variable [DrawZ]
abbrev T89:Tabs:=(((Tabs.nil.addF 75 zH2).addF 83 zH3).addF 88 zH5)
theorem zQP:TabsOk Tryz.prog T89:=(((TabsOk.nil.addF zS3).addF zS4).addF zS5)
abbrev G89:Ctrs:=csm T89 (λ _ _=>[]) (λ _=>false)
def zH6:Ann:=⟨19,[(0,zK [0,1] []),(1,zK [0,1,7,8] []),(2,zK [0,1,7,8,9] []),(3,zK [0,1,5,7,8] []),(4,zK [0,1,5,7,8,16] []),(5,zK [4] []),(6,zK [0,1,7,8] []),(7,zK [4] [])],
 [(2,zK [0,1,7,8] [])],
 [(5,zK [0,1,5,7,8,16] [])],
 [],[]⟩
abbrev R89:=Int
abbrev e89 (r:R89):List PA:=[.one (.int .i64 r)]
@[irreducible] def z89:=ptF Tryz.prog G89 zH6 Tryz.f89
def zFX (c0:list) (sv0:(Sl Gate)) (zbJ:Int) (zcF:Int) (zem:Nat->List PV):St:=⟨[(0,zP (.sl sv0.len 3 zem)),(1,zP (.fn 75 [] [.fp (zdM c0) 0])),(7,zI zbJ),(8,zI zcF)],[],[]⟩
abbrev zH7 (K:List PA->Prop) (c0:list) (X:St->Prop) (P:(Sl Gate)->Int->Int->Bool) (S:(Sl Gate)->Int->Int->Int):Prop:=∀ ⦃sv0:(Sl Gate)⦄ ⦃zbJ:Int⦄ ⦃zcF:Int⦄ ⦃zem:Nat->List PV⦄,P sv0 zbJ zcF=true->K (e89 (S sv0 zbJ zcF))->zem=zg enc_48 sv0->X (zFX c0 sv0 zbJ zcF zem)
section
variable {K:List PA->Prop}{c0:list}{s:(Sl Gate)}{sv0:(Sl Gate)}{zbJ:Int}{zcF:Int}{zem:Nat->List PV}{X0:St->Prop}{P0:(Sl Gate)->Int->Int->Bool}{S0:(Sl Gate)->Int->Int->Int}{sv1:(Sl Gate)}{iv1:Int}{zib:Int}{zmg:Int}{ze0:Bool}{zmh:Nat->List PV}
def zsb (S0:(Sl Gate)->Int->Int->Int) (c0:list) (sv1:(Sl Gate)) (iv1:Int) (zib:Int) (zmg:Int) (ze0:Bool):Int :=
  (cond ze0
 iv1
 (S0 sv1 zib (w64 (zmg+(1:Int)))))
def zsc (P0:(Sl Gate)->Int->Int->Bool) (c0:list) (sv1:(Sl Gate)) (iv1:Int) (zib:Int) (zmg:Int) (ze0:Bool):Bool :=
  (cond ze0
 true
 (P0 sv1 zib (w64 (zmg+(1:Int)))))
theorem zH8 (hX0:zH7 K c0 X0 P0 S0) (hs:zsc P0 c0 sv1 iv1 zib zmg ze0=true) (hk:K (e89 (zsb S0 c0 sv1 iv1 zib zmg ze0))) (zsd:zmh=zg enc_48 sv1):z89 K [1,0,1,0,0,1,1,0,0,1,1] [X0] ⟨[(0,zP (.sl sv1.len 3 zmh)),(1,zP (.fn 75 [] [.fp (zdM c0) 0])),(5,zI iv1),(7,zI zib),(8,zI zmg),(16,zB ze0)],[],[]⟩:=by subst zsd;exact zaM (by kernel_rfl) (zc hs hk (λ hs hk=>hk) (λ hs hk=>(hX0 hs hk rfl)))
def zo4 (c0:list) (S0:(Sl Gate)->Int->Int->Int) (sv0:(Sl Gate)) (zbJ:Int) (zcF:Int):Int :=
  (cond (decide (zcF < zbJ))
 (zsb S0 c0 sv0 zcF zbJ zcF (s75 c0 (sv0.get zcF.toNat)))
 (-1:Int))
def zo5 (c0:list) (P0:(Sl Gate)->Int->Int->Bool) (sv0:(Sl Gate)) (zbJ:Int) (zcF:Int):Bool :=
  (cond (decide (zcF < zbJ))
 (decide ((0<=zcF/\zcF < (sv0.len:Int))) &&
 (decide ((p75 c0 (sv0.get zcF.toNat)=true)) &&
 (zsc P0 c0 sv0 zcF zbJ zcF (s75 c0 (sv0.get zcF.toNat)))))
 true)
def zo6 (c0:list):Nat->(Sl Gate)->Int->Int->Int:=lpO (λ _ _ _=>default) (zo4 c0)
def zo7 (c0:list):Nat->(Sl Gate)->Int->Int->Bool:=lpO (λ _ _ _=>false) (zo5 c0)
def zyw (c0:list) (sv0:(Sl Gate)) (zbJ:Int) (zcF:Int):Int:=zo6 c0 Fuel sv0 zbJ zcF
def zyx (c0:list) (sv0:(Sl Gate)) (zbJ:Int) (zcF:Int):Bool:=zo7 c0 Fuel sv0 zbJ zcF
theorem zH9 (hs:zyx c0 sv0 zbJ zcF=true) (hk:K (e89 (zyw c0 sv0 zbJ zcF))) (zmi:zem=zg enc_48 sv0):z89 K [1,0,1,0] [] (zFX c0 sv0 zbJ zcF zem) :=
  zl (λ X=>z89 K [1,0,1,0,0] [X]) (by kernel_rfl) λ X0 hX =>
  (show ∀ k, zH7 K c0 X0 (zo7 c0 k) (zo6 c0 k) from zfo _ _ (zo5 c0) (zo4 c0) (zH7 K c0 X0)
 (by intro _ _ _ _ hs;exact absurd hs dqk)
 (by intro P0 S0 hX0 sv0 zbJ zcF zem hs hk zmi;subst zmi;exact hX _ (zaM (by kernel_rfl) (zc hs hk (λ hs hk=>(zaI hs λ hc hs=>And.intro hc (zaI hs λ hc hs=>And.intro (And.intro (zE enc_48 3 c0.Gates.get) hc) (zH8 hX0 hs hk rfl)))) (λ hs hk=>hk))))) _ hs hk zmi
def s89 (c0:list) (s:(Sl Gate)):Int :=
  (zyw c0 s (s.len:Int) (0:Int))
def p89 (c0:list) (s:(Sl Gate)):Bool :=
  (zyx c0 s (s.len:Int) (0:Int))
end
theorem q89 (c0:list) (s:(Sl Gate)) (K:List PA->Prop) (hs:p89 c0 s=true) (hk:K (e89 (s89 c0 s))):vcFun Tryz.prog G89 zH6 89 [.one (.sl s.len 3 (λ i=>enc_48 (s.get i))),.one (.fn 75 [] [.fp (zdM c0) 0])] K :=
  zaM (by kernel_rfl) (zH9 hs hk rfl)
abbrev zSB:Ctrs:=csm T89 (λ _ _=>[]) (λ _=>false)
def zyy:Ann:=⟨19,[(0,zK [0,1] []),(1,zK [0,1,7,8] []),(2,zK [0,1,7,8,9] []),(3,zK [0,1,5,7,8] []),(4,zK [0,1,5,7,8,16] []),(5,zK [4] []),(6,zK [0,1,7,8] []),(7,zK [4] [])],
 [(2,zK [0,1,7,8] [])],
 [(5,zK [0,1,5,7,8,16] [])],
 [],[]⟩
abbrev zS6:=Int
abbrev zQh (r:zS6):List PA:=[.one (.int .i64 r)]
@[irreducible] def z89a:=ptF Tryz.prog zSB zyy Tryz.f89
def zyz (c0:straight) (sv0:(Sl Gate)) (zbJ:Int) (zcF:Int) (zem:Nat->List PV):St:=⟨[(0,zP (.sl sv0.len 3 zem)),(1,zP (.fn 88 [] [.fp (zaA c0) 0])),(7,zI zbJ),(8,zI zcF)],[],[]⟩
abbrev zyA (K:List PA->Prop) (c0:straight) (X:St->Prop) (P:(Sl Gate)->Int->Int->Bool) (S:(Sl Gate)->Int->Int->Int):Prop:=∀ ⦃sv0:(Sl Gate)⦄ ⦃zbJ:Int⦄ ⦃zcF:Int⦄ ⦃zem:Nat->List PV⦄,P sv0 zbJ zcF=true->K (zQh (S sv0 zbJ zcF))->zem=zg enc_48 sv0->X (zyz c0 sv0 zbJ zcF zem)
section
variable {K:List PA->Prop}{c0:straight}{s:(Sl Gate)}{sv0:(Sl Gate)}{zbJ:Int}{zcF:Int}{zem:Nat->List PV}{X0:St->Prop}{P0:(Sl Gate)->Int->Int->Bool}{S0:(Sl Gate)->Int->Int->Int}{sv1:(Sl Gate)}{iv1:Int}{zib:Int}{zmg:Int}{ze0:Bool}{zmh:Nat->List PV}
def zuS (S0:(Sl Gate)->Int->Int->Int) (c0:straight) (sv1:(Sl Gate)) (iv1:Int) (zib:Int) (zmg:Int) (ze0:Bool):Int :=
  (cond ze0
 iv1
 (S0 sv1 zib (w64 (zmg+(1:Int)))))
def zuT (P0:(Sl Gate)->Int->Int->Bool) (c0:straight) (sv1:(Sl Gate)) (iv1:Int) (zib:Int) (zmg:Int) (ze0:Bool):Bool :=
  (cond ze0
 true
 (P0 sv1 zib (w64 (zmg+(1:Int)))))
theorem zEN (hX0:zyA K c0 X0 P0 S0) (hs:zuT P0 c0 sv1 iv1 zib zmg ze0=true) (hk:K (zQh (zuS S0 c0 sv1 iv1 zib zmg ze0))) (zsd:zmh=zg enc_48 sv1):z89a K [1,0,1,0,0,1,1,0,0,1,1] [X0] ⟨[(0,zP (.sl sv1.len 3 zmh)),(1,zP (.fn 88 [] [.fp (zaA c0) 0])),(5,zI iv1),(7,zI zib),(8,zI zmg),(16,zB ze0)],[],[]⟩:=by subst zsd;exact zaM (by kernel_rfl) (zc hs hk (λ hs hk=>hk) (λ hs hk=>(hX0 hs hk rfl)))
def zuU (c0:straight) (S0:(Sl Gate)->Int->Int->Int) (sv0:(Sl Gate)) (zbJ:Int) (zcF:Int):Int :=
  (cond (decide (zcF < zbJ))
 (zuS S0 c0 sv0 zcF zbJ zcF (s88 c0 (sv0.get zcF.toNat)))
 (-1:Int))
def zuV (c0:straight) (P0:(Sl Gate)->Int->Int->Bool) (sv0:(Sl Gate)) (zbJ:Int) (zcF:Int):Bool :=
  (cond (decide (zcF < zbJ))
 (decide ((0<=zcF/\zcF < (sv0.len:Int))) &&
 (zuT P0 c0 sv0 zcF zbJ zcF (s88 c0 (sv0.get zcF.toNat))))
 true)
def zuW (c0:straight):Nat->(Sl Gate)->Int->Int->Int:=lpO (λ _ _ _=>default) (zuU c0)
def zuX (c0:straight):Nat->(Sl Gate)->Int->Int->Bool:=lpO (λ _ _ _=>false) (zuV c0)
def zuY (c0:straight) (sv0:(Sl Gate)) (zbJ:Int) (zcF:Int):Int:=zuW c0 Fuel sv0 zbJ zcF
def zuZ (c0:straight) (sv0:(Sl Gate)) (zbJ:Int) (zcF:Int):Bool:=zuX c0 Fuel sv0 zbJ zcF
theorem zEO (hs:zuZ c0 sv0 zbJ zcF=true) (hk:K (zQh (zuY c0 sv0 zbJ zcF))) (zmi:zem=zg enc_48 sv0):z89a K [1,0,1,0] [] (zyz c0 sv0 zbJ zcF zem) :=
  zl (λ X=>z89a K [1,0,1,0,0] [X]) (by kernel_rfl) λ X0 hX =>
  (show ∀ k, zyA K c0 X0 (zuX c0 k) (zuW c0 k) from zfo _ _ (zuV c0) (zuU c0) (zyA K c0 X0)
 (by intro _ _ _ _ hs;exact absurd hs dqk)
 (by intro P0 S0 hX0 sv0 zbJ zcF zem hs hk zmi;subst zmi;exact hX _ (zaM (by kernel_rfl) (zc hs hk (λ hs hk=>(zaI hs λ hc hs=>And.intro hc (zEN hX0 hs hk rfl))) (λ hs hk=>hk))))) _ hs hk zmi
def zQQ (c0:straight) (s:(Sl Gate)):Int :=
  (zuY c0 s (s.len:Int) (0:Int))
def zQR (c0:straight) (s:(Sl Gate)):Bool :=
  (zuZ c0 s (s.len:Int) (0:Int))
end
theorem zS7 (c0:straight) (s:(Sl Gate)) (K:List PA->Prop) (hs:zQR c0 s=true) (hk:K (zQh (zQQ c0 s))):vcFun Tryz.prog zSB zyy 89 [.one (.sl s.len 3 (λ i=>enc_48 (s.get i))),.one (.fn 88 [] [.fp (zaA c0) 0])] K :=
  zaM (by kernel_rfl) (zEO hs hk rfl)
abbrev zSC:Ctrs:=csm T89 (λ _ _=>[]) (λ _=>false)
def zyB:Ann:=⟨19,[(0,zK [0,1] []),(1,zK [0,1,7,8] []),(2,zK [0,1,7,8,9] []),(3,zK [0,1,5,7,8] []),(4,zK [0,1,5,7,8,16] []),(5,zK [4] []),(6,zK [0,1,7,8] []),(7,zK [4] [])],
 [(2,zK [0,1,7,8] [])],
 [(5,zK [0,1,5,7,8,16] [])],
 [],[]⟩
abbrev zS8:=Int
abbrev zQi (r:zS8):List PA:=[.one (.int .i64 r)]
@[irreducible] def z89b:=ptF Tryz.prog zSC zyB Tryz.f89
def zyC (c0:straight) (sv0:(Sl Gate)) (zbJ:Int) (zcF:Int) (zem:Nat->List PV):St:=⟨[(0,zP (.sl sv0.len 3 zem)),(1,zP (.fn 83 [] [.fp (zaA c0) 0])),(7,zI zbJ),(8,zI zcF)],[],[]⟩
abbrev zyD (K:List PA->Prop) (c0:straight) (X:St->Prop) (P:(Sl Gate)->Int->Int->Bool) (S:(Sl Gate)->Int->Int->Int):Prop:=∀ ⦃sv0:(Sl Gate)⦄ ⦃zbJ:Int⦄ ⦃zcF:Int⦄ ⦃zem:Nat->List PV⦄,P sv0 zbJ zcF=true->K (zQi (S sv0 zbJ zcF))->zem=zg enc_48 sv0->X (zyC c0 sv0 zbJ zcF zem)
section
variable {K:List PA->Prop}{c0:straight}{s:(Sl Gate)}{sv0:(Sl Gate)}{zbJ:Int}{zcF:Int}{zem:Nat->List PV}{X0:St->Prop}{P0:(Sl Gate)->Int->Int->Bool}{S0:(Sl Gate)->Int->Int->Int}{sv1:(Sl Gate)}{iv1:Int}{zib:Int}{zmg:Int}{ze0:Bool}{zmh:Nat->List PV}
def zu0 (S0:(Sl Gate)->Int->Int->Int) (c0:straight) (sv1:(Sl Gate)) (iv1:Int) (zib:Int) (zmg:Int) (ze0:Bool):Int :=
  (cond ze0
 iv1
 (S0 sv1 zib (w64 (zmg+(1:Int)))))
def zu1 (P0:(Sl Gate)->Int->Int->Bool) (c0:straight) (sv1:(Sl Gate)) (iv1:Int) (zib:Int) (zmg:Int) (ze0:Bool):Bool :=
  (cond ze0
 true
 (P0 sv1 zib (w64 (zmg+(1:Int)))))
theorem zEP (hX0:zyD K c0 X0 P0 S0) (hs:zu1 P0 c0 sv1 iv1 zib zmg ze0=true) (hk:K (zQi (zu0 S0 c0 sv1 iv1 zib zmg ze0))) (zsd:zmh=zg enc_48 sv1):z89b K [1,0,1,0,0,1,1,0,0,1,1] [X0] ⟨[(0,zP (.sl sv1.len 3 zmh)),(1,zP (.fn 83 [] [.fp (zaA c0) 0])),(5,zI iv1),(7,zI zib),(8,zI zmg),(16,zB ze0)],[],[]⟩:=by subst zsd;exact zaM (by kernel_rfl) (zc hs hk (λ hs hk=>hk) (λ hs hk=>(hX0 hs hk rfl)))
def zu3 (c0:straight) (S0:(Sl Gate)->Int->Int->Int) (sv0:(Sl Gate)) (zbJ:Int) (zcF:Int):Int :=
  (cond (decide (zcF < zbJ))
 (zu0 S0 c0 sv0 zcF zbJ zcF (s83 c0 (sv0.get zcF.toNat)))
 (-1:Int))
def zu4 (c0:straight) (P0:(Sl Gate)->Int->Int->Bool) (sv0:(Sl Gate)) (zbJ:Int) (zcF:Int):Bool :=
  (cond (decide (zcF < zbJ))
 (decide ((0<=zcF/\zcF < (sv0.len:Int))) &&
 (zu1 P0 c0 sv0 zcF zbJ zcF (s83 c0 (sv0.get zcF.toNat))))
 true)
def zu5 (c0:straight):Nat->(Sl Gate)->Int->Int->Int:=lpO (λ _ _ _=>default) (zu3 c0)
def zu6 (c0:straight):Nat->(Sl Gate)->Int->Int->Bool:=lpO (λ _ _ _=>false) (zu4 c0)
def zu7 (c0:straight) (sv0:(Sl Gate)) (zbJ:Int) (zcF:Int):Int:=zu5 c0 Fuel sv0 zbJ zcF
def zu8 (c0:straight) (sv0:(Sl Gate)) (zbJ:Int) (zcF:Int):Bool:=zu6 c0 Fuel sv0 zbJ zcF
theorem zEQ (hs:zu8 c0 sv0 zbJ zcF=true) (hk:K (zQi (zu7 c0 sv0 zbJ zcF))) (zmi:zem=zg enc_48 sv0):z89b K [1,0,1,0] [] (zyC c0 sv0 zbJ zcF zem) :=
  zl (λ X=>z89b K [1,0,1,0,0] [X]) (by kernel_rfl) λ X0 hX =>
  (show ∀ k, zyD K c0 X0 (zu6 c0 k) (zu5 c0 k) from zfo _ _ (zu4 c0) (zu3 c0) (zyD K c0 X0)
 (by intro _ _ _ _ hs;exact absurd hs dqk)
 (by intro P0 S0 hX0 sv0 zbJ zcF zem hs hk zmi;subst zmi;exact hX _ (zaM (by kernel_rfl) (zc hs hk (λ hs hk=>(zaI hs λ hc hs=>And.intro hc (zEP hX0 hs hk rfl))) (λ hs hk=>hk))))) _ hs hk zmi
def zQS (c0:straight) (s:(Sl Gate)):Int :=
  (zu7 c0 s (s.len:Int) (0:Int))
def zQT (c0:straight) (s:(Sl Gate)):Bool :=
  (zu8 c0 s (s.len:Int) (0:Int))
end
theorem zS9 (c0:straight) (s:(Sl Gate)) (K:List PA->Prop) (hs:zQT c0 s=true) (hk:K (zQi (zQS c0 s))):vcFun Tryz.prog zSC zyB 89 [.one (.sl s.len 3 (λ i=>enc_48 (s.get i))),.one (.fn 83 [] [.fp (zaA c0) 0])] K :=
  zaM (by kernel_rfl) (zEQ hs hk rfl)
def zIa : List PA → COut
  | [.one (.sl zaK zbW zaL),.one (.fn 75 [] [.fp [.sl c0_Gates_n c0_Gates_s c0_Gates_g] 0])]=>.det (IsE enc_48 3 zbW zaL/\IsE enc_48 3 c0_Gates_s c0_Gates_g/\p89 (⟨(⟨c0_Gates_n,zaf c0_Gates_g⟩:(Sl Gate))⟩:list) (⟨zaK,zaf zaL⟩:(Sl Gate))=true) [.one (.int .i64 (s89 (⟨(⟨c0_Gates_n,zaf c0_Gates_g⟩:(Sl Gate))⟩:list) (⟨zaK,zaf zaL⟩:(Sl Gate))))]
  | [.one (.sl zaK zbW zaL),.one (.fn 88 [] [.fp [.int .i64 c0_slope,.int .i64 c0_start,.int .i64 c0_den] 0])]=>.det (IsE enc_48 3 zbW zaL/\zQR (⟨c0_slope,c0_start,c0_den⟩:straight) (⟨zaK,zaf zaL⟩:(Sl Gate))=true) [.one (.int .i64 (zQQ (⟨c0_slope,c0_start,c0_den⟩:straight) (⟨zaK,zaf zaL⟩:(Sl Gate))))]
  | [.one (.sl zaK zbW zaL),.one (.fn 83 [] [.fp [.int .i64 c0_slope,.int .i64 c0_start,.int .i64 c0_den] 0])]=>.det (IsE enc_48 3 zbW zaL/\zQT (⟨c0_slope,c0_start,c0_den⟩:straight) (⟨zaK,zaf zaL⟩:(Sl Gate))=true) [.one (.int .i64 (zQS (⟨c0_slope,c0_start,c0_den⟩:straight) (⟨zaK,zaf zaL⟩:(Sl Gate))))]
  | _=>.no
theorem zNp:zah Tryz.prog 89:=⟨_,rfl,rfl,by kernel_rfl⟩
theorem zTa:Ok Tryz.prog 89 zIa:=zaV zQP zNp λ args K h=>by
  unfold zIa at h
  split at h
  · rename_i zaK zbW zaL c0_Gates_n c0_Gates_s c0_Gates_g
    obtain⟨⟨⟨rfl,zbn,rfl⟩,⟨rfl,c0_Gates_f,rfl⟩,hs⟩,hk⟩:=h
    try rw[zae zbn] at hs
    try rw[zae zbn] at hk
    try rw[zae c0_Gates_f] at hs
    try rw[zae c0_Gates_f] at hk
    exact⟨(λ _ _=>[]),(λ _=>false),zH6,q89 (⟨(⟨c0_Gates_n,c0_Gates_f⟩:(Sl Gate))⟩:list) (⟨zaK,zbn⟩:(Sl Gate)) K hs hk⟩
  · rename_i zaK zbW zaL c0_slope c0_start c0_den
    obtain⟨⟨⟨rfl,zbn,rfl⟩,hs⟩,hk⟩:=h
    try rw[zae zbn] at hs
    try rw[zae zbn] at hk
    exact⟨(λ _ _=>[]),(λ _=>false),zyy,zS7 (⟨c0_slope,c0_start,c0_den⟩:straight) (⟨zaK,zbn⟩:(Sl Gate)) K hs hk⟩
  · rename_i zaK zbW zaL c0_slope c0_start c0_den
    obtain⟨⟨⟨rfl,zbn,rfl⟩,hs⟩,hk⟩:=h
    try rw[zae zbn] at hs
    try rw[zae zbn] at hk
    exact⟨(λ _ _=>[]),(λ _=>false),zyB,zS9 (⟨c0_slope,c0_start,c0_den⟩:straight) (⟨zaK,zbn⟩:(Sl Gate)) K hs hk⟩
  · exact h.elim
end

section
variable [DrawZ]
abbrev T74:Tabs:=(Tabs.nil.addF 89 zIa)
theorem zQU:TabsOk Tryz.prog T74:=(TabsOk.nil.addF zTa)
abbrev G74:Ctrs:=csm T74 (λ _ _=>[]) (λ _=>false)
def zNq:Ann:=⟨9,[(0,zK [0,1] []),(1,zK [4] [])],
 [],
 [],
 [],[]⟩
abbrev R74:=Bool
abbrev e74 (r:R74):List PA:=[.one (.bool r)]
section
variable {K:List PA->Prop}{c0:list}{s:(Sl Gate)}
def s74 (c0:list) (s:(Sl Gate)):Bool :=
  (decide ((s89 c0 s) >= (0:Int)))
def p74 (c0:list) (s:(Sl Gate)):Bool :=
  (decide ((p89 c0 s=true)) &&
 true)
end
theorem q74 (c0:list) (s:(Sl Gate)) (K:List PA->Prop) (hs:p74 c0 s=true) (hk:K (e74 (s74 c0 s))):vcFun Tryz.prog G74 zNq 74 [.one (.sl s.len 3 (λ i=>enc_48 (s.get i))),.one (.fn 75 [] [.fp (zdM c0) 0])] K :=
  zaM (by kernel_rfl) (zaI hs λ hc hs=>And.intro (And.intro (zE enc_48 3 s.get) (And.intro (zE enc_48 3 c0.Gates.get) hc)) hk)
abbrev zTb:Ctrs:=csm T74 (λ _ _=>[]) (λ _=>false)
def zFY:Ann:=⟨9,[(0,zK [0,1] []),(1,zK [4] [])],
 [],
 [],
 [],[]⟩
abbrev zTc:=Bool
abbrev zTd (r:zTc):List PA:=[.one (.bool r)]
section
variable {K:List PA->Prop}{c0:straight}{s:(Sl Gate)}
def zQV (c0:straight) (s:(Sl Gate)):Bool :=
  (decide ((zQQ c0 s) >= (0:Int)))
def zQW (c0:straight) (s:(Sl Gate)):Bool :=
  (decide ((zQR c0 s=true)) &&
 true)
end
theorem zTe (c0:straight) (s:(Sl Gate)) (K:List PA->Prop) (hs:zQW c0 s=true) (hk:K (zTd (zQV c0 s))):vcFun Tryz.prog zTb zFY 74 [.one (.sl s.len 3 (λ i=>enc_48 (s.get i))),.one (.fn 88 [] [.fp (zaA c0) 0])] K :=
  zaM (by kernel_rfl) (zaI hs λ hc hs=>And.intro (And.intro (zE enc_48 3 s.get) hc) hk)
abbrev zTf:Ctrs:=csm T74 (λ _ _=>[]) (λ _=>false)
def zFZ:Ann:=⟨9,[(0,zK [0,1] []),(1,zK [4] [])],
 [],
 [],
 [],[]⟩
abbrev zTg:=Bool
abbrev zTh (r:zTg):List PA:=[.one (.bool r)]
section
variable {K:List PA->Prop}{c0:straight}{s:(Sl Gate)}
def zQX (c0:straight) (s:(Sl Gate)):Bool :=
  (decide ((zQS c0 s) >= (0:Int)))
def zQY (c0:straight) (s:(Sl Gate)):Bool :=
  (decide ((zQT c0 s=true)) &&
 true)
end
theorem zTi (c0:straight) (s:(Sl Gate)) (K:List PA->Prop) (hs:zQY c0 s=true) (hk:K (zTh (zQX c0 s))):vcFun Tryz.prog zTf zFZ 74 [.one (.sl s.len 3 (λ i=>enc_48 (s.get i))),.one (.fn 83 [] [.fp (zaA c0) 0])] K :=
  zaM (by kernel_rfl) (zaI hs λ hc hs=>And.intro (And.intro (zE enc_48 3 s.get) hc) hk)
def zyE : List PA → COut
  | [.one (.sl zaK zbW zaL),.one (.fn 75 [] [.fp [.sl c0_Gates_n c0_Gates_s c0_Gates_g] 0])]=>.det (IsE enc_48 3 zbW zaL/\IsE enc_48 3 c0_Gates_s c0_Gates_g/\p74 (⟨(⟨c0_Gates_n,zaf c0_Gates_g⟩:(Sl Gate))⟩:list) (⟨zaK,zaf zaL⟩:(Sl Gate))=true) [.one (.bool (s74 (⟨(⟨c0_Gates_n,zaf c0_Gates_g⟩:(Sl Gate))⟩:list) (⟨zaK,zaf zaL⟩:(Sl Gate))))]
  | [.one (.sl zaK zbW zaL),.one (.fn 88 [] [.fp [.int .i64 c0_slope,.int .i64 c0_start,.int .i64 c0_den] 0])]=>.det (IsE enc_48 3 zbW zaL/\zQW (⟨c0_slope,c0_start,c0_den⟩:straight) (⟨zaK,zaf zaL⟩:(Sl Gate))=true) [.one (.bool (zQV (⟨c0_slope,c0_start,c0_den⟩:straight) (⟨zaK,zaf zaL⟩:(Sl Gate))))]
  | [.one (.sl zaK zbW zaL),.one (.fn 83 [] [.fp [.int .i64 c0_slope,.int .i64 c0_start,.int .i64 c0_den] 0])]=>.det (IsE enc_48 3 zbW zaL/\zQY (⟨c0_slope,c0_start,c0_den⟩:straight) (⟨zaK,zaf zaL⟩:(Sl Gate))=true) [.one (.bool (zQX (⟨c0_slope,c0_start,c0_den⟩:straight) (⟨zaK,zaf zaL⟩:(Sl Gate))))]
  | _=>.no
theorem zNr:zah Tryz.prog 74:=⟨_,rfl,rfl,by kernel_rfl⟩
theorem zQZ:Ok Tryz.prog 74 zyE:=zaV zQU zNr λ args K h=>by
  unfold zyE at h
  split at h
  · rename_i zaK zbW zaL c0_Gates_n c0_Gates_s c0_Gates_g
    obtain⟨⟨⟨rfl,zbn,rfl⟩,⟨rfl,c0_Gates_f,rfl⟩,hs⟩,hk⟩:=h
    try rw[zae zbn] at hs
    try rw[zae zbn] at hk
    try rw[zae c0_Gates_f] at hs
    try rw[zae c0_Gates_f] at hk
    exact⟨(λ _ _=>[]),(λ _=>false),zNq,q74 (⟨(⟨c0_Gates_n,c0_Gates_f⟩:(Sl Gate))⟩:list) (⟨zaK,zbn⟩:(Sl Gate)) K hs hk⟩
  · rename_i zaK zbW zaL c0_slope c0_start c0_den
    obtain⟨⟨⟨rfl,zbn,rfl⟩,hs⟩,hk⟩:=h
    try rw[zae zbn] at hs
    try rw[zae zbn] at hk
    exact⟨(λ _ _=>[]),(λ _=>false),zFY,zTe (⟨c0_slope,c0_start,c0_den⟩:straight) (⟨zaK,zbn⟩:(Sl Gate)) K hs hk⟩
  · rename_i zaK zbW zaL c0_slope c0_start c0_den
    obtain⟨⟨⟨rfl,zbn,rfl⟩,hs⟩,hk⟩:=h
    try rw[zae zbn] at hs
    try rw[zae zbn] at hk
    exact⟨(λ _ _=>[]),(λ _=>false),zFZ,zTi (⟨c0_slope,c0_start,c0_den⟩:straight) (⟨zaK,zbn⟩:(Sl Gate)) K hs hk⟩
  · exact h.elim
end

abbrev T49:Tabs:=(Tabs.nil.addF 74 zyE)
theorem zQ0:TabsOk Tryz.prog T49:=(TabsOk.nil.addF zQZ)
abbrev G49:Ctrs:=csm T49 (λ _ _=>[]) (λ _=>false)
def zNs:Ann:=⟨8,[(0,zK [1] [1]),(1,zK [2] [])],
 [],
 [],
 [],[]⟩
abbrev R49:=Bool
abbrev e49 (r:R49):List PA:=[.one (.bool r)]
section
variable {K:List PA->Prop}{l_a0:list}
def s49 (l_a0:list):Bool :=
  (!(s74 l_a0 l_a0.Gates))
def p49 (l_a0:list):Bool :=
  (decide ((p74 l_a0 l_a0.Gates=true)) &&
 true)
end
theorem q49 (l_a0:list) (K:List PA->Prop) (hs:p49 l_a0=true) (hk:K (e49 (s49 l_a0))):vcFun Tryz.prog G49 zNs 49 [.agg (zdM l_a0)] K :=
  zaM (by kernel_rfl) (zaI hs λ hc hs=>And.intro (And.intro (zE enc_48 3 l_a0.Gates.get) (And.intro (zE enc_48 3 l_a0.Gates.get) hc)) hk)
def zqB : List PA → COut
  | [.agg [.sl za8 zb9 za9]]=>.det (IsE enc_48 3 zb9 za9/\p49 (⟨(⟨za8,zaf za9⟩:(Sl Gate))⟩:list)=true) [.one (.bool (s49 (⟨(⟨za8,zaf za9⟩:(Sl Gate))⟩:list)))]
  | _=>.no
theorem zNt:zah Tryz.prog 49:=⟨_,rfl,rfl,by kernel_rfl⟩
theorem zMb:Ok Tryz.prog 49 zqB:=zaV zQ0 zNt λ args K h=>by
  unfold zqB at h
  split at h
  · rename_i za8 zb9 za9
    obtain⟨⟨⟨rfl,zbH,rfl⟩,hs⟩,hk⟩:=h
    try rw[zae zbH] at hs
    try rw[zae zbH] at hk
    exact⟨(λ _ _=>[]),(λ _=>false),zNs,q49 (⟨(⟨za8,zbH⟩:(Sl Gate))⟩:list) K hs hk⟩
  · exact h.elim
abbrev T56:Tabs:=Tabs.nil
theorem zQ1:TabsOk Tryz.prog T56:=TabsOk.nil
abbrev G56:Ctrs:=csm T56 (λ _ _=>[]) (λ _=>false)
def zIb:Ann:=⟨4,[(0,zK [1] [1]),(1,zK [2] [])],
 [],
 [],
 [],[]⟩
theorem zIc (l_a0 : list) (K : List PA → Prop) :
  vcFun Tryz.prog G56 zIb 56 [.agg [.sl l_a0.Gates.len 3 (λ i=>enc_48 (l_a0.Gates.get i))]] K =
  (K [.one (.fn 77 [] [.fp (zdM l_a0) 0])]):=by kernel_rfl
theorem q56 (l_a0:list) (K:List PA->Prop) (hk:K [.one (.fn 77 [] [.fp (zdM l_a0) 0])]):vcFun Tryz.prog G56 zIb 56 [.agg [.sl l_a0.Gates.len 3 (λ i=>enc_48 (l_a0.Gates.get i))]] K:=zaM (zIc l_a0 K) hk
def zER : List PA → COut
  | [.agg [.sl za8 zb9 za9]]=>.det (IsE enc_48 3 zb9 za9) [.one (.fn 77 [] [.fp (zdM (⟨(⟨za8,zaf za9⟩:(Sl Gate))⟩:list)) 0])]
  | _=>.no
theorem zNu:zah Tryz.prog 56:=⟨_,rfl,rfl,by kernel_rfl⟩
theorem zSD:Ok Tryz.prog 56 zER:=zaV zQ1 zNu λ args K h=>by
  unfold zER at h
  split at h
  · rename_i za8 zb9 za9
    obtain⟨⟨rfl,zbH,rfl⟩,hk⟩:=h
    try rw[zae zbH] at hk
    exact⟨λ _ _=>[],λ _=>false,zIb,q56 (⟨(⟨za8,zbH⟩:(Sl Gate))⟩:list) K hk⟩
  · exact h.elim
abbrev T73:Tabs:=(Tabs.nil.addF 74 zyE)
theorem zQ2:TabsOk Tryz.prog T73:=(TabsOk.nil.addF zQZ)
abbrev G73:Ctrs:=csm T73 (λ _ _=>[]) (λ _=>false)
def zId:Ann:=⟨11,[(0,zK [2,3] [2,3]),(1,zK [4] [])],
 [],
 [],
 [],[]⟩
abbrev R73:=Bool
abbrev e73 (r:R73):List PA:=[.one (.bool r)]
section
variable {K:List PA->Prop}{s:set}{x:straight}
def s73 (s:set) (x:straight):Bool :=
  (!(zQV x s.list.Gates))
def p73 (s:set) (x:straight):Bool :=
  (decide ((zQW x s.list.Gates=true)) &&
 true)
end
theorem q73 (s:set) (x:straight) (K:List PA->Prop) (hs:p73 s x=true) (hk:K (e73 (s73 s x))):vcFun Tryz.prog G73 zId 73 [.agg (zcv s),.agg (zaA x)] K :=
  zaM (by kernel_rfl) (zaI hs λ hc hs=>And.intro (And.intro (zE enc_48 3 s.list.Gates.get) hc) hk)
def zIe : List PA → COut
  | [.agg [.sl zai zaJ zaj,.sl zat zbd zau],.agg [.int .i64 zci,.int .i64 zcj,.int .i64 zdN]]=>.det (IsE enc_48 3 zaJ zaj/\IsE zaA 3 zbd zau/\p73 (⟨(⟨(⟨zai,zaf zaj⟩:(Sl Gate))⟩:list),(⟨zat,zcA zau⟩:(Sl straight))⟩:set) (⟨zci,zcj,zdN⟩:straight)=true) [.one (.bool (s73 (⟨(⟨(⟨zai,zaf zaj⟩:(Sl Gate))⟩:list),(⟨zat,zcA zau⟩:(Sl straight))⟩:set) (⟨zci,zcj,zdN⟩:straight)))]
  | [.agg [.sl zai zaJ zaj,.nils],.agg [.int .i64 zci,.int .i64 zcj,.int .i64 zdN]]=>.det (IsE enc_48 3 zaJ zaj/\p73 (⟨(⟨(⟨zai,zaf zaj⟩:(Sl Gate))⟩:list),(⟨0,λ _=>default⟩:(Sl straight))⟩:set) (⟨zci,zcj,zdN⟩:straight)=true) [.one (.bool (s73 (⟨(⟨(⟨zai,zaf zaj⟩:(Sl Gate))⟩:list),(⟨0,λ _=>default⟩:(Sl straight))⟩:set) (⟨zci,zcj,zdN⟩:straight)))]
  | _=>.no
theorem zNv:zah Tryz.prog 73:=⟨_,rfl,rfl,by kernel_rfl⟩
theorem zTj:Ok Tryz.prog 73 zIe:=zgQ zQ2 zNv λ args K h=>by
  unfold zIe at h
  split at h
  · rename_i zai zaJ zaj zat zbd zau zci zcj zdN
    obtain⟨⟨⟨rfl,zas,rfl⟩,⟨rfl,zaP,rfl⟩,hs⟩,hk⟩:=h
    try rw[zae zas] at hs
    try rw[zae zas] at hk
    try rw[zbP zaP] at hs
    try rw[zbP zaP] at hk
    exact⟨_,zgx zgP _,(λ _ _=>[]),(λ _=>false),zId,q73 (⟨(⟨(⟨zai,zas⟩:(Sl Gate))⟩:list),(⟨zat,zaP⟩:(Sl straight))⟩:set) (⟨zci,zcj,zdN⟩:straight) (Wk K) hs (zfL hk)⟩
  · rename_i zai zaJ zaj zci zcj zdN
    obtain⟨⟨⟨rfl,zas,rfl⟩,hs⟩,hk⟩:=h
    try rw[zae zas] at hs
    try rw[zae zas] at hk
    exact⟨_,(zfn (.agg (zfn (.rfl _) (zfn (.nil _ _) zma))) (zfn (zgP _) zma)),(λ _ _=>[]),(λ _=>false),zId,q73 (⟨(⟨(⟨zai,zas⟩:(Sl Gate))⟩:list),(⟨0,λ _=>default⟩:(Sl straight))⟩:set) (⟨zci,zcj,zdN⟩:straight) (Wk K) hs (zfL hk)⟩
  · exact h.elim
abbrev T78:Tabs:=Tabs.nil
theorem zQ3:TabsOk Tryz.prog T78:=TabsOk.nil
abbrev G78:Ctrs:=csm T78 (λ _ _=>[]) (λ _=>false)
def zIf:Ann:=⟨30,[(0,zK [0,1,2,3,8] [8]),(1,zK [0,1,2,3,8,11] [8]),(2,zK [0,1,2,3,8] [8]),(3,zK [8] [8])],
 [],
 [(3,zK [0,1,2,3,8] [8])],
 [],[]⟩
abbrev R78:=straight
abbrev e78 (r:R78):List PA:=[.agg [.int .i64 r.slope,.int .i64 r.start,.int .i64 r.den]]
@[irreducible] def z78:=ptF Tryz.prog G78 zIf Tryz.f78
section
variable {K:List PA->Prop}{z:Int}{p:Int}{y_a2:Int}{q:Int}{zv0:Int}{pv0:Int}{yv0:Int}{qv0:Int}
def zo8 (zv0:Int) (pv0:Int) (yv0:Int) (qv0:Int):straight :=
  (⟨(w64 (qv0 - pv0)),(w64 ((w64 (pv0 * yv0)) - (w64 (qv0 * zv0)))),(w64 (yv0 - zv0))⟩:straight)
theorem zyF (hk:K (e78 (zo8 zv0 pv0 yv0 qv0))):z78 K [1,1] [] ⟨[(0,zI zv0),(1,zI pv0),(2,zI yv0),(3,zI qv0),(8,zp 8 0)],[(8,.box 81 (zm (zaA (⟨(0:Int),(0:Int),(0:Int)⟩:straight))))],[]⟩:=zaM (by kernel_rfl) hk
def s78 (z:Int) (p:Int) (y_a2:Int) (q:Int):straight :=
  (cond (decide (z > y_a2))
 (zo8 y_a2 q z p)
 (zo8 z p y_a2 q))
end
theorem q78 (z:Int) (p:Int) (y_a2:Int) (q:Int) (K:List PA->Prop) (hk:K (e78 (s78 z p y_a2 q))):vcFun Tryz.prog G78 zIf 78 [.one (.int .i64 z),.one (.int .i64 p),.one (.int .i64 y_a2),.one (.int .i64 q)] K :=
  zaM (by kernel_rfl) (zt hk (λ hk=>(zyF hk)) (λ hk=>(zyF hk)))
def zIg : List PA → COut
  | [.one (.int .i64 a0),.one (.int .i64 a1),.one (.int .i64 a2),.one (.int .i64 a3)]=>.tot [.agg [.int .i64 ((s78 a0 a1 a2 a3).slope),.int .i64 ((s78 a0 a1 a2 a3).start),.int .i64 ((s78 a0 a1 a2 a3).den)]]
  | _=>.no
theorem zNw:zah Tryz.prog 78:=⟨_,rfl,rfl,by kernel_rfl⟩
theorem zTk:Ok Tryz.prog 78 zIg:=zaV zQ3 zNw λ args K h=>by
  unfold zIg at h
  split at h
  · rename_i a0 a1 a2 a3
    have hk:=h
    exact⟨(λ _ _=>[]),(λ _=>false),zIf,q78 a0 a1 a2 a3 K hk⟩
  · exact h.elim
abbrev T77:Tabs:=(Tabs.nil.addF 78 zIg)
theorem zQ4:TabsOk Tryz.prog T77:=(TabsOk.nil.addF zTk)
abbrev G77:Ctrs:=csm T77 (λ _ _=>[]) (λ _=>false)
def zex:Ann:=⟨64,[(0,zK [0,1,12,13,14] []),(1,zK [0,1,12,13,14,15] []),(2,zK [0,1,3,4,12,13,14] [4]),(3,zK [0,1,4,12,13,14,23,24,25] [4]),(4,zK [0,1,4,12,13,14,23,24,25,26] [4]),(5,zK [0,1,4,6,12,13,14,23,24,25] [4,6]),(6,zK [0,1,4,6,12,13,14,23,24,25,33] [4,6]),(7,zK [0,1,4,6,12,13,14,23,24,25,38,39] [4,6]),(8,zK [0,1,4,6,12,13,14,23,24,25,38,39,40] [4,6]),(9,zK [0,1,4,6,8,12,13,14,23,24,25,38,39] [4,6]),(10,zK [0,1,4,6,8,12,13,14,23,24,25,38,39,46,47] [4,6]),(11,zK [0,1,4,6,8,12,13,14,23,24,25,38,39,46,47,48] [4,6]),(12,zK [0,1,4,6,8,10,12,13,14,23,24,25,38,39,46,47] [4,6]),(13,zK [0,1,4,6,8,12,13,14,23,24,25,38,39,46,47,59] [4,6]),(14,zK [0,1,4,6,8,12,13,14,23,24,25,38,39,46,47] [4,6]),(15,zK [0,1,4,6,12,13,14,23,24,25,38,39] [4,6]),(16,zK [0,1,4,12,13,14,23,24,25] [4]),(17,zK [0,1,12,13,14] [])],
 [(1,zK [0,1,12,13,14] []),(4,⟨[0,1,4,12,13,14,23,24,25],[4],[],[],[],[4],[]⟩)],
 [],
 [(8,3,zK [0,1,4,6,12,13,14,23,24,25,38,39] [4,6]),(11,3,zK [0,1,4,6,8,12,13,14,23,24,25,38,39,46,47] [4,6])],[13]⟩
def zkB (l:Nat) (a:list) (zan:Int):St:=⟨[(0,.one (.c (.p (.yl l)))),(1,.one (.c (.p (.fp (zdM a) 0)))),(12,.one (.c (.p (.sl a.Gates.len 3 (λ i=>enc_48 (a.Gates.get i)))))),(13,.one (.c (.p (.int .i64 (a.Gates.len:Int))))),(14,.one (.c (.p (.int .i64 zan))))],[],[]⟩
def zmj (l:Nat) (ys:List (List PA)) (a:list) (zan:Int):Prop:=vcY Tryz.prog G77 zex l (cdF Tryz.f77 [1,0]) (zej 0 zns) ys false (zkB l a zan)
def zkC (l:Nat) (a:list) (zbe:Int) (zgR:Nat) (zc8:Nat->List PV) (zck:Int) (za4:Int) (zbB:Int) (zbZ:Int) (zb0:Int):St:=⟨[(0,.one (.c (.p (.yl l)))),(1,.one (.c (.p (.fp (zdM a) 0)))),(4,.one (.c (.ptr 4 0))),(12,.one (.c (.p (.sl a.Gates.len 3 (λ i=>enc_48 (a.Gates.get i)))))),(13,.one (.c (.p (.int .i64 (a.Gates.len:Int))))),(14,.one (.c (.p (.int .i64 zbe)))),(23,.one (.c (.p (.sl zgR 3 zc8)))),(24,.one (.c (.p (.int .i64 zck)))),(25,.one (.c (.p (.int .i64 za4))))],[(4,.fbox [.int .i64 zbB,.int .i64 zbZ,.int .i64 zb0])],[]⟩
def zmk (l:Nat) (X0:List (List PA)->Bool->St->Prop) (ys:List (List PA)) (a:list) (zbe:Int) (zgR:Nat) (zc8:Nat->List PV) (zck:Int) (za4:Int) (zbB:Int) (zbZ:Int) (zb0:Int):Prop:=vcY Tryz.prog G77 zex l (cdF Tryz.f77 [1,0,0,1,1,0,0,1,1,0]) (zej 2 (zej 1 (zMo (zMq Tryz.prog zex 17 (vcY Tryz.prog G77 zex l (cdF Tryz.f77 [1,0,0,1,1,1]) (zkQ Tryz.prog zex 1 X0 (zej 0 zns)))) (zkQ Tryz.prog zex 1 X0 (zej 0 zns))))) ys false (zkC l a zbe zgR zc8 zck za4 zbB zbZ zb0)
theorem zIh (l : Nat) (a : list) (ys : List (List PA)) :
  vcIter Tryz.prog G77 zex 77 l [.one (.fp (zdM a) 0)] ys =
  (zmj l ys a (0:Int)):=by kernel_rfl
def zqC (l:Nat) (X0:List (List PA)->Bool->St->Prop) (ys:List (List PA)) (a:list) (zan:Int):Prop :=
  (zc7 (decide (zan < (a.Gates.len : Int)))
 (((0<=zan/\zan < (a.Gates.len:Int))) /\
 (((0<=(w64 (zan+(1:Int)))/\(w64 (zan+(1:Int)))<=(a.Gates.len:Int)/\(a.Gates.len:Int)<=(a.Gates.len:Int))) /\
 (zmk l  X0 ys a zan (((a.Gates.len:Int) - (w64 (zan+(1:Int)))).toNat) (slG (λ i=>enc_48 (a.Gates.get i)) ((w64 (zan+(1:Int))).toNat)) (((a.Gates.len:Int) - (w64 (zan+(1:Int)))).toNat:Int) (0:Int) ((a.Gates.get zan.toNat).Z) ((a.Gates.get zan.toNat).Low) ((a.Gates.get zan.toNat).High))))
 (ys=[]))
theorem zse (l : Nat) (X0 : List (List PA) → Bool → St → Prop) (ys : List (List PA)) (a : list) (zan : Int) :
  vcY Tryz.prog G77 zex l (cd (cdF Tryz.f77 [1,0]) [0]) (zkQ Tryz.prog zex 1 X0 (zej 0 zns)) ys false (zkB l a zan) =
  zqC l X0 ys a zan:=by kernel_rfl
theorem zyG (l : Nat) (ys : List (List PA)) (a : list) (zan : Int)
  (h:∀ X0:List (List PA)->Bool->St->Prop,(∀ (ys:List (List PA)) (zan:Int),zqC l X0 ys a zan->X0 ys false (zkB l a zan))->X0 ys false (zkB l a zan)) :
  zmj l ys a zan:=by
  have e:zmj l ys a zan=(∀ X:List (List PA)->Bool->St->Prop,(∀ ys q s,vcY Tryz.prog G77 zex l (cd (cdF Tryz.f77 [1,0]) [0]) (zkQ Tryz.prog zex 1 X (zej 0 zns)) ys q s->X ys q s)->X ys false (zkB l a zan)):=by kernel_rfl
  refine zaM e ?_
  intro X hX
  refine h X ?_
  intro ys zan hs
  refine hX _ _ _ ?_
  have e2:=zse l X ys a zan
  rw[e2]
  exact hs
def zqD (l:Nat) (X0:List (List PA)->Bool->St->Prop) (X1:List (List PA)->Bool->St->Prop) (ys:List (List PA)) (a:list) (zbe:Int) (zba:(Sl Gate)) (zck:Int) (za4:Int) (zbB:Int) (zbZ:Int) (zb0:Int):Prop :=
  (zc7 (decide (za4 < zck))
 (((0<=za4/\za4 < (zba.len:Int))) /\
 (zc7 (zbB == (zba.get za4.toNat).Z)
 (X1 ys false (zkC l a zbe zba.len (λ i=>enc_48 (zba.get i)) zck (w64 (za4+(1:Int))) zbB zbZ zb0))
 (l=l/\∃ r1,ys=[.agg [.int .i64 ((s78 zbB zbZ ((zba.get za4.toNat).Z) ((zba.get za4.toNat).Low)).slope),.int .i64 ((s78 zbB zbZ ((zba.get za4.toNat).Z) ((zba.get za4.toNat).Low)).start),.int .i64 ((s78 zbB zbZ ((zba.get za4.toNat).Z) ((zba.get za4.toNat).Low)).den)]] :: r1 /\
 (l=l/\∃ r2,r1=[.agg [.int .i64 ((s78 zbB zbZ ((zba.get za4.toNat).Z) ((zba.get za4.toNat).High)).slope),.int .i64 ((s78 zbB zbZ ((zba.get za4.toNat).Z) ((zba.get za4.toNat).High)).start),.int .i64 ((s78 zbB zbZ ((zba.get za4.toNat).Z) ((zba.get za4.toNat).High)).den)]] :: r2 /\
 (l=l/\∃ r3,r2=[.agg [.int .i64 ((s78 zbB zb0 ((zba.get za4.toNat).Z) ((zba.get za4.toNat).Low)).slope),.int .i64 ((s78 zbB zb0 ((zba.get za4.toNat).Z) ((zba.get za4.toNat).Low)).start),.int .i64 ((s78 zbB zb0 ((zba.get za4.toNat).Z) ((zba.get za4.toNat).Low)).den)]] :: r3 /\
 (l=l/\∃ r4,r3=[.agg [.int .i64 ((s78 zbB zb0 ((zba.get za4.toNat).Z) ((zba.get za4.toNat).High)).slope),.int .i64 ((s78 zbB zb0 ((zba.get za4.toNat).Z) ((zba.get za4.toNat).High)).start),.int .i64 ((s78 zbB zb0 ((zba.get za4.toNat).Z) ((zba.get za4.toNat).High)).den)]] :: r4 /\
 (X1 r4 false (zkC l a zbe zba.len (λ i=>enc_48 (zba.get i)) zck (w64 (za4+(1:Int))) zbB zbZ zb0))/\True)/\True)/\True)/\True)))
 (X0 ys false (zkB l a (w64 (zbe+(1:Int))))))
theorem zsf (l : Nat) (X0 : List (List PA) → Bool → St → Prop) (X1 : List (List PA) → Bool → St → Prop) (ys : List (List PA)) (a : list) (zbe : Int) (zba : (Sl Gate)) (zck : Int) (za4 : Int) (zbB : Int) (zbZ : Int) (zb0 : Int) :
  vcY Tryz.prog G77 zex l (cd (cdF Tryz.f77 [1,0,0,1,1,0,0,1,1,0]) [0]) (zkQ Tryz.prog zex 4 X1 (zej 2 (zej 1 (zMo (zMq Tryz.prog zex 17 (vcY Tryz.prog G77 zex l (cdF Tryz.f77 [1,0,0,1,1,1]) (zkQ Tryz.prog zex 1 X0 (zej 0 zns)))) (zkQ Tryz.prog zex 1 X0 (zej 0 zns)))))) ys false (zkC l a zbe zba.len (λ i=>enc_48 (zba.get i)) zck za4 zbB zbZ zb0) =
  zqD l  X0 X1 ys a zbe zba zck za4 zbB zbZ zb0:=by kernel_rfl
theorem zyH (l : Nat) (X0 : List (List PA) → Bool → St → Prop) (ys : List (List PA)) (a : list) (zbe : Int) (zgR : Nat) (zc8 : Nat → List PV) (zck : Int) (za4 : Int) (zbB : Int) (zbZ : Int) (zb0 : Int)
  (h:∀ X1:List (List PA)->Bool->St->Prop,(∀ (ys:List (List PA)) (zbe:Int) (zba:(Sl Gate)) (zck:Int) (za4:Int) (zbB:Int) (zbZ:Int) (zb0:Int),zqD l  X0 X1 ys a zbe zba zck za4 zbB zbZ zb0->X1 ys false (zkC l a zbe zba.len (λ i=>enc_48 (zba.get i)) zck za4 zbB zbZ zb0))->X1 ys false (zkC l a zbe zgR zc8 zck za4 zbB zbZ zb0)) :
  zmk l  X0 ys a zbe zgR zc8 zck za4 zbB zbZ zb0:=by
  have e:zmk l  X0 ys a zbe zgR zc8 zck za4 zbB zbZ zb0=(∀ X:List (List PA)->Bool->St->Prop,(∀ ys q s,vcY Tryz.prog G77 zex l (cd (cdF Tryz.f77 [1,0,0,1,1,0,0,1,1,0]) [0]) (zkQ Tryz.prog zex 4 X (zej 2 (zej 1 (zMo (zMq Tryz.prog zex 17 (vcY Tryz.prog G77 zex l (cdF Tryz.f77 [1,0,0,1,1,1]) (zkQ Tryz.prog zex 1 X0 (zej 0 zns)))) (zkQ Tryz.prog zex 1 X0 (zej 0 zns)))))) ys q s->X ys q s)->X ys false (zkC l a zbe zgR zc8 zck za4 zbB zbZ zb0)):=by kernel_rfl
  refine zaM e ?_
  intro X hX
  refine h X ?_
  intro ys zbe zba zck za4 zbB zbZ zb0 hs
  refine hX _ _ _ ?_
  have e2:=zsf l  X0 X ys a zbe zba zck za4 zbB zbZ zb0
  rw[e2]
  exact hs
attribute [irreducible] zmj zmk
def zid (S0:Int->List straight) (a:list) (S1:Int->(Sl Gate)->Int->Int->Int->Int->Int->List straight) (zbe:Int) (zba:(Sl Gate)) (zck:Int) (za4:Int) (zbB:Int) (zbZ:Int) (zb0:Int):List straight :=
  (cond (decide (za4 < zck))
 (cond (zbB == (zba.get za4.toNat).Z)
 (S1 zbe zba zck (w64 (za4+(1:Int))) zbB zbZ zb0)
 ((s78 zbB zbZ ((zba.get za4.toNat).Z) ((zba.get za4.toNat).Low)) :: ((s78 zbB zbZ ((zba.get za4.toNat).Z) ((zba.get za4.toNat).High)) :: ((s78 zbB zb0 ((zba.get za4.toNat).Z) ((zba.get za4.toNat).Low)) :: ((s78 zbB zb0 ((zba.get za4.toNat).Z) ((zba.get za4.toNat).High)) :: (S1 zbe zba zck (w64 (za4+(1:Int))) zbB zbZ zb0))))))
 (S0 (w64 (zbe+(1:Int)))))
def zie (P0:Int->Bool) (a:list) (P1:Int->(Sl Gate)->Int->Int->Int->Int->Int->Bool) (zbe:Int) (zba:(Sl Gate)) (zck:Int) (za4:Int) (zbB:Int) (zbZ:Int) (zb0:Int):Bool :=
  (cond (decide (za4 < zck))
 (decide ((0<=za4/\za4 < (zba.len:Int))) &&
 (cond (zbB == (zba.get za4.toNat).Z)
 (P1 zbe zba zck (w64 (za4+(1:Int))) zbB zbZ zb0)
 (P1 zbe zba zck (w64 (za4+(1:Int))) zbB zbZ zb0)))
 (P0 (w64 (zbe+(1:Int)))))
def zgb (S0 : Int → List straight) (a : list) : Nat → Int → (Sl Gate) → Int → Int → Int → Int → Int → List straight
  | 0=>λ _ _ _ _ _ _ _=>[]
  | k+1=>zid S0 a (zgb S0 a k)
def zgc (P0 : Int → Bool) (a : list) : Nat → Int → (Sl Gate) → Int → Int → Int → Int → Int → Bool
  | 0=>λ _ _ _ _ _ _ _=>false
  | k+1=>zie P0 a (zgc P0 a k)
def zsg (S0:Int->List straight) (a:list) (zbe:Int) (zba:(Sl Gate)) (zck:Int) (za4:Int) (zbB:Int) (zbZ:Int) (zb0:Int):List straight:=zgb S0 a Fuel zbe zba zck za4 zbB zbZ zb0
def zsh (P0:Int->Bool) (a:list) (zbe:Int) (zba:(Sl Gate)) (zck:Int) (za4:Int) (zbB:Int) (zbZ:Int) (zb0:Int):Bool:=zgc P0 a Fuel zbe zba zck za4 zbB zbZ zb0
theorem zIi (l : Nat) (a : list)
  (X0:List (List PA)->Bool->St->Prop) (P0:Int->Bool) (S0:Int->List straight)
  (hX0:∀ (ys:List (List PA)) (zan:Int),P0 zan=true->ys=(S0 zan).map (λ y=>[.agg (zaA y)])->X0 ys false (zkB l a zan)) (ys:List (List PA)) (zbe:Int) (zba:(Sl Gate)) (zck:Int) (za4:Int) (zbB:Int) (zbZ:Int) (zb0:Int) (zc8:Nat->List PV) (zml:zc8=λ i=>enc_48 (zba.get i)) (hs:zsh P0 a zbe zba zck za4 zbB zbZ zb0=true) (hk:ys=(zsg S0 a zbe zba zck za4 zbB zbZ zb0).map (λ y=>[.agg (zaA y)])):zmk l  X0 ys a zbe zba.len zc8 zck za4 zbB zbZ zb0:=by
  refine zyH l  X0 ys a zbe zba.len zc8 zck za4 zbB zbZ zb0 ?_
  intro X1 hstep
  have key:∀ (k:Nat) (ys:List (List PA)) (zbe:Int) (zba:(Sl Gate)) (zck:Int) (za4:Int) (zbB:Int) (zbZ:Int) (zb0:Int) (zc8:Nat->List PV) (zml:zc8=λ i=>enc_48 (zba.get i)),zgc P0 a k zbe zba zck za4 zbB zbZ zb0=true->ys=(zgb S0 a k zbe zba zck za4 zbB zbZ zb0).map (λ y=>[.agg (zaA y)])->X1 ys false (zkC l a zbe zba.len zc8 zck za4 zbB zbZ zb0):=by
    intro k
    induction k with
    | zero=>intro ys zbe zba zck za4 zbB zbZ zb0 zc8 zml hs;exact absurd hs dqk
    | succ k ih =>
      intro ys zbe zba zck za4 zbB zbZ zb0 zc8 zml hs hk
      subst zml
      refine hstep ys zbe zba zck za4 zbB zbZ zb0 ?_
      have hs:zie P0 a (zgc P0 a k) zbe zba zck za4 zbB zbZ zb0=true:=hs
      have hk:ys=(zid S0 a (zgb S0 a k) zbe zba zck za4 zbB zbZ zb0).map (λ y=>[.agg (zaA y)]):=hk
      unfold zie at hs
      unfold zid at hk
      generalize zgb S0 a k=S1 at hk ih
      generalize zgc P0 a k=P1 at hs ih
      have hX1:=ih
      exact (zoX hs hk
 (λ hs hk => (zaI hs λ hc hs => ⟨hc, (zoX hs hk
 (λ hs hk=>(hX1 _ zbe zba zck (w64 (za4+(1:Int))) zbB zbZ zb0 (λ i=>enc_48 (zba.get i)) rfl hs hk))
 (λ hs hk=>(itY hk rfl (λ _ hk=>(itY hk rfl (λ _ hk=>(itY hk rfl (λ _ hk=>(itY hk rfl (λ _ hk=>(hX1 _ zbe zba zck (w64 (za4+(1:Int))) zbB zbZ zb0 (λ i=>enc_48 (zba.get i)) rfl hs hk)))))))))))⟩))
 (fun hs hk=>(hX0 _ (w64 (zbe+(1:Int))) hs hk)))
  exact key _ _ zbe zba zck za4 zbB zbZ zb0 zc8 zml hs hk
def zif (a:list) (S0:Int->List straight) (zan:Int):List straight :=
  (cond (decide (zan < (a.Gates.len : Int)))
 (zsg S0 a zan (⟨((a.Gates.len:Int) - (w64 (zan+(1:Int)))).toNat,(λ i=>a.Gates.get (i+((w64 (zan+(1:Int))).toNat)))⟩:Sl Gate) (((a.Gates.len:Int) - (w64 (zan+(1:Int)))).toNat:Int) (0:Int) ((a.Gates.get zan.toNat).Z) ((a.Gates.get zan.toNat).Low) ((a.Gates.get zan.toNat).High))
 [])
def zih (a:list) (P0:Int->Bool) (zan:Int):Bool :=
  (cond (decide (zan < (a.Gates.len : Int)))
 (decide ((0<=zan/\zan < (a.Gates.len:Int))) &&
 (decide ((0<=(w64 (zan+(1:Int)))/\(w64 (zan+(1:Int)))<=(a.Gates.len:Int)/\(a.Gates.len:Int)<=(a.Gates.len:Int))) &&
 (zsh P0 a zan (⟨((a.Gates.len:Int) - (w64 (zan+(1:Int)))).toNat,(λ i=>a.Gates.get (i+((w64 (zan+(1:Int))).toNat)))⟩:Sl Gate) (((a.Gates.len:Int) - (w64 (zan+(1:Int)))).toNat:Int) (0:Int) ((a.Gates.get zan.toNat).Z) ((a.Gates.get zan.toNat).Low) ((a.Gates.get zan.toNat).High))))
 true)
def zgd (a : list) : Nat → Int → List straight
  | 0=>λ _=>[]
  | k+1=>zif a (zgd a k)
def zge (a : list) : Nat → Int → Bool
  | 0=>λ _=>false
  | k+1=>zih a (zge a k)
def zyI (a:list) (zan:Int):List straight:=zgd a Fuel zan
def zyJ (a:list) (zan:Int):Bool:=zge a Fuel zan
theorem zIj (l:Nat) (a:list) (ys:List (List PA)) (zan:Int) (hs:zyJ a zan=true) (hk:ys=(zyI a zan).map (λ y=>[.agg (zaA y)])):zmj l ys a zan:=by
  refine zyG l ys a zan ?_
  intro X0 hstep
  have key:∀ (k:Nat) (ys:List (List PA)) (zan:Int),zge a k zan=true->ys=(zgd a k zan).map (λ y=>[.agg (zaA y)])->X0 ys false (zkB l a zan):=by
    intro k
    induction k with
    | zero=>intro ys zan hs;exact absurd hs dqk
    | succ k ih =>
      intro ys zan hs hk
      refine hstep ys zan ?_
      have hs:zih a (zge a k) zan=true:=hs
      have hk:ys=(zif a (zgd a k) zan).map (λ y=>[.agg (zaA y)]):=hk
      unfold zih at hs
      unfold zif at hk
      generalize zgd a k=S0 at hk ih
      generalize zge a k=P0 at hs ih
      have hX0:=ih
      exact (zoX hs hk
 (λ hs hk=>(zaI hs λ hc hs=>⟨hc,(zaI hs λ hc hs=>⟨hc,(zIi l a X0 P0 S0 hX0 _ zan (⟨((a.Gates.len:Int) - (w64 (zan+(1:Int)))).toNat,(λ i=>a.Gates.get (i+((w64 (zan+(1:Int))).toNat)))⟩:Sl Gate) (((a.Gates.len:Int) - (w64 (zan+(1:Int)))).toNat:Int) (0:Int) ((a.Gates.get zan.toNat).Z) ((a.Gates.get zan.toNat).Low) ((a.Gates.get zan.toNat).High) (slG (λ i=>enc_48 (a.Gates.get i)) ((w64 (zan+(1:Int))).toNat)) rfl hs hk)⟩)⟩))
 (fun hs hk=>hk))
  exact key _ _ zan hs hk
def s77 (a:list):List straight :=
  (zyI a (0:Int))
def p77 (a:list):Bool :=
  (zyJ a (0:Int))
theorem q77 (l:Nat) (a:list) (ys:List (List PA)) (hs:p77 a=true) (hk:ys=(s77 a).map (λ y=>[.agg (zaA y)])):vcIter Tryz.prog G77 zex 77 l [.one (.fp (zdM a) 0)] ys:=by
  refine zaM (zIh l a ys) ?_
  unfold p77 at hs
  unfold s77 at hk
  exact (zIj l a _ (0:Int) hs hk)
def zQj : List PA → Option (Prop × List (List PA))
  | [.one (.fp [.sl a_Gates_n a_Gates_s a_Gates_g] 0)]=>some (IsE enc_48 3 a_Gates_s a_Gates_g/\p77 (⟨(⟨a_Gates_n,zaf a_Gates_g⟩:(Sl Gate))⟩:list)=true,(s77 (⟨(⟨a_Gates_n,zaf a_Gates_g⟩:(Sl Gate))⟩:list)).map λ y=>[.agg (zaA y)])
  | _=>none
theorem zNx:zah Tryz.prog 77:=⟨_,rfl,rfl,by kernel_rfl⟩
theorem zSE:zFD Tryz.prog 77 zQj:=zMU zQ4 zNx λ l caps safe ys h hs=>by
  unfold zQj at h
  split at h
  · rename_i a_Gates_n a_Gates_s a_Gates_g
    cases h
    obtain⟨⟨rfl,a_Gates_f,rfl⟩,hs⟩:=hs
    try rw[zae a_Gates_f] at hs
    try rw[zae a_Gates_f]
    exact⟨λ _ _=>[],λ _=>false,zex,q77 l (⟨(⟨a_Gates_n,a_Gates_f⟩:(Sl Gate))⟩:list) _ hs rfl⟩
  · cases h
abbrev T47:Tabs:=(((((Tabs.nil.addF 43 zEL).addF 49 zqB).addF 56 zER).addF 73 zIe).addI 77 zQj)
theorem zQ5:TabsOk Tryz.prog T47:=(((((TabsOk.nil.addF zSz).addF zMb).addF zSD).addF zTj).addI zSE)
abbrev G47:Ctrs:=csm T47 (λ _ _=>[]) (λ l=>Nat.beq l 14)
def zyK:Ann:=⟨39,[(0,zK [0,2] [2]),(1,zK [2,3] [2,3]),(2,zK [2,3,12] [2,3]),(3,zK [2] [2]),(4,zK [2,3,4] [2,3,4,14]),(5,zK [2,3,4,17] [2,3,4,14]),(6,zK [2,3,4,5,17] [2,3,4,5,14,36]),(7,zK [2,3,4,5,6,17] [2,3,4,5,6,14,36]),(8,zK [2,3,4,5,6,17,29] [2,3,4,5,6,14,36]),(9,zK [2,3,4,5,17] [2,3,4,5,14,36]),(10,zK [2,3,4,17] [2,3,4,14,36]),(11,zK [2] [2,36])],
 [(6,⟨[2,3,4,17],[2,3,4,14,36],[],[(3,1,36,81,λ _=>zaA default)],[],[],[]⟩)],
 [(3,zK [2,3,12] [2,3]),(4,zK [2,3] [2,3])],
 [],[]⟩
abbrev R47:=set
abbrev e47 (r:R47):List PA:=[.agg [.sl r.list.Gates.len 3 (λ i=>enc_48 (r.list.Gates.get i)),.sl r.corners.len 3 (λ i=>zaA (r.corners.get i))]]
@[irreducible] def z47:=ptF Tryz.prog G47 zyK Tryz.f47
@[irreducible] def x47:=exF Tryz.prog G47 zyK Tryz.f47
@[irreducible] def y47:=rnF Tryz.prog G47 zyK Tryz.f47
def zyL (zaa:(Sl Gate)) (zcO:(Sl straight)) (zb2:Nat) (zbM:(List Int->Option (List Int))) (zfw:Nat->List PV):St:=⟨[(2,zp 2 0),(3,zp 3 0),(4,zp 4 0),(17,zP (.fn 77 [] [.fp (zdM (⟨zaa⟩:list)) 0]))],[(2,.box 75 [.p (.nils),.p (.nils)]),(3,.box 75 [.p (.sl zaa.len 3 (λ i=>enc_48 (zaa.get i))),.vec 36]),(4,.box 112 [.mo 14]),(14,.mo 42 4 (true,4,false,[none]) zb2 zbM),(36,.vec 81 3 24 zcO.len zfw)],[]⟩
abbrev zNy (K:List PA->Prop) (zaa:(Sl Gate)) (X:St->Prop) (P:(Sl straight)->Nat->(List Int->Option (List Int))->Bool) (S:(Sl straight)->Nat->(List Int->Option (List Int))->set):Prop:=∀ ⦃zcO:(Sl straight)⦄ ⦃zb2:Nat⦄ ⦃zbM:(List Int->Option (List Int))⦄ ⦃zfw:Nat->List PV⦄,P zcO zb2 zbM=true->K (e47 (S zcO zb2 zbM))->zfw=zg zaA zcO->X (zyL zaa zcO zb2 zbM zfw)
section
variable {K:List PA->Prop}{zaa:(Sl Gate)}{zaW:Bool}{zcO:(Sl straight)}{zb2:Nat}{zbM:(List Int->Option (List Int))}{zfw:Nat->List PV}
def zIk (zaa:(Sl Gate)) (zcO:(Sl straight)) (zb2:Nat) (zbM:(List Int->Option (List Int))):set :=
  (⟨(⟨zaa⟩:list),zcO⟩:set)
def zIl (zaa:(Sl Gate)) (zcO:(Sl straight)) (zb2:Nat) (zbM:(List Int->Option (List Int))):Bool :=
  true
def zyM (zaa:(Sl Gate)) (y2:straight) (S2:(Sl straight)->Nat->(List Int->Option (List Int))->set) (zcO:(Sl straight)) (zb2:Nat) (zbM:(List Int->Option (List Int))):set :=
  (cond (!((zfT (zbM [(s43 y2).Slope.Num, (s43 y2).Slope.Den, (s43 y2).Start.Num, (s43 y2).Start.Den]) 0) != 0))
 (cond (s73 (⟨(⟨zaa⟩ : list), zcO⟩ : set) y2)
 (S2 (⟨(zcO.len+1),(zfe zcO.len zcO.get (λ _=>y2))⟩:Sl straight) (addN (zbM [(s43 y2).Slope.Num,(s43 y2).Slope.Den,(s43 y2).Start.Num,(s43 y2).Start.Den]) zb2) (zhO [(s43 y2).Slope.Num,(s43 y2).Slope.Den,(s43 y2).Start.Num,(s43 y2).Start.Den] [1] zbM))
 (S2 zcO zb2 zbM))
 (S2 zcO zb2 zbM))
def zyN (zaa:(Sl Gate)) (y2:straight) (P2:(Sl straight)->Nat->(List Int->Option (List Int))->Bool) (zcO:(Sl straight)) (zb2:Nat) (zbM:(List Int->Option (List Int))):Bool :=
  (decide ((p43 y2=true)) &&
 (cond (!((zfT (zbM [(s43 y2).Slope.Num, (s43 y2).Slope.Den, (s43 y2).Start.Num, (s43 y2).Start.Den]) 0) != 0))
 (decide ((p73 (⟨(⟨zaa⟩:list),zcO⟩:set) y2=true)) &&
 (cond (s73 (⟨(⟨zaa⟩ : list), zcO⟩ : set) y2)
 (decide (((zcO.len+1) * 24<=140737488355328/\zcO.len+1<=9223372036854775807)) &&
 (P2 (⟨(zcO.len+1),(zfe zcO.len zcO.get (λ _=>y2))⟩:Sl straight) (addN (zbM [(s43 y2).Slope.Num,(s43 y2).Slope.Den,(s43 y2).Start.Num,(s43 y2).Start.Den]) zb2) (zhO [(s43 y2).Slope.Num,(s43 y2).Slope.Den,(s43 y2).Start.Num,(s43 y2).Start.Den] [1] zbM)))
 (P2 zcO zb2 zbM)))
 (P2 zcO zb2 zbM)))
def zyO (zaa:(Sl Gate)):List straight->(Sl straight)->Nat->(List Int->Option (List Int))->set:=lpR (zIk zaa) (zyM zaa)
def zyP (zaa:(Sl Gate)):List straight->(Sl straight)->Nat->(List Int->Option (List Int))->Bool:=lpR (zIl zaa) (zyN zaa)
def zyQ (zaa:(Sl Gate)) (zcO:(Sl straight)) (zb2:Nat) (zbM:(List Int->Option (List Int))):set:=zyO zaa (s77 (⟨zaa⟩:list)) zcO zb2 zbM
def zyR (zaa:(Sl Gate)) (zcO:(Sl straight)) (zb2:Nat) (zbM:(List Int->Option (List Int))):Bool:=decide ((p77 (⟨zaa⟩:list)=true)) && zyP zaa (s77 (⟨zaa⟩:list)) zcO zb2 zbM
theorem zIm (hs:zyR zaa zcO zb2 zbM=true) (hk:K (e47 (zyQ zaa zcO zb2 zbM))) (zmm:zfw=zg zaA zcO):z47 (Wk K) [1,1,1,1,0,1,0] [] (zyL zaa zcO zb2 zbM zfw) :=
  zaI hs λ hc hs=>zr (enc:=(λ y:straight=>[.agg (zaA y)])) (ys:=s77 (⟨zaa⟩:list)) (g:=(zyL zaa zcO zb2 zbM zfw)) (x47 (Wk K) [1,1,1,1,0,1,0] []) (y47 (Wk K) [1,1,1,1,0,1,0] []) (by kernel_rfl) (And.intro (zE enc_48 3 ((⟨zaa⟩:list).Gates.get)) hc) λ X2 hE hR =>
  (show ∀ l : List straight, zNy K zaa (X2 (l.map (λ y : straight => [.agg (zaA y)]))) (zyP zaa l) (zyO zaa l) from zri (X := X2) (enc := (λ y : straight => [.agg (zaA y)])) _ _ (zyN zaa) (zyM zaa) (λ Z P S => zNy K zaa Z P S)
 (by intro zcO zb2 zbM zfw hs hk zmm;subst zmm;exact hE _ (zaM (by kernel_rfl) ((zfL hk):Wk K [.agg [.sl zaa.len 3 (λ i=>enc_48 (zaa.get i)),.sl zcO.len 3 (λ i=>zaA (zcO.get i))]])))
 (by intro y2 rest P2 S2 hX2 zcO zb2 zbM zfw hs hk zmm;subst zmm;exact hR _ rest _ (zaM (by kernel_rfl) (zaI hs λ hc hs=>And.intro hc (zc hs hk (λ hs hk=>(zaI hs λ hc hs=>And.intro (And.intro (zE enc_48 3 zaa.get) (And.intro (zE zaA 3 zcO.get) hc)) (zc hs hk (λ hs hk=>(zaI hs λ hc hs=>And.intro hc (hX2 hs hk (zfm (enc:=zaA) (f:=zcO.get) (h:=(λ _=>y2)) rfl rfl)))) (λ hs hk=>(hX2 hs hk rfl))))) (λ hs hk=>(hX2 hs hk rfl))))))) _ hs hk zmm
def zyS (zaa:(Sl Gate)):set :=
  (zyQ zaa (⟨0,(λ _=>default)⟩:Sl straight) 0 (λ _=>none))
def zyT (zaa:(Sl Gate)):Bool :=
  (zyR zaa (⟨0,(λ _=>default)⟩:Sl straight) 0 (λ _=>none))
theorem zIn (hs:zyT zaa=true) (hk:K (e47 (zyS zaa))):z47 (Wk K) [1,1,1] [] ⟨[(2,zp 2 0),(3,zp 3 0)],[(2,.box 75 [.p (.nils),.p (.nils)]),(3,.box 75 [.p (.sl zaa.len 3 (λ i=>enc_48 (zaa.get i))),.p (.nils)])],[]⟩:=zaM (by kernel_rfl) (And.intro (zE enc_48 3 zaa.get) (zIm hs hk rfl))
def zyU (zaa:(Sl Gate)) (zaW:Bool):set :=
  (cond zaW
 (⟨(⟨zaa⟩:list),(⟨0,λ _=>default⟩:(Sl straight))⟩:set)
 (zyS zaa))
def zyV (zaa:(Sl Gate)) (zaW:Bool):Bool :=
  (cond zaW
 true
 (zyT zaa))
theorem zIo (hs:zyV zaa zaW=true) (hk:K (e47 (zyU zaa zaW))):z47 (Wk K) [1,1,0,1] [] ⟨[(2,zp 2 0),(3,zp 3 0),(12,zB zaW)],[(2,.box 75 [.p (.nils),.p (.nils)]),(3,.box 75 [.p (.sl zaa.len 3 (λ i=>enc_48 (zaa.get i))),.p (.nils)])],[]⟩:=zaM (by kernel_rfl) (zc hs hk (λ hs hk=>((wk hk (zfn (.agg (zfn (.rfl _) (zfn (.nil _ _) zma))) zma)):Wk K [.agg [.sl zaa.len 3 (λ i=>enc_48 (zaa.get i)),.nils]])) (λ hs hk=>(zIn hs hk)))
def s47 (zaa:(Sl Gate)):set :=
  (zyU zaa (s49 (⟨zaa⟩:list)))
def p47 (zaa:(Sl Gate)):Bool :=
  (decide ((p49 (⟨zaa⟩:list)=true)) &&
 (zyV zaa (s49 (⟨zaa⟩:list))))
end
theorem q47 (zaa:(Sl Gate)) (K:List PA->Prop) (hs:p47 zaa=true) (hk:K (e47 (s47 zaa))):vcFun Tryz.prog G47 zyK 47 [.one (.sl zaa.len 3 (λ i=>enc_48 (zaa.get i)))] (Wk K) :=
  zaM (by kernel_rfl) (zaI hs λ hc hs=>And.intro (And.intro (zE enc_48 3 zaa.get) hc) (zIo hs hk))
def zyW : List PA → COut
  | [.one (.sl zaK zbW zaL)]=>.det (IsE enc_48 3 zbW zaL/\p47 (⟨zaK,zaf zaL⟩:(Sl Gate))=true) [.agg [.sl ((s47 (⟨zaK,zaf zaL⟩:(Sl Gate))).list.Gates.len) 3 (λ i=>enc_48 ((s47 (⟨zaK,zaf zaL⟩:(Sl Gate))).list.Gates.get i)),.sl ((s47 (⟨zaK,zaf zaL⟩:(Sl Gate))).corners.len) 3 (λ i=>zaA ((s47 (⟨zaK,zaf zaL⟩:(Sl Gate))).corners.get i))]]
  | _=>.no
theorem zNz:zah Tryz.prog 47:=⟨_,rfl,rfl,by kernel_rfl⟩
theorem zQ6:Ok Tryz.prog 47 zyW:=zgQ zQ5 zNz λ args K h=>by
  unfold zyW at h
  split at h
  · rename_i zaK zbW zaL
    obtain⟨⟨⟨rfl,zbn,rfl⟩,hs⟩,hk⟩:=h
    try rw[zae zbn] at hs
    try rw[zae zbn] at hk
    exact⟨_,zgx zgP _,(λ _ _=>[]),(λ l=>Nat.beq l 14),zyK,q47 (⟨zaK,zbn⟩:(Sl Gate)) K hs hk⟩
  · exact h.elim
abbrev T69:Tabs:=Tabs.nil
theorem zQ7:TabsOk Tryz.prog T69:=TabsOk.nil
abbrev G69:Ctrs:=csm T69 (λ _ _=>[]) (λ _=>false)
def zIp:Ann:=⟨38,[(0,zK [1,2] [1,2]),(1,zK [1,2,3] [1,2,3]),(2,zK [2,3,18,19,20] [2,3]),(3,zK [2,3,18,19,20,21] [2,3]),(4,zK [2,3,5,18,19,20] [2,3,5]),(5,zK [2,3,18,19,20] [2,3]),(6,zK [2,3,18,19,20] [2,3]),(7,zK [2] [2])],
 [(3,zK [2,3,18,19,20] [2,3])],
 [],
 [],[]⟩
abbrev R69:=Span
abbrev e69 (r:R69):List PA:=[.agg [.int .i64 r.Low,.int .i64 r.High]]
@[irreducible] def z69:=ptF Tryz.prog G69 zIp Tryz.f69
def zF0 (l_a0:list) (zdF:Int) (zaB:Int) (zaC:Int):St:=⟨[(2,zp 2 0),(3,zp 3 0),(18,zS enc_48 3 l_a0.Gates),(19,zI (l_a0.Gates.len:Int)),(20,zI zdF)],[(2,.box 107 (zm (zyq (⟨(0:Int),(0:Int)⟩:Span)))),(3,.box 107 (zm (zyq (⟨zaB,zaC⟩:Span))))],[]⟩
abbrev zNA (K:List PA->Prop) (l_a0:list) (X:St->Prop) (P:Int->Int->Int->Bool) (S:Int->Int->Int->Span):Prop:=∀ ⦃zdF:Int⦄ ⦃zaB:Int⦄ ⦃zaC:Int⦄,P zdF zaB zaC=true->K (e69 (S zdF zaB zaC))->X (zF0 l_a0 zdF zaB zaC)
section
variable {K:List PA->Prop}{l_a0:list}{zdF:Int}{zaB:Int}{zaC:Int}{X0:St->Prop}{P0:Int->Int->Int->Bool}{S0:Int->Int->Int->Span}
def zyX (l_a0:list) (S0:Int->Int->Int->Span) (zdF:Int) (zaB:Int) (zaC:Int):Span :=
  (cond (decide (zdF < (l_a0.Gates.len : Int)))
 (S0 (w64 (zdF+(1:Int))) (if (l_a0.Gates.get zdF.toNat).Low > zaB then (l_a0.Gates.get zdF.toNat).Low else zaB) (if (l_a0.Gates.get zdF.toNat).High < zaC then (l_a0.Gates.get zdF.toNat).High else zaC))
 (⟨zaB,zaC⟩:Span))
def zyY (l_a0:list) (P0:Int->Int->Int->Bool) (zdF:Int) (zaB:Int) (zaC:Int):Bool :=
  (cond (decide (zdF < (l_a0.Gates.len : Int)))
 (decide ((0<=zdF/\zdF < (l_a0.Gates.len:Int))) &&
 (P0 (w64 (zdF+(1:Int))) (if (l_a0.Gates.get zdF.toNat).Low > zaB then (l_a0.Gates.get zdF.toNat).Low else zaB) (if (l_a0.Gates.get zdF.toNat).High < zaC then (l_a0.Gates.get zdF.toNat).High else zaC)))
 true)
def zyZ (l_a0:list):Nat->Int->Int->Int->Span:=lpO (λ _ _ _=>default) (zyX l_a0)
def zy0 (l_a0:list):Nat->Int->Int->Int->Bool:=lpO (λ _ _ _=>false) (zyY l_a0)
def zy1 (l_a0:list) (zdF:Int) (zaB:Int) (zaC:Int):Span:=zyZ l_a0 Fuel zdF zaB zaC
def zy2 (l_a0:list) (zdF:Int) (zaB:Int) (zaC:Int):Bool:=zy0 l_a0 Fuel zdF zaB zaC
theorem zIq (hs:zy2 l_a0 zdF zaB zaC=true) (hk:K (e69 (zy1 l_a0 zdF zaB zaC))):z69 K [1,1,0,1,0] [] (zF0 l_a0 zdF zaB zaC) :=
  zl (λ X=>z69 K [1,1,0,1,0,0] [X]) (by kernel_rfl) λ X0 hX =>
  (show ∀ k, zNA K l_a0 X0 (zy0 l_a0 k) (zyZ l_a0 k) from zfo _ _ (zyY l_a0) (zyX l_a0) (zNA K l_a0 X0)
 (by intro _ _ _ hs;exact absurd hs dqk)
 (by intro P0 S0 hX0 zdF zaB zaC hs hk;exact hX _ (zaM (by kernel_rfl) (zc hs hk (λ hs hk=>(zaI hs λ hc hs=>And.intro hc (hX0 hs hk))) (λ hs hk=>hk))))) _ hs hk
def s69 (l_a0:list):Span :=
  (zy1 l_a0 (0:Int) ((l_a0.Gates.get 0).Low) ((l_a0.Gates.get 0).High))
def p69 (l_a0:list):Bool :=
  (decide ((0<=(0:Int)/\(0:Int) < (l_a0.Gates.len:Int))) &&
 (decide ((0<=(0:Int)/\(0:Int) < (l_a0.Gates.len:Int))) &&
 (zy2 l_a0 (0:Int) ((l_a0.Gates.get 0).Low) ((l_a0.Gates.get 0).High))))
end
theorem q69 (l_a0:list) (K:List PA->Prop) (hs:p69 l_a0=true) (hk:K (e69 (s69 l_a0))):vcFun Tryz.prog G69 zIp 69 [.agg (zdM l_a0)] K :=
  zaM (by kernel_rfl) (zaI hs λ hc hs=>And.intro hc (zaI hs λ hc hs=>And.intro hc (zIq hs hk)))
def zES : List PA → COut
  | [.agg [.sl za8 zb9 za9]]=>.det (IsE enc_48 3 zb9 za9/\p69 (⟨(⟨za8,zaf za9⟩:(Sl Gate))⟩:list)=true) [.agg [.int .i64 ((s69 (⟨(⟨za8,zaf za9⟩:(Sl Gate))⟩:list)).Low),.int .i64 ((s69 (⟨(⟨za8,zaf za9⟩:(Sl Gate))⟩:list)).High)]]
  | _=>.no
theorem zNB:zah Tryz.prog 69:=⟨_,rfl,rfl,by kernel_rfl⟩
theorem zSF:Ok Tryz.prog 69 zES:=zaV zQ7 zNB λ args K h=>by
  unfold zES at h
  split at h
  · rename_i za8 zb9 za9
    obtain⟨⟨⟨rfl,zbH,rfl⟩,hs⟩,hk⟩:=h
    try rw[zae zbH] at hs
    try rw[zae zbH] at hk
    exact⟨(λ _ _=>[]),(λ _=>false),zIp,q69 (⟨(⟨za8,zbH⟩:(Sl Gate))⟩:list) K hs hk⟩
  · exact h.elim
abbrev T48:Tabs:=((Tabs.nil.addF 49 zqB).addF 69 zES)
theorem zQ8:TabsOk Tryz.prog T48:=((TabsOk.nil.addF zMb).addF zSF)
abbrev G48:Ctrs:=csm T48 (λ _ _=>[]) (λ _=>false)
def zNC:Ann:=⟨19,[(0,zK [1] [1]),(1,zK [1,3] [1,3]),(2,zK [1,3,9] [1,3]),(3,zK [2] []),(4,zK [2] [])],
 [],
 [],
 [],[]⟩
abbrev R48:=Bool
abbrev e48 (r:R48):List PA:=[.one (.bool r)]
section
variable {K:List PA->Prop}{s:set}
def s48 (s:set):Bool :=
  (cond (s49 s.list)
 (decide ((s69 s.list).Low<=(s69 s.list).High))
 (decide ((s.corners.len:Int) > (0:Int))))
def p48 (s:set):Bool :=
  (decide ((p69 s.list=true)) &&
 (decide ((p49 s.list=true)) &&
 true))
end
theorem q48 (s:set) (K:List PA->Prop) (hs:p48 s=true) (hk:K (e48 (s48 s))):vcFun Tryz.prog G48 zNC 48 [.agg (zcv s)] K :=
  zaM (by kernel_rfl) (zaI hs λ hc hs=>And.intro (And.intro (zE enc_48 3 s.list.Gates.get) hc) (zaI hs λ hc hs=>And.intro (And.intro (zE enc_48 3 s.list.Gates.get) hc) (zt hk (λ hk=>hk) (λ hk=>hk))))
def zy3 : List PA → COut
  | [.agg [.sl zai zaJ zaj,.sl zat zbd zau]]=>.det (IsE enc_48 3 zaJ zaj/\IsE zaA 3 zbd zau/\p48 (⟨(⟨(⟨zai,zaf zaj⟩:(Sl Gate))⟩:list),(⟨zat,zcA zau⟩:(Sl straight))⟩:set)=true) [.one (.bool (s48 (⟨(⟨(⟨zai,zaf zaj⟩:(Sl Gate))⟩:list),(⟨zat,zcA zau⟩:(Sl straight))⟩:set)))]
  | _=>.no
theorem zND:zah Tryz.prog 48:=⟨_,rfl,rfl,by kernel_rfl⟩
theorem zQ9:Ok Tryz.prog 48 zy3:=zaV zQ8 zND λ args K h=>by
  unfold zy3 at h
  split at h
  · rename_i zai zaJ zaj zat zbd zau
    obtain⟨⟨⟨rfl,zas,rfl⟩,⟨rfl,zaP,rfl⟩,hs⟩,hk⟩:=h
    try rw[zae zas] at hs
    try rw[zae zas] at hk
    try rw[zbP zaP] at hs
    try rw[zbP zaP] at hk
    exact⟨(λ _ _=>[]),(λ _=>false),zNC,q48 (⟨(⟨(⟨zai,zas⟩:(Sl Gate))⟩:list),(⟨zat,zaP⟩:(Sl straight))⟩:set) K hs hk⟩
  · exact h.elim
abbrev T39:Tabs:=((Tabs.nil.addF 47 zyW).addF 48 zy3)
theorem zRa:TabsOk Tryz.prog T39:=((TabsOk.nil.addF zQ6).addF zQ9)
abbrev G39:Ctrs:=csm T39 (λ _ _=>[]) (λ _=>false)
def zIr:Ann:=⟨25,[(0,zK [0,1] []),(1,zK [0,1,5] []),(2,zK [0,5,8,9,10] []),(3,zK [0,5,8,9,10,11] [20]),(4,zK [0,5,7,8,9,10] [20]),(5,zK [0,5,8,9,10] [20]),(6,zK [0,5,8,9,10] [20]),(7,zK [4] [])],
 [(3,⟨[0,5,8,9,10],[20],[(5,20,48,λ _=>enc_48 default)],[],[],[],[]⟩)],
 [],
 [],[]⟩
abbrev R39:=Bool
abbrev e39 (r:R39):List PA:=[.one (.bool r)]
@[irreducible] def z39:=ptF Tryz.prog G39 zIr Tryz.f39
def zF1 (zaa:(Sl Gate)) (l_a1:(Sl Int)) (zct:Int) (zdm:(Sl Gate)) (zgS:Nat->List PV):St:=⟨[(0,zS enc_48 3 zaa),(5,zv 20),(8,zS zam 1 l_a1),(9,zI (l_a1.len:Int)),(10,zI zct)],[(20,.vec 48 3 24 zdm.len zgS)],[]⟩
abbrev zNE (K:List PA->Prop) (zaa:(Sl Gate)) (l_a1:(Sl Int)) (X:St->Prop) (P:Int->(Sl Gate)->Bool) (S:Int->(Sl Gate)->Bool):Prop:=∀ ⦃zct:Int⦄ ⦃zdm:(Sl Gate)⦄ ⦃zgS:Nat->List PV⦄,P zct zdm=true->K (e39 (S zct zdm))->zgS=zg enc_48 zdm->X (zF1 zaa l_a1 zct zdm zgS)
section
variable {K:List PA->Prop}{zaa:(Sl Gate)}{l_a1:(Sl Int)}{zct:Int}{zdm:(Sl Gate)}{zgS:Nat->List PV}{X0:St->Prop}{P0:Int->(Sl Gate)->Bool}{S0:Int->(Sl Gate)->Bool}
def zy4 (zaa:(Sl Gate)) (l_a1:(Sl Int)) (S0:Int->(Sl Gate)->Bool) (zct:Int) (zdm:(Sl Gate)):Bool :=
  (cond (decide (zct < (l_a1.len : Int)))
 (S0 (w64 (zct+(1:Int))) (⟨(zdm.len+1),(zfe zdm.len zdm.get (λ _=>(zaa.get ((l_a1.get zct.toNat).toNat))))⟩:Sl Gate))
 (s48 (s47 zdm)))
def zy5 (zaa:(Sl Gate)) (l_a1:(Sl Int)) (P0:Int->(Sl Gate)->Bool) (zct:Int) (zdm:(Sl Gate)):Bool :=
  (cond (decide (zct < (l_a1.len : Int)))
 (decide ((0<=zct/\zct < (l_a1.len:Int))) &&
 (decide ((0<=(l_a1.get zct.toNat)/\(l_a1.get zct.toNat) < (zaa.len:Int))) &&
 (decide (((zdm.len+1) * 24<=140737488355328/\zdm.len+1<=9223372036854775807)) &&
 (P0 (w64 (zct+(1:Int))) (⟨(zdm.len+1),(zfe zdm.len zdm.get (λ _=>(zaa.get ((l_a1.get zct.toNat).toNat))))⟩:Sl Gate)))))
 (decide ((p47 zdm=true)) &&
 (decide ((p48 (s47 zdm)=true)) &&
 true)))
def zy6 (zaa:(Sl Gate)) (l_a1:(Sl Int)):Nat->Int->(Sl Gate)->Bool:=lpO (λ _ _=>default) (zy4 zaa l_a1)
def zy7 (zaa:(Sl Gate)) (l_a1:(Sl Int)):Nat->Int->(Sl Gate)->Bool:=lpO (λ _ _=>false) (zy5 zaa l_a1)
def zy8 (zaa:(Sl Gate)) (l_a1:(Sl Int)) (zct:Int) (zdm:(Sl Gate)):Bool:=zy6 zaa l_a1 Fuel zct zdm
def zy9 (zaa:(Sl Gate)) (l_a1:(Sl Int)) (zct:Int) (zdm:(Sl Gate)):Bool:=zy7 zaa l_a1 Fuel zct zdm
theorem zIs (hs:zy9 zaa l_a1 zct zdm=true) (hk:K (e39 (zy8 zaa l_a1 zct zdm))) (zsi:zgS=zg enc_48 zdm):z39 K [1,1,0,1,0] [] (zF1 zaa l_a1 zct zdm zgS) :=
  zl (λ X=>z39 K [1,1,0,1,0,0] [X]) (by kernel_rfl) λ X0 hX =>
  (show ∀ k, zNE K zaa l_a1 X0 (zy7 zaa l_a1 k) (zy6 zaa l_a1 k) from zfo _ _ (zy5 zaa l_a1) (zy4 zaa l_a1) (zNE K zaa l_a1 X0)
 (by intro _ _ _ hs;exact absurd hs dqk)
 (by intro P0 S0 hX0 zct zdm zgS hs hk zsi;subst zsi;exact hX _ (zaM (by kernel_rfl) (zc hs hk (λ hs hk=>(zaI hs λ hc hs=>And.intro hc (zaI hs λ hc hs=>And.intro hc (zaI hs λ hc hs=>And.intro hc (hX0 hs hk (zfm (enc:=enc_48) (f:=zdm.get) (h:=(λ _=>(zaa.get ((l_a1.get zct.toNat).toNat)))) rfl rfl)))))) (λ hs hk=>(zaI hs λ hc hs=>And.intro (And.intro (zE enc_48 3 zdm.get) hc) (zaI hs λ hc hs=>And.intro (And.intro (zE enc_48 3 ((s47 zdm).list.Gates.get)) (And.intro (zE zaA 3 ((s47 zdm).corners.get)) hc)) hk))))))) _ hs hk zsi
def s39 (zaa:(Sl Gate)) (l_a1:(Sl Int)):Bool :=
  (zy8 zaa l_a1 (0:Int) (⟨0,(λ _=>default)⟩:Sl Gate))
def p39 (zaa:(Sl Gate)) (l_a1:(Sl Int)):Bool :=
  (zy9 zaa l_a1 (0:Int) (⟨0,(λ _=>default)⟩:Sl Gate))
end
theorem q39 (zaa:(Sl Gate)) (l_a1:(Sl Int)) (K:List PA->Prop) (hs:p39 zaa l_a1=true) (hk:K (e39 (s39 zaa l_a1))):vcFun Tryz.prog G39 zIr 39 [.one (.sl zaa.len 3 (λ i=>enc_48 (zaa.get i))),.one (.sl l_a1.len 1 (λ i=>zam (l_a1.get i)))] K :=
  zaM (by kernel_rfl) (zIs hs hk rfl)
def zIt : List PA → COut
  | [.one (.sl zaK zbW zaL),.one (.sl zd9 zi9 zea)]=>.det (IsE enc_48 3 zbW zaL/\IsE zam 1 zi9 zea/\p39 (⟨zaK,zaf zaL⟩:(Sl Gate)) (⟨zd9,zcf zea⟩:(Sl Int))=true) [.one (.bool (s39 (⟨zaK,zaf zaL⟩:(Sl Gate)) (⟨zd9,zcf zea⟩:(Sl Int))))]
  | _=>.no
theorem zNF:zah Tryz.prog 39:=⟨_,rfl,rfl,by kernel_rfl⟩
theorem zTl:Ok Tryz.prog 39 zIt:=zaV zRa zNF λ args K h=>by
  unfold zIt at h
  split at h
  · rename_i zaK zbW zaL zd9 zi9 zea
    obtain⟨⟨⟨rfl,zbn,rfl⟩,⟨rfl,zgy,rfl⟩,hs⟩,hk⟩:=h
    try rw[zae zbn] at hs
    try rw[zae zbn] at hk
    try rw[zbA zgy] at hs
    try rw[zbA zgy] at hk
    exact⟨(λ _ _=>[]),(λ _=>false),zIr,q39 (⟨zaK,zbn⟩:(Sl Gate)) (⟨zd9,zgy⟩:(Sl Int)) K hs hk⟩
  · exact h.elim
abbrev T18:Tabs:=((Tabs.nil.addF 28 zqA).addF 39 zIt)
theorem zRb:TabsOk Tryz.prog T18:=((TabsOk.nil.addF zMa).addF zTl)
abbrev G18:Ctrs:=csm T18 (λ _ _=>[]) (λ _=>false)
def zIu:Ann:=⟨66,[(0,zK [0] []),(1,zK [0,12] []),(2,zK [2,3] []),(3,zK [0,4] []),(4,zK [0,4,15,16] []),(5,zK [0,4,15,16,17] []),(6,zK [0,4,5,15,16] []),(7,zK [0,4,5,6,15,16] []),(8,zK [0,4,5,6,15,16,23] []),(9,zK [0,4,5,6,15,16] []),(10,zK [0,4,5,6,15,16,31] []),(11,zK [2,3] [34]),(12,zK [0,4,15,16] []),(13,zK [0,4,36,37] []),(14,zK [0,4,36,37,38] []),(15,zK [0,4,7,36,37] []),(16,zK [0,4,7,8,36,37] []),(17,zK [0,4,7,8,36,37,44] []),(18,zK [0,4,7,8,36,37] []),(19,zK [0,4,7,8,9,36,37] []),(20,zK [0,4,7,8,9,36,37,51] []),(21,zK [0,4,7,8,9,36,37] []),(22,zK [0,4,7,8,9,36,37,60] []),(23,zK [2,3] [64]),(24,zK [0,4,36,37] []),(25,zK [2,3] [])],
 [(5,zK [0,4,15,16] []),(8,zK [0,4,5,6,15,16] []),(14,zK [0,4,36,37] []),(17,zK [0,4,7,8,36,37] []),(20,zK [0,4,7,8,9,36,37] [])],
 [(2,zK [0,12] []),(3,zK [0] []),(13,zK [0,4] []),(11,zK [0,4,5,6,15,16,31] []),(23,zK [0,4,7,8,9,36,37,60] [])],
 [],[]⟩
abbrev R18:=((Sl Int)×Int)
abbrev e18 (r:R18):List PA:=[.one (.sl r.1.len 1 (λ i=>zam (r.1.get i))),.one (.int .i64 r.2)]
@[irreducible] def z18:=ptF Tryz.prog G18 zIu Tryz.f18
def zF2 (zaa:(Sl Gate)) (zeK:Int):St:=⟨[(0,zS enc_48 3 zaa),(4,zI (zaa.len:Int)),(15,zI (zaa.len:Int)),(16,zI zeK)],[],[]⟩
abbrev zET (K:List PA->Prop) (zaa:(Sl Gate)) (X:St->Prop) (P:Int->Bool) (S:Int->((Sl Int)×Int)):Prop:=∀ ⦃zeK:Int⦄,P zeK=true->K (e18 (S zeK))->X (zF2 zaa zeK)
def zF3 (zaa:(Sl Gate)) (iv3:Int) (jv3:Int) (zfM:Int):St:=⟨[(0,zS enc_48 3 zaa),(4,zI (zaa.len:Int)),(5,zI iv3),(6,zI jv3),(15,zI (zaa.len:Int)),(16,zI zfM)],[],[]⟩
abbrev zIv (K:List PA->Prop) (zaa:(Sl Gate)) (X:St->Prop) (P:Int->Int->Int->Bool) (S:Int->Int->Int->((Sl Int)×Int)):Prop:=∀ ⦃iv3:Int⦄ ⦃jv3:Int⦄ ⦃zfM:Int⦄,P iv3 jv3 zfM=true->K (e18 (S iv3 jv3 zfM))->X (zF3 zaa iv3 jv3 zfM)
def zF4 (zaa:(Sl Gate)) (zeL:Int):St:=⟨[(0,zS enc_48 3 zaa),(4,zI (zaa.len:Int)),(36,zI (zaa.len:Int)),(37,zI zeL)],[],[]⟩
abbrev zza (K:List PA->Prop) (zaa:(Sl Gate)) (X:St->Prop) (P:Int->Bool) (S:Int->((Sl Int)×Int)):Prop:=∀ ⦃zeL:Int⦄,P zeL=true->K (e18 (S zeL))->X (zF4 zaa zeL)
def zF5 (zaa:(Sl Gate)) (iv7:Int) (jv7:Int) (zfN:Int):St:=⟨[(0,zS enc_48 3 zaa),(4,zI (zaa.len:Int)),(7,zI iv7),(8,zI jv7),(36,zI (zaa.len:Int)),(37,zI zfN)],[],[]⟩
abbrev zEU (K:List PA->Prop) (zaa:(Sl Gate)) (X:St->Prop) (P:Int->Int->Int->Bool) (S:Int->Int->Int->((Sl Int)×Int)):Prop:=∀ ⦃iv7:Int⦄ ⦃jv7:Int⦄ ⦃zfN:Int⦄,P iv7 jv7 zfN=true->K (e18 (S iv7 jv7 zfN))->X (zF5 zaa iv7 jv7 zfN)
def zF6 (zaa:(Sl Gate)) (iv8:Int) (jv8:Int) (kv8:Int) (zfO:Int):St:=⟨[(0,zS enc_48 3 zaa),(4,zI (zaa.len:Int)),(7,zI iv8),(8,zI jv8),(9,zI kv8),(36,zI (zaa.len:Int)),(37,zI zfO)],[],[]⟩
abbrev zIw (K:List PA->Prop) (zaa:(Sl Gate)) (X:St->Prop) (P:Int->Int->Int->Int->Bool) (S:Int->Int->Int->Int->((Sl Int)×Int)):Prop:=∀ ⦃iv8:Int⦄ ⦃jv8:Int⦄ ⦃kv8:Int⦄ ⦃zfO:Int⦄,P iv8 jv8 kv8 zfO=true->K (e18 (S iv8 jv8 kv8 zfO))->X (zF6 zaa iv8 jv8 kv8 zfO)
section
variable {K:List PA->Prop}{zaa:(Sl Gate)}{zaW:Bool}{zeK:Int}{X2:St->Prop}{P2:Int->Bool}{S2:Int->((Sl Int)×Int)}{iv3:Int}{jv3:Int}{zfM:Int}{X3:St->Prop}{P3:Int->Int->Int->Bool}{S3:Int->Int->Int->((Sl Int)×Int)}{iv5:Int}{jv5:Int}{zsj:Int}{zsk:Bool}{zeL:Int}{X6:St->Prop}{P6:Int->Bool}{S6:Int->((Sl Int)×Int)}{iv7:Int}{jv7:Int}{zfN:Int}{X7:St->Prop}{P7:Int->Int->Int->Bool}{S7:Int->Int->Int->((Sl Int)×Int)}{iv8:Int}{jv8:Int}{kv8:Int}{zfO:Int}{X8:St->Prop}{P8:Int->Int->Int->Int->Bool}{S8:Int->Int->Int->Int->((Sl Int)×Int)}{iv9:Int}{jv9:Int}{kv9:Int}{zsl:Int}{zsm:Bool}
def zzb (S6:Int->((Sl Int)×Int)) (S7:Int->Int->Int->((Sl Int)×Int)) (S8:Int->Int->Int->Int->((Sl Int)×Int)) (zaa:(Sl Gate)) (iv9:Int) (jv9:Int) (kv9:Int) (zsl:Int) (zsm:Bool):((Sl Int)×Int) :=
  (cond zsm
 ((⟨3,(zlo iv9 [iv9,jv9,kv9])⟩:(Sl Int)),(0:Int))
 (S8 iv9 jv9 (w64 (kv9+(1:Int))) zsl))
def zzc (P6:Int->Bool) (P7:Int->Int->Int->Bool) (P8:Int->Int->Int->Int->Bool) (zaa:(Sl Gate)) (iv9:Int) (jv9:Int) (kv9:Int) (zsl:Int) (zsm:Bool):Bool :=
  (cond zsm
 true
 (P8 iv9 jv9 (w64 (kv9+(1:Int))) zsl))
theorem zIx (hX6:zza K zaa X6 P6 S6) (hX7:zEU K zaa X7 P7 S7) (hX8:zIw K zaa X8 P8 S8) (hs:zzc P6 P7 P8 zaa iv9 jv9 kv9 zsl zsm=true) (hk:K (e18 (zzb S6 S7 S8 zaa iv9 jv9 kv9 zsl zsm))):z18 (Wk K) [1,1,1,1,0,1,0,0,1,1,0,0,1,1,0,0,1,0,0,1,0,0,1,0,0,1] [X6,X7,X8] ⟨[(0,zS enc_48 3 zaa),(4,zI (zaa.len:Int)),(7,zI iv9),(8,zI jv9),(9,zI kv9),(36,zI (zaa.len:Int)),(37,zI zsl),(60,zB zsm)],[],[]⟩:=zaM (by kernel_rfl) (zc hs hk (λ hs hk=>((zfL (Eq.mpr (congrArg K (congrArg (λ (g_:Nat->List PV)=>([.one (.sl 3 1 g_),.one (.int .i64 (0:Int))]:List PA)) (zf8 (enc:=zam) (x:=iv9) (y:=jv9) (r:=[kv9])))) hk)):Wk K [.one (.sl 3 1 (zet [(zam iv9),(zam jv9),(zam kv9)])),.one (.int .i64 (0:Int))])) (λ hs hk=>(hX8 hs hk)))
def zzd (S6:Int->((Sl Int)×Int)) (S7:Int->Int->Int->((Sl Int)×Int)) (zaa:(Sl Gate)) (S8:Int->Int->Int->Int->((Sl Int)×Int)) (iv8:Int) (jv8:Int) (kv8:Int) (zfO:Int):((Sl Int)×Int) :=
  (cond (decide (kv8 < (zaa.len : Int)))
 (zzb S6 S7 S8 zaa iv8 jv8 kv8 zfO (!(s39 zaa (⟨3,zcf (zet [(zam iv8),(zam jv8),(zam kv8)])⟩:(Sl Int)))))
 (S7 iv8 (w64 (jv8+(1:Int))) zfO))
def zze (P6:Int->Bool) (P7:Int->Int->Int->Bool) (zaa:(Sl Gate)) (P8:Int->Int->Int->Int->Bool) (iv8:Int) (jv8:Int) (kv8:Int) (zfO:Int):Bool :=
  (cond (decide (kv8 < (zaa.len : Int)))
 (decide ((p39 zaa (⟨3,zcf (zet [(zam iv8),(zam jv8),(zam kv8)])⟩:(Sl Int))=true)) &&
 (zzc P6 P7 P8 zaa iv8 jv8 kv8 zfO (!(s39 zaa (⟨3,zcf (zet [(zam iv8),(zam jv8),(zam kv8)])⟩:(Sl Int))))))
 (P7 iv8 (w64 (jv8+(1:Int))) zfO))
def zzf (S6:Int->((Sl Int)×Int)) (S7:Int->Int->Int->((Sl Int)×Int)) (zaa:(Sl Gate)):Nat->Int->Int->Int->Int->((Sl Int)×Int):=lpO (λ _ _ _ _=>default) (zzd S6 S7 zaa)
def zzg (P6:Int->Bool) (P7:Int->Int->Int->Bool) (zaa:(Sl Gate)):Nat->Int->Int->Int->Int->Bool:=lpO (λ _ _ _ _=>false) (zze P6 P7 zaa)
def zzh (S6:Int->((Sl Int)×Int)) (S7:Int->Int->Int->((Sl Int)×Int)) (zaa:(Sl Gate)) (iv8:Int) (jv8:Int) (kv8:Int) (zfO:Int):((Sl Int)×Int):=zzf S6 S7 zaa Fuel iv8 jv8 kv8 zfO
def zzi (P6:Int->Bool) (P7:Int->Int->Int->Bool) (zaa:(Sl Gate)) (iv8:Int) (jv8:Int) (kv8:Int) (zfO:Int):Bool:=zzg P6 P7 zaa Fuel iv8 jv8 kv8 zfO
theorem zIy (hX6:zza K zaa X6 P6 S6) (hX7:zEU K zaa X7 P7 S7) (hs:zzi P6 P7 zaa iv8 jv8 kv8 zfO=true) (hk:K (e18 (zzh S6 S7 zaa iv8 jv8 kv8 zfO))):z18 (Wk K) [1,1,1,1,0,1,0,0,1,1,0,0,1,1,0,0,1,0,0,1,0] [X6,X7] (zF6 zaa iv8 jv8 kv8 zfO) :=
  zl (λ X=>z18 (Wk K) [1,1,1,1,0,1,0,0,1,1,0,0,1,1,0,0,1,0,0,1,0,0] [X6,X7,X]) (by kernel_rfl) λ X8 hX =>
  (show ∀ k, zIw K zaa X8 (zzg P6 P7 zaa k) (zzf S6 S7 zaa k) from zfo _ _ (zze P6 P7 zaa) (zzd S6 S7 zaa) (zIw K zaa X8)
 (by intro _ _ _ _ hs;exact absurd hs dqk)
 (by intro P8 S8 hX8 iv8 jv8 kv8 zfO hs hk;exact hX _ (zaM (by kernel_rfl) (zc hs hk (λ hs hk=>(zaI hs λ hc hs=>And.intro (And.intro (zE enc_48 3 zaa.get) (And.intro ((zhI [kv8]):IsE zam 1 1 (zet [(zam iv8),(zam jv8),(zam kv8)])) hc)) (zIx hX6 hX7 hX8 hs hk))) (λ hs hk=>(hX7 hs hk)))))) _ hs hk
def zzj (S6:Int->((Sl Int)×Int)) (zaa:(Sl Gate)) (S7:Int->Int->Int->((Sl Int)×Int)) (iv7:Int) (jv7:Int) (zfN:Int):((Sl Int)×Int) :=
  (cond (decide (jv7 < (zaa.len : Int)))
 (zzh S6 S7 zaa iv7 jv7 (w64 (jv7+(1:Int))) zfN)
 (S6 (w64 (zfN+(1:Int)))))
def zzk (P6:Int->Bool) (zaa:(Sl Gate)) (P7:Int->Int->Int->Bool) (iv7:Int) (jv7:Int) (zfN:Int):Bool :=
  (cond (decide (jv7 < (zaa.len : Int)))
 (zzi P6 P7 zaa iv7 jv7 (w64 (jv7+(1:Int))) zfN)
 (P6 (w64 (zfN+(1:Int)))))
def zzl (S6:Int->((Sl Int)×Int)) (zaa:(Sl Gate)):Nat->Int->Int->Int->((Sl Int)×Int):=lpO (λ _ _ _=>default) (zzj S6 zaa)
def zzm (P6:Int->Bool) (zaa:(Sl Gate)):Nat->Int->Int->Int->Bool:=lpO (λ _ _ _=>false) (zzk P6 zaa)
def zzn (S6:Int->((Sl Int)×Int)) (zaa:(Sl Gate)) (iv7:Int) (jv7:Int) (zfN:Int):((Sl Int)×Int):=zzl S6 zaa Fuel iv7 jv7 zfN
def zzo (P6:Int->Bool) (zaa:(Sl Gate)) (iv7:Int) (jv7:Int) (zfN:Int):Bool:=zzm P6 zaa Fuel iv7 jv7 zfN
theorem zIz (hX6:zza K zaa X6 P6 S6) (hs:zzo P6 zaa iv7 jv7 zfN=true) (hk:K (e18 (zzn S6 zaa iv7 jv7 zfN))):z18 (Wk K) [1,1,1,1,0,1,0,0,1,1,0,0,1,1,0] [X6] (zF5 zaa iv7 jv7 zfN) :=
  zl (λ X=>z18 (Wk K) [1,1,1,1,0,1,0,0,1,1,0,0,1,1,0,0] [X6,X]) (by kernel_rfl) λ X7 hX =>
  (show ∀ k, zEU K zaa X7 (zzm P6 zaa k) (zzl S6 zaa k) from zfo _ _ (zzk P6 zaa) (zzj S6 zaa) (zEU K zaa X7)
 (by intro _ _ _ hs;exact absurd hs dqk)
 (by intro P7 S7 hX7 iv7 jv7 zfN hs hk;exact hX _ (zaM (by kernel_rfl) (zc hs hk (λ hs hk=>(zIy hX6 hX7 hs hk)) (λ hs hk=>(hX6 hs hk)))))) _ hs hk
def zzp (zaa:(Sl Gate)) (S6:Int->((Sl Int)×Int)) (zeL:Int):((Sl Int)×Int) :=
  (cond (decide (zeL < (zaa.len : Int)))
 (zzn S6 zaa zeL (w64 (zeL+(1:Int))) zeL)
 ((⟨0,λ _=>default⟩:(Sl Int)),(7:Int)))
def zzq (zaa:(Sl Gate)) (P6:Int->Bool) (zeL:Int):Bool :=
  (cond (decide (zeL < (zaa.len : Int)))
 (zzo P6 zaa zeL (w64 (zeL+(1:Int))) zeL)
 true)
def zzr (zaa:(Sl Gate)):Nat->Int->((Sl Int)×Int):=lpO (λ _=>default) (zzp zaa)
def zzs (zaa:(Sl Gate)):Nat->Int->Bool:=lpO (λ _=>false) (zzq zaa)
def zzt (zaa:(Sl Gate)) (zeL:Int):((Sl Int)×Int):=zzr zaa Fuel zeL
def zzu (zaa:(Sl Gate)) (zeL:Int):Bool:=zzs zaa Fuel zeL
theorem zIA (hs:zzu zaa zeL=true) (hk:K (e18 (zzt zaa zeL))):z18 (Wk K) [1,1,1,1,0,1,0] [] (zF4 zaa zeL) :=
  zl (λ X=>z18 (Wk K) [1,1,1,1,0,1,0,0] [X]) (by kernel_rfl) λ X6 hX =>
  (show ∀ k, zza K zaa X6 (zzs zaa k) (zzr zaa k) from zfo _ _ (zzq zaa) (zzp zaa) (zza K zaa X6)
 (by intro _ hs;exact absurd hs dqk)
 (by intro P6 S6 hX6 zeL hs hk;exact hX _ (zaM (by kernel_rfl) (zc hs hk (λ hs hk=>(zIz hX6 hs hk)) (λ hs hk=>((wk hk (zfn (.one (.nil _ _)) (zfn (.one (.rfl _)) zma))):Wk K [.one (.nils),.one (.int .i64 (7:Int))])))))) _ hs hk
def zzv (S2:Int->((Sl Int)×Int)) (S3:Int->Int->Int->((Sl Int)×Int)) (zaa:(Sl Gate)) (iv5:Int) (jv5:Int) (zsj:Int) (zsk:Bool):((Sl Int)×Int) :=
  (cond zsk
 ((⟨2,(zlo iv5 [iv5,jv5])⟩:(Sl Int)),(0:Int))
 (S3 iv5 (w64 (jv5+(1:Int))) zsj))
def zzw (P2:Int->Bool) (P3:Int->Int->Int->Bool) (zaa:(Sl Gate)) (iv5:Int) (jv5:Int) (zsj:Int) (zsk:Bool):Bool :=
  (cond zsk
 true
 (P3 iv5 (w64 (jv5+(1:Int))) zsj))
theorem zIB (hX2:zET K zaa X2 P2 S2) (hX3:zIv K zaa X3 P3 S3) (hs:zzw P2 P3 zaa iv5 jv5 zsj zsk=true) (hk:K (e18 (zzv S2 S3 zaa iv5 jv5 zsj zsk))):z18 (Wk K) [1,1,1,0,1,0,0,1,1,0,0,1,1,0,0,1,0,0,1] [X2,X3] ⟨[(0,zS enc_48 3 zaa),(4,zI (zaa.len:Int)),(5,zI iv5),(6,zI jv5),(15,zI (zaa.len:Int)),(16,zI zsj),(31,zB zsk)],[],[]⟩:=zaM (by kernel_rfl) (zc hs hk (λ hs hk=>((zfL (Eq.mpr (congrArg K (congrArg (λ (g_:Nat->List PV)=>([.one (.sl 2 1 g_),.one (.int .i64 (0:Int))]:List PA)) (zf8 (enc:=zam) (x:=iv5) (y:=jv5) (r:=[])))) hk)):Wk K [.one (.sl 2 1 (zet [(zam iv5),(zam jv5)])),.one (.int .i64 (0:Int))])) (λ hs hk=>(hX3 hs hk)))
def zzx (zaa:(Sl Gate)):((Sl Int)×Int) :=
  (zzt zaa (0:Int))
def zzy (zaa:(Sl Gate)):Bool :=
  (zzu zaa (0:Int))
theorem zIC (hs:zzy zaa=true) (hk:K (e18 (zzx zaa))):z18 (Wk K) [1,1,1,1] [] ⟨[(0,zS enc_48 3 zaa),(4,zI (zaa.len:Int))],[],[]⟩:=zaM (by kernel_rfl) (zIA hs hk)
def zzz (S2:Int->((Sl Int)×Int)) (zaa:(Sl Gate)) (S3:Int->Int->Int->((Sl Int)×Int)) (iv3:Int) (jv3:Int) (zfM:Int):((Sl Int)×Int) :=
  (cond (decide (jv3 < (zaa.len : Int)))
 (zzv S2 S3 zaa iv3 jv3 zfM (!(s39 zaa (⟨2,zcf (zet [(zam iv3),(zam jv3)])⟩:(Sl Int)))))
 (S2 (w64 (zfM+(1:Int)))))
def zzA (P2:Int->Bool) (zaa:(Sl Gate)) (P3:Int->Int->Int->Bool) (iv3:Int) (jv3:Int) (zfM:Int):Bool :=
  (cond (decide (jv3 < (zaa.len : Int)))
 (decide ((p39 zaa (⟨2,zcf (zet [(zam iv3),(zam jv3)])⟩:(Sl Int))=true)) &&
 (zzw P2 P3 zaa iv3 jv3 zfM (!(s39 zaa (⟨2,zcf (zet [(zam iv3),(zam jv3)])⟩:(Sl Int))))))
 (P2 (w64 (zfM+(1:Int)))))
def zzB (S2:Int->((Sl Int)×Int)) (zaa:(Sl Gate)):Nat->Int->Int->Int->((Sl Int)×Int):=lpO (λ _ _ _=>default) (zzz S2 zaa)
def zzC (P2:Int->Bool) (zaa:(Sl Gate)):Nat->Int->Int->Int->Bool:=lpO (λ _ _ _=>false) (zzA P2 zaa)
def zzD (S2:Int->((Sl Int)×Int)) (zaa:(Sl Gate)) (iv3:Int) (jv3:Int) (zfM:Int):((Sl Int)×Int):=zzB S2 zaa Fuel iv3 jv3 zfM
def zzE (P2:Int->Bool) (zaa:(Sl Gate)) (iv3:Int) (jv3:Int) (zfM:Int):Bool:=zzC P2 zaa Fuel iv3 jv3 zfM
theorem zID (hX2:zET K zaa X2 P2 S2) (hs:zzE P2 zaa iv3 jv3 zfM=true) (hk:K (e18 (zzD S2 zaa iv3 jv3 zfM))):z18 (Wk K) [1,1,1,0,1,0,0,1,1,0,0,1,1,0] [X2] (zF3 zaa iv3 jv3 zfM) :=
  zl (λ X=>z18 (Wk K) [1,1,1,0,1,0,0,1,1,0,0,1,1,0,0] [X2,X]) (by kernel_rfl) λ X3 hX =>
  (show ∀ k, zIv K zaa X3 (zzC P2 zaa k) (zzB S2 zaa k) from zfo _ _ (zzA P2 zaa) (zzz S2 zaa) (zIv K zaa X3)
 (by intro _ _ _ hs;exact absurd hs dqk)
 (by intro P3 S3 hX3 iv3 jv3 zfM hs hk;exact hX _ (zaM (by kernel_rfl) (zc hs hk (λ hs hk=>(zaI hs λ hc hs=>And.intro (And.intro (zE enc_48 3 zaa.get) (And.intro ((zhI []):IsE zam 1 1 (zet [(zam iv3),(zam jv3)])) hc)) (zIB hX2 hX3 hs hk))) (λ hs hk=>(hX2 hs hk)))))) _ hs hk
def zzF (zaa:(Sl Gate)) (S2:Int->((Sl Int)×Int)) (zeK:Int):((Sl Int)×Int) :=
  (cond (decide (zeK < (zaa.len : Int)))
 (zzD S2 zaa zeK (w64 (zeK+(1:Int))) zeK)
 (zzx zaa))
def zzG (zaa:(Sl Gate)) (P2:Int->Bool) (zeK:Int):Bool :=
  (cond (decide (zeK < (zaa.len : Int)))
 (zzE P2 zaa zeK (w64 (zeK+(1:Int))) zeK)
 (zzy zaa))
def zzH (zaa:(Sl Gate)):Nat->Int->((Sl Int)×Int):=lpO (λ _=>default) (zzF zaa)
def zzI (zaa:(Sl Gate)):Nat->Int->Bool:=lpO (λ _=>false) (zzG zaa)
def zzJ (zaa:(Sl Gate)) (zeK:Int):((Sl Int)×Int):=zzH zaa Fuel zeK
def zzK (zaa:(Sl Gate)) (zeK:Int):Bool:=zzI zaa Fuel zeK
theorem zIE (hs:zzK zaa zeK=true) (hk:K (e18 (zzJ zaa zeK))):z18 (Wk K) [1,1,1,0,1,0] [] (zF2 zaa zeK) :=
  zl (λ X=>z18 (Wk K) [1,1,1,0,1,0,0] [X]) (by kernel_rfl) λ X2 hX =>
  (show ∀ k, zET K zaa X2 (zzI zaa k) (zzH zaa k) from zfo _ _ (zzG zaa) (zzF zaa) (zET K zaa X2)
 (by intro _ hs;exact absurd hs dqk)
 (by intro P2 S2 hX2 zeK hs hk;exact hX _ (zaM (by kernel_rfl) (zc hs hk (λ hs hk=>(zID hX2 hs hk)) (λ hs hk=>(zIC hs hk)))))) _ hs hk
def zzL (zaa:(Sl Gate)):((Sl Int)×Int) :=
  (zzJ zaa (0:Int))
def zzM (zaa:(Sl Gate)):Bool :=
  (zzK zaa (0:Int))
theorem zIF (hs:zzM zaa=true) (hk:K (e18 (zzL zaa))):z18 (Wk K) [1,1] [] ⟨[(0,zS enc_48 3 zaa)],[],[]⟩:=zaM (by kernel_rfl) (zIE hs hk)
def zzN (zaa:(Sl Gate)) (zaW:Bool):((Sl Int)×Int) :=
  (cond zaW
 ((⟨0,λ _=>default⟩:(Sl Int)),(2:Int))
 (zzL zaa))
def zzO (zaa:(Sl Gate)) (zaW:Bool):Bool :=
  (cond zaW
 true
 (zzM zaa))
theorem zIG (hs:zzO zaa zaW=true) (hk:K (e18 (zzN zaa zaW))):z18 (Wk K) [1,0,1] [] ⟨[(0,zS enc_48 3 zaa),(12,zB zaW)],[],[]⟩:=zaM (by kernel_rfl) (zc hs hk (λ hs hk=>((wk hk (zfn (.one (.nil _ _)) (zfn (.one (.rfl _)) zma))):Wk K [.one (.nils),.one (.int .i64 (2:Int))])) (λ hs hk=>(zIF hs hk)))
def s18 (zaa:(Sl Gate)):((Sl Int)×Int) :=
  (zzN zaa (!(s28 zaa)))
def p18 (zaa:(Sl Gate)):Bool :=
  (decide ((p28 zaa=true)) &&
 (zzO zaa (!(s28 zaa))))
end
theorem q18 (zaa:(Sl Gate)) (K:List PA->Prop) (hs:p18 zaa=true) (hk:K (e18 (s18 zaa))):vcFun Tryz.prog G18 zIu 18 [.one (.sl zaa.len 3 (λ i=>enc_48 (zaa.get i)))] (Wk K) :=
  zaM (by kernel_rfl) (zaI hs λ hc hs=>And.intro (And.intro (zE enc_48 3 zaa.get) hc) (zIG hs hk))
def zIH : List PA → COut
  | [.one (.sl zaK zbW zaL)]=>.det (IsE enc_48 3 zbW zaL/\p18 (⟨zaK,zaf zaL⟩:(Sl Gate))=true) [.one (.sl (((s18 (⟨zaK,zaf zaL⟩:(Sl Gate))).1).len) 1 (λ i=>zam (((s18 (⟨zaK,zaf zaL⟩:(Sl Gate))).1).get i))),.one (.int .i64 ((s18 (⟨zaK,zaf zaL⟩:(Sl Gate))).2))]
  | _=>.no
theorem zNG:zah Tryz.prog 18:=⟨_,rfl,rfl,by kernel_rfl⟩
theorem zTm:Ok Tryz.prog 18 zIH:=zgQ zRb zNG λ args K h=>by
  unfold zIH at h
  split at h
  · rename_i zaK zbW zaL
    obtain⟨⟨⟨rfl,zbn,rfl⟩,hs⟩,hk⟩:=h
    try rw[zae zbn] at hs
    try rw[zae zbn] at hk
    exact⟨_,zgx zgP _,(λ _ _=>[]),(λ _=>false),zIu,q18 (⟨zaK,zbn⟩:(Sl Gate)) K hs hk⟩
  · exact h.elim
abbrev T41:Tabs:=Tabs.nil
theorem zRc:TabsOk Tryz.prog T41:=TabsOk.nil
abbrev G41:Ctrs:=csm T41 (λ _ _=>[]) (λ _=>false)
def zNH:Ann:=⟨3,[(0,zK [] []),(1,zK [2] [])],
 [],
 [],
 [],[]⟩
abbrev R41:=Bool
abbrev e41 (r:R41):List PA:=[.one (.bool r)]
section
variable {K:List PA->Prop}{zEV:list}
def s41 (zEV:list):Bool :=
  false
end
theorem q41 (zEV:list) (K:List PA->Prop) (hk:K (e41 (s41 zEV))):vcFun Tryz.prog G41 zNH 41 [.agg (zdM zEV)] K :=
  zaM (by kernel_rfl) hk
def zII : List PA → COut
  | [.agg [.sl za8 zb9 za9]]=>.det (IsE enc_48 3 zb9 za9) [.one (.bool (s41 (⟨(⟨za8,zaf za9⟩:(Sl Gate))⟩:list)))]
  | _=>.no
theorem zNI:zah Tryz.prog 41:=⟨_,rfl,rfl,by kernel_rfl⟩
theorem zTn:Ok Tryz.prog 41 zII:=zaV zRc zNI λ args K h=>by
  unfold zII at h
  split at h
  · rename_i za8 zb9 za9
    obtain⟨⟨rfl,zbH,rfl⟩,hk⟩:=h
    try rw[zae zbH] at hk
    exact⟨(λ _ _=>[]),(λ _=>false),zNH,q41 (⟨(⟨za8,zbH⟩:(Sl Gate))⟩:list) K hk⟩
  · exact h.elim
abbrev T45:Tabs:=Tabs.nil
theorem zRd:TabsOk Tryz.prog T45:=TabsOk.nil
abbrev G45:Ctrs:=csm T45 (λ _ _=>[]) (λ _=>false)
def zNJ:Ann:=⟨11,[(0,zK [1,2] [2]),(1,zK [3] [])],
 [],
 [],
 [],[]⟩
abbrev R45:=Bool
abbrev e45 (r:R45):List PA:=[.one (.bool r)]
section
variable {K:List PA->Prop}{c0:Int}{l_a0:list}
def s45 (c0:Int) (l_a0:list):Bool :=
  ((l_a0.Gates.get 0).Z == c0)
def p45 (c0:Int) (l_a0:list):Bool :=
  (decide ((0<=(0:Int)/\(0:Int) < (l_a0.Gates.len:Int))) &&
 true)
end
theorem q45 (c0:Int) (l_a0:list) (K:List PA->Prop) (hs:p45 c0 l_a0=true) (hk:K (e45 (s45 c0 l_a0))):vcFun Tryz.prog G45 zNJ 45 [.agg (zdM l_a0),.one (.fp (zam c0) 0)] K :=
  zaM (by kernel_rfl) (zaI hs λ hc hs=>And.intro hc hk)
def zIJ : List PA → COut
  | [.agg [.sl za8 zb9 za9],.one (.fp [.int .i64 c0] 0)]=>.det (IsE enc_48 3 zb9 za9/\p45 c0 (⟨(⟨za8,zaf za9⟩:(Sl Gate))⟩:list)=true) [.one (.bool (s45 c0 (⟨(⟨za8,zaf za9⟩:(Sl Gate))⟩:list)))]
  | _=>.no
theorem zNK:zah Tryz.prog 45:=⟨_,rfl,rfl,by kernel_rfl⟩
theorem zTo:Ok Tryz.prog 45 zIJ:=zaV zRd zNK λ args K h=>by
  unfold zIJ at h
  split at h
  · rename_i za8 zb9 za9 c0
    obtain⟨⟨⟨rfl,zbH,rfl⟩,hs⟩,hk⟩:=h
    try rw[zae zbH] at hs
    try rw[zae zbH] at hk
    exact⟨(λ _ _=>[]),(λ _=>false),zNJ,q45 c0 (⟨(⟨za8,zbH⟩:(Sl Gate))⟩:list) K hs hk⟩
  · exact h.elim
abbrev T40:Tabs:=((((((Tabs.nil.addF 28 zqA).addF 41 zII).addF 45 zIJ).addF 47 zyW).addF 48 zy3).addF 49 zqB)
theorem zRe:TabsOk Tryz.prog T40:=((((((TabsOk.nil.addF zMa).addF zTn).addF zTo).addF zQ6).addF zQ9).addF zMb)
abbrev G40:Ctrs:=csm T40 (λ _ _=>[]) (λ _=>false)
def zIK:Ann:=⟨31,[(0,zK [0,1,4] [4]),(1,zK [0,1,4,9] [4]),(2,zK [4,5] [4]),(3,zK [1,4,6] [4,6]),(4,zK [1,4,6,13] [4,6]),(5,zK [4,5] [4]),(6,zK [4,6,18] [4,6]),(7,zK [4,5] [4]),(8,zK [4,5] [4])],
 [],
 [(3,zK [0,1,4] [4])],
 [],[]⟩
abbrev R40:=(set×Int)
abbrev e40 (r:R40):List PA:=[.agg [.sl r.1.list.Gates.len 3 (λ i=>enc_48 (r.1.list.Gates.get i)),.sl r.1.corners.len 3 (λ i=>zaA (r.1.corners.get i))],.one (.int .i64 r.2)]
@[irreducible] def z40:=ptF Tryz.prog G40 zIK Tryz.f40
section
variable {K:List PA->Prop}{zaa:(Sl Gate)}
def zzP (zaa:(Sl Gate)):(set×Int) :=
  (cond (!(s48 (s47 zaa)))
 ((⟨(⟨(⟨0,λ _=>default⟩:(Sl Gate))⟩:list),(⟨0,λ _=>default⟩:(Sl straight))⟩:set),(5:Int))
 (cond (s49 ((s47 zaa).list))
 (cond (!(s41 ((s47 zaa).list)))
 ((⟨(⟨(⟨0,λ _=>default⟩:(Sl Gate))⟩:list),(⟨0,λ _=>default⟩:(Sl straight))⟩:set),(6:Int))
 ((s47 zaa),(0:Int)))
 ((s47 zaa),(0:Int))))
def zzQ (zaa:(Sl Gate)):Bool :=
  (decide ((p47 zaa=true)) &&
 (decide ((p48 (s47 zaa)=true)) &&
 (cond (!(s48 (s47 zaa)))
 true
 (decide ((p49 ((s47 zaa).list)=true)) &&
 true))))
theorem zIL (hs:zzQ zaa=true) (hk:K (e40 (zzP zaa))):z40 (Wk K) [1,1] [] ⟨[(0,zS enc_48 3 zaa),(1,zP (.fn 41 [] [])),(4,zp 4 0)],[(4,.box 75 [.p (.nils),.p (.nils)])],[]⟩:=zaM (by kernel_rfl) (zaI hs λ hc hs=>And.intro (And.intro (zE enc_48 3 zaa.get) hc) (zaI hs λ hc hs=>And.intro (And.intro (zE enc_48 3 ((s47 zaa).list.Gates.get)) (And.intro (zE zaA 3 ((s47 zaa).corners.get)) hc)) (zc hs hk (λ hs hk=>((wk hk (zfn (.agg (zfn (.nil _ _) (zfn (.nil _ _) zma))) (zfn (.one (.rfl _)) zma))):Wk K [.agg [.nils,.nils],.one (.int .i64 (5:Int))])) (λ hs hk=>(zaI hs λ hc hs=>And.intro (And.intro (zE enc_48 3 ((s47 zaa).list.Gates.get)) hc) (zt hk (λ hk=>(And.intro (zE enc_48 3 ((s47 zaa).list.Gates.get)) (zt hk (λ hk=>((wk hk (zfn (.agg (zfn (.nil _ _) (zfn (.nil _ _) zma))) (zfn (.one (.rfl _)) zma))):Wk K [.agg [.nils,.nils],.one (.int .i64 (6:Int))])) (λ hk=>((zfL hk):Wk K [.agg [.sl ((s47 zaa).list.Gates.len) 3 (λ i=>enc_48 ((s47 zaa).list.Gates.get i)),.sl ((s47 zaa).corners.len) 3 (λ i=>zaA ((s47 zaa).corners.get i))],.one (.int .i64 (0:Int))]))))) (λ hk=>((zfL hk):Wk K [.agg [.sl ((s47 zaa).list.Gates.len) 3 (λ i=>enc_48 ((s47 zaa).list.Gates.get i)),.sl ((s47 zaa).corners.len) 3 (λ i=>zaA ((s47 zaa).corners.get i))],.one (.int .i64 (0:Int))]))))))))
def s40 (zaa:(Sl Gate)):(set×Int) :=
  (cond (!(s28 zaa))
 ((⟨(⟨(⟨0,λ _=>default⟩:(Sl Gate))⟩:list),(⟨0,λ _=>default⟩:(Sl straight))⟩:set),(2:Int))
 (zzP zaa))
def p40 (zaa:(Sl Gate)):Bool :=
  (decide ((p28 zaa=true)) &&
 (cond (!(s28 zaa))
 true
 (zzQ zaa)))
end
theorem q40 (zaa:(Sl Gate)) (K:List PA->Prop) (hs:p40 zaa=true) (hk:K (e40 (s40 zaa))):vcFun Tryz.prog G40 zIK 40 [.one (.sl zaa.len 3 (λ i=>enc_48 (zaa.get i))),.one (.fn 41 [] [])] (Wk K) :=
  zaM (by kernel_rfl) (zaI hs λ hc hs=>And.intro (And.intro (zE enc_48 3 zaa.get) hc) (zc hs hk (λ hs hk=>((wk hk (zfn (.agg (zfn (.nil _ _) (zfn (.nil _ _) zma))) (zfn (.one (.rfl _)) zma))):Wk K [.agg [.nils,.nils],.one (.int .i64 (2:Int))])) (λ hs hk=>(zIL hs hk))))
abbrev zSG:Ctrs:=csm T40 (λ _ _=>[]) (λ _=>false)
def zzR:Ann:=⟨31,[(0,zK [0,1,4] [4]),(1,zK [0,1,4,9] [4]),(2,zK [4,5] [4]),(3,zK [1,4,6] [4,6]),(4,zK [1,4,6,13] [4,6]),(5,zK [4,5] [4]),(6,zK [4,6,18] [4,6]),(7,zK [4,5] [4]),(8,zK [4,5] [4])],
 [],
 [(3,zK [0,1,4] [4])],
 [],[]⟩
abbrev zTp:=(set×Int)
abbrev zSH (r:zTp):List PA:=[.agg [.sl r.1.list.Gates.len 3 (λ i=>enc_48 (r.1.list.Gates.get i)),.sl r.1.corners.len 3 (λ i=>zaA (r.1.corners.get i))],.one (.int .i64 r.2)]
@[irreducible] def z40a:=ptF Tryz.prog zSG zzR Tryz.f40
section
variable {K:List PA->Prop}{c0:Int}{zaa:(Sl Gate)}
def zu9 (c0:Int) (zaa:(Sl Gate)):(set×Int) :=
  (cond (!(s48 (s47 zaa)))
 ((⟨(⟨(⟨0,λ _=>default⟩:(Sl Gate))⟩:list),(⟨0,λ _=>default⟩:(Sl straight))⟩:set),(5:Int))
 (cond (s49 ((s47 zaa).list))
 (cond (!(s45 c0 ((s47 zaa).list)))
 ((⟨(⟨(⟨0,λ _=>default⟩:(Sl Gate))⟩:list),(⟨0,λ _=>default⟩:(Sl straight))⟩:set),(6:Int))
 ((s47 zaa),(0:Int)))
 ((s47 zaa),(0:Int))))
def zva (c0:Int) (zaa:(Sl Gate)):Bool :=
  (decide ((p47 zaa=true)) &&
 (decide ((p48 (s47 zaa)=true)) &&
 (cond (!(s48 (s47 zaa)))
 true
 (decide ((p49 ((s47 zaa).list)=true)) &&
 (cond (s49 ((s47 zaa).list))
 (decide ((p45 c0 ((s47 zaa).list)=true)) &&
 true)
 true)))))
theorem zEW (hs:zva c0 zaa=true) (hk:K (zSH (zu9 c0 zaa))):z40a (Wk K) [1,1] [] ⟨[(0,zS enc_48 3 zaa),(1,zP (.fn 45 [] [.fp (zam c0) 0])),(4,zp 4 0)],[(4,.box 75 [.p (.nils),.p (.nils)])],[]⟩:=zaM (by kernel_rfl) (zaI hs λ hc hs=>And.intro (And.intro (zE enc_48 3 zaa.get) hc) (zaI hs λ hc hs=>And.intro (And.intro (zE enc_48 3 ((s47 zaa).list.Gates.get)) (And.intro (zE zaA 3 ((s47 zaa).corners.get)) hc)) (zc hs hk (λ hs hk=>((wk hk (zfn (.agg (zfn (.nil _ _) (zfn (.nil _ _) zma))) (zfn (.one (.rfl _)) zma))):Wk K [.agg [.nils,.nils],.one (.int .i64 (5:Int))])) (λ hs hk=>(zaI hs λ hc hs=>And.intro (And.intro (zE enc_48 3 ((s47 zaa).list.Gates.get)) hc) (zc hs hk (λ hs hk=>(zaI hs λ hc hs=>And.intro (And.intro (zE enc_48 3 ((s47 zaa).list.Gates.get)) hc) (zt hk (λ hk=>((wk hk (zfn (.agg (zfn (.nil _ _) (zfn (.nil _ _) zma))) (zfn (.one (.rfl _)) zma))):Wk K [.agg [.nils,.nils],.one (.int .i64 (6:Int))])) (λ hk=>((zfL hk):Wk K [.agg [.sl ((s47 zaa).list.Gates.len) 3 (λ i=>enc_48 ((s47 zaa).list.Gates.get i)),.sl ((s47 zaa).corners.len) 3 (λ i=>zaA ((s47 zaa).corners.get i))],.one (.int .i64 (0:Int))]))))) (λ hs hk=>((zfL hk):Wk K [.agg [.sl ((s47 zaa).list.Gates.len) 3 (λ i=>enc_48 ((s47 zaa).list.Gates.get i)),.sl ((s47 zaa).corners.len) 3 (λ i=>zaA ((s47 zaa).corners.get i))],.one (.int .i64 (0:Int))]))))))))
def zwQ (c0:Int) (zaa:(Sl Gate)):(set×Int) :=
  (cond (!(s28 zaa))
 ((⟨(⟨(⟨0,λ _=>default⟩:(Sl Gate))⟩:list),(⟨0,λ _=>default⟩:(Sl straight))⟩:set),(2:Int))
 (zu9 c0 zaa))
def zRf (c0:Int) (zaa:(Sl Gate)):Bool :=
  (decide ((p28 zaa=true)) &&
 (cond (!(s28 zaa))
 true
 (zva c0 zaa)))
end
theorem zTq (c0:Int) (zaa:(Sl Gate)) (K:List PA->Prop) (hs:zRf c0 zaa=true) (hk:K (zSH (zwQ c0 zaa))):vcFun Tryz.prog zSG zzR 40 [.one (.sl zaa.len 3 (λ i=>enc_48 (zaa.get i))),.one (.fn 45 [] [.fp (zam c0) 0])] (Wk K) :=
  zaM (by kernel_rfl) (zaI hs λ hc hs=>And.intro (And.intro (zE enc_48 3 zaa.get) hc) (zc hs hk (λ hs hk=>((wk hk (zfn (.agg (zfn (.nil _ _) (zfn (.nil _ _) zma))) (zfn (.one (.rfl _)) zma))):Wk K [.agg [.nils,.nils],.one (.int .i64 (2:Int))])) (λ hs hk=>(zEW hs hk))))
def zEX : List PA → COut
  | [.one (.sl zaK zbW zaL),.one (.fn 41 [] [])]=>.det (IsE enc_48 3 zbW zaL/\p40 (⟨zaK,zaf zaL⟩:(Sl Gate))=true) [.agg [.sl (((s40 (⟨zaK,zaf zaL⟩:(Sl Gate))).1).list.Gates.len) 3 (λ i=>enc_48 (((s40 (⟨zaK,zaf zaL⟩:(Sl Gate))).1).list.Gates.get i)),.sl (((s40 (⟨zaK,zaf zaL⟩:(Sl Gate))).1).corners.len) 3 (λ i=>zaA (((s40 (⟨zaK,zaf zaL⟩:(Sl Gate))).1).corners.get i))],.one (.int .i64 ((s40 (⟨zaK,zaf zaL⟩:(Sl Gate))).2))]
  | [.one (.sl zaK zbW zaL),.one (.fn 45 [] [.fp [.int .i64 c0] 0])]=>.det (IsE enc_48 3 zbW zaL/\zRf c0 (⟨zaK,zaf zaL⟩:(Sl Gate))=true) [.agg [.sl (((zwQ c0 (⟨zaK,zaf zaL⟩:(Sl Gate))).1).list.Gates.len) 3 (λ i=>enc_48 (((zwQ c0 (⟨zaK,zaf zaL⟩:(Sl Gate))).1).list.Gates.get i)),.sl (((zwQ c0 (⟨zaK,zaf zaL⟩:(Sl Gate))).1).corners.len) 3 (λ i=>zaA (((zwQ c0 (⟨zaK,zaf zaL⟩:(Sl Gate))).1).corners.get i))],.one (.int .i64 ((zwQ c0 (⟨zaK,zaf zaL⟩:(Sl Gate))).2))]
  | _=>.no
theorem zNL:zah Tryz.prog 40:=⟨_,rfl,rfl,by kernel_rfl⟩
theorem zSI:Ok Tryz.prog 40 zEX:=zgQ zRe zNL λ args K h=>by
  unfold zEX at h
  split at h
  · rename_i zaK zbW zaL
    obtain⟨⟨⟨rfl,zbn,rfl⟩,hs⟩,hk⟩:=h
    try rw[zae zbn] at hs
    try rw[zae zbn] at hk
    exact⟨_,zgx zgP _,(λ _ _=>[]),(λ _=>false),zIK,q40 (⟨zaK,zbn⟩:(Sl Gate)) K hs hk⟩
  · rename_i zaK zbW zaL c0
    obtain⟨⟨⟨rfl,zbn,rfl⟩,hs⟩,hk⟩:=h
    try rw[zae zbn] at hs
    try rw[zae zbn] at hk
    exact⟨_,zgx zgP _,(λ _ _=>[]),(λ _=>false),zzR,zTq c0 (⟨zaK,zbn⟩:(Sl Gate)) K hs hk⟩
  · exact h.elim
abbrev T64:Tabs:=Tabs.nil
theorem zRg:TabsOk Tryz.prog T64:=TabsOk.nil
abbrev G64:Ctrs:=csm T64 (λ _ _=>[]) (λ _=>false)
def zIM:Ann:=⟨8,[(0,zK [0] []),(1,zK [0,4] []),(2,zK [2] []),(3,zK [2] [5])],
 [],
 [],
 [],[]⟩
theorem zIN (n : Nat) (get : Nat → List PV) : zyl Tryz.prog G64 zIM 64 [.one (.sl n 3 get)] 81 3 24 n get =
  ((True)/\(∃ r1:Bool,(n ≠ 0->r1=false))/\∀ r1:Bool,(n ≠ 0->r1=false) ->
 (zc7 r1
 (True/\n=0)
 ((((0+n) * 24<=140737488355328/\0+n<=9223372036854775807)) /\
 (True/\81=81/\3=3/\24=24/\(0+n)=n/\∀ i,i < n->(appG 0 (zet []) get) i=get i)))):=by kernel_rfl
abbrev zNM:OwnK:=.clone 81 3 24
theorem zNN:zah Tryz.prog 64:=⟨_,rfl,rfl,by kernel_rfl⟩
theorem zTr:zhQ Tryz.prog 64 zNM:=zyp zRg zNN λ n get h1 h2=>by
  refine⟨λ _ _=>[],λ _=>false,zIM,?_⟩
  show zyl Tryz.prog G64 zIM 64 _ _ _ _ _ _
  rw[zIN]
  refine⟨trivial,⟨decide (n=0),λ h=>decide_eq_false h⟩,λ r1 hr=>?_⟩
  cases r1
  · refine⟨⟨by omega,by omega⟩,trivial,rfl,rfl,rfl,Nat.zero_add n,λ i _=>rfl⟩
  · exact⟨trivial,Classical.byContradiction λ h=>by simpa using hr h⟩
end Go.Proofs
namespace Go.Pm
section perm
variable {c:Nat->Nat->Int}
theorem zja (x : Nat) : ∀ l : List Nat, (zDV c x l).Perm (x :: l)
  | []=>.refl _
  | y :: r=>by
    unfold zDV
    split
    · exact .refl _
    · exact ((zja x r).cons y).trans (.swap _ _ _)
theorem zeQ (n:Nat):(zfu n c).Perm (List.range n):=by
 unfold zfu
 generalize List.range n=l
 induction l with
 | nil=>exact .refl _
 | cons x l ih=>exact (zja x _).trans (ih.cons x)
def leB (c:Nat->Nat->Int) (a b:Nat):Prop:=¬ c b a < 0
theorem zzS {n : Nat} (H : STO n c) {x : Nat} (hx : x < n) : ∀ {l : List Nat}, (∀ y ∈ l, y < n) → l.Pairwise (leB c) → (zDV c x l).Pairwise (leB c)
  | [],_,_=>by simp[zDV]
  | y :: r,hl,hp=>by
    have hy:=hl y dqj
    rw[List.pairwise_cons] at hp
    unfold zDV
    split
    · rename_i h
      have h:=of_decide_eq_true h
      rw[List.pairwise_cons]
      refine⟨λ z hz=>?_,List.pairwise_cons.2 hp⟩
      have hxy:leB c x y:=λ h2=>by
        have:=H.1 x hx
        have:=H.2.2 x y x hx hy hx h h2
        omega
      rcases dqq.1 hz with rfl | hz
      · exact hxy
      · intro h2
        exact hp.1 z hz (H.2.2 z x y (hl z (dqf _ hz)) hx hy h2 h)
    · rename_i h
      have h:=of_decide_eq_false h
      rw[List.pairwise_cons]
      refine⟨λ z hz=>?_,zzS H hx (λ z hz=>hl z (dqf _ hz)) hp.2⟩
      rcases dqq.1 ((zja x r).mem_iff.1 hz) with rfl | hz
      · exact h
      · exact hp.1 z hz
theorem zvb {n:Nat}(H:STO n c):(zfu n c).Pairwise (leB c):=by
 have key:∀ l:List Nat,(∀ y∈l,y < n)->(l.foldr (zDV c) []).Pairwise (leB c)/\∀ y∈l.foldr (zDV c) [],y < n:=by
  intro l
  induction l with
  | nil=>intro _;exact⟨List.Pairwise.nil,λ y hy=>by simp at hy⟩
  | cons x l ih =>
   intro h
   obtain⟨h1,h2⟩:=ih λ y hy=>h y (dqf _ hy)
   have hx:=h x dqj
   refine⟨zzS H hx h2 h1,λ y hy=>?_⟩
   rcases dqq.1 ((zja x _).mem_iff.1 hy) with rfl | hy
   ·exact hx
   ·exact h2 y hy
 exact (key _ λ y hy=>List.mem_range.1 hy).1
theorem zn1 {n:Nat}(H:STO n c){l:List Nat}(hp:l.Perm (List.range n)) (hs:l.Pairwise (leB c)):l=zfu n c:=by
 refine List.Perm.eq_of_pairwise (le:=leB c) (λ a b ha hb h1 h2=>?_) hs (zvb H) (hp.trans (zeQ n).symm)
 have ha:=List.mem_range.1 (hp.mem_iff.1 ha)
 have hb:=List.mem_range.1 ((zeQ n).mem_iff.1 hb)
 by_cases e:a=b
 ·exact e
 ·rcases H.2.1 a b ha hb e with h | h
  ·exact absurd h.1 h2
  ·exact absurd h.1 h1
end perm
end Go.Pm
namespace Go.Pm
variable [DrawZ]
open Go.Shelf Go.RowKit Go.Lib Go.Sort Go.Proofs


theorem zzT {w w':World}(h1:w'.heap=w.heap) (h2:w'.tape=w.tape) (h3:w'.drawn=w.drawn) (h4:w'.os=w.os) (h5:w'.output=w.output):w'=w:=by
 cases w;cases w';simp_all
theorem zvc {w w':World}{h:Fz}(b : @Bel ⟨1⟩ h w.heap.size w w') (hi:∀ k F,h k ≠ some (.inv F)):∃ q os,w'=grow (w.drewN q) os:=by
 obtain⟨bos,btape,bout,bsize,bdrawn,bblock⟩:=b
 refine⟨w'.drawn - w.drawn,w'.heap.extract w.heap.size w'.heap.size,zzT ?_ btape ?_ bos bout⟩
 ·show w'.heap = w.heap ++ w'.heap.extract w.heap.size w'.heap.size
  apply Array.ext_getElem?
  intro i
  rw[Array.getElem?_append]
  split
  ·rename_i hl;exact bblock i hl (λ F=>hi i F)
  ·rename_i hl
   rw[Array.getElem?_extract]
   by_cases hlt:i < w'.heap.size
   ·rw[if_pos (by omega)];congr 1;omega
   ·rw[if_neg (by omega),Array.getElem?_eq_none (by omega)]
 ·show w'.drawn = w.drawn + (w'.drawn - w.drawn)
  have:w.drawn * 1<=w'.drawn * 1:=bdrawn
  omega

theorem zqE {w : World} {g q : Nat} {cur : Array Value} {e : TypeId} {fr : Nat × Nat} {off : Nat} (F : Array Value) (hb : w.heap[g]? = some (.cells cur e fr)) :
  ∃ cur',(putRow id (Sort.ahead w q) g off F).heap[g]? = some (.cells cur' e fr)/\cur'.size=cur.size:=by
 refine⟨putCells id off F cur,?_,by simp[putCells]⟩
 simp[putRow,mapBlock,Sort.ahead,Array.getElem?_modify,hb,onCells]
theorem zmn {w:World}{g q off:Nat}(F:Array Value){k:Nat}(hk:k ≠ g):(putRow id (Sort.ahead w q) g off F).heap[k]? = w.heap[k]?:=by
 simp[putRow,mapBlock,Sort.ahead,Array.getElem?_modify,Ne.symm hk]

theorem zzU {P:Program}{ρ:Ren}(L:SlLaysF0.n6 P ρ){e s b:Nat}(he:ρ.t 24=e) (hag:zft P e=some true) (hsz:szT P e=some s) (hM : ¬ zny) (hc:zah P (ρ.f 6)):zhQ P (ρ.f 6) (.sort e s b):=by
 intro w h base v n get gf caps cv ag C hC hcv hag' _ hpos ⟨xs,hown,hr⟩ hone hw hgl hob hbase hn hS hO
 rw[hag] at hag';simp only[dqa] at hag';subst hag'
 refine⟨hc,?_⟩
 have hni:∀ k F,h k ≠ some (.inv F):=λ k F hk=>by obtain⟨o,_,ho⟩:=hw k _ hk;exact hM ho.2
 have hdr:∀ (w':World) (k:Nat),w.drawn<=w.drawn+k:=λ _ k=>Nat.le_add_right _ _
 have none:∀ (p:Option Addr) (cap:Nat),n=0->v=.slice p 0 cap->Calls P (ρ.f 6) #[v,.func (.func gf) #[] cv.toArray] w λ r w'=>r=.returned (.tuple #[])/\zun h w' base e s v n (zgz n (zpL C caps true get) get)/\GrB w w' v.ownBlock:=by
  rintro p cap rfl rfl
  refine (AnyF.slices_SortFunc_none L p cap _ w).mono ?_
  rintro r w' ⟨rfl,rfl⟩
  exact⟨rfl,⟨xs,hown,λ i hi=>absurd hi (dqW i)⟩,⟨rfl,rfl,rfl,dqt _,λ _ _ _=>rfl⟩,dqt _⟩
 rcases hown.2 with ⟨h1,h2⟩ | ⟨blk,cap,cur,rfl,hb,hcell,hncap,hcap,hcs,htk⟩
 ·exact none _ _ h2 h1
 by_cases hn0:n=0
 ·subst hn0;exact none _ _ rfl rfl
 have:Inhabited (Fin n):=⟨⟨0,by omega⟩⟩
 let enc:Fin n->List Value:=λ i=>(xs.drop (i.val * s)).take s
 let c:=zpL C caps true get
 let cf:Fin n->Fin n->Int:=λ x y=>c x.val y.val
 let d:Array (Fin n):=Array.ofFn id
 have hds:d.size=n:=Array.size_ofFn
 have hdi:∀ i (hi:i < n),d[i]! = ⟨i,hi⟩:=λ i hi=>by
  rw[getElem!_pos d i (by rw[hds];exact hi)];simp[d]
 have hlt:blk < w.heap.size:=(dqp.1 hcell).1
 have hbn:h blk=Option.none:=hob blk rfl
 have hmul:∀ i,i < n->i * s+s<=n * s:=λ i hi=>by have:=dqw s (Nat.succ_le_of_lt hi);rw[dqV] at this;exact this
 have hk:∀ x,(enc x).length=s:=λ x=>by
  have:=hmul x.val x.isLt
  simp only[enc,List.length_take,List.length_drop,hown.1];omega
 have hcur:∀ j,j < n * s->cur[j]? = xs[j]?:=λ j hj=>by
  have:(cur.toList.take (n * s))[j]? = xs[j]?:=by rw[htk]
  rw[dqs,if_pos hj] at this;simpa using this
 have hxl:∀ j,j < n * s->∃ u,xs[j]? = some u:=λ j hj=>⟨xs[j]'(by rw[hown.1];exact hj),dqD _⟩
 have h1:∀ x,∀ u∈enc x,u.oneCell'=true:=λ x u hu=>by
  obtain⟨j,hj⟩:=List.getElem?_of_mem hu
  obtain⟨p,_,hp⟩:=(hr x.val x.isLt).get' j u hj
  exact hp.one
 have hflat:∀ j (hj:j < n * s),(flatK enc s d)[j]! = xs[j]'(by rw[hown.1];exact hj):=λ j hj=>by
  have hq:j / s < n:=Nat.div_lt_of_lt_mul (by rw[Nat.mul_comm];exact hj)
  rw[get_flatK _ _ _ _ (by rw[hds];exact hj),hdi _ hq]
  have hm:=Nat.mod_lt j hpos
  have hdm:=Nat.div_add_mod j s
  rw[getElem!_pos _ _ (by rw[hk];exact hm)]
  simp only[enc,List.getElem_take,List.getElem_drop]
  congr 1
  rw[Nat.mul_comm];exact hdm
 have hH:HoldsK enc s w blk 0 d:=λ j hj=>by
  have hj:j < n * s:=by rw[size_flatK,hds] at hj;exact hj
  refine⟨?_,frozen_of_row w blk _ cur e hcell⟩
  rw[hflat j hj,cell_of hcell,Nat.zero_add,hcur j hj]
  exact dqD _
 have eg:∀ args w,(callFunc gf args).run P w=.ok (.enter gf args) w:=by
  have hcg:zah P gf:=by
   have hs0:=hS 0 0 (by omega) (by omega)
   unfold zwW at hs0
   split at hs0
   ·rename_i s0 c0 hat
    have hwp:(C (elP true (get 0) :: elP true (get 0) :: caps.map .one)).wp (λ _=>True):=by
     unfold zwb at hat
     split at hat
     ·rename_i e1;rw[e1];trivial
     ·rename_i e1;simp only[dqa,dqh] at hat;rw[e1];exact⟨by rw[hat.1];exact hs0,trivial⟩
     ·cases hat
    exact (hC _ _ hwp w h (.agg (enc ⟨0,by omega⟩).toArray :: .agg (enc ⟨0,by omega⟩).toArray :: cv) ⟨⟨_,rfl,hr 0 (by omega)⟩,⟨_,rfl,hr 0 (by omega)⟩,RL.map_left.2 hcv⟩ hw hgl).1
   ·exact hs0.elim
  exact λ args w=>zbG hcg
 have hcmp:CmpLays P gf cv.toArray enc s cf blk 0 d.size w:=by
  intro m os dk hdk x y
  have hs0:=hS x.val y.val x.isLt y.isLt
  unfold zwW at hs0
  split at hs0
  ·rename_i s0 c0 hat
   have hwp:(C (elP true (get x.val) :: elP true (get y.val) :: caps.map .one)).wp (λ rs=>rs=[.one (.int .i64 (cf x y))]):=by
    have hcv:cf x y=c0:=by show zpL C caps true get x.val y.val=c0;unfold zpL;rw[hat]
    rw[hcv]
    unfold zwb at hat
    split at hat
    ·rename_i e1;simp only[dqa,dqh] at hat;rw[e1,hat.2];rfl
    ·rename_i e1;simp only[dqa,dqh] at hat;rw[e1,hat.2];exact⟨by rw[hat.1];exact hs0,rfl⟩
    ·cases hat
   have hwh:Hw h (sortWorldK enc s w blk 0 m dk os):=hw.same λ k o hk=>by
    have hkb:k ≠ blk:=λ e=>by rw[e,hbn] at hk;cases hk
    have hkl:=hw.lt hk
    show ((putRow id (Sort.ahead w m) blk 0 (flatK enc s dk)).heap ++ os)[k]? = _
    rw[Array.getElem?_append_left (by simpa [putRow,mapBlock,Sort.ahead] using hkl)]
    exact zmn _ hkb
   obtain⟨_,hrun⟩:=hC _ _ hwp (sortWorldK enc s w blk 0 m dk os) h (.agg (enc x).toArray :: .agg (enc y).toArray :: cv) ⟨⟨_,rfl,hr x.val x.isLt⟩,⟨_,rfl,hr y.val y.isLt⟩,RL.map_left.2 hcv⟩ hwh hgl
   rw[show (#[Value.agg (enc x).toArray,.agg (enc y).toArray] ++ cv.toArray)=(Value.agg (enc x).toArray :: .agg (enc y).toArray :: cv).toArray by simp]
   refine hrun.mono ?_
   rintro e' w' ⟨h',rs,v',hrs,rfl,hres,hbel,_,_,_⟩
   subst hrs
   have hv':v'=.int .i64 (cf x y):=by
    have:Rep h' (.int .i64 (cf x y)) v':=hres
    cases this;rfl
   subst hv'
   exact⟨rfl,zvc hbel hni⟩
  ·exact hs0.elim
 have hSWO:SWO (ltOf cf):=by
  refine⟨λ x=>?_,λ x y z hxy hyz=>?_,λ x y z hxy hyz=>?_⟩
  ·have : 0 ≤ c x.val x.val := hO.1 x.val x.isLt
   simp only[ltOf,decide_eq_false_iff_not];show ¬ c x.val x.val < 0;omega
  ·simp only [ltOf, decide_eq_true_eq] at hxy hyz ⊢
   exact hO.2.2 _ _ _ x.isLt y.isLt z.isLt hxy hyz
  ·simp only [ltOf, decide_eq_false_iff_not] at hxy hyz ⊢
   intro hxz
   have hxy : ¬ c x.val y.val < 0:=hxy
   have hyz : ¬ c y.val z.val < 0:=hyz
   have hxz:c x.val z.val < 0:=hxz
   by_cases e1:y.val=z.val
   ·rw[e1] at hxy;exact hxy hxz
   ·by_cases e2 : x.val = y.val
    ·rw[e2] at hxz;exact hyz hxz
    ·have a1 : c z.val y.val < 0 := by rcases hO.2.1 y.val z.val y.isLt z.isLt e1 with h | h; exact absurd h.1 hyz; exact h.1
     exact hxy (hO.2.2 _ _ _ x.isLt z.isLt y.isLt hxz a1)
 have aE:∀ w,(isAgg (ρ.t 24)).run P w=.ok true w:=λ w=>by rw[he];exact zeY hag
 have zE:∀ w,(Go.sizeOf (ρ.t 24)).run P w=.ok s w:=λ w=>by rw[he];exact run_sizeOf hsz
 have hrun:=AnyQ.slices_SortFunc L s aE zE enc hk h1 cf hSWO gf cv.toArray blk 0 cap d w eg hcmp hH hlt (by rw[hds];omega)
 rw[hds] at hrun
 refine hrun.mono ?_
 rintro r w' ⟨rfl,d',m,os,hperm,hsort,rfl⟩
 obtain⟨hps,_,hpp⟩:=hperm
 have hd's:d'.size=n:=by rw[hps,hds]
 have hall:∀ (z:Array (Fin n)),z.size=n->z.extract 0 n=z:=λ z hz=>Array.ext (by simp[hz]) (λ i h1 h2=>by simp)
 rw[hall d' hd's,hall d hds] at hpp
 have hl:d'.toList.map Fin.val=zfu n c:=by
  refine zn1 hO ?_ ?_
  ·refine (hpp.map Fin.val).trans ?_
   have:d.toList.map Fin.val=List.range n:=by
    apply List.ext_getElem?
    intro i
    simp only[d,dqH]
    by_cases hi:i < n
    ·simp[hi]
    ·rw[dqM (by simp;omega),dqM (by simp;omega)];rfl
   rw[this]
  ·rw [List.pairwise_map, List.pairwise_iff_getElem]
   intro i j hi hj hij
   have hi':i < n:=by simpa [hd's] using hi
   have hj':j < n:=by simpa [hd's] using hj
   have:=hsort i j (Nat.zero_le _) hij hj'
   rw[getElem!_pos d' j (by omega),getElem!_pos d' i (by omega)] at this
   simp only[ltOf,decide_eq_false_iff_not] at this
   exact this
 have hget:∀ i (hi:i < n),zgz n c get i=get (d'[i]'(by omega)).val:=λ i hi=>by
  unfold zgz
  rw[<- hl]
  congr 1
  rw[List.getD_eq_getElem?_getD,dqH]
  simp[hd's,hi]
 obtain⟨cur',hcell',hsz'⟩:=zqE (q:=m) (off:=0) (flatK enc s d') hcell
 have hgrow:(sortWorldK enc s w blk 0 m d' os).heap[blk]? = some (.cells cur' e (0,0)):=by
  show ((putRow id (Sort.ahead w m) blk 0 (flatK enc s d')).heap ++ os)[blk]? = _
  rw[Array.getElem?_append_left (by simpa [putRow,mapBlock,Sort.ahead] using hlt)]
  exact hcell'
 have hH':HoldsK enc s (sortWorldK enc s w blk 0 m d' os) blk 0 d':=holdsK_sortWorldK_c enc s w blk 0 d d' m os hH hlt (by rw[hd's,hds])
 have hcur':∀ j (hj:j < n * s),cur'[j]? = some ((flatK enc s d')[j]!):=λ j hj=>by
  have:=(hH' j (by rw[size_flatK,hd's];exact hj)).1
  rw[cell_of hgrow,Nat.zero_add] at this
  exact this
 refine⟨rfl,⟨cur'.toList.take (n * s),⟨by rw[List.length_take,Array.length_toList,hsz',hcs];exact Nat.min_eq_left (dqw s hncap),.inr ⟨blk,cap,cur',rfl,hb,hgrow,hncap,hcap,by rw[hsz',hcs],rfl⟩⟩,λ i hi=>?_⟩,?_⟩
 ·have e1:((cur'.toList.take (n * s)).drop (i * s)).take s=enc (d'[i]'(by omega)):=by
   apply List.ext_getElem?
   intro j
   have hm:=hmul i hi
   rw[dqs]
   split
   ·rename_i hj
    rw[dqI,dqs,if_pos (by omega),Array.getElem?_toList,hcur' _ (by omega)]
    have hdiv:(i * s+j) / s=i:=by rw[Nat.mul_comm,Nat.mul_add_div hpos,Nat.div_eq_of_lt hj,Nat.add_zero]
    have hmod:(i * s+j) % s=j:=by rw[Nat.mul_comm,Nat.mul_add_mod,Nat.mod_eq_of_lt hj]
    rw[get_flatK _ _ _ _ (by rw[hd's];omega),hdiv,hmod,getElem!_pos d' i (by omega),getElem!_pos _ _ (by rw[hk];exact hj)]
    exact (dqD _).symm
   ·rename_i hj
    rw[dqM (by rw[hk];omega)]
  rw[e1,hget i hi]
  exact hr _ (d'[i]'(by omega)).isLt
 ·refine ⟨⟨rfl, rfl, rfl, ?_, fun k hk hne => ?_⟩, zkt (Nat.le_add_right _ _)⟩
  ·show w.heap.size ≤ ((putRow id (Sort.ahead w m) blk 0 (flatK enc s d')).heap ++ os).size
   simp[putRow,mapBlock,Sort.ahead]
  ·show ((putRow id (Sort.ahead w m) blk 0 (flatK enc s d')).heap ++ os)[k]? = _
   rw[Array.getElem?_append_left (by simpa [putRow,mapBlock,Sort.ahead] using hk)]
   exact zmn _ λ e=>hne (by rw[e];rfl)
end Go.Pm
/-
  DERIVED: THE SHELF's CONTRACTS AT THIS DUMP,IN PLAIN WORDS (tools/lay-plain.mjs out of 'YtkilnbolehhcnaaGreatLayA.lean',which tools/lay-shelf.mjs wrote): THE SAME DECLARATIONS UNDER THE SAME NAMES: 'import','namespace','open','def','theorem' AND NOTHING ELSE: no command of the shelf's: FOR A HAND-IN. Each laying: the table of numbers ('.._ren') and one theorem,a field a fact of the dump's own or the kernel's comparison;each contract: ONE APPLICATION.
-/
namespace Go.Proofs
open Go.Shelf
def Tryz.laysS65_ren:Go.Shelf.Ren:=⟨fun | 6=>65 | 15=>80 | 14=>82 | 28=>99 | 29=>100 | 20=>101 | 21=>102 | 22=>103 | 23=>104 | 24=>105 | 25=>106 | 26=>107 | 27=>108 | 46=>114 | 47=>110 | 48=>111 | 49=>115 | 50=>116 | 57=>118 | n=>n,fun | 22=>73 | 24=>81 | 25=>105 | 3=>3 | 39=>117 | 0=>0 | 53=>134 | 55=>136 | 4=>4 | 46=>127 | 45=>126 | 50=>131 | 5=>5 | 9=>9 | 66=>142 | 70=>146 | 76=>150 | 77=>100 | n=>n,fun | n=>n⟩
theorem Tryz.laysS65 : Go.Proofs.SlLaysF0.n6 Tryz.prog Tryz.laysS65_ren := {
  mixed:=by kernel_rfl
  f6:=⟨Tryz.f65.name,by decide,Tryz.func65.trans (congrArg some (by kernel_rfl))⟩
  f14:=⟨Tryz.f82.name,by decide,Tryz.func82.trans (congrArg some (by kernel_rfl))⟩
  f15:=Tryz.func80.trans (congrArg some (by kernel_rfl))
  f20:=⟨Tryz.f101.name,by decide,Tryz.func101.trans (congrArg some (by kernel_rfl))⟩
  f21:=⟨Tryz.f102.name,by decide,Tryz.func102.trans (congrArg some (by kernel_rfl))⟩
  f22:=⟨Tryz.f103.name,by decide,Tryz.func103.trans (congrArg some (by kernel_rfl))⟩
  f23:=⟨Tryz.f104.name,by decide,Tryz.func104.trans (congrArg some (by kernel_rfl))⟩
  f24:=⟨Tryz.f105.name,by decide,Tryz.func105.trans (congrArg some (by kernel_rfl))⟩
  f25:=⟨Tryz.f106.name,by decide,Tryz.func106.trans (congrArg some (by kernel_rfl))⟩
  f26:=⟨Tryz.f107.name,by decide,Tryz.func107.trans (congrArg some (by kernel_rfl))⟩
  f27:=⟨Tryz.f108.name,by decide,Tryz.func108.trans (congrArg some (by kernel_rfl))⟩
  f28:=Tryz.func99.trans (congrArg some (by kernel_rfl))
  f29:=Tryz.func100.trans (congrArg some (by kernel_rfl))
  f46:=⟨Tryz.f114.name,by decide,Tryz.func114.trans (congrArg some (by kernel_rfl))⟩
  f47:=Tryz.func110.trans (congrArg some (by kernel_rfl))
  f48:=Tryz.func111.trans (congrArg some (by kernel_rfl))
  f49:=⟨Tryz.f115.name,by decide,Tryz.func115.trans (congrArg some (by kernel_rfl))⟩
  f50:=⟨Tryz.f116.name,by decide,Tryz.func116.trans (congrArg some (by kernel_rfl))⟩
  f57:=⟨Tryz.f118.name,by decide,Tryz.func118.trans (congrArg some (by kernel_rfl))⟩
  t0:=Tryz.underlying0
  a0:=Tryz.isAgg0
  z0:=Tryz.sizeOf0
  v0:=Tryz.zeroValue0
  t3:=Tryz.underlying3
  a3:=Tryz.isAgg3
  z3:=Tryz.sizeOf3
  v3:=Tryz.zeroValue3
  t4:=Tryz.underlying4
  a4:=Tryz.isAgg4
  z4:=Tryz.sizeOf4
  v4:=Tryz.zeroValue4
  t5:=Tryz.underlying5
  a5:=Tryz.isAgg5
  z5:=Tryz.sizeOf5
  v5:=Tryz.zeroValue5
  t9:=Tryz.underlying9
  a9:=Tryz.isAgg9
  z9:=Tryz.sizeOf9
  v9:=Tryz.zeroValue9
  t22:=Tryz.underlying73
  a22:=Tryz.isAgg73
  z22:=Tryz.sizeOf73
  v22:=Tryz.zeroValue73
  t25:=Tryz.underlying105
  a25:=Tryz.isAgg105
  z25:=Tryz.sizeOf105
  v25:=Tryz.zeroValue105
  t39:=Tryz.underlying117
  a39:=Tryz.isAgg117
  z39:=Tryz.sizeOf117
  v39:=Tryz.zeroValue117
  t45:=Tryz.underlying126
  a45:=Tryz.isAgg126
  z45:=Tryz.sizeOf126
  v45:=Tryz.zeroValue126
  t46:=Tryz.underlying127
  a46:=Tryz.isAgg127
  z46:=Tryz.sizeOf127
  v46:=Tryz.zeroValue127
  t50:=Tryz.underlying131
  a50:=Tryz.isAgg131
  z50:=Tryz.sizeOf131
  v50:=Tryz.zeroValue131
  t53:=Tryz.underlying134
  a53:=Tryz.isAgg134
  z53:=Tryz.sizeOf134
  v53:=Tryz.zeroValue134
  t55:=Tryz.underlying136
  a55:=Tryz.isAgg136
  z55:=Tryz.sizeOf136
  v55:=Tryz.zeroValue136
  t66:=Tryz.underlying142
  a66:=Tryz.isAgg142
  z66:=Tryz.sizeOf142
  v66:=Tryz.zeroValue142
  t70:=Tryz.underlying146
  a70:=Tryz.isAgg146
  z70:=Tryz.sizeOf146
  v70:=Tryz.zeroValue146
  t76:=Tryz.underlying150
  a76:=Tryz.isAgg150
  z76:=Tryz.sizeOf150
  v76:=Tryz.zeroValue150
  t77:=Tryz.underlying100
  a77:=Tryz.isAgg100
  z77:=Tryz.sizeOf100
  v77:=Tryz.zeroValue100 }
def Tryz.laysS58_ren:Go.Shelf.Ren:=⟨fun | 6=>58 | 15=>80 | 14=>79 | 28=>99 | 29=>100 | 20=>91 | 21=>92 | 22=>93 | 23=>94 | 24=>95 | 25=>96 | 26=>97 | 27=>98 | 46=>109 | 47=>110 | 48=>111 | 49=>112 | 50=>113 | 57=>117 | n=>n,fun | 22=>28 | 24=>24 | 25=>32 | 3=>3 | 39=>117 | 0=>0 | 53=>134 | 55=>136 | 4=>4 | 46=>127 | 45=>126 | 50=>131 | 5=>5 | 9=>9 | 66=>142 | 70=>146 | 76=>150 | 77=>100 | n=>n,fun | n=>n⟩
theorem Tryz.laysS58 : Go.Proofs.SlLaysF.n6 Tryz.prog Tryz.laysS58_ren := {
  mixed:=by kernel_rfl
  f6:=⟨Tryz.f58.name,by decide,Tryz.func58.trans (congrArg some (by kernel_rfl))⟩
  f14:=⟨Tryz.f79.name,by decide,Tryz.func79.trans (congrArg some (by kernel_rfl))⟩
  f15:=Tryz.func80.trans (congrArg some (by kernel_rfl))
  f20:=⟨Tryz.f91.name,by decide,Tryz.func91.trans (congrArg some (by kernel_rfl))⟩
  f21:=⟨Tryz.f92.name,by decide,Tryz.func92.trans (congrArg some (by kernel_rfl))⟩
  f22:=⟨Tryz.f93.name,by decide,Tryz.func93.trans (congrArg some (by kernel_rfl))⟩
  f23:=⟨Tryz.f94.name,by decide,Tryz.func94.trans (congrArg some (by kernel_rfl))⟩
  f24:=⟨Tryz.f95.name,by decide,Tryz.func95.trans (congrArg some (by kernel_rfl))⟩
  f25:=⟨Tryz.f96.name,by decide,Tryz.func96.trans (congrArg some (by kernel_rfl))⟩
  f26:=⟨Tryz.f97.name,by decide,Tryz.func97.trans (congrArg some (by kernel_rfl))⟩
  f27:=⟨Tryz.f98.name,by decide,Tryz.func98.trans (congrArg some (by kernel_rfl))⟩
  f28:=Tryz.func99.trans (congrArg some (by kernel_rfl))
  f29:=Tryz.func100.trans (congrArg some (by kernel_rfl))
  f46:=⟨Tryz.f109.name,by decide,Tryz.func109.trans (congrArg some (by kernel_rfl))⟩
  f47:=Tryz.func110.trans (congrArg some (by kernel_rfl))
  f48:=Tryz.func111.trans (congrArg some (by kernel_rfl))
  f49:=⟨Tryz.f112.name,by decide,Tryz.func112.trans (congrArg some (by kernel_rfl))⟩
  f50:=⟨Tryz.f113.name,by decide,Tryz.func113.trans (congrArg some (by kernel_rfl))⟩
  f57:=⟨Tryz.f117.name,by decide,Tryz.func117.trans (congrArg some (by kernel_rfl))⟩
  t0:=Tryz.underlying0
  a0:=Tryz.isAgg0
  z0:=Tryz.sizeOf0
  v0:=Tryz.zeroValue0
  t3:=Tryz.underlying3
  a3:=Tryz.isAgg3
  z3:=Tryz.sizeOf3
  v3:=Tryz.zeroValue3
  t4:=Tryz.underlying4
  a4:=Tryz.isAgg4
  z4:=Tryz.sizeOf4
  v4:=Tryz.zeroValue4
  t5:=Tryz.underlying5
  a5:=Tryz.isAgg5
  z5:=Tryz.sizeOf5
  v5:=Tryz.zeroValue5
  t9:=Tryz.underlying9
  a9:=Tryz.isAgg9
  z9:=Tryz.sizeOf9
  v9:=Tryz.zeroValue9
  t22:=Tryz.underlying28
  a22:=Tryz.isAgg28
  z22:=Tryz.sizeOf28
  v22:=Tryz.zeroValue28
  a24:=Tryz.isAgg24
  z24:=Tryz.sizeOf24
  t25:=Tryz.underlying32
  a25:=Tryz.isAgg32
  z25:=Tryz.sizeOf32
  v25:=Tryz.zeroValue32
  t39:=Tryz.underlying117
  a39:=Tryz.isAgg117
  z39:=Tryz.sizeOf117
  v39:=Tryz.zeroValue117
  t45:=Tryz.underlying126
  a45:=Tryz.isAgg126
  z45:=Tryz.sizeOf126
  v45:=Tryz.zeroValue126
  t46:=Tryz.underlying127
  a46:=Tryz.isAgg127
  z46:=Tryz.sizeOf127
  v46:=Tryz.zeroValue127
  t50:=Tryz.underlying131
  a50:=Tryz.isAgg131
  z50:=Tryz.sizeOf131
  v50:=Tryz.zeroValue131
  t53:=Tryz.underlying134
  a53:=Tryz.isAgg134
  z53:=Tryz.sizeOf134
  v53:=Tryz.zeroValue134
  t55:=Tryz.underlying136
  a55:=Tryz.isAgg136
  z55:=Tryz.sizeOf136
  v55:=Tryz.zeroValue136
  t66:=Tryz.underlying142
  a66:=Tryz.isAgg142
  z66:=Tryz.sizeOf142
  v66:=Tryz.zeroValue142
  t70:=Tryz.underlying146
  a70:=Tryz.isAgg146
  z70:=Tryz.sizeOf146
  v70:=Tryz.zeroValue146
  t76:=Tryz.underlying150
  a76:=Tryz.isAgg150
  z76:=Tryz.sizeOf150
  v76:=Tryz.zeroValue150
  t77:=Tryz.underlying100
  a77:=Tryz.isAgg100
  z77:=Tryz.sizeOf100
  v77:=Tryz.zeroValue100 }
end Go.Proofs
namespace Go.Proofs
open Go Go.Pm
set_option maxRecDepth 100000
set_option linter.unusedVariables false
attribute [local irreducible] Go.Pm.vcFun Go.Pm.vc Go.Pm.vcIter
abbrev zNO:OwnK:=.sort 81 3 24
theorem zTs:zhQ Tryz.prog 65 zNO:=zzU Tryz.laysS65 rfl rfl rfl (λ h=>h) ⟨_,rfl,rfl,by kernel_rfl⟩
section
variable [DrawZ]
abbrev T90:Tabs:=Tabs.nil
theorem zRh:TabsOk Tryz.prog T90:=TabsOk.nil
abbrev G90:Ctrs:=csm T90 (λ _ _=>[]) (λ _=>false)
def zNP:Ann:=⟨6,[(0,zK [0] []),(1,zK [2] [])],
 [],
 [],
 [],[]⟩
abbrev R90:=Bool
abbrev e90 (r:R90):List PA:=[.one (.bool r)]
section
variable {K:List PA->Prop}{x:Int}
def s90 (x:Int):Bool :=
  (x != x)
end
theorem q90 (x:Int) (K:List PA->Prop) (hk:K (e90 (s90 x))):vcFun Tryz.prog G90 zNP 90 [.one (.int .i64 x)] K :=
  zaM (by kernel_rfl) hk
def zIO : List PA → COut
  | [.one (.int .i64 a0)]=>.tot [.one (.bool (s90 a0))]
  | _=>.no
theorem zNQ:zah Tryz.prog 90:=⟨_,rfl,rfl,by kernel_rfl⟩
theorem zTt:Ok Tryz.prog 90 zIO:=zaV zRh zNQ λ args K h=>by
  unfold zIO at h
  split at h
  · rename_i a0
    have hk:=h
    exact⟨(λ _ _=>[]),(λ _=>false),zNP,q90 a0 K hk⟩
  · exact h.elim
end

section
variable [DrawZ]
abbrev T76:Tabs:=(Tabs.nil.addF 90 zIO)
theorem zRi:TabsOk Tryz.prog T76:=(TabsOk.nil.addF zTt)
abbrev G76:Ctrs:=csm T76 (λ _ _=>[]) (λ _=>false)
def zNR:Ann:=⟨20,[(0,zK [0,1] []),(1,zK [0,1,5] []),(2,zK [0,1,5,6] []),(3,zK [0,1,6,11] []),(4,zK [12] []),(5,zK [4] []),(6,zK [4] []),(7,zK [0,1,13] []),(8,zK [4] []),(9,zK [0,1,16] []),(10,zK [4] []),(11,zK [19] []),(12,zK [4] []),(13,zK [4] [])],
 [],
 [],
 [],[]⟩
abbrev R76:=Int
abbrev e76 (r:R76):List PA:=[.one (.int .i64 r)]
section
variable {K:List PA->Prop}{x:Int}{y_a1:Int}
def s76 (x:Int) (y_a1:Int):Int :=
  (cond (s90 x)
 (cond (s90 y_a1)
 (0:Int)
 (-1:Int))
 (cond (s90 y_a1)
 (1:Int)
 (cond (decide (x < y_a1))
 (-1:Int)
 (cond (decide (x > y_a1))
 (1:Int)
 (0:Int)))))
end
theorem q76 (x:Int) (y_a1:Int) (K:List PA->Prop) (hk:K (e76 (s76 x y_a1))):vcFun Tryz.prog G76 zNR 76 [.one (.int .i64 x),.one (.int .i64 y_a1)] K :=
  zaM (by kernel_rfl) (zt hk (λ hk=>(zt hk (λ hk=>hk) (λ hk=>hk))) (λ hk=>(zt hk (λ hk=>hk) (λ hk=>(zt hk (λ hk=>hk) (λ hk=>(zt hk (λ hk=>hk) (λ hk=>hk))))))))
def zEY : List PA → COut
  | [.one (.int .i64 a0),.one (.int .i64 a1)]=>.tot [.one (.int .i64 (s76 a0 a1))]
  | _=>.no
theorem zNS:zah Tryz.prog 76:=⟨_,rfl,rfl,by kernel_rfl⟩
theorem zSJ:Ok Tryz.prog 76 zEY:=zaV zRi zNS λ args K h=>by
  unfold zEY at h
  split at h
  · rename_i a0 a1
    have hk:=h
    exact⟨(λ _ _=>[]),(λ _=>false),zNR,q76 a0 a1 K hk⟩
  · exact h.elim
end

section
variable [DrawZ]
abbrev T50:Tabs:=(Tabs.nil.addF 76 zEY)
theorem zRj:TabsOk Tryz.prog T50:=(TabsOk.nil.addF zSJ)
abbrev G50:Ctrs:=csm T50 (λ _ _=>[]) (λ _=>false)
def zNT:Ann:=⟨16,[(0,zK [2,3] [2,3]),(1,zK [4] [])],
 [],
 [],
 [],[]⟩
abbrev R50:=Int
abbrev e50 (r:R50):List PA:=[.one (.int .i64 r)]
section
variable {K:List PA->Prop}{a:Frac}{b:Frac}
def s50 (a:Frac) (b:Frac):Int :=
  (s76 (w64 (a.Num * b.Den)) (w64 (b.Num * a.Den)))
end
theorem q50 (a:Frac) (b:Frac) (K:List PA->Prop) (hk:K (e50 (s50 a b))):vcFun Tryz.prog G50 zNT 50 [.agg (zal a),.agg (zal b)] K :=
  zaM (by kernel_rfl) hk
def zwJ : List PA → COut
  | [.agg [.int .i64 zgT,.int .i64 zgU],.agg [.int .i64 zgV,.int .i64 zgW]]=>.tot [.one (.int .i64 (s50 (⟨zgT,zgU⟩:Frac) (⟨zgV,zgW⟩:Frac)))]
  | _=>.no
theorem zNU:zah Tryz.prog 50:=⟨_,rfl,rfl,by kernel_rfl⟩
theorem zQk:Ok Tryz.prog 50 zwJ:=zaV zRj zNU λ args K h=>by
  unfold zwJ at h
  split at h
  · rename_i zgT zgU zgV zgW
    have hk:=h
    exact⟨(λ _ _=>[]),(λ _=>false),zNT,q50 (⟨zgT,zgU⟩:Frac) (⟨zgV,zgW⟩:Frac) K hk⟩
  · exact h.elim
end

section
variable [DrawZ]
abbrev T67:Tabs:=(Tabs.nil.addF 74 zyE)
theorem zRk:TabsOk Tryz.prog T67:=(TabsOk.nil.addF zQZ)
abbrev G67:Ctrs:=csm T67 (λ _ _=>[]) (λ _=>false)
def zNV:Ann:=⟨10,[(0,zK [2,3] [2,3]),(1,zK [4] [])],
 [],
 [],
 [],[]⟩
abbrev R67:=Bool
abbrev e67 (r:R67):List PA:=[.one (.bool r)]
section
variable {K:List PA->Prop}{s:set}{x:straight}
def s67 (s:set) (x:straight):Bool :=
  (zQX x s.list.Gates)
def p67 (s:set) (x:straight):Bool :=
  (decide ((zQY x s.list.Gates=true)) &&
 true)
end
theorem q67 (s:set) (x:straight) (K:List PA->Prop) (hs:p67 s x=true) (hk:K (e67 (s67 s x))):vcFun Tryz.prog G67 zNV 67 [.agg (zcv s),.agg (zaA x)] K :=
  zaM (by kernel_rfl) (zaI hs λ hc hs=>And.intro (And.intro (zE enc_48 3 s.list.Gates.get) hc) hk)
def zIP : List PA → COut
  | [.agg [.sl zai zaJ zaj,.sl zat zbd zau],.agg [.int .i64 zci,.int .i64 zcj,.int .i64 zdN]]=>.det (IsE enc_48 3 zaJ zaj/\IsE zaA 3 zbd zau/\p67 (⟨(⟨(⟨zai,zaf zaj⟩:(Sl Gate))⟩:list),(⟨zat,zcA zau⟩:(Sl straight))⟩:set) (⟨zci,zcj,zdN⟩:straight)=true) [.one (.bool (s67 (⟨(⟨(⟨zai,zaf zaj⟩:(Sl Gate))⟩:list),(⟨zat,zcA zau⟩:(Sl straight))⟩:set) (⟨zci,zcj,zdN⟩:straight)))]
  | _=>.no
theorem zNW:zah Tryz.prog 67:=⟨_,rfl,rfl,by kernel_rfl⟩
theorem zTu:Ok Tryz.prog 67 zIP:=zaV zRk zNW λ args K h=>by
  unfold zIP at h
  split at h
  · rename_i zai zaJ zaj zat zbd zau zci zcj zdN
    obtain⟨⟨⟨rfl,zas,rfl⟩,⟨rfl,zaP,rfl⟩,hs⟩,hk⟩:=h
    try rw[zae zas] at hs
    try rw[zae zas] at hk
    try rw[zbP zaP] at hs
    try rw[zbP zaP] at hk
    exact⟨(λ _ _=>[]),(λ _=>false),zNV,q67 (⟨(⟨(⟨zai,zas⟩:(Sl Gate))⟩:list),(⟨zat,zaP⟩:(Sl straight))⟩:set) (⟨zci,zcj,zdN⟩:straight) K hs hk⟩
  · exact h.elim
end

section
variable [DrawZ]
abbrev T66:Tabs:=(((Tabs.nil.addF 50 zwJ).addF 67 zIP).addF 68 zwI)
theorem zRl:TabsOk Tryz.prog T66:=(((TabsOk.nil.addF zQk).addF zTu).addF zQg)
abbrev G66:Ctrs:=csm T66 (λ _ _=>[]) (λ _=>false)
def zNX:Ann:=⟨38,[(0,zK [2,3,4] [3,4]),(1,zK [3,4,6,7] [3,4]),(2,zK [6,7,8] []),(3,zK [6,7,8,26] []),(4,zK [5] []),(5,zK [7,8,32] []),(6,zK [5] []),(7,zK [8,34] []),(8,zK [5] []),(9,zK [5] [])],
 [],
 [],
 [],[]⟩
abbrev R66:=Int
abbrev e66 (r:R66):List PA:=[.one (.int .i64 r)]
section
variable {K:List PA->Prop}{c0:set}{a:straight}{b:straight}
def s66 (c0:set) (a:straight) (b:straight):Int :=
  (cond (s67 c0 a)
 (cond (s67 c0 b)
 (s50 (s68 a.slope a.den) (s68 b.slope b.den))
 (cond (s67 c0 a)
 (-1:Int)
 (cond (s67 c0 b)
 (1:Int)
 (w64 (0 - (s50 (s68 a.slope a.den) (s68 b.slope b.den)))))))
 (cond (s67 c0 a)
 (-1:Int)
 (cond (s67 c0 b)
 (1:Int)
 (w64 (0 - (s50 (s68 a.slope a.den) (s68 b.slope b.den)))))))
def p66 (c0:set) (a:straight) (b:straight):Bool :=
  (decide ((p67 c0 a=true)) &&
 (decide ((p67 c0 b=true)) &&
 (decide ((p68 a.slope a.den=true)) &&
 (decide ((p68 b.slope b.den=true)) &&
 true))))
end
theorem q66 (c0:set) (a:straight) (b:straight) (K:List PA->Prop) (hs:p66 c0 a b=true) (hk:K (e66 (s66 c0 a b))):vcFun Tryz.prog G66 zNX 66 [.agg (zaA a),.agg (zaA b),.one (.fp (zcv c0) 0)] K :=
  zaM (by kernel_rfl) (zaI hs λ hc hs=>And.intro (And.intro (zE enc_48 3 c0.list.Gates.get) (And.intro (zE zaA 3 c0.corners.get) hc)) (zaI hs λ hc hs=>And.intro (And.intro (zE enc_48 3 c0.list.Gates.get) (And.intro (zE zaA 3 c0.corners.get) hc)) (zaI hs λ hc hs=>And.intro hc (zaI hs λ hc hs=>And.intro hc (zt hk (λ hk=>(zt hk (λ hk=>hk) (λ hk=>(zt hk (λ hk=>hk) (λ hk=>(zt hk (λ hk=>hk) (λ hk=>hk))))))) (λ hk=>(zt hk (λ hk=>hk) (λ hk=>(zt hk (λ hk=>hk) (λ hk=>hk))))))))))
def zzV : List PA → COut
  | [.agg [.int .i64 zbu,.int .i64 zbv,.int .i64 zc0],.agg [.int .i64 zci,.int .i64 zcj,.int .i64 zdN],.one (.fp [.sl c0_list_Gates_n c0_list_Gates_s c0_list_Gates_g,.sl c0_corners_n c0_corners_s c0_corners_g] 0)]=>.det (IsE enc_48 3 c0_list_Gates_s c0_list_Gates_g/\IsE zaA 3 c0_corners_s c0_corners_g/\p66 (⟨(⟨(⟨c0_list_Gates_n,zaf c0_list_Gates_g⟩:(Sl Gate))⟩:list),(⟨c0_corners_n,zcA c0_corners_g⟩:(Sl straight))⟩:set) (⟨zbu,zbv,zc0⟩:straight) (⟨zci,zcj,zdN⟩:straight)=true) [.one (.int .i64 (s66 (⟨(⟨(⟨c0_list_Gates_n,zaf c0_list_Gates_g⟩:(Sl Gate))⟩:list),(⟨c0_corners_n,zcA c0_corners_g⟩:(Sl straight))⟩:set) (⟨zbu,zbv,zc0⟩:straight) (⟨zci,zcj,zdN⟩:straight)))]
  | _=>.no
theorem zNY:zah Tryz.prog 66:=⟨_,rfl,rfl,by kernel_rfl⟩
theorem zTv:Ok Tryz.prog 66 zzV:=zaV zRl zNY λ args K h=>by
  unfold zzV at h
  split at h
  · rename_i zbu zbv zc0 zci zcj zdN c0_list_Gates_n c0_list_Gates_s c0_list_Gates_g c0_corners_n c0_corners_s c0_corners_g
    obtain⟨⟨⟨rfl,c0_list_Gates_f,rfl⟩,⟨rfl,c0_corners_f,rfl⟩,hs⟩,hk⟩:=h
    try rw[zae c0_list_Gates_f] at hs
    try rw[zae c0_list_Gates_f] at hk
    try rw[zbP c0_corners_f] at hs
    try rw[zbP c0_corners_f] at hk
    exact⟨(λ _ _=>[]),(λ _=>false),zNX,q66 (⟨(⟨(⟨c0_list_Gates_n,c0_list_Gates_f⟩:(Sl Gate))⟩:list),(⟨c0_corners_n,c0_corners_f⟩:(Sl straight))⟩:set) (⟨zbu,zbv,zc0⟩:straight) (⟨zci,zcj,zdN⟩:straight) K hs hk⟩
  · exact h.elim
end

abbrev T42:Tabs:=(((Tabs.nil.addO 64 zNM).addO 65 zNO).addC 66 zzV)
theorem zRm:TabsOk Tryz.prog T42:=(((TabsOk.nil.addO zTr).addO zTs).addC (@zTv ⟨1⟩))
abbrev G42:Ctrs:=csm T42 (λ _ _=>[]) (λ _=>false)
def zNZ:Ann:=⟨11,[(0,zK [1] [1]),(1,zK [1,3] [1,6]),(2,zK [3] [6]),(3,zK [2] [6])],
 [],
 [],
 [],[]⟩
abbrev R42:=(Sl straight)
abbrev e42 (r:R42):List PA:=[.one (.sl r.len 3 (λ i=>zaA (r.get i)))]
section
variable {K:List PA->Prop}{s:set}
def s42 (s:set):(Sl straight) :=
  (⟨s.corners.len,(zgz s.corners.len (λ i j=>(s66 s (s.corners.get i) (s.corners.get j))) s.corners.get)⟩:(Sl straight))
def p42 (s:set):Bool :=
  (decide ((s.corners.len * 24<=140737488355328/\s.corners.len<=9223372036854775807)) &&
 (decide ((s.corners.len<=4611686018427387)/\(sortB s.corners.len (λ i j=>decide (p66 s (s.corners.get i) (s.corners.get j)=true)) (λ i j=>(s66 s (s.corners.get i) (s.corners.get j)))=true)) &&
 true))
end
theorem q42 (s:set) (K:List PA->Prop) (hs:p42 s=true) (hk:K (e42 (s42 s))):vcFun Tryz.prog G42 zNZ 42 [.agg (zcv s)] K :=
  zaM (by kernel_rfl) (zaI hs λ hc hs=>And.intro hc (zaI hs λ hc hs=>And.intro (And.intro (hc.1) ((zoY (hc.2) (λ i j h=>(show IsE enc_48 3 3 (λ i=>enc_48 (s.list.Gates.get i))/\IsE zaA 3 3 (λ i=>zaA (s.corners.get i))/\(p66 s (s.corners.get i) (s.corners.get j)=true) from ⟨isE,isE,(of_decide_eq_true h)⟩)) rfl):(∀ i j,i < s.corners.len->j < s.corners.len->zwW (zzV) [.fp (zcv s) 0] true (λ i=>zaA (s.corners.get i)) i j)/\STO s.corners.len (zpL (zzV) [.fp (zcv s) 0] true (λ i=>zaA (s.corners.get i))))) hk))
def zIQ : List PA → COut
  | [.agg [.sl zai zaJ zaj,.sl zat zbd zau]]=>.det (IsE enc_48 3 zaJ zaj/\IsE zaA 3 zbd zau/\p42 (⟨(⟨(⟨zai,zaf zaj⟩:(Sl Gate))⟩:list),(⟨zat,zcA zau⟩:(Sl straight))⟩:set)=true) [.one (.sl ((s42 (⟨(⟨(⟨zai,zaf zaj⟩:(Sl Gate))⟩:list),(⟨zat,zcA zau⟩:(Sl straight))⟩:set)).len) 3 (λ i=>zaA ((s42 (⟨(⟨(⟨zai,zaf zaj⟩:(Sl Gate))⟩:list),(⟨zat,zcA zau⟩:(Sl straight))⟩:set)).get i)))]
  | _=>.no
theorem zN0:zah Tryz.prog 42:=⟨_,rfl,rfl,by kernel_rfl⟩
theorem zTw:Ok Tryz.prog 42 zIQ:=zaV zRm zN0 λ args K h=>by
  unfold zIQ at h
  split at h
  · rename_i zai zaJ zaj zat zbd zau
    obtain⟨⟨⟨rfl,zas,rfl⟩,⟨rfl,zaP,rfl⟩,hs⟩,hk⟩:=h
    try rw[zae zas] at hs
    try rw[zae zas] at hk
    try rw[zbP zaP] at hs
    try rw[zbP zaP] at hk
    exact⟨(λ _ _=>[]),(λ _=>false),zNZ,q42 (⟨(⟨(⟨zai,zas⟩:(Sl Gate))⟩:list),(⟨zat,zaP⟩:(Sl straight))⟩:set) K hs hk⟩
  · exact h.elim
abbrev T20:Tabs:=(((Tabs.nil.addF 40 zEX).addF 42 zIQ).addF 43 zEL)
theorem zRn:TabsOk Tryz.prog T20:=(((TabsOk.nil.addF zSI).addF zTw).addF zSz)
abbrev G20:Ctrs:=csm T20 (λ _ _=>[]) (λ _=>false)
def zIR:Ann:=⟨31,[(0,zK [0] []),(1,zK [4,5] [4]),(2,zK [4,5,15] [4]),(3,zK [2,3] []),(4,zK [4,6] [4]),(5,zK [6,18,19,20] []),(6,zK [6,18,19,20,21] [28]),(7,zK [6,8,18,19,20] [8,28]),(8,zK [6,18,19,20] [28]),(9,zK [6,18,19,20] [28]),(10,zK [2,3] [28])],
 [(6,⟨[6,18,19,20],[28],[(6,28,42,λ _=>zbr default)],[],[],[],[]⟩)],
 [(2,zK [4,5] [4]),(4,zK [4] [4]),(6,zK [6,18,19,20] [])],
 [],[]⟩
abbrev R20:=((Sl Line)×Int)
abbrev e20 (r:R20):List PA:=[.one (.sl r.1.len 4 (λ i=>zbr (r.1.get i))),.one (.int .i64 r.2)]
@[irreducible] def z20:=ptF Tryz.prog G20 zIR Tryz.f20
def zF7 (zda:(Sl straight)) (zdr:Int) (zen:Int) (zdG:(Sl Line)) (zgX:Nat->List PV):St:=⟨[(6,zv 28),(18,zS zaA 3 zda),(19,zI zdr),(20,zI zen)],[(28,.vec 42 4 32 zdG.len zgX)],[]⟩
abbrev zN1 (K:List PA->Prop) (zda:(Sl straight)) (zdr:Int) (X:St->Prop) (P:Int->(Sl Line)->Bool) (S:Int->(Sl Line)->((Sl Line)×Int)):Prop:=∀ ⦃zen:Int⦄ ⦃zdG:(Sl Line)⦄ ⦃zgX:Nat->List PV⦄,P zen zdG=true->K (e20 (S zen zdG))->zgX=zg zbr zdG->X (zF7 zda zdr zen zdG zgX)
section
variable {K:List PA->Prop}{zaa:(Sl Gate)}{ev0:Int}{zqF:(Sl Gate)}{zqG:(Sl straight)}{zzW:Nat->List PV}{zzX:Nat->List PV}{zkS:(Sl Gate)}{zkT:(Sl straight)}{zzY:Nat->List PV}{zzZ:Nat->List PV}{zda:(Sl straight)}{zdr:Int}{zz0:Nat->List PV}{zen:Int}{zdG:(Sl Line)}{zgX:Nat->List PV}{X3:St->Prop}{P3:Int->(Sl Line)->Bool}{S3:Int->(Sl Line)->((Sl Line)×Int)}
def zz1 (zda:(Sl straight)) (zdr:Int) (S3:Int->(Sl Line)->((Sl Line)×Int)) (zen:Int) (zdG:(Sl Line)):((Sl Line)×Int) :=
  (cond (decide (zen < zdr))
 (S3 (w64 (zen+(1:Int))) (⟨(zdG.len+1),(zfe zdG.len zdG.get (λ _=>(s43 (zda.get zen.toNat))))⟩:Sl Line))
 (zdG,(0:Int)))
def zz2 (zda:(Sl straight)) (zdr:Int) (P3:Int->(Sl Line)->Bool) (zen:Int) (zdG:(Sl Line)):Bool :=
  (cond (decide (zen < zdr))
 (decide ((0<=zen/\zen < (zda.len:Int))) &&
 (decide ((p43 (zda.get zen.toNat)=true)) &&
 (decide (((zdG.len+1) * 32<=140737488355328/\zdG.len+1<=9223372036854775807)) &&
 (P3 (w64 (zen+(1:Int))) (⟨(zdG.len+1),(zfe zdG.len zdG.get (λ _=>(s43 (zda.get zen.toNat))))⟩:Sl Line)))))
 true)
def zz3 (zda:(Sl straight)) (zdr:Int):Nat->Int->(Sl Line)->((Sl Line)×Int):=lpO (λ _ _=>default) (zz1 zda zdr)
def zz4 (zda:(Sl straight)) (zdr:Int):Nat->Int->(Sl Line)->Bool:=lpO (λ _ _=>false) (zz2 zda zdr)
def zz5 (zda:(Sl straight)) (zdr:Int) (zen:Int) (zdG:(Sl Line)):((Sl Line)×Int):=zz3 zda zdr Fuel zen zdG
def zz6 (zda:(Sl straight)) (zdr:Int) (zen:Int) (zdG:(Sl Line)):Bool:=zz4 zda zdr Fuel zen zdG
theorem zIS (hs:zz6 zda zdr zen zdG=true) (hk:K (e20 (zz5 zda zdr zen zdG))) (zsn:zgX=zg zbr zdG):z20 (Wk K) [1,1,1,1,0,1,0] [] (zF7 zda zdr zen zdG zgX) :=
  zl (λ X=>z20 (Wk K) [1,1,1,1,0,1,0,0] [X]) (by kernel_rfl) λ X3 hX =>
  (show ∀ k, zN1 K zda zdr X3 (zz4 zda zdr k) (zz3 zda zdr k) from zfo _ _ (zz2 zda zdr) (zz1 zda zdr) (zN1 K zda zdr X3)
 (by intro _ _ _ hs;exact absurd hs dqk)
 (by intro P3 S3 hX3 zen zdG zgX hs hk zsn;subst zsn;exact hX _ (zaM (by kernel_rfl) (zc hs hk (λ hs hk=>(zaI hs λ hc hs=>And.intro hc (zaI hs λ hc hs=>And.intro hc (zaI hs λ hc hs=>And.intro hc (hX3 hs hk (zfm (enc:=zbr) (f:=zdG.get) (h:=(λ _=>(s43 (zda.get zen.toNat)))) rfl rfl)))))) (λ hs hk=>((zfL hk):Wk K [.one (.sl zdG.len 4 (λ i=>zbr (zdG.get i))),.one (.int .i64 (0:Int))])))))) _ hs hk zsn
def zz7 (zda:(Sl straight)) (zdr:Int):((Sl Line)×Int) :=
  (zz5 zda zdr (0:Int) (⟨0,(λ _=>default)⟩:Sl Line))
def zz8 (zda:(Sl straight)) (zdr:Int):Bool :=
  (zz6 zda zdr (0:Int) (⟨0,(λ _=>default)⟩:Sl Line))
theorem zIT (hs:zz8 zda zdr=true) (hk:K (e20 (zz7 zda zdr))) (zIU:zz0=zg zaA zda):z20 (Wk K) [1,1,1,1,0,1] [] ⟨[(6,zP (.nils)),(18,zP (.sl zda.len 3 zz0)),(19,zI zdr),(20,zI (0:Int))],[],[]⟩:=by subst zIU;exact zaM (by kernel_rfl) (zIS hs hk rfl)
def zz9 (zkS:(Sl Gate)) (zkT:(Sl straight)):((Sl Line)×Int) :=
  (zz7 (s42 (⟨(⟨zkS⟩:list),zkT⟩:set)) ((s42 (⟨(⟨zkS⟩:list),zkT⟩:set)).len:Int))
def zAa (zkS:(Sl Gate)) (zkT:(Sl straight)):Bool :=
  (decide ((p42 (⟨(⟨zkS⟩:list),zkT⟩:set)=true)) &&
 (zz8 (s42 (⟨(⟨zkS⟩:list),zkT⟩:set)) ((s42 (⟨(⟨zkS⟩:list),zkT⟩:set)).len:Int)))
theorem zIV (hs:zAa zkS zkT=true) (hk:K (e20 (zz9 zkS zkT))) (zIW:zzY=zg enc_48 zkS) (zIX:zzZ=zg zaA zkT):z20 (Wk K) [1,1,1] [] ⟨[(4,zp 4 0)],[(4,.box 75 [.p (.sl zkS.len 3 zzY),.p (.sl zkT.len 3 zzZ)])],[]⟩:=by subst zIW;subst zIX;exact zaM (by kernel_rfl) (zaI hs λ hc hs=>And.intro (And.intro (zE enc_48 3 zkS.get) (And.intro (zE zaA 3 zkT.get) hc)) (zIT hs hk rfl))
def zAb (ev0:Int) (zqF:(Sl Gate)) (zqG:(Sl straight)):((Sl Line)×Int) :=
  (cond (ev0 != (0:Int))
 ((⟨0,λ _=>default⟩:(Sl Line)),ev0)
 (zz9 zqF zqG))
def zAc (ev0:Int) (zqF:(Sl Gate)) (zqG:(Sl straight)):Bool :=
  (cond (ev0 != (0:Int))
 true
 (zAa zqF zqG))
theorem zIY (hs:zAc ev0 zqF zqG=true) (hk:K (e20 (zAb ev0 zqF zqG))) (zIZ:zzW=zg enc_48 zqF) (zI0:zzX=zg zaA zqG):z20 (Wk K) [1,1] [] ⟨[(4,zp 4 0),(5,zI ev0)],[(4,.box 75 [.p (.sl zqF.len 3 zzW),.p (.sl zqG.len 3 zzX)])],[]⟩:=by subst zIZ;subst zI0;exact zaM (by kernel_rfl) (zc hs hk (λ hs hk=>((wk hk (zfn (.one (.nil _ _)) (zfn (.one (.rfl _)) zma))):Wk K [.one (.nils),.one (.int .i64 ev0)])) (λ hs hk=>(zIV hs hk rfl rfl)))
def s20 (zaa:(Sl Gate)):((Sl Line)×Int) :=
  (zAb ((s40 zaa).2) (((s40 zaa).1).list.Gates) (((s40 zaa).1).corners))
def p20 (zaa:(Sl Gate)):Bool :=
  (decide ((p40 zaa=true)) &&
 (zAc ((s40 zaa).2) (((s40 zaa).1).list.Gates) (((s40 zaa).1).corners)))
end
theorem q20 (zaa:(Sl Gate)) (K:List PA->Prop) (hs:p20 zaa=true) (hk:K (e20 (s20 zaa))):vcFun Tryz.prog G20 zIR 20 [.one (.sl zaa.len 3 (λ i=>enc_48 (zaa.get i)))] (Wk K) :=
  zaM (by kernel_rfl) (zaI hs λ hc hs=>And.intro (And.intro (zE enc_48 3 zaa.get) hc) (zIY hs hk rfl rfl))
def zI1 : List PA → COut
  | [.one (.sl zaK zbW zaL)]=>.det (IsE enc_48 3 zbW zaL/\p20 (⟨zaK,zaf zaL⟩:(Sl Gate))=true) [.one (.sl (((s20 (⟨zaK,zaf zaL⟩:(Sl Gate))).1).len) 4 (λ i=>zbr (((s20 (⟨zaK,zaf zaL⟩:(Sl Gate))).1).get i))),.one (.int .i64 ((s20 (⟨zaK,zaf zaL⟩:(Sl Gate))).2))]
  | _=>.no
theorem zN2:zah Tryz.prog 20:=⟨_,rfl,rfl,by kernel_rfl⟩
theorem zTx:Ok Tryz.prog 20 zI1:=zgQ zRn zN2 λ args K h=>by
  unfold zI1 at h
  split at h
  · rename_i zaK zbW zaL
    obtain⟨⟨⟨rfl,zbn,rfl⟩,hs⟩,hk⟩:=h
    try rw[zae zbn] at hs
    try rw[zae zbn] at hk
    exact⟨_,zgx zgP _,(λ _ _=>[]),(λ _=>false),zIR,q20 (⟨zaK,zbn⟩:(Sl Gate)) K hs hk⟩
  · exact h.elim
abbrev T21:Tabs:=Tabs.nil
theorem zRo:TabsOk Tryz.prog T21:=TabsOk.nil
abbrev G21:Ctrs:=csm T21 (λ _ _=>[]) (λ _=>false)
def zN3:Ann:=⟨5,[(0,zK [] []),(1,zK [0] [4])],
 [],
 [],
 [],[]⟩
abbrev R21:=(Sl Gate)
abbrev e21 (r:R21):List PA:=[.one (.sl r.len 3 (λ i=>enc_48 (r.get i)))]
section
variable {K:List PA->Prop}
def s21:(Sl Gate) :=
  (⟨3,(zlo (⟨(0:Int),(0:Int),(10:Int)⟩:Gate) [(⟨(0:Int),(0:Int),(10:Int)⟩:Gate),(⟨(100:Int),(20:Int),(30:Int)⟩:Gate),(⟨(200:Int),(30:Int),(60:Int)⟩:Gate)])⟩:(Sl Gate))
end
theorem q21 (K:List PA->Prop) (hk:K (e21 (s21))):vcFun Tryz.prog G21 zN3 21 [] K :=
  zaM (by kernel_rfl) (Eq.mpr (congrArg K (congrArg (λ (g_:Nat->List PV)=>([.one (.sl 3 3 g_)]:List PA)) (zf8 (enc:=enc_48) (x:=(⟨(0:Int),(0:Int),(10:Int)⟩:Gate)) (y:=(⟨(100:Int),(20:Int),(30:Int)⟩:Gate)) (r:=[(⟨(200:Int),(30:Int),(60:Int)⟩:Gate)])))) hk)
def zI2 : List PA → COut
  | []=>.tot [.one (.sl ((s21).len) 3 (λ i=>enc_48 ((s21).get i)))]
  | _=>.no
theorem zN4:zah Tryz.prog 21:=⟨_,rfl,rfl,by kernel_rfl⟩
theorem zTy:Ok Tryz.prog 21 zI2:=zaV zRo zN4 λ args K h=>by
  unfold zI2 at h
  split at h
  · have hk := h
    exact⟨(λ _ _=>[]),(λ _=>false),zN3,q21 K hk⟩
  · exact h.elim
abbrev T72:Tabs:=Tabs.nil
theorem zRp:TabsOk Tryz.prog T72:=TabsOk.nil
abbrev G72:Ctrs:=csm T72 (λ _ _=>[]) (λ _=>false)
def zN5:Ann:=⟨15,[(0,zK [1,2,4] [2,4]),(1,zK [4] [4])],
 [],
 [],
 [],[]⟩
abbrev R72:=Frac
abbrev e72 (r:R72):List PA:=[.agg [.int .i64 r.Num,.int .i64 r.Den]]
section
variable {K:List PA->Prop}{s:straight}{z:Int}
def s72 (s:straight) (z:Int):Frac :=
  (⟨(w64 (s.start+(w64 (s.slope * z)))),s.den⟩:Frac)
end
theorem q72 (s:straight) (z:Int) (K:List PA->Prop) (hk:K (e72 (s72 s z))):vcFun Tryz.prog G72 zN5 72 [.agg (zaA s),.one (.int .i64 z)] K :=
  zaM (by kernel_rfl) hk
def zI3 : List PA → COut
  | [.agg [.int .i64 zbu,.int .i64 zbv,.int .i64 zc0],.one (.int .i64 a1)]=>.tot [.agg [.int .i64 ((s72 (⟨zbu,zbv,zc0⟩:straight) a1).Num),.int .i64 ((s72 (⟨zbu,zbv,zc0⟩:straight) a1).Den)]]
  | _=>.no
theorem zN6:zah Tryz.prog 72:=⟨_,rfl,rfl,by kernel_rfl⟩
theorem zTz:Ok Tryz.prog 72 zI3:=zaV zRp zN6 λ args K h=>by
  unfold zI3 at h
  split at h
  · rename_i zbu zbv zc0 a1
    have hk:=h
    exact⟨(λ _ _=>[]),(λ _=>false),zN5,q72 (⟨zbu,zbv,zc0⟩:straight) a1 K hk⟩
  · exact h.elim
abbrev T71:Tabs:=(Tabs.nil.addF 72 zI3)
theorem zRq:TabsOk Tryz.prog T71:=(TabsOk.nil.addF zTz)
abbrev G71:Ctrs:=csm T71 (λ _ _=>[]) (λ _=>false)
def zN7:Ann:=⟨7,[(0,zK [1,2,3] [2,3]),(1,zK [3] [3])],
 [],
 [],
 [],[]⟩
abbrev R71:=Frac
abbrev e71 (r:R71):List PA:=[.agg [.int .i64 r.Num,.int .i64 r.Den]]
section
variable {K:List PA->Prop}{c0:Int}{x:straight}
def s71 (c0:Int) (x:straight):Frac :=
  (s72 x c0)
end
theorem q71 (c0:Int) (x:straight) (K:List PA->Prop) (hk:K (e71 (s71 c0 x))):vcFun Tryz.prog G71 zN7 71 [.agg (zaA x),.one (.fp (zam c0) 0)] K :=
  zaM (by kernel_rfl) hk
def zI4 : List PA → COut
  | [.agg [.int .i64 zbu,.int .i64 zbv,.int .i64 zc0],.one (.fp [.int .i64 c0] 0)]=>.tot [.agg [.int .i64 ((s71 c0 (⟨zbu,zbv,zc0⟩:straight)).Num),.int .i64 ((s71 c0 (⟨zbu,zbv,zc0⟩:straight)).Den)]]
  | _=>.no
theorem zN8:zah Tryz.prog 71:=⟨_,rfl,rfl,by kernel_rfl⟩
theorem zTA:Ok Tryz.prog 71 zI4:=zaV zRq zN8 λ args K h=>by
  unfold zI4 at h
  split at h
  · rename_i zbu zbv zc0 c0
    have hk:=h
    exact⟨(λ _ _=>[]),(λ _=>false),zN7,q71 c0 (⟨zbu,zbv,zc0⟩:straight) K hk⟩
  · exact h.elim
abbrev T86:Tabs:=(Tabs.nil.addF 50 zwJ)
theorem zRr:TabsOk Tryz.prog T86:=(TabsOk.nil.addF zQk)
abbrev G86:Ctrs:=csm T86 (λ _ _=>[]) (λ _=>false)
def zN9:Ann:=⟨9,[(0,zK [2,3] [2,3]),(1,zK [4] [])],
 [],
 [],
 [],[]⟩
abbrev R86:=Bool
abbrev e86 (r:R86):List PA:=[.one (.bool r)]
section
variable {K:List PA->Prop}{a:Frac}{b:Frac}
def s86 (a:Frac) (b:Frac):Bool :=
  (decide ((s50 a b) < (0:Int)))
end
theorem q86 (a:Frac) (b:Frac) (K:List PA->Prop) (hk:K (e86 (s86 a b))):vcFun Tryz.prog G86 zN9 86 [.agg (zal a),.agg (zal b)] K :=
  zaM (by kernel_rfl) hk
def zI5 : List PA → COut
  | [.agg [.int .i64 zgT,.int .i64 zgU],.agg [.int .i64 zgV,.int .i64 zgW]]=>.tot [.one (.bool (s86 (⟨zgT,zgU⟩:Frac) (⟨zgV,zgW⟩:Frac)))]
  | _=>.no
theorem zOa:zah Tryz.prog 86:=⟨_,rfl,rfl,by kernel_rfl⟩
theorem zTB:Ok Tryz.prog 86 zI5:=zaV zRr zOa λ args K h=>by
  unfold zI5 at h
  split at h
  · rename_i zgT zgU zgV zgW
    have hk:=h
    exact⟨(λ _ _=>[]),(λ _=>false),zN9,q86 (⟨zgT,zgU⟩:Frac) (⟨zgV,zgW⟩:Frac) K hk⟩
  · exact h.elim
abbrev T87:Tabs:=(Tabs.nil.addF 50 zwJ)
theorem zRs:TabsOk Tryz.prog T87:=(TabsOk.nil.addF zQk)
abbrev G87:Ctrs:=csm T87 (λ _ _=>[]) (λ _=>false)
def zOb:Ann:=⟨9,[(0,zK [2,3] [2,3]),(1,zK [4] [])],
 [],
 [],
 [],[]⟩
abbrev R87:=Bool
abbrev e87 (r:R87):List PA:=[.one (.bool r)]
section
variable {K:List PA->Prop}{a:Frac}{b:Frac}
def s87 (a:Frac) (b:Frac):Bool :=
  (decide ((s50 a b) > (0:Int)))
end
theorem q87 (a:Frac) (b:Frac) (K:List PA->Prop) (hk:K (e87 (s87 a b))):vcFun Tryz.prog G87 zOb 87 [.agg (zal a),.agg (zal b)] K :=
  zaM (by kernel_rfl) hk
def zI6 : List PA → COut
  | [.agg [.int .i64 zgT,.int .i64 zgU],.agg [.int .i64 zgV,.int .i64 zgW]]=>.tot [.one (.bool (s87 (⟨zgT,zgU⟩:Frac) (⟨zgV,zgW⟩:Frac)))]
  | _=>.no
theorem zOc:zah Tryz.prog 87:=⟨_,rfl,rfl,by kernel_rfl⟩
theorem zTC:Ok Tryz.prog 87 zI6:=zaV zRs zOc λ args K h=>by
  unfold zI6 at h
  split at h
  · rename_i zgT zgU zgV zgW
    have hk:=h
    exact⟨(λ _ _=>[]),(λ _=>false),zOb,q87 (⟨zgT,zgU⟩:Frac) (⟨zgV,zgW⟩:Frac) K hk⟩
  · exact h.elim
abbrev T85:Tabs:=((Tabs.nil.addF 86 zI5).addF 87 zI6)
theorem zRt:TabsOk Tryz.prog T85:=((TabsOk.nil.addF zTB).addF zTC)
abbrev G85:Ctrs:=csm T85 (λ _ _=>[]) (λ _=>false)
def zI7:Ann:=⟨25,[(0,zK [0,1,4] [4]),(1,zK [0,1,4,5] [4,5]),(2,zK [1,4,5,12,13,14] [4,5]),(3,zK [1,4,5,12,13,14,15] [4,5]),(4,zK [1,4,5,7,12,13,14] [4,5,7]),(5,zK [1,4,5,7,12,13,14,21] [4,5,7]),(6,zK [1,4,5,12,13,14] [4,5]),(7,zK [1,4,5,12,13,14] [4,5]),(8,zK [4] [4])],
 [(3,zK [1,4,5,12,13,14] [4,5])],
 [(6,zK [1,4,5,7,12,13,14,21] [4,5,7])],
 [],[]⟩
abbrev R85:=Frac
abbrev e85 (r:R85):List PA:=[.agg [.int .i64 r.Num,.int .i64 r.Den]]
@[irreducible] def z85:=ptF Tryz.prog G85 zI7 Tryz.f85
def zF8 (l_a0:(Sl Frac)) (zaW:(Sl Frac)) (zan:Int) (zaB:Int) (zaC:Int) (zb3:Nat->List PV):St:=⟨[(1,zP (.fn 86 [] [])),(4,zp 4 0),(5,zp 5 0),(12,zP (.sl zaW.len 2 zb3)),(13,zI (((l_a0.len:Int) - (1:Int)).toNat:Int)),(14,zI zan)],[(4,.box 40 (zm (zal (⟨(0:Int),(0:Int)⟩:Frac)))),(5,.box 40 (zm (zal (⟨zaB,zaC⟩:Frac))))],[]⟩
abbrev zI8 (K:List PA->Prop) (l_a0:(Sl Frac)) (X:St->Prop) (P:(Sl Frac)->Int->Int->Int->Bool) (S:(Sl Frac)->Int->Int->Int->Frac):Prop:=∀ ⦃zaW:(Sl Frac)⦄ ⦃zan:Int⦄ ⦃zaB:Int⦄ ⦃zaC:Int⦄ ⦃zb3:Nat->List PV⦄,P zaW zan zaB zaC=true->K (e85 (S zaW zan zaB zaC))->zb3=zg zal zaW->X (zF8 l_a0 zaW zan zaB zaC zb3)
section
variable {K:List PA->Prop}{l_a0:(Sl Frac)}{zaW:(Sl Frac)}{zan:Int}{zaB:Int}{zaC:Int}{zb3:Nat->List PV}{X0:St->Prop}{P0:(Sl Frac)->Int->Int->Int->Bool}{S0:(Sl Frac)->Int->Int->Int->Frac}{zds:(Sl Frac)}{zbe:Int}{ze1:Bool}{zdu:Int}{zdv:Int}{zii:Int}{zij:Int}{zgY:Nat->List PV}
def zAd (S0:(Sl Frac)->Int->Int->Int->Frac) (l_a0:(Sl Frac)) (zds:(Sl Frac)) (zbe:Int) (ze1:Bool) (zdu:Int) (zdv:Int) (zii:Int) (zij:Int):Frac :=
  (cond ze1
 (S0 zds (w64 (zbe+(1:Int))) zii zij)
 (S0 zds (w64 (zbe+(1:Int))) zdu zdv))
def zAe (P0:(Sl Frac)->Int->Int->Int->Bool) (l_a0:(Sl Frac)) (zds:(Sl Frac)) (zbe:Int) (ze1:Bool) (zdu:Int) (zdv:Int) (zii:Int) (zij:Int):Bool :=
  (cond ze1
 (P0 zds (w64 (zbe+(1:Int))) zii zij)
 (P0 zds (w64 (zbe+(1:Int))) zdu zdv))
theorem zI9 (hX0:zI8 K l_a0 X0 P0 S0) (hs:zAe P0 l_a0 zds zbe ze1 zdu zdv zii zij=true) (hk:K (e85 (zAd S0 l_a0 zds zbe ze1 zdu zdv zii zij))) (zmo:zgY=zg zal zds):z85 K [1,1,0,1,0,0,1,1,0,0,1,1] [X0] ⟨[(1,zP (.fn 86 [] [])),(4,zp 4 0),(5,zp 5 0),(7,zp 7 0),(12,zP (.sl zds.len 2 zgY)),(13,zI (((l_a0.len:Int) - (1:Int)).toNat:Int)),(14,zI zbe),(21,zB ze1)],[(4,.box 40 (zm (zal (⟨(0:Int),(0:Int)⟩:Frac)))),(5,.box 40 (zm (zal (⟨zdu,zdv⟩:Frac)))),(7,.box 40 (zm (zal (⟨zii,zij⟩:Frac))))],[]⟩:=by subst zmo;exact zaM (by kernel_rfl) (zc hs hk (λ hs hk=>(hX0 hs hk rfl)) (λ hs hk=>(hX0 hs hk rfl)))
def zAf (l_a0:(Sl Frac)) (S0:(Sl Frac)->Int->Int->Int->Frac) (zaW:(Sl Frac)) (zan:Int) (zaB:Int) (zaC:Int):Frac :=
  (cond (decide (zan < (((l_a0.len : Int) - (1:Int)).toNat : Int)))
 (zAd S0 l_a0 zaW zan (s86 (zaW.get zan.toNat) (⟨zaB,zaC⟩:Frac)) zaB zaC ((zaW.get zan.toNat).Num) ((zaW.get zan.toNat).Den))
 (⟨zaB,zaC⟩:Frac))
def zAg (l_a0:(Sl Frac)) (P0:(Sl Frac)->Int->Int->Int->Bool) (zaW:(Sl Frac)) (zan:Int) (zaB:Int) (zaC:Int):Bool :=
  (cond (decide (zan < (((l_a0.len : Int) - (1:Int)).toNat : Int)))
 (decide ((0<=zan/\zan < (zaW.len:Int))) &&
 (zAe P0 l_a0 zaW zan (s86 (zaW.get zan.toNat) (⟨zaB,zaC⟩:Frac)) zaB zaC ((zaW.get zan.toNat).Num) ((zaW.get zan.toNat).Den)))
 true)
def zAh (l_a0:(Sl Frac)):Nat->(Sl Frac)->Int->Int->Int->Frac:=lpO (λ _ _ _ _=>default) (zAf l_a0)
def zAi (l_a0:(Sl Frac)):Nat->(Sl Frac)->Int->Int->Int->Bool:=lpO (λ _ _ _ _=>false) (zAg l_a0)
def zAj (l_a0:(Sl Frac)) (zaW:(Sl Frac)) (zan:Int) (zaB:Int) (zaC:Int):Frac:=zAh l_a0 Fuel zaW zan zaB zaC
def zAk (l_a0:(Sl Frac)) (zaW:(Sl Frac)) (zan:Int) (zaB:Int) (zaC:Int):Bool:=zAi l_a0 Fuel zaW zan zaB zaC
theorem zJa (hs:zAk l_a0 zaW zan zaB zaC=true) (hk:K (e85 (zAj l_a0 zaW zan zaB zaC))) (ze2:zb3=zg zal zaW):z85 K [1,1,0,1,0] [] (zF8 l_a0 zaW zan zaB zaC zb3) :=
  zl (λ X=>z85 K [1,1,0,1,0,0] [X]) (by kernel_rfl) λ X0 hX =>
  (show ∀ k, zI8 K l_a0 X0 (zAi l_a0 k) (zAh l_a0 k) from zfo _ _ (zAg l_a0) (zAf l_a0) (zI8 K l_a0 X0)
 (by intro _ _ _ _ _ hs;exact absurd hs dqk)
 (by intro P0 S0 hX0 zaW zan zaB zaC zb3 hs hk ze2;subst ze2;exact hX _ (zaM (by kernel_rfl) (zc hs hk (λ hs hk=>(zaI hs λ hc hs=>And.intro hc (zI9 hX0 hs hk rfl))) (λ hs hk=>hk))))) _ hs hk ze2
def s85 (l_a0:(Sl Frac)):Frac :=
  (zAj l_a0 (⟨((l_a0.len:Int) - (1:Int)).toNat,(λ i=>l_a0.get (i+((1:Int).toNat)))⟩:Sl Frac) (0:Int) ((l_a0.get 0).Num) ((l_a0.get 0).Den))
def p85 (l_a0:(Sl Frac)):Bool :=
  (decide ((0<=(0:Int)/\(0:Int) < (l_a0.len:Int))) &&
 (decide ((0<=(1:Int)/\(1:Int)<=(l_a0.len:Int)/\(l_a0.len:Int)<=(l_a0.len:Int))) &&
 (zAk l_a0 (⟨((l_a0.len:Int) - (1:Int)).toNat,(λ i=>l_a0.get (i+((1:Int).toNat)))⟩:Sl Frac) (0:Int) ((l_a0.get 0).Num) ((l_a0.get 0).Den))))
end
theorem q85 (l_a0:(Sl Frac)) (K:List PA->Prop) (hs:p85 l_a0=true) (hk:K (e85 (s85 l_a0))):vcFun Tryz.prog G85 zI7 85 [.one (.sl l_a0.len 2 (λ i=>zal (l_a0.get i))),.one (.fn 86 [] [])] K :=
  zaM (by kernel_rfl) (zaI hs λ hc hs=>And.intro hc (zaI hs λ hc hs=>And.intro hc (zJa hs hk rfl)))
abbrev zSK:Ctrs:=csm T85 (λ _ _=>[]) (λ _=>false)
def zAl:Ann:=⟨25,[(0,zK [0,1,4] [4]),(1,zK [0,1,4,5] [4,5]),(2,zK [1,4,5,12,13,14] [4,5]),(3,zK [1,4,5,12,13,14,15] [4,5]),(4,zK [1,4,5,7,12,13,14] [4,5,7]),(5,zK [1,4,5,7,12,13,14,21] [4,5,7]),(6,zK [1,4,5,12,13,14] [4,5]),(7,zK [1,4,5,12,13,14] [4,5]),(8,zK [4] [4])],
 [(3,zK [1,4,5,12,13,14] [4,5])],
 [(6,zK [1,4,5,7,12,13,14,21] [4,5,7])],
 [],[]⟩
abbrev zTD:=Frac
abbrev zQl (r:zTD):List PA:=[.agg [.int .i64 r.Num,.int .i64 r.Den]]
@[irreducible] def z85a:=ptF Tryz.prog zSK zAl Tryz.f85
def zAm (l_a0:(Sl Frac)) (zaW:(Sl Frac)) (zan:Int) (zaB:Int) (zaC:Int) (zb3:Nat->List PV):St:=⟨[(1,zP (.fn 87 [] [])),(4,zp 4 0),(5,zp 5 0),(12,zP (.sl zaW.len 2 zb3)),(13,zI (((l_a0.len:Int) - (1:Int)).toNat:Int)),(14,zI zan)],[(4,.box 40 (zm (zal (⟨(0:Int),(0:Int)⟩:Frac)))),(5,.box 40 (zm (zal (⟨zaB,zaC⟩:Frac))))],[]⟩
abbrev zAn (K:List PA->Prop) (l_a0:(Sl Frac)) (X:St->Prop) (P:(Sl Frac)->Int->Int->Int->Bool) (S:(Sl Frac)->Int->Int->Int->Frac):Prop:=∀ ⦃zaW:(Sl Frac)⦄ ⦃zan:Int⦄ ⦃zaB:Int⦄ ⦃zaC:Int⦄ ⦃zb3:Nat->List PV⦄,P zaW zan zaB zaC=true->K (zQl (S zaW zan zaB zaC))->zb3=zg zal zaW->X (zAm l_a0 zaW zan zaB zaC zb3)
section
variable {K:List PA->Prop}{l_a0:(Sl Frac)}{zaW:(Sl Frac)}{zan:Int}{zaB:Int}{zaC:Int}{zb3:Nat->List PV}{X0:St->Prop}{P0:(Sl Frac)->Int->Int->Int->Bool}{S0:(Sl Frac)->Int->Int->Int->Frac}{zds:(Sl Frac)}{zbe:Int}{ze1:Bool}{zdu:Int}{zdv:Int}{zii:Int}{zij:Int}{zgY:Nat->List PV}
def zvd (S0:(Sl Frac)->Int->Int->Int->Frac) (l_a0:(Sl Frac)) (zds:(Sl Frac)) (zbe:Int) (ze1:Bool) (zdu:Int) (zdv:Int) (zii:Int) (zij:Int):Frac :=
  (cond ze1
 (S0 zds (w64 (zbe+(1:Int))) zii zij)
 (S0 zds (w64 (zbe+(1:Int))) zdu zdv))
def zve (P0:(Sl Frac)->Int->Int->Int->Bool) (l_a0:(Sl Frac)) (zds:(Sl Frac)) (zbe:Int) (ze1:Bool) (zdu:Int) (zdv:Int) (zii:Int) (zij:Int):Bool :=
  (cond ze1
 (P0 zds (w64 (zbe+(1:Int))) zii zij)
 (P0 zds (w64 (zbe+(1:Int))) zdu zdv))
theorem zEZ (hX0:zAn K l_a0 X0 P0 S0) (hs:zve P0 l_a0 zds zbe ze1 zdu zdv zii zij=true) (hk:K (zQl (zvd S0 l_a0 zds zbe ze1 zdu zdv zii zij))) (zmo:zgY=zg zal zds):z85a K [1,1,0,1,0,0,1,1,0,0,1,1] [X0] ⟨[(1,zP (.fn 87 [] [])),(4,zp 4 0),(5,zp 5 0),(7,zp 7 0),(12,zP (.sl zds.len 2 zgY)),(13,zI (((l_a0.len:Int) - (1:Int)).toNat:Int)),(14,zI zbe),(21,zB ze1)],[(4,.box 40 (zm (zal (⟨(0:Int),(0:Int)⟩:Frac)))),(5,.box 40 (zm (zal (⟨zdu,zdv⟩:Frac)))),(7,.box 40 (zm (zal (⟨zii,zij⟩:Frac))))],[]⟩:=by subst zmo;exact zaM (by kernel_rfl) (zc hs hk (λ hs hk=>(hX0 hs hk rfl)) (λ hs hk=>(hX0 hs hk rfl)))
def zvf (l_a0:(Sl Frac)) (S0:(Sl Frac)->Int->Int->Int->Frac) (zaW:(Sl Frac)) (zan:Int) (zaB:Int) (zaC:Int):Frac :=
  (cond (decide (zan < (((l_a0.len : Int) - (1:Int)).toNat : Int)))
 (zvd S0 l_a0 zaW zan (s87 (zaW.get zan.toNat) (⟨zaB,zaC⟩:Frac)) zaB zaC ((zaW.get zan.toNat).Num) ((zaW.get zan.toNat).Den))
 (⟨zaB,zaC⟩:Frac))
def zvg (l_a0:(Sl Frac)) (P0:(Sl Frac)->Int->Int->Int->Bool) (zaW:(Sl Frac)) (zan:Int) (zaB:Int) (zaC:Int):Bool :=
  (cond (decide (zan < (((l_a0.len : Int) - (1:Int)).toNat : Int)))
 (decide ((0<=zan/\zan < (zaW.len:Int))) &&
 (zve P0 l_a0 zaW zan (s87 (zaW.get zan.toNat) (⟨zaB,zaC⟩:Frac)) zaB zaC ((zaW.get zan.toNat).Num) ((zaW.get zan.toNat).Den)))
 true)
def zvh (l_a0:(Sl Frac)):Nat->(Sl Frac)->Int->Int->Int->Frac:=lpO (λ _ _ _ _=>default) (zvf l_a0)
def zvi (l_a0:(Sl Frac)):Nat->(Sl Frac)->Int->Int->Int->Bool:=lpO (λ _ _ _ _=>false) (zvg l_a0)
def zvj (l_a0:(Sl Frac)) (zaW:(Sl Frac)) (zan:Int) (zaB:Int) (zaC:Int):Frac:=zvh l_a0 Fuel zaW zan zaB zaC
def zvk (l_a0:(Sl Frac)) (zaW:(Sl Frac)) (zan:Int) (zaB:Int) (zaC:Int):Bool:=zvi l_a0 Fuel zaW zan zaB zaC
theorem zE0 (hs:zvk l_a0 zaW zan zaB zaC=true) (hk:K (zQl (zvj l_a0 zaW zan zaB zaC))) (ze2:zb3=zg zal zaW):z85a K [1,1,0,1,0] [] (zAm l_a0 zaW zan zaB zaC zb3) :=
  zl (λ X=>z85a K [1,1,0,1,0,0] [X]) (by kernel_rfl) λ X0 hX =>
  (show ∀ k, zAn K l_a0 X0 (zvi l_a0 k) (zvh l_a0 k) from zfo _ _ (zvg l_a0) (zvf l_a0) (zAn K l_a0 X0)
 (by intro _ _ _ _ _ hs;exact absurd hs dqk)
 (by intro P0 S0 hX0 zaW zan zaB zaC zb3 hs hk ze2;subst ze2;exact hX _ (zaM (by kernel_rfl) (zc hs hk (λ hs hk=>(zaI hs λ hc hs=>And.intro hc (zEZ hX0 hs hk rfl))) (λ hs hk=>hk))))) _ hs hk ze2
def zJb (l_a0:(Sl Frac)):Frac :=
  (zvj l_a0 (⟨((l_a0.len:Int) - (1:Int)).toNat,(λ i=>l_a0.get (i+((1:Int).toNat)))⟩:Sl Frac) (0:Int) ((l_a0.get 0).Num) ((l_a0.get 0).Den))
def zRu (l_a0:(Sl Frac)):Bool :=
  (decide ((0<=(0:Int)/\(0:Int) < (l_a0.len:Int))) &&
 (decide ((0<=(1:Int)/\(1:Int)<=(l_a0.len:Int)/\(l_a0.len:Int)<=(l_a0.len:Int))) &&
 (zvk l_a0 (⟨((l_a0.len:Int) - (1:Int)).toNat,(λ i=>l_a0.get (i+((1:Int).toNat)))⟩:Sl Frac) (0:Int) ((l_a0.get 0).Num) ((l_a0.get 0).Den))))
end
theorem zTE (l_a0:(Sl Frac)) (K:List PA->Prop) (hs:zRu l_a0=true) (hk:K (zQl (zJb l_a0))):vcFun Tryz.prog zSK zAl 85 [.one (.sl l_a0.len 2 (λ i=>zal (l_a0.get i))),.one (.fn 87 [] [])] K :=
  zaM (by kernel_rfl) (zaI hs λ hc hs=>And.intro hc (zaI hs λ hc hs=>And.intro hc (zE0 hs hk rfl)))
def zJc : List PA → COut
  | [.one (.sl zaK zbW zaL),.one (.fn 86 [] [])]=>.det (IsE zal 2 zbW zaL/\p85 (⟨zaK,zia zaL⟩:(Sl Frac))=true) [.agg [.int .i64 ((s85 (⟨zaK,zia zaL⟩:(Sl Frac))).Num),.int .i64 ((s85 (⟨zaK,zia zaL⟩:(Sl Frac))).Den)]]
  | [.one (.sl zaK zbW zaL),.one (.fn 87 [] [])]=>.det (IsE zal 2 zbW zaL/\zRu (⟨zaK,zia zaL⟩:(Sl Frac))=true) [.agg [.int .i64 ((zJb (⟨zaK,zia zaL⟩:(Sl Frac))).Num),.int .i64 ((zJb (⟨zaK,zia zaL⟩:(Sl Frac))).Den)]]
  | _=>.no
theorem zOd:zah Tryz.prog 85:=⟨_,rfl,rfl,by kernel_rfl⟩
theorem zTF:Ok Tryz.prog 85 zJc:=zaV zRt zOd λ args K h=>by
  unfold zJc at h
  split at h
  · rename_i zaK zbW zaL
    obtain⟨⟨⟨rfl,zbn,rfl⟩,hs⟩,hk⟩:=h
    try rw[zf9 zbn] at hs
    try rw[zf9 zbn] at hk
    exact⟨(λ _ _=>[]),(λ _=>false),zI7,q85 (⟨zaK,zbn⟩:(Sl Frac)) K hs hk⟩
  · rename_i zaK zbW zaL
    obtain⟨⟨⟨rfl,zbn,rfl⟩,hs⟩,hk⟩:=h
    try rw[zf9 zbn] at hs
    try rw[zf9 zbn] at hk
    exact⟨(λ _ _=>[]),(λ _=>false),zAl,zTE (⟨zaK,zbn⟩:(Sl Frac)) K hs hk⟩
  · exact h.elim
abbrev T70:Tabs:=(((Tabs.nil.addF 68 zwI).addF 71 zI4).addF 85 zJc)
theorem zRv:TabsOk Tryz.prog T70:=(((TabsOk.nil.addF zQg).addF zTA).addF zTF)
abbrev G70:Ctrs:=csm T70 (λ _ _=>[]) (λ _=>false)
def zJd:Ann:=⟨39,[(0,zK [1,2,4,5] [2,4,5]),(1,zK [1,2,4,5,6] [2,4,5]),(2,zK [1,4,5,6,12,13,14] [4,5]),(3,zK [1,4,5,6,12,13,14,15] [4,5,23]),(4,zK [1,4,5,6,8,12,13,14] [4,5,8,23]),(5,zK [1,4,5,6,12,13,14] [4,5,23]),(6,zK [1,4,5,6,12,13,14] [4,5,23]),(7,zK [4,5,6,9] [4,5,9,23]),(8,zK [4,5,9,10] [4,5,9,10]),(9,zK [4,5] [4,5])],
 [(3,⟨[1,4,5,6,12,13,14],[4,5,23],[(6,23,40,λ _=>zal default)],[],[],[],[]⟩)],
 [(7,zK [4,5,6] [4,5,23]),(8,zK [4,5,6,9] [4,5,9,23]),(9,zK [4,5,9,10] [4,5,9,10])],
 [],[]⟩
abbrev R70:=(Frac×Frac)
abbrev e70 (r:R70):List PA:=[.agg [.int .i64 r.1.Num,.int .i64 r.1.Den],.agg [.int .i64 r.2.Num,.int .i64 r.2.Den]]
@[irreducible] def z70:=ptF Tryz.prog G70 zJd Tryz.f70
def zF9 (c0:Int) (s:set) (zan:Int) (zdO:(Sl Frac)) (zgZ:Nat->List PV):St:=⟨[(1,zP (.fn 71 [] [.fp (zam c0) 0])),(4,zp 4 0),(5,zp 5 0),(6,zv 23),(12,zS zaA 3 s.corners),(13,zI (s.corners.len:Int)),(14,zI zan)],[(4,.box 40 (zm (zal (⟨(0:Int),(0:Int)⟩:Frac)))),(5,.box 40 (zm (zal (⟨(0:Int),(0:Int)⟩:Frac)))),(23,.vec 40 2 16 zdO.len zgZ)],[]⟩
abbrev zOe (K:List PA->Prop) (c0:Int) (s:set) (X:St->Prop) (P:Int->(Sl Frac)->Bool) (S:Int->(Sl Frac)->(Frac×Frac)):Prop:=∀ ⦃zan:Int⦄ ⦃zdO:(Sl Frac)⦄ ⦃zgZ:Nat->List PV⦄,P zan zdO=true->K (e70 (S zan zdO))->zgZ=zg zal zdO->X (zF9 c0 s zan zdO zgZ)
section
variable {K:List PA->Prop}{c0:Int}{s:set}{zan:Int}{zdO:(Sl Frac)}{zgZ:Nat->List PV}{X0:St->Prop}{P0:Int->(Sl Frac)->Bool}{S0:Int->(Sl Frac)->(Frac×Frac)}{zjb:(Sl Frac)}{zAo:Nat->List PV}{zdP:Int}{zdQ:Int}{zkU:(Sl Frac)}{zAp:Nat->List PV}{zgf:Int}{zgg:Int}
def zAq (zdP:Int) (zdQ:Int) (zgf:Int) (zgg:Int):(Frac×Frac) :=
  ((s68 zdP zdQ),(s68 zgf zgg))
def zAr (zdP:Int) (zdQ:Int) (zgf:Int) (zgg:Int):Bool :=
  (decide ((p68 zdP zdQ=true)) &&
 (decide ((p68 zgf zgg=true)) &&
 true))
theorem zJe (hs:zAr zdP zdQ zgf zgg=true) (hk:K (e70 (zAq zdP zdQ zgf zgg))):z70 K [1,1,1,1,1] [] ⟨[(4,zp 4 0),(5,zp 5 0),(9,zp 9 0),(10,zp 10 0)],[(4,.box 40 (zm (zal (⟨(0:Int),(0:Int)⟩:Frac)))),(5,.box 40 (zm (zal (⟨(0:Int),(0:Int)⟩:Frac)))),(9,.box 40 (zm (zal (⟨zdP,zdQ⟩:Frac)))),(10,.box 40 (zm (zal (⟨zgf,zgg⟩:Frac))))],[]⟩:=zaM (by kernel_rfl) (zaI hs λ hc hs=>And.intro hc (zaI hs λ hc hs=>And.intro hc hk))
def zAs (zdP:Int) (zdQ:Int) (zkU:(Sl Frac)):(Frac×Frac) :=
  (zAq zdP zdQ ((zJb zkU).Num) ((zJb zkU).Den))
def zAt (zdP:Int) (zdQ:Int) (zkU:(Sl Frac)):Bool :=
  (decide ((zRu zkU=true)) &&
 (zAr zdP zdQ ((zJb zkU).Num) ((zJb zkU).Den)))
theorem zJf (hs:zAt zdP zdQ zkU=true) (hk:K (e70 (zAs zdP zdQ zkU))) (zJg:zAp=zg zal zkU):z70 K [1,1,1,1] [] ⟨[(4,zp 4 0),(5,zp 5 0),(6,zv 23),(9,zp 9 0)],[(4,.box 40 (zm (zal (⟨(0:Int),(0:Int)⟩:Frac)))),(5,.box 40 (zm (zal (⟨(0:Int),(0:Int)⟩:Frac)))),(9,.box 40 (zm (zal (⟨zdP,zdQ⟩:Frac)))),(23,.vec 40 2 16 zkU.len zAp)],[]⟩:=by subst zJg;exact zaM (by kernel_rfl) (zaI hs λ hc hs=>And.intro (And.intro (zE zal 2 zkU.get) hc) (zJe hs hk))
def zAu (zjb:(Sl Frac)):(Frac×Frac) :=
  (zAs ((s85 zjb).Num) ((s85 zjb).Den) zjb)
def zAv (zjb:(Sl Frac)):Bool :=
  (decide ((p85 zjb=true)) &&
 (zAt ((s85 zjb).Num) ((s85 zjb).Den) zjb))
theorem zJh (hs:zAv zjb=true) (hk:K (e70 (zAu zjb))) (zJi:zAo=zg zal zjb):z70 K [1,1,1] [] ⟨[(4,zp 4 0),(5,zp 5 0),(6,zv 23)],[(4,.box 40 (zm (zal (⟨(0:Int),(0:Int)⟩:Frac)))),(5,.box 40 (zm (zal (⟨(0:Int),(0:Int)⟩:Frac)))),(23,.vec 40 2 16 zjb.len zAo)],[]⟩:=by subst zJi;exact zaM (by kernel_rfl) (zaI hs λ hc hs=>And.intro (And.intro (zE zal 2 zjb.get) hc) (zJf hs hk rfl))
def zAw (c0:Int) (s:set) (S0:Int->(Sl Frac)->(Frac×Frac)) (zan:Int) (zdO:(Sl Frac)):(Frac×Frac) :=
  (cond (decide (zan < (s.corners.len : Int)))
 (S0 (w64 (zan+(1:Int))) (⟨(zdO.len+1),(zfe zdO.len zdO.get (λ _=>(s71 c0 (s.corners.get zan.toNat))))⟩:Sl Frac))
 (zAu zdO))
def zAx (c0:Int) (s:set) (P0:Int->(Sl Frac)->Bool) (zan:Int) (zdO:(Sl Frac)):Bool :=
  (cond (decide (zan < (s.corners.len : Int)))
 (decide ((0<=zan/\zan < (s.corners.len:Int))) &&
 (decide (((zdO.len+1) * 16<=140737488355328/\zdO.len+1<=9223372036854775807)) &&
 (P0 (w64 (zan+(1:Int))) (⟨(zdO.len+1),(zfe zdO.len zdO.get (λ _=>(s71 c0 (s.corners.get zan.toNat))))⟩:Sl Frac))))
 (zAv zdO))
def zAy (c0:Int) (s:set):Nat->Int->(Sl Frac)->(Frac×Frac):=lpO (λ _ _=>default) (zAw c0 s)
def zAz (c0:Int) (s:set):Nat->Int->(Sl Frac)->Bool:=lpO (λ _ _=>false) (zAx c0 s)
def zAA (c0:Int) (s:set) (zan:Int) (zdO:(Sl Frac)):(Frac×Frac):=zAy c0 s Fuel zan zdO
def zAB (c0:Int) (s:set) (zan:Int) (zdO:(Sl Frac)):Bool:=zAz c0 s Fuel zan zdO
theorem zJj (hs:zAB c0 s zan zdO=true) (hk:K (e70 (zAA c0 s zan zdO))) (zso:zgZ=zg zal zdO):z70 K [1,1,0,1,0] [] (zF9 c0 s zan zdO zgZ) :=
  zl (λ X=>z70 K [1,1,0,1,0,0] [X]) (by kernel_rfl) λ X0 hX =>
  (show ∀ k, zOe K c0 s X0 (zAz c0 s k) (zAy c0 s k) from zfo _ _ (zAx c0 s) (zAw c0 s) (zOe K c0 s X0)
 (by intro _ _ _ hs;exact absurd hs dqk)
 (by intro P0 S0 hX0 zan zdO zgZ hs hk zso;subst zso;exact hX _ (zaM (by kernel_rfl) (zc hs hk (λ hs hk=>(zaI hs λ hc hs=>And.intro hc (zaI hs λ hc hs=>And.intro hc (hX0 hs hk (zfm (enc:=zal) (f:=zdO.get) (h:=(λ _=>(s71 c0 (s.corners.get zan.toNat)))) rfl rfl))))) (λ hs hk=>(zJh hs hk rfl)))))) _ hs hk zso
def s70 (c0:Int) (s:set):(Frac×Frac) :=
  (zAA c0 s (0:Int) (⟨0,(λ _=>default)⟩:Sl Frac))
def p70 (c0:Int) (s:set):Bool :=
  (zAB c0 s (0:Int) (⟨0,(λ _=>default)⟩:Sl Frac))
end
theorem q70 (c0:Int) (s:set) (K:List PA->Prop) (hs:p70 c0 s=true) (hk:K (e70 (s70 c0 s))):vcFun Tryz.prog G70 zJd 70 [.agg (zcv s),.one (.fn 71 [] [.fp (zam c0) 0])] K :=
  zaM (by kernel_rfl) (zJj hs hk rfl)
def zJk : List PA → COut
  | [.agg [.sl zai zaJ zaj,.sl zat zbd zau],.one (.fn 71 [] [.fp [.int .i64 c0] 0])]=>.det (IsE enc_48 3 zaJ zaj/\IsE zaA 3 zbd zau/\p70 c0 (⟨(⟨(⟨zai,zaf zaj⟩:(Sl Gate))⟩:list),(⟨zat,zcA zau⟩:(Sl straight))⟩:set)=true) [.agg [.int .i64 (((s70 c0 (⟨(⟨(⟨zai,zaf zaj⟩:(Sl Gate))⟩:list),(⟨zat,zcA zau⟩:(Sl straight))⟩:set)).1).Num),.int .i64 (((s70 c0 (⟨(⟨(⟨zai,zaf zaj⟩:(Sl Gate))⟩:list),(⟨zat,zcA zau⟩:(Sl straight))⟩:set)).1).Den)],.agg [.int .i64 (((s70 c0 (⟨(⟨(⟨zai,zaf zaj⟩:(Sl Gate))⟩:list),(⟨zat,zcA zau⟩:(Sl straight))⟩:set)).2).Num),.int .i64 (((s70 c0 (⟨(⟨(⟨zai,zaf zaj⟩:(Sl Gate))⟩:list),(⟨zat,zcA zau⟩:(Sl straight))⟩:set)).2).Den)]]
  | _=>.no
theorem zOf:zah Tryz.prog 70:=⟨_,rfl,rfl,by kernel_rfl⟩
theorem zTG:Ok Tryz.prog 70 zJk:=zaV zRv zOf λ args K h=>by
  unfold zJk at h
  split at h
  · rename_i zai zaJ zaj zat zbd zau c0
    obtain⟨⟨⟨rfl,zas,rfl⟩,⟨rfl,zaP,rfl⟩,hs⟩,hk⟩:=h
    try rw[zae zas] at hs
    try rw[zae zas] at hk
    try rw[zbP zaP] at hs
    try rw[zbP zaP] at hk
    exact⟨(λ _ _=>[]),(λ _=>false),zJd,q70 c0 (⟨(⟨(⟨zai,zas⟩:(Sl Gate))⟩:list),(⟨zat,zaP⟩:(Sl straight))⟩:set) K hs hk⟩
  · exact h.elim
abbrev T46:Tabs:=((((Tabs.nil.addF 49 zqB).addF 68 zwI).addF 69 zES).addF 70 zJk)
theorem zRw:TabsOk Tryz.prog T46:=((((TabsOk.nil.addF zMb).addF zQg).addF zSF).addF zTG)
abbrev G46:Ctrs:=csm T46 (λ _ _=>[]) (λ _=>false)
def zOg:Ann:=⟨24,[(0,zK [2,3,4,5] [2,3,4,5]),(1,zK [2,3,4,5,9] [2,3,4,5]),(2,zK [4,5,6] [4,5,6]),(3,zK [4,5] [4,5]),(4,zK [4,5] [4,5])],
 [],
 [],
 [],[]⟩
abbrev R46:=(Frac×Frac)
abbrev e46 (r:R46):List PA:=[.agg [.int .i64 r.1.Num,.int .i64 r.1.Den],.agg [.int .i64 r.2.Num,.int .i64 r.2.Den]]
section
variable {K:List PA->Prop}{s:set}{z:Int}
def s46 (s:set) (z:Int):(Frac×Frac) :=
  (cond (s49 s.list)
 ((s68 ((s69 s.list).Low) (1:Int)),(s68 ((s69 s.list).High) (1:Int)))
 (((s70 z s).1),((s70 z s).2)))
def p46 (s:set) (z:Int):Bool :=
  (decide ((p49 s.list=true)) &&
 (cond (s49 s.list)
 (decide ((p69 s.list=true)) &&
 (decide ((p68 ((s69 s.list).Low) (1:Int)=true)) &&
 (decide ((p68 ((s69 s.list).High) (1:Int)=true)) &&
 true)))
 (decide ((p70 z s=true)) &&
 true)))
end
theorem q46 (s:set) (z:Int) (K:List PA->Prop) (hs:p46 s z=true) (hk:K (e46 (s46 s z))):vcFun Tryz.prog G46 zOg 46 [.agg (zcv s),.one (.int .i64 z)] K :=
  zaM (by kernel_rfl) (zaI hs λ hc hs=>And.intro (And.intro (zE enc_48 3 s.list.Gates.get) hc) (zc hs hk (λ hs hk=>(zaI hs λ hc hs=>And.intro (And.intro (zE enc_48 3 s.list.Gates.get) hc) (zaI hs λ hc hs=>And.intro hc (zaI hs λ hc hs=>And.intro hc hk)))) (λ hs hk=>(zaI hs λ hc hs=>And.intro (And.intro (zE enc_48 3 s.list.Gates.get) (And.intro (zE zaA 3 s.corners.get) hc)) hk))))
def zE1 : List PA → COut
  | [.agg [.sl zai zaJ zaj,.sl zat zbd zau],.one (.int .i64 a1)]=>.det (IsE enc_48 3 zaJ zaj/\IsE zaA 3 zbd zau/\p46 (⟨(⟨(⟨zai,zaf zaj⟩:(Sl Gate))⟩:list),(⟨zat,zcA zau⟩:(Sl straight))⟩:set) a1=true) [.agg [.int .i64 (((s46 (⟨(⟨(⟨zai,zaf zaj⟩:(Sl Gate))⟩:list),(⟨zat,zcA zau⟩:(Sl straight))⟩:set) a1).1).Num),.int .i64 (((s46 (⟨(⟨(⟨zai,zaf zaj⟩:(Sl Gate))⟩:list),(⟨zat,zcA zau⟩:(Sl straight))⟩:set) a1).1).Den)],.agg [.int .i64 (((s46 (⟨(⟨(⟨zai,zaf zaj⟩:(Sl Gate))⟩:list),(⟨zat,zcA zau⟩:(Sl straight))⟩:set) a1).2).Num),.int .i64 (((s46 (⟨(⟨(⟨zai,zaf zaj⟩:(Sl Gate))⟩:list),(⟨zat,zcA zau⟩:(Sl straight))⟩:set) a1).2).Den)]]
  | _=>.no
theorem zOh:zah Tryz.prog 46:=⟨_,rfl,rfl,by kernel_rfl⟩
theorem zSL:Ok Tryz.prog 46 zE1:=zaV zRw zOh λ args K h=>by
  unfold zE1 at h
  split at h
  · rename_i zai zaJ zaj zat zbd zau a1
    obtain⟨⟨⟨rfl,zas,rfl⟩,⟨rfl,zaP,rfl⟩,hs⟩,hk⟩:=h
    try rw[zae zas] at hs
    try rw[zae zas] at hk
    try rw[zbP zaP] at hs
    try rw[zbP zaP] at hk
    exact⟨(λ _ _=>[]),(λ _=>false),zOg,q46 (⟨(⟨(⟨zai,zas⟩:(Sl Gate))⟩:list),(⟨zat,zaP⟩:(Sl straight))⟩:set) a1 K hs hk⟩
  · exact h.elim
abbrev T22:Tabs:=(((Tabs.nil.addF 40 zEX).addF 44 zqz).addF 46 zE1)
theorem zRx:TabsOk Tryz.prog T22:=(((TabsOk.nil.addF zSI).addF zL9).addF zSL)
abbrev G22:Ctrs:=csm T22 (λ _ _=>[]) (λ _=>false)
def zJl:Ann:=⟨35,[(0,zK [0,3,4,5] [3,4,5]),(1,zK [0,3,4,5,13] [3,4,5]),(2,zK [4,5,6] [4,5]),(3,zK [3,4,5,7,8] [3,4,5,7]),(4,zK [3,4,5,7,8,23] [3,4,5,7]),(5,zK [4,5,6] [4,5]),(6,zK [4,5,9,10] [4,5,9,10]),(7,zK [4,5,6] [4,5])],
 [],
 [(2,zK [0,3,4,5,13] [3,4,5]),(3,zK [0,3,4,5] [3,4,5]),(4,zK [3,4,5,7,8] [3,4,5,7]),(6,zK [3,4,5,7] [3,4,5,7]),(7,zK [4,5,9,10] [4,5,9,10])],
 [],[]⟩
abbrev R22:=(Frac×Frac×Int)
abbrev e22 (r:R22):List PA:=[.agg [.int .i64 r.1.Num,.int .i64 r.1.Den],.agg [.int .i64 r.2.1.Num,.int .i64 r.2.1.Den],.one (.int .i64 r.2.2)]
@[irreducible] def z22:=ptF Tryz.prog G22 zJl Tryz.f22
section
variable {K:List PA->Prop}{zaa:(Sl Gate)}{z:Int}{zsp:Bool}{ev2:Int}{zqH:(Sl Gate)}{zqI:(Sl straight)}{zAC:Nat->List PV}{zAD:Nat->List PV}{zkV:(Sl Gate)}{zkW:(Sl straight)}{zAE:Nat->List PV}{zAF:Nat->List PV}{zo9:Int}{zpa:Int}{zlb:Int}{zlc:Int}
def zAG (zo9:Int) (zpa:Int) (zlb:Int) (zlc:Int):(Frac×Frac×Int) :=
  ((⟨zo9,zpa⟩:Frac),(⟨zlb,zlc⟩:Frac),(0:Int))
theorem zJm (hk:K (e22 (zAG zo9 zpa zlb zlc))):z22 K [1,1,1,1,1] [] ⟨[(4,zp 4 0),(5,zp 5 0),(9,zp 9 0),(10,zp 10 0)],[(4,.box 40 (zm (zal (⟨(0:Int),(0:Int)⟩:Frac)))),(5,.box 40 (zm (zal (⟨(0:Int),(0:Int)⟩:Frac)))),(9,.box 40 (zm (zal (⟨zo9,zpa⟩:Frac)))),(10,.box 40 (zm (zal (⟨zlb,zlc⟩:Frac))))],[]⟩:=zaM (by kernel_rfl) hk
def zAH (z:Int) (zkV:(Sl Gate)) (zkW:(Sl straight)):(Frac×Frac×Int) :=
  (zAG (((s46 (⟨(⟨zkV⟩:list),zkW⟩:set) z).1).Num) (((s46 (⟨(⟨zkV⟩:list),zkW⟩:set) z).1).Den) (((s46 (⟨(⟨zkV⟩:list),zkW⟩:set) z).2).Num) (((s46 (⟨(⟨zkV⟩:list),zkW⟩:set) z).2).Den))
def zAI (z:Int) (zkV:(Sl Gate)) (zkW:(Sl straight)):Bool :=
  (decide ((p46 (⟨(⟨zkV⟩:list),zkW⟩:set) z=true)) &&
 true)
theorem zJn (hs:zAI z zkV zkW=true) (hk:K (e22 (zAH z zkV zkW))) (zJo:zAE=zg enc_48 zkV) (zJp:zAF=zg zaA zkW):z22 K [1,1,1,1] [] ⟨[(3,zp 3 0),(4,zp 4 0),(5,zp 5 0),(7,zp 7 0)],[(3,.fbox [.int .i64 z]),(4,.box 40 (zm (zal (⟨(0:Int),(0:Int)⟩:Frac)))),(5,.box 40 (zm (zal (⟨(0:Int),(0:Int)⟩:Frac)))),(7,.box 75 [.p (.sl zkV.len 3 zAE),.p (.sl zkW.len 3 zAF)])],[]⟩:=by subst zJo;subst zJp;exact zaM (by kernel_rfl) (zaI hs λ hc hs=>And.intro (And.intro (zE enc_48 3 zkV.get) (And.intro (zE zaA 3 zkW.get) hc)) (zJm hk))
def zAJ (z:Int) (ev2:Int) (zqH:(Sl Gate)) (zqI:(Sl straight)):(Frac×Frac×Int) :=
  (cond (ev2 != (0:Int))
 ((⟨(0:Int),(0:Int)⟩:Frac),(⟨(0:Int),(0:Int)⟩:Frac),ev2)
 (zAH z zqH zqI))
def zAK (z:Int) (ev2:Int) (zqH:(Sl Gate)) (zqI:(Sl straight)):Bool :=
  (cond (ev2 != (0:Int))
 true
 (zAI z zqH zqI))
theorem zJq (hs:zAK z ev2 zqH zqI=true) (hk:K (e22 (zAJ z ev2 zqH zqI))) (zJr:zAC=zg enc_48 zqH) (zJs:zAD=zg zaA zqI):z22 K [1,1,1] [] ⟨[(3,zp 3 0),(4,zp 4 0),(5,zp 5 0),(7,zp 7 0),(8,zI ev2)],[(3,.fbox [.int .i64 z]),(4,.box 40 (zm (zal (⟨(0:Int),(0:Int)⟩:Frac)))),(5,.box 40 (zm (zal (⟨(0:Int),(0:Int)⟩:Frac)))),(7,.box 75 [.p (.sl zqH.len 3 zAC),.p (.sl zqI.len 3 zAD)])],[]⟩:=by subst zJr;subst zJs;exact zaM (by kernel_rfl) (zc hs hk (λ hs hk=>hk) (λ hs hk=>(zJn hs hk rfl rfl)))
def zAL (zaa:(Sl Gate)) (z:Int):(Frac×Frac×Int) :=
  (zAJ z ((zwQ z zaa).2) (((zwQ z zaa).1).list.Gates) (((zwQ z zaa).1).corners))
def zAM (zaa:(Sl Gate)) (z:Int):Bool :=
  (decide ((zRf z zaa=true)) &&
 (zAK z ((zwQ z zaa).2) (((zwQ z zaa).1).list.Gates) (((zwQ z zaa).1).corners)))
theorem zJt (hs:zAM zaa z=true) (hk:K (e22 (zAL zaa z))):z22 K [1,1] [] ⟨[(0,zS enc_48 3 zaa),(3,zp 3 0),(4,zp 4 0),(5,zp 5 0)],[(3,.box 3 [zi z]),(4,.box 40 (zm (zal (⟨(0:Int),(0:Int)⟩:Frac)))),(5,.box 40 (zm (zal (⟨(0:Int),(0:Int)⟩:Frac))))],[]⟩:=zaM (by kernel_rfl) (zaI hs λ hc hs=>And.intro (And.intro (zE enc_48 3 zaa.get) hc) (zJq hs hk rfl rfl))
def zAN (zaa:(Sl Gate)) (z:Int) (zsp:Bool):(Frac×Frac×Int) :=
  (cond zsp
 ((⟨(0:Int),(0:Int)⟩:Frac),(⟨(0:Int),(0:Int)⟩:Frac),(2:Int))
 (zAL zaa z))
def zAO (zaa:(Sl Gate)) (z:Int) (zsp:Bool):Bool :=
  (cond zsp
 true
 (zAM zaa z))
theorem zJu (hs:zAO zaa z zsp=true) (hk:K (e22 (zAN zaa z zsp))):z22 K [1,0,1] [] ⟨[(0,zS enc_48 3 zaa),(3,zp 3 0),(4,zp 4 0),(5,zp 5 0),(13,zB zsp)],[(3,.box 3 [zi z]),(4,.box 40 (zm (zal (⟨(0:Int),(0:Int)⟩:Frac)))),(5,.box 40 (zm (zal (⟨(0:Int),(0:Int)⟩:Frac))))],[]⟩:=zaM (by kernel_rfl) (zc hs hk (λ hs hk=>hk) (λ hs hk=>(zJt hs hk)))
def s22 (zaa:(Sl Gate)) (z:Int):(Frac×Frac×Int) :=
  (zAN zaa z (!(s44 z (-100000:Int) (200000:Int))))
def p22 (zaa:(Sl Gate)) (z:Int):Bool :=
  (zAO zaa z (!(s44 z (-100000:Int) (200000:Int))))
end
theorem q22 (zaa:(Sl Gate)) (z:Int) (K:List PA->Prop) (hs:p22 zaa z=true) (hk:K (e22 (s22 zaa z))):vcFun Tryz.prog G22 zJl 22 [.one (.sl zaa.len 3 (λ i=>enc_48 (zaa.get i))),.one (.int .i64 z)] K :=
  zaM (by kernel_rfl) (zJu hs hk)
def zJv : List PA → COut
  | [.one (.sl zaK zbW zaL),.one (.int .i64 a1)]=>.det (IsE enc_48 3 zbW zaL/\p22 (⟨zaK,zaf zaL⟩:(Sl Gate)) a1=true) [.agg [.int .i64 (((s22 (⟨zaK,zaf zaL⟩:(Sl Gate)) a1).1).Num),.int .i64 (((s22 (⟨zaK,zaf zaL⟩:(Sl Gate)) a1).1).Den)],.agg [.int .i64 (((s22 (⟨zaK,zaf zaL⟩:(Sl Gate)) a1).2.1).Num),.int .i64 (((s22 (⟨zaK,zaf zaL⟩:(Sl Gate)) a1).2.1).Den)],.one (.int .i64 ((s22 (⟨zaK,zaf zaL⟩:(Sl Gate)) a1).2.2))]
  | _=>.no
theorem zOi:zah Tryz.prog 22:=⟨_,rfl,rfl,by kernel_rfl⟩
theorem zTH:Ok Tryz.prog 22 zJv:=zaV zRx zOi λ args K h=>by
  unfold zJv at h
  split at h
  · rename_i zaK zbW zaL a1
    obtain⟨⟨⟨rfl,zbn,rfl⟩,hs⟩,hk⟩:=h
    try rw[zae zbn] at hs
    try rw[zae zbn] at hk
    exact⟨(λ _ _=>[]),(λ _=>false),zJl,q22 (⟨zaK,zbn⟩:(Sl Gate)) a1 K hs hk⟩
  · exact h.elim
abbrev T23:Tabs:=Tabs.nil
theorem zRy:TabsOk Tryz.prog T23:=TabsOk.nil
abbrev G23:Ctrs:=csm T23 (λ _ _=>[]) (λ _=>false)
def zOj:Ann:=⟨5,[(0,zK [] []),(1,zK [0] [4])],
 [],
 [],
 [],[]⟩
abbrev R23:=(Sl Gate)
abbrev e23 (r:R23):List PA:=[.one (.sl r.len 3 (λ i=>enc_48 (r.get i)))]
section
variable {K:List PA->Prop}
def s23:(Sl Gate) :=
  (⟨3,(zlo (⟨(0:Int),(0:Int),(10:Int)⟩:Gate) [(⟨(0:Int),(0:Int),(10:Int)⟩:Gate),(⟨(100:Int),(20:Int),(30:Int)⟩:Gate),(⟨(200:Int),(0:Int),(9:Int)⟩:Gate)])⟩:(Sl Gate))
end
theorem q23 (K:List PA->Prop) (hk:K (e23 (s23))):vcFun Tryz.prog G23 zOj 23 [] K :=
  zaM (by kernel_rfl) (Eq.mpr (congrArg K (congrArg (λ (g_:Nat->List PV)=>([.one (.sl 3 3 g_)]:List PA)) (zf8 (enc:=enc_48) (x:=(⟨(0:Int),(0:Int),(10:Int)⟩:Gate)) (y:=(⟨(100:Int),(20:Int),(30:Int)⟩:Gate)) (r:=[(⟨(200:Int),(0:Int),(9:Int)⟩:Gate)])))) hk)
def zJw : List PA → COut
  | []=>.tot [.one (.sl ((s23).len) 3 (λ i=>enc_48 ((s23).get i)))]
  | _=>.no
theorem zOk:zah Tryz.prog 23:=⟨_,rfl,rfl,by kernel_rfl⟩
theorem zTI:Ok Tryz.prog 23 zJw:=zaV zRy zOk λ args K h=>by
  unfold zJw at h
  split at h
  · have hk := h
    exact⟨(λ _ _=>[]),(λ _=>false),zOj,q23 K hk⟩
  · exact h.elim
abbrev T24:Tabs:=((((((Tabs.nil.addF 28 zqA).addF 46 zE1).addF 47 zyW).addF 48 zy3).addF 49 zqB).addF 50 zwJ)
theorem zRz:TabsOk Tryz.prog T24:=((((((TabsOk.nil.addF zMa).addF zSL).addF zQ6).addF zQ9).addF zMb).addF zQk)
abbrev G24:Ctrs:=csm T24 (λ _ _=>[]) (λ _=>false)
def zJx:Ann:=⟨124,[(0,zK [0,1,2,3,9,10] [9,10]),(1,zK [0,1,2,3,9,10,12] [9,10,12]),(2,zK [0,1,2,3,9,10,12,44] [9,10,12]),(3,zK [8,9,10,11] [9,10]),(4,zK [2,3,9,10,12,13,14] [9,10,12,13,14]),(5,zK [2,3,9,10,12,13,14,58] [9,10,12,13,14]),(6,zK [8,9,10,11] [9,10]),(7,zK [2,3,9,10,12,13,14,68] [9,10,12,13,14]),(8,zK [8,9,10,11] [9,10]),(9,zK [2,3,9,10,12,13,14,15,16] [9,10,12,13,14,15,16]),(10,zK [2,3,9,10,12,13,14,15,16,17] [9,10,12,13,14,15,16]),(11,zK [2,3,9,10,12,13,14,15,16,17,76,77] [9,10,12,13,14,15,16]),(12,zK [2,3,9,10,12,13,14,15,16,17,76,77,78] [9,10,12,13,14,15,16]),(13,zK [2,3,9,10,12,13,14,15,16,17,18,76,77] [9,10,12,13,14,15,16]),(14,zK [2,3,9,10,12,13,14,15,16,17,18,19,20,76,77] [9,10,12,13,14,15,16,19,20]),(15,zK [2,3,9,10,12,13,14,15,16,17,18,19,20,21,22,76,77] [9,10,12,13,14,15,16,19,20,21,22]),(16,zK [2,3,9,10,12,13,14,15,16,17,18,19,20,21,22,76,77] [9,10,12,13,14,15,16,19,20,21,22]),(17,zK [2,3,9,10,12,13,14,15,16,17,18,20,21,22,76,77,101] [9,10,12,13,14,15,16,20,21,22]),(18,zK [2,3,9,10,12,13,14,15,16,17,18,20,22,76,77] [9,10,12,13,14,15,16,20,22]),(19,zK [2,3,9,10,12,13,14,15,16,17,18,22,76,77,106] [9,10,12,13,14,15,16,22]),(20,zK [2,3,9,10,12,13,14,15,16,17,18,76,77] [9,10,12,13,14,15,16]),(21,zK [2,3,9,10,12,13,14,15,16,17,18,76,77,111] [9,10,12,13,14,15,16]),(22,zK [3,9,10,12,15,16,17] [9,10,12,15,16]),(23,zK [2,3,9,10,12,13,14,15,16,17,76,77] [9,10,12,13,14,15,16]),(24,zK [9,10,12,15,16,17,118] [9,10,12,15,16]),(25,zK [8,9,10,11] [9,10]),(26,zK [8,9,10,11] [9,10])],
 [(12,zK [2,3,9,10,12,13,14,15,16,17,76,77] [9,10,12,13,14,15,16])],
 [(3,zK [0,1,2,3,9,10,12,44] [9,10,12]),(4,zK [0,1,2,3,9,10,12] [9,10,12]),(5,zK [2,3,9,10,12,13,14] [9,10,12,13,14]),(6,zK [2,3,9,10,12,13,14,58] [9,10,12,13,14]),(7,zK [2,3,9,10,12,13,14] [9,10,12,13,14]),(8,zK [2,3,9,10,12,13,14,68] [9,10,12,13,14]),(9,zK [2,3,9,10,12,13,14] [9,10,12,13,14]),(15,zK [2,3,9,10,12,13,14,15,16,17,18,19,20,76,77] [9,10,12,13,14,15,16,19,20]),(24,zK [3,9,10,12,15,16,17] [9,10,12,15,16]),(16,zK [2,3,9,10,12,13,14,15,16,17,18,19,20,21,22,76,77] [9,10,12,13,14,15,16,19,20,21,22]),(18,zK [2,3,9,10,12,13,14,15,16,17,18,20,21,22,76,77,101] [9,10,12,13,14,15,16,20,21,22]),(19,zK [2,3,9,10,12,13,14,15,16,17,18,20,22,76,77] [9,10,12,13,14,15,16,20,22]),(20,zK [2,3,9,10,12,13,14,15,16,17,18,22,76,77,106] [9,10,12,13,14,15,16,22]),(22,zK [2,3,9,10,12,13,14,15,16,17,18,76,77,111] [9,10,12,13,14,15,16])],
 [],[]⟩
abbrev R24:=(Int×Frac×Frac×Int)
abbrev e24 (r:R24):List PA:=[.one (.int .i64 r.1),.agg [.int .i64 r.2.1.Num,.int .i64 r.2.1.Den],.agg [.int .i64 r.2.2.1.Num,.int .i64 r.2.2.1.Den],.one (.int .i64 r.2.2.2)]
@[irreducible] def z24:=ptF Tryz.prog G24 zJx Tryz.f24
def zGa (low:Int) (high:Int) (zay:(Sl Gate)) (zaD:(Sl straight)) (zaz:(Sl Gate)) (zaE:(Sl straight)) (zdw:Int) (zcl:Int) (zcm:Int) (zdR:Int) (zdS:Int):St:=⟨[(2,zI low),(3,zI high),(9,zp 9 0),(10,zp 10 0),(12,zp 12 0),(13,zp 13 0),(14,zp 14 0),(15,zp 15 0),(16,zp 16 0),(17,zI (w64 (high+(1:Int)))),(76,zI (w64 ((w64 (high - low))+(1:Int)))),(77,zI zdw)],[(9,.box 40 (zm (zal (⟨(0:Int),(0:Int)⟩:Frac)))),(10,.box 40 (zm (zal (⟨(0:Int),(0:Int)⟩:Frac)))),(12,.box 40 (zm (zal (⟨(0:Int),(0:Int)⟩:Frac)))),(13,.box 75 (zm (zcv (⟨(⟨zay⟩:list),zaD⟩:set)))),(14,.box 75 (zm (zcv (⟨(⟨zaz⟩:list),zaE⟩:set)))),(15,.box 40 (zm (zal (⟨zcl,zcm⟩:Frac)))),(16,.box 40 (zm (zal (⟨zdR,zdS⟩:Frac))))],[]⟩
abbrev zqJ (K:List PA->Prop) (low:Int) (high:Int) (zay:(Sl Gate)) (zaD:(Sl straight)) (zaz:(Sl Gate)) (zaE:(Sl straight)) (X:St->Prop) (P:Int->Int->Int->Int->Int->Bool) (S:Int->Int->Int->Int->Int->(Int×Frac×Frac×Int)):Prop:=∀ ⦃zdw:Int⦄ ⦃zcl:Int⦄ ⦃zcm:Int⦄ ⦃zdR:Int⦄ ⦃zdS:Int⦄,P zdw zcl zcm zdR zdS=true->K (e24 (S zdw zcl zcm zdR zdS))->X (zGa low high zay zaD zaz zaE zdw zcl zcm zdR zdS)
section
variable {K:List PA->Prop}{a:(Sl Gate)}{b:(Sl Gate)}{low:Int}{high:Int}{zsq:Bool}{zay:(Sl Gate)}{zaD:(Sl straight)}{zaz:(Sl Gate)}{zaE:(Sl straight)}{zAP:Nat->List PV}{zAQ:Nat->List PV}{zAR:Nat->List PV}{zAS:Nat->List PV}{zsr:Bool}{zss:Bool}{zdw:Int}{zcl:Int}{zcm:Int}{zdR:Int}{zdS:Int}{X7:St->Prop}{P7:Int->Int->Int->Int->Int->Bool}{S7:Int->Int->Int->Int->Int->(Int×Frac×Frac×Int)}{iv8:Int}{zst:Int}{zgh:Int}{zgi:Int}{zmp:Int}{zmq:Int}{ze3:Int}{ze4:Int}{zcG:Int}{zcH:Int}{zOl:Int}{zld:Int}{zle:Int}{zvl:Int}{zvm:Int}{zjs:Int}{zmr:Int}{zg0:Int}{zg1:Int}{zms:Int}{zmt:Int}{zeD:Int}{zeE:Int}{zca:Int}{zcb:Int}{zE2:Int}{zjc:Int}{zik:Bool}{zJy:Int}{zmu:Int}{za6:Int}{za7:Int}{zE3:Int}{zjd:Int}{zil:Bool}{zMc:Int}{zmv:Int}{zim:Bool}{zg2:Int}{zg3:Int}
def zsu (high:Int) (zOl:Int) (zld:Int) (zle:Int) (zvl:Int) (zvm:Int):(Int×Frac×Frac×Int) :=
  (cond (decide (zOl > high))
 ((0:Int),(⟨(0:Int),(0:Int)⟩:Frac),(⟨(0:Int),(0:Int)⟩:Frac),(5:Int))
 (zOl,(⟨zld,zle⟩:Frac),(⟨zvl,zvm⟩:Frac),(0:Int)))
theorem zAT (hk:K (e24 (zsu high zOl zld zle zvl zvm))):z24 K [1,0,1,1,1,1,1,1,1,1,1] [] ⟨[(3,zI high),(9,zp 9 0),(10,zp 10 0),(12,zp 12 0),(15,zp 15 0),(16,zp 16 0),(17,zI zOl)],[(9,.box 40 (zm (zal (⟨(0:Int),(0:Int)⟩:Frac)))),(10,.box 40 (zm (zal (⟨(0:Int),(0:Int)⟩:Frac)))),(12,.box 40 (zm (zal (⟨(0:Int),(0:Int)⟩:Frac)))),(15,.box 40 (zm (zal (⟨zld,zle⟩:Frac)))),(16,.box 40 (zm (zal (⟨zvl,zvm⟩:Frac))))],[]⟩:=zaM (by kernel_rfl) (zt hk (λ hk=>hk) (λ hk=>hk))
def zpb (S7:Int->Int->Int->Int->Int->(Int×Frac×Frac×Int)) (low:Int) (high:Int) (zay:(Sl Gate)) (zaD:(Sl straight)) (zaz:(Sl Gate)) (zaE:(Sl straight)) (za6:Int) (za7:Int) (zMc:Int) (zmv:Int) (zim:Bool) (zg2:Int) (zg3:Int):(Int×Frac×Frac×Int) :=
  (cond zim
 (zsu high (w64 (low+zMc)) za6 za7 zg2 zg3)
 (S7 (w64 (zmv+(1:Int))) za6 za7 zg2 zg3))
def zpc (P7:Int->Int->Int->Int->Int->Bool) (low:Int) (high:Int) (zay:(Sl Gate)) (zaD:(Sl straight)) (zaz:(Sl Gate)) (zaE:(Sl straight)) (za6:Int) (za7:Int) (zMc:Int) (zmv:Int) (zim:Bool) (zg2:Int) (zg3:Int):Bool :=
  (cond zim
 true
 (P7 (w64 (zmv+(1:Int))) za6 za7 zg2 zg3))
theorem zvn (hX7:zqJ K low high zay zaD zaz zaE X7 P7 S7) (hs:zpc P7 low high zay zaD zaz zaE za6 za7 zMc zmv zim zg2 zg3=true) (hk:K (e24 (zpb S7 low high zay zaD zaz zaE za6 za7 zMc zmv zim zg2 zg3))):z24 K [1,0,1,1,1,1,1,1,1,1,0,1,0,0,1,1,0,0,1,1,1,1,1,1,1] [X7] ⟨[(2,zI low),(3,zI high),(9,zp 9 0),(10,zp 10 0),(12,zp 12 0),(13,zp 13 0),(14,zp 14 0),(15,zp 15 0),(16,zp 16 0),(17,zI (w64 (high+(1:Int)))),(18,zI zMc),(76,zI (w64 ((w64 (high - low))+(1:Int)))),(77,zI zmv),(111,zB zim)],[(9,.box 40 (zm (zal (⟨(0:Int),(0:Int)⟩:Frac)))),(10,.box 40 (zm (zal (⟨(0:Int),(0:Int)⟩:Frac)))),(12,.box 40 (zm (zal (⟨(0:Int),(0:Int)⟩:Frac)))),(13,.box 75 (zm (zcv (⟨(⟨zay⟩:list),zaD⟩:set)))),(14,.box 75 (zm (zcv (⟨(⟨zaz⟩:list),zaE⟩:set)))),(15,.box 40 (zm (zal (⟨za6,za7⟩:Frac)))),(16,.box 40 (zm (zal (⟨zg2,zg3⟩:Frac))))],[]⟩:=zaM (by kernel_rfl) (zc hs hk (λ hs hk=>(zAT hk)) (λ hs hk=>(hX7 hs hk)))
def zvo (S7:Int->Int->Int->Int->Int->(Int×Frac×Frac×Int)) (low:Int) (high:Int) (zay:(Sl Gate)) (zaD:(Sl straight)) (zaz:(Sl Gate)) (zaE:(Sl straight)) (zcG:Int) (zcH:Int) (zca:Int) (zcb:Int) (za6:Int) (za7:Int) (zE3:Int) (zjd:Int) (zil:Bool):(Int×Frac×Frac×Int) :=
  (cond zil
 (zpb S7 low high zay zaD zaz zaE za6 za7 zE3 zjd (decide ((s50 (⟨za6,za7⟩:Frac) (⟨zca,zcb⟩:Frac))<=(0:Int))) zca zcb)
 (zpb S7 low high zay zaD zaz zaE za6 za7 zE3 zjd (decide ((s50 (⟨za6,za7⟩:Frac) (⟨zcG,zcH⟩:Frac))<=(0:Int))) zcG zcH))
def zvp (P7:Int->Int->Int->Int->Int->Bool) (low:Int) (high:Int) (zay:(Sl Gate)) (zaD:(Sl straight)) (zaz:(Sl Gate)) (zaE:(Sl straight)) (zcG:Int) (zcH:Int) (zca:Int) (zcb:Int) (za6:Int) (za7:Int) (zE3:Int) (zjd:Int) (zil:Bool):Bool :=
  (cond zil
 (zpc P7 low high zay zaD zaz zaE za6 za7 zE3 zjd (decide ((s50 (⟨za6,za7⟩:Frac) (⟨zca,zcb⟩:Frac))<=(0:Int))) zca zcb)
 (zpc P7 low high zay zaD zaz zaE za6 za7 zE3 zjd (decide ((s50 (⟨za6,za7⟩:Frac) (⟨zcG,zcH⟩:Frac))<=(0:Int))) zcG zcH))
theorem zE4 (hX7:zqJ K low high zay zaD zaz zaE X7 P7 S7) (hs:zvp P7 low high zay zaD zaz zaE zcG zcH zca zcb za6 za7 zE3 zjd zil=true) (hk:K (e24 (zvo S7 low high zay zaD zaz zaE zcG zcH zca zcb za6 za7 zE3 zjd zil))):z24 K [1,0,1,1,1,1,1,1,1,1,0,1,0,0,1,1,0,0,1,1,1,1,1,0,1] [X7] ⟨[(2,zI low),(3,zI high),(9,zp 9 0),(10,zp 10 0),(12,zp 12 0),(13,zp 13 0),(14,zp 14 0),(15,zp 15 0),(16,zp 16 0),(17,zI (w64 (high+(1:Int)))),(18,zI zE3),(22,zp 22 0),(76,zI (w64 ((w64 (high - low))+(1:Int)))),(77,zI zjd),(106,zB zil)],[(9,.box 40 (zm (zal (⟨(0:Int),(0:Int)⟩:Frac)))),(10,.box 40 (zm (zal (⟨(0:Int),(0:Int)⟩:Frac)))),(12,.box 40 (zm (zal (⟨(0:Int),(0:Int)⟩:Frac)))),(13,.box 75 (zm (zcv (⟨(⟨zay⟩:list),zaD⟩:set)))),(14,.box 75 (zm (zcv (⟨(⟨zaz⟩:list),zaE⟩:set)))),(15,.box 40 (zm (zal (⟨za6,za7⟩:Frac)))),(16,.box 40 (zm (zal (⟨zcG,zcH⟩:Frac)))),(22,.box 40 (zm (zal (⟨zca,zcb⟩:Frac))))],[]⟩:=zaM (by kernel_rfl) (zc hs hk (λ hs hk=>(zvn hX7 hs hk)) (λ hs hk=>(zvn hX7 hs hk)))
def zpd (S7:Int->Int->Int->Int->Int->(Int×Frac×Frac×Int)) (low:Int) (high:Int) (zay:(Sl Gate)) (zaD:(Sl straight)) (zaz:(Sl Gate)) (zaE:(Sl straight)) (zcG:Int) (zcH:Int) (zca:Int) (zcb:Int) (zJy:Int) (zmu:Int) (za6:Int) (za7:Int):(Int×Frac×Frac×Int) :=
  (zvo S7 low high zay zaD zaz zaE zcG zcH zca zcb za6 za7 zJy zmu (decide ((s50 (⟨zca,zcb⟩:Frac) (⟨zcG,zcH⟩:Frac)) < (0:Int))))
def zpe (P7:Int->Int->Int->Int->Int->Bool) (low:Int) (high:Int) (zay:(Sl Gate)) (zaD:(Sl straight)) (zaz:(Sl Gate)) (zaE:(Sl straight)) (zcG:Int) (zcH:Int) (zca:Int) (zcb:Int) (zJy:Int) (zmu:Int) (za6:Int) (za7:Int):Bool :=
  (zvp P7 low high zay zaD zaz zaE zcG zcH zca zcb za6 za7 zJy zmu (decide ((s50 (⟨zca,zcb⟩:Frac) (⟨zcG,zcH⟩:Frac)) < (0:Int))))
theorem zvq (hX7:zqJ K low high zay zaD zaz zaE X7 P7 S7) (hs:zpe P7 low high zay zaD zaz zaE zcG zcH zca zcb zJy zmu za6 za7=true) (hk:K (e24 (zpd S7 low high zay zaD zaz zaE zcG zcH zca zcb zJy zmu za6 za7))):z24 K [1,0,1,1,1,1,1,1,1,1,0,1,0,0,1,1,0,0,1,1,1,1,1] [X7] ⟨[(2,zI low),(3,zI high),(9,zp 9 0),(10,zp 10 0),(12,zp 12 0),(13,zp 13 0),(14,zp 14 0),(15,zp 15 0),(16,zp 16 0),(17,zI (w64 (high+(1:Int)))),(18,zI zJy),(20,zp 20 0),(22,zp 22 0),(76,zI (w64 ((w64 (high - low))+(1:Int)))),(77,zI zmu)],[(9,.box 40 (zm (zal (⟨(0:Int),(0:Int)⟩:Frac)))),(10,.box 40 (zm (zal (⟨(0:Int),(0:Int)⟩:Frac)))),(12,.box 40 (zm (zal (⟨(0:Int),(0:Int)⟩:Frac)))),(13,.box 75 (zm (zcv (⟨(⟨zay⟩:list),zaD⟩:set)))),(14,.box 75 (zm (zcv (⟨(⟨zaz⟩:list),zaE⟩:set)))),(15,.box 40 (zm (zal (⟨za6,za7⟩:Frac)))),(16,.box 40 (zm (zal (⟨zcG,zcH⟩:Frac)))),(20,.box 40 (zm (zal (⟨zcG,zcH⟩:Frac)))),(22,.box 40 (zm (zal (⟨zca,zcb⟩:Frac))))],[]⟩:=zaM (by kernel_rfl) (zE4 hX7 hs hk)
def zvr (S7:Int->Int->Int->Int->Int->(Int×Frac×Frac×Int)) (low:Int) (high:Int) (zay:(Sl Gate)) (zaD:(Sl straight)) (zaz:(Sl Gate)) (zaE:(Sl straight)) (ze3:Int) (ze4:Int) (zcG:Int) (zcH:Int) (zeD:Int) (zeE:Int) (zca:Int) (zcb:Int) (zE2:Int) (zjc:Int) (zik:Bool):(Int×Frac×Frac×Int) :=
  (cond zik
 (zpd S7 low high zay zaD zaz zaE zcG zcH zca zcb zE2 zjc zeD zeE)
 (zpd S7 low high zay zaD zaz zaE zcG zcH zca zcb zE2 zjc ze3 ze4))
def zvs (P7:Int->Int->Int->Int->Int->Bool) (low:Int) (high:Int) (zay:(Sl Gate)) (zaD:(Sl straight)) (zaz:(Sl Gate)) (zaE:(Sl straight)) (ze3:Int) (ze4:Int) (zcG:Int) (zcH:Int) (zeD:Int) (zeE:Int) (zca:Int) (zcb:Int) (zE2:Int) (zjc:Int) (zik:Bool):Bool :=
  (cond zik
 (zpe P7 low high zay zaD zaz zaE zcG zcH zca zcb zE2 zjc zeD zeE)
 (zpe P7 low high zay zaD zaz zaE zcG zcH zca zcb zE2 zjc ze3 ze4))
theorem zE5 (hX7:zqJ K low high zay zaD zaz zaE X7 P7 S7) (hs:zvs P7 low high zay zaD zaz zaE ze3 ze4 zcG zcH zeD zeE zca zcb zE2 zjc zik=true) (hk:K (e24 (zvr S7 low high zay zaD zaz zaE ze3 ze4 zcG zcH zeD zeE zca zcb zE2 zjc zik))):z24 K [1,0,1,1,1,1,1,1,1,1,0,1,0,0,1,1,0,0,1,1,1,1,0,1] [X7] ⟨[(2,zI low),(3,zI high),(9,zp 9 0),(10,zp 10 0),(12,zp 12 0),(13,zp 13 0),(14,zp 14 0),(15,zp 15 0),(16,zp 16 0),(17,zI (w64 (high+(1:Int)))),(18,zI zE2),(20,zp 20 0),(21,zp 21 0),(22,zp 22 0),(76,zI (w64 ((w64 (high - low))+(1:Int)))),(77,zI zjc),(101,zB zik)],[(9,.box 40 (zm (zal (⟨(0:Int),(0:Int)⟩:Frac)))),(10,.box 40 (zm (zal (⟨(0:Int),(0:Int)⟩:Frac)))),(12,.box 40 (zm (zal (⟨(0:Int),(0:Int)⟩:Frac)))),(13,.box 75 (zm (zcv (⟨(⟨zay⟩:list),zaD⟩:set)))),(14,.box 75 (zm (zcv (⟨(⟨zaz⟩:list),zaE⟩:set)))),(15,.box 40 (zm (zal (⟨ze3,ze4⟩:Frac)))),(16,.box 40 (zm (zal (⟨zcG,zcH⟩:Frac)))),(20,.box 40 (zm (zal (⟨zcG,zcH⟩:Frac)))),(21,.box 40 (zm (zal (⟨zeD,zeE⟩:Frac)))),(22,.box 40 (zm (zal (⟨zca,zcb⟩:Frac))))],[]⟩:=zaM (by kernel_rfl) (zc hs hk (λ hs hk=>(zvq hX7 hs hk)) (λ hs hk=>(zvq hX7 hs hk)))
def zvt (S7:Int->Int->Int->Int->Int->(Int×Frac×Frac×Int)) (low:Int) (high:Int) (zay:(Sl Gate)) (zaD:(Sl straight)) (zaz:(Sl Gate)) (zaE:(Sl straight)) (ze3:Int) (ze4:Int) (zcG:Int) (zcH:Int) (zjs:Int) (zmr:Int) (zg0:Int) (zg1:Int) (zms:Int) (zmt:Int) (zeD:Int) (zeE:Int) (zca:Int) (zcb:Int):(Int×Frac×Frac×Int) :=
  (zvr S7 low high zay zaD zaz zaE ze3 ze4 zcG zcH zeD zeE zca zcb zjs zmr (decide ((s50 (⟨zeD,zeE⟩:Frac) (⟨ze3,ze4⟩:Frac)) > (0:Int))))
def zvu (P7:Int->Int->Int->Int->Int->Bool) (low:Int) (high:Int) (zay:(Sl Gate)) (zaD:(Sl straight)) (zaz:(Sl Gate)) (zaE:(Sl straight)) (ze3:Int) (ze4:Int) (zcG:Int) (zcH:Int) (zjs:Int) (zmr:Int) (zg0:Int) (zg1:Int) (zms:Int) (zmt:Int) (zeD:Int) (zeE:Int) (zca:Int) (zcb:Int):Bool :=
  (zvs P7 low high zay zaD zaz zaE ze3 ze4 zcG zcH zeD zeE zca zcb zjs zmr (decide ((s50 (⟨zeD,zeE⟩:Frac) (⟨ze3,ze4⟩:Frac)) > (0:Int))))
theorem zE6 (hX7:zqJ K low high zay zaD zaz zaE X7 P7 S7) (hs:zvu P7 low high zay zaD zaz zaE ze3 ze4 zcG zcH zjs zmr zg0 zg1 zms zmt zeD zeE zca zcb=true) (hk:K (e24 (zvt S7 low high zay zaD zaz zaE ze3 ze4 zcG zcH zjs zmr zg0 zg1 zms zmt zeD zeE zca zcb))):z24 K [1,0,1,1,1,1,1,1,1,1,0,1,0,0,1,1,0,0,1,1,1] [X7] ⟨[(2,zI low),(3,zI high),(9,zp 9 0),(10,zp 10 0),(12,zp 12 0),(13,zp 13 0),(14,zp 14 0),(15,zp 15 0),(16,zp 16 0),(17,zI (w64 (high+(1:Int)))),(18,zI zjs),(19,zp 19 0),(20,zp 20 0),(21,zp 21 0),(22,zp 22 0),(76,zI (w64 ((w64 (high - low))+(1:Int)))),(77,zI zmr)],[(9,.box 40 (zm (zal (⟨(0:Int),(0:Int)⟩:Frac)))),(10,.box 40 (zm (zal (⟨(0:Int),(0:Int)⟩:Frac)))),(12,.box 40 (zm (zal (⟨(0:Int),(0:Int)⟩:Frac)))),(13,.box 75 (zm (zcv (⟨(⟨zay⟩:list),zaD⟩:set)))),(14,.box 75 (zm (zcv (⟨(⟨zaz⟩:list),zaE⟩:set)))),(15,.box 40 (zm (zal (⟨zg0,zg1⟩:Frac)))),(16,.box 40 (zm (zal (⟨zms,zmt⟩:Frac)))),(19,.box 40 (zm (zal (⟨ze3,ze4⟩:Frac)))),(20,.box 40 (zm (zal (⟨zcG,zcH⟩:Frac)))),(21,.box 40 (zm (zal (⟨zeD,zeE⟩:Frac)))),(22,.box 40 (zm (zal (⟨zca,zcb⟩:Frac))))],[]⟩:=zaM (by kernel_rfl) (zE5 hX7 hs hk)
def zAU (S7:Int->Int->Int->Int->Int->(Int×Frac×Frac×Int)) (low:Int) (high:Int) (zay:(Sl Gate)) (zaD:(Sl straight)) (zaz:(Sl Gate)) (zaE:(Sl straight)) (iv8:Int) (zst:Int) (zgh:Int) (zgi:Int) (zmp:Int) (zmq:Int) (ze3:Int) (ze4:Int) (zcG:Int) (zcH:Int):(Int×Frac×Frac×Int) :=
  (zvt S7 low high zay zaD zaz zaE ze3 ze4 zcG zcH iv8 zst zgh zgi zmp zmq (((s46 (⟨(⟨zaz⟩:list),zaE⟩:set) (w64 (low+iv8))).1).Num) (((s46 (⟨(⟨zaz⟩:list),zaE⟩:set) (w64 (low+iv8))).1).Den) (((s46 (⟨(⟨zaz⟩:list),zaE⟩:set) (w64 (low+iv8))).2).Num) (((s46 (⟨(⟨zaz⟩:list),zaE⟩:set) (w64 (low+iv8))).2).Den))
def zAV (P7:Int->Int->Int->Int->Int->Bool) (low:Int) (high:Int) (zay:(Sl Gate)) (zaD:(Sl straight)) (zaz:(Sl Gate)) (zaE:(Sl straight)) (iv8:Int) (zst:Int) (zgh:Int) (zgi:Int) (zmp:Int) (zmq:Int) (ze3:Int) (ze4:Int) (zcG:Int) (zcH:Int):Bool :=
  (decide ((p46 (⟨(⟨zaz⟩:list),zaE⟩:set) (w64 (low+iv8))=true)) &&
 (zvu P7 low high zay zaD zaz zaE ze3 ze4 zcG zcH iv8 zst zgh zgi zmp zmq (((s46 (⟨(⟨zaz⟩:list),zaE⟩:set) (w64 (low+iv8))).1).Num) (((s46 (⟨(⟨zaz⟩:list),zaE⟩:set) (w64 (low+iv8))).1).Den) (((s46 (⟨(⟨zaz⟩:list),zaE⟩:set) (w64 (low+iv8))).2).Num) (((s46 (⟨(⟨zaz⟩:list),zaE⟩:set) (w64 (low+iv8))).2).Den)))
theorem zJz (hX7:zqJ K low high zay zaD zaz zaE X7 P7 S7) (hs:zAV P7 low high zay zaD zaz zaE iv8 zst zgh zgi zmp zmq ze3 ze4 zcG zcH=true) (hk:K (e24 (zAU S7 low high zay zaD zaz zaE iv8 zst zgh zgi zmp zmq ze3 ze4 zcG zcH))):z24 K [1,0,1,1,1,1,1,1,1,1,0,1,0,0,1,1,0,0,1,1] [X7] ⟨[(2,zI low),(3,zI high),(9,zp 9 0),(10,zp 10 0),(12,zp 12 0),(13,zp 13 0),(14,zp 14 0),(15,zp 15 0),(16,zp 16 0),(17,zI (w64 (high+(1:Int)))),(18,zI iv8),(19,zp 19 0),(20,zp 20 0),(76,zI (w64 ((w64 (high - low))+(1:Int)))),(77,zI zst)],[(9,.box 40 (zm (zal (⟨(0:Int),(0:Int)⟩:Frac)))),(10,.box 40 (zm (zal (⟨(0:Int),(0:Int)⟩:Frac)))),(12,.box 40 (zm (zal (⟨(0:Int),(0:Int)⟩:Frac)))),(13,.box 75 (zm (zcv (⟨(⟨zay⟩:list),zaD⟩:set)))),(14,.box 75 (zm (zcv (⟨(⟨zaz⟩:list),zaE⟩:set)))),(15,.box 40 (zm (zal (⟨zgh,zgi⟩:Frac)))),(16,.box 40 (zm (zal (⟨zmp,zmq⟩:Frac)))),(19,.box 40 (zm (zal (⟨ze3,ze4⟩:Frac)))),(20,.box 40 (zm (zal (⟨zcG,zcH⟩:Frac))))],[]⟩:=zaM (by kernel_rfl) (zaI hs λ hc hs=>And.intro (And.intro (zE enc_48 3 zaz.get) (And.intro (zE zaA 3 zaE.get) hc)) (zE6 hX7 hs hk))
def zAW (low:Int) (high:Int) (zay:(Sl Gate)) (zaD:(Sl straight)) (zaz:(Sl Gate)) (zaE:(Sl straight)) (S7:Int->Int->Int->Int->Int->(Int×Frac×Frac×Int)) (zdw:Int) (zcl:Int) (zcm:Int) (zdR:Int) (zdS:Int):(Int×Frac×Frac×Int) :=
  (cond (decide (zdw < (w64 ((w64 (high - low)) + (1:Int)))))
 (zAU S7 low high zay zaD zaz zaE zdw zdw zcl zcm zdR zdS (((s46 (⟨(⟨zay⟩:list),zaD⟩:set) (w64 (low+zdw))).1).Num) (((s46 (⟨(⟨zay⟩:list),zaD⟩:set) (w64 (low+zdw))).1).Den) (((s46 (⟨(⟨zay⟩:list),zaD⟩:set) (w64 (low+zdw))).2).Num) (((s46 (⟨(⟨zay⟩:list),zaD⟩:set) (w64 (low+zdw))).2).Den))
 (zsu high (w64 (high+(1:Int))) zcl zcm zdR zdS))
def zAX (low:Int) (high:Int) (zay:(Sl Gate)) (zaD:(Sl straight)) (zaz:(Sl Gate)) (zaE:(Sl straight)) (P7:Int->Int->Int->Int->Int->Bool) (zdw:Int) (zcl:Int) (zcm:Int) (zdR:Int) (zdS:Int):Bool :=
  (cond (decide (zdw < (w64 ((w64 (high - low)) + (1:Int)))))
 (decide ((p46 (⟨(⟨zay⟩:list),zaD⟩:set) (w64 (low+zdw))=true)) &&
 (zAV P7 low high zay zaD zaz zaE zdw zdw zcl zcm zdR zdS (((s46 (⟨(⟨zay⟩:list),zaD⟩:set) (w64 (low+zdw))).1).Num) (((s46 (⟨(⟨zay⟩:list),zaD⟩:set) (w64 (low+zdw))).1).Den) (((s46 (⟨(⟨zay⟩:list),zaD⟩:set) (w64 (low+zdw))).2).Num) (((s46 (⟨(⟨zay⟩:list),zaD⟩:set) (w64 (low+zdw))).2).Den)))
 true)
def zAY (low:Int) (high:Int) (zay:(Sl Gate)) (zaD:(Sl straight)) (zaz:(Sl Gate)) (zaE:(Sl straight)):Nat->Int->Int->Int->Int->Int->(Int×Frac×Frac×Int):=lpO (λ _ _ _ _ _=>default) (zAW low high zay zaD zaz zaE)
def zAZ (low:Int) (high:Int) (zay:(Sl Gate)) (zaD:(Sl straight)) (zaz:(Sl Gate)) (zaE:(Sl straight)):Nat->Int->Int->Int->Int->Int->Bool:=lpO (λ _ _ _ _ _=>false) (zAX low high zay zaD zaz zaE)
def zA0 (low:Int) (high:Int) (zay:(Sl Gate)) (zaD:(Sl straight)) (zaz:(Sl Gate)) (zaE:(Sl straight)) (zdw:Int) (zcl:Int) (zcm:Int) (zdR:Int) (zdS:Int):(Int×Frac×Frac×Int):=zAY low high zay zaD zaz zaE Fuel zdw zcl zcm zdR zdS
def zA1 (low:Int) (high:Int) (zay:(Sl Gate)) (zaD:(Sl straight)) (zaz:(Sl Gate)) (zaE:(Sl straight)) (zdw:Int) (zcl:Int) (zcm:Int) (zdR:Int) (zdS:Int):Bool:=zAZ low high zay zaD zaz zaE Fuel zdw zcl zcm zdR zdS
theorem zJA (hs:zA1 low high zay zaD zaz zaE zdw zcl zcm zdR zdS=true) (hk:K (e24 (zA0 low high zay zaD zaz zaE zdw zcl zcm zdR zdS))):z24 K [1,0,1,1,1,1,1,1,1,1,0,1,0] [] (zGa low high zay zaD zaz zaE zdw zcl zcm zdR zdS) :=
  zl (λ X=>z24 K [1,0,1,1,1,1,1,1,1,1,0,1,0,0] [X]) (by kernel_rfl) λ X7 hX =>
  (show ∀ k, zqJ K low high zay zaD zaz zaE X7 (zAZ low high zay zaD zaz zaE k) (zAY low high zay zaD zaz zaE k) from zfo _ _ (zAX low high zay zaD zaz zaE) (zAW low high zay zaD zaz zaE) (zqJ K low high zay zaD zaz zaE X7)
 (by intro _ _ _ _ _ hs;exact absurd hs dqk)
 (by intro P7 S7 hX7 zdw zcl zcm zdR zdS hs hk;exact hX _ (zaM (by kernel_rfl) (zc hs hk (λ hs hk=>(zaI hs λ hc hs=>And.intro (And.intro (zE enc_48 3 zay.get) (And.intro (zE zaA 3 zaD.get) hc)) (zJz hX7 hs hk))) (λ hs hk=>(zAT hk)))))) _ hs hk
def zA2 (low:Int) (high:Int) (zay:(Sl Gate)) (zaD:(Sl straight)) (zaz:(Sl Gate)) (zaE:(Sl straight)):(Int×Frac×Frac×Int) :=
  (zA0 low high zay zaD zaz zaE (0:Int) (0:Int) (0:Int) (0:Int) (0:Int))
def zA3 (low:Int) (high:Int) (zay:(Sl Gate)) (zaD:(Sl straight)) (zaz:(Sl Gate)) (zaE:(Sl straight)):Bool :=
  (zA1 low high zay zaD zaz zaE (0:Int) (0:Int) (0:Int) (0:Int) (0:Int))
theorem zJB (hs:zA3 low high zay zaD zaz zaE=true) (hk:K (e24 (zA2 low high zay zaD zaz zaE))):z24 K [1,0,1,1,1,1,1] [] ⟨[(2,zI low),(3,zI high),(9,zp 9 0),(10,zp 10 0),(12,zp 12 0),(13,zp 13 0),(14,zp 14 0)],[(9,.box 40 (zm (zal (⟨(0:Int),(0:Int)⟩:Frac)))),(10,.box 40 (zm (zal (⟨(0:Int),(0:Int)⟩:Frac)))),(12,.box 40 (zm (zal (⟨(0:Int),(0:Int)⟩:Frac)))),(13,.box 75 (zm (zcv (⟨(⟨zay⟩:list),zaD⟩:set)))),(14,.box 75 (zm (zcv (⟨(⟨zaz⟩:list),zaE⟩:set))))],[]⟩:=zaM (by kernel_rfl) (zJA hs hk)
def zsv (low:Int) (high:Int) (zay:(Sl Gate)) (zaD:(Sl straight)) (zaz:(Sl Gate)) (zaE:(Sl straight)) (zss:Bool):(Int×Frac×Frac×Int) :=
  (cond zss
 ((0:Int),(⟨(0:Int),(0:Int)⟩:Frac),(⟨(0:Int),(0:Int)⟩:Frac),(6:Int))
 (zA2 low high zay zaD zaz zaE))
def zsw (low:Int) (high:Int) (zay:(Sl Gate)) (zaD:(Sl straight)) (zaz:(Sl Gate)) (zaE:(Sl straight)) (zss:Bool):Bool :=
  (cond zss
 true
 (zA3 low high zay zaD zaz zaE))
theorem zA4 (hs:zsw low high zay zaD zaz zaE zss=true) (hk:K (e24 (zsv low high zay zaD zaz zaE zss))):z24 K [1,0,1,1,1,1,0,1] [] ⟨[(2,zI low),(3,zI high),(9,zp 9 0),(10,zp 10 0),(12,zp 12 0),(13,zp 13 0),(14,zp 14 0),(68,zB zss)],[(9,.box 40 (zm (zal (⟨(0:Int),(0:Int)⟩:Frac)))),(10,.box 40 (zm (zal (⟨(0:Int),(0:Int)⟩:Frac)))),(12,.box 40 (zm (zal (⟨(0:Int),(0:Int)⟩:Frac)))),(13,.box 75 (zm (zcv (⟨(⟨zay⟩:list),zaD⟩:set)))),(14,.box 75 (zm (zcv (⟨(⟨zaz⟩:list),zaE⟩:set))))],[]⟩:=zaM (by kernel_rfl) (zc hs hk (λ hs hk=>hk) (λ hs hk=>(zJB hs hk)))
def zA5 (low:Int) (high:Int) (zay:(Sl Gate)) (zaD:(Sl straight)) (zaz:(Sl Gate)) (zaE:(Sl straight)):(Int×Frac×Frac×Int) :=
  (cond (s49 (⟨zay⟩ : list))
 (zsv low high zay zaD zaz zaE true)
 (zsv low high zay zaD zaz zaE (s49 (⟨zaz⟩:list))))
def zA6 (low:Int) (high:Int) (zay:(Sl Gate)) (zaD:(Sl straight)) (zaz:(Sl Gate)) (zaE:(Sl straight)):Bool :=
  (decide ((p49 (⟨zay⟩:list)=true)) &&
 (cond (s49 (⟨zay⟩ : list))
 (zsw low high zay zaD zaz zaE true)
 (decide ((p49 (⟨zaz⟩:list)=true)) &&
 (zsw low high zay zaD zaz zaE (s49 (⟨zaz⟩:list))))))
theorem zJC (hs:zA6 low high zay zaD zaz zaE=true) (hk:K (e24 (zA5 low high zay zaD zaz zaE))):z24 K [1,0,1,1,1,1] [] ⟨[(2,zI low),(3,zI high),(9,zp 9 0),(10,zp 10 0),(12,zp 12 0),(13,zp 13 0),(14,zp 14 0)],[(9,.box 40 (zm (zal (⟨(0:Int),(0:Int)⟩:Frac)))),(10,.box 40 (zm (zal (⟨(0:Int),(0:Int)⟩:Frac)))),(12,.box 40 (zm (zal (⟨(0:Int),(0:Int)⟩:Frac)))),(13,.box 75 (zm (zcv (⟨(⟨zay⟩:list),zaD⟩:set)))),(14,.box 75 (zm (zcv (⟨(⟨zaz⟩:list),zaE⟩:set))))],[]⟩:=zaM (by kernel_rfl) (zaI hs λ hc hs=>And.intro (And.intro (zE enc_48 3 zay.get) hc) (zc hs hk (λ hs hk=>(zA4 hs hk)) (λ hs hk=>(zaI hs λ hc hs=>And.intro (And.intro (zE enc_48 3 zaz.get) hc) (zA4 hs hk)))))
def zsx (low:Int) (high:Int) (zay:(Sl Gate)) (zaD:(Sl straight)) (zaz:(Sl Gate)) (zaE:(Sl straight)) (zsr:Bool):(Int×Frac×Frac×Int) :=
  (cond zsr
 ((0:Int),(⟨(0:Int),(0:Int)⟩:Frac),(⟨(0:Int),(0:Int)⟩:Frac),(5:Int))
 (zA5 low high zay zaD zaz zaE))
def zsy (low:Int) (high:Int) (zay:(Sl Gate)) (zaD:(Sl straight)) (zaz:(Sl Gate)) (zaE:(Sl straight)) (zsr:Bool):Bool :=
  (cond zsr
 true
 (zA6 low high zay zaD zaz zaE))
theorem zA7 (hs:zsy low high zay zaD zaz zaE zsr=true) (hk:K (e24 (zsx low high zay zaD zaz zaE zsr))):z24 K [1,0,1,1,1,0,1] [] ⟨[(2,zI low),(3,zI high),(9,zp 9 0),(10,zp 10 0),(12,zp 12 0),(13,zp 13 0),(14,zp 14 0),(58,zB zsr)],[(9,.box 40 (zm (zal (⟨(0:Int),(0:Int)⟩:Frac)))),(10,.box 40 (zm (zal (⟨(0:Int),(0:Int)⟩:Frac)))),(12,.box 40 (zm (zal (⟨(0:Int),(0:Int)⟩:Frac)))),(13,.box 75 (zm (zcv (⟨(⟨zay⟩:list),zaD⟩:set)))),(14,.box 75 (zm (zcv (⟨(⟨zaz⟩:list),zaE⟩:set))))],[]⟩:=zaM (by kernel_rfl) (zc hs hk (λ hs hk=>hk) (λ hs hk=>(zJC hs hk)))
def zA8 (low:Int) (high:Int) (zay:(Sl Gate)) (zaD:(Sl straight)) (zaz:(Sl Gate)) (zaE:(Sl straight)):(Int×Frac×Frac×Int) :=
  (cond (!(s48 (⟨(⟨zay⟩ : list), zaD⟩ : set)))
 (zsx low high zay zaD zaz zaE true)
 (zsx low high zay zaD zaz zaE (!(s48 (⟨(⟨zaz⟩:list),zaE⟩:set)))))
def zA9 (low:Int) (high:Int) (zay:(Sl Gate)) (zaD:(Sl straight)) (zaz:(Sl Gate)) (zaE:(Sl straight)):Bool :=
  (decide ((p48 (⟨(⟨zay⟩:list),zaD⟩:set)=true)) &&
 (cond (!(s48 (⟨(⟨zay⟩ : list), zaD⟩ : set)))
 (zsy low high zay zaD zaz zaE true)
 (decide ((p48 (⟨(⟨zaz⟩:list),zaE⟩:set)=true)) &&
 (zsy low high zay zaD zaz zaE (!(s48 (⟨(⟨zaz⟩:list),zaE⟩:set)))))))
theorem zJD (hs:zA9 low high zay zaD zaz zaE=true) (hk:K (e24 (zA8 low high zay zaD zaz zaE))) (zJE:zAP=zg enc_48 zay) (zJF:zAQ=zg zaA zaD) (zJG:zAR=zg enc_48 zaz) (zJH:zAS=zg zaA zaE):z24 K [1,0,1,1,1] [] ⟨[(2,zI low),(3,zI high),(9,zp 9 0),(10,zp 10 0),(12,zp 12 0),(13,zp 13 0),(14,zp 14 0)],[(9,.box 40 (zm (zal (⟨(0:Int),(0:Int)⟩:Frac)))),(10,.box 40 (zm (zal (⟨(0:Int),(0:Int)⟩:Frac)))),(12,.box 40 (zm (zal (⟨(0:Int),(0:Int)⟩:Frac)))),(13,.box 75 [.p (.sl zay.len 3 zAP),.p (.sl zaD.len 3 zAQ)]),(14,.box 75 [.p (.sl zaz.len 3 zAR),.p (.sl zaE.len 3 zAS)])],[]⟩:=by subst zJE;subst zJF;subst zJG;subst zJH;exact zaM (by kernel_rfl) (zaI hs λ hc hs=>And.intro (And.intro (zE enc_48 3 zay.get) (And.intro (zE zaA 3 zaD.get) hc)) (zc hs hk (λ hs hk=>(zA7 hs hk)) (λ hs hk=>(zaI hs λ hc hs=>And.intro (And.intro (zE enc_48 3 zaz.get) (And.intro (zE zaA 3 zaE.get) hc)) (zA7 hs hk)))))
def zBa (a:(Sl Gate)) (b:(Sl Gate)) (low:Int) (high:Int):(Int×Frac×Frac×Int) :=
  (zA8 low high ((s47 a).list.Gates) ((s47 a).corners) ((s47 b).list.Gates) ((s47 b).corners))
def zBb (a:(Sl Gate)) (b:(Sl Gate)) (low:Int) (high:Int):Bool :=
  (decide ((p47 a=true)) &&
 (decide ((p47 b=true)) &&
 (zA9 low high ((s47 a).list.Gates) ((s47 a).corners) ((s47 b).list.Gates) ((s47 b).corners))))
theorem zJI (hs:zBb a b low high=true) (hk:K (e24 (zBa a b low high))):z24 K [1,0,1,1] [] ⟨[(0,zS enc_48 3 a),(1,zS enc_48 3 b),(2,zI low),(3,zI high),(9,zp 9 0),(10,zp 10 0),(12,zp 12 0)],[(9,.box 40 (zm (zal (⟨(0:Int),(0:Int)⟩:Frac)))),(10,.box 40 (zm (zal (⟨(0:Int),(0:Int)⟩:Frac)))),(12,.box 40 (zm (zal (⟨(0:Int),(0:Int)⟩:Frac))))],[]⟩:=zaM (by kernel_rfl) (zaI hs λ hc hs=>And.intro (And.intro (zE enc_48 3 a.get) hc) (zaI hs λ hc hs=>And.intro (And.intro (zE enc_48 3 b.get) hc) (zJD hs hk rfl rfl rfl rfl)))
def zjL (a:(Sl Gate)) (b:(Sl Gate)) (low:Int) (high:Int) (zsq:Bool):(Int×Frac×Frac×Int) :=
  (cond zsq
 ((0:Int),(⟨(0:Int),(0:Int)⟩:Frac),(⟨(0:Int),(0:Int)⟩:Frac),(2:Int))
 (zBa a b low high))
def zjM (a:(Sl Gate)) (b:(Sl Gate)) (low:Int) (high:Int) (zsq:Bool):Bool :=
  (cond zsq
 true
 (zBb a b low high))
theorem zmw (hs:zjM a b low high zsq=true) (hk:K (e24 (zjL a b low high zsq))):z24 K [1,0,1,0,1] [] ⟨[(0,zS enc_48 3 a),(1,zS enc_48 3 b),(2,zI low),(3,zI high),(9,zp 9 0),(10,zp 10 0),(12,zp 12 0),(44,zB zsq)],[(9,.box 40 (zm (zal (⟨(0:Int),(0:Int)⟩:Frac)))),(10,.box 40 (zm (zal (⟨(0:Int),(0:Int)⟩:Frac)))),(12,.box 40 (zm (zal (⟨(0:Int),(0:Int)⟩:Frac))))],[]⟩:=zaM (by kernel_rfl) (zc hs hk (λ hs hk=>hk) (λ hs hk=>(zJI hs hk)))
def s24 (a:(Sl Gate)) (b:(Sl Gate)) (low:Int) (high:Int):(Int×Frac×Frac×Int) :=
  (cond (decide (low < (-100000:Int)))
 (zjL a b low high true)
 (cond (decide (low > high))
 (zjL a b low high true)
 (cond (decide (high > (200000:Int)))
 (zjL a b low high true)
 (cond (!(s28 a))
 (zjL a b low high true)
 (zjL a b low high (!(s28 b)))))))
def p24 (a:(Sl Gate)) (b:(Sl Gate)) (low:Int) (high:Int):Bool :=
  (cond (decide (low < (-100000:Int)))
 (zjM a b low high true)
 (cond (decide (low > high))
 (zjM a b low high true)
 (cond (decide (high > (200000:Int)))
 (zjM a b low high true)
 (decide ((p28 a=true)) &&
 (cond (!(s28 a))
 (zjM a b low high true)
 (decide ((p28 b=true)) &&
 (zjM a b low high (!(s28 b)))))))))
end
theorem q24 (a:(Sl Gate)) (b:(Sl Gate)) (low:Int) (high:Int) (K:List PA->Prop) (hs:p24 a b low high=true) (hk:K (e24 (s24 a b low high))):vcFun Tryz.prog G24 zJx 24 [.one (.sl a.len 3 (λ i=>enc_48 (a.get i))),.one (.sl b.len 3 (λ i=>enc_48 (b.get i))),.one (.int .i64 low),.one (.int .i64 high)] K :=
  zaM (by kernel_rfl) (zc hs hk (λ hs hk=>(zmw hs hk)) (λ hs hk=>(zc hs hk (λ hs hk=>(zmw hs hk)) (λ hs hk=>(zc hs hk (λ hs hk=>(zmw hs hk)) (λ hs hk=>(zaI hs λ hc hs=>And.intro (And.intro (zE enc_48 3 a.get) hc) (zc hs hk (λ hs hk=>(zmw hs hk)) (λ hs hk=>(zaI hs λ hc hs=>And.intro (And.intro (zE enc_48 3 b.get) hc) (zmw hs hk)))))))))))
def zJJ : List PA → COut
  | [.one (.sl zaK zbW zaL),.one (.sl zd9 zi9 zea),.one (.int .i64 a2),.one (.int .i64 a3)]=>.det (IsE enc_48 3 zbW zaL/\IsE enc_48 3 zi9 zea/\p24 (⟨zaK,zaf zaL⟩:(Sl Gate)) (⟨zd9,zaf zea⟩:(Sl Gate)) a2 a3=true) [.one (.int .i64 ((s24 (⟨zaK,zaf zaL⟩:(Sl Gate)) (⟨zd9,zaf zea⟩:(Sl Gate)) a2 a3).1)),.agg [.int .i64 (((s24 (⟨zaK,zaf zaL⟩:(Sl Gate)) (⟨zd9,zaf zea⟩:(Sl Gate)) a2 a3).2.1).Num),.int .i64 (((s24 (⟨zaK,zaf zaL⟩:(Sl Gate)) (⟨zd9,zaf zea⟩:(Sl Gate)) a2 a3).2.1).Den)],.agg [.int .i64 (((s24 (⟨zaK,zaf zaL⟩:(Sl Gate)) (⟨zd9,zaf zea⟩:(Sl Gate)) a2 a3).2.2.1).Num),.int .i64 (((s24 (⟨zaK,zaf zaL⟩:(Sl Gate)) (⟨zd9,zaf zea⟩:(Sl Gate)) a2 a3).2.2.1).Den)],.one (.int .i64 ((s24 (⟨zaK,zaf zaL⟩:(Sl Gate)) (⟨zd9,zaf zea⟩:(Sl Gate)) a2 a3).2.2.2))]
  | _=>.no
theorem zOm:zah Tryz.prog 24:=⟨_,rfl,rfl,by kernel_rfl⟩
theorem zTJ:Ok Tryz.prog 24 zJJ:=zaV zRz zOm λ args K h=>by
  unfold zJJ at h
  split at h
  · rename_i zaK zbW zaL zd9 zi9 zea a2 a3
    obtain⟨⟨⟨rfl,zbn,rfl⟩,⟨rfl,zgy,rfl⟩,hs⟩,hk⟩:=h
    try rw[zae zbn] at hs
    try rw[zae zbn] at hk
    try rw[zae zgy] at hs
    try rw[zae zgy] at hk
    exact⟨(λ _ _=>[]),(λ _=>false),zJx,q24 (⟨zaK,zbn⟩:(Sl Gate)) (⟨zd9,zgy⟩:(Sl Gate)) a2 a3 K hs hk⟩
  · exact h.elim
abbrev T51:Tabs:=((Tabs.nil.addF 28 zqA).addF 44 zqz)
theorem zRA:TabsOk Tryz.prog T51:=((TabsOk.nil.addF zMa).addF zL9)
abbrev G51:Ctrs:=csm T51 (λ _ _=>[]) (λ _=>false)
def zJK:Ann:=⟨41,[(0,zK [0] []),(1,zK [0,5,6,7] []),(2,zK [0,5,6,7,8] []),(3,zK [0,3,4,5,6,7] [4]),(4,zK [0,5,6,7,32] []),(5,zK [2] []),(6,zK [0,5,6,7] []),(7,zK [2] [])],
 [(2,zK [0,5,6,7] [])],
 [],
 [],[]⟩
abbrev R51:=Bool
abbrev e51 (r:R51):List PA:=[.one (.bool r)]
@[irreducible] def z51:=ptF Tryz.prog G51 zJK Tryz.f51
def zGb (zaa:(Sl Gate)) (zbJ:Int):St:=⟨[(0,zS enc_48 3 zaa),(5,zS enc_48 3 zaa),(6,zI (zaa.len:Int)),(7,zI zbJ)],[],[]⟩
abbrev zOn (K:List PA->Prop) (zaa:(Sl Gate)) (X:St->Prop) (P:Int->Bool) (S:Int->Bool):Prop:=∀ ⦃zbJ:Int⦄,P zbJ=true->K (e51 (S zbJ))->X (zGb zaa zbJ)
section
variable {K:List PA->Prop}{zaa:(Sl Gate)}{zbJ:Int}{X0:St->Prop}{P0:Int->Bool}{S0:Int->Bool}
def zBc (zaa:(Sl Gate)) (S0:Int->Bool) (zbJ:Int):Bool :=
  (cond (decide (zbJ < (zaa.len : Int)))
 (cond (decide ((w64 ((zaa.get zbJ.toNat).High - (zaa.get zbJ.toNat).Low)) > (60:Int)))
 false
 (cond (decide (zbJ > (0:Int)))
 (cond (decide ((zaa.get zbJ.toNat).Z <= (zaa.get ((w64 (zbJ - (1:Int))).toNat)).Z))
 false
 (S0 (w64 (zbJ+(1:Int)))))
 (S0 (w64 (zbJ+(1:Int))))))
 (cond (s44 (zaa.len : Int) (2:Int) (8:Int))
 (s28 zaa)
 false))
def zBd (zaa:(Sl Gate)) (P0:Int->Bool) (zbJ:Int):Bool :=
  (cond (decide (zbJ < (zaa.len : Int)))
 (decide ((0<=zbJ/\zbJ < (zaa.len:Int))) &&
 (cond (decide ((w64 ((zaa.get zbJ.toNat).High - (zaa.get zbJ.toNat).Low)) > (60:Int)))
 true
 (cond (decide (zbJ > (0:Int)))
 (decide ((0<=(w64 (zbJ - (1:Int)))/\(w64 (zbJ - (1:Int))) < (zaa.len:Int))) &&
 (cond (decide ((zaa.get zbJ.toNat).Z <= (zaa.get ((w64 (zbJ - (1:Int))).toNat)).Z))
 true
 (P0 (w64 (zbJ+(1:Int))))))
 (P0 (w64 (zbJ+(1:Int)))))))
 (cond (s44 (zaa.len : Int) (2:Int) (8:Int))
 (decide ((p28 zaa=true)) &&
 true)
 true))
def zBe (zaa:(Sl Gate)):Nat->Int->Bool:=lpO (λ _=>default) (zBc zaa)
def zBf (zaa:(Sl Gate)):Nat->Int->Bool:=lpO (λ _=>false) (zBd zaa)
def zBg (zaa:(Sl Gate)) (zbJ:Int):Bool:=zBe zaa Fuel zbJ
def zBh (zaa:(Sl Gate)) (zbJ:Int):Bool:=zBf zaa Fuel zbJ
theorem zJL (hs:zBh zaa zbJ=true) (hk:K (e51 (zBg zaa zbJ))):z51 K [1,0,1,0] [] (zGb zaa zbJ) :=
  zl (λ X=>z51 K [1,0,1,0,0] [X]) (by kernel_rfl) λ X0 hX =>
  (show ∀ k, zOn K zaa X0 (zBf zaa k) (zBe zaa k) from zfo _ _ (zBd zaa) (zBc zaa) (zOn K zaa X0)
 (by intro _ hs;exact absurd hs dqk)
 (by intro P0 S0 hX0 zbJ hs hk;exact hX _ (zaM (by kernel_rfl) (zc hs hk (λ hs hk=>(zaI hs λ hc hs=>And.intro hc (zc hs hk (λ hs hk=>hk) (λ hs hk=>(zc hs hk (λ hs hk=>(zaI hs λ hc hs=>And.intro hc (zc hs hk (λ hs hk=>hk) (λ hs hk=>(hX0 hs hk))))) (λ hs hk=>(hX0 hs hk))))))) (λ hs hk=>(zc hs hk (λ hs hk=>(zaI hs λ hc hs=>And.intro (And.intro (zE enc_48 3 zaa.get) hc) hk)) (λ hs hk=>hk))))))) _ hs hk
def s51 (zaa:(Sl Gate)):Bool :=
  (zBg zaa (0:Int))
def p51 (zaa:(Sl Gate)):Bool :=
  (zBh zaa (0:Int))
end
theorem q51 (zaa:(Sl Gate)) (K:List PA->Prop) (hs:p51 zaa=true) (hk:K (e51 (s51 zaa))):vcFun Tryz.prog G51 zJK 51 [.one (.sl zaa.len 3 (λ i=>enc_48 (zaa.get i)))] K :=
  zaM (by kernel_rfl) (zJL hs hk)
def zJM : List PA → COut
  | [.one (.sl zaK zbW zaL)]=>.det (IsE enc_48 3 zbW zaL/\p51 (⟨zaK,zaf zaL⟩:(Sl Gate))=true) [.one (.bool (s51 (⟨zaK,zaf zaL⟩:(Sl Gate))))]
  | _=>.no
theorem zOo:zah Tryz.prog 51:=⟨_,rfl,rfl,by kernel_rfl⟩
theorem zTK:Ok Tryz.prog 51 zJM:=zaV zRA zOo λ args K h=>by
  unfold zJM at h
  split at h
  · rename_i zaK zbW zaL
    obtain⟨⟨⟨rfl,zbn,rfl⟩,hs⟩,hk⟩:=h
    try rw[zae zbn] at hs
    try rw[zae zbn] at hk
    exact⟨(λ _ _=>[]),(λ _=>false),zJK,q51 (⟨zaK,zbn⟩:(Sl Gate)) K hs hk⟩
  · exact h.elim
end Go.Proofs
