/- Part 5 of what the proof rests on: a machine that runs functions of the program on pure values, proved sound; the functions that the law reaches, and what they compute. -/
import Derived.Test.YtedhjaaikeakoaaDoorQ4
import Derived.Sort.OwnSortedInts
import Derived.Lib.SlicesCompact
import Derived.Test.YtedhjaaikeakoaaDoorProg
import Derived.ProofKit
import Derived.Deep.Slices
import Derived.OpenShut
set_option linter.all false
namespace Go.Pm

structure Tabs where
  fn:List (Nat×(List PA→COut))
  own:List (Nat×OwnK)
  it:List (Nat×(List PA→Option (Prop×List (List PA))))
  mt:List (Nat×MK)
def zxh : List (Nat × (List PA → COut)) → Nat → List PA → COut
  | [],_=>fun _=>.no
  | (k,c) :: r,n=>match Nat.beq k n with | true=>c | false=>zxh r n
def zxi (l:List (Nat×OwnK)) (f:Nat):OwnK:=match lk l f with | some c=>c | none=>.none
def zEg (l:List (Nat×(List PA→Option (Prop×List (List PA))))) (f:Nat):List PA→Option (Prop×List (List PA)):=match lk l f with | some c=>c | none=>fun _=>none
def csm (T:Tabs) (memo:Nat→Int→List Int) (vv:Nat→Bool):Ctrs:=⟨zxh T.fn,zxi T.own,zEg T.it,memo,vv,lk T.mt⟩
abbrev cs (T:Tabs):Ctrs:=csm T (fun _ _=>[]) (fun _=>false)
def Tabs.nil:Tabs:=⟨[],[],[],[]⟩
def Tabs.addF (T:Tabs) (f:Nat) (c:List PA→COut):Tabs:=⟨(f,c) :: T.fn,T.own,T.it,T.mt⟩
def Tabs.addO (T:Tabs) (f:Nat) (c:OwnK):Tabs:=⟨T.fn,(f,c) :: T.own,T.it,T.mt⟩
def Tabs.addI (T:Tabs) (f:Nat) (c:List PA→Option (Prop×List (List PA))):Tabs:=⟨T.fn,T.own,(f,c) :: T.it,T.mt⟩
def Tabs.addM (T:Tabs) (f:Nat) (c:MK):Tabs:=⟨T.fn,T.own,T.it,(f,c) :: T.mt⟩

theorem zKu {P:Program} {f:Nat} : Ok P f (fun _=>.no):=fun _ _ h=>h.elim
theorem zKv {P:Program} {f:Nat} : zCI P f (fun _=>none):=fun _ _ _ h=>by cases h

structure TabsOk (P : Program) (T : Tabs) : Prop where
  fn:∀ x∈T.fn,Ok P x.1 x.2
  own:∀ x∈T.own,zoX P x.1 x.2
  it:∀ x∈T.it,zCI P x.1 x.2
  mt:∀ x∈T.mt,zjI P x.1 x.2
theorem TabsOk.nil {P:Program} : TabsOk P .nil:=⟨fun _ h=>(by cases h),fun _ h=>(by cases h),fun _ h=>(by cases h),fun _ h=>(by cases h)⟩
theorem TabsOk.addF {P:Program} {T:Tabs} (h:TabsOk P T) {f:Nat} {c:List PA→COut} (hc:Ok P f c):TabsOk P (T.addF f c) :=
 ⟨fun x hx=>(List.mem_cons.1 hx).elim (fun e=>by rw [e];exact hc) (fun hx=>h.fn x hx),h.own,h.it,h.mt⟩
theorem TabsOk.addO {P:Program} {T:Tabs} (h:TabsOk P T) {f:Nat} {c:OwnK} (hc:zoX P f c):TabsOk P (T.addO f c) :=
 ⟨h.fn,fun x hx=>(List.mem_cons.1 hx).elim (fun e=>by rw [e];exact hc) (fun hx=>h.own x hx),h.it,h.mt⟩
theorem TabsOk.addI {P:Program} {T:Tabs} (h:TabsOk P T) {f:Nat} {c:List PA→Option (Prop×List (List PA))} (hc:zCI P f c):TabsOk P (T.addI f c) :=
 ⟨h.fn,h.own,fun x hx=>(List.mem_cons.1 hx).elim (fun e=>by rw [e];exact hc) (fun hx=>h.it x hx),h.mt⟩
theorem TabsOk.addM {P:Program} {T:Tabs} (h:TabsOk P T) {f:Nat} {c:MK} (hc:zjI P f c):TabsOk P (T.addM f c) :=
 ⟨h.fn,h.own,h.it,fun x hx=>(List.mem_cons.1 hx).elim (fun e=>by rw [e];exact hc) (fun hx=>h.mt x hx)⟩
theorem TabsOk.all {P:Program} {T:Tabs} (h:TabsOk P T) (memo:Nat→Int→List Int) (vv:Nat→Bool):OkAll P (csm T memo vv):=by
 refine ⟨fun f C hC=>h.mt _ (zb4 hC),fun f=>?_,fun f=>?_,fun f=>?_⟩
 ·show Ok P f (zxh T.fn f)
  have key:∀ l:List (Nat×(List PA→COut)),(∀ x∈l,Ok P x.1 x.2)→Ok P f (zxh l f):=by
   intro l
   induction l with
   | nil=>intro _;exact zKu
   | cons x l ih =>
    intro hl
    obtain ⟨k,c⟩:=x
    simp only [zxh]
    split
    ·rename_i e
     have:=hl (k,c) List.mem_cons_self
     rw [← Nat.eq_of_beq_eq_true e];exact this
    ·exact ih fun x hx=>hl x (List.mem_cons_of_mem _ hx)
  exact key T.fn h.fn
 ·show zoX P f (zxi T.own f)
  unfold zxi
  split
  ·rename_i c hc;exact h.own _ (zb4 hc)
  ·trivial
 ·show zCI P f (zEg T.it f)
  unfold zEg
  split
  ·rename_i c hc;exact h.it _ (zb4 hc)
  ·exact zKv

theorem zbY {P : Program} {T : Tabs} (hT : TabsOk P T) {f : FuncId} {C : List PA → COut} (hc : zay P f)
    (h:∀ args K,(C args).wp K→∃ memo vv ann,vcFun P (csm T memo vv) ann f args K):Ok P f C :=
  zBy (hT.all (fun _ _=>[]) (fun _=>false)) hc h
theorem zEh {P : Program} {T : Tabs} (hT : TabsOk P T) {f : FuncId} {C : MK} (hc : zay P f)
    (h:∀ xs safe rs ys,C xs=some (safe,rs,ys)→safe→∀ K:List PA→List XA→Prop,K rs ys→∃ memo vv ann,zkY P (csm T memo vv) ann f xs K):zjI P f C :=
  zxg (hT.all (fun _ _=>[]) (fun _=>false)) hc h
theorem zH6 {P : Program} {T : Tabs} (hT : TabsOk P T) {f : FuncId} {C : List PA → Option (Prop × List (List PA))} (hc : zay P f)
    (h:∀ l caps safe ys,C caps=some (safe,ys)→safe→∃ memo vv ann,vcIter P (csm T memo vv) ann f l caps ys):zCI P f C :=
  zBC (hT.all (fun _ _=>[]) (fun _=>false)) hc h
structure Sl (α : Type) where
  len:Nat
  get:Nat→α
instance {α:Type} [Inhabited α]:Inhabited (Sl α):=⟨⟨0,fun _=>default⟩⟩
abbrev w64 (x:Int):Int:=IntKind.i64.wrap x

def IsE {α:Type} (enc:α→List PV) (size s:Nat) (g:Nat→List PV):Prop:=s=size∧∃ f:Nat→α,g=fun i=>enc (f i)
theorem isE {α:Type} {enc:α→List PV} {size:Nat} {f:Nat→α} : IsE enc size size (fun i=>enc (f i)):=⟨rfl,f,rfl⟩
theorem zxj {α:Type} {enc:α→List PV} {size:Nat} {x:α} : IsE enc size size (fun _=>enc x):=⟨rfl,fun _=>x,rfl⟩
def zjZ {α:Type} (n:Nat) (get new:Nat→α):Nat→α:=fun j=>match Nat.ble n j with | true=>new (j - n) | false=>get j
theorem zBG {α:Type} {enc:α→List PV} {n:Nat} {f h:Nat→α} : appG n (fun i=>enc (f i)) (fun i=>enc (h i))=fun i=>enc (zjZ n f h i):=by
 funext j;simp only [appG,zjZ];cases Nat.ble n j <;> rfl
def zqF {α : Type} (x : α) : List α → Nat → α
  | [],_=>x
  | y :: _,0=>y
  | _ :: r,i+1=>zqF x r i
theorem zt8 {α:Type} {enc:α→List PV} {x y:α} {r:List α} : zbQ (enc x :: enc y :: r.map enc)=fun i=>enc (zqF x (x :: y :: r) i):=by
 have key:∀ (l:List α) (i:Nat),(match (l.map enc)[i]? with | some z=>z | none=>enc x)=enc (zqF x l i):=by
  intro l
  induction l with
  | nil=>intro i;rfl
  | cons a l ih =>
   intro i
   cases i with
   | zero=>rfl
   | succ i=>simpa [zqF] using ih i
 funext i
 exact key (x :: y :: r) i
theorem zet {α:Type} {enc:α→List PV} {size:Nat} {x y:α} (r:List α):IsE enc size size (zbQ (enc x :: enc y :: r.map enc)):=⟨rfl,_,zt8⟩

theorem za0 {b:Bool} {A B:Prop} {S S':Bool} {α:Type} {K:α→Prop} {x y:α} (h1:S=true→K x→A) (h2:S'=true→K y→B) (hs:cond b S S'=true) (hk:K (cond b x y)):zbR b A B:=by
 cases b
 ·exact h2 hs hk
 ·exact h1 hs hk
theorem zhW {b:Bool} {A B:Prop} {S S':Bool} {α β:Type} {f:α→β} {ys:List β} {x y:List α} (hs:cond b S S'=true) (hk:ys=(cond b x y).map f) (h1:S=true→ys=x.map f→A) (h2:S'=true→ys=y.map f→B):zbR b A B:=by
 cases b
 ·exact h2 hs hk
 ·exact h1 hs hk
theorem itY {α β:Type} {f:α→β} {ys:List β} {p:β} {x r:List α} {l:Nat} {A:List β→Prop} (hk:ys=x.map f) (e:x.map f=p :: r.map f) (h:∀ zs,zs=r.map f→A zs):l=l∧∃ z,ys=p :: z∧A z∧True :=
 ⟨rfl,_,hk.trans e,h _ rfl,trivial⟩
theorem za4 {C A:Prop} [d:Decidable C] {r:Bool} (hs:(decide C && r)=true) (k:C→r=true→A):A:=by
 rw [Bool.and_eq_true] at hs
 exact k (of_decide_eq_true hs.1) hs.2
abbrev Fuel:Nat:=9223372036854775808
def setT {α:Type} (i:Nat) (v:α) (get:Nat→α):Nat→α:=fun j=>match Nat.beq j i with | true=>v | false=>get j
theorem zk2 {α:Type} {enc:α→List PV} {n:Nat} {g g':Nat→List PV} {f h:Nat→α} (h1:g=fun i=>enc (f i)) (h2:g'=fun i=>enc (h i)):appG n g g'=fun i=>enc (zjZ n f h i):=by
 subst h1;subst h2;exact zBG
theorem zmV {α:Type} {enc:α→List PV} {i k:Nat} {g:Nat→List PV} {f:Nat→α} {new:List PV} {v:α} (h1:g=fun i=>enc (f i)) (h2:spl (enc (f i)) k new=enc v):zjP i k g new=fun j=>enc (setT i v f j):=by
 subst h1
 funext j
 simp only [zjP,setT]
 cases e:Nat.beq j i
 ·rfl
 ·have := Nat.eq_of_beq_eq_true e
  subst this;exact h2
def zvL (P:Program) (G:Ctrs) (ann:Ann) (hd:Nat) (ps:List Nat) (assign body:Code) (X:List (List PA)→St→Prop) (K:Exit→St→Prop) (y:List PA) (rest:List (List PA)) (s:St):Prop :=
 match lk ann.head hd with
 | some k=>match zhJ ps y s.env with
  | some env=>vc P G ann assign (zCH (vc P G ann body (zmu P k (X rest) K)) fun _ _=>False) ⟨env,s.objs,[]⟩
  | none=>False
 | none=>False
end Go.Pm
namespace Go.Pm
open Go Go.Sort

/-! Nil slices are slices of length 0. -/
inductive PVle : PV → PV → Prop
  | rfl (p:PV):PVle p p
  | nil (s:Nat) (g:Nat→List PV):PVle .nils (.sl 0 s g)
  | nilm (q:MQ):PVle .nilm (.fm q 0 (fun _=>none))
inductive PAle : PA → PA → Prop
  | one {p q:PV} : PVle p q→PAle (.one p) (.one q)
  | agg {l m:List PV} : RL PVle l m→PAle (.agg l) (.agg m)
theorem zmh {α β:Type} {R:α→β→Prop} : RL R [] []:=trivial
theorem ze2 {α β:Type} {R:α→β→Prop} {a:α} {b:β} {l:List α} {m:List β} (h:R a b) (h':RL R l m):RL R (a :: l) (b :: m):=⟨h,h'⟩
theorem zfy {α : Type} {R : α → α → Prop} (h : ∀ a, R a a) : ∀ l : List α, RL R l l
  | []=>trivial
  | a :: l=>⟨h a,zfy h l⟩
theorem zfW (a:PA):PAle a a:=by
 cases a with
 | one p=>exact .one (.rfl p)
 | agg l=>exact .agg (zfy .rfl l)
def Wk (K:List PA→Prop) (l:List PA):Prop:=∃ l',RL PAle l l'∧K l'
theorem wk {K:List PA→Prop} {l l':List PA} (hk:K l') (h:RL PAle l l'):Wk K l:=⟨l',h,hk⟩
theorem zfX {K:List PA→Prop} {l:List PA} (hk:K l):Wk K l:=⟨l,zfy zfW l,hk⟩
theorem zH7 {h:Fz} {p q:PV} {v:Value} (e:PVle p q) (r:Rep h p v):Rep h q v:=by
 cases e with
 | rfl=>exact r
 | nil s g=>cases r;exact .sl0 s g
 | nilm q=>cases r;exact .fmn q _ (fun _ _=>rfl)
theorem zxk {α β γ : Type} {R : α → β → Prop} {S : α → γ → Prop} {T : γ → β → Prop} (h : ∀ a b c, S a c → R a b → T c b) : ∀ (l : List α) (m : List β) (k : List γ), RL S l k → RL R l m → RL T k m
  | [],[],[],_,_=>trivial
  | a :: l,b :: m,c :: k,hs,hr=>⟨h a b c hs.1 hr.1,zxk h l m k hs.2 hr.2⟩
  | [],_ :: _,[],_,hr=>hr.elim
  | [],_,_ :: _,hs,_=>hs.elim
  | _ :: _,_,[],hs,_=>hs.elim
  | _ :: _,[],_ :: _,_,hr=>hr.elim
theorem zBH {h:Fz} {a b:PA} {v:Value} (e:PAle a b) (r:paR h a v):paR h b v:=by
 cases e with
 | one e=>exact zH7 e r
 | agg e =>
  obtain ⟨vs,rfl,hv⟩:=r
  exact ⟨vs,rfl,zxk (R:=Rep h) (S:=PVle) (T:=Rep h) (fun _ _ _ e r=>zH7 e r) _ _ _ e hv⟩
theorem zxl {h:Fz} {l m:List PA} {v:Value} (e:RL PAle l m) (r:zoQ h l v):zoQ h m v:=by
 match l,m,e,r with
 | [a],[b],e,r=>exact zBH e.1 r
 | [],[],_,r=>exact r
 | a :: b :: l,c :: d :: m,e,r =>
  obtain ⟨vs,hv,hr⟩:=r
  exact ⟨vs,hv,zxk (R:=paR h) (S:=PAle) (T:=paR h) (fun _ _ _ e r=>zBH e r) _ _ _ e hr⟩
 | [_],_ :: _ :: _,e,_=>exact e.2.elim
 | _ :: _ :: _,[_],e,_=>exact e.2.elim
 | [],_ :: _,e,_=>exact e.elim
 | _ :: _,[],e,_=>exact e.elim
theorem zhc {P : Program} {T : Tabs} (hT : TabsOk P T) {f : FuncId} {C : List PA → COut} (hc : zay P f)
    (h:∀ args K,(C args).wp K→∃ args',RL PAle args args'∧∃ memo vv ann,vcFun P (csm T memo vv) ann f args' (Wk K)):Ok P f C:=by
  intro args K hK w h0 vs hvs hfz hgl
  obtain ⟨args',hle,memo,vv,ann,hv⟩:=h args K hK
  refine ⟨hc,(zw9 (hT.all memo vv) hv (zxk (R:=paR h0) (S:=PAle) (T:=paR h0) (fun _ _ _ e r=>zBH e r) _ _ _ hle hvs) hfz hgl).mono ?_⟩
  rintro e w' ⟨h',rs,v,⟨rs',hr,hk⟩,he,hres,rest⟩
  exact ⟨h',rs',v,hk,he,zxl hr hres,rest⟩
theorem zBI {P : Program} {T : Tabs} (hT : TabsOk P T) {f : FuncId} {C : MK} (hc : zay P f)
    (h:∀ xs safe rs ys,C xs=some (safe,rs,ys)→safe→∀ K:List PA→List XA→Prop,K rs ys→∃ memo vv ann,zkY P (csm T memo vv) ann f xs (fun a b=>Wk (fun a'=>K a' b) a)):zjI P f C:=by
  intro xs ys safe rs hC hs w h0 base vs hvs hn hK hw hgl hB
  obtain ⟨memo,vv,ann,hv⟩:=h xs safe rs ys hC hs (fun l zs=>l=rs∧zs=ys) ⟨rfl,rfl⟩
  refine ⟨hc,(zxf (hT.all memo vv) hv hvs hn hK hw hgl hB).mono ?_⟩
  rintro e w' ⟨h',v,rs',ys',⟨rs2,hr,rfl,rfl⟩,he,hres,r⟩
  exact ⟨h',v,he,zxl hr hres,r⟩
def WkM (K:List PA×List XA→Prop) (p:List PA×List XA):Prop:=Wk (fun a=>K (a,p.2)) p.1
theorem wkM {K:List PA×List XA→Prop} {l l':List PA} {b:List XA} (hk:K (l',b)) (h:RL PAle l l'):WkM K (l,b):=⟨l',h,hk⟩
theorem zxm {K:List PA×List XA→Prop} {p:List PA×List XA} (hk:K p):WkM K p:=⟨p.1,zfy zfW p.1,hk⟩
/-! Maps, as typed values; the keys of a map. -/
structure Mp where
  n:Nat
  F:List Int→Option (List Int)
instance:Inhabited Mp:=⟨⟨0,fun _=>none⟩⟩

end Go.Pm
namespace Go.Pm

abbrev zI (x:Int):DV:=.one (.c (.p (.int .i64 x)))
abbrev zB (x:Bool):DV:=.one (.c (.p (.bool x)))
abbrev zP (x:PV):DV:=.one (.c (.p x))
abbrev zp (L k:Nat):DV:=.one (.c (.ptr L k))
abbrev zv (L:Nat):DV:=.one (.c (.vec L))
abbrev zs {α:Type} (enc:α→List PV) (s:Nat) (x:Sl α):PV:=.sl x.len s (fun i=>enc (x.get i))
abbrev zS {α:Type} (enc:α→List PV) (s:Nat) (x:Sl α):DV:=zP (zs enc s x)
abbrev zm (l:List PV):List Cl:=l.map Cl.p
abbrev zi (x:Int):Cl:=.p (.int .i64 x)
abbrev zg {α:Type} (enc:α→List PV) (x:Sl α):Nat→List PV:=fun i=>enc (x.get i)
abbrev zK (a b:List Nat):Keep:=⟨a,b,[],[],[],[],[]⟩
theorem zE {α:Type} (enc:α→List PV) (size:Nat) (f:Nat→α):IsE enc size size (fun i=>enc (f i)):=⟨rfl,f,rfl⟩

theorem zxn {α : Type} : ∀ (new l pre : List α), l.length = new.length → spl (pre ++ l) pre.length new = pre ++ new
  | [],l,pre,h=>by
    have:l=[]:=List.eq_nil_of_length_eq_zero h
    subst this;rfl
  | x :: r,[],pre,h=>by simp at h
  | x :: r,y :: l,pre,h=>by
    have e:=zxn r l (pre ++ [x]) (by simpa using h)
    simp only [spl,List.append_assoc,List.singleton_append,List.length_append,List.length_singleton] at e ⊢
    rw [List.set_append_right _ _ (Nat.le_refl _),Nat.sub_self,List.set_cons_zero]
    exact e
theorem znQ {n:Nat} {F G:Nat→Int} : spl (zhC 0 n F) 0 (zhC 0 n G)=zhC 0 n G:=by
 have h:=zxn (zhC 0 n G) (zhC 0 n F) [] (by rw [ze9,ze9])
 simpa using h
theorem znR {n:Nat} {F:Nat→Int} : zhC 0 n F=zhC 0 n (zmp (zm (zhC 0 n F))):=by
 refine List.ext_getElem? fun k=>?_
 by_cases hk:k < n
 ·rw [zgt n 0 F k hk, zgt n 0 _ k hk, Nat.zero_add]
  congr 2
  have h:(zm (zhC 0 n F))[k]? = some (.p (.int .i64 (F k))):=by
   rw [zm,List.getElem?_map,zgt n 0 F k hk,Nat.zero_add];rfl
  unfold zmp
  rw [h]
 ·rw [List.getElem?_eq_none (by rw [ze9];omega),List.getElem?_eq_none (by rw [ze9];omega)]

@[reducible] def lpO {A : Type} (d : A) (st : A → A) : Nat → A
  | 0=>d
  | k+1=>st (lpO d st k)
theorem zjK {A B : Type} (a : A) (b : B) (p : A → A) (s : B → B) (M : A → B → Prop) (h0 : M a b) (h1 : ∀ P S, M P S → M (p P) (s S)) : ∀ k, M (lpO a p k) (lpO b s k)
  | 0=>h0
  | k+1=>h1 _ _ (zjK a b p s M h0 h1 k)
def xcm (l:List PV):List XC:=l.map .p
def unX : List XC → List PV
  | []=>[]
  | .p v :: r=>v :: unX r
  | _ :: r=>.nilp :: unX r
theorem zxo : ∀ l : List PV, unX (xcm l) = l
  | []=>rfl
  | v :: r=>by show v :: unX (xcm r)=v :: r;rw [zxo r]
theorem zEi {n:Nat} {F:Nat→Int} : xcm (zhC 0 n F)=xcm (zhC 0 n (zmp (zm (unX (xcm (zhC 0 n F)))))):=by
 rw [zxo,← znR]

section
variable (P:Program) (Γ:Ctrs) (ann:Ann)
def pt : Code → (Exit → St → Prop) → List Nat → List (St → Prop) → St → Prop
  | .seq a b,K,i :: r,X=>match i with | 0=>pt a (sqK P Γ ann b K) r X | _=>pt b K r X
  | .cond _ a b,K,i :: r,X=>match i with | 0=>pt a K r X | _=>pt b K r X
  | .block id b,K,_ :: r,X=>pt b (zak id K) r X
  | .loop b,K,_ :: r,x :: X=>pt b (zbo P ann (zmt b) x K) r X
  | .scope b,K,_ :: r,X=>pt b (zcx K) r X
  | c,K,_,_=>vc P Γ ann c K
def ptF (fn:Func) (K:List PA→Prop) (l:List Nat) (X:List (St→Prop)):St→Prop :=
 match fn.body with
 | some c=>pt P Γ ann c (zbn P fn K) l X
 | none=>fun _=>False
end

theorem zc {b:Bool} {A B:Prop} {S S':Bool} {α:Type} {e:α→List PA} {K:List PA→Prop} {x y:α} (hs:cond b S S'=true) (hk:K (e (cond b x y))) (h1:S=true→K (e x)→A) (h2:S'=true→K (e y)→B):zbR b A B:=by
 cases b
 ·exact h2 hs hk
 ·exact h1 hs hk
theorem zt {b:Bool} {A B:Prop} {α:Type} {e:α→List PA} {K:List PA→Prop} {x y:α} (hk:K (e (cond b x y))) (h1:K (e x)→A) (h2:K (e y)→B):zbR b A B:=by
 cases b
 ·exact h2 hk
 ·exact h1 hk
theorem zH8 {b:Bool} {s:Prop} {r1 r2:List PA} {K:List PA→Prop} (h:(COut.alt b s r1 s r2).wp K):s∧K (cond b r1 r2):=by
 cases b
 ·exact h.2 rfl
 ·exact h.1 rfl
theorem zl {at_:Prop} {g:St} (B:(St→Prop)→St→Prop) (e:at_ = ∀ X:St→Prop,(∀ s,B X s→X s)→X g) (h:∀ X:St→Prop,(∀ s,B X s→X s)→X g):at_:=e ▸ h
end Go.Pm
namespace Go.Proofs
open Go Go.Pm
set_option maxRecDepth 100000
set_option linter.unusedVariables false
attribute [local irreducible] Go.Pm.vcFun Go.Pm.vc Go.Pm.vcIter
abbrev Tab:=Nat→Int
def tg (n:Nat) (F:Tab) (k:Nat):Int:=zmp (zm (zhC 0 n F)) k
def ts (n:Nat) (F:Tab) (k:Nat) (vs:List Int):Tab:=zCC k vs (zmp (zm (zhC 0 n F)))
abbrev enc_3 (x:Int):List PV:=[.int .i64 x]
def zKw : List PV → Int
  | [.int .i64 x]=>x
  | _=>default
def zax (g:Nat→List PV):Nat→Int:=fun i=>zKw (g i)
theorem zbe (f:Nat→Int):zax (fun i=>enc_3 (f i))=f:=rfl
structure Tie where
  From:Int
  To:Int
  Low:Int
  High:Int
deriving Inhabited
abbrev zai (x:Tie):List PV:=[.int .i64 x.From,.int .i64 x.To,.int .i64 x.Low,.int .i64 x.High]
def zH9 : List PV → Tie
  | [.int .i64 x_From,.int .i64 x_To,.int .i64 x_Low,.int .i64 x_High]=>(⟨x_From,x_To,x_Low,x_High⟩:Tie)
  | _=>default
def zat (g:Nat→List PV):Nat→Tie:=fun i=>zH9 (g i)
theorem zav (f:Nat→Tie):zat (fun i=>zai (f i))=f:=rfl
structure Net where
  Nodes:Int
  Ties:(Sl Tie)
deriving Inhabited
abbrev zb5 (x:Net):List PV:=[.int .i64 x.Nodes,.sl x.Ties.len 4 (fun i=>zai (x.Ties.get i))]
abbrev zck (x:(Sl Int)):List PV:=[.sl x.len 1 (fun i=>enc_3 (x.get i))]
def zIa : List PV → (Sl Int)
  | [.sl x_n _ x_g]=>(⟨x_n,zax x_g⟩:(Sl Int))
  | _=>default
def znS (g:Nat→List PV):Nat→(Sl Int):=fun i=>zIa (g i)
theorem zk3 (f:Nat→(Sl Int)):znS (fun i=>zck (f i))=f:=rfl
structure Span where
  Low:Int
  High:Int
deriving Inhabited
abbrev zbG (x:Span):List PV:=[.int .i64 x.Low,.int .i64 x.High]
def zIb : List PV → Span
  | [.int .i64 x_Low,.int .i64 x_High]=>(⟨x_Low,x_High⟩:Span)
  | _=>default
def zfY (g:Nat→List PV):Nat→Span:=fun i=>zIb (g i)
theorem zfj (f:Nat→Span):zfY (fun i=>zbG (f i))=f:=rfl
structure Pulse where
  A:Int
  B:Int
  TimeA:Int
  TimeB:Int
  Flight:Span
  Jitter:Int
deriving Inhabited
abbrev zdD (x:Pulse):List PV:=[.int .i64 x.A,.int .i64 x.B,.int .i64 x.TimeA,.int .i64 x.TimeB,.int .i64 x.Flight.Low,.int .i64 x.Flight.High,.int .i64 x.Jitter]
def zIc : List PV → Pulse
  | [.int .i64 x_A,.int .i64 x_B,.int .i64 x_TimeA,.int .i64 x_TimeB,.int .i64 x_Flight_Low,.int .i64 x_Flight_High,.int .i64 x_Jitter]=>(⟨x_A,x_B,x_TimeA,x_TimeB,(⟨x_Flight_Low,x_Flight_High⟩:Span),x_Jitter⟩:Pulse)
  | _=>default
def ziy (g:Nat→List PV):Nat→Pulse:=fun i=>zIc (g i)
theorem zk4 (f:Nat→Pulse):ziy (fun i=>zdD (f i))=f:=rfl
structure Use where
  Tie:Int
  Back:Bool
deriving Inhabited
abbrev za2 (x:Use):List PV:=[.int .i64 x.Tie,.bool x.Back]
def zId : List PV → Use
  | [.int .i64 x_Tie,.bool x_Back]=>(⟨x_Tie,x_Back⟩:Use)
  | _=>default
def zdk (g:Nat→List PV):Nat→Use:=fun i=>zId (g i)
theorem zdl (f:Nat→Use):zdk (fun i=>za2 (f i))=f:=rfl
structure Flash where
  A:Int
  B:Int
  Time:Int
  Flight:Int
  Wrong:Int
deriving Inhabited
abbrev enc_83 (x:Flash):List PV:=[.int .i64 x.A,.int .i64 x.B,.int .i64 x.Time,.int .i64 x.Flight,.int .i64 x.Wrong]
def zIe : List PV → Flash
  | [.int .i64 x_A,.int .i64 x_B,.int .i64 x_Time,.int .i64 x_Flight,.int .i64 x_Wrong]=>(⟨x_A,x_B,x_Time,x_Flight,x_Wrong⟩:Flash)
  | _=>default
def zrg (g:Nat→List PV):Nat→Flash:=fun i=>zIe (g i)
theorem zk5 (f:Nat→Flash):zrg (fun i=>enc_83 (f i))=f:=rfl
abbrev zIf (x:(Sl Flash)):List PV:=[.sl x.len 5 (fun i=>enc_83 (x.get i))]
structure web where
  Net:Net
  out:Mp
deriving Inhabited
abbrev zaC (x:web):List PV:=[.int .i64 x.Net.Nodes,.sl x.Net.Ties.len 4 (fun i=>zai (x.Net.Ties.get i)),.fm (false,1,false,[none]) x.out.n x.out.F]
structure far where
  length:Int
  uses:Int
deriving Inhabited
abbrev zcv (x:far):List PV:=[.int .i64 x.length,.int .i64 x.uses]
def zEj : List PV → far
  | [.int .i64 x_length,.int .i64 x_uses]=>(⟨x_length,x_uses⟩:far)
  | _=>default
def zj0 (g:Nat→List PV):Nat→far:=fun i=>zEj (g i)
theorem zjs (f:Nat→far):zj0 (fun i=>zcv (f i))=f:=rfl
abbrev zac (x:Tab):List PV:=zhC 0 80 x
def zbj (l:List PV):Tab:=zmp (zm l)
structure Step where
  From:Int
  To:Int
  Length:Int
  Use:Use
deriving Inhabited
structure step where
  Use:Use
  from_:Int
  to:Int
  length:Int
deriving Inhabited
abbrev zad (x:step):List PV:=[.int .i64 x.Use.Tie,.bool x.Use.Back,.int .i64 x.from_,.int .i64 x.to,.int .i64 x.length]
def zEk : List PV → step
  | [.int .i64 x_Use_Tie,.bool x_Use_Back,.int .i64 x_from_,.int .i64 x_to,.int .i64 x_length]=>(⟨(⟨x_Use_Tie,x_Use_Back⟩:Use),x_from_,x_to,x_length⟩:step)
  | _=>default
def zhX (g:Nat→List PV):Nat→step:=fun i=>zEk (g i)
theorem zeu (f:Nat→step):zhX (fun i=>zad (f i))=f:=rfl
structure tie where
  Tie:Tie
  index:Int
deriving Inhabited
abbrev zxp (x:tie):List PV:=[.int .i64 x.Tie.From,.int .i64 x.Tie.To,.int .i64 x.Tie.Low,.int .i64 x.Tie.High,.int .i64 x.index]
abbrev zxq (x:Tab):List PV:=zhC 0 40 x
abbrev zaG (x:(Sl Tab)):List PV:=[.sl x.len 80 (fun i=>zac (x.get i))]
abbrev tL (T:Tab) (i:Int):Int:=tg 80 T (0+i.toNat * 2+0)
abbrev tU (T:Tab) (i:Int):Int:=tg 80 T (0+i.toNat * 2+0+1)
abbrev tV (T:Tab) (i:Int):Int:=tg 80 T (0+i.toNat * 2+1)
abbrev nvr (x y:Int):Bool:=match (x == (1000000000000:Int)) with | true=>(match (y == (0:Int)) with | true=>true | false=>false) | false=>false
end Go.Proofs
namespace Go.Pm
open Go Go.Deep

theorem zBJ (b o i j:Nat):((⟨b,o,none⟩:Addr).add i).add j=⟨b,o+i+j,none⟩:=by
 simp only [Addr.add]
 by_cases h1:i=0
 ·subst h1
  by_cases h2:j=0
  ·subst h2;rfl
  ·rw [if_neg h2];rfl
 ·rw [if_neg h1]
  by_cases h2:j=0
  ·subst h2;rfl
  ·rw [if_neg h2]
def H0 (w:World):Fz:=fun b=>(w.heap[b]?).map .fz
theorem hw_H0 (w:World):Hw (H0 w) w:=by
 intro b x h
 unfold H0 at h
 cases e:w.heap[b]? with
 | none=>rw [e] at h;cases h
 | some o=>rw [e] at h;cases h;exact ⟨o,rfl,rfl⟩
def wfI (x:Int):Prop:=-9223372036854775808≤x∧x≤9223372036854775807
section
variable {H:Type} {en:TypeId×Value→H} {P:Program} {w:World} {sp:Nat→Bool} {held:Bool}
def Rd (H:Type) (en:TypeId×Value→H) (P:Program) (w:World) (sp:Nat→Bool) (held:Bool) (t:TypeId) {α:Type} (enc:α→List PV) (wf:α→Prop):Prop :=
 ∀ (fuel:Nat) (cs:List Value) (x:DataW H×List MemPlace),DataW.trod en P w 0 sp held fuel t cs=some x→∃ a:α,RL (Rep (H0 w)) (enc a) cs∧wf a
theorem zIg {t:TypeId} (ht:P.underlying t=some (.int .i64)):Rd H en P w sp held t (fun x=>[.int .i64 x]) wfI:=by
 intro fuel cs x h
 obtain ⟨n,rfl,_,hw⟩:=DataW.trod_int ht h
 refine ⟨n,⟨.int _ _,trivial⟩,?_⟩
 simp only [Lit.wf,Bool.and_eq_true,decide_eq_true_eq] at hw
 exact ⟨hw.1,hw.2⟩
theorem zxr {t : TypeId} {fs : Array Field} (ht : P.underlying t = some (.struct fs)) {fuel : Nat} {cs : List Value} {x : DataW H × List MemPlace} (h : DataW.trod en P w 0 sp held fuel t cs = some x) :
  cs.length=P.cellsOf t∧∀ (i:Nat) (f:Field),fs[i]? = some f→∃ n y,DataW.trod en P w 0 sp held n f.type ((cs.drop f.offset).take (P.cellsOf f.type))=some y:=by
 obtain ⟨xs,n,_,_,hl,hx,hf⟩:=DataW.trod_struct ht h
 refine ⟨hl,fun i f hi=>?_⟩
 have hlt:i < xs.length:=by rw [hx];exact (Array.getElem?_eq_some_iff.1 hi).1
 exact ⟨n,xs[i],by rw [hf i f hi,List.getElem?_eq_getElem hlt]⟩
theorem zt9 {t e : TypeId} {α : Type} [Inhabited α] {enc : α → List PV} {wf : α → Prop} {s : Nat} (ht : P.underlying t = some (.slice e)) (hc : P.cellsOf e = s) (hs : 0 < s) (hlen : ∀ a, (enc a).length = s)
    (hel:Rd H en P w sp held e enc wf):Rd H en P w sp held t (fun x:Sl α=>[.sl x.len s (fun i=>enc (x.get i))]) (fun x=>x.len≤9223372036854775807∧∀ i,i < x.len→wf (x.get i)):=by
  intro fuel cs x h
  rcases open_slice ht h with ⟨rfl,_⟩ | ⟨a,len,cap,m,n,D,Pl,rfl,_,hl,hm,hmm,_,hget⟩
  · exact ⟨⟨0,default⟩,⟨.sl0 _ _,trivial⟩,Nat.zero_le _,fun i hi=>absurd hi (Nat.not_lt_zero i)⟩
  · by_cases h0 : len = 0
    · subst h0
      exact ⟨⟨0,default⟩,⟨.sle _ _ _ _,trivial⟩,Nat.zero_le _,fun i hi=>absurd hi (Nat.not_lt_zero i)⟩
    · have hlm : len ≤ m := by rw [hmm]; split <;> omega
      rw [hc] at hget
      have hex:∀ i,i < len→∃ y:α,(∃ cs',w.cells? 0 (a.add (i * s)) s=some cs'∧RL (Rep (H0 w)) (enc y) cs')∧wf y:=by
        intro i hi
        obtain ⟨cs',h1,h2⟩:=hget i (by omega)
        obtain ⟨y,h3,h4⟩:=hel _ _ _ h2
        exact ⟨y,⟨cs',h1,h3⟩,h4⟩
      have hch:∃ f:Nat→α,∀ i,i < len→(∃ cs',w.cells? 0 (a.add (i * s)) s=some cs'∧RL (Rep (H0 w)) (enc (f i)) cs')∧wf (f i):=by
        refine ⟨fun i=>if hi:i < len then Classical.choose (hex i hi) else default,fun i hi=>?_⟩
        simp only [dif_pos hi]
        exact Classical.choose_spec (hex i hi)
      obtain ⟨f,hf⟩:=hch
      -- the block
      have hcell:∀ i,i < len→∀ j,j < s→∃ cs',w.cells? 0 (a.add (i * s)) s=some cs'∧RL (Rep (H0 w)) (enc (f i)) cs'∧w.cell? ((a.add (i * s)).add j)=cs'[j]?∧cs'.length=s:=by
        intro i hi j hj
        obtain ⟨⟨cs',h1,h2⟩,_⟩:=hf i hi
        obtain ⟨_,h3,h4⟩:=World.cells?_some h1
        exact ⟨cs',h1,h2,h4 j hj,h3⟩
      obtain ⟨cs0,_,_,hc0,hl0⟩:=hcell 0 (by omega) 0 hs
      have ha0:w.cell? a=cs0[0]?:=by simpa [Addr.add] using hc0
      rw [List.getElem?_eq_getElem (by omega)] at ha0
      obtain ⟨C,ty,fr,hblk,hspot⟩:∃ C ty fr,w.heap[a.block]? = some (.cells C ty fr)∧a.spot=none:=by
        unfold World.cell? at ha0
        split at ha0
        · rename_i C ty fr hb
          refine ⟨C,ty,fr,hb,?_⟩
          cases hsp:a.spot with
          | none=>rfl
          | some k=>rw [hsp] at ha0;simp at ha0
        · cases ha0
      have ea:a=⟨a.block,a.off,none⟩:=by rw [← hspot]
      have hat:∀ i j,i < len→j < s→∃ cs',RL (Rep (H0 w)) (enc (f i)) cs'∧C[a.off+i * s+j]? = cs'[j]?∧cs'.length=s:=by
        intro i j hi hj
        obtain ⟨cs',_,h2,h3,h4⟩:=hcell i hi j hj
        refine ⟨cs',h2,?_,h4⟩
        rw [← h3]
        have e2:(a.add (i * s)).add j=⟨a.block,a.off+i * s+j,none⟩:=(congrArg (fun z:Addr=>(z.add (i * s)).add j) ea).trans (zBJ _ _ _ _)
        rw [e2]
        simp [World.cell?,hblk]
      refine ⟨⟨len,f⟩,⟨?_,trivial⟩,by simp only [maxLen] at hm;show len≤_;omega,fun i hi=>(hf i hi).2⟩
      rw [ea]
      refine .sl len s _ a.block a.off cap C ty fr (fun i j=>C.getD (a.off+i * s+j) undef) (by simp [H0,hblk]) hl (fun i _=>hlen _) ?_ ?_
      · intro i j x hi hx
        have hj:j < s:=by have:=(List.getElem?_eq_some_iff.1 hx).1;rw [hlen] at this;exact this
        obtain ⟨cs',h1,h2,h3⟩:=hat i j hi hj
        rw [Array.getD_eq_getD_getElem?,h2,List.getElem?_eq_getElem (by omega)]
        rfl
      · intro i j x hi hx
        have hj:j < s:=by have:=(List.getElem?_eq_some_iff.1 hx).1;rw [hlen] at this;exact this
        obtain ⟨cs',h1,h2,h3⟩:=hat i j hi hj
        obtain ⟨v,hv,hr⟩:=h1.get j x hx
        rw [Array.getD_eq_getD_getElem?,h2,hv]
        exact hr
theorem ze0 {α:Type} (l:List α) (o s:Nat):l.drop o=(l.drop o).take s ++ l.drop (o+s):=by
 rw [← List.drop_drop]
 exact (List.take_append_drop s (l.drop o)).symm
def zKx : TypeDesc → Bool
  | .struct _=>false
  | .array _ _=>false
  | _=>true
theorem okWide_one {t:TypeId} {d:TypeDesc} {r:Reach} {base:Nat} {v:Value} (ht:P.underlying t=some d) (hd:zKx d=true) (h:Value.okWide P w r base t v):v.cells.toList=[v]:=by
 unfold Value.okWide at h
 rw [ht] at h
 cases v with
 | agg cs =>
  exfalso
  cases d <;> first | (cases hd;done) | (simp only [Cell.okWide,Cell.ok,ht] at h)
 | _=>rfl
theorem pa_one {h:Fz} {p:PV} {v:Value} (hv:v.cells.toList=[v]) (r:RL (Rep h) [p] v.cells.toList):paR h (.one p) v:=by
 rw [hv] at r
 exact r.1
theorem below_H0 {w':World} (b:Bel (H0 w) w.heap.size w w'):Go.RowKit.Below w.heap.size w w' :=
 ⟨b.os,b.tape,b.output,b.size,fun k hk=>b.block k hk fun F e=>by
  unfold H0 at e
  cases hb:w.heap[k]? <;> rw [hb] at e <;> cases e⟩
end
end Go.Pm
namespace Go.Proofs
open Go Go.Pm
set_option maxRecDepth 100000
set_option linter.unusedVariables false
attribute [local irreducible] Go.Pm.vcFun Go.Pm.vc Go.Pm.vcIter
theorem C_3:Tryd.prog.cellsOf 3=1:=by kernel_rfl
theorem zLQ:Tryd.prog.cellsOf 83=5:=by kernel_rfl
abbrev wf_3 (x:Int):Prop:=wfI x
theorem rd_3 {H:Type} {en:TypeId×Value→H} {w:World} {sp:Nat→Bool} {held:Bool} : Rd H en Tryd.prog w sp held 3 enc_3 wf_3:=zIg Tryd.underlying3
def wf_27 (x:(Sl Int)):Prop:=x.len≤9223372036854775807∧∀ i,i < x.len→wf_3 (x.get i)
theorem rd_27 {H:Type} {en:TypeId×Value→H} {w:World} {sp:Nat→Bool} {held:Bool} : Rd H en Tryd.prog w sp held 27 zck wf_27:=zt9 Tryd.underlying27 C_3 (by decide) (fun _=>rfl) rd_3
def zIh (x:Flash):Prop:=wf_3 x.A∧wf_3 x.B∧wf_3 x.Time∧wf_3 x.Flight∧wf_3 x.Wrong
theorem zKz {H:Type} {en:TypeId×Value→H} {w:World} {sp:Nat→Bool} {held:Bool} : Rd H en Tryd.prog w sp held 83 enc_83 zIh:=by
  intro fuel cs x h
  obtain ⟨hl,hf⟩:=zxr Tryd.underlying83 h
  rw [zLQ] at hl
  obtain ⟨n0,y0,g0⟩:=hf 0 _ rfl
  have g0:DataW.trod en Tryd.prog w 0 sp held n0 3 ((cs.drop 0).take (Tryd.prog.cellsOf 3))=some y0:=g0
  rw [C_3] at g0
  obtain ⟨a0,r0,w0⟩:=rd_3 _ _ _ g0
  obtain ⟨n1,y1,g1⟩:=hf 1 _ rfl
  have g1:DataW.trod en Tryd.prog w 0 sp held n1 3 ((cs.drop 1).take (Tryd.prog.cellsOf 3))=some y1:=g1
  rw [C_3] at g1
  obtain ⟨a1,r1,w1⟩:=rd_3 _ _ _ g1
  obtain ⟨n2,y2,g2⟩:=hf 2 _ rfl
  have g2:DataW.trod en Tryd.prog w 0 sp held n2 3 ((cs.drop 2).take (Tryd.prog.cellsOf 3))=some y2:=g2
  rw [C_3] at g2
  obtain ⟨a2,r2,w2⟩:=rd_3 _ _ _ g2
  obtain ⟨n3,y3,g3⟩:=hf 3 _ rfl
  have g3:DataW.trod en Tryd.prog w 0 sp held n3 3 ((cs.drop 3).take (Tryd.prog.cellsOf 3))=some y3:=g3
  rw [C_3] at g3
  obtain ⟨a3,r3,w3⟩:=rd_3 _ _ _ g3
  obtain ⟨n4,y4,g4⟩:=hf 4 _ rfl
  have g4:DataW.trod en Tryd.prog w 0 sp held n4 3 ((cs.drop 4).take (Tryd.prog.cellsOf 3))=some y4:=g4
  rw [C_3] at g4
  obtain ⟨a4,r4,w4⟩:=rd_3 _ _ _ g4
  have z:cs.drop 5=[]:=List.drop_eq_nil_of_le (by omega)
  have R:=(r0.append (r1.append (r2.append (r3.append (r4.append (show RL (Rep (H0 w)) [] (cs.drop 5) by rw [z];exact zmh))))))
  rw [← (show cs.drop 4=(cs.drop 4).take 1 ++ cs.drop 5 from ze0 cs 4 1)] at R
  rw [← (show cs.drop 3=(cs.drop 3).take 1 ++ cs.drop 4 from ze0 cs 3 1)] at R
  rw [← (show cs.drop 2=(cs.drop 2).take 1 ++ cs.drop 3 from ze0 cs 2 1)] at R
  rw [← (show cs.drop 1=(cs.drop 1).take 1 ++ cs.drop 2 from ze0 cs 1 1)] at R
  rw [← (show cs.drop 0=(cs.drop 0).take 1 ++ cs.drop 1 from ze0 cs 0 1)] at R
  exact ⟨⟨a0,a1,a2,a3,a4⟩,R,⟨w0,w1,w2,w3,w4⟩⟩
def wf_81 (x:(Sl Flash)):Prop:=x.len≤9223372036854775807∧∀ i,i < x.len→zIh (x.get i)
theorem rd_81 {H:Type} {en:TypeId×Value→H} {w:World} {sp:Nat→Bool} {held:Bool} : Rd H en Tryd.prog w sp held 81 zIf wf_81:=zt9 Tryd.underlying81 zLQ (by decide) (fun _=>rfl) zKz
end Go.Proofs
namespace Go.Proofs
open Go Go.Pm
set_option maxRecDepth 100000
set_option linter.unusedVariables false
attribute [local irreducible] Go.Pm.vcFun Go.Pm.vc Go.Pm.vcIter
abbrev T81:Tabs:=Tabs.nil
theorem zKA:TabsOk Tryd.prog T81:=TabsOk.nil
abbrev G81:Ctrs:=csm T81 (fun _ _=>[]) (fun _=>false)
def zIi:Ann:=⟨15,[(0,zK [0,1,2] []),(1,zK [6] [])],
 [],
 [],
 [],[]⟩
abbrev R81:=Bool
abbrev e81 (r:R81):List PA:=[.one (.bool r)]
section
variable {K:List PA→Prop} {n:Int} {low:Int} {high:Int}
def s81 (n:Int) (low:Int) (high:Int):Bool :=
  (cond (decide (n ≥ low))
 (decide (n≤high))
 false)
end
theorem q81 (n:Int) (low:Int) (high:Int) (K:List PA→Prop) (hk:K (e81 (s81 n low high))):vcFun Tryd.prog G81 zIi 81 [.one (.int .i64 n),.one (.int .i64 low),.one (.int .i64 high)] K :=
  zbm (by kernel_rfl) (zt hk (fun hk=>hk) (fun hk=>hk))
def zrh : List PA → COut
  | [.one (.int .i64 a0),.one (.int .i64 a1),.one (.int .i64 a2)]=>.tot [.one (.bool (s81 a0 a1 a2))]
  | _=>.no
theorem zIj:zay Tryd.prog 81:=⟨_,rfl,rfl,by kernel_rfl⟩
theorem zIk:Ok Tryd.prog 81 zrh:=zbY zKA zIj fun args K h=>by
  unfold zrh at h
  split at h
  · rename_i a0 a1 a2
    have hk:=h
    exact ⟨(fun _ _=>[]),(fun _=>false),zIi,q81 a0 a1 a2 K hk⟩
  · exact h.elim
abbrev T78:Tabs:=(Tabs.nil.addF 81 zrh)
theorem zKB:TabsOk Tryd.prog T78:=(TabsOk.nil.addF zIk)
abbrev G78:Ctrs:=csm T78 (fun _ _=>[]) (fun _=>false)
def zEl:Ann:=⟨55,[(0,zK [1,2] [2]),(1,zK [1,2,5] [2]),(2,zK [1,2,5,6] [2]),(3,zK [4] [])],
 [],
 [(2,zK [1,2,5] [2]),(3,zK [1,2,5,6] [2])],
 [],[]⟩
abbrev R78:=Bool
abbrev e78 (r:R78):List PA:=[.one (.bool r)]
@[irreducible] def z78:=ptF Tryd.prog G78 zEl Tryd.f78
section
variable {K:List PA→Prop} {t:Tie} {nodes:Int} {znT:Bool} {zua:Bool}
def znU (t:Tie) (nodes:Int) (znT:Bool) (zua:Bool):Bool :=
  (cond (s81 t.From (0:Int) (w64 (nodes - (1:Int))))
 (cond (s81 t.To (0:Int) (w64 (nodes - (1:Int))))
 (cond (t.From != t.To)
 (cond znT
 (cond zua
 (decide (t.Low≤t.High))
 false)
 false)
 false)
 false)
 false)
theorem zxs (hk:K (e78 (znU t nodes znT zua))):z78 K [1,1,1] [] ⟨[(1,zI nodes),(2,zp 2 0),(5,zB znT),(6,zB zua)],[(2,.box 40 (zm (zai t)))],[]⟩:=zbm (by kernel_rfl) (zt hk (fun hk=>(zt hk (fun hk=>(zt hk (fun hk=>(zt hk (fun hk=>(zt hk (fun hk=>hk) (fun hk=>hk))) (fun hk=>hk))) (fun hk=>hk))) (fun hk=>hk))) (fun hk=>hk))
def znV (t:Tie) (nodes:Int) (znT:Bool):Bool :=
  (cond (t.High == (1000000000000:Int))
 (znU t nodes znT true)
 (znU t nodes znT (s81 t.High (-1000000000:Int) (1000000000:Int))))
theorem zxt (hk:K (e78 (znV t nodes znT))):z78 K [1,1] [] ⟨[(1,zI nodes),(2,zp 2 0),(5,zB znT)],[(2,.box 40 (zm (zai t)))],[]⟩:=zbm (by kernel_rfl) (zt hk (fun hk=>(zxs hk)) (fun hk=>(zxs hk)))
def s78 (t:Tie) (nodes:Int):Bool :=
  (cond (t.Low == (-1000000000000:Int))
 (znV t nodes true)
 (znV t nodes (s81 t.Low (-1000000000:Int) (1000000000:Int))))
end
theorem q78 (t:Tie) (nodes:Int) (K:List PA→Prop) (hk:K (e78 (s78 t nodes))):vcFun Tryd.prog G78 zEl 78 [.agg (zai t),.one (.int .i64 nodes)] K :=
  zbm (by kernel_rfl) (zt hk (fun hk=>(zxt hk)) (fun hk=>(zxt hk)))
def zEm : List PA → COut
  | [.agg [.int .i64 zfZ,.int .i64 zpG,.int .i64 zjt,.int .i64 zf0],.one (.int .i64 a1)]=>.tot [.one (.bool (s78 (⟨zfZ,zpG,zjt,zf0⟩:Tie) a1))]
  | _=>.no
theorem zIl:zay Tryd.prog 78:=⟨_,rfl,rfl,by kernel_rfl⟩
theorem zMd:Ok Tryd.prog 78 zEm:=zbY zKB zIl fun args K h=>by
  unfold zEm at h
  split at h
  · rename_i zfZ zpG zjt zf0 a1
    have hk:=h
    exact ⟨(fun _ _=>[]),(fun _=>false),zEl,q78 (⟨zfZ,zpG,zjt,zf0⟩:Tie) a1 K hk⟩
  · exact h.elim
abbrev T67:Tabs:=((Tabs.nil.addF 78 zEm).addF 81 zrh)
theorem zKC:TabsOk Tryd.prog T67:=((TabsOk.nil.addF zMd).addF zIk)
abbrev G67:Ctrs:=csm T67 (fun _ _=>[]) (fun _=>false)
def zBK:Ann:=⟨27,[(0,zK [1] [1]),(1,zK [1,6,7,8] [1]),(2,zK [1,6,7,8,9] [1]),(3,zK [1,4,6,7,8] [1,4]),(4,zK [1,6,7,8,16] [1]),(5,zK [2] []),(6,zK [1,6,7,8] [1]),(7,zK [2] [])],
 [(2,zK [1,6,7,8] [1])],
 [(5,zK [1,6,7,8,16] [1])],
 [],[]⟩
abbrev R67:=Bool
abbrev e67 (r:R67):List PA:=[.one (.bool r)]
@[irreducible] def z67:=ptF Tryd.prog G67 zBK Tryd.f67
def zCZ (n:Net) (zdE:Int):St:=⟨[(1,zp 1 0),(6,zS zai 4 n.Ties),(7,zI (n.Ties.len:Int)),(8,zI zdE)],[(1,.box 24 (zm (zb5 n)))],[]⟩
abbrev zEn (K:List PA→Prop) (n:Net) (X:St→Prop) (P:Int→Bool) (S:Int→Bool):Prop:=∀ ⦃zdE:Int⦄,P zdE=true→K (e67 (S zdE))→X (zCZ n zdE)
section
variable {K:List PA→Prop} {n:Net} {zdE:Int} {X0:St→Prop} {P0:Int→Bool} {S0:Int→Bool} {zEo:Int} {zpH:Bool}
def zri (S0:Int→Bool) (n:Net) (zEo:Int) (zpH:Bool):Bool :=
  (cond zpH
 false
 (S0 (w64 (zEo+(1:Int)))))
def zrj (P0:Int→Bool) (n:Net) (zEo:Int) (zpH:Bool):Bool :=
  (cond zpH
 true
 (P0 (w64 (zEo+(1:Int)))))
theorem zEp (hX0:zEn K n X0 P0 S0) (hs:zrj P0 n zEo zpH=true) (hk:K (e67 (zri S0 n zEo zpH))):z67 K [1,0,1,0,0,1,1,0,0,1,1] [X0] ⟨[(1,zp 1 0),(6,zS zai 4 n.Ties),(7,zI (n.Ties.len:Int)),(8,zI zEo),(16,zB zpH)],[(1,.box 24 (zm (zb5 n)))],[]⟩:=zbm (by kernel_rfl) (zc hs hk (fun hs hk=>hk) (fun hs hk=>(hX0 hs hk)))
def ziz (n:Net) (S0:Int→Bool) (zdE:Int):Bool :=
  (cond (decide (zdE < (n.Ties.len : Int)))
 (zri S0 n zdE (!(s78 (n.Ties.get zdE.toNat) n.Nodes)))
 (cond (s81 n.Nodes (1:Int) (40:Int))
 (decide ((n.Ties.len:Int)≤(200:Int)))
 false))
def ziA (n:Net) (P0:Int→Bool) (zdE:Int):Bool :=
  (cond (decide (zdE < (n.Ties.len : Int)))
 (decide ((0≤zdE∧zdE < (n.Ties.len:Int))) &&
 (zrj P0 n zdE (!(s78 (n.Ties.get zdE.toNat) n.Nodes))))
 true)
def ziB (n:Net):Nat→Int→Bool:=lpO (fun _=>default) (ziz n)
def ziC (n:Net):Nat→Int→Bool:=lpO (fun _=>false) (ziA n)
def zxu (n:Net) (zdE:Int):Bool:=ziB n Fuel zdE
def zxv (n:Net) (zdE:Int):Bool:=ziC n Fuel zdE
theorem zEq (hs:zxv n zdE=true) (hk:K (e67 (zxu n zdE))):z67 K [1,0,1,0] [] (zCZ n zdE) :=
  zl (fun X=>z67 K [1,0,1,0,0] [X]) (by kernel_rfl) fun X0 hX =>
  (show ∀ k, zEn K n X0 (ziC n k) (ziB n k) from zjK _ _ (ziA n) (ziz n) (zEn K n X0)
 (by intro _ hs;exact absurd hs Bool.false_ne_true)
 (by intro P0 S0 hX0 zdE hs hk;exact hX _ (zbm (by kernel_rfl) (zc hs hk (fun hs hk=>(za4 hs fun hc hs=>And.intro hc (zEp hX0 hs hk))) (fun hs hk=>(zt hk (fun hk=>hk) (fun hk=>hk))))))) _ hs hk
def s67 (n:Net):Bool :=
  (zxu n (0:Int))
def p67 (n:Net):Bool :=
  (zxv n (0:Int))
end
theorem q67 (n:Net) (K:List PA→Prop) (hs:p67 n=true) (hk:K (e67 (s67 n))):vcFun Tryd.prog G67 zBK 67 [.agg (zb5 n)] K :=
  zbm (by kernel_rfl) (zEq hs hk)
def zrk : List PA → COut
  | [.agg [.int .i64 zan,.sl zaj zaR zah]]=>.det (IsE zai 4 zaR zah∧p67 (⟨zan,(⟨zaj,zat zah⟩:(Sl Tie))⟩:Net)=true) [.one (.bool (s67 (⟨zan,(⟨zaj,zat zah⟩:(Sl Tie))⟩:Net)))]
  | [.agg [.int .i64 zan,.nils]]=>.det (p67 (⟨zan,(⟨0,fun _=>default⟩:(Sl Tie))⟩:Net)=true) [.one (.bool (s67 (⟨zan,(⟨0,fun _=>default⟩:(Sl Tie))⟩:Net)))]
  | _=>.no
theorem zIm:zay Tryd.prog 67:=⟨_,rfl,rfl,by kernel_rfl⟩
theorem zIn:Ok Tryd.prog 67 zrk:=zhc zKC zIm fun args K h=>by
  unfold zrk at h
  split at h
  · rename_i zan zaj zaR zah
    obtain ⟨⟨⟨rfl,zaH,rfl⟩,hs⟩,hk⟩:=h
    try rw [zav zaH] at hs
    try rw [zav zaH] at hk
    exact ⟨_,zfy zfW _,(fun _ _=>[]),(fun _=>false),zBK,q67 (⟨zan,(⟨zaj,zaH⟩:(Sl Tie))⟩:Net) (Wk K) hs (zfX hk)⟩
  · rename_i zan
    obtain ⟨hs,hk⟩:=h
    exact ⟨_,(ze2 (.agg (ze2 (.rfl _) (ze2 (.nil _ _) zmh))) zmh),(fun _ _=>[]),(fun _=>false),zBK,q67 (⟨zan,(⟨0,fun _=>default⟩:(Sl Tie))⟩:Net) (Wk K) hs (zfX hk)⟩
  · exact h.elim
abbrev T93:Tabs:=Tabs.nil
theorem zKD:TabsOk Tryd.prog T93:=TabsOk.nil
abbrev G93:Ctrs:=csm T93 (fun _ _=>[]) (fun _=>false)
def zEr:Ann:=⟨4,[(0,zK [1] [1]),(1,zK [2] [])],
 [],
 [],
 [],[]⟩
theorem zEs (w : web) (K : List PA → Prop) :
  vcFun Tryd.prog G93 zEr 93 [.one (.fp (zaC w) 0)] K =
  (K [.one (.fn 110 [] [.fp [.fp (zaC w) 0] 0])]):=by kernel_rfl
theorem q93 (w:web) (K:List PA→Prop) (hk:K [.one (.fn 110 [] [.fp [.fp (zaC w) 0] 0])]):vcFun Tryd.prog G93 zEr 93 [.one (.fp (zaC w) 0)] K:=zbm (zEs w K) hk
def zpI : List PA → COut
  | [.one (.fp [.int .i64 zar,.sl zal zaO zam,.fm zbJ zaS zaT] 0)]=>.det (IsE zai 4 zaO zam∧zbJ=(false,1,false,[none])) [.one (.fn 110 [] [.fp [.fp (zaC (⟨(⟨(⟨zar,(⟨zal,zat zam⟩:(Sl Tie))⟩:Net),(⟨zaS,zaT⟩:Mp)⟩:web).Net,((⟨(⟨zar,(⟨zal,zat zam⟩:(Sl Tie))⟩:Net),(⟨zaS,zaT⟩:Mp)⟩:web).out)⟩:web)) 0] 0])]
  | _=>.no
theorem zIo:zay Tryd.prog 93:=⟨_,rfl,rfl,by kernel_rfl⟩
theorem zHq:Ok Tryd.prog 93 zpI:=zbY zKD zIo fun args K h=>by
  unfold zpI at h
  split at h
  · rename_i zar zal zaO zam zbJ zaS zaT
    obtain ⟨⟨⟨rfl,zaB,rfl⟩,rfl⟩,hk⟩:=h
    try rw [zav zaB] at hk
    exact ⟨fun _ _=>[],fun _=>false,zEr,q93 (⟨(⟨zar,(⟨zal,zaB⟩:(Sl Tie))⟩:Net),(⟨zaS,zaT⟩:Mp)⟩:web) K hk⟩
  · exact h.elim
abbrev T94:Tabs:=Tabs.nil
theorem zKE:TabsOk Tryd.prog T94:=TabsOk.nil
abbrev G94:Ctrs:=csm T94 (fun _ _=>[]) (fun _=>false)
def zIp:Ann:=⟨21,[(0,zK [1,2] [1,2]),(1,zK [2,3] [2])],
 [],
 [],
 [],[]⟩
abbrev R94:=(step×Bool)
abbrev e94 (r:R94):List PA:=[.agg [.int .i64 r.1.Use.Tie,.bool r.1.Use.Back,.int .i64 r.1.from_,.int .i64 r.1.to,.int .i64 r.1.length],.one (.bool r.2)]
section
variable {K:List PA→Prop} {t:tie}
def s94 (t:tie):(step×Bool) :=
  ((⟨(⟨t.index,false⟩:Use),t.Tie.From,t.Tie.To,t.Tie.High⟩:step),(t.Tie.High != (1000000000000:Int)))
end
theorem q94 (t:tie) (K:List PA→Prop) (hk:K (e94 (s94 t))):vcFun Tryd.prog G94 zIp 94 [.agg (zxp t)] K :=
  zbm (by kernel_rfl) hk
def zEt : List PA → COut
  | [.agg [.int .i64 zbp,.int .i64 zbZ,.int .i64 zbE,.int .i64 zbq,.int .i64 zcd]]=>.tot [.agg [.int .i64 (((s94 (⟨(⟨zbp,zbZ,zbE,zbq⟩:Tie),zcd⟩:tie)).1).Use.Tie),.bool (((s94 (⟨(⟨zbp,zbZ,zbE,zbq⟩:Tie),zcd⟩:tie)).1).Use.Back),.int .i64 (((s94 (⟨(⟨zbp,zbZ,zbE,zbq⟩:Tie),zcd⟩:tie)).1).from_),.int .i64 (((s94 (⟨(⟨zbp,zbZ,zbE,zbq⟩:Tie),zcd⟩:tie)).1).to),.int .i64 (((s94 (⟨(⟨zbp,zbZ,zbE,zbq⟩:Tie),zcd⟩:tie)).1).length)],.one (.bool ((s94 (⟨(⟨zbp,zbZ,zbE,zbq⟩:Tie),zcd⟩:tie)).2))]
  | _=>.no
theorem zIq:zay Tryd.prog 94:=⟨_,rfl,rfl,by kernel_rfl⟩
theorem zMe:Ok Tryd.prog 94 zEt:=zbY zKE zIq fun args K h=>by
  unfold zEt at h
  split at h
  · rename_i zbp zbZ zbE zbq zcd
    have hk:=h
    exact ⟨(fun _ _=>[]),(fun _=>false),zIp,q94 (⟨(⟨zbp,zbZ,zbE,zbq⟩:Tie),zcd⟩:tie) K hk⟩
  · exact h.elim
abbrev T95:Tabs:=Tabs.nil
theorem zKF:TabsOk Tryd.prog T95:=TabsOk.nil
abbrev G95:Ctrs:=csm T95 (fun _ _=>[]) (fun _=>false)
def zIr:Ann:=⟨22,[(0,zK [1,2] [1,2]),(1,zK [2,3] [2])],
 [],
 [],
 [],[]⟩
abbrev R95:=(step×Bool)
abbrev e95 (r:R95):List PA:=[.agg [.int .i64 r.1.Use.Tie,.bool r.1.Use.Back,.int .i64 r.1.from_,.int .i64 r.1.to,.int .i64 r.1.length],.one (.bool r.2)]
section
variable {K:List PA→Prop} {t:tie}
def s95 (t:tie):(step×Bool) :=
  ((⟨(⟨t.index,true⟩:Use),t.Tie.To,t.Tie.From,(w64 (0 - t.Tie.Low))⟩:step),(t.Tie.Low != (-1000000000000:Int)))
end
theorem q95 (t:tie) (K:List PA→Prop) (hk:K (e95 (s95 t))):vcFun Tryd.prog G95 zIr 95 [.agg (zxp t)] K :=
  zbm (by kernel_rfl) hk
def zEu : List PA → COut
  | [.agg [.int .i64 zbp,.int .i64 zbZ,.int .i64 zbE,.int .i64 zbq,.int .i64 zcd]]=>.tot [.agg [.int .i64 (((s95 (⟨(⟨zbp,zbZ,zbE,zbq⟩:Tie),zcd⟩:tie)).1).Use.Tie),.bool (((s95 (⟨(⟨zbp,zbZ,zbE,zbq⟩:Tie),zcd⟩:tie)).1).Use.Back),.int .i64 (((s95 (⟨(⟨zbp,zbZ,zbE,zbq⟩:Tie),zcd⟩:tie)).1).from_),.int .i64 (((s95 (⟨(⟨zbp,zbZ,zbE,zbq⟩:Tie),zcd⟩:tie)).1).to),.int .i64 (((s95 (⟨(⟨zbp,zbZ,zbE,zbq⟩:Tie),zcd⟩:tie)).1).length)],.one (.bool ((s95 (⟨(⟨zbp,zbZ,zbE,zbq⟩:Tie),zcd⟩:tie)).2))]
  | _=>.no
theorem zIs:zay Tryd.prog 95:=⟨_,rfl,rfl,by kernel_rfl⟩
theorem zMf:Ok Tryd.prog 95 zEu:=zbY zKF zIs fun args K h=>by
  unfold zEu at h
  split at h
  · rename_i zbp zbZ zbE zbq zcd
    have hk:=h
    exact ⟨(fun _ _=>[]),(fun _=>false),zIr,q95 (⟨(⟨zbp,zbZ,zbE,zbq⟩:Tie),zcd⟩:tie) K hk⟩
  · exact h.elim
abbrev zLR:Tabs:=((Tabs.nil.addF 94 zEt).addF 95 zEu)
theorem zIt:TabsOk Tryd.prog zLR:=((TabsOk.nil.addF zMe).addF zMf)
abbrev zIu:Ctrs:=csm zLR (fun _ _=>[]) (fun _=>false)
def zju:Ann:=⟨52,[(0,zK [0,1,14,15,16] []),(1,zK [0,1,14,15,16,17] []),(2,zK [0,1,3,4,14,15,16] [4]),(3,zK [0,1,3,4,14,15,16,26] [4]),(4,zK [0,1,5,14,15,16] [5]),(5,zK [0,1,14,15,16,34,35] []),(6,zK [0,1,14,15,16,34,35,36] []),(7,zK [0,1,7,14,15,16,34,35] []),(8,zK [0,1,8,9,14,15,16,34,35] [8]),(9,zK [0,1,14,15,16,34,35,49] []),(10,zK [0,1,14,15,16,34,35] []),(11,zK [0,1,14,15,16] [])],
 [(1,zK [0,1,14,15,16] [])],
 [],
 [(6,3,zK [0,1,14,15,16,34,35] [])],[9]⟩
def zd2 (l:Nat) (a:web) (zaN:Int):St:=⟨[(0,.one (.c (.p (.yl l)))),(1,.one (.c (.p (.fp [.fp (zaC a) 0] 0)))),(14,.one (.c (.p (.sl a.Net.Ties.len 4 (fun i=>zai (a.Net.Ties.get i)))))),(15,.one (.c (.p (.int .i64 (a.Net.Ties.len:Int))))),(16,.one (.c (.p (.int .i64 zaN))))],[],[]⟩
def zhY (l:Nat) (ys:List (List PA)) (a:web) (zaN:Int):Prop:=vcY Tryd.prog zIu zju l (cdF Tryd.f110 [1,0]) (zoV 0 zAW) ys false (zd2 l a zaN)
theorem zBL (l : Nat) (a : web) (ys : List (List PA)) :
  vcIter Tryd.prog zIu zju 110 l [.one (.fp [.fp (zaC a) 0] 0)] ys =
  (zhY l ys a (0:Int)):=by kernel_rfl
def zmW (l:Nat) (X0:List (List PA)→Bool→St→Prop) (ys:List (List PA)) (a:web) (zaN:Int):Prop :=
  (zbR (decide (zaN < (a.Net.Ties.len : Int)))
 (((0≤zaN∧zaN < (a.Net.Ties.len:Int))) ∧
 (zbR ((zuW (a.out.F [zaN]) 0) != 0)
 (X0 ys false (zd2 l a (w64 (zaN+(1:Int)))))
 (zbR ((s94 (⟨(a.Net.Ties.get zaN.toNat), zaN⟩ : tie)).2)
 (l=l∧∃ r1,ys=[.agg [.int .i64 (((s94 (⟨(a.Net.Ties.get zaN.toNat),zaN⟩:tie)).1).Use.Tie),.bool (((s94 (⟨(a.Net.Ties.get zaN.toNat),zaN⟩:tie)).1).Use.Back),.int .i64 (((s94 (⟨(a.Net.Ties.get zaN.toNat),zaN⟩:tie)).1).from_),.int .i64 (((s94 (⟨(a.Net.Ties.get zaN.toNat),zaN⟩:tie)).1).to),.int .i64 (((s94 (⟨(a.Net.Ties.get zaN.toNat),zaN⟩:tie)).1).length)]] :: r1 ∧
 (zbR ((s95 (⟨(a.Net.Ties.get zaN.toNat), zaN⟩ : tie)).2)
 (l=l∧∃ r2,r1=[.agg [.int .i64 (((s95 (⟨(a.Net.Ties.get zaN.toNat),zaN⟩:tie)).1).Use.Tie),.bool (((s95 (⟨(a.Net.Ties.get zaN.toNat),zaN⟩:tie)).1).Use.Back),.int .i64 (((s95 (⟨(a.Net.Ties.get zaN.toNat),zaN⟩:tie)).1).from_),.int .i64 (((s95 (⟨(a.Net.Ties.get zaN.toNat),zaN⟩:tie)).1).to),.int .i64 (((s95 (⟨(a.Net.Ties.get zaN.toNat),zaN⟩:tie)).1).length)]] :: r2 ∧
 (X0 r2 false (zd2 l a (w64 (zaN+(1:Int)))))∧True)
 (X0 r1 false (zd2 l a (w64 (zaN+(1:Int))))))∧True)
 (zbR ((s95 (⟨(a.Net.Ties.get zaN.toNat), zaN⟩ : tie)).2)
 (l=l∧∃ r3,ys=[.agg [.int .i64 (((s95 (⟨(a.Net.Ties.get zaN.toNat),zaN⟩:tie)).1).Use.Tie),.bool (((s95 (⟨(a.Net.Ties.get zaN.toNat),zaN⟩:tie)).1).Use.Back),.int .i64 (((s95 (⟨(a.Net.Ties.get zaN.toNat),zaN⟩:tie)).1).from_),.int .i64 (((s95 (⟨(a.Net.Ties.get zaN.toNat),zaN⟩:tie)).1).to),.int .i64 (((s95 (⟨(a.Net.Ties.get zaN.toNat),zaN⟩:tie)).1).length)]] :: r3 ∧
 (X0 r3 false (zd2 l a (w64 (zaN+(1:Int)))))∧True)
 (X0 ys false (zd2 l a (w64 (zaN+(1:Int)))))))))
 (ys=[]))
theorem zpJ (l : Nat) (X0 : List (List PA) → Bool → St → Prop) (ys : List (List PA)) (a : web) (zaN : Int) :
  vcY Tryd.prog zIu zju l (cd (cdF Tryd.f110 [1,0]) [0]) (zAU Tryd.prog zju 1 X0 (zoV 0 zAW)) ys false (zd2 l a zaN) =
  zmW l X0 ys a zaN:=by kernel_rfl
theorem zvs (l : Nat) (ys : List (List PA)) (a : web) (zaN : Int)
  (h:∀ X0:List (List PA)→Bool→St→Prop,(∀ (ys:List (List PA)) (zaN:Int),zmW l X0 ys a zaN→X0 ys false (zd2 l a zaN))→X0 ys false (zd2 l a zaN)) :
  zhY l ys a zaN:=by
  have e:zhY l ys a zaN=(∀ X:List (List PA)→Bool→St→Prop,(∀ ys q s,vcY Tryd.prog zIu zju l (cd (cdF Tryd.f110 [1,0]) [0]) (zAU Tryd.prog zju 1 X (zoV 0 zAW)) ys q s→X ys q s)→X ys false (zd2 l a zaN)):=by kernel_rfl
  refine zbm e ?_
  intro X hX
  refine h X ?_
  intro ys zaN hs
  refine hX _ _ _ ?_
  have e2:=zpJ l X ys a zaN
  rw [e2]
  exact hs
attribute [irreducible] zhY
def zfk (a:web) (S0:Int→List step) (zaN:Int):List step :=
  (cond (decide (zaN < (a.Net.Ties.len : Int)))
 (cond ((zuW (a.out.F [zaN]) 0) != 0)
 (S0 (w64 (zaN+(1:Int))))
 (cond ((s94 (⟨(a.Net.Ties.get zaN.toNat), zaN⟩ : tie)).2)
 (((s94 (⟨(a.Net.Ties.get zaN.toNat), zaN⟩ : tie)).1) :: (cond ((s95 (⟨(a.Net.Ties.get zaN.toNat), zaN⟩ : tie)).2)
 (((s95 (⟨(a.Net.Ties.get zaN.toNat),zaN⟩:tie)).1) :: (S0 (w64 (zaN+(1:Int)))))
 (S0 (w64 (zaN+(1:Int))))))
 (cond ((s95 (⟨(a.Net.Ties.get zaN.toNat), zaN⟩ : tie)).2)
 (((s95 (⟨(a.Net.Ties.get zaN.toNat),zaN⟩:tie)).1) :: (S0 (w64 (zaN+(1:Int)))))
 (S0 (w64 (zaN+(1:Int)))))))
 [])
def zfl (a:web) (P0:Int→Bool) (zaN:Int):Bool :=
  (cond (decide (zaN < (a.Net.Ties.len : Int)))
 (decide ((0≤zaN∧zaN < (a.Net.Ties.len:Int))) &&
 (cond ((zuW (a.out.F [zaN]) 0) != 0)
 (P0 (w64 (zaN+(1:Int))))
 (cond ((s94 (⟨(a.Net.Ties.get zaN.toNat), zaN⟩ : tie)).2)
 (cond ((s95 (⟨(a.Net.Ties.get zaN.toNat), zaN⟩ : tie)).2)
 (P0 (w64 (zaN+(1:Int))))
 (P0 (w64 (zaN+(1:Int)))))
 (cond ((s95 (⟨(a.Net.Ties.get zaN.toNat), zaN⟩ : tie)).2)
 (P0 (w64 (zaN+(1:Int))))
 (P0 (w64 (zaN+(1:Int))))))))
 true)
def zev (a : web) : Nat → Int → List step
  | 0=>fun _=>[]
  | k+1=>zfk a (zev a k)
def zew (a : web) : Nat → Int → Bool
  | 0=>fun _=>false
  | k+1=>zfl a (zew a k)
def zue (a:web) (zaN:Int):List step:=zev a Fuel zaN
def zuf (a:web) (zaN:Int):Bool:=zew a Fuel zaN
theorem zBM (l:Nat) (a:web) (ys:List (List PA)) (zaN:Int) (hs:zuf a zaN=true) (hk:ys=(zue a zaN).map (fun y=>[.agg (zad y)])):zhY l ys a zaN:=by
  refine zvs l ys a zaN ?_
  intro X0 hstep
  have key:∀ (k:Nat) (ys:List (List PA)) (zaN:Int),zew a k zaN=true→ys=(zev a k zaN).map (fun y=>[.agg (zad y)])→X0 ys false (zd2 l a zaN):=by
    intro k
    induction k with
    | zero=>intro ys zaN hs;exact absurd hs Bool.false_ne_true
    | succ k ih =>
      intro ys zaN hs hk
      refine hstep ys zaN ?_
      have hs:zfl a (zew a k) zaN=true:=hs
      have hk:ys=(zfk a (zev a k) zaN).map (fun y=>[.agg (zad y)]):=hk
      unfold zfl at hs
      unfold zfk at hk
      generalize zev a k=S0 at hk ih
      generalize zew a k=P0 at hs ih
      have hX0:=ih
      exact (zhW hs hk
 (fun hs hk => (za4 hs fun hc hs => ⟨hc, (zhW hs hk
 (fun hs hk=>(hX0 _ (w64 (zaN+(1:Int))) hs hk))
 (fun hs hk => (zhW hs hk
 (fun hs hk => (itY hk rfl (fun _ hk => (zhW hs hk
 (fun hs hk=>(itY hk rfl (fun _ hk=>(hX0 _ (w64 (zaN+(1:Int))) hs hk))))
 (fun hs hk=>(hX0 _ (w64 (zaN+(1:Int))) hs hk))))))
 (fun hs hk => (zhW hs hk
 (fun hs hk=>(itY hk rfl (fun _ hk=>(hX0 _ (w64 (zaN+(1:Int))) hs hk))))
 (fun hs hk=>(hX0 _ (w64 (zaN+(1:Int))) hs hk)))))))⟩))
 (fun hs hk=>hk))
  exact key _ _ zaN hs hk
def zik (a:web):List step :=
  (zue a (0:Int))
def zmi (a:web):Bool :=
  (zuf a (0:Int))
theorem zMg (l:Nat) (a:web) (ys:List (List PA)) (hs:zmi a=true) (hk:ys=(zik a).map (fun y=>[.agg (zad y)])):vcIter Tryd.prog zIu zju 110 l [.one (.fp [.fp (zaC a) 0] 0)] ys:=by
  refine zbm (zBL l a ys) ?_
  unfold zmi at hs
  unfold zik at hk
  exact (zBM l a _ (0:Int) hs hk)
def zpK : List PA → Option (Prop × List (List PA))
  | [.one (.fp [.fp [.int .i64 a_Net_Nodes,.sl a_Net_Ties_n a_Net_Ties_s a_Net_Ties_g,.fm a_out_q a_out_n a_out_F] 0] 0)]=>some (IsE zai 4 a_Net_Ties_s a_Net_Ties_g∧a_out_q=(false,1,false,[none])∧zmi (⟨(⟨a_Net_Nodes,(⟨a_Net_Ties_n,zat a_Net_Ties_g⟩:(Sl Tie))⟩:Net),(⟨a_out_n,a_out_F⟩:Mp)⟩:web)=true,(zik (⟨(⟨a_Net_Nodes,(⟨a_Net_Ties_n,zat a_Net_Ties_g⟩:(Sl Tie))⟩:Net),(⟨a_out_n,a_out_F⟩:Mp)⟩:web)).map fun y=>[.agg (zad y)])
  | _=>none
theorem zEv:zay Tryd.prog 110:=⟨_,rfl,rfl,by kernel_rfl⟩
theorem zvt:zCI Tryd.prog 110 zpK:=zH6 zIt zEv fun l caps safe ys h hs=>by
  unfold zpK at h
  split at h
  · rename_i a_Net_Nodes a_Net_Ties_n a_Net_Ties_s a_Net_Ties_g a_out_q a_out_n a_out_F
    cases h
    obtain ⟨⟨rfl,a_Net_Ties_f,rfl⟩,rfl,hs⟩:=hs
    try rw [zav a_Net_Ties_f] at hs
    try rw [zav a_Net_Ties_f]
    exact ⟨fun _ _=>[],fun _=>false,zju,zMg l (⟨(⟨a_Net_Nodes,(⟨a_Net_Ties_n,a_Net_Ties_f⟩:(Sl Tie))⟩:Net),(⟨a_out_n,a_out_F⟩:Mp)⟩:web) _ hs rfl⟩
  · cases h
abbrev T88:Tabs:=((Tabs.nil.addF 93 zpI).addI 110 zpK)
theorem zKG:TabsOk Tryd.prog T88:=((TabsOk.nil.addF zHq).addI zvt)
abbrev G88:Ctrs:=csm T88 (fun _ _=>[]) (fun _=>false)
def zcT:Ann:=⟨37,[(0,zK [0] []),(1,zK [0,3] [3]),(2,zK [0,3,11,12] [3]),(3,zK [0,3,11,12,13] [3]),(4,zK [0,3,4,11,12] [3,4]),(5,zK [0,3,4,11,12,15] [3,4]),(6,zK [0,3,4,5,11,12,15] [3,4,5]),(7,zK [0,3,4,5,6,11,12,15] [3,4,5]),(8,zK [0,3,4,5,6,11,12,15,29] [3,4,5]),(9,zK [0,3,4,11,12,15] [3,4]),(10,zK [0,3,4,11,12,15] [3,4]),(11,zK [0,3,11,12,35] [3]),(12,zK [2] []),(13,zK [0,3,11,12] [3]),(14,zK [2] [])],
 [(3,zK [0,3,11,12] [3]),(6,zK [0,3,4,11,12,15] [3,4])],
 [],
 [],[]⟩
def zjv (w:web) (zbs:Int) (dt0:Tab):St:=⟨[(0,.one (.c (.p (.fp (zaC w) 0)))),(3,.one (.c (.ptr 3 0))),(11,.one (.c (.p (.int .i64 w.Net.Nodes)))),(12,.one (.c (.p (.int .i64 zbs))))],[(3,.box 157 (zm (zxq dt0)))],[]⟩
def zk6 (K:List PA→Prop) (w:web) (zbs:Int) (dt0:Tab):Prop:=vc Tryd.prog G88 zcT (cdF Tryd.f88 [1,1,0,1,0]) (zak 0 (sqK Tryd.prog G88 zcT (cdF Tryd.f88 [1,1,1]) (zbn Tryd.prog Tryd.f88 K))) (zjv w zbs dt0)
def zgZ (w:web) (zbf:Int) (zaw:Bool) (dt1:Tab):St:=⟨[(0,.one (.c (.p (.fp (zaC w) 0)))),(3,.one (.c (.ptr 3 0))),(4,.one (.c (.ptr 4 0))),(11,.one (.c (.p (.int .i64 w.Net.Nodes)))),(12,.one (.c (.p (.int .i64 zbf)))),(15,.one (.c (.p (.fn 110 [] [.fp [.fp (zaC w) 0] 0]))))],[(3,.box 157 (zm (zxq dt1))),(4,.box 4 [.p (.bool zaw)])],[]⟩
def zk7 (K:List PA→Prop) (X0:St→Prop) (w:web) (zbf:Int) (zaw:Bool) (dt1:Tab):Prop:=vc Tryd.prog G88 zcT (cdF Tryd.f88 [1,1,0,1,0,0,1,1,0,0,1,0,1,0]) (zak 2 (sqK Tryd.prog G88 zcT (cdF Tryd.f88 [1,1,0,1,0,0,1,1,0,0,1,1]) (zak 1 (sqK Tryd.prog G88 zcT (cdF Tryd.f88 [1,1,0,1,0,0,1,1,1]) (zbo Tryd.prog zcT 3 X0 (zak 0 (sqK Tryd.prog G88 zcT (cdF Tryd.f88 [1,1,1]) (zbn Tryd.prog Tryd.f88 K)))))))) (zgZ w zbf zaw dt1)
theorem zEw (w : web) (K : List PA → Prop) :
  vcFun Tryd.prog G88 zcT 88 [.one (.fp (zaC w) 0)] K =
  (zk6 K w (0:Int) (fun _=>(0:Int))):=by kernel_rfl
def zpL (K:List PA→Prop) (X0:St→Prop) (w:web) (zbs:Int) (dt0:Tab):Prop :=
  (zbR (decide (zbs < w.Net.Nodes))
 ((IsE zai 4 4 (fun i=>zai (w.Net.Ties.get i))∧((false,1,false,[none]):MQ)=(false,1,false,[none])) ∧
 (zk7 K X0 w zbs false dt0))
 (K [.one (.bool true)]))
theorem zrl (K : List PA → Prop) (X0 : St → Prop) (w : web) (zbs : Int) (dt0 : Tab) :
  vc Tryd.prog G88 zcT (cd (cdF Tryd.f88 [1,1,0,1,0]) [0]) (zbo Tryd.prog zcT 3 X0 (zak 0 (sqK Tryd.prog G88 zcT (cdF Tryd.f88 [1,1,1]) (zbn Tryd.prog Tryd.f88 K)))) (zjv w zbs dt0) =
  zpL K X0 w zbs dt0:=by kernel_rfl
theorem zxw (K : List PA → Prop) (w : web) (zbs : Int) (dt0 : Tab)
  (h:∀ X0:St→Prop,(∀ (zbs:Int) (dt0:Tab),zpL K X0 w zbs dt0→X0 (zjv w zbs dt0))→X0 (zjv w zbs dt0)) :
  zk6 K w zbs dt0:=by
  have e:zk6 K w zbs dt0=(∀ X:St→Prop,(∀ s,vc Tryd.prog G88 zcT (cd (cdF Tryd.f88 [1,1,0,1,0]) [0]) (zbo Tryd.prog zcT 3 X (zak 0 (sqK Tryd.prog G88 zcT (cdF Tryd.f88 [1,1,1]) (zbn Tryd.prog Tryd.f88 K)))) s→X s)→X (zjv w zbs dt0)):=by kernel_rfl
  refine zbm e ?_
  intro X hX
  refine h X ?_
  intro zbs dt0 hs
  refine hX _ ?_
  have e2:=zrl K X w zbs dt0
  rw [e2]
  exact hs
def zpM (K:List PA→Prop) (X0:St→Prop) (w:web) (zbf:Int) (zaw:Bool) (dt1:Tab):Prop :=
  (zbR (!zaw)
 (K [.one (.bool false)])
 (X0 (zjv w (w64 (zbf+(1:Int))) dt1)))
def zpN (K:List PA→Prop) (X0:St→Prop) (X1:List (List PA)→St→Prop) (y1:step) (rest1:List (List PA)) (w:web) (zbf:Int) (zaw:Bool) (dt1:Tab):Prop :=
  (((0≤y1.from_∧y1.from_ < (40:Int))) ∧
 (((0≤y1.to∧y1.to < (40:Int))) ∧
 (zbR (decide ((w64 ((tg 40 dt1 (0 + y1.from_.toNat * 1 + 0)) + y1.length)) < (tg 40 dt1 (0 + y1.to.toNat * 1 + 0))))
 (((0≤y1.to∧y1.to < (40:Int))) ∧
 (X1 rest1 (zgZ w zbf true (ts 40 dt1 (0+y1.to.toNat * 1+0) [(w64 ((tg 40 dt1 (0+y1.from_.toNat * 1+0))+y1.length))]))))
 (X1 rest1 (zgZ w zbf zaw dt1)))))
theorem zrm (K:List PA→Prop) (X0:St→Prop) (w:web) (zbf:Int) (zaw:Bool) (dt1:Tab):(zak 2 (sqK Tryd.prog G88 zcT (cdF Tryd.f88 [1,1,0,1,0,0,1,1,0,0,1,1]) (zak 1 (sqK Tryd.prog G88 zcT (cdF Tryd.f88 [1,1,0,1,0,0,1,1,1]) (zbo Tryd.prog zcT 3 X0 (zak 0 (sqK Tryd.prog G88 zcT (cdF Tryd.f88 [1,1,1]) (zbn Tryd.prog Tryd.f88 K)))))))) .normal (zgZ w zbf zaw dt1)=zpM K X0 w zbf zaw dt1:=by kernel_rfl
theorem zrn (K : List PA → Prop) (X0 : St → Prop) (X1 : List (List PA) → St → Prop) (y1 : step) (rest1 : List (List PA)) (w : web) (zbf : Int) (zaw : Bool) (dt1 : Tab) :
  zvL Tryd.prog G88 zcT 6 [16] (cd (cdF Tryd.f88 [1,1,0,1,0,0,1,1,0,0,1,0,1,0]) [0]) (cd (cdF Tryd.f88 [1,1,0,1,0,0,1,1,0,0,1,0,1,0]) [1]) X1 (zak 2 (sqK Tryd.prog G88 zcT (cdF Tryd.f88 [1,1,0,1,0,0,1,1,0,0,1,1]) (zak 1 (sqK Tryd.prog G88 zcT (cdF Tryd.f88 [1,1,0,1,0,0,1,1,1]) (zbo Tryd.prog zcT 3 X0 (zak 0 (sqK Tryd.prog G88 zcT (cdF Tryd.f88 [1,1,1]) (zbn Tryd.prog Tryd.f88 K)))))))) [.agg (zad y1)] rest1 (zgZ w zbf zaw dt1)=zpN K X0 X1 y1 rest1 w zbf zaw dt1:=by kernel_rfl
theorem zxx (K : List PA → Prop) (X0 : St → Prop) (w : web) (zbf : Int) (zaw : Bool) (dt1 : Tab)
  (hsafe:IsE zai 4 4 (fun i=>zai (w.Net.Ties.get i))∧((false,1,false,[none]):MQ)=(false,1,false,[none])∧(zmi w=true)) (h:∀ X1:List (List PA)→St→Prop,(∀ (zbf:Int) (zaw:Bool) (dt1:Tab),zpM K X0 w zbf zaw dt1→X1 [] (zgZ w zbf zaw dt1))→(∀ (y:step) (rest:List (List PA)) (zbf:Int) (zaw:Bool) (dt1:Tab),zpN K X0 X1 y rest w zbf zaw dt1→X1 ([.agg (zad y)] :: rest) (zgZ w zbf zaw dt1))→X1 ((zik w).map fun y=>[.agg (zad y)]) (zgZ w zbf zaw dt1)) :
  zk7 K X0 w zbf zaw dt1:=by
  have e:zk7 K X0 w zbf zaw dt1=((IsE zai 4 4 (fun i=>zai (w.Net.Ties.get i))∧((false,1,false,[none]):MQ)=(false,1,false,[none])∧(zmi w=true))∧∀ X:List (List PA)→St→Prop,(∀ s,(zak 2 (sqK Tryd.prog G88 zcT (cdF Tryd.f88 [1,1,0,1,0,0,1,1,0,0,1,1]) (zak 1 (sqK Tryd.prog G88 zcT (cdF Tryd.f88 [1,1,0,1,0,0,1,1,1]) (zbo Tryd.prog zcT 3 X0 (zak 0 (sqK Tryd.prog G88 zcT (cdF Tryd.f88 [1,1,1]) (zbn Tryd.prog Tryd.f88 K)))))))) .normal s→X [] s)→(∀ y rest s,zvL Tryd.prog G88 zcT 6 [16] (cd (cdF Tryd.f88 [1,1,0,1,0,0,1,1,0,0,1,0,1,0]) [0]) (cd (cdF Tryd.f88 [1,1,0,1,0,0,1,1,0,0,1,0,1,0]) [1]) X (zak 2 (sqK Tryd.prog G88 zcT (cdF Tryd.f88 [1,1,0,1,0,0,1,1,0,0,1,1]) (zak 1 (sqK Tryd.prog G88 zcT (cdF Tryd.f88 [1,1,0,1,0,0,1,1,1]) (zbo Tryd.prog zcT 3 X0 (zak 0 (sqK Tryd.prog G88 zcT (cdF Tryd.f88 [1,1,1]) (zbn Tryd.prog Tryd.f88 K)))))))) y rest s→X (y :: rest) s)→X ((zik w).map fun y=>[.agg (zad y)]) (zgZ w zbf zaw dt1)):=by kernel_rfl
  refine zbm e ⟨hsafe,?_⟩
  intro X h0 h1
  refine h X (fun zbf zaw dt1 hs=>h0 _ ?_) (fun y rest zbf zaw dt1 hs=>h1 _ rest _ ?_)
  · rw [zrm K X0 w zbf zaw dt1];exact hs
  · have e2 := zrn K X0 X y rest w zbf zaw dt1
    rw [e2];exact hs
abbrev e88 (r:Bool):List PA:=[.one (.bool r)]
attribute [irreducible] zk6 zk7
def ziD (S0:Int→Tab→Bool) (w:web) (zbf:Int) (zaw:Bool) (dt1:Tab):Bool :=
  (cond (!zaw)
 false
 (S0 (w64 (zbf+(1:Int))) dt1))
def ziE (P0:Int→Tab→Bool) (w:web) (zbf:Int) (zaw:Bool) (dt1:Tab):Bool :=
  (cond (!zaw)
 true
 (P0 (w64 (zbf+(1:Int))) dt1))
def zk8 (S0:Int→Tab→Bool) (w:web) (y1:step) (S1:Int→Bool→Tab→Bool) (zbf:Int) (zaw:Bool) (dt1:Tab):Bool :=
  (cond (decide ((w64 ((tg 40 dt1 (0 + y1.from_.toNat * 1 + 0)) + y1.length)) < (tg 40 dt1 (0 + y1.to.toNat * 1 + 0))))
 (S1 zbf true (ts 40 dt1 (0+y1.to.toNat * 1+0) [(w64 ((tg 40 dt1 (0+y1.from_.toNat * 1+0))+y1.length))]))
 (S1 zbf zaw dt1))
def zk9 (P0:Int→Tab→Bool) (w:web) (y1:step) (P1:Int→Bool→Tab→Bool) (zbf:Int) (zaw:Bool) (dt1:Tab):Bool :=
  (decide ((0≤y1.from_∧y1.from_ < (40:Int))) &&
 (decide ((0≤y1.to∧y1.to < (40:Int))) &&
 (cond (decide ((w64 ((tg 40 dt1 (0 + y1.from_.toNat * 1 + 0)) + y1.length)) < (tg 40 dt1 (0 + y1.to.toNat * 1 + 0))))
 (decide ((0≤y1.to∧y1.to < (40:Int))) &&
 (P1 zbf true (ts 40 dt1 (0+y1.to.toNat * 1+0) [(w64 ((tg 40 dt1 (0+y1.from_.toNat * 1+0))+y1.length))])))
 (P1 zbf zaw dt1))))
def zd3 (S0 : Int → Tab → Bool) (w : web) : List step → Int → Bool → Tab → Bool
  | []=>ziD S0 w
  | y :: r=>zk8 S0 w y (zd3 S0 w r)
def zd4 (P0 : Int → Tab → Bool) (w : web) : List step → Int → Bool → Tab → Bool
  | []=>ziE P0 w
  | y :: r=>zk9 P0 w y (zd4 P0 w r)
def zro (S0:Int→Tab→Bool) (w:web) (zbf:Int) (zaw:Bool) (dt1:Tab):Bool:=zd3 S0 w (zik w) zbf zaw dt1
def znW (P0:Int→Tab→Bool) (w:web) (zbf:Int) (zaw:Bool) (dt1:Tab):Bool:=decide ((zmi w=true)) && zd4 P0 w (zik w) zbf zaw dt1
theorem zEx (K : List PA → Prop) (w : web)
  (X0:St→Prop) (P0:Int→Tab→Bool) (S0:Int→Tab→Bool)
  (hX0:∀ (zbs:Int) (dt0:Tab),P0 zbs dt0=true→K (e88 (S0 zbs dt0))→X0 (zjv w zbs dt0)) (zbf:Int) (zaw:Bool) (dt1:Tab) (hs:znW P0 w zbf zaw dt1=true) (hk:K (e88 (zro S0 w zbf zaw dt1))):zk7 K X0 w zbf zaw dt1:=by
  unfold znW at hs
  rw [Bool.and_eq_true] at hs
  obtain ⟨hsf,hs⟩:=hs
  have hc:=of_decide_eq_true hsf
  refine zxx K X0 w zbf zaw dt1 ⟨isE,rfl,hc⟩ ?_
  intro X1 hexit hstep
  have key:∀ (l:List step) (zbf:Int) (zaw:Bool) (dt1:Tab),zd4 P0 w l zbf zaw dt1=true→K (e88 (zd3 S0 w l zbf zaw dt1))→X1 (l.map fun y=>[.agg (zad y)]) (zgZ w zbf zaw dt1):=by
    intro l
    induction l with
    | nil =>
      intro zbf zaw dt1 hs hk
      refine hexit zbf zaw dt1 ?_
      have hs:ziE P0 w zbf zaw dt1=true:=hs
      have hk:K (e88 (ziD S0 w zbf zaw dt1)):=hk
      unfold ziE at hs
      unfold ziD at hk
      exact (za0 (K := fun r => K (e88 r))
 (fun hs hk=>hk)
 (fun hs hk=>(hX0 (w64 (zbf+(1:Int))) dt1 hs hk)) hs hk)
    | cons y1 l ih =>
      intro zbf zaw dt1 hs hk
      refine hstep y1 _ zbf zaw dt1 ?_
      have hs:zk9 P0 w y1 (zd4 P0 w l) zbf zaw dt1=true:=hs
      have hk:K (e88 (zk8 S0 w y1 (zd3 S0 w l) zbf zaw dt1)):=hk
      unfold zk9 at hs
      unfold zk8 at hk
      generalize zd3 S0 w l=S1 at hk ih
      generalize zd4 P0 w l=P1 at hs ih
      have hX1:=ih
      exact (za4 hs fun hc hs => ⟨hc, (za4 hs fun hc hs => ⟨hc, (za0 (K := fun r => K (e88 r))
 (fun hs hk=>(za4 hs fun hc hs=>⟨hc,(hX1 zbf true (ts 40 dt1 (0+y1.to.toNat * 1+0) [(w64 ((tg 40 dt1 (0+y1.from_.toNat * 1+0))+y1.length))]) hs hk)⟩))
 (fun hs hk=>(hX1 zbf zaw dt1 hs hk)) hs hk)⟩)⟩)
  exact key _ zbf zaw dt1 hs hk
def zhd (w:web) (S0:Int→Tab→Bool) (zbs:Int) (dt0:Tab):Bool :=
  (cond (decide (zbs < w.Net.Nodes))
 (zro S0 w zbs false dt0)
 true)
def zhe (w:web) (P0:Int→Tab→Bool) (zbs:Int) (dt0:Tab):Bool :=
  (cond (decide (zbs < w.Net.Nodes))
 (znW P0 w zbs false dt0)
 true)
def zfm (w : web) : Nat → Int → Tab → Bool
  | 0=>fun _ _=>default
  | k+1=>zhd w (zfm w k)
def zfn (w : web) : Nat → Int → Tab → Bool
  | 0=>fun _ _=>false
  | k+1=>zhe w (zfn w k)
def zxy (w:web) (zbs:Int) (dt0:Tab):Bool:=zfm w Fuel zbs dt0
def zxz (w:web) (zbs:Int) (dt0:Tab):Bool:=zfn w Fuel zbs dt0
theorem zEy (K:List PA→Prop) (w:web) (zbs:Int) (dt0:Tab) (hs:zxz w zbs dt0=true) (hk:K (e88 (zxy w zbs dt0))):zk6 K w zbs dt0:=by
  refine zxw K w zbs dt0 ?_
  intro X0 hstep
  have key:∀ (k:Nat) (zbs:Int) (dt0:Tab),zfn w k zbs dt0=true→K (e88 (zfm w k zbs dt0))→X0 (zjv w zbs dt0):=by
    intro k
    induction k with
    | zero=>intro zbs dt0 hs;exact absurd hs Bool.false_ne_true
    | succ k ih =>
      intro zbs dt0 hs hk
      refine hstep zbs dt0 ?_
      have hs:zhe w (zfn w k) zbs dt0=true:=hs
      have hk:K (e88 (zhd w (zfm w k) zbs dt0)):=hk
      unfold zhe at hs
      unfold zhd at hk
      generalize zfm w k=S0 at hk ih
      generalize zfn w k=P0 at hs ih
      have hX0:=ih
      exact (za0 (K := fun r => K (e88 r))
 (fun hs hk=>⟨⟨isE,rfl⟩,(zEx K w X0 P0 S0 hX0 zbs false dt0 hs hk)⟩)
 (fun hs hk=>hk) hs hk)
  exact key _ zbs dt0 hs hk
def s88 (w:web):Bool :=
  (zxy w (0:Int) (fun _=>(0:Int)))
def p88 (w:web):Bool :=
  (zxz w (0:Int) (fun _=>(0:Int)))
theorem q88 (w:web) (K:List PA→Prop) (hs:p88 w=true) (hk:K (e88 (s88 w))):vcFun Tryd.prog G88 zcT 88 [.one (.fp (zaC w) 0)] K:=by
  refine zbm (zEw w K) ?_
  unfold p88 at hs
  unfold s88 at hk
  exact (zEy K w (0:Int) (fun _=>(0:Int)) hs hk)
def zxA : List PA → COut
  | [.one (.fp [.int .i64 zar,.sl zal zaO zam,.fm zbJ zaS zaT] 0)]=>.det (IsE zai 4 zaO zam∧zbJ=(false,1,false,[none])∧p88 (⟨(⟨zar,(⟨zal,zat zam⟩:(Sl Tie))⟩:Net),(⟨zaS,zaT⟩:Mp)⟩:web)=true) [.one (.bool (s88 (⟨(⟨zar,(⟨zal,zat zam⟩:(Sl Tie))⟩:Net),(⟨zaS,zaT⟩:Mp)⟩:web)))]
  | _=>.no
theorem zIv:zay Tryd.prog 88:=⟨_,rfl,rfl,by kernel_rfl⟩
theorem zKH:Ok Tryd.prog 88 zxA:=zbY zKG zIv fun args K h=>by
  unfold zxA at h
  split at h
  · rename_i zar zal zaO zam zbJ zaS zaT
    obtain ⟨⟨⟨rfl,zaB,rfl⟩,rfl,hs⟩,hk⟩:=h
    try rw [zav zaB] at hs
    try rw [zav zaB] at hk
    exact ⟨(fun _ _=>[]),(fun _=>false),zcT,q88 (⟨(⟨zar,(⟨zal,zaB⟩:(Sl Tie))⟩:Net),(⟨zaS,zaT⟩:Mp)⟩:web) K hs hk⟩
  · exact h.elim
abbrev T74:Tabs:=(((Tabs.nil.addF 67 zrk).addF 81 zrh).addF 88 zxA)
theorem zKI:TabsOk Tryd.prog T74:=(((TabsOk.nil.addF zIn).addF zIk).addF zKH)
abbrev G74:Ctrs:=csm T74 (fun _ _=>[]) (fun _=>false)
def zBN:Ann:=⟨31,[(0,zK [1,2] [2]),(1,zK [1,2,6] [2,11]),(2,zK [1,2,6,14] [2,11]),(3,zK [4,5] []),(4,zK [2,6,15,16,17] [2,11]),(5,zK [2,6,15,16,17,18] [2,11]),(6,zK [2,6,8,15,16,17] [2,11]),(7,zK [2,6,15,16,17,26] [2,11]),(8,zK [4,5] []),(9,zK [2,6,15,16,17] [2,11]),(10,zK [6,29] [11]),(11,zK [4,5] []),(12,zK [4,5] [11])],
 [(5,zK [2,6,15,16,17] [2,11])],
 [(3,zK [1,2,6,14] [2,11]),(4,zK [1,2,6] [2,11]),(8,zK [2,6,15,16,17,26] [2,11]),(11,zK [6,29] [11])],
 [],[]⟩
abbrev R74:=(web×Int)
abbrev e74 (r:R74):List PA:=cond (r.2 == 0) [.one (.fp (zaC r.1) 0),.one (.int .i64 (0:Int))] [.one (.nilp),.one (.int .i64 r.2)]
@[irreducible] def z74:=ptF Tryd.prog G74 zBN Tryd.f74
def zC0 (n:Net) (nodes:(Sl Int)) (zdP:Int):St:=⟨[(2,zp 2 0),(6,zp 11 0),(15,zS enc_3 1 nodes),(16,zI (nodes.len:Int)),(17,zI zdP)],[(2,.box 24 (zm (zb5 n))),(11,.box 105 (zm (zaC (⟨n,(⟨0,(fun _=>none)⟩:Mp)⟩:web))))],[]⟩
abbrev zEz (K:List PA→Prop) (n:Net) (nodes:(Sl Int)) (X:St→Prop) (P:Int→Bool) (S:Int→(web×Int)):Prop:=∀ ⦃zdP:Int⦄,P zdP=true→K (e74 (S zdP))→X (zC0 n nodes zdP)
section
variable {K:List PA→Prop} {n:Net} {nodes:(Sl Int)} {zrp:Bool} {zdP:Int} {X2:St→Prop} {P2:Int→Bool} {S2:Int→(web×Int)} {zrq:Int} {zrr:Bool} {zBO:Bool}
def zrt (n:Net) (zBO:Bool):(web×Int) :=
  (cond zBO
 ((default:web),(5:Int))
 ((⟨n,(⟨0,(fun _=>none)⟩:Mp)⟩:web),(0:Int)))
theorem zEA (hk:K (e74 (zrt n zBO))):z74 K [1,1,1,1,0,1] [] ⟨[(6,zp 11 0),(29,zB zBO)],[(11,.box 105 (zm (zaC (⟨n,(⟨0,(fun _=>none)⟩:Mp)⟩:web))))],[]⟩:=zbm (by kernel_rfl) (zt hk (fun hk=>hk) (fun hk=>hk))
def zru (S2:Int→(web×Int)) (n:Net) (nodes:(Sl Int)) (zrq:Int) (zrr:Bool):(web×Int) :=
  (cond zrr
 ((default:web),(2:Int))
 (S2 (w64 (zrq+(1:Int)))))
def zrv (P2:Int→Bool) (n:Net) (nodes:(Sl Int)) (zrq:Int) (zrr:Bool):Bool :=
  (cond zrr
 true
 (P2 (w64 (zrq+(1:Int)))))
theorem zEB (hX2:zEz K n nodes X2 P2 S2) (hs:zrv P2 n nodes zrq zrr=true) (hk:K (e74 (zru S2 n nodes zrq zrr))):z74 K [1,1,1,0,1,0,0,1,1,0,0,1,1] [X2] ⟨[(2,zp 2 0),(6,zp 11 0),(15,zS enc_3 1 nodes),(16,zI (nodes.len:Int)),(17,zI zrq),(26,zB zrr)],[(2,.box 24 (zm (zb5 n))),(11,.box 105 (zm (zaC (⟨n,(⟨0,(fun _=>none)⟩:Mp)⟩:web))))],[]⟩:=zbm (by kernel_rfl) (zc hs hk (fun hs hk=>hk) (fun hs hk=>(hX2 hs hk)))
def ziF (n:Net) (nodes:(Sl Int)) (S2:Int→(web×Int)) (zdP:Int):(web×Int) :=
  (cond (decide (zdP < (nodes.len : Int)))
 (zru S2 n nodes zdP (!(s81 (nodes.get zdP.toNat) (0:Int) (w64 (n.Nodes - (1:Int))))))
 (zrt n (s88 (⟨n,(⟨0,(fun _=>none)⟩:Mp)⟩:web))))
def ziG (n:Net) (nodes:(Sl Int)) (P2:Int→Bool) (zdP:Int):Bool :=
  (cond (decide (zdP < (nodes.len : Int)))
 (decide ((0≤zdP∧zdP < (nodes.len:Int))) &&
 (zrv P2 n nodes zdP (!(s81 (nodes.get zdP.toNat) (0:Int) (w64 (n.Nodes - (1:Int)))))))
 (decide ((p88 (⟨n,(⟨0,(fun _=>none)⟩:Mp)⟩:web)=true)) &&
 true))
def ziH (n:Net) (nodes:(Sl Int)):Nat→Int→(web×Int):=lpO (fun _=>default) (ziF n nodes)
def ziI (n:Net) (nodes:(Sl Int)):Nat→Int→Bool:=lpO (fun _=>false) (ziG n nodes)
def zrx (n:Net) (nodes:(Sl Int)) (zdP:Int):(web×Int):=ziH n nodes Fuel zdP
def zry (n:Net) (nodes:(Sl Int)) (zdP:Int):Bool:=ziI n nodes Fuel zdP
theorem zEC (hs:zry n nodes zdP=true) (hk:K (e74 (zrx n nodes zdP))):z74 K [1,1,1,0,1,0] [] (zC0 n nodes zdP) :=
  zl (fun X=>z74 K [1,1,1,0,1,0,0] [X]) (by kernel_rfl) fun X2 hX =>
  (show ∀ k, zEz K n nodes X2 (ziI n nodes k) (ziH n nodes k) from zjK _ _ (ziG n nodes) (ziF n nodes) (zEz K n nodes X2)
 (by intro _ hs;exact absurd hs Bool.false_ne_true)
 (by intro P2 S2 hX2 zdP hs hk;exact hX _ (zbm (by kernel_rfl) (zc hs hk (fun hs hk=>(za4 hs fun hc hs=>And.intro hc (zEB hX2 hs hk))) (fun hs hk=>(za4 hs fun hc hs=>And.intro (And.intro (zE zai 4 n.Ties.get) (And.intro (rfl:((false,1,false,[none]):MQ)=(false,1,false,[none])) hc)) (zEA hk))))))) _ hs hk
def zrz (n:Net) (nodes:(Sl Int)):(web×Int) :=
  (zrx n nodes (0:Int))
def zrA (n:Net) (nodes:(Sl Int)):Bool :=
  (zry n nodes (0:Int))
theorem zED (hs:zrA n nodes=true) (hk:K (e74 (zrz n nodes))):z74 K [1,1,1] [] ⟨[(1,zS enc_3 1 nodes),(2,zp 2 0),(6,zp 11 0)],[(2,.box 24 (zm (zb5 n))),(11,.box 105 (zm (zaC (⟨n,(⟨0,(fun _=>none)⟩:Mp)⟩:web))))],[]⟩:=zbm (by kernel_rfl) (zEC hs hk)
def zrB (n:Net) (nodes:(Sl Int)) (zrp:Bool):(web×Int) :=
  (cond zrp
 ((default:web),(2:Int))
 (zrz n nodes))
def zrC (n:Net) (nodes:(Sl Int)) (zrp:Bool):Bool :=
  (cond zrp
 true
 (zrA n nodes))
theorem zEE (hs:zrC n nodes zrp=true) (hk:K (e74 (zrB n nodes zrp))):z74 K [1,1,0,1] [] ⟨[(1,zS enc_3 1 nodes),(2,zp 2 0),(6,zp 11 0),(14,zB zrp)],[(2,.box 24 (zm (zb5 n))),(11,.box 105 (zm (zaC (⟨n,(⟨0,(fun _=>none)⟩:Mp)⟩:web))))],[]⟩:=zbm (by kernel_rfl) (zc hs hk (fun hs hk=>hk) (fun hs hk=>(zED hs hk)))
def s74 (n:Net) (nodes:(Sl Int)):(web×Int) :=
  (zrB n nodes (!(s67 n)))
def p74 (n:Net) (nodes:(Sl Int)):Bool :=
  (decide ((p67 n=true)) &&
 (zrC n nodes (!(s67 n))))
end
theorem q74 (n:Net) (nodes:(Sl Int)) (K:List PA→Prop) (hs:p74 n nodes=true) (hk:K (e74 (s74 n nodes))):vcFun Tryd.prog G74 zBN 74 [.agg (zb5 n),.one (.sl nodes.len 1 (fun i=>enc_3 (nodes.get i)))] K :=
  zbm (by kernel_rfl) (za4 hs fun hc hs=>And.intro (And.intro (zE zai 4 n.Ties.get) hc) (zEE hs hk))
def zxB : List PA → COut
  | [.agg [.int .i64 zan,.sl zaj zaR zah],.one (.sl zc1 zfK zcZ)]=>.alt ((s74 (⟨zan,(⟨zaj,zat zah⟩:(Sl Tie))⟩:Net) (⟨zc1,zax zcZ⟩:(Sl Int))).2 == 0) (IsE zai 4 zaR zah∧IsE enc_3 1 zfK zcZ∧p74 (⟨zan,(⟨zaj,zat zah⟩:(Sl Tie))⟩:Net) (⟨zc1,zax zcZ⟩:(Sl Int))=true) [.one (.fp (zaC (⟨(s74 (⟨zan,(⟨zaj,zat zah⟩:(Sl Tie))⟩:Net) (⟨zc1,zax zcZ⟩:(Sl Int))).1.Net,((s74 (⟨zan,(⟨zaj,zat zah⟩:(Sl Tie))⟩:Net) (⟨zc1,zax zcZ⟩:(Sl Int))).1.out)⟩:web)) 0),.one (.int .i64 (0:Int))] (IsE zai 4 zaR zah∧IsE enc_3 1 zfK zcZ∧p74 (⟨zan,(⟨zaj,zat zah⟩:(Sl Tie))⟩:Net) (⟨zc1,zax zcZ⟩:(Sl Int))=true) [.one (.nilp),.one (.int .i64 ((s74 (⟨zan,(⟨zaj,zat zah⟩:(Sl Tie))⟩:Net) (⟨zc1,zax zcZ⟩:(Sl Int))).2))]
  | [.agg [.int .i64 zan,.sl zaj zaR zah],.one (.nils)]=>.alt ((s74 (⟨zan,(⟨zaj,zat zah⟩:(Sl Tie))⟩:Net) (⟨0,fun _=>default⟩:(Sl Int))).2 == 0) (IsE zai 4 zaR zah∧p74 (⟨zan,(⟨zaj,zat zah⟩:(Sl Tie))⟩:Net) (⟨0,fun _=>default⟩:(Sl Int))=true) [.one (.fp (zaC (⟨(s74 (⟨zan,(⟨zaj,zat zah⟩:(Sl Tie))⟩:Net) (⟨0,fun _=>default⟩:(Sl Int))).1.Net,((s74 (⟨zan,(⟨zaj,zat zah⟩:(Sl Tie))⟩:Net) (⟨0,fun _=>default⟩:(Sl Int))).1.out)⟩:web)) 0),.one (.int .i64 (0:Int))] (IsE zai 4 zaR zah∧p74 (⟨zan,(⟨zaj,zat zah⟩:(Sl Tie))⟩:Net) (⟨0,fun _=>default⟩:(Sl Int))=true) [.one (.nilp),.one (.int .i64 ((s74 (⟨zan,(⟨zaj,zat zah⟩:(Sl Tie))⟩:Net) (⟨0,fun _=>default⟩:(Sl Int))).2))]
  | _=>.no
theorem zIw:zay Tryd.prog 74:=⟨_,rfl,rfl,by kernel_rfl⟩
theorem zKJ:Ok Tryd.prog 74 zxB:=zhc zKI zIw fun args K h=>by
  unfold zxB at h
  split at h
  · rename_i zan zaj zaR zah zc1 zfK zcZ
    have h:=zH8 h
    obtain ⟨⟨⟨rfl,zaH,rfl⟩,⟨rfl,zd5,rfl⟩,hs⟩,hk⟩:=h
    try rw [zav zaH] at hs
    try rw [zav zaH] at hk
    try rw [zbe zd5] at hs
    try rw [zbe zd5] at hk
    exact ⟨_,zfy zfW _,(fun _ _=>[]),(fun _=>false),zBN,q74 (⟨zan,(⟨zaj,zaH⟩:(Sl Tie))⟩:Net) (⟨zc1,zd5⟩:(Sl Int)) (Wk K) hs (zfX hk)⟩
  · rename_i zan zaj zaR zah
    have h:=zH8 h
    obtain ⟨⟨⟨rfl,zaH,rfl⟩,hs⟩,hk⟩:=h
    try rw [zav zaH] at hs
    try rw [zav zaH] at hk
    exact ⟨_,(ze2 (zfW _) (ze2 (.one (.nil _ _)) zmh)),(fun _ _=>[]),(fun _=>false),zBN,q74 (⟨zan,(⟨zaj,zaH⟩:(Sl Tie))⟩:Net) (⟨0,fun _=>default⟩:(Sl Int)) (Wk K) hs (zfX hk)⟩
  · exact h.elim
abbrev zLS:Tabs:=Tabs.nil
theorem zIx:TabsOk Tryd.prog zLS:=TabsOk.nil
abbrev zMh:Ctrs:=csm zLS (fun _ _=>[]) (fun _=>false)
def zC1:Ann:=⟨24,[(0,zK [2,3] [2,3]),(1,zK [4] [])],
 [],
 [],
 [],[]⟩
abbrev zMi:=Bool
abbrev zMj (r:zMi):List PA:=[.one (.bool r)]
section
variable {K:List PA→Prop} {a:far} {b:far}
def zBP (a:far) (b:far):Bool :=
  (cond (decide (a.length < b.length))
 true
 (cond (a.length == b.length)
 (decide (a.uses < b.uses))
 false))
end
theorem zMk (a:far) (b:far) (K:List PA→Prop) (hk:K (zMj (zBP a b))):vcFun Tryd.prog zMh zC1 105 [.agg (zcv a),.agg (zcv b)] K :=
  zbm (by kernel_rfl) (zt hk (fun hk=>hk) (fun hk=>(zt hk (fun hk=>hk) (fun hk=>hk))))
def zxC : List PA → COut
  | [.agg [.int .i64 zcz,.int .i64 zrD],.agg [.int .i64 zce,.int .i64 zfo]]=>.tot [.one (.bool (zBP (⟨zcz,zrD⟩:far) (⟨zce,zfo⟩:far)))]
  | _=>.no
theorem zEF:zay Tryd.prog 105:=⟨_,rfl,rfl,by kernel_rfl⟩
theorem zKK:Ok Tryd.prog 105 zxC:=zbY zIx zEF fun args K h=>by
  unfold zxC at h
  split at h
  · rename_i zcz zrD zce zfo
    have hk:=h
    exact ⟨(fun _ _=>[]),(fun _=>false),zC1,zMk (⟨zcz,zrD⟩:far) (⟨zce,zfo⟩:far) K hk⟩
  · exact h.elim
abbrev zLT:Tabs:=(Tabs.nil.addF 105 zxC)
theorem zIy:TabsOk Tryd.prog zLT:=(TabsOk.nil.addF zKK)
abbrev zLU:Ctrs:=csm zLT (fun _ _=>[]) (fun _=>false)
def zxD:Ann:=⟨22,[(0,zK [0,2,4,6] [4,6]),(1,zK [0,4,6,9,10,11] [4,6]),(2,zK [0,4,6,9,10,11,12] [4,6]),(3,zK [0,4,6,8,9,10,11] [4,6,8]),(4,zK [0,4,6,8,9,10,11,18] [4,6,8]),(5,zK [0,4,6,9,10,11] [4,6]),(6,zK [0,4,6,9,10,11] [4,6]),(7,zK [6] [6])],
 [(2,zK [0,4,6,9,10,11] [4,6])],
 [(5,zK [0,4,6,8,9,10,11,18] [4,6,8])],
 [],[]⟩
abbrev zMl:=far
abbrev zKh (r:zMl):List PA:=[.agg [.int .i64 r.length,.int .i64 r.uses]]
@[irreducible] def z104:=ptF Tryd.prog zLU zxD Tryd.f104
def zxE (others:(Sl far)) (za3:Int) (zbx:Int) (zby:Int):St:=⟨[(0,zP (.fn 105 [] [])),(4,zp 4 0),(6,zp 6 0),(9,zS zcv 2 others),(10,zI (others.len:Int)),(11,zI za3)],[(4,.box 114 (zm (zcv (⟨zbx,zby⟩:far)))),(6,.box 114 (zm (zcv (⟨(0:Int),(0:Int)⟩:far))))],[]⟩
abbrev zxF (K:List PA→Prop) (others:(Sl far)) (X:St→Prop) (P:Int→Int→Int→Bool) (S:Int→Int→Int→far):Prop:=∀ ⦃za3:Int⦄ ⦃zbx:Int⦄ ⦃zby:Int⦄,P za3 zbx zby=true→K (zKh (S za3 zbx zby))→X (zxE others za3 zbx zby)
section
variable {K:List PA→Prop} {first:far} {others:(Sl far)} {za3:Int} {zbx:Int} {zby:Int} {X0:St→Prop} {P0:Int→Int→Int→Bool} {S0:Int→Int→Int→far} {zc0:Int} {zau:Bool} {zd6:Int} {zd7:Int} {zrE:Int} {zrF:Int}
def znX (S0:Int→Int→Int→far) (others:(Sl far)) (zc0:Int) (zau:Bool) (zd6:Int) (zd7:Int) (zrE:Int) (zrF:Int):far :=
  (cond zau
 (S0 (w64 (zc0+(1:Int))) zrE zrF)
 (S0 (w64 (zc0+(1:Int))) zd6 zd7))
def znY (P0:Int→Int→Int→Bool) (others:(Sl far)) (zc0:Int) (zau:Bool) (zd6:Int) (zd7:Int) (zrE:Int) (zrF:Int):Bool :=
  (cond zau
 (P0 (w64 (zc0+(1:Int))) zrE zrF)
 (P0 (w64 (zc0+(1:Int))) zd6 zd7))
theorem zBQ (hX0:zxF K others X0 P0 S0) (hs:znY P0 others zc0 zau zd6 zd7 zrE zrF=true) (hk:K (zKh (znX S0 others zc0 zau zd6 zd7 zrE zrF))):z104 K [1,0,1,0,0,1,1,0,0,1,1] [X0] ⟨[(0,zP (.fn 105 [] [])),(4,zp 4 0),(6,zp 6 0),(8,zp 8 0),(9,zS zcv 2 others),(10,zI (others.len:Int)),(11,zI zc0),(18,zB zau)],[(4,.box 114 (zm (zcv (⟨zd6,zd7⟩:far)))),(6,.box 114 (zm (zcv (⟨(0:Int),(0:Int)⟩:far)))),(8,.box 114 (zm (zcv (⟨zrE,zrF⟩:far))))],[]⟩:=zbm (by kernel_rfl) (zc hs hk (fun hs hk=>(hX0 hs hk)) (fun hs hk=>(hX0 hs hk)))
def zgy (others:(Sl far)) (S0:Int→Int→Int→far) (za3:Int) (zbx:Int) (zby:Int):far :=
  (cond (decide (za3 < (others.len : Int)))
 (znX S0 others za3 (zBP (others.get za3.toNat) (⟨zbx,zby⟩:far)) zbx zby ((others.get za3.toNat).length) ((others.get za3.toNat).uses))
 (⟨zbx,zby⟩:far))
def zgz (others:(Sl far)) (P0:Int→Int→Int→Bool) (za3:Int) (zbx:Int) (zby:Int):Bool :=
  (cond (decide (za3 < (others.len : Int)))
 (decide ((0≤za3∧za3 < (others.len:Int))) &&
 (znY P0 others za3 (zBP (others.get za3.toNat) (⟨zbx,zby⟩:far)) zbx zby ((others.get za3.toNat).length) ((others.get za3.toNat).uses)))
 true)
def zgA (others:(Sl far)):Nat→Int→Int→Int→far:=lpO (fun _ _ _=>default) (zgy others)
def zgB (others:(Sl far)):Nat→Int→Int→Int→Bool:=lpO (fun _ _ _=>false) (zgz others)
def znZ (others:(Sl far)) (za3:Int) (zbx:Int) (zby:Int):far:=zgA others Fuel za3 zbx zby
def zn0 (others:(Sl far)) (za3:Int) (zbx:Int) (zby:Int):Bool:=zgB others Fuel za3 zbx zby
theorem zBR (hs:zn0 others za3 zbx zby=true) (hk:K (zKh (znZ others za3 zbx zby))):z104 K [1,0,1,0] [] (zxE others za3 zbx zby) :=
  zl (fun X=>z104 K [1,0,1,0,0] [X]) (by kernel_rfl) fun X0 hX =>
  (show ∀ k, zxF K others X0 (zgB others k) (zgA others k) from zjK _ _ (zgz others) (zgy others) (zxF K others X0)
 (by intro _ _ _ hs;exact absurd hs Bool.false_ne_true)
 (by intro P0 S0 hX0 za3 zbx zby hs hk;exact hX _ (zbm (by kernel_rfl) (zc hs hk (fun hs hk=>(za4 hs fun hc hs=>And.intro hc (zBQ hX0 hs hk))) (fun hs hk=>hk))))) _ hs hk
def zcb (first:far) (others:(Sl far)):far :=
  (znZ others (0:Int) first.length first.uses)
def zvM (first:far) (others:(Sl far)):Bool :=
  (zn0 others (0:Int) first.length first.uses)
end
theorem zMm (first:far) (others:(Sl far)) (K:List PA→Prop) (hs:zvM first others=true) (hk:K (zKh (zcb first others))):vcFun Tryd.prog zLU zxD 104 [.one (.fn 105 [] []),.agg (zcv first),.one (.sl others.len 2 (fun i=>zcv (others.get i)))] K :=
  zbm (by kernel_rfl) (zBR hs hk)
def zpO : List PA → COut
  | [.one (.fn 105 [] []),.agg [.int .i64 zce,.int .i64 zfo],.one (.sl zIz zLV zIA)]=>.det (IsE zcv 2 zLV zIA∧zvM (⟨zce,zfo⟩:far) (⟨zIz,zj0 zIA⟩:(Sl far))=true) [.agg [.int .i64 ((zcb (⟨zce,zfo⟩:far) (⟨zIz,zj0 zIA⟩:(Sl far))).length),.int .i64 ((zcb (⟨zce,zfo⟩:far) (⟨zIz,zj0 zIA⟩:(Sl far))).uses)]]
  | _=>.no
theorem zEG:zay Tryd.prog 104:=⟨_,rfl,rfl,by kernel_rfl⟩
theorem zEH:Ok Tryd.prog 104 zpO:=zbY zIy zEG fun args K h=>by
  unfold zpO at h
  split at h
  · rename_i zce zfo zIz zLV zIA
    obtain ⟨⟨⟨rfl,zKL,rfl⟩,hs⟩,hk⟩:=h
    try rw [zjs zKL] at hs
    try rw [zjs zKL] at hk
    exact ⟨(fun _ _=>[]),(fun _=>false),zxD,zMm (⟨zce,zfo⟩:far) (⟨zIz,zKL⟩:(Sl far)) K hs hk⟩
  · exact h.elim
abbrev T75:Tabs:=(((Tabs.nil.addF 93 zpI).addF 104 zpO).addI 110 zpK)
theorem zKM:TabsOk Tryd.prog T75:=(((TabsOk.nil.addF zHq).addF zEH).addI zvt)
abbrev G75:Ctrs:=csm T75 (fun _ _=>[]) (fun _=>false)
def zcA:Ann:=⟨66,[(0,zK [0,1,4] [4]),(1,zK [0,1,4,5] [4,5]),(2,zK [0,1,4,5,10] [4,5]),(3,zK [0,1,4,5,10,11] [4,5]),(4,zK [0,1,4,5,6,10] [4,5]),(5,zK [0,1,4,5,10] [4,5]),(6,zK [0,1,4,5,10] [4,5]),(7,zK [0,4,5] [4,5]),(8,zK [0,4,5,7] [4,5,7]),(9,zK [0,4,5,7,20] [4,5,7]),(10,zK [0,4,5,7] [4,5,7]),(11,zK [0,4,5,7,22] [4,5,7]),(12,zK [0,4,5,7,8,22] [4,5,7,8]),(13,zK [0,4,5,7,8,22,29] [4,5,7,8]),(14,zK [0,4,5,7,8,9,22] [4,5,7,8,9]),(15,zK [0,4,5,7,8,9,22] [4,5,7,8,9]),(16,zK [0,4,5,7,22] [4,5,7]),(17,zK [0,4,5,64] [4,5]),(18,zK [0,4,5,7] [4,5,7]),(19,zK [4] [4])],
 [(3,zK [0,1,4,5,10] [4,5]),(9,zK [0,4,5,7] [4,5,7]),(12,zK [0,4,5,7,22] [4,5,7])],
 [(7,zK [0,1,4,5] [4,5])],
 [],[]⟩
def zla (w:web) (node:Int) (zaK:Int) (t4t0:Tab) (dt0:Tab):St:=⟨[(0,.one (.c (.p (.fp (zaC w) 0)))),(1,.one (.c (.p (.int .i64 node)))),(4,.one (.c (.ptr 4 0))),(5,.one (.c (.ptr 5 0))),(10,.one (.c (.p (.int .i64 zaK))))],[(4,.box 116 (zm (zac t4t0))),(5,.box 116 (zm (zac dt0)))],[]⟩
def zlb (K:List PA→Prop) (w:web) (node:Int) (zaK:Int) (t4t0:Tab) (dt0:Tab):Prop:=vc Tryd.prog G75 zcA (cdF Tryd.f75 [1,1,0,1,0]) (zak 0 (sqK Tryd.prog G75 zcA (cdF Tryd.f75 [1,1,1]) (zbn Tryd.prog Tryd.f75 K))) (zla w node zaK t4t0 dt0)
def zIB (w:web) (node:Int) (t4t1:Tab) (dt1:Tab):St:=⟨[(0,.one (.c (.p (.fp (zaC w) 0)))),(1,.one (.c (.p (.int .i64 node)))),(4,.one (.c (.ptr 4 0))),(5,.one (.c (.ptr 5 0)))],[(4,.box 116 (zm (zac t4t1))),(5,.box 116 (zm (zac dt1)))],[]⟩
def zn1 (K:List PA→Prop) (w:web) (node:Int) (t4t1:Tab) (dt1:Tab):Prop:=vc Tryd.prog G75 zcA (cdF Tryd.f75 [1,1,1]) (zbn Tryd.prog Tryd.f75 K) (zIB w node t4t1 dt1)
def zjw (w:web) (zaf:Bool) (t4t2:Tab) (dt2:Tab):St:=⟨[(0,.one (.c (.p (.fp (zaC w) 0)))),(4,.one (.c (.ptr 4 0))),(5,.one (.c (.ptr 5 0))),(7,.one (.c (.ptr 7 0)))],[(4,.box 116 (zm (zac t4t2))),(5,.box 116 (zm (zac dt2))),(7,.box 4 [.p (.bool zaf)])],[]⟩
def zlc (K:List PA→Prop) (w:web) (zaf:Bool) (t4t2:Tab) (dt2:Tab):Prop:=vc Tryd.prog G75 zcA (cdF Tryd.f75 [1,1,1,1,0,1,0]) (zak 2 (sqK Tryd.prog G75 zcA (cdF Tryd.f75 [1,1,1,1,1]) (zbn Tryd.prog Tryd.f75 K))) (zjw w zaf t4t2 dt2)
def zf1 (w:web) (zab:Bool) (t4t3:Tab) (dt3:Tab):St:=⟨[(0,.one (.c (.p (.fp (zaC w) 0)))),(4,.one (.c (.ptr 4 0))),(5,.one (.c (.ptr 5 0))),(7,.one (.c (.ptr 7 0))),(22,.one (.c (.p (.fn 110 [] [.fp [.fp (zaC w) 0] 0]))))],[(4,.box 116 (zm (zac t4t3))),(5,.box 116 (zm (zac dt3))),(7,.box 4 [.p (.bool zab)])],[]⟩
def zld (K:List PA→Prop) (X2:St→Prop) (w:web) (zab:Bool) (t4t3:Tab) (dt3:Tab):Prop:=vc Tryd.prog G75 zcA (cdF Tryd.f75 [1,1,1,1,0,1,0,0,1,0,0,1,1,0]) (zak 4 (zak 3 (sqK Tryd.prog G75 zcA (cdF Tryd.f75 [1,1,1,1,0,1,0,0,1,1]) (zbo Tryd.prog zcA 9 X2 (zak 2 (sqK Tryd.prog G75 zcA (cdF Tryd.f75 [1,1,1,1,1]) (zbn Tryd.prog Tryd.f75 K))))))) (zf1 w zab t4t3 dt3)
theorem zEI (w : web) (node : Int) (K : List PA → Prop) :
  vcFun Tryd.prog G75 zcA 75 [.one (.fp (zaC w) 0),.one (.int .i64 node)] K =
  (zlb K w node (0:Int) (fun _=>(0:Int)) (fun _=>(0:Int))):=by kernel_rfl
def zpP (K:List PA→Prop) (X0:St→Prop) (w:web) (node:Int) (zaK:Int) (t4t0:Tab) (dt0:Tab):Prop :=
  (zbR (decide (zaK < (40:Int)))
 (((0≤zaK∧zaK < (40:Int))) ∧
 (X0 (zla w node (w64 (zaK+(1:Int))) t4t0 (ts 80 dt0 (0+zaK.toNat * 2+0) [(1000000000000:Int),(0:Int)]))))
 (zn1 K w node t4t0 dt0))
theorem zrG (K : List PA → Prop) (X0 : St → Prop) (w : web) (node : Int) (zaK : Int) (t4t0 : Tab) (dt0 : Tab) :
  vc Tryd.prog G75 zcA (cd (cdF Tryd.f75 [1,1,0,1,0]) [0]) (zbo Tryd.prog zcA 3 X0 (zak 0 (sqK Tryd.prog G75 zcA (cdF Tryd.f75 [1,1,1]) (zbn Tryd.prog Tryd.f75 K)))) (zla w node zaK t4t0 dt0) =
  zpP K X0 w node zaK t4t0 dt0:=by kernel_rfl
theorem zxG (K : List PA → Prop) (w : web) (node : Int) (zaK : Int) (t4t0 : Tab) (dt0 : Tab)
  (h:∀ X0:St→Prop,(∀ (zaK:Int) (t4t0:Tab) (dt0:Tab),zpP K X0 w node zaK t4t0 dt0→X0 (zla w node zaK t4t0 dt0))→X0 (zla w node zaK t4t0 dt0)) :
  zlb K w node zaK t4t0 dt0:=by
  have e:zlb K w node zaK t4t0 dt0=(∀ X:St→Prop,(∀ s,vc Tryd.prog G75 zcA (cd (cdF Tryd.f75 [1,1,0,1,0]) [0]) (zbo Tryd.prog zcA 3 X (zak 0 (sqK Tryd.prog G75 zcA (cdF Tryd.f75 [1,1,1]) (zbn Tryd.prog Tryd.f75 K)))) s→X s)→X (zla w node zaK t4t0 dt0)):=by kernel_rfl
  refine zbm e ?_
  intro X hX
  refine h X ?_
  intro zaK t4t0 dt0 hs
  refine hX _ ?_
  have e2:=zrG K X w node zaK t4t0 dt0
  rw [e2]
  exact hs
theorem zEJ (K : List PA → Prop) (w : web) (node : Int) (t4t1 : Tab) (dt1 : Tab) :
  zn1 K w node t4t1 dt1 =
  (((0≤node∧node < (40:Int))) ∧
 (zlc K w true t4t1 (ts 80 dt1 (0+node.toNat * 2+0) [(0:Int),(0:Int)]))):=by kernel_rfl
def zpQ (K:List PA→Prop) (X2:St→Prop) (w:web) (zaf:Bool) (t4t2:Tab) (dt2:Tab):Prop :=
  (zbR zaf
 ((IsE zai 4 4 (fun i=>zai (w.Net.Ties.get i))∧((false,1,false,[none]):MQ)=(false,1,false,[none])) ∧
 (zld K X2 w false t4t2 dt2))
 (K [.agg (zac dt2)]))
theorem zrH (K : List PA → Prop) (X2 : St → Prop) (w : web) (zaf : Bool) (t4t2 : Tab) (dt2 : Tab) :
  vc Tryd.prog G75 zcA (cd (cdF Tryd.f75 [1,1,1,1,0,1,0]) [0]) (zbo Tryd.prog zcA 9 X2 (zak 2 (sqK Tryd.prog G75 zcA (cdF Tryd.f75 [1,1,1,1,1]) (zbn Tryd.prog Tryd.f75 K)))) (zjw w zaf t4t2 dt2) =
  zpQ K X2 w zaf t4t2 dt2:=by kernel_rfl
theorem zxH (K : List PA → Prop) (w : web) (zaf : Bool) (t4t2 : Tab) (dt2 : Tab)
  (h:∀ X2:St→Prop,(∀ (zaf:Bool) (t4t2:Tab) (dt2:Tab),zpQ K X2 w zaf t4t2 dt2→X2 (zjw w zaf t4t2 dt2))→X2 (zjw w zaf t4t2 dt2)) :
  zlc K w zaf t4t2 dt2:=by
  have e:zlc K w zaf t4t2 dt2=(∀ X:St→Prop,(∀ s,vc Tryd.prog G75 zcA (cd (cdF Tryd.f75 [1,1,1,1,0,1,0]) [0]) (zbo Tryd.prog zcA 9 X (zak 2 (sqK Tryd.prog G75 zcA (cdF Tryd.f75 [1,1,1,1,1]) (zbn Tryd.prog Tryd.f75 K)))) s→X s)→X (zjw w zaf t4t2 dt2)):=by kernel_rfl
  refine zbm e ?_
  intro X hX
  refine h X ?_
  intro zaf t4t2 dt2 hs
  refine hX _ ?_
  have e2:=zrH K X w zaf t4t2 dt2
  rw [e2]
  exact hs
def zpR (K:List PA→Prop) (X2:St→Prop) (w:web) (zab:Bool) (t4t3:Tab) (dt3:Tab):Prop :=
  (X2 (zjw w zab t4t3 dt3))
def zpS (K:List PA→Prop) (X2:St→Prop) (X3:List (List PA)→St→Prop) (y3:step) (rest3:List (List PA)) (w:web) (zab:Bool) (t4t3:Tab) (dt3:Tab):Prop :=
  (((0≤y3.to∧y3.to < (40:Int))) ∧
 (zbR (nvr (tL dt3 y3.to) (tU dt3 y3.to))
 (X3 rest3 (zf1 w zab t4t3 dt3))
 (((0≤y3.from_∧y3.from_ < (40:Int))) ∧
 (((0≤y3.to∧y3.to < (40:Int))) ∧
 (((0≤y3.to∧y3.to < (40:Int))) ∧
 ((IsE zcv 2 2 (fun _=>(zcv (⟨(w64 ((tL dt3 y3.to)+y3.length)),(w64 ((tV dt3 y3.to)+(1:Int)))⟩:far)))∧(zvM (⟨(tL dt3 y3.from_),(tU dt3 y3.from_)⟩:far) (⟨1,fun _=>(⟨(w64 ((tL dt3 y3.to)+y3.length)),(w64 ((tV dt3 y3.to)+(1:Int)))⟩:far)⟩:(Sl far))=true)) ∧
 (zbR zab
 (((0≤y3.from_∧y3.from_ < (40:Int))) ∧
 (X3 rest3 (zf1 w true t4t3 (ts 80 dt3 (0+y3.from_.toNat * 2+0) [(zcb (⟨(tL dt3 y3.from_),(tU dt3 y3.from_)⟩:far) (⟨1,fun _=>(⟨(w64 ((tL dt3 y3.to)+y3.length)),(w64 ((tV dt3 y3.to)+(1:Int)))⟩:far)⟩:(Sl far))).length,(zcb (⟨(tL dt3 y3.from_),(tU dt3 y3.from_)⟩:far) (⟨1,fun _=>(⟨(w64 ((tL dt3 y3.to)+y3.length)),(w64 ((tV dt3 y3.to)+(1:Int)))⟩:far)⟩:(Sl far))).uses]))))
 (((0≤y3.from_∧y3.from_ < (40:Int))) ∧
 (((0≤y3.from_∧y3.from_ < (40:Int))) ∧
 (X3 rest3 (zf1 w (!(match ((zcb (⟨(tL dt3 y3.from_),(tU dt3 y3.from_)⟩:far) (⟨1,fun _=>(⟨(w64 ((tL dt3 y3.to)+y3.length)),(w64 ((tV dt3 y3.to)+(1:Int)))⟩:far)⟩:(Sl far))).length == (tL dt3 y3.from_)) with | true=>(match ((zcb (⟨(tL dt3 y3.from_),(tU dt3 y3.from_)⟩:far) (⟨1,fun _=>(⟨(w64 ((tL dt3 y3.to)+y3.length)),(w64 ((tV dt3 y3.to)+(1:Int)))⟩:far)⟩:(Sl far))).uses == (tU dt3 y3.from_)) with | true=>true | false=>false) | false=>false)) t4t3 (ts 80 dt3 (0+y3.from_.toNat * 2+0) [(zcb (⟨(tL dt3 y3.from_),(tU dt3 y3.from_)⟩:far) (⟨1,fun _=>(⟨(w64 ((tL dt3 y3.to)+y3.length)),(w64 ((tV dt3 y3.to)+(1:Int)))⟩:far)⟩:(Sl far))).length,(zcb (⟨(tL dt3 y3.from_),(tU dt3 y3.from_)⟩:far) (⟨1,fun _=>(⟨(w64 ((tL dt3 y3.to)+y3.length)),(w64 ((tV dt3 y3.to)+(1:Int)))⟩:far)⟩:(Sl far))).uses]))))))))))))
theorem zrI (K:List PA→Prop) (X2:St→Prop) (w:web) (zab:Bool) (t4t3:Tab) (dt3:Tab):(zak 4 (zak 3 (sqK Tryd.prog G75 zcA (cdF Tryd.f75 [1,1,1,1,0,1,0,0,1,1]) (zbo Tryd.prog zcA 9 X2 (zak 2 (sqK Tryd.prog G75 zcA (cdF Tryd.f75 [1,1,1,1,1]) (zbn Tryd.prog Tryd.f75 K))))))) .normal (zf1 w zab t4t3 dt3)=zpR K X2 w zab t4t3 dt3:=by kernel_rfl
theorem zrJ (K : List PA → Prop) (X2 : St → Prop) (X3 : List (List PA) → St → Prop) (y3 : step) (rest3 : List (List PA)) (w : web) (zab : Bool) (t4t3 : Tab) (dt3 : Tab) :
  zvL Tryd.prog G75 zcA 12 [23] (cd (cdF Tryd.f75 [1,1,1,1,0,1,0,0,1,0,0,1,1,0]) [0]) (cd (cdF Tryd.f75 [1,1,1,1,0,1,0,0,1,0,0,1,1,0]) [1]) X3 (zak 4 (zak 3 (sqK Tryd.prog G75 zcA (cdF Tryd.f75 [1,1,1,1,0,1,0,0,1,1]) (zbo Tryd.prog zcA 9 X2 (zak 2 (sqK Tryd.prog G75 zcA (cdF Tryd.f75 [1,1,1,1,1]) (zbn Tryd.prog Tryd.f75 K))))))) [.agg (zad y3)] rest3 (zf1 w zab t4t3 dt3)=zpS K X2 X3 y3 rest3 w zab t4t3 dt3:=by kernel_rfl
theorem zxI (K : List PA → Prop) (X2 : St → Prop) (w : web) (zab : Bool) (t4t3 : Tab) (dt3 : Tab)
  (hsafe:IsE zai 4 4 (fun i=>zai (w.Net.Ties.get i))∧((false,1,false,[none]):MQ)=(false,1,false,[none])∧(zmi w=true)) (h:∀ X3:List (List PA)→St→Prop,(∀ (zab:Bool) (t4t3:Tab) (dt3:Tab),zpR K X2 w zab t4t3 dt3→X3 [] (zf1 w zab t4t3 dt3))→(∀ (y:step) (rest:List (List PA)) (zab:Bool) (t4t3:Tab) (dt3:Tab),zpS K X2 X3 y rest w zab t4t3 dt3→X3 ([.agg (zad y)] :: rest) (zf1 w zab t4t3 dt3))→X3 ((zik w).map fun y=>[.agg (zad y)]) (zf1 w zab t4t3 dt3)) :
  zld K X2 w zab t4t3 dt3:=by
  have e:zld K X2 w zab t4t3 dt3=((IsE zai 4 4 (fun i=>zai (w.Net.Ties.get i))∧((false,1,false,[none]):MQ)=(false,1,false,[none])∧(zmi w=true))∧∀ X:List (List PA)→St→Prop,(∀ s,(zak 4 (zak 3 (sqK Tryd.prog G75 zcA (cdF Tryd.f75 [1,1,1,1,0,1,0,0,1,1]) (zbo Tryd.prog zcA 9 X2 (zak 2 (sqK Tryd.prog G75 zcA (cdF Tryd.f75 [1,1,1,1,1]) (zbn Tryd.prog Tryd.f75 K))))))) .normal s→X [] s)→(∀ y rest s,zvL Tryd.prog G75 zcA 12 [23] (cd (cdF Tryd.f75 [1,1,1,1,0,1,0,0,1,0,0,1,1,0]) [0]) (cd (cdF Tryd.f75 [1,1,1,1,0,1,0,0,1,0,0,1,1,0]) [1]) X (zak 4 (zak 3 (sqK Tryd.prog G75 zcA (cdF Tryd.f75 [1,1,1,1,0,1,0,0,1,1]) (zbo Tryd.prog zcA 9 X2 (zak 2 (sqK Tryd.prog G75 zcA (cdF Tryd.f75 [1,1,1,1,1]) (zbn Tryd.prog Tryd.f75 K))))))) y rest s→X (y :: rest) s)→X ((zik w).map fun y=>[.agg (zad y)]) (zf1 w zab t4t3 dt3)):=by kernel_rfl
  refine zbm e ⟨hsafe,?_⟩
  intro X h0 h1
  refine h X (fun zab t4t3 dt3 hs=>h0 _ ?_) (fun y rest zab t4t3 dt3 hs=>h1 _ rest _ ?_)
  · rw [zrI K X2 w zab t4t3 dt3];exact hs
  · have e2 := zrJ K X2 X y rest w zab t4t3 dt3
    rw [e2];exact hs
abbrev e75 (r:Tab):List PA:=[.agg (zac r)]
attribute [irreducible] zlb zn1 zlc zld
def zrK (S2:Bool→Tab→Tab→Tab) (w:web) (zab:Bool) (t4t3:Tab) (dt3:Tab):Tab :=
  (S2 zab t4t3 dt3)
def zrL (P2:Bool→Tab→Tab→Bool) (w:web) (zab:Bool) (t4t3:Tab) (dt3:Tab):Bool :=
  (P2 zab t4t3 dt3)
def zle (S2:Bool→Tab→Tab→Tab) (w:web) (y3:step) (S3:Bool→Tab→Tab→Tab) (zab:Bool) (t4t3:Tab) (dt3:Tab):Tab :=
  (cond (nvr (tL dt3 y3.to) (tU dt3 y3.to))
 (S3 zab t4t3 dt3)
 (cond zab
 (S3 true t4t3 (ts 80 dt3 (0+y3.from_.toNat * 2+0) [(zcb (⟨(tL dt3 y3.from_),(tU dt3 y3.from_)⟩:far) (⟨1,fun _=>(⟨(w64 ((tL dt3 y3.to)+y3.length)),(w64 ((tV dt3 y3.to)+(1:Int)))⟩:far)⟩:(Sl far))).length,(zcb (⟨(tL dt3 y3.from_),(tU dt3 y3.from_)⟩:far) (⟨1,fun _=>(⟨(w64 ((tL dt3 y3.to)+y3.length)),(w64 ((tV dt3 y3.to)+(1:Int)))⟩:far)⟩:(Sl far))).uses]))
 (S3 (!(match ((zcb (⟨(tL dt3 y3.from_),(tU dt3 y3.from_)⟩:far) (⟨1,fun _=>(⟨(w64 ((tL dt3 y3.to)+y3.length)),(w64 ((tV dt3 y3.to)+(1:Int)))⟩:far)⟩:(Sl far))).length == (tL dt3 y3.from_)) with | true=>(match ((zcb (⟨(tL dt3 y3.from_),(tU dt3 y3.from_)⟩:far) (⟨1,fun _=>(⟨(w64 ((tL dt3 y3.to)+y3.length)),(w64 ((tV dt3 y3.to)+(1:Int)))⟩:far)⟩:(Sl far))).uses == (tU dt3 y3.from_)) with | true=>true | false=>false) | false=>false)) t4t3 (ts 80 dt3 (0+y3.from_.toNat * 2+0) [(zcb (⟨(tL dt3 y3.from_),(tU dt3 y3.from_)⟩:far) (⟨1,fun _=>(⟨(w64 ((tL dt3 y3.to)+y3.length)),(w64 ((tV dt3 y3.to)+(1:Int)))⟩:far)⟩:(Sl far))).length,(zcb (⟨(tL dt3 y3.from_),(tU dt3 y3.from_)⟩:far) (⟨1,fun _=>(⟨(w64 ((tL dt3 y3.to)+y3.length)),(w64 ((tV dt3 y3.to)+(1:Int)))⟩:far)⟩:(Sl far))).uses]))))
def zlf (P2:Bool→Tab→Tab→Bool) (w:web) (y3:step) (P3:Bool→Tab→Tab→Bool) (zab:Bool) (t4t3:Tab) (dt3:Tab):Bool :=
  (decide ((0≤y3.to∧y3.to < (40:Int))) &&
 (cond (nvr (tL dt3 y3.to) (tU dt3 y3.to))
 (P3 zab t4t3 dt3)
 (decide ((0≤y3.from_∧y3.from_ < (40:Int))) &&
 (decide ((0≤y3.to∧y3.to < (40:Int))) &&
 (decide ((0≤y3.to∧y3.to < (40:Int))) &&
 (decide ((zvM (⟨(tL dt3 y3.from_),(tU dt3 y3.from_)⟩:far) (⟨1,fun _=>(⟨(w64 ((tL dt3 y3.to)+y3.length)),(w64 ((tV dt3 y3.to)+(1:Int)))⟩:far)⟩:(Sl far))=true)) &&
 (cond zab
 (decide ((0≤y3.from_∧y3.from_ < (40:Int))) &&
 (P3 true t4t3 (ts 80 dt3 (0+y3.from_.toNat * 2+0) [(zcb (⟨(tL dt3 y3.from_),(tU dt3 y3.from_)⟩:far) (⟨1,fun _=>(⟨(w64 ((tL dt3 y3.to)+y3.length)),(w64 ((tV dt3 y3.to)+(1:Int)))⟩:far)⟩:(Sl far))).length,(zcb (⟨(tL dt3 y3.from_),(tU dt3 y3.from_)⟩:far) (⟨1,fun _=>(⟨(w64 ((tL dt3 y3.to)+y3.length)),(w64 ((tV dt3 y3.to)+(1:Int)))⟩:far)⟩:(Sl far))).uses])))
 (decide ((0≤y3.from_∧y3.from_ < (40:Int))) &&
 (decide ((0≤y3.from_∧y3.from_ < (40:Int))) &&
 (P3 (!(match ((zcb (⟨(tL dt3 y3.from_),(tU dt3 y3.from_)⟩:far) (⟨1,fun _=>(⟨(w64 ((tL dt3 y3.to)+y3.length)),(w64 ((tV dt3 y3.to)+(1:Int)))⟩:far)⟩:(Sl far))).length == (tL dt3 y3.from_)) with | true=>(match ((zcb (⟨(tL dt3 y3.from_),(tU dt3 y3.from_)⟩:far) (⟨1,fun _=>(⟨(w64 ((tL dt3 y3.to)+y3.length)),(w64 ((tV dt3 y3.to)+(1:Int)))⟩:far)⟩:(Sl far))).uses == (tU dt3 y3.from_)) with | true=>true | false=>false) | false=>false)) t4t3 (ts 80 dt3 (0+y3.from_.toNat * 2+0) [(zcb (⟨(tL dt3 y3.from_),(tU dt3 y3.from_)⟩:far) (⟨1,fun _=>(⟨(w64 ((tL dt3 y3.to)+y3.length)),(w64 ((tV dt3 y3.to)+(1:Int)))⟩:far)⟩:(Sl far))).length,(zcb (⟨(tL dt3 y3.from_),(tU dt3 y3.from_)⟩:far) (⟨1,fun _=>(⟨(w64 ((tL dt3 y3.to)+y3.length)),(w64 ((tV dt3 y3.to)+(1:Int)))⟩:far)⟩:(Sl far))).uses])))))))))))
def zhf (S2 : Bool → Tab → Tab → Tab) (w : web) : List step → Bool → Tab → Tab → Tab
  | []=>zrK S2 w
  | y :: r=>zle S2 w y (zhf S2 w r)
def zhg (P2 : Bool → Tab → Tab → Bool) (w : web) : List step → Bool → Tab → Tab → Bool
  | []=>zrL P2 w
  | y :: r=>zlf P2 w y (zhg P2 w r)
def zrM (S2:Bool→Tab→Tab→Tab) (w:web) (zab:Bool) (t4t3:Tab) (dt3:Tab):Tab:=zhf S2 w (zik w) zab t4t3 dt3
def zn2 (P2:Bool→Tab→Tab→Bool) (w:web) (zab:Bool) (t4t3:Tab) (dt3:Tab):Bool:=decide ((zmi w=true)) && zhg P2 w (zik w) zab t4t3 dt3
theorem zEK (K : List PA → Prop) (w : web)
  (X2:St→Prop) (P2:Bool→Tab→Tab→Bool) (S2:Bool→Tab→Tab→Tab)
  (hX2:∀ (zaf:Bool) (t4t2:Tab) (dt2:Tab),P2 zaf t4t2 dt2=true→K (e75 (S2 zaf t4t2 dt2))→X2 (zjw w zaf t4t2 dt2)) (zab:Bool) (t4t3:Tab) (dt3:Tab) (hs:zn2 P2 w zab t4t3 dt3=true) (hk:K (e75 (zrM S2 w zab t4t3 dt3))):zld K X2 w zab t4t3 dt3:=by
  unfold zn2 at hs
  rw [Bool.and_eq_true] at hs
  obtain ⟨hsf,hs⟩:=hs
  have hc:=of_decide_eq_true hsf
  refine zxI K X2 w zab t4t3 dt3 ⟨isE,rfl,hc⟩ ?_
  intro X3 hexit hstep
  have key:∀ (l:List step) (zab:Bool) (t4t3:Tab) (dt3:Tab),zhg P2 w l zab t4t3 dt3=true→K (e75 (zhf S2 w l zab t4t3 dt3))→X3 (l.map fun y=>[.agg (zad y)]) (zf1 w zab t4t3 dt3):=by
    intro l
    induction l with
    | nil =>
      intro zab t4t3 dt3 hs hk
      refine hexit zab t4t3 dt3 ?_
      have hs:zrL P2 w zab t4t3 dt3=true:=hs
      have hk:K (e75 (zrK S2 w zab t4t3 dt3)):=hk
      unfold zrL at hs
      unfold zrK at hk
      exact (hX2 zab t4t3 dt3 hs hk)
    | cons y3 l ih =>
      intro zab t4t3 dt3 hs hk
      refine hstep y3 _ zab t4t3 dt3 ?_
      have hs:zlf P2 w y3 (zhg P2 w l) zab t4t3 dt3=true:=hs
      have hk:K (e75 (zle S2 w y3 (zhf S2 w l) zab t4t3 dt3)):=hk
      unfold zlf at hs
      unfold zle at hk
      generalize zhf S2 w l=S3 at hk ih
      generalize zhg P2 w l=P3 at hs ih
      have hX3:=ih
      exact (za4 hs fun hc hs => ⟨hc, (za0 (K := fun r => K (e75 r))
 (fun hs hk=>(hX3 zab t4t3 dt3 hs hk))
 (fun hs hk => (za4 hs fun hc hs => ⟨hc, (za4 hs fun hc hs => ⟨hc, (za4 hs fun hc hs => ⟨hc, (za4 hs fun hc hs => ⟨⟨zxj, hc⟩, (za0 (K := fun r => K (e75 r))
 (fun hs hk=>(za4 hs fun hc hs=>⟨hc,(hX3 true t4t3 (ts 80 dt3 (0+y3.from_.toNat * 2+0) [(zcb (⟨(tL dt3 y3.from_),(tU dt3 y3.from_)⟩:far) (⟨1,fun _=>(⟨(w64 ((tL dt3 y3.to)+y3.length)),(w64 ((tV dt3 y3.to)+(1:Int)))⟩:far)⟩:(Sl far))).length,(zcb (⟨(tL dt3 y3.from_),(tU dt3 y3.from_)⟩:far) (⟨1,fun _=>(⟨(w64 ((tL dt3 y3.to)+y3.length)),(w64 ((tV dt3 y3.to)+(1:Int)))⟩:far)⟩:(Sl far))).uses]) hs hk)⟩))
 (fun hs hk=>(za4 hs fun hc hs=>⟨hc,(za4 hs fun hc hs=>⟨hc,(hX3 (!(match ((zcb (⟨(tL dt3 y3.from_),(tU dt3 y3.from_)⟩:far) (⟨1,fun _=>(⟨(w64 ((tL dt3 y3.to)+y3.length)),(w64 ((tV dt3 y3.to)+(1:Int)))⟩:far)⟩:(Sl far))).length == (tL dt3 y3.from_)) with | true=>(match ((zcb (⟨(tL dt3 y3.from_),(tU dt3 y3.from_)⟩:far) (⟨1,fun _=>(⟨(w64 ((tL dt3 y3.to)+y3.length)),(w64 ((tV dt3 y3.to)+(1:Int)))⟩:far)⟩:(Sl far))).uses == (tU dt3 y3.from_)) with | true=>true | false=>false) | false=>false)) t4t3 (ts 80 dt3 (0+y3.from_.toNat * 2+0) [(zcb (⟨(tL dt3 y3.from_),(tU dt3 y3.from_)⟩:far) (⟨1,fun _=>(⟨(w64 ((tL dt3 y3.to)+y3.length)),(w64 ((tV dt3 y3.to)+(1:Int)))⟩:far)⟩:(Sl far))).length,(zcb (⟨(tL dt3 y3.from_),(tU dt3 y3.from_)⟩:far) (⟨1,fun _=>(⟨(w64 ((tL dt3 y3.to)+y3.length)),(w64 ((tV dt3 y3.to)+(1:Int)))⟩:far)⟩:(Sl far))).uses]) hs hk)⟩)⟩)) hs hk)⟩)⟩)⟩)⟩)) hs hk)⟩)
  exact key _ zab t4t3 dt3 hs hk
def zlg (w:web) (S2:Bool→Tab→Tab→Tab) (zaf:Bool) (t4t2:Tab) (dt2:Tab):Tab :=
  (cond zaf
 (zrM S2 w false t4t2 dt2)
 dt2)
def zlh (w:web) (P2:Bool→Tab→Tab→Bool) (zaf:Bool) (t4t2:Tab) (dt2:Tab):Bool :=
  (cond zaf
 (zn2 P2 w false t4t2 dt2)
 true)
def zd8 (w : web) : Nat → Bool → Tab → Tab → Tab
  | 0=>fun _ _ _=>default
  | k+1=>zlg w (zd8 w k)
def zd9 (w : web) : Nat → Bool → Tab → Tab → Bool
  | 0=>fun _ _ _=>false
  | k+1=>zlh w (zd9 w k)
def zrN (w:web) (zaf:Bool) (t4t2:Tab) (dt2:Tab):Tab:=zd8 w Fuel zaf t4t2 dt2
def zrO (w:web) (zaf:Bool) (t4t2:Tab) (dt2:Tab):Bool:=zd9 w Fuel zaf t4t2 dt2
theorem zEL (K:List PA→Prop) (w:web) (zaf:Bool) (t4t2:Tab) (dt2:Tab) (hs:zrO w zaf t4t2 dt2=true) (hk:K (e75 (zrN w zaf t4t2 dt2))):zlc K w zaf t4t2 dt2:=by
  refine zxH K w zaf t4t2 dt2 ?_
  intro X2 hstep
  have key:∀ (k:Nat) (zaf:Bool) (t4t2:Tab) (dt2:Tab),zd9 w k zaf t4t2 dt2=true→K (e75 (zd8 w k zaf t4t2 dt2))→X2 (zjw w zaf t4t2 dt2):=by
    intro k
    induction k with
    | zero=>intro zaf t4t2 dt2 hs;exact absurd hs Bool.false_ne_true
    | succ k ih =>
      intro zaf t4t2 dt2 hs hk
      refine hstep zaf t4t2 dt2 ?_
      have hs:zlh w (zd9 w k) zaf t4t2 dt2=true:=hs
      have hk:K (e75 (zlg w (zd8 w k) zaf t4t2 dt2)):=hk
      unfold zlh at hs
      unfold zlg at hk
      generalize zd8 w k=S2 at hk ih
      generalize zd9 w k=P2 at hs ih
      have hX2:=ih
      exact (za0 (K := fun r => K (e75 r))
 (fun hs hk=>⟨⟨isE,rfl⟩,(zEK K w X2 P2 S2 hX2 false t4t2 dt2 hs hk)⟩)
 (fun hs hk=>hk) hs hk)
  exact key _ zaf t4t2 dt2 hs hk
def zli (w:web) (node:Int) (t4t1:Tab) (dt1:Tab):Tab :=
  (zrN w true t4t1 (ts 80 dt1 (0+node.toNat * 2+0) [(0:Int),(0:Int)]))
def zlj (w:web) (node:Int) (t4t1:Tab) (dt1:Tab):Bool :=
  (decide ((0≤node∧node < (40:Int))) &&
 (zrO w true t4t1 (ts 80 dt1 (0+node.toNat * 2+0) [(0:Int),(0:Int)])))
theorem zEM (K:List PA→Prop) (w:web) (node:Int) (t4t1:Tab) (dt1:Tab) (hs:zlj w node t4t1 dt1=true) (hk:K (e75 (zli w node t4t1 dt1))):zn1 K w node t4t1 dt1:=by
  refine zbm (zEJ K w node t4t1 dt1) ?_
  unfold zlj at hs
  unfold zli at hk
  exact (za4 hs fun hc hs=>⟨hc,(zEL K w true t4t1 (ts 80 dt1 (0+node.toNat * 2+0) [(0:Int),(0:Int)]) hs hk)⟩)
def zhh (w:web) (node:Int) (S0:Int→Tab→Tab→Tab) (zaK:Int) (t4t0:Tab) (dt0:Tab):Tab :=
  (cond (decide (zaK < (40:Int)))
 (S0 (w64 (zaK+(1:Int))) t4t0 (ts 80 dt0 (0+zaK.toNat * 2+0) [(1000000000000:Int),(0:Int)]))
 (zli w node t4t0 dt0))
def zhi (w:web) (node:Int) (P0:Int→Tab→Tab→Bool) (zaK:Int) (t4t0:Tab) (dt0:Tab):Bool :=
  (cond (decide (zaK < (40:Int)))
 (decide ((0≤zaK∧zaK < (40:Int))) &&
 (P0 (w64 (zaK+(1:Int))) t4t0 (ts 80 dt0 (0+zaK.toNat * 2+0) [(1000000000000:Int),(0:Int)])))
 (zlj w node t4t0 dt0))
def zfp (w : web) (node : Int) : Nat → Int → Tab → Tab → Tab
  | 0=>fun _ _ _=>default
  | k+1=>zhh w node (zfp w node k)
def zfq (w : web) (node : Int) : Nat → Int → Tab → Tab → Bool
  | 0=>fun _ _ _=>false
  | k+1=>zhi w node (zfq w node k)
def zxJ (w:web) (node:Int) (zaK:Int) (t4t0:Tab) (dt0:Tab):Tab:=zfp w node Fuel zaK t4t0 dt0
def zxK (w:web) (node:Int) (zaK:Int) (t4t0:Tab) (dt0:Tab):Bool:=zfq w node Fuel zaK t4t0 dt0
theorem zEN (K:List PA→Prop) (w:web) (node:Int) (zaK:Int) (t4t0:Tab) (dt0:Tab) (hs:zxK w node zaK t4t0 dt0=true) (hk:K (e75 (zxJ w node zaK t4t0 dt0))):zlb K w node zaK t4t0 dt0:=by
  refine zxG K w node zaK t4t0 dt0 ?_
  intro X0 hstep
  have key:∀ (k:Nat) (zaK:Int) (t4t0:Tab) (dt0:Tab),zfq w node k zaK t4t0 dt0=true→K (e75 (zfp w node k zaK t4t0 dt0))→X0 (zla w node zaK t4t0 dt0):=by
    intro k
    induction k with
    | zero=>intro zaK t4t0 dt0 hs;exact absurd hs Bool.false_ne_true
    | succ k ih =>
      intro zaK t4t0 dt0 hs hk
      refine hstep zaK t4t0 dt0 ?_
      have hs:zhi w node (zfq w node k) zaK t4t0 dt0=true:=hs
      have hk:K (e75 (zhh w node (zfp w node k) zaK t4t0 dt0)):=hk
      unfold zhi at hs
      unfold zhh at hk
      generalize zfp w node k=S0 at hk ih
      generalize zfq w node k=P0 at hs ih
      have hX0:=ih
      exact (za0 (K := fun r => K (e75 r))
 (fun hs hk=>(za4 hs fun hc hs=>⟨hc,(hX0 (w64 (zaK+(1:Int))) t4t0 (ts 80 dt0 (0+zaK.toNat * 2+0) [(1000000000000:Int),(0:Int)]) hs hk)⟩))
 (fun hs hk=>(zEM K w node t4t0 dt0 hs hk)) hs hk)
  exact key _ zaK t4t0 dt0 hs hk
def s75 (w:web) (node:Int):Tab :=
  (zxJ w node (0:Int) (fun _=>(0:Int)) (fun _=>(0:Int)))
def p75 (w:web) (node:Int):Bool :=
  (zxK w node (0:Int) (fun _=>(0:Int)) (fun _=>(0:Int)))
theorem q75 (w:web) (node:Int) (K:List PA→Prop) (hs:p75 w node=true) (hk:K (e75 (s75 w node))):vcFun Tryd.prog G75 zcA 75 [.one (.fp (zaC w) 0),.one (.int .i64 node)] K:=by
  refine zbm (zEI w node K) ?_
  unfold p75 at hs
  unfold s75 at hk
  exact (zEN K w node (0:Int) (fun _=>(0:Int)) (fun _=>(0:Int)) hs hk)
def zxL : List PA → COut
  | [.one (.fp [.int .i64 zar,.sl zal zaO zam,.fm zbJ zaS zaT] 0),.one (.int .i64 a1)]=>.det (IsE zai 4 zaO zam∧zbJ=(false,1,false,[none])∧p75 (⟨(⟨zar,(⟨zal,zat zam⟩:(Sl Tie))⟩:Net),(⟨zaS,zaT⟩:Mp)⟩:web) a1=true) [.agg (zac ((s75 (⟨(⟨zar,(⟨zal,zat zam⟩:(Sl Tie))⟩:Net),(⟨zaS,zaT⟩:Mp)⟩:web) a1)))]
  | _=>.no
theorem zIC:zay Tryd.prog 75:=⟨_,rfl,rfl,by kernel_rfl⟩
theorem zKN:Ok Tryd.prog 75 zxL:=zbY zKM zIC fun args K h=>by
  unfold zxL at h
  split at h
  · rename_i zar zal zaO zam zbJ zaS zaT a1
    obtain ⟨⟨⟨rfl,zaB,rfl⟩,rfl,hs⟩,hk⟩:=h
    try rw [zav zaB] at hs
    try rw [zav zaB] at hk
    exact ⟨(fun _ _=>[]),(fun _=>false),zcA,q75 (⟨(⟨zar,(⟨zal,zaB⟩:(Sl Tie))⟩:Net),(⟨zaS,zaT⟩:Mp)⟩:web) a1 K hs hk⟩
  · exact h.elim
abbrev T76:Tabs:=(((Tabs.nil.addF 93 zpI).addF 104 zpO).addI 110 zpK)
theorem zKO:TabsOk Tryd.prog T76:=(((TabsOk.nil.addF zHq).addF zEH).addI zvt)
abbrev G76:Ctrs:=csm T76 (fun _ _=>[]) (fun _=>false)
def zcB:Ann:=⟨66,[(0,zK [0,1,4] [4]),(1,zK [0,1,4,5] [4,5]),(2,zK [0,1,4,5,10] [4,5]),(3,zK [0,1,4,5,10,11] [4,5]),(4,zK [0,1,4,5,6,10] [4,5]),(5,zK [0,1,4,5,10] [4,5]),(6,zK [0,1,4,5,10] [4,5]),(7,zK [0,4,5] [4,5]),(8,zK [0,4,5,7] [4,5,7]),(9,zK [0,4,5,7,20] [4,5,7]),(10,zK [0,4,5,7] [4,5,7]),(11,zK [0,4,5,7,22] [4,5,7]),(12,zK [0,4,5,7,8,22] [4,5,7,8]),(13,zK [0,4,5,7,8,22,29] [4,5,7,8]),(14,zK [0,4,5,7,8,9,22] [4,5,7,8,9]),(15,zK [0,4,5,7,8,9,22] [4,5,7,8,9]),(16,zK [0,4,5,7,22] [4,5,7]),(17,zK [0,4,5,64] [4,5]),(18,zK [0,4,5,7] [4,5,7]),(19,zK [4] [4])],
 [(3,zK [0,1,4,5,10] [4,5]),(9,zK [0,4,5,7] [4,5,7]),(12,zK [0,4,5,7,22] [4,5,7])],
 [(7,zK [0,1,4,5] [4,5])],
 [],[]⟩
def zlk (w:web) (node:Int) (zaK:Int) (t4t0:Tab) (dt0:Tab):St:=⟨[(0,.one (.c (.p (.fp (zaC w) 0)))),(1,.one (.c (.p (.int .i64 node)))),(4,.one (.c (.ptr 4 0))),(5,.one (.c (.ptr 5 0))),(10,.one (.c (.p (.int .i64 zaK))))],[(4,.box 116 (zm (zac t4t0))),(5,.box 116 (zm (zac dt0)))],[]⟩
def zll (K:List PA→Prop) (w:web) (node:Int) (zaK:Int) (t4t0:Tab) (dt0:Tab):Prop:=vc Tryd.prog G76 zcB (cdF Tryd.f76 [1,1,0,1,0]) (zak 0 (sqK Tryd.prog G76 zcB (cdF Tryd.f76 [1,1,1]) (zbn Tryd.prog Tryd.f76 K))) (zlk w node zaK t4t0 dt0)
def zID (w:web) (node:Int) (t4t1:Tab) (dt1:Tab):St:=⟨[(0,.one (.c (.p (.fp (zaC w) 0)))),(1,.one (.c (.p (.int .i64 node)))),(4,.one (.c (.ptr 4 0))),(5,.one (.c (.ptr 5 0)))],[(4,.box 116 (zm (zac t4t1))),(5,.box 116 (zm (zac dt1)))],[]⟩
def zn3 (K:List PA→Prop) (w:web) (node:Int) (t4t1:Tab) (dt1:Tab):Prop:=vc Tryd.prog G76 zcB (cdF Tryd.f76 [1,1,1]) (zbn Tryd.prog Tryd.f76 K) (zID w node t4t1 dt1)
def zjx (w:web) (zaf:Bool) (t4t2:Tab) (dt2:Tab):St:=⟨[(0,.one (.c (.p (.fp (zaC w) 0)))),(4,.one (.c (.ptr 4 0))),(5,.one (.c (.ptr 5 0))),(7,.one (.c (.ptr 7 0)))],[(4,.box 116 (zm (zac t4t2))),(5,.box 116 (zm (zac dt2))),(7,.box 4 [.p (.bool zaf)])],[]⟩
def zlm (K:List PA→Prop) (w:web) (zaf:Bool) (t4t2:Tab) (dt2:Tab):Prop:=vc Tryd.prog G76 zcB (cdF Tryd.f76 [1,1,1,1,0,1,0]) (zak 2 (sqK Tryd.prog G76 zcB (cdF Tryd.f76 [1,1,1,1,1]) (zbn Tryd.prog Tryd.f76 K))) (zjx w zaf t4t2 dt2)
def zf2 (w:web) (zab:Bool) (t4t3:Tab) (dt3:Tab):St:=⟨[(0,.one (.c (.p (.fp (zaC w) 0)))),(4,.one (.c (.ptr 4 0))),(5,.one (.c (.ptr 5 0))),(7,.one (.c (.ptr 7 0))),(22,.one (.c (.p (.fn 110 [] [.fp [.fp (zaC w) 0] 0]))))],[(4,.box 116 (zm (zac t4t3))),(5,.box 116 (zm (zac dt3))),(7,.box 4 [.p (.bool zab)])],[]⟩
def zln (K:List PA→Prop) (X2:St→Prop) (w:web) (zab:Bool) (t4t3:Tab) (dt3:Tab):Prop:=vc Tryd.prog G76 zcB (cdF Tryd.f76 [1,1,1,1,0,1,0,0,1,0,0,1,1,0]) (zak 4 (zak 3 (sqK Tryd.prog G76 zcB (cdF Tryd.f76 [1,1,1,1,0,1,0,0,1,1]) (zbo Tryd.prog zcB 9 X2 (zak 2 (sqK Tryd.prog G76 zcB (cdF Tryd.f76 [1,1,1,1,1]) (zbn Tryd.prog Tryd.f76 K))))))) (zf2 w zab t4t3 dt3)
theorem zEO (w : web) (node : Int) (K : List PA → Prop) :
  vcFun Tryd.prog G76 zcB 76 [.one (.fp (zaC w) 0),.one (.int .i64 node)] K =
  (zll K w node (0:Int) (fun _=>(0:Int)) (fun _=>(0:Int))):=by kernel_rfl
def zpT (K:List PA→Prop) (X0:St→Prop) (w:web) (node:Int) (zaK:Int) (t4t0:Tab) (dt0:Tab):Prop :=
  (zbR (decide (zaK < (40:Int)))
 (((0≤zaK∧zaK < (40:Int))) ∧
 (X0 (zlk w node (w64 (zaK+(1:Int))) t4t0 (ts 80 dt0 (0+zaK.toNat * 2+0) [(1000000000000:Int),(0:Int)]))))
 (zn3 K w node t4t0 dt0))
theorem zrP (K : List PA → Prop) (X0 : St → Prop) (w : web) (node : Int) (zaK : Int) (t4t0 : Tab) (dt0 : Tab) :
  vc Tryd.prog G76 zcB (cd (cdF Tryd.f76 [1,1,0,1,0]) [0]) (zbo Tryd.prog zcB 3 X0 (zak 0 (sqK Tryd.prog G76 zcB (cdF Tryd.f76 [1,1,1]) (zbn Tryd.prog Tryd.f76 K)))) (zlk w node zaK t4t0 dt0) =
  zpT K X0 w node zaK t4t0 dt0:=by kernel_rfl
theorem zxM (K : List PA → Prop) (w : web) (node : Int) (zaK : Int) (t4t0 : Tab) (dt0 : Tab)
  (h:∀ X0:St→Prop,(∀ (zaK:Int) (t4t0:Tab) (dt0:Tab),zpT K X0 w node zaK t4t0 dt0→X0 (zlk w node zaK t4t0 dt0))→X0 (zlk w node zaK t4t0 dt0)) :
  zll K w node zaK t4t0 dt0:=by
  have e:zll K w node zaK t4t0 dt0=(∀ X:St→Prop,(∀ s,vc Tryd.prog G76 zcB (cd (cdF Tryd.f76 [1,1,0,1,0]) [0]) (zbo Tryd.prog zcB 3 X (zak 0 (sqK Tryd.prog G76 zcB (cdF Tryd.f76 [1,1,1]) (zbn Tryd.prog Tryd.f76 K)))) s→X s)→X (zlk w node zaK t4t0 dt0)):=by kernel_rfl
  refine zbm e ?_
  intro X hX
  refine h X ?_
  intro zaK t4t0 dt0 hs
  refine hX _ ?_
  have e2:=zrP K X w node zaK t4t0 dt0
  rw [e2]
  exact hs
theorem zEP (K : List PA → Prop) (w : web) (node : Int) (t4t1 : Tab) (dt1 : Tab) :
  zn3 K w node t4t1 dt1 =
  (((0≤node∧node < (40:Int))) ∧
 (zlm K w true t4t1 (ts 80 dt1 (0+node.toNat * 2+0) [(0:Int),(0:Int)]))):=by kernel_rfl
def zpU (K:List PA→Prop) (X2:St→Prop) (w:web) (zaf:Bool) (t4t2:Tab) (dt2:Tab):Prop :=
  (zbR zaf
 ((IsE zai 4 4 (fun i=>zai (w.Net.Ties.get i))∧((false,1,false,[none]):MQ)=(false,1,false,[none])) ∧
 (zln K X2 w false t4t2 dt2))
 (K [.agg (zac dt2)]))
theorem zrQ (K : List PA → Prop) (X2 : St → Prop) (w : web) (zaf : Bool) (t4t2 : Tab) (dt2 : Tab) :
  vc Tryd.prog G76 zcB (cd (cdF Tryd.f76 [1,1,1,1,0,1,0]) [0]) (zbo Tryd.prog zcB 9 X2 (zak 2 (sqK Tryd.prog G76 zcB (cdF Tryd.f76 [1,1,1,1,1]) (zbn Tryd.prog Tryd.f76 K)))) (zjx w zaf t4t2 dt2) =
  zpU K X2 w zaf t4t2 dt2:=by kernel_rfl
theorem zxN (K : List PA → Prop) (w : web) (zaf : Bool) (t4t2 : Tab) (dt2 : Tab)
  (h:∀ X2:St→Prop,(∀ (zaf:Bool) (t4t2:Tab) (dt2:Tab),zpU K X2 w zaf t4t2 dt2→X2 (zjx w zaf t4t2 dt2))→X2 (zjx w zaf t4t2 dt2)) :
  zlm K w zaf t4t2 dt2:=by
  have e:zlm K w zaf t4t2 dt2=(∀ X:St→Prop,(∀ s,vc Tryd.prog G76 zcB (cd (cdF Tryd.f76 [1,1,1,1,0,1,0]) [0]) (zbo Tryd.prog zcB 9 X (zak 2 (sqK Tryd.prog G76 zcB (cdF Tryd.f76 [1,1,1,1,1]) (zbn Tryd.prog Tryd.f76 K)))) s→X s)→X (zjx w zaf t4t2 dt2)):=by kernel_rfl
  refine zbm e ?_
  intro X hX
  refine h X ?_
  intro zaf t4t2 dt2 hs
  refine hX _ ?_
  have e2:=zrQ K X w zaf t4t2 dt2
  rw [e2]
  exact hs
def zpV (K:List PA→Prop) (X2:St→Prop) (w:web) (zab:Bool) (t4t3:Tab) (dt3:Tab):Prop :=
  (X2 (zjx w zab t4t3 dt3))
def zpW (K:List PA→Prop) (X2:St→Prop) (X3:List (List PA)→St→Prop) (y3:step) (rest3:List (List PA)) (w:web) (zab:Bool) (t4t3:Tab) (dt3:Tab):Prop :=
  (((0≤y3.from_∧y3.from_ < (40:Int))) ∧
 (zbR (nvr (tL dt3 y3.from_) (tU dt3 y3.from_))
 (X3 rest3 (zf2 w zab t4t3 dt3))
 (((0≤y3.to∧y3.to < (40:Int))) ∧
 (((0≤y3.from_∧y3.from_ < (40:Int))) ∧
 (((0≤y3.from_∧y3.from_ < (40:Int))) ∧
 ((IsE zcv 2 2 (fun _=>(zcv (⟨(w64 ((tL dt3 y3.from_)+y3.length)),(w64 ((tV dt3 y3.from_)+(1:Int)))⟩:far)))∧(zvM (⟨(tL dt3 y3.to),(tU dt3 y3.to)⟩:far) (⟨1,fun _=>(⟨(w64 ((tL dt3 y3.from_)+y3.length)),(w64 ((tV dt3 y3.from_)+(1:Int)))⟩:far)⟩:(Sl far))=true)) ∧
 (zbR zab
 (((0≤y3.to∧y3.to < (40:Int))) ∧
 (X3 rest3 (zf2 w true t4t3 (ts 80 dt3 (0+y3.to.toNat * 2+0) [(zcb (⟨(tL dt3 y3.to),(tU dt3 y3.to)⟩:far) (⟨1,fun _=>(⟨(w64 ((tL dt3 y3.from_)+y3.length)),(w64 ((tV dt3 y3.from_)+(1:Int)))⟩:far)⟩:(Sl far))).length,(zcb (⟨(tL dt3 y3.to),(tU dt3 y3.to)⟩:far) (⟨1,fun _=>(⟨(w64 ((tL dt3 y3.from_)+y3.length)),(w64 ((tV dt3 y3.from_)+(1:Int)))⟩:far)⟩:(Sl far))).uses]))))
 (((0≤y3.to∧y3.to < (40:Int))) ∧
 (((0≤y3.to∧y3.to < (40:Int))) ∧
 (X3 rest3 (zf2 w (!(match ((zcb (⟨(tL dt3 y3.to),(tU dt3 y3.to)⟩:far) (⟨1,fun _=>(⟨(w64 ((tL dt3 y3.from_)+y3.length)),(w64 ((tV dt3 y3.from_)+(1:Int)))⟩:far)⟩:(Sl far))).length == (tL dt3 y3.to)) with | true=>(match ((zcb (⟨(tL dt3 y3.to),(tU dt3 y3.to)⟩:far) (⟨1,fun _=>(⟨(w64 ((tL dt3 y3.from_)+y3.length)),(w64 ((tV dt3 y3.from_)+(1:Int)))⟩:far)⟩:(Sl far))).uses == (tU dt3 y3.to)) with | true=>true | false=>false) | false=>false)) t4t3 (ts 80 dt3 (0+y3.to.toNat * 2+0) [(zcb (⟨(tL dt3 y3.to),(tU dt3 y3.to)⟩:far) (⟨1,fun _=>(⟨(w64 ((tL dt3 y3.from_)+y3.length)),(w64 ((tV dt3 y3.from_)+(1:Int)))⟩:far)⟩:(Sl far))).length,(zcb (⟨(tL dt3 y3.to),(tU dt3 y3.to)⟩:far) (⟨1,fun _=>(⟨(w64 ((tL dt3 y3.from_)+y3.length)),(w64 ((tV dt3 y3.from_)+(1:Int)))⟩:far)⟩:(Sl far))).uses]))))))))))))
theorem zrR (K:List PA→Prop) (X2:St→Prop) (w:web) (zab:Bool) (t4t3:Tab) (dt3:Tab):(zak 4 (zak 3 (sqK Tryd.prog G76 zcB (cdF Tryd.f76 [1,1,1,1,0,1,0,0,1,1]) (zbo Tryd.prog zcB 9 X2 (zak 2 (sqK Tryd.prog G76 zcB (cdF Tryd.f76 [1,1,1,1,1]) (zbn Tryd.prog Tryd.f76 K))))))) .normal (zf2 w zab t4t3 dt3)=zpV K X2 w zab t4t3 dt3:=by kernel_rfl
theorem zrS (K : List PA → Prop) (X2 : St → Prop) (X3 : List (List PA) → St → Prop) (y3 : step) (rest3 : List (List PA)) (w : web) (zab : Bool) (t4t3 : Tab) (dt3 : Tab) :
  zvL Tryd.prog G76 zcB 12 [23] (cd (cdF Tryd.f76 [1,1,1,1,0,1,0,0,1,0,0,1,1,0]) [0]) (cd (cdF Tryd.f76 [1,1,1,1,0,1,0,0,1,0,0,1,1,0]) [1]) X3 (zak 4 (zak 3 (sqK Tryd.prog G76 zcB (cdF Tryd.f76 [1,1,1,1,0,1,0,0,1,1]) (zbo Tryd.prog zcB 9 X2 (zak 2 (sqK Tryd.prog G76 zcB (cdF Tryd.f76 [1,1,1,1,1]) (zbn Tryd.prog Tryd.f76 K))))))) [.agg (zad y3)] rest3 (zf2 w zab t4t3 dt3)=zpW K X2 X3 y3 rest3 w zab t4t3 dt3:=by kernel_rfl
theorem zxO (K : List PA → Prop) (X2 : St → Prop) (w : web) (zab : Bool) (t4t3 : Tab) (dt3 : Tab)
  (hsafe:IsE zai 4 4 (fun i=>zai (w.Net.Ties.get i))∧((false,1,false,[none]):MQ)=(false,1,false,[none])∧(zmi w=true)) (h:∀ X3:List (List PA)→St→Prop,(∀ (zab:Bool) (t4t3:Tab) (dt3:Tab),zpV K X2 w zab t4t3 dt3→X3 [] (zf2 w zab t4t3 dt3))→(∀ (y:step) (rest:List (List PA)) (zab:Bool) (t4t3:Tab) (dt3:Tab),zpW K X2 X3 y rest w zab t4t3 dt3→X3 ([.agg (zad y)] :: rest) (zf2 w zab t4t3 dt3))→X3 ((zik w).map fun y=>[.agg (zad y)]) (zf2 w zab t4t3 dt3)) :
  zln K X2 w zab t4t3 dt3:=by
  have e:zln K X2 w zab t4t3 dt3=((IsE zai 4 4 (fun i=>zai (w.Net.Ties.get i))∧((false,1,false,[none]):MQ)=(false,1,false,[none])∧(zmi w=true))∧∀ X:List (List PA)→St→Prop,(∀ s,(zak 4 (zak 3 (sqK Tryd.prog G76 zcB (cdF Tryd.f76 [1,1,1,1,0,1,0,0,1,1]) (zbo Tryd.prog zcB 9 X2 (zak 2 (sqK Tryd.prog G76 zcB (cdF Tryd.f76 [1,1,1,1,1]) (zbn Tryd.prog Tryd.f76 K))))))) .normal s→X [] s)→(∀ y rest s,zvL Tryd.prog G76 zcB 12 [23] (cd (cdF Tryd.f76 [1,1,1,1,0,1,0,0,1,0,0,1,1,0]) [0]) (cd (cdF Tryd.f76 [1,1,1,1,0,1,0,0,1,0,0,1,1,0]) [1]) X (zak 4 (zak 3 (sqK Tryd.prog G76 zcB (cdF Tryd.f76 [1,1,1,1,0,1,0,0,1,1]) (zbo Tryd.prog zcB 9 X2 (zak 2 (sqK Tryd.prog G76 zcB (cdF Tryd.f76 [1,1,1,1,1]) (zbn Tryd.prog Tryd.f76 K))))))) y rest s→X (y :: rest) s)→X ((zik w).map fun y=>[.agg (zad y)]) (zf2 w zab t4t3 dt3)):=by kernel_rfl
  refine zbm e ⟨hsafe,?_⟩
  intro X h0 h1
  refine h X (fun zab t4t3 dt3 hs=>h0 _ ?_) (fun y rest zab t4t3 dt3 hs=>h1 _ rest _ ?_)
  · rw [zrR K X2 w zab t4t3 dt3];exact hs
  · have e2 := zrS K X2 X y rest w zab t4t3 dt3
    rw [e2];exact hs
abbrev e76 (r:Tab):List PA:=[.agg (zac r)]
attribute [irreducible] zll zn3 zlm zln
def zrT (S2:Bool→Tab→Tab→Tab) (w:web) (zab:Bool) (t4t3:Tab) (dt3:Tab):Tab :=
  (S2 zab t4t3 dt3)
def zrU (P2:Bool→Tab→Tab→Bool) (w:web) (zab:Bool) (t4t3:Tab) (dt3:Tab):Bool :=
  (P2 zab t4t3 dt3)
def zlo (S2:Bool→Tab→Tab→Tab) (w:web) (y3:step) (S3:Bool→Tab→Tab→Tab) (zab:Bool) (t4t3:Tab) (dt3:Tab):Tab :=
  (cond (nvr (tL dt3 y3.from_) (tU dt3 y3.from_))
 (S3 zab t4t3 dt3)
 (cond zab
 (S3 true t4t3 (ts 80 dt3 (0+y3.to.toNat * 2+0) [(zcb (⟨(tL dt3 y3.to),(tU dt3 y3.to)⟩:far) (⟨1,fun _=>(⟨(w64 ((tL dt3 y3.from_)+y3.length)),(w64 ((tV dt3 y3.from_)+(1:Int)))⟩:far)⟩:(Sl far))).length,(zcb (⟨(tL dt3 y3.to),(tU dt3 y3.to)⟩:far) (⟨1,fun _=>(⟨(w64 ((tL dt3 y3.from_)+y3.length)),(w64 ((tV dt3 y3.from_)+(1:Int)))⟩:far)⟩:(Sl far))).uses]))
 (S3 (!(match ((zcb (⟨(tL dt3 y3.to),(tU dt3 y3.to)⟩:far) (⟨1,fun _=>(⟨(w64 ((tL dt3 y3.from_)+y3.length)),(w64 ((tV dt3 y3.from_)+(1:Int)))⟩:far)⟩:(Sl far))).length == (tL dt3 y3.to)) with | true=>(match ((zcb (⟨(tL dt3 y3.to),(tU dt3 y3.to)⟩:far) (⟨1,fun _=>(⟨(w64 ((tL dt3 y3.from_)+y3.length)),(w64 ((tV dt3 y3.from_)+(1:Int)))⟩:far)⟩:(Sl far))).uses == (tU dt3 y3.to)) with | true=>true | false=>false) | false=>false)) t4t3 (ts 80 dt3 (0+y3.to.toNat * 2+0) [(zcb (⟨(tL dt3 y3.to),(tU dt3 y3.to)⟩:far) (⟨1,fun _=>(⟨(w64 ((tL dt3 y3.from_)+y3.length)),(w64 ((tV dt3 y3.from_)+(1:Int)))⟩:far)⟩:(Sl far))).length,(zcb (⟨(tL dt3 y3.to),(tU dt3 y3.to)⟩:far) (⟨1,fun _=>(⟨(w64 ((tL dt3 y3.from_)+y3.length)),(w64 ((tV dt3 y3.from_)+(1:Int)))⟩:far)⟩:(Sl far))).uses]))))
def zlp (P2:Bool→Tab→Tab→Bool) (w:web) (y3:step) (P3:Bool→Tab→Tab→Bool) (zab:Bool) (t4t3:Tab) (dt3:Tab):Bool :=
  (decide ((0≤y3.from_∧y3.from_ < (40:Int))) &&
 (cond (nvr (tL dt3 y3.from_) (tU dt3 y3.from_))
 (P3 zab t4t3 dt3)
 (decide ((0≤y3.to∧y3.to < (40:Int))) &&
 (decide ((0≤y3.from_∧y3.from_ < (40:Int))) &&
 (decide ((0≤y3.from_∧y3.from_ < (40:Int))) &&
 (decide ((zvM (⟨(tL dt3 y3.to),(tU dt3 y3.to)⟩:far) (⟨1,fun _=>(⟨(w64 ((tL dt3 y3.from_)+y3.length)),(w64 ((tV dt3 y3.from_)+(1:Int)))⟩:far)⟩:(Sl far))=true)) &&
 (cond zab
 (decide ((0≤y3.to∧y3.to < (40:Int))) &&
 (P3 true t4t3 (ts 80 dt3 (0+y3.to.toNat * 2+0) [(zcb (⟨(tL dt3 y3.to),(tU dt3 y3.to)⟩:far) (⟨1,fun _=>(⟨(w64 ((tL dt3 y3.from_)+y3.length)),(w64 ((tV dt3 y3.from_)+(1:Int)))⟩:far)⟩:(Sl far))).length,(zcb (⟨(tL dt3 y3.to),(tU dt3 y3.to)⟩:far) (⟨1,fun _=>(⟨(w64 ((tL dt3 y3.from_)+y3.length)),(w64 ((tV dt3 y3.from_)+(1:Int)))⟩:far)⟩:(Sl far))).uses])))
 (decide ((0≤y3.to∧y3.to < (40:Int))) &&
 (decide ((0≤y3.to∧y3.to < (40:Int))) &&
 (P3 (!(match ((zcb (⟨(tL dt3 y3.to),(tU dt3 y3.to)⟩:far) (⟨1,fun _=>(⟨(w64 ((tL dt3 y3.from_)+y3.length)),(w64 ((tV dt3 y3.from_)+(1:Int)))⟩:far)⟩:(Sl far))).length == (tL dt3 y3.to)) with | true=>(match ((zcb (⟨(tL dt3 y3.to),(tU dt3 y3.to)⟩:far) (⟨1,fun _=>(⟨(w64 ((tL dt3 y3.from_)+y3.length)),(w64 ((tV dt3 y3.from_)+(1:Int)))⟩:far)⟩:(Sl far))).uses == (tU dt3 y3.to)) with | true=>true | false=>false) | false=>false)) t4t3 (ts 80 dt3 (0+y3.to.toNat * 2+0) [(zcb (⟨(tL dt3 y3.to),(tU dt3 y3.to)⟩:far) (⟨1,fun _=>(⟨(w64 ((tL dt3 y3.from_)+y3.length)),(w64 ((tV dt3 y3.from_)+(1:Int)))⟩:far)⟩:(Sl far))).length,(zcb (⟨(tL dt3 y3.to),(tU dt3 y3.to)⟩:far) (⟨1,fun _=>(⟨(w64 ((tL dt3 y3.from_)+y3.length)),(w64 ((tV dt3 y3.from_)+(1:Int)))⟩:far)⟩:(Sl far))).uses])))))))))))
def zhj (S2 : Bool → Tab → Tab → Tab) (w : web) : List step → Bool → Tab → Tab → Tab
  | []=>zrT S2 w
  | y :: r=>zlo S2 w y (zhj S2 w r)
def zhk (P2 : Bool → Tab → Tab → Bool) (w : web) : List step → Bool → Tab → Tab → Bool
  | []=>zrU P2 w
  | y :: r=>zlp P2 w y (zhk P2 w r)
def zrV (S2:Bool→Tab→Tab→Tab) (w:web) (zab:Bool) (t4t3:Tab) (dt3:Tab):Tab:=zhj S2 w (zik w) zab t4t3 dt3
def zn4 (P2:Bool→Tab→Tab→Bool) (w:web) (zab:Bool) (t4t3:Tab) (dt3:Tab):Bool:=decide ((zmi w=true)) && zhk P2 w (zik w) zab t4t3 dt3
theorem zEQ (K : List PA → Prop) (w : web)
  (X2:St→Prop) (P2:Bool→Tab→Tab→Bool) (S2:Bool→Tab→Tab→Tab)
  (hX2:∀ (zaf:Bool) (t4t2:Tab) (dt2:Tab),P2 zaf t4t2 dt2=true→K (e76 (S2 zaf t4t2 dt2))→X2 (zjx w zaf t4t2 dt2)) (zab:Bool) (t4t3:Tab) (dt3:Tab) (hs:zn4 P2 w zab t4t3 dt3=true) (hk:K (e76 (zrV S2 w zab t4t3 dt3))):zln K X2 w zab t4t3 dt3:=by
  unfold zn4 at hs
  rw [Bool.and_eq_true] at hs
  obtain ⟨hsf,hs⟩:=hs
  have hc:=of_decide_eq_true hsf
  refine zxO K X2 w zab t4t3 dt3 ⟨isE,rfl,hc⟩ ?_
  intro X3 hexit hstep
  have key:∀ (l:List step) (zab:Bool) (t4t3:Tab) (dt3:Tab),zhk P2 w l zab t4t3 dt3=true→K (e76 (zhj S2 w l zab t4t3 dt3))→X3 (l.map fun y=>[.agg (zad y)]) (zf2 w zab t4t3 dt3):=by
    intro l
    induction l with
    | nil =>
      intro zab t4t3 dt3 hs hk
      refine hexit zab t4t3 dt3 ?_
      have hs:zrU P2 w zab t4t3 dt3=true:=hs
      have hk:K (e76 (zrT S2 w zab t4t3 dt3)):=hk
      unfold zrU at hs
      unfold zrT at hk
      exact (hX2 zab t4t3 dt3 hs hk)
    | cons y3 l ih =>
      intro zab t4t3 dt3 hs hk
      refine hstep y3 _ zab t4t3 dt3 ?_
      have hs:zlp P2 w y3 (zhk P2 w l) zab t4t3 dt3=true:=hs
      have hk:K (e76 (zlo S2 w y3 (zhj S2 w l) zab t4t3 dt3)):=hk
      unfold zlp at hs
      unfold zlo at hk
      generalize zhj S2 w l=S3 at hk ih
      generalize zhk P2 w l=P3 at hs ih
      have hX3:=ih
      exact (za4 hs fun hc hs => ⟨hc, (za0 (K := fun r => K (e76 r))
 (fun hs hk=>(hX3 zab t4t3 dt3 hs hk))
 (fun hs hk => (za4 hs fun hc hs => ⟨hc, (za4 hs fun hc hs => ⟨hc, (za4 hs fun hc hs => ⟨hc, (za4 hs fun hc hs => ⟨⟨zxj, hc⟩, (za0 (K := fun r => K (e76 r))
 (fun hs hk=>(za4 hs fun hc hs=>⟨hc,(hX3 true t4t3 (ts 80 dt3 (0+y3.to.toNat * 2+0) [(zcb (⟨(tL dt3 y3.to),(tU dt3 y3.to)⟩:far) (⟨1,fun _=>(⟨(w64 ((tL dt3 y3.from_)+y3.length)),(w64 ((tV dt3 y3.from_)+(1:Int)))⟩:far)⟩:(Sl far))).length,(zcb (⟨(tL dt3 y3.to),(tU dt3 y3.to)⟩:far) (⟨1,fun _=>(⟨(w64 ((tL dt3 y3.from_)+y3.length)),(w64 ((tV dt3 y3.from_)+(1:Int)))⟩:far)⟩:(Sl far))).uses]) hs hk)⟩))
 (fun hs hk=>(za4 hs fun hc hs=>⟨hc,(za4 hs fun hc hs=>⟨hc,(hX3 (!(match ((zcb (⟨(tL dt3 y3.to),(tU dt3 y3.to)⟩:far) (⟨1,fun _=>(⟨(w64 ((tL dt3 y3.from_)+y3.length)),(w64 ((tV dt3 y3.from_)+(1:Int)))⟩:far)⟩:(Sl far))).length == (tL dt3 y3.to)) with | true=>(match ((zcb (⟨(tL dt3 y3.to),(tU dt3 y3.to)⟩:far) (⟨1,fun _=>(⟨(w64 ((tL dt3 y3.from_)+y3.length)),(w64 ((tV dt3 y3.from_)+(1:Int)))⟩:far)⟩:(Sl far))).uses == (tU dt3 y3.to)) with | true=>true | false=>false) | false=>false)) t4t3 (ts 80 dt3 (0+y3.to.toNat * 2+0) [(zcb (⟨(tL dt3 y3.to),(tU dt3 y3.to)⟩:far) (⟨1,fun _=>(⟨(w64 ((tL dt3 y3.from_)+y3.length)),(w64 ((tV dt3 y3.from_)+(1:Int)))⟩:far)⟩:(Sl far))).length,(zcb (⟨(tL dt3 y3.to),(tU dt3 y3.to)⟩:far) (⟨1,fun _=>(⟨(w64 ((tL dt3 y3.from_)+y3.length)),(w64 ((tV dt3 y3.from_)+(1:Int)))⟩:far)⟩:(Sl far))).uses]) hs hk)⟩)⟩)) hs hk)⟩)⟩)⟩)⟩)) hs hk)⟩)
  exact key _ zab t4t3 dt3 hs hk
def zlq (w:web) (S2:Bool→Tab→Tab→Tab) (zaf:Bool) (t4t2:Tab) (dt2:Tab):Tab :=
  (cond zaf
 (zrV S2 w false t4t2 dt2)
 dt2)
def zlr (w:web) (P2:Bool→Tab→Tab→Bool) (zaf:Bool) (t4t2:Tab) (dt2:Tab):Bool :=
  (cond zaf
 (zn4 P2 w false t4t2 dt2)
 true)
def zea (w : web) : Nat → Bool → Tab → Tab → Tab
  | 0=>fun _ _ _=>default
  | k+1=>zlq w (zea w k)
def zeb (w : web) : Nat → Bool → Tab → Tab → Bool
  | 0=>fun _ _ _=>false
  | k+1=>zlr w (zeb w k)
def zrW (w:web) (zaf:Bool) (t4t2:Tab) (dt2:Tab):Tab:=zea w Fuel zaf t4t2 dt2
def zrX (w:web) (zaf:Bool) (t4t2:Tab) (dt2:Tab):Bool:=zeb w Fuel zaf t4t2 dt2
theorem zER (K:List PA→Prop) (w:web) (zaf:Bool) (t4t2:Tab) (dt2:Tab) (hs:zrX w zaf t4t2 dt2=true) (hk:K (e76 (zrW w zaf t4t2 dt2))):zlm K w zaf t4t2 dt2:=by
  refine zxN K w zaf t4t2 dt2 ?_
  intro X2 hstep
  have key:∀ (k:Nat) (zaf:Bool) (t4t2:Tab) (dt2:Tab),zeb w k zaf t4t2 dt2=true→K (e76 (zea w k zaf t4t2 dt2))→X2 (zjx w zaf t4t2 dt2):=by
    intro k
    induction k with
    | zero=>intro zaf t4t2 dt2 hs;exact absurd hs Bool.false_ne_true
    | succ k ih =>
      intro zaf t4t2 dt2 hs hk
      refine hstep zaf t4t2 dt2 ?_
      have hs:zlr w (zeb w k) zaf t4t2 dt2=true:=hs
      have hk:K (e76 (zlq w (zea w k) zaf t4t2 dt2)):=hk
      unfold zlr at hs
      unfold zlq at hk
      generalize zea w k=S2 at hk ih
      generalize zeb w k=P2 at hs ih
      have hX2:=ih
      exact (za0 (K := fun r => K (e76 r))
 (fun hs hk=>⟨⟨isE,rfl⟩,(zEQ K w X2 P2 S2 hX2 false t4t2 dt2 hs hk)⟩)
 (fun hs hk=>hk) hs hk)
  exact key _ zaf t4t2 dt2 hs hk
def zls (w:web) (node:Int) (t4t1:Tab) (dt1:Tab):Tab :=
  (zrW w true t4t1 (ts 80 dt1 (0+node.toNat * 2+0) [(0:Int),(0:Int)]))
def zlt (w:web) (node:Int) (t4t1:Tab) (dt1:Tab):Bool :=
  (decide ((0≤node∧node < (40:Int))) &&
 (zrX w true t4t1 (ts 80 dt1 (0+node.toNat * 2+0) [(0:Int),(0:Int)])))
theorem zES (K:List PA→Prop) (w:web) (node:Int) (t4t1:Tab) (dt1:Tab) (hs:zlt w node t4t1 dt1=true) (hk:K (e76 (zls w node t4t1 dt1))):zn3 K w node t4t1 dt1:=by
  refine zbm (zEP K w node t4t1 dt1) ?_
  unfold zlt at hs
  unfold zls at hk
  exact (za4 hs fun hc hs=>⟨hc,(zER K w true t4t1 (ts 80 dt1 (0+node.toNat * 2+0) [(0:Int),(0:Int)]) hs hk)⟩)
def zhl (w:web) (node:Int) (S0:Int→Tab→Tab→Tab) (zaK:Int) (t4t0:Tab) (dt0:Tab):Tab :=
  (cond (decide (zaK < (40:Int)))
 (S0 (w64 (zaK+(1:Int))) t4t0 (ts 80 dt0 (0+zaK.toNat * 2+0) [(1000000000000:Int),(0:Int)]))
 (zls w node t4t0 dt0))
def zhm (w:web) (node:Int) (P0:Int→Tab→Tab→Bool) (zaK:Int) (t4t0:Tab) (dt0:Tab):Bool :=
  (cond (decide (zaK < (40:Int)))
 (decide ((0≤zaK∧zaK < (40:Int))) &&
 (P0 (w64 (zaK+(1:Int))) t4t0 (ts 80 dt0 (0+zaK.toNat * 2+0) [(1000000000000:Int),(0:Int)])))
 (zlt w node t4t0 dt0))
def zfr (w : web) (node : Int) : Nat → Int → Tab → Tab → Tab
  | 0=>fun _ _ _=>default
  | k+1=>zhl w node (zfr w node k)
def zfs (w : web) (node : Int) : Nat → Int → Tab → Tab → Bool
  | 0=>fun _ _ _=>false
  | k+1=>zhm w node (zfs w node k)
def zxP (w:web) (node:Int) (zaK:Int) (t4t0:Tab) (dt0:Tab):Tab:=zfr w node Fuel zaK t4t0 dt0
def zxQ (w:web) (node:Int) (zaK:Int) (t4t0:Tab) (dt0:Tab):Bool:=zfs w node Fuel zaK t4t0 dt0
theorem zET (K:List PA→Prop) (w:web) (node:Int) (zaK:Int) (t4t0:Tab) (dt0:Tab) (hs:zxQ w node zaK t4t0 dt0=true) (hk:K (e76 (zxP w node zaK t4t0 dt0))):zll K w node zaK t4t0 dt0:=by
  refine zxM K w node zaK t4t0 dt0 ?_
  intro X0 hstep
  have key:∀ (k:Nat) (zaK:Int) (t4t0:Tab) (dt0:Tab),zfs w node k zaK t4t0 dt0=true→K (e76 (zfr w node k zaK t4t0 dt0))→X0 (zlk w node zaK t4t0 dt0):=by
    intro k
    induction k with
    | zero=>intro zaK t4t0 dt0 hs;exact absurd hs Bool.false_ne_true
    | succ k ih =>
      intro zaK t4t0 dt0 hs hk
      refine hstep zaK t4t0 dt0 ?_
      have hs:zhm w node (zfs w node k) zaK t4t0 dt0=true:=hs
      have hk:K (e76 (zhl w node (zfr w node k) zaK t4t0 dt0)):=hk
      unfold zhm at hs
      unfold zhl at hk
      generalize zfr w node k=S0 at hk ih
      generalize zfs w node k=P0 at hs ih
      have hX0:=ih
      exact (za0 (K := fun r => K (e76 r))
 (fun hs hk=>(za4 hs fun hc hs=>⟨hc,(hX0 (w64 (zaK+(1:Int))) t4t0 (ts 80 dt0 (0+zaK.toNat * 2+0) [(1000000000000:Int),(0:Int)]) hs hk)⟩))
 (fun hs hk=>(zES K w node t4t0 dt0 hs hk)) hs hk)
  exact key _ zaK t4t0 dt0 hs hk
def s76 (w:web) (node:Int):Tab :=
  (zxP w node (0:Int) (fun _=>(0:Int)) (fun _=>(0:Int)))
def p76 (w:web) (node:Int):Bool :=
  (zxQ w node (0:Int) (fun _=>(0:Int)) (fun _=>(0:Int)))
theorem q76 (w:web) (node:Int) (K:List PA→Prop) (hs:p76 w node=true) (hk:K (e76 (s76 w node))):vcFun Tryd.prog G76 zcB 76 [.one (.fp (zaC w) 0),.one (.int .i64 node)] K:=by
  refine zbm (zEO w node K) ?_
  unfold p76 at hs
  unfold s76 at hk
  exact (zET K w node (0:Int) (fun _=>(0:Int)) (fun _=>(0:Int)) hs hk)
def zxR : List PA → COut
  | [.one (.fp [.int .i64 zar,.sl zal zaO zam,.fm zbJ zaS zaT] 0),.one (.int .i64 a1)]=>.det (IsE zai 4 zaO zam∧zbJ=(false,1,false,[none])∧p76 (⟨(⟨zar,(⟨zal,zat zam⟩:(Sl Tie))⟩:Net),(⟨zaS,zaT⟩:Mp)⟩:web) a1=true) [.agg (zac ((s76 (⟨(⟨zar,(⟨zal,zat zam⟩:(Sl Tie))⟩:Net),(⟨zaS,zaT⟩:Mp)⟩:web) a1)))]
  | _=>.no
theorem zIE:zay Tryd.prog 76:=⟨_,rfl,rfl,by kernel_rfl⟩
theorem zKP:Ok Tryd.prog 76 zxR:=zbY zKO zIE fun args K h=>by
  unfold zxR at h
  split at h
  · rename_i zar zal zaO zam zbJ zaS zaT a1
    obtain ⟨⟨⟨rfl,zaB,rfl⟩,rfl,hs⟩,hk⟩:=h
    try rw [zav zaB] at hs
    try rw [zav zaB] at hk
    exact ⟨(fun _ _=>[]),(fun _=>false),zcB,q76 (⟨(⟨zar,(⟨zal,zaB⟩:(Sl Tie))⟩:Net),(⟨zaS,zaT⟩:Mp)⟩:web) a1 K hs hk⟩
  · exact h.elim
abbrev T26:Tabs:=(((Tabs.nil.addF 74 zxB).addF 75 zxL).addF 76 zxR)
theorem zKQ:TabsOk Tryd.prog T26:=(((TabsOk.nil.addF zKJ).addF zKN).addF zKP)
abbrev G26:Ctrs:=csm T26 (fun _ _=>[]) (fun _=>false)
def zEU:Ann:=⟨45,[(0,zK [1] [1]),(1,zK [1,4,5] [1]),(2,zK [1,4,5,16] [1]),(3,zK [2,3] []),(4,zK [1,6,7] [1,6,7]),(5,zK [6,7,8] [6,7,24]),(6,zK [6,7,8,26,27] [6,7,24]),(7,zK [6,7,8,26,27,28] [6,7,24]),(8,zK [6,7,8,9,26,27] [6,7,24]),(9,zK [6,7,8,26,27] [6,7,24]),(10,zK [6,7,8,26,27] [6,7,24]),(11,zK [2,3] [24])],
 [(7,zK [6,7,8,26,27] [6,7,24])],
 [],
 [],[]⟩
abbrev R26:=((Sl Span)×Int)
abbrev e26 (r:R26):List PA:=[.one (.sl r.1.len 2 (fun i=>zbG (r.1.get i))),.one (.int .i64 r.2)]
@[irreducible] def z26:=ptF Tryd.prog G26 zEU Tryd.f26
def zC2 (n:Net) (zcC:Int) (zdg:(Sl Span)) (tot0:Tab) (fromt0:Tab) (zf3:Nat→List PV):St:=⟨[(6,zp 6 0),(7,zp 7 0),(8,zv 24),(26,zI (n.Nodes.toNat:Int)),(27,zI zcC)],[(6,.box 116 (zm (zac tot0))),(7,.box 116 (zm (zac fromt0))),(24,.vec 43 2 16 zdg.len zf3)],[]⟩
abbrev zIF (K:List PA→Prop) (n:Net) (X:St→Prop) (P:Int→(Sl Span)→Tab→Tab→Bool) (S:Int→(Sl Span)→Tab→Tab→((Sl Span)×Int)):Prop:=∀ ⦃zcC:Int⦄ ⦃zdg:(Sl Span)⦄ ⦃tot0:Tab⦄ ⦃fromt0:Tab⦄ ⦃zf3:Nat→List PV⦄,P zcC zdg tot0 fromt0=true→K (e26 (S zcC zdg tot0 fromt0))→zf3=zg zbG zdg→X (zC2 n zcC zdg tot0 fromt0 zf3)
section
variable {K:List PA→Prop} {n:Net} {zcC:Int} {zdg:(Sl Span)} {tot0:Tab} {fromt0:Tab} {zf3:Nat→List PV} {X0:St→Prop} {P0:Int→(Sl Span)→Tab→Tab→Bool} {S0:Int→(Sl Span)→Tab→Tab→((Sl Span)×Int)}
def ziJ (n:Net) (S0:Int→(Sl Span)→Tab→Tab→((Sl Span)×Int)) (zcC:Int) (zdg:(Sl Span)) (tot0:Tab) (fromt0:Tab):((Sl Span)×Int) :=
  (cond (decide (zcC < (n.Nodes.toNat : Int)))
 (S0 (w64 (zcC+(1:Int))) (⟨zdg.len,(setT zcC.toNat (⟨(w64 (0 - (tg 80 tot0 (0+zcC.toNat * 2+0)))),(tg 80 fromt0 (0+zcC.toNat * 2+0))⟩:Span) zdg.get)⟩:Sl Span) tot0 fromt0)
 (zdg,(0:Int)))
def ziK (n:Net) (P0:Int→(Sl Span)→Tab→Tab→Bool) (zcC:Int) (zdg:(Sl Span)) (tot0:Tab) (fromt0:Tab):Bool :=
  (cond (decide (zcC < (n.Nodes.toNat : Int)))
 (decide ((0≤zcC∧zcC < (40:Int))) &&
 (decide ((0≤zcC∧zcC < (40:Int))) &&
 (decide ((0≤zcC∧zcC < (zdg.len:Int))) &&
 (decide ((zcC.toNat < zdg.len)) &&
 (P0 (w64 (zcC+(1:Int))) (⟨zdg.len,(setT zcC.toNat (⟨(w64 (0 - (tg 80 tot0 (0+zcC.toNat * 2+0)))),(tg 80 fromt0 (0+zcC.toNat * 2+0))⟩:Span) zdg.get)⟩:Sl Span) tot0 fromt0)))))
 true)
def zhn (n:Net):Nat→Int→(Sl Span)→Tab→Tab→((Sl Span)×Int):=lpO (fun _ _ _ _=>default) (ziJ n)
def zho (n:Net):Nat→Int→(Sl Span)→Tab→Tab→Bool:=lpO (fun _ _ _ _=>false) (ziK n)
def zxS (n:Net) (zcC:Int) (zdg:(Sl Span)) (tot0:Tab) (fromt0:Tab):((Sl Span)×Int):=zhn n Fuel zcC zdg tot0 fromt0
def zrY (n:Net) (zcC:Int) (zdg:(Sl Span)) (tot0:Tab) (fromt0:Tab):Bool:=zho n Fuel zcC zdg tot0 fromt0
theorem zEV (hs:zrY n zcC zdg tot0 fromt0=true) (hk:K (e26 (zxS n zcC zdg tot0 fromt0))) (zrZ:zf3=zg zbG zdg):z26 (Wk K) [1,1,1,1,1,0,1,0] [] (zC2 n zcC zdg tot0 fromt0 zf3) :=
  zl (fun X=>z26 (Wk K) [1,1,1,1,1,0,1,0,0] [X]) (by kernel_rfl) fun X0 hX =>
  (show ∀ k, zIF K n X0 (zho n k) (zhn n k) from zjK _ _ (ziK n) (ziJ n) (zIF K n X0)
 (by intro _ _ _ _ _ hs;exact absurd hs Bool.false_ne_true)
 (by intro P0 S0 hX0 zcC zdg tot0 fromt0 zf3 hs hk zrZ;subst zrZ;exact hX _ (zbm (by kernel_rfl) (zc hs hk (fun hs hk=>(za4 hs fun hc hs=>And.intro hc (za4 hs fun hc hs=>And.intro hc (za4 hs fun hc hs=>And.intro hc (za4 hs fun hc hs=>And.intro hc (hX0 hs hk (zmV (enc:=zbG) (i:=zcC.toNat) (k:=0) (f:=zdg.get) (new:=(zbG (⟨(w64 (0 - (tg 80 tot0 (0+zcC.toNat * 2+0)))),(tg 80 fromt0 (0+zcC.toNat * 2+0))⟩:Span))) (v:=(⟨(w64 (0 - (tg 80 tot0 (0+zcC.toNat * 2+0)))),(tg 80 fromt0 (0+zcC.toNat * 2+0))⟩:Span)) rfl rfl))))))) (fun hs hk=>((zfX hk):Wk K [.one (.sl zdg.len 2 (fun i=>zbG (zdg.get i))),.one (.int .i64 (0:Int))])))))) _ hs hk zrZ
def s26 (n:Net):((Sl Span)×Int) :=
  (cond ((s74 n (⟨0, fun _ => default⟩ : (Sl Int))).2 == 0)
 (cond ((0:Int) != (0:Int))
 ((⟨0,fun _=>default⟩:(Sl Span)),(0:Int))
 (zxS n (0:Int) (⟨n.Nodes.toNat,(fun _=>(⟨(0:Int),(0:Int)⟩:Span))⟩:Sl Span) (s75 (⟨(s74 n (⟨0,fun _=>default⟩:(Sl Int))).1.Net,((s74 n (⟨0,fun _=>default⟩:(Sl Int))).1.out)⟩:web) (0:Int)) (s76 (⟨(s74 n (⟨0,fun _=>default⟩:(Sl Int))).1.Net,((s74 n (⟨0,fun _=>default⟩:(Sl Int))).1.out)⟩:web) (0:Int))))
 (cond ((s74 n (⟨0, fun _ => default⟩ : (Sl Int))).2 != (0:Int))
 ((⟨0,fun _=>default⟩:(Sl Span)),(s74 n (⟨0,fun _=>default⟩:(Sl Int))).2)
 default))
def p26 (n:Net):Bool :=
  (cond ((s74 n (⟨0, fun _ => default⟩ : (Sl Int))).2 == 0)
 (decide ((p74 n (⟨0,fun _=>default⟩:(Sl Int))=true)) &&
 (cond ((0:Int) != (0:Int))
 true
 (decide ((p75 (⟨(s74 n (⟨0,fun _=>default⟩:(Sl Int))).1.Net,((s74 n (⟨0,fun _=>default⟩:(Sl Int))).1.out)⟩:web) (0:Int)=true)) &&
 (decide ((p76 (⟨(s74 n (⟨0,fun _=>default⟩:(Sl Int))).1.Net,((s74 n (⟨0,fun _=>default⟩:(Sl Int))).1.out)⟩:web) (0:Int)=true)) &&
 (decide ((0≤n.Nodes∧n.Nodes=n.Nodes∧n.Nodes≤1000000)) &&
 (zrY n (0:Int) (⟨n.Nodes.toNat,(fun _=>(⟨(0:Int),(0:Int)⟩:Span))⟩:Sl Span) (s75 (⟨(s74 n (⟨0,fun _=>default⟩:(Sl Int))).1.Net,((s74 n (⟨0,fun _=>default⟩:(Sl Int))).1.out)⟩:web) (0:Int)) (s76 (⟨(s74 n (⟨0,fun _=>default⟩:(Sl Int))).1.Net,((s74 n (⟨0,fun _=>default⟩:(Sl Int))).1.out)⟩:web) (0:Int))))))))
 (decide ((p74 n (⟨0,fun _=>default⟩:(Sl Int))=true)) &&
 (cond ((s74 n (⟨0, fun _ => default⟩ : (Sl Int))).2 != (0:Int))
 true
 false)))
end
theorem q26 (n:Net) (K:List PA→Prop) (hs:p26 n=true) (hk:K (e26 (s26 n))):vcFun Tryd.prog G26 zEU 26 [.agg (zb5 n)] (Wk K) :=
  zbm (by kernel_rfl) (zc hs hk (fun hs hk=>(za4 hs fun hc hs=>And.intro (And.intro (zE zai 4 n.Ties.get) hc) (zc hs hk (fun hs hk=>((wk hk (ze2 (.one (.nil _ _)) (ze2 (.one (.rfl _)) zmh))):Wk K [.one (.nils),.one (.int .i64 (0:Int))])) (fun hs hk=>(za4 hs fun hc hs=>And.intro (And.intro (zE zai 4 ((s74 n (⟨0,fun _=>default⟩:(Sl Int))).1.Net.Ties.get)) (And.intro (rfl:((false,1,false,[none]):MQ)=(false,1,false,[none])) hc)) (za4 hs fun hc hs=>And.intro (And.intro (zE zai 4 ((s74 n (⟨0,fun _=>default⟩:(Sl Int))).1.Net.Ties.get)) (And.intro (rfl:((false,1,false,[none]):MQ)=(false,1,false,[none])) hc)) (za4 hs fun hc hs=>And.intro hc (zEV hs hk rfl)))))))) (fun hs hk=>(za4 hs fun hc hs=>And.intro (And.intro (zE zai 4 n.Ties.get) hc) (zc hs hk (fun hs hk=>((wk hk (ze2 (.one (.nil _ _)) (ze2 (.one (.rfl _)) zmh))):Wk K [.one (.nils),.one (.int .i64 ((s74 n (⟨0,fun _=>default⟩:(Sl Int))).2))])) (fun hs hk=>(absurd hs Bool.false_ne_true:False))))))
def zBS : List PA → COut
  | [.agg [.int .i64 zan,.sl zaj zaR zah]]=>.det (IsE zai 4 zaR zah∧p26 (⟨zan,(⟨zaj,zat zah⟩:(Sl Tie))⟩:Net)=true) [.one (.sl (((s26 (⟨zan,(⟨zaj,zat zah⟩:(Sl Tie))⟩:Net)).1).len) 2 (fun i=>zbG (((s26 (⟨zan,(⟨zaj,zat zah⟩:(Sl Tie))⟩:Net)).1).get i))),.one (.int .i64 ((s26 (⟨zan,(⟨zaj,zat zah⟩:(Sl Tie))⟩:Net)).2))]
  | _=>.no
theorem zIG:zay Tryd.prog 26:=⟨_,rfl,rfl,by kernel_rfl⟩
theorem zLW:Ok Tryd.prog 26 zBS:=zhc zKQ zIG fun args K h=>by
  unfold zBS at h
  split at h
  · rename_i zan zaj zaR zah
    obtain ⟨⟨⟨rfl,zaH,rfl⟩,hs⟩,hk⟩:=h
    try rw [zav zaH] at hs
    try rw [zav zaH] at hk
    exact ⟨_,zfy zfW _,(fun _ _=>[]),(fun _=>false),zEU,q26 (⟨zan,(⟨zaj,zaH⟩:(Sl Tie))⟩:Net) K hs hk⟩
  · exact h.elim
abbrev zLX:Tabs:=(((Tabs.nil.addF 93 zpI).addF 104 zpO).addI 110 zpK)
theorem zIH:TabsOk Tryd.prog zLX:=(((TabsOk.nil.addF zHq).addF zEH).addI zvt)
abbrev zfH:Ctrs:=csm zLX (fun _ _=>[]) (fun _=>false)
def zbg:Ann:=⟨91,[(0,zK [0,2,4] [4]),(1,zK [0,2,4,7] [4,7,15]),(2,zK [0,2,4,7,17,18] [4,7,15]),(3,zK [0,2,4,7,17,18,19] [4,7,15]),(4,zK [0,2,4,7,8,17,18] [4,7,15]),(5,zK [0,2,4,7,8,17,18,21] [4,7,15]),(6,zK [0,2,4,7,8,17,18,21,22] [4,7,15]),(7,zK [0,2,4,7,8,9,17,18,21] [4,7,15]),(8,zK [0,2,4,7,8,17,18,21] [4,7,15]),(9,zK [0,2,4,7,8,17,18,21] [4,7,15]),(10,zK [0,2,4,7,17,18] [4,7,15]),(11,zK [0,2,4,7] [4,7,15]),(12,zK [0,2,4,7,10] [4,7,10,15]),(13,zK [0,2,4,7,10,39] [4,7,10,15]),(14,zK [0,2,4,7,10] [4,7,10,15]),(15,zK [0,2,4,7,10,43] [4,7,10,15]),(16,zK [0,2,4,7,10,11,43] [4,7,10,11,15]),(17,zK [0,2,4,7,10,11,12,43] [4,7,10,11,12,15]),(18,zK [0,2,4,7,10,11,12,43,67] [4,7,10,11,12,15]),(19,zK [0,2,4,7,10,43] [4,7,10,15]),(20,zK [0,2,4,7,89] [4,7,15]),(21,zK [0,2,4,7,10] [4,7,10,15]),(22,zK [6] [15])],
 [(3,zK [0,2,4,7,17,18] [4,7,15]),(6,zK [0,2,4,7,8,17,18,21] [4,7,15]),(13,zK [0,2,4,7,10] [4,7,10,15]),(16,zK [0,2,4,7,10,43] [4,7,10,15])],
 [(11,zK [0,2,4,7] [4,7,15])],
 [],[]⟩
def zf4 (w:web) (node:Int) (uses:Int) (zb0:Int) (zf5:Nat) (zcf:Nat→List PV):St:=⟨[(0,.one (.c (.p (.fp (zaC w) 0)))),(2,.one (.c (.p (.int .i64 uses)))),(4,.one (.c (.ptr 4 0))),(7,.one (.c (.ptr 7 0))),(17,.one (.c (.p (.int .i64 ((w64 (uses+(1:Int))).toNat:Int))))),(18,.one (.c (.p (.int .i64 zb0))))],[(4,.box 3 [.p (.int .i64 node)]),(7,.box 159 [.vec 15]),(15,.vec 116 80 640 zf5 zcf)],[]⟩
def zhZ (K:List PA→Prop) (w:web) (node:Int) (uses:Int) (zb0:Int) (zf5:Nat) (zcf:Nat→List PV):Prop:=vc Tryd.prog zfH zbg (cdF Tryd.f106 [1,1,0,1,0]) (zak 0 (sqK Tryd.prog zfH zbg (cdF Tryd.f106 [1,1,1]) (zbn Tryd.prog Tryd.f106 K))) (zf4 w node uses zb0 zf5 zcf)
def zhp (w:web) (node:Int) (uses:Int) (iv1:Int) (zau:Int) (zbM:Int) (zf6:Nat) (zcF:Nat→List PV):St:=⟨[(0,.one (.c (.p (.fp (zaC w) 0)))),(2,.one (.c (.p (.int .i64 uses)))),(4,.one (.c (.ptr 4 0))),(7,.one (.c (.ptr 7 0))),(8,.one (.c (.p (.int .i64 iv1)))),(17,.one (.c (.p (.int .i64 ((w64 (uses+(1:Int))).toNat:Int))))),(18,.one (.c (.p (.int .i64 zau)))),(21,.one (.c (.p (.int .i64 zbM))))],[(4,.box 3 [.p (.int .i64 node)]),(7,.box 159 [.vec 15]),(15,.vec 116 80 640 zf6 zcF)],[]⟩
def zh0 (K:List PA→Prop) (X0:St→Prop) (w:web) (node:Int) (uses:Int) (iv1:Int) (zau:Int) (zbM:Int) (zf6:Nat) (zcF:Nat→List PV):Prop:=vc Tryd.prog zfH zbg (cdF Tryd.f106 [1,1,0,1,0,0,1,1,0,0,1,1,0]) (zak 2 (zak 1 (sqK Tryd.prog zfH zbg (cdF Tryd.f106 [1,1,0,1,0,0,1,1,1]) (zbo Tryd.prog zbg 3 X0 (zak 0 (sqK Tryd.prog zfH zbg (cdF Tryd.f106 [1,1,1]) (zbn Tryd.prog Tryd.f106 K))))))) (zhp w node uses iv1 zau zbM zf6 zcF)
def zEW (w:web) (node:Int) (uses:Int) (zr0:Nat) (ziL:Nat→List PV):St:=⟨[(0,.one (.c (.p (.fp (zaC w) 0)))),(2,.one (.c (.p (.int .i64 uses)))),(4,.one (.c (.ptr 4 0))),(7,.one (.c (.ptr 7 0)))],[(4,.box 3 [.p (.int .i64 node)]),(7,.box 159 [.vec 15]),(15,.vec 116 80 640 zr0 ziL)],[]⟩
def zj1 (K:List PA→Prop) (w:web) (node:Int) (uses:Int) (zr0:Nat) (ziL:Nat→List PV):Prop:=vc Tryd.prog zfH zbg (cdF Tryd.f106 [1,1,1]) (zbn Tryd.prog Tryd.f106 K) (zEW w node uses zr0 ziL)
def zf7 (w:web) (node:Int) (uses:Int) (kv3:Int) (zf8:Nat) (zcg:Nat→List PV):St:=⟨[(0,.one (.c (.p (.fp (zaC w) 0)))),(2,.one (.c (.p (.int .i64 uses)))),(4,.one (.c (.ptr 4 0))),(7,.one (.c (.ptr 7 0))),(10,.one (.c (.ptr 10 0)))],[(4,.box 3 [.p (.int .i64 node)]),(7,.box 159 [.vec 15]),(10,.box 3 [.p (.int .i64 kv3)]),(15,.vec 116 80 640 zf8 zcg)],[]⟩
def zh1 (K:List PA→Prop) (w:web) (node:Int) (uses:Int) (kv3:Int) (zf8:Nat) (zcg:Nat→List PV):Prop:=vc Tryd.prog zfH zbg (cdF Tryd.f106 [1,1,1,1,0,1,0]) (zak 4 (sqK Tryd.prog zfH zbg (cdF Tryd.f106 [1,1,1,1,1]) (zbn Tryd.prog Tryd.f106 K))) (zf7 w node uses kv3 zf8 zcg)
def zdz (w:web) (node:Int) (uses:Int) (kv4:Int) (zf9:Nat) (zcG:Nat→List PV):St:=⟨[(0,.one (.c (.p (.fp (zaC w) 0)))),(2,.one (.c (.p (.int .i64 uses)))),(4,.one (.c (.ptr 4 0))),(7,.one (.c (.ptr 7 0))),(10,.one (.c (.ptr 10 0))),(43,.one (.c (.p (.fn 110 [] [.fp [.fp (zaC w) 0] 0]))))],[(4,.box 3 [.p (.int .i64 node)]),(7,.box 159 [.vec 15]),(10,.box 3 [.p (.int .i64 kv4)]),(15,.vec 116 80 640 zf9 zcG)],[]⟩
def zh2 (K:List PA→Prop) (X3:St→Prop) (w:web) (node:Int) (uses:Int) (kv4:Int) (zf9:Nat) (zcG:Nat→List PV):Prop:=vc Tryd.prog zfH zbg (cdF Tryd.f106 [1,1,1,1,0,1,0,0,1,0,0,1,0]) (zak 6 (zak 5 (sqK Tryd.prog zfH zbg (cdF Tryd.f106 [1,1,1,1,0,1,0,0,1,1]) (zbo Tryd.prog zbg 13 X3 (zak 4 (sqK Tryd.prog zfH zbg (cdF Tryd.f106 [1,1,1,1,1]) (zbn Tryd.prog Tryd.f106 K))))))) (zdz w node uses kv4 zf9 zcG)
theorem zBT (w : web) (node : Int) (uses : Int) (K : List PA → Prop) :
  vcFun Tryd.prog zfH zbg 106 [.one (.fp (zaC w) 0),.one (.int .i64 node),.one (.int .i64 uses)] K =
  (((0≤(w64 (uses+(1:Int)))∧(w64 (uses+(1:Int)))=(w64 (uses+(1:Int)))∧(w64 (uses+(1:Int)))≤1000000)) ∧
 (zhZ K w node uses (0:Int) ((w64 (uses+(1:Int))).toNat) (fun _=>(zac (fun _=>(0:Int)))))):=by kernel_rfl
def zmX (K:List PA→Prop) (X0:St→Prop) (w:web) (node:Int) (uses:Int) (zb0:Int) (zb2:(Sl Tab)):Prop :=
  (zbR (decide (zb0 < ((w64 (uses + (1:Int))).toNat : Int)))
 (zh0 K X0 w node uses zb0 zb0 (0:Int) zb2.len (fun i=>zac (zb2.get i)))
 (zj1 K w node uses zb2.len (fun i=>zac (zb2.get i))))
theorem zpX (K : List PA → Prop) (X0 : St → Prop) (w : web) (node : Int) (uses : Int) (zb0 : Int) (zb2 : (Sl Tab)) :
  vc Tryd.prog zfH zbg (cd (cdF Tryd.f106 [1,1,0,1,0]) [0]) (zbo Tryd.prog zbg 3 X0 (zak 0 (sqK Tryd.prog zfH zbg (cdF Tryd.f106 [1,1,1]) (zbn Tryd.prog Tryd.f106 K)))) (zf4 w node uses zb0 zb2.len (fun i=>zac (zb2.get i))) =
  zmX K X0 w node uses zb0 zb2:=by kernel_rfl
theorem zvu (K : List PA → Prop) (w : web) (node : Int) (uses : Int) (zb0 : Int) (zf5 : Nat) (zcf : Nat → List PV)
  (h:∀ X0:St→Prop,(∀ (zb0:Int) (zb2:(Sl Tab)),zmX K X0 w node uses zb0 zb2→X0 (zf4 w node uses zb0 zb2.len (fun i=>zac (zb2.get i))))→X0 (zf4 w node uses zb0 zf5 zcf)) :
  zhZ K w node uses zb0 zf5 zcf:=by
  have e:zhZ K w node uses zb0 zf5 zcf=(∀ X:St→Prop,(∀ s,vc Tryd.prog zfH zbg (cd (cdF Tryd.f106 [1,1,0,1,0]) [0]) (zbo Tryd.prog zbg 3 X (zak 0 (sqK Tryd.prog zfH zbg (cdF Tryd.f106 [1,1,1]) (zbn Tryd.prog Tryd.f106 K)))) s→X s)→X (zf4 w node uses zb0 zf5 zcf)):=by kernel_rfl
  refine zbm e ?_
  intro X hX
  refine h X ?_
  intro zb0 zb2 hs
  refine hX _ ?_
  have e2:=zpX K X w node uses zb0 zb2
  rw [e2]
  exact hs
def zmY (K:List PA→Prop) (X0:St→Prop) (X1:St→Prop) (w:web) (node:Int) (uses:Int) (iv1:Int) (zau:Int) (zbM:Int) (zbH:(Sl Tab)):Prop :=
  (zbR (decide (zbM < (40:Int)))
 (((0≤iv1∧iv1 < (zbH.len:Int))) ∧
 (((0≤zbM∧zbM < (40:Int))) ∧
 (((iv1.toNat < zbH.len)) ∧
 (X1 (zhp w node uses iv1 zau (w64 (zbM+(1:Int))) zbH.len (zjP iv1.toNat 0 (fun i=>zac (zbH.get i)) (zac (ts 80 (zbH.get iv1.toNat) (0+zbM.toNat * 2+0) [(1000000000000:Int),(0:Int)]))))))))
 (X0 (zf4 w node uses (w64 (zau+(1:Int))) zbH.len (fun i=>zac (zbH.get i)))))
theorem zpY (K : List PA → Prop) (X0 : St → Prop) (X1 : St → Prop) (w : web) (node : Int) (uses : Int) (iv1 : Int) (zau : Int) (zbM : Int) (zbH : (Sl Tab)) :
  vc Tryd.prog zfH zbg (cd (cdF Tryd.f106 [1,1,0,1,0,0,1,1,0,0,1,1,0]) [0]) (zbo Tryd.prog zbg 6 X1 (zak 2 (zak 1 (sqK Tryd.prog zfH zbg (cdF Tryd.f106 [1,1,0,1,0,0,1,1,1]) (zbo Tryd.prog zbg 3 X0 (zak 0 (sqK Tryd.prog zfH zbg (cdF Tryd.f106 [1,1,1]) (zbn Tryd.prog Tryd.f106 K)))))))) (zhp w node uses iv1 zau zbM zbH.len (fun i=>zac (zbH.get i))) =
  zmY K X0 X1 w node uses iv1 zau zbM zbH:=by kernel_rfl
theorem zvv (K : List PA → Prop) (X0 : St → Prop) (w : web) (node : Int) (uses : Int) (iv1 : Int) (zau : Int) (zbM : Int) (zf6 : Nat) (zcF : Nat → List PV)
  (h:∀ X1:St→Prop,(∀ (iv1:Int) (zau:Int) (zbM:Int) (zbH:(Sl Tab)),zmY K X0 X1 w node uses iv1 zau zbM zbH→X1 (zhp w node uses iv1 zau zbM zbH.len (fun i=>zac (zbH.get i))))→X1 (zhp w node uses iv1 zau zbM zf6 zcF)) :
  zh0 K X0 w node uses iv1 zau zbM zf6 zcF:=by
  have e:zh0 K X0 w node uses iv1 zau zbM zf6 zcF=(∀ X:St→Prop,(∀ s,vc Tryd.prog zfH zbg (cd (cdF Tryd.f106 [1,1,0,1,0,0,1,1,0,0,1,1,0]) [0]) (zbo Tryd.prog zbg 6 X (zak 2 (zak 1 (sqK Tryd.prog zfH zbg (cdF Tryd.f106 [1,1,0,1,0,0,1,1,1]) (zbo Tryd.prog zbg 3 X0 (zak 0 (sqK Tryd.prog zfH zbg (cdF Tryd.f106 [1,1,1]) (zbn Tryd.prog Tryd.f106 K)))))))) s→X s)→X (zhp w node uses iv1 zau zbM zf6 zcF)):=by kernel_rfl
  refine zbm e ?_
  intro X hX
  refine h X ?_
  intro iv1 zau zbM zbH hs
  refine hX _ ?_
  have e2:=zpY K X0 X w node uses iv1 zau zbM zbH
  rw [e2]
  exact hs
theorem zBU (K : List PA → Prop) (w : web) (node : Int) (uses : Int) (zc6 : (Sl Tab)) :
  zj1 K w node uses zc6.len (fun i=>zac (zc6.get i)) =
  (((0≤(0:Int)∧(0:Int) < (zc6.len:Int))) ∧
 (((0≤node∧node < (40:Int))) ∧
 (((0 < zc6.len)) ∧
 (zh1 K w node uses (1:Int) zc6.len (zjP 0 0 (fun i=>zac (zc6.get i)) (zac (ts 80 (zc6.get 0) (0+node.toNat * 2+0) [(0:Int),(0:Int)]))))))):=by kernel_rfl
def zmZ (K:List PA→Prop) (X3:St→Prop) (w:web) (node:Int) (uses:Int) (kv3:Int) (zb6:(Sl Tab)):Prop :=
  (zbR (decide (kv3 ≤ uses))
 ((IsE zai 4 4 (fun i=>zai (w.Net.Ties.get i))∧((false,1,false,[none]):MQ)=(false,1,false,[none])) ∧
 (zh2 K X3 w node uses kv3 zb6.len (fun i=>zac (zb6.get i))))
 (K [.one (.sl zb6.len 80 (fun i=>zac (zb6.get i)))]))
theorem zpZ (K : List PA → Prop) (X3 : St → Prop) (w : web) (node : Int) (uses : Int) (kv3 : Int) (zb6 : (Sl Tab)) :
  vc Tryd.prog zfH zbg (cd (cdF Tryd.f106 [1,1,1,1,0,1,0]) [0]) (zbo Tryd.prog zbg 13 X3 (zak 4 (sqK Tryd.prog zfH zbg (cdF Tryd.f106 [1,1,1,1,1]) (zbn Tryd.prog Tryd.f106 K)))) (zf7 w node uses kv3 zb6.len (fun i=>zac (zb6.get i))) =
  zmZ K X3 w node uses kv3 zb6:=by kernel_rfl
theorem zvw (K : List PA → Prop) (w : web) (node : Int) (uses : Int) (kv3 : Int) (zf8 : Nat) (zcg : Nat → List PV)
  (h:∀ X3:St→Prop,(∀ (kv3:Int) (zb6:(Sl Tab)),zmZ K X3 w node uses kv3 zb6→X3 (zf7 w node uses kv3 zb6.len (fun i=>zac (zb6.get i))))→X3 (zf7 w node uses kv3 zf8 zcg)) :
  zh1 K w node uses kv3 zf8 zcg:=by
  have e:zh1 K w node uses kv3 zf8 zcg=(∀ X:St→Prop,(∀ s,vc Tryd.prog zfH zbg (cd (cdF Tryd.f106 [1,1,1,1,0,1,0]) [0]) (zbo Tryd.prog zbg 13 X (zak 4 (sqK Tryd.prog zfH zbg (cdF Tryd.f106 [1,1,1,1,1]) (zbn Tryd.prog Tryd.f106 K)))) s→X s)→X (zf7 w node uses kv3 zf8 zcg)):=by kernel_rfl
  refine zbm e ?_
  intro X hX
  refine h X ?_
  intro kv3 zb6 hs
  refine hX _ ?_
  have e2:=zpZ K X w node uses kv3 zb6
  rw [e2]
  exact hs
def zm0 (K:List PA→Prop) (X3:St→Prop) (w:web) (node:Int) (uses:Int) (kv4:Int) (zaA:(Sl Tab)):Prop :=
  (X3 (zf7 w node uses (w64 (kv4+(1:Int))) zaA.len (fun i=>zac (zaA.get i))))
def zm1 (K:List PA→Prop) (X3:St→Prop) (X4:List (List PA)→St→Prop) (y4:step) (rest4:List (List PA)) (w:web) (node:Int) (uses:Int) (kv4:Int) (zaA:(Sl Tab)):Prop :=
  (((0≤(w64 (kv4 - (1:Int)))∧(w64 (kv4 - (1:Int))) < (zaA.len:Int))) ∧
 (((0≤y4.to∧y4.to < (40:Int))) ∧
 ((((w64 (kv4 - (1:Int))).toNat < zaA.len)) ∧
 (zbR (decide (y4.from_ ≥ node))
 (zbR (decide (y4.to ≥ node))
 (zbR (!(nvr (tg 80 (zaA.get ((w64 (kv4 - (1:Int))).toNat)) (0 + y4.to.toNat * 2 + 0)) (tg 80 (zaA.get ((w64 (kv4 - (1:Int))).toNat)) (0 + y4.to.toNat * 2 + 0 + 1))))
 (((0≤kv4∧kv4 < (zaA.len:Int))) ∧
 (((0≤y4.from_∧y4.from_ < (40:Int))) ∧
 (((kv4.toNat < zaA.len)) ∧
 ((IsE zcv 2 2 (fun _=>(zcv (⟨(w64 ((tg 80 (zaA.get ((w64 (kv4 - (1:Int))).toNat)) (0+y4.to.toNat * 2+0))+y4.length)),(0:Int)⟩:far)))∧(zvM (⟨(tL (zaA.get kv4.toNat) y4.from_),(tU (zaA.get kv4.toNat) y4.from_)⟩:far) (⟨1,fun _=>(⟨(w64 ((tg 80 (zaA.get ((w64 (kv4 - (1:Int))).toNat)) (0+y4.to.toNat * 2+0))+y4.length)),(0:Int)⟩:far)⟩:(Sl far))=true)) ∧
 (((0≤kv4∧kv4 < (zaA.len:Int))) ∧
 (((0≤y4.from_∧y4.from_ < (40:Int))) ∧
 (((kv4.toNat < zaA.len)) ∧
 (X4 rest4 (zdz w node uses kv4 zaA.len (zjP kv4.toNat 0 (fun i=>zac (zaA.get i)) (zac (ts 80 (zaA.get kv4.toNat) (0+y4.from_.toNat * 2+0) [(zcb (⟨(tL (zaA.get kv4.toNat) y4.from_),(tU (zaA.get kv4.toNat) y4.from_)⟩:far) (⟨1,fun _=>(⟨(w64 ((tg 80 (zaA.get ((w64 (kv4 - (1:Int))).toNat)) (0+y4.to.toNat * 2+0))+y4.length)),(0:Int)⟩:far)⟩:(Sl far))).length,(zcb (⟨(tL (zaA.get kv4.toNat) y4.from_),(tU (zaA.get kv4.toNat) y4.from_)⟩:far) (⟨1,fun _=>(⟨(w64 ((tg 80 (zaA.get ((w64 (kv4 - (1:Int))).toNat)) (0+y4.to.toNat * 2+0))+y4.length)),(0:Int)⟩:far)⟩:(Sl far))).uses]))))))))))))
 (X4 rest4 (zdz w node uses kv4 zaA.len (fun i=>zac (zaA.get i)))))
 (X4 rest4 (zdz w node uses kv4 zaA.len (fun i=>zac (zaA.get i)))))
 (X4 rest4 (zdz w node uses kv4 zaA.len (fun i=>zac (zaA.get i))))))))
theorem zp0 (K:List PA→Prop) (X3:St→Prop) (w:web) (node:Int) (uses:Int) (kv4:Int) (zaA:(Sl Tab)):(zak 6 (zak 5 (sqK Tryd.prog zfH zbg (cdF Tryd.f106 [1,1,1,1,0,1,0,0,1,1]) (zbo Tryd.prog zbg 13 X3 (zak 4 (sqK Tryd.prog zfH zbg (cdF Tryd.f106 [1,1,1,1,1]) (zbn Tryd.prog Tryd.f106 K))))))) .normal (zdz w node uses kv4 zaA.len (fun i=>zac (zaA.get i)))=zm0 K X3 w node uses kv4 zaA:=by kernel_rfl
theorem zp1 (K : List PA → Prop) (X3 : St → Prop) (X4 : List (List PA) → St → Prop) (y4 : step) (rest4 : List (List PA)) (w : web) (node : Int) (uses : Int) (kv4 : Int) (zaA : (Sl Tab)) :
  zvL Tryd.prog zfH zbg 16 [44] (cd (cdF Tryd.f106 [1,1,1,1,0,1,0,0,1,0,0,1,0]) [0]) (cd (cdF Tryd.f106 [1,1,1,1,0,1,0,0,1,0,0,1,0]) [1]) X4 (zak 6 (zak 5 (sqK Tryd.prog zfH zbg (cdF Tryd.f106 [1,1,1,1,0,1,0,0,1,1]) (zbo Tryd.prog zbg 13 X3 (zak 4 (sqK Tryd.prog zfH zbg (cdF Tryd.f106 [1,1,1,1,1]) (zbn Tryd.prog Tryd.f106 K))))))) [.agg (zad y4)] rest4 (zdz w node uses kv4 zaA.len (fun i=>zac (zaA.get i)))=zm1 K X3 X4 y4 rest4 w node uses kv4 zaA:=by kernel_rfl
theorem zvx (K : List PA → Prop) (X3 : St → Prop) (w : web) (node : Int) (uses : Int) (kv4 : Int) (zf9 : Nat) (zcG : Nat → List PV)
  (hsafe:IsE zai 4 4 (fun i=>zai (w.Net.Ties.get i))∧((false,1,false,[none]):MQ)=(false,1,false,[none])∧(zmi w=true)) (h:∀ X4:List (List PA)→St→Prop,(∀ (kv4:Int) (zaA:(Sl Tab)),zm0 K X3 w node uses kv4 zaA→X4 [] (zdz w node uses kv4 zaA.len (fun i=>zac (zaA.get i))))→(∀ (y:step) (rest:List (List PA)) (kv4:Int) (zaA:(Sl Tab)),zm1 K X3 X4 y rest w node uses kv4 zaA→X4 ([.agg (zad y)] :: rest) (zdz w node uses kv4 zaA.len (fun i=>zac (zaA.get i))))→X4 ((zik w).map fun y=>[.agg (zad y)]) (zdz w node uses kv4 zf9 zcG)) :
  zh2 K X3 w node uses kv4 zf9 zcG:=by
  have e:zh2 K X3 w node uses kv4 zf9 zcG=((IsE zai 4 4 (fun i=>zai (w.Net.Ties.get i))∧((false,1,false,[none]):MQ)=(false,1,false,[none])∧(zmi w=true))∧∀ X:List (List PA)→St→Prop,(∀ s,(zak 6 (zak 5 (sqK Tryd.prog zfH zbg (cdF Tryd.f106 [1,1,1,1,0,1,0,0,1,1]) (zbo Tryd.prog zbg 13 X3 (zak 4 (sqK Tryd.prog zfH zbg (cdF Tryd.f106 [1,1,1,1,1]) (zbn Tryd.prog Tryd.f106 K))))))) .normal s→X [] s)→(∀ y rest s,zvL Tryd.prog zfH zbg 16 [44] (cd (cdF Tryd.f106 [1,1,1,1,0,1,0,0,1,0,0,1,0]) [0]) (cd (cdF Tryd.f106 [1,1,1,1,0,1,0,0,1,0,0,1,0]) [1]) X (zak 6 (zak 5 (sqK Tryd.prog zfH zbg (cdF Tryd.f106 [1,1,1,1,0,1,0,0,1,1]) (zbo Tryd.prog zbg 13 X3 (zak 4 (sqK Tryd.prog zfH zbg (cdF Tryd.f106 [1,1,1,1,1]) (zbn Tryd.prog Tryd.f106 K))))))) y rest s→X (y :: rest) s)→X ((zik w).map fun y=>[.agg (zad y)]) (zdz w node uses kv4 zf9 zcG)):=by kernel_rfl
  refine zbm e ⟨hsafe,?_⟩
  intro X h0 h1
  refine h X (fun kv4 zaA hs=>h0 _ ?_) (fun y rest kv4 zaA hs=>h1 _ rest _ ?_)
  · rw [zp0 K X3 w node uses kv4 zaA];exact hs
  · have e2 := zp1 K X3 X y rest w node uses kv4 zaA
    rw [e2];exact hs
abbrev zlu (r:(Sl Tab)):List PA:=[.one (.sl r.len 80 (fun i=>zac (r.get i)))]
attribute [irreducible] zhZ zh0 zj1 zh1 zh2
def zn5 (S3:Int→(Sl Tab)→(Sl Tab)) (w:web) (node:Int) (uses:Int) (kv4:Int) (zaA:(Sl Tab)):(Sl Tab) :=
  (S3 (w64 (kv4+(1:Int))) zaA)
def zn6 (P3:Int→(Sl Tab)→Bool) (w:web) (node:Int) (uses:Int) (kv4:Int) (zaA:(Sl Tab)):Bool :=
  (P3 (w64 (kv4+(1:Int))) zaA)
def zn7 (S3:Int→(Sl Tab)→(Sl Tab)) (w:web) (node:Int) (uses:Int) (y4:step) (S4:Int→(Sl Tab)→(Sl Tab)) (kv4:Int) (zaA:(Sl Tab)):(Sl Tab) :=
  (cond (decide (y4.from_ ≥ node))
 (cond (decide (y4.to ≥ node))
 (cond (!(nvr (tg 80 (zaA.get ((w64 (kv4 - (1:Int))).toNat)) (0 + y4.to.toNat * 2 + 0)) (tg 80 (zaA.get ((w64 (kv4 - (1:Int))).toNat)) (0 + y4.to.toNat * 2 + 0 + 1))))
 (S4 kv4 (⟨zaA.len,(setT kv4.toNat (ts 80 (zaA.get kv4.toNat) (0+y4.from_.toNat * 2+0) [(zcb (⟨(tL (zaA.get kv4.toNat) y4.from_),(tU (zaA.get kv4.toNat) y4.from_)⟩:far) (⟨1,fun _=>(⟨(w64 ((tg 80 (zaA.get ((w64 (kv4 - (1:Int))).toNat)) (0+y4.to.toNat * 2+0))+y4.length)),(0:Int)⟩:far)⟩:(Sl far))).length,(zcb (⟨(tL (zaA.get kv4.toNat) y4.from_),(tU (zaA.get kv4.toNat) y4.from_)⟩:far) (⟨1,fun _=>(⟨(w64 ((tg 80 (zaA.get ((w64 (kv4 - (1:Int))).toNat)) (0+y4.to.toNat * 2+0))+y4.length)),(0:Int)⟩:far)⟩:(Sl far))).uses]) zaA.get)⟩:Sl Tab))
 (S4 kv4 zaA))
 (S4 kv4 zaA))
 (S4 kv4 zaA))
def zn8 (P3:Int→(Sl Tab)→Bool) (w:web) (node:Int) (uses:Int) (y4:step) (P4:Int→(Sl Tab)→Bool) (kv4:Int) (zaA:(Sl Tab)):Bool :=
  (decide ((0≤(w64 (kv4 - (1:Int)))∧(w64 (kv4 - (1:Int))) < (zaA.len:Int))) &&
 (decide ((0≤y4.to∧y4.to < (40:Int))) &&
 (decide (((w64 (kv4 - (1:Int))).toNat < zaA.len)) &&
 (cond (decide (y4.from_ ≥ node))
 (cond (decide (y4.to ≥ node))
 (cond (!(nvr (tg 80 (zaA.get ((w64 (kv4 - (1:Int))).toNat)) (0 + y4.to.toNat * 2 + 0)) (tg 80 (zaA.get ((w64 (kv4 - (1:Int))).toNat)) (0 + y4.to.toNat * 2 + 0 + 1))))
 (decide ((0≤kv4∧kv4 < (zaA.len:Int))) &&
 (decide ((0≤y4.from_∧y4.from_ < (40:Int))) &&
 (decide ((kv4.toNat < zaA.len)) &&
 (decide ((zvM (⟨(tL (zaA.get kv4.toNat) y4.from_),(tU (zaA.get kv4.toNat) y4.from_)⟩:far) (⟨1,fun _=>(⟨(w64 ((tg 80 (zaA.get ((w64 (kv4 - (1:Int))).toNat)) (0+y4.to.toNat * 2+0))+y4.length)),(0:Int)⟩:far)⟩:(Sl far))=true)) &&
 (decide ((0≤kv4∧kv4 < (zaA.len:Int))) &&
 (decide ((0≤y4.from_∧y4.from_ < (40:Int))) &&
 (decide ((kv4.toNat < zaA.len)) &&
 (P4 kv4 (⟨zaA.len,(setT kv4.toNat (ts 80 (zaA.get kv4.toNat) (0+y4.from_.toNat * 2+0) [(zcb (⟨(tL (zaA.get kv4.toNat) y4.from_),(tU (zaA.get kv4.toNat) y4.from_)⟩:far) (⟨1,fun _=>(⟨(w64 ((tg 80 (zaA.get ((w64 (kv4 - (1:Int))).toNat)) (0+y4.to.toNat * 2+0))+y4.length)),(0:Int)⟩:far)⟩:(Sl far))).length,(zcb (⟨(tL (zaA.get kv4.toNat) y4.from_),(tU (zaA.get kv4.toNat) y4.from_)⟩:far) (⟨1,fun _=>(⟨(w64 ((tg 80 (zaA.get ((w64 (kv4 - (1:Int))).toNat)) (0+y4.to.toNat * 2+0))+y4.length)),(0:Int)⟩:far)⟩:(Sl far))).uses]) zaA.get)⟩:Sl Tab)))))))))
 (P4 kv4 zaA))
 (P4 kv4 zaA))
 (P4 kv4 zaA)))))
def zh3 (S3 : Int → (Sl Tab) → (Sl Tab)) (w : web) (node : Int) (uses : Int) : List step → Int → (Sl Tab) → (Sl Tab)
  | []=>zn5 S3 w node uses
  | y :: r=>zn7 S3 w node uses y (zh3 S3 w node uses r)
def zh4 (P3 : Int → (Sl Tab) → Bool) (w : web) (node : Int) (uses : Int) : List step → Int → (Sl Tab) → Bool
  | []=>zn6 P3 w node uses
  | y :: r=>zn8 P3 w node uses y (zh4 P3 w node uses r)
def zug (S3:Int→(Sl Tab)→(Sl Tab)) (w:web) (node:Int) (uses:Int) (kv4:Int) (zaA:(Sl Tab)):(Sl Tab):=zh3 S3 w node uses (zik w) kv4 zaA
def zn9 (P3:Int→(Sl Tab)→Bool) (w:web) (node:Int) (uses:Int) (kv4:Int) (zaA:(Sl Tab)):Bool:=decide ((zmi w=true)) && zh4 P3 w node uses (zik w) kv4 zaA
theorem zBV (K : List PA → Prop) (w : web) (node : Int) (uses : Int)
  (X3:St→Prop) (P3:Int→(Sl Tab)→Bool) (S3:Int→(Sl Tab)→(Sl Tab))
  (hX3:∀ (kv3:Int) (zb6:(Sl Tab)) (zcg:Nat→List PV) (ziM:zcg=fun i=>zac (zb6.get i)),P3 kv3 zb6=true→K (zlu (S3 kv3 zb6))→X3 (zf7 w node uses kv3 zb6.len zcg)) (kv4:Int) (zaA:(Sl Tab)) (zcG:Nat→List PV) (ziN:zcG=fun i=>zac (zaA.get i)) (hs:zn9 P3 w node uses kv4 zaA=true) (hk:K (zlu (zug S3 w node uses kv4 zaA))):zh2 K X3 w node uses kv4 zaA.len zcG:=by
  unfold zn9 at hs
  rw [Bool.and_eq_true] at hs
  obtain ⟨hsf,hs⟩:=hs
  have hc:=of_decide_eq_true hsf
  refine zvx K X3 w node uses kv4 zaA.len zcG ⟨isE,rfl,hc⟩ ?_
  intro X4 hexit hstep
  have key:∀ (l:List step) (kv4:Int) (zaA:(Sl Tab)) (zcG:Nat→List PV) (ziN:zcG=fun i=>zac (zaA.get i)),zh4 P3 w node uses l kv4 zaA=true→K (zlu (zh3 S3 w node uses l kv4 zaA))→X4 (l.map fun y=>[.agg (zad y)]) (zdz w node uses kv4 zaA.len zcG):=by
    intro l
    induction l with
    | nil =>
      intro kv4 zaA zcG ziN hs hk
      subst ziN
      refine hexit kv4 zaA ?_
      have hs:zn6 P3 w node uses kv4 zaA=true:=hs
      have hk:K (zlu (zn5 S3 w node uses kv4 zaA)):=hk
      unfold zn6 at hs
      unfold zn5 at hk
      exact (hX3 (w64 (kv4+(1:Int))) zaA (fun i=>zac (zaA.get i)) rfl hs hk)
    | cons y4 l ih =>
      intro kv4 zaA zcG ziN hs hk
      subst ziN
      refine hstep y4 _ kv4 zaA ?_
      have hs:zn8 P3 w node uses y4 (zh4 P3 w node uses l) kv4 zaA=true:=hs
      have hk:K (zlu (zn7 S3 w node uses y4 (zh3 S3 w node uses l) kv4 zaA)):=hk
      unfold zn8 at hs
      unfold zn7 at hk
      generalize zh3 S3 w node uses l=S4 at hk ih
      generalize zh4 P3 w node uses l=P4 at hs ih
      have hX4:=ih
      exact (za4 hs fun hc hs => ⟨hc, (za4 hs fun hc hs => ⟨hc, (za4 hs fun hc hs => ⟨hc, (za0 (K := fun r => K (zlu r))
 (fun hs hk => (za0 (K := fun r => K (zlu r))
 (fun hs hk => (za0 (K := fun r => K (zlu r))
 (fun hs hk=>(za4 hs fun hc hs=>⟨hc,(za4 hs fun hc hs=>⟨hc,(za4 hs fun hc hs=>⟨hc,(za4 hs fun hc hs=>⟨⟨zxj,hc⟩,(za4 hs fun hc hs=>⟨hc,(za4 hs fun hc hs=>⟨hc,(za4 hs fun hc hs=>⟨hc,(hX4 kv4 (⟨zaA.len,(setT kv4.toNat (ts 80 (zaA.get kv4.toNat) (0+y4.from_.toNat * 2+0) [(zcb (⟨(tL (zaA.get kv4.toNat) y4.from_),(tU (zaA.get kv4.toNat) y4.from_)⟩:far) (⟨1,fun _=>(⟨(w64 ((tg 80 (zaA.get ((w64 (kv4 - (1:Int))).toNat)) (0+y4.to.toNat * 2+0))+y4.length)),(0:Int)⟩:far)⟩:(Sl far))).length,(zcb (⟨(tL (zaA.get kv4.toNat) y4.from_),(tU (zaA.get kv4.toNat) y4.from_)⟩:far) (⟨1,fun _=>(⟨(w64 ((tg 80 (zaA.get ((w64 (kv4 - (1:Int))).toNat)) (0+y4.to.toNat * 2+0))+y4.length)),(0:Int)⟩:far)⟩:(Sl far))).uses]) zaA.get)⟩:Sl Tab) (zjP kv4.toNat 0 (fun i=>zac (zaA.get i)) (zac (ts 80 (zaA.get kv4.toNat) (0+y4.from_.toNat * 2+0) [(zcb (⟨(tL (zaA.get kv4.toNat) y4.from_),(tU (zaA.get kv4.toNat) y4.from_)⟩:far) (⟨1,fun _=>(⟨(w64 ((tg 80 (zaA.get ((w64 (kv4 - (1:Int))).toNat)) (0+y4.to.toNat * 2+0))+y4.length)),(0:Int)⟩:far)⟩:(Sl far))).length,(zcb (⟨(tL (zaA.get kv4.toNat) y4.from_),(tU (zaA.get kv4.toNat) y4.from_)⟩:far) (⟨1,fun _=>(⟨(w64 ((tg 80 (zaA.get ((w64 (kv4 - (1:Int))).toNat)) (0+y4.to.toNat * 2+0))+y4.length)),(0:Int)⟩:far)⟩:(Sl far))).uses]))) (zmV (enc:=zac) (i:=kv4.toNat) (k:=0) (f:=zaA.get) (new:=(zac (ts 80 (zaA.get kv4.toNat) (0+y4.from_.toNat * 2+0) [(zcb (⟨(tL (zaA.get kv4.toNat) y4.from_),(tU (zaA.get kv4.toNat) y4.from_)⟩:far) (⟨1,fun _=>(⟨(w64 ((tg 80 (zaA.get ((w64 (kv4 - (1:Int))).toNat)) (0+y4.to.toNat * 2+0))+y4.length)),(0:Int)⟩:far)⟩:(Sl far))).length,(zcb (⟨(tL (zaA.get kv4.toNat) y4.from_),(tU (zaA.get kv4.toNat) y4.from_)⟩:far) (⟨1,fun _=>(⟨(w64 ((tg 80 (zaA.get ((w64 (kv4 - (1:Int))).toNat)) (0+y4.to.toNat * 2+0))+y4.length)),(0:Int)⟩:far)⟩:(Sl far))).uses]))) (v:=(ts 80 (zaA.get kv4.toNat) (0+y4.from_.toNat * 2+0) [(zcb (⟨(tL (zaA.get kv4.toNat) y4.from_),(tU (zaA.get kv4.toNat) y4.from_)⟩:far) (⟨1,fun _=>(⟨(w64 ((tg 80 (zaA.get ((w64 (kv4 - (1:Int))).toNat)) (0+y4.to.toNat * 2+0))+y4.length)),(0:Int)⟩:far)⟩:(Sl far))).length,(zcb (⟨(tL (zaA.get kv4.toNat) y4.from_),(tU (zaA.get kv4.toNat) y4.from_)⟩:far) (⟨1,fun _=>(⟨(w64 ((tg 80 (zaA.get ((w64 (kv4 - (1:Int))).toNat)) (0+y4.to.toNat * 2+0))+y4.length)),(0:Int)⟩:far)⟩:(Sl far))).uses])) rfl znQ) hs hk)⟩)⟩)⟩)⟩)⟩)⟩)⟩))
 (fun hs hk=>(hX4 kv4 zaA (fun i=>zac (zaA.get i)) rfl hs hk)) hs hk))
 (fun hs hk=>(hX4 kv4 zaA (fun i=>zac (zaA.get i)) rfl hs hk)) hs hk))
 (fun hs hk=>(hX4 kv4 zaA (fun i=>zac (zaA.get i)) rfl hs hk)) hs hk)⟩)⟩)⟩)
  exact key _ kv4 zaA zcG ziN hs hk
def zoa (w:web) (node:Int) (uses:Int) (S3:Int→(Sl Tab)→(Sl Tab)) (kv3:Int) (zb6:(Sl Tab)):(Sl Tab) :=
  (cond (decide (kv3 ≤ uses))
 (zug S3 w node uses kv3 zb6)
 zb6)
def zob (w:web) (node:Int) (uses:Int) (P3:Int→(Sl Tab)→Bool) (kv3:Int) (zb6:(Sl Tab)):Bool :=
  (cond (decide (kv3 ≤ uses))
 (zn9 P3 w node uses kv3 zb6)
 true)
def zh5 (w : web) (node : Int) (uses : Int) : Nat → Int → (Sl Tab) → (Sl Tab)
  | 0=>fun _ _=>default
  | k+1=>zoa w node uses (zh5 w node uses k)
def zh6 (w : web) (node : Int) (uses : Int) : Nat → Int → (Sl Tab) → Bool
  | 0=>fun _ _=>false
  | k+1=>zob w node uses (zh6 w node uses k)
def zuh (w:web) (node:Int) (uses:Int) (kv3:Int) (zb6:(Sl Tab)):(Sl Tab):=zh5 w node uses Fuel kv3 zb6
def zui (w:web) (node:Int) (uses:Int) (kv3:Int) (zb6:(Sl Tab)):Bool:=zh6 w node uses Fuel kv3 zb6
theorem zBW (K:List PA→Prop) (w:web) (node:Int) (uses:Int) (kv3:Int) (zb6:(Sl Tab)) (zcg:Nat→List PV) (ziM:zcg=fun i=>zac (zb6.get i)) (hs:zui w node uses kv3 zb6=true) (hk:K (zlu (zuh w node uses kv3 zb6))):zh1 K w node uses kv3 zb6.len zcg:=by
  refine zvw K w node uses kv3 zb6.len zcg ?_
  intro X3 hstep
  have key:∀ (k:Nat) (kv3:Int) (zb6:(Sl Tab)) (zcg:Nat→List PV) (ziM:zcg=fun i=>zac (zb6.get i)),zh6 w node uses k kv3 zb6=true→K (zlu (zh5 w node uses k kv3 zb6))→X3 (zf7 w node uses kv3 zb6.len zcg):=by
    intro k
    induction k with
    | zero=>intro kv3 zb6 zcg ziM hs;exact absurd hs Bool.false_ne_true
    | succ k ih =>
      intro kv3 zb6 zcg ziM hs hk
      subst ziM
      refine hstep kv3 zb6 ?_
      have hs:zob w node uses (zh6 w node uses k) kv3 zb6=true:=hs
      have hk:K (zlu (zoa w node uses (zh5 w node uses k) kv3 zb6)):=hk
      unfold zob at hs
      unfold zoa at hk
      generalize zh5 w node uses k=S3 at hk ih
      generalize zh6 w node uses k=P3 at hs ih
      have hX3:=ih
      exact (za0 (K := fun r => K (zlu r))
 (fun hs hk=>⟨⟨isE,rfl⟩,(zBV K w node uses X3 P3 S3 hX3 kv3 zb6 (fun i=>zac (zb6.get i)) rfl hs hk)⟩)
 (fun hs hk=>hk) hs hk)
  exact key _ kv3 zb6 zcg ziM hs hk
def zoc (w:web) (node:Int) (uses:Int) (zc6:(Sl Tab)):(Sl Tab) :=
  (zuh w node uses (1:Int) (⟨zc6.len,(setT 0 (ts 80 (zc6.get 0) (0+node.toNat * 2+0) [(0:Int),(0:Int)]) zc6.get)⟩:Sl Tab))
def zod (w:web) (node:Int) (uses:Int) (zc6:(Sl Tab)):Bool :=
  (decide ((0≤(0:Int)∧(0:Int) < (zc6.len:Int))) &&
 (decide ((0≤node∧node < (40:Int))) &&
 (decide ((0 < zc6.len)) &&
 (zui w node uses (1:Int) (⟨zc6.len,(setT 0 (ts 80 (zc6.get 0) (0+node.toNat * 2+0) [(0:Int),(0:Int)]) zc6.get)⟩:Sl Tab)))))
theorem zBX (K:List PA→Prop) (w:web) (node:Int) (uses:Int) (zc6:(Sl Tab)) (ziL:Nat→List PV) (zEX:ziL=fun i=>zac (zc6.get i)) (hs:zod w node uses zc6=true) (hk:K (zlu (zoc w node uses zc6))):zj1 K w node uses zc6.len ziL:=by
  subst zEX
  refine zbm (zBU K w node uses zc6) ?_
  unfold zod at hs
  unfold zoc at hk
  exact (za4 hs fun hc hs=>⟨hc,(za4 hs fun hc hs=>⟨hc,(za4 hs fun hc hs=>⟨hc,(zBW K w node uses (1:Int) (⟨zc6.len,(setT 0 (ts 80 (zc6.get 0) (0+node.toNat * 2+0) [(0:Int),(0:Int)]) zc6.get)⟩:Sl Tab) (zjP 0 0 (fun i=>zac (zc6.get i)) (zac (ts 80 (zc6.get 0) (0+node.toNat * 2+0) [(0:Int),(0:Int)]))) (zmV (enc:=zac) (i:=0) (k:=0) (f:=zc6.get) (new:=(zac (ts 80 (zc6.get 0) (0+node.toNat * 2+0) [(0:Int),(0:Int)]))) (v:=(ts 80 (zc6.get 0) (0+node.toNat * 2+0) [(0:Int),(0:Int)])) rfl znQ) hs hk)⟩)⟩)⟩)
def zoe (S0:Int→(Sl Tab)→(Sl Tab)) (w:web) (node:Int) (uses:Int) (S1:Int→Int→Int→(Sl Tab)→(Sl Tab)) (iv1:Int) (zau:Int) (zbM:Int) (zbH:(Sl Tab)):(Sl Tab) :=
  (cond (decide (zbM < (40:Int)))
 (S1 iv1 zau (w64 (zbM+(1:Int))) (⟨zbH.len,(setT iv1.toNat (ts 80 (zbH.get iv1.toNat) (0+zbM.toNat * 2+0) [(1000000000000:Int),(0:Int)]) zbH.get)⟩:Sl Tab))
 (S0 (w64 (zau+(1:Int))) zbH))
def zof (P0:Int→(Sl Tab)→Bool) (w:web) (node:Int) (uses:Int) (P1:Int→Int→Int→(Sl Tab)→Bool) (iv1:Int) (zau:Int) (zbM:Int) (zbH:(Sl Tab)):Bool :=
  (cond (decide (zbM < (40:Int)))
 (decide ((0≤iv1∧iv1 < (zbH.len:Int))) &&
 (decide ((0≤zbM∧zbM < (40:Int))) &&
 (decide ((iv1.toNat < zbH.len)) &&
 (P1 iv1 zau (w64 (zbM+(1:Int))) (⟨zbH.len,(setT iv1.toNat (ts 80 (zbH.get iv1.toNat) (0+zbM.toNat * 2+0) [(1000000000000:Int),(0:Int)]) zbH.get)⟩:Sl Tab)))))
 (P0 (w64 (zau+(1:Int))) zbH))
def zh7 (S0 : Int → (Sl Tab) → (Sl Tab)) (w : web) (node : Int) (uses : Int) : Nat → Int → Int → Int → (Sl Tab) → (Sl Tab)
  | 0=>fun _ _ _ _=>default
  | k+1=>zoe S0 w node uses (zh7 S0 w node uses k)
def zh8 (P0 : Int → (Sl Tab) → Bool) (w : web) (node : Int) (uses : Int) : Nat → Int → Int → Int → (Sl Tab) → Bool
  | 0=>fun _ _ _ _=>false
  | k+1=>zof P0 w node uses (zh8 P0 w node uses k)
def zuj (S0:Int→(Sl Tab)→(Sl Tab)) (w:web) (node:Int) (uses:Int) (iv1:Int) (zau:Int) (zbM:Int) (zbH:(Sl Tab)):(Sl Tab):=zh7 S0 w node uses Fuel iv1 zau zbM zbH
def zuk (P0:Int→(Sl Tab)→Bool) (w:web) (node:Int) (uses:Int) (iv1:Int) (zau:Int) (zbM:Int) (zbH:(Sl Tab)):Bool:=zh8 P0 w node uses Fuel iv1 zau zbM zbH
theorem zBY (K : List PA → Prop) (w : web) (node : Int) (uses : Int)
  (X0:St→Prop) (P0:Int→(Sl Tab)→Bool) (S0:Int→(Sl Tab)→(Sl Tab))
  (hX0:∀ (zb0:Int) (zb2:(Sl Tab)) (zcf:Nat→List PV) (ziO:zcf=fun i=>zac (zb2.get i)),P0 zb0 zb2=true→K (zlu (S0 zb0 zb2))→X0 (zf4 w node uses zb0 zb2.len zcf)) (iv1:Int) (zau:Int) (zbM:Int) (zbH:(Sl Tab)) (zcF:Nat→List PV) (zlv:zcF=fun i=>zac (zbH.get i)) (hs:zuk P0 w node uses iv1 zau zbM zbH=true) (hk:K (zlu (zuj S0 w node uses iv1 zau zbM zbH))):zh0 K X0 w node uses iv1 zau zbM zbH.len zcF:=by
  refine zvv K X0 w node uses iv1 zau zbM zbH.len zcF ?_
  intro X1 hstep
  have key:∀ (k:Nat) (iv1:Int) (zau:Int) (zbM:Int) (zbH:(Sl Tab)) (zcF:Nat→List PV) (zlv:zcF=fun i=>zac (zbH.get i)),zh8 P0 w node uses k iv1 zau zbM zbH=true→K (zlu (zh7 S0 w node uses k iv1 zau zbM zbH))→X1 (zhp w node uses iv1 zau zbM zbH.len zcF):=by
    intro k
    induction k with
    | zero=>intro iv1 zau zbM zbH zcF zlv hs;exact absurd hs Bool.false_ne_true
    | succ k ih =>
      intro iv1 zau zbM zbH zcF zlv hs hk
      subst zlv
      refine hstep iv1 zau zbM zbH ?_
      have hs:zof P0 w node uses (zh8 P0 w node uses k) iv1 zau zbM zbH=true:=hs
      have hk:K (zlu (zoe S0 w node uses (zh7 S0 w node uses k) iv1 zau zbM zbH)):=hk
      unfold zof at hs
      unfold zoe at hk
      generalize zh7 S0 w node uses k=S1 at hk ih
      generalize zh8 P0 w node uses k=P1 at hs ih
      have hX1:=ih
      exact (za0 (K := fun r => K (zlu r))
 (fun hs hk=>(za4 hs fun hc hs=>⟨hc,(za4 hs fun hc hs=>⟨hc,(za4 hs fun hc hs=>⟨hc,(hX1 iv1 zau (w64 (zbM+(1:Int))) (⟨zbH.len,(setT iv1.toNat (ts 80 (zbH.get iv1.toNat) (0+zbM.toNat * 2+0) [(1000000000000:Int),(0:Int)]) zbH.get)⟩:Sl Tab) (zjP iv1.toNat 0 (fun i=>zac (zbH.get i)) (zac (ts 80 (zbH.get iv1.toNat) (0+zbM.toNat * 2+0) [(1000000000000:Int),(0:Int)]))) (zmV (enc:=zac) (i:=iv1.toNat) (k:=0) (f:=zbH.get) (new:=(zac (ts 80 (zbH.get iv1.toNat) (0+zbM.toNat * 2+0) [(1000000000000:Int),(0:Int)]))) (v:=(ts 80 (zbH.get iv1.toNat) (0+zbM.toNat * 2+0) [(1000000000000:Int),(0:Int)])) rfl znQ) hs hk)⟩)⟩)⟩))
 (fun hs hk=>(hX0 (w64 (zau+(1:Int))) zbH (fun i=>zac (zbH.get i)) rfl hs hk)) hs hk)
  exact key _ iv1 zau zbM zbH zcF zlv hs hk
def zog (w:web) (node:Int) (uses:Int) (S0:Int→(Sl Tab)→(Sl Tab)) (zb0:Int) (zb2:(Sl Tab)):(Sl Tab) :=
  (cond (decide (zb0 < ((w64 (uses + (1:Int))).toNat : Int)))
 (zuj S0 w node uses zb0 zb0 (0:Int) zb2)
 (zoc w node uses zb2))
def zoh (w:web) (node:Int) (uses:Int) (P0:Int→(Sl Tab)→Bool) (zb0:Int) (zb2:(Sl Tab)):Bool :=
  (cond (decide (zb0 < ((w64 (uses + (1:Int))).toNat : Int)))
 (zuk P0 w node uses zb0 zb0 (0:Int) zb2)
 (zod w node uses zb2))
def zh9 (w : web) (node : Int) (uses : Int) : Nat → Int → (Sl Tab) → (Sl Tab)
  | 0=>fun _ _=>default
  | k+1=>zog w node uses (zh9 w node uses k)
def zia (w : web) (node : Int) (uses : Int) : Nat → Int → (Sl Tab) → Bool
  | 0=>fun _ _=>false
  | k+1=>zoh w node uses (zia w node uses k)
def zul (w:web) (node:Int) (uses:Int) (zb0:Int) (zb2:(Sl Tab)):(Sl Tab):=zh9 w node uses Fuel zb0 zb2
def zum (w:web) (node:Int) (uses:Int) (zb0:Int) (zb2:(Sl Tab)):Bool:=zia w node uses Fuel zb0 zb2
theorem zBZ (K:List PA→Prop) (w:web) (node:Int) (uses:Int) (zb0:Int) (zb2:(Sl Tab)) (zcf:Nat→List PV) (ziO:zcf=fun i=>zac (zb2.get i)) (hs:zum w node uses zb0 zb2=true) (hk:K (zlu (zul w node uses zb0 zb2))):zhZ K w node uses zb0 zb2.len zcf:=by
  refine zvu K w node uses zb0 zb2.len zcf ?_
  intro X0 hstep
  have key:∀ (k:Nat) (zb0:Int) (zb2:(Sl Tab)) (zcf:Nat→List PV) (ziO:zcf=fun i=>zac (zb2.get i)),zia w node uses k zb0 zb2=true→K (zlu (zh9 w node uses k zb0 zb2))→X0 (zf4 w node uses zb0 zb2.len zcf):=by
    intro k
    induction k with
    | zero=>intro zb0 zb2 zcf ziO hs;exact absurd hs Bool.false_ne_true
    | succ k ih =>
      intro zb0 zb2 zcf ziO hs hk
      subst ziO
      refine hstep zb0 zb2 ?_
      have hs:zoh w node uses (zia w node uses k) zb0 zb2=true:=hs
      have hk:K (zlu (zog w node uses (zh9 w node uses k) zb0 zb2)):=hk
      unfold zoh at hs
      unfold zog at hk
      generalize zh9 w node uses k=S0 at hk ih
      generalize zia w node uses k=P0 at hs ih
      have hX0:=ih
      exact (za0 (K := fun r => K (zlu r))
 (fun hs hk=>(zBY K w node uses X0 P0 S0 hX0 zb0 zb0 (0:Int) zb2 (fun i=>zac (zb2.get i)) rfl hs hk))
 (fun hs hk=>(zBX K w node uses zb2 (fun i=>zac (zb2.get i)) rfl hs hk)) hs hk)
  exact key _ zb0 zb2 zcf ziO hs hk
def zxT (w:web) (node:Int) (uses:Int):(Sl Tab) :=
  (zul w node uses (0:Int) (⟨(w64 (uses+(1:Int))).toNat,(fun _=>(fun _=>(0:Int)))⟩:Sl Tab))
def zII (w:web) (node:Int) (uses:Int):Bool :=
  (decide ((0≤(w64 (uses+(1:Int)))∧(w64 (uses+(1:Int)))=(w64 (uses+(1:Int)))∧(w64 (uses+(1:Int)))≤1000000)) &&
 (zum w node uses (0:Int) (⟨(w64 (uses+(1:Int))).toNat,(fun _=>(fun _=>(0:Int)))⟩:Sl Tab)))
theorem zMn (w:web) (node:Int) (uses:Int) (K:List PA→Prop) (hs:zII w node uses=true) (hk:K (zlu (zxT w node uses))):vcFun Tryd.prog zfH zbg 106 [.one (.fp (zaC w) 0),.one (.int .i64 node),.one (.int .i64 uses)] K:=by
  refine zbm (zBT w node uses K) ?_
  unfold zII at hs
  unfold zxT at hk
  exact (za4 hs fun hc hs=>⟨hc,(zBZ K w node uses (0:Int) (⟨(w64 (uses+(1:Int))).toNat,(fun _=>(fun _=>(0:Int)))⟩:Sl Tab) (fun _=>(zac (fun _=>(0:Int)))) rfl hs hk)⟩)
def zxU : List PA → COut
  | [.one (.fp [.int .i64 zar,.sl zal zaO zam,.fm zbJ zaS zaT] 0),.one (.int .i64 a1),.one (.int .i64 a2)]=>.det (IsE zai 4 zaO zam∧zbJ=(false,1,false,[none])∧zII (⟨(⟨zar,(⟨zal,zat zam⟩:(Sl Tie))⟩:Net),(⟨zaS,zaT⟩:Mp)⟩:web) a1 a2=true) [.one (.sl ((zxT (⟨(⟨zar,(⟨zal,zat zam⟩:(Sl Tie))⟩:Net),(⟨zaS,zaT⟩:Mp)⟩:web) a1 a2).len) 80 (fun i=>zac ((zxT (⟨(⟨zar,(⟨zal,zat zam⟩:(Sl Tie))⟩:Net),(⟨zaS,zaT⟩:Mp)⟩:web) a1 a2).get i)))]
  | _=>.no
theorem zEY:zay Tryd.prog 106:=⟨_,rfl,rfl,by kernel_rfl⟩
theorem zKR:Ok Tryd.prog 106 zxU:=zbY zIH zEY fun args K h=>by
  unfold zxU at h
  split at h
  · rename_i zar zal zaO zam zbJ zaS zaT a1 a2
    obtain ⟨⟨⟨rfl,zaB,rfl⟩,rfl,hs⟩,hk⟩:=h
    try rw [zav zaB] at hs
    try rw [zav zaB] at hk
    exact ⟨(fun _ _=>[]),(fun _=>false),zbg,zMn (⟨(⟨zar,(⟨zal,zaB⟩:(Sl Tie))⟩:Net),(⟨zaS,zaT⟩:Mp)⟩:web) a1 a2 K hs hk⟩
  · exact h.elim
abbrev zLY:Tabs:=Tabs.nil
theorem zIJ:TabsOk Tryd.prog zLY:=TabsOk.nil
abbrev zLZ:Ctrs:=csm zLY (fun _ _=>[]) (fun _=>false)
def zxV:Ann:=⟨18,[(0,zK [0] []),(1,zK [0,3] []),(2,zK [3,6,7,8] []),(3,zK [3,6,7,8,9] []),(4,zK [3,5,6,7,8] []),(5,zK [3,5,6,7,8,14] []),(6,zK [2] []),(7,zK [3,6,7,8] []),(8,zK [2] [])],
 [(3,zK [3,6,7,8] [])],
 [],
 [],[]⟩
abbrev zMo:=Int
abbrev zKS (r:zMo):List PA:=[.one (.int .i64 r)]
@[irreducible] def z100:=ptF Tryd.prog zLZ zxV Tryd.f100
def zxW (vals:(Sl Int)) (zdE:Int):St:=⟨[(3,zI (0:Int)),(6,zS enc_3 1 vals),(7,zI (vals.len:Int)),(8,zI zdE)],[],[]⟩
abbrev zC3 (K:List PA→Prop) (vals:(Sl Int)) (X:St→Prop) (P:Int→Bool) (S:Int→Int):Prop:=∀ ⦃zdE:Int⦄,P zdE=true→K (zKS (S zdE))→X (zxW vals zdE)
section
variable {K:List PA→Prop} {vals:(Sl Int)} {zdE:Int} {X0:St→Prop} {P0:Int→Bool} {S0:Int→Int}
def zun (vals:(Sl Int)) (S0:Int→Int) (zdE:Int):Int :=
  (cond (decide (zdE < (vals.len : Int)))
 (cond ((vals.get zdE.toNat) != (0:Int))
 (vals.get zdE.toNat)
 (S0 (w64 (zdE+(1:Int)))))
 (0:Int))
def zuo (vals:(Sl Int)) (P0:Int→Bool) (zdE:Int):Bool :=
  (cond (decide (zdE < (vals.len : Int)))
 (decide ((0≤zdE∧zdE < (vals.len:Int))) &&
 (cond ((vals.get zdE.toNat) != (0:Int))
 true
 (P0 (w64 (zdE+(1:Int))))))
 true)
def zup (vals:(Sl Int)):Nat→Int→Int:=lpO (fun _=>default) (zun vals)
def zuq (vals:(Sl Int)):Nat→Int→Bool:=lpO (fun _=>false) (zuo vals)
def zur (vals:(Sl Int)) (zdE:Int):Int:=zup vals Fuel zdE
def zus (vals:(Sl Int)) (zdE:Int):Bool:=zuq vals Fuel zdE
theorem zB0 (hs:zus vals zdE=true) (hk:K (zKS (zur vals zdE))):z100 K [1,1,0,1,0] [] (zxW vals zdE) :=
  zl (fun X=>z100 K [1,1,0,1,0,0] [X]) (by kernel_rfl) fun X0 hX =>
  (show ∀ k, zC3 K vals X0 (zuq vals k) (zup vals k) from zjK _ _ (zuo vals) (zun vals) (zC3 K vals X0)
 (by intro _ hs;exact absurd hs Bool.false_ne_true)
 (by intro P0 S0 hX0 zdE hs hk;exact hX _ (zbm (by kernel_rfl) (zc hs hk (fun hs hk=>(za4 hs fun hc hs=>And.intro hc (zc hs hk (fun hs hk=>hk) (fun hs hk=>(hX0 hs hk))))) (fun hs hk=>hk))))) _ hs hk
def zKT (vals:(Sl Int)):Int :=
  (zur vals (0:Int))
def zKU (vals:(Sl Int)):Bool :=
  (zus vals (0:Int))
end
theorem zMp (vals:(Sl Int)) (K:List PA→Prop) (hs:zKU vals=true) (hk:K (zKS (zKT vals))):vcFun Tryd.prog zLZ zxV 100 [.one (.sl vals.len 1 (fun i=>enc_3 (vals.get i)))] K :=
  zbm (by kernel_rfl) (zB0 hs hk)
def zxX : List PA → COut
  | [.one (.sl ze3 zlw ze4)]=>.det (IsE enc_3 1 zlw ze4∧zKU (⟨ze3,zax ze4⟩:(Sl Int))=true) [.one (.int .i64 (zKT (⟨ze3,zax ze4⟩:(Sl Int))))]
  | _=>.no
theorem zEZ:zay Tryd.prog 100:=⟨_,rfl,rfl,by kernel_rfl⟩
theorem zKV:Ok Tryd.prog 100 zxX:=zbY zIJ zEZ fun args K h=>by
  unfold zxX at h
  split at h
  · rename_i ze3 zlw ze4
    obtain ⟨⟨⟨rfl,zhq,rfl⟩,hs⟩,hk⟩:=h
    try rw [zbe zhq] at hs
    try rw [zbe zhq] at hk
    exact ⟨(fun _ _=>[]),(fun _=>false),zxV,zMp (⟨ze3,zhq⟩:(Sl Int)) K hs hk⟩
  · exact h.elim
abbrev zL0:Tabs:=Tabs.nil
theorem zIK:TabsOk Tryd.prog zL0:=TabsOk.nil
abbrev zMq:Ctrs:=csm zL0 (fun _ _=>[]) (fun _=>false)
def zC4:Ann:=⟨6,[(0,zK [0] []),(1,zK [2] [])],
 [],
 [],
 [],[]⟩
abbrev zMr:=Bool
abbrev zMs (r:zMr):List PA:=[.one (.bool r)]
section
variable {K:List PA→Prop} {x:Int}
def zIL (x:Int):Bool :=
  (x != x)
end
theorem zMt (x:Int) (K:List PA→Prop) (hk:K (zMs (zIL x))):vcFun Tryd.prog zMq zC4 114 [.one (.int .i64 x)] K :=
  zbm (by kernel_rfl) hk
def zxY : List PA → COut
  | [.one (.int .i64 a0)]=>.tot [.one (.bool (zIL a0))]
  | _=>.no
theorem zE0:zay Tryd.prog 114:=⟨_,rfl,rfl,by kernel_rfl⟩
theorem zKW:Ok Tryd.prog 114 zxY:=zbY zIK zE0 fun args K h=>by
  unfold zxY at h
  split at h
  · rename_i a0
    have hk:=h
    exact ⟨(fun _ _=>[]),(fun _=>false),zC4,zMt a0 K hk⟩
  · exact h.elim
abbrev zL1:Tabs:=(Tabs.nil.addF 114 zxY)
theorem zIM:TabsOk Tryd.prog zL1:=(TabsOk.nil.addF zKW)
abbrev zMu:Ctrs:=csm zL1 (fun _ _=>[]) (fun _=>false)
def zC5:Ann:=⟨20,[(0,zK [0,1] []),(1,zK [0,1,5] []),(2,zK [0,1,5,6] []),(3,zK [0,1,6,11] []),(4,zK [12] []),(5,zK [4] []),(6,zK [4] []),(7,zK [0,1,13] []),(8,zK [4] []),(9,zK [0,1,16] []),(10,zK [4] []),(11,zK [19] []),(12,zK [4] []),(13,zK [4] [])],
 [],
 [],
 [],[]⟩
abbrev zMv:=Int
abbrev zMw (r:zMv):List PA:=[.one (.int .i64 r)]
section
variable {K:List PA→Prop} {x:Int} {y_a1:Int}
def zAL (x:Int) (y_a1:Int):Int :=
  (cond (zIL x)
 (cond (zIL y_a1)
 (0:Int)
 (-1:Int))
 (cond (zIL y_a1)
 (1:Int)
 (cond (decide (x < y_a1))
 (-1:Int)
 (cond (decide (x > y_a1))
 (1:Int)
 (0:Int)))))
end
theorem zMx (x:Int) (y_a1:Int) (K:List PA→Prop) (hk:K (zMw (zAL x y_a1))):vcFun Tryd.prog zMu zC5 101 [.one (.int .i64 x),.one (.int .i64 y_a1)] K :=
  zbm (by kernel_rfl) (zt hk (fun hk=>(zt hk (fun hk=>hk) (fun hk=>hk))) (fun hk=>(zt hk (fun hk=>hk) (fun hk=>(zt hk (fun hk=>hk) (fun hk=>(zt hk (fun hk=>hk) (fun hk=>hk))))))))
def zut : List PA → COut
  | [.one (.int .i64 a0),.one (.int .i64 a1)]=>.tot [.one (.int .i64 (zAL a0 a1))]
  | _=>.no
theorem zE1:zay Tryd.prog 101:=⟨_,rfl,rfl,by kernel_rfl⟩
theorem zIN:Ok Tryd.prog 101 zut:=zbY zIM zE1 fun args K h=>by
  unfold zut at h
  split at h
  · rename_i a0 a1
    have hk:=h
    exact ⟨(fun _ _=>[]),(fun _=>false),zC5,zMx a0 a1 K hk⟩
  · exact h.elim
abbrev zL2:Tabs:=Tabs.nil
theorem zIO:TabsOk Tryd.prog zL2:=TabsOk.nil
abbrev zMy:Ctrs:=csm zL2 (fun _ _=>[]) (fun _=>false)
def zC6:Ann:=⟨6,[(0,zK [1] [1]),(1,zK [5] []),(2,zK [2] []),(3,zK [2] [])],
 [],
 [],
 [],[]⟩
abbrev zMz:=Int
abbrev e118 (r:zMz):List PA:=[.one (.int .i64 r)]
section
variable {K:List PA→Prop} {s:step}
def zC7 (s:step):Int :=
  (cond s.Use.Back
 (1:Int)
 (0:Int))
end
theorem zMA (s:step) (K:List PA→Prop) (hk:K (e118 (zC7 s))):vcFun Tryd.prog zMy zC6 118 [.agg (zad s)] K :=
  zbm (by kernel_rfl) (zt hk (fun hk=>hk) (fun hk=>hk))
def zxZ : List PA → COut
  | [.agg [.int .i64 zc9,.bool zcR,.int .i64 zex,.int .i64 zp2,.int .i64 zcz]]=>.tot [.one (.int .i64 (zC7 (⟨(⟨zc9,zcR⟩:Use),zex,zp2,zcz⟩:step)))]
  | _=>.no
theorem zE2:zay Tryd.prog 118:=⟨_,rfl,rfl,by kernel_rfl⟩
theorem zKX:Ok Tryd.prog 118 zxZ:=zbY zIO zE2 fun args K h=>by
  unfold zxZ at h
  split at h
  · rename_i zc9 zcR zex zp2 zcz
    have hk:=h
    exact ⟨(fun _ _=>[]),(fun _=>false),zC6,zMA (⟨(⟨zc9,zcR⟩:Use),zex,zp2,zcz⟩:step) K hk⟩
  · exact h.elim
abbrev zL3:Tabs:=(((Tabs.nil.addF 100 zxX).addF 101 zut).addF 118 zxZ)
theorem zIP:TabsOk Tryd.prog zL3:=(((TabsOk.nil.addF zKV).addF zIN).addF zKX)
abbrev zMB:Ctrs:=csm zL3 (fun _ _=>[]) (fun _=>false)
def zC8:Ann:=⟨22,[(0,zK [2,3] [2,3]),(1,zK [2,3,5] [2,3]),(2,zK [4] [])],
 [],
 [],
 [],[]⟩
abbrev zMC:=Int
abbrev e108 (r:zMC):List PA:=[.one (.int .i64 r)]
section
variable {K:List PA→Prop} {a:step} {b:step}
def zKi (a:step) (b:step):Int :=
  (zKT (⟨2,zax (zbQ [(enc_3 (zAL a.Use.Tie b.Use.Tie)),(enc_3 (zAL (zC7 a) (zC7 b)))])⟩:(Sl Int)))
def zKY (a:step) (b:step):Bool :=
  (decide ((zKU (⟨2,zax (zbQ [(enc_3 (zAL a.Use.Tie b.Use.Tie)),(enc_3 (zAL (zC7 a) (zC7 b)))])⟩:(Sl Int))=true)) &&
 true)
end
theorem zMD (a:step) (b:step) (K:List PA→Prop) (hs:zKY a b=true) (hk:K (e108 (zKi a b))):vcFun Tryd.prog zMB zC8 108 [.agg (zad a),.agg (zad b)] K :=
  zbm (by kernel_rfl) (za4 hs fun hc hs=>And.intro (And.intro ((zet []):IsE enc_3 1 1 (zbQ [(enc_3 (zAL a.Use.Tie b.Use.Tie)),(enc_3 (zAL (zC7 a) (zC7 b)))])) hc) hk)
def zx0 : List PA → COut
  | [.agg [.int .i64 zc9,.bool zcR,.int .i64 zex,.int .i64 zp2,.int .i64 zcz],.agg [.int .i64 zgC,.bool zft,.int .i64 zj2,.int .i64 zB1,.int .i64 zce]]=>.det (zKY (⟨(⟨zc9,zcR⟩:Use),zex,zp2,zcz⟩:step) (⟨(⟨zgC,zft⟩:Use),zj2,zB1,zce⟩:step)=true) [.one (.int .i64 (zKi (⟨(⟨zc9,zcR⟩:Use),zex,zp2,zcz⟩:step) (⟨(⟨zgC,zft⟩:Use),zj2,zB1,zce⟩:step)))]
  | _=>.no
theorem zE3:zay Tryd.prog 108:=⟨_,rfl,rfl,by kernel_rfl⟩
theorem zKZ:Ok Tryd.prog 108 zx0:=zbY zIP zE3 fun args K h=>by
  unfold zx0 at h
  split at h
  · rename_i zc9 zcR zex zp2 zcz zgC zft zj2 zB1 zce
    obtain ⟨hs,hk⟩:=h
    exact ⟨(fun _ _=>[]),(fun _=>false),zC8,zMD (⟨(⟨zc9,zcR⟩:Use),zex,zp2,zcz⟩:step) (⟨(⟨zgC,zft⟩:Use),zj2,zB1,zce⟩:step) K hs hk⟩
  · exact h.elim
abbrev zL4:Tabs:=(Tabs.nil.addF 108 zx0)
theorem zIQ:TabsOk Tryd.prog zL4:=(TabsOk.nil.addF zKZ)
abbrev zL5:Ctrs:=csm zL4 (fun _ _=>[]) (fun _=>false)
def zx1:Ann:=⟨39,[(0,zK [0,1,2] []),(1,zK [0,1,2,11,12,13] []),(2,zK [0,1,2,11,12,13,14] []),(3,zK [0,1,2,7,8,11,12,13] [8]),(4,zK [0,1,2,7,8,11,12,13,21] [8]),(5,zK [6] []),(6,zK [0,1,2,8,9,11,12,13] [8,9]),(7,zK [0,1,2,10,11,12,13] []),(8,zK [0,1,2,10,11,12,13,31] []),(9,zK [6] []),(10,zK [0,1,2,11,12,13] []),(11,zK [38] []),(12,zK [6] []),(13,zK [6] [])],
 [(2,zK [0,1,2,11,12,13] [])],
 [(6,zK [0,1,2,7,8,11,12,13] [8]),(8,zK [0,1,2,10,11,12,13] [])],
 [],[]⟩
abbrev zME:=Int
abbrev zIR (r:zME):List PA:=[.one (.int .i64 r)]
@[irreducible] def z107:=ptF Tryd.prog zL5 zx1 Tryd.f107
def zx2 (zeH:(Sl step)) (zec:(Sl step)) (za3:(Sl step)) (zbs:Int) (zcH:Int) (zds:Nat→List PV) (zdt:Nat→List PV) (zga:Nat→List PV):St:=⟨[(0,zP (.sl zeH.len 5 zds)),(1,zP (.sl zec.len 5 zdt)),(2,zP (.fn 108 [] [])),(11,zP (.sl za3.len 5 zga)),(12,zI zbs),(13,zI zcH)],[],[]⟩
abbrev zuu (K:List PA→Prop) (X:St→Prop) (P:(Sl step)→(Sl step)→(Sl step)→Int→Int→Bool) (S:(Sl step)→(Sl step)→(Sl step)→Int→Int→Int):Prop:=∀ ⦃zeH:(Sl step)⦄ ⦃zec:(Sl step)⦄ ⦃za3:(Sl step)⦄ ⦃zbs:Int⦄ ⦃zcH:Int⦄ ⦃zds:Nat→List PV⦄ ⦃zdt:Nat→List PV⦄ ⦃zga:Nat→List PV⦄,P zeH zec za3 zbs zcH=true→K (zIR (S zeH zec za3 zbs zcH))→zds=zg zad zeH→zdt=zg zad zec→zga=zg zad za3→X (zx2 zeH zec za3 zbs zcH zds zdt zga)
section
variable {K:List PA→Prop} {s1_a0:(Sl step)} {s2_a1:(Sl step)} {zeH:(Sl step)} {zec:(Sl step)} {za3:(Sl step)} {zbs:Int} {zcH:Int} {zds:Nat→List PV} {zdt:Nat→List PV} {zga:Nat→List PV} {X0:St→Prop} {P0:(Sl step)→(Sl step)→(Sl step)→Int→Int→Bool} {S0:(Sl step)→(Sl step)→(Sl step)→Int→Int→Int} {zp3:(Sl step)} {zj3:(Sl step)} {iv1:Int} {zc0:(Sl step)} {zbf:Int} {zr1:Int} {zjy:Int} {zjz:Bool} {zjA:Int} {zjB:Int} {zjC:Int} {zp4:Nat→List PV} {zp5:Nat→List PV} {zx3:Nat→List PV} {zp6:(Sl step)} {zp7:(Sl step)} {cv2:Int} {zr2:Int} {zp8:Nat→List PV} {zp9:Nat→List PV}
def zuv (S0:(Sl step)→(Sl step)→(Sl step)→Int→Int→Int) (zc0:(Sl step)) (zbf:Int) (zp6:(Sl step)) (zp7:(Sl step)) (cv2:Int) (zr2:Int):Int :=
  (cond (cv2 != (0:Int))
 cv2
 (S0 zp6 zp7 zc0 zbf (w64 (zr2+(1:Int)))))
def zuw (P0:(Sl step)→(Sl step)→(Sl step)→Int→Int→Bool) (zc0:(Sl step)) (zbf:Int) (zp6:(Sl step)) (zp7:(Sl step)) (cv2:Int) (zr2:Int):Bool :=
  (cond (cv2 != (0:Int))
 true
 (P0 zp6 zp7 zc0 zbf (w64 (zr2+(1:Int)))))
theorem zB2 (hX0:zuu K X0 P0 S0) (hs:zuw P0 zc0 zbf zp6 zp7 cv2 zr2=true) (hk:K (zIR (zuv S0 zc0 zbf zp6 zp7 cv2 zr2))) (zx4:zp8=zg zad zp6) (zx5:zp9=zg zad zp7):z107 K [1,0,1,0,0,1,1,0,0,1,1,1,1] [X0] ⟨[(0,zP (.sl zp6.len 5 zp8)),(1,zP (.sl zp7.len 5 zp9)),(2,zP (.fn 108 [] [])),(10,zI cv2),(11,zS zad 5 zc0),(12,zI zbf),(13,zI zr2)],[],[]⟩:=by subst zx4;subst zx5;exact zbm (by kernel_rfl) (zc hs hk (fun hs hk=>hk) (fun hs hk=>(hX0 hs hk rfl rfl rfl)))
def zux (S0:(Sl step)→(Sl step)→(Sl step)→Int→Int→Int) (zp3:(Sl step)) (zj3:(Sl step)) (iv1:Int) (zc0:(Sl step)) (zbf:Int) (zr1:Int) (zjy:Int) (zjz:Bool) (zjA:Int) (zjB:Int) (zjC:Int):Int :=
  (zuv S0 zc0 zbf zp3 zj3 (zKi (⟨(⟨zjy,zjz⟩:Use),zjA,zjB,zjC⟩:step) (zj3.get iv1.toNat)) zr1)
def zuy (P0:(Sl step)→(Sl step)→(Sl step)→Int→Int→Bool) (zp3:(Sl step)) (zj3:(Sl step)) (iv1:Int) (zc0:(Sl step)) (zbf:Int) (zr1:Int) (zjy:Int) (zjz:Bool) (zjA:Int) (zjB:Int) (zjC:Int):Bool :=
  (decide ((0≤iv1∧iv1 < (zj3.len:Int))) &&
 (decide ((zKY (⟨(⟨zjy,zjz⟩:Use),zjA,zjB,zjC⟩:step) (zj3.get iv1.toNat)=true)) &&
 (zuw P0 zc0 zbf zp3 zj3 (zKi (⟨(⟨zjy,zjz⟩:Use),zjA,zjB,zjC⟩:step) (zj3.get iv1.toNat)) zr1)))
theorem zB3 (hX0:zuu K X0 P0 S0) (hs:zuy P0 zp3 zj3 iv1 zc0 zbf zr1 zjy zjz zjA zjB zjC=true) (hk:K (zIR (zux S0 zp3 zj3 iv1 zc0 zbf zr1 zjy zjz zjA zjB zjC))) (zx6:zp4=zg zad zp3) (zx7:zp5=zg zad zj3) (zE4:zx3=zg zad zc0):z107 K [1,0,1,0,0,1,1,0,0,1,1] [X0] ⟨[(0,zP (.sl zp3.len 5 zp4)),(1,zP (.sl zj3.len 5 zp5)),(2,zP (.fn 108 [] [])),(7,zI iv1),(8,zp 8 0),(11,zP (.sl zc0.len 5 zx3)),(12,zI zbf),(13,zI zr1)],[(8,.box 130 (zm (zad (⟨(⟨zjy,zjz⟩:Use),zjA,zjB,zjC⟩:step))))],[]⟩:=by subst zx6;subst zx7;subst zE4;exact zbm (by kernel_rfl) (za4 hs fun hc hs=>And.intro hc (za4 hs fun hc hs=>And.intro hc (zB2 hX0 hs hk rfl rfl)))
def zuz (S0:(Sl step)→(Sl step)→(Sl step)→Int→Int→Int) (zeH:(Sl step)) (zec:(Sl step)) (za3:(Sl step)) (zbs:Int) (zcH:Int):Int :=
  (cond (decide (zcH < zbs))
 (cond (decide (zcH ≥ (zec.len : Int)))
 (1:Int)
 (zux S0 zeH zec zcH za3 zbs zcH ((za3.get zcH.toNat).Use.Tie) ((za3.get zcH.toNat).Use.Back) ((za3.get zcH.toNat).from_) ((za3.get zcH.toNat).to) ((za3.get zcH.toNat).length)))
 (cond (decide ((zeH.len : Int) < (zec.len : Int)))
 (-1:Int)
 (0:Int)))
def zuA (P0:(Sl step)→(Sl step)→(Sl step)→Int→Int→Bool) (zeH:(Sl step)) (zec:(Sl step)) (za3:(Sl step)) (zbs:Int) (zcH:Int):Bool :=
  (cond (decide (zcH < zbs))
 (decide ((0≤zcH∧zcH < (za3.len:Int))) &&
 (cond (decide (zcH ≥ (zec.len : Int)))
 true
 (zuy P0 zeH zec zcH za3 zbs zcH ((za3.get zcH.toNat).Use.Tie) ((za3.get zcH.toNat).Use.Back) ((za3.get zcH.toNat).from_) ((za3.get zcH.toNat).to) ((za3.get zcH.toNat).length))))
 true)
def zuB:Nat→(Sl step)→(Sl step)→(Sl step)→Int→Int→Int:=lpO (fun _ _ _ _ _=>default) (zuz)
def zuC:Nat→(Sl step)→(Sl step)→(Sl step)→Int→Int→Bool:=lpO (fun _ _ _ _ _=>false) (zuA)
def zuD (zeH:(Sl step)) (zec:(Sl step)) (za3:(Sl step)) (zbs:Int) (zcH:Int):Int:=zuB Fuel zeH zec za3 zbs zcH
def zuE (zeH:(Sl step)) (zec:(Sl step)) (za3:(Sl step)) (zbs:Int) (zcH:Int):Bool:=zuC Fuel zeH zec za3 zbs zcH
theorem zB4 (hs:zuE zeH zec za3 zbs zcH=true) (hk:K (zIR (zuD zeH zec za3 zbs zcH))) (zlx:zds=zg zad zeH) (zly:zdt=zg zad zec) (zr3:zga=zg zad za3):z107 K [1,0,1,0] [] (zx2 zeH zec za3 zbs zcH zds zdt zga) :=
  zl (fun X=>z107 K [1,0,1,0,0] [X]) (by kernel_rfl) fun X0 hX =>
  (show ∀ k, zuu K X0 (zuC k) (zuB k) from zjK _ _ (zuA) (zuz) (zuu K X0)
 (by intro _ _ _ _ _ _ _ _ hs;exact absurd hs Bool.false_ne_true)
 (by intro P0 S0 hX0 zeH zec za3 zbs zcH zds zdt zga hs hk zlx zly zr3;subst zlx;subst zly;subst zr3;exact hX _ (zbm (by kernel_rfl) (zc hs hk (fun hs hk=>(za4 hs fun hc hs=>And.intro hc (zc hs hk (fun hs hk=>hk) (fun hs hk=>(zB3 hX0 hs hk rfl rfl rfl))))) (fun hs hk=>(zt hk (fun hk=>hk) (fun hk=>hk))))))) _ hs hk zlx zly zr3
def zHr (s1_a0:(Sl step)) (s2_a1:(Sl step)):Int :=
  (zuD s1_a0 s2_a1 s1_a0 (s1_a0.len:Int) (0:Int))
def zKj (s1_a0:(Sl step)) (s2_a1:(Sl step)):Bool :=
  (zuE s1_a0 s2_a1 s1_a0 (s1_a0.len:Int) (0:Int))
end
theorem zMF (s1_a0:(Sl step)) (s2_a1:(Sl step)) (K:List PA→Prop) (hs:zKj s1_a0 s2_a1=true) (hk:K (zIR (zHr s1_a0 s2_a1))):vcFun Tryd.prog zL5 zx1 107 [.one (.sl s1_a0.len 5 (fun i=>zad (s1_a0.get i))),.one (.sl s2_a1.len 5 (fun i=>zad (s2_a1.get i))),.one (.fn 108 [] [])] K :=
  zbm (by kernel_rfl) (zB4 hs hk rfl rfl rfl)
def zx8 : List PA → COut
  | [.one (.sl ze3 zlw ze4),.one (.sl zc1 zfK zcZ),.one (.fn 108 [] [])]=>.det (IsE zad 5 zlw ze4∧IsE zad 5 zfK zcZ∧zKj (⟨ze3,zhX ze4⟩:(Sl step)) (⟨zc1,zhX zcZ⟩:(Sl step))=true) [.one (.int .i64 (zHr (⟨ze3,zhX ze4⟩:(Sl step)) (⟨zc1,zhX zcZ⟩:(Sl step))))]
  | _=>.no
theorem zE5:zay Tryd.prog 107:=⟨_,rfl,rfl,by kernel_rfl⟩
theorem zK1:Ok Tryd.prog 107 zx8:=zbY zIQ zE5 fun args K h=>by
  unfold zx8 at h
  split at h
  · rename_i ze3 zlw ze4 zc1 zfK zcZ
    obtain ⟨⟨⟨rfl,zhq,rfl⟩,⟨rfl,zd5,rfl⟩,hs⟩,hk⟩:=h
    try rw [zeu zhq] at hs
    try rw [zeu zhq] at hk
    try rw [zeu zd5] at hs
    try rw [zeu zd5] at hk
    exact ⟨(fun _ _=>[]),(fun _=>false),zx1,zMF (⟨ze3,zhq⟩:(Sl step)) (⟨zc1,zd5⟩:(Sl step)) K hs hk⟩
  · exact h.elim
abbrev T89:Tabs:=((((Tabs.nil.addF 93 zpI).addF 106 zxU).addF 107 zx8).addI 110 zpK)
theorem zK2:TabsOk Tryd.prog T89:=((((TabsOk.nil.addF zHq).addF zKR).addF zK1).addI zvt)
abbrev G89:Ctrs:=csm T89 (fun _ _=>[]) (fun _=>false)
def zaX:Ann:=⟨148,[(0,zK [0] []),(1,zK [0,3] [21]),(2,zK [0,3,23,24] [21]),(3,zK [0,3,23,24,25] [21]),(4,zK [0,3,4,23,24] [21]),(5,zK [0,3,23,24] [21]),(6,zK [0,3,23,24] [21]),(7,zK [0,3] [21]),(8,zK [0,3,5] [21]),(9,zK [0,3,5,45] [21]),(10,zK [0,3,5] [21]),(11,zK [0,3,5,48,49,50] [21]),(12,zK [0,3,5,48,49,50,51] [21]),(13,zK [0,3,5,6,7,48,49,50] [21]),(14,zK [0,3,5,48,49,50,62] [21]),(15,zK [0,3,5,48,49,50] [21]),(16,zK [0,3,5,8] [21]),(17,zK [0,5,8,64,65,66] [21]),(18,zK [0,5,8,64,65,66,67] [21]),(19,zK [0,5,8,9,10,64,65,66] [9,10,21]),(20,zK [0,5,8,9,10,64,65,66,78] [9,10,21]),(21,zK [0,5,8,9,10,11,64,65,66] [9,10,11,21]),(22,zK [0,5,8,9,10,11,12,13,64,65,66] [9,10,11,12,13,21]),(23,zK [0,5,8,9,10,11,12,13,14,64,65,66] [9,10,11,12,13,14,21]),(24,zK [0,5,8,9,10,11,12,13,14,64,65,66,83] [9,10,11,12,13,14,21,129]),(25,zK [0,5,8,9,10,11,12,13,14,64,65,66] [9,10,11,12,13,14,21,129]),(26,zK [0,5,8,9,10,11,12,13,14,64,65,66,87] [9,10,11,12,13,14,21,129]),(27,zK [0,5,8,9,10,11,12,13,14,15,64,65,66,87] [9,10,11,12,13,14,15,21,129]),(28,zK [0,5,8,9,10,11,12,13,14,15,64,65,66,87,125] [9,10,11,12,13,14,15,21,129]),(29,zK [0,5,8,9,10,11,12,13,14,15,64,65,66] [9,10,11,12,13,14,15,21,129]),(30,zK [0,5,8,9,10,11,12,13,14,64,65,66] [9,10,11,12,13,14,21,129]),(31,zK [0,5,8,9,10,11,12,13,64,65,66,136] [9,10,11,12,13,21,129]),(32,zK [0,5,8,9,10,11,12,13,14,64,65,66] [9,10,11,12,13,14,21,129]),(33,zK [0,5,8,11,64,65,66,144] [11,21,129]),(34,zK [0,5,8,64,65,66] [21,129]),(35,zK [0,5,8,64,65,66] [21,129]),(36,zK [2] [])],
 [(3,zK [0,3,23,24] [21]),(9,zK [0,3,5] [21]),(12,zK [0,3,5,48,49,50] [21]),(18,⟨[0,5,8,64,65,66],[21],[],[],[],[],[(8,1005,fun _=>zad default)]⟩),(24,⟨[0,5,8,9,10,11,12,13,14,64,65,66],[9,10,11,12,13,14,21,129],[],[(11,0,129,130,fun _=>zad default)],[],[],[]⟩),(27,zK [0,5,8,9,10,11,12,13,14,64,65,66,87] [9,10,11,12,13,14,21,129])],
 [(7,zK [0,3] [21]),(16,zK [0,3,5] [21]),(34,zK [0,5,8,11,64,65,66,144] [11,21,129])],
 [],[]⟩
def zlz (w:web) (zbw:Int) (zgb:Nat) (zcI:Nat→List PV):St:=⟨[(0,.one (.c (.p (.fp (zaC w) 0)))),(3,.one (.c (.vec 21))),(23,.one (.c (.p (.int .i64 (w.Net.Nodes.toNat:Int))))),(24,.one (.c (.p (.int .i64 zbw))))],[(21,.vec 159 1 24 zgb zcI)],[]⟩
def zlA (K:List PA→Prop) (w:web) (zbw:Int) (zgb:Nat) (zcI:Nat→List PV):Prop:=vc Tryd.prog G89 zaX (cdF Tryd.f89 [1,0,1,0,1,0]) (zak 0 (sqK Tryd.prog G89 zaX (cdF Tryd.f89 [1,0,1,1]) (zcx (zbn Tryd.prog Tryd.f89 K)))) (zlz w zbw zgb zcI)
def zIS (w:web) (zr4:Nat) (ziP:Nat→List PV):St:=⟨[(0,.one (.c (.p (.fp (zaC w) 0)))),(3,.one (.c (.vec 21)))],[(21,.vec 159 1 24 zr4 ziP)],[]⟩
def zoi (K:List PA→Prop) (w:web) (zr4:Nat) (ziP:Nat→List PV):Prop:=vc Tryd.prog G89 zaX (cdF Tryd.f89 [1,0,1,1]) (zcx (zbn Tryd.prog Tryd.f89 K)) (zIS w zr4 ziP)
def zjD (w:web) (zaL:(Sl (Sl Tab))) (zbd:Int):St:=⟨[(0,.one (.c (.p (.fp (zaC w) 0)))),(3,.one (.c (.vec 21))),(5,.one (.c (.p (.int .i64 zbd))))],[(21,.vec 159 1 24 zaL.len (fun i=>zaG (zaL.get i)))],[]⟩
def zlB (K:List PA→Prop) (w:web) (zaL:(Sl (Sl Tab))) (zbd:Int):Prop:=vc Tryd.prog G89 zaX (cdF Tryd.f89 [1,0,1,1,1,1,0,1,0]) (zak 2 (sqK Tryd.prog G89 zaX (cdF Tryd.f89 [1,0,1,1,1,1,1]) (zcx (zbn Tryd.prog Tryd.f89 K)))) (zjD w zaL zbd)
def zlC (w:web) (zaL:(Sl (Sl Tab))) (za7:Int) (zbD:Int):St:=⟨[(0,.one (.c (.p (.fp (zaC w) 0)))),(3,.one (.c (.vec 21))),(5,.one (.c (.p (.int .i64 za7)))),(48,.one (.c (.vec 21))),(49,.one (.c (.p (.int .i64 (zaL.len:Int))))),(50,.one (.c (.p (.int .i64 zbD))))],[(21,.vec 159 1 24 zaL.len (fun i=>zaG (zaL.get i)))],[]⟩
def zlD (K:List PA→Prop) (X2:St→Prop) (w:web) (zaL:(Sl (Sl Tab))) (za7:Int) (zbD:Int):Prop:=vc Tryd.prog G89 zaX (cdF Tryd.f89 [1,0,1,1,1,1,0,1,0,0,1,0,0,1,0]) (zak 4 (zak 3 (sqK Tryd.prog G89 zaX (cdF Tryd.f89 [1,0,1,1,1,1,0,1,0,0,1,1]) (zbo Tryd.prog zaX 9 X2 (zak 2 (sqK Tryd.prog G89 zaX (cdF Tryd.f89 [1,0,1,1,1,1,1]) (zcx (zbn Tryd.prog Tryd.f89 K)))))))) (zlC w zaL za7 zbD)
def zIT (w:web) (zdF:Int) (zr5:Nat) (ziQ:Nat→List PV):St:=⟨[(0,.one (.c (.p (.fp (zaC w) 0)))),(3,.one (.c (.vec 21))),(5,.one (.c (.p (.int .i64 zdF))))],[(21,.vec 159 1 24 zr5 ziQ)],[]⟩
def zlE (K:List PA→Prop) (w:web) (zdF:Int) (zr5:Nat) (ziQ:Nat→List PV):Prop:=vc Tryd.prog G89 zaX (cdF Tryd.f89 [1,0,1,1,1,1,1]) (zcx (zbn Tryd.prog Tryd.f89 K)) (zIT w zdF zr5 ziQ)
def zfz (w:web) (zao:(Sl (Sl Tab))) (zaV:Int) (zaF:Bool) (zey:Nat) (zbt:Nat→List PV) (za1:Int) (zgc:Nat) (zbS:Nat→List PV):St:=⟨[(0,.one (.c (.p (.fp (zaC w) 0)))),(5,.one (.c (.p (.int .i64 zaV)))),(8,.one (.c (.p (.ns zaF zey 5 zbt)))),(64,.one (.c (.vec 21))),(65,.one (.c (.p (.int .i64 (zao.len:Int))))),(66,.one (.c (.p (.int .i64 za1))))],[(21,.vec 159 1 24 zgc zbS)],[]⟩
def zlF (K:List PA→Prop) (w:web) (zao:(Sl (Sl Tab))) (zaV:Int) (zaF:Bool) (zey:Nat) (zbt:Nat→List PV) (za1:Int) (zgc:Nat) (zbS:Nat→List PV):Prop:=vc Tryd.prog G89 zaX (cdF Tryd.f89 [1,0,1,1,1,1,1,1,0,1,0]) (zak 6 (sqK Tryd.prog G89 zaX (cdF Tryd.f89 [1,0,1,1,1,1,1,1,1]) (zcx (zbn Tryd.prog Tryd.f89 K)))) (zfz w zao zaV zaF zey zbt za1 zgc zbS)
def zib (w:web) (zao:(Sl (Sl Tab))) (zbb:Int) (zaD:Bool) (zez:Nat) (zbU:Nat→List PV) (zbV:Int) (iv6:Int) (zqa:Nat) (zeI:Nat→List PV) (zef:Int) (zaP:Int) (kv6:Int) (zgd:Nat) (zch:Nat→List PV) (zeA:Nat) (zbW:Nat→List PV):St:=⟨[(0,.one (.c (.p (.fp (zaC w) 0)))),(5,.one (.c (.p (.int .i64 zbb)))),(8,.one (.c (.p (.ns zaD zez 5 zbU)))),(9,.one (.c (.ptr 9 0))),(10,.one (.c (.ptr 10 0))),(11,.one (.c (.ptr 11 0))),(12,.one (.c (.ptr 12 0))),(13,.one (.c (.ptr 13 0))),(14,.one (.c (.ptr 14 0))),(64,.one (.c (.vec 21))),(65,.one (.c (.p (.int .i64 (zao.len:Int))))),(66,.one (.c (.p (.int .i64 zbV))))],[(9,.box 3 [.p (.int .i64 iv6)]),(10,.box 159 [.p (.sl zqa 80 zeI)]),(11,.box 127 [.vec 129]),(12,.box 3 [.p (.int .i64 zef)]),(13,.box 3 [.p (.int .i64 zaP)]),(14,.box 3 [.p (.int .i64 kv6)]),(21,.vec 159 1 24 zgd zch),(129,.vec 130 5 40 zeA zbW)],[]⟩
def zlG (K:List PA→Prop) (X5:St→Prop) (w:web) (zao:(Sl (Sl Tab))) (zbb:Int) (zaD:Bool) (zez:Nat) (zbU:Nat→List PV) (zbV:Int) (iv6:Int) (zqa:Nat) (zeI:Nat→List PV) (zef:Int) (zaP:Int) (kv6:Int) (zgd:Nat) (zch:Nat→List PV) (zeA:Nat) (zbW:Nat→List PV):Prop:=vc Tryd.prog G89 zaX (cdF Tryd.f89 [1,0,1,1,1,1,1,1,0,1,0,0,1,1,0,0,1,1,1,1,0,1,0]) (zak 8 (sqK Tryd.prog G89 zaX (cdF Tryd.f89 [1,0,1,1,1,1,1,1,0,1,0,0,1,1,0,0,1,1,1,1,1]) (zak 7 (sqK Tryd.prog G89 zaX (cdF Tryd.f89 [1,0,1,1,1,1,1,1,0,1,0,0,1,1,1]) (zbo Tryd.prog zaX 18 X5 (zak 6 (sqK Tryd.prog G89 zaX (cdF Tryd.f89 [1,0,1,1,1,1,1,1,1]) (zcx (zbn Tryd.prog Tryd.f89 K))))))))) (zib w zao zbb zaD zez zbU zbV iv6 zqa zeI zef zaP kv6 zgd zch zeA zbW)
def zfA (w:web) (zao:(Sl (Sl Tab))) (zaQ:Int) (zas:Bool) (zeB:Nat) (zb8:Nat→List PV) (zbk:Int) (iv7:Int) (zqb:Nat) (zfI:Nat→List PV) (zcJ:Int) (zaq:Int) (kv7:Int) (zge:Nat) (zcK:Nat→List PV) (zeC:Nat) (zb9:Nat→List PV):St:=⟨[(0,.one (.c (.p (.fp (zaC w) 0)))),(5,.one (.c (.p (.int .i64 zaQ)))),(8,.one (.c (.p (.ns zas zeB 5 zb8)))),(9,.one (.c (.ptr 9 0))),(10,.one (.c (.ptr 10 0))),(11,.one (.c (.ptr 11 0))),(12,.one (.c (.ptr 12 0))),(13,.one (.c (.ptr 13 0))),(14,.one (.c (.ptr 14 0))),(64,.one (.c (.vec 21))),(65,.one (.c (.p (.int .i64 (zao.len:Int))))),(66,.one (.c (.p (.int .i64 zbk)))),(87,.one (.c (.p (.fn 110 [] [.fp [.fp (zaC w) 0] 0]))))],[(9,.box 3 [.p (.int .i64 iv7)]),(10,.box 159 [.p (.sl zqb 80 zfI)]),(11,.box 127 [.vec 129]),(12,.box 3 [.p (.int .i64 zcJ)]),(13,.box 3 [.p (.int .i64 zaq)]),(14,.box 3 [.p (.int .i64 kv7)]),(21,.vec 159 1 24 zge zcK),(129,.vec 130 5 40 zeC zb9)],[]⟩
def zlH (K:List PA→Prop) (X5:St→Prop) (X6:St→Prop) (w:web) (zao:(Sl (Sl Tab))) (zaQ:Int) (zas:Bool) (zeB:Nat) (zb8:Nat→List PV) (zbk:Int) (iv7:Int) (zqb:Nat) (zfI:Nat→List PV) (zcJ:Int) (zaq:Int) (kv7:Int) (zge:Nat) (zcK:Nat→List PV) (zeC:Nat) (zb9:Nat→List PV):Prop:=vc Tryd.prog G89 zaX (cdF Tryd.f89 [1,0,1,1,1,1,1,1,0,1,0,0,1,1,0,0,1,1,1,1,0,1,0,0,1,0,0,1,0]) (zak 10 (zak 9 (sqK Tryd.prog G89 zaX (cdF Tryd.f89 [1,0,1,1,1,1,1,1,0,1,0,0,1,1,0,0,1,1,1,1,0,1,0,0,1,1]) (zbo Tryd.prog zaX 24 X6 (zak 8 (sqK Tryd.prog G89 zaX (cdF Tryd.f89 [1,0,1,1,1,1,1,1,0,1,0,0,1,1,0,0,1,1,1,1,1]) (zak 7 (sqK Tryd.prog G89 zaX (cdF Tryd.f89 [1,0,1,1,1,1,1,1,0,1,0,0,1,1,1]) (zbo Tryd.prog zaX 18 X5 (zak 6 (sqK Tryd.prog G89 zaX (cdF Tryd.f89 [1,0,1,1,1,1,1,1,1]) (zcx (zbn Tryd.prog Tryd.f89 K))))))))))))) (zfA w zao zaQ zas zeB zb8 zbk iv7 zqb zfI zcJ zaq kv7 zge zcK zeC zb9)
def zIU (w:web) (zao:(Sl (Sl Tab))) (zda:Int) (zcl:Bool) (zoj:Nat) (zgD:Nat→List PV) (ze1:Int) (zed:Bool) (zr6:Nat) (ziR:Nat→List PV) (zok:Nat) (zgE:Nat→List PV):St:=⟨[(0,.one (.c (.p (.fp (zaC w) 0)))),(5,.one (.c (.p (.int .i64 zda)))),(8,.one (.c (.p (.ns zcl zoj 5 zgD)))),(11,.one (.c (.ptr 11 0))),(64,.one (.c (.vec 21))),(65,.one (.c (.p (.int .i64 (zao.len:Int))))),(66,.one (.c (.p (.int .i64 ze1)))),(144,.one (.c (.p (.bool zed))))],[(11,.box 127 [.vec 129]),(21,.vec 159 1 24 zr6 ziR),(129,.vec 130 5 40 zok zgE)],[]⟩
def zlI (K:List PA→Prop) (X5:St→Prop) (w:web) (zao:(Sl (Sl Tab))) (zda:Int) (zcl:Bool) (zoj:Nat) (zgD:Nat→List PV) (ze1:Int) (zed:Bool) (zr6:Nat) (ziR:Nat→List PV) (zok:Nat) (zgE:Nat→List PV):Prop:=vc Tryd.prog G89 zaX (cdF Tryd.f89 [1,0,1,1,1,1,1,1,0,1,0,0,1,1,0,0,1,1,1,1,1,1]) (zak 7 (sqK Tryd.prog G89 zaX (cdF Tryd.f89 [1,0,1,1,1,1,1,1,0,1,0,0,1,1,1]) (zbo Tryd.prog zaX 18 X5 (zak 6 (sqK Tryd.prog G89 zaX (cdF Tryd.f89 [1,0,1,1,1,1,1,1,1]) (zcx (zbn Tryd.prog Tryd.f89 K))))))) (zIU w zao zda zcl zoj zgD ze1 zed zr6 ziR zok zgE)
theorem zE6 (w : web) (K : List PA → Prop) :
  vcFun Tryd.prog G89 zaX 89 [.one (.fp (zaC w) 0)] K =
  (((0≤w.Net.Nodes∧w.Net.Nodes=w.Net.Nodes∧w.Net.Nodes≤1000000)) ∧
 (zlA K w (0:Int) w.Net.Nodes.toNat (fun _=>(zaG (⟨0,fun _=>(fun _=>(0:Int))⟩:(Sl Tab)))))):=by kernel_rfl
def zqc (K:List PA→Prop) (X0:St→Prop) (w:web) (zbw:Int) (zb1:(Sl (Sl Tab))):Prop :=
  (zbR (decide (zbw < (w.Net.Nodes.toNat : Int)))
 ((IsE zai 4 4 (fun i=>zai (w.Net.Ties.get i))∧((false,1,false,[none]):MQ)=(false,1,false,[none])∧(zII w zbw w.Net.Nodes=true)) ∧
 (((0≤zbw∧zbw < (zb1.len:Int))) ∧
 (((zbw.toNat < zb1.len)) ∧
 (X0 (zlz w (w64 (zbw+(1:Int))) zb1.len (zjP zbw.toNat 0 (fun i=>zaG (zb1.get i)) (zaG (zxT w zbw w.Net.Nodes))))))))
 (zoi K w zb1.len (fun i=>zaG (zb1.get i))))
theorem zr7 (K : List PA → Prop) (X0 : St → Prop) (w : web) (zbw : Int) (zb1 : (Sl (Sl Tab))) :
  vc Tryd.prog G89 zaX (cd (cdF Tryd.f89 [1,0,1,0,1,0]) [0]) (zbo Tryd.prog zaX 3 X0 (zak 0 (sqK Tryd.prog G89 zaX (cdF Tryd.f89 [1,0,1,1]) (zcx (zbn Tryd.prog Tryd.f89 K))))) (zlz w zbw zb1.len (fun i=>zaG (zb1.get i))) =
  zqc K X0 w zbw zb1:=by kernel_rfl
theorem zx9 (K : List PA → Prop) (w : web) (zbw : Int) (zgb : Nat) (zcI : Nat → List PV)
  (h:∀ X0:St→Prop,(∀ (zbw:Int) (zb1:(Sl (Sl Tab))),zqc K X0 w zbw zb1→X0 (zlz w zbw zb1.len (fun i=>zaG (zb1.get i))))→X0 (zlz w zbw zgb zcI)) :
  zlA K w zbw zgb zcI:=by
  have e:zlA K w zbw zgb zcI=(∀ X:St→Prop,(∀ s,vc Tryd.prog G89 zaX (cd (cdF Tryd.f89 [1,0,1,0,1,0]) [0]) (zbo Tryd.prog zaX 3 X (zak 0 (sqK Tryd.prog G89 zaX (cdF Tryd.f89 [1,0,1,1]) (zcx (zbn Tryd.prog Tryd.f89 K))))) s→X s)→X (zlz w zbw zgb zcI)):=by kernel_rfl
  refine zbm e ?_
  intro X hX
  refine h X ?_
  intro zbw zb1 hs
  refine hX _ ?_
  have e2:=zr7 K X w zbw zb1
  rw [e2]
  exact hs
theorem zE7 (K : List PA → Prop) (w : web) (zaL : (Sl (Sl Tab))) :
  zoi K w zaL.len (fun i=>zaG (zaL.get i)) =
  (zlB K w zaL (1:Int)):=by kernel_rfl
def zqd (K:List PA→Prop) (X2:St→Prop) (w:web) (zaL:(Sl (Sl Tab))) (zbd:Int):Prop :=
  (zbR (decide (zbd < w.Net.Nodes))
 (zlD K X2 w zaL zbd (0:Int))
 (zlE K w zbd zaL.len (fun i=>zaG (zaL.get i))))
theorem zr8 (K : List PA → Prop) (X2 : St → Prop) (w : web) (zaL : (Sl (Sl Tab))) (zbd : Int) :
  vc Tryd.prog G89 zaX (cd (cdF Tryd.f89 [1,0,1,1,1,1,0,1,0]) [0]) (zbo Tryd.prog zaX 9 X2 (zak 2 (sqK Tryd.prog G89 zaX (cdF Tryd.f89 [1,0,1,1,1,1,1]) (zcx (zbn Tryd.prog Tryd.f89 K))))) (zjD w zaL zbd) =
  zqd K X2 w zaL zbd:=by kernel_rfl
theorem zya (K : List PA → Prop) (w : web) (zaL : (Sl (Sl Tab))) (zbd : Int)
  (h:∀ X2:St→Prop,(∀ (zbd:Int),zqd K X2 w zaL zbd→X2 (zjD w zaL zbd))→X2 (zjD w zaL zbd)) :
  zlB K w zaL zbd:=by
  have e:zlB K w zaL zbd=(∀ X:St→Prop,(∀ s,vc Tryd.prog G89 zaX (cd (cdF Tryd.f89 [1,0,1,1,1,1,0,1,0]) [0]) (zbo Tryd.prog zaX 9 X (zak 2 (sqK Tryd.prog G89 zaX (cdF Tryd.f89 [1,0,1,1,1,1,1]) (zcx (zbn Tryd.prog Tryd.f89 K))))) s→X s)→X (zjD w zaL zbd)):=by kernel_rfl
  refine zbm e ?_
  intro X hX
  refine h X ?_
  intro zbd hs
  refine hX _ ?_
  have e2:=zr8 K X w zaL zbd
  rw [e2]
  exact hs
def zqe (K:List PA→Prop) (X2:St→Prop) (X3:St→Prop) (w:web) (zaL:(Sl (Sl Tab))) (za7:Int) (zbD:Int):Prop :=
  (zbR (decide (zbD < (zaL.len : Int)))
 (((0≤zbD∧zbD < (zaL.len:Int))) ∧
 (((zbD.toNat < zaL.len)) ∧
 (((0≤za7∧za7 < ((zaL.get zbD.toNat).len:Int))) ∧
 (((0≤zbD∧zbD < (40:Int))) ∧
 (zbR (decide ((tL ((zaL.get zbD.toNat).get za7.toNat) zbD) < (0:Int)))
 (zlE K w za7 zaL.len (fun i=>zaG (zaL.get i)))
 (X3 (zlC w zaL za7 (w64 (zbD+(1:Int))))))))))
 (X2 (zjD w zaL (w64 (za7+(1:Int))))))
theorem zr9 (K : List PA → Prop) (X2 : St → Prop) (X3 : St → Prop) (w : web) (zaL : (Sl (Sl Tab))) (za7 : Int) (zbD : Int) :
  vc Tryd.prog G89 zaX (cd (cdF Tryd.f89 [1,0,1,1,1,1,0,1,0,0,1,0,0,1,0]) [0]) (zbo Tryd.prog zaX 12 X3 (zak 4 (zak 3 (sqK Tryd.prog G89 zaX (cdF Tryd.f89 [1,0,1,1,1,1,0,1,0,0,1,1]) (zbo Tryd.prog zaX 9 X2 (zak 2 (sqK Tryd.prog G89 zaX (cdF Tryd.f89 [1,0,1,1,1,1,1]) (zcx (zbn Tryd.prog Tryd.f89 K))))))))) (zlC w zaL za7 zbD) =
  zqe K X2 X3 w zaL za7 zbD:=by kernel_rfl
theorem zyb (K : List PA → Prop) (X2 : St → Prop) (w : web) (zaL : (Sl (Sl Tab))) (za7 : Int) (zbD : Int)
  (h:∀ X3:St→Prop,(∀ (za7:Int) (zbD:Int),zqe K X2 X3 w zaL za7 zbD→X3 (zlC w zaL za7 zbD))→X3 (zlC w zaL za7 zbD)) :
  zlD K X2 w zaL za7 zbD:=by
  have e:zlD K X2 w zaL za7 zbD=(∀ X:St→Prop,(∀ s,vc Tryd.prog G89 zaX (cd (cdF Tryd.f89 [1,0,1,1,1,1,0,1,0,0,1,0,0,1,0]) [0]) (zbo Tryd.prog zaX 12 X (zak 4 (zak 3 (sqK Tryd.prog G89 zaX (cdF Tryd.f89 [1,0,1,1,1,1,0,1,0,0,1,1]) (zbo Tryd.prog zaX 9 X2 (zak 2 (sqK Tryd.prog G89 zaX (cdF Tryd.f89 [1,0,1,1,1,1,1]) (zcx (zbn Tryd.prog Tryd.f89 K))))))))) s→X s)→X (zlC w zaL za7 zbD)):=by kernel_rfl
  refine zbm e ?_
  intro X hX
  refine h X ?_
  intro za7 zbD hs
  refine hX _ ?_
  have e2:=zr9 K X2 X w zaL za7 zbD
  rw [e2]
  exact hs
theorem zE8 (K : List PA → Prop) (w : web) (zdF : Int) (zao : (Sl (Sl Tab))) :
  zlE K w zdF zao.len (fun i=>zaG (zao.get i)) =
  (zlF K w zao zdF true 0 (fun i=>zad ((fun _=>default) i)) (0:Int) zao.len (fun i=>zaG (zao.get i))):=by kernel_rfl
def zqf (K:List PA→Prop) (X5:St→Prop) (w:web) (zao:(Sl (Sl Tab))) (zaV:Int) (zaF:Bool) (zaY:(Sl step)) (za1:Int) (zbl:(Sl (Sl Tab))):Prop :=
  (zbR (decide (za1 < (zao.len : Int)))
 (((0≤za1∧za1 < (zbl.len:Int))) ∧
 (((za1.toNat < zbl.len)) ∧
 (((0≤zaV∧zaV < ((zbl.get za1.toNat).len:Int))) ∧
 (((0≤za1∧za1 < (40:Int))) ∧
 (zbR (decide ((tL ((zbl.get za1.toNat).get zaV.toNat) za1) ≥ (0:Int)))
 (X5 (zfz w zao zaV zaF zaY.len (fun i=>zad (zaY.get i)) (w64 (za1+(1:Int))) zbl.len (fun i=>zaG (zbl.get i))))
 (zlG K X5 w zao zaV zaF zaY.len (fun i=>zad (zaY.get i)) za1 za1 ((zbl.get za1.toNat).len) (fun i=>zac ((zbl.get za1.toNat).get i)) za1 (0:Int) (w64 (zaV - (1:Int))) zbl.len (fun i=>zaG (zbl.get i)) 0 (fun i=>zad ((fun _=>default) i))))))))
 (K [.one (.sl zaY.len 5 (fun i=>zad (zaY.get i)))]))
theorem zsa (K : List PA → Prop) (X5 : St → Prop) (w : web) (zao : (Sl (Sl Tab))) (zaV : Int) (zaF : Bool) (zaY : (Sl step)) (za1 : Int) (zbl : (Sl (Sl Tab))) :
  vc Tryd.prog G89 zaX (cd (cdF Tryd.f89 [1,0,1,1,1,1,1,1,0,1,0]) [0]) (zbo Tryd.prog zaX 18 X5 (zak 6 (sqK Tryd.prog G89 zaX (cdF Tryd.f89 [1,0,1,1,1,1,1,1,1]) (zcx (zbn Tryd.prog Tryd.f89 K))))) (zfz w zao zaV zaF zaY.len (fun i=>zad (zaY.get i)) za1 zbl.len (fun i=>zaG (zbl.get i))) =
  zqf K X5 w zao zaV zaF zaY za1 zbl:=by kernel_rfl
theorem zyc (K : List PA → Prop) (w : web) (zao : (Sl (Sl Tab))) (zaV : Int) (zaF : Bool) (zey : Nat) (zbt : Nat → List PV) (za1 : Int) (zgc : Nat) (zbS : Nat → List PV)
  (h:∀ X5:St→Prop,(∀ (zaV:Int) (zaF:Bool) (zaY:(Sl step)) (za1:Int) (zbl:(Sl (Sl Tab))),zqf K X5 w zao zaV zaF zaY za1 zbl→X5 (zfz w zao zaV zaF zaY.len (fun i=>zad (zaY.get i)) za1 zbl.len (fun i=>zaG (zbl.get i))))→X5 (zfz w zao zaV zaF zey zbt za1 zgc zbS)) :
  zlF K w zao zaV zaF zey zbt za1 zgc zbS:=by
  have e:zlF K w zao zaV zaF zey zbt za1 zgc zbS=(∀ X:St→Prop,(∀ s,vc Tryd.prog G89 zaX (cd (cdF Tryd.f89 [1,0,1,1,1,1,1,1,0,1,0]) [0]) (zbo Tryd.prog zaX 18 X (zak 6 (sqK Tryd.prog G89 zaX (cdF Tryd.f89 [1,0,1,1,1,1,1,1,1]) (zcx (zbn Tryd.prog Tryd.f89 K))))) s→X s)→X (zfz w zao zaV zaF zey zbt za1 zgc zbS)):=by kernel_rfl
  refine zbm e ?_
  intro X hX
  refine h X ?_
  intro zaV zaF zaY za1 zbl hs
  refine hX _ ?_
  have e2:=zsa K X w zao zaV zaF zaY za1 zbl
  rw [e2]
  exact hs
def zqg (K:List PA→Prop) (X5:St→Prop) (X6:St→Prop) (w:web) (zao:(Sl (Sl Tab))) (zbb:Int) (zaD:Bool) (zaW:(Sl step)) (zbV:Int) (iv6:Int) (hv6:(Sl Tab)) (zef:Int) (zaP:Int) (kv6:Int) (zbN:(Sl (Sl Tab))) (zaZ:(Sl step)):Prop :=
  (zbR (decide (kv6 ≥ (0:Int)))
 ((IsE zai 4 4 (fun i=>zai (w.Net.Ties.get i))∧((false,1,false,[none]):MQ)=(false,1,false,[none])) ∧
 (zlH K X5 X6 w zao zbb zaD zaW.len (fun i=>zad (zaW.get i)) zbV iv6 hv6.len (fun i=>zac (hv6.get i)) zef zaP kv6 zbN.len (fun i=>zaG (zbN.get i)) zaZ.len (fun i=>zad (zaZ.get i))))
 (((zaD=true∨zaW.len ≠ 0)) ∧
 (zbR zaD
 (zlI K X5 w zao zbb zaD zaW.len (fun i=>zad (zaW.get i)) zbV true zbN.len (fun i=>zaG (zbN.get i)) zaZ.len (fun i=>zad (zaZ.get i)))
 ((IsE zad 5 5 (fun i=>zad (zaZ.get i))∧IsE zad 5 5 (fun i=>zad (zaW.get i))∧(zKj zaZ zaW=true)) ∧
 (zlI K X5 w zao zbb zaD zaW.len (fun i=>zad (zaW.get i)) zbV (decide ((zHr zaZ zaW) < (0:Int))) zbN.len (fun i=>zaG (zbN.get i)) zaZ.len (fun i=>zad (zaZ.get i)))))))
theorem zsb (K : List PA → Prop) (X5 : St → Prop) (X6 : St → Prop) (w : web) (zao : (Sl (Sl Tab))) (zbb : Int) (zaD : Bool) (zaW : (Sl step)) (zbV : Int) (iv6 : Int) (hv6 : (Sl Tab)) (zef : Int) (zaP : Int) (kv6 : Int) (zbN : (Sl (Sl Tab))) (zaZ : (Sl step)) :
  vc Tryd.prog G89 zaX (cd (cdF Tryd.f89 [1,0,1,1,1,1,1,1,0,1,0,0,1,1,0,0,1,1,1,1,0,1,0]) [0]) (zbo Tryd.prog zaX 24 X6 (zak 8 (sqK Tryd.prog G89 zaX (cdF Tryd.f89 [1,0,1,1,1,1,1,1,0,1,0,0,1,1,0,0,1,1,1,1,1]) (zak 7 (sqK Tryd.prog G89 zaX (cdF Tryd.f89 [1,0,1,1,1,1,1,1,0,1,0,0,1,1,1]) (zbo Tryd.prog zaX 18 X5 (zak 6 (sqK Tryd.prog G89 zaX (cdF Tryd.f89 [1,0,1,1,1,1,1,1,1]) (zcx (zbn Tryd.prog Tryd.f89 K)))))))))) (zib w zao zbb zaD zaW.len (fun i=>zad (zaW.get i)) zbV iv6 hv6.len (fun i=>zac (hv6.get i)) zef zaP kv6 zbN.len (fun i=>zaG (zbN.get i)) zaZ.len (fun i=>zad (zaZ.get i))) =
  zqg K X5 X6 w zao zbb zaD zaW zbV iv6 hv6 zef zaP kv6 zbN zaZ:=by kernel_rfl
theorem zyd (K : List PA → Prop) (X5 : St → Prop) (w : web) (zao : (Sl (Sl Tab))) (zbb : Int) (zaD : Bool) (zez : Nat) (zbU : Nat → List PV) (zbV : Int) (iv6 : Int) (zqa : Nat) (zeI : Nat → List PV) (zef : Int) (zaP : Int) (kv6 : Int) (zgd : Nat) (zch : Nat → List PV) (zeA : Nat) (zbW : Nat → List PV)
  (h:∀ X6:St→Prop,(∀ (zbb:Int) (zaD:Bool) (zaW:(Sl step)) (zbV:Int) (iv6:Int) (hv6:(Sl Tab)) (zef:Int) (zaP:Int) (kv6:Int) (zbN:(Sl (Sl Tab))) (zaZ:(Sl step)),zqg K X5 X6 w zao zbb zaD zaW zbV iv6 hv6 zef zaP kv6 zbN zaZ→X6 (zib w zao zbb zaD zaW.len (fun i=>zad (zaW.get i)) zbV iv6 hv6.len (fun i=>zac (hv6.get i)) zef zaP kv6 zbN.len (fun i=>zaG (zbN.get i)) zaZ.len (fun i=>zad (zaZ.get i))))→X6 (zib w zao zbb zaD zez zbU zbV iv6 zqa zeI zef zaP kv6 zgd zch zeA zbW)) :
  zlG K X5 w zao zbb zaD zez zbU zbV iv6 zqa zeI zef zaP kv6 zgd zch zeA zbW:=by
  have e:zlG K X5 w zao zbb zaD zez zbU zbV iv6 zqa zeI zef zaP kv6 zgd zch zeA zbW=(∀ X:St→Prop,(∀ s,vc Tryd.prog G89 zaX (cd (cdF Tryd.f89 [1,0,1,1,1,1,1,1,0,1,0,0,1,1,0,0,1,1,1,1,0,1,0]) [0]) (zbo Tryd.prog zaX 24 X (zak 8 (sqK Tryd.prog G89 zaX (cdF Tryd.f89 [1,0,1,1,1,1,1,1,0,1,0,0,1,1,0,0,1,1,1,1,1]) (zak 7 (sqK Tryd.prog G89 zaX (cdF Tryd.f89 [1,0,1,1,1,1,1,1,0,1,0,0,1,1,1]) (zbo Tryd.prog zaX 18 X5 (zak 6 (sqK Tryd.prog G89 zaX (cdF Tryd.f89 [1,0,1,1,1,1,1,1,1]) (zcx (zbn Tryd.prog Tryd.f89 K)))))))))) s→X s)→X (zib w zao zbb zaD zez zbU zbV iv6 zqa zeI zef zaP kv6 zgd zch zeA zbW)):=by kernel_rfl
  refine zbm e ?_
  intro X hX
  refine h X ?_
  intro zbb zaD zaW zbV iv6 hv6 zef zaP kv6 zbN zaZ hs
  refine hX _ ?_
  have e2:=zsb K X5 X w zao zbb zaD zaW zbV iv6 hv6 zef zaP kv6 zbN zaZ
  rw [e2]
  exact hs
def zqh (K:List PA→Prop) (X5:St→Prop) (X6:St→Prop) (w:web) (zao:(Sl (Sl Tab))) (zaQ:Int) (zas:Bool) (zaM:(Sl step)) (zbk:Int) (iv7:Int) (hv7:(Sl Tab)) (zcJ:Int) (zaq:Int) (kv7:Int) (za8:(Sl (Sl Tab))) (zaE:(Sl step)):Prop :=
  (X6 (zib w zao zaQ zas zaM.len (fun i=>zad (zaM.get i)) zbk iv7 hv7.len (fun i=>zac (hv7.get i)) zcJ zaq (w64 (kv7 - (1:Int))) za8.len (fun i=>zaG (za8.get i)) zaE.len (fun i=>zad (zaE.get i))))
def zqi (K:List PA→Prop) (X5:St→Prop) (X6:St→Prop) (X7:List (List PA)→St→Prop) (y7:step) (rest7:List (List PA)) (w:web) (zao:(Sl (Sl Tab))) (zaQ:Int) (zas:Bool) (zaM:(Sl step)) (zbk:Int) (iv7:Int) (hv7:(Sl Tab)) (zcJ:Int) (zaq:Int) (kv7:Int) (za8:(Sl (Sl Tab))) (zaE:(Sl step)):Prop :=
  (zbR (y7.from_ == zcJ)
 (zbR (decide (y7.to ≥ iv7))
 (((0≤kv7∧kv7 < (hv7.len:Int))) ∧
 (((0≤y7.to∧y7.to < (40:Int))) ∧
 (zbR (!(nvr (tL (hv7.get kv7.toNat) y7.to) (tU (hv7.get kv7.toNat) y7.to)))
 (((0≤kv7∧kv7 < (hv7.len:Int))) ∧
 (((0≤y7.to∧y7.to < (40:Int))) ∧
 (zbR (decide ((w64 ((w64 (zaq + y7.length)) + (tL (hv7.get kv7.toNat) y7.to))) < (0:Int)))
 ((((zaE.len+1) * 40≤140737488355328∧zaE.len+1≤9223372036854775807)) ∧
 (X6 (zib w zao zaQ zas zaM.len (fun i=>zad (zaM.get i)) zbk iv7 hv7.len (fun i=>zac (hv7.get i)) y7.to (w64 (zaq+y7.length)) (w64 (kv7 - (1:Int))) za8.len (fun i=>zaG (za8.get i)) (zaE.len+1) (appG zaE.len (fun i=>zad (zaE.get i)) (fun _=>(zad y7))))))
 (X7 rest7 (zfA w zao zaQ zas zaM.len (fun i=>zad (zaM.get i)) zbk iv7 hv7.len (fun i=>zac (hv7.get i)) zcJ zaq kv7 za8.len (fun i=>zaG (za8.get i)) zaE.len (fun i=>zad (zaE.get i)))))))
 (X7 rest7 (zfA w zao zaQ zas zaM.len (fun i=>zad (zaM.get i)) zbk iv7 hv7.len (fun i=>zac (hv7.get i)) zcJ zaq kv7 za8.len (fun i=>zaG (za8.get i)) zaE.len (fun i=>zad (zaE.get i)))))))
 (X7 rest7 (zfA w zao zaQ zas zaM.len (fun i=>zad (zaM.get i)) zbk iv7 hv7.len (fun i=>zac (hv7.get i)) zcJ zaq kv7 za8.len (fun i=>zaG (za8.get i)) zaE.len (fun i=>zad (zaE.get i)))))
 (X7 rest7 (zfA w zao zaQ zas zaM.len (fun i=>zad (zaM.get i)) zbk iv7 hv7.len (fun i=>zac (hv7.get i)) zcJ zaq kv7 za8.len (fun i=>zaG (za8.get i)) zaE.len (fun i=>zad (zaE.get i)))))
theorem zsc (K:List PA→Prop) (X5:St→Prop) (X6:St→Prop) (w:web) (zao:(Sl (Sl Tab))) (zaQ:Int) (zas:Bool) (zaM:(Sl step)) (zbk:Int) (iv7:Int) (hv7:(Sl Tab)) (zcJ:Int) (zaq:Int) (kv7:Int) (za8:(Sl (Sl Tab))) (zaE:(Sl step)):(zak 10 (zak 9 (sqK Tryd.prog G89 zaX (cdF Tryd.f89 [1,0,1,1,1,1,1,1,0,1,0,0,1,1,0,0,1,1,1,1,0,1,0,0,1,1]) (zbo Tryd.prog zaX 24 X6 (zak 8 (sqK Tryd.prog G89 zaX (cdF Tryd.f89 [1,0,1,1,1,1,1,1,0,1,0,0,1,1,0,0,1,1,1,1,1]) (zak 7 (sqK Tryd.prog G89 zaX (cdF Tryd.f89 [1,0,1,1,1,1,1,1,0,1,0,0,1,1,1]) (zbo Tryd.prog zaX 18 X5 (zak 6 (sqK Tryd.prog G89 zaX (cdF Tryd.f89 [1,0,1,1,1,1,1,1,1]) (zcx (zbn Tryd.prog Tryd.f89 K))))))))))))) .normal (zfA w zao zaQ zas zaM.len (fun i=>zad (zaM.get i)) zbk iv7 hv7.len (fun i=>zac (hv7.get i)) zcJ zaq kv7 za8.len (fun i=>zaG (za8.get i)) zaE.len (fun i=>zad (zaE.get i)))=zqh K X5 X6 w zao zaQ zas zaM zbk iv7 hv7 zcJ zaq kv7 za8 zaE:=by kernel_rfl
theorem zsd (K : List PA → Prop) (X5 : St → Prop) (X6 : St → Prop) (X7 : List (List PA) → St → Prop) (y7 : step) (rest7 : List (List PA)) (w : web) (zao : (Sl (Sl Tab))) (zaQ : Int) (zas : Bool) (zaM : (Sl step)) (zbk : Int) (iv7 : Int) (hv7 : (Sl Tab)) (zcJ : Int) (zaq : Int) (kv7 : Int) (za8 : (Sl (Sl Tab))) (zaE : (Sl step)) :
  zvL Tryd.prog G89 zaX 27 [88] (cd (cdF Tryd.f89 [1,0,1,1,1,1,1,1,0,1,0,0,1,1,0,0,1,1,1,1,0,1,0,0,1,0,0,1,0]) [0]) (cd (cdF Tryd.f89 [1,0,1,1,1,1,1,1,0,1,0,0,1,1,0,0,1,1,1,1,0,1,0,0,1,0,0,1,0]) [1]) X7 (zak 10 (zak 9 (sqK Tryd.prog G89 zaX (cdF Tryd.f89 [1,0,1,1,1,1,1,1,0,1,0,0,1,1,0,0,1,1,1,1,0,1,0,0,1,1]) (zbo Tryd.prog zaX 24 X6 (zak 8 (sqK Tryd.prog G89 zaX (cdF Tryd.f89 [1,0,1,1,1,1,1,1,0,1,0,0,1,1,0,0,1,1,1,1,1]) (zak 7 (sqK Tryd.prog G89 zaX (cdF Tryd.f89 [1,0,1,1,1,1,1,1,0,1,0,0,1,1,1]) (zbo Tryd.prog zaX 18 X5 (zak 6 (sqK Tryd.prog G89 zaX (cdF Tryd.f89 [1,0,1,1,1,1,1,1,1]) (zcx (zbn Tryd.prog Tryd.f89 K))))))))))))) [.agg (zad y7)] rest7 (zfA w zao zaQ zas zaM.len (fun i=>zad (zaM.get i)) zbk iv7 hv7.len (fun i=>zac (hv7.get i)) zcJ zaq kv7 za8.len (fun i=>zaG (za8.get i)) zaE.len (fun i=>zad (zaE.get i)))=zqi K X5 X6 X7 y7 rest7 w zao zaQ zas zaM zbk iv7 hv7 zcJ zaq kv7 za8 zaE:=by kernel_rfl
theorem zye (K : List PA → Prop) (X5 : St → Prop) (X6 : St → Prop) (w : web) (zao : (Sl (Sl Tab))) (zaQ : Int) (zas : Bool) (zeB : Nat) (zb8 : Nat → List PV) (zbk : Int) (iv7 : Int) (zqb : Nat) (zfI : Nat → List PV) (zcJ : Int) (zaq : Int) (kv7 : Int) (zge : Nat) (zcK : Nat → List PV) (zeC : Nat) (zb9 : Nat → List PV)
  (hsafe:IsE zai 4 4 (fun i=>zai (w.Net.Ties.get i))∧((false,1,false,[none]):MQ)=(false,1,false,[none])∧(zmi w=true)) (h:∀ X7:List (List PA)→St→Prop,(∀ (zaQ:Int) (zas:Bool) (zaM:(Sl step)) (zbk:Int) (iv7:Int) (hv7:(Sl Tab)) (zcJ:Int) (zaq:Int) (kv7:Int) (za8:(Sl (Sl Tab))) (zaE:(Sl step)),zqh K X5 X6 w zao zaQ zas zaM zbk iv7 hv7 zcJ zaq kv7 za8 zaE→X7 [] (zfA w zao zaQ zas zaM.len (fun i=>zad (zaM.get i)) zbk iv7 hv7.len (fun i=>zac (hv7.get i)) zcJ zaq kv7 za8.len (fun i=>zaG (za8.get i)) zaE.len (fun i=>zad (zaE.get i))))→(∀ (y:step) (rest:List (List PA)) (zaQ:Int) (zas:Bool) (zaM:(Sl step)) (zbk:Int) (iv7:Int) (hv7:(Sl Tab)) (zcJ:Int) (zaq:Int) (kv7:Int) (za8:(Sl (Sl Tab))) (zaE:(Sl step)),zqi K X5 X6 X7 y rest w zao zaQ zas zaM zbk iv7 hv7 zcJ zaq kv7 za8 zaE→X7 ([.agg (zad y)] :: rest) (zfA w zao zaQ zas zaM.len (fun i=>zad (zaM.get i)) zbk iv7 hv7.len (fun i=>zac (hv7.get i)) zcJ zaq kv7 za8.len (fun i=>zaG (za8.get i)) zaE.len (fun i=>zad (zaE.get i))))→X7 ((zik w).map fun y=>[.agg (zad y)]) (zfA w zao zaQ zas zeB zb8 zbk iv7 zqb zfI zcJ zaq kv7 zge zcK zeC zb9)) :
  zlH K X5 X6 w zao zaQ zas zeB zb8 zbk iv7 zqb zfI zcJ zaq kv7 zge zcK zeC zb9:=by
  have e:zlH K X5 X6 w zao zaQ zas zeB zb8 zbk iv7 zqb zfI zcJ zaq kv7 zge zcK zeC zb9=((IsE zai 4 4 (fun i=>zai (w.Net.Ties.get i))∧((false,1,false,[none]):MQ)=(false,1,false,[none])∧(zmi w=true))∧∀ X:List (List PA)→St→Prop,(∀ s,(zak 10 (zak 9 (sqK Tryd.prog G89 zaX (cdF Tryd.f89 [1,0,1,1,1,1,1,1,0,1,0,0,1,1,0,0,1,1,1,1,0,1,0,0,1,1]) (zbo Tryd.prog zaX 24 X6 (zak 8 (sqK Tryd.prog G89 zaX (cdF Tryd.f89 [1,0,1,1,1,1,1,1,0,1,0,0,1,1,0,0,1,1,1,1,1]) (zak 7 (sqK Tryd.prog G89 zaX (cdF Tryd.f89 [1,0,1,1,1,1,1,1,0,1,0,0,1,1,1]) (zbo Tryd.prog zaX 18 X5 (zak 6 (sqK Tryd.prog G89 zaX (cdF Tryd.f89 [1,0,1,1,1,1,1,1,1]) (zcx (zbn Tryd.prog Tryd.f89 K))))))))))))) .normal s→X [] s)→(∀ y rest s,zvL Tryd.prog G89 zaX 27 [88] (cd (cdF Tryd.f89 [1,0,1,1,1,1,1,1,0,1,0,0,1,1,0,0,1,1,1,1,0,1,0,0,1,0,0,1,0]) [0]) (cd (cdF Tryd.f89 [1,0,1,1,1,1,1,1,0,1,0,0,1,1,0,0,1,1,1,1,0,1,0,0,1,0,0,1,0]) [1]) X (zak 10 (zak 9 (sqK Tryd.prog G89 zaX (cdF Tryd.f89 [1,0,1,1,1,1,1,1,0,1,0,0,1,1,0,0,1,1,1,1,0,1,0,0,1,1]) (zbo Tryd.prog zaX 24 X6 (zak 8 (sqK Tryd.prog G89 zaX (cdF Tryd.f89 [1,0,1,1,1,1,1,1,0,1,0,0,1,1,0,0,1,1,1,1,1]) (zak 7 (sqK Tryd.prog G89 zaX (cdF Tryd.f89 [1,0,1,1,1,1,1,1,0,1,0,0,1,1,1]) (zbo Tryd.prog zaX 18 X5 (zak 6 (sqK Tryd.prog G89 zaX (cdF Tryd.f89 [1,0,1,1,1,1,1,1,1]) (zcx (zbn Tryd.prog Tryd.f89 K))))))))))))) y rest s→X (y :: rest) s)→X ((zik w).map fun y=>[.agg (zad y)]) (zfA w zao zaQ zas zeB zb8 zbk iv7 zqb zfI zcJ zaq kv7 zge zcK zeC zb9)):=by kernel_rfl
  refine zbm e ⟨hsafe,?_⟩
  intro X h0 h1
  refine h X (fun zaQ zas zaM zbk iv7 hv7 zcJ zaq kv7 za8 zaE hs=>h0 _ ?_) (fun y rest zaQ zas zaM zbk iv7 hv7 zcJ zaq kv7 za8 zaE hs=>h1 _ rest _ ?_)
  · rw [zsc K X5 X6 w zao zaQ zas zaM zbk iv7 hv7 zcJ zaq kv7 za8 zaE];exact hs
  · have e2 := zsd K X5 X6 X y rest w zao zaQ zas zaM zbk iv7 hv7 zcJ zaq kv7 za8 zaE
    rw [e2];exact hs
theorem zE9 (K : List PA → Prop) (X5 : St → Prop) (w : web) (zao : (Sl (Sl Tab))) (zda : Int) (zcl : Bool) (zdG : (Sl step)) (ze1 : Int) (zed : Bool) (zei : (Sl (Sl Tab))) (zdH : (Sl step)) :
  zlI K X5 w zao zda zcl zdG.len (fun i=>zad (zdG.get i)) ze1 zed zei.len (fun i=>zaG (zei.get i)) zdH.len (fun i=>zad (zdH.get i)) =
  (zbR zed
 (X5 (zfz w zao zda false zdH.len (fun i=>zad (zdH.get i)) (w64 (ze1+(1:Int))) zei.len (fun i=>zaG (zei.get i))))
 (X5 (zfz w zao zda zcl zdG.len (fun i=>zad (zdG.get i)) (w64 (ze1+(1:Int))) zei.len (fun i=>zaG (zei.get i))))):=by kernel_rfl
abbrev e89 (r:(Sl step)):List PA:=[.one (.sl r.len 5 (fun i=>zad (r.get i)))]
attribute [irreducible] zlA zoi zlB zlD zlE zlF zlG zlH zlI
def zol (S5:Int→Bool→(Sl step)→Int→(Sl (Sl Tab))→(Sl step)) (w:web) (zao:(Sl (Sl Tab))) (zda:Int) (zcl:Bool) (zdG:(Sl step)) (ze1:Int) (zed:Bool) (zei:(Sl (Sl Tab))) (zdH:(Sl step)):(Sl step) :=
  (cond zed
 (S5 zda false zdH (w64 (ze1+(1:Int))) zei)
 (S5 zda zcl zdG (w64 (ze1+(1:Int))) zei))
def zom (P5:Int→Bool→(Sl step)→Int→(Sl (Sl Tab))→Bool) (w:web) (zao:(Sl (Sl Tab))) (zda:Int) (zcl:Bool) (zdG:(Sl step)) (ze1:Int) (zed:Bool) (zei:(Sl (Sl Tab))) (zdH:(Sl step)):Bool :=
  (cond zed
 (P5 zda false zdH (w64 (ze1+(1:Int))) zei)
 (P5 zda zcl zdG (w64 (ze1+(1:Int))) zei))
theorem zyf (K : List PA → Prop) (w : web) (zao : (Sl (Sl Tab)))
  (X5:St→Prop) (P5:Int→Bool→(Sl step)→Int→(Sl (Sl Tab))→Bool) (S5:Int→Bool→(Sl step)→Int→(Sl (Sl Tab))→(Sl step))
  (hX5:∀ (zaV:Int) (zaF:Bool) (zaY:(Sl step)) (za1:Int) (zbl:(Sl (Sl Tab))) (zbt:Nat→List PV) (zeD:zbt=fun i=>zad (zaY.get i)) (zbS:Nat→List PV) (zgf:zbS=fun i=>zaG (zbl.get i)),P5 zaV zaF zaY za1 zbl=true→K (e89 (S5 zaV zaF zaY za1 zbl))→X5 (zfz w zao zaV zaF zaY.len zbt za1 zbl.len zbS)) (zda:Int) (zcl:Bool) (zdG:(Sl step)) (ze1:Int) (zed:Bool) (zei:(Sl (Sl Tab))) (zdH:(Sl step)) (zgD:Nat→List PV) (zB5:zgD=fun i=>zad (zdG.get i)) (ziR:Nat→List PV) (zFa:ziR=fun i=>zaG (zei.get i)) (zgE:Nat→List PV) (zB6:zgE=fun i=>zad (zdH.get i)) (hs:zom P5 w zao zda zcl zdG ze1 zed zei zdH=true) (hk:K (e89 (zol S5 w zao zda zcl zdG ze1 zed zei zdH))):zlI K X5 w zao zda zcl zdG.len zgD ze1 zed zei.len ziR zdH.len zgE:=by
  subst zB5
  subst zFa
  subst zB6
  refine zbm (zE9 K X5 w zao zda zcl zdG ze1 zed zei zdH) ?_
  unfold zom at hs
  unfold zol at hk
  exact (za0 (K := fun r => K (e89 r))
 (fun hs hk=>(hX5 zda false zdH (w64 (ze1+(1:Int))) zei (fun i=>zad (zdH.get i)) rfl (fun i=>zaG (zei.get i)) rfl hs hk))
 (fun hs hk=>(hX5 zda zcl zdG (w64 (ze1+(1:Int))) zei (fun i=>zad (zdG.get i)) rfl (fun i=>zaG (zei.get i)) rfl hs hk)) hs hk)
def zse (S5:Int→Bool→(Sl step)→Int→(Sl (Sl Tab))→(Sl step)) (S6:Int→Bool→(Sl step)→Int→Int→(Sl Tab)→Int→Int→Int→(Sl (Sl Tab))→(Sl step)→(Sl step)) (w:web) (zao:(Sl (Sl Tab))) (zaQ:Int) (zas:Bool) (zaM:(Sl step)) (zbk:Int) (iv7:Int) (hv7:(Sl Tab)) (zcJ:Int) (zaq:Int) (kv7:Int) (za8:(Sl (Sl Tab))) (zaE:(Sl step)):(Sl step) :=
  (S6 zaQ zas zaM zbk iv7 hv7 zcJ zaq (w64 (kv7 - (1:Int))) za8 zaE)
def zsf (P5:Int→Bool→(Sl step)→Int→(Sl (Sl Tab))→Bool) (P6:Int→Bool→(Sl step)→Int→Int→(Sl Tab)→Int→Int→Int→(Sl (Sl Tab))→(Sl step)→Bool) (w:web) (zao:(Sl (Sl Tab))) (zaQ:Int) (zas:Bool) (zaM:(Sl step)) (zbk:Int) (iv7:Int) (hv7:(Sl Tab)) (zcJ:Int) (zaq:Int) (kv7:Int) (za8:(Sl (Sl Tab))) (zaE:(Sl step)):Bool :=
  (P6 zaQ zas zaM zbk iv7 hv7 zcJ zaq (w64 (kv7 - (1:Int))) za8 zaE)
def zsg (S5:Int→Bool→(Sl step)→Int→(Sl (Sl Tab))→(Sl step)) (S6:Int→Bool→(Sl step)→Int→Int→(Sl Tab)→Int→Int→Int→(Sl (Sl Tab))→(Sl step)→(Sl step)) (w:web) (zao:(Sl (Sl Tab))) (y7:step) (S7:Int→Bool→(Sl step)→Int→Int→(Sl Tab)→Int→Int→Int→(Sl (Sl Tab))→(Sl step)→(Sl step)) (zaQ:Int) (zas:Bool) (zaM:(Sl step)) (zbk:Int) (iv7:Int) (hv7:(Sl Tab)) (zcJ:Int) (zaq:Int) (kv7:Int) (za8:(Sl (Sl Tab))) (zaE:(Sl step)):(Sl step) :=
  (cond (y7.from_ == zcJ)
 (cond (decide (y7.to ≥ iv7))
 (cond (!(nvr (tL (hv7.get kv7.toNat) y7.to) (tU (hv7.get kv7.toNat) y7.to)))
 (cond (decide ((w64 ((w64 (zaq + y7.length)) + (tL (hv7.get kv7.toNat) y7.to))) < (0:Int)))
 (S6 zaQ zas zaM zbk iv7 hv7 y7.to (w64 (zaq+y7.length)) (w64 (kv7 - (1:Int))) za8 (⟨(zaE.len+1),(zjZ zaE.len zaE.get (fun _=>y7))⟩:Sl step))
 (S7 zaQ zas zaM zbk iv7 hv7 zcJ zaq kv7 za8 zaE))
 (S7 zaQ zas zaM zbk iv7 hv7 zcJ zaq kv7 za8 zaE))
 (S7 zaQ zas zaM zbk iv7 hv7 zcJ zaq kv7 za8 zaE))
 (S7 zaQ zas zaM zbk iv7 hv7 zcJ zaq kv7 za8 zaE))
def zsh (P5:Int→Bool→(Sl step)→Int→(Sl (Sl Tab))→Bool) (P6:Int→Bool→(Sl step)→Int→Int→(Sl Tab)→Int→Int→Int→(Sl (Sl Tab))→(Sl step)→Bool) (w:web) (zao:(Sl (Sl Tab))) (y7:step) (P7:Int→Bool→(Sl step)→Int→Int→(Sl Tab)→Int→Int→Int→(Sl (Sl Tab))→(Sl step)→Bool) (zaQ:Int) (zas:Bool) (zaM:(Sl step)) (zbk:Int) (iv7:Int) (hv7:(Sl Tab)) (zcJ:Int) (zaq:Int) (kv7:Int) (za8:(Sl (Sl Tab))) (zaE:(Sl step)):Bool :=
  (cond (y7.from_ == zcJ)
 (cond (decide (y7.to ≥ iv7))
 (decide ((0≤kv7∧kv7 < (hv7.len:Int))) &&
 (decide ((0≤y7.to∧y7.to < (40:Int))) &&
 (cond (!(nvr (tL (hv7.get kv7.toNat) y7.to) (tU (hv7.get kv7.toNat) y7.to)))
 (decide ((0≤kv7∧kv7 < (hv7.len:Int))) &&
 (decide ((0≤y7.to∧y7.to < (40:Int))) &&
 (cond (decide ((w64 ((w64 (zaq + y7.length)) + (tL (hv7.get kv7.toNat) y7.to))) < (0:Int)))
 (decide (((zaE.len+1) * 40≤140737488355328∧zaE.len+1≤9223372036854775807)) &&
 (P6 zaQ zas zaM zbk iv7 hv7 y7.to (w64 (zaq+y7.length)) (w64 (kv7 - (1:Int))) za8 (⟨(zaE.len+1),(zjZ zaE.len zaE.get (fun _=>y7))⟩:Sl step)))
 (P7 zaQ zas zaM zbk iv7 hv7 zcJ zaq kv7 za8 zaE))))
 (P7 zaQ zas zaM zbk iv7 hv7 zcJ zaq kv7 za8 zaE))))
 (P7 zaQ zas zaM zbk iv7 hv7 zcJ zaq kv7 za8 zaE))
 (P7 zaQ zas zaM zbk iv7 hv7 zcJ zaq kv7 za8 zaE))
def zlJ (S5 : Int → Bool → (Sl step) → Int → (Sl (Sl Tab)) → (Sl step)) (S6 : Int → Bool → (Sl step) → Int → Int → (Sl Tab) → Int → Int → Int → (Sl (Sl Tab)) → (Sl step) → (Sl step)) (w : web) (zao : (Sl (Sl Tab))) : List step → Int → Bool → (Sl step) → Int → Int → (Sl Tab) → Int → Int → Int → (Sl (Sl Tab)) → (Sl step) → (Sl step)
  | []=>zse S5 S6 w zao
  | y :: r=>zsg S5 S6 w zao y (zlJ S5 S6 w zao r)
def zlK (P5 : Int → Bool → (Sl step) → Int → (Sl (Sl Tab)) → Bool) (P6 : Int → Bool → (Sl step) → Int → Int → (Sl Tab) → Int → Int → Int → (Sl (Sl Tab)) → (Sl step) → Bool) (w : web) (zao : (Sl (Sl Tab))) : List step → Int → Bool → (Sl step) → Int → Int → (Sl Tab) → Int → Int → Int → (Sl (Sl Tab)) → (Sl step) → Bool
  | []=>zsf P5 P6 w zao
  | y :: r=>zsh P5 P6 w zao y (zlK P5 P6 w zao r)
def zyg (S5:Int→Bool→(Sl step)→Int→(Sl (Sl Tab))→(Sl step)) (S6:Int→Bool→(Sl step)→Int→Int→(Sl Tab)→Int→Int→Int→(Sl (Sl Tab))→(Sl step)→(Sl step)) (w:web) (zao:(Sl (Sl Tab))) (zaQ:Int) (zas:Bool) (zaM:(Sl step)) (zbk:Int) (iv7:Int) (hv7:(Sl Tab)) (zcJ:Int) (zaq:Int) (kv7:Int) (za8:(Sl (Sl Tab))) (zaE:(Sl step)):(Sl step):=zlJ S5 S6 w zao (zik w) zaQ zas zaM zbk iv7 hv7 zcJ zaq kv7 za8 zaE
def zsi (P5:Int→Bool→(Sl step)→Int→(Sl (Sl Tab))→Bool) (P6:Int→Bool→(Sl step)→Int→Int→(Sl Tab)→Int→Int→Int→(Sl (Sl Tab))→(Sl step)→Bool) (w:web) (zao:(Sl (Sl Tab))) (zaQ:Int) (zas:Bool) (zaM:(Sl step)) (zbk:Int) (iv7:Int) (hv7:(Sl Tab)) (zcJ:Int) (zaq:Int) (kv7:Int) (za8:(Sl (Sl Tab))) (zaE:(Sl step)):Bool:=decide ((zmi w=true)) && zlK P5 P6 w zao (zik w) zaQ zas zaM zbk iv7 hv7 zcJ zaq kv7 za8 zaE
theorem zFb (K : List PA → Prop) (w : web) (zao : (Sl (Sl Tab)))
  (X5:St→Prop) (P5:Int→Bool→(Sl step)→Int→(Sl (Sl Tab))→Bool) (S5:Int→Bool→(Sl step)→Int→(Sl (Sl Tab))→(Sl step))
  (hX5:∀ (zaV:Int) (zaF:Bool) (zaY:(Sl step)) (za1:Int) (zbl:(Sl (Sl Tab))) (zbt:Nat→List PV) (zeD:zbt=fun i=>zad (zaY.get i)) (zbS:Nat→List PV) (zgf:zbS=fun i=>zaG (zbl.get i)),P5 zaV zaF zaY za1 zbl=true→K (e89 (S5 zaV zaF zaY za1 zbl))→X5 (zfz w zao zaV zaF zaY.len zbt za1 zbl.len zbS))
  (X6:St→Prop) (P6:Int→Bool→(Sl step)→Int→Int→(Sl Tab)→Int→Int→Int→(Sl (Sl Tab))→(Sl step)→Bool) (S6:Int→Bool→(Sl step)→Int→Int→(Sl Tab)→Int→Int→Int→(Sl (Sl Tab))→(Sl step)→(Sl step))
  (hX6:∀ (zbb:Int) (zaD:Bool) (zaW:(Sl step)) (zbV:Int) (iv6:Int) (hv6:(Sl Tab)) (zef:Int) (zaP:Int) (kv6:Int) (zbN:(Sl (Sl Tab))) (zaZ:(Sl step)) (zbU:Nat→List PV) (zgF:zbU=fun i=>zad (zaW.get i)) (zeI:Nat→List PV) (zvy:zeI=fun i=>zac (hv6.get i)) (zch:Nat→List PV) (ziS:zch=fun i=>zaG (zbN.get i)) (zbW:Nat→List PV) (zgG:zbW=fun i=>zad (zaZ.get i)),P6 zbb zaD zaW zbV iv6 hv6 zef zaP kv6 zbN zaZ=true→K (e89 (S6 zbb zaD zaW zbV iv6 hv6 zef zaP kv6 zbN zaZ))→X6 (zib w zao zbb zaD zaW.len zbU zbV iv6 hv6.len zeI zef zaP kv6 zbN.len zch zaZ.len zbW)) (zaQ:Int) (zas:Bool) (zaM:(Sl step)) (zbk:Int) (iv7:Int) (hv7:(Sl Tab)) (zcJ:Int) (zaq:Int) (kv7:Int) (za8:(Sl (Sl Tab))) (zaE:(Sl step)) (zb8:Nat→List PV) (zgH:zb8=fun i=>zad (zaM.get i)) (zfI:Nat→List PV) (zvz:zfI=fun i=>zac (hv7.get i)) (zcK:Nat→List PV) (ziT:zcK=fun i=>zaG (za8.get i)) (zb9:Nat→List PV) (zgI:zb9=fun i=>zad (zaE.get i)) (hs:zsi P5 P6 w zao zaQ zas zaM zbk iv7 hv7 zcJ zaq kv7 za8 zaE=true) (hk:K (e89 (zyg S5 S6 w zao zaQ zas zaM zbk iv7 hv7 zcJ zaq kv7 za8 zaE))):zlH K X5 X6 w zao zaQ zas zaM.len zb8 zbk iv7 hv7.len zfI zcJ zaq kv7 za8.len zcK zaE.len zb9:=by
  unfold zsi at hs
  rw [Bool.and_eq_true] at hs
  obtain ⟨hsf,hs⟩:=hs
  have hc:=of_decide_eq_true hsf
  refine zye K X5 X6 w zao zaQ zas zaM.len zb8 zbk iv7 hv7.len zfI zcJ zaq kv7 za8.len zcK zaE.len zb9 ⟨isE,rfl,hc⟩ ?_
  intro X7 hexit hstep
  have key:∀ (l:List step) (zaQ:Int) (zas:Bool) (zaM:(Sl step)) (zbk:Int) (iv7:Int) (hv7:(Sl Tab)) (zcJ:Int) (zaq:Int) (kv7:Int) (za8:(Sl (Sl Tab))) (zaE:(Sl step)) (zb8:Nat→List PV) (zgH:zb8=fun i=>zad (zaM.get i)) (zfI:Nat→List PV) (zvz:zfI=fun i=>zac (hv7.get i)) (zcK:Nat→List PV) (ziT:zcK=fun i=>zaG (za8.get i)) (zb9:Nat→List PV) (zgI:zb9=fun i=>zad (zaE.get i)),zlK P5 P6 w zao l zaQ zas zaM zbk iv7 hv7 zcJ zaq kv7 za8 zaE=true→K (e89 (zlJ S5 S6 w zao l zaQ zas zaM zbk iv7 hv7 zcJ zaq kv7 za8 zaE))→X7 (l.map fun y=>[.agg (zad y)]) (zfA w zao zaQ zas zaM.len zb8 zbk iv7 hv7.len zfI zcJ zaq kv7 za8.len zcK zaE.len zb9):=by
    intro l
    induction l with
    | nil =>
      intro zaQ zas zaM zbk iv7 hv7 zcJ zaq kv7 za8 zaE zb8 zgH zfI zvz zcK ziT zb9 zgI hs hk
      subst zgH
      subst zvz
      subst ziT
      subst zgI
      refine hexit zaQ zas zaM zbk iv7 hv7 zcJ zaq kv7 za8 zaE ?_
      have hs:zsf P5 P6 w zao zaQ zas zaM zbk iv7 hv7 zcJ zaq kv7 za8 zaE=true:=hs
      have hk:K (e89 (zse S5 S6 w zao zaQ zas zaM zbk iv7 hv7 zcJ zaq kv7 za8 zaE)):=hk
      unfold zsf at hs
      unfold zse at hk
      exact (hX6 zaQ zas zaM zbk iv7 hv7 zcJ zaq (w64 (kv7 - (1:Int))) za8 zaE (fun i=>zad (zaM.get i)) rfl (fun i=>zac (hv7.get i)) rfl (fun i=>zaG (za8.get i)) rfl (fun i=>zad (zaE.get i)) rfl hs hk)
    | cons y7 l ih =>
      intro zaQ zas zaM zbk iv7 hv7 zcJ zaq kv7 za8 zaE zb8 zgH zfI zvz zcK ziT zb9 zgI hs hk
      subst zgH
      subst zvz
      subst ziT
      subst zgI
      refine hstep y7 _ zaQ zas zaM zbk iv7 hv7 zcJ zaq kv7 za8 zaE ?_
      have hs:zsh P5 P6 w zao y7 (zlK P5 P6 w zao l) zaQ zas zaM zbk iv7 hv7 zcJ zaq kv7 za8 zaE=true:=hs
      have hk:K (e89 (zsg S5 S6 w zao y7 (zlJ S5 S6 w zao l) zaQ zas zaM zbk iv7 hv7 zcJ zaq kv7 za8 zaE)):=hk
      unfold zsh at hs
      unfold zsg at hk
      generalize zlJ S5 S6 w zao l=S7 at hk ih
      generalize zlK P5 P6 w zao l=P7 at hs ih
      have hX7:=ih
      exact (za0 (K := fun r => K (e89 r))
 (fun hs hk => (za0 (K := fun r => K (e89 r))
 (fun hs hk => (za4 hs fun hc hs => ⟨hc, (za4 hs fun hc hs => ⟨hc, (za0 (K := fun r => K (e89 r))
 (fun hs hk => (za4 hs fun hc hs => ⟨hc, (za4 hs fun hc hs => ⟨hc, (za0 (K := fun r => K (e89 r))
 (fun hs hk=>(za4 hs fun hc hs=>⟨hc,(hX6 zaQ zas zaM zbk iv7 hv7 y7.to (w64 (zaq+y7.length)) (w64 (kv7 - (1:Int))) za8 (⟨(zaE.len+1),(zjZ zaE.len zaE.get (fun _=>y7))⟩:Sl step) (fun i=>zad (zaM.get i)) rfl (fun i=>zac (hv7.get i)) rfl (fun i=>zaG (za8.get i)) rfl (appG zaE.len (fun i=>zad (zaE.get i)) (fun _=>(zad y7))) (zk2 (enc:=zad) (f:=zaE.get) (h:=(fun _=>y7)) rfl rfl) hs hk)⟩))
 (fun hs hk=>(hX7 zaQ zas zaM zbk iv7 hv7 zcJ zaq kv7 za8 zaE (fun i=>zad (zaM.get i)) rfl (fun i=>zac (hv7.get i)) rfl (fun i=>zaG (za8.get i)) rfl (fun i=>zad (zaE.get i)) rfl hs hk)) hs hk)⟩)⟩))
 (fun hs hk=>(hX7 zaQ zas zaM zbk iv7 hv7 zcJ zaq kv7 za8 zaE (fun i=>zad (zaM.get i)) rfl (fun i=>zac (hv7.get i)) rfl (fun i=>zaG (za8.get i)) rfl (fun i=>zad (zaE.get i)) rfl hs hk)) hs hk)⟩)⟩))
 (fun hs hk=>(hX7 zaQ zas zaM zbk iv7 hv7 zcJ zaq kv7 za8 zaE (fun i=>zad (zaM.get i)) rfl (fun i=>zac (hv7.get i)) rfl (fun i=>zaG (za8.get i)) rfl (fun i=>zad (zaE.get i)) rfl hs hk)) hs hk))
 (fun hs hk=>(hX7 zaQ zas zaM zbk iv7 hv7 zcJ zaq kv7 za8 zaE (fun i=>zad (zaM.get i)) rfl (fun i=>zac (hv7.get i)) rfl (fun i=>zaG (za8.get i)) rfl (fun i=>zad (zaE.get i)) rfl hs hk)) hs hk)
  exact key _ zaQ zas zaM zbk iv7 hv7 zcJ zaq kv7 za8 zaE zb8 zgH zfI zvz zcK ziT zb9 zgI hs hk
def zsj (S5:Int→Bool→(Sl step)→Int→(Sl (Sl Tab))→(Sl step)) (w:web) (zao:(Sl (Sl Tab))) (S6:Int→Bool→(Sl step)→Int→Int→(Sl Tab)→Int→Int→Int→(Sl (Sl Tab))→(Sl step)→(Sl step)) (zbb:Int) (zaD:Bool) (zaW:(Sl step)) (zbV:Int) (iv6:Int) (hv6:(Sl Tab)) (zef:Int) (zaP:Int) (kv6:Int) (zbN:(Sl (Sl Tab))) (zaZ:(Sl step)):(Sl step) :=
  (cond (decide (kv6 ≥ (0:Int)))
 (zyg S5 S6 w zao zbb zaD zaW zbV iv6 hv6 zef zaP kv6 zbN zaZ)
 (cond zaD
 (zol S5 w zao zbb zaD zaW zbV true zbN zaZ)
 (zol S5 w zao zbb zaD zaW zbV (decide ((zHr zaZ zaW) < (0:Int))) zbN zaZ)))
def zsk (P5:Int→Bool→(Sl step)→Int→(Sl (Sl Tab))→Bool) (w:web) (zao:(Sl (Sl Tab))) (P6:Int→Bool→(Sl step)→Int→Int→(Sl Tab)→Int→Int→Int→(Sl (Sl Tab))→(Sl step)→Bool) (zbb:Int) (zaD:Bool) (zaW:(Sl step)) (zbV:Int) (iv6:Int) (hv6:(Sl Tab)) (zef:Int) (zaP:Int) (kv6:Int) (zbN:(Sl (Sl Tab))) (zaZ:(Sl step)):Bool :=
  (cond (decide (kv6 ≥ (0:Int)))
 (zsi P5 P6 w zao zbb zaD zaW zbV iv6 hv6 zef zaP kv6 zbN zaZ)
 (decide ((zaD=true∨zaW.len ≠ 0)) &&
 (cond zaD
 (zom P5 w zao zbb zaD zaW zbV true zbN zaZ)
 (decide ((zKj zaZ zaW=true)) &&
 (zom P5 w zao zbb zaD zaW zbV (decide ((zHr zaZ zaW) < (0:Int))) zbN zaZ)))))
def zlL (S5 : Int → Bool → (Sl step) → Int → (Sl (Sl Tab)) → (Sl step)) (w : web) (zao : (Sl (Sl Tab))) : Nat → Int → Bool → (Sl step) → Int → Int → (Sl Tab) → Int → Int → Int → (Sl (Sl Tab)) → (Sl step) → (Sl step)
  | 0=>fun _ _ _ _ _ _ _ _ _ _ _=>default
  | k+1=>zsj S5 w zao (zlL S5 w zao k)
def zlM (P5 : Int → Bool → (Sl step) → Int → (Sl (Sl Tab)) → Bool) (w : web) (zao : (Sl (Sl Tab))) : Nat → Int → Bool → (Sl step) → Int → Int → (Sl Tab) → Int → Int → Int → (Sl (Sl Tab)) → (Sl step) → Bool
  | 0=>fun _ _ _ _ _ _ _ _ _ _ _=>false
  | k+1=>zsk P5 w zao (zlM P5 w zao k)
def zyh (S5:Int→Bool→(Sl step)→Int→(Sl (Sl Tab))→(Sl step)) (w:web) (zao:(Sl (Sl Tab))) (zbb:Int) (zaD:Bool) (zaW:(Sl step)) (zbV:Int) (iv6:Int) (hv6:(Sl Tab)) (zef:Int) (zaP:Int) (kv6:Int) (zbN:(Sl (Sl Tab))) (zaZ:(Sl step)):(Sl step):=zlL S5 w zao Fuel zbb zaD zaW zbV iv6 hv6 zef zaP kv6 zbN zaZ
def zyi (P5:Int→Bool→(Sl step)→Int→(Sl (Sl Tab))→Bool) (w:web) (zao:(Sl (Sl Tab))) (zbb:Int) (zaD:Bool) (zaW:(Sl step)) (zbV:Int) (iv6:Int) (hv6:(Sl Tab)) (zef:Int) (zaP:Int) (kv6:Int) (zbN:(Sl (Sl Tab))) (zaZ:(Sl step)):Bool:=zlM P5 w zao Fuel zbb zaD zaW zbV iv6 hv6 zef zaP kv6 zbN zaZ
theorem zFc (K : List PA → Prop) (w : web) (zao : (Sl (Sl Tab)))
  (X5:St→Prop) (P5:Int→Bool→(Sl step)→Int→(Sl (Sl Tab))→Bool) (S5:Int→Bool→(Sl step)→Int→(Sl (Sl Tab))→(Sl step))
  (hX5:∀ (zaV:Int) (zaF:Bool) (zaY:(Sl step)) (za1:Int) (zbl:(Sl (Sl Tab))) (zbt:Nat→List PV) (zeD:zbt=fun i=>zad (zaY.get i)) (zbS:Nat→List PV) (zgf:zbS=fun i=>zaG (zbl.get i)),P5 zaV zaF zaY za1 zbl=true→K (e89 (S5 zaV zaF zaY za1 zbl))→X5 (zfz w zao zaV zaF zaY.len zbt za1 zbl.len zbS)) (zbb:Int) (zaD:Bool) (zaW:(Sl step)) (zbV:Int) (iv6:Int) (hv6:(Sl Tab)) (zef:Int) (zaP:Int) (kv6:Int) (zbN:(Sl (Sl Tab))) (zaZ:(Sl step)) (zbU:Nat→List PV) (zgF:zbU=fun i=>zad (zaW.get i)) (zeI:Nat→List PV) (zvy:zeI=fun i=>zac (hv6.get i)) (zch:Nat→List PV) (ziS:zch=fun i=>zaG (zbN.get i)) (zbW:Nat→List PV) (zgG:zbW=fun i=>zad (zaZ.get i)) (hs:zyi P5 w zao zbb zaD zaW zbV iv6 hv6 zef zaP kv6 zbN zaZ=true) (hk:K (e89 (zyh S5 w zao zbb zaD zaW zbV iv6 hv6 zef zaP kv6 zbN zaZ))):zlG K X5 w zao zbb zaD zaW.len zbU zbV iv6 hv6.len zeI zef zaP kv6 zbN.len zch zaZ.len zbW:=by
  refine zyd K X5 w zao zbb zaD zaW.len zbU zbV iv6 hv6.len zeI zef zaP kv6 zbN.len zch zaZ.len zbW ?_
  intro X6 hstep
  have key:∀ (k:Nat) (zbb:Int) (zaD:Bool) (zaW:(Sl step)) (zbV:Int) (iv6:Int) (hv6:(Sl Tab)) (zef:Int) (zaP:Int) (kv6:Int) (zbN:(Sl (Sl Tab))) (zaZ:(Sl step)) (zbU:Nat→List PV) (zgF:zbU=fun i=>zad (zaW.get i)) (zeI:Nat→List PV) (zvy:zeI=fun i=>zac (hv6.get i)) (zch:Nat→List PV) (ziS:zch=fun i=>zaG (zbN.get i)) (zbW:Nat→List PV) (zgG:zbW=fun i=>zad (zaZ.get i)),zlM P5 w zao k zbb zaD zaW zbV iv6 hv6 zef zaP kv6 zbN zaZ=true→K (e89 (zlL S5 w zao k zbb zaD zaW zbV iv6 hv6 zef zaP kv6 zbN zaZ))→X6 (zib w zao zbb zaD zaW.len zbU zbV iv6 hv6.len zeI zef zaP kv6 zbN.len zch zaZ.len zbW):=by
    intro k
    induction k with
    | zero=>intro zbb zaD zaW zbV iv6 hv6 zef zaP kv6 zbN zaZ zbU zgF zeI zvy zch ziS zbW zgG hs;exact absurd hs Bool.false_ne_true
    | succ k ih =>
      intro zbb zaD zaW zbV iv6 hv6 zef zaP kv6 zbN zaZ zbU zgF zeI zvy zch ziS zbW zgG hs hk
      subst zgF
      subst zvy
      subst ziS
      subst zgG
      refine hstep zbb zaD zaW zbV iv6 hv6 zef zaP kv6 zbN zaZ ?_
      have hs:zsk P5 w zao (zlM P5 w zao k) zbb zaD zaW zbV iv6 hv6 zef zaP kv6 zbN zaZ=true:=hs
      have hk:K (e89 (zsj S5 w zao (zlL S5 w zao k) zbb zaD zaW zbV iv6 hv6 zef zaP kv6 zbN zaZ)):=hk
      unfold zsk at hs
      unfold zsj at hk
      generalize zlL S5 w zao k=S6 at hk ih
      generalize zlM P5 w zao k=P6 at hs ih
      have hX6:=ih
      exact (za0 (K := fun r => K (e89 r))
 (fun hs hk=>⟨⟨isE,rfl⟩,(zFb K w zao X5 P5 S5 hX5 X6 P6 S6 hX6 zbb zaD zaW zbV iv6 hv6 zef zaP kv6 zbN zaZ (fun i=>zad (zaW.get i)) rfl (fun i=>zac (hv6.get i)) rfl (fun i=>zaG (zbN.get i)) rfl (fun i=>zad (zaZ.get i)) rfl hs hk)⟩)
 (fun hs hk => (za4 hs fun hc hs => ⟨hc, (za0 (K := fun r => K (e89 r))
 (fun hs hk=>(zyf K w zao X5 P5 S5 hX5 zbb zaD zaW zbV true zbN zaZ (fun i=>zad (zaW.get i)) rfl (fun i=>zaG (zbN.get i)) rfl (fun i=>zad (zaZ.get i)) rfl hs hk))
 (fun hs hk=>(za4 hs fun hc hs=>⟨⟨isE,isE,hc⟩,(zyf K w zao X5 P5 S5 hX5 zbb zaD zaW zbV (decide ((zHr zaZ zaW) < (0:Int))) zbN zaZ (fun i=>zad (zaW.get i)) rfl (fun i=>zaG (zbN.get i)) rfl (fun i=>zad (zaZ.get i)) rfl hs hk)⟩)) hs hk)⟩)) hs hk)
  exact key _ zbb zaD zaW zbV iv6 hv6 zef zaP kv6 zbN zaZ zbU zgF zeI zvy zch ziS zbW zgG hs hk
def zsl (w:web) (zao:(Sl (Sl Tab))) (S5:Int→Bool→(Sl step)→Int→(Sl (Sl Tab))→(Sl step)) (zaV:Int) (zaF:Bool) (zaY:(Sl step)) (za1:Int) (zbl:(Sl (Sl Tab))):(Sl step) :=
  (cond (decide (za1 < (zao.len : Int)))
 (cond (decide ((tL ((zbl.get za1.toNat).get zaV.toNat) za1) ≥ (0:Int)))
 (S5 zaV zaF zaY (w64 (za1+(1:Int))) zbl)
 (zyh S5 w zao zaV zaF zaY za1 za1 (zbl.get za1.toNat) za1 (0:Int) (w64 (zaV - (1:Int))) zbl (⟨0,(fun _=>default)⟩:Sl step)))
 zaY)
def zsm (w:web) (zao:(Sl (Sl Tab))) (P5:Int→Bool→(Sl step)→Int→(Sl (Sl Tab))→Bool) (zaV:Int) (zaF:Bool) (zaY:(Sl step)) (za1:Int) (zbl:(Sl (Sl Tab))):Bool :=
  (cond (decide (za1 < (zao.len : Int)))
 (decide ((0≤za1∧za1 < (zbl.len:Int))) &&
 (decide ((za1.toNat < zbl.len)) &&
 (decide ((0≤zaV∧zaV < ((zbl.get za1.toNat).len:Int))) &&
 (decide ((0≤za1∧za1 < (40:Int))) &&
 (cond (decide ((tL ((zbl.get za1.toNat).get zaV.toNat) za1) ≥ (0:Int)))
 (P5 zaV zaF zaY (w64 (za1+(1:Int))) zbl)
 (zyi P5 w zao zaV zaF zaY za1 za1 (zbl.get za1.toNat) za1 (0:Int) (w64 (zaV - (1:Int))) zbl (⟨0,(fun _=>default)⟩:Sl step)))))))
 true)
def zlN (w : web) (zao : (Sl (Sl Tab))) : Nat → Int → Bool → (Sl step) → Int → (Sl (Sl Tab)) → (Sl step)
  | 0=>fun _ _ _ _ _=>default
  | k+1=>zsl w zao (zlN w zao k)
def zlO (w : web) (zao : (Sl (Sl Tab))) : Nat → Int → Bool → (Sl step) → Int → (Sl (Sl Tab)) → Bool
  | 0=>fun _ _ _ _ _=>false
  | k+1=>zsm w zao (zlO w zao k)
def zyj (w:web) (zao:(Sl (Sl Tab))) (zaV:Int) (zaF:Bool) (zaY:(Sl step)) (za1:Int) (zbl:(Sl (Sl Tab))):(Sl step):=zlN w zao Fuel zaV zaF zaY za1 zbl
def zyk (w:web) (zao:(Sl (Sl Tab))) (zaV:Int) (zaF:Bool) (zaY:(Sl step)) (za1:Int) (zbl:(Sl (Sl Tab))):Bool:=zlO w zao Fuel zaV zaF zaY za1 zbl
theorem zFd (K:List PA→Prop) (w:web) (zao:(Sl (Sl Tab))) (zaV:Int) (zaF:Bool) (zaY:(Sl step)) (za1:Int) (zbl:(Sl (Sl Tab))) (zbt:Nat→List PV) (zeD:zbt=fun i=>zad (zaY.get i)) (zbS:Nat→List PV) (zgf:zbS=fun i=>zaG (zbl.get i)) (hs:zyk w zao zaV zaF zaY za1 zbl=true) (hk:K (e89 (zyj w zao zaV zaF zaY za1 zbl))):zlF K w zao zaV zaF zaY.len zbt za1 zbl.len zbS:=by
  refine zyc K w zao zaV zaF zaY.len zbt za1 zbl.len zbS ?_
  intro X5 hstep
  have key:∀ (k:Nat) (zaV:Int) (zaF:Bool) (zaY:(Sl step)) (za1:Int) (zbl:(Sl (Sl Tab))) (zbt:Nat→List PV) (zeD:zbt=fun i=>zad (zaY.get i)) (zbS:Nat→List PV) (zgf:zbS=fun i=>zaG (zbl.get i)),zlO w zao k zaV zaF zaY za1 zbl=true→K (e89 (zlN w zao k zaV zaF zaY za1 zbl))→X5 (zfz w zao zaV zaF zaY.len zbt za1 zbl.len zbS):=by
    intro k
    induction k with
    | zero=>intro zaV zaF zaY za1 zbl zbt zeD zbS zgf hs;exact absurd hs Bool.false_ne_true
    | succ k ih =>
      intro zaV zaF zaY za1 zbl zbt zeD zbS zgf hs hk
      subst zeD
      subst zgf
      refine hstep zaV zaF zaY za1 zbl ?_
      have hs:zsm w zao (zlO w zao k) zaV zaF zaY za1 zbl=true:=hs
      have hk:K (e89 (zsl w zao (zlN w zao k) zaV zaF zaY za1 zbl)):=hk
      unfold zsm at hs
      unfold zsl at hk
      generalize zlN w zao k=S5 at hk ih
      generalize zlO w zao k=P5 at hs ih
      have hX5:=ih
      exact (za0 (K := fun r => K (e89 r))
 (fun hs hk => (za4 hs fun hc hs => ⟨hc, (za4 hs fun hc hs => ⟨hc, (za4 hs fun hc hs => ⟨hc, (za4 hs fun hc hs => ⟨hc, (za0 (K := fun r => K (e89 r))
 (fun hs hk=>(hX5 zaV zaF zaY (w64 (za1+(1:Int))) zbl (fun i=>zad (zaY.get i)) rfl (fun i=>zaG (zbl.get i)) rfl hs hk))
 (fun hs hk=>(zFc K w zao X5 P5 S5 hX5 zaV zaF zaY za1 za1 (zbl.get za1.toNat) za1 (0:Int) (w64 (zaV - (1:Int))) zbl (⟨0,(fun _=>default)⟩:Sl step) (fun i=>zad (zaY.get i)) rfl (fun i=>zac ((zbl.get za1.toNat).get i)) rfl (fun i=>zaG (zbl.get i)) rfl (fun i=>zad ((fun _=>default) i)) rfl hs hk)) hs hk)⟩)⟩)⟩)⟩))
 (fun hs hk=>hk) hs hk)
  exact key _ zaV zaF zaY za1 zbl zbt zeD zbS zgf hs hk
def zon (w:web) (zdF:Int) (zao:(Sl (Sl Tab))):(Sl step) :=
  (zyj w zao zdF true (⟨0,(fun _=>default)⟩:Sl step) (0:Int) zao)
def zoo (w:web) (zdF:Int) (zao:(Sl (Sl Tab))):Bool :=
  (zyk w zao zdF true (⟨0,(fun _=>default)⟩:Sl step) (0:Int) zao)
theorem zyl (K:List PA→Prop) (w:web) (zdF:Int) (zao:(Sl (Sl Tab))) (ziQ:Nat→List PV) (zFe:ziQ=fun i=>zaG (zao.get i)) (hs:zoo w zdF zao=true) (hk:K (e89 (zon w zdF zao))):zlE K w zdF zao.len ziQ:=by
  subst zFe
  refine zbm (zE8 K w zdF zao) ?_
  unfold zoo at hs
  unfold zon at hk
  exact (zFd K w zao zdF true (⟨0,(fun _=>default)⟩:Sl step) (0:Int) zao (fun i=>zad ((fun _=>default) i)) rfl (fun i=>zaG (zao.get i)) rfl hs hk)
def zsn (S2:Int→(Sl step)) (w:web) (zaL:(Sl (Sl Tab))) (S3:Int→Int→(Sl step)) (za7:Int) (zbD:Int):(Sl step) :=
  (cond (decide (zbD < (zaL.len : Int)))
 (cond (decide ((tL ((zaL.get zbD.toNat).get za7.toNat) zbD) < (0:Int)))
 (zon w za7 zaL)
 (S3 za7 (w64 (zbD+(1:Int)))))
 (S2 (w64 (za7+(1:Int)))))
def zso (P2:Int→Bool) (w:web) (zaL:(Sl (Sl Tab))) (P3:Int→Int→Bool) (za7:Int) (zbD:Int):Bool :=
  (cond (decide (zbD < (zaL.len : Int)))
 (decide ((0≤zbD∧zbD < (zaL.len:Int))) &&
 (decide ((zbD.toNat < zaL.len)) &&
 (decide ((0≤za7∧za7 < ((zaL.get zbD.toNat).len:Int))) &&
 (decide ((0≤zbD∧zbD < (40:Int))) &&
 (cond (decide ((tL ((zaL.get zbD.toNat).get za7.toNat) zbD) < (0:Int)))
 (zoo w za7 zaL)
 (P3 za7 (w64 (zbD+(1:Int)))))))))
 (P2 (w64 (za7+(1:Int)))))
def zlP (S2 : Int → (Sl step)) (w : web) (zaL : (Sl (Sl Tab))) : Nat → Int → Int → (Sl step)
  | 0=>fun _ _=>default
  | k+1=>zsn S2 w zaL (zlP S2 w zaL k)
def zlQ (P2 : Int → Bool) (w : web) (zaL : (Sl (Sl Tab))) : Nat → Int → Int → Bool
  | 0=>fun _ _=>false
  | k+1=>zso P2 w zaL (zlQ P2 w zaL k)
def zym (S2:Int→(Sl step)) (w:web) (zaL:(Sl (Sl Tab))) (za7:Int) (zbD:Int):(Sl step):=zlP S2 w zaL Fuel za7 zbD
def zyn (P2:Int→Bool) (w:web) (zaL:(Sl (Sl Tab))) (za7:Int) (zbD:Int):Bool:=zlQ P2 w zaL Fuel za7 zbD
theorem zFf (K : List PA → Prop) (w : web) (zaL : (Sl (Sl Tab)))
  (X2:St→Prop) (P2:Int→Bool) (S2:Int→(Sl step))
  (hX2:∀ (zbd:Int),P2 zbd=true→K (e89 (S2 zbd))→X2 (zjD w zaL zbd)) (za7:Int) (zbD:Int) (hs:zyn P2 w zaL za7 zbD=true) (hk:K (e89 (zym S2 w zaL za7 zbD))):zlD K X2 w zaL za7 zbD:=by
  refine zyb K X2 w zaL za7 zbD ?_
  intro X3 hstep
  have key:∀ (k:Nat) (za7:Int) (zbD:Int),zlQ P2 w zaL k za7 zbD=true→K (e89 (zlP S2 w zaL k za7 zbD))→X3 (zlC w zaL za7 zbD):=by
    intro k
    induction k with
    | zero=>intro za7 zbD hs;exact absurd hs Bool.false_ne_true
    | succ k ih =>
      intro za7 zbD hs hk
      refine hstep za7 zbD ?_
      have hs:zso P2 w zaL (zlQ P2 w zaL k) za7 zbD=true:=hs
      have hk:K (e89 (zsn S2 w zaL (zlP S2 w zaL k) za7 zbD)):=hk
      unfold zso at hs
      unfold zsn at hk
      generalize zlP S2 w zaL k=S3 at hk ih
      generalize zlQ P2 w zaL k=P3 at hs ih
      have hX3:=ih
      exact (za0 (K := fun r => K (e89 r))
 (fun hs hk => (za4 hs fun hc hs => ⟨hc, (za4 hs fun hc hs => ⟨hc, (za4 hs fun hc hs => ⟨hc, (za4 hs fun hc hs => ⟨hc, (za0 (K := fun r => K (e89 r))
 (fun hs hk=>(zyl K w za7 zaL (fun i=>zaG (zaL.get i)) rfl hs hk))
 (fun hs hk=>(hX3 za7 (w64 (zbD+(1:Int))) hs hk)) hs hk)⟩)⟩)⟩)⟩))
 (fun hs hk=>(hX2 (w64 (za7+(1:Int))) hs hk)) hs hk)
  exact key _ za7 zbD hs hk
def zsp (w:web) (zaL:(Sl (Sl Tab))) (S2:Int→(Sl step)) (zbd:Int):(Sl step) :=
  (cond (decide (zbd < w.Net.Nodes))
 (zym S2 w zaL zbd (0:Int))
 (zon w zbd zaL))
def zsq (w:web) (zaL:(Sl (Sl Tab))) (P2:Int→Bool) (zbd:Int):Bool :=
  (cond (decide (zbd < w.Net.Nodes))
 (zyn P2 w zaL zbd (0:Int))
 (zoo w zbd zaL))
def zlR (w : web) (zaL : (Sl (Sl Tab))) : Nat → Int → (Sl step)
  | 0=>fun _=>default
  | k+1=>zsp w zaL (zlR w zaL k)
def zlS (w : web) (zaL : (Sl (Sl Tab))) : Nat → Int → Bool
  | 0=>fun _=>false
  | k+1=>zsq w zaL (zlS w zaL k)
def zyo (w:web) (zaL:(Sl (Sl Tab))) (zbd:Int):(Sl step):=zlR w zaL Fuel zbd
def zyp (w:web) (zaL:(Sl (Sl Tab))) (zbd:Int):Bool:=zlS w zaL Fuel zbd
theorem zFg (K:List PA→Prop) (w:web) (zaL:(Sl (Sl Tab))) (zbd:Int) (hs:zyp w zaL zbd=true) (hk:K (e89 (zyo w zaL zbd))):zlB K w zaL zbd:=by
  refine zya K w zaL zbd ?_
  intro X2 hstep
  have key:∀ (k:Nat) (zbd:Int),zlS w zaL k zbd=true→K (e89 (zlR w zaL k zbd))→X2 (zjD w zaL zbd):=by
    intro k
    induction k with
    | zero=>intro zbd hs;exact absurd hs Bool.false_ne_true
    | succ k ih =>
      intro zbd hs hk
      refine hstep zbd ?_
      have hs:zsq w zaL (zlS w zaL k) zbd=true:=hs
      have hk:K (e89 (zsp w zaL (zlR w zaL k) zbd)):=hk
      unfold zsq at hs
      unfold zsp at hk
      generalize zlR w zaL k=S2 at hk ih
      generalize zlS w zaL k=P2 at hs ih
      have hX2:=ih
      exact (za0 (K := fun r => K (e89 r))
 (fun hs hk=>(zFf K w zaL X2 P2 S2 hX2 zbd (0:Int) hs hk))
 (fun hs hk=>(zyl K w zbd zaL (fun i=>zaG (zaL.get i)) rfl hs hk)) hs hk)
  exact key _ zbd hs hk
def zsr (w:web) (zaL:(Sl (Sl Tab))):(Sl step) :=
  (zyo w zaL (1:Int))
def zss (w:web) (zaL:(Sl (Sl Tab))):Bool :=
  (zyp w zaL (1:Int))
theorem zFh (K:List PA→Prop) (w:web) (zaL:(Sl (Sl Tab))) (ziP:Nat→List PV) (zFi:ziP=fun i=>zaG (zaL.get i)) (hs:zss w zaL=true) (hk:K (e89 (zsr w zaL))):zoi K w zaL.len ziP:=by
  subst zFi
  refine zbm (zE7 K w zaL) ?_
  unfold zss at hs
  unfold zsr at hk
  exact (zFg K w zaL (1:Int) hs hk)
def zst (w:web) (S0:Int→(Sl (Sl Tab))→(Sl step)) (zbw:Int) (zb1:(Sl (Sl Tab))):(Sl step) :=
  (cond (decide (zbw < (w.Net.Nodes.toNat : Int)))
 (S0 (w64 (zbw+(1:Int))) (⟨zb1.len,(setT zbw.toNat (zxT w zbw w.Net.Nodes) zb1.get)⟩:Sl (Sl Tab)))
 (zsr w zb1))
def zsu (w:web) (P0:Int→(Sl (Sl Tab))→Bool) (zbw:Int) (zb1:(Sl (Sl Tab))):Bool :=
  (cond (decide (zbw < (w.Net.Nodes.toNat : Int)))
 (decide ((zII w zbw w.Net.Nodes=true)) &&
 (decide ((0≤zbw∧zbw < (zb1.len:Int))) &&
 (decide ((zbw.toNat < zb1.len)) &&
 (P0 (w64 (zbw+(1:Int))) (⟨zb1.len,(setT zbw.toNat (zxT w zbw w.Net.Nodes) zb1.get)⟩:Sl (Sl Tab))))))
 (zss w zb1))
def zlT (w : web) : Nat → Int → (Sl (Sl Tab)) → (Sl step)
  | 0=>fun _ _=>default
  | k+1=>zst w (zlT w k)
def zlU (w : web) : Nat → Int → (Sl (Sl Tab)) → Bool
  | 0=>fun _ _=>false
  | k+1=>zsu w (zlU w k)
def zyq (w:web) (zbw:Int) (zb1:(Sl (Sl Tab))):(Sl step):=zlT w Fuel zbw zb1
def zyr (w:web) (zbw:Int) (zb1:(Sl (Sl Tab))):Bool:=zlU w Fuel zbw zb1
theorem zFj (K:List PA→Prop) (w:web) (zbw:Int) (zb1:(Sl (Sl Tab))) (zcI:Nat→List PV) (zlV:zcI=fun i=>zaG (zb1.get i)) (hs:zyr w zbw zb1=true) (hk:K (e89 (zyq w zbw zb1))):zlA K w zbw zb1.len zcI:=by
  refine zx9 K w zbw zb1.len zcI ?_
  intro X0 hstep
  have key:∀ (k:Nat) (zbw:Int) (zb1:(Sl (Sl Tab))) (zcI:Nat→List PV) (zlV:zcI=fun i=>zaG (zb1.get i)),zlU w k zbw zb1=true→K (e89 (zlT w k zbw zb1))→X0 (zlz w zbw zb1.len zcI):=by
    intro k
    induction k with
    | zero=>intro zbw zb1 zcI zlV hs;exact absurd hs Bool.false_ne_true
    | succ k ih =>
      intro zbw zb1 zcI zlV hs hk
      subst zlV
      refine hstep zbw zb1 ?_
      have hs:zsu w (zlU w k) zbw zb1=true:=hs
      have hk:K (e89 (zst w (zlT w k) zbw zb1)):=hk
      unfold zsu at hs
      unfold zst at hk
      generalize zlT w k=S0 at hk ih
      generalize zlU w k=P0 at hs ih
      have hX0:=ih
      exact (za0 (K := fun r => K (e89 r))
 (fun hs hk=>(za4 hs fun hc hs=>⟨⟨isE,rfl,hc⟩,(za4 hs fun hc hs=>⟨hc,(za4 hs fun hc hs=>⟨hc,(hX0 (w64 (zbw+(1:Int))) (⟨zb1.len,(setT zbw.toNat (zxT w zbw w.Net.Nodes) zb1.get)⟩:Sl (Sl Tab)) (zjP zbw.toNat 0 (fun i=>zaG (zb1.get i)) (zaG (zxT w zbw w.Net.Nodes))) (zmV (enc:=zaG) (i:=zbw.toNat) (k:=0) (f:=zb1.get) (new:=(zaG (zxT w zbw w.Net.Nodes))) (v:=(zxT w zbw w.Net.Nodes)) rfl rfl) hs hk)⟩)⟩)⟩))
 (fun hs hk=>(zFh K w zb1 (fun i=>zaG (zb1.get i)) rfl hs hk)) hs hk)
  exact key _ zbw zb1 zcI zlV hs hk
def s89 (w:web):(Sl step) :=
  (zyq w (0:Int) (⟨w.Net.Nodes.toNat,(fun _=>(⟨0,fun _=>(fun _=>(0:Int))⟩:(Sl Tab)))⟩:Sl (Sl Tab)))
def p89 (w:web):Bool :=
  (decide ((0≤w.Net.Nodes∧w.Net.Nodes=w.Net.Nodes∧w.Net.Nodes≤1000000)) &&
 (zyr w (0:Int) (⟨w.Net.Nodes.toNat,(fun _=>(⟨0,fun _=>(fun _=>(0:Int))⟩:(Sl Tab)))⟩:Sl (Sl Tab))))
theorem q89 (w:web) (K:List PA→Prop) (hs:p89 w=true) (hk:K (e89 (s89 w))):vcFun Tryd.prog G89 zaX 89 [.one (.fp (zaC w) 0)] K:=by
  refine zbm (zE6 w K) ?_
  unfold p89 at hs
  unfold s89 at hk
  exact (za4 hs fun hc hs=>⟨hc,(zFj K w (0:Int) (⟨w.Net.Nodes.toNat,(fun _=>(⟨0,fun _=>(fun _=>(0:Int))⟩:(Sl Tab)))⟩:Sl (Sl Tab)) (fun _=>(zaG (⟨0,fun _=>(fun _=>(0:Int))⟩:(Sl Tab)))) rfl hs hk)⟩)
def zB7 : List PA → COut
  | [.one (.fp [.int .i64 zar,.sl zal zaO zam,.fm zbJ zaS zaT] 0)]=>.det (IsE zai 4 zaO zam∧zbJ=(false,1,false,[none])∧p89 (⟨(⟨zar,(⟨zal,zat zam⟩:(Sl Tie))⟩:Net),(⟨zaS,zaT⟩:Mp)⟩:web)=true) [.one (.sl ((s89 (⟨(⟨zar,(⟨zal,zat zam⟩:(Sl Tie))⟩:Net),(⟨zaS,zaT⟩:Mp)⟩:web)).len) 5 (fun i=>zad ((s89 (⟨(⟨zar,(⟨zal,zat zam⟩:(Sl Tie))⟩:Net),(⟨zaS,zaT⟩:Mp)⟩:web)).get i)))]
  | _=>.no
theorem zIV:zay Tryd.prog 89:=⟨_,rfl,rfl,by kernel_rfl⟩
theorem zL6:Ok Tryd.prog 89 zB7:=zbY zK2 zIV fun args K h=>by
  unfold zB7 at h
  split at h
  · rename_i zar zal zaO zam zbJ zaS zaT
    obtain ⟨⟨⟨rfl,zaB,rfl⟩,rfl,hs⟩,hk⟩:=h
    try rw [zav zaB] at hs
    try rw [zav zaB] at hk
    exact ⟨(fun _ _=>[]),(fun _=>false),zaX,q89 (⟨(⟨zar,(⟨zal,zaB⟩:(Sl Tie))⟩:Net),(⟨zaS,zaT⟩:Mp)⟩:web) K hs hk⟩
  · exact h.elim
end Go.Proofs
