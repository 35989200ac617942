/- Part 5 of what the proof rests on: a machine that runs functions of the program on pure values, proved sound; the functions that the law reaches, and what they compute. -/
import Derived.Test.YtedhjaaikeakoaaDoorQ4
import Derived.Sort.OwnSortedInts
import Derived.Lib.SlicesCompact
import Derived.Test.YtedhjaaikeakoaaDoorProg
import Derived.ProofKit
import Derived.Deep.Slices
import Derived.OpenShut
import Derived.Shelf.SlIterI.Nil
import Derived.Shelf.SortM.Plain
import Derived.Shelf.SortM.SortNone
import Derived.Ground.GgzProg
import Derived.Ground.SlgmProg
set_option linter.all false
namespace Go.Pm

structure Tabs where
  fn:List (Nat×(List PA→COut))
  own:List (Nat×OwnK)
  it:List (Nat×(List PA→Option (Prop×List (List PA))))
  mt:List (Nat×MK)
def zwX : List (Nat × (List PA → COut)) → Nat → List PA → COut
  | [],_=>fun _=>.no
  | (k,c) :: r,n=>match Nat.beq k n with | true=>c | false=>zwX r n
def zwY (l:List (Nat×OwnK)) (f:Nat):OwnK:=match lk l f with | some c=>c | none=>.none
def zEB (l:List (Nat×(List PA→Option (Prop×List (List PA))))) (f:Nat):List PA→Option (Prop×List (List PA)):=match lk l f with | some c=>c | none=>fun _=>none
def csm (T:Tabs) (memo:Nat→Int→List Int) (vv:Nat→Bool):Ctrs:=⟨zwX T.fn,zwY T.own,zEB T.it,memo,vv,lk T.mt⟩
abbrev cs (T:Tabs):Ctrs:=csm T (fun _ _=>[]) (fun _=>false)
def Tabs.nil:Tabs:=⟨[],[],[],[]⟩
def Tabs.addF (T:Tabs) (f:Nat) (c:List PA→COut):Tabs:=⟨(f,c) :: T.fn,T.own,T.it,T.mt⟩
def Tabs.addO (T:Tabs) (f:Nat) (c:OwnK):Tabs:=⟨T.fn,(f,c) :: T.own,T.it,T.mt⟩
def Tabs.addI (T:Tabs) (f:Nat) (c:List PA→Option (Prop×List (List PA))):Tabs:=⟨T.fn,T.own,(f,c) :: T.it,T.mt⟩
def Tabs.addM (T:Tabs) (f:Nat) (c:MK):Tabs:=⟨T.fn,T.own,T.it,(f,c) :: T.mt⟩

theorem zLj {P:Program} {f:Nat} : Ok P f (fun _=>.no):=fun _ _ h=>h.elim
theorem zLk {P:Program} {f:Nat} : zCW P f (fun _=>none):=fun _ _ _ h=>by cases h

structure TabsOk (P : Program) (T : Tabs) : Prop where
  fn:∀ x∈T.fn,Ok P x.1 x.2
  own:∀ x∈T.own,zol P x.1 x.2
  it:∀ x∈T.it,zCW P x.1 x.2
  mt:∀ x∈T.mt,zjo P x.1 x.2
theorem TabsOk.nil {P:Program} : TabsOk P .nil:=⟨fun _ h=>(by cases h),fun _ h=>(by cases h),fun _ h=>(by cases h),fun _ h=>(by cases h)⟩
theorem TabsOk.addF {P:Program} {T:Tabs} (h:TabsOk P T) {f:Nat} {c:List PA→COut} (hc:Ok P f c):TabsOk P (T.addF f c) :=
 ⟨fun x hx=>(List.mem_cons.1 hx).elim (fun e=>by rw [e];exact hc) (fun hx=>h.fn x hx),h.own,h.it,h.mt⟩
theorem TabsOk.addO {P:Program} {T:Tabs} (h:TabsOk P T) {f:Nat} {c:OwnK} (hc:zol P f c):TabsOk P (T.addO f c) :=
 ⟨h.fn,fun x hx=>(List.mem_cons.1 hx).elim (fun e=>by rw [e];exact hc) (fun hx=>h.own x hx),h.it,h.mt⟩
theorem TabsOk.addI {P:Program} {T:Tabs} (h:TabsOk P T) {f:Nat} {c:List PA→Option (Prop×List (List PA))} (hc:zCW P f c):TabsOk P (T.addI f c) :=
 ⟨h.fn,h.own,fun x hx=>(List.mem_cons.1 hx).elim (fun e=>by rw [e];exact hc) (fun hx=>h.it x hx),h.mt⟩
theorem TabsOk.addM {P:Program} {T:Tabs} (h:TabsOk P T) {f:Nat} {c:MK} (hc:zjo P f c):TabsOk P (T.addM f c) :=
 ⟨h.fn,h.own,h.it,fun x hx=>(List.mem_cons.1 hx).elim (fun e=>by rw [e];exact hc) (fun hx=>h.mt x hx)⟩
theorem TabsOk.all {P:Program} {T:Tabs} (h:TabsOk P T) (memo:Nat→Int→List Int) (vv:Nat→Bool):OkAll P (csm T memo vv):=by
 refine ⟨fun f C hC=>h.mt _ (zcc hC),fun f=>?_,fun f=>?_,fun f=>?_⟩
 ·show Ok P f (zwX T.fn f)
  have key:∀ l:List (Nat×(List PA→COut)),(∀ x∈l,Ok P x.1 x.2)→Ok P f (zwX l f):=by
   intro l
   induction l with
   | nil=>intro _;exact zLj
   | cons x l ih =>
    intro hl
    obtain ⟨k,c⟩:=x
    simp only [zwX]
    split
    ·rename_i e
     have:=hl (k,c) List.mem_cons_self
     rw [← Nat.eq_of_beq_eq_true e];exact this
    ·exact ih fun x hx=>hl x (List.mem_cons_of_mem _ hx)
  exact key T.fn h.fn
 ·show zol P f (zwY T.own f)
  unfold zwY
  split
  ·rename_i c hc;exact h.own _ (zcc hc)
  ·trivial
 ·show zCW P f (zEB T.it f)
  unfold zEB
  split
  ·rename_i c hc;exact h.it _ (zcc hc)
  ·exact zLk

theorem zbv {P : Program} {T : Tabs} (hT : TabsOk P T) {f : FuncId} {C : List PA → COut} (hc : zax P f)
    (h:∀ args K,(C args).wp K→∃ memo vv ann,vcFun P (csm T memo vv) ann f args K):Ok P f C :=
  zBK (hT.all (fun _ _=>[]) (fun _=>false)) hc h
theorem zEC {P : Program} {T : Tabs} (hT : TabsOk P T) {f : FuncId} {C : MK} (hc : zax P f)
    (h:∀ xs safe rs ys,C xs=some (safe,rs,ys)→safe→∀ K:List PA→List XA→Prop,K rs ys→∃ memo vv ann,zkD P (csm T memo vv) ann f xs K):zjo P f C :=
  zwW (hT.all (fun _ _=>[]) (fun _=>false)) hc h
theorem zIA {P : Program} {T : Tabs} (hT : TabsOk P T) {f : FuncId} {C : List PA → Option (Prop × List (List PA))} (hc : zax P f)
    (h:∀ l caps safe ys,C caps=some (safe,ys)→safe→∃ memo vv ann,vcIter P (csm T memo vv) ann f l caps ys):zCW P f C :=
  zBO (hT.all (fun _ _=>[]) (fun _=>false)) hc h
structure Sl (α : Type) where
  len:Nat
  get:Nat→α
instance {α:Type} [Inhabited α]:Inhabited (Sl α):=⟨⟨0,fun _=>default⟩⟩
abbrev w64 (x:Int):Int:=IntKind.i64.wrap x

def IsE {α:Type} (enc:α→List PV) (size s:Nat) (g:Nat→List PV):Prop:=s=size∧∃ f:Nat→α,g=fun i=>enc (f i)
theorem isE {α:Type} {enc:α→List PV} {size:Nat} {f:Nat→α} : IsE enc size size (fun i=>enc (f i)):=⟨rfl,f,rfl⟩
theorem zwZ {α:Type} {enc:α→List PV} {size:Nat} {x:α} : IsE enc size size (fun _=>enc x):=⟨rfl,fun _=>x,rfl⟩
def zg6 {α:Type} (n:Nat) (get new:Nat→α):Nat→α:=fun j=>match Nat.ble n j with | true=>new (j - n) | false=>get j
theorem zBS {α:Type} {enc:α→List PV} {n:Nat} {f h:Nat→α} : appG n (fun i=>enc (f i)) (fun i=>enc (h i))=fun i=>enc (zg6 n f h i):=by
 funext j;simp only [appG,zg6];cases Nat.ble n j <;> rfl
def zp8 {α : Type} (x : α) : List α → Nat → α
  | [],_=>x
  | y :: _,0=>y
  | _ :: r,i+1=>zp8 x r i
theorem ztz {α:Type} {enc:α→List PV} {x y:α} {r:List α} : zbU (enc x :: enc y :: r.map enc)=fun i=>enc (zp8 x (x :: y :: r) i):=by
 have key:∀ (l:List α) (i:Nat),(match (l.map enc)[i]? with | some z=>z | none=>enc x)=enc (zp8 x l i):=by
  intro l
  induction l with
  | nil=>intro i;rfl
  | cons a l ih =>
   intro i
   cases i with
   | zero=>rfl
   | succ i=>simpa [zp8] using ih i
 funext i
 exact key (x :: y :: r) i
theorem zeC {α:Type} {enc:α→List PV} {size:Nat} {x y:α} (r:List α):IsE enc size size (zbU (enc x :: enc y :: r.map enc)):=⟨rfl,_,ztz⟩

theorem za1 {b:Bool} {A B:Prop} {S S':Bool} {α:Type} {K:α→Prop} {x y:α} (h1:S=true→K x→A) (h2:S'=true→K y→B) (hs:cond b S S'=true) (hk:K (cond b x y)):zbV b A B:=by
 cases b
 ·exact h2 hs hk
 ·exact h1 hs hk
theorem zhH {b:Bool} {A B:Prop} {S S':Bool} {α β:Type} {f:α→β} {ys:List β} {x y:List α} (hs:cond b S S'=true) (hk:ys=(cond b x y).map f) (h1:S=true→ys=x.map f→A) (h2:S'=true→ys=y.map f→B):zbV b A B:=by
 cases b
 ·exact h2 hs hk
 ·exact h1 hs hk
theorem itY {α β:Type} {f:α→β} {ys:List β} {p:β} {x r:List α} {l:Nat} {A:List β→Prop} (hk:ys=x.map f) (e:x.map f=p :: r.map f) (h:∀ zs,zs=r.map f→A zs):l=l∧∃ z,ys=p :: z∧A z∧True :=
 ⟨rfl,_,hk.trans e,h _ rfl,trivial⟩
theorem zaU {C A:Prop} [d:Decidable C] {r:Bool} (hs:(decide C && r)=true) (k:C→r=true→A):A:=by
 rw [Bool.and_eq_true] at hs
 exact k (of_decide_eq_true hs.1) hs.2
abbrev Fuel:Nat:=9223372036854775808
def setT {α:Type} (i:Nat) (v:α) (get:Nat→α):Nat→α:=fun j=>match Nat.beq j i with | true=>v | false=>get j
theorem zkH {α:Type} {enc:α→List PV} {n:Nat} {g g':Nat→List PV} {f h:Nat→α} (h1:g=fun i=>enc (f i)) (h2:g'=fun i=>enc (h i)):appG n g g'=fun i=>enc (zg6 n f h i):=by
 subst h1;subst h2;exact zBS
theorem zfz {α:Type} {enc:α→List PV} {i k:Nat} {g:Nat→List PV} {f:Nat→α} {new:List PV} {v:α} (h1:g=fun i=>enc (f i)) (h2:spl (enc (f i)) k new=enc v):zju i k g new=fun j=>enc (setT i v f j):=by
 subst h1
 funext j
 simp only [zju,setT]
 cases e:Nat.beq j i
 ·rfl
 ·have := Nat.eq_of_beq_eq_true e
  subst this;exact h2
def zvs (P:Program) (G:Ctrs) (ann:Ann) (hd:Nat) (ps:List Nat) (assign body:Code) (X:List (List PA)→St→Prop) (K:Exit→St→Prop) (y:List PA) (rest:List (List PA)) (s:St):Prop :=
 match lk ann.head hd with
 | some k=>match zhu ps y s.env with
  | some env=>vc P G ann assign (zCV (vc P G ann body (zl5 P k (X rest) K)) fun _ _=>False) ⟨env,s.objs,[]⟩
  | none=>False
 | none=>False
end Go.Pm
namespace Go.Pm
open Go Go.Sort

/-! Nil slices are slices of length 0. -/
inductive PVle : PV → PV → Prop
  | rfl (p:PV):PVle p p
  | nil (s:Nat) (g:Nat→List PV):PVle .nils (.sl 0 s g)
  | nilm (q:MQ):PVle .nilm (.fm q 0 (fun _=>none))
inductive PAle : PA → PA → Prop
  | one {p q:PV} : PVle p q→PAle (.one p) (.one q)
  | agg {l m:List PV} : RL PVle l m→PAle (.agg l) (.agg m)
theorem zo4 {α β:Type} {R:α→β→Prop} : RL R [] []:=trivial
theorem zh3 {α β:Type} {R:α→β→Prop} {a:α} {b:β} {l:List α} {m:List β} (h:R a b) (h':RL R l m):RL R (a :: l) (b :: m):=⟨h,h'⟩
theorem zfU {α : Type} {R : α → α → Prop} (h : ∀ a, R a a) : ∀ l : List α, RL R l l
  | []=>trivial
  | a :: l=>⟨h a,zfU h l⟩
theorem zgQ (a:PA):PAle a a:=by
 cases a with
 | one p=>exact .one (.rfl p)
 | agg l=>exact .agg (zfU .rfl l)
def Wk (K:List PA→Prop) (l:List PA):Prop:=∃ l',RL PAle l l'∧K l'
theorem wk {K:List PA→Prop} {l l':List PA} (hk:K l') (h:RL PAle l l'):Wk K l:=⟨l',h,hk⟩
theorem zgR {K:List PA→Prop} {l:List PA} (hk:K l):Wk K l:=⟨l,zfU zgQ l,hk⟩
theorem zIB {h:Fz} {p q:PV} {v:Value} (e:PVle p q) (r:Rep h p v):Rep h q v:=by
 cases e with
 | rfl=>exact r
 | nil s g=>cases r;exact .sl0 s g
 | nilm q=>cases r;exact .fmn q _ (fun _ _=>rfl)
theorem zw0 {α β γ : Type} {R : α → β → Prop} {S : α → γ → Prop} {T : γ → β → Prop} (h : ∀ a b c, S a c → R a b → T c b) : ∀ (l : List α) (m : List β) (k : List γ), RL S l k → RL R l m → RL T k m
  | [],[],[],_,_=>trivial
  | a :: l,b :: m,c :: k,hs,hr=>⟨h a b c hs.1 hr.1,zw0 h l m k hs.2 hr.2⟩
  | [],_ :: _,[],_,hr=>hr.elim
  | [],_,_ :: _,hs,_=>hs.elim
  | _ :: _,_,[],hs,_=>hs.elim
  | _ :: _,[],_ :: _,_,hr=>hr.elim
theorem zBT {h:Fz} {a b:PA} {v:Value} (e:PAle a b) (r:paR h a v):paR h b v:=by
 cases e with
 | one e=>exact zIB e r
 | agg e =>
  obtain ⟨vs,rfl,hv⟩:=r
  exact ⟨vs,rfl,zw0 (R:=Rep h) (S:=PVle) (T:=Rep h) (fun _ _ _ e r=>zIB e r) _ _ _ e hv⟩
theorem zw1 {h:Fz} {l m:List PA} {v:Value} (e:RL PAle l m) (r:zod h l v):zod h m v:=by
 match l,m,e,r with
 | [a],[b],e,r=>exact zBT e.1 r
 | [],[],_,r=>exact r
 | a :: b :: l,c :: d :: m,e,r =>
  obtain ⟨vs,hv,hr⟩:=r
  exact ⟨vs,hv,zw0 (R:=paR h) (S:=PAle) (T:=paR h) (fun _ _ _ e r=>zBT e r) _ _ _ e hr⟩
 | [_],_ :: _ :: _,e,_=>exact e.2.elim
 | _ :: _ :: _,[_],e,_=>exact e.2.elim
 | [],_ :: _,e,_=>exact e.elim
 | _ :: _,[],e,_=>exact e.elim
theorem zij {P : Program} {T : Tabs} (hT : TabsOk P T) {f : FuncId} {C : List PA → COut} (hc : zax P f)
    (h:∀ args K,(C args).wp K→∃ args',RL PAle args args'∧∃ memo vv ann,vcFun P (csm T memo vv) ann f args' (Wk K)):Ok P f C:=by
  intro args K hK w h0 vs hvs hfz hgl
  obtain ⟨args',hle,memo,vv,ann,hv⟩:=h args K hK
  refine ⟨hc,(zwP (hT.all memo vv) hv (zw0 (R:=paR h0) (S:=PAle) (T:=paR h0) (fun _ _ _ e r=>zBT e r) _ _ _ hle hvs) hfz hgl).mono ?_⟩
  rintro e w' ⟨h',rs,v,⟨rs',hr,hk⟩,he,hres,rest⟩
  exact ⟨h',rs',v,hk,he,zw1 hr hres,rest⟩
theorem zBU {P : Program} {T : Tabs} (hT : TabsOk P T) {f : FuncId} {C : MK} (hc : zax P f)
    (h:∀ xs safe rs ys,C xs=some (safe,rs,ys)→safe→∀ K:List PA→List XA→Prop,K rs ys→∃ memo vv ann,zkD P (csm T memo vv) ann f xs (fun a b=>Wk (fun a'=>K a' b) a)):zjo P f C:=by
  intro xs ys safe rs hC hs w h0 base vs hvs hn hK hw hgl hB
  obtain ⟨memo,vv,ann,hv⟩:=h xs safe rs ys hC hs (fun l zs=>l=rs∧zs=ys) ⟨rfl,rfl⟩
  refine ⟨hc,(zwV (hT.all memo vv) hv hvs hn hK hw hgl hB).mono ?_⟩
  rintro e w' ⟨h',v,rs',ys',⟨rs2,hr,rfl,rfl⟩,he,hres,r⟩
  exact ⟨h',v,he,zw1 hr hres,r⟩
def WkM (K:List PA×List XA→Prop) (p:List PA×List XA):Prop:=Wk (fun a=>K (a,p.2)) p.1
theorem wkM {K:List PA×List XA→Prop} {l l':List PA} {b:List XA} (hk:K (l',b)) (h:RL PAle l l'):WkM K (l,b):=⟨l',h,hk⟩
theorem zw2 {K:List PA×List XA→Prop} {p:List PA×List XA} (hk:K p):WkM K p:=⟨p.1,zfU zgQ p.1,hk⟩
/-! Maps, as typed values; the keys of a map. -/
structure Mp where
  n:Nat
  F:List Int→Option (List Int)
instance:Inhabited Mp:=⟨⟨0,fun _=>none⟩⟩

end Go.Pm
namespace Go.Pm

abbrev zI (x:Int):DV:=.one (.c (.p (.int .i64 x)))
abbrev zB (x:Bool):DV:=.one (.c (.p (.bool x)))
abbrev zP (x:PV):DV:=.one (.c (.p x))
abbrev zp (L k:Nat):DV:=.one (.c (.ptr L k))
abbrev zv (L:Nat):DV:=.one (.c (.vec L))
abbrev zs {α:Type} (enc:α→List PV) (s:Nat) (x:Sl α):PV:=.sl x.len s (fun i=>enc (x.get i))
abbrev zS {α:Type} (enc:α→List PV) (s:Nat) (x:Sl α):DV:=zP (zs enc s x)
abbrev zm (l:List PV):List Cl:=l.map Cl.p
abbrev zi (x:Int):Cl:=.p (.int .i64 x)
abbrev zg {α:Type} (enc:α→List PV) (x:Sl α):Nat→List PV:=fun i=>enc (x.get i)
abbrev zK (a b:List Nat):Keep:=⟨a,b,[],[],[],[],[]⟩
theorem zE {α:Type} (enc:α→List PV) (size:Nat) (f:Nat→α):IsE enc size size (fun i=>enc (f i)):=⟨rfl,f,rfl⟩

theorem zw3 {α : Type} : ∀ (new l pre : List α), l.length = new.length → spl (pre ++ l) pre.length new = pre ++ new
  | [],l,pre,h=>by
    have:l=[]:=List.eq_nil_of_length_eq_zero h
    subst this;rfl
  | x :: r,[],pre,h=>by simp at h
  | x :: r,y :: l,pre,h=>by
    have e:=zw3 r l (pre ++ [x]) (by simpa using h)
    simp only [spl,List.append_assoc,List.singleton_append,List.length_append,List.length_singleton] at e ⊢
    rw [List.set_append_right _ _ (Nat.le_refl _),Nat.sub_self,List.set_cons_zero]
    exact e
theorem znq {n:Nat} {F G:Nat→Int} : spl (zhn 0 n F) 0 (zhn 0 n G)=zhn 0 n G:=by
 have h:=zw3 (zhn 0 n G) (zhn 0 n F) [] (by rw [ze9,ze9])
 simpa using h
theorem zhI {n:Nat} {F:Nat→Int} : zhn 0 n F=zhn 0 n (zl0 (zm (zhn 0 n F))):=by
 refine List.ext_getElem? fun k=>?_
 by_cases hk:k < n
 ·rw [zgs n 0 F k hk, zgs n 0 _ k hk, Nat.zero_add]
  congr 2
  have h:(zm (zhn 0 n F))[k]? = some (.p (.int .i64 (F k))):=by
   rw [zm,List.getElem?_map,zgs n 0 F k hk,Nat.zero_add];rfl
  unfold zl0
  rw [h]
 ·rw [List.getElem?_eq_none (by rw [ze9];omega),List.getElem?_eq_none (by rw [ze9];omega)]

@[reducible] def lpO {A : Type} (d : A) (st : A → A) : Nat → A
  | 0=>d
  | k+1=>st (lpO d st k)
theorem zh4 {A B : Type} (a : A) (b : B) (p : A → A) (s : B → B) (M : A → B → Prop) (h0 : M a b) (h1 : ∀ P S, M P S → M (p P) (s S)) : ∀ k, M (lpO a p k) (lpO b s k)
  | 0=>h0
  | k+1=>h1 _ _ (zh4 a b p s M h0 h1 k)
def xcm (l:List PV):List XC:=l.map .p
def unX : List XC → List PV
  | []=>[]
  | .p v :: r=>v :: unX r
  | _ :: r=>.nilp :: unX r
theorem zw4 : ∀ l : List PV, unX (xcm l) = l
  | []=>rfl
  | v :: r=>by show v :: unX (xcm r)=v :: r;rw [zw4 r]
theorem zED {n:Nat} {F:Nat→Int} : xcm (zhn 0 n F)=xcm (zhn 0 n (zl0 (zm (unX (xcm (zhn 0 n F)))))):=by
 rw [zw4,← zhI]

section
variable (P:Program) (Γ:Ctrs) (ann:Ann)
def pt : Code → (Exit → St → Prop) → List Nat → List (St → Prop) → St → Prop
  | .seq a b,K,i :: r,X=>match i with | 0=>pt a (sqK P Γ ann b K) r X | _=>pt b K r X
  | .cond _ a b,K,i :: r,X=>match i with | 0=>pt a K r X | _=>pt b K r X
  | .block id b,K,_ :: r,X=>pt b (zas id K) r X
  | .loop b,K,_ :: r,x :: X=>pt b (zbq P ann (zl4 b) x K) r X
  | .scope b,K,_ :: r,X=>pt b (zcE K) r X
  | c,K,_,_=>vc P Γ ann c K
def ptF (fn:Func) (K:List PA→Prop) (l:List Nat) (X:List (St→Prop)):St→Prop :=
 match fn.body with
 | some c=>pt P Γ ann c (zbo P fn K) l X
 | none=>fun _=>False
end

theorem zc {b:Bool} {A B:Prop} {S S':Bool} {α:Type} {e:α→List PA} {K:List PA→Prop} {x y:α} (hs:cond b S S'=true) (hk:K (e (cond b x y))) (h1:S=true→K (e x)→A) (h2:S'=true→K (e y)→B):zbV b A B:=by
 cases b
 ·exact h2 hs hk
 ·exact h1 hs hk
theorem zt {b:Bool} {A B:Prop} {α:Type} {e:α→List PA} {K:List PA→Prop} {x y:α} (hk:K (e (cond b x y))) (h1:K (e x)→A) (h2:K (e y)→B):zbV b A B:=by
 cases b
 ·exact h2 hk
 ·exact h1 hk
theorem zIC {b:Bool} {s:Prop} {r1 r2:List PA} {K:List PA→Prop} (h:(COut.alt b s r1 s r2).wp K):s∧K (cond b r1 r2):=by
 cases b
 ·exact h.2 rfl
 ·exact h.1 rfl
theorem zl {at_:Prop} {g:St} (B:(St→Prop)→St→Prop) (e:at_ = ∀ X:St→Prop,(∀ s,B X s→X s)→X g) (h:∀ X:St→Prop,(∀ s,B X s→X s)→X g):at_:=e ▸ h
end Go.Pm
namespace Go.Proofs
open Go Go.Pm
set_option maxRecDepth 100000
set_option linter.unusedVariables false
attribute [local irreducible] Go.Pm.vcFun Go.Pm.vc Go.Pm.vcIter
abbrev Tab:=Nat→Int
def tg (n:Nat) (F:Tab) (k:Nat):Int:=zl0 (zm (zhn 0 n F)) k
def ts (n:Nat) (F:Tab) (k:Nat) (vs:List Int):Tab:=zCQ k vs (zl0 (zm (zhn 0 n F)))
abbrev enc_3 (x:Int):List PV:=[.int .i64 x]
def zLl : List PV → Int
  | [.int .i64 x]=>x
  | _=>default
def zaA (g:Nat→List PV):Nat→Int:=fun i=>zLl (g i)
theorem zbp (f:Nat→Int):zaA (fun i=>enc_3 (f i))=f:=rfl
structure Tie where
  From:Int
  To:Int
  Low:Int
  High:Int
deriving Inhabited
abbrev enc_40 (x:Tie):List PV:=[.int .i64 x.From,.int .i64 x.To,.int .i64 x.Low,.int .i64 x.High]
def zID : List PV → Tie
  | [.int .i64 x_From,.int .i64 x_To,.int .i64 x_Low,.int .i64 x_High]=>(⟨x_From,x_To,x_Low,x_High⟩:Tie)
  | _=>default
def zao (g:Nat→List PV):Nat→Tie:=fun i=>zID (g i)
theorem zan (f:Nat→Tie):zao (fun i=>enc_40 (f i))=f:=rfl
abbrev zIE (x:(Sl Tie)):List PV:=[.sl x.len 4 (fun i=>enc_40 (x.get i))]
structure Net where
  Nodes:Int
  Ties:(Sl Tie)
deriving Inhabited
abbrev enc_24 (x:Net):List PV:=[.int .i64 x.Nodes,.sl x.Ties.len 4 (fun i=>enc_40 (x.Ties.get i))]
abbrev zcr (x:(Sl Int)):List PV:=[.sl x.len 1 (fun i=>enc_3 (x.get i))]
def zIF : List PV → (Sl Int)
  | [.sl x_n _ x_g]=>(⟨x_n,zaA x_g⟩:(Sl Int))
  | _=>default
def znr (g:Nat→List PV):Nat→(Sl Int):=fun i=>zIF (g i)
theorem zkI (f:Nat→(Sl Int)):znr (fun i=>zcr (f i))=f:=rfl
structure Span where
  Low:Int
  High:Int
deriving Inhabited
abbrev zbQ (x:Span):List PV:=[.int .i64 x.Low,.int .i64 x.High]
def zIG : List PV → Span
  | [.int .i64 x_Low,.int .i64 x_High]=>(⟨x_Low,x_High⟩:Span)
  | _=>default
def zfV (g:Nat→List PV):Nat→Span:=fun i=>zIG (g i)
theorem zfj (f:Nat→Span):zfV (fun i=>zbQ (f i))=f:=rfl
structure Pulse where
  A:Int
  B:Int
  TimeA:Int
  TimeB:Int
  Flight:Span
  Jitter:Int
deriving Inhabited
structure Use where
  Tie:Int
  Back:Bool
deriving Inhabited
abbrev za3 (x:Use):List PV:=[.int .i64 x.Tie,.bool x.Back]
def zIH : List PV → Use
  | [.int .i64 x_Tie,.bool x_Back]=>(⟨x_Tie,x_Back⟩:Use)
  | _=>default
def zdr (g:Nat→List PV):Nat→Use:=fun i=>zIH (g i)
theorem zds (f:Nat→Use):zdr (fun i=>za3 (f i))=f:=rfl
structure Flash where
  A:Int
  B:Int
  Time:Int
  Flight:Int
  Wrong:Int
deriving Inhabited
structure web where
  Net:Net
  out:Mp
deriving Inhabited
abbrev zaD (x:web):List PV:=[.int .i64 x.Net.Nodes,.sl x.Net.Ties.len 4 (fun i=>enc_40 (x.Net.Ties.get i)),.fm (false,1,false,[none]) x.out.n x.out.F]
structure far where
  length:Int
  uses:Int
deriving Inhabited
abbrev zcC (x:far):List PV:=[.int .i64 x.length,.int .i64 x.uses]
def zEE : List PV → far
  | [.int .i64 x_length,.int .i64 x_uses]=>(⟨x_length,x_uses⟩:far)
  | _=>default
def zjE (g:Nat→List PV):Nat→far:=fun i=>zEE (g i)
theorem zi7 (f:Nat→far):zjE (fun i=>zcC (f i))=f:=rfl
abbrev zac (x:Tab):List PV:=zhn 0 80 x
def zaL (l:List PV):Tab:=zl0 (zm l)
structure Step where
  From:Int
  To:Int
  Length:Int
  Use:Use
deriving Inhabited
abbrev zcW (x:Step):List PV:=[.int .i64 x.From,.int .i64 x.To,.int .i64 x.Length,.int .i64 x.Use.Tie,.bool x.Use.Back]
structure step where
  Use:Use
  from_:Int
  to:Int
  length:Int
deriving Inhabited
abbrev zai (x:step):List PV:=[.int .i64 x.Use.Tie,.bool x.Use.Back,.int .i64 x.from_,.int .i64 x.to,.int .i64 x.length]
def zEF : List PV → step
  | [.int .i64 x_Use_Tie,.bool x_Use_Back,.int .i64 x_from_,.int .i64 x_to,.int .i64 x_length]=>(⟨(⟨x_Use_Tie,x_Use_Back⟩:Use),x_from_,x_to,x_length⟩:step)
  | _=>default
def zhJ (g:Nat→List PV):Nat→step:=fun i=>zEF (g i)
theorem zeD (f:Nat→step):zhJ (fun i=>zai (f i))=f:=rfl
structure tie where
  Tie:Tie
  index:Int
deriving Inhabited
abbrev zw5 (x:tie):List PV:=[.int .i64 x.Tie.From,.int .i64 x.Tie.To,.int .i64 x.Tie.Low,.int .i64 x.Tie.High,.int .i64 x.index]
abbrev zw6 (x:Tab):List PV:=zhn 0 40 x
abbrev zaJ (x:(Sl Tab)):List PV:=[.sl x.len 80 (fun i=>zac (x.get i))]
abbrev tL (T:Tab) (i:Int):Int:=tg 80 T (0+i.toNat * 2+0)
abbrev tU (T:Tab) (i:Int):Int:=tg 80 T (0+i.toNat * 2+0+1)
abbrev tV (T:Tab) (i:Int):Int:=tg 80 T (0+i.toNat * 2+1)
abbrev nvr (x y:Int):Bool:=match (x == (1000000000000:Int)) with | true=>(match (y == (0:Int)) with | true=>true | false=>false) | false=>false
end Go.Proofs
namespace Go.Pm
open Go Go.Deep

theorem zBV (b o i j:Nat):((⟨b,o,none⟩:Addr).add i).add j=⟨b,o+i+j,none⟩:=by
 simp only [Addr.add]
 by_cases h1:i=0
 ·subst h1
  by_cases h2:j=0
  ·subst h2;rfl
  ·rw [if_neg h2];rfl
 ·rw [if_neg h1]
  by_cases h2:j=0
  ·subst h2;rfl
  ·rw [if_neg h2]
def H0 (w:World):Fz:=fun b=>(w.heap[b]?).map .fz
theorem hw_H0 (w:World):Hw (H0 w) w:=by
 intro b x h
 unfold H0 at h
 cases e:w.heap[b]? with
 | none=>rw [e] at h;cases h
 | some o=>rw [e] at h;cases h;exact ⟨o,rfl,rfl⟩
def wfI (x:Int):Prop:=-9223372036854775808≤x∧x≤9223372036854775807
section
variable {H:Type} {en:TypeId×Value→H} {P:Program} {w:World} {sp:Nat→Bool} {held:Bool}
def Rd (H:Type) (en:TypeId×Value→H) (P:Program) (w:World) (sp:Nat→Bool) (held:Bool) (t:TypeId) {α:Type} (enc:α→List PV) (wf:α→Prop):Prop :=
 ∀ (fuel:Nat) (cs:List Value) (x:DataW H×List MemPlace),DataW.trod en P w 0 sp held fuel t cs=some x→∃ a:α,RL (Rep (H0 w)) (enc a) cs∧wf a
theorem zII {t:TypeId} (ht:P.underlying t=some (.int .i64)):Rd H en P w sp held t (fun x=>[.int .i64 x]) wfI:=by
 intro fuel cs x h
 obtain ⟨n,rfl,_,hw⟩:=DataW.trod_int ht h
 refine ⟨n,⟨.int _ _,trivial⟩,?_⟩
 simp only [Lit.wf,Bool.and_eq_true,decide_eq_true_eq] at hw
 exact ⟨hw.1,hw.2⟩
theorem zo5 {t : TypeId} {fs : Array Field} (ht : P.underlying t = some (.struct fs)) {fuel : Nat} {cs : List Value} {x : DataW H × List MemPlace} (h : DataW.trod en P w 0 sp held fuel t cs = some x) :
  cs.length=P.cellsOf t∧∀ (i:Nat) (f:Field),fs[i]? = some f→∃ n y,DataW.trod en P w 0 sp held n f.type ((cs.drop f.offset).take (P.cellsOf f.type))=some y:=by
 obtain ⟨xs,n,_,_,hl,hx,hf⟩:=DataW.trod_struct ht h
 refine ⟨hl,fun i f hi=>?_⟩
 have hlt:i < xs.length:=by rw [hx];exact (Array.getElem?_eq_some_iff.1 hi).1
 exact ⟨n,xs[i],by rw [hf i f hi,List.getElem?_eq_getElem hlt]⟩
theorem ztA {t e : TypeId} {α : Type} [Inhabited α] {enc : α → List PV} {wf : α → Prop} {s : Nat} (ht : P.underlying t = some (.slice e)) (hc : P.cellsOf e = s) (hs : 0 < s) (hlen : ∀ a, (enc a).length = s)
    (hel:Rd H en P w sp held e enc wf):Rd H en P w sp held t (fun x:Sl α=>[.sl x.len s (fun i=>enc (x.get i))]) (fun x=>x.len≤9223372036854775807∧∀ i,i < x.len→wf (x.get i)):=by
  intro fuel cs x h
  rcases open_slice ht h with ⟨rfl,_⟩ | ⟨a,len,cap,m,n,D,Pl,rfl,_,hl,hm,hmm,_,hget⟩
  · exact ⟨⟨0,default⟩,⟨.sl0 _ _,trivial⟩,Nat.zero_le _,fun i hi=>absurd hi (Nat.not_lt_zero i)⟩
  · by_cases h0 : len = 0
    · subst h0
      exact ⟨⟨0,default⟩,⟨.sle _ _ _ _,trivial⟩,Nat.zero_le _,fun i hi=>absurd hi (Nat.not_lt_zero i)⟩
    · have hlm : len ≤ m := by rw [hmm]; split <;> omega
      rw [hc] at hget
      have hex:∀ i,i < len→∃ y:α,(∃ cs',w.cells? 0 (a.add (i * s)) s=some cs'∧RL (Rep (H0 w)) (enc y) cs')∧wf y:=by
        intro i hi
        obtain ⟨cs',h1,h2⟩:=hget i (by omega)
        obtain ⟨y,h3,h4⟩:=hel _ _ _ h2
        exact ⟨y,⟨cs',h1,h3⟩,h4⟩
      have hch:∃ f:Nat→α,∀ i,i < len→(∃ cs',w.cells? 0 (a.add (i * s)) s=some cs'∧RL (Rep (H0 w)) (enc (f i)) cs')∧wf (f i):=by
        refine ⟨fun i=>if hi:i < len then Classical.choose (hex i hi) else default,fun i hi=>?_⟩
        simp only [dif_pos hi]
        exact Classical.choose_spec (hex i hi)
      obtain ⟨f,hf⟩:=hch
      -- the block
      have hcell:∀ i,i < len→∀ j,j < s→∃ cs',w.cells? 0 (a.add (i * s)) s=some cs'∧RL (Rep (H0 w)) (enc (f i)) cs'∧w.cell? ((a.add (i * s)).add j)=cs'[j]?∧cs'.length=s:=by
        intro i hi j hj
        obtain ⟨⟨cs',h1,h2⟩,_⟩:=hf i hi
        obtain ⟨_,h3,h4⟩:=World.cells?_some h1
        exact ⟨cs',h1,h2,h4 j hj,h3⟩
      obtain ⟨cs0,_,_,hc0,hl0⟩:=hcell 0 (by omega) 0 hs
      have ha0:w.cell? a=cs0[0]?:=by simpa [Addr.add] using hc0
      rw [List.getElem?_eq_getElem (by omega)] at ha0
      obtain ⟨C,ty,fr,hblk,hspot⟩:∃ C ty fr,w.heap[a.block]? = some (.cells C ty fr)∧a.spot=none:=by
        unfold World.cell? at ha0
        split at ha0
        · rename_i C ty fr hb
          refine ⟨C,ty,fr,hb,?_⟩
          cases hsp:a.spot with
          | none=>rfl
          | some k=>rw [hsp] at ha0;simp at ha0
        · cases ha0
      have ea:a=⟨a.block,a.off,none⟩:=by rw [← hspot]
      have hat:∀ i j,i < len→j < s→∃ cs',RL (Rep (H0 w)) (enc (f i)) cs'∧C[a.off+i * s+j]? = cs'[j]?∧cs'.length=s:=by
        intro i j hi hj
        obtain ⟨cs',_,h2,h3,h4⟩:=hcell i hi j hj
        refine ⟨cs',h2,?_,h4⟩
        rw [← h3]
        have e2:(a.add (i * s)).add j=⟨a.block,a.off+i * s+j,none⟩:=(congrArg (fun z:Addr=>(z.add (i * s)).add j) ea).trans (zBV _ _ _ _)
        rw [e2]
        simp [World.cell?,hblk]
      refine ⟨⟨len,f⟩,⟨?_,trivial⟩,by simp only [maxLen] at hm;show len≤_;omega,fun i hi=>(hf i hi).2⟩
      rw [ea]
      refine .sl len s _ a.block a.off cap C ty fr (fun i j=>C.getD (a.off+i * s+j) undef) (by simp [H0,hblk]) hl (fun i _=>hlen _) ?_ ?_
      · intro i j x hi hx
        have hj:j < s:=by have:=(List.getElem?_eq_some_iff.1 hx).1;rw [hlen] at this;exact this
        obtain ⟨cs',h1,h2,h3⟩:=hat i j hi hj
        rw [Array.getD_eq_getD_getElem?,h2,List.getElem?_eq_getElem (by omega)]
        rfl
      · intro i j x hi hx
        have hj:j < s:=by have:=(List.getElem?_eq_some_iff.1 hx).1;rw [hlen] at this;exact this
        obtain ⟨cs',h1,h2,h3⟩:=hat i j hi hj
        obtain ⟨v,hv,hr⟩:=h1.get j x hx
        rw [Array.getD_eq_getD_getElem?,h2,hv]
        exact hr
theorem zd4 {α:Type} (l:List α) (o s:Nat):l.drop o=(l.drop o).take s ++ l.drop (o+s):=by
 rw [← List.drop_drop]
 exact (List.take_append_drop s (l.drop o)).symm
theorem okWide_agg {t:TypeId} {fs:Array Field} {r:Reach} {base:Nat} {v:Value} (ht:P.underlying t=some (.struct fs)) (h:Value.okWide P w r base t v):∃ cs,v=.agg cs:=by
 unfold Value.okWide at h
 rw [ht] at h
 obtain ⟨cs,hv,_⟩:=h
 exact ⟨cs,hv⟩
def zLm : TypeDesc → Bool
  | .struct _=>false
  | .array _ _=>false
  | _=>true
theorem okWide_one {t:TypeId} {d:TypeDesc} {r:Reach} {base:Nat} {v:Value} (ht:P.underlying t=some d) (hd:zLm d=true) (h:Value.okWide P w r base t v):v.cells.toList=[v]:=by
 unfold Value.okWide at h
 rw [ht] at h
 cases v with
 | agg cs =>
  exfalso
  cases d <;> first | (cases hd;done) | (simp only [Cell.okWide,Cell.ok,ht] at h)
 | _=>rfl
theorem pa_one {h:Fz} {p:PV} {v:Value} (hv:v.cells.toList=[v]) (r:RL (Rep h) [p] v.cells.toList):paR h (.one p) v:=by
 rw [hv] at r
 exact r.1
theorem pa_agg {h:Fz} {l:List PV} {v:Value} (hv:∃ cs,v=.agg cs) (r:RL (Rep h) l v.cells.toList):paR h (.agg l) v:=by
 obtain ⟨cs,rfl⟩:=hv
 exact ⟨cs.toList,by simp,r⟩
theorem below_H0 {w':World} (b:Bel (H0 w) w.heap.size w w'):Go.RowKit.Below w.heap.size w w' :=
 ⟨b.os,b.tape,b.output,b.size,fun k hk=>b.block k hk fun F e=>by
  unfold H0 at e
  cases hb:w.heap[k]? <;> rw [hb] at e <;> cases e⟩
end
end Go.Pm
namespace Go.Proofs
open Go Go.Pm
set_option maxRecDepth 100000
set_option linter.unusedVariables false
attribute [local irreducible] Go.Pm.vcFun Go.Pm.vc Go.Pm.vcIter
theorem C_3:Tryd.prog.cellsOf 3=1:=by kernel_rfl
theorem zNf:Tryd.prog.cellsOf 22=1:=by kernel_rfl
theorem zNg:Tryd.prog.cellsOf 24=2:=by kernel_rfl
theorem zMN:Tryd.prog.cellsOf 40=4:=by kernel_rfl
abbrev zEG (x:Int):Prop:=wfI x
theorem zHT {H:Type} {en:TypeId×Value→H} {w:World} {sp:Nat→Bool} {held:Bool} : Rd H en Tryd.prog w sp held 3 enc_3 zEG:=zII Tryd.underlying3
def wf_40 (x:Tie):Prop:=zEG x.From∧zEG x.To∧zEG x.Low∧zEG x.High
theorem rd_40 {H:Type} {en:TypeId×Value→H} {w:World} {sp:Nat→Bool} {held:Bool} : Rd H en Tryd.prog w sp held 40 enc_40 wf_40:=by
  intro fuel cs x h
  obtain ⟨hl,hf⟩:=zo5 Tryd.underlying40 h
  rw [zMN] at hl
  obtain ⟨n0,y0,g0⟩:=hf 0 _ rfl
  have g0:DataW.trod en Tryd.prog w 0 sp held n0 3 ((cs.drop 0).take (Tryd.prog.cellsOf 3))=some y0:=g0
  rw [C_3] at g0
  obtain ⟨a0,r0,w0⟩:=zHT _ _ _ g0
  obtain ⟨n1,y1,g1⟩:=hf 1 _ rfl
  have g1:DataW.trod en Tryd.prog w 0 sp held n1 3 ((cs.drop 1).take (Tryd.prog.cellsOf 3))=some y1:=g1
  rw [C_3] at g1
  obtain ⟨a1,r1,w1⟩:=zHT _ _ _ g1
  obtain ⟨n2,y2,g2⟩:=hf 2 _ rfl
  have g2:DataW.trod en Tryd.prog w 0 sp held n2 3 ((cs.drop 2).take (Tryd.prog.cellsOf 3))=some y2:=g2
  rw [C_3] at g2
  obtain ⟨a2,r2,w2⟩:=zHT _ _ _ g2
  obtain ⟨n3,y3,g3⟩:=hf 3 _ rfl
  have g3:DataW.trod en Tryd.prog w 0 sp held n3 3 ((cs.drop 3).take (Tryd.prog.cellsOf 3))=some y3:=g3
  rw [C_3] at g3
  obtain ⟨a3,r3,w3⟩:=zHT _ _ _ g3
  have z:cs.drop 4=[]:=List.drop_eq_nil_of_le (by omega)
  have R:=(r0.append (r1.append (r2.append (r3.append (show RL (Rep (H0 w)) [] (cs.drop 4) by rw [z];exact zo4)))))
  rw [← (show cs.drop 3=(cs.drop 3).take 1 ++ cs.drop 4 from zd4 cs 3 1)] at R
  rw [← (show cs.drop 2=(cs.drop 2).take 1 ++ cs.drop 3 from zd4 cs 2 1)] at R
  rw [← (show cs.drop 1=(cs.drop 1).take 1 ++ cs.drop 2 from zd4 cs 1 1)] at R
  rw [← (show cs.drop 0=(cs.drop 0).take 1 ++ cs.drop 1 from zd4 cs 0 1)] at R
  exact ⟨⟨a0,a1,a2,a3⟩,R,⟨w0,w1,w2,w3⟩⟩
def zIJ (x:(Sl Tie)):Prop:=x.len≤9223372036854775807∧∀ i,i < x.len→wf_40 (x.get i)
theorem zLn {H:Type} {en:TypeId×Value→H} {w:World} {sp:Nat→Bool} {held:Bool} : Rd H en Tryd.prog w sp held 22 zIE zIJ:=ztA Tryd.underlying22 zMN (by decide) (fun _=>rfl) rd_40
def wf_24 (x:Net):Prop:=zEG x.Nodes∧zIJ x.Ties
theorem rd_24 {H:Type} {en:TypeId×Value→H} {w:World} {sp:Nat→Bool} {held:Bool} : Rd H en Tryd.prog w sp held 24 enc_24 wf_24:=by
  intro fuel cs x h
  obtain ⟨hl,hf⟩:=zo5 Tryd.underlying24 h
  rw [zNg] at hl
  obtain ⟨n0,y0,g0⟩:=hf 0 _ rfl
  have g0:DataW.trod en Tryd.prog w 0 sp held n0 3 ((cs.drop 0).take (Tryd.prog.cellsOf 3))=some y0:=g0
  rw [C_3] at g0
  obtain ⟨a0,r0,w0⟩:=zHT _ _ _ g0
  obtain ⟨n1,y1,g1⟩:=hf 1 _ rfl
  have g1:DataW.trod en Tryd.prog w 0 sp held n1 22 ((cs.drop 1).take (Tryd.prog.cellsOf 22))=some y1:=g1
  rw [zNf] at g1
  obtain ⟨a1,r1,w1⟩:=zLn _ _ _ g1
  have z:cs.drop 2=[]:=List.drop_eq_nil_of_le (by omega)
  have R:=(r0.append (r1.append (show RL (Rep (H0 w)) [] (cs.drop 2) by rw [z];exact zo4)))
  rw [← (show cs.drop 1=(cs.drop 1).take 1 ++ cs.drop 2 from zd4 cs 1 1)] at R
  rw [← (show cs.drop 0=(cs.drop 0).take 1 ++ cs.drop 1 from zd4 cs 0 1)] at R
  exact ⟨⟨a0,a1⟩,R,⟨w0,w1⟩⟩
def wf_27 (x:(Sl Int)):Prop:=x.len≤9223372036854775807∧∀ i,i < x.len→zEG (x.get i)
theorem rd_27 {H:Type} {en:TypeId×Value→H} {w:World} {sp:Nat→Bool} {held:Bool} : Rd H en Tryd.prog w sp held 27 zcr wf_27:=ztA Tryd.underlying27 C_3 (by decide) (fun _=>rfl) zHT
end Go.Proofs
namespace Go.Proofs
open Go Go.Pm
set_option maxRecDepth 100000
set_option linter.unusedVariables false
attribute [local irreducible] Go.Pm.vcFun Go.Pm.vc Go.Pm.vcIter
abbrev T81:Tabs:=Tabs.nil
theorem zLo:TabsOk Tryd.prog T81:=TabsOk.nil
abbrev G81:Ctrs:=csm T81 (fun _ _=>[]) (fun _=>false)
def zIK:Ann:=⟨15,[(0,zK [0,1,2] []),(1,zK [6] [])],
 [],
 [],
 [],[]⟩
abbrev R81:=Bool
abbrev e81 (r:R81):List PA:=[.one (.bool r)]
section
variable {K:List PA→Prop} {n:Int} {low:Int} {high:Int}
def s81 (n:Int) (low:Int) (high:Int):Bool :=
  (cond (decide (n ≥ low))
 (decide (n≤high))
 false)
end
theorem q81 (n:Int) (low:Int) (high:Int) (K:List PA→Prop) (hk:K (e81 (s81 n low high))):vcFun Tryd.prog G81 zIK 81 [.one (.int .i64 n),.one (.int .i64 low),.one (.int .i64 high)] K :=
  zbb (by kernel_rfl) (zt hk (fun hk=>hk) (fun hk=>hk))
def zw7 : List PA → COut
  | [.one (.int .i64 a0),.one (.int .i64 a1),.one (.int .i64 a2)]=>.tot [.one (.bool (s81 a0 a1 a2))]
  | _=>.no
theorem zIL:zax Tryd.prog 81:=⟨_,rfl,rfl,by kernel_rfl⟩
theorem zLp:Ok Tryd.prog 81 zw7:=zbv zLo zIL fun args K h=>by
  unfold zw7 at h
  split at h
  · rename_i a0 a1 a2
    have hk:=h
    exact ⟨(fun _ _=>[]),(fun _=>false),zIK,q81 a0 a1 a2 K hk⟩
  · exact h.elim
abbrev T78:Tabs:=(Tabs.nil.addF 81 zw7)
theorem zLq:TabsOk Tryd.prog T78:=(TabsOk.nil.addF zLp)
abbrev G78:Ctrs:=csm T78 (fun _ _=>[]) (fun _=>false)
def zEH:Ann:=⟨55,[(0,zK [1,2] [2]),(1,zK [1,2,5] [2]),(2,zK [1,2,5,6] [2]),(3,zK [4] [])],
 [],
 [(2,zK [1,2,5] [2]),(3,zK [1,2,5,6] [2])],
 [],[]⟩
abbrev R78:=Bool
abbrev e78 (r:R78):List PA:=[.one (.bool r)]
@[irreducible] def z78:=ptF Tryd.prog G78 zEH Tryd.f78
section
variable {K:List PA→Prop} {t:Tie} {nodes:Int} {zns:Bool} {ztB:Bool}
def zkJ (t:Tie) (nodes:Int) (zns:Bool) (ztB:Bool):Bool :=
  (cond (s81 t.From (0:Int) (w64 (nodes - (1:Int))))
 (cond (s81 t.To (0:Int) (w64 (nodes - (1:Int))))
 (cond (t.From != t.To)
 (cond zns
 (cond ztB
 (decide (t.Low≤t.High))
 false)
 false)
 false)
 false)
 false)
theorem zw8 (hk:K (e78 (zkJ t nodes zns ztB))):z78 K [1,1,1] [] ⟨[(1,zI nodes),(2,zp 2 0),(5,zB zns),(6,zB ztB)],[(2,.box 40 (zm (enc_40 t)))],[]⟩:=zbb (by kernel_rfl) (zt hk (fun hk=>(zt hk (fun hk=>(zt hk (fun hk=>(zt hk (fun hk=>(zt hk (fun hk=>hk) (fun hk=>hk))) (fun hk=>hk))) (fun hk=>hk))) (fun hk=>hk))) (fun hk=>hk))
def zkK (t:Tie) (nodes:Int) (zns:Bool):Bool :=
  (cond (t.High == (1000000000000:Int))
 (zkJ t nodes zns true)
 (zkJ t nodes zns (s81 t.High (-1000000000:Int) (1000000000:Int))))
theorem zw9 (hk:K (e78 (zkK t nodes zns))):z78 K [1,1] [] ⟨[(1,zI nodes),(2,zp 2 0),(5,zB zns)],[(2,.box 40 (zm (enc_40 t)))],[]⟩:=zbb (by kernel_rfl) (zt hk (fun hk=>(zw8 hk)) (fun hk=>(zw8 hk)))
def s78 (t:Tie) (nodes:Int):Bool :=
  (cond (t.Low == (-1000000000000:Int))
 (zkK t nodes true)
 (zkK t nodes (s81 t.Low (-1000000000:Int) (1000000000:Int))))
end
theorem q78 (t:Tie) (nodes:Int) (K:List PA→Prop) (hk:K (e78 (s78 t nodes))):vcFun Tryd.prog G78 zEH 78 [.agg (enc_40 t),.one (.int .i64 nodes)] K :=
  zbb (by kernel_rfl) (zt hk (fun hk=>(zw9 hk)) (fun hk=>(zw9 hk)))
def zBW : List PA → COut
  | [.agg [.int .i64 zfW,.int .i64 zo6,.int .i64 zi8,.int .i64 zfX],.one (.int .i64 a1)]=>.tot [.one (.bool (s78 (⟨zfW,zo6,zi8,zfX⟩:Tie) a1))]
  | _=>.no
theorem zIM:zax Tryd.prog 78:=⟨_,rfl,rfl,by kernel_rfl⟩
theorem zMO:Ok Tryd.prog 78 zBW:=zbv zLq zIM fun args K h=>by
  unfold zBW at h
  split at h
  · rename_i zfW zo6 zi8 zfX a1
    have hk:=h
    exact ⟨(fun _ _=>[]),(fun _=>false),zEH,q78 (⟨zfW,zo6,zi8,zfX⟩:Tie) a1 K hk⟩
  · exact h.elim
abbrev T67:Tabs:=((Tabs.nil.addF 78 zBW).addF 81 zw7)
theorem zLr:TabsOk Tryd.prog T67:=((TabsOk.nil.addF zMO).addF zLp)
abbrev G67:Ctrs:=csm T67 (fun _ _=>[]) (fun _=>false)
def zBX:Ann:=⟨27,[(0,zK [1] [1]),(1,zK [1,6,7,8] [1]),(2,zK [1,6,7,8,9] [1]),(3,zK [1,4,6,7,8] [1,4]),(4,zK [1,6,7,8,16] [1]),(5,zK [2] []),(6,zK [1,6,7,8] [1]),(7,zK [2] [])],
 [(2,zK [1,6,7,8] [1])],
 [(5,zK [1,6,7,8,16] [1])],
 [],[]⟩
abbrev R67:=Bool
abbrev e67 (r:R67):List PA:=[.one (.bool r)]
@[irreducible] def z67:=ptF Tryd.prog G67 zBX Tryd.f67
def zDd (n:Net) (zdL:Int):St:=⟨[(1,zp 1 0),(6,zS enc_40 4 n.Ties),(7,zI (n.Ties.len:Int)),(8,zI zdL)],[(1,.box 24 (zm (enc_24 n)))],[]⟩
abbrev zEI (K:List PA→Prop) (n:Net) (X:St→Prop) (P:Int→Bool) (S:Int→Bool):Prop:=∀ ⦃zdL:Int⦄,P zdL=true→K (e67 (S zdL))→X (zDd n zdL)
section
variable {K:List PA→Prop} {n:Net} {zdL:Int} {X0:St→Prop} {P0:Int→Bool} {S0:Int→Bool} {zEJ:Int} {zqJ:Bool}
def zqK (S0:Int→Bool) (n:Net) (zEJ:Int) (zqJ:Bool):Bool :=
  (cond zqJ
 false
 (S0 (w64 (zEJ+(1:Int)))))
def zqL (P0:Int→Bool) (n:Net) (zEJ:Int) (zqJ:Bool):Bool :=
  (cond zqJ
 true
 (P0 (w64 (zEJ+(1:Int)))))
theorem zEK (hX0:zEI K n X0 P0 S0) (hs:zqL P0 n zEJ zqJ=true) (hk:K (e67 (zqK S0 n zEJ zqJ))):z67 K [1,0,1,0,0,1,1,0,0,1,1] [X0] ⟨[(1,zp 1 0),(6,zS enc_40 4 n.Ties),(7,zI (n.Ties.len:Int)),(8,zI zEJ),(16,zB zqJ)],[(1,.box 24 (zm (enc_24 n)))],[]⟩:=zbb (by kernel_rfl) (zc hs hk (fun hs hk=>hk) (fun hs hk=>(hX0 hs hk)))
def zik (n:Net) (S0:Int→Bool) (zdL:Int):Bool :=
  (cond (decide (zdL < (n.Ties.len : Int)))
 (zqK S0 n zdL (!(s78 (n.Ties.get zdL.toNat) n.Nodes)))
 (cond (s81 n.Nodes (1:Int) (40:Int))
 (decide ((n.Ties.len:Int)≤(200:Int)))
 false))
def zil (n:Net) (P0:Int→Bool) (zdL:Int):Bool :=
  (cond (decide (zdL < (n.Ties.len : Int)))
 (decide ((0≤zdL∧zdL < (n.Ties.len:Int))) &&
 (zqL P0 n zdL (!(s78 (n.Ties.get zdL.toNat) n.Nodes))))
 true)
def zim (n:Net):Nat→Int→Bool:=lpO (fun _=>default) (zik n)
def zin (n:Net):Nat→Int→Bool:=lpO (fun _=>false) (zil n)
def zxa (n:Net) (zdL:Int):Bool:=zim n Fuel zdL
def zxb (n:Net) (zdL:Int):Bool:=zin n Fuel zdL
theorem zEL (hs:zxb n zdL=true) (hk:K (e67 (zxa n zdL))):z67 K [1,0,1,0] [] (zDd n zdL) :=
  zl (fun X=>z67 K [1,0,1,0,0] [X]) (by kernel_rfl) fun X0 hX =>
  (show ∀ k, zEI K n X0 (zin n k) (zim n k) from zh4 _ _ (zil n) (zik n) (zEI K n X0)
 (by intro _ hs;exact absurd hs Bool.false_ne_true)
 (by intro P0 S0 hX0 zdL hs hk;exact hX _ (zbb (by kernel_rfl) (zc hs hk (fun hs hk=>(zaU hs fun hc hs=>And.intro hc (zEK hX0 hs hk))) (fun hs hk=>(zt hk (fun hk=>hk) (fun hk=>hk))))))) _ hs hk
def s67 (n:Net):Bool :=
  (zxa n (0:Int))
def p67 (n:Net):Bool :=
  (zxb n (0:Int))
end
theorem q67 (n:Net) (K:List PA→Prop) (hs:p67 n=true) (hk:K (e67 (s67 n))):vcFun Tryd.prog G67 zBX 67 [.agg (enc_24 n)] K :=
  zbb (by kernel_rfl) (zEL hs hk)
def zva : List PA → COut
  | [.agg [.int .i64 zah,.sl zae zaz zad]]=>.det (IsE enc_40 4 zaz zad∧p67 (⟨zah,(⟨zae,zao zad⟩:(Sl Tie))⟩:Net)=true) [.one (.bool (s67 (⟨zah,(⟨zae,zao zad⟩:(Sl Tie))⟩:Net)))]
  | [.agg [.int .i64 zah,.nils]]=>.det (p67 (⟨zah,(⟨0,fun _=>default⟩:(Sl Tie))⟩:Net)=true) [.one (.bool (s67 (⟨zah,(⟨0,fun _=>default⟩:(Sl Tie))⟩:Net)))]
  | _=>.no
theorem zIN:zax Tryd.prog 67:=⟨_,rfl,rfl,by kernel_rfl⟩
theorem zKZ:Ok Tryd.prog 67 zva:=zij zLr zIN fun args K h=>by
  unfold zva at h
  split at h
  · rename_i zah zae zaz zad
    obtain ⟨⟨⟨rfl,zar,rfl⟩,hs⟩,hk⟩:=h
    try rw [zan zar] at hs
    try rw [zan zar] at hk
    exact ⟨_,zfU zgQ _,(fun _ _=>[]),(fun _=>false),zBX,q67 (⟨zah,(⟨zae,zar⟩:(Sl Tie))⟩:Net) (Wk K) hs (zgR hk)⟩
  · rename_i zah
    obtain ⟨hs,hk⟩:=h
    exact ⟨_,(zh3 (.agg (zh3 (.rfl _) (zh3 (.nil _ _) zo4))) zo4),(fun _ _=>[]),(fun _=>false),zBX,q67 (⟨zah,(⟨0,fun _=>default⟩:(Sl Tie))⟩:Net) (Wk K) hs (zgR hk)⟩
  · exact h.elim
abbrev T93:Tabs:=Tabs.nil
theorem zLs:TabsOk Tryd.prog T93:=TabsOk.nil
abbrev G93:Ctrs:=csm T93 (fun _ _=>[]) (fun _=>false)
def zEM:Ann:=⟨4,[(0,zK [1] [1]),(1,zK [2] [])],
 [],
 [],
 [],[]⟩
theorem zEN (w : web) (K : List PA → Prop) :
  vcFun Tryd.prog G93 zEM 93 [.one (.fp (zaD w) 0)] K =
  (K [.one (.fn 110 [] [.fp [.fp (zaD w) 0] 0])]):=by kernel_rfl
theorem q93 (w:web) (K:List PA→Prop) (hk:K [.one (.fn 110 [] [.fp [.fp (zaD w) 0] 0])]):vcFun Tryd.prog G93 zEM 93 [.one (.fp (zaD w) 0)] K:=zbb (zEN w K) hk
def zo7 : List PA → COut
  | [.one (.fp [.int .i64 zam,.sl zaj zaB zak,.fm zbd zaE zaF] 0)]=>.det (IsE enc_40 4 zaB zak∧zbd=(false,1,false,[none])) [.one (.fn 110 [] [.fp [.fp (zaD (⟨(⟨(⟨zam,(⟨zaj,zao zak⟩:(Sl Tie))⟩:Net),(⟨zaE,zaF⟩:Mp)⟩:web).Net,((⟨(⟨zam,(⟨zaj,zao zak⟩:(Sl Tie))⟩:Net),(⟨zaE,zaF⟩:Mp)⟩:web).out)⟩:web)) 0] 0])]
  | _=>.no
theorem zIO:zax Tryd.prog 93:=⟨_,rfl,rfl,by kernel_rfl⟩
theorem zHU:Ok Tryd.prog 93 zo7:=zbv zLs zIO fun args K h=>by
  unfold zo7 at h
  split at h
  · rename_i zam zaj zaB zak zbd zaE zaF
    obtain ⟨⟨⟨rfl,zat,rfl⟩,rfl⟩,hk⟩:=h
    try rw [zan zat] at hk
    exact ⟨fun _ _=>[],fun _=>false,zEM,q93 (⟨(⟨zam,(⟨zaj,zat⟩:(Sl Tie))⟩:Net),(⟨zaE,zaF⟩:Mp)⟩:web) K hk⟩
  · exact h.elim
abbrev T94:Tabs:=Tabs.nil
theorem zLt:TabsOk Tryd.prog T94:=TabsOk.nil
abbrev G94:Ctrs:=csm T94 (fun _ _=>[]) (fun _=>false)
def zIP:Ann:=⟨21,[(0,zK [1,2] [1,2]),(1,zK [2,3] [2])],
 [],
 [],
 [],[]⟩
abbrev R94:=(step×Bool)
abbrev e94 (r:R94):List PA:=[.agg [.int .i64 r.1.Use.Tie,.bool r.1.Use.Back,.int .i64 r.1.from_,.int .i64 r.1.to,.int .i64 r.1.length],.one (.bool r.2)]
section
variable {K:List PA→Prop} {t:tie}
def s94 (t:tie):(step×Bool) :=
  ((⟨(⟨t.index,false⟩:Use),t.Tie.From,t.Tie.To,t.Tie.High⟩:step),(t.Tie.High != (1000000000000:Int)))
end
theorem q94 (t:tie) (K:List PA→Prop) (hk:K (e94 (s94 t))):vcFun Tryd.prog G94 zIP 94 [.agg (zw5 t)] K :=
  zbb (by kernel_rfl) hk
def zEO : List PA → COut
  | [.agg [.int .i64 zbr,.int .i64 zb5,.int .i64 zbK,.int .i64 zbs,.int .i64 zcj]]=>.tot [.agg [.int .i64 (((s94 (⟨(⟨zbr,zb5,zbK,zbs⟩:Tie),zcj⟩:tie)).1).Use.Tie),.bool (((s94 (⟨(⟨zbr,zb5,zbK,zbs⟩:Tie),zcj⟩:tie)).1).Use.Back),.int .i64 (((s94 (⟨(⟨zbr,zb5,zbK,zbs⟩:Tie),zcj⟩:tie)).1).from_),.int .i64 (((s94 (⟨(⟨zbr,zb5,zbK,zbs⟩:Tie),zcj⟩:tie)).1).to),.int .i64 (((s94 (⟨(⟨zbr,zb5,zbK,zbs⟩:Tie),zcj⟩:tie)).1).length)],.one (.bool ((s94 (⟨(⟨zbr,zb5,zbK,zbs⟩:Tie),zcj⟩:tie)).2))]
  | _=>.no
theorem zIQ:zax Tryd.prog 94:=⟨_,rfl,rfl,by kernel_rfl⟩
theorem zNh:Ok Tryd.prog 94 zEO:=zbv zLt zIQ fun args K h=>by
  unfold zEO at h
  split at h
  · rename_i zbr zb5 zbK zbs zcj
    have hk:=h
    exact ⟨(fun _ _=>[]),(fun _=>false),zIP,q94 (⟨(⟨zbr,zb5,zbK,zbs⟩:Tie),zcj⟩:tie) K hk⟩
  · exact h.elim
abbrev T95:Tabs:=Tabs.nil
theorem zLu:TabsOk Tryd.prog T95:=TabsOk.nil
abbrev G95:Ctrs:=csm T95 (fun _ _=>[]) (fun _=>false)
def zIR:Ann:=⟨22,[(0,zK [1,2] [1,2]),(1,zK [2,3] [2])],
 [],
 [],
 [],[]⟩
abbrev R95:=(step×Bool)
abbrev e95 (r:R95):List PA:=[.agg [.int .i64 r.1.Use.Tie,.bool r.1.Use.Back,.int .i64 r.1.from_,.int .i64 r.1.to,.int .i64 r.1.length],.one (.bool r.2)]
section
variable {K:List PA→Prop} {t:tie}
def s95 (t:tie):(step×Bool) :=
  ((⟨(⟨t.index,true⟩:Use),t.Tie.To,t.Tie.From,(w64 (0 - t.Tie.Low))⟩:step),(t.Tie.Low != (-1000000000000:Int)))
end
theorem q95 (t:tie) (K:List PA→Prop) (hk:K (e95 (s95 t))):vcFun Tryd.prog G95 zIR 95 [.agg (zw5 t)] K :=
  zbb (by kernel_rfl) hk
def zEP : List PA → COut
  | [.agg [.int .i64 zbr,.int .i64 zb5,.int .i64 zbK,.int .i64 zbs,.int .i64 zcj]]=>.tot [.agg [.int .i64 (((s95 (⟨(⟨zbr,zb5,zbK,zbs⟩:Tie),zcj⟩:tie)).1).Use.Tie),.bool (((s95 (⟨(⟨zbr,zb5,zbK,zbs⟩:Tie),zcj⟩:tie)).1).Use.Back),.int .i64 (((s95 (⟨(⟨zbr,zb5,zbK,zbs⟩:Tie),zcj⟩:tie)).1).from_),.int .i64 (((s95 (⟨(⟨zbr,zb5,zbK,zbs⟩:Tie),zcj⟩:tie)).1).to),.int .i64 (((s95 (⟨(⟨zbr,zb5,zbK,zbs⟩:Tie),zcj⟩:tie)).1).length)],.one (.bool ((s95 (⟨(⟨zbr,zb5,zbK,zbs⟩:Tie),zcj⟩:tie)).2))]
  | _=>.no
theorem zIS:zax Tryd.prog 95:=⟨_,rfl,rfl,by kernel_rfl⟩
theorem zNi:Ok Tryd.prog 95 zEP:=zbv zLu zIS fun args K h=>by
  unfold zEP at h
  split at h
  · rename_i zbr zb5 zbK zbs zcj
    have hk:=h
    exact ⟨(fun _ _=>[]),(fun _=>false),zIR,q95 (⟨(⟨zbr,zb5,zbK,zbs⟩:Tie),zcj⟩:tie) K hk⟩
  · exact h.elim
abbrev zMP:Tabs:=((Tabs.nil.addF 94 zEO).addF 95 zEP)
theorem zIT:TabsOk Tryd.prog zMP:=((TabsOk.nil.addF zNh).addF zNi)
abbrev zIU:Ctrs:=csm zMP (fun _ _=>[]) (fun _=>false)
def zi9:Ann:=⟨52,[(0,zK [0,1,14,15,16] []),(1,zK [0,1,14,15,16,17] []),(2,zK [0,1,3,4,14,15,16] [4]),(3,zK [0,1,3,4,14,15,16,26] [4]),(4,zK [0,1,5,14,15,16] [5]),(5,zK [0,1,14,15,16,34,35] []),(6,zK [0,1,14,15,16,34,35,36] []),(7,zK [0,1,7,14,15,16,34,35] []),(8,zK [0,1,8,9,14,15,16,34,35] [8]),(9,zK [0,1,14,15,16,34,35,49] []),(10,zK [0,1,14,15,16,34,35] []),(11,zK [0,1,14,15,16] [])],
 [(1,zK [0,1,14,15,16] [])],
 [],
 [(6,3,zK [0,1,14,15,16,34,35] [])],[9]⟩
def zed (l:Nat) (a:web) (zaQ:Int):St:=⟨[(0,.one (.c (.p (.yl l)))),(1,.one (.c (.p (.fp [.fp (zaD a) 0] 0)))),(14,.one (.c (.p (.sl a.Net.Ties.len 4 (fun i=>enc_40 (a.Net.Ties.get i)))))),(15,.one (.c (.p (.int .i64 (a.Net.Ties.len:Int))))),(16,.one (.c (.p (.int .i64 zaQ))))],[],[]⟩
def zhK (l:Nat) (ys:List (List PA)) (a:web) (zaQ:Int):Prop:=vcY Tryd.prog zIU zi9 l (cdF Tryd.f110 [1,0]) (zoj 0 zA8) ys false (zed l a zaQ)
theorem zBY (l : Nat) (a : web) (ys : List (List PA)) :
  vcIter Tryd.prog zIU zi9 110 l [.one (.fp [.fp (zaD a) 0] 0)] ys =
  (zhK l ys a (0:Int)):=by kernel_rfl
def zmw (l:Nat) (X0:List (List PA)→Bool→St→Prop) (ys:List (List PA)) (a:web) (zaQ:Int):Prop :=
  (zbV (decide (zaQ < (a.Net.Ties.len : Int)))
 (((0≤zaQ∧zaQ < (a.Net.Ties.len:Int))) ∧
 (zbV ((zuE (a.out.F [zaQ]) 0) != 0)
 (X0 ys false (zed l a (w64 (zaQ+(1:Int)))))
 (zbV ((s94 (⟨(a.Net.Ties.get zaQ.toNat), zaQ⟩ : tie)).2)
 (l=l∧∃ r1,ys=[.agg [.int .i64 (((s94 (⟨(a.Net.Ties.get zaQ.toNat),zaQ⟩:tie)).1).Use.Tie),.bool (((s94 (⟨(a.Net.Ties.get zaQ.toNat),zaQ⟩:tie)).1).Use.Back),.int .i64 (((s94 (⟨(a.Net.Ties.get zaQ.toNat),zaQ⟩:tie)).1).from_),.int .i64 (((s94 (⟨(a.Net.Ties.get zaQ.toNat),zaQ⟩:tie)).1).to),.int .i64 (((s94 (⟨(a.Net.Ties.get zaQ.toNat),zaQ⟩:tie)).1).length)]] :: r1 ∧
 (zbV ((s95 (⟨(a.Net.Ties.get zaQ.toNat), zaQ⟩ : tie)).2)
 (l=l∧∃ r2,r1=[.agg [.int .i64 (((s95 (⟨(a.Net.Ties.get zaQ.toNat),zaQ⟩:tie)).1).Use.Tie),.bool (((s95 (⟨(a.Net.Ties.get zaQ.toNat),zaQ⟩:tie)).1).Use.Back),.int .i64 (((s95 (⟨(a.Net.Ties.get zaQ.toNat),zaQ⟩:tie)).1).from_),.int .i64 (((s95 (⟨(a.Net.Ties.get zaQ.toNat),zaQ⟩:tie)).1).to),.int .i64 (((s95 (⟨(a.Net.Ties.get zaQ.toNat),zaQ⟩:tie)).1).length)]] :: r2 ∧
 (X0 r2 false (zed l a (w64 (zaQ+(1:Int)))))∧True)
 (X0 r1 false (zed l a (w64 (zaQ+(1:Int))))))∧True)
 (zbV ((s95 (⟨(a.Net.Ties.get zaQ.toNat), zaQ⟩ : tie)).2)
 (l=l∧∃ r3,ys=[.agg [.int .i64 (((s95 (⟨(a.Net.Ties.get zaQ.toNat),zaQ⟩:tie)).1).Use.Tie),.bool (((s95 (⟨(a.Net.Ties.get zaQ.toNat),zaQ⟩:tie)).1).Use.Back),.int .i64 (((s95 (⟨(a.Net.Ties.get zaQ.toNat),zaQ⟩:tie)).1).from_),.int .i64 (((s95 (⟨(a.Net.Ties.get zaQ.toNat),zaQ⟩:tie)).1).to),.int .i64 (((s95 (⟨(a.Net.Ties.get zaQ.toNat),zaQ⟩:tie)).1).length)]] :: r3 ∧
 (X0 r3 false (zed l a (w64 (zaQ+(1:Int)))))∧True)
 (X0 ys false (zed l a (w64 (zaQ+(1:Int)))))))))
 (ys=[]))
theorem zo8 (l : Nat) (X0 : List (List PA) → Bool → St → Prop) (ys : List (List PA)) (a : web) (zaQ : Int) :
  vcY Tryd.prog zIU zi9 l (cd (cdF Tryd.f110 [1,0]) [0]) (zA6 Tryd.prog zi9 1 X0 (zoj 0 zA8)) ys false (zed l a zaQ) =
  zmw l X0 ys a zaQ:=by kernel_rfl
theorem zvb (l : Nat) (ys : List (List PA)) (a : web) (zaQ : Int)
  (h:∀ X0:List (List PA)→Bool→St→Prop,(∀ (ys:List (List PA)) (zaQ:Int),zmw l X0 ys a zaQ→X0 ys false (zed l a zaQ))→X0 ys false (zed l a zaQ)) :
  zhK l ys a zaQ:=by
  have e:zhK l ys a zaQ=(∀ X:List (List PA)→Bool→St→Prop,(∀ ys q s,vcY Tryd.prog zIU zi9 l (cd (cdF Tryd.f110 [1,0]) [0]) (zA6 Tryd.prog zi9 1 X (zoj 0 zA8)) ys q s→X ys q s)→X ys false (zed l a zaQ)):=by kernel_rfl
  refine zbb e ?_
  intro X hX
  refine h X ?_
  intro ys zaQ hs
  refine hX _ _ _ ?_
  have e2:=zo8 l X ys a zaQ
  rw [e2]
  exact hs
attribute [irreducible] zhK
def zfk (a:web) (S0:Int→List step) (zaQ:Int):List step :=
  (cond (decide (zaQ < (a.Net.Ties.len : Int)))
 (cond ((zuE (a.out.F [zaQ]) 0) != 0)
 (S0 (w64 (zaQ+(1:Int))))
 (cond ((s94 (⟨(a.Net.Ties.get zaQ.toNat), zaQ⟩ : tie)).2)
 (((s94 (⟨(a.Net.Ties.get zaQ.toNat), zaQ⟩ : tie)).1) :: (cond ((s95 (⟨(a.Net.Ties.get zaQ.toNat), zaQ⟩ : tie)).2)
 (((s95 (⟨(a.Net.Ties.get zaQ.toNat),zaQ⟩:tie)).1) :: (S0 (w64 (zaQ+(1:Int)))))
 (S0 (w64 (zaQ+(1:Int))))))
 (cond ((s95 (⟨(a.Net.Ties.get zaQ.toNat), zaQ⟩ : tie)).2)
 (((s95 (⟨(a.Net.Ties.get zaQ.toNat),zaQ⟩:tie)).1) :: (S0 (w64 (zaQ+(1:Int)))))
 (S0 (w64 (zaQ+(1:Int)))))))
 [])
def zfl (a:web) (P0:Int→Bool) (zaQ:Int):Bool :=
  (cond (decide (zaQ < (a.Net.Ties.len : Int)))
 (decide ((0≤zaQ∧zaQ < (a.Net.Ties.len:Int))) &&
 (cond ((zuE (a.out.F [zaQ]) 0) != 0)
 (P0 (w64 (zaQ+(1:Int))))
 (cond ((s94 (⟨(a.Net.Ties.get zaQ.toNat), zaQ⟩ : tie)).2)
 (cond ((s95 (⟨(a.Net.Ties.get zaQ.toNat), zaQ⟩ : tie)).2)
 (P0 (w64 (zaQ+(1:Int))))
 (P0 (w64 (zaQ+(1:Int)))))
 (cond ((s95 (⟨(a.Net.Ties.get zaQ.toNat), zaQ⟩ : tie)).2)
 (P0 (w64 (zaQ+(1:Int))))
 (P0 (w64 (zaQ+(1:Int))))))))
 true)
def zeE (a : web) : Nat → Int → List step
  | 0=>fun _=>[]
  | k+1=>zfk a (zeE a k)
def zeF (a : web) : Nat → Int → Bool
  | 0=>fun _=>false
  | k+1=>zfl a (zeF a k)
def ztC (a:web) (zaQ:Int):List step:=zeE a Fuel zaQ
def ztD (a:web) (zaQ:Int):Bool:=zeF a Fuel zaQ
theorem zBZ (l:Nat) (a:web) (ys:List (List PA)) (zaQ:Int) (hs:ztD a zaQ=true) (hk:ys=(ztC a zaQ).map (fun y=>[.agg (zai y)])):zhK l ys a zaQ:=by
  refine zvb l ys a zaQ ?_
  intro X0 hstep
  have key:∀ (k:Nat) (ys:List (List PA)) (zaQ:Int),zeF a k zaQ=true→ys=(zeE a k zaQ).map (fun y=>[.agg (zai y)])→X0 ys false (zed l a zaQ):=by
    intro k
    induction k with
    | zero=>intro ys zaQ hs;exact absurd hs Bool.false_ne_true
    | succ k ih =>
      intro ys zaQ hs hk
      refine hstep ys zaQ ?_
      have hs:zfl a (zeF a k) zaQ=true:=hs
      have hk:ys=(zfk a (zeE a k) zaQ).map (fun y=>[.agg (zai y)]):=hk
      unfold zfl at hs
      unfold zfk at hk
      generalize zeE a k=S0 at hk ih
      generalize zeF a k=P0 at hs ih
      have hX0:=ih
      exact (zhH hs hk
 (fun hs hk => (zaU hs fun hc hs => ⟨hc, (zhH hs hk
 (fun hs hk=>(hX0 _ (w64 (zaQ+(1:Int))) hs hk))
 (fun hs hk => (zhH hs hk
 (fun hs hk => (itY hk rfl (fun _ hk => (zhH hs hk
 (fun hs hk=>(itY hk rfl (fun _ hk=>(hX0 _ (w64 (zaQ+(1:Int))) hs hk))))
 (fun hs hk=>(hX0 _ (w64 (zaQ+(1:Int))) hs hk))))))
 (fun hs hk => (zhH hs hk
 (fun hs hk=>(itY hk rfl (fun _ hk=>(hX0 _ (w64 (zaQ+(1:Int))) hs hk))))
 (fun hs hk=>(hX0 _ (w64 (zaQ+(1:Int))) hs hk)))))))⟩))
 (fun hs hk=>hk))
  exact key _ _ zaQ hs hk
def zh5 (a:web):List step :=
  (ztC a (0:Int))
def zlT (a:web):Bool :=
  (ztD a (0:Int))
theorem zNj (l:Nat) (a:web) (ys:List (List PA)) (hs:zlT a=true) (hk:ys=(zh5 a).map (fun y=>[.agg (zai y)])):vcIter Tryd.prog zIU zi9 110 l [.one (.fp [.fp (zaD a) 0] 0)] ys:=by
  refine zbb (zBY l a ys) ?_
  unfold zlT at hs
  unfold zh5 at hk
  exact (zBZ l a _ (0:Int) hs hk)
def zo9 : List PA → Option (Prop × List (List PA))
  | [.one (.fp [.fp [.int .i64 a_Net_Nodes,.sl a_Net_Ties_n a_Net_Ties_s a_Net_Ties_g,.fm a_out_q a_out_n a_out_F] 0] 0)]=>some (IsE enc_40 4 a_Net_Ties_s a_Net_Ties_g∧a_out_q=(false,1,false,[none])∧zlT (⟨(⟨a_Net_Nodes,(⟨a_Net_Ties_n,zao a_Net_Ties_g⟩:(Sl Tie))⟩:Net),(⟨a_out_n,a_out_F⟩:Mp)⟩:web)=true,(zh5 (⟨(⟨a_Net_Nodes,(⟨a_Net_Ties_n,zao a_Net_Ties_g⟩:(Sl Tie))⟩:Net),(⟨a_out_n,a_out_F⟩:Mp)⟩:web)).map fun y=>[.agg (zai y)])
  | _=>none
theorem zEQ:zax Tryd.prog 110:=⟨_,rfl,rfl,by kernel_rfl⟩
theorem zvc:zCW Tryd.prog 110 zo9:=zIA zIT zEQ fun l caps safe ys h hs=>by
  unfold zo9 at h
  split at h
  · rename_i a_Net_Nodes a_Net_Ties_n a_Net_Ties_s a_Net_Ties_g a_out_q a_out_n a_out_F
    cases h
    obtain ⟨⟨rfl,a_Net_Ties_f,rfl⟩,rfl,hs⟩:=hs
    try rw [zan a_Net_Ties_f] at hs
    try rw [zan a_Net_Ties_f]
    exact ⟨fun _ _=>[],fun _=>false,zi9,zNj l (⟨(⟨a_Net_Nodes,(⟨a_Net_Ties_n,a_Net_Ties_f⟩:(Sl Tie))⟩:Net),(⟨a_out_n,a_out_F⟩:Mp)⟩:web) _ hs rfl⟩
  · cases h
abbrev T88:Tabs:=((Tabs.nil.addF 93 zo7).addI 110 zo9)
theorem zLv:TabsOk Tryd.prog T88:=((TabsOk.nil.addF zHU).addI zvc)
abbrev G88:Ctrs:=csm T88 (fun _ _=>[]) (fun _=>false)
def zc1:Ann:=⟨37,[(0,zK [0] []),(1,zK [0,3] [3]),(2,zK [0,3,11,12] [3]),(3,zK [0,3,11,12,13] [3]),(4,zK [0,3,4,11,12] [3,4]),(5,zK [0,3,4,11,12,15] [3,4]),(6,zK [0,3,4,5,11,12,15] [3,4,5]),(7,zK [0,3,4,5,6,11,12,15] [3,4,5]),(8,zK [0,3,4,5,6,11,12,15,29] [3,4,5]),(9,zK [0,3,4,11,12,15] [3,4]),(10,zK [0,3,4,11,12,15] [3,4]),(11,zK [0,3,11,12,35] [3]),(12,zK [2] []),(13,zK [0,3,11,12] [3]),(14,zK [2] [])],
 [(3,zK [0,3,11,12] [3]),(6,zK [0,3,4,11,12,15] [3,4])],
 [],
 [],[]⟩
def zja (w:web) (zbu:Int) (dt0:Tab):St:=⟨[(0,.one (.c (.p (.fp (zaD w) 0)))),(3,.one (.c (.ptr 3 0))),(11,.one (.c (.p (.int .i64 w.Net.Nodes)))),(12,.one (.c (.p (.int .i64 zbu))))],[(3,.box 157 (zm (zw6 dt0)))],[]⟩
def zkL (K:List PA→Prop) (w:web) (zbu:Int) (dt0:Tab):Prop:=vc Tryd.prog G88 zc1 (cdF Tryd.f88 [1,1,0,1,0]) (zas 0 (sqK Tryd.prog G88 zc1 (cdF Tryd.f88 [1,1,1]) (zbo Tryd.prog Tryd.f88 K))) (zja w zbu dt0)
def zgS (w:web) (zbi:Int) (zaq:Bool) (dt1:Tab):St:=⟨[(0,.one (.c (.p (.fp (zaD w) 0)))),(3,.one (.c (.ptr 3 0))),(4,.one (.c (.ptr 4 0))),(11,.one (.c (.p (.int .i64 w.Net.Nodes)))),(12,.one (.c (.p (.int .i64 zbi)))),(15,.one (.c (.p (.fn 110 [] [.fp [.fp (zaD w) 0] 0]))))],[(3,.box 157 (zm (zw6 dt1))),(4,.box 4 [.p (.bool zaq)])],[]⟩
def zkM (K:List PA→Prop) (X0:St→Prop) (w:web) (zbi:Int) (zaq:Bool) (dt1:Tab):Prop:=vc Tryd.prog G88 zc1 (cdF Tryd.f88 [1,1,0,1,0,0,1,1,0,0,1,0,1,0]) (zas 2 (sqK Tryd.prog G88 zc1 (cdF Tryd.f88 [1,1,0,1,0,0,1,1,0,0,1,1]) (zas 1 (sqK Tryd.prog G88 zc1 (cdF Tryd.f88 [1,1,0,1,0,0,1,1,1]) (zbq Tryd.prog zc1 3 X0 (zas 0 (sqK Tryd.prog G88 zc1 (cdF Tryd.f88 [1,1,1]) (zbo Tryd.prog Tryd.f88 K)))))))) (zgS w zbi zaq dt1)
theorem zER (w : web) (K : List PA → Prop) :
  vcFun Tryd.prog G88 zc1 88 [.one (.fp (zaD w) 0)] K =
  (zkL K w (0:Int) (fun _=>(0:Int))):=by kernel_rfl
def zpa (K:List PA→Prop) (X0:St→Prop) (w:web) (zbu:Int) (dt0:Tab):Prop :=
  (zbV (decide (zbu < w.Net.Nodes))
 ((IsE enc_40 4 4 (fun i=>enc_40 (w.Net.Ties.get i))∧((false,1,false,[none]):MQ)=(false,1,false,[none])) ∧
 (zkM K X0 w zbu false dt0))
 (K [.one (.bool true)]))
theorem zqM (K : List PA → Prop) (X0 : St → Prop) (w : web) (zbu : Int) (dt0 : Tab) :
  vc Tryd.prog G88 zc1 (cd (cdF Tryd.f88 [1,1,0,1,0]) [0]) (zbq Tryd.prog zc1 3 X0 (zas 0 (sqK Tryd.prog G88 zc1 (cdF Tryd.f88 [1,1,1]) (zbo Tryd.prog Tryd.f88 K)))) (zja w zbu dt0) =
  zpa K X0 w zbu dt0:=by kernel_rfl
theorem zxc (K : List PA → Prop) (w : web) (zbu : Int) (dt0 : Tab)
  (h:∀ X0:St→Prop,(∀ (zbu:Int) (dt0:Tab),zpa K X0 w zbu dt0→X0 (zja w zbu dt0))→X0 (zja w zbu dt0)) :
  zkL K w zbu dt0:=by
  have e:zkL K w zbu dt0=(∀ X:St→Prop,(∀ s,vc Tryd.prog G88 zc1 (cd (cdF Tryd.f88 [1,1,0,1,0]) [0]) (zbq Tryd.prog zc1 3 X (zas 0 (sqK Tryd.prog G88 zc1 (cdF Tryd.f88 [1,1,1]) (zbo Tryd.prog Tryd.f88 K)))) s→X s)→X (zja w zbu dt0)):=by kernel_rfl
  refine zbb e ?_
  intro X hX
  refine h X ?_
  intro zbu dt0 hs
  refine hX _ ?_
  have e2:=zqM K X w zbu dt0
  rw [e2]
  exact hs
def zpb (K:List PA→Prop) (X0:St→Prop) (w:web) (zbi:Int) (zaq:Bool) (dt1:Tab):Prop :=
  (zbV (!zaq)
 (K [.one (.bool false)])
 (X0 (zja w (w64 (zbi+(1:Int))) dt1)))
def zpc (K:List PA→Prop) (X0:St→Prop) (X1:List (List PA)→St→Prop) (y1:step) (rest1:List (List PA)) (w:web) (zbi:Int) (zaq:Bool) (dt1:Tab):Prop :=
  (((0≤y1.from_∧y1.from_ < (40:Int))) ∧
 (((0≤y1.to∧y1.to < (40:Int))) ∧
 (zbV (decide ((w64 ((tg 40 dt1 (0 + y1.from_.toNat * 1 + 0)) + y1.length)) < (tg 40 dt1 (0 + y1.to.toNat * 1 + 0))))
 (((0≤y1.to∧y1.to < (40:Int))) ∧
 (X1 rest1 (zgS w zbi true (ts 40 dt1 (0+y1.to.toNat * 1+0) [(w64 ((tg 40 dt1 (0+y1.from_.toNat * 1+0))+y1.length))]))))
 (X1 rest1 (zgS w zbi zaq dt1)))))
theorem zqN (K:List PA→Prop) (X0:St→Prop) (w:web) (zbi:Int) (zaq:Bool) (dt1:Tab):(zas 2 (sqK Tryd.prog G88 zc1 (cdF Tryd.f88 [1,1,0,1,0,0,1,1,0,0,1,1]) (zas 1 (sqK Tryd.prog G88 zc1 (cdF Tryd.f88 [1,1,0,1,0,0,1,1,1]) (zbq Tryd.prog zc1 3 X0 (zas 0 (sqK Tryd.prog G88 zc1 (cdF Tryd.f88 [1,1,1]) (zbo Tryd.prog Tryd.f88 K)))))))) .normal (zgS w zbi zaq dt1)=zpb K X0 w zbi zaq dt1:=by kernel_rfl
theorem zqO (K : List PA → Prop) (X0 : St → Prop) (X1 : List (List PA) → St → Prop) (y1 : step) (rest1 : List (List PA)) (w : web) (zbi : Int) (zaq : Bool) (dt1 : Tab) :
  zvs Tryd.prog G88 zc1 6 [16] (cd (cdF Tryd.f88 [1,1,0,1,0,0,1,1,0,0,1,0,1,0]) [0]) (cd (cdF Tryd.f88 [1,1,0,1,0,0,1,1,0,0,1,0,1,0]) [1]) X1 (zas 2 (sqK Tryd.prog G88 zc1 (cdF Tryd.f88 [1,1,0,1,0,0,1,1,0,0,1,1]) (zas 1 (sqK Tryd.prog G88 zc1 (cdF Tryd.f88 [1,1,0,1,0,0,1,1,1]) (zbq Tryd.prog zc1 3 X0 (zas 0 (sqK Tryd.prog G88 zc1 (cdF Tryd.f88 [1,1,1]) (zbo Tryd.prog Tryd.f88 K)))))))) [.agg (zai y1)] rest1 (zgS w zbi zaq dt1)=zpc K X0 X1 y1 rest1 w zbi zaq dt1:=by kernel_rfl
theorem zxd (K : List PA → Prop) (X0 : St → Prop) (w : web) (zbi : Int) (zaq : Bool) (dt1 : Tab)
  (hsafe:IsE enc_40 4 4 (fun i=>enc_40 (w.Net.Ties.get i))∧((false,1,false,[none]):MQ)=(false,1,false,[none])∧(zlT w=true)) (h:∀ X1:List (List PA)→St→Prop,(∀ (zbi:Int) (zaq:Bool) (dt1:Tab),zpb K X0 w zbi zaq dt1→X1 [] (zgS w zbi zaq dt1))→(∀ (y:step) (rest:List (List PA)) (zbi:Int) (zaq:Bool) (dt1:Tab),zpc K X0 X1 y rest w zbi zaq dt1→X1 ([.agg (zai y)] :: rest) (zgS w zbi zaq dt1))→X1 ((zh5 w).map fun y=>[.agg (zai y)]) (zgS w zbi zaq dt1)) :
  zkM K X0 w zbi zaq dt1:=by
  have e:zkM K X0 w zbi zaq dt1=((IsE enc_40 4 4 (fun i=>enc_40 (w.Net.Ties.get i))∧((false,1,false,[none]):MQ)=(false,1,false,[none])∧(zlT w=true))∧∀ X:List (List PA)→St→Prop,(∀ s,(zas 2 (sqK Tryd.prog G88 zc1 (cdF Tryd.f88 [1,1,0,1,0,0,1,1,0,0,1,1]) (zas 1 (sqK Tryd.prog G88 zc1 (cdF Tryd.f88 [1,1,0,1,0,0,1,1,1]) (zbq Tryd.prog zc1 3 X0 (zas 0 (sqK Tryd.prog G88 zc1 (cdF Tryd.f88 [1,1,1]) (zbo Tryd.prog Tryd.f88 K)))))))) .normal s→X [] s)→(∀ y rest s,zvs Tryd.prog G88 zc1 6 [16] (cd (cdF Tryd.f88 [1,1,0,1,0,0,1,1,0,0,1,0,1,0]) [0]) (cd (cdF Tryd.f88 [1,1,0,1,0,0,1,1,0,0,1,0,1,0]) [1]) X (zas 2 (sqK Tryd.prog G88 zc1 (cdF Tryd.f88 [1,1,0,1,0,0,1,1,0,0,1,1]) (zas 1 (sqK Tryd.prog G88 zc1 (cdF Tryd.f88 [1,1,0,1,0,0,1,1,1]) (zbq Tryd.prog zc1 3 X0 (zas 0 (sqK Tryd.prog G88 zc1 (cdF Tryd.f88 [1,1,1]) (zbo Tryd.prog Tryd.f88 K)))))))) y rest s→X (y :: rest) s)→X ((zh5 w).map fun y=>[.agg (zai y)]) (zgS w zbi zaq dt1)):=by kernel_rfl
  refine zbb e ⟨hsafe,?_⟩
  intro X h0 h1
  refine h X (fun zbi zaq dt1 hs=>h0 _ ?_) (fun y rest zbi zaq dt1 hs=>h1 _ rest _ ?_)
  · rw [zqN K X0 w zbi zaq dt1];exact hs
  · have e2 := zqO K X0 X y rest w zbi zaq dt1
    rw [e2];exact hs
abbrev e88 (r:Bool):List PA:=[.one (.bool r)]
attribute [irreducible] zkL zkM
def zio (S0:Int→Tab→Bool) (w:web) (zbi:Int) (zaq:Bool) (dt1:Tab):Bool :=
  (cond (!zaq)
 false
 (S0 (w64 (zbi+(1:Int))) dt1))
def ziq (P0:Int→Tab→Bool) (w:web) (zbi:Int) (zaq:Bool) (dt1:Tab):Bool :=
  (cond (!zaq)
 true
 (P0 (w64 (zbi+(1:Int))) dt1))
def zkN (S0:Int→Tab→Bool) (w:web) (y1:step) (S1:Int→Bool→Tab→Bool) (zbi:Int) (zaq:Bool) (dt1:Tab):Bool :=
  (cond (decide ((w64 ((tg 40 dt1 (0 + y1.from_.toNat * 1 + 0)) + y1.length)) < (tg 40 dt1 (0 + y1.to.toNat * 1 + 0))))
 (S1 zbi true (ts 40 dt1 (0+y1.to.toNat * 1+0) [(w64 ((tg 40 dt1 (0+y1.from_.toNat * 1+0))+y1.length))]))
 (S1 zbi zaq dt1))
def zkO (P0:Int→Tab→Bool) (w:web) (y1:step) (P1:Int→Bool→Tab→Bool) (zbi:Int) (zaq:Bool) (dt1:Tab):Bool :=
  (decide ((0≤y1.from_∧y1.from_ < (40:Int))) &&
 (decide ((0≤y1.to∧y1.to < (40:Int))) &&
 (cond (decide ((w64 ((tg 40 dt1 (0 + y1.from_.toNat * 1 + 0)) + y1.length)) < (tg 40 dt1 (0 + y1.to.toNat * 1 + 0))))
 (decide ((0≤y1.to∧y1.to < (40:Int))) &&
 (P1 zbi true (ts 40 dt1 (0+y1.to.toNat * 1+0) [(w64 ((tg 40 dt1 (0+y1.from_.toNat * 1+0))+y1.length))])))
 (P1 zbi zaq dt1))))
def zee (S0 : Int → Tab → Bool) (w : web) : List step → Int → Bool → Tab → Bool
  | []=>zio S0 w
  | y :: r=>zkN S0 w y (zee S0 w r)
def zef (P0 : Int → Tab → Bool) (w : web) : List step → Int → Bool → Tab → Bool
  | []=>ziq P0 w
  | y :: r=>zkO P0 w y (zef P0 w r)
def zqP (S0:Int→Tab→Bool) (w:web) (zbi:Int) (zaq:Bool) (dt1:Tab):Bool:=zee S0 w (zh5 w) zbi zaq dt1
def znt (P0:Int→Tab→Bool) (w:web) (zbi:Int) (zaq:Bool) (dt1:Tab):Bool:=decide ((zlT w=true)) && zef P0 w (zh5 w) zbi zaq dt1
theorem zES (K : List PA → Prop) (w : web)
  (X0:St→Prop) (P0:Int→Tab→Bool) (S0:Int→Tab→Bool)
  (hX0:∀ (zbu:Int) (dt0:Tab),P0 zbu dt0=true→K (e88 (S0 zbu dt0))→X0 (zja w zbu dt0)) (zbi:Int) (zaq:Bool) (dt1:Tab) (hs:znt P0 w zbi zaq dt1=true) (hk:K (e88 (zqP S0 w zbi zaq dt1))):zkM K X0 w zbi zaq dt1:=by
  unfold znt at hs
  rw [Bool.and_eq_true] at hs
  obtain ⟨hsf,hs⟩:=hs
  have hc:=of_decide_eq_true hsf
  refine zxd K X0 w zbi zaq dt1 ⟨isE,rfl,hc⟩ ?_
  intro X1 hexit hstep
  have key:∀ (l:List step) (zbi:Int) (zaq:Bool) (dt1:Tab),zef P0 w l zbi zaq dt1=true→K (e88 (zee S0 w l zbi zaq dt1))→X1 (l.map fun y=>[.agg (zai y)]) (zgS w zbi zaq dt1):=by
    intro l
    induction l with
    | nil =>
      intro zbi zaq dt1 hs hk
      refine hexit zbi zaq dt1 ?_
      have hs:ziq P0 w zbi zaq dt1=true:=hs
      have hk:K (e88 (zio S0 w zbi zaq dt1)):=hk
      unfold ziq at hs
      unfold zio at hk
      exact (za1 (K := fun r => K (e88 r))
 (fun hs hk=>hk)
 (fun hs hk=>(hX0 (w64 (zbi+(1:Int))) dt1 hs hk)) hs hk)
    | cons y1 l ih =>
      intro zbi zaq dt1 hs hk
      refine hstep y1 _ zbi zaq dt1 ?_
      have hs:zkO P0 w y1 (zef P0 w l) zbi zaq dt1=true:=hs
      have hk:K (e88 (zkN S0 w y1 (zee S0 w l) zbi zaq dt1)):=hk
      unfold zkO at hs
      unfold zkN at hk
      generalize zee S0 w l=S1 at hk ih
      generalize zef P0 w l=P1 at hs ih
      have hX1:=ih
      exact (zaU hs fun hc hs => ⟨hc, (zaU hs fun hc hs => ⟨hc, (za1 (K := fun r => K (e88 r))
 (fun hs hk=>(zaU hs fun hc hs=>⟨hc,(hX1 zbi true (ts 40 dt1 (0+y1.to.toNat * 1+0) [(w64 ((tg 40 dt1 (0+y1.from_.toNat * 1+0))+y1.length))]) hs hk)⟩))
 (fun hs hk=>(hX1 zbi zaq dt1 hs hk)) hs hk)⟩)⟩)
  exact key _ zbi zaq dt1 hs hk
def zg7 (w:web) (S0:Int→Tab→Bool) (zbu:Int) (dt0:Tab):Bool :=
  (cond (decide (zbu < w.Net.Nodes))
 (zqP S0 w zbu false dt0)
 true)
def zg8 (w:web) (P0:Int→Tab→Bool) (zbu:Int) (dt0:Tab):Bool :=
  (cond (decide (zbu < w.Net.Nodes))
 (znt P0 w zbu false dt0)
 true)
def zfm (w : web) : Nat → Int → Tab → Bool
  | 0=>fun _ _=>default
  | k+1=>zg7 w (zfm w k)
def zfn (w : web) : Nat → Int → Tab → Bool
  | 0=>fun _ _=>false
  | k+1=>zg8 w (zfn w k)
def zxe (w:web) (zbu:Int) (dt0:Tab):Bool:=zfm w Fuel zbu dt0
def zxf (w:web) (zbu:Int) (dt0:Tab):Bool:=zfn w Fuel zbu dt0
theorem zET (K:List PA→Prop) (w:web) (zbu:Int) (dt0:Tab) (hs:zxf w zbu dt0=true) (hk:K (e88 (zxe w zbu dt0))):zkL K w zbu dt0:=by
  refine zxc K w zbu dt0 ?_
  intro X0 hstep
  have key:∀ (k:Nat) (zbu:Int) (dt0:Tab),zfn w k zbu dt0=true→K (e88 (zfm w k zbu dt0))→X0 (zja w zbu dt0):=by
    intro k
    induction k with
    | zero=>intro zbu dt0 hs;exact absurd hs Bool.false_ne_true
    | succ k ih =>
      intro zbu dt0 hs hk
      refine hstep zbu dt0 ?_
      have hs:zg8 w (zfn w k) zbu dt0=true:=hs
      have hk:K (e88 (zg7 w (zfm w k) zbu dt0)):=hk
      unfold zg8 at hs
      unfold zg7 at hk
      generalize zfm w k=S0 at hk ih
      generalize zfn w k=P0 at hs ih
      have hX0:=ih
      exact (za1 (K := fun r => K (e88 r))
 (fun hs hk=>⟨⟨isE,rfl⟩,(zES K w X0 P0 S0 hX0 zbu false dt0 hs hk)⟩)
 (fun hs hk=>hk) hs hk)
  exact key _ zbu dt0 hs hk
def s88 (w:web):Bool :=
  (zxe w (0:Int) (fun _=>(0:Int)))
def p88 (w:web):Bool :=
  (zxf w (0:Int) (fun _=>(0:Int)))
theorem q88 (w:web) (K:List PA→Prop) (hs:p88 w=true) (hk:K (e88 (s88 w))):vcFun Tryd.prog G88 zc1 88 [.one (.fp (zaD w) 0)] K:=by
  refine zbb (zER w K) ?_
  unfold p88 at hs
  unfold s88 at hk
  exact (zET K w (0:Int) (fun _=>(0:Int)) hs hk)
def zxg : List PA → COut
  | [.one (.fp [.int .i64 zam,.sl zaj zaB zak,.fm zbd zaE zaF] 0)]=>.det (IsE enc_40 4 zaB zak∧zbd=(false,1,false,[none])∧p88 (⟨(⟨zam,(⟨zaj,zao zak⟩:(Sl Tie))⟩:Net),(⟨zaE,zaF⟩:Mp)⟩:web)=true) [.one (.bool (s88 (⟨(⟨zam,(⟨zaj,zao zak⟩:(Sl Tie))⟩:Net),(⟨zaE,zaF⟩:Mp)⟩:web)))]
  | _=>.no
theorem zIV:zax Tryd.prog 88:=⟨_,rfl,rfl,by kernel_rfl⟩
theorem zLw:Ok Tryd.prog 88 zxg:=zbv zLv zIV fun args K h=>by
  unfold zxg at h
  split at h
  · rename_i zam zaj zaB zak zbd zaE zaF
    obtain ⟨⟨⟨rfl,zat,rfl⟩,rfl,hs⟩,hk⟩:=h
    try rw [zan zat] at hs
    try rw [zan zat] at hk
    exact ⟨(fun _ _=>[]),(fun _=>false),zc1,q88 (⟨(⟨zam,(⟨zaj,zat⟩:(Sl Tie))⟩:Net),(⟨zaE,zaF⟩:Mp)⟩:web) K hs hk⟩
  · exact h.elim
abbrev zMQ:Tabs:=Tabs.nil
theorem zIW:TabsOk Tryd.prog zMQ:=TabsOk.nil
abbrev zNk:Ctrs:=csm zMQ (fun _ _=>[]) (fun _=>false)
def zDe:Ann:=⟨24,[(0,zK [2,3] [2,3]),(1,zK [4] [])],
 [],
 [],
 [],[]⟩
abbrev zNl:=Bool
abbrev zNm (r:zNl):List PA:=[.one (.bool r)]
section
variable {K:List PA→Prop} {a:far} {b:far}
def zB0 (a:far) (b:far):Bool :=
  (cond (decide (a.length < b.length))
 true
 (cond (a.length == b.length)
 (decide (a.uses < b.uses))
 false))
end
theorem zNn (a:far) (b:far) (K:List PA→Prop) (hk:K (zNm (zB0 a b))):vcFun Tryd.prog zNk zDe 105 [.agg (zcC a),.agg (zcC b)] K :=
  zbb (by kernel_rfl) (zt hk (fun hk=>hk) (fun hk=>(zt hk (fun hk=>hk) (fun hk=>hk))))
def zxh : List PA → COut
  | [.agg [.int .i64 zcG,.int .i64 zqQ],.agg [.int .i64 zck,.int .i64 zfo]]=>.tot [.one (.bool (zB0 (⟨zcG,zqQ⟩:far) (⟨zck,zfo⟩:far)))]
  | _=>.no
theorem zEU:zax Tryd.prog 105:=⟨_,rfl,rfl,by kernel_rfl⟩
theorem zLx:Ok Tryd.prog 105 zxh:=zbv zIW zEU fun args K h=>by
  unfold zxh at h
  split at h
  · rename_i zcG zqQ zck zfo
    have hk:=h
    exact ⟨(fun _ _=>[]),(fun _=>false),zDe,zNn (⟨zcG,zqQ⟩:far) (⟨zck,zfo⟩:far) K hk⟩
  · exact h.elim
abbrev zMR:Tabs:=(Tabs.nil.addF 105 zxh)
theorem zIX:TabsOk Tryd.prog zMR:=(TabsOk.nil.addF zLx)
abbrev zMS:Ctrs:=csm zMR (fun _ _=>[]) (fun _=>false)
def zxi:Ann:=⟨22,[(0,zK [0,2,4,6] [4,6]),(1,zK [0,4,6,9,10,11] [4,6]),(2,zK [0,4,6,9,10,11,12] [4,6]),(3,zK [0,4,6,8,9,10,11] [4,6,8]),(4,zK [0,4,6,8,9,10,11,18] [4,6,8]),(5,zK [0,4,6,9,10,11] [4,6]),(6,zK [0,4,6,9,10,11] [4,6]),(7,zK [6] [6])],
 [(2,zK [0,4,6,9,10,11] [4,6])],
 [(5,zK [0,4,6,8,9,10,11,18] [4,6,8])],
 [],[]⟩
abbrev zNo:=far
abbrev zK1 (r:zNo):List PA:=[.agg [.int .i64 r.length,.int .i64 r.uses]]
@[irreducible] def z104:=ptF Tryd.prog zMS zxi Tryd.f104
def zxj (others:(Sl far)) (za4:Int) (zbB:Int) (zbC:Int):St:=⟨[(0,zP (.fn 105 [] [])),(4,zp 4 0),(6,zp 6 0),(9,zS zcC 2 others),(10,zI (others.len:Int)),(11,zI za4)],[(4,.box 114 (zm (zcC (⟨zbB,zbC⟩:far)))),(6,.box 114 (zm (zcC (⟨(0:Int),(0:Int)⟩:far))))],[]⟩
abbrev zxk (K:List PA→Prop) (others:(Sl far)) (X:St→Prop) (P:Int→Int→Int→Bool) (S:Int→Int→Int→far):Prop:=∀ ⦃za4:Int⦄ ⦃zbB:Int⦄ ⦃zbC:Int⦄,P za4 zbB zbC=true→K (zK1 (S za4 zbB zbC))→X (zxj others za4 zbB zbC)
section
variable {K:List PA→Prop} {first:far} {others:(Sl far)} {za4:Int} {zbB:Int} {zbC:Int} {X0:St→Prop} {P0:Int→Int→Int→Bool} {S0:Int→Int→Int→far} {zc4:Int} {zb0:Bool} {zeg:Int} {zeh:Int} {zqR:Int} {zqS:Int}
def znu (S0:Int→Int→Int→far) (others:(Sl far)) (zc4:Int) (zb0:Bool) (zeg:Int) (zeh:Int) (zqR:Int) (zqS:Int):far :=
  (cond zb0
 (S0 (w64 (zc4+(1:Int))) zqR zqS)
 (S0 (w64 (zc4+(1:Int))) zeg zeh))
def znv (P0:Int→Int→Int→Bool) (others:(Sl far)) (zc4:Int) (zb0:Bool) (zeg:Int) (zeh:Int) (zqR:Int) (zqS:Int):Bool :=
  (cond zb0
 (P0 (w64 (zc4+(1:Int))) zqR zqS)
 (P0 (w64 (zc4+(1:Int))) zeg zeh))
theorem zB1 (hX0:zxk K others X0 P0 S0) (hs:znv P0 others zc4 zb0 zeg zeh zqR zqS=true) (hk:K (zK1 (znu S0 others zc4 zb0 zeg zeh zqR zqS))):z104 K [1,0,1,0,0,1,1,0,0,1,1] [X0] ⟨[(0,zP (.fn 105 [] [])),(4,zp 4 0),(6,zp 6 0),(8,zp 8 0),(9,zS zcC 2 others),(10,zI (others.len:Int)),(11,zI zc4),(18,zB zb0)],[(4,.box 114 (zm (zcC (⟨zeg,zeh⟩:far)))),(6,.box 114 (zm (zcC (⟨(0:Int),(0:Int)⟩:far)))),(8,.box 114 (zm (zcC (⟨zqR,zqS⟩:far))))],[]⟩:=zbb (by kernel_rfl) (zc hs hk (fun hs hk=>(hX0 hs hk)) (fun hs hk=>(hX0 hs hk)))
def zgx (others:(Sl far)) (S0:Int→Int→Int→far) (za4:Int) (zbB:Int) (zbC:Int):far :=
  (cond (decide (za4 < (others.len : Int)))
 (znu S0 others za4 (zB0 (others.get za4.toNat) (⟨zbB,zbC⟩:far)) zbB zbC ((others.get za4.toNat).length) ((others.get za4.toNat).uses))
 (⟨zbB,zbC⟩:far))
def zgy (others:(Sl far)) (P0:Int→Int→Int→Bool) (za4:Int) (zbB:Int) (zbC:Int):Bool :=
  (cond (decide (za4 < (others.len : Int)))
 (decide ((0≤za4∧za4 < (others.len:Int))) &&
 (znv P0 others za4 (zB0 (others.get za4.toNat) (⟨zbB,zbC⟩:far)) zbB zbC ((others.get za4.toNat).length) ((others.get za4.toNat).uses)))
 true)
def zgz (others:(Sl far)):Nat→Int→Int→Int→far:=lpO (fun _ _ _=>default) (zgx others)
def zgA (others:(Sl far)):Nat→Int→Int→Int→Bool:=lpO (fun _ _ _=>false) (zgy others)
def znw (others:(Sl far)) (za4:Int) (zbB:Int) (zbC:Int):far:=zgz others Fuel za4 zbB zbC
def znx (others:(Sl far)) (za4:Int) (zbB:Int) (zbC:Int):Bool:=zgA others Fuel za4 zbB zbC
theorem zB2 (hs:znx others za4 zbB zbC=true) (hk:K (zK1 (znw others za4 zbB zbC))):z104 K [1,0,1,0] [] (zxj others za4 zbB zbC) :=
  zl (fun X=>z104 K [1,0,1,0,0] [X]) (by kernel_rfl) fun X0 hX =>
  (show ∀ k, zxk K others X0 (zgA others k) (zgz others k) from zh4 _ _ (zgy others) (zgx others) (zxk K others X0)
 (by intro _ _ _ hs;exact absurd hs Bool.false_ne_true)
 (by intro P0 S0 hX0 za4 zbB zbC hs hk;exact hX _ (zbb (by kernel_rfl) (zc hs hk (fun hs hk=>(zaU hs fun hc hs=>And.intro hc (zB1 hX0 hs hk))) (fun hs hk=>hk))))) _ hs hk
def zcD (first:far) (others:(Sl far)):far :=
  (znw others (0:Int) first.length first.uses)
def zxl (first:far) (others:(Sl far)):Bool :=
  (znx others (0:Int) first.length first.uses)
end
theorem zNp (first:far) (others:(Sl far)) (K:List PA→Prop) (hs:zxl first others=true) (hk:K (zK1 (zcD first others))):vcFun Tryd.prog zMS zxi 104 [.one (.fn 105 [] []),.agg (zcC first),.one (.sl others.len 2 (fun i=>zcC (others.get i)))] K :=
  zbb (by kernel_rfl) (zB2 hs hk)
def zpd : List PA → COut
  | [.one (.fn 105 [] []),.agg [.int .i64 zck,.int .i64 zfo],.one (.sl zAW zIY zAX)]=>.det (IsE zcC 2 zIY zAX∧zxl (⟨zck,zfo⟩:far) (⟨zAW,zjE zAX⟩:(Sl far))=true) [.agg [.int .i64 ((zcD (⟨zck,zfo⟩:far) (⟨zAW,zjE zAX⟩:(Sl far))).length),.int .i64 ((zcD (⟨zck,zfo⟩:far) (⟨zAW,zjE zAX⟩:(Sl far))).uses)]]
  | _=>.no
theorem zEV:zax Tryd.prog 104:=⟨_,rfl,rfl,by kernel_rfl⟩
theorem zEW:Ok Tryd.prog 104 zpd:=zbv zIX zEV fun args K h=>by
  unfold zpd at h
  split at h
  · rename_i zck zfo zAW zIY zAX
    obtain ⟨⟨⟨rfl,zEX,rfl⟩,hs⟩,hk⟩:=h
    try rw [zi7 zEX] at hs
    try rw [zi7 zEX] at hk
    exact ⟨(fun _ _=>[]),(fun _=>false),zxi,zNp (⟨zck,zfo⟩:far) (⟨zAW,zEX⟩:(Sl far)) K hs hk⟩
  · exact h.elim
abbrev zMT:Tabs:=(((Tabs.nil.addF 93 zo7).addF 104 zpd).addI 110 zo9)
theorem zIZ:TabsOk Tryd.prog zMT:=(((TabsOk.nil.addF zHU).addF zEW).addI zvc)
abbrev zfI:Ctrs:=csm zMT (fun _ _=>[]) (fun _=>false)
def zbj:Ann:=⟨91,[(0,zK [0,2,4] [4]),(1,zK [0,2,4,7] [4,7,15]),(2,zK [0,2,4,7,17,18] [4,7,15]),(3,zK [0,2,4,7,17,18,19] [4,7,15]),(4,zK [0,2,4,7,8,17,18] [4,7,15]),(5,zK [0,2,4,7,8,17,18,21] [4,7,15]),(6,zK [0,2,4,7,8,17,18,21,22] [4,7,15]),(7,zK [0,2,4,7,8,9,17,18,21] [4,7,15]),(8,zK [0,2,4,7,8,17,18,21] [4,7,15]),(9,zK [0,2,4,7,8,17,18,21] [4,7,15]),(10,zK [0,2,4,7,17,18] [4,7,15]),(11,zK [0,2,4,7] [4,7,15]),(12,zK [0,2,4,7,10] [4,7,10,15]),(13,zK [0,2,4,7,10,39] [4,7,10,15]),(14,zK [0,2,4,7,10] [4,7,10,15]),(15,zK [0,2,4,7,10,43] [4,7,10,15]),(16,zK [0,2,4,7,10,11,43] [4,7,10,11,15]),(17,zK [0,2,4,7,10,11,12,43] [4,7,10,11,12,15]),(18,zK [0,2,4,7,10,11,12,43,67] [4,7,10,11,12,15]),(19,zK [0,2,4,7,10,43] [4,7,10,15]),(20,zK [0,2,4,7,89] [4,7,15]),(21,zK [0,2,4,7,10] [4,7,10,15]),(22,zK [6] [15])],
 [(3,zK [0,2,4,7,17,18] [4,7,15]),(6,zK [0,2,4,7,8,17,18,21] [4,7,15]),(13,zK [0,2,4,7,10] [4,7,10,15]),(16,zK [0,2,4,7,10,43] [4,7,10,15])],
 [(11,zK [0,2,4,7] [4,7,15])],
 [],[]⟩
def zfY (w:web) (node:Int) (uses:Int) (zb6:Int) (zfZ:Nat) (zco:Nat→List PV):St:=⟨[(0,.one (.c (.p (.fp (zaD w) 0)))),(2,.one (.c (.p (.int .i64 uses)))),(4,.one (.c (.ptr 4 0))),(7,.one (.c (.ptr 7 0))),(17,.one (.c (.p (.int .i64 ((w64 (uses+(1:Int))).toNat:Int))))),(18,.one (.c (.p (.int .i64 zb6))))],[(4,.box 3 [.p (.int .i64 node)]),(7,.box 159 [.vec 15]),(15,.vec 116 80 640 zfZ zco)],[]⟩
def zhL (K:List PA→Prop) (w:web) (node:Int) (uses:Int) (zb6:Int) (zfZ:Nat) (zco:Nat→List PV):Prop:=vc Tryd.prog zfI zbj (cdF Tryd.f106 [1,1,0,1,0]) (zas 0 (sqK Tryd.prog zfI zbj (cdF Tryd.f106 [1,1,1]) (zbo Tryd.prog Tryd.f106 K))) (zfY w node uses zb6 zfZ zco)
def zg9 (w:web) (node:Int) (uses:Int) (iv1:Int) (zb0:Int) (zbR:Int) (zf0:Nat) (zbW:Nat→List PV):St:=⟨[(0,.one (.c (.p (.fp (zaD w) 0)))),(2,.one (.c (.p (.int .i64 uses)))),(4,.one (.c (.ptr 4 0))),(7,.one (.c (.ptr 7 0))),(8,.one (.c (.p (.int .i64 iv1)))),(17,.one (.c (.p (.int .i64 ((w64 (uses+(1:Int))).toNat:Int))))),(18,.one (.c (.p (.int .i64 zb0)))),(21,.one (.c (.p (.int .i64 zbR))))],[(4,.box 3 [.p (.int .i64 node)]),(7,.box 159 [.vec 15]),(15,.vec 116 80 640 zf0 zbW)],[]⟩
def zhM (K:List PA→Prop) (X0:St→Prop) (w:web) (node:Int) (uses:Int) (iv1:Int) (zb0:Int) (zbR:Int) (zf0:Nat) (zbW:Nat→List PV):Prop:=vc Tryd.prog zfI zbj (cdF Tryd.f106 [1,1,0,1,0,0,1,1,0,0,1,1,0]) (zas 2 (zas 1 (sqK Tryd.prog zfI zbj (cdF Tryd.f106 [1,1,0,1,0,0,1,1,1]) (zbq Tryd.prog zbj 3 X0 (zas 0 (sqK Tryd.prog zfI zbj (cdF Tryd.f106 [1,1,1]) (zbo Tryd.prog Tryd.f106 K))))))) (zg9 w node uses iv1 zb0 zbR zf0 zbW)
def zEY (w:web) (node:Int) (uses:Int) (zqT:Nat) (zfp:Nat→List PV):St:=⟨[(0,.one (.c (.p (.fp (zaD w) 0)))),(2,.one (.c (.p (.int .i64 uses)))),(4,.one (.c (.ptr 4 0))),(7,.one (.c (.ptr 7 0)))],[(4,.box 3 [.p (.int .i64 node)]),(7,.box 159 [.vec 15]),(15,.vec 116 80 640 zqT zfp)],[]⟩
def zjF (K:List PA→Prop) (w:web) (node:Int) (uses:Int) (zqT:Nat) (zfp:Nat→List PV):Prop:=vc Tryd.prog zfI zbj (cdF Tryd.f106 [1,1,1]) (zbo Tryd.prog Tryd.f106 K) (zEY w node uses zqT zfp)
def zf1 (w:web) (node:Int) (uses:Int) (kv3:Int) (zf2:Nat) (zbL:Nat→List PV):St:=⟨[(0,.one (.c (.p (.fp (zaD w) 0)))),(2,.one (.c (.p (.int .i64 uses)))),(4,.one (.c (.ptr 4 0))),(7,.one (.c (.ptr 7 0))),(10,.one (.c (.ptr 10 0)))],[(4,.box 3 [.p (.int .i64 node)]),(7,.box 159 [.vec 15]),(10,.box 3 [.p (.int .i64 kv3)]),(15,.vec 116 80 640 zf2 zbL)],[]⟩
def zhN (K:List PA→Prop) (w:web) (node:Int) (uses:Int) (kv3:Int) (zf2:Nat) (zbL:Nat→List PV):Prop:=vc Tryd.prog zfI zbj (cdF Tryd.f106 [1,1,1,1,0,1,0]) (zas 4 (sqK Tryd.prog zfI zbj (cdF Tryd.f106 [1,1,1,1,1]) (zbo Tryd.prog Tryd.f106 K))) (zf1 w node uses kv3 zf2 zbL)
def zdF (w:web) (node:Int) (uses:Int) (kv4:Int) (zf3:Nat) (zbX:Nat→List PV):St:=⟨[(0,.one (.c (.p (.fp (zaD w) 0)))),(2,.one (.c (.p (.int .i64 uses)))),(4,.one (.c (.ptr 4 0))),(7,.one (.c (.ptr 7 0))),(10,.one (.c (.ptr 10 0))),(43,.one (.c (.p (.fn 110 [] [.fp [.fp (zaD w) 0] 0]))))],[(4,.box 3 [.p (.int .i64 node)]),(7,.box 159 [.vec 15]),(10,.box 3 [.p (.int .i64 kv4)]),(15,.vec 116 80 640 zf3 zbX)],[]⟩
def zhO (K:List PA→Prop) (X3:St→Prop) (w:web) (node:Int) (uses:Int) (kv4:Int) (zf3:Nat) (zbX:Nat→List PV):Prop:=vc Tryd.prog zfI zbj (cdF Tryd.f106 [1,1,1,1,0,1,0,0,1,0,0,1,0]) (zas 6 (zas 5 (sqK Tryd.prog zfI zbj (cdF Tryd.f106 [1,1,1,1,0,1,0,0,1,1]) (zbq Tryd.prog zbj 13 X3 (zas 4 (sqK Tryd.prog zfI zbj (cdF Tryd.f106 [1,1,1,1,1]) (zbo Tryd.prog Tryd.f106 K))))))) (zdF w node uses kv4 zf3 zbX)
theorem zB3 (w : web) (node : Int) (uses : Int) (K : List PA → Prop) :
  vcFun Tryd.prog zfI zbj 106 [.one (.fp (zaD w) 0),.one (.int .i64 node),.one (.int .i64 uses)] K =
  (((0≤(w64 (uses+(1:Int)))∧(w64 (uses+(1:Int)))=(w64 (uses+(1:Int)))∧(w64 (uses+(1:Int)))≤1000000)) ∧
 (zhL K w node uses (0:Int) ((w64 (uses+(1:Int))).toNat) (fun _=>(zac (fun _=>(0:Int)))))):=by kernel_rfl
def zmx (K:List PA→Prop) (X0:St→Prop) (w:web) (node:Int) (uses:Int) (zb6:Int) (zb9:(Sl Tab)):Prop :=
  (zbV (decide (zb6 < ((w64 (uses + (1:Int))).toNat : Int)))
 (zhM K X0 w node uses zb6 zb6 (0:Int) zb9.len (fun i=>zac (zb9.get i)))
 (zjF K w node uses zb9.len (fun i=>zac (zb9.get i))))
theorem zpe (K : List PA → Prop) (X0 : St → Prop) (w : web) (node : Int) (uses : Int) (zb6 : Int) (zb9 : (Sl Tab)) :
  vc Tryd.prog zfI zbj (cd (cdF Tryd.f106 [1,1,0,1,0]) [0]) (zbq Tryd.prog zbj 3 X0 (zas 0 (sqK Tryd.prog zfI zbj (cdF Tryd.f106 [1,1,1]) (zbo Tryd.prog Tryd.f106 K)))) (zfY w node uses zb6 zb9.len (fun i=>zac (zb9.get i))) =
  zmx K X0 w node uses zb6 zb9:=by kernel_rfl
theorem zvd (K : List PA → Prop) (w : web) (node : Int) (uses : Int) (zb6 : Int) (zfZ : Nat) (zco : Nat → List PV)
  (h:∀ X0:St→Prop,(∀ (zb6:Int) (zb9:(Sl Tab)),zmx K X0 w node uses zb6 zb9→X0 (zfY w node uses zb6 zb9.len (fun i=>zac (zb9.get i))))→X0 (zfY w node uses zb6 zfZ zco)) :
  zhL K w node uses zb6 zfZ zco:=by
  have e:zhL K w node uses zb6 zfZ zco=(∀ X:St→Prop,(∀ s,vc Tryd.prog zfI zbj (cd (cdF Tryd.f106 [1,1,0,1,0]) [0]) (zbq Tryd.prog zbj 3 X (zas 0 (sqK Tryd.prog zfI zbj (cdF Tryd.f106 [1,1,1]) (zbo Tryd.prog Tryd.f106 K)))) s→X s)→X (zfY w node uses zb6 zfZ zco)):=by kernel_rfl
  refine zbb e ?_
  intro X hX
  refine h X ?_
  intro zb6 zb9 hs
  refine hX _ ?_
  have e2:=zpe K X w node uses zb6 zb9
  rw [e2]
  exact hs
def zmy (K:List PA→Prop) (X0:St→Prop) (X1:St→Prop) (w:web) (node:Int) (uses:Int) (iv1:Int) (zb0:Int) (zbR:Int) (za5:(Sl Tab)):Prop :=
  (zbV (decide (zbR < (40:Int)))
 (((0≤iv1∧iv1 < (za5.len:Int))) ∧
 (((0≤zbR∧zbR < (40:Int))) ∧
 (((iv1.toNat < za5.len)) ∧
 (X1 (zg9 w node uses iv1 zb0 (w64 (zbR+(1:Int))) za5.len (zju iv1.toNat 0 (fun i=>zac (za5.get i)) (zac (ts 80 (za5.get iv1.toNat) (0+zbR.toNat * 2+0) [(1000000000000:Int),(0:Int)]))))))))
 (X0 (zfY w node uses (w64 (zb0+(1:Int))) za5.len (fun i=>zac (za5.get i)))))
theorem zpf (K : List PA → Prop) (X0 : St → Prop) (X1 : St → Prop) (w : web) (node : Int) (uses : Int) (iv1 : Int) (zb0 : Int) (zbR : Int) (za5 : (Sl Tab)) :
  vc Tryd.prog zfI zbj (cd (cdF Tryd.f106 [1,1,0,1,0,0,1,1,0,0,1,1,0]) [0]) (zbq Tryd.prog zbj 6 X1 (zas 2 (zas 1 (sqK Tryd.prog zfI zbj (cdF Tryd.f106 [1,1,0,1,0,0,1,1,1]) (zbq Tryd.prog zbj 3 X0 (zas 0 (sqK Tryd.prog zfI zbj (cdF Tryd.f106 [1,1,1]) (zbo Tryd.prog Tryd.f106 K)))))))) (zg9 w node uses iv1 zb0 zbR za5.len (fun i=>zac (za5.get i))) =
  zmy K X0 X1 w node uses iv1 zb0 zbR za5:=by kernel_rfl
theorem zve (K : List PA → Prop) (X0 : St → Prop) (w : web) (node : Int) (uses : Int) (iv1 : Int) (zb0 : Int) (zbR : Int) (zf0 : Nat) (zbW : Nat → List PV)
  (h:∀ X1:St→Prop,(∀ (iv1:Int) (zb0:Int) (zbR:Int) (za5:(Sl Tab)),zmy K X0 X1 w node uses iv1 zb0 zbR za5→X1 (zg9 w node uses iv1 zb0 zbR za5.len (fun i=>zac (za5.get i))))→X1 (zg9 w node uses iv1 zb0 zbR zf0 zbW)) :
  zhM K X0 w node uses iv1 zb0 zbR zf0 zbW:=by
  have e:zhM K X0 w node uses iv1 zb0 zbR zf0 zbW=(∀ X:St→Prop,(∀ s,vc Tryd.prog zfI zbj (cd (cdF Tryd.f106 [1,1,0,1,0,0,1,1,0,0,1,1,0]) [0]) (zbq Tryd.prog zbj 6 X (zas 2 (zas 1 (sqK Tryd.prog zfI zbj (cdF Tryd.f106 [1,1,0,1,0,0,1,1,1]) (zbq Tryd.prog zbj 3 X0 (zas 0 (sqK Tryd.prog zfI zbj (cdF Tryd.f106 [1,1,1]) (zbo Tryd.prog Tryd.f106 K)))))))) s→X s)→X (zg9 w node uses iv1 zb0 zbR zf0 zbW)):=by kernel_rfl
  refine zbb e ?_
  intro X hX
  refine h X ?_
  intro iv1 zb0 zbR za5 hs
  refine hX _ ?_
  have e2:=zpf K X0 X w node uses iv1 zb0 zbR za5
  rw [e2]
  exact hs
theorem zB4 (K : List PA → Prop) (w : web) (node : Int) (uses : Int) (zch : (Sl Tab)) :
  zjF K w node uses zch.len (fun i=>zac (zch.get i)) =
  (((0≤(0:Int)∧(0:Int) < (zch.len:Int))) ∧
 (((0≤node∧node < (40:Int))) ∧
 (((0 < zch.len)) ∧
 (zhN K w node uses (1:Int) zch.len (zju 0 0 (fun i=>zac (zch.get i)) (zac (ts 80 (zch.get 0) (0+node.toNat * 2+0) [(0:Int),(0:Int)]))))))):=by kernel_rfl
def zmz (K:List PA→Prop) (X3:St→Prop) (w:web) (node:Int) (uses:Int) (kv3:Int) (zbw:(Sl Tab)):Prop :=
  (zbV (decide (kv3 ≤ uses))
 ((IsE enc_40 4 4 (fun i=>enc_40 (w.Net.Ties.get i))∧((false,1,false,[none]):MQ)=(false,1,false,[none])) ∧
 (zhO K X3 w node uses kv3 zbw.len (fun i=>zac (zbw.get i))))
 (K [.one (.sl zbw.len 80 (fun i=>zac (zbw.get i)))]))
theorem zpg (K : List PA → Prop) (X3 : St → Prop) (w : web) (node : Int) (uses : Int) (kv3 : Int) (zbw : (Sl Tab)) :
  vc Tryd.prog zfI zbj (cd (cdF Tryd.f106 [1,1,1,1,0,1,0]) [0]) (zbq Tryd.prog zbj 13 X3 (zas 4 (sqK Tryd.prog zfI zbj (cdF Tryd.f106 [1,1,1,1,1]) (zbo Tryd.prog Tryd.f106 K)))) (zf1 w node uses kv3 zbw.len (fun i=>zac (zbw.get i))) =
  zmz K X3 w node uses kv3 zbw:=by kernel_rfl
theorem zvf (K : List PA → Prop) (w : web) (node : Int) (uses : Int) (kv3 : Int) (zf2 : Nat) (zbL : Nat → List PV)
  (h:∀ X3:St→Prop,(∀ (kv3:Int) (zbw:(Sl Tab)),zmz K X3 w node uses kv3 zbw→X3 (zf1 w node uses kv3 zbw.len (fun i=>zac (zbw.get i))))→X3 (zf1 w node uses kv3 zf2 zbL)) :
  zhN K w node uses kv3 zf2 zbL:=by
  have e:zhN K w node uses kv3 zf2 zbL=(∀ X:St→Prop,(∀ s,vc Tryd.prog zfI zbj (cd (cdF Tryd.f106 [1,1,1,1,0,1,0]) [0]) (zbq Tryd.prog zbj 13 X (zas 4 (sqK Tryd.prog zfI zbj (cdF Tryd.f106 [1,1,1,1,1]) (zbo Tryd.prog Tryd.f106 K)))) s→X s)→X (zf1 w node uses kv3 zf2 zbL)):=by kernel_rfl
  refine zbb e ?_
  intro X hX
  refine h X ?_
  intro kv3 zbw hs
  refine hX _ ?_
  have e2:=zpg K X w node uses kv3 zbw
  rw [e2]
  exact hs
def zmA (K:List PA→Prop) (X3:St→Prop) (w:web) (node:Int) (uses:Int) (kv4:Int) (zau:(Sl Tab)):Prop :=
  (X3 (zf1 w node uses (w64 (kv4+(1:Int))) zau.len (fun i=>zac (zau.get i))))
def zmB (K:List PA→Prop) (X3:St→Prop) (X4:List (List PA)→St→Prop) (y4:step) (rest4:List (List PA)) (w:web) (node:Int) (uses:Int) (kv4:Int) (zau:(Sl Tab)):Prop :=
  (((0≤(w64 (kv4 - (1:Int)))∧(w64 (kv4 - (1:Int))) < (zau.len:Int))) ∧
 (((0≤y4.to∧y4.to < (40:Int))) ∧
 ((((w64 (kv4 - (1:Int))).toNat < zau.len)) ∧
 (zbV (decide (y4.from_ ≥ node))
 (zbV (decide (y4.to ≥ node))
 (zbV (!(nvr (tg 80 (zau.get ((w64 (kv4 - (1:Int))).toNat)) (0 + y4.to.toNat * 2 + 0)) (tg 80 (zau.get ((w64 (kv4 - (1:Int))).toNat)) (0 + y4.to.toNat * 2 + 0 + 1))))
 (((0≤kv4∧kv4 < (zau.len:Int))) ∧
 (((0≤y4.from_∧y4.from_ < (40:Int))) ∧
 (((kv4.toNat < zau.len)) ∧
 ((IsE zcC 2 2 (fun _=>(zcC (⟨(w64 ((tg 80 (zau.get ((w64 (kv4 - (1:Int))).toNat)) (0+y4.to.toNat * 2+0))+y4.length)),(0:Int)⟩:far)))∧(zxl (⟨(tL (zau.get kv4.toNat) y4.from_),(tU (zau.get kv4.toNat) y4.from_)⟩:far) (⟨1,fun _=>(⟨(w64 ((tg 80 (zau.get ((w64 (kv4 - (1:Int))).toNat)) (0+y4.to.toNat * 2+0))+y4.length)),(0:Int)⟩:far)⟩:(Sl far))=true)) ∧
 (((0≤kv4∧kv4 < (zau.len:Int))) ∧
 (((0≤y4.from_∧y4.from_ < (40:Int))) ∧
 (((kv4.toNat < zau.len)) ∧
 (X4 rest4 (zdF w node uses kv4 zau.len (zju kv4.toNat 0 (fun i=>zac (zau.get i)) (zac (ts 80 (zau.get kv4.toNat) (0+y4.from_.toNat * 2+0) [(zcD (⟨(tL (zau.get kv4.toNat) y4.from_),(tU (zau.get kv4.toNat) y4.from_)⟩:far) (⟨1,fun _=>(⟨(w64 ((tg 80 (zau.get ((w64 (kv4 - (1:Int))).toNat)) (0+y4.to.toNat * 2+0))+y4.length)),(0:Int)⟩:far)⟩:(Sl far))).length,(zcD (⟨(tL (zau.get kv4.toNat) y4.from_),(tU (zau.get kv4.toNat) y4.from_)⟩:far) (⟨1,fun _=>(⟨(w64 ((tg 80 (zau.get ((w64 (kv4 - (1:Int))).toNat)) (0+y4.to.toNat * 2+0))+y4.length)),(0:Int)⟩:far)⟩:(Sl far))).uses]))))))))))))
 (X4 rest4 (zdF w node uses kv4 zau.len (fun i=>zac (zau.get i)))))
 (X4 rest4 (zdF w node uses kv4 zau.len (fun i=>zac (zau.get i)))))
 (X4 rest4 (zdF w node uses kv4 zau.len (fun i=>zac (zau.get i))))))))
theorem zph (K:List PA→Prop) (X3:St→Prop) (w:web) (node:Int) (uses:Int) (kv4:Int) (zau:(Sl Tab)):(zas 6 (zas 5 (sqK Tryd.prog zfI zbj (cdF Tryd.f106 [1,1,1,1,0,1,0,0,1,1]) (zbq Tryd.prog zbj 13 X3 (zas 4 (sqK Tryd.prog zfI zbj (cdF Tryd.f106 [1,1,1,1,1]) (zbo Tryd.prog Tryd.f106 K))))))) .normal (zdF w node uses kv4 zau.len (fun i=>zac (zau.get i)))=zmA K X3 w node uses kv4 zau:=by kernel_rfl
theorem zpi (K : List PA → Prop) (X3 : St → Prop) (X4 : List (List PA) → St → Prop) (y4 : step) (rest4 : List (List PA)) (w : web) (node : Int) (uses : Int) (kv4 : Int) (zau : (Sl Tab)) :
  zvs Tryd.prog zfI zbj 16 [44] (cd (cdF Tryd.f106 [1,1,1,1,0,1,0,0,1,0,0,1,0]) [0]) (cd (cdF Tryd.f106 [1,1,1,1,0,1,0,0,1,0,0,1,0]) [1]) X4 (zas 6 (zas 5 (sqK Tryd.prog zfI zbj (cdF Tryd.f106 [1,1,1,1,0,1,0,0,1,1]) (zbq Tryd.prog zbj 13 X3 (zas 4 (sqK Tryd.prog zfI zbj (cdF Tryd.f106 [1,1,1,1,1]) (zbo Tryd.prog Tryd.f106 K))))))) [.agg (zai y4)] rest4 (zdF w node uses kv4 zau.len (fun i=>zac (zau.get i)))=zmB K X3 X4 y4 rest4 w node uses kv4 zau:=by kernel_rfl
theorem zvg (K : List PA → Prop) (X3 : St → Prop) (w : web) (node : Int) (uses : Int) (kv4 : Int) (zf3 : Nat) (zbX : Nat → List PV)
  (hsafe:IsE enc_40 4 4 (fun i=>enc_40 (w.Net.Ties.get i))∧((false,1,false,[none]):MQ)=(false,1,false,[none])∧(zlT w=true)) (h:∀ X4:List (List PA)→St→Prop,(∀ (kv4:Int) (zau:(Sl Tab)),zmA K X3 w node uses kv4 zau→X4 [] (zdF w node uses kv4 zau.len (fun i=>zac (zau.get i))))→(∀ (y:step) (rest:List (List PA)) (kv4:Int) (zau:(Sl Tab)),zmB K X3 X4 y rest w node uses kv4 zau→X4 ([.agg (zai y)] :: rest) (zdF w node uses kv4 zau.len (fun i=>zac (zau.get i))))→X4 ((zh5 w).map fun y=>[.agg (zai y)]) (zdF w node uses kv4 zf3 zbX)) :
  zhO K X3 w node uses kv4 zf3 zbX:=by
  have e:zhO K X3 w node uses kv4 zf3 zbX=((IsE enc_40 4 4 (fun i=>enc_40 (w.Net.Ties.get i))∧((false,1,false,[none]):MQ)=(false,1,false,[none])∧(zlT w=true))∧∀ X:List (List PA)→St→Prop,(∀ s,(zas 6 (zas 5 (sqK Tryd.prog zfI zbj (cdF Tryd.f106 [1,1,1,1,0,1,0,0,1,1]) (zbq Tryd.prog zbj 13 X3 (zas 4 (sqK Tryd.prog zfI zbj (cdF Tryd.f106 [1,1,1,1,1]) (zbo Tryd.prog Tryd.f106 K))))))) .normal s→X [] s)→(∀ y rest s,zvs Tryd.prog zfI zbj 16 [44] (cd (cdF Tryd.f106 [1,1,1,1,0,1,0,0,1,0,0,1,0]) [0]) (cd (cdF Tryd.f106 [1,1,1,1,0,1,0,0,1,0,0,1,0]) [1]) X (zas 6 (zas 5 (sqK Tryd.prog zfI zbj (cdF Tryd.f106 [1,1,1,1,0,1,0,0,1,1]) (zbq Tryd.prog zbj 13 X3 (zas 4 (sqK Tryd.prog zfI zbj (cdF Tryd.f106 [1,1,1,1,1]) (zbo Tryd.prog Tryd.f106 K))))))) y rest s→X (y :: rest) s)→X ((zh5 w).map fun y=>[.agg (zai y)]) (zdF w node uses kv4 zf3 zbX)):=by kernel_rfl
  refine zbb e ⟨hsafe,?_⟩
  intro X h0 h1
  refine h X (fun kv4 zau hs=>h0 _ ?_) (fun y rest kv4 zau hs=>h1 _ rest _ ?_)
  · rw [zph K X3 w node uses kv4 zau];exact hs
  · have e2 := zpi K X3 X y rest w node uses kv4 zau
    rw [e2];exact hs
abbrev zkP (r:(Sl Tab)):List PA:=[.one (.sl r.len 80 (fun i=>zac (r.get i)))]
attribute [irreducible] zhL zhM zjF zhN zhO
def zny (S3:Int→(Sl Tab)→(Sl Tab)) (w:web) (node:Int) (uses:Int) (kv4:Int) (zau:(Sl Tab)):(Sl Tab) :=
  (S3 (w64 (kv4+(1:Int))) zau)
def znz (P3:Int→(Sl Tab)→Bool) (w:web) (node:Int) (uses:Int) (kv4:Int) (zau:(Sl Tab)):Bool :=
  (P3 (w64 (kv4+(1:Int))) zau)
def znA (S3:Int→(Sl Tab)→(Sl Tab)) (w:web) (node:Int) (uses:Int) (y4:step) (S4:Int→(Sl Tab)→(Sl Tab)) (kv4:Int) (zau:(Sl Tab)):(Sl Tab) :=
  (cond (decide (y4.from_ ≥ node))
 (cond (decide (y4.to ≥ node))
 (cond (!(nvr (tg 80 (zau.get ((w64 (kv4 - (1:Int))).toNat)) (0 + y4.to.toNat * 2 + 0)) (tg 80 (zau.get ((w64 (kv4 - (1:Int))).toNat)) (0 + y4.to.toNat * 2 + 0 + 1))))
 (S4 kv4 (⟨zau.len,(setT kv4.toNat (ts 80 (zau.get kv4.toNat) (0+y4.from_.toNat * 2+0) [(zcD (⟨(tL (zau.get kv4.toNat) y4.from_),(tU (zau.get kv4.toNat) y4.from_)⟩:far) (⟨1,fun _=>(⟨(w64 ((tg 80 (zau.get ((w64 (kv4 - (1:Int))).toNat)) (0+y4.to.toNat * 2+0))+y4.length)),(0:Int)⟩:far)⟩:(Sl far))).length,(zcD (⟨(tL (zau.get kv4.toNat) y4.from_),(tU (zau.get kv4.toNat) y4.from_)⟩:far) (⟨1,fun _=>(⟨(w64 ((tg 80 (zau.get ((w64 (kv4 - (1:Int))).toNat)) (0+y4.to.toNat * 2+0))+y4.length)),(0:Int)⟩:far)⟩:(Sl far))).uses]) zau.get)⟩:Sl Tab))
 (S4 kv4 zau))
 (S4 kv4 zau))
 (S4 kv4 zau))
def znB (P3:Int→(Sl Tab)→Bool) (w:web) (node:Int) (uses:Int) (y4:step) (P4:Int→(Sl Tab)→Bool) (kv4:Int) (zau:(Sl Tab)):Bool :=
  (decide ((0≤(w64 (kv4 - (1:Int)))∧(w64 (kv4 - (1:Int))) < (zau.len:Int))) &&
 (decide ((0≤y4.to∧y4.to < (40:Int))) &&
 (decide (((w64 (kv4 - (1:Int))).toNat < zau.len)) &&
 (cond (decide (y4.from_ ≥ node))
 (cond (decide (y4.to ≥ node))
 (cond (!(nvr (tg 80 (zau.get ((w64 (kv4 - (1:Int))).toNat)) (0 + y4.to.toNat * 2 + 0)) (tg 80 (zau.get ((w64 (kv4 - (1:Int))).toNat)) (0 + y4.to.toNat * 2 + 0 + 1))))
 (decide ((0≤kv4∧kv4 < (zau.len:Int))) &&
 (decide ((0≤y4.from_∧y4.from_ < (40:Int))) &&
 (decide ((kv4.toNat < zau.len)) &&
 (decide ((zxl (⟨(tL (zau.get kv4.toNat) y4.from_),(tU (zau.get kv4.toNat) y4.from_)⟩:far) (⟨1,fun _=>(⟨(w64 ((tg 80 (zau.get ((w64 (kv4 - (1:Int))).toNat)) (0+y4.to.toNat * 2+0))+y4.length)),(0:Int)⟩:far)⟩:(Sl far))=true)) &&
 (decide ((0≤kv4∧kv4 < (zau.len:Int))) &&
 (decide ((0≤y4.from_∧y4.from_ < (40:Int))) &&
 (decide ((kv4.toNat < zau.len)) &&
 (P4 kv4 (⟨zau.len,(setT kv4.toNat (ts 80 (zau.get kv4.toNat) (0+y4.from_.toNat * 2+0) [(zcD (⟨(tL (zau.get kv4.toNat) y4.from_),(tU (zau.get kv4.toNat) y4.from_)⟩:far) (⟨1,fun _=>(⟨(w64 ((tg 80 (zau.get ((w64 (kv4 - (1:Int))).toNat)) (0+y4.to.toNat * 2+0))+y4.length)),(0:Int)⟩:far)⟩:(Sl far))).length,(zcD (⟨(tL (zau.get kv4.toNat) y4.from_),(tU (zau.get kv4.toNat) y4.from_)⟩:far) (⟨1,fun _=>(⟨(w64 ((tg 80 (zau.get ((w64 (kv4 - (1:Int))).toNat)) (0+y4.to.toNat * 2+0))+y4.length)),(0:Int)⟩:far)⟩:(Sl far))).uses]) zau.get)⟩:Sl Tab)))))))))
 (P4 kv4 zau))
 (P4 kv4 zau))
 (P4 kv4 zau)))))
def zhP (S3 : Int → (Sl Tab) → (Sl Tab)) (w : web) (node : Int) (uses : Int) : List step → Int → (Sl Tab) → (Sl Tab)
  | []=>zny S3 w node uses
  | y :: r=>znA S3 w node uses y (zhP S3 w node uses r)
def zhQ (P3 : Int → (Sl Tab) → Bool) (w : web) (node : Int) (uses : Int) : List step → Int → (Sl Tab) → Bool
  | []=>znz P3 w node uses
  | y :: r=>znB P3 w node uses y (zhQ P3 w node uses r)
def ztE (S3:Int→(Sl Tab)→(Sl Tab)) (w:web) (node:Int) (uses:Int) (kv4:Int) (zau:(Sl Tab)):(Sl Tab):=zhP S3 w node uses (zh5 w) kv4 zau
def znC (P3:Int→(Sl Tab)→Bool) (w:web) (node:Int) (uses:Int) (kv4:Int) (zau:(Sl Tab)):Bool:=decide ((zlT w=true)) && zhQ P3 w node uses (zh5 w) kv4 zau
theorem zB5 (K : List PA → Prop) (w : web) (node : Int) (uses : Int)
  (X3:St→Prop) (P3:Int→(Sl Tab)→Bool) (S3:Int→(Sl Tab)→(Sl Tab))
  (hX3:∀ (kv3:Int) (zbw:(Sl Tab)) (zbL:Nat→List PV) (zeQ:zbL=fun i=>zac (zbw.get i)),P3 kv3 zbw=true→K (zkP (S3 kv3 zbw))→X3 (zf1 w node uses kv3 zbw.len zbL)) (kv4:Int) (zau:(Sl Tab)) (zbX:Nat→List PV) (zeR:zbX=fun i=>zac (zau.get i)) (hs:znC P3 w node uses kv4 zau=true) (hk:K (zkP (ztE S3 w node uses kv4 zau))):zhO K X3 w node uses kv4 zau.len zbX:=by
  unfold znC at hs
  rw [Bool.and_eq_true] at hs
  obtain ⟨hsf,hs⟩:=hs
  have hc:=of_decide_eq_true hsf
  refine zvg K X3 w node uses kv4 zau.len zbX ⟨isE,rfl,hc⟩ ?_
  intro X4 hexit hstep
  have key:∀ (l:List step) (kv4:Int) (zau:(Sl Tab)) (zbX:Nat→List PV) (zeR:zbX=fun i=>zac (zau.get i)),zhQ P3 w node uses l kv4 zau=true→K (zkP (zhP S3 w node uses l kv4 zau))→X4 (l.map fun y=>[.agg (zai y)]) (zdF w node uses kv4 zau.len zbX):=by
    intro l
    induction l with
    | nil =>
      intro kv4 zau zbX zeR hs hk
      subst zeR
      refine hexit kv4 zau ?_
      have hs:znz P3 w node uses kv4 zau=true:=hs
      have hk:K (zkP (zny S3 w node uses kv4 zau)):=hk
      unfold znz at hs
      unfold zny at hk
      exact (hX3 (w64 (kv4+(1:Int))) zau (fun i=>zac (zau.get i)) rfl hs hk)
    | cons y4 l ih =>
      intro kv4 zau zbX zeR hs hk
      subst zeR
      refine hstep y4 _ kv4 zau ?_
      have hs:znB P3 w node uses y4 (zhQ P3 w node uses l) kv4 zau=true:=hs
      have hk:K (zkP (znA S3 w node uses y4 (zhP S3 w node uses l) kv4 zau)):=hk
      unfold znB at hs
      unfold znA at hk
      generalize zhP S3 w node uses l=S4 at hk ih
      generalize zhQ P3 w node uses l=P4 at hs ih
      have hX4:=ih
      exact (zaU hs fun hc hs => ⟨hc, (zaU hs fun hc hs => ⟨hc, (zaU hs fun hc hs => ⟨hc, (za1 (K := fun r => K (zkP r))
 (fun hs hk => (za1 (K := fun r => K (zkP r))
 (fun hs hk => (za1 (K := fun r => K (zkP r))
 (fun hs hk=>(zaU hs fun hc hs=>⟨hc,(zaU hs fun hc hs=>⟨hc,(zaU hs fun hc hs=>⟨hc,(zaU hs fun hc hs=>⟨⟨zwZ,hc⟩,(zaU hs fun hc hs=>⟨hc,(zaU hs fun hc hs=>⟨hc,(zaU hs fun hc hs=>⟨hc,(hX4 kv4 (⟨zau.len,(setT kv4.toNat (ts 80 (zau.get kv4.toNat) (0+y4.from_.toNat * 2+0) [(zcD (⟨(tL (zau.get kv4.toNat) y4.from_),(tU (zau.get kv4.toNat) y4.from_)⟩:far) (⟨1,fun _=>(⟨(w64 ((tg 80 (zau.get ((w64 (kv4 - (1:Int))).toNat)) (0+y4.to.toNat * 2+0))+y4.length)),(0:Int)⟩:far)⟩:(Sl far))).length,(zcD (⟨(tL (zau.get kv4.toNat) y4.from_),(tU (zau.get kv4.toNat) y4.from_)⟩:far) (⟨1,fun _=>(⟨(w64 ((tg 80 (zau.get ((w64 (kv4 - (1:Int))).toNat)) (0+y4.to.toNat * 2+0))+y4.length)),(0:Int)⟩:far)⟩:(Sl far))).uses]) zau.get)⟩:Sl Tab) (zju kv4.toNat 0 (fun i=>zac (zau.get i)) (zac (ts 80 (zau.get kv4.toNat) (0+y4.from_.toNat * 2+0) [(zcD (⟨(tL (zau.get kv4.toNat) y4.from_),(tU (zau.get kv4.toNat) y4.from_)⟩:far) (⟨1,fun _=>(⟨(w64 ((tg 80 (zau.get ((w64 (kv4 - (1:Int))).toNat)) (0+y4.to.toNat * 2+0))+y4.length)),(0:Int)⟩:far)⟩:(Sl far))).length,(zcD (⟨(tL (zau.get kv4.toNat) y4.from_),(tU (zau.get kv4.toNat) y4.from_)⟩:far) (⟨1,fun _=>(⟨(w64 ((tg 80 (zau.get ((w64 (kv4 - (1:Int))).toNat)) (0+y4.to.toNat * 2+0))+y4.length)),(0:Int)⟩:far)⟩:(Sl far))).uses]))) (zfz (enc:=zac) (i:=kv4.toNat) (k:=0) (f:=zau.get) (new:=(zac (ts 80 (zau.get kv4.toNat) (0+y4.from_.toNat * 2+0) [(zcD (⟨(tL (zau.get kv4.toNat) y4.from_),(tU (zau.get kv4.toNat) y4.from_)⟩:far) (⟨1,fun _=>(⟨(w64 ((tg 80 (zau.get ((w64 (kv4 - (1:Int))).toNat)) (0+y4.to.toNat * 2+0))+y4.length)),(0:Int)⟩:far)⟩:(Sl far))).length,(zcD (⟨(tL (zau.get kv4.toNat) y4.from_),(tU (zau.get kv4.toNat) y4.from_)⟩:far) (⟨1,fun _=>(⟨(w64 ((tg 80 (zau.get ((w64 (kv4 - (1:Int))).toNat)) (0+y4.to.toNat * 2+0))+y4.length)),(0:Int)⟩:far)⟩:(Sl far))).uses]))) (v:=(ts 80 (zau.get kv4.toNat) (0+y4.from_.toNat * 2+0) [(zcD (⟨(tL (zau.get kv4.toNat) y4.from_),(tU (zau.get kv4.toNat) y4.from_)⟩:far) (⟨1,fun _=>(⟨(w64 ((tg 80 (zau.get ((w64 (kv4 - (1:Int))).toNat)) (0+y4.to.toNat * 2+0))+y4.length)),(0:Int)⟩:far)⟩:(Sl far))).length,(zcD (⟨(tL (zau.get kv4.toNat) y4.from_),(tU (zau.get kv4.toNat) y4.from_)⟩:far) (⟨1,fun _=>(⟨(w64 ((tg 80 (zau.get ((w64 (kv4 - (1:Int))).toNat)) (0+y4.to.toNat * 2+0))+y4.length)),(0:Int)⟩:far)⟩:(Sl far))).uses])) rfl znq) hs hk)⟩)⟩)⟩)⟩)⟩)⟩)⟩))
 (fun hs hk=>(hX4 kv4 zau (fun i=>zac (zau.get i)) rfl hs hk)) hs hk))
 (fun hs hk=>(hX4 kv4 zau (fun i=>zac (zau.get i)) rfl hs hk)) hs hk))
 (fun hs hk=>(hX4 kv4 zau (fun i=>zac (zau.get i)) rfl hs hk)) hs hk)⟩)⟩)⟩)
  exact key _ kv4 zau zbX zeR hs hk
def znD (w:web) (node:Int) (uses:Int) (S3:Int→(Sl Tab)→(Sl Tab)) (kv3:Int) (zbw:(Sl Tab)):(Sl Tab) :=
  (cond (decide (kv3 ≤ uses))
 (ztE S3 w node uses kv3 zbw)
 zbw)
def znE (w:web) (node:Int) (uses:Int) (P3:Int→(Sl Tab)→Bool) (kv3:Int) (zbw:(Sl Tab)):Bool :=
  (cond (decide (kv3 ≤ uses))
 (znC P3 w node uses kv3 zbw)
 true)
def zhR (w : web) (node : Int) (uses : Int) : Nat → Int → (Sl Tab) → (Sl Tab)
  | 0=>fun _ _=>default
  | k+1=>znD w node uses (zhR w node uses k)
def zhS (w : web) (node : Int) (uses : Int) : Nat → Int → (Sl Tab) → Bool
  | 0=>fun _ _=>false
  | k+1=>znE w node uses (zhS w node uses k)
def ztF (w:web) (node:Int) (uses:Int) (kv3:Int) (zbw:(Sl Tab)):(Sl Tab):=zhR w node uses Fuel kv3 zbw
def ztG (w:web) (node:Int) (uses:Int) (kv3:Int) (zbw:(Sl Tab)):Bool:=zhS w node uses Fuel kv3 zbw
theorem zB6 (K:List PA→Prop) (w:web) (node:Int) (uses:Int) (kv3:Int) (zbw:(Sl Tab)) (zbL:Nat→List PV) (zeQ:zbL=fun i=>zac (zbw.get i)) (hs:ztG w node uses kv3 zbw=true) (hk:K (zkP (ztF w node uses kv3 zbw))):zhN K w node uses kv3 zbw.len zbL:=by
  refine zvf K w node uses kv3 zbw.len zbL ?_
  intro X3 hstep
  have key:∀ (k:Nat) (kv3:Int) (zbw:(Sl Tab)) (zbL:Nat→List PV) (zeQ:zbL=fun i=>zac (zbw.get i)),zhS w node uses k kv3 zbw=true→K (zkP (zhR w node uses k kv3 zbw))→X3 (zf1 w node uses kv3 zbw.len zbL):=by
    intro k
    induction k with
    | zero=>intro kv3 zbw zbL zeQ hs;exact absurd hs Bool.false_ne_true
    | succ k ih =>
      intro kv3 zbw zbL zeQ hs hk
      subst zeQ
      refine hstep kv3 zbw ?_
      have hs:znE w node uses (zhS w node uses k) kv3 zbw=true:=hs
      have hk:K (zkP (znD w node uses (zhR w node uses k) kv3 zbw)):=hk
      unfold znE at hs
      unfold znD at hk
      generalize zhR w node uses k=S3 at hk ih
      generalize zhS w node uses k=P3 at hs ih
      have hX3:=ih
      exact (za1 (K := fun r => K (zkP r))
 (fun hs hk=>⟨⟨isE,rfl⟩,(zB5 K w node uses X3 P3 S3 hX3 kv3 zbw (fun i=>zac (zbw.get i)) rfl hs hk)⟩)
 (fun hs hk=>hk) hs hk)
  exact key _ kv3 zbw zbL zeQ hs hk
def znF (w:web) (node:Int) (uses:Int) (zch:(Sl Tab)):(Sl Tab) :=
  (ztF w node uses (1:Int) (⟨zch.len,(setT 0 (ts 80 (zch.get 0) (0+node.toNat * 2+0) [(0:Int),(0:Int)]) zch.get)⟩:Sl Tab))
def znG (w:web) (node:Int) (uses:Int) (zch:(Sl Tab)):Bool :=
  (decide ((0≤(0:Int)∧(0:Int) < (zch.len:Int))) &&
 (decide ((0≤node∧node < (40:Int))) &&
 (decide ((0 < zch.len)) &&
 (ztG w node uses (1:Int) (⟨zch.len,(setT 0 (ts 80 (zch.get 0) (0+node.toNat * 2+0) [(0:Int),(0:Int)]) zch.get)⟩:Sl Tab)))))
theorem zB7 (K:List PA→Prop) (w:web) (node:Int) (uses:Int) (zch:(Sl Tab)) (zfp:Nat→List PV) (zqU:zfp=fun i=>zac (zch.get i)) (hs:znG w node uses zch=true) (hk:K (zkP (znF w node uses zch))):zjF K w node uses zch.len zfp:=by
  subst zqU
  refine zbb (zB4 K w node uses zch) ?_
  unfold znG at hs
  unfold znF at hk
  exact (zaU hs fun hc hs=>⟨hc,(zaU hs fun hc hs=>⟨hc,(zaU hs fun hc hs=>⟨hc,(zB6 K w node uses (1:Int) (⟨zch.len,(setT 0 (ts 80 (zch.get 0) (0+node.toNat * 2+0) [(0:Int),(0:Int)]) zch.get)⟩:Sl Tab) (zju 0 0 (fun i=>zac (zch.get i)) (zac (ts 80 (zch.get 0) (0+node.toNat * 2+0) [(0:Int),(0:Int)]))) (zfz (enc:=zac) (i:=0) (k:=0) (f:=zch.get) (new:=(zac (ts 80 (zch.get 0) (0+node.toNat * 2+0) [(0:Int),(0:Int)]))) (v:=(ts 80 (zch.get 0) (0+node.toNat * 2+0) [(0:Int),(0:Int)])) rfl znq) hs hk)⟩)⟩)⟩)
def znH (S0:Int→(Sl Tab)→(Sl Tab)) (w:web) (node:Int) (uses:Int) (S1:Int→Int→Int→(Sl Tab)→(Sl Tab)) (iv1:Int) (zb0:Int) (zbR:Int) (za5:(Sl Tab)):(Sl Tab) :=
  (cond (decide (zbR < (40:Int)))
 (S1 iv1 zb0 (w64 (zbR+(1:Int))) (⟨za5.len,(setT iv1.toNat (ts 80 (za5.get iv1.toNat) (0+zbR.toNat * 2+0) [(1000000000000:Int),(0:Int)]) za5.get)⟩:Sl Tab))
 (S0 (w64 (zb0+(1:Int))) za5))
def znI (P0:Int→(Sl Tab)→Bool) (w:web) (node:Int) (uses:Int) (P1:Int→Int→Int→(Sl Tab)→Bool) (iv1:Int) (zb0:Int) (zbR:Int) (za5:(Sl Tab)):Bool :=
  (cond (decide (zbR < (40:Int)))
 (decide ((0≤iv1∧iv1 < (za5.len:Int))) &&
 (decide ((0≤zbR∧zbR < (40:Int))) &&
 (decide ((iv1.toNat < za5.len)) &&
 (P1 iv1 zb0 (w64 (zbR+(1:Int))) (⟨za5.len,(setT iv1.toNat (ts 80 (za5.get iv1.toNat) (0+zbR.toNat * 2+0) [(1000000000000:Int),(0:Int)]) za5.get)⟩:Sl Tab)))))
 (P0 (w64 (zb0+(1:Int))) za5))
def zhT (S0 : Int → (Sl Tab) → (Sl Tab)) (w : web) (node : Int) (uses : Int) : Nat → Int → Int → Int → (Sl Tab) → (Sl Tab)
  | 0=>fun _ _ _ _=>default
  | k+1=>znH S0 w node uses (zhT S0 w node uses k)
def zhU (P0 : Int → (Sl Tab) → Bool) (w : web) (node : Int) (uses : Int) : Nat → Int → Int → Int → (Sl Tab) → Bool
  | 0=>fun _ _ _ _=>false
  | k+1=>znI P0 w node uses (zhU P0 w node uses k)
def ztH (S0:Int→(Sl Tab)→(Sl Tab)) (w:web) (node:Int) (uses:Int) (iv1:Int) (zb0:Int) (zbR:Int) (za5:(Sl Tab)):(Sl Tab):=zhT S0 w node uses Fuel iv1 zb0 zbR za5
def ztI (P0:Int→(Sl Tab)→Bool) (w:web) (node:Int) (uses:Int) (iv1:Int) (zb0:Int) (zbR:Int) (za5:(Sl Tab)):Bool:=zhU P0 w node uses Fuel iv1 zb0 zbR za5
theorem zB8 (K : List PA → Prop) (w : web) (node : Int) (uses : Int)
  (X0:St→Prop) (P0:Int→(Sl Tab)→Bool) (S0:Int→(Sl Tab)→(Sl Tab))
  (hX0:∀ (zb6:Int) (zb9:(Sl Tab)) (zco:Nat→List PV) (zir:zco=fun i=>zac (zb9.get i)),P0 zb6 zb9=true→K (zkP (S0 zb6 zb9))→X0 (zfY w node uses zb6 zb9.len zco)) (iv1:Int) (zb0:Int) (zbR:Int) (za5:(Sl Tab)) (zbW:Nat→List PV) (zfq:zbW=fun i=>zac (za5.get i)) (hs:ztI P0 w node uses iv1 zb0 zbR za5=true) (hk:K (zkP (ztH S0 w node uses iv1 zb0 zbR za5))):zhM K X0 w node uses iv1 zb0 zbR za5.len zbW:=by
  refine zve K X0 w node uses iv1 zb0 zbR za5.len zbW ?_
  intro X1 hstep
  have key:∀ (k:Nat) (iv1:Int) (zb0:Int) (zbR:Int) (za5:(Sl Tab)) (zbW:Nat→List PV) (zfq:zbW=fun i=>zac (za5.get i)),zhU P0 w node uses k iv1 zb0 zbR za5=true→K (zkP (zhT S0 w node uses k iv1 zb0 zbR za5))→X1 (zg9 w node uses iv1 zb0 zbR za5.len zbW):=by
    intro k
    induction k with
    | zero=>intro iv1 zb0 zbR za5 zbW zfq hs;exact absurd hs Bool.false_ne_true
    | succ k ih =>
      intro iv1 zb0 zbR za5 zbW zfq hs hk
      subst zfq
      refine hstep iv1 zb0 zbR za5 ?_
      have hs:znI P0 w node uses (zhU P0 w node uses k) iv1 zb0 zbR za5=true:=hs
      have hk:K (zkP (znH S0 w node uses (zhT S0 w node uses k) iv1 zb0 zbR za5)):=hk
      unfold znI at hs
      unfold znH at hk
      generalize zhT S0 w node uses k=S1 at hk ih
      generalize zhU P0 w node uses k=P1 at hs ih
      have hX1:=ih
      exact (za1 (K := fun r => K (zkP r))
 (fun hs hk=>(zaU hs fun hc hs=>⟨hc,(zaU hs fun hc hs=>⟨hc,(zaU hs fun hc hs=>⟨hc,(hX1 iv1 zb0 (w64 (zbR+(1:Int))) (⟨za5.len,(setT iv1.toNat (ts 80 (za5.get iv1.toNat) (0+zbR.toNat * 2+0) [(1000000000000:Int),(0:Int)]) za5.get)⟩:Sl Tab) (zju iv1.toNat 0 (fun i=>zac (za5.get i)) (zac (ts 80 (za5.get iv1.toNat) (0+zbR.toNat * 2+0) [(1000000000000:Int),(0:Int)]))) (zfz (enc:=zac) (i:=iv1.toNat) (k:=0) (f:=za5.get) (new:=(zac (ts 80 (za5.get iv1.toNat) (0+zbR.toNat * 2+0) [(1000000000000:Int),(0:Int)]))) (v:=(ts 80 (za5.get iv1.toNat) (0+zbR.toNat * 2+0) [(1000000000000:Int),(0:Int)])) rfl znq) hs hk)⟩)⟩)⟩))
 (fun hs hk=>(hX0 (w64 (zb0+(1:Int))) za5 (fun i=>zac (za5.get i)) rfl hs hk)) hs hk)
  exact key _ iv1 zb0 zbR za5 zbW zfq hs hk
def znJ (w:web) (node:Int) (uses:Int) (S0:Int→(Sl Tab)→(Sl Tab)) (zb6:Int) (zb9:(Sl Tab)):(Sl Tab) :=
  (cond (decide (zb6 < ((w64 (uses + (1:Int))).toNat : Int)))
 (ztH S0 w node uses zb6 zb6 (0:Int) zb9)
 (znF w node uses zb9))
def znK (w:web) (node:Int) (uses:Int) (P0:Int→(Sl Tab)→Bool) (zb6:Int) (zb9:(Sl Tab)):Bool :=
  (cond (decide (zb6 < ((w64 (uses + (1:Int))).toNat : Int)))
 (ztI P0 w node uses zb6 zb6 (0:Int) zb9)
 (znG w node uses zb9))
def zhV (w : web) (node : Int) (uses : Int) : Nat → Int → (Sl Tab) → (Sl Tab)
  | 0=>fun _ _=>default
  | k+1=>znJ w node uses (zhV w node uses k)
def zhW (w : web) (node : Int) (uses : Int) : Nat → Int → (Sl Tab) → Bool
  | 0=>fun _ _=>false
  | k+1=>znK w node uses (zhW w node uses k)
def ztJ (w:web) (node:Int) (uses:Int) (zb6:Int) (zb9:(Sl Tab)):(Sl Tab):=zhV w node uses Fuel zb6 zb9
def ztK (w:web) (node:Int) (uses:Int) (zb6:Int) (zb9:(Sl Tab)):Bool:=zhW w node uses Fuel zb6 zb9
theorem zB9 (K:List PA→Prop) (w:web) (node:Int) (uses:Int) (zb6:Int) (zb9:(Sl Tab)) (zco:Nat→List PV) (zir:zco=fun i=>zac (zb9.get i)) (hs:ztK w node uses zb6 zb9=true) (hk:K (zkP (ztJ w node uses zb6 zb9))):zhL K w node uses zb6 zb9.len zco:=by
  refine zvd K w node uses zb6 zb9.len zco ?_
  intro X0 hstep
  have key:∀ (k:Nat) (zb6:Int) (zb9:(Sl Tab)) (zco:Nat→List PV) (zir:zco=fun i=>zac (zb9.get i)),zhW w node uses k zb6 zb9=true→K (zkP (zhV w node uses k zb6 zb9))→X0 (zfY w node uses zb6 zb9.len zco):=by
    intro k
    induction k with
    | zero=>intro zb6 zb9 zco zir hs;exact absurd hs Bool.false_ne_true
    | succ k ih =>
      intro zb6 zb9 zco zir hs hk
      subst zir
      refine hstep zb6 zb9 ?_
      have hs:znK w node uses (zhW w node uses k) zb6 zb9=true:=hs
      have hk:K (zkP (znJ w node uses (zhV w node uses k) zb6 zb9)):=hk
      unfold znK at hs
      unfold znJ at hk
      generalize zhV w node uses k=S0 at hk ih
      generalize zhW w node uses k=P0 at hs ih
      have hX0:=ih
      exact (za1 (K := fun r => K (zkP r))
 (fun hs hk=>(zB8 K w node uses X0 P0 S0 hX0 zb6 zb6 (0:Int) zb9 (fun i=>zac (zb9.get i)) rfl hs hk))
 (fun hs hk=>(zB7 K w node uses zb9 (fun i=>zac (zb9.get i)) rfl hs hk)) hs hk)
  exact key _ zb6 zb9 zco zir hs hk
def zxm (w:web) (node:Int) (uses:Int):(Sl Tab) :=
  (ztJ w node uses (0:Int) (⟨(w64 (uses+(1:Int))).toNat,(fun _=>(fun _=>(0:Int)))⟩:Sl Tab))
def zI0 (w:web) (node:Int) (uses:Int):Bool :=
  (decide ((0≤(w64 (uses+(1:Int)))∧(w64 (uses+(1:Int)))=(w64 (uses+(1:Int)))∧(w64 (uses+(1:Int)))≤1000000)) &&
 (ztK w node uses (0:Int) (⟨(w64 (uses+(1:Int))).toNat,(fun _=>(fun _=>(0:Int)))⟩:Sl Tab)))
theorem zNq (w:web) (node:Int) (uses:Int) (K:List PA→Prop) (hs:zI0 w node uses=true) (hk:K (zkP (zxm w node uses))):vcFun Tryd.prog zfI zbj 106 [.one (.fp (zaD w) 0),.one (.int .i64 node),.one (.int .i64 uses)] K:=by
  refine zbb (zB3 w node uses K) ?_
  unfold zI0 at hs
  unfold zxm at hk
  exact (zaU hs fun hc hs=>⟨hc,(zB9 K w node uses (0:Int) (⟨(w64 (uses+(1:Int))).toNat,(fun _=>(fun _=>(0:Int)))⟩:Sl Tab) (fun _=>(zac (fun _=>(0:Int)))) rfl hs hk)⟩)
def zxn : List PA → COut
  | [.one (.fp [.int .i64 zam,.sl zaj zaB zak,.fm zbd zaE zaF] 0),.one (.int .i64 a1),.one (.int .i64 a2)]=>.det (IsE enc_40 4 zaB zak∧zbd=(false,1,false,[none])∧zI0 (⟨(⟨zam,(⟨zaj,zao zak⟩:(Sl Tie))⟩:Net),(⟨zaE,zaF⟩:Mp)⟩:web) a1 a2=true) [.one (.sl ((zxm (⟨(⟨zam,(⟨zaj,zao zak⟩:(Sl Tie))⟩:Net),(⟨zaE,zaF⟩:Mp)⟩:web) a1 a2).len) 80 (fun i=>zac ((zxm (⟨(⟨zam,(⟨zaj,zao zak⟩:(Sl Tie))⟩:Net),(⟨zaE,zaF⟩:Mp)⟩:web) a1 a2).get i)))]
  | _=>.no
theorem zEZ:zax Tryd.prog 106:=⟨_,rfl,rfl,by kernel_rfl⟩
theorem zLy:Ok Tryd.prog 106 zxn:=zbv zIZ zEZ fun args K h=>by
  unfold zxn at h
  split at h
  · rename_i zam zaj zaB zak zbd zaE zaF a1 a2
    obtain ⟨⟨⟨rfl,zat,rfl⟩,rfl,hs⟩,hk⟩:=h
    try rw [zan zat] at hs
    try rw [zan zat] at hk
    exact ⟨(fun _ _=>[]),(fun _=>false),zbj,zNq (⟨(⟨zam,(⟨zaj,zat⟩:(Sl Tie))⟩:Net),(⟨zaE,zaF⟩:Mp)⟩:web) a1 a2 K hs hk⟩
  · exact h.elim
abbrev zMU:Tabs:=Tabs.nil
theorem zI1:TabsOk Tryd.prog zMU:=TabsOk.nil
abbrev zMV:Ctrs:=csm zMU (fun _ _=>[]) (fun _=>false)
def zxo:Ann:=⟨18,[(0,zK [0] []),(1,zK [0,3] []),(2,zK [3,6,7,8] []),(3,zK [3,6,7,8,9] []),(4,zK [3,5,6,7,8] []),(5,zK [3,5,6,7,8,14] []),(6,zK [2] []),(7,zK [3,6,7,8] []),(8,zK [2] [])],
 [(3,zK [3,6,7,8] [])],
 [],
 [],[]⟩
abbrev zNr:=Int
abbrev zLz (r:zNr):List PA:=[.one (.int .i64 r)]
@[irreducible] def z100:=ptF Tryd.prog zMV zxo Tryd.f100
def zxp (vals:(Sl Int)) (zdL:Int):St:=⟨[(3,zI (0:Int)),(6,zS enc_3 1 vals),(7,zI (vals.len:Int)),(8,zI zdL)],[],[]⟩
abbrev zDf (K:List PA→Prop) (vals:(Sl Int)) (X:St→Prop) (P:Int→Bool) (S:Int→Int):Prop:=∀ ⦃zdL:Int⦄,P zdL=true→K (zLz (S zdL))→X (zxp vals zdL)
section
variable {K:List PA→Prop} {vals:(Sl Int)} {zdL:Int} {X0:St→Prop} {P0:Int→Bool} {S0:Int→Int}
def ztL (vals:(Sl Int)) (S0:Int→Int) (zdL:Int):Int :=
  (cond (decide (zdL < (vals.len : Int)))
 (cond ((vals.get zdL.toNat) != (0:Int))
 (vals.get zdL.toNat)
 (S0 (w64 (zdL+(1:Int)))))
 (0:Int))
def ztM (vals:(Sl Int)) (P0:Int→Bool) (zdL:Int):Bool :=
  (cond (decide (zdL < (vals.len : Int)))
 (decide ((0≤zdL∧zdL < (vals.len:Int))) &&
 (cond ((vals.get zdL.toNat) != (0:Int))
 true
 (P0 (w64 (zdL+(1:Int))))))
 true)
def ztN (vals:(Sl Int)):Nat→Int→Int:=lpO (fun _=>default) (ztL vals)
def ztO (vals:(Sl Int)):Nat→Int→Bool:=lpO (fun _=>false) (ztM vals)
def ztP (vals:(Sl Int)) (zdL:Int):Int:=ztN vals Fuel zdL
def ztQ (vals:(Sl Int)) (zdL:Int):Bool:=ztO vals Fuel zdL
theorem zCa (hs:ztQ vals zdL=true) (hk:K (zLz (ztP vals zdL))):z100 K [1,1,0,1,0] [] (zxp vals zdL) :=
  zl (fun X=>z100 K [1,1,0,1,0,0] [X]) (by kernel_rfl) fun X0 hX =>
  (show ∀ k, zDf K vals X0 (ztO vals k) (ztN vals k) from zh4 _ _ (ztM vals) (ztL vals) (zDf K vals X0)
 (by intro _ hs;exact absurd hs Bool.false_ne_true)
 (by intro P0 S0 hX0 zdL hs hk;exact hX _ (zbb (by kernel_rfl) (zc hs hk (fun hs hk=>(zaU hs fun hc hs=>And.intro hc (zc hs hk (fun hs hk=>hk) (fun hs hk=>(hX0 hs hk))))) (fun hs hk=>hk))))) _ hs hk
def zLA (vals:(Sl Int)):Int :=
  (ztP vals (0:Int))
def zLB (vals:(Sl Int)):Bool :=
  (ztQ vals (0:Int))
end
theorem zNs (vals:(Sl Int)) (K:List PA→Prop) (hs:zLB vals=true) (hk:K (zLz (zLA vals))):vcFun Tryd.prog zMV zxo 100 [.one (.sl vals.len 1 (fun i=>enc_3 (vals.get i)))] K :=
  zbb (by kernel_rfl) (zCa hs hk)
def zxq : List PA → COut
  | [.one (.sl zf4 zmC zf5)]=>.det (IsE enc_3 1 zmC zf5∧zLB (⟨zf4,zaA zf5⟩:(Sl Int))=true) [.one (.int .i64 (zLA (⟨zf4,zaA zf5⟩:(Sl Int))))]
  | _=>.no
theorem zE0:zax Tryd.prog 100:=⟨_,rfl,rfl,by kernel_rfl⟩
theorem zLC:Ok Tryd.prog 100 zxq:=zbv zI1 zE0 fun args K h=>by
  unfold zxq at h
  split at h
  · rename_i zf4 zmC zf5
    obtain ⟨⟨⟨rfl,zis,rfl⟩,hs⟩,hk⟩:=h
    try rw [zbp zis] at hs
    try rw [zbp zis] at hk
    exact ⟨(fun _ _=>[]),(fun _=>false),zxo,zNs (⟨zf4,zis⟩:(Sl Int)) K hs hk⟩
  · exact h.elim
abbrev zMW:Tabs:=Tabs.nil
theorem zI2:TabsOk Tryd.prog zMW:=TabsOk.nil
abbrev zNt:Ctrs:=csm zMW (fun _ _=>[]) (fun _=>false)
def zDg:Ann:=⟨6,[(0,zK [0] []),(1,zK [2] [])],
 [],
 [],
 [],[]⟩
abbrev zNu:=Bool
abbrev zNv (r:zNu):List PA:=[.one (.bool r)]
section
variable {K:List PA→Prop} {x:Int}
def zI3 (x:Int):Bool :=
  (x != x)
end
theorem zNw (x:Int) (K:List PA→Prop) (hk:K (zNv (zI3 x))):vcFun Tryd.prog zNt zDg 114 [.one (.int .i64 x)] K :=
  zbb (by kernel_rfl) hk
def zxr : List PA → COut
  | [.one (.int .i64 a0)]=>.tot [.one (.bool (zI3 a0))]
  | _=>.no
theorem zE1:zax Tryd.prog 114:=⟨_,rfl,rfl,by kernel_rfl⟩
theorem zLD:Ok Tryd.prog 114 zxr:=zbv zI2 zE1 fun args K h=>by
  unfold zxr at h
  split at h
  · rename_i a0
    have hk:=h
    exact ⟨(fun _ _=>[]),(fun _=>false),zDg,zNw a0 K hk⟩
  · exact h.elim
abbrev zMX:Tabs:=(Tabs.nil.addF 114 zxr)
theorem zI4:TabsOk Tryd.prog zMX:=(TabsOk.nil.addF zLD)
abbrev zNx:Ctrs:=csm zMX (fun _ _=>[]) (fun _=>false)
def zDh:Ann:=⟨20,[(0,zK [0,1] []),(1,zK [0,1,5] []),(2,zK [0,1,5,6] []),(3,zK [0,1,6,11] []),(4,zK [12] []),(5,zK [4] []),(6,zK [4] []),(7,zK [0,1,13] []),(8,zK [4] []),(9,zK [0,1,16] []),(10,zK [4] []),(11,zK [19] []),(12,zK [4] []),(13,zK [4] [])],
 [],
 [],
 [],[]⟩
abbrev zNy:=Int
abbrev zNz (r:zNy):List PA:=[.one (.int .i64 r)]
section
variable {K:List PA→Prop} {x:Int} {y_a1:Int}
def zAY (x:Int) (y_a1:Int):Int :=
  (cond (zI3 x)
 (cond (zI3 y_a1)
 (0:Int)
 (-1:Int))
 (cond (zI3 y_a1)
 (1:Int)
 (cond (decide (x < y_a1))
 (-1:Int)
 (cond (decide (x > y_a1))
 (1:Int)
 (0:Int)))))
end
theorem zNA (x:Int) (y_a1:Int) (K:List PA→Prop) (hk:K (zNz (zAY x y_a1))):vcFun Tryd.prog zNx zDh 101 [.one (.int .i64 x),.one (.int .i64 y_a1)] K :=
  zbb (by kernel_rfl) (zt hk (fun hk=>(zt hk (fun hk=>hk) (fun hk=>hk))) (fun hk=>(zt hk (fun hk=>hk) (fun hk=>(zt hk (fun hk=>hk) (fun hk=>(zt hk (fun hk=>hk) (fun hk=>hk))))))))
def ztR : List PA → COut
  | [.one (.int .i64 a0),.one (.int .i64 a1)]=>.tot [.one (.int .i64 (zAY a0 a1))]
  | _=>.no
theorem zE2:zax Tryd.prog 101:=⟨_,rfl,rfl,by kernel_rfl⟩
theorem zI5:Ok Tryd.prog 101 ztR:=zbv zI4 zE2 fun args K h=>by
  unfold ztR at h
  split at h
  · rename_i a0 a1
    have hk:=h
    exact ⟨(fun _ _=>[]),(fun _=>false),zDh,zNA a0 a1 K hk⟩
  · exact h.elim
abbrev zMY:Tabs:=Tabs.nil
theorem zI6:TabsOk Tryd.prog zMY:=TabsOk.nil
abbrev zNB:Ctrs:=csm zMY (fun _ _=>[]) (fun _=>false)
def zDi:Ann:=⟨6,[(0,zK [1] [1]),(1,zK [5] []),(2,zK [2] []),(3,zK [2] [])],
 [],
 [],
 [],[]⟩
abbrev zNC:=Int
abbrev e118 (r:zNC):List PA:=[.one (.int .i64 r)]
section
variable {K:List PA→Prop} {s:step}
def zDj (s:step):Int :=
  (cond s.Use.Back
 (1:Int)
 (0:Int))
end
theorem zND (s:step) (K:List PA→Prop) (hk:K (e118 (zDj s))):vcFun Tryd.prog zNB zDi 118 [.agg (zai s)] K :=
  zbb (by kernel_rfl) (zt hk (fun hk=>hk) (fun hk=>hk))
def zxs : List PA → COut
  | [.agg [.int .i64 zdd,.bool zcX,.int .i64 zeG,.int .i64 zpj,.int .i64 zcG]]=>.tot [.one (.int .i64 (zDj (⟨(⟨zdd,zcX⟩:Use),zeG,zpj,zcG⟩:step)))]
  | _=>.no
theorem zE3:zax Tryd.prog 118:=⟨_,rfl,rfl,by kernel_rfl⟩
theorem zLE:Ok Tryd.prog 118 zxs:=zbv zI6 zE3 fun args K h=>by
  unfold zxs at h
  split at h
  · rename_i zdd zcX zeG zpj zcG
    have hk:=h
    exact ⟨(fun _ _=>[]),(fun _=>false),zDi,zND (⟨(⟨zdd,zcX⟩:Use),zeG,zpj,zcG⟩:step) K hk⟩
  · exact h.elim
abbrev zMZ:Tabs:=(((Tabs.nil.addF 100 zxq).addF 101 ztR).addF 118 zxs)
theorem zI7:TabsOk Tryd.prog zMZ:=(((TabsOk.nil.addF zLC).addF zI5).addF zLE)
abbrev zNE:Ctrs:=csm zMZ (fun _ _=>[]) (fun _=>false)
def zDk:Ann:=⟨22,[(0,zK [2,3] [2,3]),(1,zK [2,3,5] [2,3]),(2,zK [4] [])],
 [],
 [],
 [],[]⟩
abbrev zNF:=Int
abbrev e108 (r:zNF):List PA:=[.one (.int .i64 r)]
section
variable {K:List PA→Prop} {a:step} {b:step}
def zK2 (a:step) (b:step):Int :=
  (zLA (⟨2,zaA (zbU [(enc_3 (zAY a.Use.Tie b.Use.Tie)),(enc_3 (zAY (zDj a) (zDj b)))])⟩:(Sl Int)))
def zLF (a:step) (b:step):Bool :=
  (decide ((zLB (⟨2,zaA (zbU [(enc_3 (zAY a.Use.Tie b.Use.Tie)),(enc_3 (zAY (zDj a) (zDj b)))])⟩:(Sl Int))=true)) &&
 true)
end
theorem zNG (a:step) (b:step) (K:List PA→Prop) (hs:zLF a b=true) (hk:K (e108 (zK2 a b))):vcFun Tryd.prog zNE zDk 108 [.agg (zai a),.agg (zai b)] K :=
  zbb (by kernel_rfl) (zaU hs fun hc hs=>And.intro (And.intro ((zeC []):IsE enc_3 1 1 (zbU [(enc_3 (zAY a.Use.Tie b.Use.Tie)),(enc_3 (zAY (zDj a) (zDj b)))])) hc) hk)
def zxt : List PA → COut
  | [.agg [.int .i64 zdd,.bool zcX,.int .i64 zeG,.int .i64 zpj,.int .i64 zcG],.agg [.int .i64 zgB,.bool zfr,.int .i64 zjG,.int .i64 zCb,.int .i64 zck]]=>.det (zLF (⟨(⟨zdd,zcX⟩:Use),zeG,zpj,zcG⟩:step) (⟨(⟨zgB,zfr⟩:Use),zjG,zCb,zck⟩:step)=true) [.one (.int .i64 (zK2 (⟨(⟨zdd,zcX⟩:Use),zeG,zpj,zcG⟩:step) (⟨(⟨zgB,zfr⟩:Use),zjG,zCb,zck⟩:step)))]
  | _=>.no
theorem zE4:zax Tryd.prog 108:=⟨_,rfl,rfl,by kernel_rfl⟩
theorem zLG:Ok Tryd.prog 108 zxt:=zbv zI7 zE4 fun args K h=>by
  unfold zxt at h
  split at h
  · rename_i zdd zcX zeG zpj zcG zgB zfr zjG zCb zck
    obtain ⟨hs,hk⟩:=h
    exact ⟨(fun _ _=>[]),(fun _=>false),zDk,zNG (⟨(⟨zdd,zcX⟩:Use),zeG,zpj,zcG⟩:step) (⟨(⟨zgB,zfr⟩:Use),zjG,zCb,zck⟩:step) K hs hk⟩
  · exact h.elim
abbrev zM0:Tabs:=(Tabs.nil.addF 108 zxt)
theorem zI8:TabsOk Tryd.prog zM0:=(TabsOk.nil.addF zLG)
abbrev zM1:Ctrs:=csm zM0 (fun _ _=>[]) (fun _=>false)
def zxu:Ann:=⟨39,[(0,zK [0,1,2] []),(1,zK [0,1,2,11,12,13] []),(2,zK [0,1,2,11,12,13,14] []),(3,zK [0,1,2,7,8,11,12,13] [8]),(4,zK [0,1,2,7,8,11,12,13,21] [8]),(5,zK [6] []),(6,zK [0,1,2,8,9,11,12,13] [8,9]),(7,zK [0,1,2,10,11,12,13] []),(8,zK [0,1,2,10,11,12,13,31] []),(9,zK [6] []),(10,zK [0,1,2,11,12,13] []),(11,zK [38] []),(12,zK [6] []),(13,zK [6] [])],
 [(2,zK [0,1,2,11,12,13] [])],
 [(6,zK [0,1,2,7,8,11,12,13] [8]),(8,zK [0,1,2,10,11,12,13] [])],
 [],[]⟩
abbrev zNH:=Int
abbrev zI9 (r:zNH):List PA:=[.one (.int .i64 r)]
@[irreducible] def z107:=ptF Tryd.prog zM1 zxu Tryd.f107
def zxv (zeS:(Sl step)) (zei:(Sl step)) (za4:(Sl step)) (zbu:Int) (zcl:Int) (zdz:Nat→List PV) (zdA:Nat→List PV) (zf6:Nat→List PV):St:=⟨[(0,zP (.sl zeS.len 5 zdz)),(1,zP (.sl zei.len 5 zdA)),(2,zP (.fn 108 [] [])),(11,zP (.sl za4.len 5 zf6)),(12,zI zbu),(13,zI zcl)],[],[]⟩
abbrev ztS (K:List PA→Prop) (X:St→Prop) (P:(Sl step)→(Sl step)→(Sl step)→Int→Int→Bool) (S:(Sl step)→(Sl step)→(Sl step)→Int→Int→Int):Prop:=∀ ⦃zeS:(Sl step)⦄ ⦃zei:(Sl step)⦄ ⦃za4:(Sl step)⦄ ⦃zbu:Int⦄ ⦃zcl:Int⦄ ⦃zdz:Nat→List PV⦄ ⦃zdA:Nat→List PV⦄ ⦃zf6:Nat→List PV⦄,P zeS zei za4 zbu zcl=true→K (zI9 (S zeS zei za4 zbu zcl))→zdz=zg zai zeS→zdA=zg zai zei→zf6=zg zai za4→X (zxv zeS zei za4 zbu zcl zdz zdA zf6)
section
variable {K:List PA→Prop} {s1_a0:(Sl step)} {s2_a1:(Sl step)} {zeS:(Sl step)} {zei:(Sl step)} {za4:(Sl step)} {zbu:Int} {zcl:Int} {zdz:Nat→List PV} {zdA:Nat→List PV} {zf6:Nat→List PV} {X0:St→Prop} {P0:(Sl step)→(Sl step)→(Sl step)→Int→Int→Bool} {S0:(Sl step)→(Sl step)→(Sl step)→Int→Int→Int} {zpk:(Sl step)} {zjH:(Sl step)} {iv1:Int} {zc4:(Sl step)} {zbi:Int} {zqV:Int} {zjb:Int} {zjc:Bool} {zjd:Int} {zje:Int} {zjf:Int} {zpl:Nat→List PV} {zpm:Nat→List PV} {zxw:Nat→List PV} {zpn:(Sl step)} {zpo:(Sl step)} {cv2:Int} {zqW:Int} {zpp:Nat→List PV} {zpq:Nat→List PV}
def ztT (S0:(Sl step)→(Sl step)→(Sl step)→Int→Int→Int) (zc4:(Sl step)) (zbi:Int) (zpn:(Sl step)) (zpo:(Sl step)) (cv2:Int) (zqW:Int):Int :=
  (cond (cv2 != (0:Int))
 cv2
 (S0 zpn zpo zc4 zbi (w64 (zqW+(1:Int)))))
def ztU (P0:(Sl step)→(Sl step)→(Sl step)→Int→Int→Bool) (zc4:(Sl step)) (zbi:Int) (zpn:(Sl step)) (zpo:(Sl step)) (cv2:Int) (zqW:Int):Bool :=
  (cond (cv2 != (0:Int))
 true
 (P0 zpn zpo zc4 zbi (w64 (zqW+(1:Int)))))
theorem zCc (hX0:ztS K X0 P0 S0) (hs:ztU P0 zc4 zbi zpn zpo cv2 zqW=true) (hk:K (zI9 (ztT S0 zc4 zbi zpn zpo cv2 zqW))) (zxx:zpp=zg zai zpn) (zxy:zpq=zg zai zpo):z107 K [1,0,1,0,0,1,1,0,0,1,1,1,1] [X0] ⟨[(0,zP (.sl zpn.len 5 zpp)),(1,zP (.sl zpo.len 5 zpq)),(2,zP (.fn 108 [] [])),(10,zI cv2),(11,zS zai 5 zc4),(12,zI zbi),(13,zI zqW)],[],[]⟩:=by subst zxx;subst zxy;exact zbb (by kernel_rfl) (zc hs hk (fun hs hk=>hk) (fun hs hk=>(hX0 hs hk rfl rfl rfl)))
def ztV (S0:(Sl step)→(Sl step)→(Sl step)→Int→Int→Int) (zpk:(Sl step)) (zjH:(Sl step)) (iv1:Int) (zc4:(Sl step)) (zbi:Int) (zqV:Int) (zjb:Int) (zjc:Bool) (zjd:Int) (zje:Int) (zjf:Int):Int :=
  (ztT S0 zc4 zbi zpk zjH (zK2 (⟨(⟨zjb,zjc⟩:Use),zjd,zje,zjf⟩:step) (zjH.get iv1.toNat)) zqV)
def ztW (P0:(Sl step)→(Sl step)→(Sl step)→Int→Int→Bool) (zpk:(Sl step)) (zjH:(Sl step)) (iv1:Int) (zc4:(Sl step)) (zbi:Int) (zqV:Int) (zjb:Int) (zjc:Bool) (zjd:Int) (zje:Int) (zjf:Int):Bool :=
  (decide ((0≤iv1∧iv1 < (zjH.len:Int))) &&
 (decide ((zLF (⟨(⟨zjb,zjc⟩:Use),zjd,zje,zjf⟩:step) (zjH.get iv1.toNat)=true)) &&
 (ztU P0 zc4 zbi zpk zjH (zK2 (⟨(⟨zjb,zjc⟩:Use),zjd,zje,zjf⟩:step) (zjH.get iv1.toNat)) zqV)))
theorem zCd (hX0:ztS K X0 P0 S0) (hs:ztW P0 zpk zjH iv1 zc4 zbi zqV zjb zjc zjd zje zjf=true) (hk:K (zI9 (ztV S0 zpk zjH iv1 zc4 zbi zqV zjb zjc zjd zje zjf))) (zxz:zpl=zg zai zpk) (zxA:zpm=zg zai zjH) (zE5:zxw=zg zai zc4):z107 K [1,0,1,0,0,1,1,0,0,1,1] [X0] ⟨[(0,zP (.sl zpk.len 5 zpl)),(1,zP (.sl zjH.len 5 zpm)),(2,zP (.fn 108 [] [])),(7,zI iv1),(8,zp 8 0),(11,zP (.sl zc4.len 5 zxw)),(12,zI zbi),(13,zI zqV)],[(8,.box 130 (zm (zai (⟨(⟨zjb,zjc⟩:Use),zjd,zje,zjf⟩:step))))],[]⟩:=by subst zxz;subst zxA;subst zE5;exact zbb (by kernel_rfl) (zaU hs fun hc hs=>And.intro hc (zaU hs fun hc hs=>And.intro hc (zCc hX0 hs hk rfl rfl)))
def ztX (S0:(Sl step)→(Sl step)→(Sl step)→Int→Int→Int) (zeS:(Sl step)) (zei:(Sl step)) (za4:(Sl step)) (zbu:Int) (zcl:Int):Int :=
  (cond (decide (zcl < zbu))
 (cond (decide (zcl ≥ (zei.len : Int)))
 (1:Int)
 (ztV S0 zeS zei zcl za4 zbu zcl ((za4.get zcl.toNat).Use.Tie) ((za4.get zcl.toNat).Use.Back) ((za4.get zcl.toNat).from_) ((za4.get zcl.toNat).to) ((za4.get zcl.toNat).length)))
 (cond (decide ((zeS.len : Int) < (zei.len : Int)))
 (-1:Int)
 (0:Int)))
def ztY (P0:(Sl step)→(Sl step)→(Sl step)→Int→Int→Bool) (zeS:(Sl step)) (zei:(Sl step)) (za4:(Sl step)) (zbu:Int) (zcl:Int):Bool :=
  (cond (decide (zcl < zbu))
 (decide ((0≤zcl∧zcl < (za4.len:Int))) &&
 (cond (decide (zcl ≥ (zei.len : Int)))
 true
 (ztW P0 zeS zei zcl za4 zbu zcl ((za4.get zcl.toNat).Use.Tie) ((za4.get zcl.toNat).Use.Back) ((za4.get zcl.toNat).from_) ((za4.get zcl.toNat).to) ((za4.get zcl.toNat).length))))
 true)
def ztZ:Nat→(Sl step)→(Sl step)→(Sl step)→Int→Int→Int:=lpO (fun _ _ _ _ _=>default) (ztX)
def zt0:Nat→(Sl step)→(Sl step)→(Sl step)→Int→Int→Bool:=lpO (fun _ _ _ _ _=>false) (ztY)
def zt1 (zeS:(Sl step)) (zei:(Sl step)) (za4:(Sl step)) (zbu:Int) (zcl:Int):Int:=ztZ Fuel zeS zei za4 zbu zcl
def zt2 (zeS:(Sl step)) (zei:(Sl step)) (za4:(Sl step)) (zbu:Int) (zcl:Int):Bool:=zt0 Fuel zeS zei za4 zbu zcl
theorem zCe (hs:zt2 zeS zei za4 zbu zcl=true) (hk:K (zI9 (zt1 zeS zei za4 zbu zcl))) (zkQ:zdz=zg zai zeS) (zkR:zdA=zg zai zei) (zqX:zf6=zg zai za4):z107 K [1,0,1,0] [] (zxv zeS zei za4 zbu zcl zdz zdA zf6) :=
  zl (fun X=>z107 K [1,0,1,0,0] [X]) (by kernel_rfl) fun X0 hX =>
  (show ∀ k, ztS K X0 (zt0 k) (ztZ k) from zh4 _ _ (ztY) (ztX) (ztS K X0)
 (by intro _ _ _ _ _ _ _ _ hs;exact absurd hs Bool.false_ne_true)
 (by intro P0 S0 hX0 zeS zei za4 zbu zcl zdz zdA zf6 hs hk zkQ zkR zqX;subst zkQ;subst zkR;subst zqX;exact hX _ (zbb (by kernel_rfl) (zc hs hk (fun hs hk=>(zaU hs fun hc hs=>And.intro hc (zc hs hk (fun hs hk=>hk) (fun hs hk=>(zCd hX0 hs hk rfl rfl rfl))))) (fun hs hk=>(zt hk (fun hk=>hk) (fun hk=>hk))))))) _ hs hk zkQ zkR zqX
def zHV (s1_a0:(Sl step)) (s2_a1:(Sl step)):Int :=
  (zt1 s1_a0 s2_a1 s1_a0 (s1_a0.len:Int) (0:Int))
def zK3 (s1_a0:(Sl step)) (s2_a1:(Sl step)):Bool :=
  (zt2 s1_a0 s2_a1 s1_a0 (s1_a0.len:Int) (0:Int))
end
theorem zNI (s1_a0:(Sl step)) (s2_a1:(Sl step)) (K:List PA→Prop) (hs:zK3 s1_a0 s2_a1=true) (hk:K (zI9 (zHV s1_a0 s2_a1))):vcFun Tryd.prog zM1 zxu 107 [.one (.sl s1_a0.len 5 (fun i=>zai (s1_a0.get i))),.one (.sl s2_a1.len 5 (fun i=>zai (s2_a1.get i))),.one (.fn 108 [] [])] K :=
  zbb (by kernel_rfl) (zCe hs hk rfl rfl rfl)
def zxB : List PA → COut
  | [.one (.sl zf4 zmC zf5),.one (.sl zd5 zit zdV),.one (.fn 108 [] [])]=>.det (IsE zai 5 zmC zf5∧IsE zai 5 zit zdV∧zK3 (⟨zf4,zhJ zf5⟩:(Sl step)) (⟨zd5,zhJ zdV⟩:(Sl step))=true) [.one (.int .i64 (zHV (⟨zf4,zhJ zf5⟩:(Sl step)) (⟨zd5,zhJ zdV⟩:(Sl step))))]
  | _=>.no
theorem zE6:zax Tryd.prog 107:=⟨_,rfl,rfl,by kernel_rfl⟩
theorem zLH:Ok Tryd.prog 107 zxB:=zbv zI8 zE6 fun args K h=>by
  unfold zxB at h
  split at h
  · rename_i zf4 zmC zf5 zd5 zit zdV
    obtain ⟨⟨⟨rfl,zis,rfl⟩,⟨rfl,zf7,rfl⟩,hs⟩,hk⟩:=h
    try rw [zeD zis] at hs
    try rw [zeD zis] at hk
    try rw [zeD zf7] at hs
    try rw [zeD zf7] at hk
    exact ⟨(fun _ _=>[]),(fun _=>false),zxu,zNI (⟨zf4,zis⟩:(Sl step)) (⟨zd5,zf7⟩:(Sl step)) K hs hk⟩
  · exact h.elim
abbrev T89:Tabs:=((((Tabs.nil.addF 93 zo7).addF 106 zxn).addF 107 zxB).addI 110 zo9)
theorem zLI:TabsOk Tryd.prog T89:=((((TabsOk.nil.addF zHU).addF zLy).addF zLH).addI zvc)
abbrev G89:Ctrs:=csm T89 (fun _ _=>[]) (fun _=>false)
def zaY:Ann:=⟨148,[(0,zK [0] []),(1,zK [0,3] [21]),(2,zK [0,3,23,24] [21]),(3,zK [0,3,23,24,25] [21]),(4,zK [0,3,4,23,24] [21]),(5,zK [0,3,23,24] [21]),(6,zK [0,3,23,24] [21]),(7,zK [0,3] [21]),(8,zK [0,3,5] [21]),(9,zK [0,3,5,45] [21]),(10,zK [0,3,5] [21]),(11,zK [0,3,5,48,49,50] [21]),(12,zK [0,3,5,48,49,50,51] [21]),(13,zK [0,3,5,6,7,48,49,50] [21]),(14,zK [0,3,5,48,49,50,62] [21]),(15,zK [0,3,5,48,49,50] [21]),(16,zK [0,3,5,8] [21]),(17,zK [0,5,8,64,65,66] [21]),(18,zK [0,5,8,64,65,66,67] [21]),(19,zK [0,5,8,9,10,64,65,66] [9,10,21]),(20,zK [0,5,8,9,10,64,65,66,78] [9,10,21]),(21,zK [0,5,8,9,10,11,64,65,66] [9,10,11,21]),(22,zK [0,5,8,9,10,11,12,13,64,65,66] [9,10,11,12,13,21]),(23,zK [0,5,8,9,10,11,12,13,14,64,65,66] [9,10,11,12,13,14,21]),(24,zK [0,5,8,9,10,11,12,13,14,64,65,66,83] [9,10,11,12,13,14,21,129]),(25,zK [0,5,8,9,10,11,12,13,14,64,65,66] [9,10,11,12,13,14,21,129]),(26,zK [0,5,8,9,10,11,12,13,14,64,65,66,87] [9,10,11,12,13,14,21,129]),(27,zK [0,5,8,9,10,11,12,13,14,15,64,65,66,87] [9,10,11,12,13,14,15,21,129]),(28,zK [0,5,8,9,10,11,12,13,14,15,64,65,66,87,125] [9,10,11,12,13,14,15,21,129]),(29,zK [0,5,8,9,10,11,12,13,14,15,64,65,66] [9,10,11,12,13,14,15,21,129]),(30,zK [0,5,8,9,10,11,12,13,14,64,65,66] [9,10,11,12,13,14,21,129]),(31,zK [0,5,8,9,10,11,12,13,64,65,66,136] [9,10,11,12,13,21,129]),(32,zK [0,5,8,9,10,11,12,13,14,64,65,66] [9,10,11,12,13,14,21,129]),(33,zK [0,5,8,11,64,65,66,144] [11,21,129]),(34,zK [0,5,8,64,65,66] [21,129]),(35,zK [0,5,8,64,65,66] [21,129]),(36,zK [2] [])],
 [(3,zK [0,3,23,24] [21]),(9,zK [0,3,5] [21]),(12,zK [0,3,5,48,49,50] [21]),(18,⟨[0,5,8,64,65,66],[21],[],[],[],[],[(8,1005,fun _=>zai default)]⟩),(24,⟨[0,5,8,9,10,11,12,13,14,64,65,66],[9,10,11,12,13,14,21,129],[],[(11,0,129,130,fun _=>zai default)],[],[],[]⟩),(27,zK [0,5,8,9,10,11,12,13,14,64,65,66,87] [9,10,11,12,13,14,21,129])],
 [(7,zK [0,3] [21]),(16,zK [0,3,5] [21]),(34,zK [0,5,8,11,64,65,66,144] [11,21,129])],
 [],[]⟩
def zkS (w:web) (zbA:Int) (zf8:Nat) (zcM:Nat→List PV):St:=⟨[(0,.one (.c (.p (.fp (zaD w) 0)))),(3,.one (.c (.vec 21))),(23,.one (.c (.p (.int .i64 (w.Net.Nodes.toNat:Int))))),(24,.one (.c (.p (.int .i64 zbA))))],[(21,.vec 159 1 24 zf8 zcM)],[]⟩
def zkT (K:List PA→Prop) (w:web) (zbA:Int) (zf8:Nat) (zcM:Nat→List PV):Prop:=vc Tryd.prog G89 zaY (cdF Tryd.f89 [1,0,1,0,1,0]) (zas 0 (sqK Tryd.prog G89 zaY (cdF Tryd.f89 [1,0,1,1]) (zcE (zbo Tryd.prog Tryd.f89 K)))) (zkS w zbA zf8 zcM)
def zJa (w:web) (zqY:Nat) (ziu:Nat→List PV):St:=⟨[(0,.one (.c (.p (.fp (zaD w) 0)))),(3,.one (.c (.vec 21)))],[(21,.vec 159 1 24 zqY ziu)],[]⟩
def znL (K:List PA→Prop) (w:web) (zqY:Nat) (ziu:Nat→List PV):Prop:=vc Tryd.prog G89 zaY (cdF Tryd.f89 [1,0,1,1]) (zcE (zbo Tryd.prog Tryd.f89 K)) (zJa w zqY ziu)
def zjg (w:web) (zaO:(Sl (Sl Tab))) (zbg:Int):St:=⟨[(0,.one (.c (.p (.fp (zaD w) 0)))),(3,.one (.c (.vec 21))),(5,.one (.c (.p (.int .i64 zbg))))],[(21,.vec 159 1 24 zaO.len (fun i=>zaJ (zaO.get i)))],[]⟩
def zkU (K:List PA→Prop) (w:web) (zaO:(Sl (Sl Tab))) (zbg:Int):Prop:=vc Tryd.prog G89 zaY (cdF Tryd.f89 [1,0,1,1,1,1,0,1,0]) (zas 2 (sqK Tryd.prog G89 zaY (cdF Tryd.f89 [1,0,1,1,1,1,1]) (zcE (zbo Tryd.prog Tryd.f89 K)))) (zjg w zaO zbg)
def zkV (w:web) (zaO:(Sl (Sl Tab))) (za8:Int) (zbH:Int):St:=⟨[(0,.one (.c (.p (.fp (zaD w) 0)))),(3,.one (.c (.vec 21))),(5,.one (.c (.p (.int .i64 za8)))),(48,.one (.c (.vec 21))),(49,.one (.c (.p (.int .i64 (zaO.len:Int))))),(50,.one (.c (.p (.int .i64 zbH))))],[(21,.vec 159 1 24 zaO.len (fun i=>zaJ (zaO.get i)))],[]⟩
def zkW (K:List PA→Prop) (X2:St→Prop) (w:web) (zaO:(Sl (Sl Tab))) (za8:Int) (zbH:Int):Prop:=vc Tryd.prog G89 zaY (cdF Tryd.f89 [1,0,1,1,1,1,0,1,0,0,1,0,0,1,0]) (zas 4 (zas 3 (sqK Tryd.prog G89 zaY (cdF Tryd.f89 [1,0,1,1,1,1,0,1,0,0,1,1]) (zbq Tryd.prog zaY 9 X2 (zas 2 (sqK Tryd.prog G89 zaY (cdF Tryd.f89 [1,0,1,1,1,1,1]) (zcE (zbo Tryd.prog Tryd.f89 K)))))))) (zkV w zaO za8 zbH)
def zJb (w:web) (zdM:Int) (zqZ:Nat) (ziv:Nat→List PV):St:=⟨[(0,.one (.c (.p (.fp (zaD w) 0)))),(3,.one (.c (.vec 21))),(5,.one (.c (.p (.int .i64 zdM))))],[(21,.vec 159 1 24 zqZ ziv)],[]⟩
def zkX (K:List PA→Prop) (w:web) (zdM:Int) (zqZ:Nat) (ziv:Nat→List PV):Prop:=vc Tryd.prog G89 zaY (cdF Tryd.f89 [1,0,1,1,1,1,1]) (zcE (zbo Tryd.prog Tryd.f89 K)) (zJb w zdM zqZ ziv)
def zfA (w:web) (zav:(Sl (Sl Tab))) (zaW:Int) (zaI:Bool) (zeH:Nat) (zbx:Nat→List PV) (za2:Int) (zf9:Nat) (zbY:Nat→List PV):St:=⟨[(0,.one (.c (.p (.fp (zaD w) 0)))),(5,.one (.c (.p (.int .i64 zaW)))),(8,.one (.c (.p (.ns zaI zeH 5 zbx)))),(64,.one (.c (.vec 21))),(65,.one (.c (.p (.int .i64 (zav.len:Int))))),(66,.one (.c (.p (.int .i64 za2))))],[(21,.vec 159 1 24 zf9 zbY)],[]⟩
def zkY (K:List PA→Prop) (w:web) (zav:(Sl (Sl Tab))) (zaW:Int) (zaI:Bool) (zeH:Nat) (zbx:Nat→List PV) (za2:Int) (zf9:Nat) (zbY:Nat→List PV):Prop:=vc Tryd.prog G89 zaY (cdF Tryd.f89 [1,0,1,1,1,1,1,1,0,1,0]) (zas 6 (sqK Tryd.prog G89 zaY (cdF Tryd.f89 [1,0,1,1,1,1,1,1,1]) (zcE (zbo Tryd.prog Tryd.f89 K)))) (zfA w zav zaW zaI zeH zbx za2 zf9 zbY)
def zhX (w:web) (zav:(Sl (Sl Tab))) (zbe:Int) (zaG:Bool) (zeI:Nat) (zb1:Nat→List PV) (zb2:Int) (iv6:Int) (zpr:Nat) (zeT:Nat→List PV) (zej:Int) (zaS:Int) (kv6:Int) (zga:Nat) (zcp:Nat→List PV) (zeJ:Nat) (zb3:Nat→List PV):St:=⟨[(0,.one (.c (.p (.fp (zaD w) 0)))),(5,.one (.c (.p (.int .i64 zbe)))),(8,.one (.c (.p (.ns zaG zeI 5 zb1)))),(9,.one (.c (.ptr 9 0))),(10,.one (.c (.ptr 10 0))),(11,.one (.c (.ptr 11 0))),(12,.one (.c (.ptr 12 0))),(13,.one (.c (.ptr 13 0))),(14,.one (.c (.ptr 14 0))),(64,.one (.c (.vec 21))),(65,.one (.c (.p (.int .i64 (zav.len:Int))))),(66,.one (.c (.p (.int .i64 zb2))))],[(9,.box 3 [.p (.int .i64 iv6)]),(10,.box 159 [.p (.sl zpr 80 zeT)]),(11,.box 127 [.vec 129]),(12,.box 3 [.p (.int .i64 zej)]),(13,.box 3 [.p (.int .i64 zaS)]),(14,.box 3 [.p (.int .i64 kv6)]),(21,.vec 159 1 24 zga zcp),(129,.vec 130 5 40 zeJ zb3)],[]⟩
def zkZ (K:List PA→Prop) (X5:St→Prop) (w:web) (zav:(Sl (Sl Tab))) (zbe:Int) (zaG:Bool) (zeI:Nat) (zb1:Nat→List PV) (zb2:Int) (iv6:Int) (zpr:Nat) (zeT:Nat→List PV) (zej:Int) (zaS:Int) (kv6:Int) (zga:Nat) (zcp:Nat→List PV) (zeJ:Nat) (zb3:Nat→List PV):Prop:=vc Tryd.prog G89 zaY (cdF Tryd.f89 [1,0,1,1,1,1,1,1,0,1,0,0,1,1,0,0,1,1,1,1,0,1,0]) (zas 8 (sqK Tryd.prog G89 zaY (cdF Tryd.f89 [1,0,1,1,1,1,1,1,0,1,0,0,1,1,0,0,1,1,1,1,1]) (zas 7 (sqK Tryd.prog G89 zaY (cdF Tryd.f89 [1,0,1,1,1,1,1,1,0,1,0,0,1,1,1]) (zbq Tryd.prog zaY 18 X5 (zas 6 (sqK Tryd.prog G89 zaY (cdF Tryd.f89 [1,0,1,1,1,1,1,1,1]) (zcE (zbo Tryd.prog Tryd.f89 K))))))))) (zhX w zav zbe zaG zeI zb1 zb2 iv6 zpr zeT zej zaS kv6 zga zcp zeJ zb3)
def zfB (w:web) (zav:(Sl (Sl Tab))) (zaT:Int) (zay:Bool) (zeK:Nat) (zce:Nat→List PV) (zbm:Int) (iv7:Int) (zps:Nat) (zfJ:Nat→List PV) (zcN:Int) (zaw:Int) (kv7:Int) (zgb:Nat) (zcO:Nat→List PV) (zeL:Nat) (zcf:Nat→List PV):St:=⟨[(0,.one (.c (.p (.fp (zaD w) 0)))),(5,.one (.c (.p (.int .i64 zaT)))),(8,.one (.c (.p (.ns zay zeK 5 zce)))),(9,.one (.c (.ptr 9 0))),(10,.one (.c (.ptr 10 0))),(11,.one (.c (.ptr 11 0))),(12,.one (.c (.ptr 12 0))),(13,.one (.c (.ptr 13 0))),(14,.one (.c (.ptr 14 0))),(64,.one (.c (.vec 21))),(65,.one (.c (.p (.int .i64 (zav.len:Int))))),(66,.one (.c (.p (.int .i64 zbm)))),(87,.one (.c (.p (.fn 110 [] [.fp [.fp (zaD w) 0] 0]))))],[(9,.box 3 [.p (.int .i64 iv7)]),(10,.box 159 [.p (.sl zps 80 zfJ)]),(11,.box 127 [.vec 129]),(12,.box 3 [.p (.int .i64 zcN)]),(13,.box 3 [.p (.int .i64 zaw)]),(14,.box 3 [.p (.int .i64 kv7)]),(21,.vec 159 1 24 zgb zcO),(129,.vec 130 5 40 zeL zcf)],[]⟩
def zk0 (K:List PA→Prop) (X5:St→Prop) (X6:St→Prop) (w:web) (zav:(Sl (Sl Tab))) (zaT:Int) (zay:Bool) (zeK:Nat) (zce:Nat→List PV) (zbm:Int) (iv7:Int) (zps:Nat) (zfJ:Nat→List PV) (zcN:Int) (zaw:Int) (kv7:Int) (zgb:Nat) (zcO:Nat→List PV) (zeL:Nat) (zcf:Nat→List PV):Prop:=vc Tryd.prog G89 zaY (cdF Tryd.f89 [1,0,1,1,1,1,1,1,0,1,0,0,1,1,0,0,1,1,1,1,0,1,0,0,1,0,0,1,0]) (zas 10 (zas 9 (sqK Tryd.prog G89 zaY (cdF Tryd.f89 [1,0,1,1,1,1,1,1,0,1,0,0,1,1,0,0,1,1,1,1,0,1,0,0,1,1]) (zbq Tryd.prog zaY 24 X6 (zas 8 (sqK Tryd.prog G89 zaY (cdF Tryd.f89 [1,0,1,1,1,1,1,1,0,1,0,0,1,1,0,0,1,1,1,1,1]) (zas 7 (sqK Tryd.prog G89 zaY (cdF Tryd.f89 [1,0,1,1,1,1,1,1,0,1,0,0,1,1,1]) (zbq Tryd.prog zaY 18 X5 (zas 6 (sqK Tryd.prog G89 zaY (cdF Tryd.f89 [1,0,1,1,1,1,1,1,1]) (zcE (zbo Tryd.prog Tryd.f89 K))))))))))))) (zfB w zav zaT zay zeK zce zbm iv7 zps zfJ zcN zaw kv7 zgb zcO zeL zcf)
def zJc (w:web) (zav:(Sl (Sl Tab))) (zde:Int) (zcs:Bool) (znM:Nat) (zgC:Nat→List PV) (ze3:Int) (zek:Bool) (zq0:Nat) (ziw:Nat→List PV) (znN:Nat) (zgD:Nat→List PV):St:=⟨[(0,.one (.c (.p (.fp (zaD w) 0)))),(5,.one (.c (.p (.int .i64 zde)))),(8,.one (.c (.p (.ns zcs znM 5 zgC)))),(11,.one (.c (.ptr 11 0))),(64,.one (.c (.vec 21))),(65,.one (.c (.p (.int .i64 (zav.len:Int))))),(66,.one (.c (.p (.int .i64 ze3)))),(144,.one (.c (.p (.bool zek))))],[(11,.box 127 [.vec 129]),(21,.vec 159 1 24 zq0 ziw),(129,.vec 130 5 40 znN zgD)],[]⟩
def zk1 (K:List PA→Prop) (X5:St→Prop) (w:web) (zav:(Sl (Sl Tab))) (zde:Int) (zcs:Bool) (znM:Nat) (zgC:Nat→List PV) (ze3:Int) (zek:Bool) (zq0:Nat) (ziw:Nat→List PV) (znN:Nat) (zgD:Nat→List PV):Prop:=vc Tryd.prog G89 zaY (cdF Tryd.f89 [1,0,1,1,1,1,1,1,0,1,0,0,1,1,0,0,1,1,1,1,1,1]) (zas 7 (sqK Tryd.prog G89 zaY (cdF Tryd.f89 [1,0,1,1,1,1,1,1,0,1,0,0,1,1,1]) (zbq Tryd.prog zaY 18 X5 (zas 6 (sqK Tryd.prog G89 zaY (cdF Tryd.f89 [1,0,1,1,1,1,1,1,1]) (zcE (zbo Tryd.prog Tryd.f89 K))))))) (zJc w zav zde zcs znM zgC ze3 zek zq0 ziw znN zgD)
theorem zE7 (w : web) (K : List PA → Prop) :
  vcFun Tryd.prog G89 zaY 89 [.one (.fp (zaD w) 0)] K =
  (((0≤w.Net.Nodes∧w.Net.Nodes=w.Net.Nodes∧w.Net.Nodes≤1000000)) ∧
 (zkT K w (0:Int) w.Net.Nodes.toNat (fun _=>(zaJ (⟨0,fun _=>(fun _=>(0:Int))⟩:(Sl Tab)))))):=by kernel_rfl
def zpt (K:List PA→Prop) (X0:St→Prop) (w:web) (zbA:Int) (zb7:(Sl (Sl Tab))):Prop :=
  (zbV (decide (zbA < (w.Net.Nodes.toNat : Int)))
 ((IsE enc_40 4 4 (fun i=>enc_40 (w.Net.Ties.get i))∧((false,1,false,[none]):MQ)=(false,1,false,[none])∧(zI0 w zbA w.Net.Nodes=true)) ∧
 (((0≤zbA∧zbA < (zb7.len:Int))) ∧
 (((zbA.toNat < zb7.len)) ∧
 (X0 (zkS w (w64 (zbA+(1:Int))) zb7.len (zju zbA.toNat 0 (fun i=>zaJ (zb7.get i)) (zaJ (zxm w zbA w.Net.Nodes))))))))
 (znL K w zb7.len (fun i=>zaJ (zb7.get i))))
theorem zq1 (K : List PA → Prop) (X0 : St → Prop) (w : web) (zbA : Int) (zb7 : (Sl (Sl Tab))) :
  vc Tryd.prog G89 zaY (cd (cdF Tryd.f89 [1,0,1,0,1,0]) [0]) (zbq Tryd.prog zaY 3 X0 (zas 0 (sqK Tryd.prog G89 zaY (cdF Tryd.f89 [1,0,1,1]) (zcE (zbo Tryd.prog Tryd.f89 K))))) (zkS w zbA zb7.len (fun i=>zaJ (zb7.get i))) =
  zpt K X0 w zbA zb7:=by kernel_rfl
theorem zxC (K : List PA → Prop) (w : web) (zbA : Int) (zf8 : Nat) (zcM : Nat → List PV)
  (h:∀ X0:St→Prop,(∀ (zbA:Int) (zb7:(Sl (Sl Tab))),zpt K X0 w zbA zb7→X0 (zkS w zbA zb7.len (fun i=>zaJ (zb7.get i))))→X0 (zkS w zbA zf8 zcM)) :
  zkT K w zbA zf8 zcM:=by
  have e:zkT K w zbA zf8 zcM=(∀ X:St→Prop,(∀ s,vc Tryd.prog G89 zaY (cd (cdF Tryd.f89 [1,0,1,0,1,0]) [0]) (zbq Tryd.prog zaY 3 X (zas 0 (sqK Tryd.prog G89 zaY (cdF Tryd.f89 [1,0,1,1]) (zcE (zbo Tryd.prog Tryd.f89 K))))) s→X s)→X (zkS w zbA zf8 zcM)):=by kernel_rfl
  refine zbb e ?_
  intro X hX
  refine h X ?_
  intro zbA zb7 hs
  refine hX _ ?_
  have e2:=zq1 K X w zbA zb7
  rw [e2]
  exact hs
theorem zE8 (K : List PA → Prop) (w : web) (zaO : (Sl (Sl Tab))) :
  znL K w zaO.len (fun i=>zaJ (zaO.get i)) =
  (zkU K w zaO (1:Int)):=by kernel_rfl
def zpu (K:List PA→Prop) (X2:St→Prop) (w:web) (zaO:(Sl (Sl Tab))) (zbg:Int):Prop :=
  (zbV (decide (zbg < w.Net.Nodes))
 (zkW K X2 w zaO zbg (0:Int))
 (zkX K w zbg zaO.len (fun i=>zaJ (zaO.get i))))
theorem zq2 (K : List PA → Prop) (X2 : St → Prop) (w : web) (zaO : (Sl (Sl Tab))) (zbg : Int) :
  vc Tryd.prog G89 zaY (cd (cdF Tryd.f89 [1,0,1,1,1,1,0,1,0]) [0]) (zbq Tryd.prog zaY 9 X2 (zas 2 (sqK Tryd.prog G89 zaY (cdF Tryd.f89 [1,0,1,1,1,1,1]) (zcE (zbo Tryd.prog Tryd.f89 K))))) (zjg w zaO zbg) =
  zpu K X2 w zaO zbg:=by kernel_rfl
theorem zxD (K : List PA → Prop) (w : web) (zaO : (Sl (Sl Tab))) (zbg : Int)
  (h:∀ X2:St→Prop,(∀ (zbg:Int),zpu K X2 w zaO zbg→X2 (zjg w zaO zbg))→X2 (zjg w zaO zbg)) :
  zkU K w zaO zbg:=by
  have e:zkU K w zaO zbg=(∀ X:St→Prop,(∀ s,vc Tryd.prog G89 zaY (cd (cdF Tryd.f89 [1,0,1,1,1,1,0,1,0]) [0]) (zbq Tryd.prog zaY 9 X (zas 2 (sqK Tryd.prog G89 zaY (cdF Tryd.f89 [1,0,1,1,1,1,1]) (zcE (zbo Tryd.prog Tryd.f89 K))))) s→X s)→X (zjg w zaO zbg)):=by kernel_rfl
  refine zbb e ?_
  intro X hX
  refine h X ?_
  intro zbg hs
  refine hX _ ?_
  have e2:=zq2 K X w zaO zbg
  rw [e2]
  exact hs
def zpv (K:List PA→Prop) (X2:St→Prop) (X3:St→Prop) (w:web) (zaO:(Sl (Sl Tab))) (za8:Int) (zbH:Int):Prop :=
  (zbV (decide (zbH < (zaO.len : Int)))
 (((0≤zbH∧zbH < (zaO.len:Int))) ∧
 (((zbH.toNat < zaO.len)) ∧
 (((0≤za8∧za8 < ((zaO.get zbH.toNat).len:Int))) ∧
 (((0≤zbH∧zbH < (40:Int))) ∧
 (zbV (decide ((tL ((zaO.get zbH.toNat).get za8.toNat) zbH) < (0:Int)))
 (zkX K w za8 zaO.len (fun i=>zaJ (zaO.get i)))
 (X3 (zkV w zaO za8 (w64 (zbH+(1:Int))))))))))
 (X2 (zjg w zaO (w64 (za8+(1:Int))))))
theorem zq3 (K : List PA → Prop) (X2 : St → Prop) (X3 : St → Prop) (w : web) (zaO : (Sl (Sl Tab))) (za8 : Int) (zbH : Int) :
  vc Tryd.prog G89 zaY (cd (cdF Tryd.f89 [1,0,1,1,1,1,0,1,0,0,1,0,0,1,0]) [0]) (zbq Tryd.prog zaY 12 X3 (zas 4 (zas 3 (sqK Tryd.prog G89 zaY (cdF Tryd.f89 [1,0,1,1,1,1,0,1,0,0,1,1]) (zbq Tryd.prog zaY 9 X2 (zas 2 (sqK Tryd.prog G89 zaY (cdF Tryd.f89 [1,0,1,1,1,1,1]) (zcE (zbo Tryd.prog Tryd.f89 K))))))))) (zkV w zaO za8 zbH) =
  zpv K X2 X3 w zaO za8 zbH:=by kernel_rfl
theorem zxE (K : List PA → Prop) (X2 : St → Prop) (w : web) (zaO : (Sl (Sl Tab))) (za8 : Int) (zbH : Int)
  (h:∀ X3:St→Prop,(∀ (za8:Int) (zbH:Int),zpv K X2 X3 w zaO za8 zbH→X3 (zkV w zaO za8 zbH))→X3 (zkV w zaO za8 zbH)) :
  zkW K X2 w zaO za8 zbH:=by
  have e:zkW K X2 w zaO za8 zbH=(∀ X:St→Prop,(∀ s,vc Tryd.prog G89 zaY (cd (cdF Tryd.f89 [1,0,1,1,1,1,0,1,0,0,1,0,0,1,0]) [0]) (zbq Tryd.prog zaY 12 X (zas 4 (zas 3 (sqK Tryd.prog G89 zaY (cdF Tryd.f89 [1,0,1,1,1,1,0,1,0,0,1,1]) (zbq Tryd.prog zaY 9 X2 (zas 2 (sqK Tryd.prog G89 zaY (cdF Tryd.f89 [1,0,1,1,1,1,1]) (zcE (zbo Tryd.prog Tryd.f89 K))))))))) s→X s)→X (zkV w zaO za8 zbH)):=by kernel_rfl
  refine zbb e ?_
  intro X hX
  refine h X ?_
  intro za8 zbH hs
  refine hX _ ?_
  have e2:=zq3 K X2 X w zaO za8 zbH
  rw [e2]
  exact hs
theorem zE9 (K : List PA → Prop) (w : web) (zdM : Int) (zav : (Sl (Sl Tab))) :
  zkX K w zdM zav.len (fun i=>zaJ (zav.get i)) =
  (zkY K w zav zdM true 0 (fun i=>zai ((fun _=>default) i)) (0:Int) zav.len (fun i=>zaJ (zav.get i))):=by kernel_rfl
def zpw (K:List PA→Prop) (X5:St→Prop) (w:web) (zav:(Sl (Sl Tab))) (zaW:Int) (zaI:Bool) (zaZ:(Sl step)) (za2:Int) (zbn:(Sl (Sl Tab))):Prop :=
  (zbV (decide (za2 < (zav.len : Int)))
 (((0≤za2∧za2 < (zbn.len:Int))) ∧
 (((za2.toNat < zbn.len)) ∧
 (((0≤zaW∧zaW < ((zbn.get za2.toNat).len:Int))) ∧
 (((0≤za2∧za2 < (40:Int))) ∧
 (zbV (decide ((tL ((zbn.get za2.toNat).get zaW.toNat) za2) ≥ (0:Int)))
 (X5 (zfA w zav zaW zaI zaZ.len (fun i=>zai (zaZ.get i)) (w64 (za2+(1:Int))) zbn.len (fun i=>zaJ (zbn.get i))))
 (zkZ K X5 w zav zaW zaI zaZ.len (fun i=>zai (zaZ.get i)) za2 za2 ((zbn.get za2.toNat).len) (fun i=>zac ((zbn.get za2.toNat).get i)) za2 (0:Int) (w64 (zaW - (1:Int))) zbn.len (fun i=>zaJ (zbn.get i)) 0 (fun i=>zai ((fun _=>default) i))))))))
 (K [.one (.sl zaZ.len 5 (fun i=>zai (zaZ.get i)))]))
theorem zq4 (K : List PA → Prop) (X5 : St → Prop) (w : web) (zav : (Sl (Sl Tab))) (zaW : Int) (zaI : Bool) (zaZ : (Sl step)) (za2 : Int) (zbn : (Sl (Sl Tab))) :
  vc Tryd.prog G89 zaY (cd (cdF Tryd.f89 [1,0,1,1,1,1,1,1,0,1,0]) [0]) (zbq Tryd.prog zaY 18 X5 (zas 6 (sqK Tryd.prog G89 zaY (cdF Tryd.f89 [1,0,1,1,1,1,1,1,1]) (zcE (zbo Tryd.prog Tryd.f89 K))))) (zfA w zav zaW zaI zaZ.len (fun i=>zai (zaZ.get i)) za2 zbn.len (fun i=>zaJ (zbn.get i))) =
  zpw K X5 w zav zaW zaI zaZ za2 zbn:=by kernel_rfl
theorem zxF (K : List PA → Prop) (w : web) (zav : (Sl (Sl Tab))) (zaW : Int) (zaI : Bool) (zeH : Nat) (zbx : Nat → List PV) (za2 : Int) (zf9 : Nat) (zbY : Nat → List PV)
  (h:∀ X5:St→Prop,(∀ (zaW:Int) (zaI:Bool) (zaZ:(Sl step)) (za2:Int) (zbn:(Sl (Sl Tab))),zpw K X5 w zav zaW zaI zaZ za2 zbn→X5 (zfA w zav zaW zaI zaZ.len (fun i=>zai (zaZ.get i)) za2 zbn.len (fun i=>zaJ (zbn.get i))))→X5 (zfA w zav zaW zaI zeH zbx za2 zf9 zbY)) :
  zkY K w zav zaW zaI zeH zbx za2 zf9 zbY:=by
  have e:zkY K w zav zaW zaI zeH zbx za2 zf9 zbY=(∀ X:St→Prop,(∀ s,vc Tryd.prog G89 zaY (cd (cdF Tryd.f89 [1,0,1,1,1,1,1,1,0,1,0]) [0]) (zbq Tryd.prog zaY 18 X (zas 6 (sqK Tryd.prog G89 zaY (cdF Tryd.f89 [1,0,1,1,1,1,1,1,1]) (zcE (zbo Tryd.prog Tryd.f89 K))))) s→X s)→X (zfA w zav zaW zaI zeH zbx za2 zf9 zbY)):=by kernel_rfl
  refine zbb e ?_
  intro X hX
  refine h X ?_
  intro zaW zaI zaZ za2 zbn hs
  refine hX _ ?_
  have e2:=zq4 K X w zav zaW zaI zaZ za2 zbn
  rw [e2]
  exact hs
def zpx (K:List PA→Prop) (X5:St→Prop) (X6:St→Prop) (w:web) (zav:(Sl (Sl Tab))) (zbe:Int) (zaG:Bool) (zaX:(Sl step)) (zb2:Int) (iv6:Int) (hv6:(Sl Tab)) (zej:Int) (zaS:Int) (kv6:Int) (zbS:(Sl (Sl Tab))) (za0:(Sl step)):Prop :=
  (zbV (decide (kv6 ≥ (0:Int)))
 ((IsE enc_40 4 4 (fun i=>enc_40 (w.Net.Ties.get i))∧((false,1,false,[none]):MQ)=(false,1,false,[none])) ∧
 (zk0 K X5 X6 w zav zbe zaG zaX.len (fun i=>zai (zaX.get i)) zb2 iv6 hv6.len (fun i=>zac (hv6.get i)) zej zaS kv6 zbS.len (fun i=>zaJ (zbS.get i)) za0.len (fun i=>zai (za0.get i))))
 (((zaG=true∨zaX.len ≠ 0)) ∧
 (zbV zaG
 (zk1 K X5 w zav zbe zaG zaX.len (fun i=>zai (zaX.get i)) zb2 true zbS.len (fun i=>zaJ (zbS.get i)) za0.len (fun i=>zai (za0.get i)))
 ((IsE zai 5 5 (fun i=>zai (za0.get i))∧IsE zai 5 5 (fun i=>zai (zaX.get i))∧(zK3 za0 zaX=true)) ∧
 (zk1 K X5 w zav zbe zaG zaX.len (fun i=>zai (zaX.get i)) zb2 (decide ((zHV za0 zaX) < (0:Int))) zbS.len (fun i=>zaJ (zbS.get i)) za0.len (fun i=>zai (za0.get i)))))))
theorem zq5 (K : List PA → Prop) (X5 : St → Prop) (X6 : St → Prop) (w : web) (zav : (Sl (Sl Tab))) (zbe : Int) (zaG : Bool) (zaX : (Sl step)) (zb2 : Int) (iv6 : Int) (hv6 : (Sl Tab)) (zej : Int) (zaS : Int) (kv6 : Int) (zbS : (Sl (Sl Tab))) (za0 : (Sl step)) :
  vc Tryd.prog G89 zaY (cd (cdF Tryd.f89 [1,0,1,1,1,1,1,1,0,1,0,0,1,1,0,0,1,1,1,1,0,1,0]) [0]) (zbq Tryd.prog zaY 24 X6 (zas 8 (sqK Tryd.prog G89 zaY (cdF Tryd.f89 [1,0,1,1,1,1,1,1,0,1,0,0,1,1,0,0,1,1,1,1,1]) (zas 7 (sqK Tryd.prog G89 zaY (cdF Tryd.f89 [1,0,1,1,1,1,1,1,0,1,0,0,1,1,1]) (zbq Tryd.prog zaY 18 X5 (zas 6 (sqK Tryd.prog G89 zaY (cdF Tryd.f89 [1,0,1,1,1,1,1,1,1]) (zcE (zbo Tryd.prog Tryd.f89 K)))))))))) (zhX w zav zbe zaG zaX.len (fun i=>zai (zaX.get i)) zb2 iv6 hv6.len (fun i=>zac (hv6.get i)) zej zaS kv6 zbS.len (fun i=>zaJ (zbS.get i)) za0.len (fun i=>zai (za0.get i))) =
  zpx K X5 X6 w zav zbe zaG zaX zb2 iv6 hv6 zej zaS kv6 zbS za0:=by kernel_rfl
theorem zxG (K : List PA → Prop) (X5 : St → Prop) (w : web) (zav : (Sl (Sl Tab))) (zbe : Int) (zaG : Bool) (zeI : Nat) (zb1 : Nat → List PV) (zb2 : Int) (iv6 : Int) (zpr : Nat) (zeT : Nat → List PV) (zej : Int) (zaS : Int) (kv6 : Int) (zga : Nat) (zcp : Nat → List PV) (zeJ : Nat) (zb3 : Nat → List PV)
  (h:∀ X6:St→Prop,(∀ (zbe:Int) (zaG:Bool) (zaX:(Sl step)) (zb2:Int) (iv6:Int) (hv6:(Sl Tab)) (zej:Int) (zaS:Int) (kv6:Int) (zbS:(Sl (Sl Tab))) (za0:(Sl step)),zpx K X5 X6 w zav zbe zaG zaX zb2 iv6 hv6 zej zaS kv6 zbS za0→X6 (zhX w zav zbe zaG zaX.len (fun i=>zai (zaX.get i)) zb2 iv6 hv6.len (fun i=>zac (hv6.get i)) zej zaS kv6 zbS.len (fun i=>zaJ (zbS.get i)) za0.len (fun i=>zai (za0.get i))))→X6 (zhX w zav zbe zaG zeI zb1 zb2 iv6 zpr zeT zej zaS kv6 zga zcp zeJ zb3)) :
  zkZ K X5 w zav zbe zaG zeI zb1 zb2 iv6 zpr zeT zej zaS kv6 zga zcp zeJ zb3:=by
  have e:zkZ K X5 w zav zbe zaG zeI zb1 zb2 iv6 zpr zeT zej zaS kv6 zga zcp zeJ zb3=(∀ X:St→Prop,(∀ s,vc Tryd.prog G89 zaY (cd (cdF Tryd.f89 [1,0,1,1,1,1,1,1,0,1,0,0,1,1,0,0,1,1,1,1,0,1,0]) [0]) (zbq Tryd.prog zaY 24 X (zas 8 (sqK Tryd.prog G89 zaY (cdF Tryd.f89 [1,0,1,1,1,1,1,1,0,1,0,0,1,1,0,0,1,1,1,1,1]) (zas 7 (sqK Tryd.prog G89 zaY (cdF Tryd.f89 [1,0,1,1,1,1,1,1,0,1,0,0,1,1,1]) (zbq Tryd.prog zaY 18 X5 (zas 6 (sqK Tryd.prog G89 zaY (cdF Tryd.f89 [1,0,1,1,1,1,1,1,1]) (zcE (zbo Tryd.prog Tryd.f89 K)))))))))) s→X s)→X (zhX w zav zbe zaG zeI zb1 zb2 iv6 zpr zeT zej zaS kv6 zga zcp zeJ zb3)):=by kernel_rfl
  refine zbb e ?_
  intro X hX
  refine h X ?_
  intro zbe zaG zaX zb2 iv6 hv6 zej zaS kv6 zbS za0 hs
  refine hX _ ?_
  have e2:=zq5 K X5 X w zav zbe zaG zaX zb2 iv6 hv6 zej zaS kv6 zbS za0
  rw [e2]
  exact hs
def zpy (K:List PA→Prop) (X5:St→Prop) (X6:St→Prop) (w:web) (zav:(Sl (Sl Tab))) (zaT:Int) (zay:Bool) (zaR:(Sl step)) (zbm:Int) (iv7:Int) (hv7:(Sl Tab)) (zcN:Int) (zaw:Int) (kv7:Int) (za9:(Sl (Sl Tab))) (zaH:(Sl step)):Prop :=
  (X6 (zhX w zav zaT zay zaR.len (fun i=>zai (zaR.get i)) zbm iv7 hv7.len (fun i=>zac (hv7.get i)) zcN zaw (w64 (kv7 - (1:Int))) za9.len (fun i=>zaJ (za9.get i)) zaH.len (fun i=>zai (zaH.get i))))
def zpz (K:List PA→Prop) (X5:St→Prop) (X6:St→Prop) (X7:List (List PA)→St→Prop) (y7:step) (rest7:List (List PA)) (w:web) (zav:(Sl (Sl Tab))) (zaT:Int) (zay:Bool) (zaR:(Sl step)) (zbm:Int) (iv7:Int) (hv7:(Sl Tab)) (zcN:Int) (zaw:Int) (kv7:Int) (za9:(Sl (Sl Tab))) (zaH:(Sl step)):Prop :=
  (zbV (y7.from_ == zcN)
 (zbV (decide (y7.to ≥ iv7))
 (((0≤kv7∧kv7 < (hv7.len:Int))) ∧
 (((0≤y7.to∧y7.to < (40:Int))) ∧
 (zbV (!(nvr (tL (hv7.get kv7.toNat) y7.to) (tU (hv7.get kv7.toNat) y7.to)))
 (((0≤kv7∧kv7 < (hv7.len:Int))) ∧
 (((0≤y7.to∧y7.to < (40:Int))) ∧
 (zbV (decide ((w64 ((w64 (zaw + y7.length)) + (tL (hv7.get kv7.toNat) y7.to))) < (0:Int)))
 ((((zaH.len+1) * 40≤140737488355328∧zaH.len+1≤9223372036854775807)) ∧
 (X6 (zhX w zav zaT zay zaR.len (fun i=>zai (zaR.get i)) zbm iv7 hv7.len (fun i=>zac (hv7.get i)) y7.to (w64 (zaw+y7.length)) (w64 (kv7 - (1:Int))) za9.len (fun i=>zaJ (za9.get i)) (zaH.len+1) (appG zaH.len (fun i=>zai (zaH.get i)) (fun _=>(zai y7))))))
 (X7 rest7 (zfB w zav zaT zay zaR.len (fun i=>zai (zaR.get i)) zbm iv7 hv7.len (fun i=>zac (hv7.get i)) zcN zaw kv7 za9.len (fun i=>zaJ (za9.get i)) zaH.len (fun i=>zai (zaH.get i)))))))
 (X7 rest7 (zfB w zav zaT zay zaR.len (fun i=>zai (zaR.get i)) zbm iv7 hv7.len (fun i=>zac (hv7.get i)) zcN zaw kv7 za9.len (fun i=>zaJ (za9.get i)) zaH.len (fun i=>zai (zaH.get i)))))))
 (X7 rest7 (zfB w zav zaT zay zaR.len (fun i=>zai (zaR.get i)) zbm iv7 hv7.len (fun i=>zac (hv7.get i)) zcN zaw kv7 za9.len (fun i=>zaJ (za9.get i)) zaH.len (fun i=>zai (zaH.get i)))))
 (X7 rest7 (zfB w zav zaT zay zaR.len (fun i=>zai (zaR.get i)) zbm iv7 hv7.len (fun i=>zac (hv7.get i)) zcN zaw kv7 za9.len (fun i=>zaJ (za9.get i)) zaH.len (fun i=>zai (zaH.get i)))))
theorem zq6 (K:List PA→Prop) (X5:St→Prop) (X6:St→Prop) (w:web) (zav:(Sl (Sl Tab))) (zaT:Int) (zay:Bool) (zaR:(Sl step)) (zbm:Int) (iv7:Int) (hv7:(Sl Tab)) (zcN:Int) (zaw:Int) (kv7:Int) (za9:(Sl (Sl Tab))) (zaH:(Sl step)):(zas 10 (zas 9 (sqK Tryd.prog G89 zaY (cdF Tryd.f89 [1,0,1,1,1,1,1,1,0,1,0,0,1,1,0,0,1,1,1,1,0,1,0,0,1,1]) (zbq Tryd.prog zaY 24 X6 (zas 8 (sqK Tryd.prog G89 zaY (cdF Tryd.f89 [1,0,1,1,1,1,1,1,0,1,0,0,1,1,0,0,1,1,1,1,1]) (zas 7 (sqK Tryd.prog G89 zaY (cdF Tryd.f89 [1,0,1,1,1,1,1,1,0,1,0,0,1,1,1]) (zbq Tryd.prog zaY 18 X5 (zas 6 (sqK Tryd.prog G89 zaY (cdF Tryd.f89 [1,0,1,1,1,1,1,1,1]) (zcE (zbo Tryd.prog Tryd.f89 K))))))))))))) .normal (zfB w zav zaT zay zaR.len (fun i=>zai (zaR.get i)) zbm iv7 hv7.len (fun i=>zac (hv7.get i)) zcN zaw kv7 za9.len (fun i=>zaJ (za9.get i)) zaH.len (fun i=>zai (zaH.get i)))=zpy K X5 X6 w zav zaT zay zaR zbm iv7 hv7 zcN zaw kv7 za9 zaH:=by kernel_rfl
theorem zq7 (K : List PA → Prop) (X5 : St → Prop) (X6 : St → Prop) (X7 : List (List PA) → St → Prop) (y7 : step) (rest7 : List (List PA)) (w : web) (zav : (Sl (Sl Tab))) (zaT : Int) (zay : Bool) (zaR : (Sl step)) (zbm : Int) (iv7 : Int) (hv7 : (Sl Tab)) (zcN : Int) (zaw : Int) (kv7 : Int) (za9 : (Sl (Sl Tab))) (zaH : (Sl step)) :
  zvs Tryd.prog G89 zaY 27 [88] (cd (cdF Tryd.f89 [1,0,1,1,1,1,1,1,0,1,0,0,1,1,0,0,1,1,1,1,0,1,0,0,1,0,0,1,0]) [0]) (cd (cdF Tryd.f89 [1,0,1,1,1,1,1,1,0,1,0,0,1,1,0,0,1,1,1,1,0,1,0,0,1,0,0,1,0]) [1]) X7 (zas 10 (zas 9 (sqK Tryd.prog G89 zaY (cdF Tryd.f89 [1,0,1,1,1,1,1,1,0,1,0,0,1,1,0,0,1,1,1,1,0,1,0,0,1,1]) (zbq Tryd.prog zaY 24 X6 (zas 8 (sqK Tryd.prog G89 zaY (cdF Tryd.f89 [1,0,1,1,1,1,1,1,0,1,0,0,1,1,0,0,1,1,1,1,1]) (zas 7 (sqK Tryd.prog G89 zaY (cdF Tryd.f89 [1,0,1,1,1,1,1,1,0,1,0,0,1,1,1]) (zbq Tryd.prog zaY 18 X5 (zas 6 (sqK Tryd.prog G89 zaY (cdF Tryd.f89 [1,0,1,1,1,1,1,1,1]) (zcE (zbo Tryd.prog Tryd.f89 K))))))))))))) [.agg (zai y7)] rest7 (zfB w zav zaT zay zaR.len (fun i=>zai (zaR.get i)) zbm iv7 hv7.len (fun i=>zac (hv7.get i)) zcN zaw kv7 za9.len (fun i=>zaJ (za9.get i)) zaH.len (fun i=>zai (zaH.get i)))=zpz K X5 X6 X7 y7 rest7 w zav zaT zay zaR zbm iv7 hv7 zcN zaw kv7 za9 zaH:=by kernel_rfl
theorem zxH (K : List PA → Prop) (X5 : St → Prop) (X6 : St → Prop) (w : web) (zav : (Sl (Sl Tab))) (zaT : Int) (zay : Bool) (zeK : Nat) (zce : Nat → List PV) (zbm : Int) (iv7 : Int) (zps : Nat) (zfJ : Nat → List PV) (zcN : Int) (zaw : Int) (kv7 : Int) (zgb : Nat) (zcO : Nat → List PV) (zeL : Nat) (zcf : Nat → List PV)
  (hsafe:IsE enc_40 4 4 (fun i=>enc_40 (w.Net.Ties.get i))∧((false,1,false,[none]):MQ)=(false,1,false,[none])∧(zlT w=true)) (h:∀ X7:List (List PA)→St→Prop,(∀ (zaT:Int) (zay:Bool) (zaR:(Sl step)) (zbm:Int) (iv7:Int) (hv7:(Sl Tab)) (zcN:Int) (zaw:Int) (kv7:Int) (za9:(Sl (Sl Tab))) (zaH:(Sl step)),zpy K X5 X6 w zav zaT zay zaR zbm iv7 hv7 zcN zaw kv7 za9 zaH→X7 [] (zfB w zav zaT zay zaR.len (fun i=>zai (zaR.get i)) zbm iv7 hv7.len (fun i=>zac (hv7.get i)) zcN zaw kv7 za9.len (fun i=>zaJ (za9.get i)) zaH.len (fun i=>zai (zaH.get i))))→(∀ (y:step) (rest:List (List PA)) (zaT:Int) (zay:Bool) (zaR:(Sl step)) (zbm:Int) (iv7:Int) (hv7:(Sl Tab)) (zcN:Int) (zaw:Int) (kv7:Int) (za9:(Sl (Sl Tab))) (zaH:(Sl step)),zpz K X5 X6 X7 y rest w zav zaT zay zaR zbm iv7 hv7 zcN zaw kv7 za9 zaH→X7 ([.agg (zai y)] :: rest) (zfB w zav zaT zay zaR.len (fun i=>zai (zaR.get i)) zbm iv7 hv7.len (fun i=>zac (hv7.get i)) zcN zaw kv7 za9.len (fun i=>zaJ (za9.get i)) zaH.len (fun i=>zai (zaH.get i))))→X7 ((zh5 w).map fun y=>[.agg (zai y)]) (zfB w zav zaT zay zeK zce zbm iv7 zps zfJ zcN zaw kv7 zgb zcO zeL zcf)) :
  zk0 K X5 X6 w zav zaT zay zeK zce zbm iv7 zps zfJ zcN zaw kv7 zgb zcO zeL zcf:=by
  have e:zk0 K X5 X6 w zav zaT zay zeK zce zbm iv7 zps zfJ zcN zaw kv7 zgb zcO zeL zcf=((IsE enc_40 4 4 (fun i=>enc_40 (w.Net.Ties.get i))∧((false,1,false,[none]):MQ)=(false,1,false,[none])∧(zlT w=true))∧∀ X:List (List PA)→St→Prop,(∀ s,(zas 10 (zas 9 (sqK Tryd.prog G89 zaY (cdF Tryd.f89 [1,0,1,1,1,1,1,1,0,1,0,0,1,1,0,0,1,1,1,1,0,1,0,0,1,1]) (zbq Tryd.prog zaY 24 X6 (zas 8 (sqK Tryd.prog G89 zaY (cdF Tryd.f89 [1,0,1,1,1,1,1,1,0,1,0,0,1,1,0,0,1,1,1,1,1]) (zas 7 (sqK Tryd.prog G89 zaY (cdF Tryd.f89 [1,0,1,1,1,1,1,1,0,1,0,0,1,1,1]) (zbq Tryd.prog zaY 18 X5 (zas 6 (sqK Tryd.prog G89 zaY (cdF Tryd.f89 [1,0,1,1,1,1,1,1,1]) (zcE (zbo Tryd.prog Tryd.f89 K))))))))))))) .normal s→X [] s)→(∀ y rest s,zvs Tryd.prog G89 zaY 27 [88] (cd (cdF Tryd.f89 [1,0,1,1,1,1,1,1,0,1,0,0,1,1,0,0,1,1,1,1,0,1,0,0,1,0,0,1,0]) [0]) (cd (cdF Tryd.f89 [1,0,1,1,1,1,1,1,0,1,0,0,1,1,0,0,1,1,1,1,0,1,0,0,1,0,0,1,0]) [1]) X (zas 10 (zas 9 (sqK Tryd.prog G89 zaY (cdF Tryd.f89 [1,0,1,1,1,1,1,1,0,1,0,0,1,1,0,0,1,1,1,1,0,1,0,0,1,1]) (zbq Tryd.prog zaY 24 X6 (zas 8 (sqK Tryd.prog G89 zaY (cdF Tryd.f89 [1,0,1,1,1,1,1,1,0,1,0,0,1,1,0,0,1,1,1,1,1]) (zas 7 (sqK Tryd.prog G89 zaY (cdF Tryd.f89 [1,0,1,1,1,1,1,1,0,1,0,0,1,1,1]) (zbq Tryd.prog zaY 18 X5 (zas 6 (sqK Tryd.prog G89 zaY (cdF Tryd.f89 [1,0,1,1,1,1,1,1,1]) (zcE (zbo Tryd.prog Tryd.f89 K))))))))))))) y rest s→X (y :: rest) s)→X ((zh5 w).map fun y=>[.agg (zai y)]) (zfB w zav zaT zay zeK zce zbm iv7 zps zfJ zcN zaw kv7 zgb zcO zeL zcf)):=by kernel_rfl
  refine zbb e ⟨hsafe,?_⟩
  intro X h0 h1
  refine h X (fun zaT zay zaR zbm iv7 hv7 zcN zaw kv7 za9 zaH hs=>h0 _ ?_) (fun y rest zaT zay zaR zbm iv7 hv7 zcN zaw kv7 za9 zaH hs=>h1 _ rest _ ?_)
  · rw [zq6 K X5 X6 w zav zaT zay zaR zbm iv7 hv7 zcN zaw kv7 za9 zaH];exact hs
  · have e2 := zq7 K X5 X6 X y rest w zav zaT zay zaR zbm iv7 hv7 zcN zaw kv7 za9 zaH
    rw [e2];exact hs
theorem zFa (K : List PA → Prop) (X5 : St → Prop) (w : web) (zav : (Sl (Sl Tab))) (zde : Int) (zcs : Bool) (zdN : (Sl step)) (ze3 : Int) (zek : Bool) (zes : (Sl (Sl Tab))) (zdO : (Sl step)) :
  zk1 K X5 w zav zde zcs zdN.len (fun i=>zai (zdN.get i)) ze3 zek zes.len (fun i=>zaJ (zes.get i)) zdO.len (fun i=>zai (zdO.get i)) =
  (zbV zek
 (X5 (zfA w zav zde false zdO.len (fun i=>zai (zdO.get i)) (w64 (ze3+(1:Int))) zes.len (fun i=>zaJ (zes.get i))))
 (X5 (zfA w zav zde zcs zdN.len (fun i=>zai (zdN.get i)) (w64 (ze3+(1:Int))) zes.len (fun i=>zaJ (zes.get i))))):=by kernel_rfl
abbrev e89 (r:(Sl step)):List PA:=[.one (.sl r.len 5 (fun i=>zai (r.get i)))]
attribute [irreducible] zkT znL zkU zkW zkX zkY zkZ zk0 zk1
def znO (S5:Int→Bool→(Sl step)→Int→(Sl (Sl Tab))→(Sl step)) (w:web) (zav:(Sl (Sl Tab))) (zde:Int) (zcs:Bool) (zdN:(Sl step)) (ze3:Int) (zek:Bool) (zes:(Sl (Sl Tab))) (zdO:(Sl step)):(Sl step) :=
  (cond zek
 (S5 zde false zdO (w64 (ze3+(1:Int))) zes)
 (S5 zde zcs zdN (w64 (ze3+(1:Int))) zes))
def znP (P5:Int→Bool→(Sl step)→Int→(Sl (Sl Tab))→Bool) (w:web) (zav:(Sl (Sl Tab))) (zde:Int) (zcs:Bool) (zdN:(Sl step)) (ze3:Int) (zek:Bool) (zes:(Sl (Sl Tab))) (zdO:(Sl step)):Bool :=
  (cond zek
 (P5 zde false zdO (w64 (ze3+(1:Int))) zes)
 (P5 zde zcs zdN (w64 (ze3+(1:Int))) zes))
theorem zxI (K : List PA → Prop) (w : web) (zav : (Sl (Sl Tab)))
  (X5:St→Prop) (P5:Int→Bool→(Sl step)→Int→(Sl (Sl Tab))→Bool) (S5:Int→Bool→(Sl step)→Int→(Sl (Sl Tab))→(Sl step))
  (hX5:∀ (zaW:Int) (zaI:Bool) (zaZ:(Sl step)) (za2:Int) (zbn:(Sl (Sl Tab))) (zbx:Nat→List PV) (zeM:zbx=fun i=>zai (zaZ.get i)) (zbY:Nat→List PV) (zgc:zbY=fun i=>zaJ (zbn.get i)),P5 zaW zaI zaZ za2 zbn=true→K (e89 (S5 zaW zaI zaZ za2 zbn))→X5 (zfA w zav zaW zaI zaZ.len zbx za2 zbn.len zbY)) (zde:Int) (zcs:Bool) (zdN:(Sl step)) (ze3:Int) (zek:Bool) (zes:(Sl (Sl Tab))) (zdO:(Sl step)) (zgC:Nat→List PV) (zCf:zgC=fun i=>zai (zdN.get i)) (ziw:Nat→List PV) (zFb:ziw=fun i=>zaJ (zes.get i)) (zgD:Nat→List PV) (zCg:zgD=fun i=>zai (zdO.get i)) (hs:znP P5 w zav zde zcs zdN ze3 zek zes zdO=true) (hk:K (e89 (znO S5 w zav zde zcs zdN ze3 zek zes zdO))):zk1 K X5 w zav zde zcs zdN.len zgC ze3 zek zes.len ziw zdO.len zgD:=by
  subst zCf
  subst zFb
  subst zCg
  refine zbb (zFa K X5 w zav zde zcs zdN ze3 zek zes zdO) ?_
  unfold znP at hs
  unfold znO at hk
  exact (za1 (K := fun r => K (e89 r))
 (fun hs hk=>(hX5 zde false zdO (w64 (ze3+(1:Int))) zes (fun i=>zai (zdO.get i)) rfl (fun i=>zaJ (zes.get i)) rfl hs hk))
 (fun hs hk=>(hX5 zde zcs zdN (w64 (ze3+(1:Int))) zes (fun i=>zai (zdN.get i)) rfl (fun i=>zaJ (zes.get i)) rfl hs hk)) hs hk)
def zq8 (S5:Int→Bool→(Sl step)→Int→(Sl (Sl Tab))→(Sl step)) (S6:Int→Bool→(Sl step)→Int→Int→(Sl Tab)→Int→Int→Int→(Sl (Sl Tab))→(Sl step)→(Sl step)) (w:web) (zav:(Sl (Sl Tab))) (zaT:Int) (zay:Bool) (zaR:(Sl step)) (zbm:Int) (iv7:Int) (hv7:(Sl Tab)) (zcN:Int) (zaw:Int) (kv7:Int) (za9:(Sl (Sl Tab))) (zaH:(Sl step)):(Sl step) :=
  (S6 zaT zay zaR zbm iv7 hv7 zcN zaw (w64 (kv7 - (1:Int))) za9 zaH)
def zq9 (P5:Int→Bool→(Sl step)→Int→(Sl (Sl Tab))→Bool) (P6:Int→Bool→(Sl step)→Int→Int→(Sl Tab)→Int→Int→Int→(Sl (Sl Tab))→(Sl step)→Bool) (w:web) (zav:(Sl (Sl Tab))) (zaT:Int) (zay:Bool) (zaR:(Sl step)) (zbm:Int) (iv7:Int) (hv7:(Sl Tab)) (zcN:Int) (zaw:Int) (kv7:Int) (za9:(Sl (Sl Tab))) (zaH:(Sl step)):Bool :=
  (P6 zaT zay zaR zbm iv7 hv7 zcN zaw (w64 (kv7 - (1:Int))) za9 zaH)
def zra (S5:Int→Bool→(Sl step)→Int→(Sl (Sl Tab))→(Sl step)) (S6:Int→Bool→(Sl step)→Int→Int→(Sl Tab)→Int→Int→Int→(Sl (Sl Tab))→(Sl step)→(Sl step)) (w:web) (zav:(Sl (Sl Tab))) (y7:step) (S7:Int→Bool→(Sl step)→Int→Int→(Sl Tab)→Int→Int→Int→(Sl (Sl Tab))→(Sl step)→(Sl step)) (zaT:Int) (zay:Bool) (zaR:(Sl step)) (zbm:Int) (iv7:Int) (hv7:(Sl Tab)) (zcN:Int) (zaw:Int) (kv7:Int) (za9:(Sl (Sl Tab))) (zaH:(Sl step)):(Sl step) :=
  (cond (y7.from_ == zcN)
 (cond (decide (y7.to ≥ iv7))
 (cond (!(nvr (tL (hv7.get kv7.toNat) y7.to) (tU (hv7.get kv7.toNat) y7.to)))
 (cond (decide ((w64 ((w64 (zaw + y7.length)) + (tL (hv7.get kv7.toNat) y7.to))) < (0:Int)))
 (S6 zaT zay zaR zbm iv7 hv7 y7.to (w64 (zaw+y7.length)) (w64 (kv7 - (1:Int))) za9 (⟨(zaH.len+1),(zg6 zaH.len zaH.get (fun _=>y7))⟩:Sl step))
 (S7 zaT zay zaR zbm iv7 hv7 zcN zaw kv7 za9 zaH))
 (S7 zaT zay zaR zbm iv7 hv7 zcN zaw kv7 za9 zaH))
 (S7 zaT zay zaR zbm iv7 hv7 zcN zaw kv7 za9 zaH))
 (S7 zaT zay zaR zbm iv7 hv7 zcN zaw kv7 za9 zaH))
def zrb (P5:Int→Bool→(Sl step)→Int→(Sl (Sl Tab))→Bool) (P6:Int→Bool→(Sl step)→Int→Int→(Sl Tab)→Int→Int→Int→(Sl (Sl Tab))→(Sl step)→Bool) (w:web) (zav:(Sl (Sl Tab))) (y7:step) (P7:Int→Bool→(Sl step)→Int→Int→(Sl Tab)→Int→Int→Int→(Sl (Sl Tab))→(Sl step)→Bool) (zaT:Int) (zay:Bool) (zaR:(Sl step)) (zbm:Int) (iv7:Int) (hv7:(Sl Tab)) (zcN:Int) (zaw:Int) (kv7:Int) (za9:(Sl (Sl Tab))) (zaH:(Sl step)):Bool :=
  (cond (y7.from_ == zcN)
 (cond (decide (y7.to ≥ iv7))
 (decide ((0≤kv7∧kv7 < (hv7.len:Int))) &&
 (decide ((0≤y7.to∧y7.to < (40:Int))) &&
 (cond (!(nvr (tL (hv7.get kv7.toNat) y7.to) (tU (hv7.get kv7.toNat) y7.to)))
 (decide ((0≤kv7∧kv7 < (hv7.len:Int))) &&
 (decide ((0≤y7.to∧y7.to < (40:Int))) &&
 (cond (decide ((w64 ((w64 (zaw + y7.length)) + (tL (hv7.get kv7.toNat) y7.to))) < (0:Int)))
 (decide (((zaH.len+1) * 40≤140737488355328∧zaH.len+1≤9223372036854775807)) &&
 (P6 zaT zay zaR zbm iv7 hv7 y7.to (w64 (zaw+y7.length)) (w64 (kv7 - (1:Int))) za9 (⟨(zaH.len+1),(zg6 zaH.len zaH.get (fun _=>y7))⟩:Sl step)))
 (P7 zaT zay zaR zbm iv7 hv7 zcN zaw kv7 za9 zaH))))
 (P7 zaT zay zaR zbm iv7 hv7 zcN zaw kv7 za9 zaH))))
 (P7 zaT zay zaR zbm iv7 hv7 zcN zaw kv7 za9 zaH))
 (P7 zaT zay zaR zbm iv7 hv7 zcN zaw kv7 za9 zaH))
def zk2 (S5 : Int → Bool → (Sl step) → Int → (Sl (Sl Tab)) → (Sl step)) (S6 : Int → Bool → (Sl step) → Int → Int → (Sl Tab) → Int → Int → Int → (Sl (Sl Tab)) → (Sl step) → (Sl step)) (w : web) (zav : (Sl (Sl Tab))) : List step → Int → Bool → (Sl step) → Int → Int → (Sl Tab) → Int → Int → Int → (Sl (Sl Tab)) → (Sl step) → (Sl step)
  | []=>zq8 S5 S6 w zav
  | y :: r=>zra S5 S6 w zav y (zk2 S5 S6 w zav r)
def zk3 (P5 : Int → Bool → (Sl step) → Int → (Sl (Sl Tab)) → Bool) (P6 : Int → Bool → (Sl step) → Int → Int → (Sl Tab) → Int → Int → Int → (Sl (Sl Tab)) → (Sl step) → Bool) (w : web) (zav : (Sl (Sl Tab))) : List step → Int → Bool → (Sl step) → Int → Int → (Sl Tab) → Int → Int → Int → (Sl (Sl Tab)) → (Sl step) → Bool
  | []=>zq9 P5 P6 w zav
  | y :: r=>zrb P5 P6 w zav y (zk3 P5 P6 w zav r)
def zxJ (S5:Int→Bool→(Sl step)→Int→(Sl (Sl Tab))→(Sl step)) (S6:Int→Bool→(Sl step)→Int→Int→(Sl Tab)→Int→Int→Int→(Sl (Sl Tab))→(Sl step)→(Sl step)) (w:web) (zav:(Sl (Sl Tab))) (zaT:Int) (zay:Bool) (zaR:(Sl step)) (zbm:Int) (iv7:Int) (hv7:(Sl Tab)) (zcN:Int) (zaw:Int) (kv7:Int) (za9:(Sl (Sl Tab))) (zaH:(Sl step)):(Sl step):=zk2 S5 S6 w zav (zh5 w) zaT zay zaR zbm iv7 hv7 zcN zaw kv7 za9 zaH
def zrd (P5:Int→Bool→(Sl step)→Int→(Sl (Sl Tab))→Bool) (P6:Int→Bool→(Sl step)→Int→Int→(Sl Tab)→Int→Int→Int→(Sl (Sl Tab))→(Sl step)→Bool) (w:web) (zav:(Sl (Sl Tab))) (zaT:Int) (zay:Bool) (zaR:(Sl step)) (zbm:Int) (iv7:Int) (hv7:(Sl Tab)) (zcN:Int) (zaw:Int) (kv7:Int) (za9:(Sl (Sl Tab))) (zaH:(Sl step)):Bool:=decide ((zlT w=true)) && zk3 P5 P6 w zav (zh5 w) zaT zay zaR zbm iv7 hv7 zcN zaw kv7 za9 zaH
theorem zFc (K : List PA → Prop) (w : web) (zav : (Sl (Sl Tab)))
  (X5:St→Prop) (P5:Int→Bool→(Sl step)→Int→(Sl (Sl Tab))→Bool) (S5:Int→Bool→(Sl step)→Int→(Sl (Sl Tab))→(Sl step))
  (hX5:∀ (zaW:Int) (zaI:Bool) (zaZ:(Sl step)) (za2:Int) (zbn:(Sl (Sl Tab))) (zbx:Nat→List PV) (zeM:zbx=fun i=>zai (zaZ.get i)) (zbY:Nat→List PV) (zgc:zbY=fun i=>zaJ (zbn.get i)),P5 zaW zaI zaZ za2 zbn=true→K (e89 (S5 zaW zaI zaZ za2 zbn))→X5 (zfA w zav zaW zaI zaZ.len zbx za2 zbn.len zbY))
  (X6:St→Prop) (P6:Int→Bool→(Sl step)→Int→Int→(Sl Tab)→Int→Int→Int→(Sl (Sl Tab))→(Sl step)→Bool) (S6:Int→Bool→(Sl step)→Int→Int→(Sl Tab)→Int→Int→Int→(Sl (Sl Tab))→(Sl step)→(Sl step))
  (hX6:∀ (zbe:Int) (zaG:Bool) (zaX:(Sl step)) (zb2:Int) (iv6:Int) (hv6:(Sl Tab)) (zej:Int) (zaS:Int) (kv6:Int) (zbS:(Sl (Sl Tab))) (za0:(Sl step)) (zb1:Nat→List PV) (zgE:zb1=fun i=>zai (zaX.get i)) (zeT:Nat→List PV) (zvh:zeT=fun i=>zac (hv6.get i)) (zcp:Nat→List PV) (zix:zcp=fun i=>zaJ (zbS.get i)) (zb3:Nat→List PV) (zgF:zb3=fun i=>zai (za0.get i)),P6 zbe zaG zaX zb2 iv6 hv6 zej zaS kv6 zbS za0=true→K (e89 (S6 zbe zaG zaX zb2 iv6 hv6 zej zaS kv6 zbS za0))→X6 (zhX w zav zbe zaG zaX.len zb1 zb2 iv6 hv6.len zeT zej zaS kv6 zbS.len zcp za0.len zb3)) (zaT:Int) (zay:Bool) (zaR:(Sl step)) (zbm:Int) (iv7:Int) (hv7:(Sl Tab)) (zcN:Int) (zaw:Int) (kv7:Int) (za9:(Sl (Sl Tab))) (zaH:(Sl step)) (zce:Nat→List PV) (zgG:zce=fun i=>zai (zaR.get i)) (zfJ:Nat→List PV) (zvi:zfJ=fun i=>zac (hv7.get i)) (zcO:Nat→List PV) (ziy:zcO=fun i=>zaJ (za9.get i)) (zcf:Nat→List PV) (zgH:zcf=fun i=>zai (zaH.get i)) (hs:zrd P5 P6 w zav zaT zay zaR zbm iv7 hv7 zcN zaw kv7 za9 zaH=true) (hk:K (e89 (zxJ S5 S6 w zav zaT zay zaR zbm iv7 hv7 zcN zaw kv7 za9 zaH))):zk0 K X5 X6 w zav zaT zay zaR.len zce zbm iv7 hv7.len zfJ zcN zaw kv7 za9.len zcO zaH.len zcf:=by
  unfold zrd at hs
  rw [Bool.and_eq_true] at hs
  obtain ⟨hsf,hs⟩:=hs
  have hc:=of_decide_eq_true hsf
  refine zxH K X5 X6 w zav zaT zay zaR.len zce zbm iv7 hv7.len zfJ zcN zaw kv7 za9.len zcO zaH.len zcf ⟨isE,rfl,hc⟩ ?_
  intro X7 hexit hstep
  have key:∀ (l:List step) (zaT:Int) (zay:Bool) (zaR:(Sl step)) (zbm:Int) (iv7:Int) (hv7:(Sl Tab)) (zcN:Int) (zaw:Int) (kv7:Int) (za9:(Sl (Sl Tab))) (zaH:(Sl step)) (zce:Nat→List PV) (zgG:zce=fun i=>zai (zaR.get i)) (zfJ:Nat→List PV) (zvi:zfJ=fun i=>zac (hv7.get i)) (zcO:Nat→List PV) (ziy:zcO=fun i=>zaJ (za9.get i)) (zcf:Nat→List PV) (zgH:zcf=fun i=>zai (zaH.get i)),zk3 P5 P6 w zav l zaT zay zaR zbm iv7 hv7 zcN zaw kv7 za9 zaH=true→K (e89 (zk2 S5 S6 w zav l zaT zay zaR zbm iv7 hv7 zcN zaw kv7 za9 zaH))→X7 (l.map fun y=>[.agg (zai y)]) (zfB w zav zaT zay zaR.len zce zbm iv7 hv7.len zfJ zcN zaw kv7 za9.len zcO zaH.len zcf):=by
    intro l
    induction l with
    | nil =>
      intro zaT zay zaR zbm iv7 hv7 zcN zaw kv7 za9 zaH zce zgG zfJ zvi zcO ziy zcf zgH hs hk
      subst zgG
      subst zvi
      subst ziy
      subst zgH
      refine hexit zaT zay zaR zbm iv7 hv7 zcN zaw kv7 za9 zaH ?_
      have hs:zq9 P5 P6 w zav zaT zay zaR zbm iv7 hv7 zcN zaw kv7 za9 zaH=true:=hs
      have hk:K (e89 (zq8 S5 S6 w zav zaT zay zaR zbm iv7 hv7 zcN zaw kv7 za9 zaH)):=hk
      unfold zq9 at hs
      unfold zq8 at hk
      exact (hX6 zaT zay zaR zbm iv7 hv7 zcN zaw (w64 (kv7 - (1:Int))) za9 zaH (fun i=>zai (zaR.get i)) rfl (fun i=>zac (hv7.get i)) rfl (fun i=>zaJ (za9.get i)) rfl (fun i=>zai (zaH.get i)) rfl hs hk)
    | cons y7 l ih =>
      intro zaT zay zaR zbm iv7 hv7 zcN zaw kv7 za9 zaH zce zgG zfJ zvi zcO ziy zcf zgH hs hk
      subst zgG
      subst zvi
      subst ziy
      subst zgH
      refine hstep y7 _ zaT zay zaR zbm iv7 hv7 zcN zaw kv7 za9 zaH ?_
      have hs:zrb P5 P6 w zav y7 (zk3 P5 P6 w zav l) zaT zay zaR zbm iv7 hv7 zcN zaw kv7 za9 zaH=true:=hs
      have hk:K (e89 (zra S5 S6 w zav y7 (zk2 S5 S6 w zav l) zaT zay zaR zbm iv7 hv7 zcN zaw kv7 za9 zaH)):=hk
      unfold zrb at hs
      unfold zra at hk
      generalize zk2 S5 S6 w zav l=S7 at hk ih
      generalize zk3 P5 P6 w zav l=P7 at hs ih
      have hX7:=ih
      exact (za1 (K := fun r => K (e89 r))
 (fun hs hk => (za1 (K := fun r => K (e89 r))
 (fun hs hk => (zaU hs fun hc hs => ⟨hc, (zaU hs fun hc hs => ⟨hc, (za1 (K := fun r => K (e89 r))
 (fun hs hk => (zaU hs fun hc hs => ⟨hc, (zaU hs fun hc hs => ⟨hc, (za1 (K := fun r => K (e89 r))
 (fun hs hk=>(zaU hs fun hc hs=>⟨hc,(hX6 zaT zay zaR zbm iv7 hv7 y7.to (w64 (zaw+y7.length)) (w64 (kv7 - (1:Int))) za9 (⟨(zaH.len+1),(zg6 zaH.len zaH.get (fun _=>y7))⟩:Sl step) (fun i=>zai (zaR.get i)) rfl (fun i=>zac (hv7.get i)) rfl (fun i=>zaJ (za9.get i)) rfl (appG zaH.len (fun i=>zai (zaH.get i)) (fun _=>(zai y7))) (zkH (enc:=zai) (f:=zaH.get) (h:=(fun _=>y7)) rfl rfl) hs hk)⟩))
 (fun hs hk=>(hX7 zaT zay zaR zbm iv7 hv7 zcN zaw kv7 za9 zaH (fun i=>zai (zaR.get i)) rfl (fun i=>zac (hv7.get i)) rfl (fun i=>zaJ (za9.get i)) rfl (fun i=>zai (zaH.get i)) rfl hs hk)) hs hk)⟩)⟩))
 (fun hs hk=>(hX7 zaT zay zaR zbm iv7 hv7 zcN zaw kv7 za9 zaH (fun i=>zai (zaR.get i)) rfl (fun i=>zac (hv7.get i)) rfl (fun i=>zaJ (za9.get i)) rfl (fun i=>zai (zaH.get i)) rfl hs hk)) hs hk)⟩)⟩))
 (fun hs hk=>(hX7 zaT zay zaR zbm iv7 hv7 zcN zaw kv7 za9 zaH (fun i=>zai (zaR.get i)) rfl (fun i=>zac (hv7.get i)) rfl (fun i=>zaJ (za9.get i)) rfl (fun i=>zai (zaH.get i)) rfl hs hk)) hs hk))
 (fun hs hk=>(hX7 zaT zay zaR zbm iv7 hv7 zcN zaw kv7 za9 zaH (fun i=>zai (zaR.get i)) rfl (fun i=>zac (hv7.get i)) rfl (fun i=>zaJ (za9.get i)) rfl (fun i=>zai (zaH.get i)) rfl hs hk)) hs hk)
  exact key _ zaT zay zaR zbm iv7 hv7 zcN zaw kv7 za9 zaH zce zgG zfJ zvi zcO ziy zcf zgH hs hk
def zre (S5:Int→Bool→(Sl step)→Int→(Sl (Sl Tab))→(Sl step)) (w:web) (zav:(Sl (Sl Tab))) (S6:Int→Bool→(Sl step)→Int→Int→(Sl Tab)→Int→Int→Int→(Sl (Sl Tab))→(Sl step)→(Sl step)) (zbe:Int) (zaG:Bool) (zaX:(Sl step)) (zb2:Int) (iv6:Int) (hv6:(Sl Tab)) (zej:Int) (zaS:Int) (kv6:Int) (zbS:(Sl (Sl Tab))) (za0:(Sl step)):(Sl step) :=
  (cond (decide (kv6 ≥ (0:Int)))
 (zxJ S5 S6 w zav zbe zaG zaX zb2 iv6 hv6 zej zaS kv6 zbS za0)
 (cond zaG
 (znO S5 w zav zbe zaG zaX zb2 true zbS za0)
 (znO S5 w zav zbe zaG zaX zb2 (decide ((zHV za0 zaX) < (0:Int))) zbS za0)))
def zrf (P5:Int→Bool→(Sl step)→Int→(Sl (Sl Tab))→Bool) (w:web) (zav:(Sl (Sl Tab))) (P6:Int→Bool→(Sl step)→Int→Int→(Sl Tab)→Int→Int→Int→(Sl (Sl Tab))→(Sl step)→Bool) (zbe:Int) (zaG:Bool) (zaX:(Sl step)) (zb2:Int) (iv6:Int) (hv6:(Sl Tab)) (zej:Int) (zaS:Int) (kv6:Int) (zbS:(Sl (Sl Tab))) (za0:(Sl step)):Bool :=
  (cond (decide (kv6 ≥ (0:Int)))
 (zrd P5 P6 w zav zbe zaG zaX zb2 iv6 hv6 zej zaS kv6 zbS za0)
 (decide ((zaG=true∨zaX.len ≠ 0)) &&
 (cond zaG
 (znP P5 w zav zbe zaG zaX zb2 true zbS za0)
 (decide ((zK3 za0 zaX=true)) &&
 (znP P5 w zav zbe zaG zaX zb2 (decide ((zHV za0 zaX) < (0:Int))) zbS za0)))))
def zk4 (S5 : Int → Bool → (Sl step) → Int → (Sl (Sl Tab)) → (Sl step)) (w : web) (zav : (Sl (Sl Tab))) : Nat → Int → Bool → (Sl step) → Int → Int → (Sl Tab) → Int → Int → Int → (Sl (Sl Tab)) → (Sl step) → (Sl step)
  | 0=>fun _ _ _ _ _ _ _ _ _ _ _=>default
  | k+1=>zre S5 w zav (zk4 S5 w zav k)
def zk5 (P5 : Int → Bool → (Sl step) → Int → (Sl (Sl Tab)) → Bool) (w : web) (zav : (Sl (Sl Tab))) : Nat → Int → Bool → (Sl step) → Int → Int → (Sl Tab) → Int → Int → Int → (Sl (Sl Tab)) → (Sl step) → Bool
  | 0=>fun _ _ _ _ _ _ _ _ _ _ _=>false
  | k+1=>zrf P5 w zav (zk5 P5 w zav k)
def zxK (S5:Int→Bool→(Sl step)→Int→(Sl (Sl Tab))→(Sl step)) (w:web) (zav:(Sl (Sl Tab))) (zbe:Int) (zaG:Bool) (zaX:(Sl step)) (zb2:Int) (iv6:Int) (hv6:(Sl Tab)) (zej:Int) (zaS:Int) (kv6:Int) (zbS:(Sl (Sl Tab))) (za0:(Sl step)):(Sl step):=zk4 S5 w zav Fuel zbe zaG zaX zb2 iv6 hv6 zej zaS kv6 zbS za0
def zxL (P5:Int→Bool→(Sl step)→Int→(Sl (Sl Tab))→Bool) (w:web) (zav:(Sl (Sl Tab))) (zbe:Int) (zaG:Bool) (zaX:(Sl step)) (zb2:Int) (iv6:Int) (hv6:(Sl Tab)) (zej:Int) (zaS:Int) (kv6:Int) (zbS:(Sl (Sl Tab))) (za0:(Sl step)):Bool:=zk5 P5 w zav Fuel zbe zaG zaX zb2 iv6 hv6 zej zaS kv6 zbS za0
theorem zFd (K : List PA → Prop) (w : web) (zav : (Sl (Sl Tab)))
  (X5:St→Prop) (P5:Int→Bool→(Sl step)→Int→(Sl (Sl Tab))→Bool) (S5:Int→Bool→(Sl step)→Int→(Sl (Sl Tab))→(Sl step))
  (hX5:∀ (zaW:Int) (zaI:Bool) (zaZ:(Sl step)) (za2:Int) (zbn:(Sl (Sl Tab))) (zbx:Nat→List PV) (zeM:zbx=fun i=>zai (zaZ.get i)) (zbY:Nat→List PV) (zgc:zbY=fun i=>zaJ (zbn.get i)),P5 zaW zaI zaZ za2 zbn=true→K (e89 (S5 zaW zaI zaZ za2 zbn))→X5 (zfA w zav zaW zaI zaZ.len zbx za2 zbn.len zbY)) (zbe:Int) (zaG:Bool) (zaX:(Sl step)) (zb2:Int) (iv6:Int) (hv6:(Sl Tab)) (zej:Int) (zaS:Int) (kv6:Int) (zbS:(Sl (Sl Tab))) (za0:(Sl step)) (zb1:Nat→List PV) (zgE:zb1=fun i=>zai (zaX.get i)) (zeT:Nat→List PV) (zvh:zeT=fun i=>zac (hv6.get i)) (zcp:Nat→List PV) (zix:zcp=fun i=>zaJ (zbS.get i)) (zb3:Nat→List PV) (zgF:zb3=fun i=>zai (za0.get i)) (hs:zxL P5 w zav zbe zaG zaX zb2 iv6 hv6 zej zaS kv6 zbS za0=true) (hk:K (e89 (zxK S5 w zav zbe zaG zaX zb2 iv6 hv6 zej zaS kv6 zbS za0))):zkZ K X5 w zav zbe zaG zaX.len zb1 zb2 iv6 hv6.len zeT zej zaS kv6 zbS.len zcp za0.len zb3:=by
  refine zxG K X5 w zav zbe zaG zaX.len zb1 zb2 iv6 hv6.len zeT zej zaS kv6 zbS.len zcp za0.len zb3 ?_
  intro X6 hstep
  have key:∀ (k:Nat) (zbe:Int) (zaG:Bool) (zaX:(Sl step)) (zb2:Int) (iv6:Int) (hv6:(Sl Tab)) (zej:Int) (zaS:Int) (kv6:Int) (zbS:(Sl (Sl Tab))) (za0:(Sl step)) (zb1:Nat→List PV) (zgE:zb1=fun i=>zai (zaX.get i)) (zeT:Nat→List PV) (zvh:zeT=fun i=>zac (hv6.get i)) (zcp:Nat→List PV) (zix:zcp=fun i=>zaJ (zbS.get i)) (zb3:Nat→List PV) (zgF:zb3=fun i=>zai (za0.get i)),zk5 P5 w zav k zbe zaG zaX zb2 iv6 hv6 zej zaS kv6 zbS za0=true→K (e89 (zk4 S5 w zav k zbe zaG zaX zb2 iv6 hv6 zej zaS kv6 zbS za0))→X6 (zhX w zav zbe zaG zaX.len zb1 zb2 iv6 hv6.len zeT zej zaS kv6 zbS.len zcp za0.len zb3):=by
    intro k
    induction k with
    | zero=>intro zbe zaG zaX zb2 iv6 hv6 zej zaS kv6 zbS za0 zb1 zgE zeT zvh zcp zix zb3 zgF hs;exact absurd hs Bool.false_ne_true
    | succ k ih =>
      intro zbe zaG zaX zb2 iv6 hv6 zej zaS kv6 zbS za0 zb1 zgE zeT zvh zcp zix zb3 zgF hs hk
      subst zgE
      subst zvh
      subst zix
      subst zgF
      refine hstep zbe zaG zaX zb2 iv6 hv6 zej zaS kv6 zbS za0 ?_
      have hs:zrf P5 w zav (zk5 P5 w zav k) zbe zaG zaX zb2 iv6 hv6 zej zaS kv6 zbS za0=true:=hs
      have hk:K (e89 (zre S5 w zav (zk4 S5 w zav k) zbe zaG zaX zb2 iv6 hv6 zej zaS kv6 zbS za0)):=hk
      unfold zrf at hs
      unfold zre at hk
      generalize zk4 S5 w zav k=S6 at hk ih
      generalize zk5 P5 w zav k=P6 at hs ih
      have hX6:=ih
      exact (za1 (K := fun r => K (e89 r))
 (fun hs hk=>⟨⟨isE,rfl⟩,(zFc K w zav X5 P5 S5 hX5 X6 P6 S6 hX6 zbe zaG zaX zb2 iv6 hv6 zej zaS kv6 zbS za0 (fun i=>zai (zaX.get i)) rfl (fun i=>zac (hv6.get i)) rfl (fun i=>zaJ (zbS.get i)) rfl (fun i=>zai (za0.get i)) rfl hs hk)⟩)
 (fun hs hk => (zaU hs fun hc hs => ⟨hc, (za1 (K := fun r => K (e89 r))
 (fun hs hk=>(zxI K w zav X5 P5 S5 hX5 zbe zaG zaX zb2 true zbS za0 (fun i=>zai (zaX.get i)) rfl (fun i=>zaJ (zbS.get i)) rfl (fun i=>zai (za0.get i)) rfl hs hk))
 (fun hs hk=>(zaU hs fun hc hs=>⟨⟨isE,isE,hc⟩,(zxI K w zav X5 P5 S5 hX5 zbe zaG zaX zb2 (decide ((zHV za0 zaX) < (0:Int))) zbS za0 (fun i=>zai (zaX.get i)) rfl (fun i=>zaJ (zbS.get i)) rfl (fun i=>zai (za0.get i)) rfl hs hk)⟩)) hs hk)⟩)) hs hk)
  exact key _ zbe zaG zaX zb2 iv6 hv6 zej zaS kv6 zbS za0 zb1 zgE zeT zvh zcp zix zb3 zgF hs hk
def zrg (w:web) (zav:(Sl (Sl Tab))) (S5:Int→Bool→(Sl step)→Int→(Sl (Sl Tab))→(Sl step)) (zaW:Int) (zaI:Bool) (zaZ:(Sl step)) (za2:Int) (zbn:(Sl (Sl Tab))):(Sl step) :=
  (cond (decide (za2 < (zav.len : Int)))
 (cond (decide ((tL ((zbn.get za2.toNat).get zaW.toNat) za2) ≥ (0:Int)))
 (S5 zaW zaI zaZ (w64 (za2+(1:Int))) zbn)
 (zxK S5 w zav zaW zaI zaZ za2 za2 (zbn.get za2.toNat) za2 (0:Int) (w64 (zaW - (1:Int))) zbn (⟨0,(fun _=>default)⟩:Sl step)))
 zaZ)
def zrh (w:web) (zav:(Sl (Sl Tab))) (P5:Int→Bool→(Sl step)→Int→(Sl (Sl Tab))→Bool) (zaW:Int) (zaI:Bool) (zaZ:(Sl step)) (za2:Int) (zbn:(Sl (Sl Tab))):Bool :=
  (cond (decide (za2 < (zav.len : Int)))
 (decide ((0≤za2∧za2 < (zbn.len:Int))) &&
 (decide ((za2.toNat < zbn.len)) &&
 (decide ((0≤zaW∧zaW < ((zbn.get za2.toNat).len:Int))) &&
 (decide ((0≤za2∧za2 < (40:Int))) &&
 (cond (decide ((tL ((zbn.get za2.toNat).get zaW.toNat) za2) ≥ (0:Int)))
 (P5 zaW zaI zaZ (w64 (za2+(1:Int))) zbn)
 (zxL P5 w zav zaW zaI zaZ za2 za2 (zbn.get za2.toNat) za2 (0:Int) (w64 (zaW - (1:Int))) zbn (⟨0,(fun _=>default)⟩:Sl step)))))))
 true)
def zk6 (w : web) (zav : (Sl (Sl Tab))) : Nat → Int → Bool → (Sl step) → Int → (Sl (Sl Tab)) → (Sl step)
  | 0=>fun _ _ _ _ _=>default
  | k+1=>zrg w zav (zk6 w zav k)
def zk7 (w : web) (zav : (Sl (Sl Tab))) : Nat → Int → Bool → (Sl step) → Int → (Sl (Sl Tab)) → Bool
  | 0=>fun _ _ _ _ _=>false
  | k+1=>zrh w zav (zk7 w zav k)
def zxM (w:web) (zav:(Sl (Sl Tab))) (zaW:Int) (zaI:Bool) (zaZ:(Sl step)) (za2:Int) (zbn:(Sl (Sl Tab))):(Sl step):=zk6 w zav Fuel zaW zaI zaZ za2 zbn
def zxN (w:web) (zav:(Sl (Sl Tab))) (zaW:Int) (zaI:Bool) (zaZ:(Sl step)) (za2:Int) (zbn:(Sl (Sl Tab))):Bool:=zk7 w zav Fuel zaW zaI zaZ za2 zbn
theorem zFe (K:List PA→Prop) (w:web) (zav:(Sl (Sl Tab))) (zaW:Int) (zaI:Bool) (zaZ:(Sl step)) (za2:Int) (zbn:(Sl (Sl Tab))) (zbx:Nat→List PV) (zeM:zbx=fun i=>zai (zaZ.get i)) (zbY:Nat→List PV) (zgc:zbY=fun i=>zaJ (zbn.get i)) (hs:zxN w zav zaW zaI zaZ za2 zbn=true) (hk:K (e89 (zxM w zav zaW zaI zaZ za2 zbn))):zkY K w zav zaW zaI zaZ.len zbx za2 zbn.len zbY:=by
  refine zxF K w zav zaW zaI zaZ.len zbx za2 zbn.len zbY ?_
  intro X5 hstep
  have key:∀ (k:Nat) (zaW:Int) (zaI:Bool) (zaZ:(Sl step)) (za2:Int) (zbn:(Sl (Sl Tab))) (zbx:Nat→List PV) (zeM:zbx=fun i=>zai (zaZ.get i)) (zbY:Nat→List PV) (zgc:zbY=fun i=>zaJ (zbn.get i)),zk7 w zav k zaW zaI zaZ za2 zbn=true→K (e89 (zk6 w zav k zaW zaI zaZ za2 zbn))→X5 (zfA w zav zaW zaI zaZ.len zbx za2 zbn.len zbY):=by
    intro k
    induction k with
    | zero=>intro zaW zaI zaZ za2 zbn zbx zeM zbY zgc hs;exact absurd hs Bool.false_ne_true
    | succ k ih =>
      intro zaW zaI zaZ za2 zbn zbx zeM zbY zgc hs hk
      subst zeM
      subst zgc
      refine hstep zaW zaI zaZ za2 zbn ?_
      have hs:zrh w zav (zk7 w zav k) zaW zaI zaZ za2 zbn=true:=hs
      have hk:K (e89 (zrg w zav (zk6 w zav k) zaW zaI zaZ za2 zbn)):=hk
      unfold zrh at hs
      unfold zrg at hk
      generalize zk6 w zav k=S5 at hk ih
      generalize zk7 w zav k=P5 at hs ih
      have hX5:=ih
      exact (za1 (K := fun r => K (e89 r))
 (fun hs hk => (zaU hs fun hc hs => ⟨hc, (zaU hs fun hc hs => ⟨hc, (zaU hs fun hc hs => ⟨hc, (zaU hs fun hc hs => ⟨hc, (za1 (K := fun r => K (e89 r))
 (fun hs hk=>(hX5 zaW zaI zaZ (w64 (za2+(1:Int))) zbn (fun i=>zai (zaZ.get i)) rfl (fun i=>zaJ (zbn.get i)) rfl hs hk))
 (fun hs hk=>(zFd K w zav X5 P5 S5 hX5 zaW zaI zaZ za2 za2 (zbn.get za2.toNat) za2 (0:Int) (w64 (zaW - (1:Int))) zbn (⟨0,(fun _=>default)⟩:Sl step) (fun i=>zai (zaZ.get i)) rfl (fun i=>zac ((zbn.get za2.toNat).get i)) rfl (fun i=>zaJ (zbn.get i)) rfl (fun i=>zai ((fun _=>default) i)) rfl hs hk)) hs hk)⟩)⟩)⟩)⟩))
 (fun hs hk=>hk) hs hk)
  exact key _ zaW zaI zaZ za2 zbn zbx zeM zbY zgc hs hk
def znQ (w:web) (zdM:Int) (zav:(Sl (Sl Tab))):(Sl step) :=
  (zxM w zav zdM true (⟨0,(fun _=>default)⟩:Sl step) (0:Int) zav)
def znR (w:web) (zdM:Int) (zav:(Sl (Sl Tab))):Bool :=
  (zxN w zav zdM true (⟨0,(fun _=>default)⟩:Sl step) (0:Int) zav)
theorem zxO (K:List PA→Prop) (w:web) (zdM:Int) (zav:(Sl (Sl Tab))) (ziv:Nat→List PV) (zFf:ziv=fun i=>zaJ (zav.get i)) (hs:znR w zdM zav=true) (hk:K (e89 (znQ w zdM zav))):zkX K w zdM zav.len ziv:=by
  subst zFf
  refine zbb (zE9 K w zdM zav) ?_
  unfold znR at hs
  unfold znQ at hk
  exact (zFe K w zav zdM true (⟨0,(fun _=>default)⟩:Sl step) (0:Int) zav (fun i=>zai ((fun _=>default) i)) rfl (fun i=>zaJ (zav.get i)) rfl hs hk)
def zri (S2:Int→(Sl step)) (w:web) (zaO:(Sl (Sl Tab))) (S3:Int→Int→(Sl step)) (za8:Int) (zbH:Int):(Sl step) :=
  (cond (decide (zbH < (zaO.len : Int)))
 (cond (decide ((tL ((zaO.get zbH.toNat).get za8.toNat) zbH) < (0:Int)))
 (znQ w za8 zaO)
 (S3 za8 (w64 (zbH+(1:Int)))))
 (S2 (w64 (za8+(1:Int)))))
def zrj (P2:Int→Bool) (w:web) (zaO:(Sl (Sl Tab))) (P3:Int→Int→Bool) (za8:Int) (zbH:Int):Bool :=
  (cond (decide (zbH < (zaO.len : Int)))
 (decide ((0≤zbH∧zbH < (zaO.len:Int))) &&
 (decide ((zbH.toNat < zaO.len)) &&
 (decide ((0≤za8∧za8 < ((zaO.get zbH.toNat).len:Int))) &&
 (decide ((0≤zbH∧zbH < (40:Int))) &&
 (cond (decide ((tL ((zaO.get zbH.toNat).get za8.toNat) zbH) < (0:Int)))
 (znR w za8 zaO)
 (P3 za8 (w64 (zbH+(1:Int)))))))))
 (P2 (w64 (za8+(1:Int)))))
def zk8 (S2 : Int → (Sl step)) (w : web) (zaO : (Sl (Sl Tab))) : Nat → Int → Int → (Sl step)
  | 0=>fun _ _=>default
  | k+1=>zri S2 w zaO (zk8 S2 w zaO k)
def zk9 (P2 : Int → Bool) (w : web) (zaO : (Sl (Sl Tab))) : Nat → Int → Int → Bool
  | 0=>fun _ _=>false
  | k+1=>zrj P2 w zaO (zk9 P2 w zaO k)
def zxP (S2:Int→(Sl step)) (w:web) (zaO:(Sl (Sl Tab))) (za8:Int) (zbH:Int):(Sl step):=zk8 S2 w zaO Fuel za8 zbH
def zxQ (P2:Int→Bool) (w:web) (zaO:(Sl (Sl Tab))) (za8:Int) (zbH:Int):Bool:=zk9 P2 w zaO Fuel za8 zbH
theorem zFg (K : List PA → Prop) (w : web) (zaO : (Sl (Sl Tab)))
  (X2:St→Prop) (P2:Int→Bool) (S2:Int→(Sl step))
  (hX2:∀ (zbg:Int),P2 zbg=true→K (e89 (S2 zbg))→X2 (zjg w zaO zbg)) (za8:Int) (zbH:Int) (hs:zxQ P2 w zaO za8 zbH=true) (hk:K (e89 (zxP S2 w zaO za8 zbH))):zkW K X2 w zaO za8 zbH:=by
  refine zxE K X2 w zaO za8 zbH ?_
  intro X3 hstep
  have key:∀ (k:Nat) (za8:Int) (zbH:Int),zk9 P2 w zaO k za8 zbH=true→K (e89 (zk8 S2 w zaO k za8 zbH))→X3 (zkV w zaO za8 zbH):=by
    intro k
    induction k with
    | zero=>intro za8 zbH hs;exact absurd hs Bool.false_ne_true
    | succ k ih =>
      intro za8 zbH hs hk
      refine hstep za8 zbH ?_
      have hs:zrj P2 w zaO (zk9 P2 w zaO k) za8 zbH=true:=hs
      have hk:K (e89 (zri S2 w zaO (zk8 S2 w zaO k) za8 zbH)):=hk
      unfold zrj at hs
      unfold zri at hk
      generalize zk8 S2 w zaO k=S3 at hk ih
      generalize zk9 P2 w zaO k=P3 at hs ih
      have hX3:=ih
      exact (za1 (K := fun r => K (e89 r))
 (fun hs hk => (zaU hs fun hc hs => ⟨hc, (zaU hs fun hc hs => ⟨hc, (zaU hs fun hc hs => ⟨hc, (zaU hs fun hc hs => ⟨hc, (za1 (K := fun r => K (e89 r))
 (fun hs hk=>(zxO K w za8 zaO (fun i=>zaJ (zaO.get i)) rfl hs hk))
 (fun hs hk=>(hX3 za8 (w64 (zbH+(1:Int))) hs hk)) hs hk)⟩)⟩)⟩)⟩))
 (fun hs hk=>(hX2 (w64 (za8+(1:Int))) hs hk)) hs hk)
  exact key _ za8 zbH hs hk
def zrk (w:web) (zaO:(Sl (Sl Tab))) (S2:Int→(Sl step)) (zbg:Int):(Sl step) :=
  (cond (decide (zbg < w.Net.Nodes))
 (zxP S2 w zaO zbg (0:Int))
 (znQ w zbg zaO))
def zrl (w:web) (zaO:(Sl (Sl Tab))) (P2:Int→Bool) (zbg:Int):Bool :=
  (cond (decide (zbg < w.Net.Nodes))
 (zxQ P2 w zaO zbg (0:Int))
 (znR w zbg zaO))
def zla (w : web) (zaO : (Sl (Sl Tab))) : Nat → Int → (Sl step)
  | 0=>fun _=>default
  | k+1=>zrk w zaO (zla w zaO k)
def zlb (w : web) (zaO : (Sl (Sl Tab))) : Nat → Int → Bool
  | 0=>fun _=>false
  | k+1=>zrl w zaO (zlb w zaO k)
def zxR (w:web) (zaO:(Sl (Sl Tab))) (zbg:Int):(Sl step):=zla w zaO Fuel zbg
def zxS (w:web) (zaO:(Sl (Sl Tab))) (zbg:Int):Bool:=zlb w zaO Fuel zbg
theorem zFh (K:List PA→Prop) (w:web) (zaO:(Sl (Sl Tab))) (zbg:Int) (hs:zxS w zaO zbg=true) (hk:K (e89 (zxR w zaO zbg))):zkU K w zaO zbg:=by
  refine zxD K w zaO zbg ?_
  intro X2 hstep
  have key:∀ (k:Nat) (zbg:Int),zlb w zaO k zbg=true→K (e89 (zla w zaO k zbg))→X2 (zjg w zaO zbg):=by
    intro k
    induction k with
    | zero=>intro zbg hs;exact absurd hs Bool.false_ne_true
    | succ k ih =>
      intro zbg hs hk
      refine hstep zbg ?_
      have hs:zrl w zaO (zlb w zaO k) zbg=true:=hs
      have hk:K (e89 (zrk w zaO (zla w zaO k) zbg)):=hk
      unfold zrl at hs
      unfold zrk at hk
      generalize zla w zaO k=S2 at hk ih
      generalize zlb w zaO k=P2 at hs ih
      have hX2:=ih
      exact (za1 (K := fun r => K (e89 r))
 (fun hs hk=>(zFg K w zaO X2 P2 S2 hX2 zbg (0:Int) hs hk))
 (fun hs hk=>(zxO K w zbg zaO (fun i=>zaJ (zaO.get i)) rfl hs hk)) hs hk)
  exact key _ zbg hs hk
def zrm (w:web) (zaO:(Sl (Sl Tab))):(Sl step) :=
  (zxR w zaO (1:Int))
def zrn (w:web) (zaO:(Sl (Sl Tab))):Bool :=
  (zxS w zaO (1:Int))
theorem zFi (K:List PA→Prop) (w:web) (zaO:(Sl (Sl Tab))) (ziu:Nat→List PV) (zFj:ziu=fun i=>zaJ (zaO.get i)) (hs:zrn w zaO=true) (hk:K (e89 (zrm w zaO))):znL K w zaO.len ziu:=by
  subst zFj
  refine zbb (zE8 K w zaO) ?_
  unfold zrn at hs
  unfold zrm at hk
  exact (zFh K w zaO (1:Int) hs hk)
def zro (w:web) (S0:Int→(Sl (Sl Tab))→(Sl step)) (zbA:Int) (zb7:(Sl (Sl Tab))):(Sl step) :=
  (cond (decide (zbA < (w.Net.Nodes.toNat : Int)))
 (S0 (w64 (zbA+(1:Int))) (⟨zb7.len,(setT zbA.toNat (zxm w zbA w.Net.Nodes) zb7.get)⟩:Sl (Sl Tab)))
 (zrm w zb7))
def zrp (w:web) (P0:Int→(Sl (Sl Tab))→Bool) (zbA:Int) (zb7:(Sl (Sl Tab))):Bool :=
  (cond (decide (zbA < (w.Net.Nodes.toNat : Int)))
 (decide ((zI0 w zbA w.Net.Nodes=true)) &&
 (decide ((0≤zbA∧zbA < (zb7.len:Int))) &&
 (decide ((zbA.toNat < zb7.len)) &&
 (P0 (w64 (zbA+(1:Int))) (⟨zb7.len,(setT zbA.toNat (zxm w zbA w.Net.Nodes) zb7.get)⟩:Sl (Sl Tab))))))
 (zrn w zb7))
def zlc (w : web) : Nat → Int → (Sl (Sl Tab)) → (Sl step)
  | 0=>fun _ _=>default
  | k+1=>zro w (zlc w k)
def zld (w : web) : Nat → Int → (Sl (Sl Tab)) → Bool
  | 0=>fun _ _=>false
  | k+1=>zrp w (zld w k)
def zxT (w:web) (zbA:Int) (zb7:(Sl (Sl Tab))):(Sl step):=zlc w Fuel zbA zb7
def zxU (w:web) (zbA:Int) (zb7:(Sl (Sl Tab))):Bool:=zld w Fuel zbA zb7
theorem zFk (K:List PA→Prop) (w:web) (zbA:Int) (zb7:(Sl (Sl Tab))) (zcM:Nat→List PV) (zle:zcM=fun i=>zaJ (zb7.get i)) (hs:zxU w zbA zb7=true) (hk:K (e89 (zxT w zbA zb7))):zkT K w zbA zb7.len zcM:=by
  refine zxC K w zbA zb7.len zcM ?_
  intro X0 hstep
  have key:∀ (k:Nat) (zbA:Int) (zb7:(Sl (Sl Tab))) (zcM:Nat→List PV) (zle:zcM=fun i=>zaJ (zb7.get i)),zld w k zbA zb7=true→K (e89 (zlc w k zbA zb7))→X0 (zkS w zbA zb7.len zcM):=by
    intro k
    induction k with
    | zero=>intro zbA zb7 zcM zle hs;exact absurd hs Bool.false_ne_true
    | succ k ih =>
      intro zbA zb7 zcM zle hs hk
      subst zle
      refine hstep zbA zb7 ?_
      have hs:zrp w (zld w k) zbA zb7=true:=hs
      have hk:K (e89 (zro w (zlc w k) zbA zb7)):=hk
      unfold zrp at hs
      unfold zro at hk
      generalize zlc w k=S0 at hk ih
      generalize zld w k=P0 at hs ih
      have hX0:=ih
      exact (za1 (K := fun r => K (e89 r))
 (fun hs hk=>(zaU hs fun hc hs=>⟨⟨isE,rfl,hc⟩,(zaU hs fun hc hs=>⟨hc,(zaU hs fun hc hs=>⟨hc,(hX0 (w64 (zbA+(1:Int))) (⟨zb7.len,(setT zbA.toNat (zxm w zbA w.Net.Nodes) zb7.get)⟩:Sl (Sl Tab)) (zju zbA.toNat 0 (fun i=>zaJ (zb7.get i)) (zaJ (zxm w zbA w.Net.Nodes))) (zfz (enc:=zaJ) (i:=zbA.toNat) (k:=0) (f:=zb7.get) (new:=(zaJ (zxm w zbA w.Net.Nodes))) (v:=(zxm w zbA w.Net.Nodes)) rfl rfl) hs hk)⟩)⟩)⟩))
 (fun hs hk=>(zFi K w zb7 (fun i=>zaJ (zb7.get i)) rfl hs hk)) hs hk)
  exact key _ zbA zb7 zcM zle hs hk
def s89 (w:web):(Sl step) :=
  (zxT w (0:Int) (⟨w.Net.Nodes.toNat,(fun _=>(⟨0,fun _=>(fun _=>(0:Int))⟩:(Sl Tab)))⟩:Sl (Sl Tab)))
def p89 (w:web):Bool :=
  (decide ((0≤w.Net.Nodes∧w.Net.Nodes=w.Net.Nodes∧w.Net.Nodes≤1000000)) &&
 (zxU w (0:Int) (⟨w.Net.Nodes.toNat,(fun _=>(⟨0,fun _=>(fun _=>(0:Int))⟩:(Sl Tab)))⟩:Sl (Sl Tab))))
theorem q89 (w:web) (K:List PA→Prop) (hs:p89 w=true) (hk:K (e89 (s89 w))):vcFun Tryd.prog G89 zaY 89 [.one (.fp (zaD w) 0)] K:=by
  refine zbb (zE7 w K) ?_
  unfold p89 at hs
  unfold s89 at hk
  exact (zaU hs fun hc hs=>⟨hc,(zFk K w (0:Int) (⟨w.Net.Nodes.toNat,(fun _=>(⟨0,fun _=>(fun _=>(0:Int))⟩:(Sl Tab)))⟩:Sl (Sl Tab)) (fun _=>(zaJ (⟨0,fun _=>(fun _=>(0:Int))⟩:(Sl Tab)))) rfl hs hk)⟩)
def zCh : List PA → COut
  | [.one (.fp [.int .i64 zam,.sl zaj zaB zak,.fm zbd zaE zaF] 0)]=>.det (IsE enc_40 4 zaB zak∧zbd=(false,1,false,[none])∧p89 (⟨(⟨zam,(⟨zaj,zao zak⟩:(Sl Tie))⟩:Net),(⟨zaE,zaF⟩:Mp)⟩:web)=true) [.one (.sl ((s89 (⟨(⟨zam,(⟨zaj,zao zak⟩:(Sl Tie))⟩:Net),(⟨zaE,zaF⟩:Mp)⟩:web)).len) 5 (fun i=>zai ((s89 (⟨(⟨zam,(⟨zaj,zao zak⟩:(Sl Tie))⟩:Net),(⟨zaE,zaF⟩:Mp)⟩:web)).get i)))]
  | _=>.no
theorem zJd:zax Tryd.prog 89:=⟨_,rfl,rfl,by kernel_rfl⟩
theorem zM2:Ok Tryd.prog 89 zCh:=zbv zLI zJd fun args K h=>by
  unfold zCh at h
  split at h
  · rename_i zam zaj zaB zak zbd zaE zaF
    obtain ⟨⟨⟨rfl,zat,rfl⟩,rfl,hs⟩,hk⟩:=h
    try rw [zan zat] at hs
    try rw [zan zat] at hk
    exact ⟨(fun _ _=>[]),(fun _=>false),zaY,q89 (⟨(⟨zam,(⟨zaj,zat⟩:(Sl Tie))⟩:Net),(⟨zaE,zaF⟩:Mp)⟩:web) K hs hk⟩
  · exact h.elim
end Go.Proofs
/-
  DERIVED: THE SHELF's CONTRACTS AT THIS DUMP,IN PLAIN WORDS (tools/lay-plain.mjs out of 'YtedhjaaikeakoaaDoorPmLk.lean',which tools/lay-shelf.mjs wrote): THE SAME DECLARATIONS UNDER THE SAME NAMES: 'import','namespace','open','def','theorem' AND NOTHING ELSE: no command of the shelf's: FOR A HAND-IN. Each laying: the table of numbers ('.._ren') and one theorem,a field a fact of the dump's own or the kernel's comparison;each contract: ONE APPLICATION.
-/
namespace Go.Proofs
open Go.Shelf
def Tryd.keysA_ren:Go.Shelf.Ren:=⟨fun | 7=>103 | 10=>117 | n=>n,fun | 23=>103 | 26=>3 | 3=>4 | 28=>152 | 0=>0 | 27=>151 | 33=>169 | 4=>4 | n=>n,fun | n=>n⟩
theorem Tryd.keysA : Go.Proofs.SlLaysZI.n7 Tryd.prog Tryd.keysA_ren := {
  mixed:=by kernel_rfl
  f7:=⟨Tryd.f103.name,by decide,Tryd.func103.trans (congrArg some (by kernel_rfl))⟩
  f10:=⟨Tryd.f117.name,by decide,Tryd.func117.trans (congrArg some (by kernel_rfl))⟩
  t0:=Tryd.underlying0
  a0:=Tryd.isAgg0
  z0:=Tryd.sizeOf0
  v0:=Tryd.zeroValue0
  t4:=Tryd.underlying4
  a4:=Tryd.isAgg4
  z4:=Tryd.sizeOf4
  v4:=Tryd.zeroValue4
  t23:=Tryd.underlying103
  a23:=Tryd.isAgg103
  z23:=Tryd.sizeOf103
  v23:=Tryd.zeroValue103
  t26:=Tryd.underlying3
  a26:=Tryd.isAgg3
  z26:=Tryd.sizeOf3
  v26:=Tryd.zeroValue3
  t27:=Tryd.underlying151
  a27:=Tryd.isAgg151
  z27:=Tryd.sizeOf151
  v27:=Tryd.zeroValue151
  t28:=Tryd.underlying152
  a28:=Tryd.isAgg152
  z28:=Tryd.sizeOf152
  v28:=Tryd.zeroValue152
  t33:=Tryd.underlying169
  a33:=Tryd.isAgg169
  z33:=Tryd.sizeOf169
  v33:=Tryd.zeroValue169 }
def Tryd.sortedA_ren:Go.Shelf.Ren:=⟨fun | 6=>102 | 8=>115 | 9=>116 | 11=>129 | 13=>113 | 12=>130 | 23=>127 | 24=>128 | 14=>136 | 15=>137 | 16=>138 | 17=>139 | 18=>140 | 19=>141 | 20=>142 | 21=>143 | 22=>144 | 25=>146 | 26=>132 | 27=>133 | 28=>147 | 29=>148 | 30=>114 | 31=>149 | n=>n,fun | 26=>3 | 28=>152 | 24=>27 | 0=>0 | 3=>3 | 37=>168 | 48=>182 | 50=>184 | 4=>4 | 40=>175 | 39=>174 | 45=>179 | 5=>5 | 9=>9 | 51=>187 | 55=>191 | 57=>199 | 58=>200 | 33=>169 | n=>n,fun | n=>n⟩
theorem Tryd.sortedA : Go.Proofs.SlLaysZI.n6 Tryd.prog Tryd.sortedA_ren := {
  mixed:=by kernel_rfl
  f6:=⟨Tryd.f102.name,by decide,Tryd.func102.trans (congrArg some (by kernel_rfl))⟩
  f8:=⟨Tryd.f115.name,by decide,Tryd.func115.trans (congrArg some (by kernel_rfl))⟩
  f11:=⟨Tryd.f129.name,by decide,Tryd.func129.trans (congrArg some (by kernel_rfl))⟩
  t0:=Tryd.underlying0
  a0:=Tryd.isAgg0
  z0:=Tryd.sizeOf0
  v0:=Tryd.zeroValue0
  t24:=Tryd.underlying27
  a24:=Tryd.isAgg27
  z24:=Tryd.sizeOf27
  v24:=Tryd.zeroValue27
  t26:=Tryd.underlying3
  a26:=Tryd.isAgg3
  z26:=Tryd.sizeOf3
  v26:=Tryd.zeroValue3
  t28:=Tryd.underlying152
  a28:=Tryd.isAgg152
  z28:=Tryd.sizeOf152
  v28:=Tryd.zeroValue152
  i26:=by kernel_rfl }
def Tryd.sortA_ren:Go.Shelf.Ren:=⟨fun | 5=>116 | 8=>113 | 7=>130 | 19=>127 | 20=>128 | 10=>136 | 11=>137 | 12=>138 | 13=>139 | 14=>140 | 15=>141 | 16=>142 | 17=>143 | 18=>144 | 30=>146 | 31=>132 | 32=>133 | 33=>147 | 34=>148 | 35=>114 | 40=>149 | n=>n,fun | 23=>27 | 25=>3 | 3=>3 | 32=>168 | 22=>27 | 0=>0 | 44=>182 | 46=>184 | 4=>4 | 36=>175 | 35=>174 | 41=>179 | 5=>5 | 9=>9 | 53=>187 | 57=>191 | 63=>199 | 64=>200 | n=>n,fun | n=>n⟩
theorem Tryd.sortA : Go.Proofs.SlLaysM.n5 Tryd.prog Tryd.sortA_ren := {
  mixed:=by kernel_rfl
  f5:=⟨Tryd.f116.name,by decide,Tryd.func116.trans (congrArg some (by kernel_rfl))⟩
  f7:=⟨Tryd.f130.name,by decide,Tryd.func130.trans (congrArg some (by kernel_rfl))⟩
  f8:=Tryd.func113.trans (congrArg some (by kernel_rfl))
  f10:=⟨Tryd.f136.name,by decide,Tryd.func136.trans (congrArg some (by kernel_rfl))⟩
  f11:=⟨Tryd.f137.name,by decide,Tryd.func137.trans (congrArg some (by kernel_rfl))⟩
  f12:=⟨Tryd.f138.name,by decide,Tryd.func138.trans (congrArg some (by kernel_rfl))⟩
  f13:=⟨Tryd.f139.name,by decide,Tryd.func139.trans (congrArg some (by kernel_rfl))⟩
  f14:=⟨Tryd.f140.name,by decide,Tryd.func140.trans (congrArg some (by kernel_rfl))⟩
  f15:=⟨Tryd.f141.name,by decide,Tryd.func141.trans (congrArg some (by kernel_rfl))⟩
  f16:=⟨Tryd.f142.name,by decide,Tryd.func142.trans (congrArg some (by kernel_rfl))⟩
  f17:=⟨Tryd.f143.name,by decide,Tryd.func143.trans (congrArg some (by kernel_rfl))⟩
  f18:=⟨Tryd.f144.name,by decide,Tryd.func144.trans (congrArg some (by kernel_rfl))⟩
  f19:=Tryd.func127.trans (congrArg some (by kernel_rfl))
  f20:=Tryd.func128.trans (congrArg some (by kernel_rfl))
  f30:=⟨Tryd.f146.name,by decide,Tryd.func146.trans (congrArg some (by kernel_rfl))⟩
  f31:=Tryd.func132.trans (congrArg some (by kernel_rfl))
  f32:=Tryd.func133.trans (congrArg some (by kernel_rfl))
  f33:=⟨Tryd.f147.name,by decide,Tryd.func147.trans (congrArg some (by kernel_rfl))⟩
  f34:=⟨Tryd.f148.name,by decide,Tryd.func148.trans (congrArg some (by kernel_rfl))⟩
  f35:=⟨Tryd.f114.name,by decide,Tryd.func114.trans (congrArg some (by kernel_rfl))⟩
  f40:=⟨Tryd.f149.name,by decide,Tryd.func149.trans (congrArg some (by kernel_rfl))⟩
  t0:=Tryd.underlying0
  a0:=Tryd.isAgg0
  z0:=Tryd.sizeOf0
  v0:=Tryd.zeroValue0
  t3:=Tryd.underlying3
  a3:=Tryd.isAgg3
  z3:=Tryd.sizeOf3
  v3:=Tryd.zeroValue3
  t4:=Tryd.underlying4
  a4:=Tryd.isAgg4
  z4:=Tryd.sizeOf4
  v4:=Tryd.zeroValue4
  t5:=Tryd.underlying5
  a5:=Tryd.isAgg5
  z5:=Tryd.sizeOf5
  v5:=Tryd.zeroValue5
  t9:=Tryd.underlying9
  a9:=Tryd.isAgg9
  z9:=Tryd.sizeOf9
  v9:=Tryd.zeroValue9
  t22:=Tryd.underlying27
  a22:=Tryd.isAgg27
  z22:=Tryd.sizeOf27
  v22:=Tryd.zeroValue27
  t23:=Tryd.underlying27
  a23:=Tryd.isAgg27
  z23:=Tryd.sizeOf27
  v23:=Tryd.zeroValue27
  t25:=Tryd.underlying3
  a25:=Tryd.isAgg3
  z25:=Tryd.sizeOf3
  v25:=Tryd.zeroValue3
  t32:=Tryd.underlying168
  a32:=Tryd.isAgg168
  z32:=Tryd.sizeOf168
  v32:=Tryd.zeroValue168
  t35:=Tryd.underlying174
  a35:=Tryd.isAgg174
  z35:=Tryd.sizeOf174
  v35:=Tryd.zeroValue174
  t36:=Tryd.underlying175
  a36:=Tryd.isAgg175
  z36:=Tryd.sizeOf175
  v36:=Tryd.zeroValue175
  t41:=Tryd.underlying179
  a41:=Tryd.isAgg179
  z41:=Tryd.sizeOf179
  v41:=Tryd.zeroValue179
  t44:=Tryd.underlying182
  a44:=Tryd.isAgg182
  z44:=Tryd.sizeOf182
  v44:=Tryd.zeroValue182
  t46:=Tryd.underlying184
  a46:=Tryd.isAgg184
  z46:=Tryd.sizeOf184
  v46:=Tryd.zeroValue184
  t53:=Tryd.underlying187
  a53:=Tryd.isAgg187
  z53:=Tryd.sizeOf187
  v53:=Tryd.zeroValue187
  t57:=Tryd.underlying191
  a57:=Tryd.isAgg191
  z57:=Tryd.sizeOf191
  v57:=Tryd.zeroValue191
  t63:=Tryd.underlying199
  a63:=Tryd.isAgg199
  z63:=Tryd.sizeOf199
  v63:=Tryd.zeroValue199
  t64:=Tryd.underlying200
  a64:=Tryd.isAgg200
  z64:=Tryd.sizeOf200
  v64:=Tryd.zeroValue200 }
end Go.Proofs
namespace Go.Pm
open Go.RowKit Go.Maps Go.Sort Go.Shelf Go.Proofs
set_option maxRecDepth 100000

theorem zlf {F : List Int → Option (List Int)} : ∀ (f : Nat) (i : Int) (n : Nat) (l : List Int), zvq F f i n = some l → l.length = n ∧ (∀ x ∈ l, F [x] ≠ none ∧ i ≤ x ∧ x < i + f) ∧ l.Pairwise (· < ·)
  | _,_,0,l,h=>by simp [zvq] at h;subst h;exact ⟨rfl,fun x hx=>by simp at hx,List.Pairwise.nil⟩
  | 0,_,n+1,l,h=>by simp [zvq] at h
  | f+1,i,n+1,l,h=>by
    simp only [zvq] at h
    split at h
    · rename_i v hv
      split at h
      · rename_i r hr
        simp only [Option.some.injEq] at h;subst h
        obtain ⟨h1,h2,h3⟩:=zlf f (i+1) n r hr
        refine ⟨by simp [h1],fun x hx=>?_,List.pairwise_cons.2 ⟨fun x hx=>by have:=h2 x hx;omega,h3⟩⟩
        rcases List.mem_cons.1 hx with rfl | hx
        · exact ⟨by rw [hv];simp,by omega,by omega⟩
        · have:=h2 x hx;exact ⟨this.1,by omega,by omega⟩
      · cases h
    · obtain ⟨h1, h2, h3⟩ := zlf f (i + 1) (n + 1) l h
      exact ⟨h1,fun x hx=>by have:=h2 x hx;exact ⟨this.1,by omega,by omega⟩,h3⟩
theorem zlg {α : Type} [DecidableEq α] : ∀ {l m : List α}, l.Nodup → (∀ x ∈ l, x ∈ m) → m.length ≤ l.length → l.Perm m
  | [],m,_,_,h=>by
    have:m=[]:=List.eq_nil_of_length_eq_zero (by simpa using h)
    subst this;exact .refl _
  | a :: l,m,hn,hs,h=>by
    obtain ⟨h1,h2⟩:=List.nodup_cons.1 hn
    have ha:=hs a List.mem_cons_self
    have hp:=List.perm_cons_erase ha
    refine (List.Perm.cons a (zlg h2 (fun x hx=>?_) ?_)).trans hp.symm
    · exact (List.mem_erase_of_ne (fun e=>h1 (by rw [← e];exact hx))).2 (hs x (List.mem_cons_of_mem _ hx))
    · have := hp.length_eq
      simp at this h
      omega

theorem zCi:zol Tryd.prog 103 (.keys 117):=fun w mb=>by
 refine ⟨⟨_,rfl,rfl,by kernel_rfl⟩,?_⟩
 have c:CallsIn Fence.wide 5 Tryd.prog 103 #[.map (some mb)] w fun e w'=>e=.returned (.func (.func 117) #[] #[.pointer (some ⟨w.heap.size,0,none⟩)])∧w'=w.alloc (.cells #[.map (some mb)] 103):=AnyZI.keys_in Tryd.keysA Fence.wide 5 trivial rfl (some mb) w
 refine ((callsIn_wide (n:=5)).1 c).mono ?_
 rintro e w' ⟨rfl,rfl⟩
 exact ⟨rfl,_,rfl⟩
theorem sortsA (m:Nat):AnyZI.SortsIn Tryd.prog Tryd.sortedA_ren Fence.wide m :=
  ⟨fun blk off cap ss W hH hblk hsz=>callsIn_wide.2 (AnyM.slices_Sort_int Tryd.sortA blk off cap ss W hH hblk hsz),
   fun p cap W=>callsIn_wide.2 (AnyM.slices_Sort_int_none Tryd.sortA p cap W)⟩

def rdN:Value→Option (DataW Unit×List MemPlace):=fun _=>some (.nil,[])
theorem zvj:zol Tryd.prog 102 (.sorted 117):=fun w h k mb C ty fr es clock vt q n F hw hk hC hb hE hm hn hky=>by
 refine ⟨⟨_,rfl,rfl,by kernel_rfl⟩,?_⟩
 obtain ⟨en,M⟩:=hm
 have E:=zgN hE
 have hq1:q.1=false:=by
  have e:=E.kag
  rw [show zeU Tryd.prog 3=some false by kernel_rfl] at e
  exact (Option.some.inj e).symm
 have hq2:q.2.1=1:=by
  have e:=E.key
  rw [show zdP Tryd.prog 8 3=some 1 by kernel_rfl] at e
  exact (Option.some.inj e).symm
 obtain ⟨l,hl⟩:=Option.isSome_iff_exists.1 hky
 have hll:zvr F n=l:=by unfold zvr;rw [hl];rfl
 obtain ⟨l1,l2,l3⟩:=zlf _ _ _ _ hl
 rw [hll]
 have one:∀ x∈en,x.1=[x.1.headD 0]:=fun x hx=>by
  have:=(M.len x hx).1
  rw [hq2] at this
  match x.1,this with
  | [a],_=>rfl
 have hkeys:es.toList.map (·.key)=(en.map fun x=>x.1.headD 0).map encZ:=by
  have:=congrArg (List.map Prod.fst) M.ents
  simp only [List.map_map] at this ⊢
  refine (show es.toList.map (·.key)=_ from this).trans (List.map_congr_left fun x hx=>?_)
  show zbO q.1 x.1=encZ (x.1.headD 0)
  rw [hq1];rfl
 have hkn:(en.map fun x=>x.1.headD 0).Nodup:=by
  have:(en.map (·.1))=(en.map fun x=>x.1.headD 0).map fun a=>[a]:=by
   rw [List.map_map];exact List.map_congr_left fun x hx=>one x hx
  have hd:=M.nodup
  rw [this] at hd
  exact (List.pairwise_map.1 hd).imp fun h e=>h (by rw [e])
 have hperm:l.Perm (en.map fun x=>x.1.headD 0):=by
  refine zlg (l3.imp fun h=>Int.ne_of_lt h) (fun x hx=>?_) (by rw [List.length_map,← M.size,l1];exact Nat.le_refl _)
  have h1:=(l2 x hx).1
  rw [M.find [x] (by rw [hq2];rfl)] at h1
  by_cases hex:∃ y∈en,y.1=[x]
  ·obtain ⟨y, hy, e⟩ := hex
   exact List.mem_map.2 ⟨y,hy,by rw [e];rfl⟩
  ·exact absurd (zgu fun y hy e=>hex ⟨y,hy,e⟩) h1
 have hread:∀ x∈es.toList,∃ a:Int,x.key=encZ a∧keyOf Tryd.prog 3 x.key=some (.int .i64 a):=fun x hx=>by
  have hm:x.key∈es.toList.map (·.key):=List.mem_map.2 ⟨x,hx,rfl⟩
  rw [hkeys] at hm
  obtain ⟨a,ha,e⟩:=List.mem_map.1 hm
  have hb:=(l2 a (hperm.mem_iff.2 ha)).2
  refine ⟨a,e.symm,?_⟩
  rw [← e]
  have hu:Tryd.prog.underlying 3=some (.int .i64):=Tryd.underlying3
  have hwf:(Lit.int .i64 a).wf=true:=by
   simp only [Lit.wf,Bool.and_eq_true,decide_eq_true_eq]
   have e1:IntKind.i64.min = -9223372036854775808:=by decide
   have e2:IntKind.i64.max=9223372036854775807:=by decide
   rw [e1,e2]
   have:=hb.2
   omega
  simp [keyOf,mapKey,hu,hwf]
 have hsize:es.size=n:=by
  have:=congrArg List.length M.ents
  simp at this
  rw [this,M.size]
 have hst:MapKept.Stamped es clock:=⟨M.born,M.bornN,by rw [hkeys];exact List.pairwise_map.2 (hkn.imp fun h e=>h (encZ_inj e))⟩
 have hown:w.ownsMap Tryd.prog 3 rdN mb n (.map ((es.toList.map (WideElems.rg Tryd.prog 3 rdN)).foldr DataW.insert [])) :=
  ⟨es,clock,hb,⟨by rw [hsize];exact Nat.le_trans hn (by decide),hst,fun x hx=>by
   obtain ⟨a,e1,e2⟩:=hread x hx
   exact ⟨(.int .i64 a,.nil),by simp only [WideElems.rd,e2,rdN,Option.bind_some,Option.map_some]⟩⟩,by omega,rfl⟩
 have hik:(intKeys (.map ((es.toList.map (WideElems.rg Tryd.prog 3 rdN)).foldr DataW.insert []))).Perm l:=by
  show (((es.toList.map (WideElems.rg Tryd.prog 3 rdN)).foldr DataW.insert []).map fun p=>intOf p.1).Perm l
  refine ((WideShapes.sorted_perm _).map _).trans (List.Perm.trans (List.Perm.of_eq ?_) hperm.symm)
  rw [List.map_map]
  have e:(en.map fun x=>x.1.headD 0)=es.toList.map fun x=>intOf ((keyOf Tryd.prog 3 x.key).getD (.bool false)):=by
   have h1:(en.map fun x=>x.1.headD 0)=((en.map fun x=>x.1.headD 0).map encZ).map fun v=>match v with | .int _ a=>a | _=>0:=by
    rw [List.map_map];exact (List.map_id _).symm
   rw [h1,← hkeys,List.map_map]
   refine List.map_congr_left fun x hx=>?_
   obtain ⟨a,e1,e2⟩:=hread x hx
   simp only [Function.comp,e2]
   rw [e1];rfl
  rw [e]
  refine List.map_congr_left fun x hx=>?_
  obtain ⟨a,e1,e2⟩:=hread x hx
  simp only [Function.comp,WideElems.rg,WideElems.rd,e2,rdN,Option.bind_some,Option.map_some,Option.getD_some]
 have hsz:Maps.size (DataW.map ((es.toList.map (WideElems.rg Tryd.prog 3 rdN)).foldr DataW.insert []):DataW Unit)=n:=by
  show List.length _=n
  rw [(WideShapes.sorted_perm _).length_eq];simp [hsize]
 have hlt:k < w.heap.size:=hw.lt hk
 have hcell:w.cell? ⟨k,0,none⟩=some (.map (some mb)):=by
  have:=hw.fz hk
  simp [World.cell?,this,hC]
 have hseq:SeqGives Fence.wide 2 Tryd.prog 117 #[.pointer (some ⟨k,0,none⟩)] encZ (fun ss=>ss.Perm (intKeys _)) (Maps.size _) w :=
  AnyZI.keys_gives (ρ:=Tryd.keysA_ren) { Tryd.keysA with } Fence.wide _ trivial rfl (by omega) k mb n _ w hlt hcell hown
 have cS:=AnyZI.sorted_in Tryd.sortedA Fence.wide 5 trivial trivial trivial trivial rfl (by omega) (sortsA _) (enters_of Tryd.func116 (by kernel_rfl) rfl) 117 #[.pointer (some ⟨k,0,none⟩)] trivial (enters_of Tryd.func117 (by kernel_rfl) rfl) _ _ (by rw [hsz];exact Nat.le_trans hn (by decide)) (by rw [hsz];omega) _ hseq
 change CallsIn _ _ Tryd.prog 102 _ _ _ at cS
 refine ((callsIn_wide (n:=5)).1 cS).mono ?_
 rintro e w' ⟨v,ss,rfl,hS,hrow,_,hbel⟩
 refine ⟨v,rfl,?_,⟨hbel,Nat.zero_le _⟩⟩
 have hsl:ss.mergeSort (fun x y=>decide (x≤y))=l:=by
  rw [show ss.mergeSort (fun x y=>decide (x≤y))=l.mergeSort leI from mergeSort_of_perm_i (hS.trans hik)]
  exact List.mergeSort_of_pairwise (l3.imp fun h=>by simp only [leI,decide_eq_true_eq];exact Int.le_of_lt h)
 have hlen:ss.length=n:=by rw [(hS.trans hik).length_eq,l1]
 rw [hsl,hlen] at hrow
 exact hrow
end Go.Pm
namespace Go.Proofs
open Go Go.Pm
set_option maxRecDepth 100000
set_option linter.unusedVariables false
attribute [local irreducible] Go.Pm.vcFun Go.Pm.vc Go.Pm.vcIter
abbrev zDl:OwnK:=.sorted 117
theorem zLJ:zol Tryd.prog 102 zDl:=zvj
abbrev zDm:OwnK:=.keys 117
theorem zLK:zol Tryd.prog 103 zDm:=zCi
structure Rec69 where
  S:web→Int→((Sl (Sl Int))×web)
  P:web→Int→Bool
class Slf69 where
  r:Rec69
section
variable [Slf69]
def zxV : MK
  | [.box 105 [.p (.int .i64 b0_Net_Nodes),.p (.sl b0_Net_Ties_n b0_Net_Ties_s b0_Net_Ties_g),.mo 3 4 b0_out_q b0_out_n b0_out_F],.d (.one (.int .i64 b1))]=>some (IsE enc_40 4 b0_Net_Ties_s b0_Net_Ties_g∧b0_out_q=(false,1,false,[none])∧Slf69.r.P (⟨(⟨b0_Net_Nodes,(⟨b0_Net_Ties_n,zao b0_Net_Ties_g⟩:(Sl Tie))⟩:Net),(⟨b0_out_n,b0_out_F⟩:Mp)⟩:web) b1=true,[.one (.sl (((Slf69.r.S (⟨(⟨b0_Net_Nodes,(⟨b0_Net_Ties_n,zao b0_Net_Ties_g⟩:(Sl Tie))⟩:Net),(⟨b0_out_n,b0_out_F⟩:Mp)⟩:web) b1).1).len) 1 (fun i=>zcr (((Slf69.r.S (⟨(⟨b0_Net_Nodes,(⟨b0_Net_Ties_n,zao b0_Net_Ties_g⟩:(Sl Tie))⟩:Net),(⟨b0_out_n,b0_out_F⟩:Mp)⟩:web) b1).1).get i)))],[.box 105 [.p (.int .i64 (((Slf69.r.S (⟨(⟨b0_Net_Nodes,(⟨b0_Net_Ties_n,zao b0_Net_Ties_g⟩:(Sl Tie))⟩:Net),(⟨b0_out_n,b0_out_F⟩:Mp)⟩:web) b1).2).Net.Nodes)),.p (.sl (((Slf69.r.S (⟨(⟨b0_Net_Nodes,(⟨b0_Net_Ties_n,zao b0_Net_Ties_g⟩:(Sl Tie))⟩:Net),(⟨b0_out_n,b0_out_F⟩:Mp)⟩:web) b1).2).Net.Ties.len) 4 (fun i=>enc_40 (((Slf69.r.S (⟨(⟨b0_Net_Nodes,(⟨b0_Net_Ties_n,zao b0_Net_Ties_g⟩:(Sl Tie))⟩:Net),(⟨b0_out_n,b0_out_F⟩:Mp)⟩:web) b1).2).Net.Ties.get i))),.mo 3 4 (false,1,false,[none]) ((((Slf69.r.S (⟨(⟨b0_Net_Nodes,(⟨b0_Net_Ties_n,zao b0_Net_Ties_g⟩:(Sl Tie))⟩:Net),(⟨b0_out_n,b0_out_F⟩:Mp)⟩:web) b1).2).out).n) ((((Slf69.r.S (⟨(⟨b0_Net_Nodes,(⟨b0_Net_Ties_n,zao b0_Net_Ties_g⟩:(Sl Tie))⟩:Net),(⟨b0_out_n,b0_out_F⟩:Mp)⟩:web) b1).2).out).F)],.d (.one (.int .i64 b1))])
  | _=>none
abbrev T69:Tabs:=(((((Tabs.nil.addF 88 zxg).addF 89 zCh).addO 102 zDl).addO 103 zDm).addM 69 zxV)
theorem zLL (hself:zjo Tryd.prog 69 zxV):TabsOk Tryd.prog T69:=(((((TabsOk.nil.addF zLw).addF zM2).addO zLJ).addO zLK).addM hself)
abbrev zCj:Ctrs:=csm T69 (fun _ _=>[]) (fun _=>false)
def zfC:Ann:=⟨57,[(0,zK [0,1] [0,12288]),(1,zK [0,1,10] [0,12288]),(2,zK [0,4] [0,17,12288]),(3,zK [0,1,19] [0,12288]),(4,zK [0,4] [0,12288]),(5,zK [0,1,5] [0,12288]),(6,zK [0,1,5,21,22,23] [0,12288]),(7,zK [0,1,5,21,22,23,24] [0,47,12288]),(8,zK [0,1,5,7,21,22,23] [0,7,47,12288]),(9,zK [0,1,5,7,21,22,23,34] [0,7,47,12288]),(10,zK [0,1,5,7,21,22,23] [0,7,47,12288]),(11,zK [0,1,5,7,21,22,23] [0,7,47,12288]),(12,zK [0,1,5,21,22,23] [0,47,12288]),(13,zK [0,1,5,21,22,23] [0,47,12288]),(14,zK [0,4] [0,47,12288])],
 [(7,⟨[0,1,5,21,22,23],[0,47,12288],[(5,47,27,fun _=>zcr default)],[],[],[],[]⟩)],
 [],
 [],[]⟩
def zgd (w:web) (left:Int) (zaK:Int) (zbc:Int) (zge:Nat) (zcP:Nat→List PV) (zgf:Nat) (zcQ:Nat→List PV) (zal:Nat) (zab:(List Int→Option (List Int))):St:=⟨[(0,.one (.c (.ptr 0 0))),(1,.one (.c (.p (.int .i64 left)))),(5,.one (.c (.vec 47))),(21,.one (.c (.p (.sl ((s89 w).len) 5 (fun i=>zai ((s89 w).get i)))))),(22,.one (.c (.p (.int .i64 ((s89 w).len:Int))))),(23,.one (.c (.p (.int .i64 zaK))))],[(0,.box 105 [.p (.int .i64 zbc),.p (.sl zge 4 zcP),.mo 12288]),(47,.vec 27 1 24 zgf zcQ),(12288,.mo 3 4 (false,1,false,[none]) zal zab)],[]⟩
def zhY (K:List PA×List XA→Prop) (w:web) (left:Int) (zaK:Int) (zbc:Int) (zge:Nat) (zcP:Nat→List PV) (zgf:Nat) (zcQ:Nat→List PV) (zal:Nat) (zab:(List Int→Option (List Int))):Prop:=vc Tryd.prog zCj zfC (cdF Tryd.f69 [1,1,1,1,0,1,0]) (zas 0 (sqK Tryd.prog zCj zfC (cdF Tryd.f69 [1,1,1,1,1]) (zlY Tryd.prog Tryd.f69 [.box 105 [.p (.int .i64 w.Net.Nodes),.p (.sl w.Net.Ties.len 4 (fun i=>enc_40 (w.Net.Ties.get i))),.mo 3 4 (false,1,false,[none]) w.out.n w.out.F],.d (.one (.int .i64 left))] (fun a b=>K (a,b))))) (zgd w left zaK zbc zge zcP zgf zcQ zal zab)
theorem zCk (w : web) (left : Int) (K : List PA × List XA → Prop) :
  zkD Tryd.prog zCj zfC 69 [.box 105 [.p (.int .i64 w.Net.Nodes),.p (.sl w.Net.Ties.len 4 (fun i=>enc_40 (w.Net.Ties.get i))),.mo 3 4 (false,1,false,[none]) w.out.n w.out.F],.d (.one (.int .i64 left))] (fun a b=>K (a,b)) =
  ((IsE enc_40 4 4 (fun i=>enc_40 (w.Net.Ties.get i))∧((false,1,false,[none]):MQ)=(false,1,false,[none])∧(p88 w=true)) ∧
 (zbV (!(s88 w))
 (((w.out.n≤1000000∧(zvq w.out.F 9223372036854775808 0 w.out.n).isSome=true)) ∧
 (K ([.one (.sl 1 1 (fun _=>(zcr (⟨w.out.n,(fun i=>(zvr w.out.F w.out.n).getD i 0)⟩:(Sl Int)))))],[.box 105 [.p (.int .i64 w.Net.Nodes),.p (.sl w.Net.Ties.len 4 (fun i=>enc_40 (w.Net.Ties.get i))),.mo 3 4 (false,1,false,[none]) w.out.n w.out.F],.d (.one (.int .i64 left))])))
 (zbV (left == (0:Int))
 (K ([.one (.nils)],[.box 105 [.p (.int .i64 w.Net.Nodes),.p (.sl w.Net.Ties.len 4 (fun i=>enc_40 (w.Net.Ties.get i))),.mo 3 4 (false,1,false,[none]) w.out.n w.out.F],.d (.one (.int .i64 left))]))
 (((∀ i,sc2 ((fun i=>zai ((s89 w).get i)) i)=true)∧IsE enc_40 4 4 (fun i=>enc_40 (w.Net.Ties.get i))∧((false,1,false,[none]):MQ)=(false,1,false,[none])∧(p89 w=true)) ∧
 (zhY K w left (0:Int) w.Net.Nodes w.Net.Ties.len (fun i=>enc_40 (w.Net.Ties.get i)) 0 (fun i=>zcr ((fun _=>default) i)) w.out.n w.out.F))))):=by kernel_rfl
def zmD (K:List PA×List XA→Prop) (X0:St→Prop) (w:web) (left:Int) (zaK:Int) (zbc:Int) (zbf:(Sl Tie)) (zbM:(Sl (Sl Int))) (zal:Nat) (zab:(List Int→Option (List Int))):Prop :=
  (zbV (decide (zaK < ((s89 w).len : Int)))
 (((0≤zaK∧zaK < ((s89 w).len:Int))) ∧
 (zbV ((zuE (zab [((s89 w).get zaK.toNat).Use.Tie]) 0) != 0)
 (X0 (zgd w left (w64 (zaK+(1:Int))) zbc zbf.len (fun i=>enc_40 (zbf.get i)) zbM.len (fun i=>zcr (zbM.get i)) zal zab))
 ((IsE enc_40 4 4 (fun i=>enc_40 (zbf.get i))∧((false,1,false,[none]):MQ)=(false,1,false,[none])∧(Slf69.r.P (⟨(⟨zbc,zbf⟩:Net),(⟨(addN (zab [((s89 w).get zaK.toNat).Use.Tie]) zal),(zdZ [((s89 w).get zaK.toNat).Use.Tie] [1] zab)⟩:Mp)⟩:web) (w64 (left - (1:Int)))=true)) ∧
 ((((zbM.len+((Slf69.r.S (⟨(⟨zbc,zbf⟩:Net),(⟨(addN (zab [((s89 w).get zaK.toNat).Use.Tie]) zal),(zdZ [((s89 w).get zaK.toNat).Use.Tie] [1] zab)⟩:Mp)⟩:web) (w64 (left - (1:Int)))).1).len) * 24≤140737488355328∧zbM.len+((Slf69.r.S (⟨(⟨zbc,zbf⟩:Net),(⟨(addN (zab [((s89 w).get zaK.toNat).Use.Tie]) zal),(zdZ [((s89 w).get zaK.toNat).Use.Tie] [1] zab)⟩:Mp)⟩:web) (w64 (left - (1:Int)))).1).len≤9223372036854775807)) ∧
 (X0 (zgd w left (w64 (zaK+(1:Int))) (((Slf69.r.S (⟨(⟨zbc,zbf⟩:Net),(⟨(addN (zab [((s89 w).get zaK.toNat).Use.Tie]) zal),(zdZ [((s89 w).get zaK.toNat).Use.Tie] [1] zab)⟩:Mp)⟩:web) (w64 (left - (1:Int)))).2).Net.Nodes) (((Slf69.r.S (⟨(⟨zbc,zbf⟩:Net),(⟨(addN (zab [((s89 w).get zaK.toNat).Use.Tie]) zal),(zdZ [((s89 w).get zaK.toNat).Use.Tie] [1] zab)⟩:Mp)⟩:web) (w64 (left - (1:Int)))).2).Net.Ties.len) (fun i=>enc_40 (((Slf69.r.S (⟨(⟨zbc,zbf⟩:Net),(⟨(addN (zab [((s89 w).get zaK.toNat).Use.Tie]) zal),(zdZ [((s89 w).get zaK.toNat).Use.Tie] [1] zab)⟩:Mp)⟩:web) (w64 (left - (1:Int)))).2).Net.Ties.get i)) (zbM.len+((Slf69.r.S (⟨(⟨zbc,zbf⟩:Net),(⟨(addN (zab [((s89 w).get zaK.toNat).Use.Tie]) zal),(zdZ [((s89 w).get zaK.toNat).Use.Tie] [1] zab)⟩:Mp)⟩:web) (w64 (left - (1:Int)))).1).len) (appG zbM.len (fun i=>zcr (zbM.get i)) (fun i=>zcr (((Slf69.r.S (⟨(⟨zbc,zbf⟩:Net),(⟨(addN (zab [((s89 w).get zaK.toNat).Use.Tie]) zal),(zdZ [((s89 w).get zaK.toNat).Use.Tie] [1] zab)⟩:Mp)⟩:web) (w64 (left - (1:Int)))).1).get i))) (zCT (((((Slf69.r.S (⟨(⟨zbc,zbf⟩:Net),(⟨(addN (zab [((s89 w).get zaK.toNat).Use.Tie]) zal),(zdZ [((s89 w).get zaK.toNat).Use.Tie] [1] zab)⟩:Mp)⟩:web) (w64 (left - (1:Int)))).2).out).F) [((s89 w).get zaK.toNat).Use.Tie]) ((((Slf69.r.S (⟨(⟨zbc,zbf⟩:Net),(⟨(addN (zab [((s89 w).get zaK.toNat).Use.Tie]) zal),(zdZ [((s89 w).get zaK.toNat).Use.Tie] [1] zab)⟩:Mp)⟩:web) (w64 (left - (1:Int)))).2).out).n)) (zA2 [((s89 w).get zaK.toNat).Use.Tie] ((((Slf69.r.S (⟨(⟨zbc,zbf⟩:Net),(⟨(addN (zab [((s89 w).get zaK.toNat).Use.Tie]) zal),(zdZ [((s89 w).get zaK.toNat).Use.Tie] [1] zab)⟩:Mp)⟩:web) (w64 (left - (1:Int)))).2).out).F))))))))
 (K ([.one (.sl zbM.len 1 (fun i=>zcr (zbM.get i)))],[.box 105 [.p (.int .i64 zbc),.p (.sl zbf.len 4 (fun i=>enc_40 (zbf.get i))),.mo 3 4 (false,1,false,[none]) zal zab],.d (.one (.int .i64 left))])))
theorem zpA (K : List PA × List XA → Prop) (X0 : St → Prop) (w : web) (left : Int) (zaK : Int) (zbc : Int) (zbf : (Sl Tie)) (zbM : (Sl (Sl Int))) (zal : Nat) (zab : (List Int → Option (List Int))) :
  vc Tryd.prog zCj zfC (cd (cdF Tryd.f69 [1,1,1,1,0,1,0]) [0]) (zbq Tryd.prog zfC 7 X0 (zas 0 (sqK Tryd.prog zCj zfC (cdF Tryd.f69 [1,1,1,1,1]) (zlY Tryd.prog Tryd.f69 [.box 105 [.p (.int .i64 w.Net.Nodes),.p (.sl w.Net.Ties.len 4 (fun i=>enc_40 (w.Net.Ties.get i))),.mo 3 4 (false,1,false,[none]) w.out.n w.out.F],.d (.one (.int .i64 left))] (fun a b=>K (a,b)))))) (zgd w left zaK zbc zbf.len (fun i=>enc_40 (zbf.get i)) zbM.len (fun i=>zcr (zbM.get i)) zal zab) =
  zmD K X0 w left zaK zbc zbf zbM zal zab:=by kernel_rfl
theorem zvk (K : List PA × List XA → Prop) (w : web) (left : Int) (zaK : Int) (zbc : Int) (zge : Nat) (zcP : Nat → List PV) (zgf : Nat) (zcQ : Nat → List PV) (zal : Nat) (zab : (List Int → Option (List Int)))
  (h:∀ X0:St→Prop,(∀ (zaK:Int) (zbc:Int) (zbf:(Sl Tie)) (zbM:(Sl (Sl Int))) (zal:Nat) (zab:(List Int→Option (List Int))),zmD K X0 w left zaK zbc zbf zbM zal zab→X0 (zgd w left zaK zbc zbf.len (fun i=>enc_40 (zbf.get i)) zbM.len (fun i=>zcr (zbM.get i)) zal zab))→X0 (zgd w left zaK zbc zge zcP zgf zcQ zal zab)) :
  zhY K w left zaK zbc zge zcP zgf zcQ zal zab:=by
  have e:zhY K w left zaK zbc zge zcP zgf zcQ zal zab=(∀ X:St→Prop,(∀ s,vc Tryd.prog zCj zfC (cd (cdF Tryd.f69 [1,1,1,1,0,1,0]) [0]) (zbq Tryd.prog zfC 7 X (zas 0 (sqK Tryd.prog zCj zfC (cdF Tryd.f69 [1,1,1,1,1]) (zlY Tryd.prog Tryd.f69 [.box 105 [.p (.int .i64 w.Net.Nodes),.p (.sl w.Net.Ties.len 4 (fun i=>enc_40 (w.Net.Ties.get i))),.mo 3 4 (false,1,false,[none]) w.out.n w.out.F],.d (.one (.int .i64 left))] (fun a b=>K (a,b)))))) s→X s)→X (zgd w left zaK zbc zge zcP zgf zcQ zal zab)):=by kernel_rfl
  refine zbb e ?_
  intro X hX
  refine h X ?_
  intro zaK zbc zbf zbM zal zab hs
  refine hX _ ?_
  have e2:=zpA K X w left zaK zbc zbf zbM zal zab
  rw [e2]
  exact hs
abbrev zDn (left:Int) (r:((Sl (Sl Int))×web)):List PA×List XA:=([.one (.sl r.1.len 1 (fun i=>zcr (r.1.get i)))],[.box 105 [.p (.int .i64 r.2.Net.Nodes),.p (.sl r.2.Net.Ties.len 4 (fun i=>enc_40 (r.2.Net.Ties.get i))),.mo 3 4 (false,1,false,[none]) r.2.out.n r.2.out.F],.d (.one (.int .i64 left))])
attribute [irreducible] zhY
def znS (w:web) (left:Int) (S0:Int→Int→(Sl Tie)→(Sl (Sl Int))→Nat→(List Int→Option (List Int))→((Sl (Sl Int))×web)) (zaK:Int) (zbc:Int) (zbf:(Sl Tie)) (zbM:(Sl (Sl Int))) (zal:Nat) (zab:(List Int→Option (List Int))):((Sl (Sl Int))×web) :=
  (cond (decide (zaK < ((s89 w).len : Int)))
 (cond ((zuE (zab [((s89 w).get zaK.toNat).Use.Tie]) 0) != 0)
 (S0 (w64 (zaK+(1:Int))) zbc zbf zbM zal zab)
 (S0 (w64 (zaK+(1:Int))) (((Slf69.r.S (⟨(⟨zbc,zbf⟩:Net),(⟨(addN (zab [((s89 w).get zaK.toNat).Use.Tie]) zal),(zdZ [((s89 w).get zaK.toNat).Use.Tie] [1] zab)⟩:Mp)⟩:web) (w64 (left - (1:Int)))).2).Net.Nodes) (((Slf69.r.S (⟨(⟨zbc,zbf⟩:Net),(⟨(addN (zab [((s89 w).get zaK.toNat).Use.Tie]) zal),(zdZ [((s89 w).get zaK.toNat).Use.Tie] [1] zab)⟩:Mp)⟩:web) (w64 (left - (1:Int)))).2).Net.Ties) (⟨(zbM.len+((Slf69.r.S (⟨(⟨zbc,zbf⟩:Net),(⟨(addN (zab [((s89 w).get zaK.toNat).Use.Tie]) zal),(zdZ [((s89 w).get zaK.toNat).Use.Tie] [1] zab)⟩:Mp)⟩:web) (w64 (left - (1:Int)))).1).len),(zg6 zbM.len zbM.get ((Slf69.r.S (⟨(⟨zbc,zbf⟩:Net),(⟨(addN (zab [((s89 w).get zaK.toNat).Use.Tie]) zal),(zdZ [((s89 w).get zaK.toNat).Use.Tie] [1] zab)⟩:Mp)⟩:web) (w64 (left - (1:Int)))).1).get)⟩:Sl (Sl Int)) (zCT (((((Slf69.r.S (⟨(⟨zbc,zbf⟩:Net),(⟨(addN (zab [((s89 w).get zaK.toNat).Use.Tie]) zal),(zdZ [((s89 w).get zaK.toNat).Use.Tie] [1] zab)⟩:Mp)⟩:web) (w64 (left - (1:Int)))).2).out).F) [((s89 w).get zaK.toNat).Use.Tie]) ((((Slf69.r.S (⟨(⟨zbc,zbf⟩:Net),(⟨(addN (zab [((s89 w).get zaK.toNat).Use.Tie]) zal),(zdZ [((s89 w).get zaK.toNat).Use.Tie] [1] zab)⟩:Mp)⟩:web) (w64 (left - (1:Int)))).2).out).n)) (zA2 [((s89 w).get zaK.toNat).Use.Tie] ((((Slf69.r.S (⟨(⟨zbc,zbf⟩:Net),(⟨(addN (zab [((s89 w).get zaK.toNat).Use.Tie]) zal),(zdZ [((s89 w).get zaK.toNat).Use.Tie] [1] zab)⟩:Mp)⟩:web) (w64 (left - (1:Int)))).2).out).F))))
 (zbM,(⟨(⟨zbc,zbf⟩:Net),(⟨zal,zab⟩:Mp)⟩:web)))
def znT (w:web) (left:Int) (P0:Int→Int→(Sl Tie)→(Sl (Sl Int))→Nat→(List Int→Option (List Int))→Bool) (zaK:Int) (zbc:Int) (zbf:(Sl Tie)) (zbM:(Sl (Sl Int))) (zal:Nat) (zab:(List Int→Option (List Int))):Bool :=
  (cond (decide (zaK < ((s89 w).len : Int)))
 (decide ((0≤zaK∧zaK < ((s89 w).len:Int))) &&
 (cond ((zuE (zab [((s89 w).get zaK.toNat).Use.Tie]) 0) != 0)
 (P0 (w64 (zaK+(1:Int))) zbc zbf zbM zal zab)
 (decide ((Slf69.r.P (⟨(⟨zbc,zbf⟩:Net),(⟨(addN (zab [((s89 w).get zaK.toNat).Use.Tie]) zal),(zdZ [((s89 w).get zaK.toNat).Use.Tie] [1] zab)⟩:Mp)⟩:web) (w64 (left - (1:Int)))=true)) &&
 (decide (((zbM.len+((Slf69.r.S (⟨(⟨zbc,zbf⟩:Net),(⟨(addN (zab [((s89 w).get zaK.toNat).Use.Tie]) zal),(zdZ [((s89 w).get zaK.toNat).Use.Tie] [1] zab)⟩:Mp)⟩:web) (w64 (left - (1:Int)))).1).len) * 24≤140737488355328∧zbM.len+((Slf69.r.S (⟨(⟨zbc,zbf⟩:Net),(⟨(addN (zab [((s89 w).get zaK.toNat).Use.Tie]) zal),(zdZ [((s89 w).get zaK.toNat).Use.Tie] [1] zab)⟩:Mp)⟩:web) (w64 (left - (1:Int)))).1).len≤9223372036854775807)) &&
 (P0 (w64 (zaK+(1:Int))) (((Slf69.r.S (⟨(⟨zbc,zbf⟩:Net),(⟨(addN (zab [((s89 w).get zaK.toNat).Use.Tie]) zal),(zdZ [((s89 w).get zaK.toNat).Use.Tie] [1] zab)⟩:Mp)⟩:web) (w64 (left - (1:Int)))).2).Net.Nodes) (((Slf69.r.S (⟨(⟨zbc,zbf⟩:Net),(⟨(addN (zab [((s89 w).get zaK.toNat).Use.Tie]) zal),(zdZ [((s89 w).get zaK.toNat).Use.Tie] [1] zab)⟩:Mp)⟩:web) (w64 (left - (1:Int)))).2).Net.Ties) (⟨(zbM.len+((Slf69.r.S (⟨(⟨zbc,zbf⟩:Net),(⟨(addN (zab [((s89 w).get zaK.toNat).Use.Tie]) zal),(zdZ [((s89 w).get zaK.toNat).Use.Tie] [1] zab)⟩:Mp)⟩:web) (w64 (left - (1:Int)))).1).len),(zg6 zbM.len zbM.get ((Slf69.r.S (⟨(⟨zbc,zbf⟩:Net),(⟨(addN (zab [((s89 w).get zaK.toNat).Use.Tie]) zal),(zdZ [((s89 w).get zaK.toNat).Use.Tie] [1] zab)⟩:Mp)⟩:web) (w64 (left - (1:Int)))).1).get)⟩:Sl (Sl Int)) (zCT (((((Slf69.r.S (⟨(⟨zbc,zbf⟩:Net),(⟨(addN (zab [((s89 w).get zaK.toNat).Use.Tie]) zal),(zdZ [((s89 w).get zaK.toNat).Use.Tie] [1] zab)⟩:Mp)⟩:web) (w64 (left - (1:Int)))).2).out).F) [((s89 w).get zaK.toNat).Use.Tie]) ((((Slf69.r.S (⟨(⟨zbc,zbf⟩:Net),(⟨(addN (zab [((s89 w).get zaK.toNat).Use.Tie]) zal),(zdZ [((s89 w).get zaK.toNat).Use.Tie] [1] zab)⟩:Mp)⟩:web) (w64 (left - (1:Int)))).2).out).n)) (zA2 [((s89 w).get zaK.toNat).Use.Tie] ((((Slf69.r.S (⟨(⟨zbc,zbf⟩:Net),(⟨(addN (zab [((s89 w).get zaK.toNat).Use.Tie]) zal),(zdZ [((s89 w).get zaK.toNat).Use.Tie] [1] zab)⟩:Mp)⟩:web) (w64 (left - (1:Int)))).2).out).F)))))))
 true)
def zhZ (w : web) (left : Int) : Nat → Int → Int → (Sl Tie) → (Sl (Sl Int)) → Nat → (List Int → Option (List Int)) → ((Sl (Sl Int)) × web)
  | 0=>fun _ _ _ _ _ _=>default
  | k+1=>znS w left (zhZ w left k)
def zh0 (w : web) (left : Int) : Nat → Int → Int → (Sl Tie) → (Sl (Sl Int)) → Nat → (List Int → Option (List Int)) → Bool
  | 0=>fun _ _ _ _ _ _=>false
  | k+1=>znT w left (zh0 w left k)
def zt3 (w:web) (left:Int) (zaK:Int) (zbc:Int) (zbf:(Sl Tie)) (zbM:(Sl (Sl Int))) (zal:Nat) (zab:(List Int→Option (List Int))):((Sl (Sl Int))×web):=zhZ w left Fuel zaK zbc zbf zbM zal zab
def zt4 (w:web) (left:Int) (zaK:Int) (zbc:Int) (zbf:(Sl Tie)) (zbM:(Sl (Sl Int))) (zal:Nat) (zab:(List Int→Option (List Int))):Bool:=zh0 w left Fuel zaK zbc zbf zbM zal zab
theorem zCl (K:List PA×List XA→Prop) (w:web) (left:Int) (zaK:Int) (zbc:Int) (zbf:(Sl Tie)) (zbM:(Sl (Sl Int))) (zal:Nat) (zab:(List Int→Option (List Int))) (zcP:Nat→List PV) (zlh:zcP=fun i=>enc_40 (zbf.get i)) (zcQ:Nat→List PV) (zli:zcQ=fun i=>zcr (zbM.get i)) (hs:zt4 w left zaK zbc zbf zbM zal zab=true) (hk:K (zDn left (zt3 w left zaK zbc zbf zbM zal zab))):zhY (WkM K) w left zaK zbc zbf.len zcP zbM.len zcQ zal zab:=by
  refine zvk (WkM K) w left zaK zbc zbf.len zcP zbM.len zcQ zal zab ?_
  intro X0 hstep
  have key:∀ (k:Nat) (zaK:Int) (zbc:Int) (zbf:(Sl Tie)) (zbM:(Sl (Sl Int))) (zal:Nat) (zab:(List Int→Option (List Int))) (zcP:Nat→List PV) (zlh:zcP=fun i=>enc_40 (zbf.get i)) (zcQ:Nat→List PV) (zli:zcQ=fun i=>zcr (zbM.get i)),zh0 w left k zaK zbc zbf zbM zal zab=true→K (zDn left (zhZ w left k zaK zbc zbf zbM zal zab))→X0 (zgd w left zaK zbc zbf.len zcP zbM.len zcQ zal zab):=by
    intro k
    induction k with
    | zero=>intro zaK zbc zbf zbM zal zab zcP zlh zcQ zli hs;exact absurd hs Bool.false_ne_true
    | succ k ih =>
      intro zaK zbc zbf zbM zal zab zcP zlh zcQ zli hs hk
      subst zlh
      subst zli
      refine hstep zaK zbc zbf zbM zal zab ?_
      have hs:znT w left (zh0 w left k) zaK zbc zbf zbM zal zab=true:=hs
      have hk:K (zDn left (znS w left (zhZ w left k) zaK zbc zbf zbM zal zab)):=hk
      unfold znT at hs
      unfold znS at hk
      generalize zhZ w left k=S0 at hk ih
      generalize zh0 w left k=P0 at hs ih
      have hX0:=ih
      exact (za1 (K := fun r => K (zDn left r))
 (fun hs hk => (zaU hs fun hc hs => ⟨hc, (za1 (K := fun r => K (zDn left r))
 (fun hs hk=>(hX0 (w64 (zaK+(1:Int))) zbc zbf zbM zal zab (fun i=>enc_40 (zbf.get i)) rfl (fun i=>zcr (zbM.get i)) rfl hs hk))
 (fun hs hk=>(zaU hs fun hc hs=>⟨⟨isE,rfl,hc⟩,(zaU hs fun hc hs=>⟨hc,(hX0 (w64 (zaK+(1:Int))) (((Slf69.r.S (⟨(⟨zbc,zbf⟩:Net),(⟨(addN (zab [((s89 w).get zaK.toNat).Use.Tie]) zal),(zdZ [((s89 w).get zaK.toNat).Use.Tie] [1] zab)⟩:Mp)⟩:web) (w64 (left - (1:Int)))).2).Net.Nodes) (((Slf69.r.S (⟨(⟨zbc,zbf⟩:Net),(⟨(addN (zab [((s89 w).get zaK.toNat).Use.Tie]) zal),(zdZ [((s89 w).get zaK.toNat).Use.Tie] [1] zab)⟩:Mp)⟩:web) (w64 (left - (1:Int)))).2).Net.Ties) (⟨(zbM.len+((Slf69.r.S (⟨(⟨zbc,zbf⟩:Net),(⟨(addN (zab [((s89 w).get zaK.toNat).Use.Tie]) zal),(zdZ [((s89 w).get zaK.toNat).Use.Tie] [1] zab)⟩:Mp)⟩:web) (w64 (left - (1:Int)))).1).len),(zg6 zbM.len zbM.get ((Slf69.r.S (⟨(⟨zbc,zbf⟩:Net),(⟨(addN (zab [((s89 w).get zaK.toNat).Use.Tie]) zal),(zdZ [((s89 w).get zaK.toNat).Use.Tie] [1] zab)⟩:Mp)⟩:web) (w64 (left - (1:Int)))).1).get)⟩:Sl (Sl Int)) (zCT (((((Slf69.r.S (⟨(⟨zbc,zbf⟩:Net),(⟨(addN (zab [((s89 w).get zaK.toNat).Use.Tie]) zal),(zdZ [((s89 w).get zaK.toNat).Use.Tie] [1] zab)⟩:Mp)⟩:web) (w64 (left - (1:Int)))).2).out).F) [((s89 w).get zaK.toNat).Use.Tie]) ((((Slf69.r.S (⟨(⟨zbc,zbf⟩:Net),(⟨(addN (zab [((s89 w).get zaK.toNat).Use.Tie]) zal),(zdZ [((s89 w).get zaK.toNat).Use.Tie] [1] zab)⟩:Mp)⟩:web) (w64 (left - (1:Int)))).2).out).n)) (zA2 [((s89 w).get zaK.toNat).Use.Tie] ((((Slf69.r.S (⟨(⟨zbc,zbf⟩:Net),(⟨(addN (zab [((s89 w).get zaK.toNat).Use.Tie]) zal),(zdZ [((s89 w).get zaK.toNat).Use.Tie] [1] zab)⟩:Mp)⟩:web) (w64 (left - (1:Int)))).2).out).F)) (fun i=>enc_40 (((Slf69.r.S (⟨(⟨zbc,zbf⟩:Net),(⟨(addN (zab [((s89 w).get zaK.toNat).Use.Tie]) zal),(zdZ [((s89 w).get zaK.toNat).Use.Tie] [1] zab)⟩:Mp)⟩:web) (w64 (left - (1:Int)))).2).Net.Ties.get i)) rfl (appG zbM.len (fun i=>zcr (zbM.get i)) (fun i=>zcr (((Slf69.r.S (⟨(⟨zbc,zbf⟩:Net),(⟨(addN (zab [((s89 w).get zaK.toNat).Use.Tie]) zal),(zdZ [((s89 w).get zaK.toNat).Use.Tie] [1] zab)⟩:Mp)⟩:web) (w64 (left - (1:Int)))).1).get i))) (zkH (enc:=zcr) (f:=zbM.get) (h:=((Slf69.r.S (⟨(⟨zbc,zbf⟩:Net),(⟨(addN (zab [((s89 w).get zaK.toNat).Use.Tie]) zal),(zdZ [((s89 w).get zaK.toNat).Use.Tie] [1] zab)⟩:Mp)⟩:web) (w64 (left - (1:Int)))).1).get) rfl rfl) hs hk)⟩)⟩)) hs hk)⟩))
 (fun hs hk=>(zw2 hk)) hs hk)
  exact key _ zaK zbc zbf zbM zal zab zcP zlh zcQ zli hs hk
def zAZ (w:web) (left:Int):((Sl (Sl Int))×web) :=
  (cond (!(s88 w))
 ((⟨1,fun _=>(⟨w.out.n,(fun i=>(zvr w.out.F w.out.n).getD i 0)⟩:(Sl Int))⟩:(Sl (Sl Int))),w)
 (cond (left == (0:Int))
 ((⟨0,fun _=>default⟩:(Sl (Sl Int))),w)
 (zt3 w left (0:Int) w.Net.Nodes w.Net.Ties (⟨0,(fun _=>default)⟩:Sl (Sl Int)) w.out.n w.out.F)))
def zK4 (w:web) (left:Int):Bool :=
  (decide ((p88 w=true)) &&
 (cond (!(s88 w))
 (decide ((w.out.n≤1000000∧(zvq w.out.F 9223372036854775808 0 w.out.n).isSome=true)) &&
 true)
 (cond (left == (0:Int))
 true
 (decide ((p89 w=true)) &&
 (zt4 w left (0:Int) w.Net.Nodes w.Net.Ties (⟨0,(fun _=>default)⟩:Sl (Sl Int)) w.out.n w.out.F)))))
theorem zNJ (w:web) (left:Int) (K:List PA×List XA→Prop) (hs:zK4 w left=true) (hk:K (zDn left (zAZ w left))):zkD Tryd.prog zCj zfC 69 [.box 105 [.p (.int .i64 w.Net.Nodes),.p (.sl w.Net.Ties.len 4 (fun i=>enc_40 (w.Net.Ties.get i))),.mo 3 4 (false,1,false,[none]) w.out.n w.out.F],.d (.one (.int .i64 left))] (fun a b=>(WkM K) (a,b)):=by
  refine zbb (zCk w left (WkM K)) ?_
  unfold zK4 at hs
  unfold zAZ at hk
  exact (zaU hs fun hc hs => ⟨⟨isE, rfl, hc⟩, (za1 (K := fun r => K (zDn left r))
 (fun hs hk=>(zaU hs fun hc hs=>⟨hc,(zw2 hk)⟩))
 (fun hs hk => (za1 (K := fun r => K (zDn left r))
 (fun hs hk=>(wkM hk (zh3 (.one (.nil _ _)) zo4)))
 (fun hs hk=>(zaU hs fun hc hs=>⟨⟨(fun _=>rfl),isE,rfl,hc⟩,(zCl K w left (0:Int) w.Net.Nodes w.Net.Ties (⟨0,(fun _=>default)⟩:Sl (Sl Int)) w.out.n w.out.F (fun i=>enc_40 (w.Net.Ties.get i)) rfl (fun i=>zcr ((fun _=>default) i)) rfl hs hk)⟩)) hs hk)) hs hk)⟩)
def zJe : MK
  | [.box 105 [.p (.int .i64 b0_Net_Nodes),.p (.sl b0_Net_Ties_n b0_Net_Ties_s b0_Net_Ties_g),.mo 3 4 b0_out_q b0_out_n b0_out_F],.d (.one (.int .i64 b1))]=>some (IsE enc_40 4 b0_Net_Ties_s b0_Net_Ties_g∧b0_out_q=(false,1,false,[none])∧zK4 (⟨(⟨b0_Net_Nodes,(⟨b0_Net_Ties_n,zao b0_Net_Ties_g⟩:(Sl Tie))⟩:Net),(⟨b0_out_n,b0_out_F⟩:Mp)⟩:web) b1=true,[.one (.sl (((zAZ (⟨(⟨b0_Net_Nodes,(⟨b0_Net_Ties_n,zao b0_Net_Ties_g⟩:(Sl Tie))⟩:Net),(⟨b0_out_n,b0_out_F⟩:Mp)⟩:web) b1).1).len) 1 (fun i=>zcr (((zAZ (⟨(⟨b0_Net_Nodes,(⟨b0_Net_Ties_n,zao b0_Net_Ties_g⟩:(Sl Tie))⟩:Net),(⟨b0_out_n,b0_out_F⟩:Mp)⟩:web) b1).1).get i)))],[.box 105 [.p (.int .i64 (((zAZ (⟨(⟨b0_Net_Nodes,(⟨b0_Net_Ties_n,zao b0_Net_Ties_g⟩:(Sl Tie))⟩:Net),(⟨b0_out_n,b0_out_F⟩:Mp)⟩:web) b1).2).Net.Nodes)),.p (.sl (((zAZ (⟨(⟨b0_Net_Nodes,(⟨b0_Net_Ties_n,zao b0_Net_Ties_g⟩:(Sl Tie))⟩:Net),(⟨b0_out_n,b0_out_F⟩:Mp)⟩:web) b1).2).Net.Ties.len) 4 (fun i=>enc_40 (((zAZ (⟨(⟨b0_Net_Nodes,(⟨b0_Net_Ties_n,zao b0_Net_Ties_g⟩:(Sl Tie))⟩:Net),(⟨b0_out_n,b0_out_F⟩:Mp)⟩:web) b1).2).Net.Ties.get i))),.mo 3 4 (false,1,false,[none]) ((((zAZ (⟨(⟨b0_Net_Nodes,(⟨b0_Net_Ties_n,zao b0_Net_Ties_g⟩:(Sl Tie))⟩:Net),(⟨b0_out_n,b0_out_F⟩:Mp)⟩:web) b1).2).out).n) ((((zAZ (⟨(⟨b0_Net_Nodes,(⟨b0_Net_Ties_n,zao b0_Net_Ties_g⟩:(Sl Tie))⟩:Net),(⟨b0_out_n,b0_out_F⟩:Mp)⟩:web) b1).2).out).F)],.d (.one (.int .i64 b1))])
  | _=>none
theorem zJf:zax Tryd.prog 69:=⟨_,rfl,rfl,by kernel_rfl⟩
theorem zLM (hself:zjo Tryd.prog 69 zxV):zjo Tryd.prog 69 zJe:=zBU (zLL hself) zJf fun xs safe rs ys h hs K hk=>by
  unfold zJe at h
  split at h
  · rename_i b0_Net_Nodes b0_Net_Ties_n b0_Net_Ties_s b0_Net_Ties_g b0_out_q b0_out_n b0_out_F b1
    simp only [Option.some.injEq,Prod.mk.injEq] at h
    obtain ⟨rfl,rfl,rfl⟩:=h
    obtain ⟨⟨rfl,b0_Net_Ties_f,rfl⟩,rfl,hs⟩:=hs
    try rw [zan b0_Net_Ties_f] at hs
    try rw [zan b0_Net_Ties_f] at hk
    refine ⟨fun _ _=>[],fun _=>false,zfC,?_⟩
    show zkD Tryd.prog zCj zfC 69 _ _
    exact zNJ (⟨(⟨b0_Net_Nodes,(⟨b0_Net_Ties_n,b0_Net_Ties_f⟩:(Sl Tie))⟩:Net),(⟨b0_out_n,b0_out_F⟩:Mp)⟩:web) b1 (fun x=>K x.1 x.2) hs hk
  · cases h
end
def zvl : Nat → Rec69
  | 0=>⟨fun _ _=>default,fun _ _=>false⟩
  | k+1=>⟨@zAZ ⟨zvl k⟩,@zK4 ⟨zvl k⟩⟩
theorem zJg : ∀ k, zjo Tryd.prog 69 (@zxV ⟨zvl k⟩)
  | 0=>fun xs ys safe rs h hs=>by
    unfold zxV at h
    split at h
    · simp only [Option.some.injEq, Prod.mk.injEq] at h
      obtain ⟨rfl,rfl,rfl⟩:=h
      exact absurd hs.2.2 Bool.false_ne_true
    · cases h
  | k+1=>@zLM ⟨zvl k⟩ (zJg k)
def s69 (w:web) (left:Int):((Sl (Sl Int))×web):=(zvl 64).S w left
def p69 (w:web) (left:Int):Bool:=(zvl 64).P w left
def zJh : MK
  | [.box 105 [.p (.int .i64 b0_Net_Nodes),.p (.sl b0_Net_Ties_n b0_Net_Ties_s b0_Net_Ties_g),.mo 3 4 b0_out_q b0_out_n b0_out_F],.d (.one (.int .i64 b1))]=>some (IsE enc_40 4 b0_Net_Ties_s b0_Net_Ties_g∧b0_out_q=(false,1,false,[none])∧p69 (⟨(⟨b0_Net_Nodes,(⟨b0_Net_Ties_n,zao b0_Net_Ties_g⟩:(Sl Tie))⟩:Net),(⟨b0_out_n,b0_out_F⟩:Mp)⟩:web) b1=true,[.one (.sl (((s69 (⟨(⟨b0_Net_Nodes,(⟨b0_Net_Ties_n,zao b0_Net_Ties_g⟩:(Sl Tie))⟩:Net),(⟨b0_out_n,b0_out_F⟩:Mp)⟩:web) b1).1).len) 1 (fun i=>zcr (((s69 (⟨(⟨b0_Net_Nodes,(⟨b0_Net_Ties_n,zao b0_Net_Ties_g⟩:(Sl Tie))⟩:Net),(⟨b0_out_n,b0_out_F⟩:Mp)⟩:web) b1).1).get i)))],[.box 105 [.p (.int .i64 (((s69 (⟨(⟨b0_Net_Nodes,(⟨b0_Net_Ties_n,zao b0_Net_Ties_g⟩:(Sl Tie))⟩:Net),(⟨b0_out_n,b0_out_F⟩:Mp)⟩:web) b1).2).Net.Nodes)),.p (.sl (((s69 (⟨(⟨b0_Net_Nodes,(⟨b0_Net_Ties_n,zao b0_Net_Ties_g⟩:(Sl Tie))⟩:Net),(⟨b0_out_n,b0_out_F⟩:Mp)⟩:web) b1).2).Net.Ties.len) 4 (fun i=>enc_40 (((s69 (⟨(⟨b0_Net_Nodes,(⟨b0_Net_Ties_n,zao b0_Net_Ties_g⟩:(Sl Tie))⟩:Net),(⟨b0_out_n,b0_out_F⟩:Mp)⟩:web) b1).2).Net.Ties.get i))),.mo 3 4 (false,1,false,[none]) ((((s69 (⟨(⟨b0_Net_Nodes,(⟨b0_Net_Ties_n,zao b0_Net_Ties_g⟩:(Sl Tie))⟩:Net),(⟨b0_out_n,b0_out_F⟩:Mp)⟩:web) b1).2).out).n) ((((s69 (⟨(⟨b0_Net_Nodes,(⟨b0_Net_Ties_n,zao b0_Net_Ties_g⟩:(Sl Tie))⟩:Net),(⟨b0_out_n,b0_out_F⟩:Mp)⟩:web) b1).2).out).F)],.d (.one (.int .i64 b1))])
  | _=>none
theorem zNK:zjo Tryd.prog 69 zJh:=zJg 64
abbrev T71:Tabs:=(Tabs.nil.addF 101 ztR)
theorem zLN:TabsOk Tryd.prog T71:=(TabsOk.nil.addF zI5)
abbrev G71:Ctrs:=csm T71 (fun _ _=>[]) (fun _=>false)
def zFl:Ann:=⟨36,[(0,zK [0,1] []),(1,zK [0,1,9,10,11] []),(2,zK [0,1,9,10,11,12] []),(3,zK [0,1,5,6,9,10,11] []),(4,zK [0,1,5,6,9,10,11,19] []),(5,zK [4] []),(6,zK [0,1,6,7,9,10,11] []),(7,zK [0,1,8,9,10,11] []),(8,zK [0,1,8,9,10,11,28] []),(9,zK [4] []),(10,zK [0,1,9,10,11] []),(11,zK [35] []),(12,zK [4] []),(13,zK [4] [])],
 [(2,zK [0,1,9,10,11] [])],
 [(6,zK [0,1,5,6,9,10,11] []),(8,zK [0,1,8,9,10,11] [])],
 [],[]⟩
abbrev R71:=Int
abbrev e71 (r:R71):List PA:=[.one (.int .i64 r)]
@[irreducible] def z71:=ptF Tryd.prog G71 zFl Tryd.f71
def zDo (zeS:(Sl Int)) (zei:(Sl Int)) (zha:(Sl Int)) (zaN:Int) (za4:Int) (zdz:Nat→List PV) (zdA:Nat→List PV) (zjh:Nat→List PV):St:=⟨[(0,zP (.sl zeS.len 1 zdz)),(1,zP (.sl zei.len 1 zdA)),(9,zP (.sl zha.len 1 zjh)),(10,zI zaN),(11,zI za4)],[],[]⟩
abbrev zCm (K:List PA→Prop) (X:St→Prop) (P:(Sl Int)→(Sl Int)→(Sl Int)→Int→Int→Bool) (S:(Sl Int)→(Sl Int)→(Sl Int)→Int→Int→Int):Prop:=∀ ⦃zeS:(Sl Int)⦄ ⦃zei:(Sl Int)⦄ ⦃zha:(Sl Int)⦄ ⦃zaN:Int⦄ ⦃za4:Int⦄ ⦃zdz:Nat→List PV⦄ ⦃zdA:Nat→List PV⦄ ⦃zjh:Nat→List PV⦄,P zeS zei zha zaN za4=true→K (e71 (S zeS zei zha zaN za4))→zdz=zg enc_3 zeS→zdA=zg enc_3 zei→zjh=zg enc_3 zha→X (zDo zeS zei zha zaN za4 zdz zdA zjh)
section
variable {K:List PA→Prop} {s1_a0:(Sl Int)} {s2_a1:(Sl Int)} {zeS:(Sl Int)} {zei:(Sl Int)} {zha:(Sl Int)} {zaN:Int} {za4:Int} {zdz:Nat→List PV} {zdA:Nat→List PV} {zjh:Nat→List PV} {X0:St→Prop} {P0:(Sl Int)→(Sl Int)→(Sl Int)→Int→Int→Bool} {S0:(Sl Int)→(Sl Int)→(Sl Int)→Int→Int→Int} {zpk:(Sl Int)} {zjH:(Sl Int)} {iv1:Int} {zFm:Int} {zrq:(Sl Int)} {zh1:Int} {zc4:Int} {zpl:Nat→List PV} {zpm:Nat→List PV} {zDp:Nat→List PV} {zpn:(Sl Int)} {zpo:(Sl Int)} {cv2:Int} {zrr:Int} {zpp:Nat→List PV} {zpq:Nat→List PV}
def zxW (S0:(Sl Int)→(Sl Int)→(Sl Int)→Int→Int→Int) (zrq:(Sl Int)) (zh1:Int) (zpn:(Sl Int)) (zpo:(Sl Int)) (cv2:Int) (zrr:Int):Int :=
  (cond (cv2 != (0:Int))
 cv2
 (S0 zpn zpo zrq zh1 (w64 (zrr+(1:Int)))))
def zxX (P0:(Sl Int)→(Sl Int)→(Sl Int)→Int→Int→Bool) (zrq:(Sl Int)) (zh1:Int) (zpn:(Sl Int)) (zpo:(Sl Int)) (cv2:Int) (zrr:Int):Bool :=
  (cond (cv2 != (0:Int))
 true
 (P0 zpn zpo zrq zh1 (w64 (zrr+(1:Int)))))
theorem zFn (hX0:zCm K X0 P0 S0) (hs:zxX P0 zrq zh1 zpn zpo cv2 zrr=true) (hk:K (e71 (zxW S0 zrq zh1 zpn zpo cv2 zrr))) (zxx:zpp=zg enc_3 zpn) (zxy:zpq=zg enc_3 zpo):z71 K [1,0,1,0,0,1,1,0,0,1,1,1,1] [X0] ⟨[(0,zP (.sl zpn.len 1 zpp)),(1,zP (.sl zpo.len 1 zpq)),(8,zI cv2),(9,zS enc_3 1 zrq),(10,zI zh1),(11,zI zrr)],[],[]⟩:=by subst zxx;subst zxy;exact zbb (by kernel_rfl) (zc hs hk (fun hs hk=>hk) (fun hs hk=>(hX0 hs hk rfl rfl rfl)))
def zxY (S0:(Sl Int)→(Sl Int)→(Sl Int)→Int→Int→Int) (zpk:(Sl Int)) (zjH:(Sl Int)) (iv1:Int) (zFm:Int) (zrq:(Sl Int)) (zh1:Int) (zc4:Int):Int :=
  (zxW S0 zrq zh1 zpk zjH (zAY zFm (zjH.get iv1.toNat)) zc4)
def zxZ (P0:(Sl Int)→(Sl Int)→(Sl Int)→Int→Int→Bool) (zpk:(Sl Int)) (zjH:(Sl Int)) (iv1:Int) (zFm:Int) (zrq:(Sl Int)) (zh1:Int) (zc4:Int):Bool :=
  (decide ((0≤iv1∧iv1 < (zjH.len:Int))) &&
 (zxX P0 zrq zh1 zpk zjH (zAY zFm (zjH.get iv1.toNat)) zc4))
theorem zFo (hX0:zCm K X0 P0 S0) (hs:zxZ P0 zpk zjH iv1 zFm zrq zh1 zc4=true) (hk:K (e71 (zxY S0 zpk zjH iv1 zFm zrq zh1 zc4))) (zxz:zpl=zg enc_3 zpk) (zxA:zpm=zg enc_3 zjH) (zJi:zDp=zg enc_3 zrq):z71 K [1,0,1,0,0,1,1,0,0,1,1] [X0] ⟨[(0,zP (.sl zpk.len 1 zpl)),(1,zP (.sl zjH.len 1 zpm)),(5,zI iv1),(6,zI zFm),(9,zP (.sl zrq.len 1 zDp)),(10,zI zh1),(11,zI zc4)],[],[]⟩:=by subst zxz;subst zxA;subst zJi;exact zbb (by kernel_rfl) (zaU hs fun hc hs=>And.intro hc (zFn hX0 hs hk rfl rfl))
def zx0 (S0:(Sl Int)→(Sl Int)→(Sl Int)→Int→Int→Int) (zeS:(Sl Int)) (zei:(Sl Int)) (zha:(Sl Int)) (zaN:Int) (za4:Int):Int :=
  (cond (decide (za4 < zaN))
 (cond (decide (za4 ≥ (zei.len : Int)))
 (1:Int)
 (zxY S0 zeS zei za4 (zha.get za4.toNat) zha zaN za4))
 (cond (decide ((zeS.len : Int) < (zei.len : Int)))
 (-1:Int)
 (0:Int)))
def zx1 (P0:(Sl Int)→(Sl Int)→(Sl Int)→Int→Int→Bool) (zeS:(Sl Int)) (zei:(Sl Int)) (zha:(Sl Int)) (zaN:Int) (za4:Int):Bool :=
  (cond (decide (za4 < zaN))
 (decide ((0≤za4∧za4 < (zha.len:Int))) &&
 (cond (decide (za4 ≥ (zei.len : Int)))
 true
 (zxZ P0 zeS zei za4 (zha.get za4.toNat) zha zaN za4)))
 true)
def zx2:Nat→(Sl Int)→(Sl Int)→(Sl Int)→Int→Int→Int:=lpO (fun _ _ _ _ _=>default) (zx0)
def zx3:Nat→(Sl Int)→(Sl Int)→(Sl Int)→Int→Int→Bool:=lpO (fun _ _ _ _ _=>false) (zx1)
def zx4 (zeS:(Sl Int)) (zei:(Sl Int)) (zha:(Sl Int)) (zaN:Int) (za4:Int):Int:=zx2 Fuel zeS zei zha zaN za4
def zx5 (zeS:(Sl Int)) (zei:(Sl Int)) (zha:(Sl Int)) (zaN:Int) (za4:Int):Bool:=zx3 Fuel zeS zei zha zaN za4
theorem zFp (hs:zx5 zeS zei zha zaN za4=true) (hk:K (e71 (zx4 zeS zei zha zaN za4))) (zkQ:zdz=zg enc_3 zeS) (zkR:zdA=zg enc_3 zei) (zx6:zjh=zg enc_3 zha):z71 K [1,0,1,0] [] (zDo zeS zei zha zaN za4 zdz zdA zjh) :=
  zl (fun X=>z71 K [1,0,1,0,0] [X]) (by kernel_rfl) fun X0 hX =>
  (show ∀ k, zCm K X0 (zx3 k) (zx2 k) from zh4 _ _ (zx1) (zx0) (zCm K X0)
 (by intro _ _ _ _ _ _ _ _ hs;exact absurd hs Bool.false_ne_true)
 (by intro P0 S0 hX0 zeS zei zha zaN za4 zdz zdA zjh hs hk zkQ zkR zx6;subst zkQ;subst zkR;subst zx6;exact hX _ (zbb (by kernel_rfl) (zc hs hk (fun hs hk=>(zaU hs fun hc hs=>And.intro hc (zc hs hk (fun hs hk=>hk) (fun hs hk=>(zFo hX0 hs hk rfl rfl rfl))))) (fun hs hk=>(zt hk (fun hk=>hk) (fun hk=>hk))))))) _ hs hk zkQ zkR zx6
def s71 (s1_a0:(Sl Int)) (s2_a1:(Sl Int)):Int :=
  (zx4 s1_a0 s2_a1 s1_a0 (s1_a0.len:Int) (0:Int))
def p71 (s1_a0:(Sl Int)) (s2_a1:(Sl Int)):Bool :=
  (zx5 s1_a0 s2_a1 s1_a0 (s1_a0.len:Int) (0:Int))
end
theorem q71 (s1_a0:(Sl Int)) (s2_a1:(Sl Int)) (K:List PA→Prop) (hs:p71 s1_a0 s2_a1=true) (hk:K (e71 (s71 s1_a0 s2_a1))):vcFun Tryd.prog G71 zFl 71 [.one (.sl s1_a0.len 1 (fun i=>enc_3 (s1_a0.get i))),.one (.sl s2_a1.len 1 (fun i=>enc_3 (s2_a1.get i)))] K :=
  zbb (by kernel_rfl) (zFp hs hk rfl rfl rfl)
def zFq : List PA → COut
  | [.one (.sl zf4 zmC zf5),.one (.sl zd5 zit zdV)]=>.det (IsE enc_3 1 zmC zf5∧IsE enc_3 1 zit zdV∧p71 (⟨zf4,zaA zf5⟩:(Sl Int)) (⟨zd5,zaA zdV⟩:(Sl Int))=true) [.one (.int .i64 (s71 (⟨zf4,zaA zf5⟩:(Sl Int)) (⟨zd5,zaA zdV⟩:(Sl Int))))]
  | _=>.no
theorem zJj:zax Tryd.prog 71:=⟨_,rfl,rfl,by kernel_rfl⟩
theorem zNL:Ok Tryd.prog 71 zFq:=zbv zLN zJj fun args K h=>by
  unfold zFq at h
  split at h
  · rename_i zf4 zmC zf5 zd5 zit zdV
    obtain ⟨⟨⟨rfl,zis,rfl⟩,⟨rfl,zf7,rfl⟩,hs⟩,hk⟩:=h
    try rw [zbp zis] at hs
    try rw [zbp zis] at hk
    try rw [zbp zf7] at hs
    try rw [zbp zf7] at hk
    exact ⟨(fun _ _=>[]),(fun _=>false),zFl,q71 (⟨zf4,zis⟩:(Sl Int)) (⟨zd5,zf7⟩:(Sl Int)) K hs hk⟩
  · exact h.elim
abbrev T70:Tabs:=(Tabs.nil.addF 71 zFq)
theorem zLO:TabsOk Tryd.prog T70:=(TabsOk.nil.addF zNL)
abbrev G70:Ctrs:=csm T70 (fun _ _=>[]) (fun _=>false)
def zFr:Ann:=⟨33,[(0,zK [0,1] []),(1,zK [0,1,9] []),(3,zK [0,1,5] []),(4,zK [0,1,5,6] []),(5,zK [0,1,5,6,17] []),(6,zK [0,1,5,6] []),(7,zK [0,1,5,6,27] []),(8,zK [0,1,5,6] []),(9,zK [4] [])],
 [(5,zK [0,1,5,6] [])],
 [(3,zK [0,1] []),(8,zK [0,1,5,6,27] [])],
 [],[]⟩
abbrev R70:=(Sl Int)
abbrev e70 (r:R70):List PA:=[.one (.sl r.len 1 (fun i=>enc_3 (r.get i)))]
@[irreducible] def z70:=ptF Tryd.prog G70 zFr Tryd.f70
def zDq (x:(Sl (Sl Int))) (mv1:(Sl Int)) (iv1:Int) (zpB:Nat→List PV):St:=⟨[(0,zS zcr 1 x),(1,zP (.fn 71 [] [])),(5,zP (.sl mv1.len 1 zpB)),(6,zI iv1)],[],[]⟩
abbrev zFs (K:List PA→Prop) (x:(Sl (Sl Int))) (X:St→Prop) (P:(Sl Int)→Int→Bool) (S:(Sl Int)→Int→(Sl Int)):Prop:=∀ ⦃mv1:(Sl Int)⦄ ⦃iv1:Int⦄ ⦃zpB:Nat→List PV⦄,P mv1 iv1=true→K (e70 (S mv1 iv1))→zpB=zg enc_3 mv1→X (zDq x mv1 iv1 zpB)
section
variable {K:List PA→Prop} {x:(Sl (Sl Int))} {mv1:(Sl Int)} {iv1:Int} {zpB:Nat→List PV} {X1:St→Prop} {P1:(Sl Int)→Int→Bool} {S1:(Sl Int)→Int→(Sl Int)} {mv2:(Sl Int)} {iv2:Int} {zrt:Bool} {zJk:Nat→List PV}
def zx7 (S1:(Sl Int)→Int→(Sl Int)) (x:(Sl (Sl Int))) (mv2:(Sl Int)) (iv2:Int) (zrt:Bool):(Sl Int) :=
  (cond zrt
 (S1 (x.get iv2.toNat) (w64 (iv2+(1:Int))))
 (S1 mv2 (w64 (iv2+(1:Int)))))
def zx8 (P1:(Sl Int)→Int→Bool) (x:(Sl (Sl Int))) (mv2:(Sl Int)) (iv2:Int) (zrt:Bool):Bool :=
  (cond zrt
 (decide ((0≤iv2∧iv2 < (x.len:Int))) &&
 (P1 (x.get iv2.toNat) (w64 (iv2+(1:Int)))))
 (P1 mv2 (w64 (iv2+(1:Int)))))
theorem zFt (hX1:zFs K x X1 P1 S1) (hs:zx8 P1 x mv2 iv2 zrt=true) (hk:K (e70 (zx7 S1 x mv2 iv2 zrt))) (zLP:zJk=zg enc_3 mv2):z70 K [1,1,1,0,1,0,0,1,0,0,1] [X1] ⟨[(0,zS zcr 1 x),(1,zP (.fn 71 [] [])),(5,zP (.sl mv2.len 1 zJk)),(6,zI iv2),(27,zB zrt)],[],[]⟩:=by subst zLP;exact zbb (by kernel_rfl) (zc hs hk (fun hs hk=>(zaU hs fun hc hs=>And.intro hc (hX1 hs hk rfl))) (fun hs hk=>(hX1 hs hk rfl)))
def zx9 (x:(Sl (Sl Int))) (S1:(Sl Int)→Int→(Sl Int)) (mv1:(Sl Int)) (iv1:Int):(Sl Int) :=
  (cond (decide (iv1 < (x.len : Int)))
 (zx7 S1 x mv1 iv1 (decide ((s71 (x.get iv1.toNat) mv1) < (0:Int))))
 mv1)
def zya (x:(Sl (Sl Int))) (P1:(Sl Int)→Int→Bool) (mv1:(Sl Int)) (iv1:Int):Bool :=
  (cond (decide (iv1 < (x.len : Int)))
 (decide ((0≤iv1∧iv1 < (x.len:Int))) &&
 (decide ((p71 (x.get iv1.toNat) mv1=true)) &&
 (zx8 P1 x mv1 iv1 (decide ((s71 (x.get iv1.toNat) mv1) < (0:Int))))))
 true)
def zyb (x:(Sl (Sl Int))):Nat→(Sl Int)→Int→(Sl Int):=lpO (fun _ _=>default) (zx9 x)
def zyc (x:(Sl (Sl Int))):Nat→(Sl Int)→Int→Bool:=lpO (fun _ _=>false) (zya x)
def zyd (x:(Sl (Sl Int))) (mv1:(Sl Int)) (iv1:Int):(Sl Int):=zyb x Fuel mv1 iv1
def zye (x:(Sl (Sl Int))) (mv1:(Sl Int)) (iv1:Int):Bool:=zyc x Fuel mv1 iv1
theorem zFu (hs:zye x mv1 iv1=true) (hk:K (e70 (zyd x mv1 iv1))) (zFv:zpB=zg enc_3 mv1):z70 K [1,1,1,0,1,0] [] (zDq x mv1 iv1 zpB) :=
  zl (fun X=>z70 K [1,1,1,0,1,0,0] [X]) (by kernel_rfl) fun X1 hX =>
  (show ∀ k, zFs K x X1 (zyc x k) (zyb x k) from zh4 _ _ (zya x) (zx9 x) (zFs K x X1)
 (by intro _ _ _ hs;exact absurd hs Bool.false_ne_true)
 (by intro P1 S1 hX1 mv1 iv1 zpB hs hk zFv;subst zFv;exact hX _ (zbb (by kernel_rfl) (zc hs hk (fun hs hk=>(zaU hs fun hc hs=>And.intro hc (zaU hs fun hc hs=>And.intro (And.intro (zE enc_3 1 ((x.get iv1.toNat).get)) (And.intro (zE enc_3 1 mv1.get) hc)) (zFt hX1 hs hk rfl)))) (fun hs hk=>hk))))) _ hs hk zFv
def zyf (x:(Sl (Sl Int))):(Sl Int) :=
  (zyd x (x.get 0) (1:Int))
def zyg (x:(Sl (Sl Int))):Bool :=
  (decide ((0≤(0:Int)∧(0:Int) < (x.len:Int))) &&
 (zye x (x.get 0) (1:Int)))
theorem zFw (hs:zyg x=true) (hk:K (e70 (zyf x))):z70 K [1,1] [] ⟨[(0,zS zcr 1 x),(1,zP (.fn 71 [] []))],[],[]⟩:=zbb (by kernel_rfl) (zaU hs fun hc hs=>And.intro hc (zFu hs hk rfl))
def s70 (x:(Sl (Sl Int))):(Sl Int) :=
  (cond (decide ((x.len : Int) < (1:Int)))
 default
 (zyf x))
def p70 (x:(Sl (Sl Int))):Bool :=
  (cond (decide ((x.len : Int) < (1:Int)))
 false
 (zyg x))
end
theorem q70 (x:(Sl (Sl Int))) (K:List PA→Prop) (hs:p70 x=true) (hk:K (e70 (s70 x))):vcFun Tryd.prog G70 zFr 70 [.one (.sl x.len 1 (fun i=>zcr (x.get i))),.one (.fn 71 [] [])] K :=
  zbb (by kernel_rfl) (zc hs hk (fun hs hk=>(absurd hs Bool.false_ne_true:False)) (fun hs hk=>(zFw hs hk)))
def zFx : List PA → COut
  | [.one (.sl zf4 zmC zf5),.one (.fn 71 [] [])]=>.det (IsE zcr 1 zmC zf5∧p70 (⟨zf4,znr zf5⟩:(Sl (Sl Int)))=true) [.one (.sl ((s70 (⟨zf4,znr zf5⟩:(Sl (Sl Int)))).len) 1 (fun i=>enc_3 ((s70 (⟨zf4,znr zf5⟩:(Sl (Sl Int)))).get i)))]
  | _=>.no
theorem zJl:zax Tryd.prog 70:=⟨_,rfl,rfl,by kernel_rfl⟩
theorem zNM:Ok Tryd.prog 70 zFx:=zbv zLO zJl fun args K h=>by
  unfold zFx at h
  split at h
  · rename_i zf4 zmC zf5
    obtain ⟨⟨⟨rfl,zis,rfl⟩,hs⟩,hk⟩:=h
    try rw [zkI zis] at hs
    try rw [zkI zis] at hk
    exact ⟨(fun _ _=>[]),(fun _=>false),zFr,q70 (⟨zf4,zis⟩:(Sl (Sl Int))) K hs hk⟩
  · exact h.elim
end Go.Proofs
namespace Go.Pm
open Go.RowKit (Below)
section
variable (P:Program) (Γ:Ctrs)
def zt5 (fi : FuncId) : Code → Option (Nat × Nat)
  | .region id ops false=>match ops.toList with
    | [o1,o2]=>match o1.op,o1.dst,o1.guard,o2.op,o2.dst,o2.guard with
      | .makeFunc (.func f) first caps,some t,none,.defer { callee:=.value (.tmp t'),args,argTypes:=_ },none,none=>match Nat.beq f fi && Nat.beq t t' && first.isEmpty && args.isEmpty && Nat.beq caps.size 2 with
        | true=>some (id,t)
        | false=>none
      | _,_,_,_,_,_=>none
    | _=>none
  | _=>none
def zCn (fi : FuncId) (ann : Ann) : Code → (Exit → St → Prop) → St → Prop
  | .seq a b,K,σ=>match zt5 fi a with
    | some (id,t)=>match Nat.blt t ann.nt with
      | true=>zD4 P ann id (vc P Γ ann b K) ⟨(t,.junk) :: σ.env,σ.objs,[]⟩
      | false=>False
    | none=>vc P Γ ann a (zCV (zCn fi ann b K) K) σ
  | c,K,σ=>vc P Γ ann c K σ
def zt6 (fi:FuncId) (ann:Ann) (f:FuncId) (args:List PA) (K:List PA→Prop):Prop :=
 match P.funcs[f]? with
 | some fn=>match fn.body with
  | some c=>match Nat.beq ann.nt fn.ntmps && Nat.ble args.length ann.nt with
   | true=>zCn P Γ fi ann c (zbo P fn K) ⟨zhv 0 args,[],[]⟩
   | false=>False
  | none=>False
 | none=>False
end
section
variable {P:Program} {Γ:Ctrs} {B:Nat} {w0:World}
theorem zmE {fi:FuncId} {c:Code} {id t:Nat} (h:zt5 fi c=some (id,t)):∃ (o1 o2:Oper) (caps:Array Operand) (ats:Array TypeId),c=.region id #[o1,o2] false∧caps.size=2∧o1.op=.makeFunc (.func fi) #[] caps∧o1.dst=some t∧o1.guard=none ∧
  o2.op=.defer { callee:=.value (.tmp t),args:=#[],argTypes:=ats }∧o2.dst=none∧o2.guard=none:=by
 unfold zt5 at h
 split at h
 ·rename_i id' ops
  split at h
  ·rename_i o1 o2 hops
   split at h
   ·rename_i f first caps t' t2 args ats e1 e2 e3 e4 e5 e6
    split at h
    ·rename_i hc
     simp only [Bool.and_eq_true] at hc
     simp only [Option.some.injEq,Prod.mk.injEq] at h
     obtain ⟨rfl,rfl⟩:=h
     obtain ⟨⟨⟨⟨h1,h2⟩,h3⟩,h4⟩,h5⟩:=hc
     have h5:=Nat.eq_of_beq_eq_true h5
     have h1:=Nat.eq_of_beq_eq_true h1
     have h2:=Nat.eq_of_beq_eq_true h2
     have h3:first = #[]:=by simpa using h3
     have h4:args = #[]:=by simpa using h4
     subst h1 h2 h3 h4
     refine ⟨o1,o2,caps,ats,?_,h5,e1,e2,e3,e4,e5,e6⟩
     rw [← Array.toArray_toList (xs:=ops),hops]
    ·cases h
   ·cases h
  ·cases h
 ·cases h
theorem zvm {fi : FuncId} (hidle : ∀ caps : Array Value, caps.size = 2 → zmR P { target := .fn (.func fi) caps, args := #[] }) {c : Code} {id t nt n : Nat} {h0 : Fz} {D : List Nat} {a0 a : Act} {σ : St} {g : Gh} {w : World} {Q : Exit → Act → World → Prop}
    (h:zt5 fi c=some (id,t)) (ht:t < nt) (htD:t∈D) (S:Sim P nt B w0 h0 g σ a w) (hkp:Kp D a0 a)
    (hQ:∀ a',Sim P nt B w0 h0 g ⟨(t,.junk) :: σ.env,σ.objs,[]⟩ a' w→Kp D a0 a'→Q .normal a' w):c.wpIn (FR none) n P Q a w:=by
  obtain ⟨o1,o2,caps,ats,rfl,e0,e1,e2,e3,e4,e5,e6⟩:=zmE h
  refine wpIn_region ?_
  show wpOpsIn (FR none) n P #[o1,o2] Q [0,1] a w
  have w1:∀ tm,Region.wanted o1 (yielded #[o1,o2] tm)=true:=fun tm=>by simp [Region.wanted,e3]
  have w2:∀ tm,Region.wanted o2 (yielded #[o1,o2] tm)=true:=fun tm=>by simp [Region.wanted,e6]
  have r1:(execOp a.eval o1).run P w=.ok (.value (.func (.func fi) #[] (caps.map a.eval))) w:=by
    simp only [execOp,e1,Instr.makeFunc,Sem.run_bind,Sem.run_pure,Result.andThen_ok];simp
  have ets:t < a.tmps.size:=Nat.lt_of_lt_of_le ht S.size
  have ev:(a.put (some t) (.func (.func fi) #[] (caps.map a.eval))).eval (.tmp t)=.func (.func fi) #[] (caps.map a.eval):=by
    simp [Act.put,Act.eval,Array.getD_eq_getD_getElem?,ets]
  have r2:(execOp (a.put (some t) (.func (.func fi) #[] (caps.map a.eval))).eval o2).run P w=.ok (.defer { target:=.fn (.func fi) (caps.map a.eval),args:=#[] }) w:=by
    simp only [execOp,e4,resolve,Sem.run_bind,ev,Deferred.ofValue,Sem.run_pure,Result.andThen_ok];simp
  show (if Region.wanted o1 (yielded #[o1,o2] a.tmps) then o1.wpIn (FR none) n P a w (wpOpsIn (FR none) n P #[o1,o2] Q [1]) Q else _)
  rw [if_pos (w1 _)]
  refine ⟨fun _ _=>trivial,?_⟩
  rw [show o1.semAt (FR none).round a.eval=execOp a.eval o1 from rfl,r1]
  show wpOpsIn (FR none) n P #[o1,o2] Q [1] (a.put o1.dst _) w
  rw [e2]
  show (if Region.wanted o2 (yielded #[o1,o2] (a.put (some t) _).tmps) then o2.wpIn (FR none) n P (a.put (some t) _) w (wpOpsIn (FR none) n P #[o1,o2] Q []) Q else _)
  rw [if_pos (w2 _)]
  refine ⟨fun _ _=>trivial,?_⟩
  have r3:Sem.run P (o2.semAt (FR none).round (a.put (some t) (.func (.func fi) #[] (caps.map a.eval))).eval) w=.ok (.defer { target:=.fn (.func fi) (caps.map a.eval),args:=#[] }) w:=r2
  rw [r3]
  have S1:=S.put (dst:=some t) (d:=.junk) (v:=.func (.func fi) #[] (caps.map a.eval)) (by simpa [zbP,Nat.blt_eq] using ht) trivial (fun L hL=>by simp [za6,zby,zaM] at hL) []
  refine hQ _ (S1.act ?_ ?_ ?_) ?_
  · obtain ⟨es, m1, m2, m3, m4⟩ := S1.dfr
    refine ⟨.inr { target:=.fn (.func fi) (caps.map a.eval),args:=#[] } :: es,m1,?_,fun E hE=>?_,fun d hd=>?_⟩
    · rw [e5,List.map_cons,← m2];rfl
    · rcases List.mem_cons.1 hE with e | hE
      · cases e
      · exact m3 E hE
    · rcases List.mem_cons.1 hd with e | hd
      · cases e;exact hidle _ (by simpa using e0)
      · exact m4 d hd
  · rw [e5];exact S1.size
  · rw [e5];exact S1.env
  · rw [e5]
    exact hkp.put (dst:=some t) (fun z hz=>by cases hz;exact htD) _ a.defers
theorem zyh (hok:OkAll P Γ) {fi:FuncId} (hidle:∀ caps:Array Value,caps.size=2→zmR P { target:=.fn (.func fi) caps,args:=#[] }) (ann:Ann):∀ (c:Code) (n:Nat) (h0:Fz) (D:List Nat) (a0:Act) (K:Exit→St→Prop) (σ:St) (g:Gh) (a:Act) (w:World),
  (∀ t∈zht c,t∈D)→zCn P Γ fi ann c K σ→Sim P ann.nt B w0 h0 g σ a w→Kp D a0 a→c.wpIn (FR none) n P (PostR P ann.nt B w0 h0 D a0 K) a w
 | .seq x y,n,h0,D,a0,K,σ,g,a,w,hD,h,S,hkp=>by
  have hDx:∀ t∈zht x,t∈D:=fun t ht=>hD t (List.mem_append.2 (.inl ht))
  have hDy:∀ t∈zht y,t∈D:=fun t ht=>hD t (List.mem_append.2 (.inr ht))
  simp only [zCn] at h
  split at h
  ·rename_i id t hdf
   split at h
   ·rename_i hlt
    have ht:t < ann.nt:=by simpa [Nat.blt_eq] using hlt
    have htD:t∈D:=by
     obtain ⟨o1,o2,caps,ats,rfl,_,_,e2,_,_,e5,_⟩:=zmE hdf
     exact hDx t (by simp [zht,zvA,e2])
    refine wpIn_seq (zvm hidle hdf ht htD S hkp fun a' S' hk'=>?_)
    have hk:∀ s g2,vc P Γ ann y K s→Sim P ann.nt B w0 h0 g2 s a' w→y.wpIn (FR none) n P (PostR P ann.nt B w0 h0 D a0 K) a' w:=fun s g2 hv S2=>zdK hok ann y none n h0 D a0 K s g2 a' w hDy (Rnd.none h0) hv S2 hk'
    unfold zD4 at h
    split at h
    ·split at h
     ·rename_i s hs
      obtain ⟨g2,S2⟩:=zbG hs S'
      exact hk s g2 h S2
     ·exact h.elim
    ·exact hk _ g h S'
   ·exact h.elim
  ·refine wpIn_seq (wpIn_mono (zdK hok ann x none n h0 D a0 _ σ g a w hDx (Rnd.none h0) h S hkp) ?_)
   rintro e a' w' ⟨g',σ',hK,S',hk'⟩
   cases e with
   | normal=>exact zyh hok hidle ann y n h0 D a0 K σ' g' a' w' hDy hK S' hk'
   | exit id=>exact ⟨g',σ',hK,S',hk'⟩
   | goto l=>exact ⟨g',σ',hK,S',hk'⟩
   | ret=>exact ⟨g',σ',hK,S',hk'⟩
   | panic ch=>exact ⟨g',σ',hK,S',hk'⟩
   | outgrown=>exact ⟨g',σ',hK,S',hk'⟩
 | .skip,n,h0,D,a0,K,σ,g,a,w,hD,h,S,hkp=>zdK hok ann .skip none n h0 D a0 K σ g a w hD (Rnd.none h0) h S hkp
 | .region i o d,n,h0,D,a0,K,σ,g,a,w,hD,h,S,hkp=>zdK hok ann (.region i o d) none n h0 D a0 K σ g a w hD (Rnd.none h0) h S hkp
 | .cond c x y,n,h0,D,a0,K,σ,g,a,w,hD,h,S,hkp=>zdK hok ann (.cond c x y) none n h0 D a0 K σ g a w hD (Rnd.none h0) h S hkp
 | .block i x,n,h0,D,a0,K,σ,g,a,w,hD,h,S,hkp=>zdK hok ann (.block i x) none n h0 D a0 K σ g a w hD (Rnd.none h0) h S hkp
 | .loop x,n,h0,D,a0,K,σ,g,a,w,hD,h,S,hkp=>zdK hok ann (.loop x) none n h0 D a0 K σ g a w hD (Rnd.none h0) h S hkp
 | .scope x,n,h0,D,a0,K,σ,g,a,w,hD,h,S,hkp=>zdK hok ann (.scope x) none n h0 D a0 K σ g a w hD (Rnd.none h0) h S hkp
 | .exit i,n,h0,D,a0,K,σ,g,a,w,hD,h,S,hkp=>zdK hok ann (.exit i) none n h0 D a0 K σ g a w hD (Rnd.none h0) h S hkp
 | .goto i,n,h0,D,a0,K,σ,g,a,w,hD,h,S,hkp=>zdK hok ann (.goto i) none n h0 D a0 K σ g a w hD (Rnd.none h0) h S hkp
 | .label i,n,h0,D,a0,K,σ,g,a,w,hD,h,S,hkp=>zdK hok ann (.label i) none n h0 D a0 K σ g a w hD (Rnd.none h0) h S hkp
 | .ret,n,h0,D,a0,K,σ,g,a,w,hD,h,S,hkp=>zdK hok ann .ret none n h0 D a0 K σ g a w hD (Rnd.none h0) h S hkp
 | .rangeFunc f p x y,n,h0,D,a0,K,σ,g,a,w,hD,h,S,hkp=>zdK hok ann (.rangeFunc f p x y) none n h0 D a0 K σ g a w hD (Rnd.none h0) h S hkp
 | .refuse x,n,h0,D,a0,K,σ,g,a,w,hD,h,S,hkp=>zdK hok ann (.refuse x) none n h0 D a0 K σ g a w hD (Rnd.none h0) h S hkp
theorem zCo {G : Ctrs} (hok : OkAll P G) {f fi : FuncId} (hidle : ∀ caps : Array Value, caps.size = 2 → zmR P { target := .fn (.func fi) caps, args := #[] }) {args : List PA} {K : List PA → Prop} {ann : Ann} (hv : zt6 P G fi ann f args K) {w : World} {h0 : Fz} {vs : List Value} (hvs : RL (paR h0) args vs) (hfz : Hw h0 w) (hgl : zer h0) :
  Calls P f vs.toArray w fun e w'=>∃ (h':Fz) (rs:List PA) (v:Value),K rs∧e=.returned v∧zod h' rs v∧Bel h0 w.heap.size w w' ∧
   Fle h0 h'∧Hw h' w'∧∀ b o,h' b=some o→h0 b=some o∨w.heap.size≤b:=by
 unfold zt6 at hv
 split at hv
 ·rename_i fn hfn
  split at hv
  ·rename_i c hbody
   split at hv
   ·rename_i hnt
    simp only [Bool.and_eq_true,Nat.ble_eq] at hnt
    have S:=zkC (P:=P) (Nat.eq_of_beq_eq_true hnt.1) hnt.2 hvs hfz hgl
    have hwp:=zyh (B:=w.heap.size) (w0:=w) hok hidle ann c 0 h0 (zht c) _ _ _ _ _ _ (fun _ h=>h) hv S (Kp.refl _ _)
    refine (callsIn_wide (n:=0)).1 ?_
    refine callsIn_of_wp_marks (F:=FR none) hfn hbody trivial (wpIn_mono hwp ?_)
    have h0b:∀ b,h0 b=some (.fz (.deferred (some [])))→b < w.heap.size:=fun b h=>hfz.lt h
    rintro e a' w' ⟨g',σ',hK',S',_⟩
    have fin:zHR P fn K σ'→LeavesInM (FR none) 0 P fn a'.tmps (fun e w'=>∃ (h':Fz) (rs:List PA) (v:Value),K rs∧e=.returned v∧zod h' rs v∧Bel h0 w.heap.size w w' ∧
      Fle h0 h'∧Hw h' w'∧∀ b o,h' b=some o→h0 b=some o∨w.heap.size≤b) a'.defers .returning w':=by
     intro hf
     obtain ⟨Ds,h1,h2,h3,h4⟩:=S'.dfr
     refine zkB h0b Ds g' a' w' h1 h2 h3 h4 S' fun g2 a2 w2 _ S2=>?_
     unfold zHR at hf
     split at hf
     ·rename_i l hl
      obtain ⟨u,v,hu,hrun,hres⟩:=zkA S2 hl
      obtain ⟨h',S3,F⟩:=S2.freeze hu
      exact ⟨v,hrun,h',l,v,hf,rfl,hres h' F,S3.below,S3.le0,S3.hw,S3.hn⟩
     ·exact hf.elim
    cases e with
    | normal=>exact fin hK'
    | ret=>exact fin hK'
    | exit id=>exact hK'.elim
    | goto l=>exact hK'.elim
    | panic ch=>exact hK'.elim
    | outgrown=>exact hK'.elim
   ·exact hv.elim
  ·exact hv.elim
 ·exact hv.elim
theorem zCp {T : Tabs} (hT : TabsOk P T) {f fi : FuncId} {C : List PA → COut} (hc : zax P f) (hidle : ∀ caps : Array Value, caps.size = 2 → zmR P { target := .fn (.func fi) caps, args := #[] })
    (h:∀ args K,(C args).wp K→∃ args',RL PAle args args'∧∃ memo vv ann,zt6 P (csm T memo vv) fi ann f args' (Wk K)):Ok P f C:=by
  intro args K hK w h0 vs hvs hfz hgl
  obtain ⟨args',hle,memo,vv,ann,hv⟩:=h args K hK
  refine ⟨hc,(zCo (hT.all memo vv) hidle hv (zw0 (R:=paR h0) (S:=PAle) (T:=paR h0) (fun _ _ _ e r=>zBT e r) _ _ _ hle hvs) hfz hgl).mono ?_⟩
  rintro e w' ⟨h',rs,v,⟨rs',hr,hk⟩,he,hres,rest⟩
  exact ⟨h',rs',v,hk,he,zw1 hr hres,rest⟩
end
end Go.Pm
