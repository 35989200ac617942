/- Part 5 of what the proof rests on: a machine that runs functions of the program on pure values, proved sound; the functions that the law reaches, and what they compute. -/
import Derived.Test.YtedhjaaikeakoaaDoorQ4
import Derived.Sort.OwnSortedInts
import Derived.Lib.SlicesCompact
import Derived.Test.YtedhjaaikeakoaaDoorProg
import Derived.ProofKit
import Derived.Deep.Slices
import Derived.OpenShut
set_option linter.all false
namespace Go.Pm

structure Tabs where
  fn:List (Nat×(List PA→COut))
  own:List (Nat×OwnK)
  it:List (Nat×(List PA→Option (Prop×List (List PA))))
  mt:List (Nat×MK)
def zvj : List (Nat × (List PA → COut)) → Nat → List PA → COut
  | [],_=>fun _=>.no
  | (k,c) :: r,n=>match Nat.beq k n with | true=>c | false=>zvj r n
def zvk (l:List (Nat×OwnK)) (f:Nat):OwnK:=match lk l f with | some c=>c | none=>.none
def zCc (l:List (Nat×(List PA→Option (Prop×List (List PA))))) (f:Nat):List PA→Option (Prop×List (List PA)):=match lk l f with | some c=>c | none=>fun _=>none
def csm (T:Tabs) (memo:Nat→Int→List Int) (vv:Nat→Bool):Ctrs:=⟨zvj T.fn,zvk T.own,zCc T.it,memo,vv,lk T.mt⟩
abbrev cs (T:Tabs):Ctrs:=csm T (fun _ _=>[]) (fun _=>false)
def Tabs.nil:Tabs:=⟨[],[],[],[]⟩
def Tabs.addF (T:Tabs) (f:Nat) (c:List PA→COut):Tabs:=⟨(f,c) :: T.fn,T.own,T.it,T.mt⟩
def Tabs.addO (T:Tabs) (f:Nat) (c:OwnK):Tabs:=⟨T.fn,(f,c) :: T.own,T.it,T.mt⟩
def Tabs.addI (T:Tabs) (f:Nat) (c:List PA→Option (Prop×List (List PA))):Tabs:=⟨T.fn,T.own,(f,c) :: T.it,T.mt⟩
def Tabs.addM (T:Tabs) (f:Nat) (c:MK):Tabs:=⟨T.fn,T.own,T.it,(f,c) :: T.mt⟩

theorem zHX {P:Program} {f:Nat} : Ok P f (fun _=>.no):=fun _ _ h=>h.elim
theorem zHY {P:Program} {f:Nat} : zAD P f (fun _=>none):=fun _ _ _ h=>by cases h

structure TabsOk (P : Program) (T : Tabs) : Prop where
  fn:∀ x∈T.fn,Ok P x.1 x.2
  own:∀ x∈T.own,zno P x.1 x.2
  it:∀ x∈T.it,zAD P x.1 x.2
  mt:∀ x∈T.mt,ziw P x.1 x.2
theorem TabsOk.nil {P:Program} : TabsOk P .nil:=⟨fun _ h=>(by cases h),fun _ h=>(by cases h),fun _ h=>(by cases h),fun _ h=>(by cases h)⟩
theorem TabsOk.addF {P:Program} {T:Tabs} (h:TabsOk P T) {f:Nat} {c:List PA→COut} (hc:Ok P f c):TabsOk P (T.addF f c) :=
 ⟨fun x hx=>(List.mem_cons.1 hx).elim (fun e=>by rw [e];exact hc) (fun hx=>h.fn x hx),h.own,h.it,h.mt⟩
theorem TabsOk.addO {P:Program} {T:Tabs} (h:TabsOk P T) {f:Nat} {c:OwnK} (hc:zno P f c):TabsOk P (T.addO f c) :=
 ⟨h.fn,fun x hx=>(List.mem_cons.1 hx).elim (fun e=>by rw [e];exact hc) (fun hx=>h.own x hx),h.it,h.mt⟩
theorem TabsOk.addI {P:Program} {T:Tabs} (h:TabsOk P T) {f:Nat} {c:List PA→Option (Prop×List (List PA))} (hc:zAD P f c):TabsOk P (T.addI f c) :=
 ⟨h.fn,h.own,fun x hx=>(List.mem_cons.1 hx).elim (fun e=>by rw [e];exact hc) (fun hx=>h.it x hx),h.mt⟩
theorem TabsOk.addM {P:Program} {T:Tabs} (h:TabsOk P T) {f:Nat} {c:MK} (hc:ziw P f c):TabsOk P (T.addM f c) :=
 ⟨h.fn,h.own,h.it,fun x hx=>(List.mem_cons.1 hx).elim (fun e=>by rw [e];exact hc) (fun hx=>h.mt x hx)⟩
theorem TabsOk.all {P:Program} {T:Tabs} (h:TabsOk P T) (memo:Nat→Int→List Int) (vv:Nat→Bool):OkAll P (csm T memo vv):=by
 refine ⟨fun f C hC=>h.mt _ (zbM hC),fun f=>?_,fun f=>?_,fun f=>?_⟩
 ·show Ok P f (zvj T.fn f)
  have key:∀ l:List (Nat×(List PA→COut)),(∀ x∈l,Ok P x.1 x.2)→Ok P f (zvj l f):=by
   intro l
   induction l with
   | nil=>intro _;exact zHX
   | cons x l ih =>
    intro hl
    obtain ⟨k,c⟩:=x
    simp only [zvj]
    split
    ·rename_i e
     have:=hl (k,c) List.mem_cons_self
     rw [← Nat.eq_of_beq_eq_true e];exact this
    ·exact ih fun x hx=>hl x (List.mem_cons_of_mem _ hx)
  exact key T.fn h.fn
 ·show zno P f (zvk T.own f)
  unfold zvk
  split
  ·rename_i c hc;exact h.own _ (zbM hc)
  ·trivial
 ·show zAD P f (zCc T.it f)
  unfold zCc
  split
  ·rename_i c hc;exact h.it _ (zbM hc)
  ·exact zHY

theorem zbG {P : Program} {T : Tabs} (hT : TabsOk P T) {f : FuncId} {C : List PA → COut} (hc : zaq P f)
    (h:∀ args K,(C args).wp K→∃ memo vv ann,vcFun P (csm T memo vv) ann f args K):Ok P f C :=
  zzA (hT.all (fun _ _=>[]) (fun _=>false)) hc h
theorem zCd {P : Program} {T : Tabs} (hT : TabsOk P T) {f : FuncId} {C : MK} (hc : zaq P f)
    (h:∀ xs safe rs ys,C xs=some (safe,rs,ys)→safe→∀ K:List PA→List XA→Prop,K rs ys→∃ memo vv ann,zjK P (csm T memo vv) ann f xs K):ziw P f C :=
  zvi (hT.all (fun _ _=>[]) (fun _=>false)) hc h
theorem zFA {P : Program} {T : Tabs} (hT : TabsOk P T) {f : FuncId} {C : List PA → Option (Prop × List (List PA))} (hc : zaq P f)
    (h:∀ l caps safe ys,C caps=some (safe,ys)→safe→∃ memo vv ann,vcIter P (csm T memo vv) ann f l caps ys):zAD P f C :=
  zzE (hT.all (fun _ _=>[]) (fun _=>false)) hc h
structure Sl (α : Type) where
  len:Nat
  get:Nat→α
instance {α:Type} [Inhabited α]:Inhabited (Sl α):=⟨⟨0,fun _=>default⟩⟩
abbrev w64 (x:Int):Int:=IntKind.i64.wrap x

def IsE {α:Type} (enc:α→List PV) (size s:Nat) (g:Nat→List PV):Prop:=s=size∧∃ f:Nat→α,g=fun i=>enc (f i)
theorem isE {α:Type} {enc:α→List PV} {size:Nat} {f:Nat→α} : IsE enc size size (fun i=>enc (f i)):=⟨rfl,f,rfl⟩
theorem zvl {α:Type} {enc:α→List PV} {size:Nat} {x:α} : IsE enc size size (fun _=>enc x):=⟨rfl,fun _=>x,rfl⟩
def zlC {α:Type} (n:Nat) (get new:Nat→α):Nat→α:=fun j=>match Nat.ble n j with | true=>new (j - n) | false=>get j
theorem zzI {α:Type} {enc:α→List PV} {n:Nat} {f h:Nat→α} : appG n (fun i=>enc (f i)) (fun i=>enc (h i))=fun i=>enc (zlC n f h i):=by
 funext j;simp only [appG,zlC];cases Nat.ble n j <;> rfl
def zo8 {α : Type} (x : α) : List α → Nat → α
  | [],_=>x
  | y :: _,0=>y
  | _ :: r,i+1=>zo8 x r i
theorem zr5 {α:Type} {enc:α→List PV} {x y:α} {r:List α} : zbx (enc x :: enc y :: r.map enc)=fun i=>enc (zo8 x (x :: y :: r) i):=by
 have key:∀ (l:List α) (i:Nat),(match (l.map enc)[i]? with | some z=>z | none=>enc x)=enc (zo8 x l i):=by
  intro l
  induction l with
  | nil=>intro i;rfl
  | cons a l ih =>
   intro i
   cases i with
   | zero=>rfl
   | succ i=>simpa [zo8] using ih i
 funext i
 exact key (x :: y :: r) i
theorem zdZ {α:Type} {enc:α→List PV} {size:Nat} {x y:α} (r:List α):IsE enc size size (zbx (enc x :: enc y :: r.map enc)):=⟨rfl,_,zr5⟩

theorem zaN {b:Bool} {A B:Prop} {S S':Bool} {α:Type} {K:α→Prop} {x y:α} (h1:S=true→K x→A) (h2:S'=true→K y→B) (hs:cond b S S'=true) (hk:K (cond b x y)):zby b A B:=by
 cases b
 ·exact h2 hs hk
 ·exact h1 hs hk
theorem zgX {b:Bool} {A B:Prop} {S S':Bool} {α β:Type} {f:α→β} {ys:List β} {x y:List α} (hs:cond b S S'=true) (hk:ys=(cond b x y).map f) (h1:S=true→ys=x.map f→A) (h2:S'=true→ys=y.map f→B):zby b A B:=by
 cases b
 ·exact h2 hs hk
 ·exact h1 hs hk
theorem itY {α β:Type} {f:α→β} {ys:List β} {p:β} {x r:List α} {l:Nat} {A:List β→Prop} (hk:ys=x.map f) (e:x.map f=p :: r.map f) (h:∀ zs,zs=r.map f→A zs):l=l∧∃ z,ys=p :: z∧A z∧True :=
 ⟨rfl,_,hk.trans e,h _ rfl,trivial⟩
theorem za0 {C A:Prop} [d:Decidable C] {r:Bool} (hs:(decide C && r)=true) (k:C→r=true→A):A:=by
 rw [Bool.and_eq_true] at hs
 exact k (of_decide_eq_true hs.1) hs.2
abbrev Fuel:Nat:=9223372036854775808
def setT {α:Type} (i:Nat) (v:α) (get:Nat→α):Nat→α:=fun j=>match Nat.beq j i with | true=>v | false=>get j
theorem zlD {α:Type} {enc:α→List PV} {n:Nat} {g g':Nat→List PV} {f h:Nat→α} (h1:g=fun i=>enc (f i)) (h2:g'=fun i=>enc (h i)):appG n g g'=fun i=>enc (zlC n f h i):=by
 subst h1;subst h2;exact zzI
theorem zlE {α:Type} {enc:α→List PV} {i k:Nat} {g:Nat→List PV} {f:Nat→α} {new:List PV} {v:α} (h1:g=fun i=>enc (f i)) (h2:spl (enc (f i)) k new=enc v):ziz i k g new=fun j=>enc (setT i v f j):=by
 subst h1
 funext j
 simp only [ziz,setT]
 cases e:Nat.beq j i
 ·rfl
 ·have := Nat.eq_of_beq_eq_true e
  subst this;exact h2
def ztK (P:Program) (G:Ctrs) (ann:Ann) (hd:Nat) (ps:List Nat) (assign body:Code) (X:List (List PA)→St→Prop) (K:Exit→St→Prop) (y:List PA) (rest:List (List PA)) (s:St):Prop :=
 match lk ann.head hd with
 | some k=>match zgK ps y s.env with
  | some env=>vc P G ann assign (zAC (vc P G ann body (zlb P k (X rest) K)) fun _ _=>False) ⟨env,s.objs,[]⟩
  | none=>False
 | none=>False
end Go.Pm
namespace Go.Pm
open Go Go.Sort

/-! Nil slices are slices of length 0. -/
inductive PVle : PV → PV → Prop
  | rfl (p:PV):PVle p p
  | nil (s:Nat) (g:Nat→List PV):PVle .nils (.sl 0 s g)
  | nilm (q:MQ):PVle .nilm (.fm q 0 (fun _=>none))
inductive PAle : PA → PA → Prop
  | one {p q:PV} : PVle p q→PAle (.one p) (.one q)
  | agg {l m:List PV} : RL PVle l m→PAle (.agg l) (.agg m)
theorem zn7 {α β:Type} {R:α→β→Prop} : RL R [] []:=trivial
theorem zhk {α β:Type} {R:α→β→Prop} {a:α} {b:β} {l:List α} {m:List β} (h:R a b) (h':RL R l m):RL R (a :: l) (b :: m):=⟨h,h'⟩
theorem ze8 {α : Type} {R : α → α → Prop} (h : ∀ a, R a a) : ∀ l : List α, RL R l l
  | []=>trivial
  | a :: l=>⟨h a,ze8 h l⟩
theorem zf1 (a:PA):PAle a a:=by
 cases a with
 | one p=>exact .one (.rfl p)
 | agg l=>exact .agg (ze8 .rfl l)
def Wk (K:List PA→Prop) (l:List PA):Prop:=∃ l',RL PAle l l'∧K l'
theorem wk {K:List PA→Prop} {l l':List PA} (hk:K l') (h:RL PAle l l'):Wk K l:=⟨l',h,hk⟩
theorem zf2 {K:List PA→Prop} {l:List PA} (hk:K l):Wk K l:=⟨l,ze8 zf1 l,hk⟩
theorem zFB {h:Fz} {p q:PV} {v:Value} (e:PVle p q) (r:Rep h p v):Rep h q v:=by
 cases e with
 | rfl=>exact r
 | nil s g=>cases r;exact .sl0 s g
 | nilm q=>cases r;exact .fmn q _ (fun _ _=>rfl)
theorem zvm {α β γ : Type} {R : α → β → Prop} {S : α → γ → Prop} {T : γ → β → Prop} (h : ∀ a b c, S a c → R a b → T c b) : ∀ (l : List α) (m : List β) (k : List γ), RL S l k → RL R l m → RL T k m
  | [],[],[],_,_=>trivial
  | a :: l,b :: m,c :: k,hs,hr=>⟨h a b c hs.1 hr.1,zvm h l m k hs.2 hr.2⟩
  | [],_ :: _,[],_,hr=>hr.elim
  | [],_,_ :: _,hs,_=>hs.elim
  | _ :: _,_,[],hs,_=>hs.elim
  | _ :: _,[],_ :: _,_,hr=>hr.elim
theorem zzJ {h:Fz} {a b:PA} {v:Value} (e:PAle a b) (r:paR h a v):paR h b v:=by
 cases e with
 | one e=>exact zFB e r
 | agg e =>
  obtain ⟨vs,rfl,hv⟩:=r
  exact ⟨vs,rfl,zvm (R:=Rep h) (S:=PVle) (T:=Rep h) (fun _ _ _ e r=>zFB e r) _ _ _ e hv⟩
theorem zvn {h:Fz} {l m:List PA} {v:Value} (e:RL PAle l m) (r:znh h l v):znh h m v:=by
 match l,m,e,r with
 | [a],[b],e,r=>exact zzJ e.1 r
 | [],[],_,r=>exact r
 | a :: b :: l,c :: d :: m,e,r =>
  obtain ⟨vs,hv,hr⟩:=r
  exact ⟨vs,hv,zvm (R:=paR h) (S:=PAle) (T:=paR h) (fun _ _ _ e r=>zzJ e r) _ _ _ e hr⟩
 | [_],_ :: _ :: _,e,_=>exact e.2.elim
 | _ :: _ :: _,[_],e,_=>exact e.2.elim
 | [],_ :: _,e,_=>exact e.elim
 | _ :: _,[],e,_=>exact e.elim
theorem zhy {P : Program} {T : Tabs} (hT : TabsOk P T) {f : FuncId} {C : List PA → COut} (hc : zaq P f)
    (h:∀ args K,(C args).wp K→∃ args',RL PAle args args'∧∃ memo vv ann,vcFun P (csm T memo vv) ann f args' (Wk K)):Ok P f C:=by
  intro args K hK w h0 vs hvs hfz hgl
  obtain ⟨args',hle,memo,vv,ann,hv⟩:=h args K hK
  refine ⟨hc,(zvb (hT.all memo vv) hv (zvm (R:=paR h0) (S:=PAle) (T:=paR h0) (fun _ _ _ e r=>zzJ e r) _ _ _ hle hvs) hfz hgl).mono ?_⟩
  rintro e w' ⟨h',rs,v,⟨rs',hr,hk⟩,he,hres,rest⟩
  exact ⟨h',rs',v,hk,he,zvn hr hres,rest⟩
theorem zzK {P : Program} {T : Tabs} (hT : TabsOk P T) {f : FuncId} {C : MK} (hc : zaq P f)
    (h:∀ xs safe rs ys,C xs=some (safe,rs,ys)→safe→∀ K:List PA→List XA→Prop,K rs ys→∃ memo vv ann,zjK P (csm T memo vv) ann f xs (fun a b=>Wk (fun a'=>K a' b) a)):ziw P f C:=by
  intro xs ys safe rs hC hs w h0 base vs hvs hn hK hw hgl hB
  obtain ⟨memo,vv,ann,hv⟩:=h xs safe rs ys hC hs (fun l zs=>l=rs∧zs=ys) ⟨rfl,rfl⟩
  refine ⟨hc,(zvh (hT.all memo vv) hv hvs hn hK hw hgl hB).mono ?_⟩
  rintro e w' ⟨h',v,rs',ys',⟨rs2,hr,rfl,rfl⟩,he,hres,r⟩
  exact ⟨h',v,he,zvn hr hres,r⟩
def WkM (K:List PA×List XA→Prop) (p:List PA×List XA):Prop:=Wk (fun a=>K (a,p.2)) p.1
theorem wkM {K:List PA×List XA→Prop} {l l':List PA} {b:List XA} (hk:K (l',b)) (h:RL PAle l l'):WkM K (l,b):=⟨l',h,hk⟩
theorem zvo {K:List PA×List XA→Prop} {p:List PA×List XA} (hk:K p):WkM K p:=⟨p.1,ze8 zf1 p.1,hk⟩
/-! Maps, as typed values; the keys of a map. -/
structure Mp where
  n:Nat
  F:List Int→Option (List Int)
instance:Inhabited Mp:=⟨⟨0,fun _=>none⟩⟩

end Go.Pm
namespace Go.Pm

abbrev zI (x:Int):DV:=.one (.c (.p (.int .i64 x)))
abbrev zB (x:Bool):DV:=.one (.c (.p (.bool x)))
abbrev zP (x:PV):DV:=.one (.c (.p x))
abbrev zp (L k:Nat):DV:=.one (.c (.ptr L k))
abbrev zv (L:Nat):DV:=.one (.c (.vec L))
abbrev zs {α:Type} (enc:α→List PV) (s:Nat) (x:Sl α):PV:=.sl x.len s (fun i=>enc (x.get i))
abbrev zS {α:Type} (enc:α→List PV) (s:Nat) (x:Sl α):DV:=zP (zs enc s x)
abbrev zm (l:List PV):List Cl:=l.map Cl.p
abbrev zi (x:Int):Cl:=.p (.int .i64 x)
abbrev zg {α:Type} (enc:α→List PV) (x:Sl α):Nat→List PV:=fun i=>enc (x.get i)
abbrev zK (a b:List Nat):Keep:=⟨a,b,[],[],[],[],[]⟩
theorem zE {α:Type} (enc:α→List PV) (size:Nat) (f:Nat→α):IsE enc size size (fun i=>enc (f i)):=⟨rfl,f,rfl⟩

theorem zvp {α : Type} : ∀ (new l pre : List α), l.length = new.length → spl (pre ++ l) pre.length new = pre ++ new
  | [],l,pre,h=>by
    have:l=[]:=List.eq_nil_of_length_eq_zero h
    subst this;rfl
  | x :: r,[],pre,h=>by simp at h
  | x :: r,y :: l,pre,h=>by
    have e:=zvp r l (pre ++ [x]) (by simpa using h)
    simp only [spl,List.append_assoc,List.singleton_append,List.length_append,List.length_singleton] at e ⊢
    rw [List.set_append_right _ _ (Nat.le_refl _),Nat.sub_self,List.set_cons_zero]
    exact e
theorem zmz {n:Nat} {F G:Nat→Int} : spl (zgD 0 n F) 0 (zgD 0 n G)=zgD 0 n G:=by
 have h:=zvp (zgD 0 n G) (zgD 0 n F) [] (by rw [zeq,zeq])
 simpa using h
theorem zmA {n:Nat} {F:Nat→Int} : zgD 0 n F=zgD 0 n (zk6 (zm (zgD 0 n F))):=by
 refine List.ext_getElem? fun k=>?_
 by_cases hk:k < n
 ·rw [zfA n 0 F k hk, zfA n 0 _ k hk, Nat.zero_add]
  congr 2
  have h:(zm (zgD 0 n F))[k]? = some (.p (.int .i64 (F k))):=by
   rw [zm,List.getElem?_map,zfA n 0 F k hk,Nat.zero_add];rfl
  unfold zk6
  rw [h]
 ·rw [List.getElem?_eq_none (by rw [zeq];omega),List.getElem?_eq_none (by rw [zeq];omega)]

@[reducible] def lpO {A : Type} (d : A) (st : A → A) : Nat → A
  | 0=>d
  | k+1=>st (lpO d st k)
theorem zk5 {A B : Type} (a : A) (b : B) (p : A → A) (s : B → B) (M : A → B → Prop) (h0 : M a b) (h1 : ∀ P S, M P S → M (p P) (s S)) : ∀ k, M (lpO a p k) (lpO b s k)
  | 0=>h0
  | k+1=>h1 _ _ (zk5 a b p s M h0 h1 k)
def xcm (l:List PV):List XC:=l.map .p
def unX : List XC → List PV
  | []=>[]
  | .p v :: r=>v :: unX r
  | _ :: r=>.nilp :: unX r
theorem zvq : ∀ l : List PV, unX (xcm l) = l
  | []=>rfl
  | v :: r=>by show v :: unX (xcm r)=v :: r;rw [zvq r]
theorem zCe {n:Nat} {F:Nat→Int} : xcm (zgD 0 n F)=xcm (zgD 0 n (zk6 (zm (unX (xcm (zgD 0 n F)))))):=by
 rw [zvq,← zmA]

section
variable (P:Program) (Γ:Ctrs) (ann:Ann)
def pt : Code → (Exit → St → Prop) → List Nat → List (St → Prop) → St → Prop
  | .seq a b,K,i :: r,X=>match i with | 0=>pt a (sqK P Γ ann b K) r X | _=>pt b K r X
  | .cond _ a b,K,i :: r,X=>match i with | 0=>pt a K r X | _=>pt b K r X
  | .block id b,K,_ :: r,X=>pt b (zaj id K) r X
  | .loop b,K,_ :: r,x :: X=>pt b (zba P ann (zla b) x K) r X
  | .scope b,K,_ :: r,X=>pt b (zcb K) r X
  | c,K,_,_=>vc P Γ ann c K
def ptF (fn:Func) (K:List PA→Prop) (l:List Nat) (X:List (St→Prop)):St→Prop :=
 match fn.body with
 | some c=>pt P Γ ann c (za9 P fn K) l X
 | none=>fun _=>False
end

theorem zc {b:Bool} {A B:Prop} {S S':Bool} {α:Type} {e:α→List PA} {K:List PA→Prop} {x y:α} (hs:cond b S S'=true) (hk:K (e (cond b x y))) (h1:S=true→K (e x)→A) (h2:S'=true→K (e y)→B):zby b A B:=by
 cases b
 ·exact h2 hs hk
 ·exact h1 hs hk
theorem zt {b:Bool} {A B:Prop} {α:Type} {e:α→List PA} {K:List PA→Prop} {x y:α} (hk:K (e (cond b x y))) (h1:K (e x)→A) (h2:K (e y)→B):zby b A B:=by
 cases b
 ·exact h2 hk
 ·exact h1 hk
theorem zFC {b:Bool} {s:Prop} {r1 r2:List PA} {K:List PA→Prop} (h:(COut.alt b s r1 s r2).wp K):s∧K (cond b r1 r2):=by
 cases b
 ·exact h.2 rfl
 ·exact h.1 rfl
theorem zl {at_:Prop} {g:St} (B:(St→Prop)→St→Prop) (e:at_ = ∀ X:St→Prop,(∀ s,B X s→X s)→X g) (h:∀ X:St→Prop,(∀ s,B X s→X s)→X g):at_:=e ▸ h
end Go.Pm
namespace Go.Proofs
open Go Go.Pm
set_option maxRecDepth 100000
set_option linter.unusedVariables false
attribute [local irreducible] Go.Pm.vcFun Go.Pm.vc Go.Pm.vcIter
abbrev Tab:=Nat→Int
def tg (n:Nat) (F:Tab) (k:Nat):Int:=zk6 (zm (zgD 0 n F)) k
def ts (n:Nat) (F:Tab) (k:Nat) (vs:List Int):Tab:=zAx k vs (zk6 (zm (zgD 0 n F)))
abbrev zai (x:Int):List PV:=[.int .i64 x]
def zHZ : List PV → Int
  | [.int .i64 x]=>x
  | _=>default
def zar (g:Nat→List PV):Nat→Int:=fun i=>zHZ (g i)
theorem zbS (f:Nat→Int):zar (fun i=>zai (f i))=f:=rfl
structure Tie where
  From:Int
  To:Int
  Low:Int
  High:Int
deriving Inhabited
abbrev enc_40 (x:Tie):List PV:=[.int .i64 x.From,.int .i64 x.To,.int .i64 x.Low,.int .i64 x.High]
def zFD : List PV → Tie
  | [.int .i64 x_From,.int .i64 x_To,.int .i64 x_Low,.int .i64 x_High]=>(⟨x_From,x_To,x_Low,x_High⟩:Tie)
  | _=>default
def zaa (g:Nat→List PV):Nat→Tie:=fun i=>zFD (g i)
theorem zan (f:Nat→Tie):zaa (fun i=>enc_40 (f i))=f:=rfl
abbrev zFE (x:(Sl Tie)):List PV:=[.sl x.len 4 (fun i=>enc_40 (x.get i))]
structure Net where
  Nodes:Int
  Ties:(Sl Tie)
deriving Inhabited
abbrev enc_24 (x:Net):List PV:=[.int .i64 x.Nodes,.sl x.Ties.len 4 (fun i=>enc_40 (x.Ties.get i))]
abbrev zb1 (x:(Sl Int)):List PV:=[.sl x.len 1 (fun i=>zai (x.get i))]
def zFF : List PV → (Sl Int)
  | [.sl x_n _ x_g]=>(⟨x_n,zar x_g⟩:(Sl Int))
  | _=>default
def zmB (g:Nat→List PV):Nat→(Sl Int):=fun i=>zFF (g i)
theorem zjO (f:Nat→(Sl Int)):zmB (fun i=>zb1 (f i))=f:=rfl
structure Span where
  Low:Int
  High:Int
deriving Inhabited
abbrev zaW (x:Span):List PV:=[.int .i64 x.Low,.int .i64 x.High]
def zFG : List PV → Span
  | [.int .i64 x_Low,.int .i64 x_High]=>(⟨x_Low,x_High⟩:Span)
  | _=>default
def ze9 (g:Nat→List PV):Nat→Span:=fun i=>zFG (g i)
theorem zeA (f:Nat→Span):ze9 (fun i=>zaW (f i))=f:=rfl
structure Pulse where
  A:Int
  B:Int
  TimeA:Int
  TimeB:Int
  Flight:Span
  Jitter:Int
deriving Inhabited
structure Use where
  Tie:Int
  Back:Bool
deriving Inhabited
abbrev zaP (x:Use):List PV:=[.int .i64 x.Tie,.bool x.Back]
def zFH : List PV → Use
  | [.int .i64 x_Tie,.bool x_Back]=>(⟨x_Tie,x_Back⟩:Use)
  | _=>default
def zcR (g:Nat→List PV):Nat→Use:=fun i=>zFH (g i)
theorem zcS (f:Nat→Use):zcR (fun i=>zaP (f i))=f:=rfl
structure Flash where
  A:Int
  B:Int
  Time:Int
  Flight:Int
  Wrong:Int
deriving Inhabited
structure web where
  Net:Net
  out:Mp
deriving Inhabited
abbrev zau (x:web):List PV:=[.int .i64 x.Net.Nodes,.sl x.Net.Ties.len 4 (fun i=>enc_40 (x.Net.Ties.get i)),.fm (false,1,false,[none]) x.out.n x.out.F]
structure far where
  length:Int
  uses:Int
deriving Inhabited
abbrev zca (x:far):List PV:=[.int .i64 x.length,.int .i64 x.uses]
def zCf : List PV → far
  | [.int .i64 x_length,.int .i64 x_uses]=>(⟨x_length,x_uses⟩:far)
  | _=>default
def ziJ (g:Nat→List PV):Nat→far:=fun i=>zCf (g i)
theorem zih (f:Nat→far):ziJ (fun i=>zca (f i))=f:=rfl
abbrev zad (x:Tab):List PV:=zgD 0 80 x
def za6 (l:List PV):Tab:=zk6 (zm l)
structure Step where
  From:Int
  To:Int
  Length:Int
  Use:Use
deriving Inhabited
structure step where
  Use:Use
  from_:Int
  to:Int
  length:Int
deriving Inhabited
abbrev zae (x:step):List PV:=[.int .i64 x.Use.Tie,.bool x.Use.Back,.int .i64 x.from_,.int .i64 x.to,.int .i64 x.length]
def zCg : List PV → step
  | [.int .i64 x_Use_Tie,.bool x_Use_Back,.int .i64 x_from_,.int .i64 x_to,.int .i64 x_length]=>(⟨(⟨x_Use_Tie,x_Use_Back⟩:Use),x_from_,x_to,x_length⟩:step)
  | _=>default
def zgY (g:Nat→List PV):Nat→step:=fun i=>zCg (g i)
theorem zd0 (f:Nat→step):zgY (fun i=>zae (f i))=f:=rfl
structure tie where
  Tie:Tie
  index:Int
deriving Inhabited
abbrev zvr (x:tie):List PV:=[.int .i64 x.Tie.From,.int .i64 x.Tie.To,.int .i64 x.Tie.Low,.int .i64 x.Tie.High,.int .i64 x.index]
abbrev zvs (x:Tab):List PV:=zgD 0 40 x
abbrev zay (x:(Sl Tab)):List PV:=[.sl x.len 80 (fun i=>zad (x.get i))]
end Go.Proofs
namespace Go.Pm
open Go Go.Deep

theorem zzL (b o i j:Nat):((⟨b,o,none⟩:Addr).add i).add j=⟨b,o+i+j,none⟩:=by
 simp only [Addr.add]
 by_cases h1:i=0
 ·subst h1
  by_cases h2:j=0
  ·subst h2;rfl
  ·rw [if_neg h2];rfl
 ·rw [if_neg h1]
  by_cases h2:j=0
  ·subst h2;rfl
  ·rw [if_neg h2]
def H0 (w:World):Fz:=fun b=>(w.heap[b]?).map .fz
theorem hw_H0 (w:World):Hw (H0 w) w:=by
 intro b x h
 unfold H0 at h
 cases e:w.heap[b]? with
 | none=>rw [e] at h;cases h
 | some o=>rw [e] at h;cases h;exact ⟨o,rfl,rfl⟩
def wfI (x:Int):Prop:=-9223372036854775808≤x∧x≤9223372036854775807
section
variable {H:Type} {en:TypeId×Value→H} {P:Program} {w:World} {sp:Nat→Bool} {held:Bool}
def Rd (H:Type) (en:TypeId×Value→H) (P:Program) (w:World) (sp:Nat→Bool) (held:Bool) (t:TypeId) {α:Type} (enc:α→List PV) (wf:α→Prop):Prop :=
 ∀ (fuel:Nat) (cs:List Value) (x:DataW H×List MemPlace),DataW.trod en P w 0 sp held fuel t cs=some x→∃ a:α,RL (Rep (H0 w)) (enc a) cs∧wf a
theorem zFI {t:TypeId} (ht:P.underlying t=some (.int .i64)):Rd H en P w sp held t (fun x=>[.int .i64 x]) wfI:=by
 intro fuel cs x h
 obtain ⟨n,rfl,_,hw⟩:=DataW.trod_int ht h
 refine ⟨n,⟨.int _ _,trivial⟩,?_⟩
 simp only [Lit.wf,Bool.and_eq_true,decide_eq_true_eq] at hw
 exact ⟨hw.1,hw.2⟩
theorem zn8 {t : TypeId} {fs : Array Field} (ht : P.underlying t = some (.struct fs)) {fuel : Nat} {cs : List Value} {x : DataW H × List MemPlace} (h : DataW.trod en P w 0 sp held fuel t cs = some x) :
  cs.length=P.cellsOf t∧∀ (i:Nat) (f:Field),fs[i]? = some f→∃ n y,DataW.trod en P w 0 sp held n f.type ((cs.drop f.offset).take (P.cellsOf f.type))=some y:=by
 obtain ⟨xs,n,_,_,hl,hx,hf⟩:=DataW.trod_struct ht h
 refine ⟨hl,fun i f hi=>?_⟩
 have hlt:i < xs.length:=by rw [hx];exact (Array.getElem?_eq_some_iff.1 hi).1
 exact ⟨n,xs[i],by rw [hf i f hi,List.getElem?_eq_getElem hlt]⟩
theorem zzM {t e : TypeId} {α : Type} [Inhabited α] {enc : α → List PV} {wf : α → Prop} {s : Nat} (ht : P.underlying t = some (.slice e)) (hc : P.cellsOf e = s) (hs : 0 < s) (hlen : ∀ a, (enc a).length = s)
    (hel:Rd H en P w sp held e enc wf):Rd H en P w sp held t (fun x:Sl α=>[.sl x.len s (fun i=>enc (x.get i))]) (fun x=>x.len≤9223372036854775807∧∀ i,i < x.len→wf (x.get i)):=by
  intro fuel cs x h
  rcases open_slice ht h with ⟨rfl,_⟩ | ⟨a,len,cap,m,n,D,Pl,rfl,_,hl,hm,hmm,_,hget⟩
  · exact ⟨⟨0,default⟩,⟨.sl0 _ _,trivial⟩,Nat.zero_le _,fun i hi=>absurd hi (Nat.not_lt_zero i)⟩
  · by_cases h0 : len = 0
    · subst h0
      exact ⟨⟨0,default⟩,⟨.sle _ _ _ _,trivial⟩,Nat.zero_le _,fun i hi=>absurd hi (Nat.not_lt_zero i)⟩
    · have hlm : len ≤ m := by rw [hmm]; split <;> omega
      rw [hc] at hget
      have hex:∀ i,i < len→∃ y:α,(∃ cs',w.cells? 0 (a.add (i * s)) s=some cs'∧RL (Rep (H0 w)) (enc y) cs')∧wf y:=by
        intro i hi
        obtain ⟨cs',h1,h2⟩:=hget i (by omega)
        obtain ⟨y,h3,h4⟩:=hel _ _ _ h2
        exact ⟨y,⟨cs',h1,h3⟩,h4⟩
      have hch:∃ f:Nat→α,∀ i,i < len→(∃ cs',w.cells? 0 (a.add (i * s)) s=some cs'∧RL (Rep (H0 w)) (enc (f i)) cs')∧wf (f i):=by
        refine ⟨fun i=>if hi:i < len then Classical.choose (hex i hi) else default,fun i hi=>?_⟩
        simp only [dif_pos hi]
        exact Classical.choose_spec (hex i hi)
      obtain ⟨f,hf⟩:=hch
      -- the block
      have hcell:∀ i,i < len→∀ j,j < s→∃ cs',w.cells? 0 (a.add (i * s)) s=some cs'∧RL (Rep (H0 w)) (enc (f i)) cs'∧w.cell? ((a.add (i * s)).add j)=cs'[j]?∧cs'.length=s:=by
        intro i hi j hj
        obtain ⟨⟨cs',h1,h2⟩,_⟩:=hf i hi
        obtain ⟨_,h3,h4⟩:=World.cells?_some h1
        exact ⟨cs',h1,h2,h4 j hj,h3⟩
      obtain ⟨cs0,_,_,hc0,hl0⟩:=hcell 0 (by omega) 0 hs
      have ha0:w.cell? a=cs0[0]?:=by simpa [Addr.add] using hc0
      rw [List.getElem?_eq_getElem (by omega)] at ha0
      obtain ⟨C,ty,fr,hblk,hspot⟩:∃ C ty fr,w.heap[a.block]? = some (.cells C ty fr)∧a.spot=none:=by
        unfold World.cell? at ha0
        split at ha0
        · rename_i C ty fr hb
          refine ⟨C,ty,fr,hb,?_⟩
          cases hsp:a.spot with
          | none=>rfl
          | some k=>rw [hsp] at ha0;simp at ha0
        · cases ha0
      have ea:a=⟨a.block,a.off,none⟩:=by rw [← hspot]
      have hat:∀ i j,i < len→j < s→∃ cs',RL (Rep (H0 w)) (enc (f i)) cs'∧C[a.off+i * s+j]? = cs'[j]?∧cs'.length=s:=by
        intro i j hi hj
        obtain ⟨cs',_,h2,h3,h4⟩:=hcell i hi j hj
        refine ⟨cs',h2,?_,h4⟩
        rw [← h3]
        have e2:(a.add (i * s)).add j=⟨a.block,a.off+i * s+j,none⟩:=(congrArg (fun z:Addr=>(z.add (i * s)).add j) ea).trans (zzL _ _ _ _)
        rw [e2]
        simp [World.cell?,hblk]
      refine ⟨⟨len,f⟩,⟨?_,trivial⟩,by simp only [maxLen] at hm;show len≤_;omega,fun i hi=>(hf i hi).2⟩
      rw [ea]
      refine .sl len s _ a.block a.off cap C ty fr (fun i j=>C.getD (a.off+i * s+j) undef) (by simp [H0,hblk]) hl (fun i _=>hlen _) ?_ ?_
      · intro i j x hi hx
        have hj:j < s:=by have:=(List.getElem?_eq_some_iff.1 hx).1;rw [hlen] at this;exact this
        obtain ⟨cs',h1,h2,h3⟩:=hat i j hi hj
        rw [Array.getD_eq_getD_getElem?,h2,List.getElem?_eq_getElem (by omega)]
        rfl
      · intro i j x hi hx
        have hj:j < s:=by have:=(List.getElem?_eq_some_iff.1 hx).1;rw [hlen] at this;exact this
        obtain ⟨cs',h1,h2,h3⟩:=hat i j hi hj
        obtain ⟨v,hv,hr⟩:=h1.get j x hx
        rw [Array.getD_eq_getD_getElem?,h2,hv]
        exact hr
theorem zdu {α:Type} (l:List α) (o s:Nat):l.drop o=(l.drop o).take s ++ l.drop (o+s):=by
 rw [← List.drop_drop]
 exact (List.take_append_drop s (l.drop o)).symm
theorem okWide_agg {t:TypeId} {fs:Array Field} {r:Reach} {base:Nat} {v:Value} (ht:P.underlying t=some (.struct fs)) (h:Value.okWide P w r base t v):∃ cs,v=.agg cs:=by
 unfold Value.okWide at h
 rw [ht] at h
 obtain ⟨cs,hv,_⟩:=h
 exact ⟨cs,hv⟩
theorem pa_agg {h:Fz} {l:List PV} {v:Value} (hv:∃ cs,v=.agg cs) (r:RL (Rep h) l v.cells.toList):paR h (.agg l) v:=by
 obtain ⟨cs,rfl⟩:=hv
 exact ⟨cs.toList,by simp,r⟩
theorem below_H0 {w':World} (b:Bel (H0 w) w.heap.size w w'):Go.RowKit.Below w.heap.size w w' :=
 ⟨b.os,b.tape,b.output,b.size,fun k hk=>b.block k hk fun F e=>by
  unfold H0 at e
  cases hb:w.heap[k]? <;> rw [hb] at e <;> cases e⟩
end
end Go.Pm
namespace Go.Proofs
open Go Go.Pm
set_option maxRecDepth 100000
set_option linter.unusedVariables false
attribute [local irreducible] Go.Pm.vcFun Go.Pm.vc Go.Pm.vcIter
theorem C_3:Tryd.prog.cellsOf 3=1:=by kernel_rfl
theorem zJC:Tryd.prog.cellsOf 22=1:=by kernel_rfl
theorem zJD:Tryd.prog.cellsOf 24=2:=by kernel_rfl
theorem zJc:Tryd.prog.cellsOf 40=4:=by kernel_rfl
abbrev zEU (x:Int):Prop:=wfI x
theorem zFJ {H:Type} {en:TypeId×Value→H} {w:World} {sp:Nat→Bool} {held:Bool} : Rd H en Tryd.prog w sp held 3 zai zEU:=zFI Tryd.underlying3
def wf_40 (x:Tie):Prop:=zEU x.From∧zEU x.To∧zEU x.Low∧zEU x.High
theorem rd_40 {H:Type} {en:TypeId×Value→H} {w:World} {sp:Nat→Bool} {held:Bool} : Rd H en Tryd.prog w sp held 40 enc_40 wf_40:=by
  intro fuel cs x h
  obtain ⟨hl,hf⟩:=zn8 Tryd.underlying40 h
  rw [zJc] at hl
  obtain ⟨n0,y0,g0⟩:=hf 0 _ rfl
  have g0:DataW.trod en Tryd.prog w 0 sp held n0 3 ((cs.drop 0).take (Tryd.prog.cellsOf 3))=some y0:=g0
  rw [C_3] at g0
  obtain ⟨a0,r0,w0⟩:=zFJ _ _ _ g0
  obtain ⟨n1,y1,g1⟩:=hf 1 _ rfl
  have g1:DataW.trod en Tryd.prog w 0 sp held n1 3 ((cs.drop 1).take (Tryd.prog.cellsOf 3))=some y1:=g1
  rw [C_3] at g1
  obtain ⟨a1,r1,w1⟩:=zFJ _ _ _ g1
  obtain ⟨n2,y2,g2⟩:=hf 2 _ rfl
  have g2:DataW.trod en Tryd.prog w 0 sp held n2 3 ((cs.drop 2).take (Tryd.prog.cellsOf 3))=some y2:=g2
  rw [C_3] at g2
  obtain ⟨a2,r2,w2⟩:=zFJ _ _ _ g2
  obtain ⟨n3,y3,g3⟩:=hf 3 _ rfl
  have g3:DataW.trod en Tryd.prog w 0 sp held n3 3 ((cs.drop 3).take (Tryd.prog.cellsOf 3))=some y3:=g3
  rw [C_3] at g3
  obtain ⟨a3,r3,w3⟩:=zFJ _ _ _ g3
  have z:cs.drop 4=[]:=List.drop_eq_nil_of_le (by omega)
  have R:=(r0.append (r1.append (r2.append (r3.append (show RL (Rep (H0 w)) [] (cs.drop 4) by rw [z];exact zn7)))))
  rw [← (show cs.drop 3=(cs.drop 3).take 1 ++ cs.drop 4 from zdu cs 3 1)] at R
  rw [← (show cs.drop 2=(cs.drop 2).take 1 ++ cs.drop 3 from zdu cs 2 1)] at R
  rw [← (show cs.drop 1=(cs.drop 1).take 1 ++ cs.drop 2 from zdu cs 1 1)] at R
  rw [← (show cs.drop 0=(cs.drop 0).take 1 ++ cs.drop 1 from zdu cs 0 1)] at R
  exact ⟨⟨a0,a1,a2,a3⟩,R,⟨w0,w1,w2,w3⟩⟩
def zFK (x:(Sl Tie)):Prop:=x.len≤9223372036854775807∧∀ i,i < x.len→wf_40 (x.get i)
theorem zH0 {H:Type} {en:TypeId×Value→H} {w:World} {sp:Nat→Bool} {held:Bool} : Rd H en Tryd.prog w sp held 22 zFE zFK:=zzM Tryd.underlying22 zJc (by decide) (fun _=>rfl) rd_40
def wf_24 (x:Net):Prop:=zEU x.Nodes∧zFK x.Ties
theorem rd_24 {H:Type} {en:TypeId×Value→H} {w:World} {sp:Nat→Bool} {held:Bool} : Rd H en Tryd.prog w sp held 24 enc_24 wf_24:=by
  intro fuel cs x h
  obtain ⟨hl,hf⟩:=zn8 Tryd.underlying24 h
  rw [zJD] at hl
  obtain ⟨n0,y0,g0⟩:=hf 0 _ rfl
  have g0:DataW.trod en Tryd.prog w 0 sp held n0 3 ((cs.drop 0).take (Tryd.prog.cellsOf 3))=some y0:=g0
  rw [C_3] at g0
  obtain ⟨a0,r0,w0⟩:=zFJ _ _ _ g0
  obtain ⟨n1,y1,g1⟩:=hf 1 _ rfl
  have g1:DataW.trod en Tryd.prog w 0 sp held n1 22 ((cs.drop 1).take (Tryd.prog.cellsOf 22))=some y1:=g1
  rw [zJC] at g1
  obtain ⟨a1,r1,w1⟩:=zH0 _ _ _ g1
  have z:cs.drop 2=[]:=List.drop_eq_nil_of_le (by omega)
  have R:=(r0.append (r1.append (show RL (Rep (H0 w)) [] (cs.drop 2) by rw [z];exact zn7)))
  rw [← (show cs.drop 1=(cs.drop 1).take 1 ++ cs.drop 2 from zdu cs 1 1)] at R
  rw [← (show cs.drop 0=(cs.drop 0).take 1 ++ cs.drop 1 from zdu cs 0 1)] at R
  exact ⟨⟨a0,a1⟩,R,⟨w0,w1⟩⟩
end Go.Proofs
namespace Go.Proofs
open Go Go.Pm
set_option maxRecDepth 100000
set_option linter.unusedVariables false
attribute [local irreducible] Go.Pm.vcFun Go.Pm.vc Go.Pm.vcIter
abbrev T81:Tabs:=Tabs.nil
theorem zH1:TabsOk Tryd.prog T81:=TabsOk.nil
abbrev G81:Ctrs:=csm T81 (fun _ _=>[]) (fun _=>false)
def zFL:Ann:=⟨15,[(0,zK [0,1,2] []),(1,zK [6] [])],
 [],
 [],
 [],[]⟩
abbrev R81:=Bool
abbrev e81 (r:R81):List PA:=[.one (.bool r)]
section
variable {K:List PA→Prop} {n:Int} {low:Int} {high:Int}
def s81 (n:Int) (low:Int) (high:Int):Bool :=
  (cond (decide (n ≥ low))
 (decide (n≤high))
 false)
end
theorem q81 (n:Int) (low:Int) (high:Int) (K:List PA→Prop) (hk:K (e81 (s81 n low high))):vcFun Tryd.prog G81 zFL 81 [.one (.int .i64 n),.one (.int .i64 low),.one (.int .i64 high)] K :=
  zbd (by kernel_rfl) (zt hk (fun hk=>hk) (fun hk=>hk))
def zvt : List PA → COut
  | [.one (.int .i64 a0),.one (.int .i64 a1),.one (.int .i64 a2)]=>.tot [.one (.bool (s81 a0 a1 a2))]
  | _=>.no
theorem zFM:zaq Tryd.prog 81:=⟨_,rfl,rfl,by kernel_rfl⟩
theorem zH2:Ok Tryd.prog 81 zvt:=zbG zH1 zFM fun args K h=>by
  unfold zvt at h
  split at h
  · rename_i a0 a1 a2
    have hk:=h
    exact ⟨(fun _ _=>[]),(fun _=>false),zFL,q81 a0 a1 a2 K hk⟩
  · exact h.elim
abbrev T78:Tabs:=(Tabs.nil.addF 81 zvt)
theorem zH3:TabsOk Tryd.prog T78:=(TabsOk.nil.addF zH2)
abbrev G78:Ctrs:=csm T78 (fun _ _=>[]) (fun _=>false)
def zCh:Ann:=⟨55,[(0,zK [1,2] [2]),(1,zK [1,2,5] [2]),(2,zK [1,2,5,6] [2]),(3,zK [4] [])],
 [],
 [(2,zK [1,2,5] [2]),(3,zK [1,2,5,6] [2])],
 [],[]⟩
abbrev R78:=Bool
abbrev e78 (r:R78):List PA:=[.one (.bool r)]
@[irreducible] def z78:=ptF Tryd.prog G78 zCh Tryd.f78
section
variable {K:List PA→Prop} {t:Tie} {nodes:Int} {zmC:Bool} {zr6:Bool}
def zjP (t:Tie) (nodes:Int) (zmC:Bool) (zr6:Bool):Bool :=
  (cond (s81 t.From (0:Int) (w64 (nodes - (1:Int))))
 (cond (s81 t.To (0:Int) (w64 (nodes - (1:Int))))
 (cond (t.From != t.To)
 (cond zmC
 (cond zr6
 (decide (t.Low≤t.High))
 false)
 false)
 false)
 false)
 false)
theorem zvu (hk:K (e78 (zjP t nodes zmC zr6))):z78 K [1,1,1] [] ⟨[(1,zI nodes),(2,zp 2 0),(5,zB zmC),(6,zB zr6)],[(2,.box 40 (zm (enc_40 t)))],[]⟩:=zbd (by kernel_rfl) (zt hk (fun hk=>(zt hk (fun hk=>(zt hk (fun hk=>(zt hk (fun hk=>(zt hk (fun hk=>hk) (fun hk=>hk))) (fun hk=>hk))) (fun hk=>hk))) (fun hk=>hk))) (fun hk=>hk))
def zjQ (t:Tie) (nodes:Int) (zmC:Bool):Bool :=
  (cond (t.High == (1000000000000:Int))
 (zjP t nodes zmC true)
 (zjP t nodes zmC (s81 t.High (-1000000000:Int) (1000000000:Int))))
theorem zvv (hk:K (e78 (zjQ t nodes zmC))):z78 K [1,1] [] ⟨[(1,zI nodes),(2,zp 2 0),(5,zB zmC)],[(2,.box 40 (zm (enc_40 t)))],[]⟩:=zbd (by kernel_rfl) (zt hk (fun hk=>(zvu hk)) (fun hk=>(zvu hk)))
def s78 (t:Tie) (nodes:Int):Bool :=
  (cond (t.Low == (-1000000000000:Int))
 (zjQ t nodes true)
 (zjQ t nodes (s81 t.Low (-1000000000:Int) (1000000000:Int))))
end
theorem q78 (t:Tie) (nodes:Int) (K:List PA→Prop) (hk:K (e78 (s78 t nodes))):vcFun Tryd.prog G78 zCh 78 [.agg (enc_40 t),.one (.int .i64 nodes)] K :=
  zbd (by kernel_rfl) (zt hk (fun hk=>(zvv hk)) (fun hk=>(zvv hk)))
def zCi : List PA → COut
  | [.agg [.int .i64 a0_From,.int .i64 a0_To,.int .i64 a0_Low,.int .i64 a0_High],.one (.int .i64 a1)]=>.tot [.one (.bool (s78 (⟨a0_From,a0_To,a0_Low,a0_High⟩:Tie) a1))]
  | _=>.no
theorem zFN:zaq Tryd.prog 78:=⟨_,rfl,rfl,by kernel_rfl⟩
theorem zJE:Ok Tryd.prog 78 zCi:=zbG zH3 zFN fun args K h=>by
  unfold zCi at h
  split at h
  · rename_i a0_From a0_To a0_Low a0_High a1
    have hk:=h
    exact ⟨(fun _ _=>[]),(fun _=>false),zCh,q78 (⟨a0_From,a0_To,a0_Low,a0_High⟩:Tie) a1 K hk⟩
  · exact h.elim
abbrev T67:Tabs:=((Tabs.nil.addF 78 zCi).addF 81 zvt)
theorem zH4:TabsOk Tryd.prog T67:=((TabsOk.nil.addF zJE).addF zH2)
abbrev G67:Ctrs:=csm T67 (fun _ _=>[]) (fun _=>false)
def zzN:Ann:=⟨27,[(0,zK [1] [1]),(1,zK [1,6,7,8] [1]),(2,zK [1,6,7,8,9] [1]),(3,zK [1,4,6,7,8] [1,4]),(4,zK [1,6,7,8,16] [1]),(5,zK [2] []),(6,zK [1,6,7,8] [1]),(7,zK [2] [])],
 [(2,zK [1,6,7,8] [1])],
 [(5,zK [1,6,7,8,16] [1])],
 [],[]⟩
abbrev R67:=Bool
abbrev e67 (r:R67):List PA:=[.one (.bool r)]
@[irreducible] def z67:=ptF Tryd.prog G67 zzN Tryd.f67
def zAU (n:Net) (zdd:Int):St:=⟨[(1,zp 1 0),(6,zS enc_40 4 n.Ties),(7,zI (n.Ties.len:Int)),(8,zI zdd)],[(1,.box 24 (zm (enc_24 n)))],[]⟩
abbrev zCj (K:List PA→Prop) (n:Net) (X:St→Prop) (P:Int→Bool) (S:Int→Bool):Prop:=∀ ⦃zdd:Int⦄,P zdd=true→K (e67 (S zdd))→X (zAU n zdd)
section
variable {K:List PA→Prop} {n:Net} {zdd:Int} {X0:St→Prop} {P0:Int→Bool} {S0:Int→Bool} {zCk:Int} {zpI:Bool}
def zpJ (S0:Int→Bool) (n:Net) (zCk:Int) (zpI:Bool):Bool :=
  (cond zpI
 false
 (S0 (w64 (zCk+(1:Int)))))
def zpK (P0:Int→Bool) (n:Net) (zCk:Int) (zpI:Bool):Bool :=
  (cond zpI
 true
 (P0 (w64 (zCk+(1:Int)))))
theorem zCl (hX0:zCj K n X0 P0 S0) (hs:zpK P0 n zCk zpI=true) (hk:K (e67 (zpJ S0 n zCk zpI))):z67 K [1,0,1,0,0,1,1,0,0,1,1] [X0] ⟨[(1,zp 1 0),(6,zS enc_40 4 n.Ties),(7,zI (n.Ties.len:Int)),(8,zI zCk),(16,zB zpI)],[(1,.box 24 (zm (enc_24 n)))],[]⟩:=zbd (by kernel_rfl) (zc hs hk (fun hs hk=>hk) (fun hs hk=>(hX0 hs hk)))
def zhz (n:Net) (S0:Int→Bool) (zdd:Int):Bool :=
  (cond (decide (zdd < (n.Ties.len : Int)))
 (zpJ S0 n zdd (!(s78 (n.Ties.get zdd.toNat) n.Nodes)))
 (cond (s81 n.Nodes (1:Int) (40:Int))
 (decide ((n.Ties.len:Int)≤(200:Int)))
 false))
def zhA (n:Net) (P0:Int→Bool) (zdd:Int):Bool :=
  (cond (decide (zdd < (n.Ties.len : Int)))
 (decide ((0≤zdd∧zdd < (n.Ties.len:Int))) &&
 (zpK P0 n zdd (!(s78 (n.Ties.get zdd.toNat) n.Nodes))))
 true)
def zhB (n:Net):Nat→Int→Bool:=lpO (fun _=>default) (zhz n)
def zhC (n:Net):Nat→Int→Bool:=lpO (fun _=>false) (zhA n)
def zvw (n:Net) (zdd:Int):Bool:=zhB n Fuel zdd
def zvx (n:Net) (zdd:Int):Bool:=zhC n Fuel zdd
theorem zCm (hs:zvx n zdd=true) (hk:K (e67 (zvw n zdd))):z67 K [1,0,1,0] [] (zAU n zdd) :=
  zl (fun X=>z67 K [1,0,1,0,0] [X]) (by kernel_rfl) fun X0 hX =>
  (show ∀ k, zCj K n X0 (zhC n k) (zhB n k) from zk5 _ _ (zhA n) (zhz n) (zCj K n X0)
 (by intro _ hs;exact absurd hs Bool.false_ne_true)
 (by intro P0 S0 hX0 zdd hs hk;exact hX _ (zbd (by kernel_rfl) (zc hs hk (fun hs hk=>(za0 hs fun hc hs=>And.intro hc (zCl hX0 hs hk))) (fun hs hk=>(zt hk (fun hk=>hk) (fun hk=>hk))))))) _ hs hk
def s67 (n:Net):Bool :=
  (zvw n (0:Int))
def p67 (n:Net):Bool :=
  (zvx n (0:Int))
end
theorem q67 (n:Net) (K:List PA→Prop) (hs:p67 n=true) (hk:K (e67 (s67 n))):vcFun Tryd.prog G67 zzN 67 [.agg (enc_24 n)] K :=
  zbd (by kernel_rfl) (zCm hs hk)
def zvy : List PA → COut
  | [.agg [.int .i64 a0_Nodes,.sl a0_Ties_n a0_Ties_s a0_Ties_g]]=>.det (IsE enc_40 4 a0_Ties_s a0_Ties_g∧p67 (⟨a0_Nodes,(⟨a0_Ties_n,zaa a0_Ties_g⟩:(Sl Tie))⟩:Net)=true) [.one (.bool (s67 (⟨a0_Nodes,(⟨a0_Ties_n,zaa a0_Ties_g⟩:(Sl Tie))⟩:Net)))]
  | [.agg [.int .i64 a0_Nodes,.nils]]=>.det (p67 (⟨a0_Nodes,(⟨0,fun _=>default⟩:(Sl Tie))⟩:Net)=true) [.one (.bool (s67 (⟨a0_Nodes,(⟨0,fun _=>default⟩:(Sl Tie))⟩:Net)))]
  | _=>.no
theorem zFO:zaq Tryd.prog 67:=⟨_,rfl,rfl,by kernel_rfl⟩
theorem zH5:Ok Tryd.prog 67 zvy:=zhy zH4 zFO fun args K h=>by
  unfold zvy at h
  split at h
  · rename_i a0_Nodes a0_Ties_n a0_Ties_s a0_Ties_g
    obtain ⟨⟨⟨rfl,a0_Ties_f,rfl⟩,hs⟩,hk⟩:=h
    try rw [zan a0_Ties_f] at hs
    try rw [zan a0_Ties_f] at hk
    exact ⟨_,ze8 zf1 _,(fun _ _=>[]),(fun _=>false),zzN,q67 (⟨a0_Nodes,(⟨a0_Ties_n,a0_Ties_f⟩:(Sl Tie))⟩:Net) (Wk K) hs (zf2 hk)⟩
  · rename_i a0_Nodes
    obtain ⟨hs,hk⟩:=h
    exact ⟨_,(zhk (.agg (zhk (.rfl _) (zhk (.nil _ _) zn7))) zn7),(fun _ _=>[]),(fun _=>false),zzN,q67 (⟨a0_Nodes,(⟨0,fun _=>default⟩:(Sl Tie))⟩:Net) (Wk K) hs (zf2 hk)⟩
  · exact h.elim
abbrev T93:Tabs:=Tabs.nil
theorem zH6:TabsOk Tryd.prog T93:=TabsOk.nil
abbrev G93:Ctrs:=csm T93 (fun _ _=>[]) (fun _=>false)
def zCn:Ann:=⟨4,[(0,⟨[1],[1],[],[],[],[],[]⟩),(1,⟨[2],[],[],[],[],[],[]⟩)],
 [],
 [],
 [],[]⟩
theorem zCo (w : web) (K : List PA → Prop) :
  vcFun Tryd.prog G93 zCn 93 [.one (.fp (zau w) 0)] K =
  (K [.one (.fn 110 [] [.fp [.fp (zau w) 0] 0])]):=by kernel_rfl
theorem q93 (w:web) (K:List PA→Prop) (hk:K [.one (.fn 110 [] [.fp [.fp (zau w) 0] 0])]):vcFun Tryd.prog G93 zCn 93 [.one (.fp (zau w) 0)] K:=zbd (zCo w K) hk
def zn9 : List PA → COut
  | [.one (.fp [.int .i64 a0_Net_Nodes,.sl a0_Net_Ties_n a0_Net_Ties_s a0_Net_Ties_g,.fm a0_out_q a0_out_n a0_out_F] 0)]=>.det (IsE enc_40 4 a0_Net_Ties_s a0_Net_Ties_g∧a0_out_q=(false,1,false,[none])) [.one (.fn 110 [] [.fp [.fp (zau (⟨(⟨(⟨a0_Net_Nodes,(⟨a0_Net_Ties_n,zaa a0_Net_Ties_g⟩:(Sl Tie))⟩:Net),(⟨a0_out_n,a0_out_F⟩:Mp)⟩:web).Net,((⟨(⟨a0_Net_Nodes,(⟨a0_Net_Ties_n,zaa a0_Net_Ties_g⟩:(Sl Tie))⟩:Net),(⟨a0_out_n,a0_out_F⟩:Mp)⟩:web).out)⟩:web)) 0] 0])]
  | _=>.no
theorem zFP:zaq Tryd.prog 93:=⟨_,rfl,rfl,by kernel_rfl⟩
theorem zEV:Ok Tryd.prog 93 zn9:=zbG zH6 zFP fun args K h=>by
  unfold zn9 at h
  split at h
  · rename_i a0_Net_Nodes a0_Net_Ties_n a0_Net_Ties_s a0_Net_Ties_g a0_out_q a0_out_n a0_out_F
    obtain ⟨⟨⟨rfl,a0_Net_Ties_f,rfl⟩,rfl⟩,hk⟩:=h
    try rw [zan a0_Net_Ties_f] at hk
    exact ⟨fun _ _=>[],fun _=>false,zCn,q93 (⟨(⟨a0_Net_Nodes,(⟨a0_Net_Ties_n,a0_Net_Ties_f⟩:(Sl Tie))⟩:Net),(⟨a0_out_n,a0_out_F⟩:Mp)⟩:web) K hk⟩
  · exact h.elim
abbrev T94:Tabs:=Tabs.nil
theorem zH7:TabsOk Tryd.prog T94:=TabsOk.nil
abbrev G94:Ctrs:=csm T94 (fun _ _=>[]) (fun _=>false)
def zFQ:Ann:=⟨21,[(0,zK [1,2] [1,2]),(1,zK [2,3] [2])],
 [],
 [],
 [],[]⟩
abbrev R94:=(step×Bool)
abbrev e94 (r:R94):List PA:=[.agg [.int .i64 r.1.Use.Tie,.bool r.1.Use.Back,.int .i64 r.1.from_,.int .i64 r.1.to,.int .i64 r.1.length],.one (.bool r.2)]
section
variable {K:List PA→Prop} {t:tie}
def s94 (t:tie):(step×Bool) :=
  ((⟨(⟨t.index,false⟩:Use),t.Tie.From,t.Tie.To,t.Tie.High⟩:step),(t.Tie.High != (1000000000000:Int)))
end
theorem q94 (t:tie) (K:List PA→Prop) (hk:K (e94 (s94 t))):vcFun Tryd.prog G94 zFQ 94 [.agg (zvr t)] K :=
  zbd (by kernel_rfl) hk
def zCp : List PA → COut
  | [.agg [.int .i64 a0_Tie_From,.int .i64 a0_Tie_To,.int .i64 a0_Tie_Low,.int .i64 a0_Tie_High,.int .i64 a0_index]]=>.tot [.agg [.int .i64 (((s94 (⟨(⟨a0_Tie_From,a0_Tie_To,a0_Tie_Low,a0_Tie_High⟩:Tie),a0_index⟩:tie)).1).Use.Tie),.bool (((s94 (⟨(⟨a0_Tie_From,a0_Tie_To,a0_Tie_Low,a0_Tie_High⟩:Tie),a0_index⟩:tie)).1).Use.Back),.int .i64 (((s94 (⟨(⟨a0_Tie_From,a0_Tie_To,a0_Tie_Low,a0_Tie_High⟩:Tie),a0_index⟩:tie)).1).from_),.int .i64 (((s94 (⟨(⟨a0_Tie_From,a0_Tie_To,a0_Tie_Low,a0_Tie_High⟩:Tie),a0_index⟩:tie)).1).to),.int .i64 (((s94 (⟨(⟨a0_Tie_From,a0_Tie_To,a0_Tie_Low,a0_Tie_High⟩:Tie),a0_index⟩:tie)).1).length)],.one (.bool ((s94 (⟨(⟨a0_Tie_From,a0_Tie_To,a0_Tie_Low,a0_Tie_High⟩:Tie),a0_index⟩:tie)).2))]
  | _=>.no
theorem zFR:zaq Tryd.prog 94:=⟨_,rfl,rfl,by kernel_rfl⟩
theorem zJF:Ok Tryd.prog 94 zCp:=zbG zH7 zFR fun args K h=>by
  unfold zCp at h
  split at h
  · rename_i a0_Tie_From a0_Tie_To a0_Tie_Low a0_Tie_High a0_index
    have hk:=h
    exact ⟨(fun _ _=>[]),(fun _=>false),zFQ,q94 (⟨(⟨a0_Tie_From,a0_Tie_To,a0_Tie_Low,a0_Tie_High⟩:Tie),a0_index⟩:tie) K hk⟩
  · exact h.elim
abbrev T95:Tabs:=Tabs.nil
theorem zH8:TabsOk Tryd.prog T95:=TabsOk.nil
abbrev G95:Ctrs:=csm T95 (fun _ _=>[]) (fun _=>false)
def zFS:Ann:=⟨22,[(0,zK [1,2] [1,2]),(1,zK [2,3] [2])],
 [],
 [],
 [],[]⟩
abbrev R95:=(step×Bool)
abbrev e95 (r:R95):List PA:=[.agg [.int .i64 r.1.Use.Tie,.bool r.1.Use.Back,.int .i64 r.1.from_,.int .i64 r.1.to,.int .i64 r.1.length],.one (.bool r.2)]
section
variable {K:List PA→Prop} {t:tie}
def s95 (t:tie):(step×Bool) :=
  ((⟨(⟨t.index,true⟩:Use),t.Tie.To,t.Tie.From,(w64 (0 - t.Tie.Low))⟩:step),(t.Tie.Low != (-1000000000000:Int)))
end
theorem q95 (t:tie) (K:List PA→Prop) (hk:K (e95 (s95 t))):vcFun Tryd.prog G95 zFS 95 [.agg (zvr t)] K :=
  zbd (by kernel_rfl) hk
def zCq : List PA → COut
  | [.agg [.int .i64 a0_Tie_From,.int .i64 a0_Tie_To,.int .i64 a0_Tie_Low,.int .i64 a0_Tie_High,.int .i64 a0_index]]=>.tot [.agg [.int .i64 (((s95 (⟨(⟨a0_Tie_From,a0_Tie_To,a0_Tie_Low,a0_Tie_High⟩:Tie),a0_index⟩:tie)).1).Use.Tie),.bool (((s95 (⟨(⟨a0_Tie_From,a0_Tie_To,a0_Tie_Low,a0_Tie_High⟩:Tie),a0_index⟩:tie)).1).Use.Back),.int .i64 (((s95 (⟨(⟨a0_Tie_From,a0_Tie_To,a0_Tie_Low,a0_Tie_High⟩:Tie),a0_index⟩:tie)).1).from_),.int .i64 (((s95 (⟨(⟨a0_Tie_From,a0_Tie_To,a0_Tie_Low,a0_Tie_High⟩:Tie),a0_index⟩:tie)).1).to),.int .i64 (((s95 (⟨(⟨a0_Tie_From,a0_Tie_To,a0_Tie_Low,a0_Tie_High⟩:Tie),a0_index⟩:tie)).1).length)],.one (.bool ((s95 (⟨(⟨a0_Tie_From,a0_Tie_To,a0_Tie_Low,a0_Tie_High⟩:Tie),a0_index⟩:tie)).2))]
  | _=>.no
theorem zFT:zaq Tryd.prog 95:=⟨_,rfl,rfl,by kernel_rfl⟩
theorem zJG:Ok Tryd.prog 95 zCq:=zbG zH8 zFT fun args K h=>by
  unfold zCq at h
  split at h
  · rename_i a0_Tie_From a0_Tie_To a0_Tie_Low a0_Tie_High a0_index
    have hk:=h
    exact ⟨(fun _ _=>[]),(fun _=>false),zFS,q95 (⟨(⟨a0_Tie_From,a0_Tie_To,a0_Tie_Low,a0_Tie_High⟩:Tie),a0_index⟩:tie) K hk⟩
  · exact h.elim
abbrev zJd:Tabs:=((Tabs.nil.addF 94 zCp).addF 95 zCq)
theorem zFU:TabsOk Tryd.prog zJd:=((TabsOk.nil.addF zJF).addF zJG)
abbrev zFV:Ctrs:=csm zJd (fun _ _=>[]) (fun _=>false)
def zii:Ann:=⟨52,[(0,⟨[0,1,14,15,16],[],[],[],[],[],[]⟩),(1,⟨[0,1,14,15,16,17],[],[],[],[],[],[]⟩),(2,⟨[0,1,3,4,14,15,16],[4],[],[],[],[],[]⟩),(3,⟨[0,1,3,4,14,15,16,26],[4],[],[],[],[],[]⟩),(4,⟨[0,1,5,14,15,16],[5],[],[],[],[],[]⟩),(5,⟨[0,1,14,15,16,34,35],[],[],[],[],[],[]⟩),(6,⟨[0,1,14,15,16,34,35,36],[],[],[],[],[],[]⟩),(7,⟨[0,1,7,14,15,16,34,35],[],[],[],[],[],[]⟩),(8,⟨[0,1,8,9,14,15,16,34,35],[8],[],[],[],[],[]⟩),(9,⟨[0,1,14,15,16,34,35,49],[],[],[],[],[],[]⟩),(10,⟨[0,1,14,15,16,34,35],[],[],[],[],[],[]⟩),(11,⟨[0,1,14,15,16],[],[],[],[],[],[]⟩)],
 [(1,⟨[0,1,14,15,16],[],[],[],[],[],[]⟩)],
 [],
 [(6,3,⟨[0,1,14,15,16,34,35],[],[],[],[],[],[]⟩)],[9]⟩
def zdB (l:Nat) (a:web) (zaE:Int):St:=⟨[(0,.one (.c (.p (.yl l)))),(1,.one (.c (.p (.fp [.fp (zau a) 0] 0)))),(14,.one (.c (.p (.sl a.Net.Ties.len 4 (fun i=>enc_40 (a.Net.Ties.get i)))))),(15,.one (.c (.p (.int .i64 (a.Net.Ties.len:Int))))),(16,.one (.c (.p (.int .i64 zaE))))],[],[]⟩
def zgZ (l:Nat) (ys:List (List PA)) (a:web) (zaE:Int):Prop:=vcY Tryd.prog zFV zii l (cdF Tryd.f110 [1,0]) (znm 0 zyY) ys false (zdB l a zaE)
theorem zzO (l : Nat) (a : web) (ys : List (List PA)) :
  vcIter Tryd.prog zFV zii 110 l [.one (.fp [.fp (zau a) 0] 0)] ys =
  (zgZ l ys a (0:Int)):=by kernel_rfl
def zlF (l:Nat) (X0:List (List PA)→Bool→St→Prop) (ys:List (List PA)) (a:web) (zaE:Int):Prop :=
  (zby (decide (zaE < (a.Net.Ties.len : Int)))
 (((0≤zaE∧zaE < (a.Net.Ties.len:Int))) ∧
 (zby ((zsX (a.out.F [zaE]) 0) != 0)
 (X0 ys false (zdB l a (w64 (zaE+(1:Int)))))
 (zby ((s94 (⟨(a.Net.Ties.get zaE.toNat), zaE⟩ : tie)).2)
 (l=l∧∃ r1,ys=[.agg [.int .i64 (((s94 (⟨(a.Net.Ties.get zaE.toNat),zaE⟩:tie)).1).Use.Tie),.bool (((s94 (⟨(a.Net.Ties.get zaE.toNat),zaE⟩:tie)).1).Use.Back),.int .i64 (((s94 (⟨(a.Net.Ties.get zaE.toNat),zaE⟩:tie)).1).from_),.int .i64 (((s94 (⟨(a.Net.Ties.get zaE.toNat),zaE⟩:tie)).1).to),.int .i64 (((s94 (⟨(a.Net.Ties.get zaE.toNat),zaE⟩:tie)).1).length)]] :: r1 ∧
 (zby ((s95 (⟨(a.Net.Ties.get zaE.toNat), zaE⟩ : tie)).2)
 (l=l∧∃ r2,r1=[.agg [.int .i64 (((s95 (⟨(a.Net.Ties.get zaE.toNat),zaE⟩:tie)).1).Use.Tie),.bool (((s95 (⟨(a.Net.Ties.get zaE.toNat),zaE⟩:tie)).1).Use.Back),.int .i64 (((s95 (⟨(a.Net.Ties.get zaE.toNat),zaE⟩:tie)).1).from_),.int .i64 (((s95 (⟨(a.Net.Ties.get zaE.toNat),zaE⟩:tie)).1).to),.int .i64 (((s95 (⟨(a.Net.Ties.get zaE.toNat),zaE⟩:tie)).1).length)]] :: r2 ∧
 (X0 r2 false (zdB l a (w64 (zaE+(1:Int)))))∧True)
 (X0 r1 false (zdB l a (w64 (zaE+(1:Int))))))∧True)
 (zby ((s95 (⟨(a.Net.Ties.get zaE.toNat), zaE⟩ : tie)).2)
 (l=l∧∃ r3,ys=[.agg [.int .i64 (((s95 (⟨(a.Net.Ties.get zaE.toNat),zaE⟩:tie)).1).Use.Tie),.bool (((s95 (⟨(a.Net.Ties.get zaE.toNat),zaE⟩:tie)).1).Use.Back),.int .i64 (((s95 (⟨(a.Net.Ties.get zaE.toNat),zaE⟩:tie)).1).from_),.int .i64 (((s95 (⟨(a.Net.Ties.get zaE.toNat),zaE⟩:tie)).1).to),.int .i64 (((s95 (⟨(a.Net.Ties.get zaE.toNat),zaE⟩:tie)).1).length)]] :: r3 ∧
 (X0 r3 false (zdB l a (w64 (zaE+(1:Int)))))∧True)
 (X0 ys false (zdB l a (w64 (zaE+(1:Int)))))))))
 (ys=[]))
theorem zoa (l : Nat) (X0 : List (List PA) → Bool → St → Prop) (ys : List (List PA)) (a : web) (zaE : Int) :
  vcY Tryd.prog zFV zii l (cd (cdF Tryd.f110 [1,0]) [0]) (zyW Tryd.prog zii 1 X0 (znm 0 zyY)) ys false (zdB l a zaE) =
  zlF l X0 ys a zaE:=by kernel_rfl
theorem ztv (l : Nat) (ys : List (List PA)) (a : web) (zaE : Int)
  (h:∀ X0:List (List PA)→Bool→St→Prop,(∀ (ys:List (List PA)) (zaE:Int),zlF l X0 ys a zaE→X0 ys false (zdB l a zaE))→X0 ys false (zdB l a zaE)) :
  zgZ l ys a zaE:=by
  have e:zgZ l ys a zaE=(∀ X:List (List PA)→Bool→St→Prop,(∀ ys q s,vcY Tryd.prog zFV zii l (cd (cdF Tryd.f110 [1,0]) [0]) (zyW Tryd.prog zii 1 X (znm 0 zyY)) ys q s→X ys q s)→X ys false (zdB l a zaE)):=by kernel_rfl
  refine zbd e ?_
  intro X hX
  refine h X ?_
  intro ys zaE hs
  refine hX _ _ _ ?_
  have e2:=zoa l X ys a zaE
  rw [e2]
  exact hs
attribute [irreducible] zgZ
def zeB (a:web) (S0:Int→List step) (zaE:Int):List step :=
  (cond (decide (zaE < (a.Net.Ties.len : Int)))
 (cond ((zsX (a.out.F [zaE]) 0) != 0)
 (S0 (w64 (zaE+(1:Int))))
 (cond ((s94 (⟨(a.Net.Ties.get zaE.toNat), zaE⟩ : tie)).2)
 (((s94 (⟨(a.Net.Ties.get zaE.toNat), zaE⟩ : tie)).1) :: (cond ((s95 (⟨(a.Net.Ties.get zaE.toNat), zaE⟩ : tie)).2)
 (((s95 (⟨(a.Net.Ties.get zaE.toNat),zaE⟩:tie)).1) :: (S0 (w64 (zaE+(1:Int)))))
 (S0 (w64 (zaE+(1:Int))))))
 (cond ((s95 (⟨(a.Net.Ties.get zaE.toNat), zaE⟩ : tie)).2)
 (((s95 (⟨(a.Net.Ties.get zaE.toNat),zaE⟩:tie)).1) :: (S0 (w64 (zaE+(1:Int)))))
 (S0 (w64 (zaE+(1:Int)))))))
 [])
def zeC (a:web) (P0:Int→Bool) (zaE:Int):Bool :=
  (cond (decide (zaE < (a.Net.Ties.len : Int)))
 (decide ((0≤zaE∧zaE < (a.Net.Ties.len:Int))) &&
 (cond ((zsX (a.out.F [zaE]) 0) != 0)
 (P0 (w64 (zaE+(1:Int))))
 (cond ((s94 (⟨(a.Net.Ties.get zaE.toNat), zaE⟩ : tie)).2)
 (cond ((s95 (⟨(a.Net.Ties.get zaE.toNat), zaE⟩ : tie)).2)
 (P0 (w64 (zaE+(1:Int))))
 (P0 (w64 (zaE+(1:Int)))))
 (cond ((s95 (⟨(a.Net.Ties.get zaE.toNat), zaE⟩ : tie)).2)
 (P0 (w64 (zaE+(1:Int))))
 (P0 (w64 (zaE+(1:Int))))))))
 true)
def zd1 (a : web) : Nat → Int → List step
  | 0=>fun _=>[]
  | k+1=>zeB a (zd1 a k)
def zd2 (a : web) : Nat → Int → Bool
  | 0=>fun _=>false
  | k+1=>zeC a (zd2 a k)
def zr7 (a:web) (zaE:Int):List step:=zd1 a Fuel zaE
def zr8 (a:web) (zaE:Int):Bool:=zd2 a Fuel zaE
theorem zzP (l:Nat) (a:web) (ys:List (List PA)) (zaE:Int) (hs:zr8 a zaE=true) (hk:ys=(zr7 a zaE).map (fun y=>[.agg (zae y)])):zgZ l ys a zaE:=by
  refine ztv l ys a zaE ?_
  intro X0 hstep
  have key:∀ (k:Nat) (ys:List (List PA)) (zaE:Int),zd2 a k zaE=true→ys=(zd1 a k zaE).map (fun y=>[.agg (zae y)])→X0 ys false (zdB l a zaE):=by
    intro k
    induction k with
    | zero=>intro ys zaE hs;exact absurd hs Bool.false_ne_true
    | succ k ih =>
      intro ys zaE hs hk
      refine hstep ys zaE ?_
      have hs:zeC a (zd2 a k) zaE=true:=hs
      have hk:ys=(zeB a (zd1 a k) zaE).map (fun y=>[.agg (zae y)]):=hk
      unfold zeC at hs
      unfold zeB at hk
      generalize zd1 a k=S0 at hk ih
      generalize zd2 a k=P0 at hs ih
      have hX0:=ih
      exact (zgX hs hk
 (fun hs hk => (za0 hs fun hc hs => ⟨hc, (zgX hs hk
 (fun hs hk=>(hX0 _ (w64 (zaE+(1:Int))) hs hk))
 (fun hs hk => (zgX hs hk
 (fun hs hk => (itY hk rfl (fun _ hk => (zgX hs hk
 (fun hs hk=>(itY hk rfl (fun _ hk=>(hX0 _ (w64 (zaE+(1:Int))) hs hk))))
 (fun hs hk=>(hX0 _ (w64 (zaE+(1:Int))) hs hk))))))
 (fun hs hk => (zgX hs hk
 (fun hs hk=>(itY hk rfl (fun _ hk=>(hX0 _ (w64 (zaE+(1:Int))) hs hk))))
 (fun hs hk=>(hX0 _ (w64 (zaE+(1:Int))) hs hk)))))))⟩))
 (fun hs hk=>hk))
  exact key _ _ zaE hs hk
def zhl (a:web):List step :=
  (zr7 a (0:Int))
def zkZ (a:web):Bool :=
  (zr8 a (0:Int))
theorem zJH (l:Nat) (a:web) (ys:List (List PA)) (hs:zkZ a=true) (hk:ys=(zhl a).map (fun y=>[.agg (zae y)])):vcIter Tryd.prog zFV zii 110 l [.one (.fp [.fp (zau a) 0] 0)] ys:=by
  refine zbd (zzO l a ys) ?_
  unfold zkZ at hs
  unfold zhl at hk
  exact (zzP l a _ (0:Int) hs hk)
def zob : List PA → Option (Prop × List (List PA))
  | [.one (.fp [.fp [.int .i64 a_Net_Nodes,.sl a_Net_Ties_n a_Net_Ties_s a_Net_Ties_g,.fm a_out_q a_out_n a_out_F] 0] 0)]=>some (IsE enc_40 4 a_Net_Ties_s a_Net_Ties_g∧a_out_q=(false,1,false,[none])∧zkZ (⟨(⟨a_Net_Nodes,(⟨a_Net_Ties_n,zaa a_Net_Ties_g⟩:(Sl Tie))⟩:Net),(⟨a_out_n,a_out_F⟩:Mp)⟩:web)=true,(zhl (⟨(⟨a_Net_Nodes,(⟨a_Net_Ties_n,zaa a_Net_Ties_g⟩:(Sl Tie))⟩:Net),(⟨a_out_n,a_out_F⟩:Mp)⟩:web)).map fun y=>[.agg (zae y)])
  | _=>none
theorem zCr:zaq Tryd.prog 110:=⟨_,rfl,rfl,by kernel_rfl⟩
theorem ztw:zAD Tryd.prog 110 zob:=zFA zFU zCr fun l caps safe ys h hs=>by
  unfold zob at h
  split at h
  · rename_i a_Net_Nodes a_Net_Ties_n a_Net_Ties_s a_Net_Ties_g a_out_q a_out_n a_out_F
    cases h
    obtain ⟨⟨rfl,a_Net_Ties_f,rfl⟩,rfl,hs⟩:=hs
    try rw [zan a_Net_Ties_f] at hs
    try rw [zan a_Net_Ties_f]
    exact ⟨fun _ _=>[],fun _=>false,zii,zJH l (⟨(⟨a_Net_Nodes,(⟨a_Net_Ties_n,a_Net_Ties_f⟩:(Sl Tie))⟩:Net),(⟨a_out_n,a_out_F⟩:Mp)⟩:web) _ hs rfl⟩
  · cases h
abbrev T88:Tabs:=((Tabs.nil.addF 93 zn9).addI 110 zob)
theorem zH9:TabsOk Tryd.prog T88:=((TabsOk.nil.addF zEV).addI ztw)
abbrev G88:Ctrs:=csm T88 (fun _ _=>[]) (fun _=>false)
def zcu:Ann:=⟨37,[(0,⟨[0],[],[],[],[],[],[]⟩),(1,⟨[0,3],[3],[],[],[],[],[]⟩),(2,⟨[0,3,11,12],[3],[],[],[],[],[]⟩),(3,⟨[0,3,11,12,13],[3],[],[],[],[],[]⟩),(4,⟨[0,3,4,11,12],[3,4],[],[],[],[],[]⟩),(5,⟨[0,3,4,11,12,15],[3,4],[],[],[],[],[]⟩),(6,⟨[0,3,4,5,11,12,15],[3,4,5],[],[],[],[],[]⟩),(7,⟨[0,3,4,5,6,11,12,15],[3,4,5],[],[],[],[],[]⟩),(8,⟨[0,3,4,5,6,11,12,15,29],[3,4,5],[],[],[],[],[]⟩),(9,⟨[0,3,4,11,12,15],[3,4],[],[],[],[],[]⟩),(10,⟨[0,3,4,11,12,15],[3,4],[],[],[],[],[]⟩),(11,⟨[0,3,11,12,35],[3],[],[],[],[],[]⟩),(12,⟨[2],[],[],[],[],[],[]⟩),(13,⟨[0,3,11,12],[3],[],[],[],[],[]⟩),(14,⟨[2],[],[],[],[],[],[]⟩)],
 [(3,⟨[0,3,11,12],[3],[],[],[],[],[]⟩),(6,⟨[0,3,4,11,12,15],[3,4],[],[],[],[],[]⟩)],
 [],
 [],[]⟩
def zij (w:web) (zbc:Int) (dt0:Tab):St:=⟨[(0,.one (.c (.p (.fp (zau w) 0)))),(3,.one (.c (.ptr 3 0))),(11,.one (.c (.p (.int .i64 w.Net.Nodes)))),(12,.one (.c (.p (.int .i64 zbc))))],[(3,.box 157 (zm (zvs dt0)))],[]⟩
def zjR (K:List PA→Prop) (w:web) (zbc:Int) (dt0:Tab):Prop:=vc Tryd.prog G88 zcu (cdF Tryd.f88 [1,1,0,1,0]) (zaj 0 (sqK Tryd.prog G88 zcu (cdF Tryd.f88 [1,1,1]) (za9 Tryd.prog Tryd.f88 K))) (zij w zbc dt0)
def zf3 (w:web) (za2:Int) (zao:Bool) (dt1:Tab):St:=⟨[(0,.one (.c (.p (.fp (zau w) 0)))),(3,.one (.c (.ptr 3 0))),(4,.one (.c (.ptr 4 0))),(11,.one (.c (.p (.int .i64 w.Net.Nodes)))),(12,.one (.c (.p (.int .i64 za2)))),(15,.one (.c (.p (.fn 110 [] [.fp [.fp (zau w) 0] 0]))))],[(3,.box 157 (zm (zvs dt1))),(4,.box 4 [.p (.bool zao)])],[]⟩
def zjS (K:List PA→Prop) (X0:St→Prop) (w:web) (za2:Int) (zao:Bool) (dt1:Tab):Prop:=vc Tryd.prog G88 zcu (cdF Tryd.f88 [1,1,0,1,0,0,1,1,0,0,1,0,1,0]) (zaj 2 (sqK Tryd.prog G88 zcu (cdF Tryd.f88 [1,1,0,1,0,0,1,1,0,0,1,1]) (zaj 1 (sqK Tryd.prog G88 zcu (cdF Tryd.f88 [1,1,0,1,0,0,1,1,1]) (zba Tryd.prog zcu 3 X0 (zaj 0 (sqK Tryd.prog G88 zcu (cdF Tryd.f88 [1,1,1]) (za9 Tryd.prog Tryd.f88 K)))))))) (zf3 w za2 zao dt1)
theorem zCs (w : web) (K : List PA → Prop) :
  vcFun Tryd.prog G88 zcu 88 [.one (.fp (zau w) 0)] K =
  (zjR K w (0:Int) (fun _=>(0:Int))):=by kernel_rfl
def zoc (K:List PA→Prop) (X0:St→Prop) (w:web) (zbc:Int) (dt0:Tab):Prop :=
  (zby (decide (zbc < w.Net.Nodes))
 ((IsE enc_40 4 4 (fun i=>enc_40 (w.Net.Ties.get i))∧((false,1,false,[none]):MQ)=(false,1,false,[none])) ∧
 (zjS K X0 w zbc false dt0))
 (K [.one (.bool true)]))
theorem zpL (K : List PA → Prop) (X0 : St → Prop) (w : web) (zbc : Int) (dt0 : Tab) :
  vc Tryd.prog G88 zcu (cd (cdF Tryd.f88 [1,1,0,1,0]) [0]) (zba Tryd.prog zcu 3 X0 (zaj 0 (sqK Tryd.prog G88 zcu (cdF Tryd.f88 [1,1,1]) (za9 Tryd.prog Tryd.f88 K)))) (zij w zbc dt0) =
  zoc K X0 w zbc dt0:=by kernel_rfl
theorem zvz (K : List PA → Prop) (w : web) (zbc : Int) (dt0 : Tab)
  (h:∀ X0:St→Prop,(∀ (zbc:Int) (dt0:Tab),zoc K X0 w zbc dt0→X0 (zij w zbc dt0))→X0 (zij w zbc dt0)) :
  zjR K w zbc dt0:=by
  have e:zjR K w zbc dt0=(∀ X:St→Prop,(∀ s,vc Tryd.prog G88 zcu (cd (cdF Tryd.f88 [1,1,0,1,0]) [0]) (zba Tryd.prog zcu 3 X (zaj 0 (sqK Tryd.prog G88 zcu (cdF Tryd.f88 [1,1,1]) (za9 Tryd.prog Tryd.f88 K)))) s→X s)→X (zij w zbc dt0)):=by kernel_rfl
  refine zbd e ?_
  intro X hX
  refine h X ?_
  intro zbc dt0 hs
  refine hX _ ?_
  have e2:=zpL K X w zbc dt0
  rw [e2]
  exact hs
def zod (K:List PA→Prop) (X0:St→Prop) (w:web) (za2:Int) (zao:Bool) (dt1:Tab):Prop :=
  (zby (!zao)
 (K [.one (.bool false)])
 (X0 (zij w (w64 (za2+(1:Int))) dt1)))
def zoe (K:List PA→Prop) (X0:St→Prop) (X1:List (List PA)→St→Prop) (y1:step) (rest1:List (List PA)) (w:web) (za2:Int) (zao:Bool) (dt1:Tab):Prop :=
  (((0≤y1.from_∧y1.from_ < (40:Int))) ∧
 (((0≤y1.to∧y1.to < (40:Int))) ∧
 (zby (decide ((w64 ((tg 40 dt1 (0 + y1.from_.toNat * 1 + 0)) + y1.length)) < (tg 40 dt1 (0 + y1.to.toNat * 1 + 0))))
 (((0≤y1.to∧y1.to < (40:Int))) ∧
 (X1 rest1 (zf3 w za2 true (ts 40 dt1 (0+y1.to.toNat * 1+0) [(w64 ((tg 40 dt1 (0+y1.from_.toNat * 1+0))+y1.length))]))))
 (X1 rest1 (zf3 w za2 zao dt1)))))
theorem zpM (K:List PA→Prop) (X0:St→Prop) (w:web) (za2:Int) (zao:Bool) (dt1:Tab):(zaj 2 (sqK Tryd.prog G88 zcu (cdF Tryd.f88 [1,1,0,1,0,0,1,1,0,0,1,1]) (zaj 1 (sqK Tryd.prog G88 zcu (cdF Tryd.f88 [1,1,0,1,0,0,1,1,1]) (zba Tryd.prog zcu 3 X0 (zaj 0 (sqK Tryd.prog G88 zcu (cdF Tryd.f88 [1,1,1]) (za9 Tryd.prog Tryd.f88 K)))))))) .normal (zf3 w za2 zao dt1)=zod K X0 w za2 zao dt1:=by kernel_rfl
theorem zpN (K : List PA → Prop) (X0 : St → Prop) (X1 : List (List PA) → St → Prop) (y1 : step) (rest1 : List (List PA)) (w : web) (za2 : Int) (zao : Bool) (dt1 : Tab) :
  ztK Tryd.prog G88 zcu 6 [16] (cd (cdF Tryd.f88 [1,1,0,1,0,0,1,1,0,0,1,0,1,0]) [0]) (cd (cdF Tryd.f88 [1,1,0,1,0,0,1,1,0,0,1,0,1,0]) [1]) X1 (zaj 2 (sqK Tryd.prog G88 zcu (cdF Tryd.f88 [1,1,0,1,0,0,1,1,0,0,1,1]) (zaj 1 (sqK Tryd.prog G88 zcu (cdF Tryd.f88 [1,1,0,1,0,0,1,1,1]) (zba Tryd.prog zcu 3 X0 (zaj 0 (sqK Tryd.prog G88 zcu (cdF Tryd.f88 [1,1,1]) (za9 Tryd.prog Tryd.f88 K)))))))) [.agg (zae y1)] rest1 (zf3 w za2 zao dt1)=zoe K X0 X1 y1 rest1 w za2 zao dt1:=by kernel_rfl
theorem zvA (K : List PA → Prop) (X0 : St → Prop) (w : web) (za2 : Int) (zao : Bool) (dt1 : Tab)
  (hsafe:IsE enc_40 4 4 (fun i=>enc_40 (w.Net.Ties.get i))∧((false,1,false,[none]):MQ)=(false,1,false,[none])∧(zkZ w=true)) (h:∀ X1:List (List PA)→St→Prop,(∀ (za2:Int) (zao:Bool) (dt1:Tab),zod K X0 w za2 zao dt1→X1 [] (zf3 w za2 zao dt1))→(∀ (y:step) (rest:List (List PA)) (za2:Int) (zao:Bool) (dt1:Tab),zoe K X0 X1 y rest w za2 zao dt1→X1 ([.agg (zae y)] :: rest) (zf3 w za2 zao dt1))→X1 ((zhl w).map fun y=>[.agg (zae y)]) (zf3 w za2 zao dt1)) :
  zjS K X0 w za2 zao dt1:=by
  have e:zjS K X0 w za2 zao dt1=((IsE enc_40 4 4 (fun i=>enc_40 (w.Net.Ties.get i))∧((false,1,false,[none]):MQ)=(false,1,false,[none])∧(zkZ w=true))∧∀ X:List (List PA)→St→Prop,(∀ s,(zaj 2 (sqK Tryd.prog G88 zcu (cdF Tryd.f88 [1,1,0,1,0,0,1,1,0,0,1,1]) (zaj 1 (sqK Tryd.prog G88 zcu (cdF Tryd.f88 [1,1,0,1,0,0,1,1,1]) (zba Tryd.prog zcu 3 X0 (zaj 0 (sqK Tryd.prog G88 zcu (cdF Tryd.f88 [1,1,1]) (za9 Tryd.prog Tryd.f88 K)))))))) .normal s→X [] s)→(∀ y rest s,ztK Tryd.prog G88 zcu 6 [16] (cd (cdF Tryd.f88 [1,1,0,1,0,0,1,1,0,0,1,0,1,0]) [0]) (cd (cdF Tryd.f88 [1,1,0,1,0,0,1,1,0,0,1,0,1,0]) [1]) X (zaj 2 (sqK Tryd.prog G88 zcu (cdF Tryd.f88 [1,1,0,1,0,0,1,1,0,0,1,1]) (zaj 1 (sqK Tryd.prog G88 zcu (cdF Tryd.f88 [1,1,0,1,0,0,1,1,1]) (zba Tryd.prog zcu 3 X0 (zaj 0 (sqK Tryd.prog G88 zcu (cdF Tryd.f88 [1,1,1]) (za9 Tryd.prog Tryd.f88 K)))))))) y rest s→X (y :: rest) s)→X ((zhl w).map fun y=>[.agg (zae y)]) (zf3 w za2 zao dt1)):=by kernel_rfl
  refine zbd e ⟨hsafe,?_⟩
  intro X h0 h1
  refine h X (fun za2 zao dt1 hs=>h0 _ ?_) (fun y rest za2 zao dt1 hs=>h1 _ rest _ ?_)
  · rw [zpM K X0 w za2 zao dt1];exact hs
  · have e2 := zpN K X0 X y rest w za2 zao dt1
    rw [e2];exact hs
abbrev e88 (r:Bool):List PA:=[.one (.bool r)]
attribute [irreducible] zjR zjS
def zhD (S0:Int→Tab→Bool) (w:web) (za2:Int) (zao:Bool) (dt1:Tab):Bool :=
  (cond (!zao)
 false
 (S0 (w64 (za2+(1:Int))) dt1))
def zhE (P0:Int→Tab→Bool) (w:web) (za2:Int) (zao:Bool) (dt1:Tab):Bool :=
  (cond (!zao)
 true
 (P0 (w64 (za2+(1:Int))) dt1))
def zjT (S0:Int→Tab→Bool) (w:web) (y1:step) (S1:Int→Bool→Tab→Bool) (za2:Int) (zao:Bool) (dt1:Tab):Bool :=
  (cond (decide ((w64 ((tg 40 dt1 (0 + y1.from_.toNat * 1 + 0)) + y1.length)) < (tg 40 dt1 (0 + y1.to.toNat * 1 + 0))))
 (S1 za2 true (ts 40 dt1 (0+y1.to.toNat * 1+0) [(w64 ((tg 40 dt1 (0+y1.from_.toNat * 1+0))+y1.length))]))
 (S1 za2 zao dt1))
def zjU (P0:Int→Tab→Bool) (w:web) (y1:step) (P1:Int→Bool→Tab→Bool) (za2:Int) (zao:Bool) (dt1:Tab):Bool :=
  (decide ((0≤y1.from_∧y1.from_ < (40:Int))) &&
 (decide ((0≤y1.to∧y1.to < (40:Int))) &&
 (cond (decide ((w64 ((tg 40 dt1 (0 + y1.from_.toNat * 1 + 0)) + y1.length)) < (tg 40 dt1 (0 + y1.to.toNat * 1 + 0))))
 (decide ((0≤y1.to∧y1.to < (40:Int))) &&
 (P1 za2 true (ts 40 dt1 (0+y1.to.toNat * 1+0) [(w64 ((tg 40 dt1 (0+y1.from_.toNat * 1+0))+y1.length))])))
 (P1 za2 zao dt1))))
def zdC (S0 : Int → Tab → Bool) (w : web) : List step → Int → Bool → Tab → Bool
  | []=>zhD S0 w
  | y :: r=>zjT S0 w y (zdC S0 w r)
def zdD (P0 : Int → Tab → Bool) (w : web) : List step → Int → Bool → Tab → Bool
  | []=>zhE P0 w
  | y :: r=>zjU P0 w y (zdD P0 w r)
def zpO (S0:Int→Tab→Bool) (w:web) (za2:Int) (zao:Bool) (dt1:Tab):Bool:=zdC S0 w (zhl w) za2 zao dt1
def zmD (P0:Int→Tab→Bool) (w:web) (za2:Int) (zao:Bool) (dt1:Tab):Bool:=decide ((zkZ w=true)) && zdD P0 w (zhl w) za2 zao dt1
theorem zCt (K : List PA → Prop) (w : web)
  (X0:St→Prop) (P0:Int→Tab→Bool) (S0:Int→Tab→Bool)
  (hX0:∀ (zbc:Int) (dt0:Tab),P0 zbc dt0=true→K (e88 (S0 zbc dt0))→X0 (zij w zbc dt0)) (za2:Int) (zao:Bool) (dt1:Tab) (hs:zmD P0 w za2 zao dt1=true) (hk:K (e88 (zpO S0 w za2 zao dt1))):zjS K X0 w za2 zao dt1:=by
  unfold zmD at hs
  rw [Bool.and_eq_true] at hs
  obtain ⟨hsf,hs⟩:=hs
  have hc:=of_decide_eq_true hsf
  refine zvA K X0 w za2 zao dt1 ⟨isE,rfl,hc⟩ ?_
  intro X1 hexit hstep
  have key:∀ (l:List step) (za2:Int) (zao:Bool) (dt1:Tab),zdD P0 w l za2 zao dt1=true→K (e88 (zdC S0 w l za2 zao dt1))→X1 (l.map fun y=>[.agg (zae y)]) (zf3 w za2 zao dt1):=by
    intro l
    induction l with
    | nil =>
      intro za2 zao dt1 hs hk
      refine hexit za2 zao dt1 ?_
      have hs:zhE P0 w za2 zao dt1=true:=hs
      have hk:K (e88 (zhD S0 w za2 zao dt1)):=hk
      unfold zhE at hs
      unfold zhD at hk
      exact (zaN (K := fun r => K (e88 r))
 (fun hs hk=>hk)
 (fun hs hk=>(hX0 (w64 (za2+(1:Int))) dt1 hs hk)) hs hk)
    | cons y1 l ih =>
      intro za2 zao dt1 hs hk
      refine hstep y1 _ za2 zao dt1 ?_
      have hs:zjU P0 w y1 (zdD P0 w l) za2 zao dt1=true:=hs
      have hk:K (e88 (zjT S0 w y1 (zdC S0 w l) za2 zao dt1)):=hk
      unfold zjU at hs
      unfold zjT at hk
      generalize zdC S0 w l=S1 at hk ih
      generalize zdD P0 w l=P1 at hs ih
      have hX1:=ih
      exact (za0 hs fun hc hs => ⟨hc, (za0 hs fun hc hs => ⟨hc, (zaN (K := fun r => K (e88 r))
 (fun hs hk=>(za0 hs fun hc hs=>⟨hc,(hX1 za2 true (ts 40 dt1 (0+y1.to.toNat * 1+0) [(w64 ((tg 40 dt1 (0+y1.from_.toNat * 1+0))+y1.length))]) hs hk)⟩))
 (fun hs hk=>(hX1 za2 zao dt1 hs hk)) hs hk)⟩)⟩)
  exact key _ za2 zao dt1 hs hk
def zgl (w:web) (S0:Int→Tab→Bool) (zbc:Int) (dt0:Tab):Bool :=
  (cond (decide (zbc < w.Net.Nodes))
 (zpO S0 w zbc false dt0)
 true)
def zgm (w:web) (P0:Int→Tab→Bool) (zbc:Int) (dt0:Tab):Bool :=
  (cond (decide (zbc < w.Net.Nodes))
 (zmD P0 w zbc false dt0)
 true)
def zeD (w : web) : Nat → Int → Tab → Bool
  | 0=>fun _ _=>default
  | k+1=>zgl w (zeD w k)
def zeE (w : web) : Nat → Int → Tab → Bool
  | 0=>fun _ _=>false
  | k+1=>zgm w (zeE w k)
def zvB (w:web) (zbc:Int) (dt0:Tab):Bool:=zeD w Fuel zbc dt0
def zvC (w:web) (zbc:Int) (dt0:Tab):Bool:=zeE w Fuel zbc dt0
theorem zCu (K:List PA→Prop) (w:web) (zbc:Int) (dt0:Tab) (hs:zvC w zbc dt0=true) (hk:K (e88 (zvB w zbc dt0))):zjR K w zbc dt0:=by
  refine zvz K w zbc dt0 ?_
  intro X0 hstep
  have key:∀ (k:Nat) (zbc:Int) (dt0:Tab),zeE w k zbc dt0=true→K (e88 (zeD w k zbc dt0))→X0 (zij w zbc dt0):=by
    intro k
    induction k with
    | zero=>intro zbc dt0 hs;exact absurd hs Bool.false_ne_true
    | succ k ih =>
      intro zbc dt0 hs hk
      refine hstep zbc dt0 ?_
      have hs:zgm w (zeE w k) zbc dt0=true:=hs
      have hk:K (e88 (zgl w (zeD w k) zbc dt0)):=hk
      unfold zgm at hs
      unfold zgl at hk
      generalize zeD w k=S0 at hk ih
      generalize zeE w k=P0 at hs ih
      have hX0:=ih
      exact (zaN (K := fun r => K (e88 r))
 (fun hs hk=>⟨⟨isE,rfl⟩,(zCt K w X0 P0 S0 hX0 zbc false dt0 hs hk)⟩)
 (fun hs hk=>hk) hs hk)
  exact key _ zbc dt0 hs hk
def s88 (w:web):Bool :=
  (zvB w (0:Int) (fun _=>(0:Int)))
def p88 (w:web):Bool :=
  (zvC w (0:Int) (fun _=>(0:Int)))
theorem q88 (w:web) (K:List PA→Prop) (hs:p88 w=true) (hk:K (e88 (s88 w))):vcFun Tryd.prog G88 zcu 88 [.one (.fp (zau w) 0)] K:=by
  refine zbd (zCs w K) ?_
  unfold p88 at hs
  unfold s88 at hk
  exact (zCu K w (0:Int) (fun _=>(0:Int)) hs hk)
def zvD : List PA → COut
  | [.one (.fp [.int .i64 a0_Net_Nodes,.sl a0_Net_Ties_n a0_Net_Ties_s a0_Net_Ties_g,.fm a0_out_q a0_out_n a0_out_F] 0)]=>.det (IsE enc_40 4 a0_Net_Ties_s a0_Net_Ties_g∧a0_out_q=(false,1,false,[none])∧p88 (⟨(⟨a0_Net_Nodes,(⟨a0_Net_Ties_n,zaa a0_Net_Ties_g⟩:(Sl Tie))⟩:Net),(⟨a0_out_n,a0_out_F⟩:Mp)⟩:web)=true) [.one (.bool (s88 (⟨(⟨a0_Net_Nodes,(⟨a0_Net_Ties_n,zaa a0_Net_Ties_g⟩:(Sl Tie))⟩:Net),(⟨a0_out_n,a0_out_F⟩:Mp)⟩:web)))]
  | _=>.no
theorem zFW:zaq Tryd.prog 88:=⟨_,rfl,rfl,by kernel_rfl⟩
theorem zIa:Ok Tryd.prog 88 zvD:=zbG zH9 zFW fun args K h=>by
  unfold zvD at h
  split at h
  · rename_i a0_Net_Nodes a0_Net_Ties_n a0_Net_Ties_s a0_Net_Ties_g a0_out_q a0_out_n a0_out_F
    obtain ⟨⟨⟨rfl,a0_Net_Ties_f,rfl⟩,rfl,hs⟩,hk⟩:=h
    try rw [zan a0_Net_Ties_f] at hs
    try rw [zan a0_Net_Ties_f] at hk
    exact ⟨(fun _ _=>[]),(fun _=>false),zcu,q88 (⟨(⟨a0_Net_Nodes,(⟨a0_Net_Ties_n,a0_Net_Ties_f⟩:(Sl Tie))⟩:Net),(⟨a0_out_n,a0_out_F⟩:Mp)⟩:web) K hs hk⟩
  · exact h.elim
abbrev T74:Tabs:=(((Tabs.nil.addF 67 zvy).addF 81 zvt).addF 88 zvD)
theorem zIb:TabsOk Tryd.prog T74:=(((TabsOk.nil.addF zH5).addF zH2).addF zIa)
abbrev G74:Ctrs:=csm T74 (fun _ _=>[]) (fun _=>false)
def zzQ:Ann:=⟨31,[(0,zK [1,2] [2]),(1,zK [1,2,6] [2,11]),(2,zK [1,2,6,14] [2,11]),(3,zK [4,5] []),(4,zK [2,6,15,16,17] [2,11]),(5,zK [2,6,15,16,17,18] [2,11]),(6,zK [2,6,8,15,16,17] [2,11]),(7,zK [2,6,15,16,17,26] [2,11]),(8,zK [4,5] []),(9,zK [2,6,15,16,17] [2,11]),(10,zK [6,29] [11]),(11,zK [4,5] []),(12,zK [4,5] [11])],
 [(5,zK [2,6,15,16,17] [2,11])],
 [(3,zK [1,2,6,14] [2,11]),(4,zK [1,2,6] [2,11]),(8,zK [2,6,15,16,17,26] [2,11]),(11,zK [6,29] [11])],
 [],[]⟩
abbrev R74:=(web×Int)
abbrev e74 (r:R74):List PA:=cond (r.2 == 0) [.one (.fp (zau r.1) 0),.one (.int .i64 (0:Int))] [.one (.nilp),.one (.int .i64 r.2)]
@[irreducible] def z74:=ptF Tryd.prog G74 zzQ Tryd.f74
def zAV (n:Net) (nodes:(Sl Int)) (zdo:Int):St:=⟨[(2,zp 2 0),(6,zp 11 0),(15,zS zai 1 nodes),(16,zI (nodes.len:Int)),(17,zI zdo)],[(2,.box 24 (zm (enc_24 n))),(11,.box 105 (zm (zau (⟨n,(⟨0,(fun _=>none)⟩:Mp)⟩:web))))],[]⟩
abbrev zCv (K:List PA→Prop) (n:Net) (nodes:(Sl Int)) (X:St→Prop) (P:Int→Bool) (S:Int→(web×Int)):Prop:=∀ ⦃zdo:Int⦄,P zdo=true→K (e74 (S zdo))→X (zAV n nodes zdo)
section
variable {K:List PA→Prop} {n:Net} {nodes:(Sl Int)} {zpP:Bool} {zdo:Int} {X2:St→Prop} {P2:Int→Bool} {S2:Int→(web×Int)} {zpQ:Int} {zpR:Bool} {zzR:Bool}
def zpS (n:Net) (zzR:Bool):(web×Int) :=
  (cond zzR
 ((default:web),(5:Int))
 ((⟨n,(⟨0,(fun _=>none)⟩:Mp)⟩:web),(0:Int)))
theorem zCw (hk:K (e74 (zpS n zzR))):z74 K [1,1,1,1,0,1] [] ⟨[(6,zp 11 0),(29,zB zzR)],[(11,.box 105 (zm (zau (⟨n,(⟨0,(fun _=>none)⟩:Mp)⟩:web))))],[]⟩:=zbd (by kernel_rfl) (zt hk (fun hk=>hk) (fun hk=>hk))
def zpT (S2:Int→(web×Int)) (n:Net) (nodes:(Sl Int)) (zpQ:Int) (zpR:Bool):(web×Int) :=
  (cond zpR
 ((default:web),(2:Int))
 (S2 (w64 (zpQ+(1:Int)))))
def zpU (P2:Int→Bool) (n:Net) (nodes:(Sl Int)) (zpQ:Int) (zpR:Bool):Bool :=
  (cond zpR
 true
 (P2 (w64 (zpQ+(1:Int)))))
theorem zCx (hX2:zCv K n nodes X2 P2 S2) (hs:zpU P2 n nodes zpQ zpR=true) (hk:K (e74 (zpT S2 n nodes zpQ zpR))):z74 K [1,1,1,0,1,0,0,1,1,0,0,1,1] [X2] ⟨[(2,zp 2 0),(6,zp 11 0),(15,zS zai 1 nodes),(16,zI (nodes.len:Int)),(17,zI zpQ),(26,zB zpR)],[(2,.box 24 (zm (enc_24 n))),(11,.box 105 (zm (zau (⟨n,(⟨0,(fun _=>none)⟩:Mp)⟩:web))))],[]⟩:=zbd (by kernel_rfl) (zc hs hk (fun hs hk=>hk) (fun hs hk=>(hX2 hs hk)))
def zhF (n:Net) (nodes:(Sl Int)) (S2:Int→(web×Int)) (zdo:Int):(web×Int) :=
  (cond (decide (zdo < (nodes.len : Int)))
 (zpT S2 n nodes zdo (!(s81 (nodes.get zdo.toNat) (0:Int) (w64 (n.Nodes - (1:Int))))))
 (zpS n (s88 (⟨n,(⟨0,(fun _=>none)⟩:Mp)⟩:web))))
def zhG (n:Net) (nodes:(Sl Int)) (P2:Int→Bool) (zdo:Int):Bool :=
  (cond (decide (zdo < (nodes.len : Int)))
 (decide ((0≤zdo∧zdo < (nodes.len:Int))) &&
 (zpU P2 n nodes zdo (!(s81 (nodes.get zdo.toNat) (0:Int) (w64 (n.Nodes - (1:Int)))))))
 (decide ((p88 (⟨n,(⟨0,(fun _=>none)⟩:Mp)⟩:web)=true)) &&
 true))
def zhH (n:Net) (nodes:(Sl Int)):Nat→Int→(web×Int):=lpO (fun _=>default) (zhF n nodes)
def zhI (n:Net) (nodes:(Sl Int)):Nat→Int→Bool:=lpO (fun _=>false) (zhG n nodes)
def zpV (n:Net) (nodes:(Sl Int)) (zdo:Int):(web×Int):=zhH n nodes Fuel zdo
def zpW (n:Net) (nodes:(Sl Int)) (zdo:Int):Bool:=zhI n nodes Fuel zdo
theorem zCy (hs:zpW n nodes zdo=true) (hk:K (e74 (zpV n nodes zdo))):z74 K [1,1,1,0,1,0] [] (zAV n nodes zdo) :=
  zl (fun X=>z74 K [1,1,1,0,1,0,0] [X]) (by kernel_rfl) fun X2 hX =>
  (show ∀ k, zCv K n nodes X2 (zhI n nodes k) (zhH n nodes k) from zk5 _ _ (zhG n nodes) (zhF n nodes) (zCv K n nodes X2)
 (by intro _ hs;exact absurd hs Bool.false_ne_true)
 (by intro P2 S2 hX2 zdo hs hk;exact hX _ (zbd (by kernel_rfl) (zc hs hk (fun hs hk=>(za0 hs fun hc hs=>And.intro hc (zCx hX2 hs hk))) (fun hs hk=>(za0 hs fun hc hs=>And.intro (And.intro (zE enc_40 4 n.Ties.get) (And.intro (rfl:((false,1,false,[none]):MQ)=(false,1,false,[none])) hc)) (zCw hk))))))) _ hs hk
def zpX (n:Net) (nodes:(Sl Int)):(web×Int) :=
  (zpV n nodes (0:Int))
def zpY (n:Net) (nodes:(Sl Int)):Bool :=
  (zpW n nodes (0:Int))
theorem zCz (hs:zpY n nodes=true) (hk:K (e74 (zpX n nodes))):z74 K [1,1,1] [] ⟨[(1,zS zai 1 nodes),(2,zp 2 0),(6,zp 11 0)],[(2,.box 24 (zm (enc_24 n))),(11,.box 105 (zm (zau (⟨n,(⟨0,(fun _=>none)⟩:Mp)⟩:web))))],[]⟩:=zbd (by kernel_rfl) (zCy hs hk)
def zpZ (n:Net) (nodes:(Sl Int)) (zpP:Bool):(web×Int) :=
  (cond zpP
 ((default:web),(2:Int))
 (zpX n nodes))
def zp0 (n:Net) (nodes:(Sl Int)) (zpP:Bool):Bool :=
  (cond zpP
 true
 (zpY n nodes))
theorem zCA (hs:zp0 n nodes zpP=true) (hk:K (e74 (zpZ n nodes zpP))):z74 K [1,1,0,1] [] ⟨[(1,zS zai 1 nodes),(2,zp 2 0),(6,zp 11 0),(14,zB zpP)],[(2,.box 24 (zm (enc_24 n))),(11,.box 105 (zm (zau (⟨n,(⟨0,(fun _=>none)⟩:Mp)⟩:web))))],[]⟩:=zbd (by kernel_rfl) (zc hs hk (fun hs hk=>hk) (fun hs hk=>(zCz hs hk)))
def s74 (n:Net) (nodes:(Sl Int)):(web×Int) :=
  (zpZ n nodes (!(s67 n)))
def p74 (n:Net) (nodes:(Sl Int)):Bool :=
  (decide ((p67 n=true)) &&
 (zp0 n nodes (!(s67 n))))
end
theorem q74 (n:Net) (nodes:(Sl Int)) (K:List PA→Prop) (hs:p74 n nodes=true) (hk:K (e74 (s74 n nodes))):vcFun Tryd.prog G74 zzQ 74 [.agg (enc_24 n),.one (.sl nodes.len 1 (fun i=>zai (nodes.get i)))] K :=
  zbd (by kernel_rfl) (za0 hs fun hc hs=>And.intro (And.intro (zE enc_40 4 n.Ties.get) hc) (zCA hs hk))
def zvE : List PA → COut
  | [.agg [.int .i64 a0_Nodes,.sl a0_Ties_n a0_Ties_s a0_Ties_g],.one (.sl a1_n a1_s a1_g)]=>.alt ((s74 (⟨a0_Nodes,(⟨a0_Ties_n,zaa a0_Ties_g⟩:(Sl Tie))⟩:Net) (⟨a1_n,zar a1_g⟩:(Sl Int))).2 == 0) (IsE enc_40 4 a0_Ties_s a0_Ties_g∧IsE zai 1 a1_s a1_g∧p74 (⟨a0_Nodes,(⟨a0_Ties_n,zaa a0_Ties_g⟩:(Sl Tie))⟩:Net) (⟨a1_n,zar a1_g⟩:(Sl Int))=true) [.one (.fp (zau (⟨(s74 (⟨a0_Nodes,(⟨a0_Ties_n,zaa a0_Ties_g⟩:(Sl Tie))⟩:Net) (⟨a1_n,zar a1_g⟩:(Sl Int))).1.Net,((s74 (⟨a0_Nodes,(⟨a0_Ties_n,zaa a0_Ties_g⟩:(Sl Tie))⟩:Net) (⟨a1_n,zar a1_g⟩:(Sl Int))).1.out)⟩:web)) 0),.one (.int .i64 (0:Int))] (IsE enc_40 4 a0_Ties_s a0_Ties_g∧IsE zai 1 a1_s a1_g∧p74 (⟨a0_Nodes,(⟨a0_Ties_n,zaa a0_Ties_g⟩:(Sl Tie))⟩:Net) (⟨a1_n,zar a1_g⟩:(Sl Int))=true) [.one (.nilp),.one (.int .i64 ((s74 (⟨a0_Nodes,(⟨a0_Ties_n,zaa a0_Ties_g⟩:(Sl Tie))⟩:Net) (⟨a1_n,zar a1_g⟩:(Sl Int))).2))]
  | [.agg [.int .i64 a0_Nodes,.sl a0_Ties_n a0_Ties_s a0_Ties_g],.one (.nils)]=>.alt ((s74 (⟨a0_Nodes,(⟨a0_Ties_n,zaa a0_Ties_g⟩:(Sl Tie))⟩:Net) (⟨0,fun _=>default⟩:(Sl Int))).2 == 0) (IsE enc_40 4 a0_Ties_s a0_Ties_g∧p74 (⟨a0_Nodes,(⟨a0_Ties_n,zaa a0_Ties_g⟩:(Sl Tie))⟩:Net) (⟨0,fun _=>default⟩:(Sl Int))=true) [.one (.fp (zau (⟨(s74 (⟨a0_Nodes,(⟨a0_Ties_n,zaa a0_Ties_g⟩:(Sl Tie))⟩:Net) (⟨0,fun _=>default⟩:(Sl Int))).1.Net,((s74 (⟨a0_Nodes,(⟨a0_Ties_n,zaa a0_Ties_g⟩:(Sl Tie))⟩:Net) (⟨0,fun _=>default⟩:(Sl Int))).1.out)⟩:web)) 0),.one (.int .i64 (0:Int))] (IsE enc_40 4 a0_Ties_s a0_Ties_g∧p74 (⟨a0_Nodes,(⟨a0_Ties_n,zaa a0_Ties_g⟩:(Sl Tie))⟩:Net) (⟨0,fun _=>default⟩:(Sl Int))=true) [.one (.nilp),.one (.int .i64 ((s74 (⟨a0_Nodes,(⟨a0_Ties_n,zaa a0_Ties_g⟩:(Sl Tie))⟩:Net) (⟨0,fun _=>default⟩:(Sl Int))).2))]
  | _=>.no
theorem zFX:zaq Tryd.prog 74:=⟨_,rfl,rfl,by kernel_rfl⟩
theorem zIc:Ok Tryd.prog 74 zvE:=zhy zIb zFX fun args K h=>by
  unfold zvE at h
  split at h
  · rename_i a0_Nodes a0_Ties_n a0_Ties_s a0_Ties_g a1_n a1_s a1_g
    have h:=zFC h
    obtain ⟨⟨⟨rfl,a0_Ties_f,rfl⟩,⟨rfl,a1_f,rfl⟩,hs⟩,hk⟩:=h
    try rw [zan a0_Ties_f] at hs
    try rw [zan a0_Ties_f] at hk
    try rw [zbS a1_f] at hs
    try rw [zbS a1_f] at hk
    exact ⟨_,ze8 zf1 _,(fun _ _=>[]),(fun _=>false),zzQ,q74 (⟨a0_Nodes,(⟨a0_Ties_n,a0_Ties_f⟩:(Sl Tie))⟩:Net) (⟨a1_n,a1_f⟩:(Sl Int)) (Wk K) hs (zf2 hk)⟩
  · rename_i a0_Nodes a0_Ties_n a0_Ties_s a0_Ties_g
    have h:=zFC h
    obtain ⟨⟨⟨rfl,a0_Ties_f,rfl⟩,hs⟩,hk⟩:=h
    try rw [zan a0_Ties_f] at hs
    try rw [zan a0_Ties_f] at hk
    exact ⟨_,(zhk (zf1 _) (zhk (.one (.nil _ _)) zn7)),(fun _ _=>[]),(fun _=>false),zzQ,q74 (⟨a0_Nodes,(⟨a0_Ties_n,a0_Ties_f⟩:(Sl Tie))⟩:Net) (⟨0,fun _=>default⟩:(Sl Int)) (Wk K) hs (zf2 hk)⟩
  · exact h.elim
abbrev zJe:Tabs:=Tabs.nil
theorem zFY:TabsOk Tryd.prog zJe:=TabsOk.nil
abbrev zJI:Ctrs:=csm zJe (fun _ _=>[]) (fun _=>false)
def zAW:Ann:=⟨24,[(0,zK [2,3] [2,3]),(1,zK [4] [])],
 [],
 [],
 [],[]⟩
abbrev zJJ:=Bool
abbrev zJK (r:zJJ):List PA:=[.one (.bool r)]
section
variable {K:List PA→Prop} {a:far} {b:far}
def zzS (a:far) (b:far):Bool :=
  (cond (decide (a.length < b.length))
 true
 (cond (a.length == b.length)
 (decide (a.uses < b.uses))
 false))
end
theorem zJL (a:far) (b:far) (K:List PA→Prop) (hk:K (zJK (zzS a b))):vcFun Tryd.prog zJI zAW 105 [.agg (zca a),.agg (zca b)] K :=
  zbd (by kernel_rfl) (zt hk (fun hk=>hk) (fun hk=>(zt hk (fun hk=>hk) (fun hk=>hk))))
def zvF : List PA → COut
  | [.agg [.int .i64 a0_length,.int .i64 a0_uses],.agg [.int .i64 a1_length,.int .i64 a1_uses]]=>.tot [.one (.bool (zzS (⟨a0_length,a0_uses⟩:far) (⟨a1_length,a1_uses⟩:far)))]
  | _=>.no
theorem zCB:zaq Tryd.prog 105:=⟨_,rfl,rfl,by kernel_rfl⟩
theorem zId:Ok Tryd.prog 105 zvF:=zbG zFY zCB fun args K h=>by
  unfold zvF at h
  split at h
  · rename_i a0_length a0_uses a1_length a1_uses
    have hk:=h
    exact ⟨(fun _ _=>[]),(fun _=>false),zAW,zJL (⟨a0_length,a0_uses⟩:far) (⟨a1_length,a1_uses⟩:far) K hk⟩
  · exact h.elim
abbrev zJf:Tabs:=(Tabs.nil.addF 105 zvF)
theorem zFZ:TabsOk Tryd.prog zJf:=(TabsOk.nil.addF zId)
abbrev zJg:Ctrs:=csm zJf (fun _ _=>[]) (fun _=>false)
def zvG:Ann:=⟨22,[(0,zK [0,2,4,6] [4,6]),(1,zK [0,4,6,9,10,11] [4,6]),(2,zK [0,4,6,9,10,11,12] [4,6]),(3,zK [0,4,6,8,9,10,11] [4,6,8]),(4,zK [0,4,6,8,9,10,11,18] [4,6,8]),(5,zK [0,4,6,9,10,11] [4,6]),(6,zK [0,4,6,9,10,11] [4,6]),(7,zK [6] [6])],
 [(2,zK [0,4,6,9,10,11] [4,6])],
 [(5,zK [0,4,6,8,9,10,11,18] [4,6,8])],
 [],[]⟩
abbrev zJM:=far
abbrev zHK (r:zJM):List PA:=[.agg [.int .i64 r.length,.int .i64 r.uses]]
@[irreducible] def z104:=ptF Tryd.prog zJg zvG Tryd.f104
def zvH (others:(Sl far)) (zaQ:Int) (zbi:Int) (zbj:Int):St:=⟨[(0,zP (.fn 105 [] [])),(4,zp 4 0),(6,zp 6 0),(9,zS zca 2 others),(10,zI (others.len:Int)),(11,zI zaQ)],[(4,.box 114 (zm (zca (⟨zbi,zbj⟩:far)))),(6,.box 114 (zm (zca (⟨(0:Int),(0:Int)⟩:far))))],[]⟩
abbrev zvI (K:List PA→Prop) (others:(Sl far)) (X:St→Prop) (P:Int→Int→Int→Bool) (S:Int→Int→Int→far):Prop:=∀ ⦃zaQ:Int⦄ ⦃zbi:Int⦄ ⦃zbj:Int⦄,P zaQ zbi zbj=true→K (zHK (S zaQ zbi zbj))→X (zvH others zaQ zbi zbj)
section
variable {K:List PA→Prop} {first:far} {others:(Sl far)} {zaQ:Int} {zbi:Int} {zbj:Int} {X0:St→Prop} {P0:Int→Int→Int→Bool} {S0:Int→Int→Int→far} {zcx:Int} {zbB:Bool} {zdE:Int} {zdF:Int} {zp1:Int} {zp2:Int}
def zmE (S0:Int→Int→Int→far) (others:(Sl far)) (zcx:Int) (zbB:Bool) (zdE:Int) (zdF:Int) (zp1:Int) (zp2:Int):far :=
  (cond zbB
 (S0 (w64 (zcx+(1:Int))) zp1 zp2)
 (S0 (w64 (zcx+(1:Int))) zdE zdF))
def zmF (P0:Int→Int→Int→Bool) (others:(Sl far)) (zcx:Int) (zbB:Bool) (zdE:Int) (zdF:Int) (zp1:Int) (zp2:Int):Bool :=
  (cond zbB
 (P0 (w64 (zcx+(1:Int))) zp1 zp2)
 (P0 (w64 (zcx+(1:Int))) zdE zdF))
theorem zzT (hX0:zvI K others X0 P0 S0) (hs:zmF P0 others zcx zbB zdE zdF zp1 zp2=true) (hk:K (zHK (zmE S0 others zcx zbB zdE zdF zp1 zp2))):z104 K [1,0,1,0,0,1,1,0,0,1,1] [X0] ⟨[(0,zP (.fn 105 [] [])),(4,zp 4 0),(6,zp 6 0),(8,zp 8 0),(9,zS zca 2 others),(10,zI (others.len:Int)),(11,zI zcx),(18,zB zbB)],[(4,.box 114 (zm (zca (⟨zdE,zdF⟩:far)))),(6,.box 114 (zm (zca (⟨(0:Int),(0:Int)⟩:far)))),(8,.box 114 (zm (zca (⟨zp1,zp2⟩:far))))],[]⟩:=zbd (by kernel_rfl) (zc hs hk (fun hs hk=>(hX0 hs hk)) (fun hs hk=>(hX0 hs hk)))
def zfF (others:(Sl far)) (S0:Int→Int→Int→far) (zaQ:Int) (zbi:Int) (zbj:Int):far :=
  (cond (decide (zaQ < (others.len : Int)))
 (zmE S0 others zaQ (zzS (others.get zaQ.toNat) (⟨zbi,zbj⟩:far)) zbi zbj ((others.get zaQ.toNat).length) ((others.get zaQ.toNat).uses))
 (⟨zbi,zbj⟩:far))
def zfG (others:(Sl far)) (P0:Int→Int→Int→Bool) (zaQ:Int) (zbi:Int) (zbj:Int):Bool :=
  (cond (decide (zaQ < (others.len : Int)))
 (decide ((0≤zaQ∧zaQ < (others.len:Int))) &&
 (zmF P0 others zaQ (zzS (others.get zaQ.toNat) (⟨zbi,zbj⟩:far)) zbi zbj ((others.get zaQ.toNat).length) ((others.get zaQ.toNat).uses)))
 true)
def zfH (others:(Sl far)):Nat→Int→Int→Int→far:=lpO (fun _ _ _=>default) (zfF others)
def zfI (others:(Sl far)):Nat→Int→Int→Int→Bool:=lpO (fun _ _ _=>false) (zfG others)
def zmG (others:(Sl far)) (zaQ:Int) (zbi:Int) (zbj:Int):far:=zfH others Fuel zaQ zbi zbj
def zmH (others:(Sl far)) (zaQ:Int) (zbi:Int) (zbj:Int):Bool:=zfI others Fuel zaQ zbi zbj
theorem zzU (hs:zmH others zaQ zbi zbj=true) (hk:K (zHK (zmG others zaQ zbi zbj))):z104 K [1,0,1,0] [] (zvH others zaQ zbi zbj) :=
  zl (fun X=>z104 K [1,0,1,0,0] [X]) (by kernel_rfl) fun X0 hX =>
  (show ∀ k, zvI K others X0 (zfI others k) (zfH others k) from zk5 _ _ (zfG others) (zfF others) (zvI K others X0)
 (by intro _ _ _ hs;exact absurd hs Bool.false_ne_true)
 (by intro P0 S0 hX0 zaQ zbi zbj hs hk;exact hX _ (zbd (by kernel_rfl) (zc hs hk (fun hs hk=>(za0 hs fun hc hs=>And.intro hc (zzT hX0 hs hk))) (fun hs hk=>hk))))) _ hs hk
def zbR (first:far) (others:(Sl far)):far :=
  (zmG others (0:Int) first.length first.uses)
def ztL (first:far) (others:(Sl far)):Bool :=
  (zmH others (0:Int) first.length first.uses)
end
theorem zJN (first:far) (others:(Sl far)) (K:List PA→Prop) (hs:ztL first others=true) (hk:K (zHK (zbR first others))):vcFun Tryd.prog zJg zvG 104 [.one (.fn 105 [] []),.agg (zca first),.one (.sl others.len 2 (fun i=>zca (others.get i)))] K :=
  zbd (by kernel_rfl) (zzU hs hk)
def zof : List PA → COut
  | [.one (.fn 105 [] []),.agg [.int .i64 a1_length,.int .i64 a1_uses],.one (.sl a2_n a2_s a2_g)]=>.det (IsE zca 2 a2_s a2_g∧ztL (⟨a1_length,a1_uses⟩:far) (⟨a2_n,ziJ a2_g⟩:(Sl far))=true) [.agg [.int .i64 ((zbR (⟨a1_length,a1_uses⟩:far) (⟨a2_n,ziJ a2_g⟩:(Sl far))).length),.int .i64 ((zbR (⟨a1_length,a1_uses⟩:far) (⟨a2_n,ziJ a2_g⟩:(Sl far))).uses)]]
  | _=>.no
theorem zCC:zaq Tryd.prog 104:=⟨_,rfl,rfl,by kernel_rfl⟩
theorem zCD:Ok Tryd.prog 104 zof:=zbG zFZ zCC fun args K h=>by
  unfold zof at h
  split at h
  · rename_i a1_length a1_uses a2_n a2_s a2_g
    obtain ⟨⟨⟨rfl,a2_f,rfl⟩,hs⟩,hk⟩:=h
    try rw [zih a2_f] at hs
    try rw [zih a2_f] at hk
    exact ⟨(fun _ _=>[]),(fun _=>false),zvG,zJN (⟨a1_length,a1_uses⟩:far) (⟨a2_n,a2_f⟩:(Sl far)) K hs hk⟩
  · exact h.elim
abbrev T75:Tabs:=(((Tabs.nil.addF 93 zn9).addF 104 zof).addI 110 zob)
theorem zIe:TabsOk Tryd.prog T75:=(((TabsOk.nil.addF zEV).addF zCD).addI ztw)
abbrev G75:Ctrs:=csm T75 (fun _ _=>[]) (fun _=>false)
def zcd:Ann:=⟨66,[(0,⟨[0,1,4],[4],[],[],[],[],[]⟩),(1,⟨[0,1,4,5],[4,5],[],[],[],[],[]⟩),(2,⟨[0,1,4,5,10],[4,5],[],[],[],[],[]⟩),(3,⟨[0,1,4,5,10,11],[4,5],[],[],[],[],[]⟩),(4,⟨[0,1,4,5,6,10],[4,5],[],[],[],[],[]⟩),(5,⟨[0,1,4,5,10],[4,5],[],[],[],[],[]⟩),(6,⟨[0,1,4,5,10],[4,5],[],[],[],[],[]⟩),(7,⟨[0,4,5],[4,5],[],[],[],[],[]⟩),(8,⟨[0,4,5,7],[4,5,7],[],[],[],[],[]⟩),(9,⟨[0,4,5,7,20],[4,5,7],[],[],[],[],[]⟩),(10,⟨[0,4,5,7],[4,5,7],[],[],[],[],[]⟩),(11,⟨[0,4,5,7,22],[4,5,7],[],[],[],[],[]⟩),(12,⟨[0,4,5,7,8,22],[4,5,7,8],[],[],[],[],[]⟩),(13,⟨[0,4,5,7,8,22,29],[4,5,7,8],[],[],[],[],[]⟩),(14,⟨[0,4,5,7,8,9,22],[4,5,7,8,9],[],[],[],[],[]⟩),(15,⟨[0,4,5,7,8,9,22],[4,5,7,8,9],[],[],[],[],[]⟩),(16,⟨[0,4,5,7,22],[4,5,7],[],[],[],[],[]⟩),(17,⟨[0,4,5,64],[4,5],[],[],[],[],[]⟩),(18,⟨[0,4,5,7],[4,5,7],[],[],[],[],[]⟩),(19,⟨[4],[4],[],[],[],[],[]⟩)],
 [(3,⟨[0,1,4,5,10],[4,5],[],[],[],[],[]⟩),(9,⟨[0,4,5,7],[4,5,7],[],[],[],[],[]⟩),(12,⟨[0,4,5,7,22],[4,5,7],[],[],[],[],[]⟩)],
 [(7,⟨[0,1,4,5],[4,5],[],[],[],[],[]⟩)],
 [],[]⟩
def zjV (w:web) (node:Int) (zaB:Int) (t4t0:Tab) (dt0:Tab):St:=⟨[(0,.one (.c (.p (.fp (zau w) 0)))),(1,.one (.c (.p (.int .i64 node)))),(4,.one (.c (.ptr 4 0))),(5,.one (.c (.ptr 5 0))),(10,.one (.c (.p (.int .i64 zaB))))],[(4,.box 116 (zm (zad t4t0))),(5,.box 116 (zm (zad dt0)))],[]⟩
def zjW (K:List PA→Prop) (w:web) (node:Int) (zaB:Int) (t4t0:Tab) (dt0:Tab):Prop:=vc Tryd.prog G75 zcd (cdF Tryd.f75 [1,1,0,1,0]) (zaj 0 (sqK Tryd.prog G75 zcd (cdF Tryd.f75 [1,1,1]) (za9 Tryd.prog Tryd.f75 K))) (zjV w node zaB t4t0 dt0)
def zF0 (w:web) (node:Int) (t4t1:Tab) (dt1:Tab):St:=⟨[(0,.one (.c (.p (.fp (zau w) 0)))),(1,.one (.c (.p (.int .i64 node)))),(4,.one (.c (.ptr 4 0))),(5,.one (.c (.ptr 5 0)))],[(4,.box 116 (zm (zad t4t1))),(5,.box 116 (zm (zad dt1)))],[]⟩
def zmI (K:List PA→Prop) (w:web) (node:Int) (t4t1:Tab) (dt1:Tab):Prop:=vc Tryd.prog G75 zcd (cdF Tryd.f75 [1,1,1]) (za9 Tryd.prog Tryd.f75 K) (zF0 w node t4t1 dt1)
def zik (w:web) (zah:Bool) (t4t2:Tab) (dt2:Tab):St:=⟨[(0,.one (.c (.p (.fp (zau w) 0)))),(4,.one (.c (.ptr 4 0))),(5,.one (.c (.ptr 5 0))),(7,.one (.c (.ptr 7 0)))],[(4,.box 116 (zm (zad t4t2))),(5,.box 116 (zm (zad dt2))),(7,.box 4 [.p (.bool zah)])],[]⟩
def zjX (K:List PA→Prop) (w:web) (zah:Bool) (t4t2:Tab) (dt2:Tab):Prop:=vc Tryd.prog G75 zcd (cdF Tryd.f75 [1,1,1,1,0,1,0]) (zaj 2 (sqK Tryd.prog G75 zcd (cdF Tryd.f75 [1,1,1,1,1]) (za9 Tryd.prog Tryd.f75 K))) (zik w zah t4t2 dt2)
def zfa (w:web) (zac:Bool) (t4t3:Tab) (dt3:Tab):St:=⟨[(0,.one (.c (.p (.fp (zau w) 0)))),(4,.one (.c (.ptr 4 0))),(5,.one (.c (.ptr 5 0))),(7,.one (.c (.ptr 7 0))),(22,.one (.c (.p (.fn 110 [] [.fp [.fp (zau w) 0] 0]))))],[(4,.box 116 (zm (zad t4t3))),(5,.box 116 (zm (zad dt3))),(7,.box 4 [.p (.bool zac)])],[]⟩
def zjY (K:List PA→Prop) (X2:St→Prop) (w:web) (zac:Bool) (t4t3:Tab) (dt3:Tab):Prop:=vc Tryd.prog G75 zcd (cdF Tryd.f75 [1,1,1,1,0,1,0,0,1,0,0,1,1,0]) (zaj 4 (zaj 3 (sqK Tryd.prog G75 zcd (cdF Tryd.f75 [1,1,1,1,0,1,0,0,1,1]) (zba Tryd.prog zcd 9 X2 (zaj 2 (sqK Tryd.prog G75 zcd (cdF Tryd.f75 [1,1,1,1,1]) (za9 Tryd.prog Tryd.f75 K))))))) (zfa w zac t4t3 dt3)
theorem zCE (w : web) (node : Int) (K : List PA → Prop) :
  vcFun Tryd.prog G75 zcd 75 [.one (.fp (zau w) 0),.one (.int .i64 node)] K =
  (zjW K w node (0:Int) (fun _=>(0:Int)) (fun _=>(0:Int))):=by kernel_rfl
def zog (K:List PA→Prop) (X0:St→Prop) (w:web) (node:Int) (zaB:Int) (t4t0:Tab) (dt0:Tab):Prop :=
  (zby (decide (zaB < (40:Int)))
 (((0≤zaB∧zaB < (40:Int))) ∧
 (X0 (zjV w node (w64 (zaB+(1:Int))) t4t0 (ts 80 dt0 (0+zaB.toNat * 2+0) [(1000000000000:Int),(0:Int)]))))
 (zmI K w node t4t0 dt0))
theorem zp3 (K : List PA → Prop) (X0 : St → Prop) (w : web) (node : Int) (zaB : Int) (t4t0 : Tab) (dt0 : Tab) :
  vc Tryd.prog G75 zcd (cd (cdF Tryd.f75 [1,1,0,1,0]) [0]) (zba Tryd.prog zcd 3 X0 (zaj 0 (sqK Tryd.prog G75 zcd (cdF Tryd.f75 [1,1,1]) (za9 Tryd.prog Tryd.f75 K)))) (zjV w node zaB t4t0 dt0) =
  zog K X0 w node zaB t4t0 dt0:=by kernel_rfl
theorem zvJ (K : List PA → Prop) (w : web) (node : Int) (zaB : Int) (t4t0 : Tab) (dt0 : Tab)
  (h:∀ X0:St→Prop,(∀ (zaB:Int) (t4t0:Tab) (dt0:Tab),zog K X0 w node zaB t4t0 dt0→X0 (zjV w node zaB t4t0 dt0))→X0 (zjV w node zaB t4t0 dt0)) :
  zjW K w node zaB t4t0 dt0:=by
  have e:zjW K w node zaB t4t0 dt0=(∀ X:St→Prop,(∀ s,vc Tryd.prog G75 zcd (cd (cdF Tryd.f75 [1,1,0,1,0]) [0]) (zba Tryd.prog zcd 3 X (zaj 0 (sqK Tryd.prog G75 zcd (cdF Tryd.f75 [1,1,1]) (za9 Tryd.prog Tryd.f75 K)))) s→X s)→X (zjV w node zaB t4t0 dt0)):=by kernel_rfl
  refine zbd e ?_
  intro X hX
  refine h X ?_
  intro zaB t4t0 dt0 hs
  refine hX _ ?_
  have e2:=zp3 K X w node zaB t4t0 dt0
  rw [e2]
  exact hs
theorem zCF (K : List PA → Prop) (w : web) (node : Int) (t4t1 : Tab) (dt1 : Tab) :
  zmI K w node t4t1 dt1 =
  (((0≤node∧node < (40:Int))) ∧
 (zjX K w true t4t1 (ts 80 dt1 (0+node.toNat * 2+0) [(0:Int),(0:Int)]))):=by kernel_rfl
def zoh (K:List PA→Prop) (X2:St→Prop) (w:web) (zah:Bool) (t4t2:Tab) (dt2:Tab):Prop :=
  (zby zah
 ((IsE enc_40 4 4 (fun i=>enc_40 (w.Net.Ties.get i))∧((false,1,false,[none]):MQ)=(false,1,false,[none])) ∧
 (zjY K X2 w false t4t2 dt2))
 (K [.agg [.int .i64 (dt2 0),.int .i64 (dt2 1),.int .i64 (dt2 2),.int .i64 (dt2 3),.int .i64 (dt2 4),.int .i64 (dt2 5),.int .i64 (dt2 6),.int .i64 (dt2 7),.int .i64 (dt2 8),.int .i64 (dt2 9),.int .i64 (dt2 10),.int .i64 (dt2 11),.int .i64 (dt2 12),.int .i64 (dt2 13),.int .i64 (dt2 14),.int .i64 (dt2 15),.int .i64 (dt2 16),.int .i64 (dt2 17),.int .i64 (dt2 18),.int .i64 (dt2 19),.int .i64 (dt2 20),.int .i64 (dt2 21),.int .i64 (dt2 22),.int .i64 (dt2 23),.int .i64 (dt2 24),.int .i64 (dt2 25),.int .i64 (dt2 26),.int .i64 (dt2 27),.int .i64 (dt2 28),.int .i64 (dt2 29),.int .i64 (dt2 30),.int .i64 (dt2 31),.int .i64 (dt2 32),.int .i64 (dt2 33),.int .i64 (dt2 34),.int .i64 (dt2 35),.int .i64 (dt2 36),.int .i64 (dt2 37),.int .i64 (dt2 38),.int .i64 (dt2 39),.int .i64 (dt2 40),.int .i64 (dt2 41),.int .i64 (dt2 42),.int .i64 (dt2 43),.int .i64 (dt2 44),.int .i64 (dt2 45),.int .i64 (dt2 46),.int .i64 (dt2 47),.int .i64 (dt2 48),.int .i64 (dt2 49),.int .i64 (dt2 50),.int .i64 (dt2 51),.int .i64 (dt2 52),.int .i64 (dt2 53),.int .i64 (dt2 54),.int .i64 (dt2 55),.int .i64 (dt2 56),.int .i64 (dt2 57),.int .i64 (dt2 58),.int .i64 (dt2 59),.int .i64 (dt2 60),.int .i64 (dt2 61),.int .i64 (dt2 62),.int .i64 (dt2 63),.int .i64 (dt2 64),.int .i64 (dt2 65),.int .i64 (dt2 66),.int .i64 (dt2 67),.int .i64 (dt2 68),.int .i64 (dt2 69),.int .i64 (dt2 70),.int .i64 (dt2 71),.int .i64 (dt2 72),.int .i64 (dt2 73),.int .i64 (dt2 74),.int .i64 (dt2 75),.int .i64 (dt2 76),.int .i64 (dt2 77),.int .i64 (dt2 78),.int .i64 (dt2 79)]]))
theorem zp4 (K : List PA → Prop) (X2 : St → Prop) (w : web) (zah : Bool) (t4t2 : Tab) (dt2 : Tab) :
  vc Tryd.prog G75 zcd (cd (cdF Tryd.f75 [1,1,1,1,0,1,0]) [0]) (zba Tryd.prog zcd 9 X2 (zaj 2 (sqK Tryd.prog G75 zcd (cdF Tryd.f75 [1,1,1,1,1]) (za9 Tryd.prog Tryd.f75 K)))) (zik w zah t4t2 dt2) =
  zoh K X2 w zah t4t2 dt2:=by kernel_rfl
theorem zvK (K : List PA → Prop) (w : web) (zah : Bool) (t4t2 : Tab) (dt2 : Tab)
  (h:∀ X2:St→Prop,(∀ (zah:Bool) (t4t2:Tab) (dt2:Tab),zoh K X2 w zah t4t2 dt2→X2 (zik w zah t4t2 dt2))→X2 (zik w zah t4t2 dt2)) :
  zjX K w zah t4t2 dt2:=by
  have e:zjX K w zah t4t2 dt2=(∀ X:St→Prop,(∀ s,vc Tryd.prog G75 zcd (cd (cdF Tryd.f75 [1,1,1,1,0,1,0]) [0]) (zba Tryd.prog zcd 9 X (zaj 2 (sqK Tryd.prog G75 zcd (cdF Tryd.f75 [1,1,1,1,1]) (za9 Tryd.prog Tryd.f75 K)))) s→X s)→X (zik w zah t4t2 dt2)):=by kernel_rfl
  refine zbd e ?_
  intro X hX
  refine h X ?_
  intro zah t4t2 dt2 hs
  refine hX _ ?_
  have e2:=zp4 K X w zah t4t2 dt2
  rw [e2]
  exact hs
def zoi (K:List PA→Prop) (X2:St→Prop) (w:web) (zac:Bool) (t4t3:Tab) (dt3:Tab):Prop :=
  (X2 (zik w zac t4t3 dt3))
def zoj (K:List PA→Prop) (X2:St→Prop) (X3:List (List PA)→St→Prop) (y3:step) (rest3:List (List PA)) (w:web) (zac:Bool) (t4t3:Tab) (dt3:Tab):Prop :=
  (((0≤y3.to∧y3.to < (40:Int))) ∧
 (zby (match ((tg 80 dt3 (0 + y3.to.toNat * 2 + 0)) == (1000000000000:Int)) with | true => (match ((tg 80 dt3 (0 + y3.to.toNat * 2 + 0 + 1)) == (0:Int)) with | true => true | false => false) | false => false)
 (X3 rest3 (zfa w zac t4t3 dt3))
 (((0≤y3.from_∧y3.from_ < (40:Int))) ∧
 (((0≤y3.to∧y3.to < (40:Int))) ∧
 (((0≤y3.to∧y3.to < (40:Int))) ∧
 ((IsE zca 2 2 (fun _=>(zca (⟨(w64 ((tg 80 dt3 (0+y3.to.toNat * 2+0))+y3.length)),(w64 ((tg 80 dt3 (0+y3.to.toNat * 2+1))+(1:Int)))⟩:far)))∧(ztL (⟨(tg 80 dt3 (0+y3.from_.toNat * 2+0)),(tg 80 dt3 (0+y3.from_.toNat * 2+0+1))⟩:far) (⟨1,fun _=>(⟨(w64 ((tg 80 dt3 (0+y3.to.toNat * 2+0))+y3.length)),(w64 ((tg 80 dt3 (0+y3.to.toNat * 2+1))+(1:Int)))⟩:far)⟩:(Sl far))=true)) ∧
 (zby zac
 (((0≤y3.from_∧y3.from_ < (40:Int))) ∧
 (X3 rest3 (zfa w true t4t3 (ts 80 dt3 (0+y3.from_.toNat * 2+0) [(zbR (⟨(tg 80 dt3 (0+y3.from_.toNat * 2+0)),(tg 80 dt3 (0+y3.from_.toNat * 2+0+1))⟩:far) (⟨1,fun _=>(⟨(w64 ((tg 80 dt3 (0+y3.to.toNat * 2+0))+y3.length)),(w64 ((tg 80 dt3 (0+y3.to.toNat * 2+1))+(1:Int)))⟩:far)⟩:(Sl far))).length,(zbR (⟨(tg 80 dt3 (0+y3.from_.toNat * 2+0)),(tg 80 dt3 (0+y3.from_.toNat * 2+0+1))⟩:far) (⟨1,fun _=>(⟨(w64 ((tg 80 dt3 (0+y3.to.toNat * 2+0))+y3.length)),(w64 ((tg 80 dt3 (0+y3.to.toNat * 2+1))+(1:Int)))⟩:far)⟩:(Sl far))).uses]))))
 (((0≤y3.from_∧y3.from_ < (40:Int))) ∧
 (((0≤y3.from_∧y3.from_ < (40:Int))) ∧
 (X3 rest3 (zfa w (!(match ((zbR (⟨(tg 80 dt3 (0+y3.from_.toNat * 2+0)),(tg 80 dt3 (0+y3.from_.toNat * 2+0+1))⟩:far) (⟨1,fun _=>(⟨(w64 ((tg 80 dt3 (0+y3.to.toNat * 2+0))+y3.length)),(w64 ((tg 80 dt3 (0+y3.to.toNat * 2+1))+(1:Int)))⟩:far)⟩:(Sl far))).length == (tg 80 dt3 (0+y3.from_.toNat * 2+0))) with | true=>(match ((zbR (⟨(tg 80 dt3 (0+y3.from_.toNat * 2+0)),(tg 80 dt3 (0+y3.from_.toNat * 2+0+1))⟩:far) (⟨1,fun _=>(⟨(w64 ((tg 80 dt3 (0+y3.to.toNat * 2+0))+y3.length)),(w64 ((tg 80 dt3 (0+y3.to.toNat * 2+1))+(1:Int)))⟩:far)⟩:(Sl far))).uses == (tg 80 dt3 (0+y3.from_.toNat * 2+0+1))) with | true=>true | false=>false) | false=>false)) t4t3 (ts 80 dt3 (0+y3.from_.toNat * 2+0) [(zbR (⟨(tg 80 dt3 (0+y3.from_.toNat * 2+0)),(tg 80 dt3 (0+y3.from_.toNat * 2+0+1))⟩:far) (⟨1,fun _=>(⟨(w64 ((tg 80 dt3 (0+y3.to.toNat * 2+0))+y3.length)),(w64 ((tg 80 dt3 (0+y3.to.toNat * 2+1))+(1:Int)))⟩:far)⟩:(Sl far))).length,(zbR (⟨(tg 80 dt3 (0+y3.from_.toNat * 2+0)),(tg 80 dt3 (0+y3.from_.toNat * 2+0+1))⟩:far) (⟨1,fun _=>(⟨(w64 ((tg 80 dt3 (0+y3.to.toNat * 2+0))+y3.length)),(w64 ((tg 80 dt3 (0+y3.to.toNat * 2+1))+(1:Int)))⟩:far)⟩:(Sl far))).uses]))))))))))))
theorem zp5 (K:List PA→Prop) (X2:St→Prop) (w:web) (zac:Bool) (t4t3:Tab) (dt3:Tab):(zaj 4 (zaj 3 (sqK Tryd.prog G75 zcd (cdF Tryd.f75 [1,1,1,1,0,1,0,0,1,1]) (zba Tryd.prog zcd 9 X2 (zaj 2 (sqK Tryd.prog G75 zcd (cdF Tryd.f75 [1,1,1,1,1]) (za9 Tryd.prog Tryd.f75 K))))))) .normal (zfa w zac t4t3 dt3)=zoi K X2 w zac t4t3 dt3:=by kernel_rfl
theorem zp6 (K : List PA → Prop) (X2 : St → Prop) (X3 : List (List PA) → St → Prop) (y3 : step) (rest3 : List (List PA)) (w : web) (zac : Bool) (t4t3 : Tab) (dt3 : Tab) :
  ztK Tryd.prog G75 zcd 12 [23] (cd (cdF Tryd.f75 [1,1,1,1,0,1,0,0,1,0,0,1,1,0]) [0]) (cd (cdF Tryd.f75 [1,1,1,1,0,1,0,0,1,0,0,1,1,0]) [1]) X3 (zaj 4 (zaj 3 (sqK Tryd.prog G75 zcd (cdF Tryd.f75 [1,1,1,1,0,1,0,0,1,1]) (zba Tryd.prog zcd 9 X2 (zaj 2 (sqK Tryd.prog G75 zcd (cdF Tryd.f75 [1,1,1,1,1]) (za9 Tryd.prog Tryd.f75 K))))))) [.agg (zae y3)] rest3 (zfa w zac t4t3 dt3)=zoj K X2 X3 y3 rest3 w zac t4t3 dt3:=by kernel_rfl
theorem zvL (K : List PA → Prop) (X2 : St → Prop) (w : web) (zac : Bool) (t4t3 : Tab) (dt3 : Tab)
  (hsafe:IsE enc_40 4 4 (fun i=>enc_40 (w.Net.Ties.get i))∧((false,1,false,[none]):MQ)=(false,1,false,[none])∧(zkZ w=true)) (h:∀ X3:List (List PA)→St→Prop,(∀ (zac:Bool) (t4t3:Tab) (dt3:Tab),zoi K X2 w zac t4t3 dt3→X3 [] (zfa w zac t4t3 dt3))→(∀ (y:step) (rest:List (List PA)) (zac:Bool) (t4t3:Tab) (dt3:Tab),zoj K X2 X3 y rest w zac t4t3 dt3→X3 ([.agg (zae y)] :: rest) (zfa w zac t4t3 dt3))→X3 ((zhl w).map fun y=>[.agg (zae y)]) (zfa w zac t4t3 dt3)) :
  zjY K X2 w zac t4t3 dt3:=by
  have e:zjY K X2 w zac t4t3 dt3=((IsE enc_40 4 4 (fun i=>enc_40 (w.Net.Ties.get i))∧((false,1,false,[none]):MQ)=(false,1,false,[none])∧(zkZ w=true))∧∀ X:List (List PA)→St→Prop,(∀ s,(zaj 4 (zaj 3 (sqK Tryd.prog G75 zcd (cdF Tryd.f75 [1,1,1,1,0,1,0,0,1,1]) (zba Tryd.prog zcd 9 X2 (zaj 2 (sqK Tryd.prog G75 zcd (cdF Tryd.f75 [1,1,1,1,1]) (za9 Tryd.prog Tryd.f75 K))))))) .normal s→X [] s)→(∀ y rest s,ztK Tryd.prog G75 zcd 12 [23] (cd (cdF Tryd.f75 [1,1,1,1,0,1,0,0,1,0,0,1,1,0]) [0]) (cd (cdF Tryd.f75 [1,1,1,1,0,1,0,0,1,0,0,1,1,0]) [1]) X (zaj 4 (zaj 3 (sqK Tryd.prog G75 zcd (cdF Tryd.f75 [1,1,1,1,0,1,0,0,1,1]) (zba Tryd.prog zcd 9 X2 (zaj 2 (sqK Tryd.prog G75 zcd (cdF Tryd.f75 [1,1,1,1,1]) (za9 Tryd.prog Tryd.f75 K))))))) y rest s→X (y :: rest) s)→X ((zhl w).map fun y=>[.agg (zae y)]) (zfa w zac t4t3 dt3)):=by kernel_rfl
  refine zbd e ⟨hsafe,?_⟩
  intro X h0 h1
  refine h X (fun zac t4t3 dt3 hs=>h0 _ ?_) (fun y rest zac t4t3 dt3 hs=>h1 _ rest _ ?_)
  · rw [zp5 K X2 w zac t4t3 dt3];exact hs
  · have e2 := zp6 K X2 X y rest w zac t4t3 dt3
    rw [e2];exact hs
abbrev e75 (r:Tab):List PA:=[.agg [.int .i64 (r 0),.int .i64 (r 1),.int .i64 (r 2),.int .i64 (r 3),.int .i64 (r 4),.int .i64 (r 5),.int .i64 (r 6),.int .i64 (r 7),.int .i64 (r 8),.int .i64 (r 9),.int .i64 (r 10),.int .i64 (r 11),.int .i64 (r 12),.int .i64 (r 13),.int .i64 (r 14),.int .i64 (r 15),.int .i64 (r 16),.int .i64 (r 17),.int .i64 (r 18),.int .i64 (r 19),.int .i64 (r 20),.int .i64 (r 21),.int .i64 (r 22),.int .i64 (r 23),.int .i64 (r 24),.int .i64 (r 25),.int .i64 (r 26),.int .i64 (r 27),.int .i64 (r 28),.int .i64 (r 29),.int .i64 (r 30),.int .i64 (r 31),.int .i64 (r 32),.int .i64 (r 33),.int .i64 (r 34),.int .i64 (r 35),.int .i64 (r 36),.int .i64 (r 37),.int .i64 (r 38),.int .i64 (r 39),.int .i64 (r 40),.int .i64 (r 41),.int .i64 (r 42),.int .i64 (r 43),.int .i64 (r 44),.int .i64 (r 45),.int .i64 (r 46),.int .i64 (r 47),.int .i64 (r 48),.int .i64 (r 49),.int .i64 (r 50),.int .i64 (r 51),.int .i64 (r 52),.int .i64 (r 53),.int .i64 (r 54),.int .i64 (r 55),.int .i64 (r 56),.int .i64 (r 57),.int .i64 (r 58),.int .i64 (r 59),.int .i64 (r 60),.int .i64 (r 61),.int .i64 (r 62),.int .i64 (r 63),.int .i64 (r 64),.int .i64 (r 65),.int .i64 (r 66),.int .i64 (r 67),.int .i64 (r 68),.int .i64 (r 69),.int .i64 (r 70),.int .i64 (r 71),.int .i64 (r 72),.int .i64 (r 73),.int .i64 (r 74),.int .i64 (r 75),.int .i64 (r 76),.int .i64 (r 77),.int .i64 (r 78),.int .i64 (r 79)]]
attribute [irreducible] zjW zmI zjX zjY
def zp7 (S2:Bool→Tab→Tab→Tab) (w:web) (zac:Bool) (t4t3:Tab) (dt3:Tab):Tab :=
  (S2 zac t4t3 dt3)
def zp8 (P2:Bool→Tab→Tab→Bool) (w:web) (zac:Bool) (t4t3:Tab) (dt3:Tab):Bool :=
  (P2 zac t4t3 dt3)
def zjZ (S2:Bool→Tab→Tab→Tab) (w:web) (y3:step) (S3:Bool→Tab→Tab→Tab) (zac:Bool) (t4t3:Tab) (dt3:Tab):Tab :=
  (cond (match ((tg 80 dt3 (0 + y3.to.toNat * 2 + 0)) == (1000000000000:Int)) with | true => (match ((tg 80 dt3 (0 + y3.to.toNat * 2 + 0 + 1)) == (0:Int)) with | true => true | false => false) | false => false)
 (S3 zac t4t3 dt3)
 (cond zac
 (S3 true t4t3 (ts 80 dt3 (0+y3.from_.toNat * 2+0) [(zbR (⟨(tg 80 dt3 (0+y3.from_.toNat * 2+0)),(tg 80 dt3 (0+y3.from_.toNat * 2+0+1))⟩:far) (⟨1,fun _=>(⟨(w64 ((tg 80 dt3 (0+y3.to.toNat * 2+0))+y3.length)),(w64 ((tg 80 dt3 (0+y3.to.toNat * 2+1))+(1:Int)))⟩:far)⟩:(Sl far))).length,(zbR (⟨(tg 80 dt3 (0+y3.from_.toNat * 2+0)),(tg 80 dt3 (0+y3.from_.toNat * 2+0+1))⟩:far) (⟨1,fun _=>(⟨(w64 ((tg 80 dt3 (0+y3.to.toNat * 2+0))+y3.length)),(w64 ((tg 80 dt3 (0+y3.to.toNat * 2+1))+(1:Int)))⟩:far)⟩:(Sl far))).uses]))
 (S3 (!(match ((zbR (⟨(tg 80 dt3 (0+y3.from_.toNat * 2+0)),(tg 80 dt3 (0+y3.from_.toNat * 2+0+1))⟩:far) (⟨1,fun _=>(⟨(w64 ((tg 80 dt3 (0+y3.to.toNat * 2+0))+y3.length)),(w64 ((tg 80 dt3 (0+y3.to.toNat * 2+1))+(1:Int)))⟩:far)⟩:(Sl far))).length == (tg 80 dt3 (0+y3.from_.toNat * 2+0))) with | true=>(match ((zbR (⟨(tg 80 dt3 (0+y3.from_.toNat * 2+0)),(tg 80 dt3 (0+y3.from_.toNat * 2+0+1))⟩:far) (⟨1,fun _=>(⟨(w64 ((tg 80 dt3 (0+y3.to.toNat * 2+0))+y3.length)),(w64 ((tg 80 dt3 (0+y3.to.toNat * 2+1))+(1:Int)))⟩:far)⟩:(Sl far))).uses == (tg 80 dt3 (0+y3.from_.toNat * 2+0+1))) with | true=>true | false=>false) | false=>false)) t4t3 (ts 80 dt3 (0+y3.from_.toNat * 2+0) [(zbR (⟨(tg 80 dt3 (0+y3.from_.toNat * 2+0)),(tg 80 dt3 (0+y3.from_.toNat * 2+0+1))⟩:far) (⟨1,fun _=>(⟨(w64 ((tg 80 dt3 (0+y3.to.toNat * 2+0))+y3.length)),(w64 ((tg 80 dt3 (0+y3.to.toNat * 2+1))+(1:Int)))⟩:far)⟩:(Sl far))).length,(zbR (⟨(tg 80 dt3 (0+y3.from_.toNat * 2+0)),(tg 80 dt3 (0+y3.from_.toNat * 2+0+1))⟩:far) (⟨1,fun _=>(⟨(w64 ((tg 80 dt3 (0+y3.to.toNat * 2+0))+y3.length)),(w64 ((tg 80 dt3 (0+y3.to.toNat * 2+1))+(1:Int)))⟩:far)⟩:(Sl far))).uses]))))
def zj0 (P2:Bool→Tab→Tab→Bool) (w:web) (y3:step) (P3:Bool→Tab→Tab→Bool) (zac:Bool) (t4t3:Tab) (dt3:Tab):Bool :=
  (decide ((0≤y3.to∧y3.to < (40:Int))) &&
 (cond (match ((tg 80 dt3 (0 + y3.to.toNat * 2 + 0)) == (1000000000000:Int)) with | true => (match ((tg 80 dt3 (0 + y3.to.toNat * 2 + 0 + 1)) == (0:Int)) with | true => true | false => false) | false => false)
 (P3 zac t4t3 dt3)
 (decide ((0≤y3.from_∧y3.from_ < (40:Int))) &&
 (decide ((0≤y3.to∧y3.to < (40:Int))) &&
 (decide ((0≤y3.to∧y3.to < (40:Int))) &&
 (decide ((ztL (⟨(tg 80 dt3 (0+y3.from_.toNat * 2+0)),(tg 80 dt3 (0+y3.from_.toNat * 2+0+1))⟩:far) (⟨1,fun _=>(⟨(w64 ((tg 80 dt3 (0+y3.to.toNat * 2+0))+y3.length)),(w64 ((tg 80 dt3 (0+y3.to.toNat * 2+1))+(1:Int)))⟩:far)⟩:(Sl far))=true)) &&
 (cond zac
 (decide ((0≤y3.from_∧y3.from_ < (40:Int))) &&
 (P3 true t4t3 (ts 80 dt3 (0+y3.from_.toNat * 2+0) [(zbR (⟨(tg 80 dt3 (0+y3.from_.toNat * 2+0)),(tg 80 dt3 (0+y3.from_.toNat * 2+0+1))⟩:far) (⟨1,fun _=>(⟨(w64 ((tg 80 dt3 (0+y3.to.toNat * 2+0))+y3.length)),(w64 ((tg 80 dt3 (0+y3.to.toNat * 2+1))+(1:Int)))⟩:far)⟩:(Sl far))).length,(zbR (⟨(tg 80 dt3 (0+y3.from_.toNat * 2+0)),(tg 80 dt3 (0+y3.from_.toNat * 2+0+1))⟩:far) (⟨1,fun _=>(⟨(w64 ((tg 80 dt3 (0+y3.to.toNat * 2+0))+y3.length)),(w64 ((tg 80 dt3 (0+y3.to.toNat * 2+1))+(1:Int)))⟩:far)⟩:(Sl far))).uses])))
 (decide ((0≤y3.from_∧y3.from_ < (40:Int))) &&
 (decide ((0≤y3.from_∧y3.from_ < (40:Int))) &&
 (P3 (!(match ((zbR (⟨(tg 80 dt3 (0+y3.from_.toNat * 2+0)),(tg 80 dt3 (0+y3.from_.toNat * 2+0+1))⟩:far) (⟨1,fun _=>(⟨(w64 ((tg 80 dt3 (0+y3.to.toNat * 2+0))+y3.length)),(w64 ((tg 80 dt3 (0+y3.to.toNat * 2+1))+(1:Int)))⟩:far)⟩:(Sl far))).length == (tg 80 dt3 (0+y3.from_.toNat * 2+0))) with | true=>(match ((zbR (⟨(tg 80 dt3 (0+y3.from_.toNat * 2+0)),(tg 80 dt3 (0+y3.from_.toNat * 2+0+1))⟩:far) (⟨1,fun _=>(⟨(w64 ((tg 80 dt3 (0+y3.to.toNat * 2+0))+y3.length)),(w64 ((tg 80 dt3 (0+y3.to.toNat * 2+1))+(1:Int)))⟩:far)⟩:(Sl far))).uses == (tg 80 dt3 (0+y3.from_.toNat * 2+0+1))) with | true=>true | false=>false) | false=>false)) t4t3 (ts 80 dt3 (0+y3.from_.toNat * 2+0) [(zbR (⟨(tg 80 dt3 (0+y3.from_.toNat * 2+0)),(tg 80 dt3 (0+y3.from_.toNat * 2+0+1))⟩:far) (⟨1,fun _=>(⟨(w64 ((tg 80 dt3 (0+y3.to.toNat * 2+0))+y3.length)),(w64 ((tg 80 dt3 (0+y3.to.toNat * 2+1))+(1:Int)))⟩:far)⟩:(Sl far))).length,(zbR (⟨(tg 80 dt3 (0+y3.from_.toNat * 2+0)),(tg 80 dt3 (0+y3.from_.toNat * 2+0+1))⟩:far) (⟨1,fun _=>(⟨(w64 ((tg 80 dt3 (0+y3.to.toNat * 2+0))+y3.length)),(w64 ((tg 80 dt3 (0+y3.to.toNat * 2+1))+(1:Int)))⟩:far)⟩:(Sl far))).uses])))))))))))
def zgn (S2 : Bool → Tab → Tab → Tab) (w : web) : List step → Bool → Tab → Tab → Tab
  | []=>zp7 S2 w
  | y :: r=>zjZ S2 w y (zgn S2 w r)
def zgo (P2 : Bool → Tab → Tab → Bool) (w : web) : List step → Bool → Tab → Tab → Bool
  | []=>zp8 P2 w
  | y :: r=>zj0 P2 w y (zgo P2 w r)
def zp9 (S2:Bool→Tab→Tab→Tab) (w:web) (zac:Bool) (t4t3:Tab) (dt3:Tab):Tab:=zgn S2 w (zhl w) zac t4t3 dt3
def zmJ (P2:Bool→Tab→Tab→Bool) (w:web) (zac:Bool) (t4t3:Tab) (dt3:Tab):Bool:=decide ((zkZ w=true)) && zgo P2 w (zhl w) zac t4t3 dt3
theorem zCG (K : List PA → Prop) (w : web)
  (X2:St→Prop) (P2:Bool→Tab→Tab→Bool) (S2:Bool→Tab→Tab→Tab)
  (hX2:∀ (zah:Bool) (t4t2:Tab) (dt2:Tab),P2 zah t4t2 dt2=true→K (e75 (S2 zah t4t2 dt2))→X2 (zik w zah t4t2 dt2)) (zac:Bool) (t4t3:Tab) (dt3:Tab) (hs:zmJ P2 w zac t4t3 dt3=true) (hk:K (e75 (zp9 S2 w zac t4t3 dt3))):zjY K X2 w zac t4t3 dt3:=by
  unfold zmJ at hs
  rw [Bool.and_eq_true] at hs
  obtain ⟨hsf,hs⟩:=hs
  have hc:=of_decide_eq_true hsf
  refine zvL K X2 w zac t4t3 dt3 ⟨isE,rfl,hc⟩ ?_
  intro X3 hexit hstep
  have key:∀ (l:List step) (zac:Bool) (t4t3:Tab) (dt3:Tab),zgo P2 w l zac t4t3 dt3=true→K (e75 (zgn S2 w l zac t4t3 dt3))→X3 (l.map fun y=>[.agg (zae y)]) (zfa w zac t4t3 dt3):=by
    intro l
    induction l with
    | nil =>
      intro zac t4t3 dt3 hs hk
      refine hexit zac t4t3 dt3 ?_
      have hs:zp8 P2 w zac t4t3 dt3=true:=hs
      have hk:K (e75 (zp7 S2 w zac t4t3 dt3)):=hk
      unfold zp8 at hs
      unfold zp7 at hk
      exact (hX2 zac t4t3 dt3 hs hk)
    | cons y3 l ih =>
      intro zac t4t3 dt3 hs hk
      refine hstep y3 _ zac t4t3 dt3 ?_
      have hs:zj0 P2 w y3 (zgo P2 w l) zac t4t3 dt3=true:=hs
      have hk:K (e75 (zjZ S2 w y3 (zgn S2 w l) zac t4t3 dt3)):=hk
      unfold zj0 at hs
      unfold zjZ at hk
      generalize zgn S2 w l=S3 at hk ih
      generalize zgo P2 w l=P3 at hs ih
      have hX3:=ih
      exact (za0 hs fun hc hs => ⟨hc, (zaN (K := fun r => K (e75 r))
 (fun hs hk=>(hX3 zac t4t3 dt3 hs hk))
 (fun hs hk => (za0 hs fun hc hs => ⟨hc, (za0 hs fun hc hs => ⟨hc, (za0 hs fun hc hs => ⟨hc, (za0 hs fun hc hs => ⟨⟨zvl, hc⟩, (zaN (K := fun r => K (e75 r))
 (fun hs hk=>(za0 hs fun hc hs=>⟨hc,(hX3 true t4t3 (ts 80 dt3 (0+y3.from_.toNat * 2+0) [(zbR (⟨(tg 80 dt3 (0+y3.from_.toNat * 2+0)),(tg 80 dt3 (0+y3.from_.toNat * 2+0+1))⟩:far) (⟨1,fun _=>(⟨(w64 ((tg 80 dt3 (0+y3.to.toNat * 2+0))+y3.length)),(w64 ((tg 80 dt3 (0+y3.to.toNat * 2+1))+(1:Int)))⟩:far)⟩:(Sl far))).length,(zbR (⟨(tg 80 dt3 (0+y3.from_.toNat * 2+0)),(tg 80 dt3 (0+y3.from_.toNat * 2+0+1))⟩:far) (⟨1,fun _=>(⟨(w64 ((tg 80 dt3 (0+y3.to.toNat * 2+0))+y3.length)),(w64 ((tg 80 dt3 (0+y3.to.toNat * 2+1))+(1:Int)))⟩:far)⟩:(Sl far))).uses]) hs hk)⟩))
 (fun hs hk=>(za0 hs fun hc hs=>⟨hc,(za0 hs fun hc hs=>⟨hc,(hX3 (!(match ((zbR (⟨(tg 80 dt3 (0+y3.from_.toNat * 2+0)),(tg 80 dt3 (0+y3.from_.toNat * 2+0+1))⟩:far) (⟨1,fun _=>(⟨(w64 ((tg 80 dt3 (0+y3.to.toNat * 2+0))+y3.length)),(w64 ((tg 80 dt3 (0+y3.to.toNat * 2+1))+(1:Int)))⟩:far)⟩:(Sl far))).length == (tg 80 dt3 (0+y3.from_.toNat * 2+0))) with | true=>(match ((zbR (⟨(tg 80 dt3 (0+y3.from_.toNat * 2+0)),(tg 80 dt3 (0+y3.from_.toNat * 2+0+1))⟩:far) (⟨1,fun _=>(⟨(w64 ((tg 80 dt3 (0+y3.to.toNat * 2+0))+y3.length)),(w64 ((tg 80 dt3 (0+y3.to.toNat * 2+1))+(1:Int)))⟩:far)⟩:(Sl far))).uses == (tg 80 dt3 (0+y3.from_.toNat * 2+0+1))) with | true=>true | false=>false) | false=>false)) t4t3 (ts 80 dt3 (0+y3.from_.toNat * 2+0) [(zbR (⟨(tg 80 dt3 (0+y3.from_.toNat * 2+0)),(tg 80 dt3 (0+y3.from_.toNat * 2+0+1))⟩:far) (⟨1,fun _=>(⟨(w64 ((tg 80 dt3 (0+y3.to.toNat * 2+0))+y3.length)),(w64 ((tg 80 dt3 (0+y3.to.toNat * 2+1))+(1:Int)))⟩:far)⟩:(Sl far))).length,(zbR (⟨(tg 80 dt3 (0+y3.from_.toNat * 2+0)),(tg 80 dt3 (0+y3.from_.toNat * 2+0+1))⟩:far) (⟨1,fun _=>(⟨(w64 ((tg 80 dt3 (0+y3.to.toNat * 2+0))+y3.length)),(w64 ((tg 80 dt3 (0+y3.to.toNat * 2+1))+(1:Int)))⟩:far)⟩:(Sl far))).uses]) hs hk)⟩)⟩)) hs hk)⟩)⟩)⟩)⟩)) hs hk)⟩)
  exact key _ zac t4t3 dt3 hs hk
def zj1 (w:web) (S2:Bool→Tab→Tab→Tab) (zah:Bool) (t4t2:Tab) (dt2:Tab):Tab :=
  (cond zah
 (zp9 S2 w false t4t2 dt2)
 dt2)
def zj2 (w:web) (P2:Bool→Tab→Tab→Bool) (zah:Bool) (t4t2:Tab) (dt2:Tab):Bool :=
  (cond zah
 (zmJ P2 w false t4t2 dt2)
 true)
def zdG (w : web) : Nat → Bool → Tab → Tab → Tab
  | 0=>fun _ _ _=>default
  | k+1=>zj1 w (zdG w k)
def zdH (w : web) : Nat → Bool → Tab → Tab → Bool
  | 0=>fun _ _ _=>false
  | k+1=>zj2 w (zdH w k)
def zqa (w:web) (zah:Bool) (t4t2:Tab) (dt2:Tab):Tab:=zdG w Fuel zah t4t2 dt2
def zqb (w:web) (zah:Bool) (t4t2:Tab) (dt2:Tab):Bool:=zdH w Fuel zah t4t2 dt2
theorem zCH (K:List PA→Prop) (w:web) (zah:Bool) (t4t2:Tab) (dt2:Tab) (hs:zqb w zah t4t2 dt2=true) (hk:K (e75 (zqa w zah t4t2 dt2))):zjX K w zah t4t2 dt2:=by
  refine zvK K w zah t4t2 dt2 ?_
  intro X2 hstep
  have key:∀ (k:Nat) (zah:Bool) (t4t2:Tab) (dt2:Tab),zdH w k zah t4t2 dt2=true→K (e75 (zdG w k zah t4t2 dt2))→X2 (zik w zah t4t2 dt2):=by
    intro k
    induction k with
    | zero=>intro zah t4t2 dt2 hs;exact absurd hs Bool.false_ne_true
    | succ k ih =>
      intro zah t4t2 dt2 hs hk
      refine hstep zah t4t2 dt2 ?_
      have hs:zj2 w (zdH w k) zah t4t2 dt2=true:=hs
      have hk:K (e75 (zj1 w (zdG w k) zah t4t2 dt2)):=hk
      unfold zj2 at hs
      unfold zj1 at hk
      generalize zdG w k=S2 at hk ih
      generalize zdH w k=P2 at hs ih
      have hX2:=ih
      exact (zaN (K := fun r => K (e75 r))
 (fun hs hk=>⟨⟨isE,rfl⟩,(zCG K w X2 P2 S2 hX2 false t4t2 dt2 hs hk)⟩)
 (fun hs hk=>hk) hs hk)
  exact key _ zah t4t2 dt2 hs hk
def zj3 (w:web) (node:Int) (t4t1:Tab) (dt1:Tab):Tab :=
  (zqa w true t4t1 (ts 80 dt1 (0+node.toNat * 2+0) [(0:Int),(0:Int)]))
def zj4 (w:web) (node:Int) (t4t1:Tab) (dt1:Tab):Bool :=
  (decide ((0≤node∧node < (40:Int))) &&
 (zqb w true t4t1 (ts 80 dt1 (0+node.toNat * 2+0) [(0:Int),(0:Int)])))
theorem zCI (K:List PA→Prop) (w:web) (node:Int) (t4t1:Tab) (dt1:Tab) (hs:zj4 w node t4t1 dt1=true) (hk:K (e75 (zj3 w node t4t1 dt1))):zmI K w node t4t1 dt1:=by
  refine zbd (zCF K w node t4t1 dt1) ?_
  unfold zj4 at hs
  unfold zj3 at hk
  exact (za0 hs fun hc hs=>⟨hc,(zCH K w true t4t1 (ts 80 dt1 (0+node.toNat * 2+0) [(0:Int),(0:Int)]) hs hk)⟩)
def zgp (w:web) (node:Int) (S0:Int→Tab→Tab→Tab) (zaB:Int) (t4t0:Tab) (dt0:Tab):Tab :=
  (cond (decide (zaB < (40:Int)))
 (S0 (w64 (zaB+(1:Int))) t4t0 (ts 80 dt0 (0+zaB.toNat * 2+0) [(1000000000000:Int),(0:Int)]))
 (zj3 w node t4t0 dt0))
def zgq (w:web) (node:Int) (P0:Int→Tab→Tab→Bool) (zaB:Int) (t4t0:Tab) (dt0:Tab):Bool :=
  (cond (decide (zaB < (40:Int)))
 (decide ((0≤zaB∧zaB < (40:Int))) &&
 (P0 (w64 (zaB+(1:Int))) t4t0 (ts 80 dt0 (0+zaB.toNat * 2+0) [(1000000000000:Int),(0:Int)])))
 (zj4 w node t4t0 dt0))
def zeF (w : web) (node : Int) : Nat → Int → Tab → Tab → Tab
  | 0=>fun _ _ _=>default
  | k+1=>zgp w node (zeF w node k)
def zeG (w : web) (node : Int) : Nat → Int → Tab → Tab → Bool
  | 0=>fun _ _ _=>false
  | k+1=>zgq w node (zeG w node k)
def zvM (w:web) (node:Int) (zaB:Int) (t4t0:Tab) (dt0:Tab):Tab:=zeF w node Fuel zaB t4t0 dt0
def zvN (w:web) (node:Int) (zaB:Int) (t4t0:Tab) (dt0:Tab):Bool:=zeG w node Fuel zaB t4t0 dt0
theorem zCJ (K:List PA→Prop) (w:web) (node:Int) (zaB:Int) (t4t0:Tab) (dt0:Tab) (hs:zvN w node zaB t4t0 dt0=true) (hk:K (e75 (zvM w node zaB t4t0 dt0))):zjW K w node zaB t4t0 dt0:=by
  refine zvJ K w node zaB t4t0 dt0 ?_
  intro X0 hstep
  have key:∀ (k:Nat) (zaB:Int) (t4t0:Tab) (dt0:Tab),zeG w node k zaB t4t0 dt0=true→K (e75 (zeF w node k zaB t4t0 dt0))→X0 (zjV w node zaB t4t0 dt0):=by
    intro k
    induction k with
    | zero=>intro zaB t4t0 dt0 hs;exact absurd hs Bool.false_ne_true
    | succ k ih =>
      intro zaB t4t0 dt0 hs hk
      refine hstep zaB t4t0 dt0 ?_
      have hs:zgq w node (zeG w node k) zaB t4t0 dt0=true:=hs
      have hk:K (e75 (zgp w node (zeF w node k) zaB t4t0 dt0)):=hk
      unfold zgq at hs
      unfold zgp at hk
      generalize zeF w node k=S0 at hk ih
      generalize zeG w node k=P0 at hs ih
      have hX0:=ih
      exact (zaN (K := fun r => K (e75 r))
 (fun hs hk=>(za0 hs fun hc hs=>⟨hc,(hX0 (w64 (zaB+(1:Int))) t4t0 (ts 80 dt0 (0+zaB.toNat * 2+0) [(1000000000000:Int),(0:Int)]) hs hk)⟩))
 (fun hs hk=>(zCI K w node t4t0 dt0 hs hk)) hs hk)
  exact key _ zaB t4t0 dt0 hs hk
def s75 (w:web) (node:Int):Tab :=
  (zvM w node (0:Int) (fun _=>(0:Int)) (fun _=>(0:Int)))
def p75 (w:web) (node:Int):Bool :=
  (zvN w node (0:Int) (fun _=>(0:Int)) (fun _=>(0:Int)))
theorem q75 (w:web) (node:Int) (K:List PA→Prop) (hs:p75 w node=true) (hk:K (e75 (s75 w node))):vcFun Tryd.prog G75 zcd 75 [.one (.fp (zau w) 0),.one (.int .i64 node)] K:=by
  refine zbd (zCE w node K) ?_
  unfold p75 at hs
  unfold s75 at hk
  exact (zCJ K w node (0:Int) (fun _=>(0:Int)) (fun _=>(0:Int)) hs hk)
def zvO : List PA → COut
  | [.one (.fp [.int .i64 a0_Net_Nodes,.sl a0_Net_Ties_n a0_Net_Ties_s a0_Net_Ties_g,.fm a0_out_q a0_out_n a0_out_F] 0),.one (.int .i64 a1)]=>.det (IsE enc_40 4 a0_Net_Ties_s a0_Net_Ties_g∧a0_out_q=(false,1,false,[none])∧p75 (⟨(⟨a0_Net_Nodes,(⟨a0_Net_Ties_n,zaa a0_Net_Ties_g⟩:(Sl Tie))⟩:Net),(⟨a0_out_n,a0_out_F⟩:Mp)⟩:web) a1=true) [.agg [.int .i64 ((s75 (⟨(⟨a0_Net_Nodes,(⟨a0_Net_Ties_n,zaa a0_Net_Ties_g⟩:(Sl Tie))⟩:Net),(⟨a0_out_n,a0_out_F⟩:Mp)⟩:web) a1) 0),.int .i64 ((s75 (⟨(⟨a0_Net_Nodes,(⟨a0_Net_Ties_n,zaa a0_Net_Ties_g⟩:(Sl Tie))⟩:Net),(⟨a0_out_n,a0_out_F⟩:Mp)⟩:web) a1) 1),.int .i64 ((s75 (⟨(⟨a0_Net_Nodes,(⟨a0_Net_Ties_n,zaa a0_Net_Ties_g⟩:(Sl Tie))⟩:Net),(⟨a0_out_n,a0_out_F⟩:Mp)⟩:web) a1) 2),.int .i64 ((s75 (⟨(⟨a0_Net_Nodes,(⟨a0_Net_Ties_n,zaa a0_Net_Ties_g⟩:(Sl Tie))⟩:Net),(⟨a0_out_n,a0_out_F⟩:Mp)⟩:web) a1) 3),.int .i64 ((s75 (⟨(⟨a0_Net_Nodes,(⟨a0_Net_Ties_n,zaa a0_Net_Ties_g⟩:(Sl Tie))⟩:Net),(⟨a0_out_n,a0_out_F⟩:Mp)⟩:web) a1) 4),.int .i64 ((s75 (⟨(⟨a0_Net_Nodes,(⟨a0_Net_Ties_n,zaa a0_Net_Ties_g⟩:(Sl Tie))⟩:Net),(⟨a0_out_n,a0_out_F⟩:Mp)⟩:web) a1) 5),.int .i64 ((s75 (⟨(⟨a0_Net_Nodes,(⟨a0_Net_Ties_n,zaa a0_Net_Ties_g⟩:(Sl Tie))⟩:Net),(⟨a0_out_n,a0_out_F⟩:Mp)⟩:web) a1) 6),.int .i64 ((s75 (⟨(⟨a0_Net_Nodes,(⟨a0_Net_Ties_n,zaa a0_Net_Ties_g⟩:(Sl Tie))⟩:Net),(⟨a0_out_n,a0_out_F⟩:Mp)⟩:web) a1) 7),.int .i64 ((s75 (⟨(⟨a0_Net_Nodes,(⟨a0_Net_Ties_n,zaa a0_Net_Ties_g⟩:(Sl Tie))⟩:Net),(⟨a0_out_n,a0_out_F⟩:Mp)⟩:web) a1) 8),.int .i64 ((s75 (⟨(⟨a0_Net_Nodes,(⟨a0_Net_Ties_n,zaa a0_Net_Ties_g⟩:(Sl Tie))⟩:Net),(⟨a0_out_n,a0_out_F⟩:Mp)⟩:web) a1) 9),.int .i64 ((s75 (⟨(⟨a0_Net_Nodes,(⟨a0_Net_Ties_n,zaa a0_Net_Ties_g⟩:(Sl Tie))⟩:Net),(⟨a0_out_n,a0_out_F⟩:Mp)⟩:web) a1) 10),.int .i64 ((s75 (⟨(⟨a0_Net_Nodes,(⟨a0_Net_Ties_n,zaa a0_Net_Ties_g⟩:(Sl Tie))⟩:Net),(⟨a0_out_n,a0_out_F⟩:Mp)⟩:web) a1) 11),.int .i64 ((s75 (⟨(⟨a0_Net_Nodes,(⟨a0_Net_Ties_n,zaa a0_Net_Ties_g⟩:(Sl Tie))⟩:Net),(⟨a0_out_n,a0_out_F⟩:Mp)⟩:web) a1) 12),.int .i64 ((s75 (⟨(⟨a0_Net_Nodes,(⟨a0_Net_Ties_n,zaa a0_Net_Ties_g⟩:(Sl Tie))⟩:Net),(⟨a0_out_n,a0_out_F⟩:Mp)⟩:web) a1) 13),.int .i64 ((s75 (⟨(⟨a0_Net_Nodes,(⟨a0_Net_Ties_n,zaa a0_Net_Ties_g⟩:(Sl Tie))⟩:Net),(⟨a0_out_n,a0_out_F⟩:Mp)⟩:web) a1) 14),.int .i64 ((s75 (⟨(⟨a0_Net_Nodes,(⟨a0_Net_Ties_n,zaa a0_Net_Ties_g⟩:(Sl Tie))⟩:Net),(⟨a0_out_n,a0_out_F⟩:Mp)⟩:web) a1) 15),.int .i64 ((s75 (⟨(⟨a0_Net_Nodes,(⟨a0_Net_Ties_n,zaa a0_Net_Ties_g⟩:(Sl Tie))⟩:Net),(⟨a0_out_n,a0_out_F⟩:Mp)⟩:web) a1) 16),.int .i64 ((s75 (⟨(⟨a0_Net_Nodes,(⟨a0_Net_Ties_n,zaa a0_Net_Ties_g⟩:(Sl Tie))⟩:Net),(⟨a0_out_n,a0_out_F⟩:Mp)⟩:web) a1) 17),.int .i64 ((s75 (⟨(⟨a0_Net_Nodes,(⟨a0_Net_Ties_n,zaa a0_Net_Ties_g⟩:(Sl Tie))⟩:Net),(⟨a0_out_n,a0_out_F⟩:Mp)⟩:web) a1) 18),.int .i64 ((s75 (⟨(⟨a0_Net_Nodes,(⟨a0_Net_Ties_n,zaa a0_Net_Ties_g⟩:(Sl Tie))⟩:Net),(⟨a0_out_n,a0_out_F⟩:Mp)⟩:web) a1) 19),.int .i64 ((s75 (⟨(⟨a0_Net_Nodes,(⟨a0_Net_Ties_n,zaa a0_Net_Ties_g⟩:(Sl Tie))⟩:Net),(⟨a0_out_n,a0_out_F⟩:Mp)⟩:web) a1) 20),.int .i64 ((s75 (⟨(⟨a0_Net_Nodes,(⟨a0_Net_Ties_n,zaa a0_Net_Ties_g⟩:(Sl Tie))⟩:Net),(⟨a0_out_n,a0_out_F⟩:Mp)⟩:web) a1) 21),.int .i64 ((s75 (⟨(⟨a0_Net_Nodes,(⟨a0_Net_Ties_n,zaa a0_Net_Ties_g⟩:(Sl Tie))⟩:Net),(⟨a0_out_n,a0_out_F⟩:Mp)⟩:web) a1) 22),.int .i64 ((s75 (⟨(⟨a0_Net_Nodes,(⟨a0_Net_Ties_n,zaa a0_Net_Ties_g⟩:(Sl Tie))⟩:Net),(⟨a0_out_n,a0_out_F⟩:Mp)⟩:web) a1) 23),.int .i64 ((s75 (⟨(⟨a0_Net_Nodes,(⟨a0_Net_Ties_n,zaa a0_Net_Ties_g⟩:(Sl Tie))⟩:Net),(⟨a0_out_n,a0_out_F⟩:Mp)⟩:web) a1) 24),.int .i64 ((s75 (⟨(⟨a0_Net_Nodes,(⟨a0_Net_Ties_n,zaa a0_Net_Ties_g⟩:(Sl Tie))⟩:Net),(⟨a0_out_n,a0_out_F⟩:Mp)⟩:web) a1) 25),.int .i64 ((s75 (⟨(⟨a0_Net_Nodes,(⟨a0_Net_Ties_n,zaa a0_Net_Ties_g⟩:(Sl Tie))⟩:Net),(⟨a0_out_n,a0_out_F⟩:Mp)⟩:web) a1) 26),.int .i64 ((s75 (⟨(⟨a0_Net_Nodes,(⟨a0_Net_Ties_n,zaa a0_Net_Ties_g⟩:(Sl Tie))⟩:Net),(⟨a0_out_n,a0_out_F⟩:Mp)⟩:web) a1) 27),.int .i64 ((s75 (⟨(⟨a0_Net_Nodes,(⟨a0_Net_Ties_n,zaa a0_Net_Ties_g⟩:(Sl Tie))⟩:Net),(⟨a0_out_n,a0_out_F⟩:Mp)⟩:web) a1) 28),.int .i64 ((s75 (⟨(⟨a0_Net_Nodes,(⟨a0_Net_Ties_n,zaa a0_Net_Ties_g⟩:(Sl Tie))⟩:Net),(⟨a0_out_n,a0_out_F⟩:Mp)⟩:web) a1) 29),.int .i64 ((s75 (⟨(⟨a0_Net_Nodes,(⟨a0_Net_Ties_n,zaa a0_Net_Ties_g⟩:(Sl Tie))⟩:Net),(⟨a0_out_n,a0_out_F⟩:Mp)⟩:web) a1) 30),.int .i64 ((s75 (⟨(⟨a0_Net_Nodes,(⟨a0_Net_Ties_n,zaa a0_Net_Ties_g⟩:(Sl Tie))⟩:Net),(⟨a0_out_n,a0_out_F⟩:Mp)⟩:web) a1) 31),.int .i64 ((s75 (⟨(⟨a0_Net_Nodes,(⟨a0_Net_Ties_n,zaa a0_Net_Ties_g⟩:(Sl Tie))⟩:Net),(⟨a0_out_n,a0_out_F⟩:Mp)⟩:web) a1) 32),.int .i64 ((s75 (⟨(⟨a0_Net_Nodes,(⟨a0_Net_Ties_n,zaa a0_Net_Ties_g⟩:(Sl Tie))⟩:Net),(⟨a0_out_n,a0_out_F⟩:Mp)⟩:web) a1) 33),.int .i64 ((s75 (⟨(⟨a0_Net_Nodes,(⟨a0_Net_Ties_n,zaa a0_Net_Ties_g⟩:(Sl Tie))⟩:Net),(⟨a0_out_n,a0_out_F⟩:Mp)⟩:web) a1) 34),.int .i64 ((s75 (⟨(⟨a0_Net_Nodes,(⟨a0_Net_Ties_n,zaa a0_Net_Ties_g⟩:(Sl Tie))⟩:Net),(⟨a0_out_n,a0_out_F⟩:Mp)⟩:web) a1) 35),.int .i64 ((s75 (⟨(⟨a0_Net_Nodes,(⟨a0_Net_Ties_n,zaa a0_Net_Ties_g⟩:(Sl Tie))⟩:Net),(⟨a0_out_n,a0_out_F⟩:Mp)⟩:web) a1) 36),.int .i64 ((s75 (⟨(⟨a0_Net_Nodes,(⟨a0_Net_Ties_n,zaa a0_Net_Ties_g⟩:(Sl Tie))⟩:Net),(⟨a0_out_n,a0_out_F⟩:Mp)⟩:web) a1) 37),.int .i64 ((s75 (⟨(⟨a0_Net_Nodes,(⟨a0_Net_Ties_n,zaa a0_Net_Ties_g⟩:(Sl Tie))⟩:Net),(⟨a0_out_n,a0_out_F⟩:Mp)⟩:web) a1) 38),.int .i64 ((s75 (⟨(⟨a0_Net_Nodes,(⟨a0_Net_Ties_n,zaa a0_Net_Ties_g⟩:(Sl Tie))⟩:Net),(⟨a0_out_n,a0_out_F⟩:Mp)⟩:web) a1) 39),.int .i64 ((s75 (⟨(⟨a0_Net_Nodes,(⟨a0_Net_Ties_n,zaa a0_Net_Ties_g⟩:(Sl Tie))⟩:Net),(⟨a0_out_n,a0_out_F⟩:Mp)⟩:web) a1) 40),.int .i64 ((s75 (⟨(⟨a0_Net_Nodes,(⟨a0_Net_Ties_n,zaa a0_Net_Ties_g⟩:(Sl Tie))⟩:Net),(⟨a0_out_n,a0_out_F⟩:Mp)⟩:web) a1) 41),.int .i64 ((s75 (⟨(⟨a0_Net_Nodes,(⟨a0_Net_Ties_n,zaa a0_Net_Ties_g⟩:(Sl Tie))⟩:Net),(⟨a0_out_n,a0_out_F⟩:Mp)⟩:web) a1) 42),.int .i64 ((s75 (⟨(⟨a0_Net_Nodes,(⟨a0_Net_Ties_n,zaa a0_Net_Ties_g⟩:(Sl Tie))⟩:Net),(⟨a0_out_n,a0_out_F⟩:Mp)⟩:web) a1) 43),.int .i64 ((s75 (⟨(⟨a0_Net_Nodes,(⟨a0_Net_Ties_n,zaa a0_Net_Ties_g⟩:(Sl Tie))⟩:Net),(⟨a0_out_n,a0_out_F⟩:Mp)⟩:web) a1) 44),.int .i64 ((s75 (⟨(⟨a0_Net_Nodes,(⟨a0_Net_Ties_n,zaa a0_Net_Ties_g⟩:(Sl Tie))⟩:Net),(⟨a0_out_n,a0_out_F⟩:Mp)⟩:web) a1) 45),.int .i64 ((s75 (⟨(⟨a0_Net_Nodes,(⟨a0_Net_Ties_n,zaa a0_Net_Ties_g⟩:(Sl Tie))⟩:Net),(⟨a0_out_n,a0_out_F⟩:Mp)⟩:web) a1) 46),.int .i64 ((s75 (⟨(⟨a0_Net_Nodes,(⟨a0_Net_Ties_n,zaa a0_Net_Ties_g⟩:(Sl Tie))⟩:Net),(⟨a0_out_n,a0_out_F⟩:Mp)⟩:web) a1) 47),.int .i64 ((s75 (⟨(⟨a0_Net_Nodes,(⟨a0_Net_Ties_n,zaa a0_Net_Ties_g⟩:(Sl Tie))⟩:Net),(⟨a0_out_n,a0_out_F⟩:Mp)⟩:web) a1) 48),.int .i64 ((s75 (⟨(⟨a0_Net_Nodes,(⟨a0_Net_Ties_n,zaa a0_Net_Ties_g⟩:(Sl Tie))⟩:Net),(⟨a0_out_n,a0_out_F⟩:Mp)⟩:web) a1) 49),.int .i64 ((s75 (⟨(⟨a0_Net_Nodes,(⟨a0_Net_Ties_n,zaa a0_Net_Ties_g⟩:(Sl Tie))⟩:Net),(⟨a0_out_n,a0_out_F⟩:Mp)⟩:web) a1) 50),.int .i64 ((s75 (⟨(⟨a0_Net_Nodes,(⟨a0_Net_Ties_n,zaa a0_Net_Ties_g⟩:(Sl Tie))⟩:Net),(⟨a0_out_n,a0_out_F⟩:Mp)⟩:web) a1) 51),.int .i64 ((s75 (⟨(⟨a0_Net_Nodes,(⟨a0_Net_Ties_n,zaa a0_Net_Ties_g⟩:(Sl Tie))⟩:Net),(⟨a0_out_n,a0_out_F⟩:Mp)⟩:web) a1) 52),.int .i64 ((s75 (⟨(⟨a0_Net_Nodes,(⟨a0_Net_Ties_n,zaa a0_Net_Ties_g⟩:(Sl Tie))⟩:Net),(⟨a0_out_n,a0_out_F⟩:Mp)⟩:web) a1) 53),.int .i64 ((s75 (⟨(⟨a0_Net_Nodes,(⟨a0_Net_Ties_n,zaa a0_Net_Ties_g⟩:(Sl Tie))⟩:Net),(⟨a0_out_n,a0_out_F⟩:Mp)⟩:web) a1) 54),.int .i64 ((s75 (⟨(⟨a0_Net_Nodes,(⟨a0_Net_Ties_n,zaa a0_Net_Ties_g⟩:(Sl Tie))⟩:Net),(⟨a0_out_n,a0_out_F⟩:Mp)⟩:web) a1) 55),.int .i64 ((s75 (⟨(⟨a0_Net_Nodes,(⟨a0_Net_Ties_n,zaa a0_Net_Ties_g⟩:(Sl Tie))⟩:Net),(⟨a0_out_n,a0_out_F⟩:Mp)⟩:web) a1) 56),.int .i64 ((s75 (⟨(⟨a0_Net_Nodes,(⟨a0_Net_Ties_n,zaa a0_Net_Ties_g⟩:(Sl Tie))⟩:Net),(⟨a0_out_n,a0_out_F⟩:Mp)⟩:web) a1) 57),.int .i64 ((s75 (⟨(⟨a0_Net_Nodes,(⟨a0_Net_Ties_n,zaa a0_Net_Ties_g⟩:(Sl Tie))⟩:Net),(⟨a0_out_n,a0_out_F⟩:Mp)⟩:web) a1) 58),.int .i64 ((s75 (⟨(⟨a0_Net_Nodes,(⟨a0_Net_Ties_n,zaa a0_Net_Ties_g⟩:(Sl Tie))⟩:Net),(⟨a0_out_n,a0_out_F⟩:Mp)⟩:web) a1) 59),.int .i64 ((s75 (⟨(⟨a0_Net_Nodes,(⟨a0_Net_Ties_n,zaa a0_Net_Ties_g⟩:(Sl Tie))⟩:Net),(⟨a0_out_n,a0_out_F⟩:Mp)⟩:web) a1) 60),.int .i64 ((s75 (⟨(⟨a0_Net_Nodes,(⟨a0_Net_Ties_n,zaa a0_Net_Ties_g⟩:(Sl Tie))⟩:Net),(⟨a0_out_n,a0_out_F⟩:Mp)⟩:web) a1) 61),.int .i64 ((s75 (⟨(⟨a0_Net_Nodes,(⟨a0_Net_Ties_n,zaa a0_Net_Ties_g⟩:(Sl Tie))⟩:Net),(⟨a0_out_n,a0_out_F⟩:Mp)⟩:web) a1) 62),.int .i64 ((s75 (⟨(⟨a0_Net_Nodes,(⟨a0_Net_Ties_n,zaa a0_Net_Ties_g⟩:(Sl Tie))⟩:Net),(⟨a0_out_n,a0_out_F⟩:Mp)⟩:web) a1) 63),.int .i64 ((s75 (⟨(⟨a0_Net_Nodes,(⟨a0_Net_Ties_n,zaa a0_Net_Ties_g⟩:(Sl Tie))⟩:Net),(⟨a0_out_n,a0_out_F⟩:Mp)⟩:web) a1) 64),.int .i64 ((s75 (⟨(⟨a0_Net_Nodes,(⟨a0_Net_Ties_n,zaa a0_Net_Ties_g⟩:(Sl Tie))⟩:Net),(⟨a0_out_n,a0_out_F⟩:Mp)⟩:web) a1) 65),.int .i64 ((s75 (⟨(⟨a0_Net_Nodes,(⟨a0_Net_Ties_n,zaa a0_Net_Ties_g⟩:(Sl Tie))⟩:Net),(⟨a0_out_n,a0_out_F⟩:Mp)⟩:web) a1) 66),.int .i64 ((s75 (⟨(⟨a0_Net_Nodes,(⟨a0_Net_Ties_n,zaa a0_Net_Ties_g⟩:(Sl Tie))⟩:Net),(⟨a0_out_n,a0_out_F⟩:Mp)⟩:web) a1) 67),.int .i64 ((s75 (⟨(⟨a0_Net_Nodes,(⟨a0_Net_Ties_n,zaa a0_Net_Ties_g⟩:(Sl Tie))⟩:Net),(⟨a0_out_n,a0_out_F⟩:Mp)⟩:web) a1) 68),.int .i64 ((s75 (⟨(⟨a0_Net_Nodes,(⟨a0_Net_Ties_n,zaa a0_Net_Ties_g⟩:(Sl Tie))⟩:Net),(⟨a0_out_n,a0_out_F⟩:Mp)⟩:web) a1) 69),.int .i64 ((s75 (⟨(⟨a0_Net_Nodes,(⟨a0_Net_Ties_n,zaa a0_Net_Ties_g⟩:(Sl Tie))⟩:Net),(⟨a0_out_n,a0_out_F⟩:Mp)⟩:web) a1) 70),.int .i64 ((s75 (⟨(⟨a0_Net_Nodes,(⟨a0_Net_Ties_n,zaa a0_Net_Ties_g⟩:(Sl Tie))⟩:Net),(⟨a0_out_n,a0_out_F⟩:Mp)⟩:web) a1) 71),.int .i64 ((s75 (⟨(⟨a0_Net_Nodes,(⟨a0_Net_Ties_n,zaa a0_Net_Ties_g⟩:(Sl Tie))⟩:Net),(⟨a0_out_n,a0_out_F⟩:Mp)⟩:web) a1) 72),.int .i64 ((s75 (⟨(⟨a0_Net_Nodes,(⟨a0_Net_Ties_n,zaa a0_Net_Ties_g⟩:(Sl Tie))⟩:Net),(⟨a0_out_n,a0_out_F⟩:Mp)⟩:web) a1) 73),.int .i64 ((s75 (⟨(⟨a0_Net_Nodes,(⟨a0_Net_Ties_n,zaa a0_Net_Ties_g⟩:(Sl Tie))⟩:Net),(⟨a0_out_n,a0_out_F⟩:Mp)⟩:web) a1) 74),.int .i64 ((s75 (⟨(⟨a0_Net_Nodes,(⟨a0_Net_Ties_n,zaa a0_Net_Ties_g⟩:(Sl Tie))⟩:Net),(⟨a0_out_n,a0_out_F⟩:Mp)⟩:web) a1) 75),.int .i64 ((s75 (⟨(⟨a0_Net_Nodes,(⟨a0_Net_Ties_n,zaa a0_Net_Ties_g⟩:(Sl Tie))⟩:Net),(⟨a0_out_n,a0_out_F⟩:Mp)⟩:web) a1) 76),.int .i64 ((s75 (⟨(⟨a0_Net_Nodes,(⟨a0_Net_Ties_n,zaa a0_Net_Ties_g⟩:(Sl Tie))⟩:Net),(⟨a0_out_n,a0_out_F⟩:Mp)⟩:web) a1) 77),.int .i64 ((s75 (⟨(⟨a0_Net_Nodes,(⟨a0_Net_Ties_n,zaa a0_Net_Ties_g⟩:(Sl Tie))⟩:Net),(⟨a0_out_n,a0_out_F⟩:Mp)⟩:web) a1) 78),.int .i64 ((s75 (⟨(⟨a0_Net_Nodes,(⟨a0_Net_Ties_n,zaa a0_Net_Ties_g⟩:(Sl Tie))⟩:Net),(⟨a0_out_n,a0_out_F⟩:Mp)⟩:web) a1) 79)]]
  | _=>.no
theorem zF1:zaq Tryd.prog 75:=⟨_,rfl,rfl,by kernel_rfl⟩
theorem zIf:Ok Tryd.prog 75 zvO:=zbG zIe zF1 fun args K h=>by
  unfold zvO at h
  split at h
  · rename_i a0_Net_Nodes a0_Net_Ties_n a0_Net_Ties_s a0_Net_Ties_g a0_out_q a0_out_n a0_out_F a1
    obtain ⟨⟨⟨rfl,a0_Net_Ties_f,rfl⟩,rfl,hs⟩,hk⟩:=h
    try rw [zan a0_Net_Ties_f] at hs
    try rw [zan a0_Net_Ties_f] at hk
    exact ⟨(fun _ _=>[]),(fun _=>false),zcd,q75 (⟨(⟨a0_Net_Nodes,(⟨a0_Net_Ties_n,a0_Net_Ties_f⟩:(Sl Tie))⟩:Net),(⟨a0_out_n,a0_out_F⟩:Mp)⟩:web) a1 K hs hk⟩
  · exact h.elim
abbrev T76:Tabs:=(((Tabs.nil.addF 93 zn9).addF 104 zof).addI 110 zob)
theorem zIg:TabsOk Tryd.prog T76:=(((TabsOk.nil.addF zEV).addF zCD).addI ztw)
abbrev G76:Ctrs:=csm T76 (fun _ _=>[]) (fun _=>false)
def zce:Ann:=⟨66,[(0,⟨[0,1,4],[4],[],[],[],[],[]⟩),(1,⟨[0,1,4,5],[4,5],[],[],[],[],[]⟩),(2,⟨[0,1,4,5,10],[4,5],[],[],[],[],[]⟩),(3,⟨[0,1,4,5,10,11],[4,5],[],[],[],[],[]⟩),(4,⟨[0,1,4,5,6,10],[4,5],[],[],[],[],[]⟩),(5,⟨[0,1,4,5,10],[4,5],[],[],[],[],[]⟩),(6,⟨[0,1,4,5,10],[4,5],[],[],[],[],[]⟩),(7,⟨[0,4,5],[4,5],[],[],[],[],[]⟩),(8,⟨[0,4,5,7],[4,5,7],[],[],[],[],[]⟩),(9,⟨[0,4,5,7,20],[4,5,7],[],[],[],[],[]⟩),(10,⟨[0,4,5,7],[4,5,7],[],[],[],[],[]⟩),(11,⟨[0,4,5,7,22],[4,5,7],[],[],[],[],[]⟩),(12,⟨[0,4,5,7,8,22],[4,5,7,8],[],[],[],[],[]⟩),(13,⟨[0,4,5,7,8,22,29],[4,5,7,8],[],[],[],[],[]⟩),(14,⟨[0,4,5,7,8,9,22],[4,5,7,8,9],[],[],[],[],[]⟩),(15,⟨[0,4,5,7,8,9,22],[4,5,7,8,9],[],[],[],[],[]⟩),(16,⟨[0,4,5,7,22],[4,5,7],[],[],[],[],[]⟩),(17,⟨[0,4,5,64],[4,5],[],[],[],[],[]⟩),(18,⟨[0,4,5,7],[4,5,7],[],[],[],[],[]⟩),(19,⟨[4],[4],[],[],[],[],[]⟩)],
 [(3,⟨[0,1,4,5,10],[4,5],[],[],[],[],[]⟩),(9,⟨[0,4,5,7],[4,5,7],[],[],[],[],[]⟩),(12,⟨[0,4,5,7,22],[4,5,7],[],[],[],[],[]⟩)],
 [(7,⟨[0,1,4,5],[4,5],[],[],[],[],[]⟩)],
 [],[]⟩
def zj5 (w:web) (node:Int) (zaB:Int) (t4t0:Tab) (dt0:Tab):St:=⟨[(0,.one (.c (.p (.fp (zau w) 0)))),(1,.one (.c (.p (.int .i64 node)))),(4,.one (.c (.ptr 4 0))),(5,.one (.c (.ptr 5 0))),(10,.one (.c (.p (.int .i64 zaB))))],[(4,.box 116 (zm (zad t4t0))),(5,.box 116 (zm (zad dt0)))],[]⟩
def zj6 (K:List PA→Prop) (w:web) (node:Int) (zaB:Int) (t4t0:Tab) (dt0:Tab):Prop:=vc Tryd.prog G76 zce (cdF Tryd.f76 [1,1,0,1,0]) (zaj 0 (sqK Tryd.prog G76 zce (cdF Tryd.f76 [1,1,1]) (za9 Tryd.prog Tryd.f76 K))) (zj5 w node zaB t4t0 dt0)
def zF2 (w:web) (node:Int) (t4t1:Tab) (dt1:Tab):St:=⟨[(0,.one (.c (.p (.fp (zau w) 0)))),(1,.one (.c (.p (.int .i64 node)))),(4,.one (.c (.ptr 4 0))),(5,.one (.c (.ptr 5 0)))],[(4,.box 116 (zm (zad t4t1))),(5,.box 116 (zm (zad dt1)))],[]⟩
def zmK (K:List PA→Prop) (w:web) (node:Int) (t4t1:Tab) (dt1:Tab):Prop:=vc Tryd.prog G76 zce (cdF Tryd.f76 [1,1,1]) (za9 Tryd.prog Tryd.f76 K) (zF2 w node t4t1 dt1)
def zil (w:web) (zah:Bool) (t4t2:Tab) (dt2:Tab):St:=⟨[(0,.one (.c (.p (.fp (zau w) 0)))),(4,.one (.c (.ptr 4 0))),(5,.one (.c (.ptr 5 0))),(7,.one (.c (.ptr 7 0)))],[(4,.box 116 (zm (zad t4t2))),(5,.box 116 (zm (zad dt2))),(7,.box 4 [.p (.bool zah)])],[]⟩
def zj7 (K:List PA→Prop) (w:web) (zah:Bool) (t4t2:Tab) (dt2:Tab):Prop:=vc Tryd.prog G76 zce (cdF Tryd.f76 [1,1,1,1,0,1,0]) (zaj 2 (sqK Tryd.prog G76 zce (cdF Tryd.f76 [1,1,1,1,1]) (za9 Tryd.prog Tryd.f76 K))) (zil w zah t4t2 dt2)
def zfb (w:web) (zac:Bool) (t4t3:Tab) (dt3:Tab):St:=⟨[(0,.one (.c (.p (.fp (zau w) 0)))),(4,.one (.c (.ptr 4 0))),(5,.one (.c (.ptr 5 0))),(7,.one (.c (.ptr 7 0))),(22,.one (.c (.p (.fn 110 [] [.fp [.fp (zau w) 0] 0]))))],[(4,.box 116 (zm (zad t4t3))),(5,.box 116 (zm (zad dt3))),(7,.box 4 [.p (.bool zac)])],[]⟩
def zj8 (K:List PA→Prop) (X2:St→Prop) (w:web) (zac:Bool) (t4t3:Tab) (dt3:Tab):Prop:=vc Tryd.prog G76 zce (cdF Tryd.f76 [1,1,1,1,0,1,0,0,1,0,0,1,1,0]) (zaj 4 (zaj 3 (sqK Tryd.prog G76 zce (cdF Tryd.f76 [1,1,1,1,0,1,0,0,1,1]) (zba Tryd.prog zce 9 X2 (zaj 2 (sqK Tryd.prog G76 zce (cdF Tryd.f76 [1,1,1,1,1]) (za9 Tryd.prog Tryd.f76 K))))))) (zfb w zac t4t3 dt3)
theorem zCK (w : web) (node : Int) (K : List PA → Prop) :
  vcFun Tryd.prog G76 zce 76 [.one (.fp (zau w) 0),.one (.int .i64 node)] K =
  (zj6 K w node (0:Int) (fun _=>(0:Int)) (fun _=>(0:Int))):=by kernel_rfl
def zok (K:List PA→Prop) (X0:St→Prop) (w:web) (node:Int) (zaB:Int) (t4t0:Tab) (dt0:Tab):Prop :=
  (zby (decide (zaB < (40:Int)))
 (((0≤zaB∧zaB < (40:Int))) ∧
 (X0 (zj5 w node (w64 (zaB+(1:Int))) t4t0 (ts 80 dt0 (0+zaB.toNat * 2+0) [(1000000000000:Int),(0:Int)]))))
 (zmK K w node t4t0 dt0))
theorem zqc (K : List PA → Prop) (X0 : St → Prop) (w : web) (node : Int) (zaB : Int) (t4t0 : Tab) (dt0 : Tab) :
  vc Tryd.prog G76 zce (cd (cdF Tryd.f76 [1,1,0,1,0]) [0]) (zba Tryd.prog zce 3 X0 (zaj 0 (sqK Tryd.prog G76 zce (cdF Tryd.f76 [1,1,1]) (za9 Tryd.prog Tryd.f76 K)))) (zj5 w node zaB t4t0 dt0) =
  zok K X0 w node zaB t4t0 dt0:=by kernel_rfl
theorem zvP (K : List PA → Prop) (w : web) (node : Int) (zaB : Int) (t4t0 : Tab) (dt0 : Tab)
  (h:∀ X0:St→Prop,(∀ (zaB:Int) (t4t0:Tab) (dt0:Tab),zok K X0 w node zaB t4t0 dt0→X0 (zj5 w node zaB t4t0 dt0))→X0 (zj5 w node zaB t4t0 dt0)) :
  zj6 K w node zaB t4t0 dt0:=by
  have e:zj6 K w node zaB t4t0 dt0=(∀ X:St→Prop,(∀ s,vc Tryd.prog G76 zce (cd (cdF Tryd.f76 [1,1,0,1,0]) [0]) (zba Tryd.prog zce 3 X (zaj 0 (sqK Tryd.prog G76 zce (cdF Tryd.f76 [1,1,1]) (za9 Tryd.prog Tryd.f76 K)))) s→X s)→X (zj5 w node zaB t4t0 dt0)):=by kernel_rfl
  refine zbd e ?_
  intro X hX
  refine h X ?_
  intro zaB t4t0 dt0 hs
  refine hX _ ?_
  have e2:=zqc K X w node zaB t4t0 dt0
  rw [e2]
  exact hs
theorem zCL (K : List PA → Prop) (w : web) (node : Int) (t4t1 : Tab) (dt1 : Tab) :
  zmK K w node t4t1 dt1 =
  (((0≤node∧node < (40:Int))) ∧
 (zj7 K w true t4t1 (ts 80 dt1 (0+node.toNat * 2+0) [(0:Int),(0:Int)]))):=by kernel_rfl
def zol (K:List PA→Prop) (X2:St→Prop) (w:web) (zah:Bool) (t4t2:Tab) (dt2:Tab):Prop :=
  (zby zah
 ((IsE enc_40 4 4 (fun i=>enc_40 (w.Net.Ties.get i))∧((false,1,false,[none]):MQ)=(false,1,false,[none])) ∧
 (zj8 K X2 w false t4t2 dt2))
 (K [.agg [.int .i64 (dt2 0),.int .i64 (dt2 1),.int .i64 (dt2 2),.int .i64 (dt2 3),.int .i64 (dt2 4),.int .i64 (dt2 5),.int .i64 (dt2 6),.int .i64 (dt2 7),.int .i64 (dt2 8),.int .i64 (dt2 9),.int .i64 (dt2 10),.int .i64 (dt2 11),.int .i64 (dt2 12),.int .i64 (dt2 13),.int .i64 (dt2 14),.int .i64 (dt2 15),.int .i64 (dt2 16),.int .i64 (dt2 17),.int .i64 (dt2 18),.int .i64 (dt2 19),.int .i64 (dt2 20),.int .i64 (dt2 21),.int .i64 (dt2 22),.int .i64 (dt2 23),.int .i64 (dt2 24),.int .i64 (dt2 25),.int .i64 (dt2 26),.int .i64 (dt2 27),.int .i64 (dt2 28),.int .i64 (dt2 29),.int .i64 (dt2 30),.int .i64 (dt2 31),.int .i64 (dt2 32),.int .i64 (dt2 33),.int .i64 (dt2 34),.int .i64 (dt2 35),.int .i64 (dt2 36),.int .i64 (dt2 37),.int .i64 (dt2 38),.int .i64 (dt2 39),.int .i64 (dt2 40),.int .i64 (dt2 41),.int .i64 (dt2 42),.int .i64 (dt2 43),.int .i64 (dt2 44),.int .i64 (dt2 45),.int .i64 (dt2 46),.int .i64 (dt2 47),.int .i64 (dt2 48),.int .i64 (dt2 49),.int .i64 (dt2 50),.int .i64 (dt2 51),.int .i64 (dt2 52),.int .i64 (dt2 53),.int .i64 (dt2 54),.int .i64 (dt2 55),.int .i64 (dt2 56),.int .i64 (dt2 57),.int .i64 (dt2 58),.int .i64 (dt2 59),.int .i64 (dt2 60),.int .i64 (dt2 61),.int .i64 (dt2 62),.int .i64 (dt2 63),.int .i64 (dt2 64),.int .i64 (dt2 65),.int .i64 (dt2 66),.int .i64 (dt2 67),.int .i64 (dt2 68),.int .i64 (dt2 69),.int .i64 (dt2 70),.int .i64 (dt2 71),.int .i64 (dt2 72),.int .i64 (dt2 73),.int .i64 (dt2 74),.int .i64 (dt2 75),.int .i64 (dt2 76),.int .i64 (dt2 77),.int .i64 (dt2 78),.int .i64 (dt2 79)]]))
theorem zqd (K : List PA → Prop) (X2 : St → Prop) (w : web) (zah : Bool) (t4t2 : Tab) (dt2 : Tab) :
  vc Tryd.prog G76 zce (cd (cdF Tryd.f76 [1,1,1,1,0,1,0]) [0]) (zba Tryd.prog zce 9 X2 (zaj 2 (sqK Tryd.prog G76 zce (cdF Tryd.f76 [1,1,1,1,1]) (za9 Tryd.prog Tryd.f76 K)))) (zil w zah t4t2 dt2) =
  zol K X2 w zah t4t2 dt2:=by kernel_rfl
theorem zvQ (K : List PA → Prop) (w : web) (zah : Bool) (t4t2 : Tab) (dt2 : Tab)
  (h:∀ X2:St→Prop,(∀ (zah:Bool) (t4t2:Tab) (dt2:Tab),zol K X2 w zah t4t2 dt2→X2 (zil w zah t4t2 dt2))→X2 (zil w zah t4t2 dt2)) :
  zj7 K w zah t4t2 dt2:=by
  have e:zj7 K w zah t4t2 dt2=(∀ X:St→Prop,(∀ s,vc Tryd.prog G76 zce (cd (cdF Tryd.f76 [1,1,1,1,0,1,0]) [0]) (zba Tryd.prog zce 9 X (zaj 2 (sqK Tryd.prog G76 zce (cdF Tryd.f76 [1,1,1,1,1]) (za9 Tryd.prog Tryd.f76 K)))) s→X s)→X (zil w zah t4t2 dt2)):=by kernel_rfl
  refine zbd e ?_
  intro X hX
  refine h X ?_
  intro zah t4t2 dt2 hs
  refine hX _ ?_
  have e2:=zqd K X w zah t4t2 dt2
  rw [e2]
  exact hs
def zom (K:List PA→Prop) (X2:St→Prop) (w:web) (zac:Bool) (t4t3:Tab) (dt3:Tab):Prop :=
  (X2 (zil w zac t4t3 dt3))
def zon (K:List PA→Prop) (X2:St→Prop) (X3:List (List PA)→St→Prop) (y3:step) (rest3:List (List PA)) (w:web) (zac:Bool) (t4t3:Tab) (dt3:Tab):Prop :=
  (((0≤y3.from_∧y3.from_ < (40:Int))) ∧
 (zby (match ((tg 80 dt3 (0 + y3.from_.toNat * 2 + 0)) == (1000000000000:Int)) with | true => (match ((tg 80 dt3 (0 + y3.from_.toNat * 2 + 0 + 1)) == (0:Int)) with | true => true | false => false) | false => false)
 (X3 rest3 (zfb w zac t4t3 dt3))
 (((0≤y3.to∧y3.to < (40:Int))) ∧
 (((0≤y3.from_∧y3.from_ < (40:Int))) ∧
 (((0≤y3.from_∧y3.from_ < (40:Int))) ∧
 ((IsE zca 2 2 (fun _=>(zca (⟨(w64 ((tg 80 dt3 (0+y3.from_.toNat * 2+0))+y3.length)),(w64 ((tg 80 dt3 (0+y3.from_.toNat * 2+1))+(1:Int)))⟩:far)))∧(ztL (⟨(tg 80 dt3 (0+y3.to.toNat * 2+0)),(tg 80 dt3 (0+y3.to.toNat * 2+0+1))⟩:far) (⟨1,fun _=>(⟨(w64 ((tg 80 dt3 (0+y3.from_.toNat * 2+0))+y3.length)),(w64 ((tg 80 dt3 (0+y3.from_.toNat * 2+1))+(1:Int)))⟩:far)⟩:(Sl far))=true)) ∧
 (zby zac
 (((0≤y3.to∧y3.to < (40:Int))) ∧
 (X3 rest3 (zfb w true t4t3 (ts 80 dt3 (0+y3.to.toNat * 2+0) [(zbR (⟨(tg 80 dt3 (0+y3.to.toNat * 2+0)),(tg 80 dt3 (0+y3.to.toNat * 2+0+1))⟩:far) (⟨1,fun _=>(⟨(w64 ((tg 80 dt3 (0+y3.from_.toNat * 2+0))+y3.length)),(w64 ((tg 80 dt3 (0+y3.from_.toNat * 2+1))+(1:Int)))⟩:far)⟩:(Sl far))).length,(zbR (⟨(tg 80 dt3 (0+y3.to.toNat * 2+0)),(tg 80 dt3 (0+y3.to.toNat * 2+0+1))⟩:far) (⟨1,fun _=>(⟨(w64 ((tg 80 dt3 (0+y3.from_.toNat * 2+0))+y3.length)),(w64 ((tg 80 dt3 (0+y3.from_.toNat * 2+1))+(1:Int)))⟩:far)⟩:(Sl far))).uses]))))
 (((0≤y3.to∧y3.to < (40:Int))) ∧
 (((0≤y3.to∧y3.to < (40:Int))) ∧
 (X3 rest3 (zfb w (!(match ((zbR (⟨(tg 80 dt3 (0+y3.to.toNat * 2+0)),(tg 80 dt3 (0+y3.to.toNat * 2+0+1))⟩:far) (⟨1,fun _=>(⟨(w64 ((tg 80 dt3 (0+y3.from_.toNat * 2+0))+y3.length)),(w64 ((tg 80 dt3 (0+y3.from_.toNat * 2+1))+(1:Int)))⟩:far)⟩:(Sl far))).length == (tg 80 dt3 (0+y3.to.toNat * 2+0))) with | true=>(match ((zbR (⟨(tg 80 dt3 (0+y3.to.toNat * 2+0)),(tg 80 dt3 (0+y3.to.toNat * 2+0+1))⟩:far) (⟨1,fun _=>(⟨(w64 ((tg 80 dt3 (0+y3.from_.toNat * 2+0))+y3.length)),(w64 ((tg 80 dt3 (0+y3.from_.toNat * 2+1))+(1:Int)))⟩:far)⟩:(Sl far))).uses == (tg 80 dt3 (0+y3.to.toNat * 2+0+1))) with | true=>true | false=>false) | false=>false)) t4t3 (ts 80 dt3 (0+y3.to.toNat * 2+0) [(zbR (⟨(tg 80 dt3 (0+y3.to.toNat * 2+0)),(tg 80 dt3 (0+y3.to.toNat * 2+0+1))⟩:far) (⟨1,fun _=>(⟨(w64 ((tg 80 dt3 (0+y3.from_.toNat * 2+0))+y3.length)),(w64 ((tg 80 dt3 (0+y3.from_.toNat * 2+1))+(1:Int)))⟩:far)⟩:(Sl far))).length,(zbR (⟨(tg 80 dt3 (0+y3.to.toNat * 2+0)),(tg 80 dt3 (0+y3.to.toNat * 2+0+1))⟩:far) (⟨1,fun _=>(⟨(w64 ((tg 80 dt3 (0+y3.from_.toNat * 2+0))+y3.length)),(w64 ((tg 80 dt3 (0+y3.from_.toNat * 2+1))+(1:Int)))⟩:far)⟩:(Sl far))).uses]))))))))))))
theorem zqe (K:List PA→Prop) (X2:St→Prop) (w:web) (zac:Bool) (t4t3:Tab) (dt3:Tab):(zaj 4 (zaj 3 (sqK Tryd.prog G76 zce (cdF Tryd.f76 [1,1,1,1,0,1,0,0,1,1]) (zba Tryd.prog zce 9 X2 (zaj 2 (sqK Tryd.prog G76 zce (cdF Tryd.f76 [1,1,1,1,1]) (za9 Tryd.prog Tryd.f76 K))))))) .normal (zfb w zac t4t3 dt3)=zom K X2 w zac t4t3 dt3:=by kernel_rfl
theorem zqf (K : List PA → Prop) (X2 : St → Prop) (X3 : List (List PA) → St → Prop) (y3 : step) (rest3 : List (List PA)) (w : web) (zac : Bool) (t4t3 : Tab) (dt3 : Tab) :
  ztK Tryd.prog G76 zce 12 [23] (cd (cdF Tryd.f76 [1,1,1,1,0,1,0,0,1,0,0,1,1,0]) [0]) (cd (cdF Tryd.f76 [1,1,1,1,0,1,0,0,1,0,0,1,1,0]) [1]) X3 (zaj 4 (zaj 3 (sqK Tryd.prog G76 zce (cdF Tryd.f76 [1,1,1,1,0,1,0,0,1,1]) (zba Tryd.prog zce 9 X2 (zaj 2 (sqK Tryd.prog G76 zce (cdF Tryd.f76 [1,1,1,1,1]) (za9 Tryd.prog Tryd.f76 K))))))) [.agg (zae y3)] rest3 (zfb w zac t4t3 dt3)=zon K X2 X3 y3 rest3 w zac t4t3 dt3:=by kernel_rfl
theorem zvR (K : List PA → Prop) (X2 : St → Prop) (w : web) (zac : Bool) (t4t3 : Tab) (dt3 : Tab)
  (hsafe:IsE enc_40 4 4 (fun i=>enc_40 (w.Net.Ties.get i))∧((false,1,false,[none]):MQ)=(false,1,false,[none])∧(zkZ w=true)) (h:∀ X3:List (List PA)→St→Prop,(∀ (zac:Bool) (t4t3:Tab) (dt3:Tab),zom K X2 w zac t4t3 dt3→X3 [] (zfb w zac t4t3 dt3))→(∀ (y:step) (rest:List (List PA)) (zac:Bool) (t4t3:Tab) (dt3:Tab),zon K X2 X3 y rest w zac t4t3 dt3→X3 ([.agg (zae y)] :: rest) (zfb w zac t4t3 dt3))→X3 ((zhl w).map fun y=>[.agg (zae y)]) (zfb w zac t4t3 dt3)) :
  zj8 K X2 w zac t4t3 dt3:=by
  have e:zj8 K X2 w zac t4t3 dt3=((IsE enc_40 4 4 (fun i=>enc_40 (w.Net.Ties.get i))∧((false,1,false,[none]):MQ)=(false,1,false,[none])∧(zkZ w=true))∧∀ X:List (List PA)→St→Prop,(∀ s,(zaj 4 (zaj 3 (sqK Tryd.prog G76 zce (cdF Tryd.f76 [1,1,1,1,0,1,0,0,1,1]) (zba Tryd.prog zce 9 X2 (zaj 2 (sqK Tryd.prog G76 zce (cdF Tryd.f76 [1,1,1,1,1]) (za9 Tryd.prog Tryd.f76 K))))))) .normal s→X [] s)→(∀ y rest s,ztK Tryd.prog G76 zce 12 [23] (cd (cdF Tryd.f76 [1,1,1,1,0,1,0,0,1,0,0,1,1,0]) [0]) (cd (cdF Tryd.f76 [1,1,1,1,0,1,0,0,1,0,0,1,1,0]) [1]) X (zaj 4 (zaj 3 (sqK Tryd.prog G76 zce (cdF Tryd.f76 [1,1,1,1,0,1,0,0,1,1]) (zba Tryd.prog zce 9 X2 (zaj 2 (sqK Tryd.prog G76 zce (cdF Tryd.f76 [1,1,1,1,1]) (za9 Tryd.prog Tryd.f76 K))))))) y rest s→X (y :: rest) s)→X ((zhl w).map fun y=>[.agg (zae y)]) (zfb w zac t4t3 dt3)):=by kernel_rfl
  refine zbd e ⟨hsafe,?_⟩
  intro X h0 h1
  refine h X (fun zac t4t3 dt3 hs=>h0 _ ?_) (fun y rest zac t4t3 dt3 hs=>h1 _ rest _ ?_)
  · rw [zqe K X2 w zac t4t3 dt3];exact hs
  · have e2 := zqf K X2 X y rest w zac t4t3 dt3
    rw [e2];exact hs
abbrev e76 (r:Tab):List PA:=[.agg [.int .i64 (r 0),.int .i64 (r 1),.int .i64 (r 2),.int .i64 (r 3),.int .i64 (r 4),.int .i64 (r 5),.int .i64 (r 6),.int .i64 (r 7),.int .i64 (r 8),.int .i64 (r 9),.int .i64 (r 10),.int .i64 (r 11),.int .i64 (r 12),.int .i64 (r 13),.int .i64 (r 14),.int .i64 (r 15),.int .i64 (r 16),.int .i64 (r 17),.int .i64 (r 18),.int .i64 (r 19),.int .i64 (r 20),.int .i64 (r 21),.int .i64 (r 22),.int .i64 (r 23),.int .i64 (r 24),.int .i64 (r 25),.int .i64 (r 26),.int .i64 (r 27),.int .i64 (r 28),.int .i64 (r 29),.int .i64 (r 30),.int .i64 (r 31),.int .i64 (r 32),.int .i64 (r 33),.int .i64 (r 34),.int .i64 (r 35),.int .i64 (r 36),.int .i64 (r 37),.int .i64 (r 38),.int .i64 (r 39),.int .i64 (r 40),.int .i64 (r 41),.int .i64 (r 42),.int .i64 (r 43),.int .i64 (r 44),.int .i64 (r 45),.int .i64 (r 46),.int .i64 (r 47),.int .i64 (r 48),.int .i64 (r 49),.int .i64 (r 50),.int .i64 (r 51),.int .i64 (r 52),.int .i64 (r 53),.int .i64 (r 54),.int .i64 (r 55),.int .i64 (r 56),.int .i64 (r 57),.int .i64 (r 58),.int .i64 (r 59),.int .i64 (r 60),.int .i64 (r 61),.int .i64 (r 62),.int .i64 (r 63),.int .i64 (r 64),.int .i64 (r 65),.int .i64 (r 66),.int .i64 (r 67),.int .i64 (r 68),.int .i64 (r 69),.int .i64 (r 70),.int .i64 (r 71),.int .i64 (r 72),.int .i64 (r 73),.int .i64 (r 74),.int .i64 (r 75),.int .i64 (r 76),.int .i64 (r 77),.int .i64 (r 78),.int .i64 (r 79)]]
attribute [irreducible] zj6 zmK zj7 zj8
def zqg (S2:Bool→Tab→Tab→Tab) (w:web) (zac:Bool) (t4t3:Tab) (dt3:Tab):Tab :=
  (S2 zac t4t3 dt3)
def zqh (P2:Bool→Tab→Tab→Bool) (w:web) (zac:Bool) (t4t3:Tab) (dt3:Tab):Bool :=
  (P2 zac t4t3 dt3)
def zj9 (S2:Bool→Tab→Tab→Tab) (w:web) (y3:step) (S3:Bool→Tab→Tab→Tab) (zac:Bool) (t4t3:Tab) (dt3:Tab):Tab :=
  (cond (match ((tg 80 dt3 (0 + y3.from_.toNat * 2 + 0)) == (1000000000000:Int)) with | true => (match ((tg 80 dt3 (0 + y3.from_.toNat * 2 + 0 + 1)) == (0:Int)) with | true => true | false => false) | false => false)
 (S3 zac t4t3 dt3)
 (cond zac
 (S3 true t4t3 (ts 80 dt3 (0+y3.to.toNat * 2+0) [(zbR (⟨(tg 80 dt3 (0+y3.to.toNat * 2+0)),(tg 80 dt3 (0+y3.to.toNat * 2+0+1))⟩:far) (⟨1,fun _=>(⟨(w64 ((tg 80 dt3 (0+y3.from_.toNat * 2+0))+y3.length)),(w64 ((tg 80 dt3 (0+y3.from_.toNat * 2+1))+(1:Int)))⟩:far)⟩:(Sl far))).length,(zbR (⟨(tg 80 dt3 (0+y3.to.toNat * 2+0)),(tg 80 dt3 (0+y3.to.toNat * 2+0+1))⟩:far) (⟨1,fun _=>(⟨(w64 ((tg 80 dt3 (0+y3.from_.toNat * 2+0))+y3.length)),(w64 ((tg 80 dt3 (0+y3.from_.toNat * 2+1))+(1:Int)))⟩:far)⟩:(Sl far))).uses]))
 (S3 (!(match ((zbR (⟨(tg 80 dt3 (0+y3.to.toNat * 2+0)),(tg 80 dt3 (0+y3.to.toNat * 2+0+1))⟩:far) (⟨1,fun _=>(⟨(w64 ((tg 80 dt3 (0+y3.from_.toNat * 2+0))+y3.length)),(w64 ((tg 80 dt3 (0+y3.from_.toNat * 2+1))+(1:Int)))⟩:far)⟩:(Sl far))).length == (tg 80 dt3 (0+y3.to.toNat * 2+0))) with | true=>(match ((zbR (⟨(tg 80 dt3 (0+y3.to.toNat * 2+0)),(tg 80 dt3 (0+y3.to.toNat * 2+0+1))⟩:far) (⟨1,fun _=>(⟨(w64 ((tg 80 dt3 (0+y3.from_.toNat * 2+0))+y3.length)),(w64 ((tg 80 dt3 (0+y3.from_.toNat * 2+1))+(1:Int)))⟩:far)⟩:(Sl far))).uses == (tg 80 dt3 (0+y3.to.toNat * 2+0+1))) with | true=>true | false=>false) | false=>false)) t4t3 (ts 80 dt3 (0+y3.to.toNat * 2+0) [(zbR (⟨(tg 80 dt3 (0+y3.to.toNat * 2+0)),(tg 80 dt3 (0+y3.to.toNat * 2+0+1))⟩:far) (⟨1,fun _=>(⟨(w64 ((tg 80 dt3 (0+y3.from_.toNat * 2+0))+y3.length)),(w64 ((tg 80 dt3 (0+y3.from_.toNat * 2+1))+(1:Int)))⟩:far)⟩:(Sl far))).length,(zbR (⟨(tg 80 dt3 (0+y3.to.toNat * 2+0)),(tg 80 dt3 (0+y3.to.toNat * 2+0+1))⟩:far) (⟨1,fun _=>(⟨(w64 ((tg 80 dt3 (0+y3.from_.toNat * 2+0))+y3.length)),(w64 ((tg 80 dt3 (0+y3.from_.toNat * 2+1))+(1:Int)))⟩:far)⟩:(Sl far))).uses]))))
def zka (P2:Bool→Tab→Tab→Bool) (w:web) (y3:step) (P3:Bool→Tab→Tab→Bool) (zac:Bool) (t4t3:Tab) (dt3:Tab):Bool :=
  (decide ((0≤y3.from_∧y3.from_ < (40:Int))) &&
 (cond (match ((tg 80 dt3 (0 + y3.from_.toNat * 2 + 0)) == (1000000000000:Int)) with | true => (match ((tg 80 dt3 (0 + y3.from_.toNat * 2 + 0 + 1)) == (0:Int)) with | true => true | false => false) | false => false)
 (P3 zac t4t3 dt3)
 (decide ((0≤y3.to∧y3.to < (40:Int))) &&
 (decide ((0≤y3.from_∧y3.from_ < (40:Int))) &&
 (decide ((0≤y3.from_∧y3.from_ < (40:Int))) &&
 (decide ((ztL (⟨(tg 80 dt3 (0+y3.to.toNat * 2+0)),(tg 80 dt3 (0+y3.to.toNat * 2+0+1))⟩:far) (⟨1,fun _=>(⟨(w64 ((tg 80 dt3 (0+y3.from_.toNat * 2+0))+y3.length)),(w64 ((tg 80 dt3 (0+y3.from_.toNat * 2+1))+(1:Int)))⟩:far)⟩:(Sl far))=true)) &&
 (cond zac
 (decide ((0≤y3.to∧y3.to < (40:Int))) &&
 (P3 true t4t3 (ts 80 dt3 (0+y3.to.toNat * 2+0) [(zbR (⟨(tg 80 dt3 (0+y3.to.toNat * 2+0)),(tg 80 dt3 (0+y3.to.toNat * 2+0+1))⟩:far) (⟨1,fun _=>(⟨(w64 ((tg 80 dt3 (0+y3.from_.toNat * 2+0))+y3.length)),(w64 ((tg 80 dt3 (0+y3.from_.toNat * 2+1))+(1:Int)))⟩:far)⟩:(Sl far))).length,(zbR (⟨(tg 80 dt3 (0+y3.to.toNat * 2+0)),(tg 80 dt3 (0+y3.to.toNat * 2+0+1))⟩:far) (⟨1,fun _=>(⟨(w64 ((tg 80 dt3 (0+y3.from_.toNat * 2+0))+y3.length)),(w64 ((tg 80 dt3 (0+y3.from_.toNat * 2+1))+(1:Int)))⟩:far)⟩:(Sl far))).uses])))
 (decide ((0≤y3.to∧y3.to < (40:Int))) &&
 (decide ((0≤y3.to∧y3.to < (40:Int))) &&
 (P3 (!(match ((zbR (⟨(tg 80 dt3 (0+y3.to.toNat * 2+0)),(tg 80 dt3 (0+y3.to.toNat * 2+0+1))⟩:far) (⟨1,fun _=>(⟨(w64 ((tg 80 dt3 (0+y3.from_.toNat * 2+0))+y3.length)),(w64 ((tg 80 dt3 (0+y3.from_.toNat * 2+1))+(1:Int)))⟩:far)⟩:(Sl far))).length == (tg 80 dt3 (0+y3.to.toNat * 2+0))) with | true=>(match ((zbR (⟨(tg 80 dt3 (0+y3.to.toNat * 2+0)),(tg 80 dt3 (0+y3.to.toNat * 2+0+1))⟩:far) (⟨1,fun _=>(⟨(w64 ((tg 80 dt3 (0+y3.from_.toNat * 2+0))+y3.length)),(w64 ((tg 80 dt3 (0+y3.from_.toNat * 2+1))+(1:Int)))⟩:far)⟩:(Sl far))).uses == (tg 80 dt3 (0+y3.to.toNat * 2+0+1))) with | true=>true | false=>false) | false=>false)) t4t3 (ts 80 dt3 (0+y3.to.toNat * 2+0) [(zbR (⟨(tg 80 dt3 (0+y3.to.toNat * 2+0)),(tg 80 dt3 (0+y3.to.toNat * 2+0+1))⟩:far) (⟨1,fun _=>(⟨(w64 ((tg 80 dt3 (0+y3.from_.toNat * 2+0))+y3.length)),(w64 ((tg 80 dt3 (0+y3.from_.toNat * 2+1))+(1:Int)))⟩:far)⟩:(Sl far))).length,(zbR (⟨(tg 80 dt3 (0+y3.to.toNat * 2+0)),(tg 80 dt3 (0+y3.to.toNat * 2+0+1))⟩:far) (⟨1,fun _=>(⟨(w64 ((tg 80 dt3 (0+y3.from_.toNat * 2+0))+y3.length)),(w64 ((tg 80 dt3 (0+y3.from_.toNat * 2+1))+(1:Int)))⟩:far)⟩:(Sl far))).uses])))))))))))
def zgr (S2 : Bool → Tab → Tab → Tab) (w : web) : List step → Bool → Tab → Tab → Tab
  | []=>zqg S2 w
  | y :: r=>zj9 S2 w y (zgr S2 w r)
def zgs (P2 : Bool → Tab → Tab → Bool) (w : web) : List step → Bool → Tab → Tab → Bool
  | []=>zqh P2 w
  | y :: r=>zka P2 w y (zgs P2 w r)
def zqi (S2:Bool→Tab→Tab→Tab) (w:web) (zac:Bool) (t4t3:Tab) (dt3:Tab):Tab:=zgr S2 w (zhl w) zac t4t3 dt3
def zmL (P2:Bool→Tab→Tab→Bool) (w:web) (zac:Bool) (t4t3:Tab) (dt3:Tab):Bool:=decide ((zkZ w=true)) && zgs P2 w (zhl w) zac t4t3 dt3
theorem zCM (K : List PA → Prop) (w : web)
  (X2:St→Prop) (P2:Bool→Tab→Tab→Bool) (S2:Bool→Tab→Tab→Tab)
  (hX2:∀ (zah:Bool) (t4t2:Tab) (dt2:Tab),P2 zah t4t2 dt2=true→K (e76 (S2 zah t4t2 dt2))→X2 (zil w zah t4t2 dt2)) (zac:Bool) (t4t3:Tab) (dt3:Tab) (hs:zmL P2 w zac t4t3 dt3=true) (hk:K (e76 (zqi S2 w zac t4t3 dt3))):zj8 K X2 w zac t4t3 dt3:=by
  unfold zmL at hs
  rw [Bool.and_eq_true] at hs
  obtain ⟨hsf,hs⟩:=hs
  have hc:=of_decide_eq_true hsf
  refine zvR K X2 w zac t4t3 dt3 ⟨isE,rfl,hc⟩ ?_
  intro X3 hexit hstep
  have key:∀ (l:List step) (zac:Bool) (t4t3:Tab) (dt3:Tab),zgs P2 w l zac t4t3 dt3=true→K (e76 (zgr S2 w l zac t4t3 dt3))→X3 (l.map fun y=>[.agg (zae y)]) (zfb w zac t4t3 dt3):=by
    intro l
    induction l with
    | nil =>
      intro zac t4t3 dt3 hs hk
      refine hexit zac t4t3 dt3 ?_
      have hs:zqh P2 w zac t4t3 dt3=true:=hs
      have hk:K (e76 (zqg S2 w zac t4t3 dt3)):=hk
      unfold zqh at hs
      unfold zqg at hk
      exact (hX2 zac t4t3 dt3 hs hk)
    | cons y3 l ih =>
      intro zac t4t3 dt3 hs hk
      refine hstep y3 _ zac t4t3 dt3 ?_
      have hs:zka P2 w y3 (zgs P2 w l) zac t4t3 dt3=true:=hs
      have hk:K (e76 (zj9 S2 w y3 (zgr S2 w l) zac t4t3 dt3)):=hk
      unfold zka at hs
      unfold zj9 at hk
      generalize zgr S2 w l=S3 at hk ih
      generalize zgs P2 w l=P3 at hs ih
      have hX3:=ih
      exact (za0 hs fun hc hs => ⟨hc, (zaN (K := fun r => K (e76 r))
 (fun hs hk=>(hX3 zac t4t3 dt3 hs hk))
 (fun hs hk => (za0 hs fun hc hs => ⟨hc, (za0 hs fun hc hs => ⟨hc, (za0 hs fun hc hs => ⟨hc, (za0 hs fun hc hs => ⟨⟨zvl, hc⟩, (zaN (K := fun r => K (e76 r))
 (fun hs hk=>(za0 hs fun hc hs=>⟨hc,(hX3 true t4t3 (ts 80 dt3 (0+y3.to.toNat * 2+0) [(zbR (⟨(tg 80 dt3 (0+y3.to.toNat * 2+0)),(tg 80 dt3 (0+y3.to.toNat * 2+0+1))⟩:far) (⟨1,fun _=>(⟨(w64 ((tg 80 dt3 (0+y3.from_.toNat * 2+0))+y3.length)),(w64 ((tg 80 dt3 (0+y3.from_.toNat * 2+1))+(1:Int)))⟩:far)⟩:(Sl far))).length,(zbR (⟨(tg 80 dt3 (0+y3.to.toNat * 2+0)),(tg 80 dt3 (0+y3.to.toNat * 2+0+1))⟩:far) (⟨1,fun _=>(⟨(w64 ((tg 80 dt3 (0+y3.from_.toNat * 2+0))+y3.length)),(w64 ((tg 80 dt3 (0+y3.from_.toNat * 2+1))+(1:Int)))⟩:far)⟩:(Sl far))).uses]) hs hk)⟩))
 (fun hs hk=>(za0 hs fun hc hs=>⟨hc,(za0 hs fun hc hs=>⟨hc,(hX3 (!(match ((zbR (⟨(tg 80 dt3 (0+y3.to.toNat * 2+0)),(tg 80 dt3 (0+y3.to.toNat * 2+0+1))⟩:far) (⟨1,fun _=>(⟨(w64 ((tg 80 dt3 (0+y3.from_.toNat * 2+0))+y3.length)),(w64 ((tg 80 dt3 (0+y3.from_.toNat * 2+1))+(1:Int)))⟩:far)⟩:(Sl far))).length == (tg 80 dt3 (0+y3.to.toNat * 2+0))) with | true=>(match ((zbR (⟨(tg 80 dt3 (0+y3.to.toNat * 2+0)),(tg 80 dt3 (0+y3.to.toNat * 2+0+1))⟩:far) (⟨1,fun _=>(⟨(w64 ((tg 80 dt3 (0+y3.from_.toNat * 2+0))+y3.length)),(w64 ((tg 80 dt3 (0+y3.from_.toNat * 2+1))+(1:Int)))⟩:far)⟩:(Sl far))).uses == (tg 80 dt3 (0+y3.to.toNat * 2+0+1))) with | true=>true | false=>false) | false=>false)) t4t3 (ts 80 dt3 (0+y3.to.toNat * 2+0) [(zbR (⟨(tg 80 dt3 (0+y3.to.toNat * 2+0)),(tg 80 dt3 (0+y3.to.toNat * 2+0+1))⟩:far) (⟨1,fun _=>(⟨(w64 ((tg 80 dt3 (0+y3.from_.toNat * 2+0))+y3.length)),(w64 ((tg 80 dt3 (0+y3.from_.toNat * 2+1))+(1:Int)))⟩:far)⟩:(Sl far))).length,(zbR (⟨(tg 80 dt3 (0+y3.to.toNat * 2+0)),(tg 80 dt3 (0+y3.to.toNat * 2+0+1))⟩:far) (⟨1,fun _=>(⟨(w64 ((tg 80 dt3 (0+y3.from_.toNat * 2+0))+y3.length)),(w64 ((tg 80 dt3 (0+y3.from_.toNat * 2+1))+(1:Int)))⟩:far)⟩:(Sl far))).uses]) hs hk)⟩)⟩)) hs hk)⟩)⟩)⟩)⟩)) hs hk)⟩)
  exact key _ zac t4t3 dt3 hs hk
def zkb (w:web) (S2:Bool→Tab→Tab→Tab) (zah:Bool) (t4t2:Tab) (dt2:Tab):Tab :=
  (cond zah
 (zqi S2 w false t4t2 dt2)
 dt2)
def zkc (w:web) (P2:Bool→Tab→Tab→Bool) (zah:Bool) (t4t2:Tab) (dt2:Tab):Bool :=
  (cond zah
 (zmL P2 w false t4t2 dt2)
 true)
def zdI (w : web) : Nat → Bool → Tab → Tab → Tab
  | 0=>fun _ _ _=>default
  | k+1=>zkb w (zdI w k)
def zdJ (w : web) : Nat → Bool → Tab → Tab → Bool
  | 0=>fun _ _ _=>false
  | k+1=>zkc w (zdJ w k)
def zqj (w:web) (zah:Bool) (t4t2:Tab) (dt2:Tab):Tab:=zdI w Fuel zah t4t2 dt2
def zqk (w:web) (zah:Bool) (t4t2:Tab) (dt2:Tab):Bool:=zdJ w Fuel zah t4t2 dt2
theorem zCN (K:List PA→Prop) (w:web) (zah:Bool) (t4t2:Tab) (dt2:Tab) (hs:zqk w zah t4t2 dt2=true) (hk:K (e76 (zqj w zah t4t2 dt2))):zj7 K w zah t4t2 dt2:=by
  refine zvQ K w zah t4t2 dt2 ?_
  intro X2 hstep
  have key:∀ (k:Nat) (zah:Bool) (t4t2:Tab) (dt2:Tab),zdJ w k zah t4t2 dt2=true→K (e76 (zdI w k zah t4t2 dt2))→X2 (zil w zah t4t2 dt2):=by
    intro k
    induction k with
    | zero=>intro zah t4t2 dt2 hs;exact absurd hs Bool.false_ne_true
    | succ k ih =>
      intro zah t4t2 dt2 hs hk
      refine hstep zah t4t2 dt2 ?_
      have hs:zkc w (zdJ w k) zah t4t2 dt2=true:=hs
      have hk:K (e76 (zkb w (zdI w k) zah t4t2 dt2)):=hk
      unfold zkc at hs
      unfold zkb at hk
      generalize zdI w k=S2 at hk ih
      generalize zdJ w k=P2 at hs ih
      have hX2:=ih
      exact (zaN (K := fun r => K (e76 r))
 (fun hs hk=>⟨⟨isE,rfl⟩,(zCM K w X2 P2 S2 hX2 false t4t2 dt2 hs hk)⟩)
 (fun hs hk=>hk) hs hk)
  exact key _ zah t4t2 dt2 hs hk
def zkd (w:web) (node:Int) (t4t1:Tab) (dt1:Tab):Tab :=
  (zqj w true t4t1 (ts 80 dt1 (0+node.toNat * 2+0) [(0:Int),(0:Int)]))
def zke (w:web) (node:Int) (t4t1:Tab) (dt1:Tab):Bool :=
  (decide ((0≤node∧node < (40:Int))) &&
 (zqk w true t4t1 (ts 80 dt1 (0+node.toNat * 2+0) [(0:Int),(0:Int)])))
theorem zCO (K:List PA→Prop) (w:web) (node:Int) (t4t1:Tab) (dt1:Tab) (hs:zke w node t4t1 dt1=true) (hk:K (e76 (zkd w node t4t1 dt1))):zmK K w node t4t1 dt1:=by
  refine zbd (zCL K w node t4t1 dt1) ?_
  unfold zke at hs
  unfold zkd at hk
  exact (za0 hs fun hc hs=>⟨hc,(zCN K w true t4t1 (ts 80 dt1 (0+node.toNat * 2+0) [(0:Int),(0:Int)]) hs hk)⟩)
def zgt (w:web) (node:Int) (S0:Int→Tab→Tab→Tab) (zaB:Int) (t4t0:Tab) (dt0:Tab):Tab :=
  (cond (decide (zaB < (40:Int)))
 (S0 (w64 (zaB+(1:Int))) t4t0 (ts 80 dt0 (0+zaB.toNat * 2+0) [(1000000000000:Int),(0:Int)]))
 (zkd w node t4t0 dt0))
def zgu (w:web) (node:Int) (P0:Int→Tab→Tab→Bool) (zaB:Int) (t4t0:Tab) (dt0:Tab):Bool :=
  (cond (decide (zaB < (40:Int)))
 (decide ((0≤zaB∧zaB < (40:Int))) &&
 (P0 (w64 (zaB+(1:Int))) t4t0 (ts 80 dt0 (0+zaB.toNat * 2+0) [(1000000000000:Int),(0:Int)])))
 (zke w node t4t0 dt0))
def zeH (w : web) (node : Int) : Nat → Int → Tab → Tab → Tab
  | 0=>fun _ _ _=>default
  | k+1=>zgt w node (zeH w node k)
def zeI (w : web) (node : Int) : Nat → Int → Tab → Tab → Bool
  | 0=>fun _ _ _=>false
  | k+1=>zgu w node (zeI w node k)
def zvS (w:web) (node:Int) (zaB:Int) (t4t0:Tab) (dt0:Tab):Tab:=zeH w node Fuel zaB t4t0 dt0
def zvT (w:web) (node:Int) (zaB:Int) (t4t0:Tab) (dt0:Tab):Bool:=zeI w node Fuel zaB t4t0 dt0
theorem zCP (K:List PA→Prop) (w:web) (node:Int) (zaB:Int) (t4t0:Tab) (dt0:Tab) (hs:zvT w node zaB t4t0 dt0=true) (hk:K (e76 (zvS w node zaB t4t0 dt0))):zj6 K w node zaB t4t0 dt0:=by
  refine zvP K w node zaB t4t0 dt0 ?_
  intro X0 hstep
  have key:∀ (k:Nat) (zaB:Int) (t4t0:Tab) (dt0:Tab),zeI w node k zaB t4t0 dt0=true→K (e76 (zeH w node k zaB t4t0 dt0))→X0 (zj5 w node zaB t4t0 dt0):=by
    intro k
    induction k with
    | zero=>intro zaB t4t0 dt0 hs;exact absurd hs Bool.false_ne_true
    | succ k ih =>
      intro zaB t4t0 dt0 hs hk
      refine hstep zaB t4t0 dt0 ?_
      have hs:zgu w node (zeI w node k) zaB t4t0 dt0=true:=hs
      have hk:K (e76 (zgt w node (zeH w node k) zaB t4t0 dt0)):=hk
      unfold zgu at hs
      unfold zgt at hk
      generalize zeH w node k=S0 at hk ih
      generalize zeI w node k=P0 at hs ih
      have hX0:=ih
      exact (zaN (K := fun r => K (e76 r))
 (fun hs hk=>(za0 hs fun hc hs=>⟨hc,(hX0 (w64 (zaB+(1:Int))) t4t0 (ts 80 dt0 (0+zaB.toNat * 2+0) [(1000000000000:Int),(0:Int)]) hs hk)⟩))
 (fun hs hk=>(zCO K w node t4t0 dt0 hs hk)) hs hk)
  exact key _ zaB t4t0 dt0 hs hk
def s76 (w:web) (node:Int):Tab :=
  (zvS w node (0:Int) (fun _=>(0:Int)) (fun _=>(0:Int)))
def p76 (w:web) (node:Int):Bool :=
  (zvT w node (0:Int) (fun _=>(0:Int)) (fun _=>(0:Int)))
theorem q76 (w:web) (node:Int) (K:List PA→Prop) (hs:p76 w node=true) (hk:K (e76 (s76 w node))):vcFun Tryd.prog G76 zce 76 [.one (.fp (zau w) 0),.one (.int .i64 node)] K:=by
  refine zbd (zCK w node K) ?_
  unfold p76 at hs
  unfold s76 at hk
  exact (zCP K w node (0:Int) (fun _=>(0:Int)) (fun _=>(0:Int)) hs hk)
def zvU : List PA → COut
  | [.one (.fp [.int .i64 a0_Net_Nodes,.sl a0_Net_Ties_n a0_Net_Ties_s a0_Net_Ties_g,.fm a0_out_q a0_out_n a0_out_F] 0),.one (.int .i64 a1)]=>.det (IsE enc_40 4 a0_Net_Ties_s a0_Net_Ties_g∧a0_out_q=(false,1,false,[none])∧p76 (⟨(⟨a0_Net_Nodes,(⟨a0_Net_Ties_n,zaa a0_Net_Ties_g⟩:(Sl Tie))⟩:Net),(⟨a0_out_n,a0_out_F⟩:Mp)⟩:web) a1=true) [.agg [.int .i64 ((s76 (⟨(⟨a0_Net_Nodes,(⟨a0_Net_Ties_n,zaa a0_Net_Ties_g⟩:(Sl Tie))⟩:Net),(⟨a0_out_n,a0_out_F⟩:Mp)⟩:web) a1) 0),.int .i64 ((s76 (⟨(⟨a0_Net_Nodes,(⟨a0_Net_Ties_n,zaa a0_Net_Ties_g⟩:(Sl Tie))⟩:Net),(⟨a0_out_n,a0_out_F⟩:Mp)⟩:web) a1) 1),.int .i64 ((s76 (⟨(⟨a0_Net_Nodes,(⟨a0_Net_Ties_n,zaa a0_Net_Ties_g⟩:(Sl Tie))⟩:Net),(⟨a0_out_n,a0_out_F⟩:Mp)⟩:web) a1) 2),.int .i64 ((s76 (⟨(⟨a0_Net_Nodes,(⟨a0_Net_Ties_n,zaa a0_Net_Ties_g⟩:(Sl Tie))⟩:Net),(⟨a0_out_n,a0_out_F⟩:Mp)⟩:web) a1) 3),.int .i64 ((s76 (⟨(⟨a0_Net_Nodes,(⟨a0_Net_Ties_n,zaa a0_Net_Ties_g⟩:(Sl Tie))⟩:Net),(⟨a0_out_n,a0_out_F⟩:Mp)⟩:web) a1) 4),.int .i64 ((s76 (⟨(⟨a0_Net_Nodes,(⟨a0_Net_Ties_n,zaa a0_Net_Ties_g⟩:(Sl Tie))⟩:Net),(⟨a0_out_n,a0_out_F⟩:Mp)⟩:web) a1) 5),.int .i64 ((s76 (⟨(⟨a0_Net_Nodes,(⟨a0_Net_Ties_n,zaa a0_Net_Ties_g⟩:(Sl Tie))⟩:Net),(⟨a0_out_n,a0_out_F⟩:Mp)⟩:web) a1) 6),.int .i64 ((s76 (⟨(⟨a0_Net_Nodes,(⟨a0_Net_Ties_n,zaa a0_Net_Ties_g⟩:(Sl Tie))⟩:Net),(⟨a0_out_n,a0_out_F⟩:Mp)⟩:web) a1) 7),.int .i64 ((s76 (⟨(⟨a0_Net_Nodes,(⟨a0_Net_Ties_n,zaa a0_Net_Ties_g⟩:(Sl Tie))⟩:Net),(⟨a0_out_n,a0_out_F⟩:Mp)⟩:web) a1) 8),.int .i64 ((s76 (⟨(⟨a0_Net_Nodes,(⟨a0_Net_Ties_n,zaa a0_Net_Ties_g⟩:(Sl Tie))⟩:Net),(⟨a0_out_n,a0_out_F⟩:Mp)⟩:web) a1) 9),.int .i64 ((s76 (⟨(⟨a0_Net_Nodes,(⟨a0_Net_Ties_n,zaa a0_Net_Ties_g⟩:(Sl Tie))⟩:Net),(⟨a0_out_n,a0_out_F⟩:Mp)⟩:web) a1) 10),.int .i64 ((s76 (⟨(⟨a0_Net_Nodes,(⟨a0_Net_Ties_n,zaa a0_Net_Ties_g⟩:(Sl Tie))⟩:Net),(⟨a0_out_n,a0_out_F⟩:Mp)⟩:web) a1) 11),.int .i64 ((s76 (⟨(⟨a0_Net_Nodes,(⟨a0_Net_Ties_n,zaa a0_Net_Ties_g⟩:(Sl Tie))⟩:Net),(⟨a0_out_n,a0_out_F⟩:Mp)⟩:web) a1) 12),.int .i64 ((s76 (⟨(⟨a0_Net_Nodes,(⟨a0_Net_Ties_n,zaa a0_Net_Ties_g⟩:(Sl Tie))⟩:Net),(⟨a0_out_n,a0_out_F⟩:Mp)⟩:web) a1) 13),.int .i64 ((s76 (⟨(⟨a0_Net_Nodes,(⟨a0_Net_Ties_n,zaa a0_Net_Ties_g⟩:(Sl Tie))⟩:Net),(⟨a0_out_n,a0_out_F⟩:Mp)⟩:web) a1) 14),.int .i64 ((s76 (⟨(⟨a0_Net_Nodes,(⟨a0_Net_Ties_n,zaa a0_Net_Ties_g⟩:(Sl Tie))⟩:Net),(⟨a0_out_n,a0_out_F⟩:Mp)⟩:web) a1) 15),.int .i64 ((s76 (⟨(⟨a0_Net_Nodes,(⟨a0_Net_Ties_n,zaa a0_Net_Ties_g⟩:(Sl Tie))⟩:Net),(⟨a0_out_n,a0_out_F⟩:Mp)⟩:web) a1) 16),.int .i64 ((s76 (⟨(⟨a0_Net_Nodes,(⟨a0_Net_Ties_n,zaa a0_Net_Ties_g⟩:(Sl Tie))⟩:Net),(⟨a0_out_n,a0_out_F⟩:Mp)⟩:web) a1) 17),.int .i64 ((s76 (⟨(⟨a0_Net_Nodes,(⟨a0_Net_Ties_n,zaa a0_Net_Ties_g⟩:(Sl Tie))⟩:Net),(⟨a0_out_n,a0_out_F⟩:Mp)⟩:web) a1) 18),.int .i64 ((s76 (⟨(⟨a0_Net_Nodes,(⟨a0_Net_Ties_n,zaa a0_Net_Ties_g⟩:(Sl Tie))⟩:Net),(⟨a0_out_n,a0_out_F⟩:Mp)⟩:web) a1) 19),.int .i64 ((s76 (⟨(⟨a0_Net_Nodes,(⟨a0_Net_Ties_n,zaa a0_Net_Ties_g⟩:(Sl Tie))⟩:Net),(⟨a0_out_n,a0_out_F⟩:Mp)⟩:web) a1) 20),.int .i64 ((s76 (⟨(⟨a0_Net_Nodes,(⟨a0_Net_Ties_n,zaa a0_Net_Ties_g⟩:(Sl Tie))⟩:Net),(⟨a0_out_n,a0_out_F⟩:Mp)⟩:web) a1) 21),.int .i64 ((s76 (⟨(⟨a0_Net_Nodes,(⟨a0_Net_Ties_n,zaa a0_Net_Ties_g⟩:(Sl Tie))⟩:Net),(⟨a0_out_n,a0_out_F⟩:Mp)⟩:web) a1) 22),.int .i64 ((s76 (⟨(⟨a0_Net_Nodes,(⟨a0_Net_Ties_n,zaa a0_Net_Ties_g⟩:(Sl Tie))⟩:Net),(⟨a0_out_n,a0_out_F⟩:Mp)⟩:web) a1) 23),.int .i64 ((s76 (⟨(⟨a0_Net_Nodes,(⟨a0_Net_Ties_n,zaa a0_Net_Ties_g⟩:(Sl Tie))⟩:Net),(⟨a0_out_n,a0_out_F⟩:Mp)⟩:web) a1) 24),.int .i64 ((s76 (⟨(⟨a0_Net_Nodes,(⟨a0_Net_Ties_n,zaa a0_Net_Ties_g⟩:(Sl Tie))⟩:Net),(⟨a0_out_n,a0_out_F⟩:Mp)⟩:web) a1) 25),.int .i64 ((s76 (⟨(⟨a0_Net_Nodes,(⟨a0_Net_Ties_n,zaa a0_Net_Ties_g⟩:(Sl Tie))⟩:Net),(⟨a0_out_n,a0_out_F⟩:Mp)⟩:web) a1) 26),.int .i64 ((s76 (⟨(⟨a0_Net_Nodes,(⟨a0_Net_Ties_n,zaa a0_Net_Ties_g⟩:(Sl Tie))⟩:Net),(⟨a0_out_n,a0_out_F⟩:Mp)⟩:web) a1) 27),.int .i64 ((s76 (⟨(⟨a0_Net_Nodes,(⟨a0_Net_Ties_n,zaa a0_Net_Ties_g⟩:(Sl Tie))⟩:Net),(⟨a0_out_n,a0_out_F⟩:Mp)⟩:web) a1) 28),.int .i64 ((s76 (⟨(⟨a0_Net_Nodes,(⟨a0_Net_Ties_n,zaa a0_Net_Ties_g⟩:(Sl Tie))⟩:Net),(⟨a0_out_n,a0_out_F⟩:Mp)⟩:web) a1) 29),.int .i64 ((s76 (⟨(⟨a0_Net_Nodes,(⟨a0_Net_Ties_n,zaa a0_Net_Ties_g⟩:(Sl Tie))⟩:Net),(⟨a0_out_n,a0_out_F⟩:Mp)⟩:web) a1) 30),.int .i64 ((s76 (⟨(⟨a0_Net_Nodes,(⟨a0_Net_Ties_n,zaa a0_Net_Ties_g⟩:(Sl Tie))⟩:Net),(⟨a0_out_n,a0_out_F⟩:Mp)⟩:web) a1) 31),.int .i64 ((s76 (⟨(⟨a0_Net_Nodes,(⟨a0_Net_Ties_n,zaa a0_Net_Ties_g⟩:(Sl Tie))⟩:Net),(⟨a0_out_n,a0_out_F⟩:Mp)⟩:web) a1) 32),.int .i64 ((s76 (⟨(⟨a0_Net_Nodes,(⟨a0_Net_Ties_n,zaa a0_Net_Ties_g⟩:(Sl Tie))⟩:Net),(⟨a0_out_n,a0_out_F⟩:Mp)⟩:web) a1) 33),.int .i64 ((s76 (⟨(⟨a0_Net_Nodes,(⟨a0_Net_Ties_n,zaa a0_Net_Ties_g⟩:(Sl Tie))⟩:Net),(⟨a0_out_n,a0_out_F⟩:Mp)⟩:web) a1) 34),.int .i64 ((s76 (⟨(⟨a0_Net_Nodes,(⟨a0_Net_Ties_n,zaa a0_Net_Ties_g⟩:(Sl Tie))⟩:Net),(⟨a0_out_n,a0_out_F⟩:Mp)⟩:web) a1) 35),.int .i64 ((s76 (⟨(⟨a0_Net_Nodes,(⟨a0_Net_Ties_n,zaa a0_Net_Ties_g⟩:(Sl Tie))⟩:Net),(⟨a0_out_n,a0_out_F⟩:Mp)⟩:web) a1) 36),.int .i64 ((s76 (⟨(⟨a0_Net_Nodes,(⟨a0_Net_Ties_n,zaa a0_Net_Ties_g⟩:(Sl Tie))⟩:Net),(⟨a0_out_n,a0_out_F⟩:Mp)⟩:web) a1) 37),.int .i64 ((s76 (⟨(⟨a0_Net_Nodes,(⟨a0_Net_Ties_n,zaa a0_Net_Ties_g⟩:(Sl Tie))⟩:Net),(⟨a0_out_n,a0_out_F⟩:Mp)⟩:web) a1) 38),.int .i64 ((s76 (⟨(⟨a0_Net_Nodes,(⟨a0_Net_Ties_n,zaa a0_Net_Ties_g⟩:(Sl Tie))⟩:Net),(⟨a0_out_n,a0_out_F⟩:Mp)⟩:web) a1) 39),.int .i64 ((s76 (⟨(⟨a0_Net_Nodes,(⟨a0_Net_Ties_n,zaa a0_Net_Ties_g⟩:(Sl Tie))⟩:Net),(⟨a0_out_n,a0_out_F⟩:Mp)⟩:web) a1) 40),.int .i64 ((s76 (⟨(⟨a0_Net_Nodes,(⟨a0_Net_Ties_n,zaa a0_Net_Ties_g⟩:(Sl Tie))⟩:Net),(⟨a0_out_n,a0_out_F⟩:Mp)⟩:web) a1) 41),.int .i64 ((s76 (⟨(⟨a0_Net_Nodes,(⟨a0_Net_Ties_n,zaa a0_Net_Ties_g⟩:(Sl Tie))⟩:Net),(⟨a0_out_n,a0_out_F⟩:Mp)⟩:web) a1) 42),.int .i64 ((s76 (⟨(⟨a0_Net_Nodes,(⟨a0_Net_Ties_n,zaa a0_Net_Ties_g⟩:(Sl Tie))⟩:Net),(⟨a0_out_n,a0_out_F⟩:Mp)⟩:web) a1) 43),.int .i64 ((s76 (⟨(⟨a0_Net_Nodes,(⟨a0_Net_Ties_n,zaa a0_Net_Ties_g⟩:(Sl Tie))⟩:Net),(⟨a0_out_n,a0_out_F⟩:Mp)⟩:web) a1) 44),.int .i64 ((s76 (⟨(⟨a0_Net_Nodes,(⟨a0_Net_Ties_n,zaa a0_Net_Ties_g⟩:(Sl Tie))⟩:Net),(⟨a0_out_n,a0_out_F⟩:Mp)⟩:web) a1) 45),.int .i64 ((s76 (⟨(⟨a0_Net_Nodes,(⟨a0_Net_Ties_n,zaa a0_Net_Ties_g⟩:(Sl Tie))⟩:Net),(⟨a0_out_n,a0_out_F⟩:Mp)⟩:web) a1) 46),.int .i64 ((s76 (⟨(⟨a0_Net_Nodes,(⟨a0_Net_Ties_n,zaa a0_Net_Ties_g⟩:(Sl Tie))⟩:Net),(⟨a0_out_n,a0_out_F⟩:Mp)⟩:web) a1) 47),.int .i64 ((s76 (⟨(⟨a0_Net_Nodes,(⟨a0_Net_Ties_n,zaa a0_Net_Ties_g⟩:(Sl Tie))⟩:Net),(⟨a0_out_n,a0_out_F⟩:Mp)⟩:web) a1) 48),.int .i64 ((s76 (⟨(⟨a0_Net_Nodes,(⟨a0_Net_Ties_n,zaa a0_Net_Ties_g⟩:(Sl Tie))⟩:Net),(⟨a0_out_n,a0_out_F⟩:Mp)⟩:web) a1) 49),.int .i64 ((s76 (⟨(⟨a0_Net_Nodes,(⟨a0_Net_Ties_n,zaa a0_Net_Ties_g⟩:(Sl Tie))⟩:Net),(⟨a0_out_n,a0_out_F⟩:Mp)⟩:web) a1) 50),.int .i64 ((s76 (⟨(⟨a0_Net_Nodes,(⟨a0_Net_Ties_n,zaa a0_Net_Ties_g⟩:(Sl Tie))⟩:Net),(⟨a0_out_n,a0_out_F⟩:Mp)⟩:web) a1) 51),.int .i64 ((s76 (⟨(⟨a0_Net_Nodes,(⟨a0_Net_Ties_n,zaa a0_Net_Ties_g⟩:(Sl Tie))⟩:Net),(⟨a0_out_n,a0_out_F⟩:Mp)⟩:web) a1) 52),.int .i64 ((s76 (⟨(⟨a0_Net_Nodes,(⟨a0_Net_Ties_n,zaa a0_Net_Ties_g⟩:(Sl Tie))⟩:Net),(⟨a0_out_n,a0_out_F⟩:Mp)⟩:web) a1) 53),.int .i64 ((s76 (⟨(⟨a0_Net_Nodes,(⟨a0_Net_Ties_n,zaa a0_Net_Ties_g⟩:(Sl Tie))⟩:Net),(⟨a0_out_n,a0_out_F⟩:Mp)⟩:web) a1) 54),.int .i64 ((s76 (⟨(⟨a0_Net_Nodes,(⟨a0_Net_Ties_n,zaa a0_Net_Ties_g⟩:(Sl Tie))⟩:Net),(⟨a0_out_n,a0_out_F⟩:Mp)⟩:web) a1) 55),.int .i64 ((s76 (⟨(⟨a0_Net_Nodes,(⟨a0_Net_Ties_n,zaa a0_Net_Ties_g⟩:(Sl Tie))⟩:Net),(⟨a0_out_n,a0_out_F⟩:Mp)⟩:web) a1) 56),.int .i64 ((s76 (⟨(⟨a0_Net_Nodes,(⟨a0_Net_Ties_n,zaa a0_Net_Ties_g⟩:(Sl Tie))⟩:Net),(⟨a0_out_n,a0_out_F⟩:Mp)⟩:web) a1) 57),.int .i64 ((s76 (⟨(⟨a0_Net_Nodes,(⟨a0_Net_Ties_n,zaa a0_Net_Ties_g⟩:(Sl Tie))⟩:Net),(⟨a0_out_n,a0_out_F⟩:Mp)⟩:web) a1) 58),.int .i64 ((s76 (⟨(⟨a0_Net_Nodes,(⟨a0_Net_Ties_n,zaa a0_Net_Ties_g⟩:(Sl Tie))⟩:Net),(⟨a0_out_n,a0_out_F⟩:Mp)⟩:web) a1) 59),.int .i64 ((s76 (⟨(⟨a0_Net_Nodes,(⟨a0_Net_Ties_n,zaa a0_Net_Ties_g⟩:(Sl Tie))⟩:Net),(⟨a0_out_n,a0_out_F⟩:Mp)⟩:web) a1) 60),.int .i64 ((s76 (⟨(⟨a0_Net_Nodes,(⟨a0_Net_Ties_n,zaa a0_Net_Ties_g⟩:(Sl Tie))⟩:Net),(⟨a0_out_n,a0_out_F⟩:Mp)⟩:web) a1) 61),.int .i64 ((s76 (⟨(⟨a0_Net_Nodes,(⟨a0_Net_Ties_n,zaa a0_Net_Ties_g⟩:(Sl Tie))⟩:Net),(⟨a0_out_n,a0_out_F⟩:Mp)⟩:web) a1) 62),.int .i64 ((s76 (⟨(⟨a0_Net_Nodes,(⟨a0_Net_Ties_n,zaa a0_Net_Ties_g⟩:(Sl Tie))⟩:Net),(⟨a0_out_n,a0_out_F⟩:Mp)⟩:web) a1) 63),.int .i64 ((s76 (⟨(⟨a0_Net_Nodes,(⟨a0_Net_Ties_n,zaa a0_Net_Ties_g⟩:(Sl Tie))⟩:Net),(⟨a0_out_n,a0_out_F⟩:Mp)⟩:web) a1) 64),.int .i64 ((s76 (⟨(⟨a0_Net_Nodes,(⟨a0_Net_Ties_n,zaa a0_Net_Ties_g⟩:(Sl Tie))⟩:Net),(⟨a0_out_n,a0_out_F⟩:Mp)⟩:web) a1) 65),.int .i64 ((s76 (⟨(⟨a0_Net_Nodes,(⟨a0_Net_Ties_n,zaa a0_Net_Ties_g⟩:(Sl Tie))⟩:Net),(⟨a0_out_n,a0_out_F⟩:Mp)⟩:web) a1) 66),.int .i64 ((s76 (⟨(⟨a0_Net_Nodes,(⟨a0_Net_Ties_n,zaa a0_Net_Ties_g⟩:(Sl Tie))⟩:Net),(⟨a0_out_n,a0_out_F⟩:Mp)⟩:web) a1) 67),.int .i64 ((s76 (⟨(⟨a0_Net_Nodes,(⟨a0_Net_Ties_n,zaa a0_Net_Ties_g⟩:(Sl Tie))⟩:Net),(⟨a0_out_n,a0_out_F⟩:Mp)⟩:web) a1) 68),.int .i64 ((s76 (⟨(⟨a0_Net_Nodes,(⟨a0_Net_Ties_n,zaa a0_Net_Ties_g⟩:(Sl Tie))⟩:Net),(⟨a0_out_n,a0_out_F⟩:Mp)⟩:web) a1) 69),.int .i64 ((s76 (⟨(⟨a0_Net_Nodes,(⟨a0_Net_Ties_n,zaa a0_Net_Ties_g⟩:(Sl Tie))⟩:Net),(⟨a0_out_n,a0_out_F⟩:Mp)⟩:web) a1) 70),.int .i64 ((s76 (⟨(⟨a0_Net_Nodes,(⟨a0_Net_Ties_n,zaa a0_Net_Ties_g⟩:(Sl Tie))⟩:Net),(⟨a0_out_n,a0_out_F⟩:Mp)⟩:web) a1) 71),.int .i64 ((s76 (⟨(⟨a0_Net_Nodes,(⟨a0_Net_Ties_n,zaa a0_Net_Ties_g⟩:(Sl Tie))⟩:Net),(⟨a0_out_n,a0_out_F⟩:Mp)⟩:web) a1) 72),.int .i64 ((s76 (⟨(⟨a0_Net_Nodes,(⟨a0_Net_Ties_n,zaa a0_Net_Ties_g⟩:(Sl Tie))⟩:Net),(⟨a0_out_n,a0_out_F⟩:Mp)⟩:web) a1) 73),.int .i64 ((s76 (⟨(⟨a0_Net_Nodes,(⟨a0_Net_Ties_n,zaa a0_Net_Ties_g⟩:(Sl Tie))⟩:Net),(⟨a0_out_n,a0_out_F⟩:Mp)⟩:web) a1) 74),.int .i64 ((s76 (⟨(⟨a0_Net_Nodes,(⟨a0_Net_Ties_n,zaa a0_Net_Ties_g⟩:(Sl Tie))⟩:Net),(⟨a0_out_n,a0_out_F⟩:Mp)⟩:web) a1) 75),.int .i64 ((s76 (⟨(⟨a0_Net_Nodes,(⟨a0_Net_Ties_n,zaa a0_Net_Ties_g⟩:(Sl Tie))⟩:Net),(⟨a0_out_n,a0_out_F⟩:Mp)⟩:web) a1) 76),.int .i64 ((s76 (⟨(⟨a0_Net_Nodes,(⟨a0_Net_Ties_n,zaa a0_Net_Ties_g⟩:(Sl Tie))⟩:Net),(⟨a0_out_n,a0_out_F⟩:Mp)⟩:web) a1) 77),.int .i64 ((s76 (⟨(⟨a0_Net_Nodes,(⟨a0_Net_Ties_n,zaa a0_Net_Ties_g⟩:(Sl Tie))⟩:Net),(⟨a0_out_n,a0_out_F⟩:Mp)⟩:web) a1) 78),.int .i64 ((s76 (⟨(⟨a0_Net_Nodes,(⟨a0_Net_Ties_n,zaa a0_Net_Ties_g⟩:(Sl Tie))⟩:Net),(⟨a0_out_n,a0_out_F⟩:Mp)⟩:web) a1) 79)]]
  | _=>.no
theorem zF3:zaq Tryd.prog 76:=⟨_,rfl,rfl,by kernel_rfl⟩
theorem zIh:Ok Tryd.prog 76 zvU:=zbG zIg zF3 fun args K h=>by
  unfold zvU at h
  split at h
  · rename_i a0_Net_Nodes a0_Net_Ties_n a0_Net_Ties_s a0_Net_Ties_g a0_out_q a0_out_n a0_out_F a1
    obtain ⟨⟨⟨rfl,a0_Net_Ties_f,rfl⟩,rfl,hs⟩,hk⟩:=h
    try rw [zan a0_Net_Ties_f] at hs
    try rw [zan a0_Net_Ties_f] at hk
    exact ⟨(fun _ _=>[]),(fun _=>false),zce,q76 (⟨(⟨a0_Net_Nodes,(⟨a0_Net_Ties_n,a0_Net_Ties_f⟩:(Sl Tie))⟩:Net),(⟨a0_out_n,a0_out_F⟩:Mp)⟩:web) a1 K hs hk⟩
  · exact h.elim
abbrev T26:Tabs:=(((Tabs.nil.addF 74 zvE).addF 75 zvO).addF 76 zvU)
theorem zIi:TabsOk Tryd.prog T26:=(((TabsOk.nil.addF zIc).addF zIf).addF zIh)
abbrev G26:Ctrs:=csm T26 (fun _ _=>[]) (fun _=>false)
def zCQ:Ann:=⟨45,[(0,zK [1] [1]),(1,zK [1,4,5] [1]),(2,zK [1,4,5,16] [1]),(3,zK [2,3] []),(4,zK [1,6,7] [1,6,7]),(5,zK [6,7,8] [6,7,24]),(6,zK [6,7,8,26,27] [6,7,24]),(7,zK [6,7,8,26,27,28] [6,7,24]),(8,zK [6,7,8,9,26,27] [6,7,24]),(9,zK [6,7,8,26,27] [6,7,24]),(10,zK [6,7,8,26,27] [6,7,24]),(11,zK [2,3] [24])],
 [(7,zK [6,7,8,26,27] [6,7,24])],
 [],
 [],[]⟩
abbrev R26:=((Sl Span)×Int)
abbrev e26 (r:R26):List PA:=[.one (.sl r.1.len 2 (fun i=>zaW (r.1.get i))),.one (.int .i64 r.2)]
@[irreducible] def z26:=ptF Tryd.prog G26 zCQ Tryd.f26
def zAX (n:Net) (zcf:Int) (zcM:(Sl Span)) (tot0:Tab) (fromt0:Tab) (zfc:Nat→List PV):St:=⟨[(6,zp 6 0),(7,zp 7 0),(8,zv 24),(26,zI (n.Nodes.toNat:Int)),(27,zI zcf)],[(6,.box 116 (zm (zad tot0))),(7,.box 116 (zm (zad fromt0))),(24,.vec 43 2 16 zcM.len zfc)],[]⟩
abbrev zF4 (K:List PA→Prop) (n:Net) (X:St→Prop) (P:Int→(Sl Span)→Tab→Tab→Bool) (S:Int→(Sl Span)→Tab→Tab→((Sl Span)×Int)):Prop:=∀ ⦃zcf:Int⦄ ⦃zcM:(Sl Span)⦄ ⦃tot0:Tab⦄ ⦃fromt0:Tab⦄ ⦃zfc:Nat→List PV⦄,P zcf zcM tot0 fromt0=true→K (e26 (S zcf zcM tot0 fromt0))→zfc=zg zaW zcM→X (zAX n zcf zcM tot0 fromt0 zfc)
section
variable {K:List PA→Prop} {n:Net} {zcf:Int} {zcM:(Sl Span)} {tot0:Tab} {fromt0:Tab} {zfc:Nat→List PV} {X0:St→Prop} {P0:Int→(Sl Span)→Tab→Tab→Bool} {S0:Int→(Sl Span)→Tab→Tab→((Sl Span)×Int)}
def zhJ (n:Net) (S0:Int→(Sl Span)→Tab→Tab→((Sl Span)×Int)) (zcf:Int) (zcM:(Sl Span)) (tot0:Tab) (fromt0:Tab):((Sl Span)×Int) :=
  (cond (decide (zcf < (n.Nodes.toNat : Int)))
 (S0 (w64 (zcf+(1:Int))) (⟨zcM.len,(setT zcf.toNat (⟨(w64 (0 - (tg 80 tot0 (0+zcf.toNat * 2+0)))),(tg 80 fromt0 (0+zcf.toNat * 2+0))⟩:Span) zcM.get)⟩:Sl Span) tot0 fromt0)
 (zcM,(0:Int)))
def zhK (n:Net) (P0:Int→(Sl Span)→Tab→Tab→Bool) (zcf:Int) (zcM:(Sl Span)) (tot0:Tab) (fromt0:Tab):Bool :=
  (cond (decide (zcf < (n.Nodes.toNat : Int)))
 (decide ((0≤zcf∧zcf < (40:Int))) &&
 (decide ((0≤zcf∧zcf < (40:Int))) &&
 (decide ((0≤zcf∧zcf < (zcM.len:Int))) &&
 (decide ((zcf.toNat < zcM.len)) &&
 (P0 (w64 (zcf+(1:Int))) (⟨zcM.len,(setT zcf.toNat (⟨(w64 (0 - (tg 80 tot0 (0+zcf.toNat * 2+0)))),(tg 80 fromt0 (0+zcf.toNat * 2+0))⟩:Span) zcM.get)⟩:Sl Span) tot0 fromt0)))))
 true)
def zgv (n:Net):Nat→Int→(Sl Span)→Tab→Tab→((Sl Span)×Int):=lpO (fun _ _ _ _=>default) (zhJ n)
def zgw (n:Net):Nat→Int→(Sl Span)→Tab→Tab→Bool:=lpO (fun _ _ _ _=>false) (zhK n)
def zvV (n:Net) (zcf:Int) (zcM:(Sl Span)) (tot0:Tab) (fromt0:Tab):((Sl Span)×Int):=zgv n Fuel zcf zcM tot0 fromt0
def zql (n:Net) (zcf:Int) (zcM:(Sl Span)) (tot0:Tab) (fromt0:Tab):Bool:=zgw n Fuel zcf zcM tot0 fromt0
theorem zCR (hs:zql n zcf zcM tot0 fromt0=true) (hk:K (e26 (zvV n zcf zcM tot0 fromt0))) (zqm:zfc=zg zaW zcM):z26 (Wk K) [1,1,1,1,1,0,1,0] [] (zAX n zcf zcM tot0 fromt0 zfc) :=
  zl (fun X=>z26 (Wk K) [1,1,1,1,1,0,1,0,0] [X]) (by kernel_rfl) fun X0 hX =>
  (show ∀ k, zF4 K n X0 (zgw n k) (zgv n k) from zk5 _ _ (zhK n) (zhJ n) (zF4 K n X0)
 (by intro _ _ _ _ _ hs;exact absurd hs Bool.false_ne_true)
 (by intro P0 S0 hX0 zcf zcM tot0 fromt0 zfc hs hk zqm;subst zqm;exact hX _ (zbd (by kernel_rfl) (zc hs hk (fun hs hk=>(za0 hs fun hc hs=>And.intro hc (za0 hs fun hc hs=>And.intro hc (za0 hs fun hc hs=>And.intro hc (za0 hs fun hc hs=>And.intro hc (hX0 hs hk (zlE (enc:=zaW) (i:=zcf.toNat) (k:=0) (f:=zcM.get) (new:=(zaW (⟨(w64 (0 - (tg 80 tot0 (0+zcf.toNat * 2+0)))),(tg 80 fromt0 (0+zcf.toNat * 2+0))⟩:Span))) (v:=(⟨(w64 (0 - (tg 80 tot0 (0+zcf.toNat * 2+0)))),(tg 80 fromt0 (0+zcf.toNat * 2+0))⟩:Span)) rfl rfl))))))) (fun hs hk=>((zf2 hk):Wk K [.one (.sl zcM.len 2 (fun i=>zaW (zcM.get i))),.one (.int .i64 (0:Int))])))))) _ hs hk zqm
def s26 (n:Net):((Sl Span)×Int) :=
  (cond ((s74 n (⟨0, fun _ => default⟩ : (Sl Int))).2 == 0)
 (cond ((0:Int) != (0:Int))
 ((⟨0,fun _=>default⟩:(Sl Span)),(0:Int))
 (zvV n (0:Int) (⟨n.Nodes.toNat,(fun _=>(⟨(0:Int),(0:Int)⟩:Span))⟩:Sl Span) (s75 (⟨(s74 n (⟨0,fun _=>default⟩:(Sl Int))).1.Net,((s74 n (⟨0,fun _=>default⟩:(Sl Int))).1.out)⟩:web) (0:Int)) (s76 (⟨(s74 n (⟨0,fun _=>default⟩:(Sl Int))).1.Net,((s74 n (⟨0,fun _=>default⟩:(Sl Int))).1.out)⟩:web) (0:Int))))
 (cond ((s74 n (⟨0, fun _ => default⟩ : (Sl Int))).2 != (0:Int))
 ((⟨0,fun _=>default⟩:(Sl Span)),(s74 n (⟨0,fun _=>default⟩:(Sl Int))).2)
 default))
def p26 (n:Net):Bool :=
  (cond ((s74 n (⟨0, fun _ => default⟩ : (Sl Int))).2 == 0)
 (decide ((p74 n (⟨0,fun _=>default⟩:(Sl Int))=true)) &&
 (cond ((0:Int) != (0:Int))
 true
 (decide ((p75 (⟨(s74 n (⟨0,fun _=>default⟩:(Sl Int))).1.Net,((s74 n (⟨0,fun _=>default⟩:(Sl Int))).1.out)⟩:web) (0:Int)=true)) &&
 (decide ((p76 (⟨(s74 n (⟨0,fun _=>default⟩:(Sl Int))).1.Net,((s74 n (⟨0,fun _=>default⟩:(Sl Int))).1.out)⟩:web) (0:Int)=true)) &&
 (decide ((0≤n.Nodes∧n.Nodes=n.Nodes∧n.Nodes≤1000000)) &&
 (zql n (0:Int) (⟨n.Nodes.toNat,(fun _=>(⟨(0:Int),(0:Int)⟩:Span))⟩:Sl Span) (s75 (⟨(s74 n (⟨0,fun _=>default⟩:(Sl Int))).1.Net,((s74 n (⟨0,fun _=>default⟩:(Sl Int))).1.out)⟩:web) (0:Int)) (s76 (⟨(s74 n (⟨0,fun _=>default⟩:(Sl Int))).1.Net,((s74 n (⟨0,fun _=>default⟩:(Sl Int))).1.out)⟩:web) (0:Int))))))))
 (decide ((p74 n (⟨0,fun _=>default⟩:(Sl Int))=true)) &&
 (cond ((s74 n (⟨0, fun _ => default⟩ : (Sl Int))).2 != (0:Int))
 true
 false)))
end
theorem q26 (n:Net) (K:List PA→Prop) (hs:p26 n=true) (hk:K (e26 (s26 n))):vcFun Tryd.prog G26 zCQ 26 [.agg (enc_24 n)] (Wk K) :=
  zbd (by kernel_rfl) (zc hs hk (fun hs hk=>(za0 hs fun hc hs=>And.intro (And.intro (zE enc_40 4 n.Ties.get) hc) (zc hs hk (fun hs hk=>((wk hk (zhk (.one (.nil _ _)) (zhk (.one (.rfl _)) zn7))):Wk K [.one (.nils),.one (.int .i64 (0:Int))])) (fun hs hk=>(za0 hs fun hc hs=>And.intro (And.intro (zE enc_40 4 ((s74 n (⟨0,fun _=>default⟩:(Sl Int))).1.Net.Ties.get)) (And.intro (rfl:((false,1,false,[none]):MQ)=(false,1,false,[none])) hc)) (za0 hs fun hc hs=>And.intro (And.intro (zE enc_40 4 ((s74 n (⟨0,fun _=>default⟩:(Sl Int))).1.Net.Ties.get)) (And.intro (rfl:((false,1,false,[none]):MQ)=(false,1,false,[none])) hc)) (za0 hs fun hc hs=>And.intro hc (zCR hs hk rfl)))))))) (fun hs hk=>(za0 hs fun hc hs=>And.intro (And.intro (zE enc_40 4 n.Ties.get) hc) (zc hs hk (fun hs hk=>((wk hk (zhk (.one (.nil _ _)) (zhk (.one (.rfl _)) zn7))):Wk K [.one (.nils),.one (.int .i64 ((s74 n (⟨0,fun _=>default⟩:(Sl Int))).2))])) (fun hs hk=>(absurd hs Bool.false_ne_true:False))))))
def zzV : List PA → COut
  | [.agg [.int .i64 a0_Nodes,.sl a0_Ties_n a0_Ties_s a0_Ties_g]]=>.det (IsE enc_40 4 a0_Ties_s a0_Ties_g∧p26 (⟨a0_Nodes,(⟨a0_Ties_n,zaa a0_Ties_g⟩:(Sl Tie))⟩:Net)=true) [.one (.sl (((s26 (⟨a0_Nodes,(⟨a0_Ties_n,zaa a0_Ties_g⟩:(Sl Tie))⟩:Net)).1).len) 2 (fun i=>zaW (((s26 (⟨a0_Nodes,(⟨a0_Ties_n,zaa a0_Ties_g⟩:(Sl Tie))⟩:Net)).1).get i))),.one (.int .i64 ((s26 (⟨a0_Nodes,(⟨a0_Ties_n,zaa a0_Ties_g⟩:(Sl Tie))⟩:Net)).2))]
  | _=>.no
theorem zF5:zaq Tryd.prog 26:=⟨_,rfl,rfl,by kernel_rfl⟩
theorem zJh:Ok Tryd.prog 26 zzV:=zhy zIi zF5 fun args K h=>by
  unfold zzV at h
  split at h
  · rename_i a0_Nodes a0_Ties_n a0_Ties_s a0_Ties_g
    obtain ⟨⟨⟨rfl,a0_Ties_f,rfl⟩,hs⟩,hk⟩:=h
    try rw [zan a0_Ties_f] at hs
    try rw [zan a0_Ties_f] at hk
    exact ⟨_,ze8 zf1 _,(fun _ _=>[]),(fun _=>false),zCQ,q26 (⟨a0_Nodes,(⟨a0_Ties_n,a0_Ties_f⟩:(Sl Tie))⟩:Net) K hs hk⟩
  · exact h.elim
abbrev T29:Tabs:=Tabs.nil
theorem zIj:TabsOk Tryd.prog T29:=TabsOk.nil
abbrev G29:Ctrs:=csm T29 (fun _ _=>[]) (fun _=>false)
def zF6:Ann:=⟨13,[(0,zK [2,3,4] [2,3,4]),(1,zK [2,4] [2,4,7]),(2,zK [4] [4,7])],
 [],
 [],
 [],[]⟩
abbrev R29:=Net
abbrev e29 (r:R29):List PA:=[.agg [.int .i64 r.Nodes,.sl r.Ties.len 4 (fun i=>enc_40 (r.Ties.get i))]]
section
variable {K:List PA→Prop} {n:Net} {t:Tie}
def s29 (n:Net) (t:Tie):Net :=
  (⟨n.Nodes,(⟨(n.Ties.len+1),(zlC n.Ties.len n.Ties.get (fun _=>t))⟩:(Sl Tie))⟩:Net)
def p29 (n:Net) (t:Tie):Bool :=
  (decide ((n.Ties.len * 32≤140737488355328∧n.Ties.len≤9223372036854775807)) &&
 (decide (((n.Ties.len+1) * 32≤140737488355328∧n.Ties.len+1≤9223372036854775807)) &&
 true))
end
theorem q29 (n:Net) (t:Tie) (K:List PA→Prop) (hs:p29 n t=true) (hk:K (e29 (s29 n t))):vcFun Tryd.prog G29 zF6 29 [.agg (enc_24 n),.agg (enc_40 t)] K :=
  zbd (by kernel_rfl) (za0 hs fun hc hs=>And.intro hc (za0 hs fun hc hs=>And.intro hc (Eq.mpr (congrArg K (congrArg (fun (g_:Nat→List PV)=>([.agg [.int .i64 n.Nodes,.sl (n.Ties.len+1) 4 g_]]:List PA)) (zlD (enc:=enc_40) (f:=n.Ties.get) (h:=(fun _=>t)) rfl rfl))) hk)))
def zzW : List PA → COut
  | [.agg [.int .i64 a0_Nodes,.sl a0_Ties_n a0_Ties_s a0_Ties_g],.agg [.int .i64 a1_From,.int .i64 a1_To,.int .i64 a1_Low,.int .i64 a1_High]]=>.det (IsE enc_40 4 a0_Ties_s a0_Ties_g∧p29 (⟨a0_Nodes,(⟨a0_Ties_n,zaa a0_Ties_g⟩:(Sl Tie))⟩:Net) (⟨a1_From,a1_To,a1_Low,a1_High⟩:Tie)=true) [.agg [.int .i64 ((s29 (⟨a0_Nodes,(⟨a0_Ties_n,zaa a0_Ties_g⟩:(Sl Tie))⟩:Net) (⟨a1_From,a1_To,a1_Low,a1_High⟩:Tie)).Nodes),.sl ((s29 (⟨a0_Nodes,(⟨a0_Ties_n,zaa a0_Ties_g⟩:(Sl Tie))⟩:Net) (⟨a1_From,a1_To,a1_Low,a1_High⟩:Tie)).Ties.len) 4 (fun i=>enc_40 ((s29 (⟨a0_Nodes,(⟨a0_Ties_n,zaa a0_Ties_g⟩:(Sl Tie))⟩:Net) (⟨a1_From,a1_To,a1_Low,a1_High⟩:Tie)).Ties.get i))]]
  | _=>.no
theorem zF7:zaq Tryd.prog 29:=⟨_,rfl,rfl,by kernel_rfl⟩
theorem zJi:Ok Tryd.prog 29 zzW:=zbG zIj zF7 fun args K h=>by
  unfold zzW at h
  split at h
  · rename_i a0_Nodes a0_Ties_n a0_Ties_s a0_Ties_g a1_From a1_To a1_Low a1_High
    obtain ⟨⟨⟨rfl,a0_Ties_f,rfl⟩,hs⟩,hk⟩:=h
    try rw [zan a0_Ties_f] at hs
    try rw [zan a0_Ties_f] at hk
    exact ⟨(fun _ _=>[]),(fun _=>false),zF6,q29 (⟨a0_Nodes,(⟨a0_Ties_n,a0_Ties_f⟩:(Sl Tie))⟩:Net) (⟨a1_From,a1_To,a1_Low,a1_High⟩:Tie) K hs hk⟩
  · exact h.elim
abbrev zJj:Tabs:=(((Tabs.nil.addF 93 zn9).addF 104 zof).addI 110 zob)
theorem zF8:TabsOk Tryd.prog zJj:=(((TabsOk.nil.addF zEV).addF zCD).addI ztw)
abbrev zeU:Ctrs:=csm zJj (fun _ _=>[]) (fun _=>false)
def za3:Ann:=⟨91,[(0,⟨[0,2,4],[4],[],[],[],[],[]⟩),(1,⟨[0,2,4,7],[4,7,15],[],[],[],[],[]⟩),(2,⟨[0,2,4,7,17,18],[4,7,15],[],[],[],[],[]⟩),(3,⟨[0,2,4,7,17,18,19],[4,7,15],[],[],[],[],[]⟩),(4,⟨[0,2,4,7,8,17,18],[4,7,15],[],[],[],[],[]⟩),(5,⟨[0,2,4,7,8,17,18,21],[4,7,15],[],[],[],[],[]⟩),(6,⟨[0,2,4,7,8,17,18,21,22],[4,7,15],[],[],[],[],[]⟩),(7,⟨[0,2,4,7,8,9,17,18,21],[4,7,15],[],[],[],[],[]⟩),(8,⟨[0,2,4,7,8,17,18,21],[4,7,15],[],[],[],[],[]⟩),(9,⟨[0,2,4,7,8,17,18,21],[4,7,15],[],[],[],[],[]⟩),(10,⟨[0,2,4,7,17,18],[4,7,15],[],[],[],[],[]⟩),(11,⟨[0,2,4,7],[4,7,15],[],[],[],[],[]⟩),(12,⟨[0,2,4,7,10],[4,7,10,15],[],[],[],[],[]⟩),(13,⟨[0,2,4,7,10,39],[4,7,10,15],[],[],[],[],[]⟩),(14,⟨[0,2,4,7,10],[4,7,10,15],[],[],[],[],[]⟩),(15,⟨[0,2,4,7,10,43],[4,7,10,15],[],[],[],[],[]⟩),(16,⟨[0,2,4,7,10,11,43],[4,7,10,11,15],[],[],[],[],[]⟩),(17,⟨[0,2,4,7,10,11,12,43],[4,7,10,11,12,15],[],[],[],[],[]⟩),(18,⟨[0,2,4,7,10,11,12,43,67],[4,7,10,11,12,15],[],[],[],[],[]⟩),(19,⟨[0,2,4,7,10,43],[4,7,10,15],[],[],[],[],[]⟩),(20,⟨[0,2,4,7,89],[4,7,15],[],[],[],[],[]⟩),(21,⟨[0,2,4,7,10],[4,7,10,15],[],[],[],[],[]⟩),(22,⟨[6],[15],[],[],[],[],[]⟩)],
 [(3,⟨[0,2,4,7,17,18],[4,7,15],[],[],[],[],[]⟩),(6,⟨[0,2,4,7,8,17,18,21],[4,7,15],[],[],[],[],[]⟩),(13,⟨[0,2,4,7,10],[4,7,10,15],[],[],[],[],[]⟩),(16,⟨[0,2,4,7,10,43],[4,7,10,15],[],[],[],[],[]⟩)],
 [(11,⟨[0,2,4,7],[4,7,15],[],[],[],[],[]⟩)],
 [],[]⟩
def zfd (w:web) (node:Int) (uses:Int) (zbH:Int) (zfe:Nat) (zbV:Nat→List PV):St:=⟨[(0,.one (.c (.p (.fp (zau w) 0)))),(2,.one (.c (.p (.int .i64 uses)))),(4,.one (.c (.ptr 4 0))),(7,.one (.c (.ptr 7 0))),(17,.one (.c (.p (.int .i64 ((w64 (uses+(1:Int))).toNat:Int))))),(18,.one (.c (.p (.int .i64 zbH))))],[(4,.box 3 [.p (.int .i64 node)]),(7,.box 159 [.vec 15]),(15,.vec 116 80 640 zfe zbV)],[]⟩
def zg0 (K:List PA→Prop) (w:web) (node:Int) (uses:Int) (zbH:Int) (zfe:Nat) (zbV:Nat→List PV):Prop:=vc Tryd.prog zeU za3 (cdF Tryd.f106 [1,1,0,1,0]) (zaj 0 (sqK Tryd.prog zeU za3 (cdF Tryd.f106 [1,1,1]) (za9 Tryd.prog Tryd.f106 K))) (zfd w node uses zbH zfe zbV)
def zgx (w:web) (node:Int) (uses:Int) (iv1:Int) (zbB:Int) (zbu:Int) (zff:Nat) (zch:Nat→List PV):St:=⟨[(0,.one (.c (.p (.fp (zau w) 0)))),(2,.one (.c (.p (.int .i64 uses)))),(4,.one (.c (.ptr 4 0))),(7,.one (.c (.ptr 7 0))),(8,.one (.c (.p (.int .i64 iv1)))),(17,.one (.c (.p (.int .i64 ((w64 (uses+(1:Int))).toNat:Int))))),(18,.one (.c (.p (.int .i64 zbB)))),(21,.one (.c (.p (.int .i64 zbu))))],[(4,.box 3 [.p (.int .i64 node)]),(7,.box 159 [.vec 15]),(15,.vec 116 80 640 zff zch)],[]⟩
def zg1 (K:List PA→Prop) (X0:St→Prop) (w:web) (node:Int) (uses:Int) (iv1:Int) (zbB:Int) (zbu:Int) (zff:Nat) (zch:Nat→List PV):Prop:=vc Tryd.prog zeU za3 (cdF Tryd.f106 [1,1,0,1,0,0,1,1,0,0,1,1,0]) (zaj 2 (zaj 1 (sqK Tryd.prog zeU za3 (cdF Tryd.f106 [1,1,0,1,0,0,1,1,1]) (zba Tryd.prog za3 3 X0 (zaj 0 (sqK Tryd.prog zeU za3 (cdF Tryd.f106 [1,1,1]) (za9 Tryd.prog Tryd.f106 K))))))) (zgx w node uses iv1 zbB zbu zff zch)
def zCS (w:web) (node:Int) (uses:Int) (zqn:Nat) (zhL:Nat→List PV):St:=⟨[(0,.one (.c (.p (.fp (zau w) 0)))),(2,.one (.c (.p (.int .i64 uses)))),(4,.one (.c (.ptr 4 0))),(7,.one (.c (.ptr 7 0)))],[(4,.box 3 [.p (.int .i64 node)]),(7,.box 159 [.vec 15]),(15,.vec 116 80 640 zqn zhL)],[]⟩
def ziK (K:List PA→Prop) (w:web) (node:Int) (uses:Int) (zqn:Nat) (zhL:Nat→List PV):Prop:=vc Tryd.prog zeU za3 (cdF Tryd.f106 [1,1,1]) (za9 Tryd.prog Tryd.f106 K) (zCS w node uses zqn zhL)
def zfg (w:web) (node:Int) (uses:Int) (kv3:Int) (zfh:Nat) (zbW:Nat→List PV):St:=⟨[(0,.one (.c (.p (.fp (zau w) 0)))),(2,.one (.c (.p (.int .i64 uses)))),(4,.one (.c (.ptr 4 0))),(7,.one (.c (.ptr 7 0))),(10,.one (.c (.ptr 10 0)))],[(4,.box 3 [.p (.int .i64 node)]),(7,.box 159 [.vec 15]),(10,.box 3 [.p (.int .i64 kv3)]),(15,.vec 116 80 640 zfh zbW)],[]⟩
def zg2 (K:List PA→Prop) (w:web) (node:Int) (uses:Int) (kv3:Int) (zfh:Nat) (zbW:Nat→List PV):Prop:=vc Tryd.prog zeU za3 (cdF Tryd.f106 [1,1,1,1,0,1,0]) (zaj 4 (sqK Tryd.prog zeU za3 (cdF Tryd.f106 [1,1,1,1,1]) (za9 Tryd.prog Tryd.f106 K))) (zfg w node uses kv3 zfh zbW)
def zc9 (w:web) (node:Int) (uses:Int) (kv4:Int) (zfi:Nat) (zci:Nat→List PV):St:=⟨[(0,.one (.c (.p (.fp (zau w) 0)))),(2,.one (.c (.p (.int .i64 uses)))),(4,.one (.c (.ptr 4 0))),(7,.one (.c (.ptr 7 0))),(10,.one (.c (.ptr 10 0))),(43,.one (.c (.p (.fn 110 [] [.fp [.fp (zau w) 0] 0]))))],[(4,.box 3 [.p (.int .i64 node)]),(7,.box 159 [.vec 15]),(10,.box 3 [.p (.int .i64 kv4)]),(15,.vec 116 80 640 zfi zci)],[]⟩
def zg3 (K:List PA→Prop) (X3:St→Prop) (w:web) (node:Int) (uses:Int) (kv4:Int) (zfi:Nat) (zci:Nat→List PV):Prop:=vc Tryd.prog zeU za3 (cdF Tryd.f106 [1,1,1,1,0,1,0,0,1,0,0,1,0]) (zaj 6 (zaj 5 (sqK Tryd.prog zeU za3 (cdF Tryd.f106 [1,1,1,1,0,1,0,0,1,1]) (zba Tryd.prog za3 13 X3 (zaj 4 (sqK Tryd.prog zeU za3 (cdF Tryd.f106 [1,1,1,1,1]) (za9 Tryd.prog Tryd.f106 K))))))) (zc9 w node uses kv4 zfi zci)
theorem zzX (w : web) (node : Int) (uses : Int) (K : List PA → Prop) :
  vcFun Tryd.prog zeU za3 106 [.one (.fp (zau w) 0),.one (.int .i64 node),.one (.int .i64 uses)] K =
  (((0≤(w64 (uses+(1:Int)))∧(w64 (uses+(1:Int)))=(w64 (uses+(1:Int)))∧(w64 (uses+(1:Int)))≤1000000)) ∧
 (zg0 K w node uses (0:Int) ((w64 (uses+(1:Int))).toNat) (fun _=>(zad (fun _=>(0:Int)))))):=by kernel_rfl
def zlG (K:List PA→Prop) (X0:St→Prop) (w:web) (node:Int) (uses:Int) (zbH:Int) (zbK:(Sl Tab)):Prop :=
  (zby (decide (zbH < ((w64 (uses + (1:Int))).toNat : Int)))
 (zg1 K X0 w node uses zbH zbH (0:Int) zbK.len (fun i=>zad (zbK.get i)))
 (ziK K w node uses zbK.len (fun i=>zad (zbK.get i))))
theorem zoo (K : List PA → Prop) (X0 : St → Prop) (w : web) (node : Int) (uses : Int) (zbH : Int) (zbK : (Sl Tab)) :
  vc Tryd.prog zeU za3 (cd (cdF Tryd.f106 [1,1,0,1,0]) [0]) (zba Tryd.prog za3 3 X0 (zaj 0 (sqK Tryd.prog zeU za3 (cdF Tryd.f106 [1,1,1]) (za9 Tryd.prog Tryd.f106 K)))) (zfd w node uses zbH zbK.len (fun i=>zad (zbK.get i))) =
  zlG K X0 w node uses zbH zbK:=by kernel_rfl
theorem ztx (K : List PA → Prop) (w : web) (node : Int) (uses : Int) (zbH : Int) (zfe : Nat) (zbV : Nat → List PV)
  (h:∀ X0:St→Prop,(∀ (zbH:Int) (zbK:(Sl Tab)),zlG K X0 w node uses zbH zbK→X0 (zfd w node uses zbH zbK.len (fun i=>zad (zbK.get i))))→X0 (zfd w node uses zbH zfe zbV)) :
  zg0 K w node uses zbH zfe zbV:=by
  have e:zg0 K w node uses zbH zfe zbV=(∀ X:St→Prop,(∀ s,vc Tryd.prog zeU za3 (cd (cdF Tryd.f106 [1,1,0,1,0]) [0]) (zba Tryd.prog za3 3 X (zaj 0 (sqK Tryd.prog zeU za3 (cdF Tryd.f106 [1,1,1]) (za9 Tryd.prog Tryd.f106 K)))) s→X s)→X (zfd w node uses zbH zfe zbV)):=by kernel_rfl
  refine zbd e ?_
  intro X hX
  refine h X ?_
  intro zbH zbK hs
  refine hX _ ?_
  have e2:=zoo K X w node uses zbH zbK
  rw [e2]
  exact hs
def zlH (K:List PA→Prop) (X0:St→Prop) (X1:St→Prop) (w:web) (node:Int) (uses:Int) (iv1:Int) (zbB:Int) (zbu:Int) (zbq:(Sl Tab)):Prop :=
  (zby (decide (zbu < (40:Int)))
 (((0≤iv1∧iv1 < (zbq.len:Int))) ∧
 (((0≤zbu∧zbu < (40:Int))) ∧
 (((iv1.toNat < zbq.len)) ∧
 (X1 (zgx w node uses iv1 zbB (w64 (zbu+(1:Int))) zbq.len (ziz iv1.toNat 0 (fun i=>zad (zbq.get i)) (zad (ts 80 (zbq.get iv1.toNat) (0+zbu.toNat * 2+0) [(1000000000000:Int),(0:Int)]))))))))
 (X0 (zfd w node uses (w64 (zbB+(1:Int))) zbq.len (fun i=>zad (zbq.get i)))))
theorem zop (K : List PA → Prop) (X0 : St → Prop) (X1 : St → Prop) (w : web) (node : Int) (uses : Int) (iv1 : Int) (zbB : Int) (zbu : Int) (zbq : (Sl Tab)) :
  vc Tryd.prog zeU za3 (cd (cdF Tryd.f106 [1,1,0,1,0,0,1,1,0,0,1,1,0]) [0]) (zba Tryd.prog za3 6 X1 (zaj 2 (zaj 1 (sqK Tryd.prog zeU za3 (cdF Tryd.f106 [1,1,0,1,0,0,1,1,1]) (zba Tryd.prog za3 3 X0 (zaj 0 (sqK Tryd.prog zeU za3 (cdF Tryd.f106 [1,1,1]) (za9 Tryd.prog Tryd.f106 K)))))))) (zgx w node uses iv1 zbB zbu zbq.len (fun i=>zad (zbq.get i))) =
  zlH K X0 X1 w node uses iv1 zbB zbu zbq:=by kernel_rfl
theorem zty (K : List PA → Prop) (X0 : St → Prop) (w : web) (node : Int) (uses : Int) (iv1 : Int) (zbB : Int) (zbu : Int) (zff : Nat) (zch : Nat → List PV)
  (h:∀ X1:St→Prop,(∀ (iv1:Int) (zbB:Int) (zbu:Int) (zbq:(Sl Tab)),zlH K X0 X1 w node uses iv1 zbB zbu zbq→X1 (zgx w node uses iv1 zbB zbu zbq.len (fun i=>zad (zbq.get i))))→X1 (zgx w node uses iv1 zbB zbu zff zch)) :
  zg1 K X0 w node uses iv1 zbB zbu zff zch:=by
  have e:zg1 K X0 w node uses iv1 zbB zbu zff zch=(∀ X:St→Prop,(∀ s,vc Tryd.prog zeU za3 (cd (cdF Tryd.f106 [1,1,0,1,0,0,1,1,0,0,1,1,0]) [0]) (zba Tryd.prog za3 6 X (zaj 2 (zaj 1 (sqK Tryd.prog zeU za3 (cdF Tryd.f106 [1,1,0,1,0,0,1,1,1]) (zba Tryd.prog za3 3 X0 (zaj 0 (sqK Tryd.prog zeU za3 (cdF Tryd.f106 [1,1,1]) (za9 Tryd.prog Tryd.f106 K)))))))) s→X s)→X (zgx w node uses iv1 zbB zbu zff zch)):=by kernel_rfl
  refine zbd e ?_
  intro X hX
  refine h X ?_
  intro iv1 zbB zbu zbq hs
  refine hX _ ?_
  have e2:=zop K X0 X w node uses iv1 zbB zbu zbq
  rw [e2]
  exact hs
theorem zzY (K : List PA → Prop) (w : web) (node : Int) (uses : Int) (zcC : (Sl Tab)) :
  ziK K w node uses zcC.len (fun i=>zad (zcC.get i)) =
  (((0≤(0:Int)∧(0:Int) < (zcC.len:Int))) ∧
 (((0≤node∧node < (40:Int))) ∧
 (((0 < zcC.len)) ∧
 (zg2 K w node uses (1:Int) zcC.len (ziz 0 0 (fun i=>zad (zcC.get i)) (zad (ts 80 (zcC.get 0) (0+node.toNat * 2+0) [(0:Int),(0:Int)]))))))):=by kernel_rfl
def zlI (K:List PA→Prop) (X3:St→Prop) (w:web) (node:Int) (uses:Int) (kv3:Int) (zbN:(Sl Tab)):Prop :=
  (zby (decide (kv3 ≤ uses))
 ((IsE enc_40 4 4 (fun i=>enc_40 (w.Net.Ties.get i))∧((false,1,false,[none]):MQ)=(false,1,false,[none])) ∧
 (zg3 K X3 w node uses kv3 zbN.len (fun i=>zad (zbN.get i))))
 (K [.one (.sl zbN.len 80 (fun i=>zad (zbN.get i)))]))
theorem zoq (K : List PA → Prop) (X3 : St → Prop) (w : web) (node : Int) (uses : Int) (kv3 : Int) (zbN : (Sl Tab)) :
  vc Tryd.prog zeU za3 (cd (cdF Tryd.f106 [1,1,1,1,0,1,0]) [0]) (zba Tryd.prog za3 13 X3 (zaj 4 (sqK Tryd.prog zeU za3 (cdF Tryd.f106 [1,1,1,1,1]) (za9 Tryd.prog Tryd.f106 K)))) (zfg w node uses kv3 zbN.len (fun i=>zad (zbN.get i))) =
  zlI K X3 w node uses kv3 zbN:=by kernel_rfl
theorem ztz (K : List PA → Prop) (w : web) (node : Int) (uses : Int) (kv3 : Int) (zfh : Nat) (zbW : Nat → List PV)
  (h:∀ X3:St→Prop,(∀ (kv3:Int) (zbN:(Sl Tab)),zlI K X3 w node uses kv3 zbN→X3 (zfg w node uses kv3 zbN.len (fun i=>zad (zbN.get i))))→X3 (zfg w node uses kv3 zfh zbW)) :
  zg2 K w node uses kv3 zfh zbW:=by
  have e:zg2 K w node uses kv3 zfh zbW=(∀ X:St→Prop,(∀ s,vc Tryd.prog zeU za3 (cd (cdF Tryd.f106 [1,1,1,1,0,1,0]) [0]) (zba Tryd.prog za3 13 X (zaj 4 (sqK Tryd.prog zeU za3 (cdF Tryd.f106 [1,1,1,1,1]) (za9 Tryd.prog Tryd.f106 K)))) s→X s)→X (zfg w node uses kv3 zfh zbW)):=by kernel_rfl
  refine zbd e ?_
  intro X hX
  refine h X ?_
  intro kv3 zbN hs
  refine hX _ ?_
  have e2:=zoq K X w node uses kv3 zbN
  rw [e2]
  exact hs
def zlJ (K:List PA→Prop) (X3:St→Prop) (w:web) (node:Int) (uses:Int) (kv4:Int) (zat:(Sl Tab)):Prop :=
  (X3 (zfg w node uses (w64 (kv4+(1:Int))) zat.len (fun i=>zad (zat.get i))))
def zlK (K:List PA→Prop) (X3:St→Prop) (X4:List (List PA)→St→Prop) (y4:step) (rest4:List (List PA)) (w:web) (node:Int) (uses:Int) (kv4:Int) (zat:(Sl Tab)):Prop :=
  (((0≤(w64 (kv4 - (1:Int)))∧(w64 (kv4 - (1:Int))) < (zat.len:Int))) ∧
 (((0≤y4.to∧y4.to < (40:Int))) ∧
 ((((w64 (kv4 - (1:Int))).toNat < zat.len)) ∧
 (zby (decide (y4.from_ ≥ node))
 (zby (decide (y4.to ≥ node))
 (zby (!(match ((tg 80 (zat.get ((w64 (kv4 - (1:Int))).toNat)) (0 + y4.to.toNat * 2 + 0)) == (1000000000000:Int)) with | true => (match ((tg 80 (zat.get ((w64 (kv4 - (1:Int))).toNat)) (0 + y4.to.toNat * 2 + 0 + 1)) == (0:Int)) with | true => true | false => false) | false => false))
 (((0≤kv4∧kv4 < (zat.len:Int))) ∧
 (((0≤y4.from_∧y4.from_ < (40:Int))) ∧
 (((kv4.toNat < zat.len)) ∧
 ((IsE zca 2 2 (fun _=>(zca (⟨(w64 ((tg 80 (zat.get ((w64 (kv4 - (1:Int))).toNat)) (0+y4.to.toNat * 2+0))+y4.length)),(0:Int)⟩:far)))∧(ztL (⟨(tg 80 (zat.get kv4.toNat) (0+y4.from_.toNat * 2+0)),(tg 80 (zat.get kv4.toNat) (0+y4.from_.toNat * 2+0+1))⟩:far) (⟨1,fun _=>(⟨(w64 ((tg 80 (zat.get ((w64 (kv4 - (1:Int))).toNat)) (0+y4.to.toNat * 2+0))+y4.length)),(0:Int)⟩:far)⟩:(Sl far))=true)) ∧
 (((0≤kv4∧kv4 < (zat.len:Int))) ∧
 (((0≤y4.from_∧y4.from_ < (40:Int))) ∧
 (((kv4.toNat < zat.len)) ∧
 (X4 rest4 (zc9 w node uses kv4 zat.len (ziz kv4.toNat 0 (fun i=>zad (zat.get i)) (zad (ts 80 (zat.get kv4.toNat) (0+y4.from_.toNat * 2+0) [(zbR (⟨(tg 80 (zat.get kv4.toNat) (0+y4.from_.toNat * 2+0)),(tg 80 (zat.get kv4.toNat) (0+y4.from_.toNat * 2+0+1))⟩:far) (⟨1,fun _=>(⟨(w64 ((tg 80 (zat.get ((w64 (kv4 - (1:Int))).toNat)) (0+y4.to.toNat * 2+0))+y4.length)),(0:Int)⟩:far)⟩:(Sl far))).length,(zbR (⟨(tg 80 (zat.get kv4.toNat) (0+y4.from_.toNat * 2+0)),(tg 80 (zat.get kv4.toNat) (0+y4.from_.toNat * 2+0+1))⟩:far) (⟨1,fun _=>(⟨(w64 ((tg 80 (zat.get ((w64 (kv4 - (1:Int))).toNat)) (0+y4.to.toNat * 2+0))+y4.length)),(0:Int)⟩:far)⟩:(Sl far))).uses]))))))))))))
 (X4 rest4 (zc9 w node uses kv4 zat.len (fun i=>zad (zat.get i)))))
 (X4 rest4 (zc9 w node uses kv4 zat.len (fun i=>zad (zat.get i)))))
 (X4 rest4 (zc9 w node uses kv4 zat.len (fun i=>zad (zat.get i))))))))
theorem zor (K:List PA→Prop) (X3:St→Prop) (w:web) (node:Int) (uses:Int) (kv4:Int) (zat:(Sl Tab)):(zaj 6 (zaj 5 (sqK Tryd.prog zeU za3 (cdF Tryd.f106 [1,1,1,1,0,1,0,0,1,1]) (zba Tryd.prog za3 13 X3 (zaj 4 (sqK Tryd.prog zeU za3 (cdF Tryd.f106 [1,1,1,1,1]) (za9 Tryd.prog Tryd.f106 K))))))) .normal (zc9 w node uses kv4 zat.len (fun i=>zad (zat.get i)))=zlJ K X3 w node uses kv4 zat:=by kernel_rfl
theorem zos (K : List PA → Prop) (X3 : St → Prop) (X4 : List (List PA) → St → Prop) (y4 : step) (rest4 : List (List PA)) (w : web) (node : Int) (uses : Int) (kv4 : Int) (zat : (Sl Tab)) :
  ztK Tryd.prog zeU za3 16 [44] (cd (cdF Tryd.f106 [1,1,1,1,0,1,0,0,1,0,0,1,0]) [0]) (cd (cdF Tryd.f106 [1,1,1,1,0,1,0,0,1,0,0,1,0]) [1]) X4 (zaj 6 (zaj 5 (sqK Tryd.prog zeU za3 (cdF Tryd.f106 [1,1,1,1,0,1,0,0,1,1]) (zba Tryd.prog za3 13 X3 (zaj 4 (sqK Tryd.prog zeU za3 (cdF Tryd.f106 [1,1,1,1,1]) (za9 Tryd.prog Tryd.f106 K))))))) [.agg (zae y4)] rest4 (zc9 w node uses kv4 zat.len (fun i=>zad (zat.get i)))=zlK K X3 X4 y4 rest4 w node uses kv4 zat:=by kernel_rfl
theorem ztA (K : List PA → Prop) (X3 : St → Prop) (w : web) (node : Int) (uses : Int) (kv4 : Int) (zfi : Nat) (zci : Nat → List PV)
  (hsafe:IsE enc_40 4 4 (fun i=>enc_40 (w.Net.Ties.get i))∧((false,1,false,[none]):MQ)=(false,1,false,[none])∧(zkZ w=true)) (h:∀ X4:List (List PA)→St→Prop,(∀ (kv4:Int) (zat:(Sl Tab)),zlJ K X3 w node uses kv4 zat→X4 [] (zc9 w node uses kv4 zat.len (fun i=>zad (zat.get i))))→(∀ (y:step) (rest:List (List PA)) (kv4:Int) (zat:(Sl Tab)),zlK K X3 X4 y rest w node uses kv4 zat→X4 ([.agg (zae y)] :: rest) (zc9 w node uses kv4 zat.len (fun i=>zad (zat.get i))))→X4 ((zhl w).map fun y=>[.agg (zae y)]) (zc9 w node uses kv4 zfi zci)) :
  zg3 K X3 w node uses kv4 zfi zci:=by
  have e:zg3 K X3 w node uses kv4 zfi zci=((IsE enc_40 4 4 (fun i=>enc_40 (w.Net.Ties.get i))∧((false,1,false,[none]):MQ)=(false,1,false,[none])∧(zkZ w=true))∧∀ X:List (List PA)→St→Prop,(∀ s,(zaj 6 (zaj 5 (sqK Tryd.prog zeU za3 (cdF Tryd.f106 [1,1,1,1,0,1,0,0,1,1]) (zba Tryd.prog za3 13 X3 (zaj 4 (sqK Tryd.prog zeU za3 (cdF Tryd.f106 [1,1,1,1,1]) (za9 Tryd.prog Tryd.f106 K))))))) .normal s→X [] s)→(∀ y rest s,ztK Tryd.prog zeU za3 16 [44] (cd (cdF Tryd.f106 [1,1,1,1,0,1,0,0,1,0,0,1,0]) [0]) (cd (cdF Tryd.f106 [1,1,1,1,0,1,0,0,1,0,0,1,0]) [1]) X (zaj 6 (zaj 5 (sqK Tryd.prog zeU za3 (cdF Tryd.f106 [1,1,1,1,0,1,0,0,1,1]) (zba Tryd.prog za3 13 X3 (zaj 4 (sqK Tryd.prog zeU za3 (cdF Tryd.f106 [1,1,1,1,1]) (za9 Tryd.prog Tryd.f106 K))))))) y rest s→X (y :: rest) s)→X ((zhl w).map fun y=>[.agg (zae y)]) (zc9 w node uses kv4 zfi zci)):=by kernel_rfl
  refine zbd e ⟨hsafe,?_⟩
  intro X h0 h1
  refine h X (fun kv4 zat hs=>h0 _ ?_) (fun y rest kv4 zat hs=>h1 _ rest _ ?_)
  · rw [zor K X3 w node uses kv4 zat];exact hs
  · have e2 := zos K X3 X y rest w node uses kv4 zat
    rw [e2];exact hs
abbrev zkf (r:(Sl Tab)):List PA:=[.one (.sl r.len 80 (fun i=>zad (r.get i)))]
attribute [irreducible] zg0 zg1 ziK zg2 zg3
def zmM (S3:Int→(Sl Tab)→(Sl Tab)) (w:web) (node:Int) (uses:Int) (kv4:Int) (zat:(Sl Tab)):(Sl Tab) :=
  (S3 (w64 (kv4+(1:Int))) zat)
def zmN (P3:Int→(Sl Tab)→Bool) (w:web) (node:Int) (uses:Int) (kv4:Int) (zat:(Sl Tab)):Bool :=
  (P3 (w64 (kv4+(1:Int))) zat)
def zmO (S3:Int→(Sl Tab)→(Sl Tab)) (w:web) (node:Int) (uses:Int) (y4:step) (S4:Int→(Sl Tab)→(Sl Tab)) (kv4:Int) (zat:(Sl Tab)):(Sl Tab) :=
  (cond (decide (y4.from_ ≥ node))
 (cond (decide (y4.to ≥ node))
 (cond (!(match ((tg 80 (zat.get ((w64 (kv4 - (1:Int))).toNat)) (0 + y4.to.toNat * 2 + 0)) == (1000000000000:Int)) with | true => (match ((tg 80 (zat.get ((w64 (kv4 - (1:Int))).toNat)) (0 + y4.to.toNat * 2 + 0 + 1)) == (0:Int)) with | true => true | false => false) | false => false))
 (S4 kv4 (⟨zat.len,(setT kv4.toNat (ts 80 (zat.get kv4.toNat) (0+y4.from_.toNat * 2+0) [(zbR (⟨(tg 80 (zat.get kv4.toNat) (0+y4.from_.toNat * 2+0)),(tg 80 (zat.get kv4.toNat) (0+y4.from_.toNat * 2+0+1))⟩:far) (⟨1,fun _=>(⟨(w64 ((tg 80 (zat.get ((w64 (kv4 - (1:Int))).toNat)) (0+y4.to.toNat * 2+0))+y4.length)),(0:Int)⟩:far)⟩:(Sl far))).length,(zbR (⟨(tg 80 (zat.get kv4.toNat) (0+y4.from_.toNat * 2+0)),(tg 80 (zat.get kv4.toNat) (0+y4.from_.toNat * 2+0+1))⟩:far) (⟨1,fun _=>(⟨(w64 ((tg 80 (zat.get ((w64 (kv4 - (1:Int))).toNat)) (0+y4.to.toNat * 2+0))+y4.length)),(0:Int)⟩:far)⟩:(Sl far))).uses]) zat.get)⟩:Sl Tab))
 (S4 kv4 zat))
 (S4 kv4 zat))
 (S4 kv4 zat))
def zmP (P3:Int→(Sl Tab)→Bool) (w:web) (node:Int) (uses:Int) (y4:step) (P4:Int→(Sl Tab)→Bool) (kv4:Int) (zat:(Sl Tab)):Bool :=
  (decide ((0≤(w64 (kv4 - (1:Int)))∧(w64 (kv4 - (1:Int))) < (zat.len:Int))) &&
 (decide ((0≤y4.to∧y4.to < (40:Int))) &&
 (decide (((w64 (kv4 - (1:Int))).toNat < zat.len)) &&
 (cond (decide (y4.from_ ≥ node))
 (cond (decide (y4.to ≥ node))
 (cond (!(match ((tg 80 (zat.get ((w64 (kv4 - (1:Int))).toNat)) (0 + y4.to.toNat * 2 + 0)) == (1000000000000:Int)) with | true => (match ((tg 80 (zat.get ((w64 (kv4 - (1:Int))).toNat)) (0 + y4.to.toNat * 2 + 0 + 1)) == (0:Int)) with | true => true | false => false) | false => false))
 (decide ((0≤kv4∧kv4 < (zat.len:Int))) &&
 (decide ((0≤y4.from_∧y4.from_ < (40:Int))) &&
 (decide ((kv4.toNat < zat.len)) &&
 (decide ((ztL (⟨(tg 80 (zat.get kv4.toNat) (0+y4.from_.toNat * 2+0)),(tg 80 (zat.get kv4.toNat) (0+y4.from_.toNat * 2+0+1))⟩:far) (⟨1,fun _=>(⟨(w64 ((tg 80 (zat.get ((w64 (kv4 - (1:Int))).toNat)) (0+y4.to.toNat * 2+0))+y4.length)),(0:Int)⟩:far)⟩:(Sl far))=true)) &&
 (decide ((0≤kv4∧kv4 < (zat.len:Int))) &&
 (decide ((0≤y4.from_∧y4.from_ < (40:Int))) &&
 (decide ((kv4.toNat < zat.len)) &&
 (P4 kv4 (⟨zat.len,(setT kv4.toNat (ts 80 (zat.get kv4.toNat) (0+y4.from_.toNat * 2+0) [(zbR (⟨(tg 80 (zat.get kv4.toNat) (0+y4.from_.toNat * 2+0)),(tg 80 (zat.get kv4.toNat) (0+y4.from_.toNat * 2+0+1))⟩:far) (⟨1,fun _=>(⟨(w64 ((tg 80 (zat.get ((w64 (kv4 - (1:Int))).toNat)) (0+y4.to.toNat * 2+0))+y4.length)),(0:Int)⟩:far)⟩:(Sl far))).length,(zbR (⟨(tg 80 (zat.get kv4.toNat) (0+y4.from_.toNat * 2+0)),(tg 80 (zat.get kv4.toNat) (0+y4.from_.toNat * 2+0+1))⟩:far) (⟨1,fun _=>(⟨(w64 ((tg 80 (zat.get ((w64 (kv4 - (1:Int))).toNat)) (0+y4.to.toNat * 2+0))+y4.length)),(0:Int)⟩:far)⟩:(Sl far))).uses]) zat.get)⟩:Sl Tab)))))))))
 (P4 kv4 zat))
 (P4 kv4 zat))
 (P4 kv4 zat)))))
def zg4 (S3 : Int → (Sl Tab) → (Sl Tab)) (w : web) (node : Int) (uses : Int) : List step → Int → (Sl Tab) → (Sl Tab)
  | []=>zmM S3 w node uses
  | y :: r=>zmO S3 w node uses y (zg4 S3 w node uses r)
def zg5 (P3 : Int → (Sl Tab) → Bool) (w : web) (node : Int) (uses : Int) : List step → Int → (Sl Tab) → Bool
  | []=>zmN P3 w node uses
  | y :: r=>zmP P3 w node uses y (zg5 P3 w node uses r)
def zr9 (S3:Int→(Sl Tab)→(Sl Tab)) (w:web) (node:Int) (uses:Int) (kv4:Int) (zat:(Sl Tab)):(Sl Tab):=zg4 S3 w node uses (zhl w) kv4 zat
def zmQ (P3:Int→(Sl Tab)→Bool) (w:web) (node:Int) (uses:Int) (kv4:Int) (zat:(Sl Tab)):Bool:=decide ((zkZ w=true)) && zg5 P3 w node uses (zhl w) kv4 zat
theorem zzZ (K : List PA → Prop) (w : web) (node : Int) (uses : Int)
  (X3:St→Prop) (P3:Int→(Sl Tab)→Bool) (S3:Int→(Sl Tab)→(Sl Tab))
  (hX3:∀ (kv3:Int) (zbN:(Sl Tab)) (zbW:Nat→List PV) (zhM:zbW=fun i=>zad (zbN.get i)),P3 kv3 zbN=true→K (zkf (S3 kv3 zbN))→X3 (zfg w node uses kv3 zbN.len zbW)) (kv4:Int) (zat:(Sl Tab)) (zci:Nat→List PV) (zhN:zci=fun i=>zad (zat.get i)) (hs:zmQ P3 w node uses kv4 zat=true) (hk:K (zkf (zr9 S3 w node uses kv4 zat))):zg3 K X3 w node uses kv4 zat.len zci:=by
  unfold zmQ at hs
  rw [Bool.and_eq_true] at hs
  obtain ⟨hsf,hs⟩:=hs
  have hc:=of_decide_eq_true hsf
  refine ztA K X3 w node uses kv4 zat.len zci ⟨isE,rfl,hc⟩ ?_
  intro X4 hexit hstep
  have key:∀ (l:List step) (kv4:Int) (zat:(Sl Tab)) (zci:Nat→List PV) (zhN:zci=fun i=>zad (zat.get i)),zg5 P3 w node uses l kv4 zat=true→K (zkf (zg4 S3 w node uses l kv4 zat))→X4 (l.map fun y=>[.agg (zae y)]) (zc9 w node uses kv4 zat.len zci):=by
    intro l
    induction l with
    | nil =>
      intro kv4 zat zci zhN hs hk
      subst zhN
      refine hexit kv4 zat ?_
      have hs:zmN P3 w node uses kv4 zat=true:=hs
      have hk:K (zkf (zmM S3 w node uses kv4 zat)):=hk
      unfold zmN at hs
      unfold zmM at hk
      exact (hX3 (w64 (kv4+(1:Int))) zat (fun i=>zad (zat.get i)) rfl hs hk)
    | cons y4 l ih =>
      intro kv4 zat zci zhN hs hk
      subst zhN
      refine hstep y4 _ kv4 zat ?_
      have hs:zmP P3 w node uses y4 (zg5 P3 w node uses l) kv4 zat=true:=hs
      have hk:K (zkf (zmO S3 w node uses y4 (zg4 S3 w node uses l) kv4 zat)):=hk
      unfold zmP at hs
      unfold zmO at hk
      generalize zg4 S3 w node uses l=S4 at hk ih
      generalize zg5 P3 w node uses l=P4 at hs ih
      have hX4:=ih
      exact (za0 hs fun hc hs => ⟨hc, (za0 hs fun hc hs => ⟨hc, (za0 hs fun hc hs => ⟨hc, (zaN (K := fun r => K (zkf r))
 (fun hs hk => (zaN (K := fun r => K (zkf r))
 (fun hs hk => (zaN (K := fun r => K (zkf r))
 (fun hs hk=>(za0 hs fun hc hs=>⟨hc,(za0 hs fun hc hs=>⟨hc,(za0 hs fun hc hs=>⟨hc,(za0 hs fun hc hs=>⟨⟨zvl,hc⟩,(za0 hs fun hc hs=>⟨hc,(za0 hs fun hc hs=>⟨hc,(za0 hs fun hc hs=>⟨hc,(hX4 kv4 (⟨zat.len,(setT kv4.toNat (ts 80 (zat.get kv4.toNat) (0+y4.from_.toNat * 2+0) [(zbR (⟨(tg 80 (zat.get kv4.toNat) (0+y4.from_.toNat * 2+0)),(tg 80 (zat.get kv4.toNat) (0+y4.from_.toNat * 2+0+1))⟩:far) (⟨1,fun _=>(⟨(w64 ((tg 80 (zat.get ((w64 (kv4 - (1:Int))).toNat)) (0+y4.to.toNat * 2+0))+y4.length)),(0:Int)⟩:far)⟩:(Sl far))).length,(zbR (⟨(tg 80 (zat.get kv4.toNat) (0+y4.from_.toNat * 2+0)),(tg 80 (zat.get kv4.toNat) (0+y4.from_.toNat * 2+0+1))⟩:far) (⟨1,fun _=>(⟨(w64 ((tg 80 (zat.get ((w64 (kv4 - (1:Int))).toNat)) (0+y4.to.toNat * 2+0))+y4.length)),(0:Int)⟩:far)⟩:(Sl far))).uses]) zat.get)⟩:Sl Tab) (ziz kv4.toNat 0 (fun i=>zad (zat.get i)) (zad (ts 80 (zat.get kv4.toNat) (0+y4.from_.toNat * 2+0) [(zbR (⟨(tg 80 (zat.get kv4.toNat) (0+y4.from_.toNat * 2+0)),(tg 80 (zat.get kv4.toNat) (0+y4.from_.toNat * 2+0+1))⟩:far) (⟨1,fun _=>(⟨(w64 ((tg 80 (zat.get ((w64 (kv4 - (1:Int))).toNat)) (0+y4.to.toNat * 2+0))+y4.length)),(0:Int)⟩:far)⟩:(Sl far))).length,(zbR (⟨(tg 80 (zat.get kv4.toNat) (0+y4.from_.toNat * 2+0)),(tg 80 (zat.get kv4.toNat) (0+y4.from_.toNat * 2+0+1))⟩:far) (⟨1,fun _=>(⟨(w64 ((tg 80 (zat.get ((w64 (kv4 - (1:Int))).toNat)) (0+y4.to.toNat * 2+0))+y4.length)),(0:Int)⟩:far)⟩:(Sl far))).uses]))) (zlE (enc:=zad) (i:=kv4.toNat) (k:=0) (f:=zat.get) (new:=(zad (ts 80 (zat.get kv4.toNat) (0+y4.from_.toNat * 2+0) [(zbR (⟨(tg 80 (zat.get kv4.toNat) (0+y4.from_.toNat * 2+0)),(tg 80 (zat.get kv4.toNat) (0+y4.from_.toNat * 2+0+1))⟩:far) (⟨1,fun _=>(⟨(w64 ((tg 80 (zat.get ((w64 (kv4 - (1:Int))).toNat)) (0+y4.to.toNat * 2+0))+y4.length)),(0:Int)⟩:far)⟩:(Sl far))).length,(zbR (⟨(tg 80 (zat.get kv4.toNat) (0+y4.from_.toNat * 2+0)),(tg 80 (zat.get kv4.toNat) (0+y4.from_.toNat * 2+0+1))⟩:far) (⟨1,fun _=>(⟨(w64 ((tg 80 (zat.get ((w64 (kv4 - (1:Int))).toNat)) (0+y4.to.toNat * 2+0))+y4.length)),(0:Int)⟩:far)⟩:(Sl far))).uses]))) (v:=(ts 80 (zat.get kv4.toNat) (0+y4.from_.toNat * 2+0) [(zbR (⟨(tg 80 (zat.get kv4.toNat) (0+y4.from_.toNat * 2+0)),(tg 80 (zat.get kv4.toNat) (0+y4.from_.toNat * 2+0+1))⟩:far) (⟨1,fun _=>(⟨(w64 ((tg 80 (zat.get ((w64 (kv4 - (1:Int))).toNat)) (0+y4.to.toNat * 2+0))+y4.length)),(0:Int)⟩:far)⟩:(Sl far))).length,(zbR (⟨(tg 80 (zat.get kv4.toNat) (0+y4.from_.toNat * 2+0)),(tg 80 (zat.get kv4.toNat) (0+y4.from_.toNat * 2+0+1))⟩:far) (⟨1,fun _=>(⟨(w64 ((tg 80 (zat.get ((w64 (kv4 - (1:Int))).toNat)) (0+y4.to.toNat * 2+0))+y4.length)),(0:Int)⟩:far)⟩:(Sl far))).uses])) rfl zmz) hs hk)⟩)⟩)⟩)⟩)⟩)⟩)⟩))
 (fun hs hk=>(hX4 kv4 zat (fun i=>zad (zat.get i)) rfl hs hk)) hs hk))
 (fun hs hk=>(hX4 kv4 zat (fun i=>zad (zat.get i)) rfl hs hk)) hs hk))
 (fun hs hk=>(hX4 kv4 zat (fun i=>zad (zat.get i)) rfl hs hk)) hs hk)⟩)⟩)⟩)
  exact key _ kv4 zat zci zhN hs hk
def zmR (w:web) (node:Int) (uses:Int) (S3:Int→(Sl Tab)→(Sl Tab)) (kv3:Int) (zbN:(Sl Tab)):(Sl Tab) :=
  (cond (decide (kv3 ≤ uses))
 (zr9 S3 w node uses kv3 zbN)
 zbN)
def zmS (w:web) (node:Int) (uses:Int) (P3:Int→(Sl Tab)→Bool) (kv3:Int) (zbN:(Sl Tab)):Bool :=
  (cond (decide (kv3 ≤ uses))
 (zmQ P3 w node uses kv3 zbN)
 true)
def zg6 (w : web) (node : Int) (uses : Int) : Nat → Int → (Sl Tab) → (Sl Tab)
  | 0=>fun _ _=>default
  | k+1=>zmR w node uses (zg6 w node uses k)
def zg7 (w : web) (node : Int) (uses : Int) : Nat → Int → (Sl Tab) → Bool
  | 0=>fun _ _=>false
  | k+1=>zmS w node uses (zg7 w node uses k)
def zsa (w:web) (node:Int) (uses:Int) (kv3:Int) (zbN:(Sl Tab)):(Sl Tab):=zg6 w node uses Fuel kv3 zbN
def zsb (w:web) (node:Int) (uses:Int) (kv3:Int) (zbN:(Sl Tab)):Bool:=zg7 w node uses Fuel kv3 zbN
theorem zz0 (K:List PA→Prop) (w:web) (node:Int) (uses:Int) (kv3:Int) (zbN:(Sl Tab)) (zbW:Nat→List PV) (zhM:zbW=fun i=>zad (zbN.get i)) (hs:zsb w node uses kv3 zbN=true) (hk:K (zkf (zsa w node uses kv3 zbN))):zg2 K w node uses kv3 zbN.len zbW:=by
  refine ztz K w node uses kv3 zbN.len zbW ?_
  intro X3 hstep
  have key:∀ (k:Nat) (kv3:Int) (zbN:(Sl Tab)) (zbW:Nat→List PV) (zhM:zbW=fun i=>zad (zbN.get i)),zg7 w node uses k kv3 zbN=true→K (zkf (zg6 w node uses k kv3 zbN))→X3 (zfg w node uses kv3 zbN.len zbW):=by
    intro k
    induction k with
    | zero=>intro kv3 zbN zbW zhM hs;exact absurd hs Bool.false_ne_true
    | succ k ih =>
      intro kv3 zbN zbW zhM hs hk
      subst zhM
      refine hstep kv3 zbN ?_
      have hs:zmS w node uses (zg7 w node uses k) kv3 zbN=true:=hs
      have hk:K (zkf (zmR w node uses (zg6 w node uses k) kv3 zbN)):=hk
      unfold zmS at hs
      unfold zmR at hk
      generalize zg6 w node uses k=S3 at hk ih
      generalize zg7 w node uses k=P3 at hs ih
      have hX3:=ih
      exact (zaN (K := fun r => K (zkf r))
 (fun hs hk=>⟨⟨isE,rfl⟩,(zzZ K w node uses X3 P3 S3 hX3 kv3 zbN (fun i=>zad (zbN.get i)) rfl hs hk)⟩)
 (fun hs hk=>hk) hs hk)
  exact key _ kv3 zbN zbW zhM hs hk
def zmT (w:web) (node:Int) (uses:Int) (zcC:(Sl Tab)):(Sl Tab) :=
  (zsa w node uses (1:Int) (⟨zcC.len,(setT 0 (ts 80 (zcC.get 0) (0+node.toNat * 2+0) [(0:Int),(0:Int)]) zcC.get)⟩:Sl Tab))
def zmU (w:web) (node:Int) (uses:Int) (zcC:(Sl Tab)):Bool :=
  (decide ((0≤(0:Int)∧(0:Int) < (zcC.len:Int))) &&
 (decide ((0≤node∧node < (40:Int))) &&
 (decide ((0 < zcC.len)) &&
 (zsb w node uses (1:Int) (⟨zcC.len,(setT 0 (ts 80 (zcC.get 0) (0+node.toNat * 2+0) [(0:Int),(0:Int)]) zcC.get)⟩:Sl Tab)))))
theorem zz1 (K:List PA→Prop) (w:web) (node:Int) (uses:Int) (zcC:(Sl Tab)) (zhL:Nat→List PV) (zCT:zhL=fun i=>zad (zcC.get i)) (hs:zmU w node uses zcC=true) (hk:K (zkf (zmT w node uses zcC))):ziK K w node uses zcC.len zhL:=by
  subst zCT
  refine zbd (zzY K w node uses zcC) ?_
  unfold zmU at hs
  unfold zmT at hk
  exact (za0 hs fun hc hs=>⟨hc,(za0 hs fun hc hs=>⟨hc,(za0 hs fun hc hs=>⟨hc,(zz0 K w node uses (1:Int) (⟨zcC.len,(setT 0 (ts 80 (zcC.get 0) (0+node.toNat * 2+0) [(0:Int),(0:Int)]) zcC.get)⟩:Sl Tab) (ziz 0 0 (fun i=>zad (zcC.get i)) (zad (ts 80 (zcC.get 0) (0+node.toNat * 2+0) [(0:Int),(0:Int)]))) (zlE (enc:=zad) (i:=0) (k:=0) (f:=zcC.get) (new:=(zad (ts 80 (zcC.get 0) (0+node.toNat * 2+0) [(0:Int),(0:Int)]))) (v:=(ts 80 (zcC.get 0) (0+node.toNat * 2+0) [(0:Int),(0:Int)])) rfl zmz) hs hk)⟩)⟩)⟩)
def zmV (S0:Int→(Sl Tab)→(Sl Tab)) (w:web) (node:Int) (uses:Int) (S1:Int→Int→Int→(Sl Tab)→(Sl Tab)) (iv1:Int) (zbB:Int) (zbu:Int) (zbq:(Sl Tab)):(Sl Tab) :=
  (cond (decide (zbu < (40:Int)))
 (S1 iv1 zbB (w64 (zbu+(1:Int))) (⟨zbq.len,(setT iv1.toNat (ts 80 (zbq.get iv1.toNat) (0+zbu.toNat * 2+0) [(1000000000000:Int),(0:Int)]) zbq.get)⟩:Sl Tab))
 (S0 (w64 (zbB+(1:Int))) zbq))
def zmW (P0:Int→(Sl Tab)→Bool) (w:web) (node:Int) (uses:Int) (P1:Int→Int→Int→(Sl Tab)→Bool) (iv1:Int) (zbB:Int) (zbu:Int) (zbq:(Sl Tab)):Bool :=
  (cond (decide (zbu < (40:Int)))
 (decide ((0≤iv1∧iv1 < (zbq.len:Int))) &&
 (decide ((0≤zbu∧zbu < (40:Int))) &&
 (decide ((iv1.toNat < zbq.len)) &&
 (P1 iv1 zbB (w64 (zbu+(1:Int))) (⟨zbq.len,(setT iv1.toNat (ts 80 (zbq.get iv1.toNat) (0+zbu.toNat * 2+0) [(1000000000000:Int),(0:Int)]) zbq.get)⟩:Sl Tab)))))
 (P0 (w64 (zbB+(1:Int))) zbq))
def zg8 (S0 : Int → (Sl Tab) → (Sl Tab)) (w : web) (node : Int) (uses : Int) : Nat → Int → Int → Int → (Sl Tab) → (Sl Tab)
  | 0=>fun _ _ _ _=>default
  | k+1=>zmV S0 w node uses (zg8 S0 w node uses k)
def zg9 (P0 : Int → (Sl Tab) → Bool) (w : web) (node : Int) (uses : Int) : Nat → Int → Int → Int → (Sl Tab) → Bool
  | 0=>fun _ _ _ _=>false
  | k+1=>zmW P0 w node uses (zg9 P0 w node uses k)
def zsc (S0:Int→(Sl Tab)→(Sl Tab)) (w:web) (node:Int) (uses:Int) (iv1:Int) (zbB:Int) (zbu:Int) (zbq:(Sl Tab)):(Sl Tab):=zg8 S0 w node uses Fuel iv1 zbB zbu zbq
def zsd (P0:Int→(Sl Tab)→Bool) (w:web) (node:Int) (uses:Int) (iv1:Int) (zbB:Int) (zbu:Int) (zbq:(Sl Tab)):Bool:=zg9 P0 w node uses Fuel iv1 zbB zbu zbq
theorem zz2 (K : List PA → Prop) (w : web) (node : Int) (uses : Int)
  (X0:St→Prop) (P0:Int→(Sl Tab)→Bool) (S0:Int→(Sl Tab)→(Sl Tab))
  (hX0:∀ (zbH:Int) (zbK:(Sl Tab)) (zbV:Nat→List PV) (zhO:zbV=fun i=>zad (zbK.get i)),P0 zbH zbK=true→K (zkf (S0 zbH zbK))→X0 (zfd w node uses zbH zbK.len zbV)) (iv1:Int) (zbB:Int) (zbu:Int) (zbq:(Sl Tab)) (zch:Nat→List PV) (zkg:zch=fun i=>zad (zbq.get i)) (hs:zsd P0 w node uses iv1 zbB zbu zbq=true) (hk:K (zkf (zsc S0 w node uses iv1 zbB zbu zbq))):zg1 K X0 w node uses iv1 zbB zbu zbq.len zch:=by
  refine zty K X0 w node uses iv1 zbB zbu zbq.len zch ?_
  intro X1 hstep
  have key:∀ (k:Nat) (iv1:Int) (zbB:Int) (zbu:Int) (zbq:(Sl Tab)) (zch:Nat→List PV) (zkg:zch=fun i=>zad (zbq.get i)),zg9 P0 w node uses k iv1 zbB zbu zbq=true→K (zkf (zg8 S0 w node uses k iv1 zbB zbu zbq))→X1 (zgx w node uses iv1 zbB zbu zbq.len zch):=by
    intro k
    induction k with
    | zero=>intro iv1 zbB zbu zbq zch zkg hs;exact absurd hs Bool.false_ne_true
    | succ k ih =>
      intro iv1 zbB zbu zbq zch zkg hs hk
      subst zkg
      refine hstep iv1 zbB zbu zbq ?_
      have hs:zmW P0 w node uses (zg9 P0 w node uses k) iv1 zbB zbu zbq=true:=hs
      have hk:K (zkf (zmV S0 w node uses (zg8 S0 w node uses k) iv1 zbB zbu zbq)):=hk
      unfold zmW at hs
      unfold zmV at hk
      generalize zg8 S0 w node uses k=S1 at hk ih
      generalize zg9 P0 w node uses k=P1 at hs ih
      have hX1:=ih
      exact (zaN (K := fun r => K (zkf r))
 (fun hs hk=>(za0 hs fun hc hs=>⟨hc,(za0 hs fun hc hs=>⟨hc,(za0 hs fun hc hs=>⟨hc,(hX1 iv1 zbB (w64 (zbu+(1:Int))) (⟨zbq.len,(setT iv1.toNat (ts 80 (zbq.get iv1.toNat) (0+zbu.toNat * 2+0) [(1000000000000:Int),(0:Int)]) zbq.get)⟩:Sl Tab) (ziz iv1.toNat 0 (fun i=>zad (zbq.get i)) (zad (ts 80 (zbq.get iv1.toNat) (0+zbu.toNat * 2+0) [(1000000000000:Int),(0:Int)]))) (zlE (enc:=zad) (i:=iv1.toNat) (k:=0) (f:=zbq.get) (new:=(zad (ts 80 (zbq.get iv1.toNat) (0+zbu.toNat * 2+0) [(1000000000000:Int),(0:Int)]))) (v:=(ts 80 (zbq.get iv1.toNat) (0+zbu.toNat * 2+0) [(1000000000000:Int),(0:Int)])) rfl zmz) hs hk)⟩)⟩)⟩))
 (fun hs hk=>(hX0 (w64 (zbB+(1:Int))) zbq (fun i=>zad (zbq.get i)) rfl hs hk)) hs hk)
  exact key _ iv1 zbB zbu zbq zch zkg hs hk
def zmX (w:web) (node:Int) (uses:Int) (S0:Int→(Sl Tab)→(Sl Tab)) (zbH:Int) (zbK:(Sl Tab)):(Sl Tab) :=
  (cond (decide (zbH < ((w64 (uses + (1:Int))).toNat : Int)))
 (zsc S0 w node uses zbH zbH (0:Int) zbK)
 (zmT w node uses zbK))
def zmY (w:web) (node:Int) (uses:Int) (P0:Int→(Sl Tab)→Bool) (zbH:Int) (zbK:(Sl Tab)):Bool :=
  (cond (decide (zbH < ((w64 (uses + (1:Int))).toNat : Int)))
 (zsd P0 w node uses zbH zbH (0:Int) zbK)
 (zmU w node uses zbK))
def zha (w : web) (node : Int) (uses : Int) : Nat → Int → (Sl Tab) → (Sl Tab)
  | 0=>fun _ _=>default
  | k+1=>zmX w node uses (zha w node uses k)
def zhb (w : web) (node : Int) (uses : Int) : Nat → Int → (Sl Tab) → Bool
  | 0=>fun _ _=>false
  | k+1=>zmY w node uses (zhb w node uses k)
def zse (w:web) (node:Int) (uses:Int) (zbH:Int) (zbK:(Sl Tab)):(Sl Tab):=zha w node uses Fuel zbH zbK
def zsf (w:web) (node:Int) (uses:Int) (zbH:Int) (zbK:(Sl Tab)):Bool:=zhb w node uses Fuel zbH zbK
theorem zz3 (K:List PA→Prop) (w:web) (node:Int) (uses:Int) (zbH:Int) (zbK:(Sl Tab)) (zbV:Nat→List PV) (zhO:zbV=fun i=>zad (zbK.get i)) (hs:zsf w node uses zbH zbK=true) (hk:K (zkf (zse w node uses zbH zbK))):zg0 K w node uses zbH zbK.len zbV:=by
  refine ztx K w node uses zbH zbK.len zbV ?_
  intro X0 hstep
  have key:∀ (k:Nat) (zbH:Int) (zbK:(Sl Tab)) (zbV:Nat→List PV) (zhO:zbV=fun i=>zad (zbK.get i)),zhb w node uses k zbH zbK=true→K (zkf (zha w node uses k zbH zbK))→X0 (zfd w node uses zbH zbK.len zbV):=by
    intro k
    induction k with
    | zero=>intro zbH zbK zbV zhO hs;exact absurd hs Bool.false_ne_true
    | succ k ih =>
      intro zbH zbK zbV zhO hs hk
      subst zhO
      refine hstep zbH zbK ?_
      have hs:zmY w node uses (zhb w node uses k) zbH zbK=true:=hs
      have hk:K (zkf (zmX w node uses (zha w node uses k) zbH zbK)):=hk
      unfold zmY at hs
      unfold zmX at hk
      generalize zha w node uses k=S0 at hk ih
      generalize zhb w node uses k=P0 at hs ih
      have hX0:=ih
      exact (zaN (K := fun r => K (zkf r))
 (fun hs hk=>(zz2 K w node uses X0 P0 S0 hX0 zbH zbH (0:Int) zbK (fun i=>zad (zbK.get i)) rfl hs hk))
 (fun hs hk=>(zz1 K w node uses zbK (fun i=>zad (zbK.get i)) rfl hs hk)) hs hk)
  exact key _ zbH zbK zbV zhO hs hk
def zvW (w:web) (node:Int) (uses:Int):(Sl Tab) :=
  (zse w node uses (0:Int) (⟨(w64 (uses+(1:Int))).toNat,(fun _=>(fun _=>(0:Int)))⟩:Sl Tab))
def zF9 (w:web) (node:Int) (uses:Int):Bool :=
  (decide ((0≤(w64 (uses+(1:Int)))∧(w64 (uses+(1:Int)))=(w64 (uses+(1:Int)))∧(w64 (uses+(1:Int)))≤1000000)) &&
 (zsf w node uses (0:Int) (⟨(w64 (uses+(1:Int))).toNat,(fun _=>(fun _=>(0:Int)))⟩:Sl Tab)))
theorem zJO (w:web) (node:Int) (uses:Int) (K:List PA→Prop) (hs:zF9 w node uses=true) (hk:K (zkf (zvW w node uses))):vcFun Tryd.prog zeU za3 106 [.one (.fp (zau w) 0),.one (.int .i64 node),.one (.int .i64 uses)] K:=by
  refine zbd (zzX w node uses K) ?_
  unfold zF9 at hs
  unfold zvW at hk
  exact (za0 hs fun hc hs=>⟨hc,(zz3 K w node uses (0:Int) (⟨(w64 (uses+(1:Int))).toNat,(fun _=>(fun _=>(0:Int)))⟩:Sl Tab) (fun _=>(zad (fun _=>(0:Int)))) rfl hs hk)⟩)
def zvX : List PA → COut
  | [.one (.fp [.int .i64 a0_Net_Nodes,.sl a0_Net_Ties_n a0_Net_Ties_s a0_Net_Ties_g,.fm a0_out_q a0_out_n a0_out_F] 0),.one (.int .i64 a1),.one (.int .i64 a2)]=>.det (IsE enc_40 4 a0_Net_Ties_s a0_Net_Ties_g∧a0_out_q=(false,1,false,[none])∧zF9 (⟨(⟨a0_Net_Nodes,(⟨a0_Net_Ties_n,zaa a0_Net_Ties_g⟩:(Sl Tie))⟩:Net),(⟨a0_out_n,a0_out_F⟩:Mp)⟩:web) a1 a2=true) [.one (.sl ((zvW (⟨(⟨a0_Net_Nodes,(⟨a0_Net_Ties_n,zaa a0_Net_Ties_g⟩:(Sl Tie))⟩:Net),(⟨a0_out_n,a0_out_F⟩:Mp)⟩:web) a1 a2).len) 80 (fun i=>zad ((zvW (⟨(⟨a0_Net_Nodes,(⟨a0_Net_Ties_n,zaa a0_Net_Ties_g⟩:(Sl Tie))⟩:Net),(⟨a0_out_n,a0_out_F⟩:Mp)⟩:web) a1 a2).get i)))]
  | _=>.no
theorem zCU:zaq Tryd.prog 106:=⟨_,rfl,rfl,by kernel_rfl⟩
theorem zIk:Ok Tryd.prog 106 zvX:=zbG zF8 zCU fun args K h=>by
  unfold zvX at h
  split at h
  · rename_i a0_Net_Nodes a0_Net_Ties_n a0_Net_Ties_s a0_Net_Ties_g a0_out_q a0_out_n a0_out_F a1 a2
    obtain ⟨⟨⟨rfl,a0_Net_Ties_f,rfl⟩,rfl,hs⟩,hk⟩:=h
    try rw [zan a0_Net_Ties_f] at hs
    try rw [zan a0_Net_Ties_f] at hk
    exact ⟨(fun _ _=>[]),(fun _=>false),za3,zJO (⟨(⟨a0_Net_Nodes,(⟨a0_Net_Ties_n,a0_Net_Ties_f⟩:(Sl Tie))⟩:Net),(⟨a0_out_n,a0_out_F⟩:Mp)⟩:web) a1 a2 K hs hk⟩
  · exact h.elim
abbrev zJk:Tabs:=Tabs.nil
theorem zGa:TabsOk Tryd.prog zJk:=TabsOk.nil
abbrev zJl:Ctrs:=csm zJk (fun _ _=>[]) (fun _=>false)
def zvY:Ann:=⟨18,[(0,zK [0] []),(1,zK [0,3] []),(2,zK [3,6,7,8] []),(3,zK [3,6,7,8,9] []),(4,zK [3,5,6,7,8] []),(5,zK [3,5,6,7,8,14] []),(6,zK [2] []),(7,zK [3,6,7,8] []),(8,zK [2] [])],
 [(3,zK [3,6,7,8] [])],
 [],
 [],[]⟩
abbrev zJP:=Int
abbrev zIl (r:zJP):List PA:=[.one (.int .i64 r)]
@[irreducible] def z100:=ptF Tryd.prog zJl zvY Tryd.f100
def zvZ (vals:(Sl Int)) (zdd:Int):St:=⟨[(3,zI (0:Int)),(6,zS zai 1 vals),(7,zI (vals.len:Int)),(8,zI zdd)],[],[]⟩
abbrev zAY (K:List PA→Prop) (vals:(Sl Int)) (X:St→Prop) (P:Int→Bool) (S:Int→Int):Prop:=∀ ⦃zdd:Int⦄,P zdd=true→K (zIl (S zdd))→X (zvZ vals zdd)
section
variable {K:List PA→Prop} {vals:(Sl Int)} {zdd:Int} {X0:St→Prop} {P0:Int→Bool} {S0:Int→Int}
def zsg (vals:(Sl Int)) (S0:Int→Int) (zdd:Int):Int :=
  (cond (decide (zdd < (vals.len : Int)))
 (cond ((vals.get zdd.toNat) != (0:Int))
 (vals.get zdd.toNat)
 (S0 (w64 (zdd+(1:Int)))))
 (0:Int))
def zsh (vals:(Sl Int)) (P0:Int→Bool) (zdd:Int):Bool :=
  (cond (decide (zdd < (vals.len : Int)))
 (decide ((0≤zdd∧zdd < (vals.len:Int))) &&
 (cond ((vals.get zdd.toNat) != (0:Int))
 true
 (P0 (w64 (zdd+(1:Int))))))
 true)
def zsi (vals:(Sl Int)):Nat→Int→Int:=lpO (fun _=>default) (zsg vals)
def zsj (vals:(Sl Int)):Nat→Int→Bool:=lpO (fun _=>false) (zsh vals)
def zsk (vals:(Sl Int)) (zdd:Int):Int:=zsi vals Fuel zdd
def zsl (vals:(Sl Int)) (zdd:Int):Bool:=zsj vals Fuel zdd
theorem zz4 (hs:zsl vals zdd=true) (hk:K (zIl (zsk vals zdd))):z100 K [1,1,0,1,0] [] (zvZ vals zdd) :=
  zl (fun X=>z100 K [1,1,0,1,0,0] [X]) (by kernel_rfl) fun X0 hX =>
  (show ∀ k, zAY K vals X0 (zsj vals k) (zsi vals k) from zk5 _ _ (zsh vals) (zsg vals) (zAY K vals X0)
 (by intro _ hs;exact absurd hs Bool.false_ne_true)
 (by intro P0 S0 hX0 zdd hs hk;exact hX _ (zbd (by kernel_rfl) (zc hs hk (fun hs hk=>(za0 hs fun hc hs=>And.intro hc (zc hs hk (fun hs hk=>hk) (fun hs hk=>(hX0 hs hk))))) (fun hs hk=>hk))))) _ hs hk
def zIm (vals:(Sl Int)):Int :=
  (zsk vals (0:Int))
def zIn (vals:(Sl Int)):Bool :=
  (zsl vals (0:Int))
end
theorem zJQ (vals:(Sl Int)) (K:List PA→Prop) (hs:zIn vals=true) (hk:K (zIl (zIm vals))):vcFun Tryd.prog zJl zvY 100 [.one (.sl vals.len 1 (fun i=>zai (vals.get i)))] K :=
  zbd (by kernel_rfl) (zz4 hs hk)
def zv0 : List PA → COut
  | [.one (.sl a0_n a0_s a0_g)]=>.det (IsE zai 1 a0_s a0_g∧zIn (⟨a0_n,zar a0_g⟩:(Sl Int))=true) [.one (.int .i64 (zIm (⟨a0_n,zar a0_g⟩:(Sl Int))))]
  | _=>.no
theorem zCV:zaq Tryd.prog 100:=⟨_,rfl,rfl,by kernel_rfl⟩
theorem zIo:Ok Tryd.prog 100 zv0:=zbG zGa zCV fun args K h=>by
  unfold zv0 at h
  split at h
  · rename_i a0_n a0_s a0_g
    obtain ⟨⟨⟨rfl,a0_f,rfl⟩,hs⟩,hk⟩:=h
    try rw [zbS a0_f] at hs
    try rw [zbS a0_f] at hk
    exact ⟨(fun _ _=>[]),(fun _=>false),zvY,zJQ (⟨a0_n,a0_f⟩:(Sl Int)) K hs hk⟩
  · exact h.elim
abbrev zJm:Tabs:=Tabs.nil
theorem zGb:TabsOk Tryd.prog zJm:=TabsOk.nil
abbrev zJR:Ctrs:=csm zJm (fun _ _=>[]) (fun _=>false)
def zAZ:Ann:=⟨6,[(0,zK [0] []),(1,zK [2] [])],
 [],
 [],
 [],[]⟩
abbrev zJS:=Bool
abbrev zJT (r:zJS):List PA:=[.one (.bool r)]
section
variable {K:List PA→Prop} {x:Int}
def zGc (x:Int):Bool :=
  (x != x)
end
theorem zJU (x:Int) (K:List PA→Prop) (hk:K (zJT (zGc x))):vcFun Tryd.prog zJR zAZ 114 [.one (.int .i64 x)] K :=
  zbd (by kernel_rfl) hk
def zv1 : List PA → COut
  | [.one (.int .i64 a0)]=>.tot [.one (.bool (zGc a0))]
  | _=>.no
theorem zCW:zaq Tryd.prog 114:=⟨_,rfl,rfl,by kernel_rfl⟩
theorem zIp:Ok Tryd.prog 114 zv1:=zbG zGb zCW fun args K h=>by
  unfold zv1 at h
  split at h
  · rename_i a0
    have hk:=h
    exact ⟨(fun _ _=>[]),(fun _=>false),zAZ,zJU a0 K hk⟩
  · exact h.elim
abbrev zJn:Tabs:=(Tabs.nil.addF 114 zv1)
theorem zGd:TabsOk Tryd.prog zJn:=(TabsOk.nil.addF zIp)
abbrev zJV:Ctrs:=csm zJn (fun _ _=>[]) (fun _=>false)
def zA0:Ann:=⟨20,[(0,zK [0,1] []),(1,zK [0,1,5] []),(2,zK [0,1,5,6] []),(3,zK [0,1,6,11] []),(4,zK [12] []),(5,zK [4] []),(6,zK [4] []),(7,zK [0,1,13] []),(8,zK [4] []),(9,zK [0,1,16] []),(10,zK [4] []),(11,zK [19] []),(12,zK [4] []),(13,zK [4] [])],
 [],
 [],
 [],[]⟩
abbrev zJW:=Int
abbrev zJX (r:zJW):List PA:=[.one (.int .i64 r)]
section
variable {K:List PA→Prop} {x:Int} {y_a1:Int}
def zyN (x:Int) (y_a1:Int):Int :=
  (cond (zGc x)
 (cond (zGc y_a1)
 (0:Int)
 (-1:Int))
 (cond (zGc y_a1)
 (1:Int)
 (cond (decide (x < y_a1))
 (-1:Int)
 (cond (decide (x > y_a1))
 (1:Int)
 (0:Int)))))
end
theorem zJY (x:Int) (y_a1:Int) (K:List PA→Prop) (hk:K (zJX (zyN x y_a1))):vcFun Tryd.prog zJV zA0 101 [.one (.int .i64 x),.one (.int .i64 y_a1)] K :=
  zbd (by kernel_rfl) (zt hk (fun hk=>(zt hk (fun hk=>hk) (fun hk=>hk))) (fun hk=>(zt hk (fun hk=>hk) (fun hk=>(zt hk (fun hk=>hk) (fun hk=>(zt hk (fun hk=>hk) (fun hk=>hk))))))))
def zsm : List PA → COut
  | [.one (.int .i64 a0),.one (.int .i64 a1)]=>.tot [.one (.int .i64 (zyN a0 a1))]
  | _=>.no
theorem zCX:zaq Tryd.prog 101:=⟨_,rfl,rfl,by kernel_rfl⟩
theorem zGe:Ok Tryd.prog 101 zsm:=zbG zGd zCX fun args K h=>by
  unfold zsm at h
  split at h
  · rename_i a0 a1
    have hk:=h
    exact ⟨(fun _ _=>[]),(fun _=>false),zA0,zJY a0 a1 K hk⟩
  · exact h.elim
abbrev zJo:Tabs:=Tabs.nil
theorem zGf:TabsOk Tryd.prog zJo:=TabsOk.nil
abbrev zJZ:Ctrs:=csm zJo (fun _ _=>[]) (fun _=>false)
def zA1:Ann:=⟨6,[(0,zK [1] [1]),(1,zK [5] []),(2,zK [2] []),(3,zK [2] [])],
 [],
 [],
 [],[]⟩
abbrev zJ0:=Int
abbrev e118 (r:zJ0):List PA:=[.one (.int .i64 r)]
section
variable {K:List PA→Prop} {s:step}
def zA2 (s:step):Int :=
  (cond s.Use.Back
 (1:Int)
 (0:Int))
end
theorem zJ1 (s:step) (K:List PA→Prop) (hk:K (e118 (zA2 s))):vcFun Tryd.prog zJZ zA1 118 [.agg (zae s)] K :=
  zbd (by kernel_rfl) (zt hk (fun hk=>hk) (fun hk=>hk))
def zv2 : List PA → COut
  | [.agg [.int .i64 a0_Use_Tie,.bool a0_Use_Back,.int .i64 a0_from_,.int .i64 a0_to,.int .i64 a0_length]]=>.tot [.one (.int .i64 (zA2 (⟨(⟨a0_Use_Tie,a0_Use_Back⟩:Use),a0_from_,a0_to,a0_length⟩:step)))]
  | _=>.no
theorem zCY:zaq Tryd.prog 118:=⟨_,rfl,rfl,by kernel_rfl⟩
theorem zIq:Ok Tryd.prog 118 zv2:=zbG zGf zCY fun args K h=>by
  unfold zv2 at h
  split at h
  · rename_i a0_Use_Tie a0_Use_Back a0_from_ a0_to a0_length
    have hk:=h
    exact ⟨(fun _ _=>[]),(fun _=>false),zA1,zJ1 (⟨(⟨a0_Use_Tie,a0_Use_Back⟩:Use),a0_from_,a0_to,a0_length⟩:step) K hk⟩
  · exact h.elim
abbrev zJp:Tabs:=(((Tabs.nil.addF 100 zv0).addF 101 zsm).addF 118 zv2)
theorem zGg:TabsOk Tryd.prog zJp:=(((TabsOk.nil.addF zIo).addF zGe).addF zIq)
abbrev zJ2:Ctrs:=csm zJp (fun _ _=>[]) (fun _=>false)
def zA3:Ann:=⟨22,[(0,zK [2,3] [2,3]),(1,zK [2,3,5] [2,3]),(2,zK [4] [])],
 [],
 [],
 [],[]⟩
abbrev zJ3:=Int
abbrev e108 (r:zJ3):List PA:=[.one (.int .i64 r)]
section
variable {K:List PA→Prop} {a:step} {b:step}
def zHL (a:step) (b:step):Int :=
  (zIm (⟨2,zar (zbx [(zai (zyN a.Use.Tie b.Use.Tie)),(zai (zyN (zA2 a) (zA2 b)))])⟩:(Sl Int)))
def zIr (a:step) (b:step):Bool :=
  (decide ((zIn (⟨2,zar (zbx [(zai (zyN a.Use.Tie b.Use.Tie)),(zai (zyN (zA2 a) (zA2 b)))])⟩:(Sl Int))=true)) &&
 true)
end
theorem zJ4 (a:step) (b:step) (K:List PA→Prop) (hs:zIr a b=true) (hk:K (e108 (zHL a b))):vcFun Tryd.prog zJ2 zA3 108 [.agg (zae a),.agg (zae b)] K :=
  zbd (by kernel_rfl) (za0 hs fun hc hs=>And.intro (And.intro ((zdZ []):IsE zai 1 1 (zbx [(zai (zyN a.Use.Tie b.Use.Tie)),(zai (zyN (zA2 a) (zA2 b)))])) hc) hk)
def zv3 : List PA → COut
  | [.agg [.int .i64 a0_Use_Tie,.bool a0_Use_Back,.int .i64 a0_from_,.int .i64 a0_to,.int .i64 a0_length],.agg [.int .i64 a1_Use_Tie,.bool a1_Use_Back,.int .i64 a1_from_,.int .i64 a1_to,.int .i64 a1_length]]=>.det (zIr (⟨(⟨a0_Use_Tie,a0_Use_Back⟩:Use),a0_from_,a0_to,a0_length⟩:step) (⟨(⟨a1_Use_Tie,a1_Use_Back⟩:Use),a1_from_,a1_to,a1_length⟩:step)=true) [.one (.int .i64 (zHL (⟨(⟨a0_Use_Tie,a0_Use_Back⟩:Use),a0_from_,a0_to,a0_length⟩:step) (⟨(⟨a1_Use_Tie,a1_Use_Back⟩:Use),a1_from_,a1_to,a1_length⟩:step)))]
  | _=>.no
theorem zCZ:zaq Tryd.prog 108:=⟨_,rfl,rfl,by kernel_rfl⟩
theorem zIs:Ok Tryd.prog 108 zv3:=zbG zGg zCZ fun args K h=>by
  unfold zv3 at h
  split at h
  · rename_i a0_Use_Tie a0_Use_Back a0_from_ a0_to a0_length a1_Use_Tie a1_Use_Back a1_from_ a1_to a1_length
    obtain ⟨hs,hk⟩:=h
    exact ⟨(fun _ _=>[]),(fun _=>false),zA3,zJ4 (⟨(⟨a0_Use_Tie,a0_Use_Back⟩:Use),a0_from_,a0_to,a0_length⟩:step) (⟨(⟨a1_Use_Tie,a1_Use_Back⟩:Use),a1_from_,a1_to,a1_length⟩:step) K hs hk⟩
  · exact h.elim
abbrev zJq:Tabs:=(Tabs.nil.addF 108 zv3)
theorem zGh:TabsOk Tryd.prog zJq:=(TabsOk.nil.addF zIs)
abbrev zJr:Ctrs:=csm zJq (fun _ _=>[]) (fun _=>false)
def zv4:Ann:=⟨39,[(0,zK [0,1,2] []),(1,zK [0,1,2,11,12,13] []),(2,zK [0,1,2,11,12,13,14] []),(3,zK [0,1,2,7,8,11,12,13] [8]),(4,zK [0,1,2,7,8,11,12,13,21] [8]),(5,zK [6] []),(6,zK [0,1,2,8,9,11,12,13] [8,9]),(7,zK [0,1,2,10,11,12,13] []),(8,zK [0,1,2,10,11,12,13,31] []),(9,zK [6] []),(10,zK [0,1,2,11,12,13] []),(11,zK [38] []),(12,zK [6] []),(13,zK [6] [])],
 [(2,zK [0,1,2,11,12,13] [])],
 [(6,zK [0,1,2,7,8,11,12,13] [8]),(8,zK [0,1,2,10,11,12,13] [])],
 [],[]⟩
abbrev zJ5:=Int
abbrev zGi (r:zJ5):List PA:=[.one (.int .i64 r)]
@[irreducible] def z107:=ptF Tryd.prog zJr zv4 Tryd.f107
def zv5 (zea:(Sl step)) (zdK:(Sl step)) (zaQ:(Sl step)) (zbc:Int) (zbU:Int) (zc2:Nat→List PV) (zc3:Nat→List PV) (zfj:Nat→List PV):St:=⟨[(0,zP (.sl zea.len 5 zc2)),(1,zP (.sl zdK.len 5 zc3)),(2,zP (.fn 108 [] [])),(11,zP (.sl zaQ.len 5 zfj)),(12,zI zbc),(13,zI zbU)],[],[]⟩
abbrev zsn (K:List PA→Prop) (X:St→Prop) (P:(Sl step)→(Sl step)→(Sl step)→Int→Int→Bool) (S:(Sl step)→(Sl step)→(Sl step)→Int→Int→Int):Prop:=∀ ⦃zea:(Sl step)⦄ ⦃zdK:(Sl step)⦄ ⦃zaQ:(Sl step)⦄ ⦃zbc:Int⦄ ⦃zbU:Int⦄ ⦃zc2:Nat→List PV⦄ ⦃zc3:Nat→List PV⦄ ⦃zfj:Nat→List PV⦄,P zea zdK zaQ zbc zbU=true→K (zGi (S zea zdK zaQ zbc zbU))→zc2=zg zae zea→zc3=zg zae zdK→zfj=zg zae zaQ→X (zv5 zea zdK zaQ zbc zbU zc2 zc3 zfj)
section
variable {K:List PA→Prop} {s1_a0:(Sl step)} {s2_a1:(Sl step)} {zea:(Sl step)} {zdK:(Sl step)} {zaQ:(Sl step)} {zbc:Int} {zbU:Int} {zc2:Nat→List PV} {zc3:Nat→List PV} {zfj:Nat→List PV} {X0:St→Prop} {P0:(Sl step)→(Sl step)→(Sl step)→Int→Int→Bool} {S0:(Sl step)→(Sl step)→(Sl step)→Int→Int→Int} {zot:(Sl step)} {ziL:(Sl step)} {iv1:Int} {zcx:(Sl step)} {za2:Int} {zqo:Int} {zim:Int} {zin:Bool} {zio:Int} {ziq:Int} {zir:Int} {zou:Nat→List PV} {zov:Nat→List PV} {zv6:Nat→List PV} {zow:(Sl step)} {zox:(Sl step)} {cv2:Int} {zqp:Int} {zoy:Nat→List PV} {zoz:Nat→List PV}
def zso (S0:(Sl step)→(Sl step)→(Sl step)→Int→Int→Int) (zcx:(Sl step)) (za2:Int) (zow:(Sl step)) (zox:(Sl step)) (cv2:Int) (zqp:Int):Int :=
  (cond (cv2 != (0:Int))
 cv2
 (S0 zow zox zcx za2 (w64 (zqp+(1:Int)))))
def zsp (P0:(Sl step)→(Sl step)→(Sl step)→Int→Int→Bool) (zcx:(Sl step)) (za2:Int) (zow:(Sl step)) (zox:(Sl step)) (cv2:Int) (zqp:Int):Bool :=
  (cond (cv2 != (0:Int))
 true
 (P0 zow zox zcx za2 (w64 (zqp+(1:Int)))))
theorem zz5 (hX0:zsn K X0 P0 S0) (hs:zsp P0 zcx za2 zow zox cv2 zqp=true) (hk:K (zGi (zso S0 zcx za2 zow zox cv2 zqp))) (zv7:zoy=zg zae zow) (zv8:zoz=zg zae zox):z107 K [1,0,1,0,0,1,1,0,0,1,1,1,1] [X0] ⟨[(0,zP (.sl zow.len 5 zoy)),(1,zP (.sl zox.len 5 zoz)),(2,zP (.fn 108 [] [])),(10,zI cv2),(11,zS zae 5 zcx),(12,zI za2),(13,zI zqp)],[],[]⟩:=by subst zv7;subst zv8;exact zbd (by kernel_rfl) (zc hs hk (fun hs hk=>hk) (fun hs hk=>(hX0 hs hk rfl rfl rfl)))
def zsq (S0:(Sl step)→(Sl step)→(Sl step)→Int→Int→Int) (zot:(Sl step)) (ziL:(Sl step)) (iv1:Int) (zcx:(Sl step)) (za2:Int) (zqo:Int) (zim:Int) (zin:Bool) (zio:Int) (ziq:Int) (zir:Int):Int :=
  (zso S0 zcx za2 zot ziL (zHL (⟨(⟨zim,zin⟩:Use),zio,ziq,zir⟩:step) (ziL.get iv1.toNat)) zqo)
def zsr (P0:(Sl step)→(Sl step)→(Sl step)→Int→Int→Bool) (zot:(Sl step)) (ziL:(Sl step)) (iv1:Int) (zcx:(Sl step)) (za2:Int) (zqo:Int) (zim:Int) (zin:Bool) (zio:Int) (ziq:Int) (zir:Int):Bool :=
  (decide ((0≤iv1∧iv1 < (ziL.len:Int))) &&
 (decide ((zIr (⟨(⟨zim,zin⟩:Use),zio,ziq,zir⟩:step) (ziL.get iv1.toNat)=true)) &&
 (zsp P0 zcx za2 zot ziL (zHL (⟨(⟨zim,zin⟩:Use),zio,ziq,zir⟩:step) (ziL.get iv1.toNat)) zqo)))
theorem zz6 (hX0:zsn K X0 P0 S0) (hs:zsr P0 zot ziL iv1 zcx za2 zqo zim zin zio ziq zir=true) (hk:K (zGi (zsq S0 zot ziL iv1 zcx za2 zqo zim zin zio ziq zir))) (zv9:zou=zg zae zot) (zwa:zov=zg zae ziL) (zC0:zv6=zg zae zcx):z107 K [1,0,1,0,0,1,1,0,0,1,1] [X0] ⟨[(0,zP (.sl zot.len 5 zou)),(1,zP (.sl ziL.len 5 zov)),(2,zP (.fn 108 [] [])),(7,zI iv1),(8,zp 8 0),(11,zP (.sl zcx.len 5 zv6)),(12,zI za2),(13,zI zqo)],[(8,.box 130 (zm (zae (⟨(⟨zim,zin⟩:Use),zio,ziq,zir⟩:step))))],[]⟩:=by subst zv9;subst zwa;subst zC0;exact zbd (by kernel_rfl) (za0 hs fun hc hs=>And.intro hc (za0 hs fun hc hs=>And.intro hc (zz5 hX0 hs hk rfl rfl)))
def zss (S0:(Sl step)→(Sl step)→(Sl step)→Int→Int→Int) (zea:(Sl step)) (zdK:(Sl step)) (zaQ:(Sl step)) (zbc:Int) (zbU:Int):Int :=
  (cond (decide (zbU < zbc))
 (cond (decide (zbU ≥ (zdK.len : Int)))
 (1:Int)
 (zsq S0 zea zdK zbU zaQ zbc zbU ((zaQ.get zbU.toNat).Use.Tie) ((zaQ.get zbU.toNat).Use.Back) ((zaQ.get zbU.toNat).from_) ((zaQ.get zbU.toNat).to) ((zaQ.get zbU.toNat).length)))
 (cond (decide ((zea.len : Int) < (zdK.len : Int)))
 (-1:Int)
 (0:Int)))
def zst (P0:(Sl step)→(Sl step)→(Sl step)→Int→Int→Bool) (zea:(Sl step)) (zdK:(Sl step)) (zaQ:(Sl step)) (zbc:Int) (zbU:Int):Bool :=
  (cond (decide (zbU < zbc))
 (decide ((0≤zbU∧zbU < (zaQ.len:Int))) &&
 (cond (decide (zbU ≥ (zdK.len : Int)))
 true
 (zsr P0 zea zdK zbU zaQ zbc zbU ((zaQ.get zbU.toNat).Use.Tie) ((zaQ.get zbU.toNat).Use.Back) ((zaQ.get zbU.toNat).from_) ((zaQ.get zbU.toNat).to) ((zaQ.get zbU.toNat).length))))
 true)
def zsu:Nat→(Sl step)→(Sl step)→(Sl step)→Int→Int→Int:=lpO (fun _ _ _ _ _=>default) (zss)
def zsv:Nat→(Sl step)→(Sl step)→(Sl step)→Int→Int→Bool:=lpO (fun _ _ _ _ _=>false) (zst)
def zsw (zea:(Sl step)) (zdK:(Sl step)) (zaQ:(Sl step)) (zbc:Int) (zbU:Int):Int:=zsu Fuel zea zdK zaQ zbc zbU
def zsx (zea:(Sl step)) (zdK:(Sl step)) (zaQ:(Sl step)) (zbc:Int) (zbU:Int):Bool:=zsv Fuel zea zdK zaQ zbc zbU
theorem zz7 (hs:zsx zea zdK zaQ zbc zbU=true) (hk:K (zGi (zsw zea zdK zaQ zbc zbU))) (zkh:zc2=zg zae zea) (zki:zc3=zg zae zdK) (zqq:zfj=zg zae zaQ):z107 K [1,0,1,0] [] (zv5 zea zdK zaQ zbc zbU zc2 zc3 zfj) :=
  zl (fun X=>z107 K [1,0,1,0,0] [X]) (by kernel_rfl) fun X0 hX =>
  (show ∀ k, zsn K X0 (zsv k) (zsu k) from zk5 _ _ (zst) (zss) (zsn K X0)
 (by intro _ _ _ _ _ _ _ _ hs;exact absurd hs Bool.false_ne_true)
 (by intro P0 S0 hX0 zea zdK zaQ zbc zbU zc2 zc3 zfj hs hk zkh zki zqq;subst zkh;subst zki;subst zqq;exact hX _ (zbd (by kernel_rfl) (zc hs hk (fun hs hk=>(za0 hs fun hc hs=>And.intro hc (zc hs hk (fun hs hk=>hk) (fun hs hk=>(zz6 hX0 hs hk rfl rfl rfl))))) (fun hs hk=>(zt hk (fun hk=>hk) (fun hk=>hk))))))) _ hs hk zkh zki zqq
def zEW (s1_a0:(Sl step)) (s2_a1:(Sl step)):Int :=
  (zsw s1_a0 s2_a1 s1_a0 (s1_a0.len:Int) (0:Int))
def zHM (s1_a0:(Sl step)) (s2_a1:(Sl step)):Bool :=
  (zsx s1_a0 s2_a1 s1_a0 (s1_a0.len:Int) (0:Int))
end
theorem zJ6 (s1_a0:(Sl step)) (s2_a1:(Sl step)) (K:List PA→Prop) (hs:zHM s1_a0 s2_a1=true) (hk:K (zGi (zEW s1_a0 s2_a1))):vcFun Tryd.prog zJr zv4 107 [.one (.sl s1_a0.len 5 (fun i=>zae (s1_a0.get i))),.one (.sl s2_a1.len 5 (fun i=>zae (s2_a1.get i))),.one (.fn 108 [] [])] K :=
  zbd (by kernel_rfl) (zz7 hs hk rfl rfl rfl)
def zwb : List PA → COut
  | [.one (.sl a0_n a0_s a0_g),.one (.sl a1_n a1_s a1_g),.one (.fn 108 [] [])]=>.det (IsE zae 5 a0_s a0_g∧IsE zae 5 a1_s a1_g∧zHM (⟨a0_n,zgY a0_g⟩:(Sl step)) (⟨a1_n,zgY a1_g⟩:(Sl step))=true) [.one (.int .i64 (zEW (⟨a0_n,zgY a0_g⟩:(Sl step)) (⟨a1_n,zgY a1_g⟩:(Sl step))))]
  | _=>.no
theorem zC1:zaq Tryd.prog 107:=⟨_,rfl,rfl,by kernel_rfl⟩
theorem zIt:Ok Tryd.prog 107 zwb:=zbG zGh zC1 fun args K h=>by
  unfold zwb at h
  split at h
  · rename_i a0_n a0_s a0_g a1_n a1_s a1_g
    obtain ⟨⟨⟨rfl,a0_f,rfl⟩,⟨rfl,a1_f,rfl⟩,hs⟩,hk⟩:=h
    try rw [zd0 a0_f] at hs
    try rw [zd0 a0_f] at hk
    try rw [zd0 a1_f] at hs
    try rw [zd0 a1_f] at hk
    exact ⟨(fun _ _=>[]),(fun _=>false),zv4,zJ6 (⟨a0_n,a0_f⟩:(Sl step)) (⟨a1_n,a1_f⟩:(Sl step)) K hs hk⟩
  · exact h.elim
end Go.Proofs
