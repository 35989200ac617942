/- Part 1 of what the proof rests on: a machine that runs functions of the program on pure values, proved sound; the functions that the law reaches, and what they compute. -/
import Derived.CallsIn
import Derived.Laws.AppendOwn
import Derived.Laws.Rows
import Derived.Laws.Cells
import Derived.Below
import Derived.DefersIn
import Derived.Laws.World
import Derived.Laws.StructEq
import Derived.MapKept
import Derived.ChangeKeysEq
set_option linter.all false
namespace Go.Pm

inductive KF where
  | one
  | ints
  | bools
instance KF.dec:DecidableEq KF:=λ a b=>match a,b with
 | .one,.one=>isTrue rfl
 | .ints,.ints=>isTrue rfl
 | .bools,.bools=>isTrue rfl
 | .one,.ints=>isFalse (λ h=>by cases h)
 | .one,.bools=>isFalse (λ h=>by cases h)
 | .ints,.one=>isFalse (λ h=>by cases h)
 | .ints,.bools=>isFalse (λ h=>by cases h)
 | .bools,.one=>isFalse (λ h=>by cases h)
 | .bools,.ints=>isFalse (λ h=>by cases h)
abbrev MQ:=KF×Nat×Bool×List (Option IntKind)

inductive PV where
  | bool (b:Bool)
  | int (k:IntKind) (n:Int)
  | nilp
  | nilf
  | nilm
  | nils
  | fp (cells:List PV) (off:Nat)
  | sl (len size:Nat) (get:Nat->List PV)
  | fn (f:FuncId) (first caps:List PV)
  | mp (F:Int->List Int)
  | yl (l:Nat)
  | fm (q:MQ) (n:Nat) (F:List Int->Option (List Int))
  | fna (f:FuncId) (cells:List PV)
  | ns (b:Bool) (len size:Nat) (get:Nat->List PV)

inductive CapE where
  | v (v:PV)
  | b (L:Nat)

inductive Cl where
  | p (v:PV)
  | ptr (L off:Nat)
  | vptr (L size i k:Nat)
  | vec (L:Nat)
  | ivec (L i:Nat)
  | iptr (L size i j k:Nat)
  | mo (L:Nat)
  | imap (L i:Nat)
  | clo (f:FuncId) (caps:List CapE)
  | xp (L b n m j c:Nat)
  | xv (L s i b n m j c:Nat)
  | xf (cells:List PV) (b n m j c:Nat)
  | mkey (it L:Nat)
  | undef
  | junk
  | dead (L:Nat)

inductive D1 where
  | c (x:Cl)
  | agg (cs:List Cl)

inductive DV where
  | one (d:D1)
  | tup (ds:List D1)

inductive AO where
  | box (ty:Nat) (cells:List Cl)
  | fbox (cells:List PV)
  | vec (ety size bytes len:Nat) (get:Nat->List PV)
  | fvec (size len:Nat) (get:Nat->List PV)
  | vv (te bb ety size bytes len:Nat) (ln:Nat->Nat) (get:Nat->Nat->List PV)
  | mo (kt vt:Nat) (q:MQ) (n:Nat) (F:List Int->Option (List Int))
  | vm (te bb kt vt:Nat) (q:MQ) (n:Nat) (mk:Nat->Bool) (nn:Nat->Nat) (F:Nat->List Int->Option (List Int))
  | mit (q:MQ) (n:Nat) (F:List Int->Option (List Int)) (seen:List (List Int))
  | gone

def ztz:Prop:=True
def glv:List (Nat×List PV):=[]

inductive PA where
  | one (v:PV)
  | agg (cs:List PV)

inductive COut : Type 1 where
  | no
  | tot (res:List PA)
  | det (safe:Prop) (res:List PA)
  | rel (ρ:Type) (safe:Prop) (post:ρ->Prop) (res:ρ->List PA)
  | alt (b:Bool) (s1:Prop) (r1:List PA) (s2:Prop) (r2:List PA)

def COut.wp : COut → (List PA → Prop) → Prop
  | .no,_=>False
  | .tot r,K=>K r
  | .det s r,K=>s/\K r
  | .rel ρ s post r,K=>s/\(∃ x:ρ,post x)/\∀ x,post x->K (r x)
  | .alt b s1 r1 s2 r2,K=>(b=true->s1/\K r1)/\(b=false->s2/\K r2)

inductive OwnK where
  | none
  | clone (ety size bytes:Nat)
  | sort (ety size bytes:Nat)
  | keys (it:FuncId)
  | sorted (it:FuncId)
  | inpl (ety size bytes:Nat) (φ:Nat->(Nat->List PV)->Nat×(Nat->List PV)) (ret:Bool) (pre:(Nat->List PV)->Prop)
  | made (ty:Nat) (F:List PA->Option (Prop×Bool×List PV×PV))
  | mkv (e s b:Nat) (F:List PA->Option (Prop×Nat×(Nat->List PV)×List PV))
  | delf (ety size bytes:Nat) (g:FuncId) (φ:List PV->Nat->(Nat->List PV)->Nat×(Nat->List PV)) (pre:List PV->Nat->(Nat->List PV)->Prop)

inductive XC where
  | p (v:PV)
  | vec (e s b n:Nat) (get:Nat->List PV)
  | mo (kt vt:Nat) (q:MQ) (n:Nat) (F:List Int->Option (List Int))
inductive XA where
  | d (a:PA)
  | box (ty:Nat) (cells:List XC)
abbrev MK:=List XA->Option (Prop×List PA×List XA)

structure Ctrs where
  fn:FuncId->List PA->COut
  own:FuncId->OwnK
  it:FuncId->List PA->Option (Prop×List (List PA))
  memo:Nat->Int->List Int
  vv:Nat->Bool
  mt:FuncId->Option MK
  cfn:FuncId->List PA->COut
instance:CoeFun Ctrs (λ _=>FuncId->List PA->COut):=⟨Ctrs.fn⟩

def lk {α : Type} : List (Nat × α) → Nat → Option α
  | [],_=>none
  | (k,a) :: r,n=>match Nat.beq k n with | true=>some a | false=>lk r n

structure St where
  env:List (Nat×DV)
  objs:List (Nat×AO)
  log:List (Nat×Nat×Nat)

abbrev DV.p (v:PV):DV:=.one (.c (.p v))
abbrev DV.int (n:Int):DV:=.one (.c (.p (.int .i64 n)))
abbrev DV.bool (b:Bool):DV:=.one (.c (.p (.bool b)))
abbrev DV.cl (x:Cl):DV:=.one (.c x)
abbrev DV.junk:DV:=.one (.c .junk)

def zjH : Value → Option PV
  | .bool b=>some (.bool b)
  | .int k n=>some (.int k n)
  | .pointer none=>some .nilp
  | .slice none 0 0=>some .nils
  | .nilFunc=>some .nilf
  | .map none=>some .nilm
  | _=>none

def zdt : List Value → Option (List Cl)
  | []=>some []
  | v :: r=>match zjH v,zdt r with
    | some x,some l=>some (.p x :: l)
    | _,_=>none

def zuZ (v:Value):DV :=
 match v with
 | .agg cs=>match zdt cs.toList with
  | some l=>.one (.agg l)
  | none=>.junk
 | v=>match zjH v with
  | some x=>.p x
  | none=>.junk

def evO (env : List (Nat × DV)) : Operand → DV
  | .tmp t=>match lk env t with | some d=>d | none=>.junk
  | .const v=>zuZ v
  | .func f=>.p (.fn f [] [])
  | .global k=>match lk glv k with | some l=>.p (.fp l 0) | none=>.junk

section
variable (P:Program)

def szT (t:TypeId):Option Nat:=(P.info? t).map (·.size)
def zfx (t : TypeId) : Option Bool := (P.underlying t).map fun
  | .struct _=>true
  | .array _ _=>true
  | _=>false
def zel (t:TypeId):Option (List Cl) :=
 match P.info? t with
 | some i=>match i.zero with
  | some z=>match zdt z.cells.toList with
   | some l=>if l.length=i.size then some l else none
   | none=>none
  | none=>none
 | none=>none
end

def D1.cells : D1 → List Cl
  | .c x=>[x]
  | .agg cs=>cs

def spl {α : Type} : List α → Nat → List α → List α
  | l,_,[]=>l
  | l,off,x :: r=>spl (l.set off x) (off+1) r

def zgP : List Cl → Option (List PV)
  | []=>some []
  | .p v :: r=>match zgP r with | some l=>some (v :: l) | none=>none
  | _=>none

def deN : PV → PV
  | .ns _ n s g=>.sl n s g
  | v=>v
def zu0 (ob : Nat → Option AO) : Cl → Option (PV × List (Nat × AO))
  | .p v=>some (deN v,[])
  | .vec L=>match ob L with
    | some (.vec _ size _ len get)=>some (.sl len size get,[(L,.fvec size len get)])
    | some (.fvec size len get)=>some (.sl len size get,[])
    | some (.vv _ _ _ size _ n ln get)=>some (.sl n 1 (λ i=>[.sl (ln i) size (get i)]),[(L,.fvec 1 n (λ i=>[.sl (ln i) size (get i)]))])
    | some (.vm _ _ _ _ q n _ nn F)=>some (.sl n 1 (λ i=>[.fm q (nn i) (F i)]),[(L,.fvec 1 n (λ i=>[.fm q (nn i) (F i)]))])
    | _=>none
  | .mo L=>match ob L with
    | some (.mo _ _ q n F)=>some (.fm q n F,[(L,.gone)])
    | _=>none
  | _=>none

def ze3 (ob : Nat → Option AO) : List Cl → Option (List PV × List (Nat × AO))
  | []=>some ([],[])
  | x :: r=>match zu0 ob x,ze3 ob r with
    | some (v,u),some (l,us)=>some (v :: l,u ++ us)
    | _,_=>none

def zvV (ob : Nat → Option AO) : Cl → Option (PV × List (Nat × AO))
  | .ptr L off=>match ob L with
    | some (.box _ cells)=>match ze3 ob cells with
      | some (l,us)=>some (.fp l off,us ++ [(L,.fbox l)])
      | none=>none
    | some (.fbox l)=>some (.fp l off,[])
    | _=>none
  | x=>zu0 ob x

def zjI (ob : Nat → Option AO) : List Cl → Option (List PV × List (Nat × AO))
  | []=>some ([],[])
  | x :: r=>match zvV ob x,zjI ob r with
    | some (v,u),some (l,us)=>some (v :: l,u ++ us)
    | _,_=>none
def zJU : CapE → Cl
  | .v v=>.p v
  | .b L=>.ptr L 0
def frz (ob : Nat → Option AO) : Cl → Option (PV × List (Nat × AO))
  | .clo f caps=>match zjI ob (caps.map zJU) with
    | some (l,us)=>some (.fn f [] l,us)
    | none=>none
  | x=>zvV ob x

def znm (ob : Nat → Option AO) : List Cl → Option (List PV × List (Nat × AO))
  | []=>some ([],[])
  | x :: r=>match frz ob x,znm ob r with
    | some (v,u),some (l,us)=>some (v :: l,u ++ us)
    | _,_=>none

def zq2 (ob : Nat → Option AO) : DV → Option (PA × List (Nat × AO))
  | .one (.c x)=>match frz ob x with | some (v,u)=>some (.one v,u) | none=>none
  | .one (.agg cs)=>match znm ob cs with | some (l,u)=>some (.agg l,u) | none=>none
  | _=>none

def zfC (ob : Nat → Option AO) : List DV → Option (List PA × List (Nat × AO))
  | []=>some ([],[])
  | x :: r=>match zq2 ob x,zfC ob r with
    | some (v,u),some (l,us)=>some (v :: l,u ++ us)
    | _,_=>none

def zhl : List CapE → List Nat
  | []=>[]
  | .v _ :: r=>zhl r
  | .b L :: r=>L :: zhl r
def zaE : Cl → List Nat
  | .ptr L _=>[L]
  | .vptr L _ _ _=>[L]
  | .vec L=>[L]
  | .ivec L _=>[L]
  | .iptr L _ _ _ _=>[L]
  | .mo L=>[L]
  | .imap L _=>[L]
  | .clo _ caps=>zhl caps
  | .dead L=>[L]
  | .xp L _ _ _ _ _=>[L]
  | .xv L _ _ _ _ _ _ _=>[L]
  | .mkey _ L=>[L]
  | _=>[]
def zbN : D1 → List Nat
  | .c x=>zaE x
  | .agg cs=>cs.flatMap zaE
def zbf : DV → List Nat
  | .one d=>zbN d
  | .tup ds=>ds.flatMap zbN
def zb8 : AO → List Nat
  | .box _ cs=>cs.flatMap zaE
  | _=>[]
def za9 (ob:Nat->Option AO) (d:DV):List Nat :=
 (zbf d).flatMap λ L=>L :: match ob L with | some o=>zb8 o | none=>[]

def paD : PA → D1
  | .one v=>.c (.p v)
  | .agg cs=>.agg (cs.map .p)
def resD : List PA → DV
  | [x]=>.one (paD x)
  | l=>.tup (l.map paD)

inductive OpAct : Type 1 where
  | no
  | val (fp:List (Nat×Bool)) (d:DV) (u:List (Nat×AO)) (kill:List Nat)
  | chk (fp:List (Nat×Bool)) (safe:Prop) (d:DV) (u:List (Nat×AO)) (kill:List Nat)
  | rel (fp:List (Nat×Bool)) (u:List (Nat×AO)) (ρ:Type) (safe:Prop) (post:ρ->Prop) (d:ρ->DV)
  | alt (fp:List (Nat×Bool)) (u:List (Nat×AO)) (b:Bool) (s1:Prop) (d1:DV) (s2:Prop) (d2:DV)

def zhG : PV → Bool
  | .bool _=>true
  | .int _ _=>true
  | _=>false
def zFB : PA → Bool
  | .one v=>zhG v
  | .agg cs=>cs.all zhG
def ziy (l:List PA):Bool:=l.all zFB

def rd (l:List Nat):List (Nat×Bool):=l.map λ L=>(L,false)
def wr (l:List Nat):List (Nat×Bool):=l.map λ L=>(L,true)

def sc2 (l:List PV):Bool:=l.all zhG && Nat.ble 2 l.length
def zJ6 : List PV → Bool
  | a :: b :: r=>!(zhG a && zhG b) && zJ6 (b :: r)
  | _=>true
def zJ7 : Nat × AO → Bool
  | (_,.fbox l)=>zJ6 l
  | (_,.gone)=>true
  | _=>false
def zjJ (u:List (Nat×AO)) (r:List PA):Bool:=match r,u with
 | [.one (.sl _ _ get)],_ :: _=>sc2 (get 0) && u.all zJ7
 | _,_=>false
def zu1 : List PA → Prop
  | [.one (.sl _ _ get)]=>∀ i,sc2 (get i)=true
  | _=>True
def COut.act (labs : List Nat) (u : List (Nat × AO)) : COut → OpAct
  | .no=>.no
  | .tot r=>match ziy r with
    | true=>.val (rd labs) (resD r) [] []
    | false=>match zjJ u r with
      | true=>.chk (rd labs) (zu1 r) (resD r) [] []
      | false=>.val (wr labs) (resD r) u []
  | .det s r=>match ziy r with
    | true=>.chk (rd labs) s (resD r) [] []
    | false=>match zjJ u r with
      | true=>.chk (rd labs) (zu1 r/\s) (resD r) [] []
      | false=>.chk (wr labs) s (resD r) u []
  | .rel ρ s post r=>.rel (wr labs) u ρ s post λ x=>resD (r x)
  | .alt b s1 r1 s2 r2=>.alt (wr labs) u b s1 (resD r1) s2 (resD r2)

section
variable {labs:List Nat}{u:List (Nat×AO)}{r:List PA}{s:Prop}
theorem zq6 (h:ziy r=true):COut.act labs u (.tot r)=.val (rd labs) (resD r) [] []:=by simp only[COut.act,h]
theorem zq7 (h:ziy r=false) (h':zjJ u r=false):COut.act labs u (.tot r)=.val (wr labs) (resD r) u []:=by simp only[COut.act,h,h']
theorem zon (h:ziy r=false) (h':zjJ u r=true):COut.act labs u (.tot r)=.chk (rd labs) (zu1 r) (resD r) [] []:=by simp only[COut.act,h,h']
theorem zoo (h:ziy r=true):COut.act labs u (.det s r)=.chk (rd labs) s (resD r) [] []:=by simp only[COut.act,h]
theorem zop (h:ziy r=false) (h':zjJ u r=false):COut.act labs u (.det s r)=.chk (wr labs) s (resD r) u []:=by simp only[COut.act,h,h']
theorem zl1 (h:ziy r=false) (h':zjJ u r=true):COut.act labs u (.det s r)=.chk (rd labs) (zu1 r/\s) (resD r) [] []:=by simp only[COut.act,h,h']
end

def ziA (isAgg:Bool) (n:Nat) (cells:List Cl) (off:Nat):Option D1 :=
  match isAgg with
  | true => let l := (cells.drop off).take n
    match Nat.beq l.length n with
    | true=>some (.agg l)
    | false=>none
  | false=>match cells[off]? with
    | some x=>some (.c x)
    | none=>none

def D1.isAgg : D1 → Bool
  | .c _=>false
  | .agg _=>true

def zpI : Cl → Bool
  | .junk=>false
  | .undef=>false
  | .dead _=>false
  | .xp _ _ _ _ _ _=>false
  | .xv _ _ _ _ _ _ _ _=>false
  | .xf _ _ _ _ _ _=>false
  | .mkey _ _=>false
  | _=>true

def clV : Cl → List Nat
  | .vptr L _ _ _=>[L]
  | .vec L=>[L]
  | .ivec L _=>[L]
  | .iptr L _ _ _ _=>[L]
  | .imap L _=>[L]
  | .dead L=>[L]
  | .xv L _ _ _ _ _ _ _=>[L]
  | .mo L=>[L]
  | .mkey _ L=>[L]
  | _=>[]
def d1V : D1 → List Nat
  | .c x=>clV x
  | .agg cs=>cs.flatMap clV
def dvV : DV → List Nat
  | .one d=>d1V d
  | .tup ds=>ds.flatMap d1V
def aoV : AO → List Nat
  | .box _ cs=>cs.flatMap clV
  | _=>[]

def appG (n:Nat) (get new:Nat->List PV):Nat->List PV :=
 λ j=>match Nat.ble n j with | true=>new (j - n) | false=>get j
def zlE (i k:Nat) (get:Nat->List PV) (new:List PV):Nat->List PV :=
 λ j=>match Nat.beq j i with | true=>spl (get j) k new | false=>get j

def zFC (n:Nat) (ln new:Nat->Nat):Nat->Nat :=
 λ j=>match Nat.ble n j with | true=>new (j - n) | false=>ln j
def zq8 (n:Nat) (get new:Nat->Nat->List PV):Nat->Nat->List PV :=
 λ j=>match Nat.ble n j with | true=>new (j - n) | false=>get j
def zq9 (i j k:Nat) (get:Nat->Nat->List PV) (new:List PV):Nat->Nat->List PV :=
 λ q=>match Nat.beq q i with | true=>zlE j k (get q) new | false=>get q

def znn (b:Bool) (x y:DV):DV :=
 match x,y with
 | .one (.c (.p (.bool a))),.one (.c (.p (.bool c)))=>.bool (match b with | true=>a | false=>c)
 | x,y=>match b with | true=>x | false=>y

def zvQ (k:IntKind) (a b:Int):Int:=k.wrap (a * 2 ^ (min b.toNat k.bits))
def ztA (k:IntKind) (a b:Int):Int:=a.fdiv (2 ^ (min b.toNat k.bits))
def zu3 (k:IntKind) (a b:Int):Int:=k.wrap (BitVec.ofInt k.bits a &&& BitVec.ofInt k.bits b).toNat
def orW (k:IntKind) (a b:Int):Int:=k.wrap (BitVec.ofInt k.bits a ||| BitVec.ofInt k.bits b).toNat
def zQa (k:IntKind) (a b:Int):Int:=k.wrap (BitVec.ofInt k.bits a ^^^ BitVec.ofInt k.bits b).toNat
def zvW (k:IntKind) (a b:Int):Int:=k.wrap (BitVec.ofInt k.bits a &&& ~~~ BitVec.ofInt k.bits b).toNat
def zFD (op:BinOp) (k:IntKind) (a b:Int):OpAct :=
 match op with
 | .shl=>.chk [] (0<=b) (.p (.int k (zvQ k a b))) [] []
 | .shr=>.chk [] (0<=b) (.p (.int k (ztA k a b))) [] []
 | _=>.no
def zvX (op:BinOp) (k:IntKind) (a b:Int):OpAct :=
 match op with
 | .shl=>.chk [] (0<=b) (.p (.int k (zvQ k a b))) [] []
 | .shr=>.chk [] (0<=b) (.p (.int k (ztA k a b))) [] []
 | .and=>.val [] (.p (.int k (zu3 k a b))) [] []
 | .or=>.val [] (.p (.int k (orW k a b))) [] []
 | .xor=>.val [] (.p (.int k (zQa k a b))) [] []
 | .andNot=>.val [] (.p (.int k (zvW k a b))) [] []
 | .add=>.val [] (.p (.int k (k.wrap (a+b)))) [] []
 | .sub=>.val [] (.p (.int k (k.wrap (a - b)))) [] []
 | .mul=>.val [] (.p (.int k (k.wrap (a * b)))) [] []
 | .quo=>.chk [] (b ≠ 0) (.p (.int k (k.wrap (a.tdiv b)))) [] []
 | .rem=>.chk [] (b ≠ 0) (.p (.int k (a.tmod b))) [] []
 | .eql=>.val [] (.bool (a == b)) [] []
 | .neq=>.val [] (.bool (a != b)) [] []
 | .lss=>.val [] (.bool (decide (a < b))) [] []
 | .leq=>.val [] (.bool (decide (a<=b))) [] []
 | .gtr=>.val [] (.bool (decide (a > b))) [] []
 | .geq=>.val [] (.bool (decide (a >= b))) [] []

def zfY : List Cl → Option (List Int)
  | []=>some []
  | .p (.int .i64 a) :: r=>match zfY r with | some l=>some (a :: l) | none=>none
  | _=>none
def zCw (b : Bool) : List Int → List Cl
  | []=>[]
  | x :: r=>.p (.int .i64 (match b with | true=>x | false=>0)) :: zCw b r

def zJ8 (Γ : Ctrs) : Option Nat → Bool
  | some t=>Γ.vv t
  | none=>false
def OwnK.on : OwnK → Bool
  | .none=>false
  | _=>true
def zks (d:DV) (ob:Nat->Option AO):Option Nat :=
 match d with
 | .one (.c (.vec T))=>match ob T with
  | some (.vv _ _ _ _ _ _ _ _)=>some T
  | _=>none
 | _=>none

variable (P:Program) (Γ:Ctrs)

def eqT : Nat → TypeId → D1 → D1 → Option Bool
  | 0,_,_,_=>none
  | d+1,t,x,y =>
    match P.underlying t with
    | some .bool=>match x,y with
      | .c (.p (.bool a)),.c (.p (.bool b))=>some (a == b)
      | _,_=>none
    | some (.int _)=>match x,y with
      | .c (.p (.int k a)),.c (.p (.int k' b))=>if k=k' then some (a == b) else none
      | _,_=>none
    | some (.struct fs)=>match x,y,P.stoodInHeld t with
      | .agg xs,.agg ys,false=>fs.toList.foldr (λ f acc =>
          match acc, f.name != "_", zfx P f.type, szT P f.type with
          | some r,true,some ag,some n=>match ziA ag n xs f.offset,ziA ag n ys f.offset with
            | some a,some b=>match eqT d f.type a b with
              | some e=>some (match e with | true=>r | false=>false)
              | none=>none
            | _,_=>none
          | _,_,_,_=>none) (some true)
      | _,_,_=>none
    | _=>none

def zCx (op:BinOp) (t:TypeId) (cs ds:List Cl):OpAct :=
 match P.eqGuardType P.depth t,eqT P 8 t (.agg cs) (.agg ds) with
 | false,some r=>match op with
  | .eql=>.val [] (.bool r) [] []
  | .neq=>.val [] (.bool (!r)) [] []
  | _=>.no
 | _,_=>.no

def zu4 (t:TypeId):Option Nat :=
 match P.underlying t with
 | some (.map k e)=>match P.underlying k,zel P e,zfx P e with
  | some (.int .i64),some z,some true=>match zfY z,(P.info? e).bind (·.zero) with
   | some l,some (.agg _)=>match l.all (λ x=>match x with | .ofNat 0=>true | _=>false) with
    | true=>some l.length
    | false=>none
   | _,_=>none
  | _,_,_=>none
 | _=>none

def zhH (t:TypeId) (m k:DV) (ok:Bool):OpAct :=
 match zu4 P t,m,k,ok with
 | some n,.one (.c (.p (.mp F))),.one (.c (.p (.int .i64 j))),true=>match Nat.beq (F j).length n with
  | true=>.rel [] [] Bool True (λ _=>True) λ b=>.tup [.agg (zCw b (F j)),.c (.p (.bool b))]
  | false=>.no
 | _,_,_,_=>.no

def zhI (t:TypeId) (m k v:DV):OpAct :=
 match zu4 P t,m,k,v with
 | some _,.one (.c (.p (.mp F))),.one (.c (.p (.int .i64 j))),.one (.agg cs)=>match zfY cs with
  | some l=>.chk [] (l=F j) .junk [] []
  | none=>.no
 | _,_,_,_=>.no

def zfD : Nat → TypeId → Option Nat
  | 0,_=>none
  | d+1,t =>
    match P.underlying t with
    | some (.int .i64)=>match szT P t with
      | some n=>match Nat.beq n 1 with | true=>some 1 | false=>none
      | none=>none
    | some (.struct fs)=>match P.stoodInHeld t with
      | true=>none
      | false => fs.toList.foldl (fun acc f => match acc, f.name != "_", zfD d f.type, szT P f.type with
        | some m,true,some n,some n'=>match Nat.beq f.offset m && Nat.beq n n' with
          | true=>some (m+n)
          | false=>none
        | _,_,_,_=>none) (some 0)
    | some (.array n e)=>match zfD d e,szT P e with
      | some m,some m'=>match Nat.beq m m' with
        | true=>some (n * m)
        | false=>none
      | _,_=>none
    | _=>none

def zkt (l:List Cl) (k:Nat):Int:=match l[k]? with | some (.p (.int _ z))=>z | _=>0
def zra : List Cl → Bool
  | []=>true
  | .p (.int .i64 _) :: r=>zra r
  | _=>false
def rdI (l : List Cl) : Nat → Nat → List Cl
  | 0,_=>[]
  | n+1,k=>.p (.int .i64 (zkt l k)) :: rdI l n (k+1)
def rdX (ag:Bool) (m:Nat) (l:List Cl) (k:Nat):Option D1 :=
 match ag with
 | true=>some (.agg (rdI l m k))
 | false=>match rdI l m k with
  | [x]=>some (.c x)
  | _=>none
def zvR : Nat → Nat → (Nat → Int) → List PV
  | _,0,_=>[]
  | i,n+1,F=>.int .i64 (F i) :: zvR (i+1) n F
def zFE : Nat → List Int → (Nat → Int) → Nat → Int
  | _,[],F=>F
  | k,v :: r,F=>zFE (k+1) r λ i=>match Nat.beq i k with | true=>v | false=>F i
def zJ9 (n:Nat) (e:TypeId):Option Nat :=
 match Nat.ble 8 n,zfD P 8 e,szT P e with
 | true,some k,some m=>match Nat.beq k m with | true=>some m | false=>none
 | _,_,_=>none
def xok (l:List Cl) (b n m c s:Nat):Bool:=zra l && Nat.ble (b+n * m) l.length && Nat.ble (c+s) m

def zQb (big:Bool) (n:Nat) (e:TypeId):Option Nat :=
 match big with
 | true=>zJ9 P (n+8) e
 | false=>zJ9 P n e
def zoq (big:Bool) (t:TypeId) (x i:DV):OpAct :=
 match P.underlying t with
 | some (.array n e)=>match zQb P big n e with
  | some m=>match zfx P e,x,i with
   | some ag,.one (.agg cs),.one (.c (.p (.int _ j)))=>match xok cs 0 n m 0 m,rdX ag m cs (0+j.toNat * m+0) with
    | true,some d=>.chk [] (0<=j/\j < (n:Int)) (.one d) [] []
    | _,_=>.no
   | _,_,_=>.no
  | none=>match szT P e,zfx P e,x,i with
   | some m,some ag,.one (.agg cs),.one (.c (.p (.int _ (.ofNat j))))=>match Nat.blt j n,ziA ag m cs (j * m) with
    | true,some d=>.val [] (.one d) [] []
    | _,_=>.no
   | _,_,_,_=>.no
 | _=>.no

def zor (t:TypeId) (x:DV) (f:Nat):OpAct :=
 match P.underlying t with
 | some (.struct fs)=>match fs[f]? with
  | some fd=>match szT P fd.type,zfx P fd.type,x with
   | some m,some ag,.one (.agg cs)=>match ziA ag m cs fd.offset with
    | some d=>.val [] (.one d) [] []
    | none=>.no
   | _,_,_=>.no
  | none=>.no
 | _=>.no

def zlF (n:Nat) (e:TypeId) (x i:DV):OpAct :=
 match zJ9 P n e with
 | some m=>match i with
  | .one (.c (.p (.int _ j)))=>match x with
   | .one (.c (.ptr L off))=>.chk [] (0<=j/\j < (n:Int)) (.cl (.xp L off n m j.toNat 0)) [] []
   | .one (.c (.p (.fp c off)))=>.chk [] (0<=j/\j < (n:Int)) (.cl (.xf c off n m j.toNat 0)) [] []
   | .one (.c (.vptr L s k q))=>.chk [] (0<=j/\j < (n:Int)) (.cl (.xv L s k q n m j.toNat 0)) [] []
   | _=>.no
  | _=>.no
 | none=>match szT P e,i with
  | some m,.one (.c (.p (.int _ (.ofNat j))))=>match Nat.blt j n with
   | true=>match x with
    | .one (.c (.ptr L off))=>.val [] (.cl (.ptr L (off+j * m))) [] []
    | .one (.c (.p (.fp c off)))=>.val [] (.p (.fp c (off+j * m))) [] []
    | _=>.no
   | false=>.no
  | _,_=>.no

def zEb (t:TypeId):Option (List (Option IntKind)) :=
 match zel P t with
 | some z=>z.foldr (λ c acc=>match c,acc with
  | .p (.int k (.ofNat 0)),some l=>some (some k :: l)
  | .p (.bool false),some l=>some (none :: l)
  | _,_=>none) (some [])
 | none=>none

def zny (t:TypeId):Option Nat :=
 match P.underlying t with
 | some (.array n e)=>match P.underlying e,szT P e with
  | some .bool,some m=>match Nat.beq m 1 with | true=>some n | false=>none
  | _,_=>none
 | _=>none
def zCy (k:TypeId):Option (KF×Nat) :=
 match zfD P 8 k,zfx P k with
 | some n,some true=>some (.ints,n)
 | some n,some false=>match Nat.beq n 1 with | true=>some (.one,n) | false=>none
 | none,some true=>match zny P k with | some n=>some (.bools,n) | none=>none
 | _,_=>none
def zl2 (k e:TypeId):Option MQ :=
 match zCy P k,zEb P e,zfx P e with
 | some (kf,n),some ks,some vag=>match (vag || Nat.beq ks.length 1),(P.info? e).bind (·.zero),vag with
  | true,some (.agg _),true=>some (kf,n,vag,ks)
  | true,some (.agg _),false=>none
  | true,some _,false=>some (kf,n,vag,ks)
  | _,_,_=>none
 | _,_,_=>none

def zno (b:Bool):Int:=match b with | true=>1 | false=>0
def zKa : List Cl → Option (List Int)
  | []=>some []
  | .p (.bool b) :: r=>match zKa r with | some l=>some (zno b :: l) | none=>none
  | _=>none
def zJV (kf:KF) (n:Nat) (d:DV):Option (List Int) :=
 match kf,d with
 | .ints,.one (.agg cs)=>match zfY cs with
  | some l=>match Nat.beq l.length n with | true=>some l | false=>none
  | none=>none
 | .one,.one (.c (.p (.int .i64 a)))=>some [a]
 | .bools,.one (.agg cs)=>match zKa cs with
  | some l=>match Nat.beq l.length n with | true=>some l | false=>none
  | none=>none
 | _,_=>none

def zEc : Option IntKind → Int → PV
  | some k,x=>.int k x
  | none,x=>.bool (x != 0)
def zvS (o:Option (List Int)) (i:Nat):Int:=match o with | some l=>l.getD i 0 | none=>0
def zN8 (o : Option (List Int)) : Nat → List (Option IntKind) → List PV
  | _,[]=>[]
  | i,k :: ks=>zEc k (zvS o i) :: zN8 o (i+1) ks
def zJW (vag:Bool) (ks:List (Option IntKind)) (o:Option (List Int)):Option D1 :=
 match vag,zN8 o 0 ks with
 | true,l=>some (.agg (l.map .p))
 | false,[v]=>some (.c (.p v))
 | _,_=>none
def zjK : List (Option IntKind) → List Cl → Option (List Int)
  | [],[]=>some []
  | some k :: ks,.p (.int k' a) :: r=>if k=k' then match zjK ks r with | some l=>some (a :: l) | none=>none else none
  | none :: ks,.p (.bool b) :: r=>match zjK ks r with | some l=>some ((match b with | true=>1 | false=>0) :: l) | none=>none
  | _,_=>none
def ztB (c v:List Int) (F:List Int->Option (List Int)):List Int->Option (List Int) :=
 λ x=>match decide (x=c) with | true=>some v | false=>F x
def addN (o:Option (List Int)) (n:Nat):Nat:=match o with | some _=>n | none=>n+1

def found (q:MQ) (k:DV) (ok:Bool) (F:List Int->Option (List Int)) (fin:DV->OpAct):OpAct :=
 match zJV q.1 q.2.1 k with
 | some c=>match zJW q.2.2.1 q.2.2.2 (F c) with
  | some d=>match ok with
   | true=>fin (.tup [d,.c (.p (.bool (F c).isSome))])
   | false=>fin (.one d)
  | none=>.no
 | none=>.no
def zKb (t:TypeId):Option MQ :=
 match P.underlying t with
 | some (.map kt vt)=>zl2 P kt vt
 | _=>none
def zd6 {α:Type}(i:Nat) (x:α) (f:Nat->α):Nat->α:=λ j=>match Nat.beq j i with | true=>x | false=>f j
def znz (t:TypeId) (m k:DV) (ok:Bool) (ob:Nat->Option AO):OpAct :=
 match P.underlying t,m with
 | some (.map kt vt),.one (.c (.mo L))=>match zl2 P kt vt,ob L with
  | some q,some (.mo kt' vt' q' _ F)=>if kt'=kt/\vt'=vt/\q'=q then found q k ok F λ d=>.val [(L,false)] d [] [] else .no
  | _,_=>.no
 | some (.map kt vt),.one (.c (.imap L i))=>match zl2 P kt vt,ob L with
  | some q,some (.vm _ _ kt' vt' q' n _ _ F)=>if kt'=kt/\vt'=vt/\q'=q then found q k ok (F i) λ d=>.chk [(L,false)] (i < n) d [] [] else .no
  | _,_=>.no
 | some (.map kt vt),.one (.c (.p (.fm q' _ F)))=>match zl2 P kt vt with
  | some q=>if q'=q then found q k ok F λ d=>.val [] d [] [] else .no
  | _=>.no
 | _,_=>.no
def zu5 (t:TypeId) (m k v:DV) (ob:Nat->Option AO):OpAct :=
 match P.underlying t,m with
 | some (.map kt vt),.one (.c (.mo L))=>match zl2 P kt vt,ob L with
  | some q,some (.mo kt' vt' q' m' F)=>match zJV q.1 q.2.1 k,v with
   | some c,.one dv=>match zjK q.2.2.2 dv.cells with
    | some l=>if kt'=kt/\vt'=vt/\q'=q/\dv.isAgg=q.2.2.1 then .val [(L,true)] .junk [(L,.mo kt vt q (addN (F c) m') (ztB c l F))] [] else .no
    | none=>.no
   | _,_=>.no
  | _,_=>.no
 | some (.map kt vt),.one (.c (.imap L i))=>match zl2 P kt vt,ob L with
  | some q,some (.vm te bb kt' vt' q' n mk nn F)=>match zJV q.1 q.2.1 k,v with
   | some c,.one dv=>match zjK q.2.2.2 dv.cells with
    | some l=>if kt'=kt/\vt'=vt/\q'=q/\dv.isAgg=q.2.2.1 then .chk [(L,true)] (i < n) .junk [(L,.vm te bb kt vt q n mk (zd6 i (addN (F i c) (nn i)) nn) (zd6 i (ztB c l (F i)) F))] [] else .no
    | none=>.no
   | _,_=>.no
  | _,_=>.no
 | _,_=>.no
def zKc (c:List Int) (F:List Int->Option (List Int)):List Int->Option (List Int) :=
 λ x=>match decide (x=c) with | true=>none | false=>F x
def zNL (o:Option (List Int)) (n:Nat):Nat:=match o with | some _=>n - 1 | none=>n
def zpJ (args:List DV) (ts:List TypeId) (ob:Nat->Option AO):OpAct :=
 match args,ts with
 | [.one (.c (.mo L)),k],[t,_]=>match P.underlying t with
  | some (.map kt vt)=>match zl2 P kt vt,ob L with
   | some q,some (.mo kt' vt' q' n F)=>match zJV q.1 q.2.1 k with
    | some c=>if kt'=kt/\vt'=vt/\q'=q then .val [(L,true)] (.tup []) [(L,.mo kt vt q (zNL (F c) n) (zKc c F))] [] else .no
    | none=>.no
   | _,_=>.no
  | _=>.no
 | _,_=>.no
def zEd : DV → Bool
  | .one (.c (.mo _))=>true
  | .one (.c (.imap _ _))=>true
  | .one (.c (.p (.fm _ _ _)))=>true
  | _=>false

def zKd (kf:KF) (c:List Int):Option D1 :=
 match kf,c with
 | .ints,c=>some (.agg (c.map λ x=>.p (.int .i64 x)))
 | .one,[x]=>some (.c (.p (.int .i64 x)))
 | _,_=>none
def zCs (e:TypeId) (l:List PV):List PV :=
 match P.underlying e,l with
 | some (.slice e2),[.nils]=>match szT P e2,zel P e2 with
  | some s,some z=>match zgP z with
   | some z=>[.sl 0 s (λ _=>z)]
   | none=>l
  | _,_=>l
 | _,_=>l
def zhJ (t:TypeId) (x y:DV) (dst:Option Nat) (ob:Nat->Option AO):OpAct :=
 match P.underlying t,x,y,dst with
 | some (.slice e),.one (.c (.p (.int _ n))),.one (.c (.p (.int _ m))),some dst=>match P.info? e,zel P e,ob dst with
  | some ie,some z,none=>match zJ8 Γ (some dst) with
   | true=>match z,P.underlying e with
    | [.p .nilm],some (.map kt vt)=>match zl2 P kt vt,Nat.beq ie.size 1 && Nat.ble ie.bytes 1000000 with
     | some q,true=>.chk [(dst,true)] (0<=n/\n=m/\n<=1000000) (.cl (.vec dst)) [(dst,.vm e ie.bytes kt vt q n.toNat (λ _=>false) (λ _=>0) (λ _ _=>none))] []
     | _,_=>.no
    | [.p .nils],some (.slice e2)=>match P.info? e2,zel P e2,Nat.beq ie.size 1 && Nat.ble ie.bytes 1000000 with
     | some i2,some z2,true=>match zgP z2,Nat.ble 1 i2.size with
      | some l2,true=>.chk [(dst,true)] (0<=n/\n=m/\n<=1000000) (.cl (.vec dst)) [(dst,.vv e ie.bytes e2 i2.size i2.bytes n.toNat (λ _=>0) (λ _ _=>l2))] []
      | _,_=>.no
     | _,_,_=>.no
    | _,_=>.no
   | false=>match zgP z with
    | some l=>match Nat.ble 1 ie.size && Nat.ble ie.bytes 1000000 with
     | true=>.chk [(dst,true)] (0<=n/\n=m/\n<=1000000) (.cl (.vec dst)) [(dst,.vec e ie.size ie.bytes n.toNat (λ _=>zCs P e l))] []
     | false=>.no
    | none=>.no
  | _,_,_=>.no
 | _,_,_,_=>.no

def zu6 (ev : Operand → DV) : Option Operand → Option (Option Int)
  | none=>some none
  | some x=>match ev x with
    | .one (.c (.p (.int _ j)))=>some (some j)
    | _=>none
def slG (get:Nat->List PV) (l:Nat):Nat->List PV:=λ i=>get (i+l)
def zlG (t:TypeId) (x:DV) (lo hi:Option (Option Int)):OpAct :=
 match P.underlying t,x,lo,hi with
 | some (.slice e),.one (.c (.p (.sl n s get))),some lo,some hi=>match szT P e with
  | some m=>match Nat.beq s m with
   | true=>.chk [] (0<=lo.getD 0/\lo.getD 0<=hi.getD (n:Int)/\hi.getD (n:Int)<=(n:Int)) (.p (.sl (hi.getD (n:Int) - lo.getD 0).toNat s (slG get (lo.getD 0).toNat))) [] []
   | false=>.no
  | none=>.no
 | _,_,_,_=>.no

def zos (t:TypeId) (f:Nat):Option Nat :=
 match P.underlying t with
 | some (.struct fs)=>match fs[f]? with
  | some fd=>match szT P fd.type with
   | some (_+1)=>some fd.offset
   | _=>none
  | none=>none
 | _=>none

def zjL (t:TypeId):Bool :=
 match P.underlying t with
 | some (.struct fs)=>fs.toList.all λ f=>(szT P f.type).isSome
 | some (.array _ e)=>(szT P e).isSome
 | _=>false

def zdu (t : TypeId) (ev : Operand → DV) : List Cl → List (Nat × Operand) → Option (List Cl)
  | z,[]=>some z
  | z,(i,o) :: r =>
    match ev o with
    | .one d =>
      match P.underlying t with
      | some (.struct fs)=>match fs[i]? with
        | some fd=>match szT P fd.type with
          | some n=>match Nat.beq n d.cells.length && Nat.ble (fd.offset+n) z.length && d.cells.all zpI with
            | true=>zdu t ev (spl z fd.offset d.cells) r
            | false=>none
          | none=>none
        | none=>none
      | some (.array _ e)=>match szT P e with
        | some n=>match Nat.beq n d.cells.length && Nat.ble (i * n+n) z.length && d.cells.all zpI with
          | true=>zdu t ev (spl z (i * n) d.cells) r
          | false=>none
        | none=>none
      | _=>none
    | _=>none

def zdT (ob : Nat → Option AO) (ev : Operand → DV) (size : Nat) : Nat → List (Nat × Operand) → Option (List (List PV) × List (Nat × AO) × List Nat)
  | _,[]=>some ([],[],[])
  | i,(j,o) :: r =>
    match Nat.beq i j with
    | true=>match ev o with
      | .one d=>match ze3 ob d.cells,zdT ob ev size (i+1) r with
        | some (l,u),some (ls,us,labs)=>match Nat.beq l.length size with
          | true=>some (l :: ls,u ++ us,zbN d ++ labs)
          | false=>none
        | _,_=>none
      | _=>none
    | false=>none

def zCz (l:List (List PV)):Nat->List PV :=
 match l with
 | []=>λ _=>[]
 | [c]=>λ _=>c
 | c :: r=>λ i=>match (c :: r)[i]? with | some x=>x | none=>c


def zrb (ob:Nat->Option AO) (dst:Option Nat) (o:AO) (d:Nat->DV):OpAct :=
 match dst with
 | some t=>match ob t with
  | none=>.val [(t,true)] (d t) [(t,o)] []
  | some _=>.no
 | none=>.no

def ziH (o:Oper) (t n:Nat) (parts:List (Nat×Operand)) (ev:Operand->DV) (ob:Nat->Option AO):OpAct :=
 match P.underlying t,parts,o.dst with
 | some (.slice te),[(0,x)],some dst=>match P.info? te,zel P te,ev x with
  | some ie,some _,.one (.c (.vec M))=>match ob M,ob dst with
   | some (.vec e s b m get),none=>match Nat.beq n 1 && Nat.beq ie.size 1 && Nat.ble ie.bytes 1000000 with
    | true=>.chk [(M,true),(dst,true)] (0 < m) (.cl (.vec dst)) [(dst,.vv te ie.bytes e s b 1 (λ _=>m) (λ _=>get)),(M,.gone)] []
    | false=>.no
   | _,_=>.no
  | _,_,_=>.no
 | _,_,_=>.no

def zfm (o:Oper) (e:TypeId) (ie:TypeInfo) (s:DV) (T:Nat) (ob:Nat->Option AO):OpAct :=
 match ob T with
 | some (.vv te' bb' e' s' b' m lnT zpK)=>match s with
  | .one (.c (.vec L))=>match ob L with
   | some (.vv te bb e1 s1 b1 n ln get) =>
    if te=e/\te'=e/\bb=ie.bytes/\bb'=bb/\ie.size=1/\e1=e'/\s1=s'/\b1=b'/\L ≠ T then
     .chk [(L,true),(T,true)] ((n+m) * bb<=140737488355328/\n+m<=9223372036854775807) (.cl (.vec L)) [(L,.vv te bb e1 s1 b1 (n+m) (zFC n ln lnT) (zq8 n get zpK)),(T,.gone)] [L]
    else .no
   | _=>.no
  | _=>.no
 | _=>.no

def elP (ag:Bool) (l:List PV):PA :=
 match ag,l with
 | true,l=>.agg l
 | false,[v]=>.one v
 | _,_=>.agg []
def zKe (C:List PA->COut) (caps:List PV) (ag:Bool) (get:Nat->List PV) (i j:Nat):Option (Prop×Int) :=
 match C (elP ag (get i) :: elP ag (get j) :: caps.map .one) with
 | .tot [.one (.int .i64 c)]=>some (True,c)
 | .det s [.one (.int .i64 c)]=>some (s,c)
 | _=>none
def zJX (C:List PA->COut) (caps:List PV) (ag:Bool) (get:Nat->List PV) (i j:Nat):Int :=
 match zKe C caps ag get i j with | some (_,c)=>c | none=>0
def zN9 (C:List PA->COut) (caps:List PV) (ag:Bool) (get:Nat->List PV) (i j:Nat):Prop :=
 match zKe C caps ag get i j with | some (s,_)=>s | none=>False
def STO (n:Nat) (c:Nat->Nat->Int):Prop :=
 (∀ i,i < n->0<=c i i)/\(∀ i j,i < n->j < n->i ≠ j->(c i j < 0/\0<=c j i)\/(c j i < 0/\0<=c i j)) /\
 ∀ i j k,i < n->j < n->k < n->c i j < 0->c j k < 0->c i k < 0
def zQc (c : Nat → Nat → Int) (x : Nat) : List Nat → List Nat
  | []=>[x]
  | y :: r=>match decide (c x y < 0) with | true=>x :: y :: r | false=>y :: zQc c x r
def zKf (n:Nat) (c:Nat->Nat->Int):List Nat:=(List.range n).foldr (zQc c) []
def zFF {α:Type}(n:Nat) (c:Nat->Nat->Int) (get:Nat->α):Nat->α:=λ i=>get ((zKf n c).getD i ((zKf n c).getD 0 0))

def zJY (F : List Int → Option (List Int)) : Nat → Int → Nat → Option (List Int)
  | _,_,0=>some []
  | 0,_,_+1=>none
  | f+1,i,n+1=>match F [i] with
    | some _=>match zJY F f (i+1) n with
      | some l=>some (i :: l)
      | none=>none
    | none=>zJY F f (i+1) (n+1)
def zEe (F:List Int->Option (List Int)) (n:Nat):List Int:=(zJY F 9223372036854775808 0 n).getD []
def zu7 : List DV → Option (List PA)
  | []=>some []
  | .one (.c (.p v)) :: r=>match zu7 r with | some l=>some (.one v :: l) | none=>none
  | .one (.agg cs) :: r=>match zgP cs,zu7 r with | some l,some ls=>some (.agg l :: ls) | _,_=>none
  | _=>none
def zEf (get : Nat → List PV) : List (Nat × AO) → Prop
  | []=>True
  | _=>∀ i,(get i).all zhG=true
def zfE (o:Oper) (k:OwnK) (args:List DV) (ob:Nat->Option AO):OpAct :=
  match k with
  | .none=>.no
  | .sort e s b=>match args with
    | [.one (.c (.vec L)),.one (.c (.p (.fn h [] caps)))]=>match ob L,zfx P e with
      | some (.vec e' s' b' n get),some ag=>if e'=e/\s'=s/\b'=b then
          .chk [(L,true)] (n<=4611686018427387/\(∀ i j,i < n->j < n->zN9 (Γ.cfn h) caps ag get i j)/\STO n (zJX (Γ.cfn h) caps ag get)) (.tup []) [(L,.vec e s b n (zFF n (zJX (Γ.cfn h) caps ag get) get))] []
        else .no
      | _,_=>.no
    | _=>.no
  | .clone e s b=>match args,o.dst with
    | [.one (.c (.p (.sl n s' get)))],some dst=>match ob dst,P.info? e,zel P e with
      | none,some ie,some _=>if s'=s/\ie.size=s/\ie.bytes=b/\0 < s then
          .chk [(dst,true)] (n * b<=140737488355328/\n<=9223372036854775807) (.cl (.vec dst)) [(dst,.vec e s b n get)] []
        else .no
      | _,_,_=>.no
    | _,_=>.no
  | .keys it=>match args with
    | [.one (.c (.mo L))]=>match ob L with
      | some (.mo _ _ _ _ _)=>.val [(L,false)] (.cl (.mkey it L)) [] []
      | _=>.no
    | _=>.no
  | .sorted it=>match args with
    | [.one (.c (.mkey it' L))]=>match ob L with
      | some (.mo kt vt q n F)=>if it'=it/\kt=3/\zl2 P kt vt=some q then
          .chk [(L,false)] (n<=1000000/\(zJY F 9223372036854775808 0 n).isSome=true) (.p (.sl n 1 (λ i=>[.int .i64 ((zEe F n).getD i 0)]))) [] []
        else .no
      | _=>.no
    | _=>.no
  | .inpl e s b φ ret pre=>match args with
    | [.one (.c (.vec L))]=>match ob L with
      | some (.vec e' s' b' n get)=>if e'=e/\s'=s/\b'=b then
          match ret with
          | true=>.chk [(L,true)] (n<=4611686018427387/\pre get) (.cl (.vec L)) [(L,.vec e s b (φ n get).1 (φ n get).2)] [L]
          | false=>.chk [(L,true)] (n<=4611686018427387/\pre get) (.tup []) [(L,.vec e s b n (φ n get).2)] []
        else .no
      | _=>.no
    | _=>.no
  | .made ty F=>match zu7 args,o.dst with
    | some az,some dst=>match F az,ob dst with
      | some (s,b,cells,e),none=>.alt [(dst,true)] [(dst,.box ty (cells.map .p))] b s (.tup [.c (.ptr dst 0),.c (.p e)]) s (.tup [.c (.p .nilp),.c (.p e)])
      | _,_=>.no
    | _,_=>.no
  | .mkv e s b F=>match zfC ob args,o.dst with
    | some (az,u),some dst=>match F az,ob dst,P.info? e,zel P e with
      | some (p,n,get,rs),none,some ie,some _=>if ie.size=s/\ie.bytes=b/\0 < s then
          .chk ((dst, true) :: rd (args.flatMap (za9 ob))) (p ∧ zEf get u ∧ rs.all zhG = true)
            (match rs with | []=>.cl (.vec dst) | _=>.tup (.c (.vec dst) :: rs.map λ v=>.c (.p v))) [(dst,.vec e s b n get)] []
        else .no
      | _,_,_,_=>.no
    | _,_=>.no
  | .delf e s b g φ pre=>match args with
    | [.one (.c (.vec L)),.one (.c (.p (.fn h [] caps)))]=>match ob L with
      | some (.vec e' s' b' n get)=>if e'=e/\s'=s/\b'=b/\h=g then
          .chk [(L,true)] (n<=4611686018427387/\pre caps n get) (.cl (.vec L)) [(L,.vec e s b (φ caps n get).1 (φ caps n get).2)] [L]
        else .no
      | _=>.no
    | _=>.no

def zQd : DV → Option CapE
  | .one (.c (.p v))=>some (.v v)
  | .one (.c (.ptr L 0))=>some (.b L)
  | _=>none
def zot (ev : Operand → DV) : List Operand → Option (List CapE)
  | []=>some []
  | x :: r=>match zQd (ev x),zot ev r with
    | some c,some l=>some (c :: l)
    | _,_=>none
def capD : CapE → DV
  | .v v=>.p v
  | .b L=>.cl (.ptr L 0)

def zeD (ob : Nat → Option AO) : List Cl → Option (List XC × List Nat)
  | []=>some ([],[])
  | c :: r=>match zeD ob r with
    | some (l,ms)=>match c with
      | .p v=>some (.p v :: l,ms)
      | .vec M=>match ob M with
        | some (.vec e s b n get)=>some (.vec e s b n get :: l,M :: ms)
        | _=>none
      | .mo M=>match ob M with
        | some (.mo kt vt q n F)=>some (.mo kt vt q n F :: l,M :: ms)
        | _=>none
      | _=>none
    | none=>none
def znk (ob:Nat->Option AO) (d:DV):Option (XA×List Nat×List Nat) :=
 match zq2 ob d with
 | some (x,[])=>some (.d x,[],[])
 | _=>none
def zq3 (ob:Nat->Option AO) (d:DV):Option (XA×List Nat×List Nat) :=
 match d with
 | .one (.c (.ptr L 0))=>match ob L with
  | some (.box ty cells)=>match zeD ob cells with
   | some (cs,ms)=>some (.box ty cs,L :: ms,ms)
   | none=>none
  | _=>znk ob d
 | _=>znk ob d
def zgn (ob : Nat → Option AO) : List DV → Option (List XA × List Nat × List Nat)
  | []=>some ([],[],[])
  | d :: r=>match zq3 ob d,zgn ob r with
    | some (x,bl,ms),some (xs,bls,mss)=>some (x :: xs,bl ++ bls,ms ++ mss)
    | _,_=>none
def zhr : List Cl → List XC → Option (List Cl × List (Nat × AO))
  | [],[]=>some ([],[])
  | .p _ :: cs,.p v :: ys=>match zhr cs ys with
    | some (l,u)=>some (.p v :: l,u)
    | none=>none
  | .vec M :: cs,.vec e s b n get :: ys=>match zhr cs ys with
    | some (l,u)=>some (.vec M :: l,(M,.vec e s b n get) :: u)
    | none=>none
  | .mo M :: cs,.mo kt vt q n F :: ys=>match zhr cs ys with
    | some (l,u)=>some (.mo M :: l,(M,.mo kt vt q n F) :: u)
    | none=>none
  | _,_=>none
def zvY (ob:Nat->Option AO) (d:DV) (y:XA):Option (List (Nat×AO)) :=
 match d with
 | .one (.c (.ptr L 0))=>match ob L with
  | some (.box ty' cells)=>match y with
   | .box ty cs=>match Nat.beq ty ty',zhr cells cs with
    | true,some (l,u)=>some ((L,.box ty l) :: u)
    | _,_=>none
   | .d _=>none
  | _=>match y with
   | .d _=>some []
   | .box _ _=>none
 | _=>match y with
  | .d _=>some []
  | .box _ _=>none
def zhs (ob : Nat → Option AO) : List DV → List XA → Option (List (Nat × AO))
  | [],[]=>some []
  | d :: ds,y :: ys=>match zvY ob d y,zhs ob ds ys with
    | some u,some us=>some (u ++ us)
    | _,_=>none
  | _,_=>none
def zpL : List Nat → Bool
  | []=>true
  | x :: r=>!r.contains x && zpL r
def zla (C:MK) (args:List DV) (ob:Nat->Option AO):OpAct :=
 match zgn ob args with
 | some (xs,ls,ms)=>match C xs with
  | some (s,rs,ys)=>match zhs ob args ys,zpL ls && Nat.ble ms.length 1 with
   | some u,true=>.chk (wr ls ++ rd (args.flatMap (za9 ob))) s (resD rs) u ms
   | _,_=>.no
  | none=>.no
 | none=>.no

def zFG (t k:Nat) (cells:List Cl):List Cl :=
 match P.underlying t,cells[k]? with
 | some (.map kt vt),some (.p .nilm)=>match zl2 P kt vt with
  | some q=>cells.set k (.p (.fm q 0 (λ _=>none)))
  | none=>cells
 | _,_=>cells
def zvZ : List Field → List Cl → List Cl
  | [],cells=>cells
  | f :: r,cells=>zvZ r (zFG P f.type f.offset cells)
def zjM (t:TypeId) (cells:List Cl):List Cl :=
 match P.underlying t with
 | some (.struct fs)=>zvZ P fs.toList cells
 | _=>cells
def zu8 (ev : Operand → DV) : List Operand → List Operand → Option (List PV)
  | [x],[]=>match ev x with
    | .one (.agg cs)=>zgP cs
    | _=>none
  | _,_=>none

def act (o:Oper) (ev:Operand->DV) (ob:Nat->Option AO):OpAct :=
  match o.op with
  | .move x=>.val [] (ev x) [] []
  | .assign x=>.val [] (ev x) [] []
  | .pick c a b=>match ev c with
    | .one (.c (.p (.bool t)))=>.val [] (znn t (ev a) (ev b)) [] []
    | _=>.no
  | .alloc e=>match zel P e with
    | some z=>zrb ob o.dst (.box e z) λ t=>.cl (.ptr t 0)
    | none=>.no
  | .box e x=>match ev x,szT P e with
    | .one d,some n=>match Nat.beq d.cells.length n && d.cells.all zpI with
      | true=>zrb ob o.dst (.box e (zjM P e d.cells)) λ t=>.cl (.ptr t 0)
      | false=>.no
    | _,_=>.no
  | .build t parts=>match zjL P t,zel P t with
    | true,some z=>match zdu P t ev z parts.toList with
      | some l=>.val [] (.one (.agg l)) [] []
      | none=>.no
    | _,_=>.no
  | .buildSlice t n parts=>match zJ8 Γ o.dst with
   | true=>ziH P o t n parts.toList ev ob
   | false=>match P.underlying t with
    | some (.slice e)=>match P.info? e with
      | some ie=>match zdT ob ev ie.size 0 parts.toList with
        | some (ls,u,labs)=>match Nat.beq ls.length n && Nat.ble (n * ie.size) 1000000 && Nat.ble 1 ie.size,zel P e,o.dst with
          | true,some _,some dst=>match ob dst with
            | none=>.val (wr labs ++ [(dst,true)]) (.cl (.vec dst)) ((dst,.vec e ie.size ie.bytes n (zCz (ls.map (zCs P e)))) :: u) []
            | some _=>.no
          | _,_,_=>.no
        | none=>.no
      | none=>.no
    | _=>.no
  | .load t a=>match zfx P t,szT P t with
    | some g,some n=>match ev a with
      | .one (.c (.ptr L off))=>match ob L with
        | some (.box _ cells)=>match ziA g n cells off with
          | some d=>.val [(L,false)] (.one d) [] []
          | none=>.no
        | some (.fbox cells)=>match ziA g n (cells.map .p) off with
          | some d=>.val [(L,false)] (.one d) [] []
          | none=>.no
        | _=>.no
      | .one (.c (.p (.fp cells off)))=>match ziA g n (cells.map .p) off with
        | some d=>.val [] (.one d) [] []
        | none=>.no
      | .one (.c (.vptr L s i k))=>match ob L with
        | some (.vec _ s' _ len get)=>match Nat.beq s s',ziA g n ((get i).map .p) k with
          | true,some d=>.chk [(L,false)] (i < len) (.one d) [] []
          | _,_=>.no
        | some (.fvec s' len get)=>match Nat.beq s s',ziA g n ((get i).map .p) k with
          | true,some d=>.chk [(L,false)] (i < len) (.one d) [] []
          | _,_=>.no
        | some (.vv _ _ _ _ _ len ln _)=>match Nat.beq s 1 && Nat.beq k 0,g with
          | true,false=>.chk [(L,false)] (i < len/\0 < ln i) (.cl (.ivec L i)) [] []
          | _,_=>.no
        | some (.vm _ _ _ _ _ len mk _ _)=>match Nat.beq s 1 && Nat.beq k 0,g with
          | true,false=>.chk [(L,false)] (i < len/\mk i=true) (.cl (.imap L i)) [] []
          | _,_=>.no
        | _=>.no
      | .one (.c (.iptr L s i j k))=>match ob L with
        | some (.vv _ _ _ s' _ len ln get)=>match Nat.beq s s',ziA g n ((get i j).map .p) k with
          | true,some d=>.chk [(L,false)] (i < len/\j < ln i) (.one d) [] []
          | _,_=>.no
        | _=>.no
      | .one (.c (.xp L b n' m j c))=>match ob L with
        | some (.box _ cells)=>match xok cells b n' m c n,rdX g n cells (b+j * m+c) with
          | true,some d=>.val [(L,false)] (.one d) [] []
          | _,_=>.no
        | some (.fbox cells)=>match xok (cells.map .p) b n' m c n,rdX g n (cells.map .p) (b+j * m+c) with
          | true,some d=>.val [(L,false)] (.one d) [] []
          | _,_=>.no
        | _=>.no
      | .one (.c (.xf cells b n' m j c))=>match xok (cells.map .p) b n' m c n,rdX g n (cells.map .p) (b+j * m+c) with
        | true,some d=>.val [] (.one d) [] []
        | _,_=>.no
      | .one (.c (.xv L s i b n' m j c))=>match ob L with
        | some (.vec _ s' _ len get)=>match Nat.beq s s' && xok ((get i).map .p) b n' m c n,rdX g n ((get i).map .p) (b+j * m+c) with
          | true,some d=>.chk [(L,false)] (i < len) (.one d) [] []
          | _,_=>.no
        | _=>.no
      | _=>.no
    | _,_=>.no
  | .store t a x=>match szT P t,ev a,ev x with
    | some n,.one (.c (.ptr L off)),.one d=>match ob L with
      | some (.box ty cells)=>match Nat.beq d.cells.length n && Nat.ble (off+n) cells.length && d.cells.all zpI with
        | true=>.val [(L,true)] .junk [(L,.box ty (spl cells off d.cells))] []
        | false=>.no
      | _=>.no
    | some n,.one (.c (.vptr L s i k)),.one d=>match ob L with
      | some (.vec e s' b len get)=>match zgP d.cells with
        | some l=>match Nat.beq s s' && Nat.beq l.length n && Nat.ble (k+n) s with
          | true=>.chk [(L,true)] (i < len) .junk [(L,.vec e s' b len (zlE i k get l))] []
          | false=>.no
        | none=>.no
      | some (.vv te bb e s' by' len ln get)=>match d with
        | .c (.vec M)=>match ob M with
          | some (.vec e2 s2 b2 m get2)=>match Nat.beq s 1 && Nat.beq k 0 && Nat.beq n 1 && !Nat.beq L M with
            | true=>if e2=e/\s2=s'/\b2=by' then
                .chk [(L,true),(M,true)] (i < len/\ln i=0/\0 < m) .junk [(L,.vv te bb e s' by' len (zd6 i m ln) (zd6 i get2 get)),(M,.gone)] []
              else .no
            | false=>.no
          | _=>.no
        | _=>.no
      | some (.vm te bb kt vt q len mk nn F)=>match d with
        | .c (.mo M)=>match ob M with
          | some (.mo kt' vt' q' m F')=>match Nat.beq s 1 && Nat.beq k 0 && Nat.beq n 1 && !Nat.beq L M with
            | true=>if kt'=kt/\vt'=vt/\q'=q then
                .chk [(L,true),(M,true)] (i < len/\mk i=false) .junk [(L,.vm te bb kt vt q len (zd6 i true mk) (zd6 i m nn) (zd6 i F' F)),(M,.gone)] []
              else .no
            | false=>.no
          | _=>.no
        | _=>.no
      | _=>.no
    | some n,.one (.c (.iptr L s i j k)),.one d=>match ob L with
      | some (.vv te bb e s' b len ln get)=>match zgP d.cells with
        | some l=>match Nat.beq s s' && Nat.beq l.length n && Nat.ble (k+n) s with
          | true=>.chk [(L,true)] (i < len/\j < ln i) .junk [(L,.vv te bb e s' b len ln (zq9 i j k get l))] []
          | false=>.no
        | none=>.no
      | _=>.no
    | some n,.one (.c (.xp L b n' m j c)),.one d=>match ob L,zfY d.cells with
      | some (.box ty cells),some vs=>match Nat.beq d.cells.length n && xok cells b n' m c n with
        | true=>.val [(L,true)] .junk [(L,.box ty ((zvR 0 cells.length (zFE (b+j * m+c) vs (zkt cells))).map .p))] []
        | false=>.no
      | _,_=>.no
    | some n,.one (.c (.xv L s i b n' m j c)),.one d=>match ob L,zfY d.cells with
      | some (.vec e s' by' len get),some vs=>match Nat.beq s s' && Nat.beq d.cells.length n && xok ((get i).map .p) b n' m c n && Nat.beq (get i).length s with
        | true=>.chk [(L,true)] (i < len) .junk [(L,.vec e s' by' len (zlE i 0 get (zvR 0 s (zFE (b+j * m+c) vs (zkt ((get i).map .p))))))] []
        | false=>.no
      | _,_=>.no
    | _,_,_=>.no
  | .nilCheck x=>match ev x with
    | .one (.c (.ptr L off))=>.val [] (.cl (.ptr L off)) [] []
    | .one (.c (.p (.fp c off)))=>.val [] (.p (.fp c off)) [] []
    | .one (.c (.vptr L s i k))=>.val [] (.cl (.vptr L s i k)) [] []
    | .one (.c (.iptr L s i j k))=>.val [] (.cl (.iptr L s i j k)) [] []
    | .one (.c (.xp L b n m j c))=>.val [] (.cl (.xp L b n m j c)) [] []
    | .one (.c (.xv L s i b n m j c))=>.val [] (.cl (.xv L s i b n m j c)) [] []
    | .one (.c (.xf cells b n m j c))=>.val [] (.cl (.xf cells b n m j c)) [] []
    | _=>.no
  | .binOp op t x y _=>match ev x,ev y with
    | .one (.c (.p (.int k a))),.one (.c (.p (.int k' b)))=>if k=k' then zvX op k a b else zFD op k a b
    | .one (.c (.p (.bool a))),.one (.c (.p (.bool b)))=>match P.underlying t,op with
      | some .bool,.eql=>.val [] (.bool (a == b)) [] []
      | some .bool,.neq=>.val [] (.bool (a != b)) [] []
      | _,_=>.no
    | .one (.agg cs),.one (.agg ds)=>zCx P op t cs ds
    | .one (.c (.p (.sl n _ _))),.one (.c (.p .nils))=>match P.underlying t,op with
      | some (.slice _),.eql=>.rel [] [] Bool True (λ b=>n ≠ 0->b=false) λ b=>.bool b
      | some (.slice _),.neq=>.rel [] [] Bool True (λ b=>n ≠ 0->b=true) λ b=>.bool b
      | _,_=>.no
    | .one (.c (.p (.ns b n _ _))),.one (.c (.p .nils))=>match P.underlying t,op with
      | some (.slice _),.eql=>.chk [] (b=true\/n ≠ 0) (.bool b) [] []
      | some (.slice _),.neq=>.chk [] (b=true\/n ≠ 0) (.bool (!b)) [] []
      | _,_=>.no
    | .one (.c (.p .nils)),.one (.c (.p .nils))=>match P.underlying t,op with
      | some (.slice _),.eql=>.val [] (.bool true) [] []
      | some (.slice _),.neq=>.val [] (.bool false) [] []
      | _,_=>.no
    | _,_=>.no
  | .unOp op _ x=>match op,ev x with
    | .not,.one (.c (.p (.bool a)))=>.val [] (.bool (!a)) [] []
    | .neg,.one (.c (.p (.int k a)))=>.val [] (.p (.int k (k.wrap (0 - a)))) [] []
    | _,_=>.no
  | .fieldAddr t x f=>match zos P t f with
    | some off=>match ev x with
      | .one (.c (.ptr L k))=>.val [] (.cl (.ptr L (k+off))) [] []
      | .one (.c (.p (.fp c k)))=>.val [] (.p (.fp c (k+off))) [] []
      | .one (.c (.vptr L s i k))=>.val [] (.cl (.vptr L s i (k+off))) [] []
      | .one (.c (.iptr L s i j k))=>.val [] (.cl (.iptr L s i j (k+off))) [] []
      | .one (.c (.xp L b n m j c))=>.val [] (.cl (.xp L b n m j (c+off))) [] []
      | .one (.c (.xv L s i b n m j c))=>.val [] (.cl (.xv L s i b n m j (c+off))) [] []
      | .one (.c (.xf cells b n m j c))=>.val [] (.cl (.xf cells b n m j (c+off))) [] []
      | _=>.no
    | none=>.no
  | .indexAddr t x i=>match P.underlying t with
    | some (.slice e)=>match szT P e,ev i with
      | some n,.one (.c (.p (.int _ j)))=>match ev x with
        | .one (.c (.p (.sl len s get)))=>if s=n then .chk [] (0<=j/\j < (len:Int)) (.p (.fp (get j.toNat) 0)) [] [] else .no
        | .one (.c (.vec L))=>match ob L with
          | some (.vec _ s _ len _)=>if s=n then .chk [(L,false)] (0<=j/\j < (len:Int)) (.cl (.vptr L s j.toNat 0)) [] [] else .no
          | some (.fvec s len get)=>if s=n then .chk [(L,false)] (0<=j/\j < (len:Int)) (.p (.fp (get j.toNat) 0)) [] [] else .no
          | some (.vv _ _ _ _ _ len _ _)=>if n=1 then .chk [(L,false)] (0<=j/\j < (len:Int)) (.cl (.vptr L 1 j.toNat 0)) [] [] else .no
          | some (.vm _ _ _ _ _ len _ _ _)=>if n=1 then .chk [(L,false)] (0<=j/\j < (len:Int)) (.cl (.vptr L 1 j.toNat 0)) [] [] else .no
          | _=>.no
        | .one (.c (.ivec L i))=>match ob L with
          | some (.vv _ _ _ s _ len ln _)=>if s=n then .chk [(L,false)] (i < len/\0<=j/\j < (ln i:Int)) (.cl (.iptr L s i j.toNat 0)) [] [] else .no
          | _=>.no
        | _=>.no
      | _,_=>.no
    | some (.array n e)=>zlF P n e (ev x) (ev i)
    | _=>.no
  | .index t x i=>zoq P (match o.dst with | some d=>Γ.vv d | none=>false) t (ev x) (ev i)
  | .field t x f=>zor P t (ev x) f
  | .slice t x lo hi none=>zlG P t (ev x) (zu6 ev lo) (zu6 ev hi)
  | .lookup t m k ok=>match zEd (ev m) with
    | true=>znz P t (ev m) (ev k) ok ob
    | false=>zhH P t (ev m) (ev k) ok
  | .mapUpdate t m k v=>match zEd (ev m) with
    | true=>zu5 P t (ev m) (ev k) (ev v) ob
    | false=>zhI P t (ev m) (ev k) (ev v)
  | .makeMap t none=>match zJ8 Γ o.dst with
    | true=>match P.underlying t with
      | some (.map kt vt)=>match zl2 P kt vt with
        | some q=>zrb ob o.dst (.mo kt vt q 0 (λ _=>none)) λ t=>.cl (.mo t)
        | none=>.no
      | _=>.no
    | false=>match o.dst with
      | some dst=>match zu4 P t with
        | some _=>.chk [] ztz (.p (.mp (Γ.memo dst))) [] []
        | none=>.no
      | none=>.no
  | .makeSlice t x y=>zhJ P Γ t (ev x) (ev y) o.dst ob
  | .range t x=>match zKb P t,ev x with
    | some q,.one (.c (.p (.fm q' n F)))=>if q'=q then zrb ob o.dst (.mit q n F []) (λ t=>.cl (.ptr t 0)) else .no
    | _,_=>.no
  | .entry x=>match ev x with
    | .one (.c (.ptr L 0))=>match ob L with
      | some (.mit q _ F (c :: _))=>match zKd q.1 c,zJW q.2.2.1 q.2.2.2 (F c) with
        | some kd,some vd=>.val [(L,false)] (.tup [kd,vd]) [] []
        | _,_=>.no
      | _=>.no
    | _=>.no
  | .call { callee:=.builtin .len,args,argTypes }=>match args.toList,argTypes.toList with
    | [x],[t]=>match P.underlying t with
      | some (.slice _)=>match ev x with
        | .one (.c (.p (.sl n _ _)))=>.val [] (.int n) [] []
        | .one (.c (.p .nils))=>.val [] (.int 0) [] []
        | .one (.c (.vec L))=>match ob L with
          | some (.vec _ _ _ n _)=>.val [(L,false)] (.int n) [] []
          | some (.fvec _ n _)=>.val [(L,false)] (.int n) [] []
          | some (.vv _ _ _ _ _ n _ _)=>.val [(L,false)] (.int n) [] []
          | some (.vm _ _ _ _ _ n _ _ _)=>.val [(L,false)] (.int n) [] []
          | _=>.no
        | .one (.c (.ivec L i))=>match ob L with
          | some (.vv _ _ _ _ _ n ln _)=>.chk [(L,false)] (i < n) (.int (ln i)) [] []
          | _=>.no
        | _=>.no
      | some (.map _ _)=>match ev x with
        | .one (.c (.mo L))=>match ob L with
          | some (.mo _ _ _ n _)=>.val [(L,false)] (.int n) [] []
          | _=>.no
        | .one (.c (.p (.fm _ n _)))=>.val [] (.int n) [] []
        | _=>.no
      | _=>.no
    | _,_=>.no
  | .call { callee:=.builtin .max,args,argTypes:=_ }=>match args.toList.map ev with
    | [.one (.c (.p (.int k a))),.one (.c (.p (.int _ b)))]=>.val [] (.p (.int k (if b > a then b else a))) [] []
    | _=>.no
  | .call { callee:=.builtin .min,args,argTypes:=_ }=>match args.toList.map ev with
    | [.one (.c (.p (.int k a))),.one (.c (.p (.int _ b)))]=>.val [] (.p (.int k (if b < a then b else a))) [] []
    | _=>.no
  | .call { callee:=.builtin .delete,args,argTypes }=>zpJ P (args.toList.map ev) argTypes.toList ob
  | .call { callee:=.builtin .append,args,argTypes }=>match args.toList,argTypes.toList with
    | [s,x],[t,t']=>match P.underlying t,Nat.beq t t',o.dst with
      | some (.slice e),true,some dst=>match P.info? e,zel P e with
        | some ie,some _=>match zks (ev x) ob with
         | some T=>zfm o e ie (ev s) T ob
         | none =>
          let src:Option (Nat×Nat×(Nat->List PV)×List (Nat×Bool)):=match ev x with
            | .one (.c (.p (.sl n sz get)))=>some (n,sz,get,[])
            | .one (.c (.vec M))=>match ob M with
              | some (.vec _ sz _ n get)=>some (n,sz,get,[(M,false)])
              | some (.fvec sz n get)=>some (n,sz,get,[(M,false)])
              | _=>none
            | _=>none
          match src with
          | some (m,sz,new,fps)=>match ev s with
            | .one (.c (.vec L))=>match ob L with
              | some (.vec e' s' b' n get)=>if e'=e/\s'=ie.size/\b'=ie.bytes/\sz=s'/\0 < s'/\zbf (ev x) ≠ [L] then
                  .chk ((L,true) :: fps) ((n+m) * b'<=140737488355328/\n+m<=9223372036854775807) (.cl (.vec L)) [(L,.vec e s' b' (n+m) (appG n get new))] [L]
                else .no
              | _=>.no
            | .one (.c (.p .nils))=>match ob dst with
              | none=>if sz=ie.size/\0 < sz then
                  .chk ((dst,true) :: fps) (m * ie.bytes<=140737488355328/\m<=9223372036854775807) (.cl (.vec dst)) [(dst,.vec e sz ie.bytes m new)] []
                else .no
              | some _=>.no
            | _=>.no
          | none=>.no
        | _,_=>.no
      | _,_,_=>.no
    | _,_=>.no
  | .call { callee:=.value f,args,argTypes:=_ }=>match ev f with
    | .one (.c (.clo g caps))=>match Γ.mt g with
      | some C=>zla C (args.toList.map ev ++ caps.map capD) ob
      | none=>.no
    | .one (.c (.p (.fn g first caps)))=>match Γ.mt g with
     | some C=>zla C (first.map (λ v=>.p v) ++ args.toList.map ev ++ caps.map (λ v=>.p v)) ob
     | none=>match (Γ.own g).on with
     | true=>match first,caps with
       | [],[]=>zfE P Γ o (Γ.own g) (args.toList.map ev) ob
       | _,_=>.no
     | false=>match zfC ob (args.toList.map ev) with
      | some (az,u)=>(Γ g (first.map .one ++ az ++ caps.map .one)).act (args.toList.flatMap λ x=>za9 ob (ev x)) u
      | none=>.no
    | .one (.c (.p (.fna g cells)))=>match zfC ob (args.toList.map ev) with
      | some (az,u)=>(Γ g (.agg cells :: az)).act (args.toList.flatMap λ x=>za9 ob (ev x)) u
      | none=>.no
    | _=>.no
  | .makeFunc (.func f) first caps=>match (Γ.mt f).isSome with
   | true=>match first.toList,zot ev caps.toList with
     | [],some l=>.val [] (.cl (.clo f l)) [] []
     | _,_=>.no
   | false=>match zu8 ev first.toList caps.toList with
    | some l=>.val [] (.p (.fna f l)) [] []
    | none=>match znm ob (first.toList.flatMap λ x=>match ev x with | .one (.c c)=>[c] | _=>[.junk]),znm ob (caps.toList.flatMap λ x=>match ev x with | .one (.c c)=>[c] | _=>[.junk]) with
    | some (l,u),some (l',u')=>.val (wr ((first.toList ++ caps.toList).flatMap λ x=>za9 ob (ev x))) (.p (.fn f l l')) (u ++ u') []
    | _,_=>.no
  | .extract t i=>match ev t with
    | .tup ds=>match ds[i]? with
      | some d=>.val [] (.one d) [] []
      | none=>.no
    | _=>.no
  | _=>.no

def dqa:=@Option.some.injEq
def dqb:=@Result.andThen_ok
def dqc:=@Nat.eq_of_beq_eq_true
def dqd:=@Sem.run_bind
def dqe:=@Sem.run_pure
def dqf:=@List.mem_cons_of_mem
def dqg:=@List.mem_append
def dqh:=@Prod.mk.injEq
def dqi:=@List.mem_singleton
def dqj:=@List.mem_cons_self
def dqk:=@Bool.false_ne_true
def dql:=@Array.getD_eq_getD_getElem?
def dqm:=@Bool.and_eq_true
def dqn:=@List.getElem?_eq_some_iff
def dqo:=@List.mem_flatMap
def dqp:=@Array.getElem?_eq_some_iff
def dqq:=@List.mem_cons
def dqr:=@List.length_cons
def dqs:=@List.getElem?_take
def dqt:=@Nat.le_refl
def dqu:=@List.length_append
def dqv:=@Option.map_eq_some_iff
def dqw:=@Nat.mul_le_mul_right
def dqx:=@List.mem_of_getElem?
def dqy:=@List.cons.injEq
def dqz:=@List.mem_map
def dqC:=@List.getElem?_cons_succ
def dqD:=@List.getElem?_eq_getElem
def dqE:=@Nat.le_trans
def dqH:=@List.getElem?_map
def dqI:=@List.getElem?_drop
def dqJ:=@List.flatMap_cons
def dqK:=@List.map_cons
def dqL:=@List.length_nil
def dqM:=@List.getElem?_eq_none
def dqO:=@List.drop_eq_nil_of_le
def dqR:=@List.drop_eq_getElem_cons
def dqS:=@Nat.lt_of_lt_of_le
def dqU:=@beq_eq_false_iff_ne
def dqV:=@Nat.succ_mul
def dqW:=@Nat.not_lt_zero
end Go.Pm
namespace Go.Pm

def zcJ (b:Bool) (x y:Prop):Prop:=match b with | true=>x | false=>y

theorem zhK {b:Bool}{x y:Prop} : zcJ b x y↔((b=true->x)/\(b=false->y)):=by
 cases b <;> simp[zcJ]
theorem zaI {a b:Prop}(h:a=b) (hb:b):a:=h.symm ▸ hb

structure Keep where
  tmps:List Nat
  labs:List Nat
  coT:List (Nat×Nat×Nat×(Nat->List PV))
  coB:List (Nat×Nat×Nat×Nat×(Nat->List PV))
  coV:List (Nat×Nat×Nat×Nat×Nat×(Nat->Nat->List PV))
  coF:List Nat
  coZ:List (Nat×Nat×(Nat->List PV))

structure Ann where
  nt:Nat
  reg:List (Nat×Keep)
  head:List (Nat×Keep)
  cut:List (Nat×Keep)
  unr:List (Nat×Nat×Keep)
  yl:List Nat

def St.setT (σ:St) (t:Nat) (d:DV):St:={ σ with env:=(t,d) :: σ.env }

def zco (l:List Nat) (x:Cl):Cl :=
 match x with
 | .vec L=>match l.contains L with | true=>.dead L | false=>.vec L
 | .vptr L s i k=>match l.contains L with | true=>.dead L | false=>.vptr L s i k
 | .ivec L i=>match l.contains L with | true=>.dead L | false=>.ivec L i
 | .iptr L s i j k=>match l.contains L with | true=>.dead L | false=>.iptr L s i j k
 | .imap L i=>match l.contains L with | true=>.dead L | false=>.imap L i
 | .xv L s i b n m j c=>match l.contains L with | true=>.dead L | false=>.xv L s i b n m j c
 | .mo L=>match l.contains L with | true=>.dead L | false=>.mo L
 | .mkey it L=>match l.contains L with | true=>.dead L | false=>.mkey it L
 | x=>x
def zc3 (l : List Nat) : D1 → D1
  | .c x=>.c (zco l x)
  | .agg cs=>.agg (cs.map (zco l))
def zdU (l : List Nat) : DV → DV
  | .one d=>.one (zc3 l d)
  | .tup ds=>.tup (ds.map (zc3 l))
def zdc (l : List Nat) : AO → AO
  | .box ty cs=>.box ty (cs.map (zco l))
  | o=>o
def kills {α : Type} (f : α → α) : List (Nat × α) → List (Nat × α)
  | []=>[]
  | (k,a) :: r=>(k,f a) :: kills f r

def St.upd (σ:St) (_i:Nat) (dst:Option Nat) (_fp:List (Nat×Bool)) (d:DV) (u:List (Nat×AO)) (kill:List Nat):St :=
  match kill with
  | [] => { env := match dst with | some t => (t, d) :: σ.env | none => σ.env
            objs:=u ++ σ.objs
            log:=σ.log }
  | kill => { env := match dst with | some t => (t, d) :: kills (zdU kill) σ.env | none => kills (zdU kill) σ.env
              objs:=u ++ kills (zdc kill) σ.objs
              log:=σ.log }

def St.skip (σ:St) (dst:Option Nat):St :=
 match dst with
 | some t=>σ.setT t (.cl .undef)
 | none=>σ

def zck (nt : Nat) : Option Nat → Bool
  | none=>true
  | some t=>Nat.blt t nt

def St.relog (σ:St) (l:List (Nat×Nat×Nat)):St:={ σ with log:=l ++ σ.log }

def zCt (σ : St) : List Nat → List Nat
  | []=>[]
  | L :: _=>(σ.objs.map (·.1)).filter λ k=>match lk σ.objs k with
    | some o=>(aoV o).contains L
    | none=>false
def zrd (σ:St) (o:Oper) (fp:List (Nat×Bool)):List Nat :=
 (o.op.operands.toList.flatMap λ x=>dvV (evO σ.env x)) ++ fp.flatMap λ x=>match lk σ.objs x.1 with
  | some ob=>aoV ob
  | none=>[]
def zl3 (σ:St) (i:Nat) (o:Oper) (fp:List (Nat×Bool)) (kl:List Nat):List (Nat×Nat×Nat) :=
 (fp.map λ x=>(i,x.1,match x.2 with | true=>1 | false=>0)) ++ ((zrd σ o fp).map λ L=>(i,L,2)) ++ (kl.map λ L=>(i,L,3)) ++ ((zCt σ kl).map λ L=>(i,L,1))

def zgQ (A:OpAct) (lg:List (Nat×Bool)->List Nat->List (Nat×Nat×Nat)) (i:Nat) (dst:Option Nat) (K:St->Prop) (σ:St):Prop :=
 match A with
 | .no=>False
 | .val fp d u kl=>K ((σ.upd i dst fp d u kl).relog (lg fp kl))
 | .chk fp s d u kl=>s/\K ((σ.upd i dst fp d u kl).relog (lg fp kl))
 | .rel fp u ρ s post d=>s/\(∃ x:ρ,post x)/\∀ x,post x->K ((σ.upd i dst fp (d x) u []).relog (lg fp []))
 | .alt fp u b s1 d1 s2 d2=>zcJ b (s1/\K ((σ.upd i dst fp d1 u []).relog (lg fp []))) (s2/\K ((σ.upd i dst fp d2 u []).relog (lg fp [])))

section
variable (P:Program) (Γ:Ctrs)

def zht (nt : Nat) (ops : Array Oper) : Nat → List Oper → (St → Prop) → St → Prop
  | _,[],K,σ=>K σ
  | i,o :: r,K,σ =>
    match zck nt o.dst with
    | false=>False
    | true =>
    match o.guard with
    | none=>zgQ (act P Γ o (evO σ.env) (lk σ.objs)) (zl3 σ i o) i o.dst (zht nt ops (i+1) r K) σ
    | some (j,want) =>
      match (ops[j]?).bind (·.dst) with
      | none=>False
      | some g =>
        match lk σ.env g with
        | some (.one (.c (.p (.bool b)))) =>
          zcJ b
            (match want with
              | true=>zgQ (act P Γ o (evO ((g,.bool true) :: σ.env)) (lk σ.objs)) (zl3 (σ.setT g (.bool true)) i o) i o.dst (zht nt ops (i+1) r K) (σ.setT g (.bool true))
              | false=>zht nt ops (i+1) r K ((σ.setT g (.bool true)).skip o.dst))
            (match want with
              | true=>zht nt ops (i+1) r K ((σ.setT g (.bool false)).skip o.dst)
              | false=>zgQ (act P Γ o (evO ((g,.bool false) :: σ.env)) (lk σ.objs)) (zl3 (σ.setT g (.bool false)) i o) i o.dst (zht nt ops (i+1) r K) (σ.setT g (.bool false)))
        | some (.one (.c .undef))=>zht nt ops (i+1) r K (σ.skip o.dst)
        | _=>False

def zl4 (ms : List Nat) : List Edge → Nat
  | []=>0
  | e :: r=>match Region.binds .any e,ms[e.on]? with
    | true,some m=>(2 ^ e.on ||| m) ||| zl4 ms r
    | _,_=>zl4 ms r
def masks : List Oper → List Nat → List Nat
  | [],ms=>ms
  | o :: r,ms=>masks r (ms ++ [zl4 ms o.after.toList])

def zKg : Operand → List Nat
  | .tmp t=>[t]
  | _=>[]
def gdT (ops:Array Oper) (o:Oper):List Nat :=
 match o.guard with
 | some (j,_)=>match (ops[j]?).bind (·.dst) with | some g=>[g] | none=>[]
 | none=>[]
def zjN (ops:Array Oper) (o:Oper):List Nat:=o.op.operands.toList.flatMap zKg ++ gdT ops o

def meets (l:List Nat) (d:Option Nat):Bool:=match d with | some t=>l.contains t | none=>false
def zv0 (d e:Option Nat):Bool:=match d,e with | some t,some u=>Nat.beq t u | _,_=>false

def zpM (ops:Array Oper) (a b:Oper):Bool :=
 meets (zjN ops b) a.dst || meets (zjN ops a) b.dst || zv0 a.dst b.dst

def ztC (ops:Array Oper) (ms:List Nat):Bool :=
 (List.range ops.size).all λ j=>(List.range j).all λ i =>
  match ops[i]?,ops[j]?,ms[j]? with
  | some a,some b,some m=>!zpM ops a b || m.testBit i
  | _,_,_=>false

def zCA (ops:Array Oper):Bool :=
 (List.range ops.size).all λ i=>match ops[i]? with
  | some o=>o.after.toList.all λ e=>!Region.binds .any e || Nat.blt e.on i
  | none=>true

def zv1 (k l:Nat):Bool :=
 match k,l with
 | 0,1=>true
 | 1,0=>true
 | 1,1=>true
 | 2,3=>true
 | 3,2=>true
 | 3,3=>true
 | _,_=>false

def zou (ms:List Nat) (log:List (Nat×Nat×Nat)):Bool :=
 log.all λ x=>log.all λ y =>
  !Nat.blt x.1 y.1 || !Nat.beq x.2.1 y.2.1 || !zv1 x.2.2 y.2.2 || (match ms[y.1]? with | some m=>m.testBit x.1 | none=>false)

def zhL (x:Cl):Cl:=match x with | .dead _=>.junk | x=>x
def zjO : D1 → D1
  | .c x=>.c (zhL x)
  | .agg cs=>.agg (cs.map zhL)
def ztD : DV → DV
  | .one d=>.one (zjO d)
  | .tup ds=>.tup (ds.map zjO)
def zov : AO → AO
  | .box ty cs=>.box ty (cs.map zhL)
  | o=>o

def zfF : List (Nat × Nat × Nat × (Nat → List PV)) → St → Option St
  | [],σ=>some σ
  | (t,L,e,g) :: r,σ=>match lk σ.env t with
    | some (.one (.c (.p .nils)))=>match lk σ.objs L,P.info? e,zel P e with
      | none,some ie,some _=>match Nat.ble 1 ie.size with
        | true=>zfF r { env:=(t,.cl (.vec L)) :: σ.env,objs:=(L,.vec e ie.size ie.bytes 0 g) :: σ.objs,log:=σ.log }
        | false=>none
      | _,_,_=>none
    | some (.one (.c (.vec _)))=>zfF r σ
    | _=>none

def zfG : List (Nat × Nat × Nat × Nat × (Nat → List PV)) → St → Option St
  | [],σ=>some σ
  | (B,k,L,e,g) :: r,σ=>match lk σ.objs B with
    | some (.box ty cs)=>match cs[k]? with
      | some (.p .nils)=>match lk σ.objs L,P.info? e,zel P e with
        | none,some ie,some _=>match Nat.ble 1 ie.size with
          | true=>zfG r { env:=σ.env,objs:=(B,.box ty (cs.set k (.vec L))) :: (L,.vec e ie.size ie.bytes 0 g) :: σ.objs,log:=σ.log }
          | false=>none
        | _,_,_=>none
      | some (.vec _)=>zfG r σ
      | _=>none
    | _=>none

def zfH : List (Nat × Nat × Nat × Nat × Nat × (Nat → Nat → List PV)) → St → Option St
  | [],σ=>some σ
  | (B,k,L,te,e,g) :: r,σ=>match lk σ.objs B with
    | some (.box ty cs)=>match cs[k]? with
      | some (.p .nils)=>match lk σ.objs L,P.info? te,zel P te with
        | none,some it,some _=>match P.info? e,zel P e with
          | some ie,some _=>match Nat.beq it.size 1 && Nat.ble 1 ie.size with
            | true=>zfH r { env:=σ.env,objs:=(B,.box ty (cs.set k (.vec L))) :: (L,.vv te it.bytes e ie.size ie.bytes 0 (λ _=>0) g) :: σ.objs,log:=σ.log }
            | false=>none
          | _,_=>none
        | _,_,_=>none
      | some (.vec _)=>zfH r σ
      | _=>none
    | _=>none

def zlr {α : Type} (f : α → α) (l : List (Nat × α)) : List Nat → List (Nat × α)
  | []=>[]
  | t :: r=>match lk l t with
    | some d=>(t,f d) :: zlr f l r
    | none=>zlr f l r

def zv3 (labs:List Nat) (l:List Nat):Bool:=l.all λ L=>labs.contains L

def zu9 (ob : Nat → Option AO) : List Nat → List (Nat × AO)
  | []=>[]
  | L :: r=>match ob L with
    | some (.box _ cells)=>match ze3 ob cells with
      | some (l,[])=>(L,.fbox l) :: zu9 ob r
      | _=>zu9 ob r
    | _=>zu9 ob r
def zKh (l:List Nat) (σ:St):St:={ env:=σ.env,objs:=zu9 (lk σ.objs) l ++ σ.objs,log:=σ.log }

def zN (s:Nat) (g:Nat->List PV) (v:PV):PV :=
 match Nat.ble 1000 s with
 | true=>match v with
  | .nils=>.ns true 0 (s - 1000) g
  | .sl n s' g'=>.ns false n s' g'
  | v=>v
 | false=>match v with
  | .nils=>.sl 0 s g
  | v=>v
def zfI : List (Nat × Nat × (Nat → List PV)) → St → Option St
  | [],σ=>some σ
  | (t,s,g) :: r,σ=>match lk σ.env t with
    | some (.one (.c x))=>match x with
      | .p v=>zfI r { env:=(t,.p (zN s g v)) :: σ.env,objs:=σ.objs,log:=σ.log }
      | _=>match frz (lk σ.objs) x with
        | some (v,u)=>zfI r { env:=(t,.p (zN s g v)) :: σ.env,objs:=u ++ σ.objs,log:=σ.log }
        | none=>none
    | _=>none

def zl5 (k:Keep) (σ:St):Option St :=
  match zfF P k.coT σ with
  | none=>none
  | some σ1=>match zfG P k.coB σ1 with
    | none=>none
    | some σ2=>match zfH P k.coV σ2 with
     | none=>none
     | some σ3 =>
      let env:=zlr ztD σ3.env k.tmps
      let objs:=zlr zov σ3.objs k.labs
      match (env.all λ x=>zv3 k.labs (zbf x.2)) && (objs.all λ x=>zv3 k.labs (zb8 x.2)) with
      | true=>some ⟨env,objs,[]⟩
      | false=>none

def canon (k:Keep) (σ:St):Option St :=
 match zfI k.coZ (zKh k.coF σ) with
 | some s=>zl5 P k s
 | none=>none

def zCB (ann:Ann) (id:Nat) (ops:Array Oper) (draw:Bool) (K:St->Prop) (σ:St):Prop :=
 match draw with
 | false=>zht P Γ ann.nt ops 0 ops.toList (λ σ'=>match lk ann.reg id with
   | some k=>match canon P k σ' with
    | some s=>K s
    | none=>False
   | none=>K σ') { σ with log:=[] }
 | true=>match P.follows .mixedOrders && zCA ops && ztC ops (masks ops.toList []) with
  | true=>zht P Γ ann.nt ops 0 ops.toList (λ σ'=>match zou (masks ops.toList []) σ'.log with
   | true=>match lk ann.reg id with
    | some k=>match canon P k σ' with
     | some s=>K s
     | none=>False
    | none=>False
   | false=>False) { σ with log:=[] }
  | false=>False

def zNM : Nat → (List Int → Prop) → Prop
  | 0,K=>K []
  | n+1,K=>∀ x:Int,zNM n λ l=>K (x :: l)
def znA (ops:Array Oper):Option (Operand×Nat×Nat) :=
 match ops.toList with
 | [a,b]=>match a.op,b.op,a.dst,b.dst,a.guard,b.guard with
  | .next x false,.extract (.tmp t') 0,some t,some u,none,none=>match Nat.beq t t' with
   | true=>some (x,t,u)
   | false=>none
  | _,_,_,_,_,_=>none
 | _=>none
def zKi (ann:Ann) (id:Nat) (K:St->Prop) (σ:St):Prop :=
 match lk ann.reg id with
 | some k=>match canon P k σ with
  | some s=>K s
  | none=>False
 | none=>K σ
def zQe (m n:Nat) (F:List Int->Option (List Int)):Prop :=
 ∃ ks:List (List Int),ks.length=n/\ks.Nodup/\(∀ k∈ks,k.length=m)/\∀ c,c.length=m->(F c ≠ none↔c∈ks)
def zv4 (ann:Ann) (id:Nat) (x:Operand) (t u:Nat) (draw:Bool) (K:St->Prop) (σ:St):Prop :=
 match Nat.blt t ann.nt && Nat.blt u ann.nt && !draw,evO σ.env x with
 | true,.one (.c (.ptr L 0))=>match lk σ.objs L with
  | some (.mit q n F seen)=>zQe q.2.1 n F ->
   ((∀ c,c.length=q.2.1->F c ≠ none->c∈seen)->zKi P ann id K ⟨(u,.bool false) :: (t,.junk) :: σ.env,(L,.mit q n F seen) :: σ.objs,[]⟩) /\
   zNM q.2.1 λ c=>F c ≠ none->c ∉ seen ->
    zKi P ann id K ⟨(u,.bool true) :: (t,.junk) :: σ.env,(L,.mit q n F (c :: seen)) :: σ.objs,[]⟩
  | _=>False
 | _,_=>False

def znp : Code → Nat
  | .region id _ _=>id
  | .seq a _=>znp a
  | .block _ b=>znp b
  | .loop b=>znp b
  | .scope b=>znp b
  | .cond _ a b=>match Nat.beq (znp a) 1000000 with | true=>znp b | false=>znp a
  | _=>1000000

def zOa (ann:Ann) (r:Nat) (go:St->Prop) (σ:St):Prop :=
 match lk ann.cut r with
 | some k=>match canon P k σ with
  | some s=>go s
  | none=>False
 | none=>go σ

def zFH (next : St → Prop) (K : Exit → St → Prop) : Exit → St → Prop
  | .normal,σ=>next σ
  | e,σ=>K e σ
def ztE (id : Nat) (K : Exit → St → Prop) : Exit → St → Prop
  | .exit i,σ=>match Nat.beq i id with | true=>K .normal σ | false=>K (.exit i) σ
  | e,σ=>K e σ
def zv5 (K : Exit → St → Prop) : Exit → St → Prop
  | .goto _,_=>False
  | e,σ=>K e σ
def zCC (ann : Ann) (id : Nat) (X : St → Prop) (K : Exit → St → Prop) : Exit → St → Prop
  | .normal,σ=>match lk ann.head id with
    | some k=>match canon P k σ with
      | some s=>X s
      | none=>False
    | none=>False
  | e,σ=>K e σ

def zva (σ:St) (c:Operand) (b:Bool):St:=match c with | .tmp t=>σ.setT t (.bool b) | _=>σ

def zNN (k : Keep) (step : (Exit → St → Prop) → St → Prop) : Nat → (Exit → St → Prop) → St → Prop
  | 0,_,_=>False
  | n+1,K,σ=>match canon P k σ with
    | some s=>step (λ e σ'=>match e with | .normal=>zNN k step n K σ' | e=>K e σ') s
    | none=>False

def zCu : List Oper → List Nat
  | []=>[]
  | o :: r=>match o.dst with | some t=>t :: zCu r | none=>zCu r
def rfS:Nat:=4294967296
def znl : Code → List Nat
  | .region _ ops _=>zCu ops.toList
  | .seq a b=>znl a ++ znl b
  | .cond _ a b=>znl a ++ znl b
  | .block _ b=>znl b
  | .loop b=>znl b
  | .scope b=>znl b
  | .rangeFunc _ _ a b=>rfS :: (znl a ++ znl b)
  | _=>[]

def zQf (a b:Code):Nat:=match Nat.beq (znp a) 1000000 with | true=>znp b | false=>znp a
def zQG (l m:List Nat):Bool:=l.all λ t=>!m.contains t
def zjP : List Nat → List PA → List (Nat × DV) → Option (List (Nat × DV))
  | [],[],e=>some e
  | p :: ps,y :: ys,e=>zjP ps ys ((p,.one (paD y)) :: e)
  | _,_,_=>none
def znB (k : Keep) (next : St → Prop) (K : Exit → St → Prop) : Exit → St → Prop
  | .normal,σ=>match canon P k σ with | some s=>next s | none=>False
  | .ret,σ=>match canon P k σ with | some s=>K .ret s | none=>False
  | .exit id,σ=>match canon P k σ with | some s=>K (.exit id) s | none=>False
  | _,_=>False

def vc (ann : Ann) : Code → (Exit → St → Prop) → St → Prop
  | .skip,K,σ=>K .normal σ
  | .region id ops draw,K,σ=>match znA ops with
    | some (x,t,u)=>zv4 P ann id x t u draw (K .normal) σ
    | none=>zCB P Γ ann id ops draw (K .normal) σ
  | .seq a b,K,σ=>vc ann a (zFH (zOa P ann (znp b) (vc ann b K)) K) σ
  | .cond c a b,K,σ=>match evO σ.env c with
    | .one (.c (.p (.bool t)))=>zcJ t (vc ann a K (zva σ c true)) (vc ann b K (zva σ c false))
    | _=>False
  | .block id b,K,σ=>vc ann b (ztE id K) σ
  | .loop b,K,σ=>match lk ann.head (znp b) with
    | some k=>match canon P k σ with
      | some s=>∀ X:St->Prop,(∀ s,vc ann b (zCC P ann (znp b) X K) s->X s)->X s
      | none=>False
    | none=>match lk ann.unr (znp b) with
      | some (n,k)=>zNN P k (vc ann b) n K σ
      | none=>False
  | .rangeFunc f ps assign body,K,σ=>match lk ann.head (zQf assign body) with
    | some k=>match canon P k σ,zQG k.tmps (ps.toList ++ (znl assign ++ znl body)) && ps.toList.all (λ p=>Nat.blt p ann.nt) with
      | some s,true=>match evO s.env f with
        | .one (.c (.p (.fn gf [] caps)))=>match Γ.it gf (caps.map .one) with
          | some (safe,ys)=>safe/\∀ X:List (List PA)->St->Prop,(∀ s,K .normal s->X [] s) ->
            (∀ y rest s,(match zjP ps.toList y s.env with
              | some env=>vc ann assign (zFH (vc ann body (znB P k (X rest) K)) λ _ _=>False) ⟨env,s.objs,[]⟩
              | none=>False)->X (y :: rest) s)->X ys s
          | none=>False
        | _=>False
      | _,_=>False
    | none=>False
  | .exit id,K,σ=>K (.exit id) σ
  | .scope b,K,σ=>vc ann b (zv5 K) σ
  | .label _,K,σ=>K .normal σ
  | .ret,K,σ=>K .ret σ
  | _,_,_=>False

def zpN (σ : St) : List ResultVar → Option (List PA)
  | []=>some []
  | .tmp t :: r=>match lk σ.env t with
    | some d=>match zq2 (lk σ.objs) d,zpN σ r with
      | some (x,_),some l=>some (x :: l)
      | _,_=>none
    | none=>none
  | .cell t ty :: r=>match lk σ.env t,zfx P ty,szT P ty with
    | some (.one (.c (.ptr L off))),some g,some n=>match lk σ.objs L with
      | some (.box _ cells)=>match ziA g n cells off with
        | some d=>match zq2 (lk σ.objs) (.one d),zpN σ r with
          | some (x,_),some l=>some (x :: l)
          | _,_=>none
        | none=>none
      | _=>none
    | _,_,_=>none

def zNO (fn:Func) (K:List PA->Prop) (σ:St):Prop :=
 match zpN P σ fn.results.toList with
 | some l=>K l
 | none=>False

def zpO (fn : Func) (K : List PA → Prop) : Exit → St → Prop
  | .ret,σ=>zNO P fn K σ
  | .normal,σ=>zNO P fn K σ
  | _,_=>False

def zhM : Nat → List PA → List (Nat × DV)
  | _,[]=>[]
  | i,x :: r=>(i,.one (paD x)) :: zhM (i+1) r

def sqK (ann:Ann) (b:Code) (K:Exit->St->Prop):Exit->St->Prop:=zFH (zOa P ann (znp b) (vc P Γ ann b K)) K

def vcFun (ann:Ann) (f:FuncId) (args:List PA) (K:List PA->Prop):Prop :=
 match P.funcs[f]? with
 | some fn=>match fn.body with
  | some c=>match Nat.beq ann.nt fn.ntmps && Nat.ble args.length ann.nt with
   | true=>vc P Γ ann c (zpO P fn K) ⟨zhM 0 args,[],[]⟩
   | false=>False
  | none=>False
 | none=>False

def zCD (fn:Func) (e s b:Nat) (K:List PA->Prop) (σ:St):Prop :=
 match fn.results.toList with
 | [.tmp t]=>match lk σ.env t with
  | some (.one (.c (.vec L)))=>match lk σ.objs L with
   | some (.vec e' s' b' n get)=>match Nat.beq e e' && (Nat.beq s s' && Nat.beq b b') with
    | true=>K [.one (.sl n s get)]
    | false=>False
   | _=>False
  | _=>False
 | [.tmp t,.tmp u]=>match lk σ.env t with
  | some (.one (.c (.vec L)))=>match lk σ.env u with
   | some (.one (.c (.p x)))=>match lk σ.objs L with
    | some (.vec e' s' b' n get)=>match Nat.beq e e' && (Nat.beq s s' && Nat.beq b b') with
     | true=>K [.one (.sl n s get),.one x]
     | false=>False
    | _=>False
   | _=>False
  | _=>False
 | _=>False
def zv6 (fn : Func) (e s b : Nat) (K : List PA → Prop) : Exit → St → Prop
  | .ret,σ=>zCD fn e s b K σ
  | .normal,σ=>zCD fn e s b K σ
  | _,_=>False
def zCE (ann:Ann) (f:FuncId) (args:List PA) (e s b:Nat) (K:List PA->Prop):Prop :=
 match P.funcs[f]? with
 | some fn=>match fn.body with
  | some c=>match Nat.beq ann.nt fn.ntmps && Nat.ble args.length ann.nt with
   | true=>vc P Γ ann c (zv6 fn e s b K) ⟨zhM 0 args,[],[]⟩
   | false=>False
  | none=>False
 | none=>False

/-! Iterators: functions that take yield. -/
abbrev YK:=Exit->List (List PA)->Bool->St->Prop

def ziz : List DV → Option (List PA)
  | []=>some []
  | .one (.c (.p v)) :: r=>match ziz r with | some l=>some (.one v :: l) | none=>none
  | .one (.agg cs) :: r=>match zgP cs,ziz r with | some l,some m=>some (.agg l :: m) | _,_=>none
  | _ :: _=>none

def zvb (ob : Nat → Option AO) : List Nat → List (Nat × AO)
  | []=>[]
  | L :: r=>match ob L with
    | some (.fbox l)=>(L,.fbox l) :: zvb ob r
    | _=>zvb ob r
def zCF (σ:St):List (Nat×AO):=zu9 (lk σ.objs) (σ.objs.map (·.1)) ++ zvb (lk σ.objs) (σ.objs.map (·.1))
def hasAll (ks:List Nat) (l:List Nat):Bool:=l.all λ L=>ks.contains L
def ziI (ks : List Nat) (l : List (Nat × DV)) : List Nat → List (Nat × DV)
  | []=>[]
  | t :: r=>match lk l t with
    | some d=>match hasAll ks (zbf d) with
      | true=>(t,d) :: ziI ks l r
      | false=>ziI ks l r
    | none=>ziI ks l r
def zow (σ:St):St:=⟨ziI ((zCF σ).map (·.1)) σ.env (σ.env.map (·.1)),zCF σ,[]⟩

def zOb (σ:St) (o:Oper):Option (Array Operand×Nat×Nat) :=
 match o.op,o.dst with
 | .call { callee:=.value f,args,argTypes:=_ },some t=>match evO σ.env f with
  | .one (.c (.p (.yl l)))=>some (args,t,l)
  | _=>none
 | _,_=>none

def zl6 (nt l:Nat) (o:Oper) (next:List (List PA)->Bool->St->Prop) (ys:List (List PA)) (q:Bool) (σ:St):Prop :=
 match zOb σ o with
 | some (args,t,l1)=>match ziz (args.toList.map (evO σ.env)),Nat.blt t nt,q with
  | some y,true,false=>l1=l/\∃ rest,ys=y :: rest/\next rest false ((zow σ).setT t (.bool true))/\next rest true ((zow σ).setT t (.bool false))
  | _,_,_=>False
 | none=>match zck nt o.dst with
  | true=>zgQ (act P Γ o (evO σ.env) (lk σ.objs)) (λ _ _=>[]) 0 o.dst (next ys q) σ
  | false=>False
def zhm (nt l : Nat) (ops : Array Oper) : List Oper → (List (List PA) → Bool → St → Prop) → List (List PA) → Bool → St → Prop
  | [],K,ys,q,σ=>K ys q σ
  | o :: r,K,ys,q,σ=>match o.guard with
    | none=>zl6 P Γ nt l o (zhm nt l ops r K) ys q σ
    | some (j,want)=>match zck nt o.dst,(ops[j]?).bind (·.dst) with
      | true,some g=>match lk σ.env g with
        | some (.one (.c (.p (.bool b)))) => zcJ b
            (match want with | true=>zl6 P Γ nt l o (zhm nt l ops r K) ys q (σ.setT g (.bool true)) | false=>zhm nt l ops r K ys q ((σ.setT g (.bool true)).skip o.dst))
            (match want with | true=>zhm nt l ops r K ys q ((σ.setT g (.bool false)).skip o.dst) | false=>zl6 P Γ nt l o (zhm nt l ops r K) ys q (σ.setT g (.bool false)))
        | some (.one (.c .undef))=>zhm nt l ops r K ys q (σ.skip o.dst)
        | _=>False
      | _,_=>False

def zQg (next : List (List PA) → Bool → St → Prop) (K : YK) : YK
  | .normal,ys,q,σ=>next ys q σ
  | e,ys,q,σ=>K e ys q σ
def zlb (id : Nat) (K : YK) : YK
  | .exit i,ys,q,σ=>match Nat.beq i id with | true=>K .normal ys q σ | false=>K (.exit i) ys q σ
  | e,ys,q,σ=>K e ys q σ
def zKj (K : YK) : YK
  | .goto _,_,_,_=>False
  | e,ys,q,σ=>K e ys q σ
def zvc (ann : Ann) (id : Nat) (X : List (List PA) → Bool → St → Prop) (K : YK) : YK
  | .normal,ys,q,σ=>match lk ann.head id with
    | some k=>match canon P k σ with
      | some s=>X ys q s
      | none=>False
    | none=>False
  | e,ys,q,σ=>K e ys q σ
def zCG (k : Keep) (step : YK → List (List PA) → Bool → St → Prop) : Nat → YK → List (List PA) → Bool → St → Prop
  | 0,_,_,_,_=>False
  | n+1,K,ys,q,σ=>match canon P k σ with
    | some s=>step (λ e ys' q' σ'=>match e with | .normal=>zCG k step n K ys' q' σ' | e=>K e ys' q' σ') ys q s
    | none=>False
def zQh (ann:Ann) (r:Nat) (go:List (List PA)->Bool->St->Prop) (ys:List (List PA)) (q:Bool) (σ:St):Prop :=
 match lk ann.cut r with
 | some k=>match canon P k σ with
  | some s=>go ys q s
  | none=>False
 | none=>go ys q σ

def vcY (ann : Ann) (l : Nat) : Code → YK → List (List PA) → Bool → St → Prop
  | .skip,K,ys,q,σ=>K .normal ys q σ
  | .region id ops draw,K,ys,q,σ=>match ann.yl.contains id,draw with
    | true,false=>zhm P Γ ann.nt l ops ops.toList (λ ys' q' σ'=>match lk ann.reg id with
      | some k=>match canon P k σ' with
        | some s=>K .normal ys' q' s
        | none=>False
      | none=>K .normal ys' q' { σ' with log:=[] }) ys q { σ with log:=[] }
    | true,true=>False
    | false,_=>zCB P Γ ann id ops draw (K .normal ys q) σ
  | .seq a b,K,ys,q,σ=>vcY ann l a (zQg (zQh P ann (znp b) (vcY ann l b K)) K) ys q σ
  | .cond c a b,K,ys,q,σ=>match evO σ.env c with
    | .one (.c (.p (.bool t)))=>zcJ t (vcY ann l a K ys q (zva σ c true)) (vcY ann l b K ys q (zva σ c false))
    | _=>False
  | .block id b,K,ys,q,σ=>vcY ann l b (zlb id K) ys q σ
  | .loop b,K,ys,q,σ=>match lk ann.head (znp b) with
    | some k=>match canon P k σ with
      | some s=>∀ X:List (List PA)->Bool->St->Prop,(∀ ys q s,vcY ann l b (zvc P ann (znp b) X K) ys q s->X ys q s)->X ys q s
      | none=>False
    | none=>match lk ann.unr (znp b) with
      | some (n,k)=>zCG P k (vcY ann l b) n K ys q σ
      | none=>False
  | .exit id,K,ys,q,σ=>K (.exit id) ys q σ
  | .scope b,K,ys,q,σ=>vcY ann l b (zKj K) ys q σ
  | .label _,K,ys,q,σ=>K .normal ys q σ
  | .ret,K,ys,q,σ=>K .ret ys q σ
  | _,_,_,_,_=>False

def zNP (ys:List (List PA)) (q:Bool):Prop:=match q with | true=>True | false=>ys=[]
def zre : YK
  | .ret,ys,q,_=>zNP ys q
  | .normal,ys,q,_=>zNP ys q
  | _,_,_,_=>False

def vcIter (ann:Ann) (f:FuncId) (l:Nat) (caps:List PA) (ys:List (List PA)):Prop :=
 match P.funcs[f]? with
 | some fn=>match fn.body with
  | some c=>match Nat.beq ann.nt fn.ntmps && Nat.ble (caps.length+1) ann.nt && fn.results.isEmpty with
   | true=>vcY P Γ ann l c zre ys false ⟨zhM 0 (.one (.yl l) :: caps),[],[]⟩
   | false=>False
  | none=>False
 | none=>False

def cd : Code → List Nat → Code
  | c,[]=>c
  | .seq a b,i :: r=>match i with | 0=>cd a r | _=>cd b r
  | .cond _ a b,i :: r=>match i with | 0=>cd a r | _=>cd b r
  | .block _ b,_ :: r=>cd b r
  | .loop b,_ :: r=>cd b r
  | .scope b,_ :: r=>cd b r
  | .rangeFunc _ _ a b,i :: r=>match i with | 0=>cd a r | _=>cd b r
  | c,_=>c
def cdF (fn:Func) (l:List Nat):Code:=match fn.body with | some c=>cd c l | none=>.skip

end
end Go.Pm
namespace Go.Pm
open Go.RowKit (Below)

def RL {α β : Type} (R : α → β → Prop) : List α → List β → Prop
  | [],[]=>True
  | a :: l,b :: m=>R a b/\RL R l m
  | _,_=>False

section rl
variable {α β:Type}{R R':α->β->Prop}
theorem RL.length {l:List α}{m:List β}(h:RL R l m):l.length=m.length:=by
 induction l generalizing m with
 | nil=>cases m with
  | nil=>rfl
  | cons=>exact h.elim
 | cons a l ih=>cases m with
  | nil=>exact h.elim
  | cons b m=>simp[ih h.2]
theorem RL.mono {l:List α}{m:List β}(h:RL R l m) (hr:∀ a b,R a b->R' a b):RL R' l m:=by
 induction l generalizing m with
 | nil=>cases m with
  | nil=>trivial
  | cons=>exact h.elim
 | cons a l ih=>cases m with
  | nil=>exact h.elim
  | cons b m=>exact⟨hr _ _ h.1,ih h.2⟩
theorem RL.get {l:List α}{m:List β}(h:RL R l m):∀ (j:Nat) (a:α),l[j]? = some a->∃ b,m[j]? = some b/\R a b:=by
 induction l generalizing m with
 | nil=>intro j a hj;simp at hj
 | cons x l ih=>cases m with
  | nil=>exact h.elim
  | cons b m =>
   intro j a hj
   cases j with
   | zero=>simp at hj;subst hj;exact⟨b,rfl,h.1⟩
   | succ j=>simp at hj;obtain⟨b',h1,h2⟩:=ih h.2 j a hj;exact⟨b',by simpa using h1,h2⟩
theorem RL.get' {l:List α}{m:List β}(h:RL R l m):∀ (j:Nat) (b:β),m[j]? = some b->∃ a,l[j]? = some a/\R a b:=by
 induction l generalizing m with
 | nil=>cases m with
  | nil=>intro j b hj;simp at hj
  | cons=>exact h.elim
 | cons x l ih=>cases m with
  | nil=>exact h.elim
  | cons y m =>
   intro j b hj
   cases j with
   | zero=>simp at hj;subst hj;exact⟨x,rfl,h.1⟩
   | succ j=>simp at hj;obtain⟨b',h1,h2⟩:=ih h.2 j b hj;exact⟨b',by simpa using h1,h2⟩
theorem RL.of_get {l:List α}{m:List β}(hl:l.length=m.length) (h:∀ (j:Nat) (a:α) (b:β),l[j]? = some a->m[j]? = some b->R a b):RL R l m:=by
 induction l generalizing m with
 | nil=>cases m with
  | nil=>trivial
  | cons=>simp at hl
 | cons x l ih=>cases m with
  | nil=>simp at hl
  | cons y m =>
   refine⟨h 0 x y rfl rfl,ih (by simpa using hl) λ j a b ha hb=>h (j+1) a b (by simpa using ha) (by simpa using hb)⟩
theorem RL.append {l l':List α}{m m':List β}(h:RL R l m) (h':RL R l' m'):RL R (l ++ l') (m ++ m'):=by
 induction l generalizing m with
 | nil=>cases m with
  | nil=>exact h'
  | cons=>exact h.elim
 | cons a l ih=>cases m with
  | nil=>exact h.elim
  | cons b m=>exact⟨h.1,ih h.2⟩
theorem RL.set {l:List α}{m:List β}(h:RL R l m) (i:Nat){a:α}{b:β}(hab:R a b):RL R (l.set i a) (m.set i b):=by
 induction l generalizing m i with
 | nil=>cases m with
  | nil=>trivial
  | cons=>exact h.elim
 | cons x l ih=>cases m with
  | nil=>exact h.elim
  | cons y m=>cases i with
   | zero=>exact⟨hab,h.2⟩
   | succ i=>exact⟨h.1,ih h.2 i⟩
theorem RL.spl {l l':List α}{m m':List β}(h:RL R l m) (h':RL R l' m') (off:Nat):RL R (spl l off l') (Pm.spl m off m'):=by
 induction l' generalizing l m m' off with
 | nil=>cases m' with
  | nil=>simpa [Pm.spl] using h
  | cons=>exact h'.elim
 | cons x l' ih=>cases m' with
  | nil=>exact h'.elim
  | cons y m'=>simp only[Pm.spl];exact ih (h.set off h'.1) h'.2 _
theorem RL.drop {l:List α}{m:List β}(h:RL R l m) (n:Nat):RL R (l.drop n) (m.drop n):=by
 induction n generalizing l m with
 | zero=>simpa using h
 | succ n ih=>cases l with
  | nil=>cases m with
   | nil=>trivial
   | cons=>exact h.elim
  | cons a l=>cases m with
   | nil=>exact h.elim
   | cons b m=>simpa using ih h.2
theorem RL.take {l:List α}{m:List β}(h:RL R l m) (n:Nat):RL R (l.take n) (m.take n):=by
 induction n generalizing l m with
 | zero=>simp[RL]
 | succ n ih=>cases l with
  | nil=>cases m with
   | nil=>trivial
   | cons=>exact h.elim
  | cons a l=>cases m with
   | nil=>exact h.elim
   | cons b m=>exact⟨h.1,ih h.2⟩
theorem RL.map_left {γ:Type}{f:γ->α}{l:List γ}{m:List β} : RL R (l.map f) m↔RL (λ x y=>R (f x) y) l m:=by
 induction l generalizing m with
 | nil=>cases m <;> simp[RL]
 | cons a l ih=>cases m <;> simp[RL,ih]
end rl

theorem zfy {α:Type}(l:List α) (off:Nat) (l':List α):(spl l off l').length=l.length:=by
 induction l' generalizing l off with
 | nil=>rfl
 | cons x r ih=>simp[spl,ih]

inductive FzO where
  | fz (o:Obj)
  | inv (F:Int->List Int)
  | pin (o:Obj)

def zdv (l:List Int):Value:=.agg (l.map λ n=>Value.int .i64 n).toArray
def zOc (F:Int->List Int) (o:Obj):Prop:=∃ (es:Array MapEntry) (clock:Nat),o=.map es clock/\∀ e∈es.toList,∃ k,e.key=.int .i64 k/\e.val=zdv (F k)
def FzO.ok : FzO → Obj → Prop
  | .fz o,x=>x=o
  | .inv F,x=>zOc F x/\ztz
  | .pin o,x=>x=o

abbrev Fz:=Nat->Option FzO
def Hw (h:Fz) (w:World):Prop:=∀ b x,h b=some x->∃ o,w.heap[b]? = some o/\x.ok o
theorem Hw.fz {h:Fz}{w:World}(H:Hw h w){b:Nat}{o:Obj}(hb:h b=some (.fz o)):w.heap[b]? = some o:=by
 obtain⟨o',h1,h2⟩:=H b _ hb
 simp only[FzO.ok] at h2;subst h2;exact h1
theorem Hw.lt {h:Fz}{w:World}(H:Hw h w){b:Nat}{x:FzO}(hb:h b=some x):b < w.heap.size:=by
 obtain⟨o',h1,_⟩:=H b _ hb
 exact (dqp.1 h1).1
theorem Hw.same {h:Fz}{w w':World}(H:Hw h w) (hs:∀ b x,h b=some x->w'.heap[b]? = w.heap[b]?):Hw h w':=λ b x hb=>by
 obtain⟨o,h1,h2⟩:=H b x hb
 exact⟨o,by rw[hs b x hb];exact h1,h2⟩

class DrawZ where
  z:Nat
variable [DrawZ]
abbrev zKk:Nat:=DrawZ.z
abbrev dle (a b:Nat):Prop:=a * zKk<=b * zKk
theorem zpP {a b:Nat}(h:a<=b):dle a b:=dqw _ h
structure Bel (h : Fz) (B : Nat) (w w' : World) : Prop where
  os:w'.os=w.os
  tape:w'.tape=w.tape
  output:w'.output=w.output
  size:w.heap.size<=w'.heap.size
  drawn:dle w.drawn w'.drawn
  block:∀ k,k < B->(∀ F,h k ≠ some (.inv F))->w'.heap[k]? = w.heap[k]?
structure BelD (B : Nat) (w w' : World) : Prop extends Below B w w' where
  drawn:dle w.drawn w'.drawn
structure GrB (w w' : World) (row : Option Nat) : Prop extends w.grownBy w' row where
  drawn:dle w.drawn w'.drawn
theorem BelD.refl (B:Nat) (w:World):BelD B w w:=⟨Below.refl B w,dqt _⟩
theorem Bel.of {h:Fz}{B:Nat}{w w':World}(b:BelD B w w'):Bel h B w w':=⟨b.os,b.tape,b.output,b.size,b.drawn,λ k hk _=>b.block k hk⟩
theorem Bel.refl (h:Fz) (B:Nat) (w:World):Bel h B w w:=.of (.refl B w)
theorem Bel.trans {h:Fz}{B:Nat}{a b c:World}(x:Bel h B a b) (y:Bel h B b c):Bel h B a c :=
 ⟨y.os.trans x.os,y.tape.trans x.tape,y.output.trans x.output,dqE x.size y.size,dqE x.drawn y.drawn,λ i hi hn=>(y.block i hi hn).trans (x.block i hi hn)⟩
theorem Bel.drew {h:Fz}{B:Nat}{a w:World}(x:Bel h B a w):Bel h B a w.drew:=⟨x.os,x.tape,x.output,x.size,dqE x.drawn (zpP (Nat.le_succ _)),x.block⟩

def zhN (x:Int):Value:=.bool (x != 0)
def zcl (kf:KF) (c:List Int):Value:=match kf with
 | .ints=>zdv c
 | .one=>.int .i64 (c.headD 0)
 | .bools=>.agg (c.map zhN).toArray
def zpG (kf:KF) (c:List Int):Prop:=match kf with
 | .bools=>∀ x∈c,x=0\/x=1
 | _=>True
def cellV : Option IntKind → Int → Value
  | some k,x=>.int k x
  | none,x=>.bool (x != 0)
def zhO (o : Option (List Int)) : Nat → List (Option IntKind) → List Value
  | _,[]=>[]
  | i,k :: ks=>cellV k (zvS o i) :: zhO o (i+1) ks
def zfn (vag:Bool) (ks:List (Option IntKind)) (o:Option (List Int)):Value:=match vag with
 | true=>.agg (zhO o 0 ks).toArray
 | false=>(zhO o 0 ks).headD undef
def zfk (c : List Int) : List (List Int × List Int) → Option (List Int)
  | []=>none
  | (k,v) :: r=>if k=c then some v else zfk c r
structure MoE (q : MQ) (n : Nat) (F : List Int → Option (List Int)) (es : Array MapEntry) (clock : Nat) (en : List (List Int × List Int)) : Prop where
  one:q.1=.one->q.2.1=1
  can:∀ x∈en,zpG q.1 x.1
  vone:q.2.2.1=false->q.2.2.2.length=1
  ents:es.toList.map (λ e=>(e.key,e.val))=en.map (λ x=>(zcl q.1 x.1,zfn q.2.2.1 q.2.2.2 (some x.2)))
  len:∀ x∈en,x.1.length=q.2.1/\x.2.length=q.2.2.2.length
  nodup:(en.map (·.1)).Nodup
  find:∀ c,c.length=q.2.1->F c=zfk c en
  size:n=en.length
  born:∀ e∈es.toList,e.born < clock
  bornN:(es.toList.map (·.born)).Nodup
def moE (q:MQ) (n:Nat) (F:List Int->Option (List Int)) (es:Array MapEntry) (clock:Nat):Prop:=∃ en,MoE q n F es clock en

inductive Rep (h : Fz) : PV → Value → Prop
  | bool (b:Bool):Rep h (.bool b) (.bool b)
  | int (k:IntKind) (n:Int):Rep h (.int k n) (.int k n)
  | nilp:Rep h .nilp (.pointer none)
  | nilf:Rep h .nilf .nilFunc
  | nilm:Rep h .nilm (.map none)
  | nils:Rep h .nils (.slice none 0 0)
  | fp (cells : List PV) (off b o : Nat) (C : Array Value) (ty : TypeId) (fr : Nat × Nat) (vs : Nat → Value) (hb : h b = some (.fz (.cells C ty fr)))
      (hc:∀ j x,cells[j]? = some x->C[o+j]? = some (vs j)) (hr:∀ j x,cells[j]? = some x->Rep h x (vs j)) :
      Rep h (.fp cells off) (.pointer (some ⟨b,o+off,none⟩))
  | sl0 (size:Nat) (get:Nat->List PV):Rep h (.sl 0 size get) (.slice none 0 0)
  | sle (size:Nat) (get:Nat->List PV) (a:Addr) (cap:Nat):Rep h (.sl 0 size get) (.slice (some a) 0 cap)
  | sl (len size : Nat) (get : Nat → List PV) (b o cap : Nat) (C : Array Value) (ty : TypeId) (fr : Nat × Nat) (vs : Nat → Nat → Value) (hb : h b = some (.fz (.cells C ty fr)))
      (hcap:len<=cap) (hlen:∀ i,i < len->(get i).length=size)
      (hc:∀ i j x,i < len->(get i)[j]? = some x->C[o+i * size+j]? = some (vs i j))
      (hr:∀ i j x,i < len->(get i)[j]? = some x->Rep h x (vs i j)) :
      Rep h (.sl len size get) (.slice (some ⟨b,o,none⟩) len cap)
  | fn (f : FuncId) (first caps : List PV) (fv cv : List Value) (h1 : first.length = fv.length) (h2 : caps.length = cv.length)
      (hf:∀ (j:Nat) (x:PV) (v:Value),first[j]? = some x->fv[j]? = some v->Rep h x v) (hc:∀ (j:Nat) (x:PV) (v:Value),caps[j]? = some x->cv[j]? = some v->Rep h x v) :
      Rep h (.fn f first caps) (.func (.func f) fv.toArray cv.toArray)
  | mp (F:Int->List Int) (b:Nat) (hb:h b=some (.inv F)):Rep h (.mp F) (.map (some b))
  | yl (l:Nat):Rep h (.yl l) (.func (.yield l) #[] #[])
  | fmn (q:MQ) (F:List Int->Option (List Int)) (hF:∀ c,c.length=q.2.1->F c=none):Rep h (.fm q 0 F) (.map none)
  | fm (q:MQ) (n:Nat) (F:List Int->Option (List Int)) (b:Nat) (es:Array MapEntry) (clock:Nat) (hb:h b=some (.fz (.map es clock))) (hm:moE q n F es clock):Rep h (.fm q n F) (.map (some b))
  | fna (f : FuncId) (cells : List PV) (vs : List Value) (h1 : cells.length = vs.length)
      (hc:∀ (j:Nat) (x:PV) (v:Value),cells[j]? = some x->vs[j]? = some v->Rep h x v):Rep h (.fna f cells) (.func (.func f) #[.agg vs.toArray] #[])
  | nsT (size:Nat) (get:Nat->List PV):Rep h (.ns true 0 size get) (.slice none 0 0)
  | nsF (n size:Nat) (get:Nat->List PV) (v:Value) (r:Rep h (.sl n size get) v):Rep h (.ns false n size get) v

def Fle (h h':Fz):Prop:=∀ b o,h b=some o->h' b=some o

theorem Rep.mono {h h':Fz}(hl:Fle h h'){p:PV}{v:Value}(r:Rep h p v):Rep h' p v:=by
 induction r with
 | bool b=>exact .bool b
 | int k n=>exact .int k n
 | nilp=>exact .nilp
 | nilf=>exact .nilf
 | nilm=>exact .nilm
 | nils=>exact .nils
 | fp cells off b o C ty fr vs hb hc hr ih=>exact .fp cells off b o C ty fr vs (hl _ _ hb) hc ih
 | sl0 size get=>exact .sl0 size get
 | sle size get a cap=>exact .sle size get a cap
 | sl len size get b o cap C ty fr vs hb hcap hlen hc hr ih=>exact .sl len size get b o cap C ty fr vs (hl _ _ hb) hcap hlen hc ih
 | fn f first caps fv cv h1 h2 hf hc ih1 ih2=>exact .fn f first caps fv cv h1 h2 ih1 ih2
 | mp F b hb=>exact .mp F b (hl _ _ hb)
 | yl l=>exact .yl l
 | fmn q F hF=>exact .fmn q F hF
 | fm q n F b es clock hb hm=>exact .fm q n F b es clock (hl _ _ hb) hm
 | fna f cells vs h1 hc ih=>exact .fna f cells vs h1 ih
 | nsT size get=>exact .nsT size get
 | nsF n size get v r ih=>exact .nsF n size get v ih

theorem Rep.mono' {h h':Fz}(hl:∀ b o,h b=some o->(∃ C ty fr,o=.fz (.cells C ty fr))\/(∃ F,o=.inv F)\/(∃ es c,o=.fz (.map es c))->h' b=some o){p:PV}{v:Value}(r:Rep h p v):Rep h' p v:=by
 induction r with
 | bool b=>exact .bool b
 | int k n=>exact .int k n
 | nilp=>exact .nilp
 | nilf=>exact .nilf
 | nilm=>exact .nilm
 | nils=>exact .nils
 | fp cells off b o C ty fr vs hb hc hr ih=>exact .fp cells off b o C ty fr vs (hl _ _ hb (.inl ⟨_,_,_,rfl⟩)) hc ih
 | sl0 size get=>exact .sl0 size get
 | sle size get a cap=>exact .sle size get a cap
 | sl len size get b o cap C ty fr vs hb hcap hlen hc hr ih=>exact .sl len size get b o cap C ty fr vs (hl _ _ hb (.inl ⟨_,_,_,rfl⟩)) hcap hlen hc ih
 | fn f first caps fv cv h1 h2 hf hc ih1 ih2=>exact .fn f first caps fv cv h1 h2 ih1 ih2
 | mp F b hb=>exact .mp F b (hl _ _ hb (.inr (.inl ⟨_,rfl⟩)))
 | yl l=>exact .yl l
 | fmn q F hF=>exact .fmn q F hF
 | fm q n F b es clock hb hm=>exact .fm q n F b es clock (hl _ _ hb (.inr (.inr ⟨_,_,rfl⟩))) hm
 | fna f cells vs h1 hc ih=>exact .fna f cells vs h1 ih
 | nsT size get=>exact .nsT size get
 | nsF n size get v r ih=>exact .nsF n size get v ih

theorem Rep.deN {h:Fz}{p:PV}{v:Value}(r:Rep h p v):Rep h (deN p) v:=by
 cases r with
 | nsT size get=>exact .sl0 size get
 | nsF n size get v r=>exact r
 | bool b=>exact .bool b
 | int k n=>exact .int k n
 | nilp=>exact .nilp
 | nilf=>exact .nilf
 | nilm=>exact .nilm
 | nils=>exact .nils
 | fp cells off b o C ty fr vs hb hc hr=>exact .fp cells off b o C ty fr vs hb hc hr
 | sl0 size get=>exact .sl0 size get
 | sle size get a cap=>exact .sle size get a cap
 | sl len size get b o cap C ty fr vs hb hcap hlen hc hr=>exact .sl len size get b o cap C ty fr vs hb hcap hlen hc hr
 | fn f first caps fv cv h1 h2 hf hc=>exact .fn f first caps fv cv h1 h2 hf hc
 | mp F b hb=>exact .mp F b hb
 | yl l=>exact .yl l
 | fmn q F hF=>exact .fmn q F hF
 | fm q n F b es clock hb hm=>exact .fm q n F b es clock hb hm
 | fna f cells vs h1 hc=>exact .fna f cells vs h1 hc
theorem ztF {P:Program}{h:Fz}{e:TypeId}{l:List PV}{vs:List Value}(r:RL (Rep h) l vs):RL (Rep h) (zCs P e l) vs:=by
 unfold zCs
 split
 ·split
  ·split
   ·match vs,r with
    | [v],r =>
     have hv:v=.slice none 0 0:=by have:=r.1;cases this;rfl
     subst hv
     exact⟨.sl0 _ _,trivial⟩
   ·exact r
  ·exact r
 ·exact r

theorem Rep.one {h:Fz}{p:PV}{v:Value}(r:Rep h p v):v.oneCell'=true:=by
 cases r <;> first | rfl | (rename_i r;cases r <;> rfl)

structure Gh where
  h:Fz
  bk:Nat->Nat
  sv:Nat->Value
  iv:Nat->Nat->Value

def zJZ (g : Gh) : CapE → Value → Prop
  | .v p,x=>Rep g.h p x
  | .b L,x=>x=.pointer (some ⟨g.bk L,0,none⟩)
def zdV : Value → Nat
  | .map (some b)=>b
  | _=>0
def clR (g : Gh) : Cl → Value → Prop
  | .p v,x=>Rep g.h v x
  | .ptr L off,x=>x=.pointer (some ⟨g.bk L,off,none⟩)
  | .vptr L s i k,x=>∃ b,(g.sv L).ownBlock=some b/\x=.pointer (some ⟨b,i * s+k,none⟩)
  | .vec L,x=>x=g.sv L/\x.oneCell'=true
  | .ivec L i,x=>x=g.iv L i/\x.oneCell'=true/\∃ k,x.ownBlock=some k
  | .iptr L s i j k,x=>∃ b,(g.iv L i).ownBlock=some b/\x=.pointer (some ⟨b,j * s+k,none⟩)
  | .mo L,x=>x=.map (some (zdV (g.sv L)))
  | .imap L i,x=>x=g.iv L i/\∃ b,x=.map (some b)
  | .clo f caps,x=>∃ cv:List Value,x=.func (.func f) #[] cv.toArray/\RL (zJZ g) caps cv
  | .xp L b n m j c,x=>j < n/\x=.pointer (some ⟨g.bk L,b+j * m+c,none⟩)
  | .xv L s i b n m j c,x=>j < n/\∃ k,(g.sv L).ownBlock=some k/\x=.pointer (some ⟨k,i * s+(b+j * m+c),none⟩)
  | .xf cells b n m j c,x=>j < n/\Rep g.h (.fp cells (b+j * m+c)) x
  | .mkey it L,x=>∃ k C ty fr,x=.func (.func it) #[] #[.pointer (some ⟨k,0,none⟩)]/\g.h k=some (.fz (.cells C ty fr))/\C[0]? = some (.map (some (zdV (g.sv L))))
  | .undef,x=>x=undef
  | .junk,_=>True
  | .dead _,_=>True

theorem zgo {g g' : Gh} (hl : ∀ p x, Rep g.h p x → Rep g'.h p x) : ∀ {caps : List CapE} {vs : List Value}, (∀ L ∈ zhl caps, g'.bk L = g.bk L) → RL (zJZ g) caps vs → RL (zJZ g') caps vs
  | [],[],_,_=>trivial
  | [],_ :: _,_,h=>h.elim
  | _ :: _,[],_,h=>h.elim
  | .v p :: _,_ :: _,hb,h=>⟨hl _ _ h.1,zgo hl (λ L hL=>hb L hL) h.2⟩
  | .b M :: _,_ :: _,hb,h=>⟨by have:=h.1;simp only[zJZ] at this ⊢;rw[hb M (by simp[zhl])];exact this,zgo hl (λ L hL=>hb L (by simp[zhl,hL])) h.2⟩

theorem zv7 {g:Gh}{c:Cl}{x:Value}(h:clR g c x) (ho:zpI c=true):x.oneCell'=true:=by
 cases c with
 | p v=>exact Rep.one h
 | ptr L off=>subst h;rfl
 | vptr L s i k=>obtain⟨b,_,rfl⟩:=h;rfl
 | vec L=>exact h.2
 | ivec L i=>exact h.2.1
 | iptr L s i j k=>obtain⟨b,_,rfl⟩:=h;rfl
 | mo L=>subst h;rfl
 | imap L i=>obtain⟨_,b,rfl⟩:=h;rfl
 | clo f caps=>obtain⟨cv,rfl,_⟩:=h;rfl
 | mkey it L=>cases ho
 | xp=>cases ho
 | xv=>cases ho
 | xf=>cases ho
 | undef=>cases ho
 | junk=>cases ho
 | dead L=>cases ho

def d1R (g : Gh) : D1 → Value → Prop
  | .c x,v=>clR g x v
  | .agg cs,v=>∃ vs:List Value,v=.agg vs.toArray/\RL (clR g) cs vs

def dvR (g : Gh) : DV → Value → Prop
  | .one d,v=>d1R g d v
  | .tup ds,v=>∃ vs:List Value,v=.tuple vs.toArray/\RL (d1R g) ds vs

def ztG (P:Program) (g:Gh) (w:World) (B L e s b n:Nat) (get:Nat->List PV):Prop :=
 0 < s/\(∃ i z,P.info? e=some i/\i.size=s/\i.bytes=b/\i.zero=some z/\z.cells.size=s) /\
 ∃ xs:List Value,w.ownsRow B e s (g.sv L) n xs/\(∀ i,i < n->RL (Rep g.h) (get i) ((xs.drop (i * s)).take s))

def vvR (P:Program) (g:Gh) (w:World) (B L te bb e s b n:Nat) (ln:Nat->Nat) (get:Nat->Nat->List PV):Prop :=
 0 < s/\(∃ i z,P.info? te=some i/\i.size=1/\i.bytes=bb/\i.zero=some z/\z.cells.size=1) /\
 (∃ i z,P.info? e=some i/\i.size=s/\i.bytes=b/\i.zero=some z/\z.cells.size=s) /\
 w.ownsRow B te 1 (g.sv L) n ((List.range n).map (g.iv L)) /\
 (∀ i,i < n->(g.iv L i).oneCell'=true/\(ln i=0->g.iv L i=.slice none 0 0)/\∃ xs:List Value,w.ownsRow B e s (g.iv L i) (ln i) xs/\∀ j,j < ln i->RL (Rep g.h) (get i j) ((xs.drop (j * s)).take s)) /\
 ∀ i k,i < n->(g.iv L i).ownBlock=some k->(g.sv L).ownBlock ≠ some k/\∀ j,j < n->(g.iv L j).ownBlock=some k->i=j

def zFI (v:Value):Prop:=∀ a n c,v=.slice (some a) n c->a.off=0

def moR (P:Program) (kt vt:Nat) (q:MQ) (n:Nat) (F:List Int->Option (List Int)) (es:Array MapEntry) (clock:Nat):Prop :=
 zl2 P kt vt=some q/\moE q n F es clock
def vmR (P:Program) (g:Gh) (w:World) (B L te bb kt vt:Nat) (q:MQ) (n:Nat) (mk:Nat->Bool) (nn:Nat->Nat) (F:Nat->List Int->Option (List Int)):Prop :=
 zl2 P kt vt=some q/\(∃ i z,P.info? te=some i/\i.size=1/\i.bytes=bb/\i.zero=some z/\z.cells.size=1) /\
 w.ownsRow B te 1 (g.sv L) n ((List.range n).map (g.iv L)) /\
 (∀ i,i < n->(mk i=true->∃ b es clock,g.iv L i=.map (some b)/\w.heap[b]? = some (.map es clock)/\moE q (nn i) (F i) es clock) /\
  (mk i=false->g.iv L i=.map none/\nn i=0/\∀ c,c.length=q.2.1->F i c=none)) /\
 ∀ i k,i < n->g.iv L i=.map (some k)->(g.sv L).ownBlock ≠ some k/\∀ j,j < n->g.iv L j=.map (some k)->i=j
def zKl (h:Fz) (w:World) (k:Nat) (q:MQ) (n:Nat) (F:List Int->Option (List Int)) (seen:List (List Int)):Prop :=
 (w.heap[k]? = some (.mapIter none 0 #[] 0)/\n=0/\(∀ c,c.length=q.2.1->F c=none)/\seen=[]) \/
 ∃ (m:Nat) (es:Array MapEntry) (clock:Nat) (sb:Array Nat) (en:List (List Int×List Int)),h m=some (.fz (.map es clock))/\MoE q n F es clock en/\w.heap[k]? = some (.mapIter (some m) clock sb clock) /\
  (∀ (j:Nat) (e:MapEntry) (x:List Int×List Int),es[j]? = some e->en[j]? = some x->(e.born∈sb↔x.1∈seen)) /\
  ∀ c r,seen=c :: r->∃ (j:Nat) (e:MapEntry) (v:List Int),es[j]? = some e/\en[j]? = some (c,v)/\sb.back? = some e.born

def aoR (P : Program) (g : Gh) (w : World) (B L : Nat) : AO → Prop
  | .box ty cs=>∃ C:Array Value,w.heap[g.bk L]? = some (.cells C ty (0,0))/\RL (clR g) cs C.toList
  | .fbox cs=>∃ (C:Array Value) (ty:TypeId) (fr:Nat×Nat),g.h (g.bk L)=some (.fz (.cells C ty fr))/\RL (Rep g.h) cs C.toList
  | .vec e s b n get=>ztG P g w B L e s b n get
  | .fvec s n get=>Rep g.h (.sl n s get) (g.sv L)/\zFI (g.sv L)
  | .vv te bb e s b n ln get=>vvR P g w B L te bb e s b n ln get
  | .mo kt vt q n F=>∃ (es:Array MapEntry) (clock:Nat),w.heap[zdV (g.sv L)]? = some (.map es clock)/\moR P kt vt q n F es clock
  | .vm te bb kt vt q n mk nn F=>vmR P g w B L te bb kt vt q n mk nn F
  | .mit q n F seen=>zKl g.h w (g.bk L) q n F seen
  | .gone=>True

def obk (g:Gh) (L:Nat) (o:AO) (b:Nat):Prop :=
 match o with
 | .box _ _=>g.bk L=b
 | .mo _ _ _ _ _=>zdV (g.sv L)=b
 | .mit _ _ _ _=>g.bk L=b
 | .vm _ _ _ _ _ n _ _ _=>(g.sv L).ownBlock=some b\/∃ i,i < n/\g.iv L i=.map (some b)
 | .vec _ _ _ _ _=>(g.sv L).ownBlock=some b
 | .vv _ _ _ _ _ n _ _=>(g.sv L).ownBlock=some b\/∃ i,i < n/\(g.iv L i).ownBlock=some b
 | _=>False

def zCH (P:Program) (d:Deferred):Prop:=∃ (fv:Fn) (cap:Array Value) (f:FuncId) (args:Array Value),d.target=.fn fv cap/\(∀ w,(invoke d.target d.args).run P w=.ok (.enter f args) w) /\
 ∀ (n:Nat) (w:World),CallsDIn { fn:=λ _=>True,depth:=none,alive:=false,round:=none } n P f args .returning w λ e u w'=>(∃ v,e=.returned v)/\u=.returning/\w'=w
def deD : Nat ⊕ Deferred → Deferred
  | .inl D=>{ target:=.collected D,args:=#[] }
  | .inr d=>d
def lefts : List (Nat ⊕ Deferred) → List Nat
  | []=>[]
  | .inl D :: r=>D :: lefts r
  | .inr _ :: r=>lefts r
theorem zjQ {D : Nat} : ∀ {es : List (Nat ⊕ Deferred)}, Sum.inl D ∈ es → D ∈ lefts es
  | .inl E :: r,h=>by
    rcases dqq.1 h with e | h
    · cases e;exact dqj
    · exact dqf _ (zjQ h)
  | .inr _ :: r,h=>by
    rcases dqq.1 h with e | h
    · cases e
    · exact zjQ (es:=r) h
theorem zox {D : Nat} : ∀ {es : List (Nat ⊕ Deferred)}, D ∈ lefts es → Sum.inl D ∈ es
  | .inl E :: r,h=>by
    rcases dqq.1 h with rfl | h
    · exact dqj
    · exact dqf _ (zox h)
  | .inr _ :: r,h=>dqf _ (zox (es:=r) h)
def Marks (P:Program) (B:Nat) (h:Fz) (ds:List Deferred):Prop :=
 ∃ es:List (Nat ⊕ Deferred),(lefts es).Nodup/\ds=es.map deD/\(∀ D,Sum.inl D∈es->B<=D/\h D=some (.fz (.deferred (some []))))/\∀ d,Sum.inr d∈es->zCH P d
theorem Marks.mono {P:Program}{B:Nat}{h h':Fz}{ds:List Deferred}(m:Marks P B h ds) (hl:Fle h h'):Marks P B h' ds:=by
 obtain⟨es,h1,h2,h3,h4⟩:=m
 exact⟨es,h1,h2,λ D hD=>⟨(h3 D hD).1,hl _ _ (h3 D hD).2⟩,h4⟩
theorem Marks.nil {P:Program}(B:Nat) (h:Fz):Marks P B h []:=⟨[],List.nodup_nil,rfl,λ _ hD=>by simp at hD,λ _ hD=>by simp at hD⟩

def zhu (h:Fz):Prop:=∀ k l,lk glv k=some l->∃ (C:Array Value) (ty:TypeId) (fr:Nat×Nat),h k=some (.fz (.cells C ty fr))/\RL (Rep h) l C.toList
theorem zhu.mono {h h':Fz}(H:zhu h) (hl:Fle h h'):zhu h':=λ k l hk=>by
 obtain⟨C,ty,fr,h1,h2⟩:=H k l hk
 exact⟨C,ty,fr,hl _ _ h1,h2.mono λ _ _ r=>r.mono hl⟩

structure Sim (P : Program) (nt B : Nat) (w0 : World) (h0 : Fz) (g : Gh) (σ : St) (a : Act) (w : World) : Prop where
  dfr:Marks P B g.h a.defers
  size:nt<=a.tmps.size
  env:∀ t d,lk σ.env t=some d->dvR g d (a.tmps.getD t undef)
  obj:∀ L o,lk σ.objs L=some o->aoR P g w B L o
  own:∀ L o b,lk σ.objs L=some o->obk g L o b->B<=b/\g.h b=none
  sep:∀ L o b L' o',lk σ.objs L=some o->lk σ.objs L'=some o'->obk g L o b->obk g L' o' b->L=L'
  hw:Hw g.h w
  le0:Fle h0 g.h
  hn:∀ b o,g.h b=some o->h0 b=some o\/B<=b
  below:Bel h0 B w0 w
  bs:B<=w.heap.size
  clE:∀ t d,lk σ.env t=some d->∀ L∈zbf d,∃ o,lk σ.objs L=some o
  clO:∀ L o,lk σ.objs L=some o->∀ M∈zb8 o,∃ o',lk σ.objs M=some o'
  gl:zhu h0

def paR (h : Fz) : PA → Value → Prop
  | .one v,x=>Rep h v x
  | .agg cs,x=>∃ vs:List Value,x=.agg vs.toArray/\RL (Rep h) cs vs

def zvT (h : Fz) : List PA → Value → Prop
  | [r],v=>paR h r v
  | rs,v=>∃ vs:List Value,v=.tuple vs.toArray/\RL (paR h) rs vs

def zal (P : Program) (f : FuncId) : Prop := ∃ fn, P.funcs[f]? = some fn ∧ fn.body.isSome = true ∧ (fn.name == "runtime.NumGoroutine") = false

def Ok (P:Program) (f:FuncId) (C:List PA->COut):Prop :=
 ∀ (args:List PA) (K:List PA->Prop),(C args).wp K->∀ (w:World) (h:Fz) (vs:List Value),RL (paR h) args vs->Hw h w->zhu h ->
  zal P f/\Calls P f vs.toArray w λ e w'=>∃ (h':Fz) (rs:List PA) (v:Value),K rs/\e=.returned v/\zvT h' rs v/\Bel h w.heap.size w w' /\
   Fle h h'/\Hw h' w'/\∀ b o,h' b=some o->h b=some o\/w.heap.size<=b

def zv8 (h:Fz) (w:World) (base e s:Nat) (v:Value) (n:Nat) (get:Nat->List PV):Prop :=
 ∃ xs:List Value,w.ownsRow base e s v n xs/\∀ i,i < n->RL (Rep h) (get i) ((xs.drop (i * s)).take s)

def zFJ (v : Value) (xs : List Value) : List PV → Value
  | []=>v
  | _=>.tuple (v :: xs).toArray
def zrf (P : Program) (f : FuncId) : OwnK → Prop
  | .none=>True
  | .sort e s b=>∀ (w:World) (h:Fz) (base:Nat) (v:Value) (n:Nat) (get:Nat->List PV) (gf:FuncId) (caps:List PV) (cv:List Value) (ag:Bool) (C:List PA->COut),@Ok ⟨1⟩ P gf C->RL (Rep h) caps cv->zfx P e=some ag ->
      (∃ i,P.info? e=some i/\i.size=s)->0 < s->zv8 h w base e s v n get->v.oneCell'=true->Hw h w->zhu h->(∀ k,v.ownBlock=some k->h k=none)->base<=w.heap.size->n<=4611686018427387 ->
      (∀ i j,i < n->j < n->zN9 C caps ag get i j)->STO n (zJX C caps ag get) ->
      zal P f/\Calls P f #[v,.func (.func gf) #[] cv.toArray] w λ r w'=>r=.returned (.tuple #[])/\zv8 h w' base e s v n (zFF n (zJX C caps ag get) get)/\GrB w w' v.ownBlock
  | .clone e s b=>∀ (w:World) (h:Fz) (v:Value) (n:Nat) (get:Nat->List PV),Rep h (.sl n s get) v->Hw h w->zhu h->n * b<=140737488355328->n<=9223372036854775807 ->
      zal P f/\Calls P f #[v] w λ r w'=>∃ (h':Fz) (v':Value),r=.returned v'/\v'.oneCell'=true/\zv8 h' w' w.heap.size e s v' n get/\(∀ k,v'.ownBlock=some k->h' k=none) /\
        Bel h w.heap.size w w'/\Fle h h'/\Hw h' w'/\∀ b o,h' b=some o->h b=some o\/w.heap.size<=b
  | .keys it=>∀ (w:World) (mb:Nat),zal P f/\Calls P f #[.map (some mb)] w λ r w'=>r=.returned (.func (.func it) #[] #[.pointer (some ⟨w.heap.size,0,none⟩)])/\∃ ty,w'=w.alloc (.cells #[.map (some mb)] ty)
  | .sorted it=>∀ (w:World) (h:Fz) (k mb:Nat) (C:Array Value) (ty:TypeId) (fr:Nat×Nat) (es:Array MapEntry) (clock:Nat) (vt:TypeId) (q:MQ) (n:Nat) (F:List Int->Option (List Int)),
      Hw h w->h k=some (.fz (.cells C ty fr))->C[0]? = some (.map (some mb))->w.heap[mb]? = some (.map es clock)->zl2 P 3 vt=some q->moE q n F es clock->n<=1000000->(zJY F 9223372036854775808 0 n).isSome=true ->
      zal P f/\Calls P f #[.func (.func it) #[] #[.pointer (some ⟨k,0,none⟩)]] w λ r w'=>∃ v,r=.returned v/\w'.ownsRow w.heap.size 3 1 v n ((zEe F n).map (.int .i64))/\BelD w.heap.size w w'
  | .inpl e s b φ ret pre=>∀ (w:World) (h:Fz) (base:Nat) (v:Value) (n:Nat) (get:Nat->List PV),zv8 h w base e s v n get->v.oneCell'=true->Hw h w->(∀ k,v.ownBlock=some k->h k=none) ->
      base<=w.heap.size->n<=4611686018427387->pre get ->
      zal P f/\Calls P f #[v] w λ r w'=>∃ v':Value,r=.returned (match ret with | true=>v' | false=>.tuple #[])/\(ret=false->v'=v)/\v'.oneCell'=true/\(∀ k,v'.ownBlock=some k->v.ownBlock=some k) /\
        zv8 h w' base e s v' (match ret with | true=>(φ n get).1 | false=>n) (φ n get).2/\GrB w w' v.ownBlock
  | .made ty F=>∀ (w:World) (h:Fz) (az:List PA) (vs:List Value) (s:Prop) (b:Bool) (cells:List PV) (e:PV),F az=some (s,b,cells,e)->s->RL (paR h) az vs->Hw h w->zhu h ->
      zal P f/\Calls P f vs.toArray w λ r w'=>∃ (h':Fz) (k:Nat) (C:Array Value) (v1 v2:Value),r=.returned (.tuple #[v1,v2])/\(b=true->v1=.pointer (some ⟨k,0,none⟩))/\(b=false->v1=.pointer none)/\Rep h' e v2 /\
        w.heap.size<=k/\h' k=none/\w'.heap[k]? = some (.cells C ty (0,0))/\RL (Rep h') cells C.toList/\Bel h w.heap.size w w'/\Fle h h'/\Hw h' w'/\∀ b o,h' b=some o->h b=some o\/w.heap.size<=b
  | .mkv e s b F=>∀ (w:World) (h:Fz) (az:List PA) (vs:List Value) (p:Prop) (n:Nat) (get:Nat->List PV) (rs:List PV),F az=some (p,n,get,rs)->p->RL (paR h) az vs->Hw h w->zhu h ->
      zal P f/\Calls P f vs.toArray w λ r w'=>∃ (h':Fz) (v':Value) (xs:List Value),r=.returned (zFJ v' xs rs)/\RL (Rep h') rs xs/\v'.oneCell'=true /\
        zv8 h' w' w.heap.size e s v' n get/\(∀ k,v'.ownBlock=some k->h' k=none)/\Bel h w.heap.size w w'/\Fle h h'/\Hw h' w'/\∀ b o,h' b=some o->h b=some o\/w.heap.size<=b
  | .delf e s b g φ pre=>∀ (w:World) (h:Fz) (base:Nat) (v:Value) (n:Nat) (get:Nat->List PV) (caps:List PV) (cv:List Value),RL (Rep h) caps cv ->
      zv8 h w base e s v n get->v.oneCell'=true->Hw h w->(∀ k,v.ownBlock=some k->h k=none)->base<=w.heap.size->n<=4611686018427387->pre caps n get ->
      zal P f/\Calls P f #[v,.func (.func g) #[] cv.toArray] w λ r w'=>∃ v':Value,r=.returned v'/\v'.oneCell'=true/\(∀ k,v'.ownBlock=some k->v.ownBlock=some k) /\
        zv8 h w' base e s v' (φ caps n get).1 (φ caps n get).2/\GrB w w' v.ownBlock

def JSt (J:List (List PA)->Fz->World->Prop):Prop :=
 ∀ ys h W h' W',J ys h W->Fle h h'->Hw h' W'->(∀ b o,h' b=some o->h b=some o\/W.heap.size<=b)->Bel h W.heap.size W W'->J ys h' W'

def zCI (P:Program) (f:FuncId) (C:List PA->Option (Prop×List (List PA))):Prop :=
 ∀ (caps:List PA) (safe:Prop) (ys:List (List PA)),C caps=some (safe,ys)->safe->∀ (l:Nat) (J Jx:List (List PA)->Fz->World->Prop) (w:World) (h:Fz) (vs:List Value),JSt J->JSt Jx->zhu h ->
  (∀ y rest h W us,J (y :: rest) h W->RL (paR h) y us->Hw h W->∀ n,∃ fn tmps assign body,(Instr.yield l us.toArray).run P W=.ok (.round l fn tmps assign body) W /\
   RoundIn Fence.wide n P l fn tmps assign body W λ e W'=>∃ h',Fle h h'/\Hw h' W'/\((e=.returned (.bool true)/\J rest h' W')\/(e=.returned (.bool false)/\Jx rest h' W'))) ->
  J ys h w->RL (paR h) caps vs->Hw h w ->
  zal P f/\Calls P f (.func (.yield l) #[] #[] :: vs).toArray w λ e W'=>∃ v h',e=.returned v/\Fle h h'/\Hw h' W'/\(J [] h' W'\/∃ rest,Jx rest h' W')

def xcR (P : Program) (h : Fz) (w : World) (B : Nat) : XC → Value → Prop
  | .p v,x=>Rep h v x
  | .vec e s b n get,x=>x.oneCell'=true/\0 < s/\(∃ i z,P.info? e=some i/\i.size=s/\i.bytes=b/\i.zero=some z/\z.cells.size=s)/\zv8 h w B e s x n get
  | .mo kt vt q n F,x=>∃ (b:Nat) (es:Array MapEntry) (clock:Nat),x=.map (some b)/\w.heap[b]? = some (.map es clock)/\moR P kt vt q n F es clock
def xcK : XC → Value → List Nat
  | .p _,_=>[]
  | .vec _ _ _ _ _,x=>x.ownBlock.toList
  | .mo _ _ _ _ _,x=>[zdV x]
def zCv : List XC → List Value → List Nat
  | c :: cs,v :: vs=>xcK c v ++ zCv cs vs
  | _,_=>[]
def xaR (P : Program) (h : Fz) (w : World) (B : Nat) : XA → Value → Prop
  | .d a,v=>paR h a v
  | .box ty cs,v=>∃ k C,v=.pointer (some ⟨k,0,none⟩)/\w.heap[k]? = some (.cells C ty (0,0))/\RL (xcR P h w B) cs C.toList
def xaK (w : World) : XA → Value → List Nat
  | .box _ cs,.pointer (some a)=>a.block :: match w.heap[a.block]? with
    | some (.cells C _ _)=>zCv cs C.toList
    | _=>[]
  | _,_=>[]
def xsK (w : World) : List XA → List Value → List Nat
  | x :: xs,v :: vs=>xaK w x v ++ xsK w xs vs
  | _,_=>[]
structure BelX (h : Fz) (K : List Nat) (w w' : World) : Prop where
  os:w'.os=w.os
  tape:w'.tape=w.tape
  output:w'.output=w.output
  size:w.heap.size<=w'.heap.size
  drawn:dle w.drawn w'.drawn
  block:∀ k,k < w.heap.size->k ∉ K->(∀ F,h k ≠ some (.inv F))->w'.heap[k]? = w.heap[k]?
def zFK (P:Program) (f:FuncId) (C:MK):Prop :=
 ∀ (xs ys:List XA) (safe:Prop) (rs:List PA),C xs=some (safe,rs,ys)->safe->∀ (w:World) (h:Fz) (base:Nat) (vs:List Value),RL (xaR P h w base) xs vs->(xsK w xs vs).Nodup ->
  (∀ b∈xsK w xs vs,base<=b/\h b=none)->Hw h w->zhu h->base<=w.heap.size ->
  zal P f/\Calls P f vs.toArray w λ e w'=>∃ (h':Fz) (v:Value),e=.returned v/\zvT h' rs v/\RL (xaR P h' w' base) ys vs/\(xsK w' ys vs).Nodup /\
   (∀ b∈xsK w' ys vs,(b∈xsK w xs vs\/w.heap.size<=b)/\h' b=none)/\Fle h h'/\Hw h' w'/\(∀ b o,h' b=some o->h b=some o\/w.heap.size<=b\/b∈xsK w xs vs)/\BelX h (xsK w xs vs) w w'

structure OkAll (P : Program) (Γ : Ctrs) : Prop where
  mt:∀ f C,Γ.mt f=some C->zFK P f C
  fn:∀ f,Ok P f (Γ f)
  own:∀ f,zrf P f (Γ.own f)
  it:∀ f,zCI P f (Γ.it f)
  cmp:∀ f,@Ok ⟨1⟩ P f (Γ.cfn f)

theorem zay {α:Type}{k n:Nat}{a:α}{r:List (Nat×α)} : lk ((k,a) :: r) n=if k=n then some a else lk r n:=by
 simp only[lk]
 cases h:Nat.beq k n with
 | true=>rw[if_pos (dqc h)]
 | false=>rw[if_neg (Nat.ne_of_beq_eq_false h)]
theorem zdm {α:Type}{n:Nat}{l r:List (Nat×α)} : lk (l ++ r) n=match lk l n with | some a=>some a | none=>lk r n:=by
 induction l with
 | nil=>rfl
 | cons x l ih =>
  obtain⟨k,a⟩:=x
  rw[List.cons_append,zay,zay]
  split
  ·rfl
  ·exact ih

end Go.Pm
namespace Go.Pm
variable [DrawZ]
open Go.RowKit (Below)

section
variable {P:Program}{w:World}

theorem addr_add (b o n:Nat):(⟨b,o,none⟩:Addr).add n=⟨b,o+n,none⟩:=by
 unfold Addr.add;split <;> simp_all

theorem run_underlying {t:TypeId}{d:TypeDesc}(h:P.underlying t=some d):(underlying t).run P w=.ok d w:=by
 simp[underlying,h]
theorem run_sizeOf {t:TypeId}{n:Nat}(h:szT P t=some n):(sizeOf t).run P w=.ok n w:=by
 unfold szT at h
 cases hi:P.info? t with
 | none=>simp[hi] at h
 | some i=>simp[hi] at h;simp[sizeOf,typeInfo,hi,h]
theorem zfJ {t:TypeId}{g:Bool}(h:zfx P t=some g):(isAgg t).run P w=.ok g w:=by
 unfold zfx at h
 cases hi:P.underlying t with
 | none=>simp[hi] at h
 | some d=>simp[hi] at h;simp only[isAgg,dqd,run_underlying hi,dqb];cases d <;> simp_all
theorem zdf {t:TypeId}{i:TypeInfo}{z:Value}(h:P.info? t=some i) (hz:i.zero=some z):(zeroValue t).run P w=.ok z w:=by
 simp[zeroValue,typeInfo,h,hz]

theorem cell_of {b o:Nat}{C:Array Value}{ty:TypeId}{fr:Nat×Nat}(h:w.heap[b]? = some (.cells C ty fr)):w.cell? ⟨b,o,none⟩=C[o]?:=by
 simp[World.cell?,h]

theorem zl7 {t : TypeId} {n b o : Nat} {C : Array Value} {ty : TypeId} {fr : Nat × Nat} (hg : zfx P t = some true) (hs : szT P t = some n)
    (h:w.heap[b]? = some (.cells C ty fr)) (vs:List Value) (hl:vs.length=n) (hv:∀ (j:Nat) (v:Value),vs[j]? = some v->C[o+j]? = some v) :
    (loadVar t ⟨b,o,none⟩).run P w=.ok (.agg vs.toArray) w:=by
  have hc:=run_loadCells_list (P:=P) (w:=w) ⟨b,o,none⟩ vs (λ j v hj=>by rw[addr_add,cell_of h];exact hv j v hj)
  simp only[loadVar,dqd,zfJ hg,dqb,if_true,run_sizeOf hs,<- hl,hc,dqe]
theorem zfK {t : TypeId} {b o : Nat} {C : Array Value} {ty : TypeId} {fr : Nat × Nat} (hg : zfx P t = some false)
    (h:w.heap[b]? = some (.cells C ty fr)) (v:Value) (hv:C[o]? = some v) :
    (loadVar t ⟨b,o,none⟩).run P w=.ok v w:=by
  simp only[loadVar,dqd,zfJ hg,dqb,Bool.false_eq_true,if_false,run_load,cell_of h,hv]

theorem zrg {t : TypeId} {b o f off : Nat} (h : zos P t f = some off) :
  (Instr.fieldAt t (.pointer (some ⟨b,o,none⟩)) f).run P w=.ok (.pointer (some ⟨b,o+off,none⟩)) w:=by
 unfold zos at h
 split at h
 ·rename_i fs hu
  split at h
  ·rename_i fd hf
   split at h
   ·rename_i k hs
    simp at h;subst h
    simp only[Instr.fieldAt,dqd,run_underlying hu,dqb,hf,Instr.sureAddr,dqe,fieldPlace,run_sizeOf hs]
    simp[addr_add]
   ·cases h
  ·cases h
 ·cases h

theorem run_indexAt_slice {t e : TypeId} {n b o len cap : Nat} {k : IntKind} {i : Int} (hu : P.underlying t = some (.slice e)) (hs : szT P e = some n) (h0 : 0 ≤ i) (h1 : i < (len : Int)) :
  (Instr.indexAt t (.slice (some ⟨b,o,none⟩) len cap) (.int k i)).run P w=.ok (.pointer (some ⟨b,o+i.toNat * n,none⟩)) w:=by
 simp only[Instr.indexAt, asIntOf,dqd,dqe,dqb,run_underlying hu,h0,h1,and_self,if_true,run_sizeOf hs,addr_add]

theorem ziB {b:Nat}{ty:TypeId} : ∀ (vs:List Value) (o:Nat) (C:Array Value) (w:World),w.heap[b]? = some (.cells C ty (0,0))->o+vs.length<=C.size->(∀ v∈vs,v.oneCell'=true) ->
  ∀ (base i:Nat),o=base+i->∃ w',(storeCells ⟨b,base,none⟩ vs i).run P w=.ok () w'/\w'.heap[b]? = some (.cells (spl C.toList o vs).toArray ty (0,0))/\w'.heap.size=w.heap.size /\
   (∀ k,k ≠ b->w'.heap[k]? = w.heap[k]?)/\w'.os=w.os/\w'.tape=w.tape/\w'.output=w.output/\w'.drawn=w.drawn
 | [],o,C,w,h,_,_,base,i,_=>⟨w,by simp[storeCells],by simpa [spl] using h,rfl,λ _ _=>rfl,rfl,rfl,rfl,rfl⟩
 | v :: r,o,C,w,h,hl,h1,base,i,ho=>by
  subst ho
  have hlt:base+i < C.size:=by simp at hl;omega
  have hcell:w.cell? ⟨b,base+i,none⟩=some C[base+i]:=by rw[cell_of h];simp[hlt]
  have hfr:w.frozen? ⟨b,base+i,none⟩=false:=frozen_of_row w b (base+i) C ty h
  let w1:=w.setCell ⟨b,base+i,none⟩ v
  have h2:w1.heap[b]? = some (.cells (C.set! (base+i) v) ty (0,0)):=by
   simp[w1,World.setCell,Array.getElem?_modify,h]
  have hsz:w1.heap.size=w.heap.size:=by simp[w1,World.setCell]
  have hoth:∀ k,k ≠ b->w1.heap[k]? = w.heap[k]?:=λ k hk=>heap_setCell_other w _ k v hk
  obtain⟨w',hr,hh,hs',ho',h5,h6,h7,h8⟩:=ziB r (base+i+1) (C.set! (base+i) v) w1 h2 (by simp at hl ⊢;omega) (λ u hu=>h1 u (dqf _ hu)) base (i+1) (by omega)
  refine⟨w',?_,?_,hs'.trans hsz,λ k hk=>(ho' k hk).trans (hoth k hk),h5,h6,h7,h8⟩
  ·rw [storeCells]
   simp only[dqd,addr_add,run_store P w _ v _ (h1 v dqj),hcell,hfr,Bool.false_eq_true,if_false,dqb]
   exact hr
  ·rw [hh]
   simp[spl]
end
end Go.Pm
namespace Go.Pm
variable [DrawZ]
open Go.RowKit (Below)

theorem zoy {α : Type} : ∀ (l' l : List α) (off j : Nat), off + l'.length ≤ l.length → (spl l off l')[j]? = if off ≤ j ∧ j < off + l'.length then l'[j - off]? else l[j]?
  | [],l,off,j,_=>by simp only[spl,dqL];rw[if_neg (by omega)]
  | x :: r,l,off,j,h=>by
    have h':off+1+r.length<=(l.set off x).length:=by simp at h ⊢;omega
    rw[spl,zoy r (l.set off x) (off+1) j h']
    simp only[dqr] at h ⊢
    by_cases hj:j=off
    · subst hj
      rw[if_neg (by omega),if_pos (by omega)]
      have:j < l.length:=by omega
      simp[this]
    · by_cases hr : off + 1 ≤ j ∧ j < off + 1 + r.length
      · rw [if_pos hr, if_pos (by omega)]
        have e:j - off=(j - (off+1))+1:=by omega
        rw[e,dqC]
      · rw[if_neg hr,if_neg (by omega),List.getElem?_set_ne (by omega)]

theorem zl8 (off:Nat):∀ (l:List Value) (k:Nat) (C:Array Value),
  (l.zipIdx k).foldl (λ (cs:Array Value) (x:Value×Nat)=>cs.setIfInBounds (off+x.2) x.1) C=(spl C.toList (off+k) l).toArray
 | [],k,C=>by simp[spl]
 | x :: r,k,C=>by
  rw[List.zipIdx_cons,List.foldl_cons,zl8 off r (k+1) _,spl]
  simp[Nat.add_assoc]

section
variable {P:Program}{w:World}

theorem zfo {g:Gh}{d:D1}{v:Value}(h:d1R g d v) (ho:d.cells.all zpI=true):RL (clR g) d.cells v.cells.toList:=by
 cases d with
 | c x =>
  have h1:=zv7 h (by simpa [D1.cells] using ho)
  have:v.cells = #[v]:=by cases v <;> simp_all [Value.oneCell',Value.cells]
  rw[this]
  exact⟨h,trivial⟩
 | agg cs =>
  obtain⟨vs,rfl,hr⟩:=h
  simpa [D1.cells,Value.cells] using hr

theorem zrh {fs : Array Field} (h : ∀ f ∈ fs, (szT P f.type).isSome = true) :
  (fs.mapM λ f=>do pure (f.offset,<- sizeOf f.type):Sem (Array (Nat×Nat))).run P w=.ok (fs.map λ f=>(f.offset,(szT P f.type).getD 0)) w:=by
 have key:∀ l:List Field,(∀ f∈l,(szT P f.type).isSome=true) ->
   (l.mapM λ f=>do pure (f.offset,<- sizeOf f.type):Sem (List (Nat×Nat))).run P w=.ok (l.map λ f=>(f.offset,(szT P f.type).getD 0)) w:=by
  intro l
  induction l with
  | nil=>intro _;rfl
  | cons f l ih =>
   intro hl
   obtain⟨n,hn⟩:=Option.isSome_iff_exists.1 (hl f dqj)
   rw[List.mapM_cons]
   simp only[dqd,run_sizeOf hn,dqb,dqe,ih (λ g hg=>hl g (dqf _ hg)),dqK,hn,Option.getD_some]
 rw[Array.mapM_eq_mapM_toList,Sem.run_map,key fs.toList (λ f hf=>h f (by simpa using hf))]
 cases fs;simp

theorem ziJ {g : Gh} {ρ : Operand → Value} {ev : Operand → DV} (hev : ∀ o, dvR g (ev o) (ρ o)) {t : TypeId} (place : Nat → Option (Nat × Nat))
    (hp:∀ (i off n:Nat),(match P.underlying t with
      | some (.struct fs)=>match fs[i]? with
        | some fd=>match szT P fd.type with | some m=>off=fd.offset/\n=m | none=>False
        | none=>False
      | some (.array _ e)=>match szT P e with | some m=>off=i * m/\n=m | none=>False
      | _=>False)->place i=some (off,n)) :
    ∀ (parts:List (Nat×Operand)) (z l:List Cl) (C:Array Value),zdu P t ev z parts=some l->RL (clR g) z C.toList ->
      ∃ D:Array Value,Instr.fill place C (parts.map λ x=>(x.1,ρ x.2))=some D/\RL (clR g) l D.toList
  | [],z,l,C,h,hz=>by
    simp[zdu] at h;subst h
    exact⟨C,rfl,hz⟩
  | (i,o) :: r,z,l,C,h,hz=>by
    have hd:=hev o
    simp only[zdu] at h
    cases he:ev o with
    | tup ds=>simp[he] at h
    | one d =>
      simp only[he] at h
      rw[he] at hd
      have step:∀ (off n:Nat),place i=some (off,n)->n=d.cells.length->off+n<=z.length->d.cells.all zpI=true->zdu P t ev (spl z off d.cells) r=some l ->
          ∃ D:Array Value,Instr.fill place C (((i,o) :: r).map λ x=>(x.1,ρ x.2))=some D/\RL (clR g) l D.toList:=by
        intro off n hpl hn hle hok hb
        have hc:=zfo hd hok
        have hlen:=hc.length
        have hzl:=hz.length
        have hr2:RL (clR g) (spl z off d.cells) (spl C.toList off (ρ o).cells.toList):=hz.spl hc off
        obtain⟨D,hD,hR⟩:=ziJ hev place hp r _ l (spl C.toList off (ρ o).cells.toList).toArray hb (by simpa using hr2)
        refine⟨D,?_,hR⟩
        simp only[dqK,Instr.fill,hpl]
        have h1 : ¬ ((ρ o).cells.size ≠ n):=by simp only[Decidable.not_not,ne_eq];rw[hn,hlen];simp
        have h2 : ¬ (off+(ρ o).cells.size > C.size):=by
          have:(ρ o).cells.size=d.cells.length:=by rw[hlen];simp
          have:C.size=z.length:=by rw[hzl];simp
          omega
        have h3:((decide ((ρ o).cells.size ≠ n) || decide (off+(ρ o).cells.size > C.size))=true)=False:=by simp[h1,h2]
        rw[if_neg (by rw[h3];exact id)]
        rw[<- hD]
        refine congrArg (λ z=>Instr.fill place z _) ?_
        have:=zl8 off (ρ o).cells.toList 0 C
        rw[Nat.add_zero] at this
        rw[<- this]
        cases (ρ o).cells
        simp
      cases hu:P.underlying t with
      | none=>simp[hu] at h
      | some dd =>
        cases dd with
        | struct fs =>
          simp only[hu] at h
          cases hf:fs[i]? with
          | none=>simp[hf] at h
          | some fd =>
            simp only[hf] at h
            cases hs:szT P fd.type with
            | none=>simp[hs] at h
            | some n =>
              simp only[hs] at h
              split at h
              · rename_i hcond
                simp only[dqm,Nat.ble_eq] at hcond
                exact step fd.offset n (hp i _ _ (by simp[hu,hf,hs])) (dqc hcond.1.1) hcond.1.2 hcond.2 h
              · cases h
        | array m e =>
          simp only[hu] at h
          cases hs:szT P e with
          | none=>simp[hs] at h
          | some n =>
            simp only[hs] at h
            split at h
            · rename_i hcond
              simp only[dqm,Nat.ble_eq] at hcond
              exact step (i * n) n (hp i _ _ (by simp[hu,hs])) (dqc hcond.1.1) hcond.1.2 hcond.2 h
            · cases h
        | _=>simp[hu] at h

theorem znC {h:Fz}{v:Value}{p:PV}(hv:zjH v=some p):Rep h p v:=by
 unfold zjH at hv
 split at hv <;> first | (cases hv;done) | (simp at hv;subst hv;constructor)

theorem ze4 {g : Gh} : ∀ (l : List Value) (cs : List Cl), zdt l = some cs → RL (clR g) cs l
  | [],cs,h=>by simp[zdt] at h;subst h;trivial
  | v :: r,cs,h=>by
    simp only[zdt] at h
    split at h
    · rename_i x l hx hl
      simp at h;subst h
      exact⟨znC hx,ze4 r l hl⟩
    · cases h

theorem zeL {t:TypeId}{z:List Cl}(h:zel P t=some z):∃ i v,P.info? t=some i/\i.zero=some v/\zdt v.cells.toList=some z/\z.length=i.size:=by
 unfold zel at h
 split at h
 ·rename_i i hi
  split at h
  ·rename_i v hz
   split at h
   ·rename_i l hl
    split at h
    ·rename_i hs
     simp at h;subst h
     exact⟨i,v,hi,hz,hl,hs⟩
    ·cases h
   ·cases h
  ·cases h
 ·cases h

theorem zv9 {t:TypeId}{z:List Cl}(h:zel P t=some z):∃ i v,P.info? t=some i/\i.zero=some v/\v.cells.size=i.size:=by
 obtain⟨i,v,hi,hz,hl,hs⟩:=zeL h
 have:=(ze4 (g:=⟨λ _=>none,λ _=>0,λ _=>undef,λ _ _=>undef⟩) _ _ hl).length
 exact⟨i,v,hi,hz,by rw[<- hs,this];simp⟩

theorem run_build {g : Gh} {ρ : Operand → Value} {ev : Operand → DV} (hev : ∀ o, dvR g (ev o) (ρ o)) {t : TypeId} {parts : Array (Nat × Operand)} {z l : List Cl}
    (hf:zjL P t=true) (hz:zel P t=some z) (hb:zdu P t ev z parts.toList=some l) :
    ∃ v,(Instr.build t (parts.map λ x=>(x.1,ρ x.2))).run P w=.ok v w/\d1R g (.agg l) v:=by
  obtain⟨i,v,hi,hzv,hl,_⟩:=zeL hz
  have hzr:=ze4 (g:=g) _ _ hl
  unfold zjL at hf
  cases hu:P.underlying t with
  | none=>simp[hu] at hf
  | some d =>
    cases d with
    | struct fs =>
      simp only[hu] at hf
      have hall:∀ f∈fs,(szT P f.type).isSome=true:=λ f hf'=>List.all_eq_true.1 hf f (by simpa using hf')
      obtain⟨D,hD,hR⟩:=ziJ (P:=P) hev (t:=t) ((fs.map λ f=>(f.offset,(szT P f.type).getD 0))[·]?) (by
        intro i off n hm
        simp only[hu] at hm
        cases hfi:fs[i]? with
        | none=>simp[hfi] at hm
        | some fd =>
          cases hs:szT P fd.type with
          | none=>simp[hfi,hs] at hm
          | some m=>simp[hfi,hs] at hm;simp[hfi,hs,hm.1,hm.2]) parts.toList z l v.cells hb hzr
      refine⟨.agg D,?_,⟨D.toList,by simp,hR⟩⟩
      simp only[Instr.build,dqd,zdf hi hzv,dqb,run_underlying hu,zrh hall]
      simp only[Array.toList_map]
      rw[hD]
      rfl
    | array m e =>
      simp only[hu] at hf
      obtain⟨n,hn⟩:=Option.isSome_iff_exists.1 hf
      obtain⟨D,hD,hR⟩:=ziJ (P:=P) hev (t:=t) (λ i=>some (i * n,n)) (by
        intro i off k hm
        simp only[hu,hn] at hm
        simp[hm.1,hm.2]) parts.toList z l v.cells hb hzr
      refine⟨.agg D,?_,⟨D.toList,by simp,hR⟩⟩
      simp only[Instr.build,dqd,zdf hi hzv,dqb,run_underlying hu,run_sizeOf hn]
      simp only[Array.toList_map]
      rw[hD]
      rfl
    | _=>simp[hu] at hf
end
end Go.Pm
namespace Go.Pm
variable [DrawZ]
open Go.RowKit (Below)

def zd0 (g g':Gh) (L:Nat):Prop:=g'.bk L=g.bk L/\g'.sv L=g.sv L/\g'.iv L=g.iv L
theorem zd0.refl (g:Gh) (L:Nat):zd0 g g L:=⟨rfl,rfl,rfl⟩
def zvd (g g':Gh) (l:List Nat):Prop:=∀ L∈l,zd0 g g' L

theorem ztH {g g':Gh}{c:Cl}{x:Value}(hl:zvd g g' (zaE c)) (hle:Fle g.h g'.h) (h:clR g c x):clR g' c x:=by
 cases c with
 | p v=>exact Rep.mono hle h
 | ptr L off=>have:=(hl L (by simp[zaE])).1;simp only[clR] at h ⊢;rw[this];exact h
 | vptr L s i k=>have:=(hl L (by simp[zaE])).2.1;simp only[clR] at h ⊢;rw[this];exact h
 | vec L=>have:=(hl L (by simp[zaE])).2.1;simp only[clR] at h ⊢;rw[this];exact h
 | ivec L i=>have:=(hl L (by simp[zaE])).2.2;simp only[clR] at h ⊢;rw[this];exact h
 | iptr L s i j k=>have:=(hl L (by simp[zaE])).2.2;simp only[clR] at h ⊢;rw[this];exact h
 | mo L=>have:=(hl L (by simp[zaE])).2.1;simp only[clR] at h ⊢;rw[this];exact h
 | imap L i=>have:=(hl L (by simp[zaE])).2.2;simp only[clR] at h ⊢;rw[this];exact h
 | clo f caps=>obtain⟨cv,e,hr⟩:=h;exact⟨cv,e,zgo (λ _ _=>Rep.mono hle) (λ L hL=>(hl L hL).1) hr⟩
 | xp L b n m j c=>have:=(hl L (by simp[zaE])).1;simp only[clR] at h ⊢;rw[this];exact h
 | xv L s i b n m j c=>have:=(hl L (by simp[zaE])).2.1;simp only[clR] at h ⊢;rw[this];exact h
 | xf cells b n m j c=>exact⟨h.1,Rep.mono hle h.2⟩
 | mkey it L=>have:=(hl L (by simp[zaE])).2.1;obtain⟨k,C,ty,fr,e,h1,h2⟩:=h;exact⟨k,C,ty,fr,e,hle _ _ h1,by rw[this];exact h2⟩
 | undef=>exact h
 | junk=>trivial
 | dead L=>trivial

theorem zgR {g g' : Gh} : ∀ {cs : List Cl} {vs : List Value}, zvd g g' (cs.flatMap zaE) → Fle g.h g'.h → RL (clR g) cs vs → RL (clR g') cs vs
  | [],[],_,_,_=>trivial
  | [],_ :: _,_,_,h=>h.elim
  | _ :: _,[],_,_,h=>h.elim
  | c :: cs,v :: vs,hl,hle,h=>⟨ztH (λ L hL=>hl L (by simp[hL])) hle h.1,zgR (λ L hL=>hl L (by simp only[dqJ,dqg];exact .inr hL)) hle h.2⟩

theorem ztI {g g':Gh}{d:D1}{x:Value}(hl:zvd g g' (zbN d)) (hle:Fle g.h g'.h) (h:d1R g d x):d1R g' d x:=by
 cases d with
 | c y=>exact ztH hl hle h
 | agg cs=>obtain⟨vs,rfl,hr⟩:=h;exact⟨vs,rfl,zgR hl hle hr⟩

theorem zl9 {g g' : Gh} : ∀ {cs : List D1} {vs : List Value}, zvd g g' (cs.flatMap zbN) → Fle g.h g'.h → RL (d1R g) cs vs → RL (d1R g') cs vs
  | [],[],_,_,_=>trivial
  | [],_ :: _,_,_,h=>h.elim
  | _ :: _,[],_,_,h=>h.elim
  | c :: cs,v :: vs,hl,hle,h=>⟨ztI (λ L hL=>hl L (by simp[hL])) hle h.1,zl9 (λ L hL=>hl L (by simp only[dqJ,dqg];exact .inr hL)) hle h.2⟩

theorem ztJ {g g':Gh}{d:DV}{x:Value}(hl:zvd g g' (zbf d)) (hle:Fle g.h g'.h) (h:dvR g d x):dvR g' d x:=by
 cases d with
 | one y=>exact ztI hl hle h
 | tup ds=>obtain⟨vs,rfl,hr⟩:=h;exact⟨vs,rfl,zl9 hl hle hr⟩

theorem zb1 {w w' : World} {B e s n : Nat} {v : Value} {xs : List Value} (h : w.ownsRow B e s v n xs) (hw : ∀ b, v.ownBlock = some b → w'.heap[b]? = w.heap[b]?) :
  w'.ownsRow B e s v n xs:=by
 refine⟨h.1,?_⟩
 rcases h.2 with hn | ⟨g,cap,cur,rfl,hb,hg,rest⟩
 ·exact .inl hn
 ·exact .inr ⟨g,cap,cur,rfl,hb,by rw[hw g rfl];exact hg,rest⟩

theorem zpQ {P : Program} {g g' : Gh} {w w' : World} {B L e s b n : Nat} {get : Nat → List PV} (h : ztG P g w B L e s b n get) (hs : g'.sv L = g.sv L) (hle : Fle g.h g'.h)
    (hw:∀ b,(g.sv L).ownBlock=some b->w'.heap[b]? = w.heap[b]?):ztG P g' w' B L e s b n get:=by
  obtain⟨h1,h2,xs,hx,hr⟩:=h
  refine⟨h1,h2,xs,?_,λ i hi=>(hr i hi).mono λ _ _=>Rep.mono hle⟩
  rw[hs];exact zb1 hx hw

theorem ztK {P : Program} {g g' : Gh} {w w' : World} {B L te bb e s b n : Nat} {ln : Nat → Nat} {get : Nat → Nat → List PV} (h : vvR P g w B L te bb e s b n ln get) (hl : zd0 g g' L) (hle : Fle g.h g'.h)
    (hw:∀ k,obk g L (.vv te bb e s b n ln get) k->w'.heap[k]? = w.heap[k]?):vvR P g' w' B L te bb e s b n ln get:=by
  obtain⟨h1,h2,h3,h4,h5,h6⟩:=h
  refine⟨h1,h2,h3,?_,λ i hi=>?_,?_⟩
  · rw[hl.2.1,hl.2.2];exact zb1 h4 λ k hk=>hw k (.inl hk)
  · obtain ⟨h7, h70, xs, hx, hr⟩ := h5 i hi
    rw[hl.2.2]
    exact⟨h7,h70,xs,zb1 hx λ k hk=>hw k (.inr ⟨i,hi,hk⟩),λ j hj=>(hr j hj).mono λ _ _=>Rep.mono hle⟩
  · rw[hl.2.1,hl.2.2];exact h6

theorem ztL {P : Program} {g g' : Gh} {w w' : World} {B L te bb kt vt : Nat} {q : MQ} {n : Nat} {mk : Nat → Bool} {nn : Nat → Nat} {F : Nat → List Int → Option (List Int)} (h : vmR P g w B L te bb kt vt q n mk nn F) (hl : zd0 g g' L)
    (hw:∀ k,obk g L (.vm te bb kt vt q n mk nn F) k->w'.heap[k]? = w.heap[k]?):vmR P g' w' B L te bb kt vt q n mk nn F:=by
  obtain⟨h1,h2,h3,h4,h5⟩:=h
  refine⟨h1,h2,?_,λ i hi=>?_,?_⟩
  · rw[hl.2.1,hl.2.2];exact zb1 h3 λ k hk=>hw k (.inl hk)
  · rw [hl.2.2]
    refine⟨λ hm=>?_,(h4 i hi).2⟩
    obtain⟨b,es,clock,e1,e2,e3⟩:=(h4 i hi).1 hm
    exact⟨b,es,clock,e1,by rw[hw b (.inr ⟨i,hi,e1⟩)];exact e2,e3⟩
  · rw[hl.2.1,hl.2.2];exact h5

theorem zpR {h h':Fz}{w w':World}{k:Nat}{q:MQ}{n:Nat}{F:List Int->Option (List Int)}{seen:List (List Int)}(H:zKl h w k q n F seen) (hle:Fle h h') (hw:w'.heap[k]? = w.heap[k]?):zKl h' w' k q n F seen:=by
 rcases H with ⟨h1,h2⟩ | ⟨m,es,clock,sb,en,h1,h2,h3,h4⟩
 ·exact .inl ⟨by rw[hw];exact h1,h2⟩
 ·exact .inr ⟨m,es,clock,sb,en,hle _ _ h1,h2,by rw[hw];exact h3,h4⟩
theorem zFL {h:Fz}{w:World}{k:Nat}{q:MQ}{n:Nat}{F:List Int->Option (List Int)}{seen:List (List Int)}(H:zKl h w k q n F seen):k < w.heap.size:=by
 rcases H with ⟨h1,h2⟩ | ⟨m,es,clock,sb,en,h1,h2,h3,h4⟩
 ·exact (dqp.1 h1).1
 ·exact (dqp.1 h3).1

theorem zcV {P : Program} {g g' : Gh} {w w' : World} {B L : Nat} {o : AO} (h : aoR P g w B L o) (hl : zd0 g g' L) (hm : zvd g g' (zb8 o)) (hle : Fle g.h g'.h)
    (hw:∀ b,obk g L o b->w'.heap[b]? = w.heap[b]?):aoR P g' w' B L o:=by
  cases o with
  | box ty cs=>obtain⟨C,hC,hr⟩:=h;refine⟨C,?_,zgR hm hle hr⟩;rw[hl.1,hw _ rfl];exact hC
  | fbox cs=>obtain⟨C,ty,fr,hC,hr⟩:=h;refine⟨C,ty,fr,?_,hr.mono λ _ _=>Rep.mono hle⟩;rw[hl.1];exact hle _ _ hC
  | vec e s b n get=>exact zpQ h hl.2.1 hle hw
  | fvec s n get=>simp only[aoR] at h ⊢;rw[hl.2.1];exact⟨Rep.mono hle h.1,h.2⟩
  | vv te bb e s b n ln get=>exact ztK h hl hle hw
  | mo kt vt q n F=>obtain⟨es,clock,hC,hr⟩:=h;refine⟨es,clock,?_,hr⟩;rw[hl.2.1,hw _ rfl];exact hC
  | vm te bb kt vt q n mk nn F=>exact ztL h hl hw
  | mit q n F seen=>simp only[aoR] at h ⊢;rw[hl.1];exact zpR h hle (hw _ rfl)
  | gone=>trivial

theorem zbK {g g':Gh}{L:Nat}{o:AO}(hl:zd0 g g' L):obk g' L o=obk g L o:=by
 funext b
 cases o <;> simp[obk,hl.1,hl.2.1,hl.2.2]

theorem zc4 {P:Program}{g:Gh}{w:World}{B L b:Nat}{o:AO}(h:aoR P g w B L o) (hb:obk g L o b):b < w.heap.size:=by
 cases o with
 | box ty cs=>simp[obk] at hb;subst hb;obtain⟨C,hC,_⟩:=h;exact (dqp.1 hC).1
 | fbox cs=>simp[obk] at hb
 | vec e s b' n get =>
  obtain⟨_,_,xs,hx,_⟩:=h
  exact (hx.lt b hb).2
 | fvec s n get=>simp[obk] at hb
 | vv te bb e s b' n ln get =>
  obtain⟨_,_,_,h4,h5,_⟩:=h
  rcases hb with hb | ⟨i,hi,hb⟩
  ·exact (h4.lt b hb).2
  ·obtain ⟨_, _, xs, hx, _⟩ := h5 i hi
   exact (hx.lt b hb).2
 | mo kt vt q n F=>simp[obk] at hb;subst hb;obtain⟨es,clock,hC,_⟩:=h;exact (dqp.1 hC).1
 | vm te bb kt vt q n mk nn F =>
  obtain⟨_,_,h3,h4,_⟩:=h
  rcases hb with hb | ⟨i,hi,hb⟩
  ·exact (h3.lt b hb).2
  ·cases hm:mk i with
   | true=>obtain⟨b',es,clock,e1,e2,e3⟩:=(h4 i hi).1 hm;rw[hb] at e1;simp only[Value.map.injEq,dqa] at e1;subst e1;exact (dqp.1 e2).1
   | false=>have:=((h4 i hi).2 hm).1;rw[hb] at this;cases this
 | mit q n F seen=>simp[obk] at hb;subst hb;exact zFL h
 | gone=>exact hb.elim

section
variable {P:Program}{nt B:Nat}{w0:World}{h0:Fz}{g:Gh}{σ:St}{a:Act}{w:World}

theorem Sim.log (S:Sim P nt B w0 h0 g σ a w) (l:List (Nat×Nat×Nat)):Sim P nt B w0 h0 g { σ with log:=l } a w :=
 ⟨S.dfr,S.size,S.env,S.obj,S.own,S.sep,S.hw,S.le0,S.hn,S.below,S.bs,S.clE,S.clO,S.gl⟩

theorem ztM (a:Act) (t:Nat) (v:Value) (u:Nat) (ht:t < a.tmps.size):(a.put (some t) v).tmps.getD u undef=if t=u then v else a.tmps.getD u undef:=by
 simp only[Act.put,dql,Array.getElem?_setIfInBounds]
 by_cases h:t=u
 ·subst h;simp[ht]
 ·simp[h]

def zFM (dst:Option Nat) (d:DV) (e:List (Nat×DV)):List (Nat×DV) :=
 match dst with
 | some t=>(t,d) :: e
 | none=>e

theorem zbi (σ:St) (i:Nat) (dst:Option Nat) (fp:List (Nat×Bool)) (d:DV) (u:List (Nat×AO)):σ.upd i dst fp d u []=⟨zFM dst d σ.env,u ++ σ.objs,σ.log⟩:=by
 cases dst <;> rfl

theorem Sim.put (S : Sim P nt B w0 h0 g σ a w) {dst : Option Nat} {d : DV} {v : Value} (hd : zck nt dst = true) (hv : dvR g d v) (hl : ∀ L ∈ zbf d, ∃ o, lk σ.objs L = some o)
    (l:List (Nat×Nat×Nat)):Sim P nt B w0 h0 g ⟨zFM dst d σ.env,σ.objs,l⟩ (a.put dst v) w:=by
  cases dst with
  | none=>exact S.log l
  | some t =>
    have ht:t < nt:=by simpa [zck,Nat.blt_eq] using hd
    have hts:t < a.tmps.size:=dqS ht S.size
    refine⟨S.dfr,by simpa [Act.put] using S.size,?_,S.obj,S.own,S.sep,S.hw,S.le0,S.hn,S.below,S.bs,?_,S.clO,S.gl⟩
    · intro u e hu
      rw[ztM a t v u hts]
      simp only[zFM,zay] at hu
      split at hu
      · rename_i h;simp at hu;subst hu;rw[if_pos h];exact hv
      · rename_i h;rw[if_neg h];exact S.env u e hu
    · intro u e hu
      simp only[zFM,zay] at hu
      split at hu
      · simp at hu;subst hu;exact hl
      · exact S.clE u e hu

theorem Sim.change (S : Sim P nt B w0 h0 g σ a w) {g' : Gh} {w' : World} {objs' : List (Nat × AO)}
    (hlab:∀ L o,lk σ.objs L=some o->zd0 g g' L) (hle:Fle g.h g'.h) (hw':Hw g'.h w')
    (hn':∀ b o,g'.h b=some o->g.h b=some o\/B<=b) (hb:Bel h0 B w w')
    (hobj:∀ L o,lk objs' L=some o->aoR P g' w' B L o) (hown:∀ L o b,lk objs' L=some o->obk g' L o b->B<=b/\g'.h b=none)
    (hsep:∀ L o b L' o',lk objs' L=some o->lk objs' L'=some o'->obk g' L o b->obk g' L' o' b->L=L')
    (hdom:∀ L o,lk σ.objs L=some o->∃ o',lk objs' L=some o') (hclO:∀ L o,lk objs' L=some o->∀ M∈zb8 o,∃ o',lk objs' M=some o') :
    Sim P nt B w0 h0 g' { σ with objs:=objs' } a w':=by
  refine⟨S.dfr.mono hle,S.size,?_,hobj,hown,hsep,hw',λ b o h=>hle _ _ (S.le0 b o h),?_,S.below.trans hb,dqE S.bs hb.size,?_,hclO,S.gl⟩
  · intro t d ht
    refine ztJ (λ L hL=>?_) hle (S.env t d ht)
    obtain⟨o,ho⟩:=S.clE t d ht L hL
    exact hlab L o ho
  · intro b o h
    rcases hn' b o h with h | h
    · exact S.hn b o h
    · exact .inr h
  · intro t d ht L hL
    obtain⟨o,ho⟩:=S.clE t d ht L hL
    exact hdom L o ho

theorem Sim.world (S : Sim P nt B w0 h0 g σ a w) {h' : Fz} {w' : World} (hle : Fle g.h h') (hw' : Hw h' w')
    (hn':∀ b o,h' b=some o->g.h b=some o\/w.heap.size<=b) (hb:Bel g.h w.heap.size w w'):Sim P nt B w0 h0 ⟨h',g.bk,g.sv,g.iv⟩ σ a w':=by
  have hlt:∀ L o b,lk σ.objs L=some o->obk g L o b->b < w.heap.size:=λ L o b ho hob=>zc4 (S.obj L o ho) hob
  have key := S.change (g' := ⟨h', g.bk, g.sv, g.iv⟩) (w' := w') (objs' := σ.objs) (fun _ _ _ => ⟨rfl, rfl, rfl⟩) hle hw'
    (λ b o h=>(hn' b o h).imp id λ h=>dqE S.bs h) ⟨hb.os,hb.tape,hb.output,hb.size,hb.drawn,λ k hk hn=>hb.block k (dqS hk S.bs) λ F hF=>by
      rcases S.hn k _ hF with h | h
      · exact hn F h
      · omega⟩
    (λ L o ho=>zcV (S.obj L o ho) ⟨rfl,rfl,rfl⟩ (λ _ _=>⟨rfl,rfl,rfl⟩) hle λ b hob=>hb.block b (hlt L o b ho hob) λ F hF=>by rw[(S.own L o b ho hob).2] at hF;cases hF)
    (λ L o b ho hob=>by
      have hob':obk g L o b:=Eq.mp (congrFun (zbK (g:=g) (g':=⟨h',g.bk,g.sv,g.iv⟩) ⟨rfl,rfl,rfl⟩) _) hob
      obtain⟨h1,h2⟩:=S.own L o b ho hob'
      refine⟨h1,?_⟩
      cases hh:h' b with
      | none=>exact hh
      | some x =>
        rcases hn' b x hh with h3 | h3
        · rw[h2] at h3;cases h3
        · exact absurd (hlt L o b ho hob') (by omega))
    (fun L o b L' o' ho ho' hob hob' => S.sep L o b L' o' ho ho'
      (Eq.mp (congrFun (zbK (g:=g) (g':=⟨h',g.bk,g.sv,g.iv⟩) ⟨rfl,rfl,rfl⟩) _) hob) (Eq.mp (congrFun (zbK (g:=g) (g':=⟨h',g.bk,g.sv,g.iv⟩) ⟨rfl,rfl,rfl⟩) _) hob'))
    (λ L o h=>⟨o,h⟩) S.clO
  exact key

theorem ziK {h:Fz}(hw:Hw h w){b:Nat}{o:FzO}(hb:h b=some o):b < w.heap.size:=hw.lt hb

def Gh.setBk (g:Gh) (t b:Nat):Gh:=⟨g.h,λ L=>if L=t then b else g.bk L,g.sv,g.iv⟩
def Gh.setSv (g:Gh) (t:Nat) (v:Value):Gh:=⟨g.h,g.bk,λ L=>if L=t then v else g.sv L,g.iv⟩
def Gh.setVv (g:Gh) (t:Nat) (v:Value) (iv:Nat->Value):Gh:=⟨g.h,g.bk,λ L=>if L=t then v else g.sv L,λ L=>if L=t then iv else g.iv L⟩

theorem Sim.newBox (S : Sim P nt B w0 h0 g σ a w) {t ty : Nat} {cs : List Cl} {C : Array Value} (ht : lk σ.objs t = none) (hC : RL (clR g) cs C.toList)
    (hcl:∀ M∈cs.flatMap zaE,∃ o,lk σ.objs M=some o) :
    Sim P nt B w0 h0 (g.setBk t w.heap.size) { σ with objs:=(t,.box ty cs) :: σ.objs } a (w.alloc (.cells C ty)):=by
  have hne:∀ L o,lk σ.objs L=some o->L ≠ t:=λ L o h e=>by subst e;rw[ht] at h;cases h
  have hsame:∀ L o,lk σ.objs L=some o->zd0 g (g.setBk t w.heap.size) L:=λ L o h=>⟨by simp[Gh.setBk,hne L o h],rfl,rfl⟩
  have hold:∀ b,b < w.heap.size->(w.alloc (.cells C ty)).heap[b]? = w.heap[b]?:=λ b hb=>heap_alloc_old w _ b hb
  have hlk:∀ L o,lk ((t,AO.box ty cs) :: σ.objs) L=some o->(L=t/\o=.box ty cs)\/(L ≠ t/\lk σ.objs L=some o):=by
    intro L o h
    rw[zay] at h
    split at h
    · rename_i e;simp at h;exact .inl ⟨e.symm,h.symm⟩
    · rename_i e;exact .inr ⟨λ e'=>e e'.symm,h⟩
  have hobkb:∀ L o b,lk σ.objs L=some o->obk (g.setBk t w.heap.size) L o b->obk g L o b:=λ L o b ho hob=>Eq.mp (congrFun (zbK (hsame L o ho)) _) hob
  refine S.change (g':=g.setBk t w.heap.size) hsame (λ _ _ h=>h) ?_ (λ b o h=>.inl h) (Bel.of ⟨(Below.refl B w).alloc S.bs _,dqt _⟩) ?_ ?_ ?_ ?_ ?_
  · exact S.hw.same λ b o h=>hold b (ziK S.hw h)
  · intro L o ho
    rcases hlk L o ho with ⟨rfl,rfl,rfl⟩ | ⟨_,ho⟩
    · refine ⟨C, by show (w.alloc _).heap[(if _ then w.heap.size else _)]? = _; rw [if_pos rfl]; exact heap_alloc_new w _, zgR (g := g) (g' := g.setBk _ w.heap.size) (fun M hM => ?_) (fun _ _ h => h) hC⟩
      obtain⟨o,ho⟩:=hcl M hM
      exact hsame M o ho
    · refine zcV (S.obj L o ho) (hsame L o ho) (fun M hM => ?_) (fun _ _ h => h) (fun b hob => hold b (zc4 (S.obj L o ho) hob))
      obtain⟨o',ho'⟩:=S.clO L o ho M hM
      exact hsame M o' ho'
  · intro L o b ho hob
    rcases hlk L o ho with ⟨rfl,rfl,rfl⟩ | ⟨_,ho⟩
    · simp [obk, Gh.setBk] at hob; subst hob
      refine⟨S.bs,?_⟩
      cases hh:g.h w.heap.size with
      | none=>exact hh
      | some x=>exact absurd (ziK S.hw hh) (by omega)
    · exact S.own L o b ho (hobkb L o b ho hob)
  · intro L o b L' o' ho ho' hob hob'
    rcases hlk L o ho with ⟨rfl,rfl,rfl⟩ | ⟨hn,ho2⟩ <;> rcases hlk L' o' ho' with ⟨rfl,rfl,rfl⟩ | ⟨hn',ho2'⟩
    · rfl
    · simp [obk, Gh.setBk] at hob; subst hob
      exact absurd (zc4 (S.obj L' o' ho2') (hobkb _ _ _ ho2' hob')) (by omega)
    · simp [obk, Gh.setBk] at hob'; subst hob'
      exact absurd (zc4 (S.obj L o ho2) (hobkb _ _ _ ho2 hob)) (by omega)
    · exact S.sep L o b L' o' ho2 ho2' (hobkb _ _ _ ho2 hob) (hobkb _ _ _ ho2' hob')
  · intro L o ho
    refine⟨o,?_⟩
    rw[zay,if_neg (λ e=>hne L o ho e.symm)];exact ho
  · intro L o ho M hM
    have fin:∀ M o,lk σ.objs M=some o->∃ o',lk ((t,AO.box ty cs) :: σ.objs) M=some o':=λ M o h=>⟨o,by rw[zay,if_neg (λ e=>hne M o h e.symm)];exact h⟩
    rcases hlk L o ho with ⟨rfl,rfl,rfl⟩ | ⟨_,ho⟩
    · obtain⟨o,ho⟩:=hcl M hM;exact fin M o ho
    · obtain⟨o',ho'⟩:=S.clO L o ho M hM;exact fin M o' ho'

theorem Sim.newVec (S : Sim P nt B w0 h0 g σ a w) {t e s b n : Nat} {get : Nat → List PV} {v : Value} {w' : World} (ht : lk σ.objs t = none)
    (hb:BelD B w w') (hold:∀ b,b < w.heap.size->w'.heap[b]? = w.heap[b]?) (hv:∀ b,v.ownBlock=some b->w.heap.size<=b)
    (hr:ztG P (g.setSv t v) w' B t e s b n get) :
    Sim P nt B w0 h0 (g.setSv t v) { σ with objs:=(t,.vec e s b n get) :: σ.objs } a w':=by
  have hne:∀ L o,lk σ.objs L=some o->L ≠ t:=λ L o h e=>by subst e;rw[ht] at h;cases h
  have hsame:∀ L o,lk σ.objs L=some o->zd0 g (g.setSv t v) L:=λ L o h=>⟨rfl,by simp[Gh.setSv,hne L o h],rfl⟩
  have hlk:∀ L o,lk ((t,AO.vec e s b n get) :: σ.objs) L=some o->(L=t/\o=.vec e s b n get)\/(L ≠ t/\lk σ.objs L=some o):=by
    intro L o h
    rw[zay] at h
    split at h
    · rename_i e;simp at h;exact .inl ⟨e.symm,h.symm⟩
    · rename_i e;exact .inr ⟨λ e'=>e e'.symm,h⟩
  have hobkb:∀ L o b,lk σ.objs L=some o->obk (g.setSv t v) L o b->obk g L o b:=λ L o b ho hob=>Eq.mp (congrFun (zbK (hsame L o ho)) _) hob
  have hnew:(g.setSv t v).sv t=v:=by simp[Gh.setSv]
  refine S.change (g':=g.setSv t v) hsame (λ _ _ h=>h) ?_ (λ b o h=>.inl h) (.of hb) ?_ ?_ ?_ ?_ ?_
  · exact S.hw.same λ b o h=>hold b (ziK S.hw h)
  · intro L o ho
    rcases hlk L o ho with ⟨rfl,rfl,rfl⟩ | ⟨_,ho⟩
    · exact hr
    · refine zcV (S.obj L o ho) (hsame L o ho) (fun M hM => ?_) (fun _ _ h => h) (fun b hob => hold b (zc4 (S.obj L o ho) hob))
      obtain⟨o',ho'⟩:=S.clO L o ho M hM
      exact hsame M o' ho'
  · intro L o b' ho hob
    rcases hlk L o ho with ⟨rfl,rfl,rfl⟩ | ⟨_,ho⟩
    · simp only [obk, hnew] at hob
      have h1:=hv b' hob
      refine⟨dqE S.bs h1,?_⟩
      cases hh:g.h b' with
      | none=>exact hh
      | some x=>exact absurd (ziK S.hw hh) (by omega)
    · exact S.own L o b' ho (hobkb L o b' ho hob)
  · intro L o b' L' o' ho ho' hob hob'
    rcases hlk L o ho with ⟨rfl,rfl,rfl⟩ | ⟨hn,ho2⟩ <;> rcases hlk L' o' ho' with ⟨rfl,rfl,rfl⟩ | ⟨hn',ho2'⟩
    · rfl
    · simp only [obk, hnew] at hob
      have:=hv b' hob
      exact absurd (zc4 (S.obj L' o' ho2') (hobkb _ _ _ ho2' hob')) (by omega)
    · simp only [obk, hnew] at hob'
      have:=hv b' hob'
      exact absurd (zc4 (S.obj L o ho2) (hobkb _ _ _ ho2 hob)) (by omega)
    · exact S.sep L o b' L' o' ho2 ho2' (hobkb _ _ _ ho2 hob) (hobkb _ _ _ ho2' hob')
  · intro L o ho
    refine⟨o,?_⟩
    rw[zay,if_neg (λ e=>hne L o ho e.symm)];exact ho
  · intro L o ho M hM
    rcases hlk L o ho with ⟨rfl,rfl,rfl⟩ | ⟨_,ho⟩
    · simp[zb8] at hM
    · obtain ⟨o', ho'⟩ := S.clO L o ho M hM
      exact⟨o',by rw[zay,if_neg (λ e=>hne M o' ho' e.symm)];exact ho'⟩

theorem Sim.write2 (S : Sim P nt B w0 h0 g σ a w) {L : Nat} {o o' : AO} {w' : World} (hL : lk σ.objs L = some o) (hbk : ∀ b, obk g L o' b → obk g L o b)
    (hb:BelD B w w') (hoth:∀ b,b < w.heap.size->¬ obk g L o b->w'.heap[b]? = w.heap[b]?) (hr:aoR P g w' B L o') (hcl:∀ M∈zb8 o',∃ o,lk σ.objs M=some o) :
    Sim P nt B w0 h0 g { σ with objs:=(L,o') :: σ.objs } a w':=by
  have hlk:∀ M x,lk ((L,o') :: σ.objs) M=some x->(M=L/\x=o')\/(M ≠ L/\lk σ.objs M=some x):=by
    intro M x h
    rw[zay] at h
    split at h
    · rename_i e;simp at h;exact .inl ⟨e.symm,h.symm⟩
    · rename_i e;exact .inr ⟨λ e'=>e e'.symm,h⟩
  have hdom:∀ M x,lk σ.objs M=some x->∃ x',lk ((L,o') :: σ.objs) M=some x':=by
    intro M x h
    rw[zay];split
    · exact⟨o',rfl⟩
    · exact⟨x,h⟩
  refine S.change (g':=g) (λ _ _ _=>⟨rfl,rfl,rfl⟩) (λ _ _ h=>h) ?_ (λ b o h=>.inl h) (.of hb) ?_ ?_ ?_ hdom ?_
  · exact S.hw.same λ b x h=>hoth b (ziK S.hw h) (λ e=>by have:=(S.own L o b hL e).2;rw[this] at h;cases h)
  · intro M x hx
    rcases hlk M x hx with ⟨rfl,rfl,rfl⟩ | ⟨hne,hx⟩
    · exact hr
    · exact zcV (S.obj M x hx) ⟨rfl,rfl,rfl⟩ (λ _ _=>⟨rfl,rfl,rfl⟩) (λ _ _ h=>h) λ b hob=>hoth b (zc4 (S.obj M x hx) hob) λ e=>hne (S.sep M x b L o hx hL hob e)
  · intro M x b hx hob
    rcases hlk M x hx with ⟨rfl,rfl,rfl⟩ | ⟨_,hx⟩
    · exact S.own M o b hL (hbk b hob)
    · exact S.own M x b hx hob
  · intro M x b M' x' hx hx' hob hob'
    rcases hlk M x hx with ⟨rfl,rfl,rfl⟩ | ⟨_,hx2⟩ <;> rcases hlk M' x' hx' with ⟨rfl,rfl,rfl⟩ | ⟨_,hx2'⟩
    · rfl
    · exact S.sep M o b M' x' hL hx2' (hbk b hob) hob'
    · exact S.sep M x b M' o hx2 hL hob (hbk b hob')
    · exact S.sep M x b M' x' hx2 hx2' hob hob'
  · intro M x hx N hN
    rcases hlk M x hx with ⟨rfl,rfl,rfl⟩ | ⟨_,hx⟩
    · obtain⟨y,hy⟩:=hcl N hN;exact hdom N y hy
    · obtain⟨y,hy⟩:=S.clO M x hx N hN;exact hdom N y hy
theorem Sim.write (S : Sim P nt B w0 h0 g σ a w) {L : Nat} {o o' : AO} {w' : World} (hL : lk σ.objs L = some o) (hbk : ∀ b, obk g L o' b → obk g L o b)
    (hb:BelD B w w') (hoth:∀ b,¬ obk g L o b->w'.heap[b]? = w.heap[b]?) (hr:aoR P g w' B L o') (hcl:∀ M∈zb8 o',∃ o,lk σ.objs M=some o) :
    Sim P nt B w0 h0 g { σ with objs:=(L,o') :: σ.objs } a w':=S.write2 hL hbk hb (λ b _=>hoth b) hr hcl
end
end Go.Pm
namespace Go.Pm
variable [DrawZ]
open Go.RowKit (Below)

abbrev Upd:=List (Nat×AO)

abbrev zve (s:Nat) (ln:Nat->Nat) (get:Nat->Nat->List PV):Nat->List PV:=λ i=>[.sl (ln i) s (get i)]

abbrev zvf (q:MQ) (nn:Nat->Nat) (F:Nat->List Int->Option (List Int)):Nat->List PV:=λ i=>[.fm q (nn i) (F i)]

def zCJ (ob:Nat->Option AO) (u:Upd) (L:Nat) (o':AO):Prop :=
 (∃ e s b n get,ob L=some (.vec e s b n get)/\o'=.fvec s n get) \/
 (∃ ty cells l us,ob L=some (.box ty cells)/\o'=.fbox l/\ze3 ob cells=some (l,us)/\∀ x∈us,x∈u) \/
 (∃ te bb e s b n ln get,ob L=some (.vv te bb e s b n ln get)/\o'=.fvec 1 n (zve s ln get)) \/
 (∃ te bb kt vt q n mk nn F,ob L=some (.vm te bb kt vt q n mk nn F)/\o'=.fvec 1 n (zvf q nn F)) \/
 (∃ kt vt q n F,ob L=some (.mo kt vt q n F)/\o'=.gone)

theorem zCJ.mono {ob:Nat->Option AO}{u u':Upd}{L:Nat}{o':AO}(h:zCJ ob u L o') (hu:∀ x∈u,x∈u'):zCJ ob u' L o':=by
 rcases h with h | ⟨ty,cells,l,us,h1,h2,h3,h4⟩ | h
 ·exact .inl h
 ·exact .inr (.inl ⟨ty,cells,l,us,h1,h2,h3,λ x hx=>hu x (h4 x hx)⟩)
 ·exact .inr (.inr h)

def zei (ob:Nat->Option AO) (u:Upd):Prop:=∀ x∈u,zCJ ob u x.1 x.2

theorem zei.append {ob:Nat->Option AO}{u u':Upd}(h:zei ob u) (h':zei ob u'):zei ob (u ++ u'):=by
 intro x hx
 rcases dqg.1 hx with hx | hx
 ·exact (h x hx).mono λ y hy=>dqg.2 (.inl hy)
 ·exact (h' x hx).mono λ y hy=>dqg.2 (.inr hy)
theorem zei.nil (ob:Nat->Option AO):zei ob []:=λ x hx=>by simp at hx

section
variable {ob:Nat->Option AO}
theorem zwa {c:Cl}{v:PV}{u:Upd}(h:zu0 ob c=some (v,u)):zei ob u:=by
 unfold zu0 at h
 split at h
 ·simp only[dqa,dqh] at h;rw[<- h.2];exact zei.nil ob
 ·split at h
  ·rename_i e s b n get hL
   simp at h;rw[<- h.2]
   intro x hx;simp at hx;subst hx
   exact .inl ⟨_,_,_,_,_,hL,rfl⟩
  ·simp only[dqa,dqh] at h;rw[<- h.2];exact zei.nil ob
  ·rename_i te bb e s b n ln get hL
   simp only[dqa,dqh] at h;rw[<- h.2]
   intro x hx;simp only[dqi] at hx;subst hx
   exact .inr (.inr (.inl ⟨_,_,_,_,_,_,_,_,hL,rfl⟩))
  ·rename_i te bb kt vt q n mk nn F hL
   simp only[dqa,dqh] at h;rw[<- h.2]
   intro x hx;simp only[dqi] at hx;subst hx
   exact .inr (.inr (.inr (.inl ⟨_,_,_,_,_,_,_,_,_,hL,rfl⟩)))
  ·cases h
 ·split at h
  ·rename_i kt vt q n F hL
   simp only[dqa,dqh] at h;rw[<- h.2]
   intro x hx;simp only[dqi] at hx;subst hx
   exact .inr (.inr (.inr (.inr ⟨_,_,_,_,_,hL,rfl⟩)))
  ·cases h
 ·cases h
theorem zoz : ∀ {cs : List Cl} {l : List PV} {u : Upd}, ze3 ob cs = some (l, u) → zei ob u
  | [],l,u,h=>by simp[ze3] at h;rw[h.2];exact zei.nil ob
  | c :: cs,l,u,h=>by
    simp only[ze3] at h
    split at h
    · rename_i v u1 l2 u2 h1 h2
      simp at h;rw[<- h.2];exact (zwa h1).append (zoz h2)
    · cases h
theorem zwb {c:Cl}{v:PV}{u:Upd}(h:zvV ob c=some (v,u)):zei ob u:=by
 unfold zvV at h
 split at h
 ·split at h
  ·rename_i L off ty cells hL
   split at h
   ·rename_i l us hl
    simp at h;rw[<- h.2]
    intro x hx
    rcases dqg.1 hx with hx | hx
    ·exact (zoz hl x hx).mono λ y hy=>dqg.2 (.inl hy)
    ·simp at hx; subst hx
     exact .inr (.inl ⟨_,_,_,_,hL,rfl,hl,λ y hy=>dqg.2 (.inl hy)⟩)
   ·cases h
  ·simp only[dqa,dqh] at h;rw[<- h.2];exact zei.nil ob
  ·cases h
 ·exact zwa h
theorem ztN : ∀ {cs : List Cl} {l : List PV} {u : Upd}, zjI ob cs = some (l, u) → zei ob u
  | [],l,u,h=>by simp[zjI] at h;rw[h.2];exact zei.nil ob
  | c :: cs,l,u,h=>by
    simp only[zjI] at h
    split at h
    · rename_i v u1 l2 u2 h1 h2
      simp at h;rw[<- h.2];exact (zwb h1).append (ztN h2)
    · cases h
theorem zwc {c:Cl}{v:PV}{u:Upd}(h:frz ob c=some (v,u)):zei ob u:=by
 unfold frz at h
 split at h
 ·split at h
  ·rename_i l us hl
   simp only[dqa,dqh] at h;rw[<- h.2];exact ztN hl
  ·cases h
 ·exact zwb h
theorem zoA : ∀ {cs : List Cl} {l : List PV} {u : Upd}, znm ob cs = some (l, u) → zei ob u
  | [],l,u,h=>by simp[znm] at h;rw[h.2];exact zei.nil ob
  | c :: cs,l,u,h=>by
    simp only[znm] at h
    split at h
    · rename_i v u1 l2 u2 h1 h2
      simp at h;rw[<- h.2];exact (zwc h1).append (zoA h2)
    · cases h
theorem zrj {d:DV}{v:PA}{u:Upd}(h:zq2 ob d=some (v,u)):zei ob u:=by
 unfold zq2 at h
 split at h
 ·split at h
  ·rename_i v' u' h1;simp at h;rw[<- h.2];exact zwc h1
  ·cases h
 ·split at h
  ·rename_i v' u' h1;simp at h;rw[<- h.2];exact zoA h1
  ·cases h
 ·cases h
theorem zlH : ∀ {cs : List DV} {l : List PA} {u : Upd}, zfC ob cs = some (l, u) → zei ob u
  | [],l,u,h=>by simp[zfC] at h;rw[h.2];exact zei.nil ob
  | c :: cs,l,u,h=>by
    simp only[zfC] at h
    split at h
    · rename_i v u1 l2 u2 h1 h2
      simp at h;rw[<- h.2];exact (zrj h1).append (zlH h2)
    · cases h
end

structure Frozen (g : Gh) (ob : Nat → Option AO) (u : Upd) (h' : Fz) : Prop where
  le:Fle g.h h'
  inv:∀ k Fn,h' k=some (.inv Fn)->g.h k=some (.inv Fn)
  vec:∀ L e s b n get,ob L=some (.vec e s b n get)->(L,AO.fvec s n get)∈u->Rep h' (.sl n s get) (g.sv L)
  fvec:∀ L s n get,ob L=some (.fvec s n get)->Rep h' (.sl n s get) (g.sv L)
  vv:∀ L te bb e s b n ln get,ob L=some (.vv te bb e s b n ln get)->(L,AO.fvec 1 n (zve s ln get))∈u->Rep h' (.sl n 1 (zve s ln get)) (g.sv L)
  vm:∀ L te bb kt vt q n mk nn F,ob L=some (.vm te bb kt vt q n mk nn F)->(L,AO.fvec 1 n (zvf q nn F))∈u->Rep h' (.sl n 1 (zvf q nn F)) (g.sv L)
  mo:∀ L kt vt q n F,ob L=some (.mo kt vt q n F)->(L,AO.gone)∈u->Rep h' (.fm q n F) (.map (some (zdV (g.sv L))))
  box:∀ L ty cells l us,ob L=some (.box ty cells)->ze3 ob cells=some (l,us)->(∀ x∈us,x∈u)->(L,AO.fbox l)∈u->∃ C,h' (g.bk L)=some (.fz (.cells C ty (0,0)))/\RL (Rep h') l C.toList
  fbox:∀ L l,ob L=some (.fbox l)->∃ C ty fr,h' (g.bk L)=some (.fz (.cells C ty fr))/\RL (Rep h') l C.toList
  new:∀ b,g.h b=none->∀ o,h' b=some o->∃ L x o',(L,o')∈u/\ob L=some x/\obk g L x b

section
variable {g:Gh}{ob:Nat->Option AO}{u:Upd}{h':Fz}
theorem Frozen.rep0 (F:Frozen g ob u h'){c:Cl}{v:PV}{us:Upd}{x:Value}(h:zu0 ob c=some (v,us)) (hu:∀ y∈us,y∈u) (hc:clR g c x):Rep h' v x:=by
 unfold zu0 at h
 split at h
 ·simp at h;rw[<- h.1];exact (Rep.mono F.le hc).deN
 ·split at h
  ·rename_i L _x e s b n get hL
   simp at h;rw[<- h.1]
   rw[<- h.2] at hu
   obtain⟨rfl,_⟩:=hc
   exact F.vec L e _ b n get hL (hu _ (by simp))
  ·rename_i L _x s n get hL
   simp at h;rw[<- h.1]
   obtain⟨rfl,_⟩:=hc
   exact F.fvec L _ n get hL
  ·rename_i L _x te bb e s b n ln get hL
   simp only[dqa,dqh] at h;rw[<- h.1]
   rw[<- h.2] at hu
   obtain⟨rfl,_⟩:=hc
   exact F.vv L te bb e s b n ln get hL (hu _ (by simp))
  ·rename_i L _x te bb kt vt q n mk nn F' hL
   simp only[dqa,dqh] at h;rw[<- h.1]
   rw[<- h.2] at hu
   obtain⟨rfl,_⟩:=hc
   exact F.vm L te bb kt vt q n mk nn F' hL (hu _ (by simp))
  ·cases h
 ·split at h
  ·rename_i L _x kt vt q n F' hL
   simp only[dqa,dqh] at h;rw[<- h.1]
   rw[<- h.2] at hu
   simp only[clR] at hc;subst hc
   exact F.mo L kt vt q n F' hL (hu _ (by simp))
  ·cases h
 ·cases h
theorem Frozen.repL0 (F : Frozen g ob u h') : ∀ {cs : List Cl} {l : List PV} {us : Upd} {vs : List Value}, ze3 ob cs = some (l, us) → (∀ y ∈ us, y ∈ u) → RL (clR g) cs vs → RL (Rep h') l vs
  | [],l,us,vs,h,hu,hc=>by
    simp[ze3] at h;rw[h.1]
    cases vs with
    | nil=>trivial
    | cons=>exact hc.elim
  | c :: cs,l,us,[],h,hu,hc=>hc.elim
  | c :: cs,l,us,v :: vs,h,hu,hc=>by
    simp only[ze3] at h
    split at h
    · rename_i v1 u1 l2 u2 h1 h2
      simp at h;rw[<- h.1]
      rw[<- h.2] at hu
      exact⟨F.rep0 h1 (λ y hy=>hu y (dqg.2 (.inl hy))) hc.1,F.repL0 h2 (λ y hy=>hu y (dqg.2 (.inr hy))) hc.2⟩
    · cases h
theorem zwd {h : Fz} {b : Nat} {C : Array Value} {ty : TypeId} {fr : Nat × Nat} {l : List PV} (hb : h b = some (.fz (.cells C ty fr))) (hr : RL (Rep h) l C.toList) (off : Nat) :
    Rep h (.fp l off) (.pointer (some ⟨b,off,none⟩)):=by
  have := Rep.fp (h := h) l off b 0 C ty fr (fun j => C.getD j undef) hb
    (λ j x hj=>by
      obtain⟨v,hv,_⟩:=hr.get j x hj
      have hv':C[j]? = some v:=by simpa using hv
      simp[dql,hv'])
    (λ j x hj=>by
      obtain⟨v,hv,hx⟩:=hr.get j x hj
      have hv':C[j]? = some v:=by simpa using hv
      simpa [dql,hv'] using hx)
  simpa using this
theorem Frozen.repA (F:Frozen g ob u h'){c:Cl}{v:PV}{us:Upd}{x:Value}(h:zvV ob c=some (v,us)) (hu:∀ y∈us,y∈u) (hc:clR g c x):Rep h' v x:=by
 unfold zvV at h
 split at h
 ·split at h
  ·rename_i L off _x ty cells hL
   split at h
   ·rename_i l us' hl
    simp at h;rw[<- h.1]
    rw[<- h.2] at hu
    obtain⟨C,hC,hr⟩:=F.box L ty cells l us' hL hl (λ y hy=>hu y (dqg.2 (.inl hy))) (hu _ (by simp))
    simp only[clR] at hc
    rw[hc]
    exact zwd hC hr off
   ·cases h
  ·rename_i L off _x l hL
   simp at h;rw[<- h.1]
   obtain⟨C,ty,fr,hC,hr⟩:=F.fbox L l hL
   simp only[clR] at hc
   rw[hc]
   exact zwd hC hr off
  ·cases h
 ·exact F.rep0 h hu hc
theorem Frozen.repAL (F : Frozen g ob u h') : ∀ {cs : List Cl} {l : List PV} {us : Upd} {vs : List Value}, zjI ob cs = some (l, us) → (∀ y ∈ us, y ∈ u) → RL (clR g) cs vs → RL (Rep h') l vs
  | [],l,us,vs,h,hu,hc=>by
    simp[zjI] at h;rw[h.1]
    cases vs with
    | nil=>trivial
    | cons=>exact hc.elim
  | c :: cs,l,us,[],h,hu,hc=>hc.elim
  | c :: cs,l,us,v :: vs,h,hu,hc=>by
    simp only[zjI] at h
    split at h
    · rename_i v1 u1 l2 u2 h1 h2
      simp at h;rw[<- h.1]
      rw[<- h.2] at hu
      exact⟨F.repA h1 (λ y hy=>hu y (dqg.2 (.inl hy))) hc.1,F.repAL h2 (λ y hy=>hu y (dqg.2 (.inr hy))) hc.2⟩
    · cases h
theorem Frozen.rep (F:Frozen g ob u h'){c:Cl}{v:PV}{us:Upd}{x:Value}(h:frz ob c=some (v,us)) (hu:∀ y∈us,y∈u) (hc:clR g c x):Rep h' v x:=by
 unfold frz at h
 split at h
 ·rename_i f caps
  split at h
  ·rename_i l us' hl
   simp only[dqa,dqh] at h
   obtain⟨rfl,rfl⟩:=h
   obtain⟨cv,rfl,hr⟩:=hc
   have hr2:RL (clR g) (caps.map zJU) cv:=RL.map_left.2 (hr.mono λ c y hy=>by
    cases c with
    | v p=>exact hy
    | b L=>exact hy)
   have hl2:=F.repAL hl hu hr2
   exact .fn f [] l [] cv rfl hl2.length (λ i x y hx _=>by simp at hx) (λ i x y hx hy=>by obtain⟨v,hv,hr3⟩:=hl2.get i x hx;rw[hv] at hy;exact Option.some.inj hy ▸ hr3)
  ·cases h
 ·exact F.repA h hu hc
theorem Frozen.repL (F : Frozen g ob u h') : ∀ {cs : List Cl} {l : List PV} {us : Upd} {vs : List Value}, znm ob cs = some (l, us) → (∀ y ∈ us, y ∈ u) → RL (clR g) cs vs → RL (Rep h') l vs
  | [],l,us,vs,h,hu,hc=>by
    simp[znm] at h;rw[h.1]
    cases vs with
    | nil=>trivial
    | cons=>exact hc.elim
  | c :: cs,l,us,[],h,hu,hc=>hc.elim
  | c :: cs,l,us,v :: vs,h,hu,hc=>by
    simp only[znm] at h
    split at h
    · rename_i v1 u1 l2 u2 h1 h2
      simp at h;rw[<- h.1]
      rw[<- h.2] at hu
      exact⟨F.rep h1 (λ y hy=>hu y (dqg.2 (.inl hy))) hc.1,F.repL h2 (λ y hy=>hu y (dqg.2 (.inr hy))) hc.2⟩
    · cases h
theorem Frozen.repD (F:Frozen g ob u h'){d:DV}{v:PA}{us:Upd}{x:Value}(h:zq2 ob d=some (v,us)) (hu:∀ y∈us,y∈u) (hc:dvR g d x):paR h' v x:=by
 unfold zq2 at h
 split at h
 ·split at h
  ·rename_i v' u' h1
   simp at h;rw[<- h.1];rw[<- h.2] at hu
   exact F.rep h1 hu hc
  ·cases h
 ·split at h
  ·rename_i v' u' h1
   simp at h;rw[<- h.1];rw[<- h.2] at hu
   obtain⟨vs,rfl,hr⟩:=hc
   exact⟨vs,rfl,F.repL h1 hu hr⟩
  ·cases h
 ·cases h
theorem Frozen.repDs (F : Frozen g ob u h') : ∀ {ds : List DV} {l : List PA} {us : Upd} {vs : List Value}, zfC ob ds = some (l, us) → (∀ y ∈ us, y ∈ u) → RL (dvR g) ds vs → RL (paR h') l vs
  | [],l,us,vs,h,hu,hc=>by
    simp[zfC] at h;rw[h.1]
    cases vs with
    | nil=>trivial
    | cons=>exact hc.elim
  | c :: cs,l,us,[],h,hu,hc=>hc.elim
  | c :: cs,l,us,v :: vs,h,hu,hc=>by
    simp only[zfC] at h
    split at h
    · rename_i v1 u1 l2 u2 h1 h2
      simp at h;rw[<- h.1]
      rw[<- h.2] at hu
      exact⟨F.repD h1 (λ y hy=>hu y (dqg.2 (.inl hy))) hc.1,F.repDs h2 (λ y hy=>hu y (dqg.2 (.inr hy))) hc.2⟩
    · cases h
end

theorem zcP {α:Type}{l:List (Nat×α)}{n:Nat}{a:α}(h:lk l n=some a):(n,a)∈l:=by
 induction l with
 | nil=>simp[lk] at h
 | cons x l ih =>
  obtain⟨k,y⟩:=x
  rw[zay] at h
  split at h
  ·rename_i e;simp at h;subst h;subst e;exact dqj
  ·exact dqf _ (ih h)
theorem zrk {α:Type}{l:List (Nat×α)}{n:Nat}(h:lk l n=none):∀ a,(n,a) ∉ l:=by
 induction l with
 | nil=>intro a h;simp at h
 | cons x l ih =>
  obtain⟨k,y⟩:=x
  rw[zay] at h
  split at h
  ·cases h
  ·rename_i e
   intro a ha
   rcases dqq.1 ha with h1 | h1
   ·simp at h1;exact e h1.1.symm
   ·exact ih h a h1

theorem zFN {P : Program} {g : Gh} {w : World} {B L e s b n : Nat} {get : Nat → List PV} {h' : Fz} (hv : ztG P g w B L e s b n get) (hle : Fle g.h h')
    (hb:∀ k,(g.sv L).ownBlock=some k->h' k=(w.heap[k]?).map .fz):Rep h' (.sl n s get) (g.sv L):=by
  obtain⟨hs,_,xs,hx,hr⟩:=hv
  rcases hx.2 with ⟨h1,rfl⟩ | ⟨k,cap,cur,h1,hB,hg,hn,hcap,hsz,htk⟩
  · rw[h1];exact .sl0 s get
  · rw [h1] at hb ⊢
    have hk:=hb k rfl
    rw[hg] at hk
    simp only[Option.map_some] at hk
    have hlen:∀ i,i < n->(get i).length=s:=by
      intro i hi
      rw[(hr i hi).length]
      simp only[List.length_take,List.length_drop,hx.1]
      have:i * s+s<=n * s:=by have:=dqw s (Nat.succ_le_of_lt hi);rw[dqV] at this;exact this
      omega
    have hcell:∀ i j x,i < n->(get i)[j]? = some x->∃ v,cur[i * s+j]? = some v/\Rep g.h x v:=by
      intro i j x hi hj
      obtain⟨v,hv,hxv⟩:=(hr i hi).get j x hj
      refine⟨v,?_,hxv⟩
      have hjs:j < s:=by
        have:=(dqn.1 hj).1
        rw[hlen i hi] at this;exact this
      rw[dqs,if_pos hjs,dqI,<- htk,dqs] at hv
      split at hv
      · simpa using hv
      · cases hv
    refine .sl n s get k 0 cap cur e (0,0) (λ i j=>cur.getD (i * s+j) undef) hk hn hlen ?_ ?_
    · intro i j x hi hj
      obtain⟨v,hv,_⟩:=hcell i j x hi hj
      rw[Nat.zero_add,dql,hv];rfl
    · intro i j x hi hj
      obtain⟨v,hv,hxv⟩:=hcell i j x hi hj
      simp only[dql,hv,Option.getD_some]
      exact hxv.mono hle

theorem zgS {g : Gh} {w : World} {B e s n : Nat} {v : Value} {get : Nat → List PV} {h' : Fz} {xs : List Value} (hs : 0 < s) (hx : w.ownsRow B e s v n xs)
    (hr:∀ i,i < n->RL (Rep g.h) (get i) ((xs.drop (i * s)).take s)) (hle:Fle g.h h') (hb:∀ k,v.ownBlock=some k->h' k=(w.heap[k]?).map .fz):Rep h' (.sl n s get) v:=by
  rcases hx.2 with ⟨h1,rfl⟩ | ⟨k,cap,cur,h1,hB,hg,hn,hcap,hsz,htk⟩
  · rw[h1];exact .sl0 s get
  · rw [h1] at hb ⊢
    have hk:=hb k rfl
    rw[hg] at hk
    simp only[Option.map_some] at hk
    have hlen:∀ i,i < n->(get i).length=s:=by
      intro i hi
      rw[(hr i hi).length]
      simp only[List.length_take,List.length_drop,hx.1]
      have:i * s+s<=n * s:=by have:=dqw s (Nat.succ_le_of_lt hi);rw[dqV] at this;exact this
      omega
    have hcell:∀ i j x,i < n->(get i)[j]? = some x->∃ v,cur[i * s+j]? = some v/\Rep g.h x v:=by
      intro i j x hi hj
      obtain⟨v,hv,hxv⟩:=(hr i hi).get j x hj
      refine⟨v,?_,hxv⟩
      have hjs:j < s:=by
        have:=(dqn.1 hj).1
        rw[hlen i hi] at this;exact this
      rw[dqs,if_pos hjs,dqI,<- htk,dqs] at hv
      split at hv
      · simpa using hv
      · cases hv
    refine .sl n s get k 0 cap cur e (0,0) (λ i j=>cur.getD (i * s+j) undef) hk hn hlen ?_ ?_
    · intro i j x hi hj
      obtain⟨v,hv,_⟩:=hcell i j x hi hj
      rw[Nat.zero_add,dql,hv];rfl
    · intro i j x hi hj
      obtain⟨v,hv,hxv⟩:=hcell i j x hi hj
      simp only[dql,hv,Option.getD_some]
      exact hxv.mono hle

theorem zKm {P : Program} {g : Gh} {w : World} {B L te bb e s b n : Nat} {ln : Nat → Nat} {get : Nat → Nat → List PV} {h' : Fz} (hv : vvR P g w B L te bb e s b n ln get) (hle : Fle g.h h')
    (hb:∀ k,obk g L (.vv te bb e s b n ln get) k->h' k=(w.heap[k]?).map .fz):Rep h' (.sl n 1 (zve s ln get)) (g.sv L):=by
  obtain⟨hs,_,_,h4,h5,_⟩:=hv
  refine zgS (g:=⟨h',g.bk,g.sv,g.iv⟩) (by decide) h4 ?_ (λ _ _ h=>h) λ k hk=>hb k (.inl hk)
  intro i hi
  have e1:(((List.range n).map (g.iv L)).drop (i * 1)).take 1=[g.iv L i]:=by
    apply List.ext_getElem?
    intro j
    rw[dqs]
    cases j with
    | zero=>simp[hi]
    | succ j=>simp
  rw[e1]
  obtain⟨_,_,xs,hx,hr⟩:=h5 i hi
  exact⟨zgS hs hx hr hle λ k hk=>hb k (.inr ⟨i,hi,hk⟩),trivial⟩

theorem zwe {h':Fz}{w:World}{q:MQ}{n b:Nat}{F:List Int->Option (List Int)}{es:Array MapEntry}{clock:Nat}(hh:w.heap[b]? = some (.map es clock)) (hm:moE q n F es clock) (hb:h' b=(w.heap[b]?).map .fz):Rep h' (.fm q n F) (.map (some b)):=by
 rw[hh] at hb
 exact .fm q n F b es clock hb hm
theorem zKn {P : Program} {g : Gh} {w : World} {B L te bb kt vt : Nat} {q : MQ} {n : Nat} {mk : Nat → Bool} {nn : Nat → Nat} {F : Nat → List Int → Option (List Int)} {h' : Fz} (hv : vmR P g w B L te bb kt vt q n mk nn F)
    (hb:∀ k,obk g L (.vm te bb kt vt q n mk nn F) k->h' k=(w.heap[k]?).map .fz):Rep h' (.sl n 1 (zvf q nn F)) (g.sv L):=by
  obtain⟨_,_,h4,h5,_⟩:=hv
  refine zgS (g:=⟨h',g.bk,g.sv,g.iv⟩) (by decide) h4 ?_ (λ _ _ h=>h) λ k hk=>hb k (.inl hk)
  intro i hi
  have e1:(((List.range n).map (g.iv L)).drop (i * 1)).take 1=[g.iv L i]:=by
    apply List.ext_getElem?
    intro j
    rw[dqs]
    cases j with
    | zero=>simp[hi]
    | succ j=>simp
  rw[e1]
  refine⟨?_,trivial⟩
  cases hm:mk i with
  | true =>
    obtain⟨b,es,clock,e2,e3,e4⟩:=(h5 i hi).1 hm
    rw[e2]
    exact zwe e3 e4 (hb b (.inr ⟨i,hi,e2⟩))
  | false =>
    obtain⟨e2,e3,e4⟩:=(h5 i hi).2 hm
    rw[e2,e3]
    exact .fmn q (F i) e4

open Classical in
theorem Sim.freeze {P : Program} {nt B : Nat} {w0 : World} {h0 : Fz} {g : Gh} {σ : St} {a : Act} {w : World} (S : Sim P nt B w0 h0 g σ a w) {u : Upd} (hu : zei (lk σ.objs) u) :
  ∃ h',Sim P nt B w0 h0 ⟨h',g.bk,g.sv,g.iv⟩ { σ with objs:=u ++ σ.objs } a w/\Frozen g (lk σ.objs) u h':=by
 let inU:Nat->Prop:=λ b=>∃ L o o',(L,o')∈u/\lk σ.objs L=some o/\obk g L o b
 let h':Fz:=λ b=>if inU b then (w.heap[b]?).map .fz else g.h b
 have hle:Fle g.h h':=by
  intro b o hb
  show (if inU b then (w.heap[b]?).map .fz else g.h b)=some o
  split
  ·rename_i h
   obtain⟨L,x,o',_,hL,hob⟩:=h
   rw[(S.own L x b hL hob).2] at hb;cases hb
  ·exact hb
 have hin:∀ b,inU b->h' b=(w.heap[b]?).map .fz:=λ b hb=>if_pos hb
 have hout:∀ b,¬ inU b->h' b=g.h b:=λ b hb=>if_neg hb
 have F1:∀ L e s b n get,lk σ.objs L=some (.vec e s b n get)->(L,AO.fvec s n get)∈u->Rep h' (.sl n s get) (g.sv L):=by
  intro L e s b n get hL hm
  exact zFN (S.obj L _ hL) hle λ k hk=>hin k ⟨L,_,_,hm,hL,hk⟩
 have F3:∀ L te bb e s b n ln get,lk σ.objs L=some (.vv te bb e s b n ln get)->(L,AO.fvec 1 n (zve s ln get))∈u->Rep h' (.sl n 1 (zve s ln get)) (g.sv L):=by
  intro L te bb e s b n ln get hL hm
  exact zKm (S.obj L _ hL) hle λ k hk=>hin k ⟨L,_,_,hm,hL,hk⟩
 have F4:∀ L te bb kt vt q n mk nn F,lk σ.objs L=some (.vm te bb kt vt q n mk nn F)->(L,AO.fvec 1 n (zvf q nn F))∈u->Rep h' (.sl n 1 (zvf q nn F)) (g.sv L):=by
  intro L te bb kt vt q n mk nn F hL hm
  exact zKn (S.obj L _ hL) λ k hk=>hin k ⟨L,_,_,hm,hL,hk⟩
 have F5:∀ L kt vt q n F,lk σ.objs L=some (.mo kt vt q n F)->(L,AO.gone)∈u->Rep h' (.fm q n F) (.map (some (zdV (g.sv L)))):=by
  intro L kt vt q n F hL hm
  obtain⟨es,clock,e1,_,e2⟩:=S.obj L _ hL
  exact zwe e1 e2 (hin _ ⟨L,_,_,hm,hL,rfl⟩)
 have F2:∀ L s n get,lk σ.objs L=some (.fvec s n get)->Rep h' (.sl n s get) (g.sv L):=λ L s n get hL=>Rep.mono hle (S.obj L _ hL).1
 have F0:Frozen g (lk σ.objs) u h':=by
  have Fpre:∀ {cs:List Cl} {l:List PV} {us:Upd} {vs:List Value},ze3 (lk σ.objs) cs=some (l,us)->(∀ y∈us,y∈u)->RL (clR g) cs vs->RL (Rep h') l vs:=by
   intro cs
   induction cs with
   | nil =>
    intro l us vs h _ hc
    simp[ze3] at h;rw[h.1]
    cases vs with
    | nil=>trivial
    | cons=>exact hc.elim
   | cons c cs ih =>
    intro l us vs h hus hc
    cases vs with
    | nil=>exact hc.elim
    | cons v vs =>
     simp only[ze3] at h
     split at h
     ·rename_i v1 u1 l2 u2 h1 h2
      simp at h;rw[<- h.1];rw[<- h.2] at hus
      refine⟨?_,ih h2 (λ y hy=>hus y (dqg.2 (.inr hy))) hc.2⟩
      have hu1:∀ y∈u1,y∈u:=λ y hy=>hus y (dqg.2 (.inl hy))
      have hc1:=hc.1
      unfold zu0 at h1
      split at h1
      ·simp at h1;rw[<- h1.1];exact (Rep.mono hle hc1).deN
      ·split at h1
       ·rename_i L _x e s b n get hL
        simp at h1;rw[<- h1.1];rw[<- h1.2] at hu1
        obtain⟨rfl,_⟩:=hc1
        exact F1 L e _ b n get hL (hu1 _ (by simp))
       ·rename_i L _x s n get hL
        simp at h1;rw[<- h1.1]
        obtain⟨rfl,_⟩:=hc1
        exact F2 L _ n get hL
       ·rename_i L _x te bb e s b n ln get hL
        simp only[dqa,dqh] at h1;rw[<- h1.1];rw[<- h1.2] at hu1
        obtain⟨rfl,_⟩:=hc1
        exact F3 L te bb e s b n ln get hL (hu1 _ (by simp))
       ·rename_i L _x te bb kt vt q n mk nn F' hL
        simp only[dqa,dqh] at h1;rw[<- h1.1];rw[<- h1.2] at hu1
        obtain⟨rfl,_⟩:=hc1
        exact F4 L te bb kt vt q n mk nn F' hL (hu1 _ (by simp))
       ·cases h1
      ·split at h1
       ·rename_i L _x kt vt q n F' hL
        simp only[dqa,dqh] at h1;rw[<- h1.1];rw[<- h1.2] at hu1
        simp only[clR] at hc1;subst hc1
        exact F5 L kt vt q n F' hL (hu1 _ (by simp))
       ·cases h1
      ·cases h1
     ·cases h
  have Finv:∀ k Fn,h' k=some (.inv Fn)->g.h k=some (.inv Fn):=by
   intro k Fn hk
   by_cases hi:inU k
   ·rw [hin k hi] at hk
    cases hw:w.heap[k]? with
    | none=>rw[hw] at hk;cases hk
    | some x=>rw[hw] at hk;cases hk
   ·rw[hout k hi] at hk;exact hk
  refine⟨hle,Finv,F1,F2,F3,F4,F5,?_,?_,λ b hb o ho=>?_⟩
  rotate_left 2
  ·by_cases h : inU b
   ·obtain ⟨L, x, o', h1, h2, h3⟩ := h
    exact⟨L,x,o',h1,h2,h3⟩
   ·rw[hout b h,hb] at ho;cases ho
  ·intro L ty cells l us hL hl hus hm
   obtain⟨C,hC,hr⟩:=S.obj L _ hL
   refine⟨C,?_,Fpre hl hus hr⟩
   rw[hin (g.bk L) ⟨L,_,_,hm,hL,rfl⟩,hC];rfl
  ·intro L l hL
   obtain⟨C,ty,fr,hC,hr⟩:=S.obj L _ hL
   exact⟨C,ty,fr,hle _ _ hC,hr.mono λ _ _=>Rep.mono hle⟩
 refine⟨h',?_,F0⟩
 have hlk:∀ L o,lk (u ++ σ.objs) L=some o->((L,o)∈u)\/((∀ o',(L,o') ∉ u)/\lk σ.objs L=some o):=by
  intro L o h
  rw[zdm] at h
  cases hL:lk u L with
  | some x=>simp only[hL] at h;simp at h;subst h;exact .inl (zcP hL)
  | none=>simp only[hL] at h;exact .inr ⟨zrk hL,h⟩
 have hfr:∀ L o b,(L,o)∈u->¬ obk (⟨h',g.bk,g.sv,g.iv⟩:Gh) L o b:=by
  intro L o b h
  rcases hu _ h with ⟨e,s,b,n,get,_,h2⟩ | ⟨ty,cells,l,us,_,h2,_⟩ | ⟨te,bb,e,s,b,n,ln,get,_,h2⟩ | ⟨te,bb,kt,vt,q,n,mk,nn,F,_,h2⟩ | ⟨kt,vt,q,n,F,_,h2⟩ <;> (simp only at h2;rw[h2];exact id)
 have hobkb:∀ L o,obk (⟨h',g.bk,g.sv,g.iv⟩:Gh) L o=obk g L o:=λ L o=>zbK (g:=g) (g':=⟨h',g.bk,g.sv,g.iv⟩) ⟨rfl,rfl,rfl⟩
 have hdom:∀ L o,lk σ.objs L=some o->∃ o',lk (u ++ σ.objs) L=some o':=by
  intro L o h
  rw[zdm]
  cases lk u L with
  | some x=>exact⟨x,rfl⟩
  | none=>exact⟨o,h⟩
 refine S.change (g':=⟨h',g.bk,g.sv,g.iv⟩) (λ _ _ _=>⟨rfl,rfl,rfl⟩) hle ?_ ?_ (.refl _ B w) ?_ ?_ ?_ hdom ?_
 ·intro b o hb
  have hb':h' b=some o:=hb
  by_cases h:inU b
  ·rw [hin b h] at hb'
   obtain⟨x,hx,rfl⟩:=dqv.1 hb'
   exact⟨x,hx,rfl⟩
  ·rw[hout b h] at hb';exact S.hw b o hb'
 ·intro b o hb
  by_cases h:inU b
  ·obtain ⟨L, x, o', hm, hL, hob⟩ := h
   exact .inr (S.own L x b hL hob).1
  ·have hb' : h' b = some o := hb
   rw[hout b h] at hb';exact .inl hb'
 ·intro L o ho
  rcases hlk L o ho with hm | ⟨hn,ho⟩
  ·rcases hu _ hm with ⟨e, s, b, n, get, h1, h2⟩ | ⟨ty, cells, l, us, h1, h2, h3, h4⟩ | ⟨te, bb, e, s, b, n, ln, get, h1, h2⟩ | ⟨te, bb, kt, vt, q, n, mk, nn, F, h1, h2⟩ | ⟨kt, vt, q, n, F, h1, h2⟩
   ·simp only at h1 h2; rw [h2]; rw [h2] at hm
    refine⟨F0.vec L e s b n get h1 hm,?_⟩
    obtain⟨_,_,xs,hx,_⟩:=S.obj L _ h1
    intro x m c hv
    show x.off=0
    have hv':g.sv L=.slice (some x) m c:=hv
    rcases hx.2 with ⟨h5,_⟩ | ⟨k,cap,cur,h5,_⟩
    ·rw[h5] at hv';simp at hv'
    ·rw[h5] at hv';simp at hv';rw[<- hv'.1]
   ·simp only at h1 h2; rw [h2]; rw [h2] at hm
    obtain⟨C,hC,hr⟩:=F0.box L ty cells l us h1 h3 h4 hm
    exact⟨C,ty,(0,0),hC,hr⟩
   ·simp only at h1 h2; rw [h2]; rw [h2] at hm
    refine⟨F0.vv L te bb e s b n ln get h1 hm,?_⟩
    obtain⟨_,_,_,hx,_⟩:=S.obj L _ h1
    intro x m c hv
    show x.off=0
    have hv':g.sv L=.slice (some x) m c:=hv
    rcases hx.2 with ⟨h5,_⟩ | ⟨k,cap,cur,h5,_⟩
    ·rw[h5] at hv';simp at hv'
    ·rw[h5] at hv';simp at hv';rw[<- hv'.1]
   ·simp only at h1 h2; rw [h2]; rw [h2] at hm
    refine⟨F0.vm L te bb kt vt q n mk nn F h1 hm,?_⟩
    obtain⟨_,_,hx,_⟩:=S.obj L _ h1
    intro x m c hv
    show x.off=0
    have hv':g.sv L=.slice (some x) m c:=hv
    rcases hx.2 with ⟨h5,_⟩ | ⟨k,cap,cur,h5,_⟩
    ·rw[h5] at hv';simp at hv'
    ·rw[h5] at hv';simp at hv';rw[<- hv'.1]
   ·simp only at h1 h2;rw[h2];trivial
  ·exact zcV (S.obj L o ho) ⟨rfl,rfl,rfl⟩ (λ _ _=>⟨rfl,rfl,rfl⟩) hle λ _ _=>rfl
 ·intro L o b ho hob
  rcases hlk L o ho with hm | ⟨hn,ho⟩
  ·exact (hfr L o _ hm hob).elim
  ·rw [hobkb] at hob
   obtain⟨h1,h2⟩:=S.own L o b ho hob
   refine⟨h1,?_⟩
   show h' b=none
   rw[hout b ?_];exact h2
   rintro⟨M,x,o',hm,hM,hob'⟩
   have:=S.sep L o b M x ho hM hob hob'
   subst this
   exact hn o' hm
 ·intro L o b L' o' ho ho' hob hob'
  rcases hlk L o ho with hm | ⟨_,ho2⟩
  ·exact (hfr L o _ hm hob).elim
  rcases hlk L' o' ho' with hm | ⟨_,ho2'⟩
  ·exact (hfr L' o' _ hm hob').elim
  rw[hobkb] at hob hob'
  exact S.sep L o b L' o' ho2 ho2' hob hob'
 ·intro L o ho M hM
  rcases hlk L o ho with hm | ⟨_,ho2⟩
  ·rcases hu _ hm with ⟨e,s,b,n,get,_,h2⟩ | ⟨ty,cells,l,us,_,h2,_⟩ | ⟨te,bb,e,s,b,n,ln,get,_,h2⟩ | ⟨te,bb,kt,vt,q,n,mk,nn,F,_,h2⟩ | ⟨kt,vt,q,n,F,_,h2⟩ <;> (simp only at h2;rw[h2] at hM;simp[zb8] at hM)
  ·obtain⟨x,hx⟩:=S.clO L o ho2 M hM;exact hdom M x hx
end Go.Pm
namespace Go.Pm
variable [DrawZ]
open Go.RowKit (Below)

def OpAct.safe : OpAct → Prop
  | .no=>False
  | .val _ _ _ _=>True
  | .chk _ s _ _ _=>s
  | .rel _ _ ρ s post _=>s/\∃ x:ρ,post x
  | .alt _ _ b s1 _ s2 _=>(b=true->s1)/\(b=false->s2)

theorem dq9 {A:OpAct}{C:Prop}(h:OpAct.no=A) (s:A.safe):C:=by subst h;exact s.elim
def zfL (A:OpAct) (i:Nat) (dst:Option Nat) (σ σ':St):Prop :=
 match A with
 | .no=>False
 | .val fp d u kl=>σ'=σ.upd i dst fp d u kl
 | .chk fp _ d u kl=>σ'=σ.upd i dst fp d u kl
 | .rel fp u ρ _ post d=>∃ x:ρ,post x/\σ'=σ.upd i dst fp (d x) u []
 | .alt fp u b _ d1 _ d2=>(b=true/\σ'=σ.upd i dst fp d1 u [])\/(b=false/\σ'=σ.upd i dst fp d2 u [])

theorem zma {A : OpAct} {lg : List (Nat × Bool) → List Nat → List (Nat × Nat × Nat)} {i : Nat} {dst : Option Nat} {K : St → Prop} {σ : St} :
  zgQ A lg i dst K σ↔A.safe/\∀ σ',zfL A i dst σ σ'->K (σ'.relog (match A with | .val fp _ _ kl=>lg fp kl | .chk fp _ _ _ kl=>lg fp kl | .rel fp _ _ _ _ _=>lg fp [] | .alt fp _ _ _ _ _ _=>lg fp [] | .no=>[])):=by
 cases A with
 | no=>simp[zgQ,OpAct.safe]
 | val fp d u kl=>simp[zgQ,OpAct.safe,zfL]
 | chk fp s d u kl=>simp[zgQ,OpAct.safe,zfL]
 | rel fp u ρ s post d =>
  simp only[zgQ,OpAct.safe,zfL]
  constructor
  ·rintro ⟨h1, h2, h3⟩
   exact⟨⟨h1,h2⟩,λ σ' ⟨x,hx,e⟩=>e ▸ h3 x hx⟩
  ·rintro ⟨⟨h1, h2⟩, h3⟩
   exact⟨h1,h2,λ x hx=>h3 _ ⟨x,hx,rfl⟩⟩
 | alt fp u b s1 d1 s2 d2 =>
  cases b <;> simp[zgQ,OpAct.safe,zfL,zcJ]

def FR (r:Option Nat):Fence:={ fn:=λ _=>True,depth:=none,alive:=false,round:=r }

theorem ztO {r:Option Nat}{n:Nat}{P:Program}{f:FuncId}{args:Array Value}{w:World}{R:Ending->World->Prop}(h:Calls P f args w R):CallsIn (FR r) n P f args w R :=
 (callsIn_wide (n:=n)).2 h

section
variable {P:Program}{r:Option Nat}{n:Nat}{o:Oper}{a:Act}{w:World}{R:Act->World->Prop}{Q:Exit->Act->World->Prop}
theorem put_defers (a:Act) (dst:Option Nat) (v:Value):(a.put dst v).defers=a.defers:=by cases dst <;> rfl
theorem zem (hnd:∀ c,o.op ≠ .defer c){v:Value}{w':World}(h:(execOp a.eval o).run P w=.ok (.value v) w') (hR:R (a.put o.dst v) w'):o.wpIn (FR r) n P a w (λ a' w'=>a'.defers=a.defers/\R a' w') Q:=by
 refine⟨λ _ _=>trivial,?_⟩
 rw[Oper.semAt_eq _ _ _ hnd,h,Oper.uponIn_value];exact⟨put_defers _ _ _,hR⟩
theorem zgk (hnd:∀ c,o.op ≠ .defer c){w':World}(h:(execOp a.eval o).run P w=.ok .skip w') (hR:R (a.put o.dst undef) w'):o.wpIn (FR r) n P a w (λ a' w'=>a'.defers=a.defers/\R a' w') Q:=by
 refine⟨λ _ _=>trivial,?_⟩
 rw[Oper.semAt_eq _ _ _ hnd,h,Oper.uponIn_skip];exact⟨put_defers _ _ _,hR⟩
theorem zen (hnd : ∀ c, o.op ≠ .defer c) {f : FuncId} {args : Array Value} {w' : World} (h : (execOp a.eval o).run P w = .ok (.enter f args) w')
    (hR:Calls P f args w' λ e w''=>∃ v,e=.returned v/\R (a.put o.dst v) w''):o.wpIn (FR r) n P a w (λ a' w'=>a'.defers=a.defers/\R a' w') Q:=by
  refine⟨λ _ _=>trivial,?_⟩
  rw[Oper.semAt_eq _ _ _ hnd,h,Oper.uponIn_enter]
  refine⟨λ h=>by simp[FR] at h,(ztO hR).mono ?_⟩
  rintro e w'' ⟨v,rfl,hv⟩
  exact⟨put_defers _ _ _,hv⟩
end

section
variable {P:Program}{nt B:Nat}{w0:World}{h0:Fz}{g:Gh}{σ:St}{a:Act}{w:World}

theorem zwf {v:Value} : dvR g (zuZ v) v:=by
 unfold zuZ
 split
 ·split
  ·rename_i l hl;exact⟨_,rfl,ze4 _ _ hl⟩
  ·trivial
 ·split
  ·rename_i x hx;exact znC hx
  ·trivial

theorem Sim.ev (S:Sim P nt B w0 h0 g σ a w) (x:Operand):dvR g (evO σ.env x) (a.eval x):=by
 cases x with
 | tmp t =>
  simp only[evO]
  split
  ·rename_i d hd;exact S.env t d hd
  ·trivial
 | const v=>exact zwf
 | global k =>
  simp only[evO]
  split
  ·rename_i l hl
   obtain⟨C,ty,fr,h1,h2⟩:=S.gl k l hl
   exact zwd (S.le0 _ _ h1) (h2.mono λ _ _ r=>r.mono S.le0) 0
  ·trivial
 | func f=>exact Rep.fn f [] [] [] [] rfl rfl (λ j x v h=>by simp at h) (λ j x v h=>by simp at h)

theorem zir : ∀ {l : List Value} {cs : List Cl}, zdt l = some cs → cs.flatMap zaE = []
  | [],cs,h=>by simp[zdt] at h;rw[h];rfl
  | v :: r,cs,h=>by
    simp only[zdt] at h
    split at h
    · rename_i x l hx hl
      simp only[dqa] at h;rw[<- h]
      simp[zaE,zir hl]
    · cases h

theorem zwg {v:Value} : zbf (zuZ v)=[]:=by
 unfold zuZ
 split
 ·split
  ·rename_i l hl;exact zir hl
  ·rfl
 ·split
  ·rfl
  ·rfl

theorem Sim.evLab (S:Sim P nt B w0 h0 g σ a w) (x:Operand):∀ L∈zbf (evO σ.env x),∃ o,lk σ.objs L=some o:=by
 cases x with
 | tmp t =>
  simp only[evO]
  split
  ·rename_i d hd;exact S.clE t d hd
  ·intro L hL;simp[zbf,zbN,zaE] at hL
 | const v=>intro L hL;rw[show evO σ.env (.const v)=zuZ v from rfl,zwg] at hL;simp at hL
 | global k=>intro L hL;simp only[evO] at hL;split at hL <;> simp[DV.junk,zbf,zbN,zaE] at hL
 | func f=>intro L hL;simp[evO,zbf,zbN,zaE] at hL

theorem zaX {r : Option Nat} {n i : Nat} {o : Oper} {Q : Exit → Act → World → Prop} (S : Sim P nt B w0 h0 g σ a w) (hd : zck nt o.dst = true) (hnd : ∀ c, o.op ≠ .defer c)
    {d:DV} {v:Value} {fp:List (Nat×Bool)} {A:OpAct} (hA:zfL A i o.dst σ (σ.upd i o.dst fp d [] []))
    (h:(execOp a.eval o).run P w=.ok (.value v) w) (hv:dvR g d v) (hl:∀ L∈zbf d,∃ o,lk σ.objs L=some o) :
    o.wpIn (FR r) n P a w (λ a' w'=>a'.defers=a.defers/\∃ g' σ',zfL A i o.dst σ σ'/\Sim P nt B w0 h0 g' σ' a' w') Q :=
  zem hnd h ⟨g,_,hA,by rw[zbi];exact S.put hd hv hl _⟩

theorem zd1 (v:PV):∀ L∈zbf (.p v),∃ o,lk σ.objs L=some o:=λ L hL=>by simp[zbf,zbN,zaE] at hL

theorem ztP {t : TypeId} {ag : Bool} {m b off : Nat} {C : Array Value} {ty : TypeId} {fr : Nat × Nat} {cells : List Cl} {d : D1} (hg : zfx P t = some ag) (hs : szT P t = some m)
    (hb:w.heap[b]? = some (.cells C ty fr)) (o:Nat) (hc:∀ (j:Nat) (x:Cl),cells[j]? = some x->∃ v,C[o+j]? = some v/\clR g x v) (hr:ziA ag m cells off=some d) :
    ∃ v,(loadVar t ⟨b,o+off,none⟩).run P w=.ok v w/\d1R g d v:=by
  cases ag with
  | true =>
    simp only[ziA] at hr
    split at hr
    · rename_i hlen
      have hlen:=dqc hlen
      simp only[dqa] at hr;subst hr
      let l:=(cells.drop off).take m
      have hll:l.length=m:=hlen
      have key:∀ (j:Nat) (x:Cl),l[j]? = some x->∃ v,C[o+off+j]? = some v/\clR g x v:=by
        intro j x hj
        have hj':cells[off+j]? = some x:=by
          have hjm:j < m:=by have:=(dqn.1 hj).1;omega
          simp only[l,dqs,if_pos hjm,dqI] at hj;exact hj
        obtain⟨v,hv,hx⟩:=hc (off+j) x hj'
        exact⟨v,by rw[Nat.add_assoc];exact hv,hx⟩
      let vs:=(List.range m).map λ j=>C.getD (o+off+j) undef
      have hvl:vs.length=m:=by simp[vs]
      have hvj:∀ j,j < m->vs[j]? = some (C.getD (o+off+j) undef):=λ j hj=>by simp[vs,hj]
      refine⟨.agg vs.toArray,zl7 hg hs hb vs hvl ?_,vs,rfl,?_⟩
      · intro j v hj
        have hjm:j < m:=by have:=(dqn.1 hj).1;omega
        rw[hvj j hjm] at hj
        simp only[dqa] at hj
        obtain⟨u,hu,_⟩:=key j (l[j]'(by omega)) (by simp[hll,hjm])
        rw[<- hj,hu,dql,hu];rfl
      · refine RL.of_get (by rw [hvl]; exact hll) ?_
        intro j x v hx hv
        obtain⟨u,hu,hxu⟩:=key j x hx
        have hjm:j < m:=by have:=(dqn.1 hv).1;omega
        rw[hvj j hjm,dql,hu] at hv
        simp at hv;rw[<- hv];exact hxu
    · cases hr
  | false =>
    simp only[ziA] at hr
    split at hr
    · rename_i x hx
      simp only[dqa] at hr;subst hr
      obtain⟨v,hv,hxv⟩:=hc off x hx
      exact⟨v,zfK hg hb v hv,hxv⟩
    · cases hr

theorem zlI {ag:Bool}{m off:Nat}{cells:List Cl}{d:D1}(hr:ziA ag m cells off=some d):∀ L∈zbN d,L∈cells.flatMap zaE:=by
 cases ag with
 | true =>
  simp only[ziA] at hr
  split at hr
  ·simp only [dqa] at hr; subst hr
   intro L hL
   simp only[zbN,dqo] at hL ⊢
   obtain⟨c,hc,hL⟩:=hL
   exact⟨c,List.mem_of_mem_drop (List.mem_of_mem_take hc),hL⟩
  ·cases hr
 | false =>
  simp only[ziA] at hr
  split at hr
  ·rename_i x hx
   simp only[dqa] at hr;subst hr
   intro L hL
   simp only[zbN] at hL
   exact dqo.2 ⟨x,dqx hx,hL⟩
  ·cases hr

theorem zdp (cells:List PV):(cells.map Cl.p).flatMap zaE=[]:=by
 induction cells with
 | nil=>rfl
 | cons c r ih=>simp[zaE,ih]

theorem zlc {h:Fz}{cells:List PV}{off:Nat}{v:Value}(r:Rep h (.fp cells off) v):∃ b o C ty fr,v=.pointer (some ⟨b,o+off,none⟩)/\h b=some (.fz (.cells C ty fr)) /\
  ∀ (j:Nat) (x:PV),cells[j]? = some x->∃ v,C[o+j]? = some v/\Rep h x v:=by
 cases r with
 | fp _ _ b o C ty fr vs hb hc hr=>exact⟨b,o,C,ty,fr,rfl,hb,λ j x hj=>⟨vs j,hc j x hj,hr j x hj⟩⟩

theorem zf5 {B L e s b len : Nat} {get : Nat → List PV} (hv : ztG P g w B L e s b len get) {i : Nat} (hi : i < len) :
  ∃ k C,(g.sv L).ownBlock=some k/\(∃ cap,g.sv L=.slice (some ⟨k,0,none⟩) len cap)/\w.heap[k]? = some (.cells C e (0,0))/\i * s+s<=C.size/\(get i).length=s /\
   ∀ (j:Nat) (x:PV),(get i)[j]? = some x->∃ v,C[i * s+j]? = some v/\Rep g.h x v:=by
 obtain⟨hs,_,xs,hx,hr⟩:=hv
 rcases hx.2 with ⟨_,rfl⟩ | ⟨k,cap,cur,h1,hB,hg,hn,hcap,hsz,htk⟩
 ·exact absurd hi (by omega)
 ·have hle : i * s + s ≤ len * s := by have := dqw s (Nat.succ_le_of_lt hi); rw [dqV] at this; exact this
  have hle2:len * s<=cap * s:=dqw s hn
  have hlen:(get i).length=s:=by
   rw[(hr i hi).length]
   simp only[List.length_take,List.length_drop,hx.1]
   omega
  refine⟨k,cur,by rw[h1];rfl,⟨cap,h1⟩,hg,by omega,hlen,?_⟩
  intro j x hj
  obtain⟨v,hv,hxv⟩:=(hr i hi).get j x hj
  refine⟨v,?_,hxv⟩
  have hjs:j < s:=by have:=(dqn.1 hj).1;rw[hlen] at this;exact this
  rw[dqs,if_pos hjs,dqI,<- htk,dqs] at hv
  split at hv
  ·simpa using hv
  ·cases hv

theorem zCK {B e s len : Nat} {v : Value} {get : Nat → List PV} {xs : List Value} (hx : w.ownsRow B e s v len xs) (hr : ∀ i, i < len → RL (Rep g.h) (get i) ((xs.drop (i * s)).take s)) {i : Nat} (hi : i < len) :
  ∃ k C,v.ownBlock=some k/\(∃ cap,v=.slice (some ⟨k,0,none⟩) len cap)/\w.heap[k]? = some (.cells C e (0,0))/\i * s+s<=C.size/\(get i).length=s /\
   ∀ (j:Nat) (x:PV),(get i)[j]? = some x->∃ v,C[i * s+j]? = some v/\Rep g.h x v:=by
 rcases hx.2 with ⟨_,rfl⟩ | ⟨k,cap,cur,h1,hB,hg,hn,hcap,hsz,htk⟩
 ·exact absurd hi (by omega)
 ·have hle : i * s + s ≤ len * s := by have := dqw s (Nat.succ_le_of_lt hi); rw [dqV] at this; exact this
  have hle2:len * s<=cap * s:=dqw s hn
  have hlen:(get i).length=s:=by
   rw[(hr i hi).length]
   simp only[List.length_take,List.length_drop,hx.1]
   omega
  refine⟨k,cur,by rw[h1];rfl,⟨cap,h1⟩,hg,by omega,hlen,?_⟩
  intro j x hj
  obtain⟨v,hv,hxv⟩:=(hr i hi).get j x hj
  refine⟨v,?_,hxv⟩
  have hjs:j < s:=by have:=(dqn.1 hj).1;rw[hlen] at this;exact this
  rw[dqs,if_pos hjs,dqI,<- htk,dqs] at hv
  split at hv
  ·simpa using hv
  ·cases hv

theorem zoB {B L te bb e s b n : Nat} {ln : Nat → Nat} {get : Nat → Nat → List PV} (hv : vvR P g w B L te bb e s b n ln get) {i : Nat} (hi : i < n) :
  ∃ k C cap,g.sv L=.slice (some ⟨k,0,none⟩) n cap/\w.heap[k]? = some (.cells C te (0,0))/\C[i]? = some (g.iv L i)/\(g.iv L i).oneCell'=true:=by
 obtain⟨_,_,_,h4,h5,_⟩:=hv
 rcases h4.2 with ⟨h1,h2⟩ | ⟨k,cap,cur,h1,hB,hg,hn,hcap,hsz,htk⟩
 ·omega
 ·refine ⟨k, cur, cap, h1, hg, ?_, (h5 i hi).1⟩
  have:(cur.toList.take (n * 1))[i]? = ((List.range n).map (g.iv L))[i]?:=by rw[htk]
  rw[dqs,if_pos (by omega)] at this
  simpa [hi] using this
theorem zoC {B L te bb kt vt : Nat} {q : MQ} {n : Nat} {mk : Nat → Bool} {nn : Nat → Nat} {F : Nat → List Int → Option (List Int)} (hv : vmR P g w B L te bb kt vt q n mk nn F) {i : Nat} (hi : i < n) :
  ∃ k C cap,g.sv L=.slice (some ⟨k,0,none⟩) n cap/\w.heap[k]? = some (.cells C te (0,0))/\C[i]? = some (g.iv L i)/\(g.iv L i).oneCell'=true/\i < C.size/\B<=k:=by
 obtain⟨_,_,h4,h5,_⟩:=hv
 rcases h4.2 with ⟨h1,h2⟩ | ⟨k,cap,cur,h1,hB,hg,hn,hcap,hsz,htk⟩
 ·omega
 ·have hone:(g.iv L i).oneCell'=true:=by
   cases hm:mk i with
   | true=>obtain⟨b,_,_,e,_⟩:=(h5 i hi).1 hm;rw[e];rfl
   | false=>rw[((h5 i hi).2 hm).1];rfl
  refine⟨k,cur,cap,h1,hg,?_,hone,by omega,hB⟩
  have:(cur.toList.take (n * 1))[i]? = ((List.range n).map (g.iv L))[i]?:=by rw[htk]
  rw[dqs,if_pos (by omega)] at this
  simpa [hi] using this
theorem zoD {B L te bb e s b n : Nat} {ln : Nat → Nat} {get : Nat → Nat → List PV} (hv : vvR P g w B L te bb e s b n ln get) {i j : Nat} (hi : i < n) (hj : j < ln i) :
  ∃ k C,(g.iv L i).ownBlock=some k/\(∃ cap,g.iv L i=.slice (some ⟨k,0,none⟩) (ln i) cap)/\w.heap[k]? = some (.cells C e (0,0))/\j * s+s<=C.size/\(get i j).length=s /\
   ∀ (q:Nat) (x:PV),(get i j)[q]? = some x->∃ v,C[j * s+q]? = some v/\Rep g.h x v:=by
 obtain⟨_,_,_,_,h5,_⟩:=hv
 obtain⟨_,_,xs,hx,hr⟩:=h5 i hi
 exact zCK hx hr hj

theorem zrl {h : Fz} {len s : Nat} {get : Nat → List PV} {v : Value} (r : Rep h (.sl len s get) v) {i : Nat} (hi : i < len) :
  ∃ b o cap C ty fr,v=.slice (some ⟨b,o,none⟩) len cap/\h b=some (.fz (.cells C ty fr))/\(get i).length=s /\
   ∀ (j:Nat) (x:PV),(get i)[j]? = some x->∃ v,C[o+i * s+j]? = some v/\Rep h x v:=by
 cases r with
 | sl0=>exact absurd hi (by omega)
 | sle=>exact absurd hi (by omega)
 | sl _ _ _ b o cap C ty fr vs hb hcap hlen hc hr=>exact⟨b,o,cap,C,ty,fr,rfl,hb,hlen i hi,λ j x hj=>⟨vs i j,hc i j x hi hj,hr i j x hi hj⟩⟩

theorem zku {h : Fz} {b o : Nat} {C : Array Value} {ty : TypeId} {fr : Nat × Nat} {l : List PV} (hb : h b = some (.fz (.cells C ty fr)))
    (hr:∀ (j:Nat) (x:PV),l[j]? = some x->∃ v,C[o+j]? = some v/\Rep h x v) (off:Nat):Rep h (.fp l off) (.pointer (some ⟨b,o+off,none⟩)) :=
  Rep.fp l off b o C ty fr (fun j => C.getD (o + j) undef) hb
    (λ j x hj=>by obtain⟨v,hv,_⟩:=hr j x hj;rw[dql,hv];rfl)
    (λ j x hj=>by obtain⟨v,hv,hx⟩:=hr j x hj;simpa [dql,hv] using hx)
/-! Long arrays of numbers at an open place. -/
theorem zlJ : ∀ {l : List Cl}, zra l = true → ∀ (k : Nat), k < l.length → ∃ z, l[k]? = some (.p (.int .i64 z)) ∧ zkt l k = z
  | [],_,k,hk=>by simp at hk
  | x :: r,h,k,hk=>by
    have hx:∃ z,x=.p (.int .i64 z)/\zra r=true:=by
      unfold zra at h
      split at h
      · rename_i e;cases e
      · rename_i z r' e;cases e;exact⟨z,rfl,h⟩
      · cases h
    obtain⟨z,rfl,hr⟩:=hx
    cases k with
    | zero=>exact⟨z,rfl,rfl⟩
    | succ k =>
      obtain⟨y,h1,h2⟩:=zlJ hr k (by simpa using hk)
      exact⟨y,by simpa using h1,by unfold zkt at h2 ⊢;simpa using h2⟩
theorem zEg {l : List Cl} (h : zra l = true) : ∀ (n k : Nat), k + n ≤ l.length → rdI l n k = (l.drop k).take n
  | 0,_,_=>by simp[rdI]
  | n+1,k,hk=>by
    obtain⟨z,h1,h2⟩:=zlJ h k (by omega)
    have hlt:k < l.length:=by omega
    rw[dqD hlt] at h1
    simp only[dqa] at h1
    rw[rdI,zEg h n (k+1) (by omega),dqR hlt,List.take_succ_cons,h2,h1]
theorem zwh (l : List Cl) : ∀ (n k : Nat), (rdI l n k).length = n
  | 0,_=>rfl
  | n+1,k=>by rw[rdI,dqr,zwh l n (k+1)]
theorem zKo {l:List Cl}{ag:Bool}{s k:Nat}{d:D1}(h:zra l=true) (hk:k+s<=l.length) (hr:rdX ag s l k=some d):ziA ag s l k=some d:=by
 cases ag with
 | true =>
  have hr:some (D1.agg (rdI l s k))=some d:=hr
  simp only[dqa] at hr;subst hr
  rw[zEg h s k hk]
  have hl:((l.drop k).take s).length=s:=by simp;omega
  unfold ziA
  simp only[hl,show Nat.beq s s=true from Nat.beq_refl s]
 | false =>
  have hr:(match rdI l s k with | [x]=>some (D1.c x) | _=>none)=some d:=hr
  split at hr
  ·rename_i x e
   simp only[dqa] at hr;subst hr
   have hs:s=1:=by have:=zwh l s k;rw[e] at this;simpa using this.symm
   subst hs
   obtain⟨z,h1,h2⟩:=zlJ h k (by omega)
   simp only[rdI,dqy,and_true] at e
   subst e
   unfold ziA
   simp only[h1,h2]
  ·cases hr
theorem zwi {l:List Cl}{b n m c s j:Nat}(h:xok l b n m c s=true) (hj:j < n):zra l=true/\b+j * m+c+s<=l.length:=by
 unfold xok at h
 simp only[dqm,Nat.ble_eq] at h
 obtain⟨⟨h1,h2⟩,h3⟩:=h
 have h4:(j+1) * m<=n * m:=dqw m hj
 rw[dqV] at h4
 exact⟨h1,by omega⟩
theorem zoE : ∀ (n i : Nat) (F : Nat → Int), (zvR i n F).length = n
  | 0,_,_=>rfl
  | n+1,i,F=>by rw[zvR,dqr,zoE n (i+1) F]
theorem ztQ : ∀ (n i : Nat) (F : Nat → Int) (k : Nat), k < n → (zvR i n F)[k]? = some (.int .i64 (F (i + k)))
  | 0,_,_,k,hk=>by omega
  | n+1,i,F,0,_=>rfl
  | n+1,i,F,k+1,hk=>by
    rw[zvR,dqC,ztQ n (i+1) F k (by omega),show i+1+k=i+(k+1) by omega]
theorem zwj {l:List Cl}(h:zra l=true):l=(zvR 0 l.length (zkt l)).map .p:=by
 refine List.ext_getElem? λ k=>?_
 by_cases hk:k < l.length
 ·obtain ⟨z, h1, h2⟩ := zlJ h k hk
  rw[h1,dqH,ztQ _ _ _ _ hk,Nat.zero_add,h2];rfl
 ·rw[dqM (by omega),dqM (by rw[List.length_map,zoE];omega)]
theorem zCL {l:List Cl}(h:zra l=true) (k:Nat) (v:Int):zra (l.set k (.p (.int .i64 v)))=true:=by
 induction l generalizing k with
 | nil=>exact h
 | cons x r ih =>
  unfold zra at h
  split at h
  ·rename_i e;cases e
  ·rename_i z r' e; cases e
   cases k with
   | zero=>simpa [zra] using h
   | succ k=>simpa [zra] using ih h k
  ·cases h
theorem zCM {l:List Cl}{k:Nat}(v:Int) (hk:k < l.length):zkt (l.set k (.p (.int .i64 v)))=λ i=>match Nat.beq i k with | true=>v | false=>zkt l i:=by
 funext i
 unfold zkt
 by_cases e:i=k
 ·subst e
  rw[List.getElem?_set_self hk,Nat.beq_refl]
 ·rw[List.getElem?_set_ne (λ h=>e h.symm),show Nat.beq i k=false from by cases h:Nat.beq i k with | true=>exact absurd (dqc h) e | false=>rfl]
theorem zrm:∀ (ds:List Cl) (vs:List Int) (l:List Cl) (k:Nat),zra l=true->zfY ds=some vs->k+ds.length<=l.length ->
  spl l k ds=(zvR 0 l.length (zFE k vs (zkt l))).map .p
 | [],vs,l,k,h,hv,_=>by
  simp only[zfY,dqa] at hv;subst hv
  exact zwj h
 | d :: ds,vs,l,k,h,hv,hk=>by
  have hd:∃ a r,d=.p (.int .i64 a)/\zfY ds=some r/\vs=a :: r:=by
   unfold zfY at hv
   split at hv
   ·rename_i e;cases e
   ·rename_i a r' e; cases e
    split at hv
    ·rename_i l' hl';simp only[dqa] at hv;exact⟨a,l',rfl,hl',hv.symm⟩
    ·cases hv
   ·cases hv
  obtain⟨a,r,rfl,hr,rfl⟩:=hd
  simp only[dqr] at hk
  rw[spl,zrm ds r (l.set k (.p (.int .i64 a))) (k+1) (zCL h k a) hr (by simp;omega),List.length_set,zCM a (by omega)]
  rfl
theorem zoF : ∀ {ds : List Cl} {vs : List Int}, zfY ds = some vs → ds = (vs.map (PV.int .i64)).map .p ∧ ds.all zpI = true
  | [],vs,h=>by simp only[zfY,dqa] at h;subst h;exact⟨rfl,rfl⟩
  | d :: ds,vs,h=>by
    unfold zfY at h
    split at h
    · rename_i e;cases e
    · rename_i a r' e; cases e
      split at h
      · rename_i l' hl'; simp only [dqa] at h; subst h
        obtain⟨h1,h2⟩:=zoF hl'
        rw[h1] at h2 ⊢
        exact⟨rfl,by simpa [zpI] using h2⟩
      · cases h
    · cases h
theorem zwk {α β : Type} (f : α → β) : ∀ (l' l : List α) (k : Nat), (spl l k l').map f = spl (l.map f) k (l'.map f)
  | [],_,_=>rfl
  | x :: l',l,k=>by rw[spl,dqK,spl,zwk f l' _ (k+1),List.map_set]
theorem zwl {α : Type} : ∀ (l l' pre : List α), l'.length = l.length → spl (pre ++ l) pre.length l' = pre ++ l'
  | [],[],pre,_=>rfl
  | [],_ :: _,_,h=>by simp at h
  | _ :: _,[],_,h=>by simp at h
  | x :: l,y :: l',pre,h=>by
    rw[spl,List.set_append_right _ _ (dqt _),Nat.sub_self,List.set_cons_zero]
    have:=zwl l l' (pre ++ [y]) (by simpa using h)
    simpa using this
theorem zKp : ∀ {l m : List PV}, l.map Cl.p = m.map Cl.p → l = m
  | [],[],_=>rfl
  | [],_ :: _,h=>by simp at h
  | _ :: _,[],h=>by simp at h
  | x :: l,y :: m,h=>by
    simp only[dqK,dqy,Cl.p.injEq] at h
    rw[h.1,zKp h.2]
end
end Go.Pm
namespace Go.Pm
variable [DrawZ]
open Go.RowKit (Below)

section
variable {P:Program}{Γ:Ctrs}{nt B:Nat}{w0:World}{h0:Fz}{g:Gh}{σ:St}{a:Act}{w:World}{r:Option Nat}{n i:Nat}{Q:Exit->Act->World->Prop}

def zfi (P:Program) (nt B:Nat) (w0:World) (h0:Fz) (r:Option Nat) (n i:Nat) (o:Oper) (A:OpAct) (σ:St) (a:Act) (w:World) (Q:Exit->Act->World->Prop):Prop :=
 o.wpIn (FR r) n P a w (λ a' w'=>a'.defers=a.defers/\∃ g' σ',zfL A i o.dst σ σ'/\Sim P nt B w0 h0 g' σ' a' w') Q

theorem zbr {x:Operand}{c:Cl}(S:Sim P nt B w0 h0 g σ a w) (h:evO σ.env x=.one (.c c)):clR g c (a.eval x)/\∀ L∈zaE c,∃ o,lk σ.objs L=some o:=by
 have h1:=S.ev x
 have h2:=S.evLab x
 rw[h] at h1 h2
 exact⟨h1,h2⟩

theorem zcK {x:Operand}{v:PV}(S:Sim P nt B w0 h0 g σ a w) (h:evO σ.env x=.one (.c (.p v))):Rep g.h v (a.eval x):=(zbr S h).1

theorem zdw {x:Operand}{k:IntKind}{m:Int}(S:Sim P nt B w0 h0 g σ a w) (h:evO σ.env x=.one (.c (.p (.int k m)))):a.eval x=.int k m:=by
 have:=zcK S h
 generalize a.eval x=v at this
 cases this;rfl

theorem zis {x:Operand}{m:Bool}(S:Sim P nt B w0 h0 g σ a w) (h:evO σ.env x=.one (.c (.p (.bool m)))):a.eval x=.bool m:=by
 have:=zcK S h
 generalize a.eval x=v at this
 cases this;rfl

theorem ztR {o : Oper} {x : Operand} (S : Sim P nt B w0 h0 g σ a w) (hd : zck nt o.dst = true) (hop : o.op = .move x ∨ o.op = .assign x) :
  zfi P nt B w0 h0 r n i o (.val [] (evO σ.env x) [] []) σ a w Q:=by
 refine zaX S hd (by rcases hop with h | h <;> simp[h]) (d:=evO σ.env x) (v:=a.eval x) (fp:=[]) rfl ?_ (S.ev x) (S.evLab x)
 rcases hop with h | h <;> simp[execOp,h]

theorem zrn {b:Bool}{x y:DV}{v u:Value}(h1:dvR g x v) (h2:dvR g y u):dvR g (znn b x y) (if b=true then v else u):=by
 unfold znn
 split
 ·rename_i p q
  have e1:v=.bool p:=by cases h1;rfl
  have e2:u=.bool q:=by cases h2;rfl
  subst e1 e2
  cases b <;> exact Rep.bool _
 ·cases b
  ·simpa using h2
  ·simpa using h1

theorem zwm {b:Bool}{x y:DV} : ∀ L∈zbf (znn b x y),L∈zbf x\/L∈zbf y:=by
 unfold znn
 split
 ·intro L hL;simp[zbf,zbN,zaE] at hL
 ·intro L hL
  cases b
  ·exact .inr hL
  ·exact .inl hL

theorem zCN {o : Oper} {c x y : Operand} (S : Sim P nt B w0 h0 g σ a w) (hd : zck nt o.dst = true) (hop : o.op = .pick c x y) {t : Bool} (hc : evO σ.env c = .one (.c (.p (.bool t)))) :
  zfi P nt B w0 h0 r n i o (.val [] (znn t (evO σ.env x) (evO σ.env y)) [] []) σ a w Q:=by
 have hb:=zis S hc
 refine zaX S hd (by simp[hop]) (d:=znn t (evO σ.env x) (evO σ.env y)) (v:=if t=true then a.eval x else a.eval y) (fp:=[]) rfl ?_ (zrn (S.ev x) (S.ev y)) ?_
 ·simp[execOp,hop, asBool,hb]
 ·intro L hL
  rcases zwm L hL with h | h
  ·exact S.evLab x L h
  ·exact S.evLab y L h

theorem znD (e:TypeId) (v:Value):(newVar e v).run P w=.ok ⟨w.heap.size,0,none⟩ (w.alloc (.cells v.cells e)):=by
 simp[newVar,newRow]

theorem zwn {o : Oper} {A : OpAct} {e : Nat} {cs : List Cl} {v : Value} (S : Sim P nt B w0 h0 g σ a w) (hd : zck nt o.dst = true) (hnd : ∀ c, o.op ≠ .defer c)
    (hA:zrb (lk σ.objs) o.dst (.box e cs) (λ t=>.cl (.ptr t 0))=A) (hs:A.safe)
    (hrun:(execOp a.eval o).run P w=.ok (.value (.pointer (some ⟨w.heap.size,0,none⟩))) (w.alloc (.cells v.cells e)))
    (hv:RL (clR g) cs v.cells.toList) (hl:∀ L∈cs.flatMap zaE,∃ o,lk σ.objs L=some o):zfi P nt B w0 h0 r n i o A σ a w Q:=by
  unfold zrb at hA
  split at hA
  · rename_i t ht
    split at hA
    · rename_i hlk
      subst hA
      have S':=S.newBox (ty:=e) hlk hv hl
      refine zem hnd hrun ⟨g.setBk t w.heap.size,_,rfl,?_⟩
      rw[zbi]
      refine S'.put (σ:={ σ with objs:=(t,AO.box e cs) :: σ.objs }) hd (d:=.cl (.ptr t 0)) ?_ ?_ _
      · simp[dvR,d1R,clR,Gh.setBk]
      · intro L hL
        simp[zbf,zbN,zaE] at hL
        subst hL
        exact⟨_,by rw[zay,if_pos rfl]⟩
    · exact dq9 hA hs
  · exact dq9 hA hs

theorem zro {l:List Value}{cs:List Cl}(h:zdt l=some cs) (L:Nat) (hL:L∈cs.flatMap zaE):False:=by
 rw[zir h] at hL;simp at hL

theorem zwo {o : Oper} {A : OpAct} {e : Nat} {z : List Cl} (S : Sim P nt B w0 h0 g σ a w) (hd : zck nt o.dst = true) (hop : o.op = .alloc e) (hz : zel P e = some z)
    (hA:zrb (lk σ.objs) o.dst (.box e z) (λ t=>.cl (.ptr t 0))=A) (hs:A.safe):zfi P nt B w0 h0 r n i o A σ a w Q:=by
  obtain⟨ii,v,hi,hzv,hl,_⟩:=zeL hz
  refine zwn S hd (by simp[hop]) hA hs (v:=v) ?_ (ze4 _ _ hl) (λ L hL=>(zro hl L hL).elim)
  simp only[execOp,hop,Instr.alloc,dqd,zdf hi hzv,dqb,znD,dqe]

theorem zKq {t k:Nat}{cells:List Cl}{vs:List Value}(h:RL (clR g) cells vs):RL (clR g) (zFG P t k cells) vs:=by
 unfold zFG
 split
 ·rename_i hk
  split
  ·rename_i q _
   obtain⟨v,hv,hr⟩:=h.get k _ hk
   have hvn:v=.map none:=by cases hr;rfl
   subst hvn
   have:=h.set k (a:=.p (.fm q 0 (λ _=>none))) (b:=Value.map none) (Rep.fmn q _ (λ _ _=>rfl))
   have e:vs.set k (.map none)=vs:=by
    obtain⟨hlt,hv⟩:=dqn.1 hv
    rw[<- hv,List.set_getElem_self]
   rwa[e] at this
  ·exact h
 ·exact h
theorem zCO {t k:Nat}{cells:List Cl} : ∀ L∈(zFG P t k cells).flatMap zaE,L∈cells.flatMap zaE:=by
 unfold zFG
 split
 ·split
  ·intro L hL
   obtain⟨c,hc,hL⟩:=dqo.1 hL
   rcases List.mem_or_eq_of_mem_set hc with h | h
   ·exact dqo.2 ⟨c,h,hL⟩
   ·subst h;simp[zaE] at hL
  ·exact λ L hL=>hL
 ·exact λ L hL=>hL
theorem zwp : ∀ (fs : List Field) {cells : List Cl} {vs : List Value}, RL (clR g) cells vs → RL (clR g) (zvZ P fs cells) vs
  | [],_,_,h=>h
  | _ :: r,_,_,h=>zwp r (zKq h)
theorem zpS : ∀ (fs : List Field) {cells : List Cl}, ∀ L ∈ (zvZ P fs cells).flatMap zaE, L ∈ cells.flatMap zaE
  | [],_,L,h=>h
  | _ :: r,_,L,h=>zCO L (zpS r L h)
theorem zCP {t:TypeId}{cells:List Cl}{vs:List Value}(h:RL (clR g) cells vs):RL (clR g) (zjM P t cells) vs:=by
 unfold zjM
 split
 ·exact zwp _ h
 ·exact h
theorem zvg {t:TypeId}{cells:List Cl} : ∀ L∈(zjM P t cells).flatMap zaE,L∈cells.flatMap zaE:=by
 unfold zjM
 split
 ·exact zpS _
 ·exact λ L hL=>hL
theorem zFO {o : Oper} {A : OpAct} {e : Nat} {x : Operand} {d : D1} (S : Sim P nt B w0 h0 g σ a w) (hd : zck nt o.dst = true) (hop : o.op = .box e x) (hx : evO σ.env x = .one d)
    (hok:d.cells.all zpI=true) (hA:zrb (lk σ.objs) o.dst (.box e (zjM P e d.cells)) (λ t=>.cl (.ptr t 0))=A) (hs:A.safe):zfi P nt B w0 h0 r n i o A σ a w Q:=by
  have h1:=S.ev x
  have h2:=S.evLab x
  rw[hx] at h1 h2
  refine zwn S hd (by simp[hop]) hA hs (v:=a.eval x) ?_ (zCP (zfo h1 hok)) ?_
  · simp only[execOp,hop,Instr.box,dqd,znD,dqb,dqe]
  · intro L hL
    have hL:=zvg L hL
    refine h2 L ?_
    cases d with
    | c y=>simpa [D1.cells,zbf,zbN] using hL
    | agg cs=>simpa [D1.cells,zbf,zbN] using hL

theorem zwq {o : Oper} {t : Nat} {parts : Array (Nat × Operand)} {z l : List Cl} (S : Sim P nt B w0 h0 g σ a w) (hd : zck nt o.dst = true) (hop : o.op = .build t parts)
    (hf:zjL P t=true) (hz:zel P t=some z) (hb:zdu P t (evO σ.env) z parts.toList=some l) (hl:∀ L∈l.flatMap zaE,∃ o,lk σ.objs L=some o) :
    zfi P nt B w0 h0 r n i o (.val [] (.one (.agg l)) [] []) σ a w Q:=by
  obtain⟨v,hrun,hv⟩:=run_build (P:=P) (w:=w) (g:=g) (ρ:=a.eval) (ev:=evO σ.env) (λ x=>S.ev x) hf hz hb
  refine zaX S hd (by simp[hop]) (d:=.one (.agg l)) (v:=v) (fp:=[]) rfl ?_ hv hl
  simp only[execOp,hop,dqd,hrun,dqb,dqe]

theorem zrp {cs l:List Cl}(off:Nat):∀ L∈(spl cs off l).flatMap zaE,L∈cs.flatMap zaE\/L∈l.flatMap zaE:=by
 induction l generalizing cs off with
 | nil=>intro L hL;exact .inl hL
 | cons x l ih =>
  intro L hL
  rw[spl] at hL
  rcases ih (off+1) L hL with h | h
  ·simp only [dqo] at h
   obtain⟨c,hc,hL2⟩:=h
   rcases List.mem_or_eq_of_mem_set hc with h | h
   ·exact .inl (dqo.2 ⟨c,h,hL2⟩)
   ·subst h;exact .inr (by simp only[dqJ,dqg];exact .inl hL2)
  ·exact .inr (by simp only[dqJ,dqg];exact .inr h)

theorem znE {ev:Operand->DV}{t:TypeId} : ∀ (parts:List (Nat×Operand)) (z l:List Cl),zdu P t ev z parts=some l ->
  ∀ L∈l.flatMap zaE,L∈z.flatMap zaE\/∃ x∈parts,L∈zbf (ev x.2)
 | [],z,l,h=>by simp[zdu] at h;subst h;exact λ L hL=>.inl hL
 | (i,o) :: r,z,l,h=>by
  simp only[zdu] at h
  cases he:ev o with
  | tup ds=>simp[he] at h
  | one d =>
   simp only[he] at h
   have step:∀ off,zdu P t ev (spl z off d.cells) r=some l->∀ L∈l.flatMap zaE,L∈z.flatMap zaE\/∃ x∈(i,o) :: r,L∈zbf (ev x.2):=by
    intro off hb L hL
    rcases znE r _ l hb L hL with h | ⟨x,hx,hL⟩
    ·rcases zrp off L h with h | h
     ·exact .inl h
     ·refine .inr ⟨(i, o), dqj, ?_⟩
      simp only[he,zbf]
      cases d with
      | c y=>simpa [D1.cells,zbN] using h
      | agg cs=>simpa [D1.cells,zbN] using h
    ·exact .inr ⟨x,dqf _ hx,hL⟩
   split at h
   ·split at h
    ·split at h
     ·split at h
      ·exact step _ h
      ·cases h
     ·cases h
    ·cases h
   ·split at h
    ·split at h
     ·exact step _ h
     ·cases h
    ·cases h
   ·cases h

theorem zpT {t:TypeId}{z:List Cl}(h:zel P t=some z):z.flatMap zaE=[]:=by
 obtain⟨_,v,_,_,hl,_⟩:=zeL h
 exact zir hl

theorem zeZ {o : Oper} {t : TypeId} {x : Operand} {A : OpAct} {fp : List (Nat × Bool)} {ag : Bool} {m b off o' : Nat} {C : Array Value} {ty : TypeId} {fr : Nat × Nat} {cells : List Cl} {d : D1}
    (S:Sim P nt B w0 h0 g σ a w) (hd:zck nt o.dst=true) (hop:o.op=.load t x) (hA:zfL A i o.dst σ (σ.upd i o.dst fp (.one d) [] [])) (hg:zfx P t=some ag) (hs:szT P t=some m)
    (hx:a.eval x=.pointer (some ⟨b,o'+off,none⟩)) (hb:w.heap[b]? = some (.cells C ty fr))
    (hc:∀ (j:Nat) (x:Cl),cells[j]? = some x->∃ v,C[o'+j]? = some v/\clR g x v) (hr:ziA ag m cells off=some d)
    (hl:∀ L∈cells.flatMap zaE,∃ o,lk σ.objs L=some o):zfi P nt B w0 h0 r n i o A σ a w Q:=by
  obtain⟨v,hrun,hv⟩:=ztP hg hs hb o' hc hr
  refine zaX S hd (by simp[hop]) (d:=.one d) (v:=v) (fp:=fp) hA ?_ hv (λ L hL=>hl L (zlI hr L hL))
  simp only[execOp,hop,dqd,Instr.loadAt,hx,Instr.sureAddr,dqe,dqb,hrun]

theorem zwr {l:List Cl}{ag:Bool}{b n m j c s:Nat}{d:D1}(h:xok l b n m c s=true) (hj:j < n) (hr:rdX ag s l (b+j * m+c)=some d):ziA ag s l (b+j * m+c)=some d:=by
 obtain⟨h1,h2⟩:=zwi h hj
 exact zKo h1 h2 hr
theorem zCQ {o : Oper} {t : TypeId} {x : Operand} {A : OpAct} (S : Sim P nt B w0 h0 g σ a w) (hd : zck nt o.dst = true) (hop : o.op = .load t x)
    (hA:act P Γ o (evO σ.env) (lk σ.objs)=A) (hs:A.safe):zfi P nt B w0 h0 r n i o A σ a w Q:=by
  simp only[act,hop] at hA
  split at hA
  · rename_i ag m hg hsz
    split at hA
    · rename_i L off hx
      have hx':=(zbr S hx).1
      simp only[clR] at hx'
      split at hA
      · rename_i ty cells hL
        obtain⟨C,hC,hr⟩:=S.obj L _ hL
        split at hA
        · rename_i d hrd
          subst hA
          refine zeZ (o':=0) S hd hop rfl hg hsz (by rw[hx',Nat.zero_add]) hC (λ j y hj=>?_) hrd (S.clO L _ hL)
          obtain⟨v,hv,hyv⟩:=hr.get j y hj
          exact⟨v,by simpa using hv,hyv⟩
        · exact dq9 hA hs
      · rename_i cells hL
        obtain⟨C,ty,fr,hC,hr⟩:=S.obj L _ hL
        split at hA
        · rename_i d hrd
          subst hA
          refine zeZ (o':=0) S hd hop rfl hg hsz (by rw[hx',Nat.zero_add]) (S.hw.fz hC) (λ j y hj=>?_) hrd (by rw[zdp];intro L hL;simp at hL)
          simp only[dqH] at hj
          obtain⟨p,hp,rfl⟩:=dqv.1 hj
          obtain⟨v,hv,hyv⟩:=hr.get j p hp
          exact⟨v,by simpa using hv,hyv⟩
        · exact dq9 hA hs
      · exact dq9 hA hs
    · rename_i cells off hx
      obtain⟨b,o',C,ty,fr,hv,hb,hc⟩:=zlc (zcK S hx)
      split at hA
      · rename_i d hrd
        subst hA
        refine zeZ S hd hop rfl hg hsz hv (S.hw.fz hb) (λ j y hj=>?_) hrd (by rw[zdp];intro L hL;simp at hL)
        simp only[dqH] at hj
        obtain⟨p,hp,rfl⟩:=dqv.1 hj
        exact hc j p hp
      · exact dq9 hA hs
    · rename_i L s ii k hx
      obtain⟨b,hb,hx'⟩:=(zbr S hx).1
      split at hA
      · rename_i e s' by' len get hL
        split at hA
        · rename_i d hss hrd
          subst hA
          have hlt:ii < len:=hs
          have hss:=dqc hss
          subst hss
          obtain⟨b',C,hob,_,hC,_,hlen,hel⟩:=zf5 (S.obj L _ hL) hlt
          rw[hb] at hob;simp only[dqa] at hob;subst hob
          refine zeZ (o':=ii * s) S hd hop (A:=.chk _ _ _ _ _) rfl hg hsz hx' hC (λ j y hj=>?_) hrd (by rw[zdp];intro L hL;simp at hL)
          simp only[dqH] at hj
          obtain⟨p,hp,rfl⟩:=dqv.1 hj
          exact hel j p hp
        · exact dq9 hA hs
      · rename_i s' len get hL
        split at hA
        · rename_i d hss hrd
          subst hA
          have hlt:ii < len:=hs
          have hss:=dqc hss
          subst hss
          obtain⟨b',o',cap,C,ty,fr,hsv,hC,hlen,hel⟩:=zrl (S.obj L _ hL).1 hlt
          have h00:o'=0:=(S.obj L _ hL).2 _ _ _ hsv
          rw[hsv] at hb;simp only[Value.ownBlock,dqa] at hb;subst hb
          subst h00
          refine zeZ (o':=ii * s) S hd hop (A:=.chk _ _ _ _ _) rfl hg hsz hx' (S.hw.fz hC) (λ j y hj=>?_) hrd (by rw[zdp];intro L hL;simp at hL)
          simp only[dqH] at hj
          obtain⟨p,hp,rfl⟩:=dqv.1 hj
          have:=hel j p hp
          rwa[Nat.zero_add] at this
        · exact dq9 hA hs
      · rename_i te bb e s' by' len ln get hL
        split at hA
        · rename_i hss
          simp only[dqm] at hss
          have hs1:=dqc hss.1
          have hk0:=dqc hss.2
          subst hs1 hk0
          subst hA
          have hlt0:ii < len/\0 < ln ii:=hs
          have hlt:=hlt0.1
          obtain⟨b',C,cap,hsv,hC,hcell,hone⟩:=zoB (S.obj L _ hL) hlt
          rw[hsv] at hb;simp only[Value.ownBlock,dqa] at hb;subst hb
          refine zaX S hd (by simp[hop]) (d:=.cl (.ivec L ii)) (v:=g.iv L ii) (fp:=_) (A:=.chk _ _ _ _ _) rfl ?_ ⟨rfl,hone,by
            obtain⟨_,_,xs,hxs,_⟩:=(S.obj L _ hL).2.2.2.2.1 ii hlt
            rcases hxs.2 with ⟨_,h2⟩ | ⟨k2,_,_,h1,_⟩
            · omega
            · exact⟨k2,by rw[h1];rfl⟩⟩ (λ M hM=>by simp[zbf,zbN,zaE] at hM;subst hM;exact⟨_,hL⟩)
          have:=zfK (P:=P) (o:=ii * 1+0) hg hC (g.iv L ii) (by simpa using hcell)
          simp only[execOp,hop,dqd,Instr.loadAt,hx',Instr.sureAddr,dqe,dqb,this]
        · exact dq9 hA hs
      · rename_i te bb kt vt q len mk nn F hL
        split at hA
        · rename_i hss
          simp only[dqm] at hss
          have hs1:=dqc hss.1
          have hk0:=dqc hss.2
          subst hs1 hk0
          subst hA
          have hlt:ii < len/\mk ii=true:=hs
          obtain⟨b',C,cap,hsv,hC,hcell,hone,_,_⟩:=zoC (S.obj L _ hL) hlt.1
          rw[hsv] at hb;simp only[Value.ownBlock,dqa] at hb;subst hb
          obtain⟨k1,_,_,hk1,_⟩:=((S.obj L _ hL).2.2.2.1 ii hlt.1).1 hlt.2
          refine zaX S hd (by simp[hop]) (d:=.cl (.imap L ii)) (v:=g.iv L ii) (fp:=_) (A:=.chk _ _ _ _ _) rfl ?_ ⟨rfl,_,hk1⟩ (λ M hM=>by simp[zbf,zbN,zaE] at hM;subst hM;exact⟨_,hL⟩)
          have:=zfK (P:=P) (o:=ii * 1+0) hg hC (g.iv L ii) (by simpa using hcell)
          simp only[execOp,hop,dqd,Instr.loadAt,hx',Instr.sureAddr,dqe,dqb,this]
        · exact dq9 hA hs
      · exact dq9 hA hs
    · rename_i L s ii jj k hx
      obtain⟨b,hb,hx'⟩:=(zbr S hx).1
      split at hA
      · rename_i te bb e s' by' len ln get hL
        split at hA
        · rename_i d hss hrd
          subst hA
          have hlt:ii < len/\jj < ln ii:=hs
          have hss:=dqc hss
          subst hss
          obtain⟨b',C,hob,_,hC,_,hlen,hel⟩:=zoD (S.obj L _ hL) hlt.1 hlt.2
          rw[hb] at hob;simp only[dqa] at hob;subst hob
          refine zeZ (o':=jj * s) S hd hop (A:=.chk _ _ _ _ _) rfl hg hsz hx' hC (λ j y hj=>?_) hrd (by rw[zdp];intro L hL;simp at hL)
          simp only[dqH] at hj
          obtain⟨p,hp,rfl⟩:=dqv.1 hj
          exact hel j p hp
        · exact dq9 hA hs
      · exact dq9 hA hs
    · rename_i L b m' n' j c hx
      obtain⟨hj,hx'⟩:=(zbr S hx).1
      split at hA
      · rename_i ty cells hL
        obtain⟨C,hC,hr⟩:=S.obj L _ hL
        split at hA
        · rename_i d hxk hrd
          subst hA
          refine zeZ (o':=0) S hd hop rfl hg hsz (by rw[hx',Nat.zero_add]) hC (λ j y hj=>?_) (zwr hxk hj hrd) (S.clO L _ hL)
          obtain⟨v,hv,hyv⟩:=hr.get j y hj
          exact⟨v,by simpa using hv,hyv⟩
        · exact dq9 hA hs
      · rename_i cells hL
        obtain⟨C,ty,fr,hC,hr⟩:=S.obj L _ hL
        split at hA
        · rename_i d hxk hrd
          subst hA
          refine zeZ (o':=0) S hd hop rfl hg hsz (by rw[hx',Nat.zero_add]) (S.hw.fz hC) (λ j y hj=>?_) (zwr hxk hj hrd) (by rw[zdp];intro L hL;simp at hL)
          simp only[dqH] at hj
          obtain⟨p,hp,rfl⟩:=dqv.1 hj
          obtain⟨v,hv,hyv⟩:=hr.get j p hp
          exact⟨v,by simpa using hv,hyv⟩
        · exact dq9 hA hs
      · exact dq9 hA hs
    · rename_i cells b m' n' j c hx
      obtain⟨hj,hx'⟩:=(zbr S hx).1
      obtain⟨b',o',C,ty,fr,hv,hb,hc⟩:=zlc hx'
      split at hA
      · rename_i d hxk hrd
        subst hA
        refine zeZ S hd hop rfl hg hsz hv (S.hw.fz hb) (λ j y hj=>?_) (zwr hxk hj hrd) (by rw[zdp];intro L hL;simp at hL)
        simp only[dqH] at hj
        obtain⟨p,hp,rfl⟩:=dqv.1 hj
        exact hc j p hp
      · exact dq9 hA hs
    · rename_i L s ii b m' n' j c hx
      obtain⟨hj,k,hb,hx'⟩:=(zbr S hx).1
      split at hA
      · rename_i e s' by' len get hL
        split at hA
        · rename_i d hss hrd
          subst hA
          simp only[dqm] at hss
          have hlt:ii < len:=hs
          have hs1:=dqc hss.1
          subst hs1
          obtain⟨b',C,hob,_,hC,_,hlen,hel⟩:=zf5 (S.obj L _ hL) hlt
          rw[hb] at hob;simp only[dqa] at hob;subst hob
          refine zeZ (o':=ii * s) S hd hop (A:=.chk _ _ _ _ _) rfl hg hsz hx' hC (λ j y hj=>?_) (zwr hss.2 hj hrd) (by rw[zdp];intro L hL;simp at hL)
          simp only[dqH] at hj
          obtain⟨p,hp,rfl⟩:=dqv.1 hj
          exact hel j p hp
        · exact dq9 hA hs
      · exact dq9 hA hs
    · exact dq9 hA hs
  · exact dq9 hA hs
end
end Go.Pm
namespace Go.Pm
variable [DrawZ]
open Go.RowKit (Below)
open Go.MapKept (IsKey findNow_spec run_checkKey)

section
variable {P:Program}{Γ:Ctrs}{nt B:Nat}{w0:World}{h0:Fz}{g:Gh}{σ:St}{a:Act}{w:World}{r:Option Nat}{n i:Nat}{Q:Exit->Act->World->Prop}

theorem zjR {t : TypeId} {ag : Bool} {m off : Nat} {cells : List Cl} {vs : List Value} {d : D1} (hg : zfx P t = some ag) (hs : szT P t = some m) (hr : ziA ag m cells off = some d) (hc : RL (clR g) cells vs) :
  ∃ v,(part t vs.toArray off).run P w=.ok v w/\d1R g d v:=by
 cases ag with
 | true =>
  simp only[ziA] at hr
  split at hr
  ·simp only [dqa] at hr; subst hr
   refine⟨.agg (vs.toArray.extract off (off+m)),?_,(vs.drop off).take m,?_,(hc.drop off).take m⟩
   ·simp only[part,dqd,zfJ hg,dqb,if_true,run_sizeOf hs,dqe]
   ·simp[List.extract_toArray,List.extract_eq_take_drop]
  ·cases hr
 | false =>
  simp only[ziA] at hr
  split at hr
  ·rename_i x hx
   simp only[dqa] at hr;subst hr
   obtain⟨v,hv,hxv⟩:=hc.get off x hx
   refine⟨v,?_,hxv⟩
   simp only[part,dqd,zfJ hg,dqb,Bool.false_eq_true,if_false]
   rw[show vs.toArray[off]? = some v by simpa using hv]
   simp
  ·cases hr

theorem zwt : ∀ (d : Nat) (t : TypeId) (x y : D1) (r : Bool), eqT P d t x y = some r → ∀ (e : Nat) (v u : Value), d1R g x v → d1R g y u → (Op.equalIn (d + e) t v u).run P w = .ok r w
  | 0,t,x,y,r,h=>by simp[eqT] at h
  | d+1,t,x,y,r,h=>by
    intro e v u hv hu
    have he:d+1+e=(d+e)+1:=by omega
    rw[he]
    simp only[eqT] at h
    split at h
    · rename_i hut
      split at h
      · simp only [dqa] at h; subst h
        cases hv;cases hu
        exact run_equalIn_bool' w _ _ _ _ hut
      · cases h
    · rename_i q hut
      split at h
      · split at h
        · rename_i hk
          simp only[dqa] at h;subst h;subst hk
          cases hv;cases hu
          exact run_equalIn_int w _ _ _ _ _ _ hut
        · cases h
      · cases h
    · rename_i fs hut
      split at h
      · rename_i xs ys hst
        obtain⟨vs,rfl,hvs⟩:=hv
        obtain⟨us,rfl,hus⟩:=hu
        have hf:P.fieldsOf t=fs:=by simp[Program.fieldsOf,hut]
        rw[run_equalIn_struct w (d+e) t _ _ (by rw[hf];exact hut) hst,hf]
        have key:∀ (l:List Field) (r:Bool),l.foldr (λ f acc =>
            match acc, f.name != "_", zfx P f.type, szT P f.type with
            | some r,true,some ag,some n=>match ziA ag n xs f.offset,ziA ag n ys f.offset with
              | some a,some b=>match eqT P d f.type a b with
                | some e=>some (match e with | true=>r | false=>false)
                | none=>none
              | _,_=>none
            | _,_,_,_=>none) (some true)=some r->(Op.eqFields (d+e) vs.toArray us.toArray l).run P w=.ok r w:=by
          intro l
          induction l with
          | nil=>intro r h;simp only[List.foldr_nil,dqa] at h;subst h;simp[Op.eqFields]
          | cons f l ih =>
            intro r h
            rw[List.foldr_cons] at h
            split at h
            · rename_i r' ag m hacc hname hag hsz
              split at h
              · rename_i a' b' ha' hb'
                split at h
                · rename_i e' he'
                  simp only[dqa] at h
                  obtain⟨va,hva,hra⟩:=zjR (w:=w) hag hsz ha' hvs
                  obtain⟨vb,hvb,hrb⟩:=zjR (w:=w) hag hsz hb' hus
                  have hq:=zwt d f.type a' b' e' he' e va vb hra hrb
                  have hn : f.name ≠ "_" := by simpa using hname
                  simp only[Op.eqFields,if_pos hn,dqd,hva,hvb,hq,dqb]
                  cases e' with
                  | true=>simp only at h;subst h;simpa using ih r' hacc
                  | false=>simp only at h;subst h;simp
                · cases h
              · cases h
            · cases h
        exact key fs.toList r h
      · cases h
    · cases h

theorem zKr {o : Oper} {op : BinOp} {t t' : TypeId} {x y : Operand} {cs ds : List Cl} {A : OpAct} (S : Sim P nt B w0 h0 g σ a w) (hd : zck nt o.dst = true) (hop : o.op = .binOp op t x y t')
    (hx:evO σ.env x=.one (.agg cs)) (hy:evO σ.env y=.one (.agg ds)) (hA:zCx P op t cs ds=A) (hs:A.safe):zfi P nt B w0 h0 r n i o A σ a w Q:=by
  have h1:=S.ev x
  have h2:=S.ev y
  rw[hx] at h1;rw[hy] at h2
  obtain⟨vs,hv,_⟩:=id h1
  obtain⟨us,hu,_⟩:=id h2
  unfold zCx at hA
  split at hA
  · rename_i q hgd hq
    have hrun:=zwt (w:=w) 8 t (.agg cs) (.agg ds) q hq 9992 _ _ h1 h2
    rw[hv,hu] at hrun
    split at hA
    · subst hA
      refine zaX S hd (by simp[hop]) (d:=.bool q) (v:=.bool q) (fp:=[]) rfl ?_ (.bool q) (zd1 _)
      simp only[execOp,hop,hv,hu,dqd,run_eqGuard_agg w _ _ _ _ _ _ hgd,dqb,run_eql_struct]
      rw[hrun];rfl
    · subst hA
      refine zaX S hd (by simp[hop]) (d:=.bool (!q)) (v:=.bool (!q)) (fp:=[]) rfl ?_ (.bool (!q)) (zd1 _)
      simp only[execOp,hop,hv,hu,dqd,run_eqGuard_agg w _ _ _ _ _ _ hgd,dqb,run_neq_struct]
      rw[hrun];rfl
    · exact dq9 hA hs
  · exact dq9 hA hs

theorem zoG {m e s:Nat}(h:zJ9 P m e=some s):szT P e=some s:=by
 unfold zJ9 at h
 split at h
 ·rename_i k s' _ _ hs
  split at h
  ·simp only[dqa] at h;rw[hs,h]
  ·cases h
 ·cases h
theorem zCR {big:Bool}{m e s:Nat}(h:zQb P big m e=some s):szT P e=some s:=by
 cases big
 ·exact zoG h
 ·exact zoG (m:=m+8) h
theorem zwu {o : Oper} {t : TypeId} {x y : Operand} {A : OpAct} (S : Sim P nt B w0 h0 g σ a w) (hd : zck nt o.dst = true) (hop : o.op = .index t x y)
    (hA:act P Γ o (evO σ.env) (lk σ.objs)=A) (hs:A.safe):zfi P nt B w0 h0 r n i o A σ a w Q:=by
  simp only[act,hop,zoq] at hA
  split at hA
  · rename_i m e hu
    split at hA
    · rename_i sz hbig
      have hsz:=zCR hbig
      split at hA
      · rename_i ag cs k j hag hx hy
        split at hA
        · rename_i d hxk hr
          subst hA
          have hs':0<=j/\j < (m:Int):=hs
          have hlt':j.toNat < m:=by omega
          have hr:=zwr hxk hlt' hr
          rw[Nat.zero_add,Nat.add_zero] at hr
          have h1:=S.ev x
          rw[hx] at h1
          obtain⟨vs,hv,hvs⟩:=h1
          have hj:=zdw S hy
          obtain⟨v,hrun,hdv⟩:=zjR (w:=w) hag hsz hr hvs
          refine zaX S hd (by simp[hop]) (d:=.one d) (v:=v) (fp:=[]) (A:=.chk _ _ _ _ _) rfl ?_ hdv (λ L hL=>?_)
          · simp only [execOp, hop, hv, hj, Instr.index, asIntOf, dqd, dqe, dqb, run_underlying hu]
            rw[if_pos ⟨hs'.1,hs'.2⟩]
            simp only[dqd,run_sizeOf hsz,dqb]
            rw[hrun]
            rfl
          · refine S.evLab x L ?_
            rw[hx]
            exact zlI hr L hL
        · exact dq9 hA hs
      · exact dq9 hA hs
    · split at hA
      · rename_i sz ag cs k j hsz hag hx hy
        split at hA
        · rename_i d hlt hr
          subst hA
          have h1:=S.ev x
          rw[hx] at h1
          obtain⟨vs,hv,hvs⟩:=h1
          have hj:=zdw S hy
          obtain⟨v,hrun,hdv⟩:=zjR (w:=w) hag hsz hr hvs
          have hlt':j < m:=by simpa [Nat.blt_eq] using hlt
          refine zaX S hd (by simp[hop]) (d:=.one d) (v:=v) (fp:=[]) rfl ?_ hdv (λ L hL=>?_)
          · simp only [execOp, hop, hv, hj, Instr.index, asIntOf, dqd, dqe, dqb, run_underlying hu]
            rw[if_pos ⟨by simp,by simpa using hlt'⟩]
            simp only[dqd,run_sizeOf hsz,dqb]
            rw[show (Int.ofNat j).toNat=j from rfl,hrun]
            rfl
          · refine S.evLab x L ?_
            rw[hx]
            exact zlI hr L hL
        · exact dq9 hA hs
      · exact dq9 hA hs
  · exact dq9 hA hs

theorem zwv {o : Oper} {t : TypeId} {x : Operand} {f : Nat} {A : OpAct} (S : Sim P nt B w0 h0 g σ a w) (hd : zck nt o.dst = true) (hop : o.op = .field t x f)
    (hA:act P Γ o (evO σ.env) (lk σ.objs)=A) (hs:A.safe):zfi P nt B w0 h0 r n i o A σ a w Q:=by
  simp only[act,hop,zor] at hA
  split at hA
  · rename_i fs hu
    split at hA
    · rename_i fd hfd
      split at hA
      · rename_i m ag cs hsz hag hx
        split at hA
        · rename_i d hr
          subst hA
          have h1:=S.ev x
          rw[hx] at h1
          obtain⟨vs,hv,hvs⟩:=h1
          obtain⟨v,hrun,hdv⟩:=zjR (w:=w) hag hsz hr hvs
          refine zaX S hd (by simp[hop]) (d:=.one d) (v:=v) (fp:=[]) rfl ?_ hdv (λ L hL=>?_)
          · simp only [execOp, hop, hv, Instr.field, asAgg, dqd, dqe, dqb, run_underlying hu, hfd]
            rw[hrun]
            rfl
          · refine S.evLab x L ?_
            rw[hx]
            exact zlI hr L hL
        · exact dq9 hA hs
      · exact dq9 hA hs
    · exact dq9 hA hs
  · exact dq9 hA hs

theorem zpU {o : Oper} {t e : TypeId} {m : Nat} {x y : Operand} {A : OpAct} (S : Sim P nt B w0 h0 g σ a w) (hd : zck nt o.dst = true) (hop : o.op = .indexAddr t x y) (hu : P.underlying t = some (.array m e))
    (hA:zlF P m e (evO σ.env x) (evO σ.env y)=A) (hs:A.safe):zfi P nt B w0 h0 r n i o A σ a w Q:=by
  unfold zlF at hA
  split at hA
  · rename_i sz hbig
    have hsz:=zoG hbig
    split at hA
    · rename_i k j hy
      have hj:=zdw S hy
      have run:∀ b o':Nat,0<=j->j < (m:Int)->a.eval x=.pointer (some ⟨b,o',none⟩)->(execOp a.eval o).run P w=.ok (.value (.pointer (some ⟨b,o'+j.toNat * sz,none⟩))) w:=by
        intro b o' h0 h1 hv
        simp only[execOp,hop,hv,hj,Instr.indexAt, asIntOf,dqd,dqe,dqb,run_underlying hu,Instr.sureAddr]
        rw[if_pos ⟨h0,by omega⟩]
        simp only[dqd,run_sizeOf hsz,dqb,addr_add,dqe]
      split at hA
      · rename_i L off hx
        subst hA
        have hs':0<=j/\j < (m:Int):=hs
        obtain⟨h1,h2⟩:=zbr S hx
        exact zaX S hd (by simp[hop]) (d:=.cl (.xp L off m sz j.toNat 0)) (fp:=[]) (A:=.chk _ _ _ _ _) rfl (run _ _ hs'.1 hs'.2 h1) ⟨by omega,rfl⟩ h2
      · rename_i c off hx
        subst hA
        have hs':0<=j/\j < (m:Int):=hs
        obtain⟨b,o',C,ty,fr,hv,hb,hc⟩:=zlc (zcK S hx)
        have:=run b (o'+off) hs'.1 hs'.2 hv
        rw[Nat.add_assoc] at this
        exact zaX S hd (by simp[hop]) (d:=.cl (.xf c off m sz j.toNat 0)) (fp:=[]) (A:=.chk _ _ _ _ _) rfl this ⟨by omega,zku hb hc _⟩ (λ L hL=>by simp[zbf,zbN,zaE] at hL)
      · rename_i L s q q' hx
        subst hA
        have hs':0<=j/\j < (m:Int):=hs
        obtain⟨h1,h2⟩:=zbr S hx
        obtain⟨b,hb,hv⟩:=h1
        have:=run b _ hs'.1 hs'.2 hv
        rw[Nat.add_assoc] at this
        exact zaX S hd (by simp[hop]) (d:=.cl (.xv L s q q' m sz j.toNat 0)) (fp:=[]) (A:=.chk _ _ _ _ _) rfl this ⟨by omega,b,hb,rfl⟩ h2
      · exact dq9 hA hs
    · exact dq9 hA hs
  · split at hA
    · rename_i sz k j hsz hy
      split at hA
      · rename_i hlt
        have hj:=zdw S hy
        have hlt':j < m:=by simpa [Nat.blt_eq] using hlt
        have run:∀ b o':Nat,a.eval x=.pointer (some ⟨b,o',none⟩)->(execOp a.eval o).run P w=.ok (.value (.pointer (some ⟨b,o'+j * sz,none⟩))) w:=by
          intro b o' hv
          simp only[execOp,hop,hv,hj,Instr.indexAt, asIntOf,dqd,dqe,dqb,run_underlying hu,Instr.sureAddr]
          rw[if_pos ⟨by simp,by simpa using hlt'⟩]
          simp only[dqd,run_sizeOf hsz,dqb,addr_add,dqe]
          rfl
        split at hA
        · rename_i L off hx
          subst hA
          obtain⟨h1,h2⟩:=zbr S hx
          exact zaX S hd (by simp[hop]) (d:=.cl (.ptr L (off+j * sz))) (fp:=[]) rfl (run _ _ h1) rfl h2
        · rename_i c off hx
          subst hA
          obtain⟨b,o',C,ty,fr,hv,hb,hc⟩:=zlc (zcK S hx)
          have:=run b (o'+off) hv
          rw[Nat.add_assoc] at this
          exact zaX S hd (by simp[hop]) (d:=.p (.fp c (off+j * sz))) (fp:=[]) rfl this (zku hb hc _) (zd1 _)
        · exact dq9 hA hs
      · exact dq9 hA hs
    · exact dq9 hA hs

theorem zpV {t:TypeId}{m:Nat}(h:zu4 P t=some m):∃ k e,P.underlying t=some (.map k e)/\P.underlying k=some (.int .i64) /\
  ∀ w,(zeroValue e).run P w=.ok (zdv (List.replicate m 0)) w:=by
 unfold zu4 at h
 split at h
 ·rename_i k e hu
  split at h
  ·rename_i z hk hz hag
   split at h
   ·rename_i l cs hl hzz
    split at h
    ·rename_i hall
     simp only[dqa] at h;subst h
     refine⟨k,e,hu,hk,λ w=>?_⟩
     unfold zel at hz
     split at hz
     ·rename_i ie hie
      rw[hie] at hzz
      simp only[Option.bind_some] at hzz
      rw[hzz] at hz
      simp only[Value.cells] at hz
      split at hz
      ·rename_i l' hl'
       split at hz
       ·simp only [dqa] at hz; subst hz
        rw[zdf hie hzz]
        have key:∀ (vs:List Value) (cs:List Cl) (l:List Int),zdt vs=some cs->zfY cs=some l->l.all (λ x=>match x with | .ofNat 0=>true | _=>false)=true->vs=(List.replicate l.length 0).map (Value.int .i64):=by
         intro vs
         induction vs with
         | nil=>intro cs l h1 h2 _;simp[zdt] at h1;subst h1;simp[zfY] at h2;subst h2;rfl
         | cons v vs ih =>
          intro cs l h1 h2 h3
          simp only[zdt] at h1
          split at h1
          ·rename_i x l2 hx hl2
           simp only[dqa] at h1;subst h1
           cases x with
           | int k a' =>
            cases k <;> simp only[zfY] at h2 <;> try cases h2
            split at h2
            ·rename_i l3 hl3
             simp only[dqa] at h2;subst h2
             simp only[List.all_cons,dqm] at h3
             have ha:a'=0:=by
              have:=h3.1
              split at this
              ·rfl
              ·cases this
             subst ha
             have hv:v=.int .i64 0:=by
              unfold zjH at hx
              split at hx <;> simp at hx
              obtain⟨rfl,rfl⟩:=hx;rfl
             rw[hv,ih l2 l3 hl2 hl3 h3.2];rfl
            ·cases h2
           | _=>simp[zfY] at h2
          ·cases h1
        have:=key _ _ _ hl' hl hall
        simp only[zdv,<- this]
       ·cases hz
      ·cases hz
     ·cases hz
    ·cases h
   ·cases h
  ·cases h
 ·cases h

theorem zgT (j:Int):IsKey (.int .i64) (.int .i64 j):=by simp[IsKey]

theorem zrq : ∀ {cs : List Cl} {l : List Int} {vs : List Value}, zfY cs = some l → RL (clR g) cs vs → vs = l.map (Value.int .i64)
  | [],l,[],h,_=>by simp[zfY] at h;subst h;rfl
  | [],_,_ :: _,_,hr=>hr.elim
  | _ :: _,_,[],_,hr=>hr.elim
  | c :: cs,l,v :: vs,h,hr=>by
    cases c with
    | p x =>
      cases x with
      | int k a' =>
        cases k <;> simp only[zfY] at h <;> try cases h
        split at h
        · rename_i l' hl'
          simp only[dqa] at h;subst h
          have h1:=hr.1
          cases h1
          rw[zrq hl' hr.2];rfl
        · cases h
      | _=>simp[zfY] at h
    | _=>simp[zfY] at h

def zKs (b:Bool) (l:List Int):List Int:=match b with | true=>l | false=>List.replicate l.length 0
theorem zEh (b : Bool) : ∀ l : List Int, RL (clR g) (zCw b l) ((zKs b l).map (Value.int .i64))
  | []=>by cases b <;> exact trivial
  | x :: l=>by
    have ih:=zEh b l
    cases b <;> exact⟨.int _ _,ih⟩

theorem zvh {o : Oper} {t : TypeId} {x y : Operand} {ok : Bool} {A : OpAct} (S : Sim P nt B w0 h0 g σ a w) (hd : zck nt o.dst = true) (hop : o.op = .lookup t x y ok)
    (hA:zhH P t (evO σ.env x) (evO σ.env y) ok=A) (hs:A.safe):zfi P nt B w0 h0 r n i o A σ a w Q:=by
  simp only[zhH] at hA
  split at hA
  · rename_i m F j hm hx hy
    split at hA
    · rename_i hlen
      subst hA
      have hlen:=dqc hlen
      obtain⟨k,e,hu,hk,hz⟩:=zpV hm
      have hj:=zdw S hy
      have hpx:=zcK S hx
      generalize hvx:a.eval x=vx at hpx
      cases hpx with
      | mp _ b hb =>
        obtain⟨_,hheap,⟨es,clock,rfl,hes⟩,hmemo⟩:=S.hw b _ hb
        have hkeys:∀ x∈es.toList,IsKey (.int .i64) x.key:=λ x hx=>by obtain⟨k',h1,_⟩:=hes x hx;rw[h1];exact zgT k'
        have fin:∀ q:Bool,(Instr.lookup t (.map (some b)) (.int .i64 j) true).run P w=.ok (.tuple #[zdv (zKs q (F j)),.bool q]) w ->
            zfi P nt B w0 h0 r n i o (.rel [] [] Bool True (λ _=>True) λ b=>.tup [.agg (zCw b (F j)),.c (.p (.bool b))]) σ a w Q:=by
          intro q hrun
          refine zaX S hd (by simp[hop]) (d:=.tup [.agg (zCw q (F j)),.c (.p (.bool q))]) (v:=.tuple #[zdv (zKs q (F j)),.bool q]) (fp:=[]) ⟨q,trivial,rfl⟩ ?_ ?_ ?_
          · simp only[execOp,hop,hvx,hj,dqd,hrun,dqb,dqe]
          · exact⟨[_,_],rfl,⟨_,rfl,zEh q _⟩,.bool q,trivial⟩
          · intro L hL
            have:∀ l:List Int,(zCw q l).flatMap zaE=[]:=by
              intro l
              induction l with
              | nil=>rfl
              | cons x l ih=>simp[zCw,zaE,ih]
            simp[zbf,zbN,zaE,this] at hL
        have pre:∀ R,(Instr.findKey k (.int .i64 j) es.toList).run P w=.ok R w->(Instr.lookup t (.map (some b)) (.int .i64 j) true).run P w=((match R with
            | some (_,v)=>(pure (v,true):Sem (Value×Bool))
            | none=>do pure (<- zeroValue e,false)).run P w).andThen λ x w'=>.ok (.tuple #[x.1,.bool x.2]) w':=by
          intro R hR
          simp only[Instr.lookup,dqd,run_underlying hu,dqb,MapKept.run_getObj_map hheap,dqe,run_checkKey hk (zgT j),hR]
          cases R with
          | none=>simp[hz]
          | some p=>obtain⟨q1,q2⟩:=p;simp
        rcases findNow_spec (zgT j) es.toList 0 hkeys with ⟨h1,h2⟩ | ⟨jj,e',h1,h2,h3⟩
        · refine fin false ?_
          have hf:(Instr.findKey k (.int .i64 j) es.toList).run P w=.ok none w:=by
            simp only[Instr.findKey,dqd,run_underlying hk,dqb,h1,dqe]
          rw[pre none hf]
          simp only[dqd,hz,dqb,dqe,hlen,zKs]
        · refine fin true ?_
          have hf:(Instr.findKey k (.int .i64 j) es.toList).run P w=.ok (some (0+jj,e'.val)) w:=by
            simp only[Instr.findKey,dqd,run_underlying hk,dqb,h1,dqe]
          rw[pre _ hf]
          obtain⟨k',h4,h5⟩:=hes e' (dqx h2)
          rw[h3] at h4
          simp only[Value.int.injEq,true_and] at h4
          subst h4
          simp only[dqe,dqb,h5,zKs]
    · exact dq9 hA hs
  · exact dq9 hA hs

theorem Sim.memoWrite (S : Sim P nt B w0 h0 g σ a w) {b : Nat} {F : Int → List Int} {o' : Obj} (hb : g.h b = some (.inv F)) (ho : zOc F o' ∧ ztz) :
  Sim P nt B w0 h0 g σ a { w with heap:=w.heap.setIfInBounds b o' }:=by
 have hlt:=S.hw.lt hb
 have hne:∀ k,k ≠ b->(w.heap.setIfInBounds b o')[k]? = w.heap[k]?:=λ k hk=>by rw[Array.getElem?_setIfInBounds,if_neg (λ e=>hk e.symm)]
 have hown:∀ L o k,lk σ.objs L=some o->obk g L o k->k ≠ b:=λ L o k ho hk e=>by have:=(S.own L o k ho hk).2;rw[e,hb] at this;cases this
 refine S.change (g':=g) (objs':=σ.objs) (λ _ _ _=>⟨rfl,rfl,rfl⟩) (λ _ _ h=>h) ?_ (λ _ _ h=>.inl h) ⟨rfl,rfl,rfl,by simp,dqt _,λ k hk hn=>?_⟩ ?_ S.own S.sep (λ L o h=>⟨o,h⟩) S.clO
 ·intro k x hk
  by_cases h:k=b
  ·subst h
   rw[hb] at hk
   simp only[dqa] at hk;subst hk
   exact⟨o',by show (w.heap.setIfInBounds k o')[k]? = _;simp[hlt],ho⟩
  ·obtain ⟨o, h1, h2⟩ := S.hw k x hk
   exact⟨o,by show (w.heap.setIfInBounds b o')[k]? = _;rw[hne k h];exact h1,h2⟩
 ·refine hne k fun e => ?_
  subst e
  rcases S.hn k _ hb with h | h
  ·exact hn F h
  ·omega
 ·intro L o h
  exact zcV (S.obj L o h) ⟨rfl,rfl,rfl⟩ (λ _ _=>⟨rfl,rfl,rfl⟩) (λ _ _ h=>h) λ k hk=>hne k (hown L o k h hk)

theorem zoH {o : Oper} {t : TypeId} {x y z : Operand} {A : OpAct} (S : Sim P nt B w0 h0 g σ a w) (hd : zck nt o.dst = true) (hop : o.op = .mapUpdate t x y z)
    (hA:zhI P t (evO σ.env x) (evO σ.env y) (evO σ.env z)=A) (hs:A.safe):zfi P nt B w0 h0 r n i o A σ a w Q:=by
  simp only[zhI] at hA
  split at hA
  · rename_i m F j cs hm hx hy hzz
    split at hA
    · rename_i l hl
      subst hA
      have hlF:l=F j:=hs
      obtain⟨k,e,hu,hk,_⟩:=zpV hm
      have hj:=zdw S hy
      have hpx:=zcK S hx
      have h1:=S.ev z
      rw[hzz] at h1
      obtain⟨vs,hv,hvs⟩:=h1
      have hvm:a.eval z=zdv (F j):=by rw[hv,zrq hl hvs,hlF];rfl
      generalize hvx:a.eval x=vx at hpx
      cases hpx with
      | mp _ b hb =>
        obtain⟨_,hheap,⟨es,clock,rfl,hes⟩,hmemo⟩:=S.hw b _ hb
        have hkeys:∀ x∈es.toList,IsKey (.int .i64) x.key:=λ x hx=>by obtain⟨k',h1,_⟩:=hes x hx;rw[h1];exact zgT k'
        have fin:∀ o':Obj,zOc F o'->(Instr.mapUpdate t (.map (some b)) (.int .i64 j) (zdv (F j))).run P w=.ok () { w with heap:=w.heap.setIfInBounds b o' }->zfi P nt B w0 h0 r n i o (.chk [] (l=F j) .junk [] []) σ a w Q:=by
          intro o' ho' hrun
          refine zgk (by simp[hop]) (w':={ w with heap:=w.heap.setIfInBounds b o' }) ?_ ⟨g,_,rfl,?_⟩
          · simp only[execOp,hop,hvx,hj,hvm,dqd,hrun,dqb,dqe]
          · rw [zbi]
            exact (S.memoWrite hb ⟨ho',hmemo⟩).put (d:=.junk) hd trivial (λ L hL=>by simp[zbf,zbN,zaE] at hL) _
        rcases findNow_spec (zgT j) es.toList 0 hkeys with ⟨h1,h2⟩ | ⟨jj,e',h1,h2,h3⟩
        · refine fin (.map (es.push { key := .int .i64 j, val := zdv (F j), born := clock }) (clock + 1)) ⟨_, _, rfl, fun e he => ?_⟩ ?_
          · rw [Array.toList_push] at he
            rcases dqg.1 he with he | he
            · exact hes e he
            · simp only[dqi] at he;subst he;exact⟨j,rfl,rfl⟩
          · simp only[Instr.mapUpdate,dqd,run_underlying hu,dqb,MapKept.run_getObj_map hheap,run_checkKey hk (zgT j),Instr.findKey,run_underlying hk,h1,dqe,MapKept.run_setObj_map _ hheap]
        · refine fin (.map (es.modify (0 + jj) fun e => { e with key := .int .i64 j, val := zdv (F j) }) clock) ⟨_, _, rfl, fun e he => ?_⟩ ?_
          · rw [Array.toList_modify] at he
            obtain⟨q,hq⟩:=List.getElem?_of_mem he
            rw[List.getElem?_modify] at hq
            obtain⟨e0,he0,rfl⟩:=dqv.1 hq
            split
            · exact⟨j,rfl,rfl⟩
            · exact hes e0 (dqx he0)
          · have hkey:((es[0+jj]?).map (·.key)).getD (.int .i64 j)=.int .i64 j:=by
              rw[Nat.zero_add]
              rw[show es[jj]? = some e' by simpa using h2]
              simp[h3]
            have hst:(Instr.keyThatStays (.int .i64 j) (.int .i64 j)).run P w=.ok (.int .i64 j) w:=by
              simp[Instr.keyThatStays,Instr.sameBits]
            simp only[Instr.mapUpdate,dqd,run_underlying hu,dqb,MapKept.run_getObj_map hheap,run_checkKey hk (zgT j),Instr.findKey,run_underlying hk,h1,dqe,hkey,hst,MapKept.run_setObj_map _ hheap]
    · exact dq9 hA hs
  · exact dq9 hA hs

theorem zrr {o : Oper} {t : TypeId} {A : OpAct} (S : Sim P nt B w0 h0 g σ a w) (hd : zck nt o.dst = true) (hop : o.op = .makeMap t none)
    (hA:(match o.dst with
      | some dst=>match zu4 P t with
        | some _=>OpAct.chk [] ztz (.p (.mp (Γ.memo dst))) [] []
        | none=>.no
      | none=>.no)=A) (hs:A.safe):zfi P nt B w0 h0 r n i o A σ a w Q:=by
  split at hA
  · rename_i dst hdst
    split at hA
    · rename_i m hm
      subst hA
      let F:=Γ.memo dst
      let h':Fz:=λ b=>if b=w.heap.size then some (.inv F) else g.h b
      have hold:∀ k,k < w.heap.size->(w.alloc (.map #[] 0)).heap[k]? = w.heap[k]?:=λ k hk=>heap_alloc_old w _ k hk
      have hlt:∀ L o b,lk σ.objs L=some o->obk g L o b->b < w.heap.size:=λ L o b ho hob=>zc4 (S.obj L o ho) hob
      have hle:Fle g.h h':=λ b x hb=>by
        show (if b=w.heap.size then some (.inv F) else g.h b)=some x
        rw[if_neg (by have:=S.hw.lt hb;omega)];exact hb
      have hobkb:∀ L o,obk (⟨h',g.bk,g.sv,g.iv⟩:Gh) L o=obk g L o:=λ L o=>zbK (g:=g) (g':=⟨h',g.bk,g.sv,g.iv⟩) ⟨rfl,rfl,rfl⟩
      have S1:Sim P nt B w0 h0 ⟨h',g.bk,g.sv,g.iv⟩ σ a (w.alloc (.map #[] 0)):=by
        refine S.change (g':=⟨h',g.bk,g.sv,g.iv⟩) (objs':=σ.objs) (λ _ _ _=>⟨rfl,rfl,rfl⟩) hle ?_ ?_ (Bel.of ⟨(Below.refl B w).alloc S.bs _,dqt _⟩) ?_ ?_ ?_ (λ L o h=>⟨o,h⟩) S.clO
        · intro b x hb
          have hb':(if b=w.heap.size then some (.inv F) else g.h b)=some x:=hb
          split at hb'
          · rename_i e
            simp only[dqa] at hb';subst hb';subst e
            exact⟨_,heap_alloc_new w _,⟨#[],0,rfl,λ e he=>by simp at he⟩,hs⟩
          · obtain ⟨o, h1, h2⟩ := S.hw b x hb'
            exact⟨o,by rw[hold b (S.hw.lt hb')];exact h1,h2⟩
        · intro b x hb
          have hb':(if b=w.heap.size then some (.inv F) else g.h b)=some x:=hb
          split at hb'
          · rename_i e;exact .inr (by rw[e];exact S.bs)
          · exact .inl hb'
        · intro L o ho
          exact zcV (S.obj L o ho) ⟨rfl,rfl,rfl⟩ (λ _ _=>⟨rfl,rfl,rfl⟩) hle λ b hob=>hold b (hlt L o b ho hob)
        · intro L o b ho hob
          rw[hobkb] at hob
          obtain⟨h1,h2⟩:=S.own L o b ho hob
          refine⟨h1,?_⟩
          show (if b=w.heap.size then some (.inv F) else g.h b)=none
          rw[if_neg (by have:=hlt L o b ho hob;omega)];exact h2
        · intro L o b L' o' ho ho' hob hob'
          rw[hobkb] at hob hob'
          exact S.sep L o b L' o' ho ho' hob hob'
      refine zem (by simp[hop]) (v:=.map (some w.heap.size)) (w':=w.alloc (.map #[] 0)) ?_ ⟨⟨h',g.bk,g.sv,g.iv⟩,_,rfl,?_⟩
      · simp[execOp,hop,Instr.makeMap]
      · rw [zbi]
        exact S1.put (d:=.p (.mp F)) hd (Rep.mp F w.heap.size (if_pos rfl)) (zd1 _) _
    · exact dq9 hA hs
  · exact dq9 hA hs
end
end Go.Pm
namespace Go.Pm
variable [DrawZ]
open Go.RowKit (Below)
open Go.MapKept (IsKey findNow_spec run_checkKey)

section
variable {P:Program}{w:World}

abbrev VI (xs:List Int):List Value:=xs.map (Value.int .i64)
def mkI (ag:Bool) (c:List Int):Value:=match ag with
 | true=>zdv c
 | false=>.int .i64 (c.headD 0)

theorem zgp {t : TypeId} {ag : Bool} {n off : Nat} {xs : List Int} (hg : zfx P t = some ag) (hs : szT P t = some n) (h1 : ag = false → n = 1) (hl : off + n ≤ xs.length) :
  (part t (VI xs).toArray off).run P w=.ok (mkI ag ((xs.drop off).take n)) w:=by
 cases ag with
 | true =>
  simp only[part,dqd,zfJ hg,dqb,if_true,run_sizeOf hs,dqe]
  simp[mkI,zdv,List.extract_toArray,List.extract_eq_take_drop,List.map_take,List.map_drop]
 | false =>
  have:=h1 rfl;subst this
  have hlt:off < xs.length:=by omega
  simp only[part,dqd,zfJ hg,dqb,Bool.false_eq_true,if_false]
  rw[show (VI xs).toArray[off]? = some (.int .i64 xs[off]) by simp[hlt]]
  rw[dqR hlt]
  rfl

theorem take_split (xs:List Int) (m k r:Nat):(xs.drop m).take (k+r)=(xs.drop m).take k ++ (xs.drop (m+k)).take r:=by
 rw[List.take_add,List.drop_drop]
theorem zww {a b c d:List Int}(h:a.length=b.length):decide (a ++ c=b ++ d)=(decide (a=b) && decide (c=d)):=by
 by_cases h1:a=b
 ·subst h1;simp
 ·have : ¬ (a ++ c = b ++ d) := fun e => h1 (List.append_inj e h).1
  simp[h1,this]
theorem take_len {xs:List Int}{m k:Nat}(h:m+k<=xs.length):((xs.drop m).take k).length=k:=by
 rw[List.length_take,List.length_drop];omega

theorem zhP {d:Nat}{t:TypeId}{n:Nat}{ag:Bool}(h:zfD P d t=some n) (hg:zfx P t=some ag):ag=false->n=1:=by
 intro e;subst e
 cases d with
 | zero=>simp[zfD] at h
 | succ d =>
  simp only[zfD] at h
  split at h
  ·split at h
   ·split at h
    ·simp only[dqa] at h;exact h.symm
    ·cases h
   ·cases h
  ·rename_i hu;simp[zfx,hu] at hg
  ·rename_i hu;simp[zfx,hu] at hg
  ·cases h

def zpW (P : Program) (d : Nat) : Option Nat → Field → Option Nat := fun acc f => match acc, f.name != "_", zfD P d f.type, szT P f.type with
 | some m,true,some n,some n'=>match Nat.beq f.offset m && Nat.beq n n' with
  | true=>some (m+n)
  | false=>none
 | _,_,_,_=>none
theorem znF {d : Nat} : ∀ l : List Field, l.foldl (zpW P d) none = none
  | []=>rfl
  | f :: l=>by rw[List.foldl_cons,show zpW P d none f=none from rfl];exact znF l
theorem znG {d : Nat} {f : Field} {l : List Field} {m n : Nat} (h : (f :: l).foldl (zpW P d) (some m) = some n) :
  ∃ k, zfD P d f.type = some k ∧ szT P f.type = some k ∧ f.name ≠ "_" ∧ f.offset = m ∧ l.foldl (zpW P d) (some (m + k)) = some n := by
 rw[List.foldl_cons] at h
 cases hs:zpW P d (some m) f with
 | none=>rw[hs,znF] at h;cases h
 | some q =>
  rw[hs] at h
  unfold zpW at hs
  split at hs
  ·rename_i m' k k' e1 e2 e3 e4
   simp only[dqa] at e1;subst e1
   split at hs
   ·rename_i hb
    simp only[dqm] at hb
    have h1:=dqc hb.1
    have h2:=dqc hb.2
    simp only[dqa] at hs
    subst hs;subst h2
    exact⟨k,e3,e4,by simpa using e2,h1,h⟩
   ·cases hs
  ·cases hs

theorem zpX {d : Nat} : ∀ (l : List Field) (m q : Nat), l.foldl (zpW P d) (some m) = some q → m ≤ q ∧ ∀ f ∈ l, f.name ≠ "_" ∧ ∃ k, zfD P d f.type = some k ∧ szT P f.type = some k ∧ f.offset + k ≤ q
  | [],m,q,h=>by
    simp only[List.foldl_nil,dqa] at h;subst h
    exact⟨dqt _,λ f hf=>by simp at hf⟩
  | f :: l,m,q,h=>by
    obtain⟨k,h1,h2,h3,h4,h5⟩:=znG h
    obtain⟨h6,h7⟩:=zpX l (m+k) q h5
    refine⟨by omega,λ g hg=>?_⟩
    rcases dqq.1 hg with rfl | hg
    · exact⟨h3,k,h1,h2,by omega⟩
    · exact h7 g hg
theorem zf6 {d:Nat}{t:TypeId}{n:Nat}(h:zfD P d t=some n):∃ ag,zfx P t=some ag:=by
 cases d with
 | zero=>simp[zfD] at h
 | succ d =>
  simp only[zfD] at h
  cases hu:P.underlying t with
  | none=>rw[hu] at h;cases h
  | some x=>unfold zfx;rw[hu];exact⟨_,rfl⟩

theorem zoI:∀ (d:Nat) (t:TypeId) (n:Nat) (ag:Bool),zfD P d t=some n->zfx P t=some ag->∀ (e:Nat) (xs ys:List Int),xs.length=n->ys.length=n ->
  (Op.equalIn (d+e) t (mkI ag xs) (mkI ag ys)).run P w=.ok (decide (xs=ys)) w
 | 0,t,n,ag,h,_=>by simp[zfD] at h
 | d+1,t,n,ag,h,hg=>by
  intro e xs ys hx hy
  rw[show d+1+e=(d+e)+1 by omega]
  have h0:=h
  simp only[zfD] at h
  split at h
  ·rename_i hu
   have hag:ag=false:=by simp[zfx,hu] at hg;exact hg
   subst hag
   have hn:=zhP h0 hg rfl
   subst hn
   match xs,ys,hx,hy with
   | [x],[y],_,_ =>
    simp only[mkI,List.headD_cons]
    rw[run_equalIn_int w (d+e) t .i64 .i64 x y hu]
    by_cases hxy:x=y <;> simp[hxy]
  ·rename_i fs hu
   split at h
   ·cases h
   ·rename_i hst
    have hag:ag=true:=by simp[zfx,hu] at hg;exact hg
    subst hag
    have hf:P.fieldsOf t=fs:=by simp[Program.fieldsOf,hu]
    simp only[mkI,zdv]
    rw[run_equalIn_struct w (d+e) t _ _ (by rw[hf];exact hu) hst,hf]
    have key:∀ (l:List Field) (m q:Nat),l.foldl (zpW P d) (some m)=some q->q<=xs.length->q<=ys.length ->
      m<=q/\(Op.eqFields (d+e) (VI xs).toArray (VI ys).toArray l).run P w=.ok (decide ((xs.drop m).take (q - m)=(ys.drop m).take (q - m))) w:=by
     intro l
     induction l with
     | nil =>
      intro m q hq _ _
      simp only[List.foldl_nil,dqa] at hq;subst hq
      exact⟨dqt _,by simp[Op.eqFields]⟩
     | cons f l ih =>
      intro m q hq hxl hyl
      obtain⟨k,h1,h2,h3,h4,h5⟩:=znG hq
      obtain⟨hle,hr⟩:=ih (m+k) q h5 hxl hyl
      obtain⟨ag',hag'⟩:=zf6 h1
      have hk1:=zhP h1 hag'
      refine⟨by omega,?_⟩
      have p1:=zgp (w:=w) (xs:=xs) (off:=m) hag' h2 hk1 (by omega)
      have p2:=zgp (w:=w) (xs:=ys) (off:=m) hag' h2 hk1 (by omega)
      have p3:=zoI d f.type k ag' h1 hag' e ((xs.drop m).take k) ((ys.drop m).take k) (take_len (by omega)) (take_len (by omega))
      rw[show q - m=k+(q - (m+k)) by omega,take_split,take_split,zww (by rw[take_len (by omega),take_len (by omega)])]
      simp only[Op.eqFields,h3,ne_eq,not_false_eq_true,if_true,dqd,h4,p1,p2,p3,dqb]
      cases hd:decide (List.take k (List.drop m xs)=List.take k (List.drop m ys)) with
      | false=>simp
      | true=>simpa using hr
    have:=(key fs.toList 0 n h (by omega) (by omega)).2
    rw[this]
    simp only[List.drop_zero,Nat.sub_zero]
    rw[List.take_of_length_le (by omega),List.take_of_length_le (by omega)]
  ·rename_i m0 e0 hu
   split at h
   ·rename_i m m' hm hm'
    split at h
    ·rename_i hb
     have hmm:=dqc hb
     subst hmm
     simp only[dqa] at h
     have hag:ag=true:=by simp[zfx,hu] at hg;exact hg
     subst hag
     obtain⟨ag',hag'⟩:=zf6 hm
     have hk1:=zhP hm hag'
     obtain⟨i,hi,his⟩:∃ i,P.info? e0=some i/\i.size=m:=by
      unfold szT at hm'
      cases hi:P.info? e0 with
      | none=>rw[hi] at hm';cases hm'
      | some i=>rw[hi] at hm';simp only[Option.map_some,dqa] at hm';exact⟨i,rfl,hm'⟩
     have hc:P.cellsOf e0=m:=by simp[Program.cellsOf,hi,his]
     simp only[mkI,zdv]
     rw[run_equalIn_array w (d+e) _ _ hu hi,hc,List.range_eq_range']
     have key:∀ (k s:Nat),(s+k) * m<=xs.length->(s+k) * m<=ys.length->(Op.eqItems (d+e) e0 m (VI xs).toArray (VI ys).toArray (List.range' s k)).run P w=.ok (decide ((xs.drop (s * m)).take (k * m)=(ys.drop (s * m)).take (k * m))) w:=by
      intro k
      induction k with
      | zero=>intro s _ _;simp[Op.eqItems]
      | succ k ih =>
       intro s hxl hyl
       have e1:(s+(k+1)) * m=s * m+(k+1) * m:=Nat.add_mul _ _ _
       have e2:(k+1) * m=m+k * m:=by rw[dqV,Nat.add_comm]
       have e3:(s+1) * m=s * m+m:=dqV _ _
       have hr:=ih (s+1) (by rw[show s+1+k=s+(k+1) by omega];exact hxl) (by rw[show s+1+k=s+(k+1) by omega];exact hyl)
       have p1:=zgp (w:=w) (xs:=xs) (off:=s * m) hag' hm' hk1 (by omega)
       have p2:=zgp (w:=w) (xs:=ys) (off:=s * m) hag' hm' hk1 (by omega)
       have p3:=zoI d e0 m ag' hm hag' e ((xs.drop (s * m)).take m) ((ys.drop (s * m)).take m) (take_len (by omega)) (take_len (by omega))
       rw[e2,take_split,take_split,zww (by rw[take_len (by omega),take_len (by omega)])]
       rw[List.range'_succ]
       simp only[Op.eqItems,dqd,p1,p2,p3,dqb]
       rw[e3] at hr
       cases hd:decide (List.take m (List.drop (s * m) xs)=List.take m (List.drop (s * m) ys)) with
       | false=>simp
       | true=>simpa using hr
     have:=key m0 0 (by rw[Nat.zero_add,h];omega) (by rw[Nat.zero_add,h];omega)
     rw[this]
     simp only[Nat.zero_mul,List.drop_zero,h]
     rw[List.take_of_length_le (by omega),List.take_of_length_le (by omega)]
    ·cases h
   ·cases h
  ·cases h

theorem zit:∀ (d:Nat) (t:TypeId) (n:Nat) (ag em:Bool),zfD P d t=some n->zfx P t=some ag->∀ (e:Nat) (xs:List Int),xs.length=n ->
  (Instr.checkKey em (d+e) t (mkI ag xs)).run P w=.ok () w
 | 0,t,n,ag,em,h,_=>by simp[zfD] at h
 | d+1,t,n,ag,em,h,hg=>by
  intro e xs hx
  rw[show d+1+e=(d+e)+1 by omega]
  have h0:=h
  simp only[zfD] at h
  split at h
  ·rename_i hu
   have hag:ag=false:=by simp[zfx,hu] at hg;exact hg
   subst hag
   simp only[mkI,Instr.checkKey,dqd,run_underlying hu,dqb,dqe]
  ·rename_i fs hu
   split at h
   ·cases h
   ·rename_i hst
    have hag:ag=true:=by simp[zfx,hu] at hg;exact hg
    subst hag
    simp only[mkI,zdv,Instr.checkKey,dqd,run_underlying hu,dqb]
    rw[<- Array.forIn_toList]
    have deep:=(zpX fs.toList 0 n h).2
    clear h h0
    generalize fs.toList=L at deep
    induction L with
    | nil=>simp
    | cons f L ih =>
     obtain⟨hn,k,h1,h2,h3⟩:=deep f (by simp)
     obtain⟨ag',hag'⟩:=zf6 h1
     have p1:=zgp (w:=w) (xs:=xs) (off:=f.offset) hag' h2 (zhP h1 hag') (by omega)
     have p3:=zit d f.type k ag' em h1 hag' e ((xs.drop f.offset).take k) (take_len (by omega))
     simp only[List.forIn_cons,dqd,hn,ne_eq,not_false_eq_true,if_true,dqb,p1,p3,dqe]
     exact ih λ y hy=>deep y (by simp[hy])
  ·rename_i m0 e0 hu
   split at h
   ·rename_i m m' hm hm'
    split at h
    ·rename_i hb
     have hmm:=dqc hb
     subst hmm
     simp only[dqa] at h
     have hag:ag=true:=by simp[zfx,hu] at hg;exact hg
     subst hag
     obtain⟨ag',hag'⟩:=zf6 hm
     have hk1:=zhP hm hag'
     simp only[mkI,zdv,Instr.checkKey,dqd,run_underlying hu,dqb]
     simp only[Std.Legacy.Range.forIn_eq_forIn_range',Std.Legacy.Range.size,Nat.sub_zero,Nat.add_one_sub_one,Nat.div_one]
     have deep:∀ i∈List.range' 0 m0,i * m+m<=xs.length:=λ i hi=>by
      have hlt:i < m0:=by simp at hi;exact hi
      have:(i+1) * m<=m0 * m:=dqw _ hlt
      rw[dqV] at this
      omega
     generalize List.range' 0 m0=is at deep
     induction is with
     | nil=>simp
     | cons i is ih =>
      have h3:=deep i (by simp)
      have p1:=zgp (w:=w) (xs:=xs) (off:=i * m) hag' hm' hk1 h3
      have p3:=zit d e0 m ag' em hm hag' e ((xs.drop (i * m)).take m) (take_len h3)
      simp only[List.forIn_cons,dqd,run_sizeOf hm',dqb,p1,p3,dqe]
      exact ih λ y hy=>deep y (by simp[hy])
    ·cases h
   ·cases h
  ·cases h

theorem zvi (kf:KF) (c:List Int):Instr.sameBits 10000 (zcl kf c) (zcl kf c)=true:=by
 cases kf with
 | one=>simp[zcl,Instr.sameBits]
 | bools =>
  have key:∀ (l:List Int) (m:Nat),((l.map zhN).zip (l.map zhN)).all (λ (x,y)=>Instr.sameBits (m+1) x y)=true:=by
   intro l m
   induction l with
   | nil=>rfl
   | cons a l ih =>
    simp only[dqK,List.zip_cons_cons,List.all_cons,dqm]
    exact⟨by simp[Instr.sameBits,zhN],ih⟩
  simp only[zcl,Instr.sameBits]
  simp only[beq_self_eq_true,Bool.true_and]
  exact key c 9998
 | ints =>
  have key:∀ (l:List Int) (m:Nat),((VI l).zip (VI l)).all (λ (x,y)=>Instr.sameBits (m+1) x y)=true:=by
   intro l m
   induction l with
   | nil=>rfl
   | cons a l ih =>
    simp only[VI,dqK,List.zip_cons_cons,List.all_cons,dqm]
    exact⟨by simp[Instr.sameBits],ih⟩
  simp only[zcl,zdv,Instr.sameBits]
  simp only[beq_self_eq_true,Bool.true_and]
  exact key c 9998

theorem zCS {x y:Int}(hx:x=0\/x=1) (hy:y=0\/y=1):((x != 0) == (y != 0))=decide (x=y):=by
 rcases hx with rfl | rfl <;> rcases hy with rfl | rfl <;> rfl
theorem znH {t:TypeId}{n:Nat}(h:zny P t=some n):∃ e,P.underlying t=some (.array n e)/\P.underlying e=some .bool/\szT P e=some 1/\zfx P t=some true/\zfx P e=some false:=by
 unfold zny at h
 split at h
 ·rename_i n' e hu
  split at h
  ·rename_i m he hs
   split at h
   ·rename_i hb
    have hm:=dqc hb
    subst hm
    simp only[dqa] at h
    subst h
    exact⟨e,hu,he,hs,by simp[zfx,hu],by simp[zfx,he]⟩
   ·cases h
  ·cases h
 ·cases h
theorem zkv {t : TypeId} {off : Nat} {xs : List Int} (hg : zfx P t = some false) (hl : off < xs.length) :
  (part t (xs.map zhN).toArray off).run P w=.ok (zhN xs[off]) w:=by
 simp only[part,dqd,zfJ hg,dqb,Bool.false_eq_true,if_false]
 rw[show (xs.map zhN).toArray[off]? = some (zhN xs[off]) by simp[hl]]
 rfl
theorem zCT {t : TypeId} {n : Nat} (h : zny P t = some n) (d : Nat) {xs ys : List Int} (hx : xs.length = n) (hy : ys.length = n) (cx : zpG .bools xs) (cy : zpG .bools ys) :
  (Op.equalIn (d+2) t (zcl .bools xs) (zcl .bools ys)).run P w=.ok (decide (xs=ys)) w:=by
 obtain⟨e0,hu,he,hs,hag,hage⟩:=znH h
 obtain⟨i,hi,his⟩:∃ i,P.info? e0=some i/\i.size=1:=by
  unfold szT at hs
  cases hi:P.info? e0 with
  | none=>rw[hi] at hs;cases hs
  | some i=>rw[hi] at hs;simp only[Option.map_some,dqa] at hs;exact⟨i,rfl,hs⟩
 have hc:P.cellsOf e0=1:=by simp[Program.cellsOf,hi,his]
 simp only[zcl]
 rw[show d+2=(d+1)+1 from rfl,run_equalIn_array w (d+1) _ _ hu hi,hc,List.range_eq_range']
 have key:∀ (k s:Nat),s+k<=xs.length->s+k<=ys.length->(Op.eqItems (d+1) e0 1 (xs.map zhN).toArray (ys.map zhN).toArray (List.range' s k)).run P w=.ok (decide ((xs.drop s).take k=(ys.drop s).take k)) w:=by
  intro k
  induction k with
  | zero=>intro s _ _;simp[Op.eqItems]
  | succ k ih =>
   intro s hxl hyl
   have hr:=ih (s+1) (by omega) (by omega)
   have p1:=zkv (w:=w) (xs:=xs) (off:=s) hage (by omega)
   have p2:=zkv (w:=w) (xs:=ys) (off:=s) hage (by omega)
   have p3:(Op.equalIn (d+1) e0 (zhN (xs[s]'(by omega))) (zhN (ys[s]'(by omega)))).run P w=.ok (decide (xs[s]'(by omega)=ys[s]'(by omega))) w:=by
    rw[zhN,zhN,run_equalIn_bool w d e0 _ _ he,zCS (cx _ (List.getElem_mem _)) (cy _ (List.getElem_mem _))]
   rw[dqR (show s < xs.length by omega),dqR (show s < ys.length by omega),List.take_succ_cons,List.take_succ_cons,List.range'_succ]
   simp only[Op.eqItems,dqd,Nat.mul_one,p1,p2,p3,dqb]
   by_cases hd:xs[s]'(by omega)=ys[s]'(by omega)
   ·simp only [hd, decide_true, if_true, dqy, true_and]
    exact hr
   ·simp[hd]
 have:=key n 0 (by omega) (by omega)
 rw[this,List.drop_zero,List.drop_zero,List.take_of_length_le (by omega),List.take_of_length_le (by omega)]
theorem zrt {t : TypeId} {n : Nat} {em : Bool} (h : zny P t = some n) (d : Nat) {xs : List Int} (hx : xs.length = n) :
  (Instr.checkKey em (d+2) t (zcl .bools xs)).run P w=.ok () w:=by
 obtain⟨e0,hu,he,hs,hag,hage⟩:=znH h
 have p3:∀ x,(Instr.checkKey em (d+1) e0 (zhN x)).run P w=.ok () w:=λ x=>by
  simp only[zhN,Instr.checkKey,dqd,run_underlying he,dqb,dqe]
 rw[show d+2=(d+1)+1 from rfl]
 generalize d+1=d' at p3 ⊢
 simp only[zcl,Instr.checkKey,dqd,run_underlying hu,dqb]
 simp only[Std.Legacy.Range.forIn_eq_forIn_range',Std.Legacy.Range.size,Nat.sub_zero,Nat.add_one_sub_one,Nat.div_one]
 have deep:∀ i∈List.range' 0 n,i < xs.length:=λ i hi=>by
  have hlt:i < n:=by simp at hi;exact hi
  omega
 generalize List.range' 0 n=is at deep
 induction is with
 | nil=>simp
 | cons i is ih =>
  have h3:=deep i (by simp)
  have p1:=zkv (w:=w) (xs:=xs) (off:=i) hage h3
  simp only[List.forIn_cons,dqd,run_sizeOf hs,Nat.mul_one,dqb,p1,p3,dqe]
  exact ih λ y hy=>deep y (by simp[hy])
theorem zjS {k : TypeId} {kf : KF} {n : Nat} (h : zCy P k = some (kf, n)) :
  (kf=.ints/\zfD P 8 k=some n/\zfx P k=some true)\/(kf=.one/\zfD P 8 k=some n/\zfx P k=some false/\n=1)\/(kf=.bools/\zny P k=some n/\zfx P k=some true):=by
 unfold zCy at h
 split at h
 ·rename_i h1 h2;simp only[dqa,dqh] at h;obtain⟨rfl,rfl⟩:=h;exact .inl ⟨rfl,h1,h2⟩
 ·rename_i h1 h2
  split at h
  ·rename_i hb;simp only[dqa,dqh] at h;obtain⟨rfl,rfl⟩:=h;exact .inr (.inl ⟨rfl,h1,h2,dqc hb⟩)
  ·cases h
 ·rename_i h1 h2
  split at h
  ·rename_i m hm;simp only[dqa,dqh] at h;obtain⟨rfl,rfl⟩:=h;exact .inr (.inr ⟨rfl,hm,h2⟩)
  ·cases h
 ·cases h
theorem zhQ {k:TypeId}{kf:KF}{n:Nat}(h:zCy P k=some (kf,n)):kf=.one->n=1:=by
 rintro rfl
 rcases zjS h with ⟨e,_⟩ | ⟨_,_,_,h⟩ | ⟨e,_⟩
 ·cases e
 ·exact h
 ·cases e
theorem zKt {k : TypeId} {kf : KF} {n : Nat} (h : zCy P k = some (kf, n)) {xs ys : List Int} (hx : xs.length = n) (hy : ys.length = n) (cx : zpG kf xs) (cy : zpG kf ys) :
  (Op.equalIn 10000 k (zcl kf xs) (zcl kf ys)).run P w=.ok (decide (xs=ys)) w:=by
 rcases zjS h with ⟨rfl,h1,h2⟩ | ⟨rfl,h1,h2,_⟩ | ⟨rfl,h1,h2⟩
 ·exact zoI (w:=w) 8 k n true h1 h2 9992 xs ys hx hy
 ·exact zoI (w:=w) 8 k n false h1 h2 9992 xs ys hx hy
 ·exact zCT (w:=w) h1 9998 hx hy cx cy
theorem zjT {k : TypeId} {kf : KF} {n : Nat} (em : Bool) (h : zCy P k = some (kf, n)) {xs : List Int} (hx : xs.length = n) :
  (Instr.checkKey em 10000 k (zcl kf xs)).run P w=.ok () w:=by
 rcases zjS h with ⟨rfl,h1,h2⟩ | ⟨rfl,h1,h2,_⟩ | ⟨rfl,h1,h2⟩
 ·exact zit (w:=w) 8 k n true em h1 h2 9992 xs hx
 ·exact zit (w:=w) 8 k n false em h1 h2 9992 xs hx
 ·exact zrt (w:=w) h1 9998 hx

theorem ziC {kt n:Nat}{ag:KF}(h:zCy P kt=some (ag,n)) {c:List Int}(hc:c.length=n) (hcc:zpG ag c):∀ (es:List MapEntry) (en:List (List Int×List Int)) (i:Nat),
  es.map (·.key)=en.map (λ x=>zcl ag x.1)->(∀ x∈en,x.1.length=n/\zpG ag x.1) ->
   ((Instr.findAsking kt (zcl ag c) es i).run P w=.ok none w/\∀ x∈en,x.1 ≠ c) \/
   ∃ (j:Nat) (e:MapEntry) (v:List Int),(Instr.findAsking kt (zcl ag c) es i).run P w=.ok (some (i+j,e.val)) w/\es[j]? = some e/\en[j]? = some (c,v)
 | [],[],i,_,_=>.inl ⟨by simp[Instr.findAsking],by simp⟩
 | [],_ :: _,i,hk,_=>by simp at hk
 | _ :: _,[],i,hk,_=>by simp at hk
 | e :: es,(k,v) :: en,i,hk,hl=>by
  simp only[dqK,dqy] at hk
  have q:=zKt (w:=w) h hc (hl _ dqj).1 hcc (hl _ dqj).2
  have q':(Op.equal kt (zcl ag c) e.key).run P w=.ok (decide (c=k)) w:=by rw[hk.1];exact q
  by_cases hck:c=k
  ·subst hck
   refine .inr ⟨0,e,v,?_,rfl,rfl⟩
   simp only[Instr.findAsking,dqd,q',dqb,decide_true,if_true,dqe,Nat.add_zero]
  ·rcases ziC h hc hcc es en (i + 1) hk.2 (fun x hx => hl x (dqf _ hx)) with ⟨h1, h2⟩ | ⟨j, e', v', h1, h2, h3⟩
   ·refine .inl ⟨?_, fun x hx => ?_⟩
    ·simp only [Instr.findAsking, dqd, q', dqb, hck, decide_false, Bool.false_eq_true, if_false]
     exact h1
    ·rcases dqq.1 hx with rfl | hx
     ·exact λ e=>hck e.symm
     ·exact h2 x hx
   ·refine .inr ⟨j + 1, e', v', ?_, by simpa using h2, by simpa using h3⟩
    simp only[Instr.findAsking,dqd,q',dqb,hck,decide_false,Bool.false_eq_true,if_false]
    rw[h1,show i+1+j=i+(j+1) by omega]

theorem run_findKey {kt n : Nat} {ag : KF} (h : zCy P kt = some (ag, n)) {c : List Int} (hc : c.length = n) (hcc : zpG ag c) (es : List MapEntry) (en : List (List Int × List Int))
    (hk : es.map (·.key) = en.map (fun x => zcl ag x.1)) (hl : ∀ x ∈ en, x.1.length = n ∧ zpG ag x.1) :
      ((Instr.findKey kt (zcl ag c) es).run P w=.ok none w/\∀ x∈en,x.1 ≠ c) \/
      ∃ (j:Nat) (e:MapEntry) (v:List Int),(Instr.findKey kt (zcl ag c) es).run P w=.ok (some (j,e.val)) w/\es[j]? = some e/\en[j]? = some (c,v):=by
  by_cases hone:ag=.one
  · subst hone
    have hn:=zhQ h rfl
    subst hn
    have hu:P.underlying kt=some (.int .i64):=by
      obtain⟨h,hg⟩:zfD P 8 kt=some 1/\zfx P kt=some false:=by
        rcases zjS h with ⟨e,_⟩ | ⟨_,h1,h2,_⟩ | ⟨e,_⟩
        · cases e
        · exact⟨h1,h2⟩
        · cases e
      simp only[zfD] at h
      split at h
      · assumption
      · rename_i hu;simp[zfx,hu] at hg
      · rename_i hu;simp[zfx,hu] at hg
      · cases h
    match c,hc with
    | [a],_ =>
      have hkeys:∀ x∈es,IsKey (.int .i64) x.key:=by
        intro x hx
        have:x.key∈en.map (λ x=>zcl .one x.1):=hk ▸ dqz.2 ⟨x,hx,rfl⟩
        obtain⟨y,_,hy⟩:=dqz.1 this
        rw[<- hy]
        exact zgT _
      have hat:∀ (j:Nat) (e:MapEntry),es[j]? = some e->∃ k v,en[j]? = some ([k],v)/\e.key=.int .i64 k:=by
        intro j e he
        have h1:(es.map (·.key))[j]? = some e.key:=by simp[he]
        rw[hk] at h1
        simp only[dqH,dqv] at h1
        obtain⟨⟨k,v⟩,h2,h3⟩:=h1
        have hkl:=(hl _ (dqx h2)).1
        match k,hkl with
        | [k0],_=>exact⟨k0,v,h2,h3.symm⟩
      simp only[zcl,List.headD_cons]
      rcases findNow_spec (zgT a) es 0 hkeys with ⟨h1,h2⟩ | ⟨jj,e',h1,h2,h3⟩
      · refine .inl ⟨by simp only [Instr.findKey, dqd, run_underlying hu, dqb, h1, dqe], fun x hx e => ?_⟩
        obtain⟨j,hj⟩:=List.getElem?_of_mem hx
        have hlen:es.length=en.length:=by have:=congrArg List.length hk;simpa using this
        have hjl:j < es.length:=by rw[hlen];exact (dqn.1 hj).1
        obtain⟨k,v,h4,h5⟩:=hat j es[j] (dqD hjl)
        rw[hj] at h4
        simp only[dqa] at h4
        rw[h4] at e
        simp only[dqy,and_true] at e
        subst e
        exact h2 es[j] (List.getElem_mem hjl) h5
      · obtain ⟨k, v, h4, h5⟩ := hat jj e' h2
        rw[h3] at h5
        simp only[Value.int.injEq,true_and] at h5
        subst h5
        exact .inr ⟨jj,e',v,by simp only[Instr.findKey,dqd,run_underlying hu,dqb,h1,dqe,Nat.zero_add],h2,h4⟩
  · have hg:zfx P kt=some true:=by
      rcases zjS h with ⟨_,_,h2⟩ | ⟨e,_⟩ | ⟨_,_,h2⟩
      · exact h2
      · exact absurd e hone
      · exact h2
    have hkv:∀ c:List Int,∃ l,zcl ag c=.agg l:=λ c=>by
      cases ag with
      | one=>exact absurd rfl hone
      | ints=>exact⟨_,rfl⟩
      | bools=>exact⟨_,rfl⟩
    match es,en,hk with
    | [],[],_ =>
      refine .inl ⟨?_,by simp⟩
      obtain⟨x,hu⟩:∃ x,P.underlying kt=some x:=by
        cases hu:P.underlying kt with
        | none=>simp[zfx,hu] at hg
        | some x=>exact⟨x,rfl⟩
      simp only[Instr.findKey,dqd,run_underlying hu,dqb,Instr.findNow,dqe]
    | [],_ :: _,hk=>simp at hk
    | _ :: _,[],hk=>simp at hk
    | e :: es,x :: en,hk =>
      have hke:e.key=zcl ag x.1:=by simp only[dqK,dqy] at hk;exact hk.1
      have hf:(Instr.findKey kt (zcl ag c) (e :: es)).run P w=(Instr.findAsking kt (zcl ag c) (e :: es)).run P w:=by
        obtain⟨y,hu⟩:∃ y,P.underlying kt=some y:=by
          cases hu:P.underlying kt with
          | none=>simp[zfx,hu] at hg
          | some y=>exact⟨y,rfl⟩
        have hs:Instr.findNow y (zcl ag c) (e :: es) 0=none:=by
          obtain⟨l1,e1⟩:=hkv c
          obtain⟨l2,e2⟩:=hkv x.1
          simp only[Instr.findNow,hke,e1,e2]
          have:Instr.sameNow y (.agg l1) (.agg l2)=none:=by
            cases y <;> rfl
          rw[this]
        simp only[Instr.findKey,dqd,run_underlying hu,dqb,hs]
      rw[hf]
      rcases ziC (w:=w) h hc hcc (e :: es) (x :: en) 0 hk hl with h1 | ⟨j,e',v,h1,h2,h3⟩
      · exact .inl h1
      · exact .inr ⟨j,e',v,by rw[h1,Nat.zero_add],h2,h3⟩

theorem zkw {c : List Int} : ∀ {en : List (List Int × List Int)}, (∀ x ∈ en, x.1 ≠ c) → zfk c en = none
  | [],_=>rfl
  | (k,v) :: r,h=>by
    simp only[zfk]
    rw[if_neg (h _ dqj)]
    exact zkw λ x hx=>h x (dqf _ hx)
theorem zgq {c v : List Int} : ∀ {en : List (List Int × List Int)} {j : Nat}, (en.map (·.1)).Nodup → en[j]? = some (c, v) → zfk c en = some v
  | [],j,_,h=>by simp at h
  | (k,u) :: r,j,hn,h=>by
    simp only[dqK,List.nodup_cons] at hn
    simp only[zfk]
    cases j with
    | zero=>simp at h;rw[if_pos h.1,h.2]
    | succ j =>
      simp only[dqC] at h
      rw[if_neg (λ e=>hn.1 (dqz.2 ⟨_,dqx h,e.symm⟩))]
      exact zgq hn.2 h

end
end Go.Pm
