/- Part 1 of what the proof rests on: a machine that runs functions of the program on pure values, proved sound; the functions that the law reaches, what they compute, and plain laws of that. -/
import Derived.CallsIn
import Derived.Laws.AppendOwn
import Derived.Laws.Rows
import Derived.Laws.Cells
import Derived.Below
import Derived.DefersIn
import Derived.Laws.World
import Derived.Laws.StructEq
import Derived.MapKept
import Derived.Laws.AppendOwnNone
set_option linter.all false
noncomputable section
namespace Go.Pm
def bJ:=@Option.some.injEq
def fM:=@Result.andThen_ok
def jb:=@Nat.eq_of_beq_eq_true
def fD:=@Sem.run_bind
def iT:=@Sem.run_pure
def je:=@List.mem_cons_of_mem
def dL:=@List.mem_append
def eF:=@Prod.mk.injEq
def jM:=@List.mem_singleton
def kR:=@List.mem_cons_self
def dqk:=@Bool.false_ne_true
def rE:=@Array.getD_eq_getD_getElem?
def fE:=@Bool.and_eq_true
def wW:=@List.getElem?_eq_some_iff
def jE:=@List.mem_flatMap
def RX:=@Array.getElem?_eq_some_iff
def jf:=@List.mem_cons
def Oi:=@List.length_cons
def C9:=@List.getElem?_take
def iZ:=@Nat.le_refl
def RY:=@List.length_append
def RZ:=@Option.map_eq_some_iff
def KP:=@Nat.mul_le_mul_right
def DW:=@List.mem_of_getElem?
def Bq:=@List.cons.injEq
def vC:=@List.mem_map
def SC:=@List.getElem?_cons_succ
def zL:=@List.getElem?_eq_getElem
def Bv:=@Nat.le_trans
def VJ:=@List.getElem?_map
def dqI:=@List.getElem?_drop
def lJ:=@List.flatMap_cons
def nG:=@List.map_cons
def SE:=@List.length_nil
def dqM:=@List.getElem?_eq_none
def dqO:=@List.drop_eq_nil_of_le
def dqR:=@List.drop_eq_getElem_cons
def dqS:=@Nat.lt_of_lt_of_le
def dqU:=@beq_eq_false_iff_ne
def Oj:=@Nat.succ_mul
def Si:=@Nat.not_lt_zero

inductive KF where
  | one
  | ints
instance KF.dec:DecidableEq KF:=λ a b=>match a,b with
 | .one,.one=>isTrue rfl
 | .ints,.ints=>isTrue rfl
 | .one,.ints=>isFalse (λ h=>by cases h)
 | .ints,.one=>isFalse (λ h=>by cases h)
abbrev MQ:=KF×Nat×Bool×List (Option IntKind)

inductive PV where
  | bool (b:Bool)
  | int (k:IntKind) (n:Int)
  | nilp
  | nilf
  | nilm
  | nils
  | fp (cells:List PV) (off:Nat)
  | sl (len size:Nat) (get:Nat->List PV)
  | fn (f:FuncId) (first caps:List PV)
  | fna (f:FuncId) (cells:List PV)

def smB : Nat → PV → PV → Bool
  | 0,_,_=>false
  | d+1,x,y=>match x,y with
    | .int k _,.int k' _=>decide (k=k')
    | .bool _,.bool _=>true
    | .sl _ s g,.sl _ s' g'=>Nat.beq s s' && (Nat.beq (g 0).length (g' 0).length && ((g 0).zip (g' 0)).all λ z=>smB d z.1 z.2)
    | .fp l o,.fp l' o'=>Nat.beq o o' && (Nat.beq l.length l'.length && (l.zip l').all λ z=>smB d z.1 z.2)
    | .nils,.nils=>true
    | .nilp,.nilp=>true
    | .nilf,.nilf=>true
    | .nilm,.nilm=>true
    | _,_=>false
def smL (l m:List PV):Bool:=Nat.beq l.length m.length && (l.zip m).all λ z=>smB 8 z.1 z.2

inductive o6 where
  | v (v:PV)
  | b (L:Nat)

inductive Cl where
  | p (v:PV)
  | ptr (L off:Nat)
  | vptr (L size i k:Nat)
  | vec (L:Nat)
  | mo (L:Nat)
  | clo (f:FuncId) (caps:List o6)
  | undef
  | junk
  | dead (L:Nat)

inductive D1 where
  | c (x:Cl)
  | agg (cs:List Cl)

inductive DV where
  | one (d:D1)
  | tup (ds:List D1)

inductive AO where
  | box (ty:Nat) (cells:List Cl)
  | fbox (cells:List PV)
  | vec (ety size bytes len:Nat) (get:Nat->List PV)
  | fvec (size len:Nat) (get:Nat->List PV)
  | vv (te bb ety size bytes len:Nat) (ln:Nat->Nat) (get:Nat->Nat->List PV)
  | vt (te bb ety size bytes len:Nat) (ln:Nat->Nat) (get:Nat->Nat->List PV) (hole:Nat)
  | mo (kt vt:Nat) (q:MQ) (n:Nat) (F:List Int->Option (List Int))
  | gone

inductive PA where
  | one (v:PV)
  | agg (cs:List PV)

structure ae (ρ : Type) where
  T : {A:Type}->(ρ->Option A)->Option A
  nat:∀ {A:Type} (k:ρ->Option A),T k=(T some).bind k
abbrev ae.o {ρ:Type}(c:ae ρ):Option ρ:=c.T some
def ae.no {ρ:Type} : ae ρ:=⟨λ _=>none,λ _=>rfl⟩
def ae.ok {ρ:Type}(r:ρ):ae ρ:=⟨λ k=>k r,λ _=>rfl⟩

inductive zS where
  | none
  | clone (ety size bytes:Nat)
  | sort (ety size bytes:Nat)
  | mkv (e s b:Nat) (F:List PA->ae (Nat×(Nat->List PV)×List PV))
  | grow (e s b:Nat) (F:List PA->Nat->(Nat->List PV)->ae (Nat×(Nat->List PV)))

inductive XC where
  | p (v:PV)
  | vec (e s b n:Nat) (get:Nat->List PV)
  | mo (kt vt:Nat) (q:MQ) (n:Nat) (F:List Int->Option (List Int))
  | slf (f:FuncId) (np n:Nat)
inductive XA where
  | d (a:PA)
  | box (ty:Nat) (cells:List XC)
abbrev MK:=List XA->ae (List PA×List XA)

structure aX where
  fn:FuncId->List PA->ae (List PA)
  own:FuncId->zS
  it:FuncId->List PA->ae (List (List PA))
  vv:Nat->Bool
  mt:FuncId->Option MK
  cfn:FuncId->List PA->ae (List PA)

def lk {α : Type} : List (Nat × α) → Nat → Option α
  | [],_=>none
  | (k,a) :: r,n=>match Nat.beq k n with | true=>some a | false=>lk r n

structure St where
  env:List (Nat×DV)
  aB:List (Nat×AO)
  log:List (Nat×Nat×Nat)

abbrev DV.p (v:PV):DV:=.one (.c (.p v))
abbrev DV.int (n:Int):DV:=.one (.c (.p (.int .i64 n)))
abbrev DV.bool (b:Bool):DV:=.one (.c (.p (.bool b)))
abbrev DV.cl (x:Cl):DV:=.one (.c x)
abbrev DV.junk:DV:=.one (.c .junk)

def rF : Value → Option PV
  | .bool b=>some (.bool b)
  | .int k n=>some (.int k n)
  | .pointer none=>some .nilp
  | .slice none 0 0=>some .nils
  | .nilFunc=>some .nilf
  | .map none=>some .nilm
  | _=>none

def gZ : List Value → Option (List Cl)
  | []=>some []
  | v :: r=>match rF v,gZ r with
    | some x,some l=>some (.p x :: l)
    | _,_=>none

def Jr (v:Value):DV :=
 match v with
 | .agg cs=>match gZ cs.toList with
  | some l=>.one (.agg l)
  | none=>.junk
 | v=>match rF v with
  | some x=>.p x
  | none=>.junk

def eH (env : List (Nat × DV)) : Operand → DV
  | .tmp t=>match lk env t with | some d=>d | none=>.junk
  | .const v=>Jr v
  | .func f=>.p (.fn f [] [])
  | .global _=>.junk

section
variable (P:Program)

def mg (t:TypeId):Option Nat:=(P.info? t).map (·.size)
def ig (t : TypeId) : Option Bool := (P.underlying t).map fun
  | .struct _=>true
  | .array _ _=>true
  | _=>false
def fA (t:TypeId):Option (List Cl) :=
 match P.info? t with
 | some i=>match i.zero with
  | some z=>match gZ z.cells.toList with
   | some l=>if l.length=i.size then some l else none
   | none=>none
  | none=>none
 | none=>none
end

def D1.cells : D1 → List Cl
  | .c x=>[x]
  | .agg cs=>cs

def spl {α : Type} : List α → Nat → List α → List α
  | l,_,[]=>l
  | l,off,x :: r=>spl (l.set off x) (off+1) r

def iO : List Cl → Option (List PV)
  | []=>some []
  | .p v :: r=>match iO r with | some l=>some (v :: l) | none=>none
  | _=>none

def wo (ob : Nat → Option AO) : Cl → Option (PV × List (Nat × AO))
  | .p v=>some (v,[])
  | .vec L=>match ob L with
    | some (.vec _ size _ len get)=>some (.sl len size get,[(L,.fvec size len get)])
    | some (.fvec size len get)=>some (.sl len size get,[])
    | some (.vv _ _ _ size _ n ln get)=>some (.sl n 1 (λ i=>[.sl (ln i) size (get i)]),[(L,.fvec 1 n (λ i=>[.sl (ln i) size (get i)]))])
    | _=>none
  | _=>none

def ik (ob : Nat → Option AO) : List Cl → Option (List PV × List (Nat × AO))
  | []=>some ([],[])
  | x :: r=>match wo ob x,ik ob r with
    | some (v,u),some (l,us)=>some (v :: l,u ++ us)
    | _,_=>none

def I5 (ob : Nat → Option AO) : Cl → Option (PV × List (Nat × AO))
  | .ptr L off=>match ob L with
    | some (.box _ cells)=>match ik ob cells with
      | some (l,us)=>some (.fp l off,us ++ [(L,.fbox l)])
      | none=>none
    | some (.fbox l)=>some (.fp l off,[])
    | _=>none
  | x=>wo ob x

def kG (ob : Nat → Option AO) : List Cl → Option (List PV × List (Nat × AO))
  | []=>some ([],[])
  | x :: r=>match I5 ob x,kG ob r with
    | some (v,u),some (l,us)=>some (v :: l,u ++ us)
    | _,_=>none

def DX (ob : Nat → Option AO) : Cl → Option (PV × List (Nat × AO))
  | .ptr L off=>match ob L with
    | some (.box _ cells)=>match kG ob cells with
      | some (l,us)=>some (.fp l off,us ++ [(L,.fbox l)])
      | none=>none
    | some (.fbox l)=>some (.fp l off,[])
    | _=>none
  | x=>wo ob x

def oK (ob : Nat → Option AO) : List Cl → Option (List PV × List (Nat × AO))
  | []=>some ([],[])
  | x :: r=>match DX ob x,oK ob r with
    | some (v,u),some (l,us)=>some (v :: l,u ++ us)
    | _,_=>none
def Yc : o6 → Cl
  | .v v=>.p v
  | .b L=>.ptr L 0
def frz (ob : Nat → Option AO) : Cl → Option (PV × List (Nat × AO))
  | .clo f caps=>match oK ob (caps.map Yc) with
    | some (l,us)=>some (.fn f [] l,us)
    | none=>none
  | x=>DX ob x

def o7 (ob : Nat → Option AO) : List Cl → Option (List PV × List (Nat × AO))
  | []=>some ([],[])
  | x :: r=>match frz ob x,o7 ob r with
    | some (v,u),some (l,us)=>some (v :: l,u ++ us)
    | _,_=>none

def wu (ob : Nat → Option AO) : DV → Option (PA × List (Nat × AO))
  | .one (.c x)=>match frz ob x with | some (v,u)=>some (.one v,u) | none=>none
  | .one (.agg cs)=>match o7 ob cs with | some (l,u)=>some (.agg l,u) | none=>none
  | _=>none

def fQ (ob : Nat → Option AO) : List DV → Option (List PA × List (Nat × AO))
  | []=>some ([],[])
  | x :: r=>match wu ob x,fQ ob r with
    | some (v,u),some (l,us)=>some (v :: l,u ++ us)
    | _,_=>none

def jr : List o6 → List Nat
  | []=>[]
  | .v _ :: r=>jr r
  | .b L :: r=>L :: jr r
def bi : Cl → List Nat
  | .ptr L _=>[L]
  | .vptr L _ _ _=>[L]
  | .vec L=>[L]
  | .mo L=>[L]
  | .clo _ caps=>jr caps
  | .dead L=>[L]
  | _=>[]
def cZ : D1 → List Nat
  | .c x=>bi x
  | .agg cs=>cs.flatMap bi
def bY : DV → List Nat
  | .one d=>cZ d
  | .tup ds=>ds.flatMap cZ
def dJ : AO → List Nat
  | .box _ cs=>cs.flatMap bi
  | _=>[]
def bF (ob:Nat->Option AO) (d:DV):List Nat :=
 (bY d).flatMap λ L=>L :: match ob L with
  | some o=>(dJ o).flatMap λ M=>M :: match ob M with | some o'=>dJ o' | none=>[]
  | none=>[]

def Dc : PA → D1
  | .one v=>.c (.p v)
  | .agg cs=>.agg (cs.map .p)
def resD : List PA → DV
  | [x]=>.one (Dc x)
  | l=>.tup (l.map Dc)

structure CP where
  p:Prop
  b:Bool
  h:b=true->p
instance cpOf (p:Prop) [Decidable p]:CoeDep Prop p CP:=⟨⟨p,decide p,of_decide_eq_true⟩⟩
abbrev CP.no (p:Prop):CP:=⟨p,false,λ h=>by cases h⟩
inductive aH : Type 1 where
  | no
  | val (fp:List (Nat×Bool)) (d:DV) (u:List (Nat×AO)) (kill:List Nat)
  | chk (fp:List (Nat×Bool)) (safe:CP) (d:DV) (u:List (Nat×AO)) (kill:List Nat)

def iD : PV → Bool
  | .bool _=>true
  | .int _ _=>true
  | _=>false
def zbz : PA → Bool
  | .one v=>iD v
  | .agg cs=>cs.all iD
def Ov (l:List PA):Bool:=l.all zbz

def rd (l:List Nat):List (Nat×Bool):=l.map λ L=>(L,false)
def wr (l:List Nat):List (Nat×Bool):=l.map λ L=>(L,true)

def sc2 (l:List PV):Bool:=l.all iD && Nat.ble 2 l.length
def zbA : List PV → Bool
  | a :: b :: r=>!(iD a && iD b) && zbA (b :: r)
  | _=>true
def zly : Nat × AO → Bool
  | (_,.fbox l)=>zbA l
  | (_,.gone)=>true
  | _=>false
def VK : List (Nat × AO) → Bool
  | [(_,.fbox l),(_,.fbox [.fp _ _])]=>l.all λ v=>!iD v
  | _=>false
inductive Anch : PV → Prop
  | scal (v:PV) (h:iD v=true):Anch v
  | nils:Anch .nils
  | sl (n s:Nat) (get:Nat->List PV) (h:∀ i:Nat,∃ (j:Nat) (x:PV),(get i)[j]? = some x/\iD x=true) (h2:∀ (i:Nat) (x:PV),x∈get i->Anch x):Anch (.sl n s get)
def wG : Nat → PV → Bool
  | 0,_=>false
  | d+1,v=>match v with
    | .nils=>true
    | .sl _ _ g=>(g 0).any iD && (g 0).all (wG d)
    | v=>iD v
def Ox (u:List (Nat×AO)) (r:List PA):Bool:=match r,u with
 | [.one (.sl n s get)],_ :: _=>match sc2 (get 0) with
  | true=>u.all zly
  | false=>VK u && wG 8 (.sl n s get)
 | _,_=>false
def jm (gK:List Nat) (u:List (Nat×AO)) (r:List PA):aH :=
 match Ov r || Ox u r with
 | true=>.val (rd gK) (resD r) [] []
 | false=>.val (wr gK) (resD r) u []

def kS (isAgg:Bool) (n:Nat) (cells:List Cl) (off:Nat):Option D1 :=
  match isAgg with
  | true => let l := (cells.drop off).take n
    match Nat.beq l.length n with
    | true=>some (.agg l)
    | false=>none
  | false=>match cells[off]? with
    | some x=>some (.c x)
    | none=>none

def D1.isAgg : D1 → Bool
  | .c _=>false
  | .agg _=>true

def xQ : Cl → Bool
  | .junk=>false
  | .undef=>false
  | .dead _=>false
  | _=>true

def kC : Cl → List Nat
  | .vptr L _ _ _=>[L]
  | .vec L=>[L]
  | .dead L=>[L]
  | .mo L=>[L]
  | _=>[]
def o8 : D1 → List Nat
  | .c x=>kC x
  | .agg cs=>cs.flatMap kC
def jF : DV → List Nat
  | .one d=>o8 d
  | .tup ds=>ds.flatMap o8
def lU : AO → List Nat
  | .box _ cs=>cs.flatMap kC
  | _=>[]

def appG (n:Nat) (get new:Nat->List PV):Nat->List PV :=
 λ j=>match Nat.ble n j with | true=>new (j - n) | false=>get j
def xR (i k:Nat) (get:Nat->List PV) (new:List PV):Nat->List PV :=
 λ j=>match Nat.beq j i with | true=>spl (get j) k new | false=>get j

def CE (f : PV → PV → PV) : List PV → List PV → List PV
  | [],_=>[]
  | x :: r,l=>f x (l.headD .nilp) :: CE f r l.tail
def shp : Nat → PV → PV → PV
  | 0,_,b=>b
  | d+1,a,b=>match a with
    | .int k _=>.int k (match b with | .int _ n=>n | _=>0)
    | .bool _=>.bool (match b with | .bool x=>x | _=>false)
    | .sl _ s g=>.sl (match b with | .sl n _ _=>n | _=>0) s (λ i=>CE (shp d) (g 0) (match b with | .sl _ _ g'=>g' i | _=>[]))
    | .fp l o=>.fp (CE (shp d) l (match b with | .fp l' _=>l' | _=>[])) o
    | a=>a
def nzG (row:List PV) (g:Nat->List PV):Nat->List PV:=λ i=>CE (shp 8) row (g i)
def znq (row:List PV) (g:Nat->Nat->List PV):Nat->Nat->List PV:=λ i j=>CE (shp 8) row (g i j)
def wH (b:Bool) (x y:DV):DV :=
 match x,y with
 | .one (.c (.p (.bool a))),.one (.c (.p (.bool c)))=>.bool (match b with | true=>a | false=>c)
 | x,y=>match b with | true=>x | false=>y

def zgD (k:IntKind) (a b:Int):Int:=k.wrap (a * 2 ^ (min b.toNat k.bits))
def CG (k:IntKind) (a b:Int):Int:=a.fdiv (2 ^ (min b.toNat k.bits))
def zv0 (k:IntKind) (a b:Int):Int:=k.wrap (BitVec.ofInt k.bits a &&& BitVec.ofInt k.bits b).toNat
def orW (k:IntKind) (a b:Int):Int:=k.wrap (BitVec.ofInt k.bits a ||| BitVec.ofInt k.bits b).toNat
def zv1 (k:IntKind) (a b:Int):Int:=k.wrap (BitVec.ofInt k.bits a ^^^ BitVec.ofInt k.bits b).toNat
def VL (k:IntKind) (a b:Int):Int:=k.wrap (BitVec.ofInt k.bits a &&& ~~~ BitVec.ofInt k.bits b).toNat
def zbB (op:BinOp) (k:IntKind) (a b:Int):aH :=
 match op with
 | .shl=>.chk [] (0<=b) (.p (.int k (zgD k a b))) [] []
 | .shr=>.chk [] (0<=b) (.p (.int k (CG k a b))) [] []
 | _=>.no
def Oy (op:BinOp) (k:IntKind) (a b:Int):aH :=
 match op with
 | .shl=>.chk [] (0<=b) (.p (.int k (zgD k a b))) [] []
 | .shr=>.chk [] (0<=b) (.p (.int k (CG k a b))) [] []
 | .and=>.val [] (.p (.int k (zv0 k a b))) [] []
 | .or=>.val [] (.p (.int k (orW k a b))) [] []
 | .xor=>.val [] (.p (.int k (zv1 k a b))) [] []
 | .andNot=>.val [] (.p (.int k (VL k a b))) [] []
 | .add=>.val [] (.p (.int k (k.wrap (a+b)))) [] []
 | .sub=>.val [] (.p (.int k (k.wrap (a - b)))) [] []
 | .mul=>.val [] (.p (.int k (k.wrap (a * b)))) [] []
 | .quo=>.chk [] (b ≠ 0) (.p (.int k (k.wrap (a.tdiv b)))) [] []
 | .rem=>.chk [] (b ≠ 0) (.p (.int k (a.tmod b))) [] []
 | .eql=>.val [] (.bool (a == b)) [] []
 | .neq=>.val [] (.bool (a != b)) [] []
 | .lss=>.val [] (.bool (decide (a < b))) [] []
 | .leq=>.val [] (.bool (decide (a<=b))) [] []
 | .gtr=>.val [] (.bool (decide (a > b))) [] []
 | .geq=>.val [] (.bool (decide (a >= b))) [] []

def DY : List Cl → Option (List Int)
  | []=>some []
  | .p (.int .i64 a) :: r=>match DY r with | some l=>some (a :: l) | none=>none
  | _=>none
def znr (Γ : aX) : Option Nat → Bool
  | some t=>Γ.vv t
  | none=>false
def zS.on : zS → Bool
  | .none=>false
  | _=>true
variable (P:Program) (Γ:aX)

def eqT : Nat → TypeId → D1 → D1 → Option Bool
  | 0,_,_,_=>none
  | d+1,t,x,y =>
    match P.underlying t with
    | some .bool=>match x,y with
      | .c (.p (.bool a)),.c (.p (.bool b))=>some (a == b)
      | _,_=>none
    | some (.int _)=>match x,y with
      | .c (.p (.int k a)),.c (.p (.int k' b))=>if k=k' then some (a == b) else none
      | _,_=>none
    | some (.struct fs)=>match x,y,P.stoodInHeld t with
      | .agg xs,.agg ys,false=>fs.toList.foldr (λ f acc =>
          match acc, f.name != "_", ig P f.type, mg P f.type with
          | some r,true,some ag,some n=>match kS ag n xs f.offset,kS ag n ys f.offset with
            | some a,some b=>match eqT d f.type a b with
              | some e=>some (match e with | true=>r | false=>false)
              | none=>none
            | _,_=>none
          | _,_,_,_=>none) (some true)
      | _,_,_=>none
    | _=>none

def VM (op:BinOp) (t:TypeId) (cs ds:List Cl):aH :=
 match P.eqGuardType P.depth t,eqT P 8 t (.agg cs) (.agg ds) with
 | false,some r=>match op with
  | .eql=>.val [] (.bool r) [] []
  | .neq=>.val [] (.bool (!r)) [] []
  | _=>.no
 | _,_=>.no

def ja : Nat → TypeId → Option Nat
  | 0,_=>none
  | d+1,t =>
    match P.underlying t with
    | some (.int .i64)=>match mg P t with
      | some n=>match Nat.beq n 1 with | true=>some 1 | false=>none
      | none=>none
    | some (.struct fs)=>match P.stoodInHeld t with
      | true=>none
      | false => fs.toList.foldl (fun acc f => match acc, f.name != "_", ja d f.type, mg P f.type with
        | some m,true,some n,some n'=>match Nat.beq f.offset m && Nat.beq n n' with
          | true=>some (m+n)
          | false=>none
        | _,_,_,_=>none) (some 0)
    | some (.array n e)=>match ja d e,mg P e with
      | some m,some m'=>match Nat.beq m m' with
        | true=>some (n * m)
        | false=>none
      | _,_=>none
    | _=>none

def DZ (t:TypeId) (x i:DV):aH :=
 match P.underlying t with
 | some (.array n e)=>match mg P e,ig P e,x,i with
  | some m,some ag,.one (.agg cs),.one (.c (.p (.int _ (.ofNat j))))=>match Nat.blt j n,kS ag m cs (j * m) with
   | true,some d=>.val [] (.one d) [] []
   | _,_=>.no
  | _,_,_,_=>.no
 | _=>.no

def D5 (t:TypeId) (x:DV) (f:Nat):aH :=
 match P.underlying t with
 | some (.struct fs)=>match fs[f]? with
  | some fd=>match mg P fd.type,ig P fd.type,x with
   | some m,some ag,.one (.agg cs)=>match kS ag m cs fd.offset with
    | some d=>.val [] (.one d) [] []
    | none=>.no
   | _,_,_=>.no
  | none=>.no
 | _=>.no

def xU (n:Nat) (e:TypeId) (x i:DV):aH :=
 match mg P e,i with
 | some m,.one (.c (.p (.int _ (.ofNat j))))=>match Nat.blt j n with
  | true=>match x with
   | .one (.c (.ptr L off))=>.val [] (.cl (.ptr L (off+j * m))) [] []
   | .one (.c (.p (.fp c off)))=>.val [] (.p (.fp c (off+j * m))) [] []
   | _=>.no
  | false=>.no
 | _,_=>.no

def zbC (t:TypeId):Option (List (Option IntKind)) :=
 match fA P t with
 | some z=>z.foldr (λ c acc=>match c,acc with
  | .p (.int k (.ofNat 0)),some l=>some (some k :: l)
  | .p (.bool false),some l=>some (none :: l)
  | _,_=>none) (some [])
 | none=>none

def KQ (k:TypeId):Option (KF×Nat) :=
 match ja P 8 k,ig P k with
 | some n,some true=>some (.ints,n)
 | some n,some false=>match Nat.beq n 1 with | true=>some (.one,n) | false=>none
 | _,_=>none
def D6 (k e:TypeId):Option MQ :=
 match KQ P k,zbC P e,ig P e with
 | some (kf,n),some ks,some uj=>match (uj || Nat.beq ks.length 1),(P.info? e).bind (·.zero),uj with
  | true,some (.agg _),true=>some (kf,n,uj,ks)
  | true,some (.agg _),false=>none
  | true,some _,false=>some (kf,n,uj,ks)
  | _,_,_=>none
 | _,_,_=>none

def zgE (kf:KF) (n:Nat) (d:DV):Option (List Int) :=
 match kf,d with
 | .ints,.one (.agg cs)=>match DY cs with
  | some l=>match Nat.beq l.length n with | true=>some l | false=>none
  | none=>none
 | .one,.one (.c (.p (.int .i64 a)))=>some [a]
 | _,_=>none

def zbD : Option IntKind → Int → PV
  | some k,x=>.int k x
  | none,x=>.bool (x != 0)
def CJ (o:Option (List Int)) (i:Nat):Int:=match o with | some l=>l.getD i 0 | none=>0
def zns (o : Option (List Int)) : Nat → List (Option IntKind) → List PV
  | _,[]=>[]
  | i,k :: ks=>zbD k (CJ o i) :: zns o (i+1) ks
def zbE (uj:Bool) (ks:List (Option IntKind)) (o:Option (List Int)):Option D1 :=
 match uj,zns o 0 ks with
 | true,l=>some (.agg (l.map .p))
 | false,[v]=>some (.c (.p v))
 | _,_=>none
def qx : List (Option IntKind) → List Cl → Option (List Int)
  | [],[]=>some []
  | some k :: ks,.p (.int k' a) :: r=>if k=k' then match qx ks r with | some l=>some (a :: l) | none=>none else none
  | none :: ks,.p (.bool b) :: r=>match qx ks r with | some l=>some ((match b with | true=>1 | false=>0) :: l) | none=>none
  | _,_=>none
def D7 (c v:List Int) (F:List Int->Option (List Int)):List Int->Option (List Int) :=
 λ x=>match decide (x=c) with | true=>some v | false=>F x
def addN (o:Option (List Int)) (n:Nat):Nat:=match o with | some _=>n | none=>n+1

def found (q:MQ) (k:DV) (ok:Bool) (F:List Int->Option (List Int)) (fin:DV->aH):aH :=
 match zgE q.1 q.2.1 k with
 | some c=>match zbE q.2.2.1 q.2.2.2 (F c) with
  | some d=>match ok with
   | true=>fin (.tup [d,.c (.p (.bool (F c).isSome))])
   | false=>fin (.one d)
  | none=>.no
 | none=>.no
def lK {α:Type}(i:Nat) (x:α) (f:Nat->α):Nat->α:=λ j=>match Nat.beq j i with | true=>x | false=>f j
def D8 (t:TypeId) (m k:DV) (ok:Bool) (ob:Nat->Option AO):aH :=
 match P.underlying t,m with
 | some (.map kt vt),.one (.c (.mo L))=>match D6 P kt vt,ob L with
  | some q,some (.mo kt' vt' q' _ F)=>if kt'=kt/\vt'=vt/\q'=q then found q k ok F λ d=>.val [(L,false)] d [] [] else .no
  | _,_=>.no
 | _,_=>.no
def Oz (t:TypeId) (m k v:DV) (ob:Nat->Option AO):aH :=
 match P.underlying t,m with
 | some (.map kt vt),.one (.c (.mo L))=>match D6 P kt vt,ob L with
  | some q,some (.mo kt' vt' q' m' F)=>match zgE q.1 q.2.1 k,v with
   | some c,.one dv=>match qx q.2.2.2 dv.cells with
    | some l=>if kt'=kt/\vt'=vt/\q'=q/\dv.isAgg=q.2.2.1 then .val [(L,true)] .junk [(L,.mo kt vt q (addN (F c) m') (D7 c l F))] [] else .no
    | none=>.no
   | _,_=>.no
  | _,_=>.no
 | _,_=>.no
def VN (t k:Nat) (l:List PV):List PV :=
 match P.underlying t,l[k]? with
 | some (.slice e2),some .nils=>match mg P e2,fA P e2 with
  | some s,some z=>match iO z with
   | some z=>l.set k (.sl 0 s (λ _=>z))
   | none=>l
  | _,_=>l
 | _,_=>l
def zbF : List Field → List PV → List PV
  | [],l=>l
  | f :: r,l=>zbF r (VN P f.type f.offset l)
def ww (e:TypeId) (l:List PV):List PV :=
 match P.underlying e with
 | some (.struct fs)=>zbF P fs.toList l
 | _=>VN P e 0 l
def xW (e:TypeId):List PV:=match fA P e with
 | some z=>match iO z with
  | some l=>ww P e l
  | none=>[]
 | none=>[]
def oM (t:TypeId) (x y:DV) (dst:Option Nat) (ob:Nat->Option AO):aH :=
 match P.underlying t,x,y,dst with
 | some (.slice e),.one (.c (.p (.int _ n))),.one (.c (.p (.int _ m))),some dst=>match P.info? e,fA P e,ob dst with
  | some ie,some z,none=>match znr Γ (some dst) with
   | true=>match z,P.underlying e with
    | [.p .nils],some (.slice e2)=>match P.info? e2,fA P e2,Nat.beq ie.size 1 && Nat.ble ie.bytes 1000000 with
     | some i2,some z2,true=>match iO z2,Nat.ble 1 i2.size with
      | some l2,true=>.chk [(dst,true)] (0<=n/\n=m/\n<=1000000) (.cl (.vec dst)) [(dst,.vv e ie.bytes e2 i2.size i2.bytes n.toNat (λ _=>0) (λ _ _=>l2))] []
      | _,_=>.no
     | _,_,_=>.no
    | _,_=>.no
   | false=>match iO z with
    | some l=>match Nat.ble 1 ie.size && Nat.ble ie.bytes 1000000 with
     | true=>.chk [(dst,true)] (0<=n/\n=m/\n<=1000000) (.cl (.vec dst)) [(dst,.vec e ie.size ie.bytes n.toNat (λ _=>ww P e l))] []
     | false=>.no
    | none=>.no
  | _,_,_=>.no
 | _,_,_,_=>.no

def zT (ev : Operand → DV) : Option Operand → Option (Option Int)
  | none=>some none
  | some x=>match ev x with
    | .one (.c (.p (.int _ j)))=>some (some j)
    | _=>none
def slG (get:Nat->List PV) (l:Nat):Nat->List PV:=λ i=>get (i+l)
def xX (t:TypeId) (x:DV) (lo hi:Option (Option Int)):aH :=
 match P.underlying t,x,lo,hi with
 | some (.slice e),.one (.c (.p (.sl n s get))),some lo,some hi=>match mg P e with
  | some m=>match Nat.beq s m with
   | true=>.chk [] (0<=lo.getD 0/\lo.getD 0<=hi.getD (n:Int)/\hi.getD (n:Int)<=(n:Int)) (.p (.sl (hi.getD (n:Int) - lo.getD 0).toNat s (slG get (lo.getD 0).toNat))) [] []
   | false=>.no
  | none=>.no
 | _,_,_,_=>.no

def D9 (t:TypeId) (f:Nat):Option Nat :=
 match P.underlying t with
 | some (.struct fs)=>match fs[f]? with
  | some fd=>match mg P fd.type with
   | some (_+1)=>some fd.offset
   | _=>none
  | none=>none
 | _=>none

def ul (t:TypeId):Bool :=
 match P.underlying t with
 | some (.struct fs)=>fs.toList.all λ f=>(mg P f.type).isSome
 | some (.array _ e)=>(mg P e).isSome
 | _=>false

def fZ (t : TypeId) (ev : Operand → DV) : List Cl → List (Nat × Operand) → Option (List Cl)
  | z,[]=>some z
  | z,(i,o) :: r =>
    match ev o with
    | .one d =>
      match P.underlying t with
      | some (.struct fs)=>match fs[i]? with
        | some fd=>match mg P fd.type with
          | some n=>match Nat.beq n d.cells.length && Nat.ble (fd.offset+n) z.length && d.cells.all xQ with
            | true=>fZ t ev (spl z fd.offset d.cells) r
            | false=>none
          | none=>none
        | none=>none
      | some (.array _ e)=>match mg P e with
        | some n=>match Nat.beq n d.cells.length && Nat.ble (i * n+n) z.length && d.cells.all xQ with
          | true=>fZ t ev (spl z (i * n) d.cells) r
          | false=>none
        | none=>none
      | _=>none
    | _=>none

def gY (ob : Nat → Option AO) (ev : Operand → DV) (size : Nat) : Nat → List (Nat × Operand) → Option (List (List PV) × List (Nat × AO) × List Nat)
  | _,[]=>some ([],[],[])
  | i,(j,o) :: r =>
    match Nat.beq i j with
    | true=>match ev o with
      | .one d=>match ik ob d.cells,gY ob ev size (i+1) r with
        | some (l,u),some (ls,us,gK)=>match Nat.beq l.length size with
          | true=>some (l :: ls,u ++ us,cZ d ++ gK)
          | false=>none
        | _,_=>none
      | _=>none
    | false=>none

def smA : List (List PV) → Bool
  | []=>true
  | c :: r=>smL c c && r.all (smL c)
def wX (l:List (List PV)):Nat->List PV :=
 match l with
 | []=>λ _=>[]
 | [c]=>λ _=>c
 | c :: r=>λ i=>match (c :: r)[i]? with | some x=>x | none=>c


def zU (ob:Nat->Option AO) (dst:Option Nat) (o:AO) (d:Nat->DV):aH :=
 match dst with
 | some t=>match ob t with
  | none=>.val [(t,true)] (d t) [(t,o)] []
  | some _=>.no
 | none=>.no

def elP (ag:Bool) (l:List PV):PA :=
 match ag,l with
 | true,l=>.agg l
 | false,[v]=>.one v
 | _,_=>.agg []
def Ea (C:List PA->ae (List PA)) (caps:List PV) (ag:Bool) (get:Nat->List PV) (i j:Nat):Option Int :=
 (C (elP ag (get i) :: elP ag (get j) :: caps.map .one)).T λ r=>match r with
  | [.one (.int .i64 c)]=>some c
  | _=>none
def kT (C:List PA->ae (List PA)) (caps:List PV) (ag:Bool) (get:Nat->List PV) (i j:Nat):Int:=(Ea C caps ag get i j).getD 0
def STO (n:Nat) (c:Nat->Nat->Int):Prop :=
 (∀ i,i < n->0<=c i i)/\(∀ i j,i < n->j < n->i ≠ j->(c i j < 0/\0<=c j i)\/(c j i < 0/\0<=c i j)) /\
 ∀ i j k,i < n->j < n->k < n->c i j < 0->c j k < 0->c i k < 0
def zbG (n:Nat) (p:Nat->Nat->Bool) (c:Nat->Nat->Int):Bool :=
  (List.range n).all fun i => decide (0 ≤ c i i) && (List.range n).all fun j => p i j && (Nat.beq i j || (decide (c i j < 0) && decide (0 ≤ c j i)) || (decide (c j i < 0) && decide (0 ≤ c i j))) &&
    (List.range n).all λ k=>!(decide (c i j < 0) && decide (c j k < 0)) || decide (c i k < 0)
def znt (n:Nat) (p:Nat->Nat->Bool) (c:Nat->Nat->Int):Prop:=n<=4611686018427387/\(∀ i j,i < n->j < n->p i j=true)/\STO n c
def znu (n:Nat) (p:Nat->Nat->Bool) (c:Nat->Nat->Int):CP:=⟨znt n p c,Nat.ble n 4611686018427387 && zbG n p c,λ h=>by
 rw[fE,Nat.ble_eq] at h;obtain⟨h0,h⟩:=h;simp only[zbG,List.all_eq_true,List.mem_range,fE,Bool.or_eq_true,decide_eq_true_eq,Bool.not_eq_true',Bool.and_eq_false_iff,decide_eq_false_iff_not] at h;refine⟨h0,λ i j hi hj=>((h i hi).2 j hj).1.1,λ i hi=>(h i hi).1,λ i j hi hj hne=>?_,λ i j k hi hj hk h1 h2=>?_⟩
 ·rcases ((h i hi).2 j hj).1.2 with (h1 | h1) | h1
  ·exact absurd (jb h1) hne
  ·exact .inl h1
  ·exact .inr h1
 ·rcases ((h i hi).2 j hj).2 k hk with (h3 | h3) | h3
  ·exact absurd h1 h3
  ·exact absurd h2 h3
  ·exact h3⟩
def KR (c : Nat → Nat → Int) (x : Nat) : List Nat → List Nat
  | []=>[x]
  | y :: r=>match decide (c x y < 0) with | true=>x :: y :: r | false=>y :: KR c x r
def um (n:Nat) (c:Nat->Nat->Int):List Nat:=(List.range n).foldr (KR c) []
def Eb {α:Type}(n:Nat) (c:Nat->Nat->Int) (get:Nat->α):Nat->α:=λ i=>get ((um n c).getD i ((um n c).getD 0 0))

def zbH (get : Nat → List PV) : List (Nat × AO) → Bool
  | []=>true
  | u=>match VK u with
    | true=>(get 0).all (wG 8)
    | false=>(get 0).all iD
def znv (e : TypeId) : List DV → Option (Nat × Nat × (Nat → List PV))
  | [.one (.c (.p (.sl n s get)))]=>some (n,s,get)
  | [.one (.c (.p .nils))]=>match fA P e with
    | some z=>match iO z with
      | some l=>some (0,l.length,λ _=>l)
      | none=>none
    | none=>none
  | _=>none
def Ec {α : Type} : List α → Option (List α × α)
  | []=>none
  | d :: r=>match Ec r with
    | some (l,x)=>some (d :: l,x)
    | none=>some ([],d)
def iU (o:Oper) (k:zS) (args:List DV) (ob:Nat->Option AO):aH :=
  match k with
  | .none=>.no
  | .sort e s b=>match args with
    | [.one (.c (.vec L)),.one (.c (.p (.fn h [] caps)))]=>match ob L,ig P e with
      | some (.vec e' s' b' n get),some ag=>if e'=e/\s'=s/\b'=b then
          .chk [(L,true)] (znu n (λ i j=>(Ea (Γ.cfn h) caps ag get i j).isSome) (kT (Γ.cfn h) caps ag get)) (.tup []) [(L,.vec e s b n (Eb n (kT (Γ.cfn h) caps ag get) get))] []
        else .no
      | _,_=>.no
    | _=>.no
  | .clone e s b=>match znv P e args,o.dst with
    | some (n,s',get),some dst=>match ob dst,P.info? e,fA P e with
      | none,some ie,some _=>if s'=s/\ie.size=s/\ie.bytes=b/\0 < s then
          .chk [(dst,true)] (n * b<=140737488355328/\n<=9223372036854775807) (.cl (.vec dst)) [(dst,.vec e s b n get)] []
        else .no
      | _,_,_=>.no
    | _,_=>.no
  | .mkv e s b F=>match fQ ob args,o.dst with
    | some (az,u),some dst=>match (F az).o,ob dst,P.info? e,fA P e with
      | some (n,get,rs),none,some ie,some _=>if ie.size=s/\ie.bytes=b/\0 < s/\zbH get u=true/\rs.all iD=true then
          .val ((dst, true) :: rd (args.flatMap (bF ob)))
            (match rs with | []=>.cl (.vec dst) | _=>.tup (.c (.vec dst) :: rs.map λ v=>.c (.p v))) [(dst,.vec e s b n get)] []
        else .no
      | _,_,_,_=>.no
    | _,_=>.no
  | .grow e s b F=>match Ec args with
    | some (ds,.one (.c (.vec L)))=>match fQ ob ds,ob L with
      | some (az,[]),some (.vec e' s' b' n get)=>match (F az n get).o with
        | some (m,get')=>if e'=e/\s'=s/\b'=b then
            .val ((L,true) :: rd (ds.flatMap (bF ob))) (.cl (.vec L)) [(L,.vec e s b m get')] [L]
          else .no
        | none=>.no
      | _,_=>.no
    | some (ds,.one (.c (.p .nils)))=>match fQ ob ds,o.dst with
      | some (az,[]),some dst=>match ob dst,P.info? e,fA P e with
        | none,some ie,some z=>match iO z with
          | some l=>match (F az 0 λ _=>l).o with
            | some (m,get')=>if ie.size=s/\ie.bytes=b/\0 < s then
                .val ((dst,true) :: rd (ds.flatMap (bF ob))) (.cl (.vec dst)) [(dst,.vec e s b m get')] []
              else .no
            | none=>.no
          | none=>.no
        | _,_,_=>.no
      | _,_=>.no
    | _=>.no

def zv4 : DV → Option o6
  | .one (.c (.p v))=>some (.v v)
  | .one (.c (.ptr L 0))=>some (.b L)
  | _=>none
def xY (ev : Operand → DV) : List Operand → Option (List o6)
  | []=>some []
  | x :: r=>match zv4 (ev x),xY ev r with
    | some c,some l=>some (c :: l)
    | _,_=>none
def capD : o6 → DV
  | .v v=>.p v
  | .b L=>.cl (.ptr L 0)

abbrev jv:=Option (FuncId×Nat×List Nat)
def Ed : List o6 → List Nat → Bool
  | [],[]=>true
  | .b L :: r,M :: s=>Nat.beq L M && Ed r s
  | _,_=>false
def OA : List o6 → Option (List Nat)
  | []=>some []
  | .b L :: r=>match OA r with | some l=>some (L :: l) | none=>none
  | _=>none
def zgH (f:FuncId) (np:Nat) (caps:List o6):jv:=match OA caps with
 | some l=>some (f,np,l)
 | none=>none
def znw (sf:jv) (f:FuncId) (caps:List o6):Option XC:=match sf with
 | some (f',np,ls)=>match Nat.beq f f' && Ed caps ls with
  | true=>some (.slf f' np ls.length)
  | false=>none
 | none=>none
def gp (sf : jv) (ob : Nat → Option AO) : List Cl → Option (List XC × List Nat)
  | []=>some ([],[])
  | c :: r=>match gp sf ob r with
    | some (l,ms)=>match c with
      | .p v=>some (.p v :: l,ms)
      | .vec M=>match ob M with
        | some (.vec e s b n get)=>some (.vec e s b n get :: l,M :: ms)
        | _=>none
      | .mo M=>match ob M with
        | some (.mo kt vt q n F)=>some (.mo kt vt q n F :: l,M :: ms)
        | _=>none
      | .clo f caps=>match znw sf f caps with
        | some x=>some (x :: l,ms)
        | none=>none
      | _=>none
    | none=>none
def oI (ob:Nat->Option AO) (d:DV):Option (XA×List Nat×List Nat) :=
 match wu ob d with
 | some (x,[])=>some (.d x,[],[])
 | _=>none
def wz (sf:jv) (ob:Nat->Option AO) (d:DV):Option (XA×List Nat×List Nat) :=
 match d with
 | .one (.c (.ptr L 0))=>match ob L with
  | some (.box ty cells)=>match gp sf ob cells with
   | some (cs,ms)=>some (.box ty cs,L :: ms,ms)
   | none=>none
  | _=>oI ob d
 | _=>oI ob d
def jg (sf : jv) (ob : Nat → Option AO) : List DV → Option (List XA × List Nat × List Nat)
  | []=>some ([],[],[])
  | d :: r=>match wz sf ob d,jg sf ob r with
    | some (x,bl,ms),some (xs,bls,mss)=>some (x :: xs,bl ++ bls,ms ++ mss)
    | _,_=>none
def fH : List Cl → List XC → Option (List Cl × List (Nat × AO))
  | [],[]=>some ([],[])
  | .p _ :: cs,.p v :: ys=>match fH cs ys with
    | some (l,u)=>some (.p v :: l,u)
    | none=>none
  | .vec M :: cs,.vec e s b n get :: ys=>match fH cs ys with
    | some (l,u)=>some (.vec M :: l,(M,.vec e s b n get) :: u)
    | none=>none
  | .mo M :: cs,.mo kt vt q n F :: ys=>match fH cs ys with
    | some (l,u)=>some (.mo M :: l,(M,.mo kt vt q n F) :: u)
    | none=>none
  | .clo f caps :: cs,.slf _ _ _ :: ys=>match fH cs ys with
    | some (l,u)=>some (.clo f caps :: l,u)
    | none=>none
  | _,_=>none
def CO (ob:Nat->Option AO) (d:DV) (y:XA):Option (List (Nat×AO)) :=
 match d with
 | .one (.c (.ptr L 0))=>match ob L with
  | some (.box ty' cells)=>match y with
   | .box ty cs=>match Nat.beq ty ty',fH cells cs with
    | true,some (l,u)=>some ((L,.box ty l) :: u)
    | _,_=>none
   | .d _=>none
  | _=>match y with
   | .d _=>some []
   | .box _ _=>none
 | _=>match y with
  | .d _=>some []
  | .box _ _=>none
def iI (ob : Nat → Option AO) : List DV → List XA → Option (List (Nat × AO))
  | [],[]=>some []
  | d :: ds,y :: ys=>match CO ob d y,iI ob ds ys with
    | some u,some us=>some (u ++ us)
    | _,_=>none
  | _,_=>none
def o9 : List Nat → Bool
  | []=>true
  | x :: r=>!r.contains x && o9 r
def jG : AO → Bool
  | .box _ [.clo _ _]=>true
  | _=>false
def pg (C:MK) (sf:jv) (args:List DV) (ob:Nat->Option AO):aH :=
 match jg sf ob args with
 | some (xs,ls,ms)=>match (C xs).o with
  | some (rs,ys)=>match iI ob args ys with
   | some u=>match o9 ls && Nat.ble ms.length 1 && ms.all λ M=>((u.filter λ x=>!jG x.2).map (·.1)).contains M with
    | true=>.val (wr ((u.filter λ x=>!jG x.2).map (·.1)) ++ rd (args.flatMap (bF ob))) (resD rs) (u.filter λ x=>!jG x.2) ms
    | false=>.no
   | none=>.no
  | none=>.no
 | none=>.no

def Js (ev : Operand → DV) : List Operand → List Operand → Option (List PV)
  | [x],[]=>match ev x with
    | .one (.agg cs)=>iO cs
    | _=>none
  | _,_=>none

def zV (d:DV) (ob:Nat->Option AO):Option (Nat×Nat×(Nat->List PV)×List (Nat×Bool)) :=
 match d with
 | .one (.c (.p (.sl n sz get)))=>some (n,sz,get,[])
 | .one (.c (.vec M))=>match ob M with
  | some (.vec _ sz _ n get)=>some (n,sz,get,[(M,false)])
  | some (.fvec sz n get)=>some (n,sz,get,[(M,false)])
  | _=>none
 | _=>none
def KT (e:Nat) (ie:TypeInfo) (dst:Nat) (x s:DV) (ob:Nat->Option AO):aH :=
 match zV x ob with
 | some (m,sz,new,Yd)=>match s with
  | .one (.c (.vec L))=>match ob L with
   | some (.vec e' s' b' n get)=>if e'=e/\s'=ie.size/\b'=ie.bytes/\sz=s'/\0 < s'/\bY x ≠ [L]/\smL (get 0) (new 0)=true then
     .chk ((L,true) :: Yd) ((n+m) * b'<=140737488355328/\n+m<=9223372036854775807) (.cl (.vec L)) [(L,.vec e s' b' (n+m) (nzG (get 0) (appG n get new)))] [L]
    else .no
   | _=>.no
  | .one (.c (.p .nils))=>match ob dst with
   | none=>if sz=ie.size/\0 < sz then
     .chk ((dst,true) :: Yd) (m * ie.bytes<=140737488355328/\m<=9223372036854775807) (.cl (.vec dst)) [(dst,.vec e sz ie.bytes m new)] []
    else .no
   | some _=>.no
  | _=>.no
 | none=>.no
def aPk (ev:Operand->DV) (c a b:Operand):aH:=match ev c with
  | .one (.c (.p (.bool t)))=>.val [] (wH t (ev a) (ev b)) [] []
  | _=>.no
def aAl (o:Oper) (ev:Operand->DV) (ob:Nat->Option AO) (e:TypeId):aH:=match fA P e with
  | some z=>zU ob o.dst (.box e z) λ t=>.cl (.ptr t 0)
  | none=>.no
def aBx (o:Oper) (ev:Operand->DV) (ob:Nat->Option AO) (e:TypeId) (x:Operand):aH:=match ev x,mg P e with
  | .one d,some n=>match Nat.beq d.cells.length n && d.cells.all xQ with
   | true=>zU ob o.dst (.box e d.cells) λ t=>.cl (.ptr t 0)
   | false=>.no
  | _,_=>.no
def aBd (ev:Operand->DV) (t:TypeId) (parts:Array (Nat×Operand)):aH:=match ul P t,fA P t with
  | true,some z=>match fZ P t ev z parts.toList with
   | some l=>.val [] (.one (.agg l)) [] []
   | none=>.no
  | _,_=>.no
def aBs (o:Oper) (ev:Operand->DV) (ob:Nat->Option AO) (t:TypeId) (n:Nat) (parts:Array (Nat×Operand)):aH:=match P.underlying t with
  | some (.slice e)=>match P.info? e with
   | some ie=>match gY ob ev ie.size 0 parts.toList with
    | some (ls,u,gK)=>match Nat.beq ls.length n && Nat.ble (n * ie.size) 1000000 && Nat.ble 1 ie.size && smA (ls.map (ww P e)),fA P e,o.dst with
     | true,some _,some dst=>match ob dst with
      | none=>.val (wr gK ++ [(dst,true)]) (.cl (.vec dst)) ((dst,.vec e ie.size ie.bytes n (nzG (wX (ls.map (ww P e)) 0) (wX (ls.map (ww P e))))) :: u) []
      | some _=>.no
     | _,_,_=>.no
    | none=>.no
   | none=>.no
  | _=>.no
def aLd (o:Oper) (ev:Operand->DV) (ob:Nat->Option AO) (t:TypeId) (a:Operand):aH:=match ig P t,mg P t with
  | some g,some n=>match ev a with
   | .one (.c (.ptr L off))=>match ob L with
    | some (.box _ cells)=>match kS g n cells off with
     | some d=>.val [(L,false)] (.one d) [] []
     | none=>.no
    | some (.fbox cells)=>match kS g n (cells.map .p) off with
     | some d=>.val [(L,false)] (.one d) [] []
     | none=>.no
    | _=>.no
   | .one (.c (.p (.fp cells off)))=>match kS g n (cells.map .p) off with
    | some d=>.val [] (.one d) [] []
    | none=>.no
   | .one (.c (.vptr L s i k))=>match ob L with
    | some (.vec _ s' _ len get)=>match Nat.beq s s',kS g n ((get i).map .p) k with
     | true,some d=>.chk [(L,false)] (i < len) (.one d) [] []
     | _,_=>.no
    | some (.fvec s' len get)=>match Nat.beq s s',kS g n ((get i).map .p) k with
     | true,some d=>.chk [(L,false)] (i < len) (.one d) [] []
     | _,_=>.no
    | some (.vv _ _ _ _ _ _ _ _)=>match Nat.beq s 1 && Nat.beq k 0,g with
     | true,false=>match o.dst with
      | some dst=>match ob dst,ob L with
       | none,some (.vv te bb e s' b len ln get)=>.chk [(L,true),(dst,true)] (i < len) (.cl (.vec dst)) [(dst,.vec e s' b (ln i) (get i)),(L,.vt te bb e s' b len ln get i)] []
       | _,_=>.no
      | none=>.no
     | _,_=>.no
    | _=>.no
   | _=>.no
  | _,_=>.no
def aSt (ev:Operand->DV) (ob:Nat->Option AO) (t:TypeId) (a x:Operand):aH:=match mg P t,ev a,ev x with
  | some n,.one (.c (.ptr L off)),.one d=>match ob L with
   | some (.box ty cells)=>match Nat.beq d.cells.length n && Nat.ble (off+n) cells.length && d.cells.all xQ with
    | true=>.val [(L,true)] .junk [(L,.box ty (spl cells off d.cells))] []
    | false=>.no
   | _=>.no
  | some n,.one (.c (.vptr L s i k)),.one d=>match ob L with
   | some (.vec e s' b len get)=>match iO d.cells with
    | some l=>match Nat.beq s s' && Nat.beq l.length n && Nat.ble (k+n) s && smL (((get 0).drop k).take n) l with
     | true=>.chk [(L,true)] (i < len) .junk [(L,.vec e s' b len (nzG (get 0) (xR i k get l)))] []
     | false=>.no
    | none=>.no
   | some (.vt te bb e s' by' len ln get ii)=>match d with
    | .c (.vec M)=>match ob M with
     | some (.vec e2 s2 b2 m jw)=>match Nat.beq s 1 && Nat.beq k 0 && Nat.beq n 1 && !Nat.beq L M with
      | true=>if e2=e/\s2=s'/\b2=by'/\smL (get 0 0) (jw 0)=true then
        .chk [(L,true),(M,true)] (i < len/\i=ii/\0 < m) .junk [(L,.vv te bb e s' by' len (lK i m ln) (znq (get 0 0) (lK i jw get))),(M,.gone)] []
       else .no
      | false=>.no
     | _=>.no
    | _=>.no
   | _=>.no
  | _,_,_=>.no
def aNc (ev:Operand->DV) (x:Operand):aH:=match ev x with
  | .one (.c (.ptr L off))=>.val [] (.cl (.ptr L off)) [] []
  | .one (.c (.p (.fp c off)))=>.val [] (.p (.fp c off)) [] []
  | .one (.c (.vptr L s i k))=>.val [] (.cl (.vptr L s i k)) [] []
  | _=>.no
def aBn (ev:Operand->DV) (op:BinOp) (t:TypeId) (x y:Operand):aH:=match ev x,ev y with
  | .one (.c (.p (.int k a))),.one (.c (.p (.int k' b)))=>if k=k' then Oy op k a b else zbB op k a b
  | .one (.c (.p (.bool a))),.one (.c (.p (.bool b)))=>match P.underlying t,op with
   | some .bool,.eql=>.val [] (.bool (a == b)) [] []
   | some .bool,.neq=>.val [] (.bool (a != b)) [] []
   | _,_=>.no
  | .one (.agg cs),.one (.agg ds)=>VM P op t cs ds
  | _,_=>.no
def aUn (ev:Operand->DV) (op:UnOp) (x:Operand):aH:=match op,ev x with
  | .not,.one (.c (.p (.bool a)))=>.val [] (.bool (!a)) [] []
  | .neg,.one (.c (.p (.int k a)))=>.val [] (.p (.int k (k.wrap (0 - a)))) [] []
  | _,_=>.no
def aCv (ev:Operand->DV) (t1 t2:TypeId) (x:Operand):aH:=match P.underlying t1,P.underlying t2,ev x with
  | some _,some (.int k),.one (.c (.p (.int _ n)))=>.val [] (.p (.int k (k.wrap n))) [] []
  | _,_,_=>.no
def aFa (ev:Operand->DV) (t:TypeId) (x:Operand) (f:Nat):aH:=match D9 P t f with
  | some off=>match ev x with
   | .one (.c (.ptr L k))=>.val [] (.cl (.ptr L (k+off))) [] []
   | .one (.c (.p (.fp c k)))=>.val [] (.p (.fp c (k+off))) [] []
   | .one (.c (.vptr L s i k))=>.val [] (.cl (.vptr L s i (k+off))) [] []
   | _=>.no
  | none=>.no
def aIa (ev:Operand->DV) (ob:Nat->Option AO) (t:TypeId) (x i:Operand):aH:=match P.underlying t with
  | some (.slice e)=>match mg P e,ev i with
   | some n,.one (.c (.p (.int _ j)))=>match ev x with
    | .one (.c (.p (.sl len s get)))=>if s=n then .chk [] (0<=j/\j < (len:Int)) (.p (.fp (get j.toNat) 0)) [] [] else .no
    | .one (.c (.vec L))=>match ob L with
     | some (.vec _ s _ len _)=>if s=n then .chk [(L,false)] (0<=j/\j < (len:Int)) (.cl (.vptr L s j.toNat 0)) [] [] else .no
     | some (.fvec s len get)=>if s=n then .chk [(L,false)] (0<=j/\j < (len:Int)) (.p (.fp (get j.toNat) 0)) [] [] else .no
     | some (.vv _ _ _ _ _ len _ _)=>if n=1 then .chk [(L,false)] (0<=j/\j < (len:Int)) (.cl (.vptr L 1 j.toNat 0)) [] [] else .no
     | some (.vt _ _ _ _ _ len _ _ _)=>if n=1 then .chk [(L,false)] (0<=j/\j < (len:Int)) (.cl (.vptr L 1 j.toNat 0)) [] [] else .no
     | _=>.no
    | _=>.no
   | _,_=>.no
  | some (.array n e)=>xU P n e (ev x) (ev i)
  | _=>.no
def aMm (o:Oper) (ev:Operand->DV) (ob:Nat->Option AO) (t:TypeId):aH:=match znr Γ o.dst with
  | true=>match P.underlying t with
   | some (.map kt vt)=>match D6 P kt vt with
    | some q=>zU ob o.dst (.mo kt vt q 0 (λ _=>none)) λ t=>.cl (.mo t)
    | none=>.no
   | _=>.no
  | false=>.no
def aLn (ev:Operand->DV) (ob:Nat->Option AO) (args:Array Operand) (argTypes:Array TypeId):aH:=match args.toList,argTypes.toList with
  | [x],[t]=>match P.underlying t with
   | some (.slice _)=>match ev x with
    | .one (.c (.p (.sl n _ _)))=>.val [] (.int n) [] []
    | .one (.c (.p .nils))=>.val [] (.int 0) [] []
    | .one (.c (.vec L))=>match ob L with
     | some (.vec _ _ _ n _)=>.val [(L,false)] (.int n) [] []
     | some (.fvec _ n _)=>.val [(L,false)] (.int n) [] []
     | some (.vv _ _ _ _ _ n _ _)=>.val [(L,false)] (.int n) [] []
     | _=>.no
    | _=>.no
   | some (.map _ _)=>match ev x with
    | .one (.c (.mo L))=>match ob L with
     | some (.mo _ _ _ n _)=>.val [(L,false)] (.int n) [] []
     | _=>.no
    | _=>.no
   | _=>.no
  | _,_=>.no
def aMx (ev:Operand->DV) (args:Array Operand):aH:=match args.toList.map ev with
  | [.one (.c (.p (.int k a))),.one (.c (.p (.int _ b)))]=>.val [] (.p (.int k (if b > a then b else a))) [] []
  | _=>.no
def aMi (ev:Operand->DV) (args:Array Operand):aH:=match args.toList.map ev with
  | [.one (.c (.p (.int k a))),.one (.c (.p (.int _ b)))]=>.val [] (.p (.int k (if b < a then b else a))) [] []
  | _=>.no
def aAp (o:Oper) (ev:Operand->DV) (ob:Nat->Option AO) (args:Array Operand) (argTypes:Array TypeId):aH:=match args.toList,argTypes.toList with
  | [s,x],[t,t']=>match P.underlying t,Nat.beq t t',o.dst with
   | some (.slice e),true,some dst=>match P.info? e,fA P e with
    | some ie,some _=>KT e ie dst (ev x) (ev s) ob
    | _,_=>.no
   | _,_,_=>.no
  | _,_=>.no
def aCl (o:Oper) (ev:Operand->DV) (ob:Nat->Option AO) (f:Operand) (args:Array Operand):aH:=match ev f with
    | .one (.c (.clo g caps))=>match Γ.mt g with
      | some C=>pg C (zgH g args.size caps) (args.toList.map ev ++ caps.map capD) ob
      | none=>.no
    | .one (.c (.p (.fn g first caps)))=>match Γ.mt g with
     | some C=>pg C none (first.map (λ v=>.p v) ++ args.toList.map ev ++ caps.map (λ v=>.p v)) ob
     | none=>match (Γ.own g).on with
     | true=>match first,caps with
       | [],[]=>iU P Γ o (Γ.own g) (args.toList.map ev) ob
       | _,_=>.no
     | false=>match fQ ob (args.toList.map ev) with
      | some (az,u)=>match (Γ.fn g (first.map .one ++ az ++ caps.map .one)).o with
        | some r=>jm (args.toList.flatMap λ x=>bF ob (ev x)) u r
        | none=>.no
      | none=>.no
    | .one (.c (.p (.fna g cells)))=>match fQ ob (args.toList.map ev) with
      | some (az,u)=>match (Γ.fn g (.agg cells :: az)).o with
        | some r=>jm (args.toList.flatMap λ x=>bF ob (ev x)) u r
        | none=>.no
      | none=>.no
    | _=>.no
def aMf (ev:Operand->DV) (ob:Nat->Option AO) (f:FuncId) (first caps:Array Operand):aH:=match (Γ.mt f).isSome with
   | true=>match first.toList,xY ev caps.toList with
     | [],some l=>.val [] (.cl (.clo f l)) [] []
     | _,_=>.no
   | false=>match Js ev first.toList caps.toList with
    | some l=>.val [] (.p (.fna f l)) [] []
    | none=>match o7 ob (first.toList.flatMap λ x=>match ev x with | .one (.c c)=>[c] | _=>[.junk]),o7 ob (caps.toList.flatMap λ x=>match ev x with | .one (.c c)=>[c] | _=>[.junk]) with
    | some (l,u),some (l',u')=>.val (wr ((first.toList ++ caps.toList).flatMap λ x=>bF ob (ev x))) (.p (.fn f l l')) (u ++ u') []
    | _,_=>.no
def aEx (ev:Operand->DV) (t:Operand) (i:Nat):aH:=match ev t with
  | .tup ds=>match ds[i]? with
   | some d=>.val [] (.one d) [] []
   | none=>.no
  | _=>.no
def act (o:Oper) (ev:Operand->DV) (ob:Nat->Option AO):aH :=
 match o.op with
 | .move x=>.val [] (ev x) [] []
 | .assign x=>.val [] (ev x) [] []
 | .pick c a b=>aPk ev c a b
 | .alloc e=>aAl P o ev ob e
 | .box e x=>aBx P o ev ob e x
 | .build t parts=>aBd P ev t parts
 | .buildSlice t n parts=>aBs P o ev ob t n parts
 | .load t a=>aLd P o ev ob t a
 | .store t a x=>aSt P ev ob t a x
 | .nilCheck x=>aNc ev x
 | .binOp op t x y _=>aBn P ev op t x y
 | .unOp op _ x=>aUn ev op x
 | .convert t1 t2 x=>aCv P ev t1 t2 x
 | .fieldAddr t x f=>aFa P ev t x f
 | .indexAddr t x i=>aIa P ev ob t x i
 | .index t x i=>DZ P t (ev x) (ev i)
 | .field t x f=>D5 P t (ev x) f
 | .slice t x lo hi none=>xX P t (ev x) (zT ev lo) (zT ev hi)
 | .lookup t m k ok=>D8 P t (ev m) (ev k) ok ob
 | .mapUpdate t m k v=>Oz P t (ev m) (ev k) (ev v) ob
 | .makeMap t none=>aMm P Γ o ev ob t
 | .makeSlice t x y=>oM P Γ t (ev x) (ev y) o.dst ob
 | .call { callee:=.builtin .len,args,argTypes }=>aLn P ev ob args argTypes
 | .call { callee:=.builtin .max,args,argTypes:=_ }=>aMx ev args
 | .call { callee:=.builtin .min,args,argTypes:=_ }=>aMi ev args
 | .call { callee:=.builtin .append,args,argTypes }=>aAp P o ev ob args argTypes
 | .call { callee:=.value f,args,argTypes:=_ }=>aCl P Γ o ev ob f args
 | .makeFunc (.func f) first caps=>aMf Γ ev ob f first caps
 | .extract t i=>aEx ev t i
 | _=>.no

end Go.Pm
namespace Go.Pm

def RL {α β : Type} (R : α → β → Prop) : List α → List β → Prop
  | [],[]=>True
  | a :: l,b :: m=>R a b/\RL R l m
  | _,_=>False

section rl
variable {α β:Type}{R R':α->β->Prop}
theorem RL.length {l:List α}{m:List β}(h:RL R l m):l.length=m.length:=by
 induction l generalizing m with
 | nil=>cases m with
  | nil=>rfl
  | cons=>exact h.elim
 | cons a l ih=>cases m with
  | nil=>exact h.elim
  | cons b m=>simp[ih h.2]
theorem RL.mono {l:List α}{m:List β}(h:RL R l m) (hr:∀ a b,R a b->R' a b):RL R' l m:=by
 induction l generalizing m with
 | nil=>cases m with
  | nil=>trivial
  | cons=>exact h.elim
 | cons a l ih=>cases m with
  | nil=>exact h.elim
  | cons b m=>exact⟨hr _ _ h.1,ih h.2⟩
theorem RL.mono_mem {l:List α}{m:List β}(h:RL R l m) (hr:∀ a b,a∈l->R a b->R' a b):RL R' l m:=by
 induction l generalizing m with
 | nil=>cases m with
  | nil=>trivial
  | cons=>exact h.elim
 | cons a l ih=>cases m with
  | nil=>exact h.elim
  | cons b m=>exact⟨hr _ _ kR h.1,ih h.2 λ x y hx=>hr x y (je _ hx)⟩
theorem RL.get {l:List α}{m:List β}(h:RL R l m):∀ (j:Nat) (a:α),l[j]? = some a->∃ b,m[j]? = some b/\R a b:=by
 induction l generalizing m with
 | nil=>intro j a hj;simp at hj
 | cons x l ih=>cases m with
  | nil=>exact h.elim
  | cons b m =>
   intro j a hj;cases j with
   | zero=>simp at hj;subst hj;exact⟨b,rfl,h.1⟩
   | succ j=>simp at hj;obtain⟨b',h1,h2⟩:=ih h.2 j a hj;exact⟨b',by simpa using h1,h2⟩
theorem RL.get' {l:List α}{m:List β}(h:RL R l m):∀ (j:Nat) (b:β),m[j]? = some b->∃ a,l[j]? = some a/\R a b:=by
 induction l generalizing m with
 | nil=>cases m with
  | nil=>intro j b hj;simp at hj
  | cons=>exact h.elim
 | cons x l ih=>cases m with
  | nil=>exact h.elim
  | cons y m =>
   intro j b hj;cases j with
   | zero=>simp at hj;subst hj;exact⟨x,rfl,h.1⟩
   | succ j=>simp at hj;obtain⟨b',h1,h2⟩:=ih h.2 j b hj;exact⟨b',by simpa using h1,h2⟩
theorem RL.of_get {l:List α}{m:List β}(hl:l.length=m.length) (h:∀ (j:Nat) (a:α) (b:β),l[j]? = some a->m[j]? = some b->R a b):RL R l m:=by
 induction l generalizing m with
 | nil=>cases m with
  | nil=>trivial
  | cons=>simp at hl
 | cons x l ih=>cases m with
  | nil=>simp at hl
  | cons y m =>
   refine⟨h 0 x y rfl rfl,ih (by simpa using hl) λ j a b ha hb=>h (j+1) a b (by simpa using ha) (by simpa using hb)⟩
theorem RL.append {l l':List α}{m m':List β}(h:RL R l m) (h':RL R l' m'):RL R (l ++ l') (m ++ m'):=by
 induction l generalizing m with
 | nil=>cases m with
  | nil=>exact h'
  | cons=>exact h.elim
 | cons a l ih=>cases m with
  | nil=>exact h.elim
  | cons b m=>exact⟨h.1,ih h.2⟩
theorem RL.set {l:List α}{m:List β}(h:RL R l m) (i:Nat){a:α}{b:β}(hab:R a b):RL R (l.set i a) (m.set i b):=by
 induction l generalizing m i with
 | nil=>cases m with
  | nil=>trivial
  | cons=>exact h.elim
 | cons x l ih=>cases m with
  | nil=>exact h.elim
  | cons y m=>cases i with
   | zero=>exact⟨hab,h.2⟩
   | succ i=>exact⟨h.1,ih h.2 i⟩
theorem RL.spl {l l':List α}{m m':List β}(h:RL R l m) (h':RL R l' m') (off:Nat):RL R (spl l off l') (Pm.spl m off m'):=by
 induction l' generalizing l m m' off with
 | nil=>cases m' with
  | nil=>simpa [Pm.spl] using h
  | cons=>exact h'.elim
 | cons x l' ih=>cases m' with
  | nil=>exact h'.elim
  | cons y m'=>simp only[Pm.spl];exact ih (h.set off h'.1) h'.2 _
theorem RL.drop {l:List α}{m:List β}(h:RL R l m) (n:Nat):RL R (l.drop n) (m.drop n):=by
 induction n generalizing l m with
 | zero=>simpa using h
 | succ n ih=>cases l with
  | nil=>cases m with
   | nil=>trivial
   | cons=>exact h.elim
  | cons a l=>cases m with
   | nil=>exact h.elim
   | cons b m=>simpa using ih h.2
theorem RL.take {l:List α}{m:List β}(h:RL R l m) (n:Nat):RL R (l.take n) (m.take n):=by
 induction n generalizing l m with
 | zero=>simp[RL]
 | succ n ih=>cases l with
  | nil=>cases m with
   | nil=>trivial
   | cons=>exact h.elim
  | cons a l=>cases m with
   | nil=>exact h.elim
   | cons b m=>exact⟨h.1,ih h.2⟩
theorem RL.map_left {γ:Type}{f:γ->α}{l:List γ}{m:List β} : RL R (l.map f) m↔RL (λ x y=>R (f x) y) l m:=by
 induction l generalizing m with
 | nil=>cases m <;> simp[RL]
 | cons a l ih=>cases m <;> simp[RL,ih]
end rl

def atP : PV → Bool
  | .int _ _=>false
  | .bool _=>false
  | .sl _ _ _=>false
  | .fp _ _=>false
  | _=>true
inductive Sm : PV → PV → Prop
  | int (k:IntKind) (a b:Int):Sm (.int k a) (.int k b)
  | bool (a b:Bool):Sm (.bool a) (.bool b)
  | sl (n m s:Nat) (g g':Nat->List PV) (hl:∀ i j:Nat,(g i).length=(g' j).length) (h:∀ (i j k:Nat) (x y:PV),(g i)[k]? = some x->(g' j)[k]? = some y->Sm x y):Sm (.sl n s g) (.sl m s g')
  | fp (l l':List PV) (o:Nat) (hl:l.length=l'.length) (h:∀ (k:Nat) (x y:PV),l[k]? = some x->l'[k]? = some y->Sm x y):Sm (.fp l o) (.fp l' o)
  | atom (p:PV) (h:atP p=true):Sm p p
theorem Sm.symm {x y:PV}(h:Sm x y):Sm y x:=by
 induction h with
 | int k a b=>exact .int k b a
 | bool a b=>exact .bool b a
 | sl n m s g g' hl h ih=>exact .sl m n s g' g (λ i j=>(hl j i).symm) λ i j k x y hx hy=>ih j i k y x hy hx
 | fp l l' o hl h ih=>exact .fp l' l o hl.symm λ k x y hx hy=>ih k y x hy hx
 | atom p h=>exact .atom p h
theorem lF {α β:Type}{l:List α}{m:List β}{k:Nat}{x:α}(h:l.length=m.length) (hx:l[k]? = some x):∃ y,m[k]? = some y:=by
 obtain⟨hk,_⟩:=wW.1 hx;exact⟨_,zL (h ▸ hk)⟩
theorem Sm.trans {x y:PV}(h:Sm x y):∀ {z:PV},Sm y z->Sm x z:=by
 induction h with
 | int k a b=>intro z h;cases h with
  | int _ _ c=>exact .int k a c
  | atom _ h=>cases h
 | bool a b=>intro z h;cases h with
  | bool _ c=>exact .bool a c
  | atom _ h=>cases h
 | sl n m s g g' hl h ih=>intro z h';cases h' with
  | sl _ m' _ _ g2 hl' h' =>
   refine .sl n m' s g g2 (λ i j=>(hl i 0).trans (hl' 0 j)) λ i j k x z hx hz=>?_;obtain⟨y,hy⟩:=lF (hl i 0) hx;exact ih i 0 k x y hx hy (h' 0 j k y z hy hz)
  | atom _ h=>cases h
 | fp l l' o hl h ih=>intro z h';cases h' with
  | fp _ l2 _ hl' h' =>
   refine .fp l l2 o (hl.trans hl') λ k x z hx hz=>?_;obtain⟨y,hy⟩:=lF hl hx;exact ih k x y hx hy (h' k y z hy hz)
  | atom _ h=>cases h
 | atom p h=>intro z h';exact h'
abbrev RS:List PV->List PV->Prop:=RL Sm
def pq (g:Nat->List PV):Prop:=∀ i j,RS (g i) (g j)
theorem RS.symm {l m:List PV}(h:RS l m):RS m l:=by
 refine RL.of_get h.length.symm λ j a b ha hb=>?_;obtain⟨y,hy,r⟩:=RL.get h j b hb;rw[ha] at hy;cases hy;exact r.symm
theorem RS.trans {l m n:List PV}(h:RS l m) (h':RS m n):RS l n:=by
 refine RL.of_get (h.length.trans h'.length) λ j a b ha hb=>?_;obtain⟨y,hy,r⟩:=RL.get h j a ha;obtain⟨z,hz,r'⟩:=RL.get h' j y hy;rw[hb] at hz;cases hz;exact r.trans r'
theorem pq.sl {g g':Nat->List PV}(h:∀ i j,RS (g i) (g' j)) (n m s:Nat):Sm (.sl n s g) (.sl m s g') :=
 .sl n m s g g' (λ i j=>(h i j).length) λ i j k x y hx hy=>by
  obtain⟨z,hz,r⟩:=RL.get (h i j) k x hx;rw[hy] at hz;cases hz;exact r
theorem Sm.rows {n m s s':Nat}{g g':Nat->List PV}(h:Sm (.sl n s g) (.sl m s' g')):s=s'/\∀ i j,RS (g i) (g' j):=by
 cases h with
 | sl _ _ _ _ _ hl h=>exact⟨rfl,λ i j=>RL.of_get (hl i j) λ k a b ha hb=>h i j k a b ha hb⟩
 | atom _ h=>cases h
theorem zny:∀ {d:Nat}{p q:PV},smB d p q=true->Sm p p->Sm q q->Sm p q:=by
 intro d
 induction d with
 | zero=>intro p q h;cases h
 | succ d ih =>
  have key:∀ {l m:List PV},(Nat.beq l.length m.length && (l.zip m).all λ z=>smB d z.1 z.2)=true->RS l l->RS m m->RS l m:=by
   intro l m h hl hm;rw[fE] at h;refine RL.of_get (jb h.1) λ j a b ha hb=>?_;obtain⟨_,ha',ra⟩:=RL.get hl j a ha;obtain⟨_,hb',rb⟩:=RL.get hm j b hb;rw[ha] at ha';rw[hb] at hb';cases ha';cases hb';exact ih (List.all_eq_true.1 h.2 (a,b) (DW (i:=j) (by rw[List.getElem?_zip_eq_some];exact⟨ha,hb⟩))) ra rb
  intro p q h hp hq;unfold smB at h;split at h
  ·have:=of_decide_eq_true h;subst this;exact .int _ _ _
  ·exact .bool _ _
  ·rw [fE] at h;have e:=jb h.1;subst e;have h0:=key h.2 (hp.rows.2 0 0) (hq.rows.2 0 0);exact pq.sl (λ i j=>((hp.rows.2 i 0).trans h0).trans (hq.rows.2 0 j)) _ _ _
  ·rw [fE] at h;have e:=jb h.1;subst e;have hp':∀ {l:List PV} {o:Nat},Sm (.fp l o) (.fp l o)->RS l l:=by
    intro l o h;cases h with
    | fp _ _ _ hl h=>exact RL.of_get hl λ k a b ha hb=>h k a b ha hb
    | atom _ h=>cases h
   have h0:=key h.2 (hp' hp) (hp' hq);exact .fp _ _ _ h0.length λ k x y hx hy=>by
    obtain⟨z,hz,r⟩:=RL.get h0 k x hx;rw[hy] at hz;cases hz;exact r
  ·exact hp
  ·exact hp
  ·exact hp
  ·exact hp
  ·cases h
theorem Sm.cells {l l':List PV}{o:Nat}(h:Sm (.fp l o) (.fp l' o)):RS l l':=by
 cases h with
 | fp _ _ _ hl h=>exact RL.of_get hl λ k a b ha hb=>h k a b ha hb
 | atom _ h=>cases h
theorem Sm.fp' {l l':List PV}{o:Nat}(h:RS l l'):Sm (.fp l o) (.fp l' o):=.fp _ _ _ h.length λ k x y hx hy=>by
 obtain⟨z,hz,r⟩:=RL.get h k x hx;rw[hy] at hz;cases hz;exact r
theorem Ee {l m:List PV}(h:smL l m=true) (hl:RS l l) (hm:RS m m):RS l m:=by
 unfold smL at h;rw[fE] at h;refine RL.of_get (jb h.1) λ j a b ha hb=>?_;obtain⟨_,ha',ra⟩:=RL.get hl j a ha;obtain⟨_,hb',rb⟩:=RL.get hm j b hb;rw[ha] at ha';rw[hb] at hb';cases ha';cases hb';exact zny (List.all_eq_true.1 h.2 (a,b) (DW (i:=j) (by rw[List.getElem?_zip_eq_some];exact⟨ha,hb⟩))) ra rb
theorem zgL {n:Nat}{g new:Nat->List PV}(hg:pq g) (hn:pq new) (h:RS (g 0) (new 0)):pq (appG n g new):=by
 have h2:∀ i j,RS (g i) (new j):=λ i j=>((hg i 0).trans h).trans (hn 0 j);intro i j;unfold appG;split <;> split
 ·exact hn _ _
 ·exact (h2 _ _).symm
 ·exact h2 _ _
 ·exact hg _ _
theorem Ef {c:List PV}(h:RS c c):pq λ _=>c:=λ _ _=>h
theorem rG {g:Nat->List PV}(h:pq g) (f:Nat->Nat):pq λ i=>g (f i):=λ _ _=>h _ _
theorem OB {l:List (List PV)}(h:∀ c∈l,RS c c) (hs:smA l=true):pq (wX l):=by
 have key:∀ c r,l=c :: r->∀ x∈l,RS c x:=by
  intro c r e x hx;subst e;simp only[smA,fE,List.all_eq_true] at hs;rcases jf.1 hx with rfl | hx
  ·exact h _ kR
  ·exact Ee (hs.2 x hx) (h _ kR) (h _ (je _ hx))
 unfold wX;split
 ·exact λ _ _=>trivial
 ·exact Ef (h _ kR)
 ·rename_i c r _;have k2:∀ i:Nat,RS c (match (c :: r)[i]? with | some x=>x | none=>c):=λ i=>by
   split
   ·rename_i x hx;exact key c r rfl x (DW hx)
   ·exact h _ kR
  exact λ i j=>(k2 i).symm.trans (k2 j)

inductive lV : PV → PV → Prop
  | rfl (p:PV):lV p p
  | nil (s:Nat) (g:Nat->List PV) (h:pq g):lV .nils (.sl 0 s g)
  | sl (n s:Nat) (g g':Nat->List PV) (hu:pq g') (hl:∀ i:Nat,i < n->(g i).length=(g' i).length) (h:∀ (i k:Nat) (x y:PV),i < n->(g i)[k]? = some x->(g' i)[k]? = some y->lV x y):lV (.sl n s g) (.sl n s g')
  | fp (l l':List PV) (o:Nat) (hl:l.length=l'.length) (h:∀ (k:Nat) (x y:PV),l[k]? = some x->l'[k]? = some y->lV x y):lV (.fp l o) (.fp l' o)
  | fn (f:FuncId) (a a' l l':List PV) (ha:a.length=a'.length) (h0:∀ (k:Nat) (x y:PV),a[k]? = some x->a'[k]? = some y->lV x y) (hl:l.length=l'.length) (h:∀ (k:Nat) (x y:PV),l[k]? = some x->l'[k]? = some y->lV x y):lV (.fn f a l) (.fn f a' l')

theorem jO {f : PV → PV → PV} (hf : ∀ a b, Sm a b → f a b = b) : ∀ {l m : List PV}, RS l m → CE f l m = m
  | [],[],_=>rfl
  | _ :: _,_ :: _,h=>by simp only[CE,List.headD_cons,List.tail_cons,hf _ _ h.1,jO hf h.2]
  | [],_ :: _,h=>h.elim
  | _ :: _,[],h=>h.elim
theorem pz : ∀ (d : Nat) (a b : PV), Sm a b → shp d a b = b
  | 0,_,_,_=>rfl
  | d+1,a,b,h=>by
    cases h with
    | int=>rfl
    | bool=>rfl
    | sl n m s g g' hl hg =>
      have hr:=(Sm.rows (.sl n m s g g' hl hg)).2;simp only[shp];congr 1;funext i;exact jO (pz d) (hr 0 i)
    | fp l l' o hl hg =>
      simp only[shp];rw[jO (pz d) (Sm.cells (.fp l l' o hl hg))]
    | atom _ ha=>cases a <;> first | rfl | cases ha
theorem SG {row:List PV}{g:Nat->List PV}(h:∀ i,RS row (g i)):nzG row g=g:=by
 funext i;exact jO (pz 8) (h i)
theorem zgM {row:List PV}{g:Nat->Nat->List PV}(h:∀ i j,RS row (g i j)):znq row g=g:=by
 funext i j;exact jO (pz 8) (h i j)
structure Sl (α : Type) where
  len:Nat
  get:Nat->α
instance {α:Type} [Inhabited α]:Inhabited (Sl α):=⟨⟨0,λ _=>default⟩⟩
class bG (α : Type) where
  enc:α->List PV
  dec:List PV->α×List PV
  ck:List PV->Option (List PV)
  le:∀ {l r:List PV},RS l l->ck l=some r->∃ k,l=k ++ r/\(dec l).2=r/\RL lV k (enc (dec l).1)
  inv:∀ {l m r:List PV},RS l m->ck l=some r->∃ r',ck m=some r'/\RS r r'
  sm:∀ a b:α,RS (enc a) (enc b)
  eq:α->α->Bool
  eqk:∀ {a b:α},eq a b=true->RL lV (enc a) (enc b)
instance : bG Int where
  enc x:=[.int .i64 x]
  dec l:=match l with | .int .i64 x :: r=>(x,r) | _=>(0,[])
  ck l:=match l with | .int .i64 _ :: r=>some r | _=>none
  le:=by
    intro l r _ h;split at h
    · cases h;exact⟨[_],rfl,rfl,.rfl _,trivial⟩
    · cases h
  inv:=by
    intro l m r h hc;split at hc
    · cases hc
      match m,h with
      | y :: m,h =>
        obtain⟨h,h2⟩:=h;cases h with
        | int=>exact⟨_,rfl,h2⟩
        | atom _ h=>cases h
    · cases hc
  sm a b:=⟨.int _ _ _,trivial⟩
  eq a b:=decide (a=b)
  eqk h:=by rw[of_decide_eq_true h];exact⟨.rfl _,trivial⟩
instance : bG Bool where
  enc x:=[.bool x]
  dec l:=match l with | .bool x :: r=>(x,r) | _=>(false,[])
  ck l:=match l with | .bool _ :: r=>some r | _=>none
  le:=by
    intro l r _ h;split at h
    · cases h;exact⟨[_],rfl,rfl,.rfl _,trivial⟩
    · cases h
  inv:=by
    intro l m r h hc;split at hc
    · cases hc
      match m,h with
      | y :: m,h =>
        obtain⟨h,h2⟩:=h;cases h with
        | bool=>exact⟨_,rfl,h2⟩
        | atom _ h=>cases h
    · cases hc
  sm a b:=⟨.bool _ _,trivial⟩
  eq a b:=a == b
  eqk h:=by rw[eq_of_beq h];exact⟨.rfl _,trivial⟩
def Jt (o:Option (List PV)):Bool:=match o with | some []=>true | _=>false
theorem KU {o:Option (List PV)}(h:Jt o=true):o=some []:=by
 unfold Jt at h;split at h
 ·rfl
 ·cases h
theorem kU {α:Type} [bG α] {g:Nat->List PV}(h:pq g) (hc:Jt (bG.ck (α:=α) (g 0))=true) (i:Nat):RL lV (g i) (bG.enc (bG.dec (α:=α) (g i)).1):=by
 obtain⟨r',e,hr⟩:=bG.inv (h 0 i) (KU hc);cases r' with
 | nil =>
  obtain⟨k,e1,_,r⟩:=bG.le (h i i) e;rw[List.append_nil] at e1;rw[<- e1] at r;exact r
 | cons=>exact hr.elim
def dR (p : Nat → Bool) : Nat → Bool
  | 0=>true
  | n+1=>dR p n && p n
theorem KW {p : Nat → Bool} : ∀ {n : Nat}, dR p n = true → ∀ i, i < n → p i = true
  | 0,_,i,hi=>absurd hi (Si i)
  | n+1,h,i,hi=>by
    simp only[dR,fE] at h;rcases Nat.lt_succ_iff_lt_or_eq.1 hi with h1 | rfl
    · exact KW h.1 i h1
    · exact h.2
instance {α : Type} [bG α] [Inhabited α] : bG (Sl α) where
  enc x:=[.sl x.len (bG.enc (default:α)).length (λ i=>bG.enc (x.get i))]
  dec l:=match l with
    | .sl n _ g :: r=>(⟨n,λ i=>(bG.dec (g i)).1⟩,r)
    | .nils :: r=>(⟨0,λ _=>default⟩,r)
    | _=>(⟨0,λ _=>default⟩,[])
  ck l:=match l with
    | .sl _ s g :: r=>match Nat.beq s (bG.enc (default:α)).length && Jt (bG.ck (α:=α) (g 0)) with
      | true=>some r
      | false=>none
    | .nils :: r=>some r
    | _=>none
  le:=by
    intro l r hl h;split at h
    · rename_i n s g r';split at h
      · rename_i hc;rw[Bool.and_eq_true] at hc;cases h;have e:=Nat.eq_of_beq_eq_true hc.1;subst e;have hu:pq g:=hl.1.rows.2;refine⟨[_],rfl,rfl,?_,trivial⟩;have hp:=λ i=>kU (α:=α) hu hc.2 i;exact .sl _ _ _ _ (λ i j=>bG.sm _ _) (λ i _=>(hp i).length) λ i k x y _ hx hy=>by
          obtain⟨z,hz,r⟩:=RL.get (hp i) k x hx;rw[hy] at hz;cases hz;exact r
      · cases h
    · cases h;exact⟨[_],rfl,rfl,.nil _ _ λ i j=>bG.sm _ _,trivial⟩
    · cases h
  inv:=by
    intro l m r h hc;split at hc
    · rename_i n s g r';split at hc
      · rename_i hs;cases hc
        match m,h with
        | y :: m,h =>
          obtain⟨h,h2⟩:=h;cases h with
          | sl _ m' _ _ g' hl hg =>
            rw[Bool.and_eq_true] at hs;obtain⟨r',e,hr⟩:=bG.inv (α:=α) ((Sm.rows (.sl n m' s g g' hl hg)).2 0 0) (KU hs.2);cases r' with
            | nil=>exact⟨m,by simp only[hs.1,e];rfl,h2⟩
            | cons=>exact hr.elim
          | atom _ h=>cases h
      · cases hc
    · cases hc
      match m,h with
      | y :: m,h =>
        obtain⟨h,h2⟩:=h;cases h with
        | atom _ _=>exact⟨m,rfl,h2⟩
    · cases hc
  sm a b:=⟨pq.sl (λ i j=>bG.sm _ _) _ _ _,trivial⟩
  eq a b:=Nat.beq a.len b.len && dR (λ i=>bG.eq (a.get i) (b.get i)) a.len
  eqk:=by
    intro a b h;obtain⟨n,f⟩:=a;obtain⟨m,f'⟩:=b;rw[Bool.and_eq_true] at h;have e:n=m:=Nat.eq_of_beq_eq_true h.1;subst e;have key:=λ i (hi:i < n)=>bG.eqk (KW h.2 i hi);exact⟨.sl _ _ _ _ (λ i j=>bG.sm _ _) (λ i hi=>(key i hi).length) λ i k x y hi hx hy=>by
      obtain⟨z,hz,r⟩:=RL.get (key i hi) k x hx;rw[hy] at hz;cases hz;exact r,trivial⟩
theorem VO {α β : Type} {R : α → β → Prop} : ∀ {a : List α} {b : List β} {c : List α} {d : List β}, RL R a b → RL R c d → RL R (a ++ c) (b ++ d)
  | [],[],_,_,_,h=>h
  | _ :: _,_ :: _,_,_,h,h'=>⟨h.1,VO h.2 h'⟩
instance {α β : Type} [bG α] [bG β] : bG (α × β) where
  enc:=λ x=>bG.enc x.1 ++ bG.enc x.2
  dec:=λ l=>(((bG.dec (α:=α) l).1,(bG.dec (α:=β) (bG.dec (α:=α) l).2).1),(bG.dec (α:=β) (bG.dec (α:=α) l).2).2)
  ck:=λ l=>match bG.ck (α:=α) l with
    | some r=>bG.ck (α:=β) r
    | none=>none
  le:=by
    intro l r hl h;split at h
    · rename_i r1 h1;obtain⟨k1,e1,d1,p1⟩:=bG.le hl h1;obtain⟨r1',e1',s1⟩:=bG.inv hl h1;rw[h1] at e1';cases e1';obtain⟨k2,e2,d2,p2⟩:=bG.le s1 h;refine⟨k1 ++ k2,by rw[List.append_assoc,<- e2];exact e1,?_,?_⟩
      · simp only[d1];exact d2
      · simp only[d1];exact VO p1 p2
    · cases h
  inv:=by
    intro l m r h hc;split at hc
    · rename_i r1 h1;obtain⟨r1',e1,s1⟩:=bG.inv h h1;obtain⟨r2',e2,s2⟩:=bG.inv s1 hc;exact⟨r2',by rw[e1];exact e2,s2⟩
    · cases hc
  sm a b:=VO (bG.sm _ _) (bG.sm _ _)
  eq a b:=bG.eq a.1 b.1 && bG.eq a.2 b.2
  eqk h:=by rw[Bool.and_eq_true] at h;exact VO (bG.eqk h.1) (bG.eqk h.2)
structure Pt (α : Type) where
  v:α
instance {α:Type} [Inhabited α]:Inhabited (Pt α):=⟨⟨default⟩⟩
instance {α : Type} [bG α] : bG (Pt α) where
  enc:=λ x=>[.fp (bG.enc x.v) 0]
  dec:=λ l=>match l with
    | .fp k _ :: r=>(⟨(bG.dec k).1⟩,r)
    | _=>(⟨(bG.dec []).1⟩,[])
  ck:=λ l=>match l with
    | .fp k 0 :: r=>match Jt (bG.ck (α:=α) k) with
      | true=>some r
      | false=>none
    | _=>none
  le:=by
    intro l r hl h;split at h
    · split at h
      · rename_i hc;cases h;obtain⟨k',e1,_,p⟩:=bG.le hl.1.cells (KU hc);rw[List.append_nil] at e1;rw[<- e1] at p;exact⟨[_],rfl,rfl,.fp _ _ _ p.length λ k x y hx hy=>by
          obtain⟨z,hz,r⟩:=RL.get p k x hx;rw[hy] at hz;cases hz;exact r,trivial⟩
      · cases h
    · cases h
  inv:=by
    intro l m r h hc;split at hc
    · split at hc
      · rename_i hs;cases hc
        match m,h with
        | y :: m,h =>
          obtain⟨h,h2⟩:=h;cases h with
          | fp _ l' _ hl hg =>
            obtain⟨r',e,hr⟩:=bG.inv (α:=α) (Sm.cells (.fp _ _ 0 hl hg)) (KU hs);cases r' with
            | nil=>exact⟨m,by simp only[e];rfl,h2⟩
            | cons=>exact hr.elim
          | atom _ h=>cases h
      · cases hc
    · cases hc
  sm a b:=⟨Sm.fp' (bG.sm _ _),trivial⟩
  eq a b:=bG.eq a.v b.v
  eqk h:=⟨.fp _ _ _ (bG.eqk h).length λ k x y hx hy=>by
    obtain⟨z,hz,r⟩:=RL.get (bG.eqk h) k x hx;rw[hy] at hz;cases hz;exact r,trivial⟩
abbrev bG.iso {α β : Type} [bG α] (f : α → β) (g : β → α) (hg : ∀ a, g (f a) = a) : bG β where
  enc:=λ b=>bG.enc (g b)
  dec:=λ l=>(f (bG.dec (α:=α) l).1,(bG.dec (α:=α) l).2)
  ck:=bG.ck (α:=α)
  le:=by
    intro l r hl h;rw[hg];exact bG.le hl h
  inv:=bG.inv
  sm a b:=bG.sm _ _
  eq a b:=bG.eq (g a) (g b)
  eqk h:=bG.eqk h

end Go.Pm
namespace Go.Pm

def Eg (b:Bool) (x y:Prop):Prop:=match b with | true=>x | false=>y

theorem mX {b:Bool}{x y:Prop} : Eg b x y↔((b=true->x)/\(b=false->y)):=by
 cases b <;> simp[Eg]
theorem xZ {b:Bool}{x y:Prop}(h1:b=true->x) (h2:b=false->y):Eg b x y:=mX.2 ⟨h1,h2⟩

structure Keep where
  tmps:List Nat
  coT:List (Nat×Nat×Nat)
  coB:List (Nat×Nat×Nat×Nat)
  coV:List (Nat×Nat×Nat×Nat×Nat)
  coF:List Nat
  coZ:List Nat
  nf:List (Nat×Nat×Nat×Nat)

structure bW where
  nt:Nat
  reg:List (Nat×Keep)
  head:List (Nat×Keep)
  cut:List (Nat×Keep)
  unr:List (Nat×Nat×Keep)
  yl:List Nat

def St.setT (σ:St) (t:Nat) (d:DV):St:={ σ with env:=(t,d) :: σ.env }

def eG (l:List Nat) (x:Cl):Cl :=
 match x with
 | .vec L=>match l.contains L with | true=>.dead L | false=>.vec L
 | .vptr L s i k=>match l.contains L with | true=>.dead L | false=>.vptr L s i k
 | .mo L=>match l.contains L with | true=>.dead L | false=>.mo L
 | x=>x
def dZ (l : List Nat) : D1 → D1
  | .c x=>.c (eG l x)
  | .agg cs=>.agg (cs.map (eG l))
def fJ (l : List Nat) : DV → DV
  | .one d=>.one (dZ l d)
  | .tup ds=>.tup (ds.map (dZ l))
def dV (l : List Nat) : AO → AO
  | .box ty cs=>.box ty (cs.map (eG l))
  | o=>o
def kills {α : Type} (f : α → α) : List (Nat × α) → List (Nat × α)
  | []=>[]
  | (k,a) :: r=>(k,f a) :: kills f r

def St.upd (σ:St) (_i:Nat) (dst:Option Nat) (_fp:List (Nat×Bool)) (d:DV) (u:List (Nat×AO)) (kill:List Nat):St :=
  match kill with
  | [] => { env := match dst with | some t => (t, d) :: σ.env | none => σ.env
            aB:=u ++ σ.aB
            log:=σ.log }
  | kill => { env := match dst with | some t => (t, d) :: kills (fJ kill) σ.env | none => kills (fJ kill) σ.env
              aB:=u ++ kills (dV kill) σ.aB
              log:=σ.log }

def St.skip (σ:St) (dst:Option Nat):St :=
 match dst with
 | some t=>σ.setT t (.cl .undef)
 | none=>σ

def dE (nt : Nat) : Option Nat → Bool
  | none=>true
  | some t=>Nat.blt t nt

def St.relog (σ:St) (l:List (Nat×Nat×Nat)):St:={ σ with log:=l ++ σ.log }

def I7 (σ : St) : List Nat → List Nat
  | []=>[]
  | L :: _=>(σ.aB.map (·.1)).filter λ k=>match lk σ.aB k with
    | some o=>(lU o).contains L
    | none=>false
def Eh (σ:St) (o:Oper) (fp:List (Nat×Bool)):List Nat :=
 (o.op.operands.toList.flatMap λ x=>jF (eH σ.env x)) ++ fp.flatMap λ x=>match lk σ.aB x.1 with
  | some ob=>lU ob
  | none=>[]
def lL (σ:St) (i:Nat) (o:Oper) (fp:List (Nat×Bool)) (kl:List Nat):List (Nat×Nat×Nat) :=
 (fp.map λ x=>(i,x.1,match x.2 with | true=>1 | false=>0)) ++ ((Eh σ o fp).map λ L=>(i,L,2)) ++ (kl.map λ L=>(i,L,3)) ++ ((I7 σ kl).map λ L=>(i,L,1))

def kH (A:aH) (lg:List (Nat×Bool)->List Nat->List (Nat×Nat×Nat)) (i:Nat) (dst:Option Nat) (K:St->Prop) (σ:St):Prop :=
 match A with
 | .no=>False
 | .val fp d u kl=>K ((σ.upd i dst fp d u kl).relog (lg fp kl))
 | .chk fp s d u kl=>s.p/\K ((σ.upd i dst fp d u kl).relog (lg fp kl))

section
variable (P:Program) (Γ:aX)

def iJ (nt : Nat) (ops : Array Oper) : Nat → List Oper → (St → Prop) → St → Prop
  | _,[],K,σ=>K σ
  | i,o :: r,K,σ =>
    match dE nt o.dst with
    | false=>False
    | true =>
    match o.guard with
    | none=>kH (act P Γ o (eH σ.env) (lk σ.aB)) (lL σ i o) i o.dst (iJ nt ops (i+1) r K) σ
    | some (j,want) =>
      match (ops[j]?).bind (·.dst) with
      | none=>False
      | some g =>
        match lk σ.env g with
        | some (.one (.c (.p (.bool b)))) =>
          Eg b
            (match want with
              | true=>kH (act P Γ o (eH ((g,.bool true) :: σ.env)) (lk σ.aB)) (lL (σ.setT g (.bool true)) i o) i o.dst (iJ nt ops (i+1) r K) (σ.setT g (.bool true))
              | false=>iJ nt ops (i+1) r K ((σ.setT g (.bool true)).skip o.dst))
            (match want with
              | true=>iJ nt ops (i+1) r K ((σ.setT g (.bool false)).skip o.dst)
              | false=>kH (act P Γ o (eH ((g,.bool false) :: σ.env)) (lk σ.aB)) (lL (σ.setT g (.bool false)) i o) i o.dst (iJ nt ops (i+1) r K) (σ.setT g (.bool false)))
        | some (.one (.c .undef))=>iJ nt ops (i+1) r K (σ.skip o.dst)
        | _=>False

def wY (ms : List Nat) : List Edge → Nat
  | []=>0
  | e :: r=>match Region.binds .any e,ms[e.on]? with
    | true,some m=>(2 ^ e.on ||| m) ||| wY ms r
    | _,_=>wY ms r
def masks : List Oper → List Nat → List Nat
  | [],ms=>ms
  | o :: r,ms=>masks r (ms ++ [wY ms o.after.toList])

def SH : Operand → List Nat
  | .tmp t=>[t]
  | _=>[]
def gdT (ops:Array Oper) (o:Oper):List Nat :=
 match o.guard with
 | some (j,_)=>match (ops[j]?).bind (·.dst) with | some g=>[g] | none=>[]
 | none=>[]
def pF (ops:Array Oper) (o:Oper):List Nat:=o.op.operands.toList.flatMap SH ++ gdT ops o

def meets (l:List Nat) (d:Option Nat):Bool:=match d with | some t=>l.contains t | none=>false
def VP (d e:Option Nat):Bool:=match d,e with | some t,some u=>Nat.beq t u | _,_=>false

def Ei (ops:Array Oper) (a b:Oper):Bool :=
 meets (pF ops b) a.dst || meets (pF ops a) b.dst || VP a.dst b.dst

def wZ (ops:Array Oper) (ms:List Nat):Bool :=
 (List.range ops.size).all λ j=>(List.range j).all λ i =>
  match ops[i]?,ops[j]?,ms[j]? with
  | some a,some b,some m=>!Ei ops a b || m.testBit i
  | _,_,_=>false

def Ej (ops:Array Oper):Bool :=
 (List.range ops.size).all λ i=>match ops[i]? with
  | some o=>o.after.toList.all λ e=>!Region.binds .any e || Nat.blt e.on i
  | none=>true

def SI (k l:Nat):Bool :=
 match k,l with
 | 0,1=>true
 | 1,0=>true
 | 1,1=>true
 | 2,3=>true
 | 3,2=>true
 | 3,3=>true
 | _,_=>false

def qy (ms:List Nat) (log:List (Nat×Nat×Nat)):Bool :=
 log.all λ x=>log.all λ y =>
  !Nat.blt x.1 y.1 || !Nat.beq x.2.1 y.2.1 || !SI x.2.2 y.2.2 || (match ms[y.1]? with | some m=>m.testBit x.1 | none=>false)

def oN (x:Cl):Cl:=match x with | .dead _=>.junk | x=>x
def uo : D1 → D1
  | .c x=>.c (oN x)
  | .agg cs=>.agg (cs.map oN)
def KX : DV → DV
  | .one d=>.one (uo d)
  | .tup ds=>.tup (ds.map uo)
def Dh : AO → AO
  | .box ty cs=>.box ty (cs.map oN)
  | o=>o

def jP : List (Nat × Nat × Nat) → St → Option St
  | [],σ=>some σ
  | (t,L,e) :: r,σ=>match lk σ.env t with
    | some (.one (.c (.p .nils)))=>match lk σ.aB L,P.info? e,fA P e with
      | none,some ie,some _=>match Nat.ble 1 ie.size with
        | true=>jP r { env:=(t,.cl (.vec L)) :: σ.env,aB:=(L,.vec e ie.size ie.bytes 0 (λ _=>xW P e)) :: σ.aB,log:=σ.log }
        | false=>none
      | _,_,_=>none
    | some (.one (.c (.vec _)))=>jP r σ
    | _=>none

def jQ : List (Nat × Nat × Nat × Nat) → St → Option St
  | [],σ=>some σ
  | (B,k,L,e) :: r,σ=>match lk σ.aB B with
    | some (.box ty cs)=>match cs[k]? with
      | some (.p .nils)=>match lk σ.aB L,P.info? e,fA P e with
        | none,some ie,some _=>match Nat.ble 1 ie.size with
          | true=>jQ r { env:=σ.env,aB:=(B,.box ty (cs.set k (.vec L))) :: (L,.vec e ie.size ie.bytes 0 (λ _=>xW P e)) :: σ.aB,log:=σ.log }
          | false=>none
        | _,_,_=>none
      | some (.vec _)=>jQ r σ
      | _=>none
    | _=>none

def jR : List (Nat × Nat × Nat × Nat × Nat) → St → Option St
  | [],σ=>some σ
  | (B,k,L,te,e) :: r,σ=>match lk σ.aB B with
    | some (.box ty cs)=>match cs[k]? with
      | some (.p .nils)=>match lk σ.aB L,P.info? te,fA P te with
        | none,some it,some _=>match P.info? e,fA P e with
          | some ie,some _=>match Nat.beq it.size 1 && Nat.ble 1 ie.size with
            | true=>jR r { env:=σ.env,aB:=(B,.box ty (cs.set k (.vec L))) :: (L,.vv te it.bytes e ie.size ie.bytes 0 (λ _=>0) (λ _ _=>xW P e)) :: σ.aB,log:=σ.log }
            | false=>none
          | _,_=>none
        | _,_,_=>none
      | some (.vec _)=>jR r σ
      | _=>none
    | _=>none

def tJ {α : Type} (f : α → α) (l : List (Nat × α)) : List Nat → List (Nat × α)
  | []=>[]
  | t :: r=>match lk l t with
    | some d=>(t,f d) :: tJ f l r
    | none=>tJ f l r

def xe : List Nat → Nat → List Nat
  | [],x=>[x]
  | y :: r,x=>match Nat.beq x y with | true=>y :: r | false=>y :: xe r x
def zgN (ob:Nat->Option AO) (l:List Nat):List Nat:=l.foldl (λ a L=>match ob L with | some o=>(dJ o).foldl xe a | none=>a) l
def znz (ob:Nat->Option AO) (env:List (Nat×DV)):List Nat :=
 zgN ob (zgN ob (zgN ob (zgN ob (env.foldl (λ a x=>(bY x.2).foldl xe a) []))))
def SK (gK:List Nat) (l:List Nat):Bool:=l.all λ L=>gK.contains L

def zW (ob : Nat → Option AO) : List Nat → List (Nat × AO)
  | []=>[]
  | L :: r=>match ob L with
    | some (.box _ cells)=>match ik ob cells with
      | some (l,[])=>(L,.fbox l) :: zW ob r
      | _=>zW ob r
    | _=>zW ob r
def I8 (ob : Nat → Option AO) : List Nat → List (Nat × AO)
  | []=>[]
  | L :: r=>match ob L with
    | some (.vec _ size _ len get)=>(L,.fvec size len get) :: I8 ob r
    | _=>I8 ob r
def Ye (l:List Nat) (σ:St):St:={ env:=σ.env,aB:=(zW (lk σ.aB) l ++ I8 (lk σ.aB) l) ++ σ.aB,log:=σ.log }

def Yf (σ:St) (n:Nat):St:=match Nat.ble 1000000 n with
 | false=>σ
 | true=>match lk σ.aB ((n - 1000000) / 64) with
  | some (.box ty cs)=>match cs[(n - 1000000) % 64]? with
   | some (.vec L)=>match lk σ.aB L with
    | some (.vec _ s _ len get)=>{ env:=σ.env,aB:=((n - 1000000) / 64,.box ty (cs.set ((n - 1000000) % 64) (.p (.sl len s get)))) :: ([(L,.fvec s len get)] ++ σ.aB),log:=σ.log }
    | _=>σ
   | _=>σ
  | _=>σ
def coP : List Nat → St → St
  | [],σ=>σ
  | n :: r,σ=>coP r (Yf σ n)
def jS : List Nat → St → Option St
  | [],σ=>some σ
  | t :: r,σ=>match lk σ.env t with
    | some (.one (.c x))=>match x with
      | .p _=>jS r σ
      | _=>match frz (lk σ.aB) x with
        | some (v,u)=>jS r { env:=(t,.p v) :: σ.env,aB:=u ++ σ.aB,log:=σ.log }
        | none=>none
    | _=>none
def zX (e : Nat) : Cl → Cl
  | .p .nils=>match mg P e with
    | some s=>.p (.sl 0 s (λ _=>xW P e))
    | none=>.p .nils
  | x=>x
def OC (b:Nat) (f:Cl->Cl) (l:List Cl):List Cl:=match l[b]? with | some x=>l.set b (f x) | none=>l
def SL {α : Type} (k : Nat) (x : α) : List (Nat × α) → List (Nat × α)
  | []=>[]
  | (j,y) :: r=>match Nat.beq j k with | true=>(j,x) :: r | false=>(j,y) :: SL k x r
def nf1 (k a b e:Nat) (σ:St):St :=
 match k with
 | 0=>match lk σ.env a with
  | some (.one (.c x))=>{ env:=SL a (.one (.c (zX P e x))) σ.env,aB:=σ.aB,log:=σ.log }
  | some (.one (.agg cs))=>{ env:=SL a (.one (.agg (OC b (zX P e) cs))) σ.env,aB:=σ.aB,log:=σ.log }
  | _=>σ
 | _=>match lk σ.aB a with
  | some (.box ty cs)=>{ env:=σ.env,aB:=SL a (.box ty (OC b (zX P e) cs)) σ.aB,log:=σ.log }
  | _=>σ
def Di : List (Nat × Nat × Nat × Nat) → St → St
  | [],σ=>σ
  | (k,a,b,e) :: r,σ=>Di r (nf1 P k a b e σ)

def uq (k:Keep) (σ:St):Option St :=
  match jP P k.coT σ with
  | none=>none
  | some σ1=>match jQ P k.coB σ1 with
    | none=>none
    | some σ2=>match jR P k.coV σ2 with
     | none=>none
     | some σ3 =>
      let env:=tJ KX σ3.env k.tmps;let gK:=znz (lk σ3.aB) env;let aB:=tJ Dh σ3.aB gK
      match (env.all λ x=>SK gK (bY x.2)) && (aB.all λ x=>SK gK (dJ x.2)) with
      | true=>some ⟨env,aB,[]⟩
      | false=>none

def canon (k:Keep) (σ:St):Option St :=
 match jS k.coZ (coP k.coF (Ye k.coF σ)) with
 | some s=>match uq P k s with
  | some s=>some (Di P k.nf s)
  | none=>none
 | none=>none

def Ju (aT:bW) (id:Nat) (ops:Array Oper) (draw:Bool) (K:St->Prop) (σ:St):Prop :=
 match draw with
 | false=>iJ P Γ aT.nt ops 0 ops.toList (λ σ'=>match lk aT.reg id with
   | some k=>match canon P k σ' with
    | some s=>K s
    | none=>False
   | none=>K σ') { σ with log:=[] }
 | true=>match P.follows .mixedOrders && Ej ops && wZ ops (masks ops.toList []) with
  | true=>iJ P Γ aT.nt ops 0 ops.toList (λ σ'=>match qy (masks ops.toList []) σ'.log with
   | true=>match lk aT.reg id with
    | some k=>match canon P k σ' with
     | some s=>K s
     | none=>False
    | none=>False
   | false=>False) { σ with log:=[] }
  | false=>False

def iC : Code → Nat
  | .region id _ _=>id
  | .seq a _=>iC a
  | .block _ b=>iC b
  | .loop b=>iC b
  | .scope b=>iC b
  | .cond _ a b=>match Nat.beq (iC a) 1000000 with | true=>iC b | false=>iC a
  | _=>1000000

def zgO (aT:bW) (r:Nat) (go:St->Prop) (σ:St):Prop :=
 match lk aT.cut r with
 | some k=>match canon P k σ with
  | some s=>go s
  | none=>False
 | none=>go σ

def Yg (next : St → Prop) (K : Exit → St → Prop) : Exit → St → Prop
  | .normal,σ=>next σ
  | e,σ=>K e σ
def SN (id : Nat) (K : Exit → St → Prop) : Exit → St → Prop
  | .exit i,σ=>match Nat.beq i id with | true=>K .normal σ | false=>K (.exit i) σ
  | e,σ=>K e σ
def znA (K : Exit → St → Prop) : Exit → St → Prop
  | .goto _,_=>False
  | e,σ=>K e σ
def zbJ (aT : bW) (id : Nat) (X : St → Prop) (K : Exit → St → Prop) : Exit → St → Prop
  | .normal,σ=>match lk aT.head id with
    | some k=>match canon P k σ with
      | some s=>X s
      | none=>False
    | none=>False
  | e,σ=>K e σ

def tK (σ:St) (c:Operand) (b:Bool):St:=match c with | .tmp t=>σ.setT t (.bool b) | _=>σ

def Yh (k : Keep) (step : (Exit → St → Prop) → St → Prop) : Nat → (Exit → St → Prop) → St → Prop
  | 0,_,_=>False
  | n+1,K,σ=>match canon P k σ with
    | some s=>step (λ e σ'=>match e with | .normal=>Yh k step n K σ' | e=>K e σ') s
    | none=>False

def zY : List Oper → List Nat
  | []=>[]
  | o :: r=>match o.dst with | some t=>t :: zY r | none=>zY r
def rfS:Nat:=4294967296
def eY : Code → List Nat
  | .region _ ops _=>zY ops.toList
  | .seq a b=>eY a ++ eY b
  | .cond _ a b=>eY a ++ eY b
  | .block _ b=>eY b
  | .loop b=>eY b
  | .scope b=>eY b
  | .rangeFunc _ _ a b=>rfS :: (eY a ++ eY b)
  | _=>[]

def SQ (a b:Code):Nat:=match Nat.beq (iC a) 1000000 with | true=>iC b | false=>iC a
def uf (l m:List Nat):Bool:=l.all λ t=>!m.contains t
def mi : List Nat → List PA → List (Nat × DV) → Option (List (Nat × DV))
  | [],[],e=>some e
  | p :: ps,y :: ys,e=>mi ps ys ((p,.one (Dc y)) :: e)
  | _,_,_=>none
def ut (k : Keep) (next : St → Prop) (K : Exit → St → Prop) : Exit → St → Prop
  | .normal,σ=>match canon P k σ with | some s=>next s | none=>False
  | .ret,σ=>match canon P k σ with | some s=>K .ret s | none=>False
  | .exit id,σ=>match canon P k σ with | some s=>K (.exit id) s | none=>False
  | _,_=>False

def vc (aT : bW) : Code → (Exit → St → Prop) → St → Prop
  | .skip,K,σ=>K .normal σ
  | .region id ops draw,K,σ=>Ju P Γ aT id ops draw (K .normal) σ
  | .seq a b,K,σ=>vc aT a (Yg (zgO P aT (iC b) (vc aT b K)) K) σ
  | .cond c a b,K,σ=>match eH σ.env c with
    | .one (.c (.p (.bool t)))=>Eg t (vc aT a K (tK σ c true)) (vc aT b K (tK σ c false))
    | _=>False
  | .block id b,K,σ=>vc aT b (SN id K) σ
  | .loop b,K,σ=>match lk aT.head (iC b) with
    | some k=>match canon P k σ with
      | some s=>∀ X:St->Prop,(∀ s,vc aT b (zbJ P aT (iC b) X K) s->X s)->X s
      | none=>False
    | none=>match lk aT.unr (iC b) with
      | some (n,k)=>Yh P k (vc aT b) n K σ
      | none=>False
  | .rangeFunc f ps assign body,K,σ=>match lk aT.head (SQ assign body) with
    | some k=>match canon P k σ,uf k.tmps (ps.toList ++ (eY assign ++ eY body)) && ps.toList.all (λ p=>Nat.blt p aT.nt) with
      | some s,true=>match eH s.env f with
        | .one (.c (.p (.fn gf [] caps)))=>match (Γ.it gf (caps.map .one)).o with
          | some ys=>∀ X:List (List PA)->St->Prop,(∀ s,K .normal s->X [] s) ->
            (∀ y rest s,(match mi ps.toList y s.env with
              | some env=>vc aT assign (Yg (vc aT body (ut P k (X rest) K)) λ _ _=>False) ⟨env,s.aB,[]⟩
              | none=>False)->X (y :: rest) s)->X ys s
          | none=>False
        | _=>False
      | _,_=>False
    | none=>False
  | .exit id,K,σ=>K (.exit id) σ
  | .scope b,K,σ=>vc aT b (znA K) σ
  | .label _,K,σ=>K .normal σ
  | .ret,K,σ=>K .ret σ
  | _,_,_=>False

def kJ (σ : St) : List ResultVar → Option (List PA)
  | []=>some []
  | .tmp t :: r=>match lk σ.env t with
    | some d=>match wu (lk σ.aB) d,kJ σ r with
      | some (x,_),some l=>some (x :: l)
      | _,_=>none
    | none=>none
  | .cell t ty :: r=>match lk σ.env t,ig P ty,mg P ty with
    | some (.one (.c (.ptr L off))),some g,some n=>match lk σ.aB L with
      | some (.box _ cells)=>match kS g n cells off with
        | some d=>match wu (lk σ.aB) (.one d),kJ σ r with
          | some (x,_),some l=>some (x :: l)
          | _,_=>none
        | none=>none
      | _=>none
    | _,_,_=>none

def Em (fn:Func) (K:List PA->Prop) (σ:St):Prop :=
 match kJ P σ fn.results.toList with
 | some l=>K l
 | none=>False

def Jv (fn : Func) (K : List PA → Prop) : Exit → St → Prop
  | .ret,σ=>Em P fn K σ
  | .normal,σ=>Em P fn K σ
  | _,_=>False

def gQ : Nat → List PA → List (Nat × DV)
  | _,[]=>[]
  | i,x :: r=>(i,.one (Dc x)) :: gQ (i+1) r

def vcFun (aT:bW) (f:FuncId) (args:List PA) (K:List PA->Prop):Prop :=
 match P.funcs[f]? with
 | some fn=>match fn.body with
  | some c=>match Nat.beq aT.nt fn.ntmps && Nat.ble args.length aT.nt with
   | true=>vc P Γ aT c (Jv P fn K) ⟨gQ 0 args,[],[]⟩
   | false=>False
  | none=>False
 | none=>False

def Jw (fn:Func) (e s b:Nat) (K:List PA->Prop) (σ:St):Prop :=
 match fn.results.toList with
 | [.tmp t]=>match lk σ.env t with
  | some (.one (.c (.vec L)))=>match lk σ.aB L with
   | some (.vec e' s' b' n get)=>match Nat.beq e e' && (Nat.beq s s' && Nat.beq b b') with
    | true=>K [.one (.sl n s get)]
    | false=>False
   | _=>False
  | _=>False
 | [.tmp t,.tmp u]=>match lk σ.env t with
  | some (.one (.c (.vec L)))=>match lk σ.env u with
   | some (.one (.c (.p x)))=>match lk σ.aB L with
    | some (.vec e' s' b' n get)=>match Nat.beq e e' && (Nat.beq s s' && Nat.beq b b') with
     | true=>K [.one (.sl n s get),.one x]
     | false=>False
    | _=>False
   | _=>False
  | _=>False
 | _=>False
def zbL (fn : Func) (e s b : Nat) (K : List PA → Prop) : Exit → St → Prop
  | .ret,σ=>Jw fn e s b K σ
  | .normal,σ=>Jw fn e s b K σ
  | _,_=>False
def VQ (aT:bW) (f:FuncId) (args:List PA) (e s b:Nat) (K:List PA->Prop):Prop :=
 match P.funcs[f]? with
 | some fn=>match fn.body with
  | some c=>match Nat.beq aT.nt fn.ntmps && Nat.ble args.length aT.nt with
   | true=>vc P Γ aT c (zbL fn e s b K) ⟨gQ 0 args,[],[]⟩
   | false=>False
  | none=>False
 | none=>False

/-! Iterators: functions that take yield. -/
abbrev YK:=Exit->List (List PA)->Bool->St->Prop

def nH : List DV → Option (List PA)
  | []=>some []
  | .one (.c (.p v)) :: r=>match nH r with | some l=>some (.one v :: l) | none=>none
  | .one (.agg cs) :: r=>match iO cs,nH r with | some l,some m=>some (.agg l :: m) | _,_=>none
  | _ :: _=>none

def Jy (ob : Nat → Option AO) : List Nat → List (Nat × AO)
  | []=>[]
  | L :: r=>match ob L with
    | some (.fbox l)=>(L,.fbox l) :: Jy ob r
    | _=>Jy ob r
abbrev OD:Nat:=4095
def En (σ:St):List (Nat×AO):=zW (lk σ.aB) (σ.aB.map (·.1)) ++ Jy (lk σ.aB) (σ.aB.map (·.1))
def hasAll (ks:List Nat) (l:List Nat):Bool:=l.all λ L=>ks.contains L
def rH (ks : List Nat) (l : List (Nat × DV)) : List Nat → List (Nat × DV)
  | []=>[]
  | t :: r=>match lk l t with
    | some d=>match hasAll ks (bY d) with
      | true=>(t,d) :: rH ks l r
      | false=>rH ks l r
    | none=>rH ks l r
def vF (σ:St):St:=⟨rH (OD :: (En σ).map (·.1)) σ.env (σ.env.map (·.1)),(OD,.gone) :: En σ,[]⟩

def zgP (σ:St) (o:Oper):Option (Array Operand×Nat) :=
 match o.op,o.dst with
 | .call { callee:=.value f,args,argTypes:=_ },some t=>match eH σ.env f with
  | .one (.c (.vec 4095))=>match lk σ.env 0 with
   | some (.one (.c (.vec 4095)))=>some (args,t)
   | _=>none
  | _=>none
 | _,_=>none

def rJ (nt:Nat) (o:Oper) (next:List (List PA)->Bool->St->Prop) (ys:List (List PA)) (q:Bool) (σ:St):Prop :=
 match zgP σ o with
 | some (args,t)=>match nH (args.toList.map (eH σ.env)),Nat.blt t nt,q with
  | some y,true,false=>∃ rest,ys=y :: rest/\next rest false ((vF σ).setT t (.bool true))/\next rest true ((vF σ).setT t (.bool false))
  | _,_,_=>False
 | none=>match dE nt o.dst with
  | true=>kH (act P Γ o (eH σ.env) (lk σ.aB)) (λ _ _=>[]) 0 o.dst (next ys q) σ
  | false=>False
def jy (nt : Nat) (ops : Array Oper) : List Oper → (List (List PA) → Bool → St → Prop) → List (List PA) → Bool → St → Prop
  | [],K,ys,q,σ=>K ys q σ
  | o :: r,K,ys,q,σ=>match o.guard with
    | none=>rJ P Γ nt o (jy nt ops r K) ys q σ
    | some (j,want)=>match dE nt o.dst,(ops[j]?).bind (·.dst) with
      | true,some g=>match lk σ.env g with
        | some (.one (.c (.p (.bool b)))) => Eg b
            (match want with | true=>rJ P Γ nt o (jy nt ops r K) ys q (σ.setT g (.bool true)) | false=>jy nt ops r K ys q ((σ.setT g (.bool true)).skip o.dst))
            (match want with | true=>jy nt ops r K ys q ((σ.setT g (.bool false)).skip o.dst) | false=>rJ P Γ nt o (jy nt ops r K) ys q (σ.setT g (.bool false)))
        | some (.one (.c .undef))=>jy nt ops r K ys q (σ.skip o.dst)
        | _=>False
      | _,_=>False

def znB (next : List (List PA) → Bool → St → Prop) (K : YK) : YK
  | .normal,ys,q,σ=>next ys q σ
  | e,ys,q,σ=>K e ys q σ
def SS (id : Nat) (K : YK) : YK
  | .exit i,ys,q,σ=>match Nat.beq i id with | true=>K .normal ys q σ | false=>K (.exit i) ys q σ
  | e,ys,q,σ=>K e ys q σ
def znC (K : YK) : YK
  | .goto _,_,_,_=>False
  | e,ys,q,σ=>K e ys q σ
def zbM (aT : bW) (id : Nat) (X : List (List PA) → Bool → St → Prop) (K : YK) : YK
  | .normal,ys,q,σ=>match lk aT.head id with
    | some k=>match canon P k σ with
      | some s=>X ys q s
      | none=>False
    | none=>False
  | e,ys,q,σ=>K e ys q σ
def Jz (k : Keep) (step : YK → List (List PA) → Bool → St → Prop) : Nat → YK → List (List PA) → Bool → St → Prop
  | 0,_,_,_,_=>False
  | n+1,K,ys,q,σ=>match canon P k σ with
    | some s=>step (λ e ys' q' σ'=>match e with | .normal=>Jz k step n K ys' q' σ' | e=>K e ys' q' σ') ys q s
    | none=>False
def znD (aT:bW) (r:Nat) (go:List (List PA)->Bool->St->Prop) (ys:List (List PA)) (q:Bool) (σ:St):Prop :=
 match lk aT.cut r with
 | some k=>match canon P k σ with
  | some s=>go ys q s
  | none=>False
 | none=>go ys q σ

def KY (aT : bW) : Code → YK → List (List PA) → Bool → St → Prop
  | .skip,K,ys,q,σ=>K .normal ys q σ
  | .region id ops draw,K,ys,q,σ=>match (zY ops.toList).contains 0,aT.yl.contains id,draw with
    | true,_,_=>False
    | false,true,false=>jy P Γ aT.nt ops ops.toList (λ ys' q' σ'=>match lk aT.reg id with
      | some k=>match canon P k σ' with
        | some s=>K .normal ys' q' s
        | none=>False
      | none=>K .normal ys' q' { σ' with log:=[] }) ys q { σ with log:=[] }
    | false,true,true=>False
    | false,false,_=>Ju P Γ aT id ops draw (K .normal ys q) σ
  | .seq a b,K,ys,q,σ=>KY aT a (znB (znD P aT (iC b) (KY aT b K)) K) ys q σ
  | .cond c a b,K,ys,q,σ=>match eH σ.env c with
    | .one (.c (.p (.bool t)))=>Eg t (KY aT a K ys q (tK σ c true)) (KY aT b K ys q (tK σ c false))
    | _=>False
  | .block id b,K,ys,q,σ=>KY aT b (SS id K) ys q σ
  | .loop b,K,ys,q,σ=>match lk aT.head (iC b) with
    | some k=>match canon P k σ with
      | some s=>∀ X:List (List PA)->Bool->St->Prop,(∀ ys q s,KY aT b (zbM P aT (iC b) X K) ys q s->X ys q s)->X ys q s
      | none=>False
    | none=>match lk aT.unr (iC b) with
      | some (n,k)=>Jz P k (KY aT b) n K ys q σ
      | none=>False
  | .exit id,K,ys,q,σ=>K (.exit id) ys q σ
  | .scope b,K,ys,q,σ=>KY aT b (znC K) ys q σ
  | .label _,K,ys,q,σ=>K .normal ys q σ
  | .ret,K,ys,q,σ=>K .ret ys q σ
  | _,_,_,_,_=>False

def zbN (ys:List (List PA)) (q:Bool):Prop:=match q with | true=>True | false=>ys=[]
def zv9 : YK
  | .ret,ys,q,_=>zbN ys q
  | .normal,ys,q,_=>zbN ys q
  | _,_,_,_=>False

def KZ (aT:bW) (f:FuncId) (caps:List PA) (ys:List (List PA)):Prop :=
 match P.funcs[f]? with
 | some fn=>match fn.body with
  | some c=>match Nat.beq aT.nt fn.ntmps && Nat.ble (caps.length+1) aT.nt && fn.results.isEmpty with
   | true=>KY P Γ aT c zv9 ys false ⟨(0,.cl (.vec OD)) :: gQ 1 caps,[(OD,.gone)],[]⟩
   | false=>False
  | none=>False
 | none=>False

end
end Go.Pm
namespace Go.Pm
open Go.RowKit (Below)


theorem jA {α:Type}(l:List α) (off:Nat) (l':List α):(spl l off l').length=l.length:=by
 induction l' generalizing l off with
 | nil=>rfl
 | cons x r ih=>simp[spl,ih]

inductive OE where
  | fz (o:Obj)
  | pin (o:Obj)

def oO (l:List Int):Value:=.agg (l.map λ n=>Value.int .i64 n).toArray
def OE.ok : OE → Obj → Prop
  | .fz o,x=>x=o
  | .pin o,x=>x=o

abbrev Fz:=Nat->Option OE
def Hw (h:Fz) (w:World):Prop:=∀ b x,h b=some x->∃ o,w.heap[b]? = some o/\x.ok o
theorem Hw.fz {h:Fz}{w:World}(H:Hw h w){b:Nat}{o:Obj}(hb:h b=some (.fz o)):w.heap[b]? = some o:=by
 obtain⟨o',h1,h2⟩:=H b _ hb;simp only[OE.ok] at h2;subst h2;exact h1
theorem Hw.lt {h:Fz}{w:World}(H:Hw h w){b:Nat}{x:OE}(hb:h b=some x):b < w.heap.size:=by
 obtain⟨o',h1,_⟩:=H b _ hb;exact (RX.1 h1).1
theorem Hw.same {h:Fz}{w w':World}(H:Hw h w) (hs:∀ b x,h b=some x->w'.heap[b]? = w.heap[b]?):Hw h w':=λ b x hb=>by
 obtain⟨o,h1,h2⟩:=H b x hb;exact⟨o,by rw[hs b x hb];exact h1,h2⟩

class aJ where
  z:Nat
variable [aJ]
abbrev zlB:Nat:=aJ.z
abbrev dle (a b:Nat):Prop:=a * zlB<=b * zlB
theorem Eo {a b:Nat}(h:a<=b):dle a b:=KP _ h
structure tN (h : Fz) (B : Nat) (w w' : World) : Prop where
  os:w'.os=w.os
  tape:w'.tape=w.tape
  output:w'.output=w.output
  size:w.heap.size<=w'.heap.size
  drawn:dle w.drawn w'.drawn
  block:∀ k,k < B->w'.heap[k]? = w.heap[k]?
structure Ep (B : Nat) (w w' : World) : Prop extends Below B w w' where
  drawn:dle w.drawn w'.drawn
structure GrB (w w' : World) (row : Option Nat) : Prop extends w.grownBy w' row where
  drawn:dle w.drawn w'.drawn
theorem Ep.refl (B:Nat) (w:World):Ep B w w:=⟨Below.refl B w,iZ _⟩
theorem tN.of {h:Fz}{B:Nat}{w w':World}(b:Ep B w w'):tN h B w w':=⟨b.os,b.tape,b.output,b.size,b.drawn,λ k hk=>b.block k hk⟩
theorem tN.refl (h:Fz) (B:Nat) (w:World):tN h B w w:=.of (.refl B w)
theorem tN.trans {h:Fz}{B:Nat}{a b c:World}(x:tN h B a b) (y:tN h B b c):tN h B a c :=
 ⟨y.os.trans x.os,y.tape.trans x.tape,y.output.trans x.output,Bv x.size y.size,Bv x.drawn y.drawn,λ i hi=>(y.block i hi).trans (x.block i hi)⟩
theorem tN.drew {h:Fz}{B:Nat}{a w:World}(x:tN h B a w):tN h B a w.drew:=⟨x.os,x.tape,x.output,x.size,Bv x.drawn (Eo (Nat.le_succ _)),x.block⟩

def dS (kf:KF) (c:List Int):Value:=match kf with
 | .ints=>oO c
 | .one=>.int .i64 (c.headD 0)
def cellV : Option IntKind → Int → Value
  | some k,x=>.int k x
  | none,x=>.bool (x != 0)
def nI (o : Option (List Int)) : Nat → List (Option IntKind) → List Value
  | _,[]=>[]
  | i,k :: ks=>cellV k (CJ o i) :: nI o (i+1) ks
def jH (uj:Bool) (ks:List (Option IntKind)) (o:Option (List Int)):Value:=match uj with
 | true=>.agg (nI o 0 ks).toArray
 | false=>(nI o 0 ks).headD undef
def kK (c : List Int) : List (List Int × List Int) → Option (List Int)
  | []=>none
  | (k,v) :: r=>if k=c then some v else kK c r
structure MoE (q : MQ) (n : Nat) (F : List Int → Option (List Int)) (es : Array MapEntry) (clock : Nat) (en : List (List Int × List Int)) : Prop where
  one:q.1=.one->q.2.1=1
  vone:q.2.2.1=false->q.2.2.2.length=1
  ents:es.toList.map (λ e=>(e.key,e.val))=en.map (λ x=>(dS q.1 x.1,jH q.2.2.1 q.2.2.2 (some x.2)))
  len:∀ x∈en,x.1.length=q.2.1/\x.2.length=q.2.2.2.length
  nodup:(en.map (·.1)).Nodup
  find:∀ c,c.length=q.2.1->F c=kK c en
  size:n=en.length
  born:∀ e∈es.toList,e.born < clock
  bornN:(es.toList.map (·.born)).Nodup
def moE (q:MQ) (n:Nat) (F:List Int->Option (List Int)) (es:Array MapEntry) (clock:Nat):Prop:=∃ en,MoE q n F es clock en

inductive Rep (h : Fz) : PV → Value → Prop
  | bool (b:Bool):Rep h (.bool b) (.bool b)
  | int (k:IntKind) (n:Int):Rep h (.int k n) (.int k n)
  | nilp:Rep h .nilp (.pointer none)
  | nilf:Rep h .nilf .nilFunc
  | nilm:Rep h .nilm (.map none)
  | nils:Rep h .nils (.slice none 0 0)
  | fp (cells : List PV) (off b o : Nat) (C : Array Value) (ty : TypeId) (fr : Nat × Nat) (vs : Nat → Value) (hb : h b = some (.fz (.cells C ty fr)))
      (hc:∀ j x,cells[j]? = some x->C[o+j]? = some (vs j)) (hr:∀ j x,cells[j]? = some x->Rep h x (vs j)) :
      Rep h (.fp cells off) (.pointer (some ⟨b,o+off,none⟩))
  | sl0 (size:Nat) (get:Nat->List PV) (hu:pq get):Rep h (.sl 0 size get) (.slice none 0 0)
  | sle (size:Nat) (get:Nat->List PV) (a:Addr) (cap:Nat) (hu:pq get):Rep h (.sl 0 size get) (.slice (some a) 0 cap)
  | sl (len size : Nat) (get : Nat → List PV) (hu : pq get) (b o cap : Nat) (C : Array Value) (ty : TypeId) (fr : Nat × Nat) (vs : Nat → Nat → Value) (hb : h b = some (.fz (.cells C ty fr)))
      (hcap:len<=cap) (hlen:∀ i,i < len->(get i).length=size)
      (hc:∀ i j x,i < len->(get i)[j]? = some x->C[o+i * size+j]? = some (vs i j))
      (hr:∀ i j x,i < len->(get i)[j]? = some x->Rep h x (vs i j)) :
      Rep h (.sl len size get) (.slice (some ⟨b,o,none⟩) len cap)
  | fn (f : FuncId) (first caps : List PV) (fv cv : List Value) (h1 : first.length = fv.length) (h2 : caps.length = cv.length)
      (hf:∀ (j:Nat) (x:PV) (v:Value),first[j]? = some x->fv[j]? = some v->Rep h x v) (hc:∀ (j:Nat) (x:PV) (v:Value),caps[j]? = some x->cv[j]? = some v->Rep h x v) :
      Rep h (.fn f first caps) (.func (.func f) fv.toArray cv.toArray)
  | fna (f : FuncId) (cells : List PV) (vs : List Value) (h1 : cells.length = vs.length)
      (hc:∀ (j:Nat) (x:PV) (v:Value),cells[j]? = some x->vs[j]? = some v->Rep h x v):Rep h (.fna f cells) (.func (.func f) #[.agg vs.toArray] #[])

def iP (h h':Fz):Prop:=∀ b o,h b=some o->h' b=some o

theorem Rep.mono {h h':Fz}(hl:iP h h'){p:PV}{v:Value}(r:Rep h p v):Rep h' p v:=by
 induction r with
 | bool b=>exact .bool b
 | int k n=>exact .int k n
 | nilp=>exact .nilp
 | nilf=>exact .nilf
 | nilm=>exact .nilm
 | nils=>exact .nils
 | fp cells off b o C ty fr vs hb hc hr ih=>exact .fp cells off b o C ty fr vs (hl _ _ hb) hc ih
 | sl0 size get hu=>exact .sl0 size get hu
 | sle size get a cap hu=>exact .sle size get a cap hu
 | sl len size get hu b o cap C ty fr vs hb hcap hlen hc hr ih=>exact .sl len size get hu b o cap C ty fr vs (hl _ _ hb) hcap hlen hc ih
 | fn f first caps fv cv h1 h2 hf hc ih1 ih2=>exact .fn f first caps fv cv h1 h2 ih1 ih2
 | fna f cells vs h1 hc ih=>exact .fna f cells vs h1 ih

theorem Rep.mono' {h h':Fz}(hl:∀ b o,h b=some o->(∃ C ty fr,o=.fz (.cells C ty fr))->h' b=some o){p:PV}{v:Value}(r:Rep h p v):Rep h' p v:=by
 induction r with
 | bool b=>exact .bool b
 | int k n=>exact .int k n
 | nilp=>exact .nilp
 | nilf=>exact .nilf
 | nilm=>exact .nilm
 | nils=>exact .nils
 | fp cells off b o C ty fr vs hb hc hr ih=>exact .fp cells off b o C ty fr vs (hl _ _ hb ⟨_,_,_,rfl⟩) hc ih
 | sl0 size get hu=>exact .sl0 size get hu
 | sle size get a cap hu=>exact .sle size get a cap hu
 | sl len size get hu b o cap C ty fr vs hb hcap hlen hc hr ih=>exact .sl len size get hu b o cap C ty fr vs (hl _ _ hb ⟨_,_,_,rfl⟩) hcap hlen hc ih
 | fn f first caps fv cv h1 h2 hf hc ih1 ih2=>exact .fn f first caps fv cv h1 h2 ih1 ih2
 | fna f cells vs h1 hc ih=>exact .fna f cells vs h1 ih

theorem Rep.un {h:Fz}{p:PV}{v:Value}(r:Rep h p v):Sm p p:=by
 induction r with
 | bool b=>exact .bool _ _
 | int k n=>exact .int _ _ _
 | sl0 size get hu=>exact pq.sl hu _ _ _
 | sle size get a cap hu=>exact pq.sl hu _ _ _
 | sl len size get hu=>exact pq.sl hu _ _ _
 | fp cells off b o C ty fr vs hb hc hr ih=>exact .fp _ _ _ rfl λ k x y hx hy=>by rw[hx] at hy;cases hy;exact ih k x hx
 | _=>exact .atom _ rfl
theorem uu {h : Fz} : ∀ {l : List PV} {vs : List Value}, RL (Rep h) l vs → RS l l
  | [],[],_=>trivial
  | _ :: _,_ :: _,r=>⟨r.1.un,uu r.2⟩
theorem Rep.up {h:Fz}{p q:PV}(e:lV p q):∀ {v:Value},Rep h p v->Rep h q v:=by
 induction e with
 | rfl p=>exact λ r=>r
 | nil s g hu=>intro v r;cases r;exact .sl0 s g hu
 | sl n s g g' hu hl he ih =>
  intro v r;cases r with
  | sl0=>exact .sl0 _ _ hu
  | sle=>exact .sle _ _ _ _ hu
  | sl _ _ _ _ b o cap C ty fr vs hb hcap hlen hc hr =>
   refine .sl n s g' hu b o cap C ty fr vs hb hcap (λ i hi=>(hl i hi).symm.trans (hlen i hi)) (λ i j x hi hx=>?_) λ i j x hi hx=>?_
   ·obtain ⟨y, hy⟩ := lF (hl i hi).symm hx;exact hc i j y hi hy
   ·obtain ⟨y, hy⟩ := lF (hl i hi).symm hx;exact ih i j y x hi hy hx (hr i j y hi hy)
 | fp l l' off hl he ih =>
  intro v r;cases r with
  | fp _ _ b o C ty fr vs hb hc hr =>
   refine .fp l' off b o C ty fr vs hb (λ j x hx=>?_) λ j x hx=>?_
   ·obtain ⟨y, hy⟩ := lF hl.symm hx;exact hc j y hy
   ·obtain ⟨y, hy⟩ := lF hl.symm hx;exact ih j y x hy hx (hr j y hy)
 | fn f a a' l l' ha _ hl _ ih0 ih =>
  intro v r;cases r with
  | fn _ _ _ fv cv h1 h2 hf hc =>
   refine .fn f a' l' fv cv (ha.symm.trans h1) (hl.symm.trans h2) (λ j x v hx hv=>?_) λ j x v hx hv=>?_
   ·obtain ⟨y, hy⟩ := lF ha.symm hx;exact ih0 j y x hy hx (hf j y v hy hv)
   ·obtain ⟨y, hy⟩ := lF hl.symm hx;exact ih j y x hy hx (hc j y v hy hv)
theorem xg {h:Fz}{l m:List PV}(e:RL lV l m){vs:List Value}(r:RL (Rep h) l vs):RL (Rep h) m vs:=by
 induction l generalizing m vs with
 | nil=>cases m with
  | nil=>exact r
  | cons=>exact e.elim
 | cons x l ih=>cases m with
  | nil=>exact e.elim
  | cons y m=>cases vs with
   | nil=>exact r.elim
   | cons v vs=>exact⟨r.1.up e.1,ih e.2 r.2⟩
theorem Yi {v:Value}{p:PV}(h:rF v=some p):Sm p p:=by
 unfold rF at h;split at h <;> cases h <;> first | exact .atom _ rfl | exact .bool _ _ | exact .int _ _ _
theorem JA : ∀ {l : List Value} {z : List Cl} {m : List PV}, gZ l = some z → iO z = some m → RS m m
  | [],z,m,h,h'=>by cases h;cases h';trivial
  | v :: r,z,m,h,h'=>by
    simp only[gZ] at h;split at h
    · rename_i x l hx hl;cases h;simp only[iO] at h';split at h'
      · rename_i k hk;cases h';exact⟨Yi hx,JA hl hk⟩
      · cases h'
    · cases h
theorem Dj {P:Program}{t:TypeId}{z:List Cl}{m:List PV}(h:fA P t=some z) (h':iO z=some m):RS m m:=by
 unfold fA at h;split at h
 ·split at h
  ·split at h
   ·rename_i hl;split at h
    ·cases h;exact JA hl h'
    ·cases h
   ·cases h
  ·cases h
 ·cases h
theorem JB {P:Program}{h:Fz}{t k:Nat}{l:List PV}{vs:List Value}(r:RL (Rep h) l vs):RL (Rep h) (VN P t k l) vs:=by
 unfold VN;split
 ·rename_i hk;split
  ·rename_i s _ _ hz;split
   ·rename_i z' hz';obtain⟨v,hv,hr⟩:=r.get k _ hk;have hvn:v=.slice none 0 0:=by cases hr;rfl
    subst hvn;have:=r.set k (a:=.sl 0 s (λ _=>z')) (b:=Value.slice none 0 0) (Rep.sl0 _ _ (Ef (Dj hz hz')));have e:vs.set k (.slice none 0 0)=vs:=by
     obtain⟨hlt,hv⟩:=wW.1 hv;rw[<- hv,List.set_getElem_self]
    rwa[e] at this
   ·exact r
  ·exact r
 ·exact r
theorem JC {P : Program} {h : Fz} : ∀ (fs : List Field) {l : List PV} {vs : List Value}, RL (Rep h) l vs → RL (Rep h) (zbF P fs l) vs
  | [],_,_,r=>r
  | _ :: fs,_,_,r=>JC fs (JB r)
theorem qA {P:Program}{h:Fz}{e:TypeId}{l:List PV}{vs:List Value}(r:RL (Rep h) l vs):RL (Rep h) (ww P e l) vs:=by
 unfold ww;split
 ·exact JC _ r
 ·exact JB r

theorem Rep.one {h:Fz}{p:PV}{v:Value}(r:Rep h p v):v.oneCell'=true:=by
 cases r <;> first | rfl | (rename_i r;cases r <;> rfl)

structure Gh where
  h:Fz
  bk:Nat->Nat
  sv:Nat->Value
  iv:Nat->Nat->Value

def CQ (g : Gh) : o6 → Value → Prop
  | .v p,x=>Rep g.h p x
  | .b L,x=>x=.pointer (some ⟨g.bk L,0,none⟩)
def lM : Value → Nat
  | .map (some b)=>b
  | _=>0
def gJ (g : Gh) : Cl → Value → Prop
  | .p v,x=>Rep g.h v x
  | .ptr L off,x=>x=.pointer (some ⟨g.bk L,off,none⟩)
  | .vptr L s i k,x=>∃ b,(g.sv L).ownBlock=some b/\x=.pointer (some ⟨b,i * s+k,none⟩)
  | .vec L,x=>x=g.sv L/\x.oneCell'=true
  | .mo L,x=>x=.map (some (lM (g.sv L)))
  | .clo f caps,x=>∃ cv:List Value,x=.func (.func f) #[] cv.toArray/\RL (CQ g) caps cv
  | .undef,x=>x=undef
  | .junk,_=>True
  | .dead _,_=>True

theorem mY {g g' : Gh} (hl : ∀ p x, Rep g.h p x → Rep g'.h p x) : ∀ {caps : List o6} {vs : List Value}, (∀ L ∈ jr caps, g'.bk L = g.bk L) → RL (CQ g) caps vs → RL (CQ g') caps vs
  | [],[],_,_=>trivial
  | [],_ :: _,_,h=>h.elim
  | _ :: _,[],_,h=>h.elim
  | .v p :: _,_ :: _,hb,h=>⟨hl _ _ h.1,mY hl (λ L hL=>hb L hL) h.2⟩
  | .b M :: _,_ :: _,hb,h=>⟨by have:=h.1;simp only[CQ] at this ⊢;rw[hb M (by simp[jr])];exact this,mY hl (λ L hL=>hb L (by simp[jr,hL])) h.2⟩

theorem VS {g:Gh}{c:Cl}{x:Value}(h:gJ g c x) (ho:xQ c=true):x.oneCell'=true:=by
 cases c with
 | p v=>exact Rep.one h
 | ptr L off=>subst h;rfl
 | vptr L s i k=>obtain⟨b,_,rfl⟩:=h;rfl
 | vec L=>exact h.2
 | mo L=>subst h;rfl
 | clo f caps=>obtain⟨cv,rfl,_⟩:=h;rfl
 | undef=>cases ho
 | junk=>cases ho
 | dead L=>cases ho

def wI (g : Gh) : D1 → Value → Prop
  | .c x,v=>gJ g x v
  | .agg cs,v=>∃ vs:List Value,v=.agg vs.toArray/\RL (gJ g) cs vs

def oJ (g : Gh) : DV → Value → Prop
  | .one d,v=>wI g d v
  | .tup ds,v=>∃ vs:List Value,v=.tuple vs.toArray/\RL (wI g) ds vs

def yc (P:Program) (g:Gh) (w:World) (B L e s b n:Nat) (get:Nat->List PV):Prop :=
 (pq get/\0 < s)/\(∃ i z,P.info? e=some i/\i.size=s/\i.bytes=b/\i.zero=some z/\z.cells.size=s) /\
 ∃ xs:List Value,w.ownsRow B e s (g.sv L) n xs/\(∀ i,i < n->RL (Rep g.h) (get i) ((xs.drop (i * s)).take s))

def Unv (get:Nat->Nat->List PV):Prop:=∀ i j k l,RS (get i j) (get k l)
def vvR (P:Program) (g:Gh) (w:World) (B L te bb e s b n:Nat) (ln:Nat->Nat) (get:Nat->Nat->List PV):Prop :=
 (Unv get/\0 < s)/\(∃ i z,P.info? te=some i/\i.size=1/\i.bytes=bb/\i.zero=some z/\z.cells.size=1) /\
 (∃ i z,P.info? e=some i/\i.size=s/\i.bytes=b/\i.zero=some z/\z.cells.size=s) /\
 w.ownsRow B te 1 (g.sv L) n ((List.range n).map (g.iv L)) /\
 (∀ i,i < n->(g.iv L i).oneCell'=true/\(ln i=0->g.iv L i=.slice none 0 0)/\∃ xs:List Value,w.ownsRow B e s (g.iv L i) (ln i) xs/\∀ j,j < ln i->RL (Rep g.h) (get i j) ((xs.drop (j * s)).take s)) /\
 ∀ i k,i < n->(g.iv L i).ownBlock=some k->(g.sv L).ownBlock ≠ some k/\∀ j,j < n->(g.iv L j).ownBlock=some k->i=j

def vtR (P:Program) (g:Gh) (w:World) (B L te bb e s b n:Nat) (ln:Nat->Nat) (get:Nat->Nat->List PV) (o:Nat):Prop :=
 (Unv get/\0 < s)/\(∃ i z,P.info? te=some i/\i.size=1/\i.bytes=bb/\i.zero=some z/\z.cells.size=1) /\
 (∃ i z,P.info? e=some i/\i.size=s/\i.bytes=b/\i.zero=some z/\z.cells.size=s) /\
 w.ownsRow B te 1 (g.sv L) n ((List.range n).map (g.iv L))/\(g.iv L o).oneCell'=true/\(∀ k,g.iv L o ≠ .map (some k)) /\
 (∀ i,i < n->i ≠ o->(g.iv L i).oneCell'=true/\(ln i=0->g.iv L i=.slice none 0 0)/\∃ xs:List Value,w.ownsRow B e s (g.iv L i) (ln i) xs/\∀ j,j < ln i->RL (Rep g.h) (get i j) ((xs.drop (j * s)).take s)) /\
 ∀ i k,i < n->i ≠ o->(g.iv L i).ownBlock=some k->(g.sv L).ownBlock ≠ some k/\∀ j,j < n->j ≠ o->(g.iv L j).ownBlock=some k->i=j

def zgQ (v:Value):Prop:=∀ a n c,v=.slice (some a) n c->a.off=0

def moR (P:Program) (kt vt:Nat) (q:MQ) (n:Nat) (F:List Int->Option (List Int)) (es:Array MapEntry) (clock:Nat):Prop :=
 D6 P kt vt=some q/\moE q n F es clock
def IX (P : Program) (g : Gh) (w : World) (B L : Nat) : AO → Prop
  | .box ty cs=>∃ C:Array Value,w.heap[g.bk L]? = some (.cells C ty (0,0))/\RL (gJ g) cs C.toList
  | .fbox cs=>∃ (C:Array Value) (ty:TypeId) (fr:Nat×Nat),g.h (g.bk L)=some (.fz (.cells C ty fr))/\RL (Rep g.h) cs C.toList
  | .vec e s b n get=>yc P g w B L e s b n get
  | .fvec s n get=>Rep g.h (.sl n s get) (g.sv L)/\zgQ (g.sv L)
  | .vv te bb e s b n ln get=>vvR P g w B L te bb e s b n ln get
  | .vt te bb e s b n ln get o=>vtR P g w B L te bb e s b n ln get o
  | .mo kt vt q n F=>∃ (es:Array MapEntry) (clock:Nat),w.heap[lM (g.sv L)]? = some (.map es clock)/\moR P kt vt q n F es clock
  | .gone=>True

def fB (g:Gh) (L:Nat) (o:AO) (b:Nat):Prop :=
 match o with
 | .box _ _=>g.bk L=b
 | .mo _ _ _ _ _=>lM (g.sv L)=b
 | .vec _ _ _ _ _=>(g.sv L).ownBlock=some b
 | .vv _ _ _ _ _ n _ _=>(g.sv L).ownBlock=some b\/∃ i,i < n/\(g.iv L i).ownBlock=some b
 | .vt _ _ _ _ _ n _ _ o=>(g.sv L).ownBlock=some b\/∃ i,i < n/\i ≠ o/\(g.iv L i).ownBlock=some b
 | _=>False

def Bz (P:Program) (d:Deferred):Prop:=∃ (fv:Fn) (cap:Array Value) (f:FuncId) (args:Array Value),d.target=.fn fv cap/\(∀ w,(invoke d.target d.args).run P w=.ok (.enter f args) w) /\
 ∀ (n:Nat) (w:World),CallsDIn { fn:=λ _=>True,depth:=none,alive:=false,round:=none } n P f args .returning w λ e u w'=>(∃ v,e=.returned v)/\u=.returning/\w'=w
def deD : Nat ⊕ Deferred → Deferred
  | .inl D=>{ target:=.collected D,args:=#[] }
  | .inr d=>d
def lefts : List (Nat ⊕ Deferred) → List Nat
  | []=>[]
  | .inl D :: r=>D :: lefts r
  | .inr _ :: r=>lefts r
theorem vG {D : Nat} : ∀ {es : List (Nat ⊕ Deferred)}, Sum.inl D ∈ es → D ∈ lefts es
  | .inl E :: r,h=>by
    rcases jf.1 h with e | h
    · cases e;exact kR
    · exact je _ (vG h)
  | .inr _ :: r,h=>by
    rcases jf.1 h with e | h
    · cases e
    · exact vG (es:=r) h
theorem Es {D : Nat} : ∀ {es : List (Nat ⊕ Deferred)}, D ∈ lefts es → Sum.inl D ∈ es
  | .inl E :: r,h=>by
    rcases jf.1 h with rfl | h
    · exact kR
    · exact je _ (Es h)
  | .inr _ :: r,h=>je _ (Es (es:=r) h)
def Marks (P:Program) (B:Nat) (h:Fz) (ds:List Deferred):Prop :=
 ∃ es:List (Nat ⊕ Deferred),(lefts es).Nodup/\ds=es.map deD/\(∀ D,Sum.inl D∈es->B<=D/\h D=some (.fz (.deferred (some []))))/\∀ d,Sum.inr d∈es->Bz P d
theorem Marks.mono {P:Program}{B:Nat}{h h':Fz}{ds:List Deferred}(m:Marks P B h ds) (hl:iP h h'):Marks P B h' ds:=by
 obtain⟨es,h1,h2,h3,h4⟩:=m;exact⟨es,h1,h2,λ D hD=>⟨(h3 D hD).1,hl _ _ (h3 D hD).2⟩,h4⟩
theorem Marks.nil {P:Program}(B:Nat) (h:Fz):Marks P B h []:=⟨[],List.nodup_nil,rfl,λ _ hD=>by simp at hD,λ _ hD=>by simp at hD⟩

structure bU (P : Program) (nt B : Nat) (w0 : World) (h0 : Fz) (g : Gh) (σ : St) (a : Act) (w : World) : Prop where
  dfr:Marks P B g.h a.defers
  size:nt<=a.tmps.size
  env:∀ t d,lk σ.env t=some d->oJ g d (a.tmps.getD t undef)
  obj:∀ L o,lk σ.aB L=some o->IX P g w B L o
  own:∀ L o b,lk σ.aB L=some o->fB g L o b->B<=b/\g.h b=none
  sep:∀ L o b L' o',lk σ.aB L=some o->lk σ.aB L'=some o'->fB g L o b->fB g L' o' b->L=L'
  hw:Hw g.h w
  le0:iP h0 g.h
  hn:∀ b o,g.h b=some o->h0 b=some o\/B<=b
  below:tN h0 B w0 w
  bs:B<=w.heap.size
  clE:∀ t d,lk σ.env t=some d->∀ L∈bY d,∃ o,lk σ.aB L=some o
  clO:∀ L o,lk σ.aB L=some o->∀ M∈dJ o,∃ o',lk σ.aB M=some o'

def kL (h : Fz) : PA → Value → Prop
  | .one v,x=>Rep h v x
  | .agg cs,x=>∃ vs:List Value,x=.agg vs.toArray/\RL (Rep h) cs vs

def nJ (h : Fz) : List PA → Value → Prop
  | [r],v=>kL h r v
  | rs,v=>∃ vs:List Value,v=.tuple vs.toArray/\RL (kL h) rs vs

def dA (P : Program) (f : FuncId) : Prop := ∃ fn, P.funcs[f]? = some fn ∧ fn.body.isSome = true ∧ (fn.name == "runtime.NumGoroutine") = false

def Ok (P:Program) (f:FuncId) (C:List PA->ae (List PA)):Prop :=
 ∀ (args rs:List PA),(C args).o=some rs->∀ (w:World) (h:Fz) (vs:List Value),RL (kL h) args vs->Hw h w ->
  dA P f/\Calls P f vs.toArray w λ e w'=>∃ (h':Fz) (v:Value),e=.returned v/\nJ h' rs v/\tN h w.heap.size w w' /\
   iP h h'/\Hw h' w'/\∀ b o,h' b=some o->h b=some o\/w.heap.size<=b

def wB (h:Fz) (w:World) (base e s:Nat) (v:Value) (n:Nat) (get:Nat->List PV):Prop :=
 ∃ xs:List Value,w.ownsRow base e s v n xs/\∀ i,i < n->RL (Rep h) (get i) ((xs.drop (i * s)).take s)

structure Yj (h : Fz) (K : List Nat) (w w' : World) : Prop where
  os:w'.os=w.os
  tape:w'.tape=w.tape
  output:w'.output=w.output
  size:w.heap.size<=w'.heap.size
  drawn:dle w.drawn w'.drawn
  block:∀ k,k < w.heap.size->k ∉ K->w'.heap[k]? = w.heap[k]?
def OG (v : Value) (xs : List Value) : List PV → Value
  | []=>v
  | _=>.tuple (v :: xs).toArray
def dX (P : Program) (f : FuncId) : zS → Prop
  | .none=>True
  | .sort e s b=>∀ (w:World) (h:Fz) (base:Nat) (v:Value) (n:Nat) (get:Nat->List PV) (gf:FuncId) (caps:List PV) (cv:List Value) (ag:Bool) (C:List PA->ae (List PA)),@Ok ⟨1⟩ P gf C->RL (Rep h) caps cv->ig P e=some ag ->
      (∃ i,P.info? e=some i/\i.size=s)->0 < s->wB h w base e s v n get->v.oneCell'=true->Hw h w->(∀ k,v.ownBlock=some k->h k=none)->base<=w.heap.size ->
      znt n (λ i j=>(Ea C caps ag get i j).isSome) (kT C caps ag get) ->
      dA P f/\Calls P f #[v,.func (.func gf) #[] cv.toArray] w λ r w'=>r=.returned (.tuple #[])/\wB h w' base e s v n (Eb n (kT C caps ag get) get)/\GrB w w' v.ownBlock
  | .clone e s b=>∀ (w:World) (h:Fz) (v:Value) (n:Nat) (get:Nat->List PV),Rep h (.sl n s get) v->Hw h w->n * b<=140737488355328->n<=9223372036854775807 ->
      dA P f/\Calls P f #[v] w λ r w'=>∃ (h':Fz) (v':Value),r=.returned v'/\v'.oneCell'=true/\wB h' w' w.heap.size e s v' n get/\(∀ k,v'.ownBlock=some k->h' k=none) /\
        tN h w.heap.size w w'/\iP h h'/\Hw h' w'/\∀ b o,h' b=some o->h b=some o\/w.heap.size<=b
  | .mkv e s b F=>∀ (w:World) (h:Fz) (az:List PA) (vs:List Value) (n:Nat) (get:Nat->List PV) (rs:List PV),(F az).o=some (n,get,rs)->RL (kL h) az vs->Hw h w ->
      dA P f/\Calls P f vs.toArray w λ r w'=>∃ (h':Fz) (v':Value) (xs:List Value),r=.returned (OG v' xs rs)/\RL (Rep h') rs xs/\v'.oneCell'=true/\pq get /\
        wB h' w' w.heap.size e s v' n get/\(∀ k,v'.ownBlock=some k->h' k=none)/\tN h w.heap.size w w'/\iP h h'/\Hw h' w'/\∀ b o,h' b=some o->h b=some o\/w.heap.size<=b
  | .grow e s b F=>∀ (w:World) (h:Fz) (base:Nat) (az:List PA) (vs:List Value) (v:Value) (n:Nat) (get:Nat->List PV) (m:Nat) (get':Nat->List PV),(F az n get).o=some (m,get')->RL (kL h) az vs ->
      v.oneCell'=true->(pq get/\0 < s)->(∃ i z,P.info? e=some i/\i.size=s/\i.bytes=b/\i.zero=some z/\z.cells.size=s)->wB h w base e s v n get->(∀ k,v.ownBlock=some k->base<=k/\h k=none)->Hw h w->base<=w.heap.size ->
      dA P f/\Calls P f (vs ++ [v]).toArray w λ r w'=>∃ (h':Fz) (v':Value),r=.returned v'/\v'.oneCell'=true/\pq get'/\wB h' w' base e s v' m get' /\
        (∀ k,v'.ownBlock=some k->(k∈v.ownBlock.toList\/w.heap.size<=k)/\h' k=none)/\iP h h'/\Hw h' w'/\(∀ b o,h' b=some o->h b=some o\/w.heap.size<=b\/b∈v.ownBlock.toList)/\Yj h v.ownBlock.toList w w'
def JSt (J:List (List PA)->Fz->World->Prop):Prop :=
 ∀ ys h W h' W',J ys h W->iP h h'->Hw h' W'->(∀ b o,h' b=some o->h b=some o\/W.heap.size<=b)->tN h W.heap.size W W'->J ys h' W'

def qB (P:Program) (f:FuncId) (C:List PA->ae (List (List PA))):Prop :=
 ∀ (caps:List PA) (ys:List (List PA)),(C caps).o=some ys->∀ (l:Nat) (J Jx:List (List PA)->Fz->World->Prop) (w:World) (h:Fz) (vs:List Value),JSt J->JSt Jx ->
  (∀ y rest h W us,J (y :: rest) h W->RL (kL h) y us->Hw h W->∀ n,∃ fn tmps assign body,(Instr.yield l us.toArray).run P W=.ok (.round l fn tmps assign body) W /\
   RoundIn Fence.wide n P l fn tmps assign body W λ e W'=>∃ h',iP h h'/\Hw h' W'/\((e=.returned (.bool true)/\J rest h' W')\/(e=.returned (.bool false)/\Jx rest h' W'))) ->
  J ys h w->RL (kL h) caps vs->Hw h w ->
  dA P f/\Calls P f (.func (.yield l) #[] #[] :: vs).toArray w λ e W'=>∃ v h',e=.returned v/\iP h h'/\Hw h' W'/\(J [] h' W'\/∃ rest,Jx rest h' W')

class df where
  f:FuncId
  np:Nat
  bs:List Nat
def uw (b:Nat):Value:=.pointer (some ⟨b,0,none⟩)
def zDq [df]:Value:=.func (.func (df.f)) #[] ((df.bs).map uw).toArray
def xcR [df] (P : Program) (h : Fz) (w : World) (B : Nat) : XC → Value → Prop
  | .p v,x=>Rep h v x
  | .vec e s b n get,x=>x.oneCell'=true/\(pq get/\0 < s)/\(∃ i z,P.info? e=some i/\i.size=s/\i.bytes=b/\i.zero=some z/\z.cells.size=s)/\wB h w B e s x n get
  | .mo kt vt q n F,x=>∃ (b:Nat) (es:Array MapEntry) (clock:Nat),x=.map (some b)/\w.heap[b]? = some (.map es clock)/\moR P kt vt q n F es clock
  | .slf f np n,x=>f=df.f/\np=df.np/\n=(df.bs).length/\x=zDq
def Yk : XC → Value → List Nat
  | .p _,_=>[]
  | .vec _ _ _ _ _,x=>x.ownBlock.toList
  | .mo _ _ _ _ _,x=>[lM x]
  | .slf _ _ _,_=>[]
def qC : List XC → List Value → List Nat
  | c :: cs,v :: vs=>Yk c v ++ qC cs vs
  | _,_=>[]
def wC [df] (P : Program) (h : Fz) (w : World) (B : Nat) : XA → Value → Prop
  | .d a,v=>kL h a v
  | .box ty cs,v=>∃ k C,v=.pointer (some ⟨k,0,none⟩)/\w.heap[k]? = some (.cells C ty (0,0))/\RL (xcR P h w B) cs C.toList
def OH (w : World) : XA → Value → List Nat
  | .box _ cs,.pointer (some a)=>a.block :: match w.heap[a.block]? with
    | some (.cells C _ _)=>qC cs C.toList
    | _=>[]
  | _,_=>[]
def mr (w : World) : List XA → List Value → List Nat
  | x :: xs,v :: vs=>OH w x v ++ mr w xs vs
  | _,_=>[]
def nK (P:Program) (f:FuncId) (C:MK):Prop :=
 ∀ [df] (xs ys:List XA) (rs:List PA),(C xs).o=some (rs,ys)->∀ (w:World) (h:Fz) (base:Nat) (vs:List Value),RL (wC P h w base) xs vs->(∀ k b,(df.bs)[k]? = some b->vs[df.np+k]? = some (uw b))->(mr w xs vs).Nodup ->
  (∀ b∈mr w xs vs,base<=b/\h b=none)->Hw h w->base<=w.heap.size ->
  dA P f/\Calls P f vs.toArray w λ e w'=>∃ (h':Fz) (v:Value),e=.returned v/\nJ h' rs v/\RL (wC P h' w' base) ys vs/\(mr w' ys vs).Nodup /\
   (∀ b∈mr w' ys vs,(b∈mr w xs vs\/w.heap.size<=b)/\h' b=none)/\iP h h'/\Hw h' w'/\(∀ b o,h' b=some o->h b=some o\/w.heap.size<=b\/b∈mr w xs vs)/\Yj h (mr w xs vs) w w'

structure iE (P : Program) (Γ : aX) : Prop where
  mt:∀ f C,Γ.mt f=some C->nK P f C
  fn:∀ f,Ok P f (Γ.fn f)
  own:∀ f,dX P f (Γ.own f)
  it:∀ f,qB P f (Γ.it f)
  cmp:∀ f,@Ok ⟨1⟩ P f (Γ.cfn f)

theorem aV {α:Type}{k n:Nat}{a:α}{r:List (Nat×α)} : lk ((k,a) :: r) n=if k=n then some a else lk r n:=by
 simp only[lk];cases h:Nat.beq k n with
 | true=>rw[if_pos (jb h)]
 | false=>rw[if_neg (Nat.ne_of_beq_eq_false h)]
theorem fC {α:Type}{n:Nat}{l r:List (Nat×α)} : lk (l ++ r) n=match lk l n with | some a=>some a | none=>lk r n:=by
 induction l with
 | nil=>rfl
 | cons x l ih =>
  obtain⟨k,a⟩:=x;rw[List.cons_append,aV,aV];split
  ·rfl
  ·exact ih

end Go.Pm
namespace Go.Pm
variable [aJ]
open Go.RowKit (Below)

section
variable {P:Program}{w:World}

theorem addr_add (b o n:Nat):(⟨b,o,none⟩:Addr).add n=⟨b,o+n,none⟩:=by
 unfold Addr.add;split <;> simp_all

theorem run_underlying {t:TypeId}{d:TypeDesc}(h:P.underlying t=some d):(underlying t).run P w=.ok d w:=by
 simp[underlying,h]
theorem run_sizeOf {t:TypeId}{n:Nat}(h:mg P t=some n):(sizeOf t).run P w=.ok n w:=by
 unfold mg at h;cases hi:P.info? t with
 | none=>simp[hi] at h
 | some i=>simp[hi] at h;simp[sizeOf,typeInfo,hi,h]
theorem kV {t:TypeId}{g:Bool}(h:ig P t=some g):(isAgg t).run P w=.ok g w:=by
 unfold ig at h;cases hi:P.underlying t with
 | none=>simp[hi] at h
 | some d=>simp[hi] at h;simp only[isAgg,fD,run_underlying hi,fM];cases d <;> simp_all
theorem jh {t:TypeId}{i:TypeInfo}{z:Value}(h:P.info? t=some i) (hz:i.zero=some z):(zeroValue t).run P w=.ok z w:=by
 simp[zeroValue,typeInfo,h,hz]

theorem cell_of {b o:Nat}{C:Array Value}{ty:TypeId}{fr:Nat×Nat}(h:w.heap[b]? = some (.cells C ty fr)):w.cell? ⟨b,o,none⟩=C[o]?:=by
 simp[World.cell?,h]

theorem CS {t : TypeId} {n b o : Nat} {C : Array Value} {ty : TypeId} {fr : Nat × Nat} (hg : ig P t = some true) (hs : mg P t = some n)
    (h:w.heap[b]? = some (.cells C ty fr)) (vs:List Value) (hl:vs.length=n) (hv:∀ (j:Nat) (v:Value),vs[j]? = some v->C[o+j]? = some v) :
    (loadVar t ⟨b,o,none⟩).run P w=.ok (.agg vs.toArray) w:=by
  have hc:=run_loadCells_list (P:=P) (w:=w) ⟨b,o,none⟩ vs (λ j v hj=>by rw[addr_add,cell_of h];exact hv j v hj);simp only[loadVar,fD,kV hg,fM,if_true,run_sizeOf hs,<- hl,hc,iT]
theorem tV {t : TypeId} {b o : Nat} {C : Array Value} {ty : TypeId} {fr : Nat × Nat} (hg : ig P t = some false)
    (h:w.heap[b]? = some (.cells C ty fr)) (v:Value) (hv:C[o]? = some v) :
    (loadVar t ⟨b,o,none⟩).run P w=.ok v w:=by
  simp only[loadVar,fD,kV hg,fM,Bool.false_eq_true,if_false,run_load,cell_of h,hv]

theorem OI {t : TypeId} {b o f off : Nat} (h : D9 P t f = some off) :
  (Instr.fieldAt t (.pointer (some ⟨b,o,none⟩)) f).run P w=.ok (.pointer (some ⟨b,o+off,none⟩)) w:=by
 unfold D9 at h;split at h
 ·rename_i fs hu;split at h
  ·rename_i fd hf;split at h
   ·rename_i k hs;simp at h;subst h;simp only[Instr.fieldAt,fD,run_underlying hu,fM,hf,Instr.sureAddr,iT,fieldPlace,run_sizeOf hs];simp[addr_add]
   ·cases h
  ·cases h
 ·cases h

theorem run_indexAt_slice {t e : TypeId} {n b o len cap : Nat} {k : IntKind} {i : Int} (hu : P.underlying t = some (.slice e)) (hs : mg P e = some n) (h0 : 0 ≤ i) (h1 : i < (len : Int)) :
  (Instr.indexAt t (.slice (some ⟨b,o,none⟩) len cap) (.int k i)).run P w=.ok (.pointer (some ⟨b,o+i.toNat * n,none⟩)) w:=by
 simp only[Instr.indexAt, asIntOf,fD,iT,fM,run_underlying hu,h0,h1,and_self,if_true,run_sizeOf hs,addr_add]

theorem uy {b:Nat}{ty:TypeId} : ∀ (vs:List Value) (o:Nat) (C:Array Value) (w:World),w.heap[b]? = some (.cells C ty (0,0))->o+vs.length<=C.size->(∀ v∈vs,v.oneCell'=true) ->
  ∀ (base i:Nat),o=base+i->∃ w',(storeCells ⟨b,base,none⟩ vs i).run P w=.ok () w'/\w'.heap[b]? = some (.cells (spl C.toList o vs).toArray ty (0,0))/\w'.heap.size=w.heap.size /\
   (∀ k,k ≠ b->w'.heap[k]? = w.heap[k]?)/\w'.os=w.os/\w'.tape=w.tape/\w'.output=w.output/\w'.drawn=w.drawn
 | [],o,C,w,h,_,_,base,i,_=>⟨w,by simp[storeCells],by simpa [spl] using h,rfl,λ _ _=>rfl,rfl,rfl,rfl,rfl⟩
 | v :: r,o,C,w,h,hl,h1,base,i,ho=>by
  subst ho;have hlt:base+i < C.size:=by simp at hl;omega
  have hcell:w.cell? ⟨b,base+i,none⟩=some C[base+i]:=by rw[cell_of h];simp[hlt]
  have hfr:w.frozen? ⟨b,base+i,none⟩=false:=frozen_of_row w b (base+i) C ty h;let w1:=w.setCell ⟨b,base+i,none⟩ v;have h2:w1.heap[b]? = some (.cells (C.set! (base+i) v) ty (0,0)):=by
   simp[w1,World.setCell,Array.getElem?_modify,h]
  have hsz:w1.heap.size=w.heap.size:=by simp[w1,World.setCell]
  have hoth:∀ k,k ≠ b->w1.heap[k]? = w.heap[k]?:=λ k hk=>heap_setCell_other w _ k v hk;obtain⟨w',hr,hh,hs',ho',h5,h6,h7,h8⟩:=uy r (base+i+1) (C.set! (base+i) v) w1 h2 (by simp at hl ⊢;omega) (λ u hu=>h1 u (je _ hu)) base (i+1) (by omega);refine⟨w',?_,?_,hs'.trans hsz,λ k hk=>(ho' k hk).trans (hoth k hk),h5,h6,h7,h8⟩
  ·rw [storeCells];simp only[fD,addr_add,run_store P w _ v _ (h1 v kR),hcell,hfr,Bool.false_eq_true,if_false,fM];exact hr
  ·rw [hh];simp[spl]
end
end Go.Pm
namespace Go.Pm
variable [aJ]
open Go.RowKit (Below)

theorem yf {α : Type} : ∀ (l' l : List α) (off j : Nat), off + l'.length ≤ l.length → (spl l off l')[j]? = if off ≤ j ∧ j < off + l'.length then l'[j - off]? else l[j]?
  | [],l,off,j,_=>by simp only[spl,SE];rw[if_neg (by omega)]
  | x :: r,l,off,j,h=>by
    have h':off+1+r.length<=(l.set off x).length:=by simp at h ⊢;omega
    rw[spl,yf r (l.set off x) (off+1) j h'];simp only[Oi] at h ⊢;by_cases hj:j=off
    · subst hj;rw[if_neg (by omega),if_pos (by omega)];have:j < l.length:=by omega
      simp[this]
    · by_cases hr : off + 1 ≤ j ∧ j < off + 1 + r.length
      · rw [if_pos hr, if_pos (by omega)];have e:j - off=(j - (off+1))+1:=by omega
        rw[e,SC]
      · rw[if_neg hr,if_neg (by omega),List.getElem?_set_ne (by omega)]

theorem VT {g:Nat->List PV}(hg:pq g){i k:Nat}{l:List PV}(hk:k+l.length<=(g 0).length) (hs:smL (((g 0).drop k).take l.length) l=true) (hl:RS l l):pq (xR i k g l):=by
 have hp:RS (((g 0).drop k).take l.length) l:=Ee hs (((hg 0 0).drop k).take _) hl;have key:∀ j j',RS (spl (g j) k l) (g j'):=λ j j'=>by
  have e0:=(hg 0 j).length;refine RL.of_get (by rw[jA];exact (hg j j').length) λ p a b ha hb=>?_;rw[yf _ _ _ _ (by omega)] at ha;split at ha
  ·rename_i hr;obtain⟨c,hc,r⟩:=RL.get' hp (p - k) a ha;rw[C9,if_pos (by omega),dqI,show k+(p - k)=p by omega] at hc;obtain⟨d,hd,r2⟩:=RL.get (hg 0 j') p c hc;rw[hb] at hd;cases hd;exact r.symm.trans r2
  ·obtain ⟨d, hd, r2⟩ := RL.get (hg j j') p a ha;rw[hb] at hd;cases hd;exact r2
 intro j j';unfold xR;split <;> split
 ·exact (key j j').trans (key j' j').symm
 ·exact key _ _
 ·exact (key _ _).symm
 ·exact hg _ _
theorem zZ (off:Nat):∀ (l:List Value) (k:Nat) (C:Array Value),
  (l.zipIdx k).foldl (λ (cs:Array Value) (x:Value×Nat)=>cs.setIfInBounds (off+x.2) x.1) C=(spl C.toList (off+k) l).toArray
 | [],k,C=>by simp[spl]
 | x :: r,k,C=>by
  rw[List.zipIdx_cons,List.foldl_cons,zZ off r (k+1) _,spl];simp[Nat.add_assoc]

section
variable {P:Program}{w:World}

theorem qE {g:Gh}{d:D1}{v:Value}(h:wI g d v) (ho:d.cells.all xQ=true):RL (gJ g) d.cells v.cells.toList:=by
 cases d with
 | c x =>
  have h1:=VS h (by simpa [D1.cells] using ho);have:v.cells = #[v]:=by cases v <;> simp_all [Value.oneCell',Value.cells]
  rw[this];exact⟨h,trivial⟩
 | agg cs =>
  obtain⟨vs,rfl,hr⟩:=h;simpa [D1.cells,Value.cells] using hr

theorem OJ {fs : Array Field} (h : ∀ f ∈ fs, (mg P f.type).isSome = true) :
  (fs.mapM λ f=>do pure (f.offset,<- sizeOf f.type):Sem (Array (Nat×Nat))).run P w=.ok (fs.map λ f=>(f.offset,(mg P f.type).getD 0)) w:=by
 have key:∀ l:List Field,(∀ f∈l,(mg P f.type).isSome=true) ->
   (l.mapM λ f=>do pure (f.offset,<- sizeOf f.type):Sem (List (Nat×Nat))).run P w=.ok (l.map λ f=>(f.offset,(mg P f.type).getD 0)) w:=by
  intro l
  induction l with
  | nil=>intro _;rfl
  | cons f l ih =>
   intro hl;obtain⟨n,hn⟩:=Option.isSome_iff_exists.1 (hl f kR);rw[List.mapM_cons];simp only[fD,run_sizeOf hn,fM,iT,ih (λ g hg=>hl g (je _ hg)),nG,hn,Option.getD_some]
 rw[Array.mapM_eq_mapM_toList,Sem.run_map,key fs.toList (λ f hf=>h f (by simpa using hf))];cases fs;simp

theorem uz {g : Gh} {ρ : Operand → Value} {ev : Operand → DV} (hev : ∀ o, oJ g (ev o) (ρ o)) {t : TypeId} (place : Nat → Option (Nat × Nat))
    (hp:∀ (i off n:Nat),(match P.underlying t with
      | some (.struct fs)=>match fs[i]? with
        | some fd=>match mg P fd.type with | some m=>off=fd.offset/\n=m | none=>False
        | none=>False
      | some (.array _ e)=>match mg P e with | some m=>off=i * m/\n=m | none=>False
      | _=>False)->place i=some (off,n)) :
    ∀ (parts:List (Nat×Operand)) (z l:List Cl) (C:Array Value),fZ P t ev z parts=some l->RL (gJ g) z C.toList ->
      ∃ D:Array Value,Instr.fill place C (parts.map λ x=>(x.1,ρ x.2))=some D/\RL (gJ g) l D.toList
  | [],z,l,C,h,hz=>by
    simp[fZ] at h;subst h;exact⟨C,rfl,hz⟩
  | (i,o) :: r,z,l,C,h,hz=>by
    have hd:=hev o;simp only[fZ] at h;cases he:ev o with
    | tup ds=>simp[he] at h
    | one d =>
      simp only[he] at h;rw[he] at hd
      have step:∀ (off n:Nat),place i=some (off,n)->n=d.cells.length->off+n<=z.length->d.cells.all xQ=true->fZ P t ev (spl z off d.cells) r=some l ->
          ∃ D:Array Value,Instr.fill place C (((i,o) :: r).map λ x=>(x.1,ρ x.2))=some D/\RL (gJ g) l D.toList:=by
        intro off n hpl hn hle hok hb;have hc:=qE hd hok;have hlen:=hc.length;have hzl:=hz.length;have hr2:RL (gJ g) (spl z off d.cells) (spl C.toList off (ρ o).cells.toList):=hz.spl hc off;obtain⟨D,hD,hR⟩:=uz hev place hp r _ l (spl C.toList off (ρ o).cells.toList).toArray hb (by simpa using hr2);refine⟨D,?_,hR⟩;simp only[nG,Instr.fill,hpl];have h1 : ¬ ((ρ o).cells.size ≠ n):=by simp only[Decidable.not_not,ne_eq];rw[hn,hlen];simp
        have h2 : ¬ (off+(ρ o).cells.size > C.size):=by
          have:(ρ o).cells.size=d.cells.length:=by rw[hlen];simp
          have:C.size=z.length:=by rw[hzl];simp
          omega
        have h3:((decide ((ρ o).cells.size ≠ n) || decide (off+(ρ o).cells.size > C.size))=true)=False:=by simp[h1,h2]
        rw[if_neg (by rw[h3];exact id)];rw[<- hD];refine congrArg (λ z=>Instr.fill place z _) ?_;have:=zZ off (ρ o).cells.toList 0 C;rw[Nat.add_zero] at this;rw[<- this];cases (ρ o).cells;simp
      cases hu:P.underlying t with
      | none=>simp[hu] at h
      | some dd =>
        cases dd with
        | struct fs =>
          simp only[hu] at h;cases hf:fs[i]? with
          | none=>simp[hf] at h
          | some fd =>
            simp only[hf] at h;cases hs:mg P fd.type with
            | none=>simp[hs] at h
            | some n =>
              simp only[hs] at h;split at h
              · rename_i hcond;simp only[fE,Nat.ble_eq] at hcond;exact step fd.offset n (hp i _ _ (by simp[hu,hf,hs])) (jb hcond.1.1) hcond.1.2 hcond.2 h
              · cases h
        | array m e =>
          simp only[hu] at h;cases hs:mg P e with
          | none=>simp[hs] at h
          | some n =>
            simp only[hs] at h;split at h
            · rename_i hcond;simp only[fE,Nat.ble_eq] at hcond;exact step (i * n) n (hp i _ _ (by simp[hu,hs])) (jb hcond.1.1) hcond.1.2 hcond.2 h
            · cases h
        | _=>simp[hu] at h

theorem Et {h:Fz}{v:Value}{p:PV}(hv:rF v=some p):Rep h p v:=by
 unfold rF at hv;split at hv <;> first | (cases hv;done) | (simp at hv;subst hv;constructor)

theorem iY {g : Gh} : ∀ (l : List Value) (cs : List Cl), gZ l = some cs → RL (gJ g) cs l
  | [],cs,h=>by simp[gZ] at h;subst h;trivial
  | v :: r,cs,h=>by
    simp only[gZ] at h;split at h
    · rename_i x l hx hl;simp at h;subst h;exact⟨Et hx,iY r l hl⟩
    · cases h

theorem jB {t:TypeId}{z:List Cl}(h:fA P t=some z):∃ i v,P.info? t=some i/\i.zero=some v/\gZ v.cells.toList=some z/\z.length=i.size:=by
 unfold fA at h;split at h
 ·rename_i i hi;split at h
  ·rename_i v hz;split at h
   ·rename_i l hl;split at h
    ·rename_i hs;simp at h;subst h;exact⟨i,v,hi,hz,hl,hs⟩
    ·cases h
   ·cases h
  ·cases h
 ·cases h

theorem Yl {t:TypeId}{z:List Cl}(h:fA P t=some z):∃ i v,P.info? t=some i/\i.zero=some v/\v.cells.size=i.size:=by
 obtain⟨i,v,hi,hz,hl,hs⟩:=jB h;have:=(iY (g:=⟨λ _=>none,λ _=>0,λ _=>undef,λ _ _=>undef⟩) _ _ hl).length;exact⟨i,v,hi,hz,by rw[<- hs,this];simp⟩

theorem run_build {g : Gh} {ρ : Operand → Value} {ev : Operand → DV} (hev : ∀ o, oJ g (ev o) (ρ o)) {t : TypeId} {parts : Array (Nat × Operand)} {z l : List Cl}
    (hf:ul P t=true) (hz:fA P t=some z) (hb:fZ P t ev z parts.toList=some l) :
    ∃ v,(Instr.build t (parts.map λ x=>(x.1,ρ x.2))).run P w=.ok v w/\wI g (.agg l) v:=by
  obtain⟨i,v,hi,hzv,hl,_⟩:=jB hz;have hzr:=iY (g:=g) _ _ hl;unfold ul at hf;cases hu:P.underlying t with
  | none=>simp[hu] at hf
  | some d =>
    cases d with
    | struct fs =>
      simp only[hu] at hf;have hall:∀ f∈fs,(mg P f.type).isSome=true:=λ f hf'=>List.all_eq_true.1 hf f (by simpa using hf');obtain⟨D,hD,hR⟩:=uz (P:=P) hev (t:=t) ((fs.map λ f=>(f.offset,(mg P f.type).getD 0))[·]?) (by
        intro i off n hm;simp only[hu] at hm;cases hfi:fs[i]? with
        | none=>simp[hfi] at hm
        | some fd =>
          cases hs:mg P fd.type with
          | none=>simp[hfi,hs] at hm
          | some m=>simp[hfi,hs] at hm;simp[hfi,hs,hm.1,hm.2]) parts.toList z l v.cells hb hzr
      refine⟨.agg D,?_,⟨D.toList,by simp,hR⟩⟩;simp only[Instr.build,fD,jh hi hzv,fM,run_underlying hu,OJ hall];simp only[Array.toList_map];rw[hD];rfl
    | array m e =>
      simp only[hu] at hf;obtain⟨n,hn⟩:=Option.isSome_iff_exists.1 hf;obtain⟨D,hD,hR⟩:=uz (P:=P) hev (t:=t) (λ i=>some (i * n,n)) (by
        intro i off k hm;simp only[hu,hn] at hm;simp[hm.1,hm.2]) parts.toList z l v.cells hb hzr
      refine⟨.agg D,?_,⟨D.toList,by simp,hR⟩⟩;simp only[Instr.build,fD,jh hi hzv,fM,run_underlying hu,run_sizeOf hn];simp only[Array.toList_map];rw[hD];rfl
    | _=>simp[hu] at hf
end
end Go.Pm
namespace Go.Pm
variable [aJ]
open Go.RowKit (Below)

def gG (g g':Gh) (L:Nat):Prop:=g'.bk L=g.bk L/\g'.sv L=g.sv L/\g'.iv L=g.iv L
theorem gG.refl (g:Gh) (L:Nat):gG g g L:=⟨rfl,rfl,rfl⟩
def JD (g g':Gh) (l:List Nat):Prop:=∀ L∈l,gG g g' L

theorem OL {g g':Gh}{c:Cl}{x:Value}(hl:JD g g' (bi c)) (hle:iP g.h g'.h) (h:gJ g c x):gJ g' c x:=by
 cases c with
 | p v=>exact Rep.mono hle h
 | ptr L off=>have:=(hl L (by simp[bi])).1;simp only[gJ] at h ⊢;rw[this];exact h
 | vptr L s i k=>have:=(hl L (by simp[bi])).2.1;simp only[gJ] at h ⊢;rw[this];exact h
 | vec L=>have:=(hl L (by simp[bi])).2.1;simp only[gJ] at h ⊢;rw[this];exact h
 | mo L=>have:=(hl L (by simp[bi])).2.1;simp only[gJ] at h ⊢;rw[this];exact h
 | clo f caps=>obtain⟨cv,e,hr⟩:=h;exact⟨cv,e,mY (λ _ _=>Rep.mono hle) (λ L hL=>(hl L hL).1) hr⟩
 | undef=>exact h
 | junk=>trivial
 | dead L=>trivial

theorem oP {g g' : Gh} : ∀ {cs : List Cl} {vs : List Value}, JD g g' (cs.flatMap bi) → iP g.h g'.h → RL (gJ g) cs vs → RL (gJ g') cs vs
  | [],[],_,_,_=>trivial
  | [],_ :: _,_,_,h=>h.elim
  | _ :: _,[],_,_,h=>h.elim
  | c :: cs,v :: vs,hl,hle,h=>⟨OL (λ L hL=>hl L (by simp[hL])) hle h.1,oP (λ L hL=>hl L (by simp only[lJ,dL];exact .inr hL)) hle h.2⟩

theorem OM {g g':Gh}{d:D1}{x:Value}(hl:JD g g' (cZ d)) (hle:iP g.h g'.h) (h:wI g d x):wI g' d x:=by
 cases d with
 | c y=>exact OL hl hle h
 | agg cs=>obtain⟨vs,rfl,hr⟩:=h;exact⟨vs,rfl,oP hl hle hr⟩

theorem BA {g g' : Gh} : ∀ {cs : List D1} {vs : List Value}, JD g g' (cs.flatMap cZ) → iP g.h g'.h → RL (wI g) cs vs → RL (wI g') cs vs
  | [],[],_,_,_=>trivial
  | [],_ :: _,_,_,h=>h.elim
  | _ :: _,[],_,_,h=>h.elim
  | c :: cs,v :: vs,hl,hle,h=>⟨OM (λ L hL=>hl L (by simp[hL])) hle h.1,BA (λ L hL=>hl L (by simp only[lJ,dL];exact .inr hL)) hle h.2⟩

theorem OO {g g':Gh}{d:DV}{x:Value}(hl:JD g g' (bY d)) (hle:iP g.h g'.h) (h:oJ g d x):oJ g' d x:=by
 cases d with
 | one y=>exact OM hl hle h
 | tup ds=>obtain⟨vs,rfl,hr⟩:=h;exact⟨vs,rfl,BA hl hle hr⟩

theorem gU {w w' : World} {B e s n : Nat} {v : Value} {xs : List Value} (h : w.ownsRow B e s v n xs) (hw : ∀ b, v.ownBlock = some b → w'.heap[b]? = w.heap[b]?) :
  w'.ownsRow B e s v n xs:=by
 refine⟨h.1,?_⟩;rcases h.2 with hn | ⟨g,cap,cur,rfl,hb,hg,rest⟩
 ·exact .inl hn
 ·exact .inr ⟨g,cap,cur,rfl,hb,by rw[hw g rfl];exact hg,rest⟩

theorem JE {P : Program} {g g' : Gh} {w w' : World} {B L e s b n : Nat} {get : Nat → List PV} (h : yc P g w B L e s b n get) (hs : g'.sv L = g.sv L) (hle : iP g.h g'.h)
    (hw:∀ b,(g.sv L).ownBlock=some b->w'.heap[b]? = w.heap[b]?):yc P g' w' B L e s b n get:=by
  obtain⟨h1,h2,xs,hx,hr⟩:=h;refine⟨h1,h2,xs,?_,λ i hi=>(hr i hi).mono λ _ _=>Rep.mono hle⟩;rw[hs];exact gU hx hw

theorem OQ {P : Program} {g g' : Gh} {w w' : World} {B L te bb e s b n : Nat} {ln : Nat → Nat} {get : Nat → Nat → List PV} (h : vvR P g w B L te bb e s b n ln get) (hl : gG g g' L) (hle : iP g.h g'.h)
    (hw:∀ k,fB g L (.vv te bb e s b n ln get) k->w'.heap[k]? = w.heap[k]?):vvR P g' w' B L te bb e s b n ln get:=by
  obtain⟨h1,h2,h3,h4,h5,h6⟩:=h;refine⟨h1,h2,h3,?_,λ i hi=>?_,?_⟩
  · rw[hl.2.1,hl.2.2];exact gU h4 λ k hk=>hw k (.inl hk)
  · obtain ⟨h7, h70, xs, hx, hr⟩ := h5 i hi;rw[hl.2.2];exact⟨h7,h70,xs,gU hx λ k hk=>hw k (.inr ⟨i,hi,hk⟩),λ j hj=>(hr j hj).mono λ _ _=>Rep.mono hle⟩
  · rw[hl.2.1,hl.2.2];exact h6

theorem OT {P : Program} {g g' : Gh} {w w' : World} {B L te bb e s b n o : Nat} {ln : Nat → Nat} {get : Nat → Nat → List PV} (h : vtR P g w B L te bb e s b n ln get o) (hl : gG g g' L) (hle : iP g.h g'.h)
    (hw:∀ k,fB g L (.vt te bb e s b n ln get o) k->w'.heap[k]? = w.heap[k]?):vtR P g' w' B L te bb e s b n ln get o:=by
  obtain⟨h1,h2,h3,h4,h41,h42,h5,h6⟩:=h;refine⟨h1,h2,h3,?_,by rw[hl.2.2];exact h41,by rw[hl.2.2];exact h42,λ i hi ho=>?_,?_⟩
  · rw[hl.2.1,hl.2.2];exact gU h4 λ k hk=>hw k (.inl hk)
  · obtain ⟨h7, h70, xs, hx, hr⟩ := h5 i hi ho;rw[hl.2.2];exact⟨h7,h70,xs,gU hx λ k hk=>hw k (.inr ⟨i,hi,ho,hk⟩),λ j hj=>(hr j hj).mono λ _ _=>Rep.mono hle⟩
  · rw[hl.2.1,hl.2.2];exact h6

theorem iK {P : Program} {g g' : Gh} {w w' : World} {B L : Nat} {o : AO} (h : IX P g w B L o) (hl : gG g g' L) (hm : JD g g' (dJ o)) (hle : iP g.h g'.h)
    (hw:∀ b,fB g L o b->w'.heap[b]? = w.heap[b]?):IX P g' w' B L o:=by
  cases o with
  | box ty cs=>obtain⟨C,hC,hr⟩:=h;refine⟨C,?_,oP hm hle hr⟩;rw[hl.1,hw _ rfl];exact hC
  | fbox cs=>obtain⟨C,ty,fr,hC,hr⟩:=h;refine⟨C,ty,fr,?_,hr.mono λ _ _=>Rep.mono hle⟩;rw[hl.1];exact hle _ _ hC
  | vec e s b n get=>exact JE h hl.2.1 hle hw
  | fvec s n get=>simp only[IX] at h ⊢;rw[hl.2.1];exact⟨Rep.mono hle h.1,h.2⟩
  | vv te bb e s b n ln get=>exact OQ h hl hle hw
  | vt te bb e s b n ln get o=>exact OT h hl hle hw
  | mo kt vt q n F=>obtain⟨es,clock,hC,hr⟩:=h;refine⟨es,clock,?_,hr⟩;rw[hl.2.1,hw _ rfl];exact hC
  | gone=>trivial

theorem eU {g g':Gh}{L:Nat}{o:AO}(hl:gG g g' L):fB g' L o=fB g L o:=by
 funext b;cases o <;> simp[fB,hl.1,hl.2.1,hl.2.2]

theorem gm {P:Program}{g:Gh}{w:World}{B L b:Nat}{o:AO}(h:IX P g w B L o) (hb:fB g L o b):b < w.heap.size:=by
 cases o with
 | box ty cs=>simp[fB] at hb;subst hb;obtain⟨C,hC,_⟩:=h;exact (RX.1 hC).1
 | fbox cs=>simp[fB] at hb
 | vec e s b' n get =>
  obtain⟨_,_,xs,hx,_⟩:=h;exact (hx.lt b hb).2
 | fvec s n get=>simp[fB] at hb
 | vv te bb e s b' n ln get =>
  obtain⟨_,_,_,h4,h5,_⟩:=h;rcases hb with hb | ⟨i,hi,hb⟩
  ·exact (h4.lt b hb).2
  ·obtain ⟨_, _, xs, hx, _⟩ := h5 i hi;exact (hx.lt b hb).2
 | vt te bb e s b' n ln get o =>
  obtain⟨_,_,_,h4,_,_,h5,_⟩:=h;rcases hb with hb | ⟨i,hi,ho,hb⟩
  ·exact (h4.lt b hb).2
  ·obtain ⟨_, _, xs, hx, _⟩ := h5 i hi ho;exact (hx.lt b hb).2
 | mo kt vt q n F=>simp[fB] at hb;subst hb;obtain⟨es,clock,hC,_⟩:=h;exact (RX.1 hC).1
 | gone=>exact hb.elim

section
variable {P:Program}{nt B:Nat}{w0:World}{h0:Fz}{g:Gh}{σ:St}{a:Act}{w:World}

theorem bU.log (S:bU P nt B w0 h0 g σ a w) (l:List (Nat×Nat×Nat)):bU P nt B w0 h0 g { σ with log:=l } a w :=
 ⟨S.dfr,S.size,S.env,S.obj,S.own,S.sep,S.hw,S.le0,S.hn,S.below,S.bs,S.clE,S.clO⟩

theorem zbO (a:Act) (t:Nat) (v:Value) (u:Nat) (ht:t < a.tmps.size):(a.put (some t) v).tmps.getD u undef=if t=u then v else a.tmps.getD u undef:=by
 simp only[Act.put,rE,Array.getElem?_setIfInBounds];by_cases h:t=u
 ·subst h;simp[ht]
 ·simp[h]

def SV (dst:Option Nat) (d:DV) (e:List (Nat×DV)):List (Nat×DV) :=
 match dst with
 | some t=>(t,d) :: e
 | none=>e

theorem eu (σ:St) (i:Nat) (dst:Option Nat) (fp:List (Nat×Bool)) (d:DV) (u:List (Nat×AO)):σ.upd i dst fp d u []=⟨SV dst d σ.env,u ++ σ.aB,σ.log⟩:=by
 cases dst <;> rfl

theorem bU.put (S : bU P nt B w0 h0 g σ a w) {dst : Option Nat} {d : DV} {v : Value} (hd : dE nt dst = true) (hv : oJ g d v) (hl : ∀ L ∈ bY d, ∃ o, lk σ.aB L = some o)
    (l:List (Nat×Nat×Nat)):bU P nt B w0 h0 g ⟨SV dst d σ.env,σ.aB,l⟩ (a.put dst v) w:=by
  cases dst with
  | none=>exact S.log l
  | some t =>
    have ht:t < nt:=by simpa [dE,Nat.blt_eq] using hd
    have hts:t < a.tmps.size:=dqS ht S.size;refine⟨S.dfr,by simpa [Act.put] using S.size,?_,S.obj,S.own,S.sep,S.hw,S.le0,S.hn,S.below,S.bs,?_,S.clO⟩
    · intro u e hu;rw[zbO a t v u hts];simp only[SV,aV] at hu;split at hu
      · rename_i h;simp at hu;subst hu;rw[if_pos h];exact hv
      · rename_i h;rw[if_neg h];exact S.env u e hu
    · intro u e hu;simp only[SV,aV] at hu;split at hu
      · simp at hu;subst hu;exact hl
      · exact S.clE u e hu

theorem bU.change (S : bU P nt B w0 h0 g σ a w) {g' : Gh} {w' : World} {wJ : List (Nat × AO)}
    (hlab:∀ L o,lk σ.aB L=some o->gG g g' L) (hle:iP g.h g'.h) (hw':Hw g'.h w')
    (hn':∀ b o,g'.h b=some o->g.h b=some o\/B<=b) (hb:tN h0 B w w')
    (zDs:∀ L o,lk wJ L=some o->IX P g' w' B L o) (hown:∀ L o b,lk wJ L=some o->fB g' L o b->B<=b/\g'.h b=none)
    (hsep:∀ L o b L' o',lk wJ L=some o->lk wJ L'=some o'->fB g' L o b->fB g' L' o' b->L=L')
    (hdom:∀ L o,lk σ.aB L=some o->∃ o',lk wJ L=some o') (zDt:∀ L o,lk wJ L=some o->∀ M∈dJ o,∃ o',lk wJ M=some o') :
    bU P nt B w0 h0 g' { σ with aB:=wJ } a w':=by
  refine⟨S.dfr.mono hle,S.size,?_,zDs,hown,hsep,hw',λ b o h=>hle _ _ (S.le0 b o h),?_,S.below.trans hb,Bv S.bs hb.size,?_,zDt⟩
  · intro t d ht;refine OO (λ L hL=>?_) hle (S.env t d ht);obtain⟨o,ho⟩:=S.clE t d ht L hL;exact hlab L o ho
  · intro b o h;rcases hn' b o h with h | h
    · exact S.hn b o h
    · exact .inr h
  · intro t d ht L hL;obtain⟨o,ho⟩:=S.clE t d ht L hL;exact hdom L o ho

theorem bU.world (S : bU P nt B w0 h0 g σ a w) {h' : Fz} {w' : World} (hle : iP g.h h') (hw' : Hw h' w')
    (hn':∀ b o,h' b=some o->g.h b=some o\/w.heap.size<=b) (hb:tN g.h w.heap.size w w'):bU P nt B w0 h0 ⟨h',g.bk,g.sv,g.iv⟩ σ a w':=by
  have hlt:∀ L o b,lk σ.aB L=some o->fB g L o b->b < w.heap.size:=λ L o b ho hob=>gm (S.obj L o ho) hob
  have key := S.change (g' := ⟨h', g.bk, g.sv, g.iv⟩) (w' := w') (wJ := σ.aB) (fun _ _ _ => ⟨rfl, rfl, rfl⟩) hle hw'
    (λ b o h=>(hn' b o h).imp id λ h=>Bv S.bs h) ⟨hb.os,hb.tape,hb.output,hb.size,hb.drawn,λ k hk=>hb.block k (dqS hk S.bs)⟩
    (λ L o ho=>iK (S.obj L o ho) ⟨rfl,rfl,rfl⟩ (λ _ _=>⟨rfl,rfl,rfl⟩) hle λ b hob=>hb.block b (hlt L o b ho hob))
    (λ L o b ho hob=>by
      have fO:fB g L o b:=Eq.mp (congrFun (eU (g:=g) (g':=⟨h',g.bk,g.sv,g.iv⟩) ⟨rfl,rfl,rfl⟩) _) hob;obtain⟨h1,h2⟩:=S.own L o b ho fO;refine⟨h1,?_⟩;cases hh:h' b with
      | none=>exact hh
      | some x =>
        rcases hn' b x hh with h3 | h3
        · rw[h2] at h3;cases h3
        · exact absurd (hlt L o b ho fO) (by omega))
    (fun L o b L' o' ho ho' hob fO => S.sep L o b L' o' ho ho'
      (Eq.mp (congrFun (eU (g:=g) (g':=⟨h',g.bk,g.sv,g.iv⟩) ⟨rfl,rfl,rfl⟩) _) hob) (Eq.mp (congrFun (eU (g:=g) (g':=⟨h',g.bk,g.sv,g.iv⟩) ⟨rfl,rfl,rfl⟩) _) fO))
    (λ L o h=>⟨o,h⟩) S.clO
  exact key

theorem qF {h:Fz}(hw:Hw h w){b:Nat}{o:OE}(hb:h b=some o):b < w.heap.size:=hw.lt hb

def Gh.setBk (g:Gh) (t b:Nat):Gh:=⟨g.h,λ L=>if L=t then b else g.bk L,g.sv,g.iv⟩
def Gh.setSv (g:Gh) (t:Nat) (v:Value):Gh:=⟨g.h,g.bk,λ L=>if L=t then v else g.sv L,g.iv⟩
def Gh.setVv (g:Gh) (t:Nat) (v:Value) (iv:Nat->Value):Gh:=⟨g.h,g.bk,λ L=>if L=t then v else g.sv L,λ L=>if L=t then iv else g.iv L⟩

theorem bU.newBox (S : bU P nt B w0 h0 g σ a w) {t ty : Nat} {cs : List Cl} {C : Array Value} (ht : lk σ.aB t = none) (hC : RL (gJ g) cs C.toList)
    (hcl:∀ M∈cs.flatMap bi,∃ o,lk σ.aB M=some o) :
    bU P nt B w0 h0 (g.setBk t w.heap.size) { σ with aB:=(t,.box ty cs) :: σ.aB } a (w.alloc (.cells C ty)):=by
  have hne:∀ L o,lk σ.aB L=some o->L ≠ t:=λ L o h e=>by subst e;rw[ht] at h;cases h
  have hsame:∀ L o,lk σ.aB L=some o->gG g (g.setBk t w.heap.size) L:=λ L o h=>⟨by simp[Gh.setBk,hne L o h],rfl,rfl⟩;have hold:∀ b,b < w.heap.size->(w.alloc (.cells C ty)).heap[b]? = w.heap[b]?:=λ b hb=>heap_alloc_old w _ b hb;have hlk:∀ L o,lk ((t,AO.box ty cs) :: σ.aB) L=some o->(L=t/\o=.box ty cs)\/(L ≠ t/\lk σ.aB L=some o):=by
    intro L o h;rw[aV] at h;split at h
    · rename_i e;simp at h;exact .inl ⟨e.symm,h.symm⟩
    · rename_i e;exact .inr ⟨λ e'=>e e'.symm,h⟩
  have fU:∀ L o b,lk σ.aB L=some o->fB (g.setBk t w.heap.size) L o b->fB g L o b:=λ L o b ho hob=>Eq.mp (congrFun (eU (hsame L o ho)) _) hob;refine S.change (g':=g.setBk t w.heap.size) hsame (λ _ _ h=>h) ?_ (λ b o h=>.inl h) (tN.of ⟨(Below.refl B w).alloc S.bs _,iZ _⟩) ?_ ?_ ?_ ?_ ?_
  · exact S.hw.same λ b o h=>hold b (qF S.hw h)
  · intro L o ho;rcases hlk L o ho with ⟨rfl,rfl,rfl⟩ | ⟨_,ho⟩
    · refine ⟨C, by show (w.alloc _).heap[(if _ then w.heap.size else _)]? = _; rw [if_pos rfl]; exact heap_alloc_new w _, oP (g := g) (g' := g.setBk _ w.heap.size) (fun M hM => ?_) (fun _ _ h => h) hC⟩;obtain⟨o,ho⟩:=hcl M hM;exact hsame M o ho
    · refine iK (S.obj L o ho) (hsame L o ho) (fun M hM => ?_) (fun _ _ h => h) (fun b hob => hold b (gm (S.obj L o ho) hob));obtain⟨o',ho'⟩:=S.clO L o ho M hM;exact hsame M o' ho'
  · intro L o b ho hob;rcases hlk L o ho with ⟨rfl,rfl,rfl⟩ | ⟨_,ho⟩
    · simp [fB, Gh.setBk] at hob; subst hob;refine⟨S.bs,?_⟩;cases hh:g.h w.heap.size with
      | none=>exact hh
      | some x=>exact absurd (qF S.hw hh) (by omega)
    · exact S.own L o b ho (fU L o b ho hob)
  · intro L o b L' o' ho ho' hob fO;rcases hlk L o ho with ⟨rfl,rfl,rfl⟩ | ⟨hn,ho2⟩ <;> rcases hlk L' o' ho' with ⟨rfl,rfl,rfl⟩ | ⟨hn',kD⟩
    · rfl
    · simp [fB, Gh.setBk] at hob; subst hob;exact absurd (gm (S.obj L' o' kD) (fU _ _ _ kD fO)) (by omega)
    · simp [fB, Gh.setBk] at fO; subst fO;exact absurd (gm (S.obj L o ho2) (fU _ _ _ ho2 hob)) (by omega)
    · exact S.sep L o b L' o' ho2 kD (fU _ _ _ ho2 hob) (fU _ _ _ kD fO)
  · intro L o ho;refine⟨o,?_⟩;rw[aV,if_neg (λ e=>hne L o ho e.symm)];exact ho
  · intro L o ho M hM;have fin:∀ M o,lk σ.aB M=some o->∃ o',lk ((t,AO.box ty cs) :: σ.aB) M=some o':=λ M o h=>⟨o,by rw[aV,if_neg (λ e=>hne M o h e.symm)];exact h⟩;rcases hlk L o ho with ⟨rfl,rfl,rfl⟩ | ⟨_,ho⟩
    · obtain⟨o,ho⟩:=hcl M hM;exact fin M o ho
    · obtain⟨o',ho'⟩:=S.clO L o ho M hM;exact fin M o' ho'

theorem bU.newVec (S : bU P nt B w0 h0 g σ a w) {t e s b n : Nat} {get : Nat → List PV} {v : Value} {w' : World} (ht : lk σ.aB t = none)
    (hb:Ep B w w') (hold:∀ b,b < w.heap.size->w'.heap[b]? = w.heap[b]?) (hv:∀ b,v.ownBlock=some b->w.heap.size<=b)
    (hr:yc P (g.setSv t v) w' B t e s b n get) :
    bU P nt B w0 h0 (g.setSv t v) { σ with aB:=(t,.vec e s b n get) :: σ.aB } a w':=by
  have hne:∀ L o,lk σ.aB L=some o->L ≠ t:=λ L o h e=>by subst e;rw[ht] at h;cases h
  have hsame:∀ L o,lk σ.aB L=some o->gG g (g.setSv t v) L:=λ L o h=>⟨rfl,by simp[Gh.setSv,hne L o h],rfl⟩;have hlk:∀ L o,lk ((t,AO.vec e s b n get) :: σ.aB) L=some o->(L=t/\o=.vec e s b n get)\/(L ≠ t/\lk σ.aB L=some o):=by
    intro L o h;rw[aV] at h;split at h
    · rename_i e;simp at h;exact .inl ⟨e.symm,h.symm⟩
    · rename_i e;exact .inr ⟨λ e'=>e e'.symm,h⟩
  have fU:∀ L o b,lk σ.aB L=some o->fB (g.setSv t v) L o b->fB g L o b:=λ L o b ho hob=>Eq.mp (congrFun (eU (hsame L o ho)) _) hob;have hnew:(g.setSv t v).sv t=v:=by simp[Gh.setSv]
  refine S.change (g':=g.setSv t v) hsame (λ _ _ h=>h) ?_ (λ b o h=>.inl h) (.of hb) ?_ ?_ ?_ ?_ ?_
  · exact S.hw.same λ b o h=>hold b (qF S.hw h)
  · intro L o ho;rcases hlk L o ho with ⟨rfl,rfl,rfl⟩ | ⟨_,ho⟩
    · exact hr
    · refine iK (S.obj L o ho) (hsame L o ho) (fun M hM => ?_) (fun _ _ h => h) (fun b hob => hold b (gm (S.obj L o ho) hob));obtain⟨o',ho'⟩:=S.clO L o ho M hM;exact hsame M o' ho'
  · intro L o b' ho hob;rcases hlk L o ho with ⟨rfl,rfl,rfl⟩ | ⟨_,ho⟩
    · simp only [fB, hnew] at hob;have h1:=hv b' hob;refine⟨Bv S.bs h1,?_⟩;cases hh:g.h b' with
      | none=>exact hh
      | some x=>exact absurd (qF S.hw hh) (by omega)
    · exact S.own L o b' ho (fU L o b' ho hob)
  · intro L o b' L' o' ho ho' hob fO;rcases hlk L o ho with ⟨rfl,rfl,rfl⟩ | ⟨hn,ho2⟩ <;> rcases hlk L' o' ho' with ⟨rfl,rfl,rfl⟩ | ⟨hn',kD⟩
    · rfl
    · simp only [fB, hnew] at hob;have:=hv b' hob;exact absurd (gm (S.obj L' o' kD) (fU _ _ _ kD fO)) (by omega)
    · simp only [fB, hnew] at fO;have:=hv b' fO;exact absurd (gm (S.obj L o ho2) (fU _ _ _ ho2 hob)) (by omega)
    · exact S.sep L o b' L' o' ho2 kD (fU _ _ _ ho2 hob) (fU _ _ _ kD fO)
  · intro L o ho;refine⟨o,?_⟩;rw[aV,if_neg (λ e=>hne L o ho e.symm)];exact ho
  · intro L o ho M hM;rcases hlk L o ho with ⟨rfl,rfl,rfl⟩ | ⟨_,ho⟩
    · simp[dJ] at hM
    · obtain ⟨o', ho'⟩ := S.clO L o ho M hM;exact⟨o',by rw[aV,if_neg (λ e=>hne M o' ho' e.symm)];exact ho'⟩

theorem bU.write2 (S : bU P nt B w0 h0 g σ a w) {L : Nat} {o o' : AO} {w' : World} (hL : lk σ.aB L = some o) (hbk : ∀ b, fB g L o' b → fB g L o b)
    (hb:Ep B w w') (hoth:∀ b,b < w.heap.size->¬ fB g L o b->w'.heap[b]? = w.heap[b]?) (hr:IX P g w' B L o') (hcl:∀ M∈dJ o',∃ o,lk σ.aB M=some o) :
    bU P nt B w0 h0 g { σ with aB:=(L,o') :: σ.aB } a w':=by
  have hlk:∀ M x,lk ((L,o') :: σ.aB) M=some x->(M=L/\x=o')\/(M ≠ L/\lk σ.aB M=some x):=by
    intro M x h;rw[aV] at h;split at h
    · rename_i e;simp at h;exact .inl ⟨e.symm,h.symm⟩
    · rename_i e;exact .inr ⟨λ e'=>e e'.symm,h⟩
  have hdom:∀ M x,lk σ.aB M=some x->∃ x',lk ((L,o') :: σ.aB) M=some x':=by
    intro M x h;rw[aV];split
    · exact⟨o',rfl⟩
    · exact⟨x,h⟩
  refine S.change (g':=g) (λ _ _ _=>⟨rfl,rfl,rfl⟩) (λ _ _ h=>h) ?_ (λ b o h=>.inl h) (.of hb) ?_ ?_ ?_ hdom ?_
  · exact S.hw.same λ b x h=>hoth b (qF S.hw h) (λ e=>by have:=(S.own L o b hL e).2;rw[this] at h;cases h)
  · intro M x hx;rcases hlk M x hx with ⟨rfl,rfl,rfl⟩ | ⟨hne,hx⟩
    · exact hr
    · exact iK (S.obj M x hx) ⟨rfl,rfl,rfl⟩ (λ _ _=>⟨rfl,rfl,rfl⟩) (λ _ _ h=>h) λ b hob=>hoth b (gm (S.obj M x hx) hob) λ e=>hne (S.sep M x b L o hx hL hob e)
  · intro M x b hx hob;rcases hlk M x hx with ⟨rfl,rfl,rfl⟩ | ⟨_,hx⟩
    · exact S.own M o b hL (hbk b hob)
    · exact S.own M x b hx hob
  · intro M x b M' x' hx hx' hob fO;rcases hlk M x hx with ⟨rfl,rfl,rfl⟩ | ⟨_,hx2⟩ <;> rcases hlk M' x' hx' with ⟨rfl,rfl,rfl⟩ | ⟨_,SX⟩
    · rfl
    · exact S.sep M o b M' x' hL SX (hbk b hob) fO
    · exact S.sep M x b M' o hx2 hL hob (hbk b fO)
    · exact S.sep M x b M' x' hx2 SX hob fO
  · intro M x hx N hN;rcases hlk M x hx with ⟨rfl,rfl,rfl⟩ | ⟨_,hx⟩
    · obtain⟨y,hy⟩:=hcl N hN;exact hdom N y hy
    · obtain⟨y,hy⟩:=S.clO M x hx N hN;exact hdom N y hy
theorem bU.write (S : bU P nt B w0 h0 g σ a w) {L : Nat} {o o' : AO} {w' : World} (hL : lk σ.aB L = some o) (hbk : ∀ b, fB g L o' b → fB g L o b)
    (hb:Ep B w w') (hoth:∀ b,¬ fB g L o b->w'.heap[b]? = w.heap[b]?) (hr:IX P g w' B L o') (hcl:∀ M∈dJ o',∃ o,lk σ.aB M=some o) :
    bU P nt B w0 h0 g { σ with aB:=(L,o') :: σ.aB } a w':=S.write2 hL hbk hb (λ b _=>hoth b) hr hcl
theorem Eu {L:Nat}{v:Value} : ∀ M,M ≠ L->gG g (g.setSv L v) M:=λ M h=>⟨rfl,by simp[Gh.setSv,h],rfl⟩
theorem SY {L:Nat}{v:Value}{iv:Nat->Value} : ∀ M,M ≠ L->gG g (g.setVv L v iv) M:=λ M h=>⟨rfl,by simp[Gh.setVv,h],by simp[Gh.setVv,h]⟩
theorem bU.adopt (S : bU P nt B w0 h0 g σ a w) {t e s b n : Nat} {get : Nat → List PV} {v : Value} (ht : lk σ.aB t = none)
    (hv:∀ k,v.ownBlock=some k->B<=k/\g.h k=none/\∀ L o,lk σ.aB L=some o->¬ fB g L o k) (hr:yc P (g.setSv t v) w B t e s b n get) :
    bU P nt B w0 h0 (g.setSv t v) { σ with aB:=(t,.vec e s b n get) :: σ.aB } a w:=by
  have hne:∀ L o,lk σ.aB L=some o->L ≠ t:=λ L o h e=>by subst e;rw[ht] at h;cases h
  have hsame:∀ L o,lk σ.aB L=some o->gG g (g.setSv t v) L:=λ L o h=>Eu L (hne L o h);have hlk:∀ L o,lk ((t,AO.vec e s b n get) :: σ.aB) L=some o->(L=t/\o=.vec e s b n get)\/(L ≠ t/\lk σ.aB L=some o):=by
    intro L o h;rw[aV] at h;split at h
    · rename_i e;simp at h;exact .inl ⟨e.symm,h.symm⟩
    · rename_i e;exact .inr ⟨λ e'=>e e'.symm,h⟩
  have hnew:(g.setSv t v).sv t=v:=by simp[Gh.setSv]
  have fU:∀ L o k,lk σ.aB L=some o->fB (g.setSv t v) L o k->fB g L o k:=λ L o k ho h=>by rw[eU (hsame L o ho)] at h;exact h
  refine S.change (g':=g.setSv t v) hsame (λ _ _ h=>h) S.hw (λ b o h=>.inl h) (.refl _ B w) ?_ ?_ ?_ ?_ ?_
  · intro L o ho;rcases hlk L o ho with ⟨rfl,rfl⟩ | ⟨_,ho⟩
    · exact hr
    · exact iK (S.obj L o ho) (hsame L o ho) (λ M hM=>by obtain⟨o',ho'⟩:=S.clO L o ho M hM;exact hsame M o' ho') (λ _ _ h=>h) λ _ _=>rfl
  · intro L o k ho hk;rcases hlk L o ho with ⟨rfl,rfl⟩ | ⟨_,ho⟩
    · simp only[fB,hnew] at hk;exact⟨(hv k hk).1,(hv k hk).2.1⟩
    · exact S.own L o k ho (fU L o k ho hk)
  · intro L o k L' o' ho ho' hk hk';rcases hlk L o ho with ⟨rfl,rfl⟩ | ⟨_,ho2⟩ <;> rcases hlk L' o' ho' with ⟨rfl,rfl⟩ | ⟨_,kD⟩
    · rfl
    · simp only[fB,hnew] at hk;exact ((hv k hk).2.2 L' o' kD (fU _ _ _ kD hk')).elim
    · simp only[fB,hnew] at hk';exact ((hv k hk').2.2 L o ho2 (fU _ _ _ ho2 hk)).elim
    · exact S.sep L o k L' o' ho2 kD (fU _ _ _ ho2 hk) (fU _ _ _ kD hk')
  · intro L o ho;refine⟨o,?_⟩;rw[aV,if_neg (λ e=>hne L o ho e.symm)];exact ho
  · intro L o ho M hM;rcases hlk L o ho with ⟨rfl,rfl⟩ | ⟨_,ho⟩
    · simp[dJ] at hM
    · obtain ⟨o', ho'⟩ := S.clO L o ho M hM;exact⟨o',by rw[aV,if_neg (λ e=>hne M o' ho' e.symm)];exact ho'⟩
end
end Go.Pm
namespace Go.Pm
variable [aJ]
open Go.RowKit (Below)

abbrev jT:=List (Nat×AO)

abbrev JF (s:Nat) (ln:Nat->Nat) (get:Nat->Nat->List PV):Nat->List PV:=λ i=>[.sl (ln i) s (get i)]

def VU (ob:Nat->Option AO) (u:jT) (L:Nat) (o':AO):Prop :=
 (∃ e s b n get,ob L=some (.vec e s b n get)/\o'=.fvec s n get) \/
 (∃ ty cells l us,ob L=some (.box ty cells)/\o'=.fbox l/\kG ob cells=some (l,us)/\∀ x∈us,x∈u) \/
 (∃ te bb e s b n ln get,ob L=some (.vv te bb e s b n ln get)/\o'=.fvec 1 n (JF s ln get))

theorem VU.mono {ob:Nat->Option AO}{u u':jT}{L:Nat}{o':AO}(h:VU ob u L o') (hu:∀ x∈u,x∈u'):VU ob u' L o':=by
 rcases h with h | ⟨ty,cells,l,us,h1,h2,h3,h4⟩ | h
 ·exact .inl h
 ·exact .inr (.inl ⟨ty,cells,l,us,h1,h2,h3,λ x hx=>hu x (h4 x hx)⟩)
 ·exact .inr (.inr h)

def dW (ob:Nat->Option AO) (u:jT):Prop:=∀ x∈u,VU ob u x.1 x.2

theorem dW.append {ob:Nat->Option AO}{u u':jT}(h:dW ob u) (h':dW ob u'):dW ob (u ++ u'):=by
 intro x hx;rcases dL.1 hx with hx | hx
 ·exact (h x hx).mono λ y hy=>dL.2 (.inl hy)
 ·exact (h' x hx).mono λ y hy=>dL.2 (.inr hy)
theorem dW.nil (ob:Nat->Option AO):dW ob []:=λ x hx=>by simp at hx

section
variable {ob:Nat->Option AO}
theorem La {c:Cl}{v:PV}{u:jT}(h:wo ob c=some (v,u)):dW ob u:=by
 unfold wo at h;split at h
 ·simp only[bJ,eF] at h;rw[<- h.2];exact dW.nil ob
 ·split at h
  ·rename_i e s b n get hL;simp at h;rw[<- h.2];intro x hx;simp at hx;subst hx;exact .inl ⟨_,_,_,_,_,hL,rfl⟩
  ·simp only[bJ,eF] at h;rw[<- h.2];exact dW.nil ob
  ·rename_i te bb e s b n ln get hL;simp only[bJ,eF] at h;rw[<- h.2];intro x hx;simp only[jM] at hx;subst hx;exact .inr (.inr ⟨_,_,_,_,_,_,_,_,hL,rfl⟩)
  ·cases h
 ·cases h
theorem Ew : ∀ {cs : List Cl} {l : List PV} {u : jT}, ik ob cs = some (l, u) → dW ob u
  | [],l,u,h=>by simp[ik] at h;rw[h.2];exact dW.nil ob
  | c :: cs,l,u,h=>by
    simp only[ik] at h;split at h
    · rename_i v u1 l2 u2 h1 h2;simp at h;rw[<- h.2];exact (La h1).append (Ew h2)
    · cases h
theorem znF {c:Cl}{x:PV×jT}(h:wo ob c=some x):I5 ob c=some x:=by
 cases c <;> first | exact h | cases h
theorem Lc : ∀ {cs : List Cl} {x : List PV × jT}, ik ob cs = some x → kG ob cs = some x
  | [],x,h=>h
  | c :: cs,x,h=>by
    simp only[ik] at h;split at h
    · rename_i v u1 l2 u2 h1 h2;simp only[kG,znF h1,Lc h2];exact h
    · cases h
theorem zgR {c:Cl}{v:PV}{u:jT}(h:I5 ob c=some (v,u)):dW ob u:=by
 unfold I5 at h;split at h
 ·split at h
  ·rename_i L off ty cells hL;split at h
   ·rename_i l us hl;simp at h;rw[<- h.2];intro x hx;rcases dL.1 hx with hx | hx
    ·exact (Ew hl x hx).mono λ y hy=>dL.2 (.inl hy)
    ·simp at hx; subst hx;exact .inr (.inl ⟨_,_,_,_,hL,rfl,Lc hl,λ y hy=>dL.2 (.inl hy)⟩)
   ·cases h
  ·simp only[bJ,eF] at h;rw[<- h.2];exact dW.nil ob
  ·cases h
 ·exact La h
theorem OU : ∀ {cs : List Cl} {l : List PV} {u : jT}, kG ob cs = some (l, u) → dW ob u
  | [],l,u,h=>by simp[kG] at h;rw[h.2];exact dW.nil ob
  | c :: cs,l,u,h=>by
    simp only[kG] at h;split at h
    · rename_i v u1 l2 u2 h1 h2;simp at h;rw[<- h.2];exact (zgR h1).append (OU h2)
    · cases h
theorem VV {c:Cl}{v:PV}{u:jT}(h:DX ob c=some (v,u)):dW ob u:=by
 unfold DX at h;split at h
 ·split at h
  ·rename_i L off ty cells hL;split at h
   ·rename_i l us hl;simp at h;rw[<- h.2];intro x hx;rcases dL.1 hx with hx | hx
    ·exact (OU hl x hx).mono λ y hy=>dL.2 (.inl hy)
    ·simp at hx; subst hx;exact .inr (.inl ⟨_,_,_,_,hL,rfl,hl,λ y hy=>dL.2 (.inl hy)⟩)
   ·cases h
  ·simp only[bJ,eF] at h;rw[<- h.2];exact dW.nil ob
  ·cases h
 ·exact La h
theorem OV : ∀ {cs : List Cl} {l : List PV} {u : jT}, oK ob cs = some (l, u) → dW ob u
  | [],l,u,h=>by simp[oK] at h;rw[h.2];exact dW.nil ob
  | c :: cs,l,u,h=>by
    simp only[oK] at h;split at h
    · rename_i v u1 l2 u2 h1 h2;simp at h;rw[<- h.2];exact (VV h1).append (OV h2)
    · cases h
theorem Tc {c:Cl}{v:PV}{u:jT}(h:frz ob c=some (v,u)):dW ob u:=by
 unfold frz at h;split at h
 ·split at h
  ·rename_i l us hl;simp only[bJ,eF] at h;rw[<- h.2];exact OV hl
  ·cases h
 ·exact VV h
theorem Dk : ∀ {cs : List Cl} {l : List PV} {u : jT}, o7 ob cs = some (l, u) → dW ob u
  | [],l,u,h=>by simp[o7] at h;rw[h.2];exact dW.nil ob
  | c :: cs,l,u,h=>by
    simp only[o7] at h;split at h
    · rename_i v u1 l2 u2 h1 h2;simp at h;rw[<- h.2];exact (Tc h1).append (Dk h2)
    · cases h
theorem yg {d:DV}{v:PA}{u:jT}(h:wu ob d=some (v,u)):dW ob u:=by
 unfold wu at h;split at h
 ·split at h
  ·rename_i v' u' h1;simp at h;rw[<- h.2];exact Tc h1
  ·cases h
 ·split at h
  ·rename_i v' u' h1;simp at h;rw[<- h.2];exact Dk h1
  ·cases h
 ·cases h
theorem uA : ∀ {cs : List DV} {l : List PA} {u : jT}, fQ ob cs = some (l, u) → dW ob u
  | [],l,u,h=>by simp[fQ] at h;rw[h.2];exact dW.nil ob
  | c :: cs,l,u,h=>by
    simp only[fQ] at h;split at h
    · rename_i v u1 l2 u2 h1 h2;simp at h;rw[<- h.2];exact (yg h1).append (uA h2)
    · cases h
end

structure ed (g : Gh) (ob : Nat → Option AO) (u : jT) (h' : Fz) : Prop where
  le:iP g.h h'
  vec:∀ L e s b n get,ob L=some (.vec e s b n get)->(L,AO.fvec s n get)∈u->Rep h' (.sl n s get) (g.sv L)
  fvec:∀ L s n get,ob L=some (.fvec s n get)->Rep h' (.sl n s get) (g.sv L)
  vv:∀ L te bb e s b n ln get,ob L=some (.vv te bb e s b n ln get)->(L,AO.fvec 1 n (JF s ln get))∈u->Rep h' (.sl n 1 (JF s ln get)) (g.sv L)
  box:∀ L ty cells l us,ob L=some (.box ty cells)->kG ob cells=some (l,us)->(∀ x∈us,x∈u)->(L,AO.fbox l)∈u->∃ C,h' (g.bk L)=some (.fz (.cells C ty (0,0)))/\RL (Rep h') l C.toList
  fbox:∀ L l,ob L=some (.fbox l)->∃ C ty fr,h' (g.bk L)=some (.fz (.cells C ty fr))/\RL (Rep h') l C.toList
  new:∀ b,g.h b=none->∀ o,h' b=some o->∃ L x o',(L,o')∈u/\ob L=some x/\fB g L x b

section
variable {g:Gh}{ob:Nat->Option AO}{u:jT}{h':Fz}
theorem ed.rep0 (F:ed g ob u h'){c:Cl}{v:PV}{us:jT}{x:Value}(h:wo ob c=some (v,us)) (hu:∀ y∈us,y∈u) (hc:gJ g c x):Rep h' v x:=by
 unfold wo at h;split at h
 ·simp at h;rw[<- h.1];exact Rep.mono F.le hc
 ·split at h
  ·rename_i L _x e s b n get hL;simp at h;rw[<- h.1];rw[<- h.2] at hu;obtain⟨rfl,_⟩:=hc;exact F.vec L e _ b n get hL (hu _ (by simp))
  ·rename_i L _x s n get hL;simp at h;rw[<- h.1];obtain⟨rfl,_⟩:=hc;exact F.fvec L _ n get hL
  ·rename_i L _x te bb e s b n ln get hL;simp only[bJ,eF] at h;rw[<- h.1];rw[<- h.2] at hu;obtain⟨rfl,_⟩:=hc;exact F.vv L te bb e s b n ln get hL (hu _ (by simp))
  ·cases h
 ·cases h
theorem ed.repL0 (F : ed g ob u h') : ∀ {cs : List Cl} {l : List PV} {us : jT} {vs : List Value}, ik ob cs = some (l, us) → (∀ y ∈ us, y ∈ u) → RL (gJ g) cs vs → RL (Rep h') l vs
  | [],l,us,vs,h,hu,hc=>by
    simp[ik] at h;rw[h.1];cases vs with
    | nil=>trivial
    | cons=>exact hc.elim
  | c :: cs,l,us,[],h,hu,hc=>hc.elim
  | c :: cs,l,us,v :: vs,h,hu,hc=>by
    simp only[ik] at h;split at h
    · rename_i v1 u1 l2 u2 h1 h2;simp at h;rw[<- h.1];rw[<- h.2] at hu;exact⟨F.rep0 h1 (λ y hy=>hu y (dL.2 (.inl hy))) hc.1,F.repL0 h2 (λ y hy=>hu y (dL.2 (.inr hy))) hc.2⟩
    · cases h
theorem Ld {h : Fz} {b : Nat} {C : Array Value} {ty : TypeId} {fr : Nat × Nat} {l : List PV} (hb : h b = some (.fz (.cells C ty fr))) (hr : RL (Rep h) l C.toList) (off : Nat) :
    Rep h (.fp l off) (.pointer (some ⟨b,off,none⟩)):=by
  have := Rep.fp (h := h) l off b 0 C ty fr (fun j => C.getD j undef) hb
    (λ j x hj=>by
      obtain⟨v,hv,_⟩:=hr.get j x hj;have hv':C[j]? = some v:=by simpa using hv
      simp[rE,hv'])
    (λ j x hj=>by
      obtain⟨v,hv,hx⟩:=hr.get j x hj;have hv':C[j]? = some v:=by simpa using hv
      simpa [rE,hv'] using hx)
  simpa using this
theorem ed.repA (F:ed g ob u h'){c:Cl}{v:PV}{us:jT}{x:Value}(h:DX ob c=some (v,us)) (hu:∀ y∈us,y∈u) (hc:gJ g c x):Rep h' v x:=by
 unfold DX at h;split at h
 ·split at h
  ·rename_i L off _x ty cells hL;split at h
   ·rename_i l us' hl;simp at h;rw[<- h.1];rw[<- h.2] at hu;obtain⟨C,hC,hr⟩:=F.box L ty cells l us' hL hl (λ y hy=>hu y (dL.2 (.inl hy))) (hu _ (by simp));simp only[gJ] at hc;rw[hc];exact Ld hC hr off
   ·cases h
  ·rename_i L off _x l hL;simp at h;rw[<- h.1];obtain⟨C,ty,fr,hC,hr⟩:=F.fbox L l hL;simp only[gJ] at hc;rw[hc];exact Ld hC hr off
  ·cases h
 ·exact F.rep0 h hu hc
theorem ed.repAL (F : ed g ob u h') : ∀ {cs : List Cl} {l : List PV} {us : jT} {vs : List Value}, oK ob cs = some (l, us) → (∀ y ∈ us, y ∈ u) → RL (gJ g) cs vs → RL (Rep h') l vs
  | [],l,us,vs,h,hu,hc=>by
    simp[oK] at h;rw[h.1];cases vs with
    | nil=>trivial
    | cons=>exact hc.elim
  | c :: cs,l,us,[],h,hu,hc=>hc.elim
  | c :: cs,l,us,v :: vs,h,hu,hc=>by
    simp only[oK] at h;split at h
    · rename_i v1 u1 l2 u2 h1 h2;simp at h;rw[<- h.1];rw[<- h.2] at hu;exact⟨F.repA h1 (λ y hy=>hu y (dL.2 (.inl hy))) hc.1,F.repAL h2 (λ y hy=>hu y (dL.2 (.inr hy))) hc.2⟩
    · cases h
theorem ed.rep (F:ed g ob u h'){c:Cl}{v:PV}{us:jT}{x:Value}(h:frz ob c=some (v,us)) (hu:∀ y∈us,y∈u) (hc:gJ g c x):Rep h' v x:=by
 unfold frz at h;split at h
 ·rename_i f caps;split at h
  ·rename_i l us' hl;simp only[bJ,eF] at h;obtain⟨rfl,rfl⟩:=h;obtain⟨cv,rfl,hr⟩:=hc;have hr2:RL (gJ g) (caps.map Yc) cv:=RL.map_left.2 (hr.mono λ c y hy=>by
    cases c with
    | v p=>exact hy
    | b L=>exact hy)
   have hl2:=F.repAL hl hu hr2;exact .fn f [] l [] cv rfl hl2.length (λ i x y hx _=>by simp at hx) (λ i x y hx hy=>by obtain⟨v,hv,hr3⟩:=hl2.get i x hx;rw[hv] at hy;exact Option.some.inj hy ▸ hr3)
  ·cases h
 ·exact F.repA h hu hc
theorem ed.repL (F : ed g ob u h') : ∀ {cs : List Cl} {l : List PV} {us : jT} {vs : List Value}, o7 ob cs = some (l, us) → (∀ y ∈ us, y ∈ u) → RL (gJ g) cs vs → RL (Rep h') l vs
  | [],l,us,vs,h,hu,hc=>by
    simp[o7] at h;rw[h.1];cases vs with
    | nil=>trivial
    | cons=>exact hc.elim
  | c :: cs,l,us,[],h,hu,hc=>hc.elim
  | c :: cs,l,us,v :: vs,h,hu,hc=>by
    simp only[o7] at h;split at h
    · rename_i v1 u1 l2 u2 h1 h2;simp at h;rw[<- h.1];rw[<- h.2] at hu;exact⟨F.rep h1 (λ y hy=>hu y (dL.2 (.inl hy))) hc.1,F.repL h2 (λ y hy=>hu y (dL.2 (.inr hy))) hc.2⟩
    · cases h
theorem ed.repD (F:ed g ob u h'){d:DV}{v:PA}{us:jT}{x:Value}(h:wu ob d=some (v,us)) (hu:∀ y∈us,y∈u) (hc:oJ g d x):kL h' v x:=by
 unfold wu at h;split at h
 ·split at h
  ·rename_i v' u' h1;simp at h;rw[<- h.1];rw[<- h.2] at hu;exact F.rep h1 hu hc
  ·cases h
 ·split at h
  ·rename_i v' u' h1;simp at h;rw[<- h.1];rw[<- h.2] at hu;obtain⟨vs,rfl,hr⟩:=hc;exact⟨vs,rfl,F.repL h1 hu hr⟩
  ·cases h
 ·cases h
theorem ed.repDs (F : ed g ob u h') : ∀ {ds : List DV} {l : List PA} {us : jT} {vs : List Value}, fQ ob ds = some (l, us) → (∀ y ∈ us, y ∈ u) → RL (oJ g) ds vs → RL (kL h') l vs
  | [],l,us,vs,h,hu,hc=>by
    simp[fQ] at h;rw[h.1];cases vs with
    | nil=>trivial
    | cons=>exact hc.elim
  | c :: cs,l,us,[],h,hu,hc=>hc.elim
  | c :: cs,l,us,v :: vs,h,hu,hc=>by
    simp only[fQ] at h;split at h
    · rename_i v1 u1 l2 u2 h1 h2;simp at h;rw[<- h.1];rw[<- h.2] at hu;exact⟨F.repD h1 (λ y hy=>hu y (dL.2 (.inl hy))) hc.1,F.repDs h2 (λ y hy=>hu y (dL.2 (.inr hy))) hc.2⟩
    · cases h
end

theorem dY {α:Type}{l:List (Nat×α)}{n:Nat}{a:α}(h:lk l n=some a):(n,a)∈l:=by
 induction l with
 | nil=>simp[lk] at h
 | cons x l ih =>
  obtain⟨k,y⟩:=x;rw[aV] at h;split at h
  ·rename_i e;simp at h;subst h;subst e;exact kR
  ·exact je _ (ih h)
theorem Le {α:Type}{l:List (Nat×α)}{n:Nat}(h:lk l n=none):∀ a,(n,a) ∉ l:=by
 induction l with
 | nil=>intro a h;simp at h
 | cons x l ih =>
  obtain⟨k,y⟩:=x;rw[aV] at h;split at h
  ·cases h
  ·rename_i e;intro a ha;rcases jf.1 ha with h1 | h1
   ·simp at h1;exact e h1.1.symm
   ·exact ih h a h1

theorem uC {g : Gh} {w : World} {B e s n : Nat} {v : Value} {get : Nat → List PV} {h' : Fz} {xs : List Value} (hu : pq get) (hs : 0 < s) (hx : w.ownsRow B e s v n xs)
    (hr:∀ i,i < n->RL (Rep g.h) (get i) ((xs.drop (i * s)).take s)) (hle:iP g.h h') (hb:∀ k,v.ownBlock=some k->h' k=(w.heap[k]?).map .fz):Rep h' (.sl n s get) v:=by
  rcases hx.2 with ⟨h1,rfl⟩ | ⟨k,cap,cur,h1,hB,hg,hn,hcap,hsz,htk⟩
  · rw[h1];exact .sl0 s get hu
  · rw [h1] at hb ⊢;have hk:=hb k rfl;rw[hg] at hk;simp only[Option.map_some] at hk;have hlen:∀ i,i < n->(get i).length=s:=by
      intro i hi;rw[(hr i hi).length];simp only[List.length_take,List.length_drop,hx.1];have:i * s+s<=n * s:=by have:=KP s (Nat.succ_le_of_lt hi);rw[Oj] at this;exact this
      omega
    have hcell:∀ i j x,i < n->(get i)[j]? = some x->∃ v,cur[i * s+j]? = some v/\Rep g.h x v:=by
      intro i j x hi hj;obtain⟨v,hv,hxv⟩:=(hr i hi).get j x hj;refine⟨v,?_,hxv⟩;have hjs:j < s:=by
        have:=(wW.1 hj).1;rw[hlen i hi] at this;exact this
      rw[C9,if_pos hjs,dqI,<- htk,C9] at hv;split at hv
      · simpa using hv
      · cases hv
    refine .sl n s get hu k 0 cap cur e (0,0) (λ i j=>cur.getD (i * s+j) undef) hk hn hlen ?_ ?_
    · intro i j x hi hj;obtain⟨v,hv,_⟩:=hcell i j x hi hj;rw[Nat.zero_add,rE,hv];rfl
    · intro i j x hi hj;obtain⟨v,hv,hxv⟩:=hcell i j x hi hj;simp only[rE,hv,Option.getD_some];exact hxv.mono hle

theorem zgS {P : Program} {g : Gh} {w : World} {B L e s b n : Nat} {get : Nat → List PV} {h' : Fz} (hv : yc P g w B L e s b n get) (hle : iP g.h h')
    (hb:∀ k,(g.sv L).ownBlock=some k->h' k=(w.heap[k]?).map .fz):Rep h' (.sl n s get) (g.sv L):=by
  obtain⟨hs,_,xs,hx,hr⟩:=hv;exact uC hs.1 hs.2 hx hr hle hb

theorem znG {P : Program} {g : Gh} {w : World} {B L te bb e s b n : Nat} {ln : Nat → Nat} {get : Nat → Nat → List PV} {h' : Fz} (hv : vvR P g w B L te bb e s b n ln get) (hle : iP g.h h')
    (hb:∀ k,fB g L (.vv te bb e s b n ln get) k->h' k=(w.heap[k]?).map .fz):Rep h' (.sl n 1 (JF s ln get)) (g.sv L):=by
  obtain⟨hs,_,_,h4,h5,_⟩:=hv;refine uC (g:=⟨h',g.bk,g.sv,g.iv⟩) (λ i j=>⟨pq.sl (λ k l=>hs.1 i k j l) _ _ _,trivial⟩) (by decide) h4 ?_ (λ _ _ h=>h) λ k hk=>hb k (.inl hk);intro i hi;have e1:(((List.range n).map (g.iv L)).drop (i * 1)).take 1=[g.iv L i]:=by
    apply List.ext_getElem?;intro j;rw[C9];cases j with
    | zero=>simp[hi]
    | succ j=>simp
  rw[e1];obtain⟨_,_,xs,hx,hr⟩:=h5 i hi;exact⟨uC (λ j k=>hs.1 i j i k) hs.2 hx hr hle λ k hk=>hb k (.inr ⟨i,hi,hk⟩),trivial⟩

open Classical in
theorem bU.freeze {P : Program} {nt B : Nat} {w0 : World} {h0 : Fz} {g : Gh} {σ : St} {a : Act} {w : World} (S : bU P nt B w0 h0 g σ a w) {u : jT} (hu : dW (lk σ.aB) u) :
  ∃ h',bU P nt B w0 h0 ⟨h',g.bk,g.sv,g.iv⟩ { σ with aB:=u ++ σ.aB } a w/\ed g (lk σ.aB) u h':=by
 let inU:Nat->Prop:=λ b=>∃ L o o',(L,o')∈u/\lk σ.aB L=some o/\fB g L o b;let h':Fz:=λ b=>if inU b then (w.heap[b]?).map .fz else g.h b;have hle:iP g.h h':=by
  intro b o hb;show (if inU b then (w.heap[b]?).map .fz else g.h b)=some o;split
  ·rename_i h;obtain⟨L,x,o',_,hL,hob⟩:=h;rw[(S.own L x b hL hob).2] at hb;cases hb
  ·exact hb
 have hin:∀ b,inU b->h' b=(w.heap[b]?).map .fz:=λ b hb=>if_pos hb;have hout:∀ b,¬ inU b->h' b=g.h b:=λ b hb=>if_neg hb;have F1:∀ L e s b n get,lk σ.aB L=some (.vec e s b n get)->(L,AO.fvec s n get)∈u->Rep h' (.sl n s get) (g.sv L):=by
  intro L e s b n get hL hm;exact zgS (S.obj L _ hL) hle λ k hk=>hin k ⟨L,_,_,hm,hL,hk⟩
 have F3:∀ L te bb e s b n ln get,lk σ.aB L=some (.vv te bb e s b n ln get)->(L,AO.fvec 1 n (JF s ln get))∈u->Rep h' (.sl n 1 (JF s ln get)) (g.sv L):=by
  intro L te bb e s b n ln get hL hm;exact znG (S.obj L _ hL) hle λ k hk=>hin k ⟨L,_,_,hm,hL,hk⟩
 have F2:∀ L s n get,lk σ.aB L=some (.fvec s n get)->Rep h' (.sl n s get) (g.sv L):=λ L s n get hL=>Rep.mono hle (S.obj L _ hL).1;have F0:ed g (lk σ.aB) u h':=by
  have Fpre:∀ {cs:List Cl} {l:List PV} {us:jT} {vs:List Value},ik (lk σ.aB) cs=some (l,us)->(∀ y∈us,y∈u)->RL (gJ g) cs vs->RL (Rep h') l vs:=by
   intro cs
   induction cs with
   | nil =>
    intro l us vs h _ hc;simp[ik] at h;rw[h.1];cases vs with
    | nil=>trivial
    | cons=>exact hc.elim
   | cons c cs ih =>
    intro l us vs h hus hc;cases vs with
    | nil=>exact hc.elim
    | cons v vs =>
     simp only[ik] at h;split at h
     ·rename_i v1 u1 l2 u2 h1 h2;simp at h;rw[<- h.1];rw[<- h.2] at hus;refine⟨?_,ih h2 (λ y hy=>hus y (dL.2 (.inr hy))) hc.2⟩;have hu1:∀ y∈u1,y∈u:=λ y hy=>hus y (dL.2 (.inl hy));have hc1:=hc.1;unfold wo at h1;split at h1
      ·simp at h1;rw[<- h1.1];exact Rep.mono hle hc1
      ·split at h1
       ·rename_i L _x e s b n get hL;simp at h1;rw[<- h1.1];rw[<- h1.2] at hu1;obtain⟨rfl,_⟩:=hc1;exact F1 L e _ b n get hL (hu1 _ (by simp))
       ·rename_i L _x s n get hL;simp at h1;rw[<- h1.1];obtain⟨rfl,_⟩:=hc1;exact F2 L _ n get hL
       ·rename_i L _x te bb e s b n ln get hL;simp only[bJ,eF] at h1;rw[<- h1.1];rw[<- h1.2] at hu1;obtain⟨rfl,_⟩:=hc1;exact F3 L te bb e s b n ln get hL (hu1 _ (by simp))
       ·cases h1
      ·cases h1
     ·cases h
  have Fbox:∀ L l,lk σ.aB L=some (.fbox l)->∃ C ty fr,h' (g.bk L)=some (.fz (.cells C ty fr))/\RL (Rep h') l C.toList:=by
   intro L l hL;obtain⟨C,ty,fr,hC,hr⟩:=S.obj L _ hL;exact⟨C,ty,fr,hle _ _ hC,hr.mono λ _ _=>Rep.mono hle⟩
  have FpreB:∀ {cs:List Cl} {l:List PV} {us:jT} {vs:List Value},kG (lk σ.aB) cs=some (l,us)->(∀ y∈us,y∈u)->RL (gJ g) cs vs->RL (Rep h') l vs:=by
   intro cs
   induction cs with
   | nil =>
    intro l us vs h _ hc;simp[kG] at h;rw[h.1];cases vs with
    | nil=>trivial
    | cons=>exact hc.elim
   | cons c cs ih =>
    intro l us vs h hus hc;cases vs with
    | nil=>exact hc.elim
    | cons v vs =>
     simp only[kG] at h;split at h
     ·rename_i v1 u1 l2 u2 h1 h2;simp at h;rw[<- h.1];rw[<- h.2] at hus;refine⟨?_,ih h2 (λ y hy=>hus y (dL.2 (.inr hy))) hc.2⟩;have hu1:∀ y∈u1,y∈u:=λ y hy=>hus y (dL.2 (.inl hy));have hc1:=hc.1;have low:wo (lk σ.aB) c=some (v1,u1)->Rep h' v1 v:=λ h0=>(Fpre (cs:=[c]) (l:=[v1]) (us:=u1) (vs:=[v]) (by simp[ik,h0]) hu1 ⟨hc1,trivial⟩).1;unfold I5 at h1;split at h1
      ·split at h1
       ·rename_i L off _x ty cells hL;split at h1
        ·rename_i l' us' hl;simp at h1;rw[<- h1.1];rw[<- h1.2] at hu1;obtain⟨C,hC,hr⟩:=S.obj L _ hL;have hm:(L,AO.fbox l')∈u:=hu1 _ (by simp);have hk:h' (g.bk L)=some (.fz (.cells C ty (0,0))):=by
          rw[hin (g.bk L) ⟨L,_,_,hm,hL,rfl⟩,hC];rfl
         simp only[gJ] at hc1;rw[hc1];exact Ld hk (Fpre hl (λ y hy=>hu1 y (dL.2 (.inl hy))) hr) off
        ·cases h1
       ·rename_i L off _x l' hL;simp at h1;rw[<- h1.1];obtain⟨C,ty,fr,hC,hr⟩:=Fbox L l' hL;simp only[gJ] at hc1;rw[hc1];exact Ld hC hr off
       ·cases h1
      ·exact low h1
     ·cases h
  refine⟨hle,F1,F2,F3,?_,?_,λ b hb o ho=>?_⟩
  rotate_left 2
  ·by_cases h : inU b
   ·obtain ⟨L, x, o', h1, h2, h3⟩ := h;exact⟨L,x,o',h1,h2,h3⟩
   ·rw[hout b h,hb] at ho;cases ho
  ·intro L ty cells l us hL hl hus hm;obtain⟨C,hC,hr⟩:=S.obj L _ hL;refine⟨C,?_,FpreB hl hus hr⟩;rw[hin (g.bk L) ⟨L,_,_,hm,hL,rfl⟩,hC];rfl
  ·exact Fbox
 refine⟨h',?_,F0⟩;have hlk:∀ L o,lk (u ++ σ.aB) L=some o->((L,o)∈u)\/((∀ o',(L,o') ∉ u)/\lk σ.aB L=some o):=by
  intro L o h;rw[fC] at h;cases hL:lk u L with
  | some x=>simp only[hL] at h;simp at h;subst h;exact .inl (dY hL)
  | none=>simp only[hL] at h;exact .inr ⟨Le hL,h⟩
 have hfr:∀ L o b,(L,o)∈u->¬ fB (⟨h',g.bk,g.sv,g.iv⟩:Gh) L o b:=by
  intro L o b h;rcases hu _ h with ⟨e,s,b,n,get,_,h2⟩ | ⟨ty,cells,l,us,_,h2,_⟩ | ⟨te,bb,e,s,b,n,ln,get,_,h2⟩ <;> (simp only at h2;rw[h2];exact id)
 have fU:∀ L o,fB (⟨h',g.bk,g.sv,g.iv⟩:Gh) L o=fB g L o:=λ L o=>eU (g:=g) (g':=⟨h',g.bk,g.sv,g.iv⟩) ⟨rfl,rfl,rfl⟩;have hdom:∀ L o,lk σ.aB L=some o->∃ o',lk (u ++ σ.aB) L=some o':=by
  intro L o h;rw[fC];cases lk u L with
  | some x=>exact⟨x,rfl⟩
  | none=>exact⟨o,h⟩
 refine S.change (g':=⟨h',g.bk,g.sv,g.iv⟩) (λ _ _ _=>⟨rfl,rfl,rfl⟩) hle ?_ ?_ (.refl _ B w) ?_ ?_ ?_ hdom ?_
 ·intro b o hb;have hb':h' b=some o:=hb;by_cases h:inU b
  ·rw [hin b h] at hb';obtain⟨x,hx,rfl⟩:=RZ.1 hb';exact⟨x,hx,rfl⟩
  ·rw[hout b h] at hb';exact S.hw b o hb'
 ·intro b o hb;by_cases h:inU b
  ·obtain ⟨L, x, o', hm, hL, hob⟩ := h;exact .inr (S.own L x b hL hob).1
  ·have hb' : h' b = some o := hb;rw[hout b h] at hb';exact .inl hb'
 ·intro L o ho;rcases hlk L o ho with hm | ⟨hn,ho⟩
  ·rcases hu _ hm with ⟨e, s, b, n, get, h1, h2⟩ | ⟨ty, cells, l, us, h1, h2, h3, h4⟩ | ⟨te, bb, e, s, b, n, ln, get, h1, h2⟩
   ·simp only at h1 h2; rw [h2]; rw [h2] at hm;refine⟨F0.vec L e s b n get h1 hm,?_⟩;obtain⟨_,_,xs,hx,_⟩:=S.obj L _ h1;intro x m c hv;show x.off=0;have hv':g.sv L=.slice (some x) m c:=hv;rcases hx.2 with ⟨h5,_⟩ | ⟨k,cap,cur,h5,_⟩
    ·rw[h5] at hv';simp at hv'
    ·rw[h5] at hv';simp at hv';rw[<- hv'.1]
   ·simp only at h1 h2; rw [h2]; rw [h2] at hm;obtain⟨C,hC,hr⟩:=F0.box L ty cells l us h1 h3 h4 hm;exact⟨C,ty,(0,0),hC,hr⟩
   ·simp only at h1 h2; rw [h2]; rw [h2] at hm;refine⟨F0.vv L te bb e s b n ln get h1 hm,?_⟩;obtain⟨_,_,_,hx,_⟩:=S.obj L _ h1;intro x m c hv;show x.off=0;have hv':g.sv L=.slice (some x) m c:=hv;rcases hx.2 with ⟨h5,_⟩ | ⟨k,cap,cur,h5,_⟩
    ·rw[h5] at hv';simp at hv'
    ·rw[h5] at hv';simp at hv';rw[<- hv'.1]
  ·exact iK (S.obj L o ho) ⟨rfl,rfl,rfl⟩ (λ _ _=>⟨rfl,rfl,rfl⟩) hle λ _ _=>rfl
 ·intro L o b ho hob;rcases hlk L o ho with hm | ⟨hn,ho⟩
  ·exact (hfr L o _ hm hob).elim
  ·rw [fU] at hob;obtain⟨h1,h2⟩:=S.own L o b ho hob;refine⟨h1,?_⟩;show h' b=none;rw[hout b ?_];exact h2;rintro⟨M,x,o',hm,hM,fO⟩;have:=S.sep L o b M x ho hM hob fO;subst this;exact hn o' hm
 ·intro L o b L' o' ho ho' hob fO;rcases hlk L o ho with hm | ⟨_,ho2⟩
  ·exact (hfr L o _ hm hob).elim
  rcases hlk L' o' ho' with hm | ⟨_,kD⟩
  ·exact (hfr L' o' _ hm fO).elim
  rw[fU] at hob fO;exact S.sep L o b L' o' ho2 kD hob fO
 ·intro L o ho M hM;rcases hlk L o ho with hm | ⟨_,ho2⟩
  ·rcases hu _ hm with ⟨e,s,b,n,get,_,h2⟩ | ⟨ty,cells,l,us,_,h2,_⟩ | ⟨te,bb,e,s,b,n,ln,get,_,h2⟩ <;> (simp only at h2;rw[h2] at hM;simp[dJ] at hM)
  ·obtain⟨x,hx⟩:=S.clO L o ho2 M hM;exact hdom M x hx
end Go.Pm
namespace Go.Pm
variable [aJ]
open Go.RowKit (Below)

def aH.safe : aH → Prop
  | .no=>False
  | .val _ _ _ _=>True
  | .chk _ s _ _ _=>s.p

def kW (A:aH) (i:Nat) (dst:Option Nat) (σ σ':St):Prop :=
 match A with
 | .no=>False
 | .val fp d u kl=>σ'=σ.upd i dst fp d u kl
 | .chk fp _ d u kl=>σ'=σ.upd i dst fp d u kl

theorem Aa {A : aH} {lg : List (Nat × Bool) → List Nat → List (Nat × Nat × Nat)} {i : Nat} {dst : Option Nat} {K : St → Prop} {σ : St} :
  kH A lg i dst K σ↔A.safe/\∀ σ',kW A i dst σ σ'->K (σ'.relog (match A with | .val fp _ _ kl=>lg fp kl | .chk fp _ _ _ kl=>lg fp kl | .no=>[])):=by
 cases A with
 | no=>simp[kH,aH.safe]
 | val fp d u kl=>simp[kH,aH.safe,kW]
 | chk fp s d u kl=>simp[kH,aH.safe,kW]

def FR (r:Option Nat):Fence:={ fn:=λ _=>True,depth:=none,alive:=false,round:=r }

theorem OW {r:Option Nat}{n:Nat}{P:Program}{f:FuncId}{args:Array Value}{w:World}{R:Ending->World->Prop}(h:Calls P f args w R):CallsIn (FR r) n P f args w R :=
 (callsIn_wide (n:=n)).2 h

section
variable {P:Program}{r:Option Nat}{n:Nat}{o:Oper}{a:Act}{w:World}{R:Act->World->Prop}{Q:Exit->Act->World->Prop}
theorem put_defers (a:Act) (dst:Option Nat) (v:Value):(a.put dst v).defers=a.defers:=by cases dst <;> rfl
theorem lW (hnd:∀ c,o.op ≠ .defer c){v:Value}{w':World}(h:(execOp a.eval o).run P w=.ok (.value v) w') (hR:R (a.put o.dst v) w'):o.wpIn (FR r) n P a w (λ a' w'=>a'.defers=a.defers/\R a' w') Q:=by
 refine⟨λ _ _=>trivial,?_⟩;rw[Oper.semAt_eq _ _ _ hnd,h,Oper.uponIn_value];exact⟨put_defers _ _ _,hR⟩
theorem Dl (hnd:∀ c,o.op ≠ .defer c){w':World}(h:(execOp a.eval o).run P w=.ok .skip w') (hR:R (a.put o.dst undef) w'):o.wpIn (FR r) n P a w (λ a' w'=>a'.defers=a.defers/\R a' w') Q:=by
 refine⟨λ _ _=>trivial,?_⟩;rw[Oper.semAt_eq _ _ _ hnd,h,Oper.uponIn_skip];exact⟨put_defers _ _ _,hR⟩
theorem nM (hnd : ∀ c, o.op ≠ .defer c) {f : FuncId} {args : Array Value} {w' : World} (h : (execOp a.eval o).run P w = .ok (.enter f args) w')
    (hR:Calls P f args w' λ e w''=>∃ v,e=.returned v/\R (a.put o.dst v) w''):o.wpIn (FR r) n P a w (λ a' w'=>a'.defers=a.defers/\R a' w') Q:=by
  refine⟨λ _ _=>trivial,?_⟩;rw[Oper.semAt_eq _ _ _ hnd,h,Oper.uponIn_enter];refine⟨λ h=>by simp[FR] at h,(OW hR).mono ?_⟩;rintro e w'' ⟨v,rfl,hv⟩;exact⟨put_defers _ _ _,hv⟩
end

section
variable {P:Program}{nt B:Nat}{w0:World}{h0:Fz}{g:Gh}{σ:St}{a:Act}{w:World}

theorem Ym {v:Value} : oJ g (Jr v) v:=by
 unfold Jr;split
 ·split
  ·rename_i l hl;exact⟨_,rfl,iY _ _ hl⟩
  ·trivial
 ·split
  ·rename_i x hx;exact Et hx
  ·trivial

theorem bU.ev (S:bU P nt B w0 h0 g σ a w) (x:Operand):oJ g (eH σ.env x) (a.eval x):=by
 cases x with
 | tmp t =>
  simp only[eH];split
  ·rename_i d hd;exact S.env t d hd
  ·trivial
 | const v=>exact Ym
 | global k=>trivial
 | func f=>exact Rep.fn f [] [] [] [] rfl rfl (λ j x v h=>by simp at h) (λ j x v h=>by simp at h)

theorem rM : ∀ {l : List Value} {cs : List Cl}, gZ l = some cs → cs.flatMap bi = []
  | [],cs,h=>by simp[gZ] at h;rw[h];rfl
  | v :: r,cs,h=>by
    simp only[gZ] at h;split at h
    · rename_i x l hx hl;simp only[bJ] at h;rw[<- h];simp[bi,rM hl]
    · cases h

theorem Yn {v:Value} : bY (Jr v)=[]:=by
 unfold Jr;split
 ·split
  ·rename_i l hl;exact rM hl
  ·rfl
 ·split
  ·rfl
  ·rfl

theorem bU.evLab (S:bU P nt B w0 h0 g σ a w) (x:Operand):∀ L∈bY (eH σ.env x),∃ o,lk σ.aB L=some o:=by
 cases x with
 | tmp t =>
  simp only[eH];split
  ·rename_i d hd;exact S.clE t d hd
  ·intro L hL;simp[bY,cZ,bi] at hL
 | const v=>intro L hL;rw[show eH σ.env (.const v)=Jr v from rfl,Yn] at hL;simp at hL
 | global k=>intro L hL;simp[eH,DV.junk,bY,cZ,bi] at hL
 | func f=>intro L hL;simp[eH,bY,cZ,bi] at hL

theorem dD {r : Option Nat} {n i : Nat} {o : Oper} {Q : Exit → Act → World → Prop} (S : bU P nt B w0 h0 g σ a w) (hd : dE nt o.dst = true) (hnd : ∀ c, o.op ≠ .defer c)
    {d:DV} {v:Value} {fp:List (Nat×Bool)} {A:aH} (hA:kW A i o.dst σ (σ.upd i o.dst fp d [] []))
    (h:(execOp a.eval o).run P w=.ok (.value v) w) (hv:oJ g d v) (hl:∀ L∈bY d,∃ o,lk σ.aB L=some o) :
    o.wpIn (FR r) n P a w (λ a' w'=>a'.defers=a.defers/\∃ g' σ',kW A i o.dst σ σ'/\bU P nt B w0 h0 g' σ' a' w') Q :=
  lW hnd h ⟨g,_,hA,by rw[eu];exact S.put hd hv hl _⟩

theorem iV (v:PV):∀ L∈bY (.p v),∃ o,lk σ.aB L=some o:=λ L hL=>by simp[bY,cZ,bi] at hL

theorem Ey {t : TypeId} {ag : Bool} {m b off : Nat} {C : Array Value} {ty : TypeId} {fr : Nat × Nat} {cells : List Cl} {d : D1} (hg : ig P t = some ag) (hs : mg P t = some m)
    (hb:w.heap[b]? = some (.cells C ty fr)) (o:Nat) (hc:∀ (j:Nat) (x:Cl),cells[j]? = some x->∃ v,C[o+j]? = some v/\gJ g x v) (hr:kS ag m cells off=some d) :
    ∃ v,(loadVar t ⟨b,o+off,none⟩).run P w=.ok v w/\wI g d v:=by
  cases ag with
  | true =>
    simp only[kS] at hr;split at hr
    · rename_i hlen;have hlen:=jb hlen;simp only[bJ] at hr;subst hr;let l:=(cells.drop off).take m;have hll:l.length=m:=hlen;have key:∀ (j:Nat) (x:Cl),l[j]? = some x->∃ v,C[o+off+j]? = some v/\gJ g x v:=by
        intro j x hj;have hj':cells[off+j]? = some x:=by
          have hjm:j < m:=by have:=(wW.1 hj).1;omega
          simp only[l,C9,if_pos hjm,dqI] at hj;exact hj
        obtain⟨v,hv,hx⟩:=hc (off+j) x hj';exact⟨v,by rw[Nat.add_assoc];exact hv,hx⟩
      let vs:=(List.range m).map λ j=>C.getD (o+off+j) undef;have hvl:vs.length=m:=by simp[vs]
      have hvj:∀ j,j < m->vs[j]? = some (C.getD (o+off+j) undef):=λ j hj=>by simp[vs,hj]
      refine⟨.agg vs.toArray,CS hg hs hb vs hvl ?_,vs,rfl,?_⟩
      · intro j v hj;have hjm:j < m:=by have:=(wW.1 hj).1;omega
        rw[hvj j hjm] at hj;simp only[bJ] at hj;obtain⟨u,hu,_⟩:=key j (l[j]'(by omega)) (by simp[hll,hjm]);rw[<- hj,hu,rE,hu];rfl
      · refine RL.of_get (by rw [hvl]; exact hll) ?_;intro j x v hx hv;obtain⟨u,hu,hxu⟩:=key j x hx;have hjm:j < m:=by have:=(wW.1 hv).1;omega
        rw[hvj j hjm,rE,hu] at hv;simp at hv;rw[<- hv];exact hxu
    · cases hr
  | false =>
    simp only[kS] at hr;split at hr
    · rename_i x hx;simp only[bJ] at hr;subst hr;obtain⟨v,hv,hxv⟩:=hc off x hx;exact⟨v,tV hg hb v hv,hxv⟩
    · cases hr

theorem Ez {ag:Bool}{m off:Nat}{cells:List Cl}{d:D1}(hr:kS ag m cells off=some d):∀ L∈cZ d,L∈cells.flatMap bi:=by
 cases ag with
 | true =>
  simp only[kS] at hr;split at hr
  ·simp only [bJ] at hr; subst hr;intro L hL;simp only[cZ,jE] at hL ⊢;obtain⟨c,hc,hL⟩:=hL;exact⟨c,List.mem_of_mem_drop (List.mem_of_mem_take hc),hL⟩
  ·cases hr
 | false =>
  simp only[kS] at hr;split at hr
  ·rename_i x hx;simp only[bJ] at hr;subst hr;intro L hL;simp only[cZ] at hL;exact jE.2 ⟨x,DW hx,hL⟩
  ·cases hr

theorem kX (cells:List PV):(cells.map Cl.p).flatMap bi=[]:=by
 induction cells with
 | nil=>rfl
 | cons c r ih=>simp[bi,ih]

theorem Lh {h:Fz}{cells:List PV}{off:Nat}{v:Value}(r:Rep h (.fp cells off) v):∃ b o C ty fr,v=.pointer (some ⟨b,o+off,none⟩)/\h b=some (.fz (.cells C ty fr)) /\
  ∀ (j:Nat) (x:PV),cells[j]? = some x->∃ v,C[o+j]? = some v/\Rep h x v:=by
 cases r with
 | fp _ _ b o C ty fr vs hb hc hr=>exact⟨b,o,C,ty,fr,rfl,hb,λ j x hj=>⟨vs j,hc j x hj,hr j x hj⟩⟩

theorem qG {B L e s b len : Nat} {get : Nat → List PV} (hv : yc P g w B L e s b len get) {i : Nat} (hi : i < len) :
  ∃ k C,(g.sv L).ownBlock=some k/\(∃ cap,g.sv L=.slice (some ⟨k,0,none⟩) len cap)/\w.heap[k]? = some (.cells C e (0,0))/\i * s+s<=C.size/\(get i).length=s /\
   ∀ (j:Nat) (x:PV),(get i)[j]? = some x->∃ v,C[i * s+j]? = some v/\Rep g.h x v:=by
 obtain⟨hs,_,xs,hx,hr⟩:=hv;rcases hx.2 with ⟨_,rfl⟩ | ⟨k,cap,cur,h1,hB,hg,hn,hcap,hsz,htk⟩
 ·exact absurd hi (by omega)
 ·have hle : i * s + s ≤ len * s := by have := KP s (Nat.succ_le_of_lt hi); rw [Oj] at this; exact this
  have hle2:len * s<=cap * s:=KP s hn;have hlen:(get i).length=s:=by
   rw[(hr i hi).length];simp only[List.length_take,List.length_drop,hx.1];omega
  refine⟨k,cur,by rw[h1];rfl,⟨cap,h1⟩,hg,by omega,hlen,?_⟩;intro j x hj;obtain⟨v,hv,hxv⟩:=(hr i hi).get j x hj;refine⟨v,?_,hxv⟩;have hjs:j < s:=by have:=(wW.1 hj).1;rw[hlen] at this;exact this
  rw[C9,if_pos hjs,dqI,<- htk,C9] at hv;split at hv
  ·simpa using hv
  ·cases hv

theorem OX {B L te bb e s b n : Nat} {ln : Nat → Nat} {get : Nat → Nat → List PV} (hv : vvR P g w B L te bb e s b n ln get) {i : Nat} (hi : i < n) :
  ∃ k C cap,g.sv L=.slice (some ⟨k,0,none⟩) n cap/\w.heap[k]? = some (.cells C te (0,0))/\C[i]? = some (g.iv L i)/\(g.iv L i).oneCell'=true:=by
 obtain⟨_,_,_,h4,h5,_⟩:=hv;rcases h4.2 with ⟨h1,h2⟩ | ⟨k,cap,cur,h1,hB,hg,hn,hcap,hsz,htk⟩
 ·omega
 ·refine ⟨k, cur, cap, h1, hg, ?_, (h5 i hi).1⟩;have:(cur.toList.take (n * 1))[i]? = ((List.range n).map (g.iv L))[i]?:=by rw[htk]
  rw[C9,if_pos (by omega)] at this;simpa [hi] using this
theorem OY {B L te bb e s b n o : Nat} {ln : Nat → Nat} {get : Nat → Nat → List PV} (hv : vtR P g w B L te bb e s b n ln get o) {i : Nat} (hi : i < n) :
  ∃ k C cap,g.sv L=.slice (some ⟨k,0,none⟩) n cap/\w.heap[k]? = some (.cells C te (0,0))/\C[i]? = some (g.iv L i):=by
 obtain⟨_,_,_,h4,_⟩:=hv;rcases h4.2 with ⟨h1,h2⟩ | ⟨k,cap,cur,h1,hB,hg,hn,hcap,hsz,htk⟩
 ·omega
 ·refine ⟨k, cur, cap, h1, hg, ?_⟩;have:(cur.toList.take (n * 1))[i]? = ((List.range n).map (g.iv L))[i]?:=by rw[htk]
  rw[C9,if_pos (by omega)] at this;simpa [hi] using this
theorem Lj {h : Fz} {len s : Nat} {get : Nat → List PV} {v : Value} (r : Rep h (.sl len s get) v) {i : Nat} (hi : i < len) :
  ∃ b o cap C ty fr,v=.slice (some ⟨b,o,none⟩) len cap/\h b=some (.fz (.cells C ty fr))/\(get i).length=s /\
   ∀ (j:Nat) (x:PV),(get i)[j]? = some x->∃ v,C[o+i * s+j]? = some v/\Rep h x v:=by
 cases r with
 | sl0=>exact absurd hi (by omega)
 | sle=>exact absurd hi (by omega)
 | sl _ _ _ _ b o cap C ty fr vs hb hcap hlen hc hr=>exact⟨b,o,cap,C,ty,fr,rfl,hb,hlen i hi,λ j x hj=>⟨vs i j,hc i j x hi hj,hr i j x hi hj⟩⟩

theorem Dn {h : Fz} {b o : Nat} {C : Array Value} {ty : TypeId} {fr : Nat × Nat} {l : List PV} (hb : h b = some (.fz (.cells C ty fr)))
    (hr:∀ (j:Nat) (x:PV),l[j]? = some x->∃ v,C[o+j]? = some v/\Rep h x v) (off:Nat):Rep h (.fp l off) (.pointer (some ⟨b,o+off,none⟩)) :=
  Rep.fp l off b o C ty fr (fun j => C.getD (o + j) undef) hb
    (λ j x hj=>by obtain⟨v,hv,_⟩:=hr j x hj;rw[rE,hv];rfl)
    (λ j x hj=>by obtain⟨v,hv,hx⟩:=hr j x hj;simpa [rE,hv] using hx)
end
end Go.Pm
namespace Go.Pm
variable [aJ]
open Go.RowKit (Below)

section
variable {P:Program}{Γ:aX}{nt B:Nat}{w0:World}{h0:Fz}{g:Gh}{σ:St}{a:Act}{w:World}{r:Option Nat}{n i:Nat}{Q:Exit->Act->World->Prop}

def gV (P:Program) (nt B:Nat) (w0:World) (h0:Fz) (r:Option Nat) (n i:Nat) (o:Oper) (A:aH) (σ:St) (a:Act) (w:World) (Q:Exit->Act->World->Prop):Prop :=
 o.wpIn (FR r) n P a w (λ a' w'=>a'.defers=a.defers/\∃ g' σ',kW A i o.dst σ σ'/\bU P nt B w0 h0 g' σ' a' w') Q

theorem gy {x:Operand}{c:Cl}(S:bU P nt B w0 h0 g σ a w) (h:eH σ.env x=.one (.c c)):gJ g c (a.eval x)/\∀ L∈bi c,∃ o,lk σ.aB L=some o:=by
 have h1:=S.ev x;have h2:=S.evLab x;rw[h] at h1 h2;exact⟨h1,h2⟩

theorem iq {x:Operand}{v:PV}(S:bU P nt B w0 h0 g σ a w) (h:eH σ.env x=.one (.c (.p v))):Rep g.h v (a.eval x):=(gy S h).1

theorem iQ {x:Operand}{k:IntKind}{m:Int}(S:bU P nt B w0 h0 g σ a w) (h:eH σ.env x=.one (.c (.p (.int k m)))):a.eval x=.int k m:=by
 have:=iq S h;generalize a.eval x=v at this;cases this;rfl

theorem qH {x:Operand}{m:Bool}(S:bU P nt B w0 h0 g σ a w) (h:eH σ.env x=.one (.c (.p (.bool m)))):a.eval x=.bool m:=by
 have:=iq S h;generalize a.eval x=v at this;cases this;rfl

theorem OZ {o : Oper} {x : Operand} (S : bU P nt B w0 h0 g σ a w) (hd : dE nt o.dst = true) (hop : o.op = .move x ∨ o.op = .assign x) :
  gV P nt B w0 h0 r n i o (.val [] (eH σ.env x) [] []) σ a w Q:=by
 refine dD S hd (by rcases hop with h | h <;> simp[h]) (d:=eH σ.env x) (v:=a.eval x) (fp:=[]) rfl ?_ (S.ev x) (S.evLab x);rcases hop with h | h <;> simp[execOp,h]

theorem O0 {b:Bool}{x y:DV}{v u:Value}(h1:oJ g x v) (h2:oJ g y u):oJ g (wH b x y) (if b=true then v else u):=by
 unfold wH;split
 ·rename_i p q;have e1:v=.bool p:=by cases h1;rfl
  have e2:u=.bool q:=by cases h2;rfl
  subst e1 e2;cases b <;> exact Rep.bool _
 ·cases b
  ·simpa using h2
  ·simpa using h1

theorem Yo {b:Bool}{x y:DV} : ∀ L∈bY (wH b x y),L∈bY x\/L∈bY y:=by
 unfold wH;split
 ·intro L hL;simp[bY,cZ,bi] at hL
 ·intro L hL;cases b
  ·exact .inr hL
  ·exact .inl hL

theorem zbP {o : Oper} {c x y : Operand} (S : bU P nt B w0 h0 g σ a w) (hd : dE nt o.dst = true) (hop : o.op = .pick c x y) {t : Bool} (hc : eH σ.env c = .one (.c (.p (.bool t)))) :
  gV P nt B w0 h0 r n i o (.val [] (wH t (eH σ.env x) (eH σ.env y)) [] []) σ a w Q:=by
 have hb:=qH S hc;refine dD S hd (by simp[hop]) (d:=wH t (eH σ.env x) (eH σ.env y)) (v:=if t=true then a.eval x else a.eval y) (fp:=[]) rfl ?_ (O0 (S.ev x) (S.ev y)) ?_
 ·simp[execOp,hop, asBool,hb]
 ·intro L hL;rcases Yo L hL with h | h
  ·exact S.evLab x L h
  ·exact S.evLab y L h

theorem EC (e:TypeId) (v:Value):(newVar e v).run P w=.ok ⟨w.heap.size,0,none⟩ (w.alloc (.cells v.cells e)):=by
 simp[newVar,newRow]

theorem VW {o : Oper} {A : aH} {e : Nat} {cs : List Cl} {v : Value} (S : bU P nt B w0 h0 g σ a w) (hd : dE nt o.dst = true) (hnd : ∀ c, o.op ≠ .defer c)
    (hA:zU (lk σ.aB) o.dst (.box e cs) (λ t=>.cl (.ptr t 0))=A) (hs:A.safe)
    (hrun:(execOp a.eval o).run P w=.ok (.value (.pointer (some ⟨w.heap.size,0,none⟩))) (w.alloc (.cells v.cells e)))
    (hv:RL (gJ g) cs v.cells.toList) (hl:∀ L∈cs.flatMap bi,∃ o,lk σ.aB L=some o):gV P nt B w0 h0 r n i o A σ a w Q:=by
  unfold zU at hA;split at hA
  · rename_i t ht;split at hA
    · rename_i hlk;subst hA;have S':=S.newBox (ty:=e) hlk hv hl;refine lW hnd hrun ⟨g.setBk t w.heap.size,_,rfl,?_⟩;rw[eu];refine S'.put (σ:={ σ with aB:=(t,AO.box e cs) :: σ.aB }) hd (d:=.cl (.ptr t 0)) ?_ ?_ _
      · simp[oJ,wI,gJ,Gh.setBk]
      · intro L hL;simp[bY,cZ,bi] at hL;subst hL;exact⟨_,by rw[aV,if_pos rfl]⟩
    · subst hA;exact hs.elim
  · subst hA;exact hs.elim

theorem O1 {l:List Value}{cs:List Cl}(h:gZ l=some cs) (L:Nat) (hL:L∈cs.flatMap bi):False:=by
 rw[rM h] at hL;simp at hL

theorem Yp {o : Oper} {A : aH} {e : Nat} {z : List Cl} (S : bU P nt B w0 h0 g σ a w) (hd : dE nt o.dst = true) (hop : o.op = .alloc e) (hz : fA P e = some z)
    (hA:zU (lk σ.aB) o.dst (.box e z) (λ t=>.cl (.ptr t 0))=A) (hs:A.safe):gV P nt B w0 h0 r n i o A σ a w Q:=by
  obtain⟨ii,v,hi,hzv,hl,_⟩:=jB hz;refine VW S hd (by simp[hop]) hA hs (v:=v) ?_ (iY _ _ hl) (λ L hL=>(O1 hl L hL).elim);simp only[execOp,hop,Instr.alloc,fD,jh hi hzv,fM,EC,iT]

theorem zgT {o : Oper} {A : aH} {e : Nat} {x : Operand} {d : D1} (S : bU P nt B w0 h0 g σ a w) (hd : dE nt o.dst = true) (hop : o.op = .box e x) (hx : eH σ.env x = .one d)
    (hok:d.cells.all xQ=true) (hA:zU (lk σ.aB) o.dst (.box e d.cells) (λ t=>.cl (.ptr t 0))=A) (hs:A.safe):gV P nt B w0 h0 r n i o A σ a w Q:=by
  have h1:=S.ev x;have h2:=S.evLab x;rw[hx] at h1 h2;refine VW S hd (by simp[hop]) hA hs (v:=a.eval x) ?_ (qE h1 hok) ?_
  · simp only[execOp,hop,Instr.box,fD,EC,fM,iT]
  · intro L hL;refine h2 L ?_;cases d with
    | c y=>simpa [D1.cells,bY,cZ] using hL
    | agg cs=>simpa [D1.cells,bY,cZ] using hL

theorem Yq {o : Oper} {t : Nat} {parts : Array (Nat × Operand)} {z l : List Cl} (S : bU P nt B w0 h0 g σ a w) (hd : dE nt o.dst = true) (hop : o.op = .build t parts)
    (hf:ul P t=true) (hz:fA P t=some z) (hb:fZ P t (eH σ.env) z parts.toList=some l) (hl:∀ L∈l.flatMap bi,∃ o,lk σ.aB L=some o) :
    gV P nt B w0 h0 r n i o (.val [] (.one (.agg l)) [] []) σ a w Q:=by
  obtain⟨v,hrun,hv⟩:=run_build (P:=P) (w:=w) (g:=g) (ρ:=a.eval) (ev:=eH σ.env) (λ x=>S.ev x) hf hz hb;refine dD S hd (by simp[hop]) (d:=.one (.agg l)) (v:=v) (fp:=[]) rfl ?_ hv hl;simp only[execOp,hop,fD,hrun,fM,iT]

theorem VX {cs l:List Cl}(off:Nat):∀ L∈(spl cs off l).flatMap bi,L∈cs.flatMap bi\/L∈l.flatMap bi:=by
 induction l generalizing cs off with
 | nil=>intro L hL;exact .inl hL
 | cons x l ih =>
  intro L hL;rw[spl] at hL;rcases ih (off+1) L hL with h | h
  ·simp only [jE] at h;obtain⟨c,hc,hL2⟩:=h;rcases List.mem_or_eq_of_mem_set hc with h | h
   ·exact .inl (jE.2 ⟨c,h,hL2⟩)
   ·subst h;exact .inr (by simp only[lJ,dL];exact .inl hL2)
  ·exact .inr (by simp only[lJ,dL];exact .inr h)

theorem ED {ev:Operand->DV}{t:TypeId} : ∀ (parts:List (Nat×Operand)) (z l:List Cl),fZ P t ev z parts=some l ->
  ∀ L∈l.flatMap bi,L∈z.flatMap bi\/∃ x∈parts,L∈bY (ev x.2)
 | [],z,l,h=>by simp[fZ] at h;subst h;exact λ L hL=>.inl hL
 | (i,o) :: r,z,l,h=>by
  simp only[fZ] at h;cases he:ev o with
  | tup ds=>simp[he] at h
  | one d =>
   simp only[he] at h;have step:∀ off,fZ P t ev (spl z off d.cells) r=some l->∀ L∈l.flatMap bi,L∈z.flatMap bi\/∃ x∈(i,o) :: r,L∈bY (ev x.2):=by
    intro off hb L hL;rcases ED r _ l hb L hL with h | ⟨x,hx,hL⟩
    ·rcases VX off L h with h | h
     ·exact .inl h
     ·refine .inr ⟨(i, o), kR, ?_⟩;simp only[he,bY];cases d with
      | c y=>simpa [D1.cells,cZ] using h
      | agg cs=>simpa [D1.cells,cZ] using h
    ·exact .inr ⟨x,je _ hx,hL⟩
   split at h
   ·split at h
    ·split at h
     ·split at h
      ·exact step _ h
      ·cases h
     ·cases h
    ·cases h
   ·split at h
    ·split at h
     ·exact step _ h
     ·cases h
    ·cases h
   ·cases h

theorem JG {t:TypeId}{z:List Cl}(h:fA P t=some z):z.flatMap bi=[]:=by
 obtain⟨_,v,_,_,hl,_⟩:=jB h;exact rM hl

theorem uD {o : Oper} {t : TypeId} {x : Operand} {A : aH} {fp : List (Nat × Bool)} {ag : Bool} {m b off o' : Nat} {C : Array Value} {ty : TypeId} {fr : Nat × Nat} {cells : List Cl} {d : D1}
    (S:bU P nt B w0 h0 g σ a w) (hd:dE nt o.dst=true) (hop:o.op=.load t x) (hA:kW A i o.dst σ (σ.upd i o.dst fp (.one d) [] [])) (hg:ig P t=some ag) (hs:mg P t=some m)
    (hx:a.eval x=.pointer (some ⟨b,o'+off,none⟩)) (hb:w.heap[b]? = some (.cells C ty fr))
    (hc:∀ (j:Nat) (x:Cl),cells[j]? = some x->∃ v,C[o'+j]? = some v/\gJ g x v) (hr:kS ag m cells off=some d)
    (hl:∀ L∈cells.flatMap bi,∃ o,lk σ.aB L=some o):gV P nt B w0 h0 r n i o A σ a w Q:=by
  obtain⟨v,hrun,hv⟩:=Ey hg hs hb o' hc hr;refine dD S hd (by simp[hop]) (d:=.one d) (v:=v) (fp:=fp) hA ?_ hv (λ L hL=>hl L (Ez hr L hL));simp only[execOp,hop,fD,Instr.loadAt,hx,Instr.sureAddr,iT,fM,hrun]

theorem zbQ {o : Oper} {t : TypeId} {x : Operand} {A : aH} (S : bU P nt B w0 h0 g σ a w) (hd : dE nt o.dst = true) (hop : o.op = .load t x)
    (hA:act P Γ o (eH σ.env) (lk σ.aB)=A) (hs:A.safe):gV P nt B w0 h0 r n i o A σ a w Q:=by
  simp only[act,aLd,hop] at hA;split at hA
  · rename_i ag m hg hsz;split at hA
    · rename_i L off hx;have hx':=(gy S hx).1;simp only[gJ] at hx';split at hA
      · rename_i ty cells hL;obtain⟨C,hC,hr⟩:=S.obj L _ hL;split at hA
        · rename_i d hrd;subst hA;refine uD (o':=0) S hd hop rfl hg hsz (by rw[hx',Nat.zero_add]) hC (λ j y hj=>?_) hrd (S.clO L _ hL);obtain⟨v,hv,hyv⟩:=hr.get j y hj;exact⟨v,by simpa using hv,hyv⟩
        · subst hA;exact hs.elim
      · rename_i cells hL;obtain⟨C,ty,fr,hC,hr⟩:=S.obj L _ hL;split at hA
        · rename_i d hrd;subst hA;refine uD (o':=0) S hd hop rfl hg hsz (by rw[hx',Nat.zero_add]) (S.hw.fz hC) (λ j y hj=>?_) hrd (by rw[kX];intro L hL;simp at hL);simp only[VJ] at hj;obtain⟨p,hp,rfl⟩:=RZ.1 hj;obtain⟨v,hv,hyv⟩:=hr.get j p hp;exact⟨v,by simpa using hv,hyv⟩
        · subst hA;exact hs.elim
      · subst hA;exact hs.elim
    · rename_i cells off hx;obtain⟨b,o',C,ty,fr,hv,hb,hc⟩:=Lh (iq S hx);split at hA
      · rename_i d hrd;subst hA;refine uD S hd hop rfl hg hsz hv (S.hw.fz hb) (λ j y hj=>?_) hrd (by rw[kX];intro L hL;simp at hL);simp only[VJ] at hj;obtain⟨p,hp,rfl⟩:=RZ.1 hj;exact hc j p hp
      · subst hA;exact hs.elim
    · rename_i L s ii k hx;obtain⟨b,hb,hx'⟩:=(gy S hx).1;split at hA
      · rename_i e s' by' len get hL;split at hA
        · rename_i d hss hrd;subst hA;have hlt:ii < len:=hs;have hss:=jb hss;subst hss;obtain⟨b',C,hob,_,hC,_,hlen,hel⟩:=qG (S.obj L _ hL) hlt;rw[hb] at hob;simp only[bJ] at hob;subst hob;refine uD (o':=ii * s) S hd hop (A:=.chk _ _ _ _ _) rfl hg hsz hx' hC (λ j y hj=>?_) hrd (by rw[kX];intro L hL;simp at hL);simp only[VJ] at hj;obtain⟨p,hp,rfl⟩:=RZ.1 hj;exact hel j p hp
        · subst hA;exact hs.elim
      · rename_i s' len get hL;split at hA
        · rename_i d hss hrd;subst hA;have hlt:ii < len:=hs;have hss:=jb hss;subst hss;obtain⟨b',o',cap,C,ty,fr,hsv,hC,hlen,hel⟩:=Lj (S.obj L _ hL).1 hlt;have h00:o'=0:=(S.obj L _ hL).2 _ _ _ hsv;rw[hsv] at hb;simp only[Value.ownBlock,bJ] at hb;subst hb;subst h00;refine uD (o':=ii * s) S hd hop (A:=.chk _ _ _ _ _) rfl hg hsz hx' (S.hw.fz hC) (λ j y hj=>?_) hrd (by rw[kX];intro L hL;simp at hL);simp only[VJ] at hj;obtain⟨p,hp,rfl⟩:=RZ.1 hj;have:=hel j p hp;rwa[Nat.zero_add] at this
        · subst hA;exact hs.elim
      · split at hA
        · rename_i hss;simp only[fE] at hss;have hs1:=jb hss.1;have hk0:=jb hss.2;subst hs1 hk0;split at hA
          · rename_i dst hdst;split at hA
            · rename_i te bb e s' b2 len ln get hfresh hL;subst hA;have hlt:ii < len:=hs;obtain⟨b',C,cap,hsv,hC,hcell,hone⟩:=OX (S.obj L _ hL) hlt;rw[hsv] at hb;simp only[Value.ownBlock,bJ] at hb;subst hb;have hne:L ≠ dst:=by rintro rfl;rw[hfresh] at hL;cases hL
              obtain⟨hpos,hi1,hi2,hrow,hel,hsep⟩:=S.obj L _ hL;obtain⟨r1,_,xs,r3,r4⟩:=hel ii hlt
              have S1 := S.write (o' := .vt te bb e s' b2 len ln get ii) hL (fun k hk => hk.imp id fun ⟨i, h1, _, h2⟩ => ⟨i, h1, h2⟩) (.refl _ _) (fun _ _ => rfl)
                ⟨hpos,hi1,hi2,hrow,r1,(λ k (hk:g.iv L ii=.map (some k))=>by rcases r3.2 with ⟨h1,_⟩ | ⟨_,_,_,h1,_⟩ <;> rw[h1] at hk <;> cases hk),λ i hi _=>hel i hi,λ i k hi _ hk=>⟨(hsep i k hi hk).1,λ j hj _ hk'=>(hsep i k hi hk).2 j hj hk'⟩⟩ (λ M hM=>by simp[dJ] at hM)
              have S2:=S1.adopt (t:=dst) (e:=e) (s:=s') (b:=b2) (n:=ln ii) (get:=get ii) (v:=g.iv L ii) (by rw[aV,if_neg hne];exact hfresh) (λ k hk=>by
                have hok:=S.own L _ k hL (.inr ⟨ii,hlt,hk⟩);refine⟨hok.1,hok.2,λ X o ho hX=>?_⟩;rw[aV] at ho;split at ho
                · rename_i e1;simp only[bJ] at ho;subst ho e1;rcases hX with hX | ⟨i,h1,h2,h3⟩
                  · exact (hsep ii k hlt hk).1 hX
                  · exact h2 ((hsep ii k hlt hk).2 i h1 h3).symm
                · rename_i e1;exact e1 (S.sep L _ k X o hL ho (.inr ⟨ii,hlt,hk⟩) hX))
                ⟨⟨λ k l=>hpos.1 ii k ii l,hpos.2⟩,hi2,xs,by simpa [Gh.setSv] using r3,r4⟩
              refine lW (by simp[hop]) (v:=g.iv L ii) (w':=w) ?_ ⟨g.setSv dst (g.iv L ii),_,rfl,?_⟩
              · have := tV (P := P) (o := ii * 1 + 0) hg hC (g.iv L ii) (by simpa using hcell);simp only[execOp,hop,fD,Instr.loadAt,hx',Instr.sureAddr,iT,fM,this]
              · rw [eu];exact S2.put hd (d:=.cl (.vec dst)) ⟨by simp[Gh.setSv],r1⟩ (λ M hM=>by simp[bY,cZ,bi] at hM;subst hM;exact⟨_,by rw[aV,if_pos rfl]⟩) _
            · subst hA;exact hs.elim
          · subst hA;exact hs.elim
        · subst hA;exact hs.elim
      · subst hA;exact hs.elim
    · subst hA;exact hs.elim
  · subst hA;exact hs.elim
end
end Go.Pm
namespace Go.Pm
variable [aJ]
open Go.RowKit (Below)
open Go.MapKept (IsKey findNow_spec run_checkKey)

section
variable {P:Program}{Γ:aX}{nt B:Nat}{w0:World}{h0:Fz}{g:Gh}{σ:St}{a:Act}{w:World}{r:Option Nat}{n i:Nat}{Q:Exit->Act->World->Prop}

theorem yh {t : TypeId} {ag : Bool} {m off : Nat} {cells : List Cl} {vs : List Value} {d : D1} (hg : ig P t = some ag) (hs : mg P t = some m) (hr : kS ag m cells off = some d) (hc : RL (gJ g) cells vs) :
  ∃ v,(part t vs.toArray off).run P w=.ok v w/\wI g d v:=by
 cases ag with
 | true =>
  simp only[kS] at hr;split at hr
  ·simp only [bJ] at hr; subst hr;refine⟨.agg (vs.toArray.extract off (off+m)),?_,(vs.drop off).take m,?_,(hc.drop off).take m⟩
   ·simp only[part,fD,kV hg,fM,if_true,run_sizeOf hs,iT]
   ·simp[List.extract_toArray,List.extract_eq_take_drop]
  ·cases hr
 | false =>
  simp only[kS] at hr;split at hr
  ·rename_i x hx;simp only[bJ] at hr;subst hr;obtain⟨v,hv,hxv⟩:=hc.get off x hx;refine⟨v,?_,hxv⟩;simp only[part,fD,kV hg,fM,Bool.false_eq_true,if_false];rw[show vs.toArray[off]? = some v by simpa using hv];simp
  ·cases hr

theorem VY : ∀ (d : Nat) (t : TypeId) (x y : D1) (r : Bool), eqT P d t x y = some r → ∀ (e : Nat) (v u : Value), wI g x v → wI g y u → (Op.equalIn (d + e) t v u).run P w = .ok r w
  | 0,t,x,y,r,h=>by simp[eqT] at h
  | d+1,t,x,y,r,h=>by
    intro e v u hv hu;have he:d+1+e=(d+e)+1:=by omega
    rw[he];simp only[eqT] at h;split at h
    · rename_i hut;split at h
      · simp only [bJ] at h; subst h;cases hv;cases hu;exact run_equalIn_bool' w _ _ _ _ hut
      · cases h
    · rename_i q hut;split at h
      · split at h
        · rename_i hk;simp only[bJ] at h;subst h;subst hk;cases hv;cases hu;exact run_equalIn_int w _ _ _ _ _ _ hut
        · cases h
      · cases h
    · rename_i fs hut;split at h
      · rename_i xs ys hst;obtain⟨vs,rfl,hvs⟩:=hv;obtain⟨us,rfl,hus⟩:=hu;have hf:P.fieldsOf t=fs:=by simp[Program.fieldsOf,hut]
        rw[run_equalIn_struct w (d+e) t _ _ (by rw[hf];exact hut) hst,hf];have key:∀ (l:List Field) (r:Bool),l.foldr (λ f acc =>
            match acc, f.name != "_", ig P f.type, mg P f.type with
            | some r,true,some ag,some n=>match kS ag n xs f.offset,kS ag n ys f.offset with
              | some a,some b=>match eqT P d f.type a b with
                | some e=>some (match e with | true=>r | false=>false)
                | none=>none
              | _,_=>none
            | _,_,_,_=>none) (some true)=some r->(Op.eqFields (d+e) vs.toArray us.toArray l).run P w=.ok r w:=by
          intro l
          induction l with
          | nil=>intro r h;simp only[List.foldr_nil,bJ] at h;subst h;simp[Op.eqFields]
          | cons f l ih =>
            intro r h;rw[List.foldr_cons] at h;split at h
            · rename_i r' ag m hacc hname hag hsz;split at h
              · rename_i a' b' ha' hb';split at h
                · rename_i e' he';simp only[bJ] at h;obtain⟨va,hva,hra⟩:=yh (w:=w) hag hsz ha' hvs;obtain⟨vb,hvb,hrb⟩:=yh (w:=w) hag hsz hb' hus;have hq:=VY d f.type a' b' e' he' e va vb hra hrb
                  have hn : f.name ≠ "_" := by simpa using hname
                  simp only[Op.eqFields,if_pos hn,fD,hva,hvb,hq,fM];cases e' with
                  | true=>simp only at h;subst h;simpa using ih r' hacc
                  | false=>simp only at h;subst h;simp
                · cases h
              · cases h
            · cases h
        exact key fs.toList r h
      · cases h
    · cases h

theorem znH {o : Oper} {op : BinOp} {t t' : TypeId} {x y : Operand} {cs ds : List Cl} {A : aH} (S : bU P nt B w0 h0 g σ a w) (hd : dE nt o.dst = true) (hop : o.op = .binOp op t x y t')
    (hx:eH σ.env x=.one (.agg cs)) (hy:eH σ.env y=.one (.agg ds)) (hA:VM P op t cs ds=A) (hs:A.safe):gV P nt B w0 h0 r n i o A σ a w Q:=by
  have h1:=S.ev x;have h2:=S.ev y;rw[hx] at h1;rw[hy] at h2;obtain⟨vs,hv,_⟩:=id h1;obtain⟨us,hu,_⟩:=id h2;unfold VM at hA;split at hA
  · rename_i q hgd hq;have hrun:=VY (w:=w) 8 t (.agg cs) (.agg ds) q hq 9992 _ _ h1 h2;rw[hv,hu] at hrun;split at hA
    · subst hA;refine dD S hd (by simp[hop]) (d:=.bool q) (v:=.bool q) (fp:=[]) rfl ?_ (.bool q) (iV _);simp only[execOp,hop,hv,hu,fD,run_eqGuard_agg w _ _ _ _ _ _ hgd,fM,run_eql_struct];rw[hrun];rfl
    · subst hA;refine dD S hd (by simp[hop]) (d:=.bool (!q)) (v:=.bool (!q)) (fp:=[]) rfl ?_ (.bool (!q)) (iV _);simp only[execOp,hop,hv,hu,fD,run_eqGuard_agg w _ _ _ _ _ _ hgd,fM,run_neq_struct];rw[hrun];rfl
    · subst hA;exact hs.elim
  · subst hA;exact hs.elim

theorem Yr {o : Oper} {t : TypeId} {x y : Operand} {A : aH} (S : bU P nt B w0 h0 g σ a w) (hd : dE nt o.dst = true) (hop : o.op = .index t x y)
    (hA:act P Γ o (eH σ.env) (lk σ.aB)=A) (hs:A.safe):gV P nt B w0 h0 r n i o A σ a w Q:=by
  simp only[act,hop,DZ] at hA;split at hA
  · rename_i m e hu;split at hA
    · rename_i sz ag cs k j hsz hag hx hy;split at hA
      · rename_i d hlt hr;subst hA;have h1:=S.ev x;rw[hx] at h1;obtain⟨vs,hv,hvs⟩:=h1;have hj:=iQ S hy;obtain⟨v,hrun,hdv⟩:=yh (w:=w) hag hsz hr hvs;have hlt':j < m:=by simpa [Nat.blt_eq] using hlt
        refine dD S hd (by simp[hop]) (d:=.one d) (v:=v) (fp:=[]) rfl ?_ hdv (λ L hL=>?_)
        · simp only [execOp, hop, hv, hj, Instr.index, asIntOf, fD, iT, fM, run_underlying hu];rw[if_pos ⟨by simp,by simpa using hlt'⟩];simp only[fD,run_sizeOf hsz,fM];rw[show (Int.ofNat j).toNat=j from rfl,hrun];rfl
        · refine S.evLab x L ?_;rw[hx];exact Ez hr L hL
      · subst hA;exact hs.elim
    · subst hA;exact hs.elim
  · subst hA;exact hs.elim

theorem Yt {o : Oper} {t : TypeId} {x : Operand} {f : Nat} {A : aH} (S : bU P nt B w0 h0 g σ a w) (hd : dE nt o.dst = true) (hop : o.op = .field t x f)
    (hA:act P Γ o (eH σ.env) (lk σ.aB)=A) (hs:A.safe):gV P nt B w0 h0 r n i o A σ a w Q:=by
  simp only[act,hop,D5] at hA;split at hA
  · rename_i fs hu;split at hA
    · rename_i fd hfd;split at hA
      · rename_i m ag cs hsz hag hx;split at hA
        · rename_i d hr;subst hA;have h1:=S.ev x;rw[hx] at h1;obtain⟨vs,hv,hvs⟩:=h1;obtain⟨v,hrun,hdv⟩:=yh (w:=w) hag hsz hr hvs;refine dD S hd (by simp[hop]) (d:=.one d) (v:=v) (fp:=[]) rfl ?_ hdv (λ L hL=>?_)
          · simp only [execOp, hop, hv, Instr.field, asAgg, fD, iT, fM, run_underlying hu, hfd];rw[hrun];rfl
          · refine S.evLab x L ?_;rw[hx];exact Ez hr L hL
        · subst hA;exact hs.elim
      · subst hA;exact hs.elim
    · subst hA;exact hs.elim
  · subst hA;exact hs.elim

theorem Ll {o : Oper} {t e : TypeId} {m : Nat} {x y : Operand} {A : aH} (S : bU P nt B w0 h0 g σ a w) (hd : dE nt o.dst = true) (hop : o.op = .indexAddr t x y) (hu : P.underlying t = some (.array m e))
    (hA:xU P m e (eH σ.env x) (eH σ.env y)=A) (hs:A.safe):gV P nt B w0 h0 r n i o A σ a w Q:=by
  unfold xU at hA;split at hA
  · rename_i sz k j hsz hy;split at hA
    · rename_i hlt;have hj:=iQ S hy;have hlt':j < m:=by simpa [Nat.blt_eq] using hlt
      have run:∀ b o':Nat,a.eval x=.pointer (some ⟨b,o',none⟩)->(execOp a.eval o).run P w=.ok (.value (.pointer (some ⟨b,o'+j * sz,none⟩))) w:=by
        intro b o' hv;simp only[execOp,hop,hv,hj,Instr.indexAt, asIntOf,fD,iT,fM,run_underlying hu,Instr.sureAddr];rw[if_pos ⟨by simp,by simpa using hlt'⟩];simp only[fD,run_sizeOf hsz,fM,addr_add,iT];rfl
      split at hA
      · rename_i L off hx;subst hA;obtain⟨h1,h2⟩:=gy S hx;exact dD S hd (by simp[hop]) (d:=.cl (.ptr L (off+j * sz))) (fp:=[]) rfl (run _ _ h1) rfl h2
      · rename_i c off hx;subst hA;obtain⟨b,o',C,ty,fr,hv,hb,hc⟩:=Lh (iq S hx);have:=run b (o'+off) hv;rw[Nat.add_assoc] at this;exact dD S hd (by simp[hop]) (d:=.p (.fp c (off+j * sz))) (fp:=[]) rfl this (Dn hb hc _) (iV _)
      · subst hA;exact hs.elim
    · subst hA;exact hs.elim
  · subst hA;exact hs.elim

theorem VZ (j:Int):IsKey (.int .i64) (.int .i64 j):=by simp[IsKey]

theorem V3 : ∀ {cs : List Cl} {l : List Int} {vs : List Value}, DY cs = some l → RL (gJ g) cs vs → vs = l.map (Value.int .i64)
  | [],l,[],h,_=>by simp[DY] at h;subst h;rfl
  | [],_,_ :: _,_,hr=>hr.elim
  | _ :: _,_,[],_,hr=>hr.elim
  | c :: cs,l,v :: vs,h,hr=>by
    cases c with
    | p x =>
      cases x with
      | int k a' =>
        cases k <;> simp only[DY] at h <;> try cases h
        split at h
        · rename_i l' hl';simp only[bJ] at h;subst h;have h1:=hr.1;cases h1;rw[V3 hl' hr.2];rfl
        · cases h
      | _=>simp[DY] at h
    | _=>simp[DY] at h

end
end Go.Pm
namespace Go.Pm
variable [aJ]
open Go.RowKit (Below)

section
variable {P:Program}{Γ:aX}{nt B:Nat}{w0:World}{h0:Fz}{g:Gh}{σ:St}{a:Act}{w:World}{r:Option Nat}{n i:Nat}{Q:Exit->Act->World->Prop}

theorem Lm {o : Oper} {x : Operand} {A : aH} (S : bU P nt B w0 h0 g σ a w) (hd : dE nt o.dst = true) (hop : o.op = .nilCheck x)
    (hA:act P Γ o (eH σ.env) (lk σ.aB)=A) (hs:A.safe):gV P nt B w0 h0 r n i o A σ a w Q:=by
  simp only[act,aNc,hop] at hA;split at hA
  · rename_i L off hx;subst hA;obtain⟨h1,h2⟩:=gy S hx;refine dD S hd (by simp[hop]) (v:=a.eval x) (fp:=[]) rfl ?_ h1 h2;simp only[gJ] at h1;simp[execOp,hop,h1]
  · rename_i c off hx;subst hA;obtain⟨h1,h2⟩:=gy S hx;refine dD S hd (by simp[hop]) (v:=a.eval x) (fp:=[]) rfl ?_ h1 h2;obtain⟨b,o',C,ty,fr,hv,_⟩:=Lh h1;simp[execOp,hop,hv]
  · rename_i L s ii k hx;subst hA;obtain⟨h1,h2⟩:=gy S hx;refine dD S hd (by simp[hop]) (v:=a.eval x) (fp:=[]) rfl ?_ h1 h2;obtain⟨b,_,hv⟩:=h1;simp[execOp,hop,hv]
  · subst hA;exact hs.elim

theorem tX {op:BinOp}{t:TypeId}{x y:Operand}{k k':IntKind}{p q:Int} : (eqGuard op t x y (.int k p) (.int k' q)).run P w=.ok () w:=by
 unfold eqGuard;cases op <;> rfl
theorem qI {op:BinOp}{t:TypeId}{x y:Operand}{p q:Bool} : (eqGuard op t x y (.bool p) (.bool q)).run P w=.ok () w:=by
 unfold eqGuard;cases op <;> rfl

theorem Yu {o : Oper} {op : BinOp} {t t' : TypeId} {x y : Operand} {A : aH} (S : bU P nt B w0 h0 g σ a w) (hd : dE nt o.dst = true) (hop : o.op = .binOp op t x y t')
    (hA:act P Γ o (eH σ.env) (lk σ.aB)=A) (hs:A.safe):gV P nt B w0 h0 r n i o A σ a w Q:=by
  simp only[act,aBn,hop] at hA;split at hA
  · rename_i k p k' q hx hy;have h1:=iQ S hx;have h2:=iQ S hy;split at hA
    · rename_i hk;subst hk;have fin:∀ (v:PV) (u:Value) (A:aH),kW A i o.dst σ (σ.upd i o.dst [] (.p v) [] [])->(binOp op t (.int k p) (.int k q)).run P w=.ok u w->Rep g.h v u->gV P nt B w0 h0 r n i o A σ a w Q:=by
        intro v u A hA hrun hr;refine dD S hd (by simp[hop]) (d:=.p v) (v:=u) (fp:=[]) hA ?_ hr (iV v);simp only[execOp,hop,h1,h2,fD,tX,fM,hrun,iT]
      unfold Oy at hA;split at hA <;> subst hA
      · have hq : 0 ≤ q := hs;exact fin _ _ (.chk _ _ _ _ _) rfl (by simp[binOp,Op.shift,Int.not_lt.2 hq,zgD]) (.int _ _)
      · have hq : 0 ≤ q := hs;exact fin _ _ (.chk _ _ _ _ _) rfl (by simp[binOp,Op.shift,Int.not_lt.2 hq,CG]) (.int _ _)
      · exact fin _ _ _ rfl (by simp[binOp,Op.intBits,zv0]) (.int _ _)
      · exact fin _ _ _ rfl (by simp[binOp,Op.intBits,orW]) (.int _ _)
      · exact fin _ _ _ rfl (by simp[binOp,Op.intBits,zv1]) (.int _ _)
      · exact fin _ _ _ rfl (by simp[binOp,Op.intBits,VL]) (.int _ _)
      · exact fin _ _ _ rfl (by simp[binOp,Op.intArith]) (.int _ _)
      · exact fin _ _ _ rfl (by simp[binOp,Op.intArith]) (.int _ _)
      · exact fin _ _ _ rfl (by simp[binOp,Op.intArith]) (.int _ _)
      · have hq : q ≠ 0 := hs;exact fin _ _ (.chk _ _ _ _ _) rfl (by simp[binOp,Op.intDiv,hq]) (.int _ _)
      · have hq : q ≠ 0 := hs;exact fin _ _ (.chk _ _ _ _ _) rfl (by simp[binOp,Op.intDiv,hq]) (.int _ _)
      · exact fin _ _ _ rfl (by simp[binOp,Op.intCmp]) (.bool _)
      · exact fin _ _ _ rfl (by simp[binOp,Op.intCmp]) (.bool _)
      · exact fin _ _ _ rfl (by simp[binOp,Op.intCmp]) (.bool _)
      · exact fin _ _ _ rfl (by simp[binOp,Op.intCmp]) (.bool _)
      · exact fin _ _ _ rfl (by simp[binOp,Op.intCmp]) (.bool _)
      · exact fin _ _ _ rfl (by simp[binOp,Op.intCmp]) (.bool _)
    · have fin:∀ (v:PV) (u:Value) (A:aH),kW A i o.dst σ (σ.upd i o.dst [] (.p v) [] [])->(binOp op t (.int k p) (.int k' q)).run P w=.ok u w->Rep g.h v u->gV P nt B w0 h0 r n i o A σ a w Q:=by
        intro v u A hA hrun hr;refine dD S hd (by simp[hop]) (d:=.p v) (v:=u) (fp:=[]) hA ?_ hr (iV v);simp only[execOp,hop,h1,h2,fD,tX,fM,hrun,iT]
      unfold zbB at hA;split at hA <;> subst hA
      · have hq : 0 ≤ q := hs;exact fin _ _ (.chk _ _ _ _ _) rfl (by simp[binOp,Op.shift,Int.not_lt.2 hq,zgD]) (.int _ _)
      · have hq : 0 ≤ q := hs;exact fin _ _ (.chk _ _ _ _ _) rfl (by simp[binOp,Op.shift,Int.not_lt.2 hq,CG]) (.int _ _)
      · exact hs.elim
  · rename_i p q hx hy;have h1:=qH S hx;have h2:=qH S hy;have hrun:P.underlying t=some .bool->(Op.equal t (.bool p) (.bool q)).run P w=.ok (p == q) w:=by
      intro ht;unfold Op.equal;rw[show Op.maxDepth=9999+1 from rfl,Op.equalIn];simp only[fD,run_underlying ht,fM,iT]
    split at hA <;> (try rename_i ht _) <;> subst hA
    · refine dD S hd (by simp [hop]) (d := .bool (p == q)) (v := .bool (p == q)) (fp := []) rfl ?_ (.bool _) (iV _);simp only[execOp,hop,h1,h2,fD,qI,fM,binOp,hrun ‹_›,iT]
    · refine dD S hd (by simp [hop]) (d := .bool (p != q)) (v := .bool (p != q)) (fp := []) rfl ?_ (.bool _) (iV _);simp only[execOp,hop,h1,h2,fD,qI,fM,binOp,hrun ‹_›,iT];rfl
    · exact hs.elim
  · rename_i cs ds hx hy;exact znH S hd hop hx hy hA hs
  · subst hA;exact hs.elim

theorem zbR {o : Oper} {op : UnOp} {t : TypeId} {x : Operand} {A : aH} (S : bU P nt B w0 h0 g σ a w) (hd : dE nt o.dst = true) (hop : o.op = .unOp op t x)
    (hA:act P Γ o (eH σ.env) (lk σ.aB)=A) (hs:A.safe):gV P nt B w0 h0 r n i o A σ a w Q:=by
  simp only[act,aUn,hop] at hA;split at hA
  · rename_i p hx;subst hA;have h1:=qH S hx;refine dD S hd (by simp[hop]) (d:=.bool (!p)) (v:=.bool (!p)) (fp:=[]) rfl ?_ (.bool _) (iV _);simp[execOp,hop,h1,Op.unary]
  · rename_i k p hx;subst hA;have h1:=iQ S hx;refine dD S hd (by simp[hop]) (d:=.p (.int k (k.wrap (0 - p)))) (v:=.int k (k.wrap (0 - p))) (fp:=[]) rfl ?_ (.int _ _) (iV _);simp only[execOp,hop,h1,Op.unary,Op.intArith,fD,iT,fM]
  · subst hA;exact hs.elim

theorem O3 {o : Oper} {t1 t2 : TypeId} {x : Operand} {A : aH} (S : bU P nt B w0 h0 g σ a w) (hd : dE nt o.dst = true) (hop : o.op = .convert t1 t2 x)
    (hA:act P Γ o (eH σ.env) (lk σ.aB)=A) (hs:A.safe):gV P nt B w0 h0 r n i o A σ a w Q:=by
  simp only[act,aCv,hop] at hA;split at hA
  · rename_i u1 k k' m h1 h2 hx;subst hA;have hv:=iQ S hx;refine dD S hd (by simp[hop]) (d:=.p (.int k (k.wrap m))) (v:=.int k (k.wrap m)) (fp:=[]) rfl ?_ (.int _ _) (iV _);simp only[execOp,hop,hv,convert,fD,run_underlying h1,run_underlying h2,fM,Conv.intToInt,iT]
  · subst hA;exact hs.elim

theorem I9 {o : Oper} {t : TypeId} {x : Operand} {f : Nat} {A : aH} (S : bU P nt B w0 h0 g σ a w) (hd : dE nt o.dst = true) (hop : o.op = .fieldAddr t x f)
    (hA:act P Γ o (eH σ.env) (lk σ.aB)=A) (hs:A.safe):gV P nt B w0 h0 r n i o A σ a w Q:=by
  simp only[act,aFa,hop] at hA;split at hA
  · rename_i off hoff
    have fin:∀ (b o':Nat) (c:Cl) (A:aH),a.eval x=.pointer (some ⟨b,o',none⟩)->kW A i o.dst σ (σ.upd i o.dst [] (.cl c) [] [])->gJ g c (.pointer (some ⟨b,o'+off,none⟩)) ->
        (∀ L∈bi c,∃ o,lk σ.aB L=some o)->gV P nt B w0 h0 r n i o A σ a w Q:=by
      intro b o' c A hv hA hc hl;refine dD S hd (by simp[hop]) (d:=.cl c) (v:=.pointer (some ⟨b,o'+off,none⟩)) (fp:=[]) hA ?_ hc hl;simp only[execOp,hop,fD,hv,OI hoff,fM,iT]
    split at hA
    · rename_i L k hx;subst hA;obtain⟨h1,h2⟩:=gy S hx;exact fin _ _ _ _ h1 rfl rfl h2
    · rename_i c k hx;subst hA;obtain⟨h1,h2⟩:=gy S hx;obtain⟨b,o',C,ty,fr,hv,hb,hc⟩:=Lh h1;refine fin b (o'+k) _ _ hv rfl ?_ h2;rw[Nat.add_assoc];exact Dn hb hc (k+off)
    · rename_i L s ii k hx;subst hA;obtain⟨h1,h2⟩:=gy S hx;obtain⟨b,hb,hv⟩:=h1;refine fin b (ii * s+k) _ _ hv rfl ⟨b,hb,?_⟩ h2;rw[Nat.add_assoc]
    · subst hA;exact hs.elim
  · subst hA;exact hs.elim

theorem Ja {o : Oper} {t : TypeId} {x y : Operand} {A : aH} (S : bU P nt B w0 h0 g σ a w) (hd : dE nt o.dst = true) (hop : o.op = .indexAddr t x y)
    (hA:act P Γ o (eH σ.env) (lk σ.aB)=A) (hs:A.safe):gV P nt B w0 h0 r n i o A σ a w Q:=by
  simp only[act,aIa,hop] at hA;split at hA
  · rename_i e hu;split at hA
    · rename_i m k j hsz hy;have hj:=iQ S hy;split at hA
      · rename_i len s get hx;split at hA
        · rename_i hsm;subst hsm;subst hA;have hs':0<=j/\j < (len:Int):=hs;have hlt:j.toNat < len:=by omega
          obtain⟨b,o',cap,C,ty,fr,hv,hb,hlen,hel⟩:=Lj (iq S hx) hlt;refine dD S hd (by simp[hop]) (d:=.p (.fp (get j.toNat) 0)) (v:=.pointer (some ⟨b,o'+j.toNat * s,none⟩)) (fp:=[]) (A:=.chk _ _ _ _ _) rfl ?_ ?_ (iV _)
          · simp only[execOp,hop,fD,hv,hj,run_indexAt_slice hu hsz hs'.1 hs'.2,fM,iT]
          · exact Dn hb hel 0
        · subst hA;exact hs.elim
      · rename_i L hx;obtain⟨h1,h2⟩:=gy S hx;split at hA
        · rename_i e' s by' len get hL;split at hA
          · rename_i hsm;subst hsm;subst hA;have hs':0<=j/\j < (len:Int):=hs;have hlt:j.toNat < len:=by omega
            obtain⟨b,C,hob,⟨cap,hsv⟩,hC,_,hlen,hel⟩:=qG (S.obj L _ hL) hlt;refine dD S hd (by simp[hop]) (d:=.cl (.vptr L s j.toNat 0)) (v:=.pointer (some ⟨b,0+j.toNat * s,none⟩)) (fp:=_) (A:=.chk _ _ _ _ _) rfl ?_ ?_ h2
            · simp only[execOp,hop,fD,h1.1,hsv,hj,run_indexAt_slice hu hsz hs'.1 hs'.2,fM,iT]
            · refine ⟨b, hob, ?_⟩;simp
          · subst hA;exact hs.elim
        · rename_i s len get hL;split at hA
          · rename_i hsm;subst hsm;subst hA;have hs':0<=j/\j < (len:Int):=hs;have hlt:j.toNat < len:=by omega
            obtain⟨b,o',cap,C,ty,fr,hv,hb,hlen,hel⟩:=Lj (S.obj L _ hL).1 hlt;refine dD S hd (by simp[hop]) (d:=.p (.fp (get j.toNat) 0)) (v:=.pointer (some ⟨b,o'+j.toNat * s,none⟩)) (fp:=_) (A:=.chk _ _ _ _ _) rfl ?_ ?_ (iV _)
            · simp only[execOp,hop,fD,h1.1,hv,hj,run_indexAt_slice hu hsz hs'.1 hs'.2,fM,iT]
            · exact Dn hb hel 0
          · subst hA;exact hs.elim
        · rename_i te bb e' s by' len ln get hL;split at hA
          · rename_i hsm;subst hsm;subst hA;have hs':0<=j/\j < (len:Int):=hs;have hlt:j.toNat < len:=by omega
            obtain⟨b,C,cap,hsv,hC,_,_⟩:=OX (S.obj L _ hL) hlt;refine dD S hd (by simp[hop]) (d:=.cl (.vptr L 1 j.toNat 0)) (v:=.pointer (some ⟨b,0+j.toNat * 1,none⟩)) (fp:=_) (A:=.chk _ _ _ _ _) rfl ?_ ?_ h2
            · simp only[execOp,hop,fD,h1.1,hsv,hj,run_indexAt_slice hu hsz hs'.1 hs'.2,fM,iT]
            · refine ⟨b, by rw [hsv]; rfl, ?_⟩;simp
          · subst hA;exact hs.elim
        · rename_i te bb e' s by' len ln get o2 hL;split at hA
          · rename_i hsm;subst hsm;subst hA;have hs':0<=j/\j < (len:Int):=hs;have hlt:j.toNat < len:=by omega
            obtain⟨b,C,cap,hsv,hC,_⟩:=OY (S.obj L _ hL) hlt;refine dD S hd (by simp[hop]) (d:=.cl (.vptr L 1 j.toNat 0)) (v:=.pointer (some ⟨b,0+j.toNat * 1,none⟩)) (fp:=_) (A:=.chk _ _ _ _ _) rfl ?_ ?_ h2
            · simp only[execOp,hop,fD,h1.1,hsv,hj,run_indexAt_slice hu hsz hs'.1 hs'.2,fM,iT]
            · refine ⟨b, by rw [hsv]; rfl, ?_⟩;simp
          · subst hA;exact hs.elim
        · subst hA;exact hs.elim
      · subst hA;exact hs.elim
    · subst hA;exact hs.elim
  · rename_i m e hu;exact Ll S hd hop hu hA hs
  · subst hA;exact hs.elim

theorem O4 {o : Oper} {x : Operand} {k : Nat} {A : aH} (S : bU P nt B w0 h0 g σ a w) (hd : dE nt o.dst = true) (hop : o.op = .extract x k)
    (hA:act P Γ o (eH σ.env) (lk σ.aB)=A) (hs:A.safe):gV P nt B w0 h0 r n i o A σ a w Q:=by
  simp only[act,aEx,hop] at hA;split at hA
  · rename_i ds hx;have h1:=S.ev x;have h2:=S.evLab x;rw[hx] at h1 h2;obtain⟨vs,hv,hr⟩:=h1;split at hA
    · rename_i d hd';subst hA;obtain⟨v,hv',hdv⟩:=hr.get k d hd';refine dD S hd (by simp[hop]) (d:=.one d) (v:=v) (fp:=[]) rfl ?_ hdv (λ L hL=>h2 L ?_)
      · simp only [execOp, hop, fD, hv, Instr.extract];have:vs.toArray[k]? = some v:=by simpa using hv'
        rw[this];simp
      · exact jE.2 ⟨d,DW hd',hL⟩
    · subst hA;exact hs.elim
  · subst hA;exact hs.elim

theorem fb {o : Oper} {b : Builtin} {args : Array Operand} {ts : Array TypeId} (hop : o.op = .call { callee := .builtin b, args, argTypes := ts }) {v : Value} {w' : World}
    (h:(builtin b ts o.type (args.map fun | .const _=>true | _=>false) (args.map a.eval)).run P w=.ok (.value v) w'):(execOp a.eval o).run P w=.ok (.value v) w':=by
  simp only[execOp,hop,resolve,fD,iT,fM,invoke];exact h

theorem zgU {o : Oper} {args : Array Operand} {ts : Array TypeId} {A : aH} (S : bU P nt B w0 h0 g σ a w) (hd : dE nt o.dst = true) (hop : o.op = .call { callee := .builtin .len, args, argTypes := ts })
    (hA:act P Γ o (eH σ.env) (lk σ.aB)=A) (hs:A.safe):gV P nt B w0 h0 r n i o A σ a w Q:=by
  simp only[act,aLn,hop] at hA;split at hA
  · rename_i x t hargs hts;have ha:args = #[x]:=by rw[<- Array.toArray_toList (xs:=args),hargs]
    have ht:ts = #[t]:=by rw[<- Array.toArray_toList (xs:=ts),hts]
    subst ha ht;split at hA
    · rename_i e hu;have fin:∀ (m:Nat) (ad:Option Addr) (cap:Nat) (fp:List (Nat×Bool)) (A:aH),a.eval x=.slice ad m cap->kW A i o.dst σ (σ.upd i o.dst fp (.int m) [] [])->gV P nt B w0 h0 r n i o A σ a w Q:=by
        intro m ad cap fp A hv hA;refine dD S hd (by simp[hop]) (d:=.int m) (v:=.int .i64 m) (fp:=fp) hA (fb hop ?_) (.int _ _) (iV _);simp only[builtin,fD,Builtin.len_];simp[hv,run_underlying hu,goInt]
      split at hA
      · rename_i m s get hx;subst hA;have h1:=iq S hx;generalize hv:a.eval x=v at h1;cases h1 with
        | sl0=>exact fin 0 _ _ [] _ hv rfl
        | sle=>exact fin 0 _ _ [] _ hv rfl
        | sl=>exact fin m _ _ [] _ hv rfl
      · rename_i hx;subst hA;have h1:=iq S hx;generalize hv:a.eval x=v at h1;cases h1;exact fin 0 _ _ [] _ hv rfl
      · rename_i L hx;obtain⟨h1,_⟩:=gy S hx;split at hA
        · rename_i e' s b m get hL;subst hA;obtain⟨_,_,xs,hxs,_⟩:=S.obj L _ hL;rcases hxs.2 with ⟨h5,h6⟩ | ⟨k,cap,cur,h5,_⟩
          · subst h6;exact fin 0 _ _ _ _ (h1.1.trans h5) rfl
          · exact fin m _ _ _ _ (h1.1.trans h5) rfl
        · rename_i s m get hL;subst hA;have h2:=(S.obj L _ hL).1;generalize hv:g.sv L=v at h2;cases h2 with
          | sl0=>exact fin 0 _ _ _ _ (h1.1.trans hv) rfl
          | sle=>exact fin 0 _ _ _ _ (h1.1.trans hv) rfl
          | sl=>exact fin m _ _ _ _ (h1.1.trans hv) rfl
        · rename_i te bb e' s b m ln get hL;subst hA;obtain⟨_,_,_,hxs,_,_⟩:=S.obj L _ hL;rcases hxs.2 with ⟨h5,h6⟩ | ⟨k,cap,cur,h5,_⟩
          · subst h6;exact fin 0 _ _ _ _ (h1.1.trans h5) rfl
          · exact fin m _ _ _ _ (h1.1.trans h5) rfl
        · subst hA;exact hs.elim
      · subst hA;exact hs.elim
    · rename_i kt vt hu
      have O5:∀ (m:Nat) (b:Nat) (es:Array MapEntry) (clock:Nat) (q:MQ) (F:List Int->Option (List Int)) (fp:List (Nat×Bool)) (A:aH),a.eval x=.map (some b)->w.heap[b]? = some (.map es clock)->moE q m F es clock ->
          kW A i o.dst σ (σ.upd i o.dst fp (.int m) [] [])->gV P nt B w0 h0 r n i o A σ a w Q:=by
        intro m b es clock q F fp A hv hh hm hA;obtain⟨en,hen⟩:=hm;have hsz:es.size=m:=by
          have:=congrArg List.length hen.ents;simp only[List.length_map,Array.length_toList] at this;rw[this,hen.size]
        refine dD S hd (by simp[hop]) (d:=.int m) (v:=.int .i64 m) (fp:=fp) hA (fb hop ?_) (.int _ _) (iV _);simp only[builtin,fD,Builtin.len_];simp[hv,run_underlying hu,goInt,MapKept.run_getObj_map hh,hsz]
      split at hA
      · rename_i L hx;obtain⟨h1,_⟩:=gy S hx;split at hA
        · rename_i kt' vt' q m F hL;subst hA;obtain⟨es,clock,hh,_,hm⟩:=S.obj L _ hL;exact O5 m _ es clock q F _ _ h1 hh hm rfl
        · subst hA;exact hs.elim
      · subst hA;exact hs.elim
    · subst hA;exact hs.elim
  · subst hA;exact hs.elim

theorem EE {args:Array Operand}{ev:Operand->DV}{p q:DV}(h:args.toList.map ev=[p,q]):∃ x y,args = #[x,y]/\ev x=p/\ev y=q:=by
 match hl:args.toList,h with
 | [x,y],h =>
  simp at h;exact⟨x,y,by rw[<- Array.toArray_toList (xs:=args),hl],h.1,h.2⟩
 | [],h=>simp at h
 | [_],h=>simp at h
 | _ :: _ :: _ :: _,h=>simp at h

theorem zgV {o : Oper} {args : Array Operand} {ts : Array TypeId} {A : aH} (S : bU P nt B w0 h0 g σ a w) (hd : dE nt o.dst = true) (hop : o.op = .call { callee := .builtin .max, args, argTypes := ts })
    (hA:act P Γ o (eH σ.env) (lk σ.aB)=A) (hs:A.safe):gV P nt B w0 h0 r n i o A σ a w Q:=by
  simp only[act,aMx,hop] at hA;split at hA
  · rename_i k p k' q hargs;subst hA;obtain⟨x,y,rfl,hx,hy⟩:=EE hargs;have h1:=iQ S hx;have h2:=iQ S hy;refine dD S hd (by simp[hop]) (d:=.p (.int k (if q > p then q else p))) (v:=.int k (if q > p then q else p)) (fp:=[]) rfl (fb hop ?_) (.int _ _) (iV _);simp[builtin,Builtin.max_,h1,h2,Builtin.max2]
  · subst hA;exact hs.elim

theorem zgW {o : Oper} {args : Array Operand} {ts : Array TypeId} {A : aH} (S : bU P nt B w0 h0 g σ a w) (hd : dE nt o.dst = true) (hop : o.op = .call { callee := .builtin .min, args, argTypes := ts })
    (hA:act P Γ o (eH σ.env) (lk σ.aB)=A) (hs:A.safe):gV P nt B w0 h0 r n i o A σ a w Q:=by
  simp only[act,aMi,hop] at hA;split at hA
  · rename_i k p k' q hargs;subst hA;obtain⟨x,y,rfl,hx,hy⟩:=EE hargs;have h1:=iQ S hx;have h2:=iQ S hy;refine dD S hd (by simp[hop]) (d:=.p (.int k (if q < p then q else p))) (v:=.int k (if q < p then q else p)) (fp:=[]) rfl (fb hop ?_) (.int _ _) (iV _);simp[builtin,Builtin.min_,h1,h2,Builtin.min2]
  · subst hA;exact hs.elim
end
end Go.Pm
namespace Go.Pm
variable [aJ]
open Go.RowKit (Below)

section place
variable {P:Program}
def Ro {α:Type}(P:Program) (s:Sem α):Prop:=∀ w a w',s.run P w=.ok a w'->w'.heap=w.heap
theorem bind_ok {α β:Type}{x:Sem α}{f:α->Sem β}{w w':World}{b:β}(h:(x >>= f).run P w=.ok b w'):∃ a w1,x.run P w=.ok a w1/\(f a).run P w1=.ok b w':=by
 rw[fD] at h;cases hx:x.run P w with
 | ok a w1=>rw[hx] at h;exact⟨a,w1,rfl,h⟩
 | halt e w1=>rw[hx] at h;cases h
theorem Ro.bind {α β:Type}{x:Sem α}{f:α->Sem β}(hx:Ro P x) (hf:∀ a,Ro P (f a)):Ro P (x >>= f):=by
 intro w b w' h;obtain⟨a,w1,h1,h2⟩:=bind_ok h;exact (hf a w1 b w' h2).trans (hx w a w1 h1)
theorem Ro.pure {α:Type}(a:α):Ro P (Pure.pure a:Sem α):=by
 intro w b w' h;simp at h;rw[h.2]
theorem Ro.halt {α:Type}(e:Halt):Ro P (.halt e:Sem α):=by
 intro w b w' h;simp at h
theorem Ro.ite {α:Type}{c:Prop} [Decidable c] {x y:Sem α}(hx:Ro P x) (hy:Ro P y):Ro P (if c then x else y):=by
 split
 ·exact hx
 ·exact hy
theorem Ro.load (a:Addr) (m:Mode):Ro P (Go.load a m):=by
 intro w b w' h;rw[run_load] at h;split at h
 ·simp at h;rw[h.2]
 ·split at h
  ·simp at h;rw[h.2]
  ·cases h
theorem Ro.loadCellsFrom (a : Addr) : ∀ (n i : Nat) (acc : Array Value), Ro P (loadCellsFrom a i n acc)
  | 0,_,acc=>Ro.pure acc
  | n+1,i,acc=>(Ro.load _ _).bind λ v=>Ro.loadCellsFrom a n (i+1) (acc.push v)
theorem Ro.firstCells (s n:Nat) (v:Value):Ro P (Builtin.firstCells s n v):=by
 unfold Builtin.firstCells;split
 ·exact Ro.loadCellsFrom _ _ _ _
 ·exact Ro.pure _
 ·exact Ro.pure _
 ·exact Ro.halt _
theorem Ro.typeInfo (t:TypeId):Ro P (typeInfo t):=by
 intro w b w' h;simp only[Go.typeInfo,fD,run_program,fM] at h;split at h
 ·simp at h;rw[h.2]
 ·simp at h
theorem Ro.zeroValue (t:TypeId):Ro P (zeroValue t):=by
 refine (Ro.typeInfo t).bind λ _=>?_;split
 ·exact Ro.pure _
 ·exact Ro.halt _
theorem Ro.choose (q:Question):Ro P (Go.choose q):=by
 intro w b w' h;rw[run_choose] at h;split at h
 ·simp at h;rw[h.2]
 ·simp at h;rw[<- h.2];rfl
theorem Ro.askRoom (m:Nat):Ro P (askRoom m):=by
 intro w b w' h;simp at h;rw[h]

theorem Ro.program:Ro P program:=by
 intro w b w' h;simp at h;rw[h.2]
theorem Ro.underlying (t:TypeId):Ro P (underlying t):=by
 refine Ro.program.bind λ _=>?_;split
 ·exact Ro.pure _
 ·exact Ro.halt _
theorem Ro.sizeOf (t:TypeId):Ro P (sizeOf t):=(Ro.typeInfo t).bind λ _=>Ro.pure _
theorem Ro.stuck {α:Type}(s:String):Ro P (stuck s:Sem α):=Ro.halt _
theorem Ro.unsupported {α:Type}(s:Unsupported):Ro P (unsupported s:Sem α):=Ro.halt _
theorem Ro.asIntOf (v:Value):Ro P (asIntOf v):=by
 unfold Go.asIntOf;split
 ·exact Ro.pure _
 ·exact Ro.unsupported _
 ·exact Ro.stuck _
theorem Ro.asInt (v:Value):Ro P (asInt v):=(Ro.asIntOf v).bind λ _=>Ro.pure _
theorem Ro.error {α:Type}(m:String):Ro P (runtimePanic (.error m):Sem α):=by
 refine Ro.program.bind λ _=>?_;exact Ro.halt _

theorem Ro.mark (m:Mark):Ro P (mark m):=by
 intro w b w' h;simp at h;rw[h]
theorem Ro.shape (k:Nat):Ro P (shape k):=by
 intro w b w' h;simp at h;rw[h.2]
theorem Ro.frozen (k:Addr):Ro P (frozen k):=by
 intro w b w' h;simp at h;rw[h.2]
theorem Ro.holdsCells (k:Addr) (m:Nat):Ro P (Builtin.holdsCells k m):=by
 refine (Ro.shape _).bind λ _=>?_;split
 ·exact Ro.pure _
 ·exact Ro.pure _
theorem Ro.mayShare (size sLen m:Nat) (base:Option Addr) (x:Value):Ro P (Builtin.mayShare size sLen m base x):=by
 unfold Builtin.mayShare
 repeat' first
  | exact Ro.holdsCells _ _
  | exact Ro.frozen _
  | exact Ro.pure _
  | refine Ro.ite ?_ ?_
  | refine Ro.bind ?_ (λ _=>?_)
  | split

def PL (P:Program) (base:Option Nat) (s:Sem Value):Prop:=∀ w a w',s.run P w=.ok a w'->a.ownBlock=base\/a.ownBlock=some w.heap.size
theorem PL.bind {α:Type}{base:Option Nat}{x:Sem α}{f:α->Sem Value}(hx:Ro P x) (hf:∀ a,PL P base (f a)):PL P base (x >>= f):=by
 intro w b w' h;obtain⟨a,w1,h1,h2⟩:=bind_ok h;have:=hf a w1 b w' h2;rwa[hx w a w1 h1] at this
theorem PL.ite {base:Option Nat}{c:Prop} [Decidable c] {x y:Sem Value}(hx:PL P base x) (hy:PL P base y):PL P base (if c then x else y):=by
 split
 ·exact hx
 ·exact hy
theorem PL.halt {base:Option Nat}(e:Halt):PL P base (.halt e):=by
 intro w b w' h;simp at h
theorem PL.pure {base:Option Nat}{v:Value}(h:v.ownBlock=base):PL P base (Pure.pure v):=by
 intro w b w' h';simp at h';rw[<- h'.1];exact .inl h
theorem PL.then {α:Type}{base:Option Nat}{x:Sem α}{v:Value}(h:v.ownBlock=base):PL P base (x >>= λ _=>Pure.pure v):=by
 intro w b w' h';obtain⟨a,w1,_,h2⟩:=bind_ok h';simp at h2;rw[<- h2.1];exact .inl h
theorem PL.newRow {base:Option Nat}(e:TypeId) (C:Array Value) (m c:Nat):PL P base (newRow e C >>= λ a=>Pure.pure (Value.slice (some a) m c)):=by
 intro w b w' h;simp[Go.newRow] at h;rw[<- h.1];exact .inr rfl

theorem yj {t ty:TypeId}{base ad:Option Addr}{sLen sCap m c:Nat} : PL P (base.map (·.block)) (Builtin.append_ #[t,t] ty #[.slice base sLen sCap,.slice ad m c]):=by
 unfold Builtin.append_;simp only[List.getElem?_toArray,List.getElem?_cons_zero,SC]
 repeat' first
  | exact PL.newRow _ _ _ _
  | exact PL.pure (by first | rfl | (cases base <;> rfl))
  | exact PL.then (by first | rfl | (cases base <;> rfl))
  | exact PL.halt _
  | exact Ro.underlying _
  | exact Ro.sizeOf _
  | exact Ro.typeInfo _
  | exact Ro.zeroValue _
  | exact Ro.firstCells _ _ _
  | exact Ro.choose _
  | exact Ro.askRoom _
  | exact Ro.asInt _
  | exact Ro.error _
  | exact Ro.unsupported _
  | exact Ro.stuck _
  | exact Ro.pure _
  | exact Ro.mark _
  | exact Ro.mayShare _ _ _ _ _
  | refine PL.ite ?_ ?_
  | refine Ro.ite ?_ ?_
  | refine PL.bind ?_ (λ _=>?_)
  | refine Ro.bind ?_ (λ _=>?_)
  | split

theorem CU {w:World}{at_:Addr}{u:TypeId}{k:Addr}{v:Value}{b:Bool}{r:World×List Addr}(h:w.viewStore P at_ u k v b=.ok r):r.1.drawn=w.drawn:=by
 unfold World.viewStore at h;simp only[bind,Except.bind,pure,Except.pure] at h
 repeat' first
  | (cases h;done)
  | (simp only[Except.ok.injEq] at h;rw[<- h];done)
  | split at h
theorem EF {w:World}{a:Addr}{v:Value}{b:Bool}{r:World×List Addr}(h:w.farStore P a v b=.ok r):r.1.drawn=w.drawn:=by
 unfold World.farStore at h;split at h
 ·split at h
  ·rename_i e;simp only[Except.ok.injEq] at h;rw[<- h];exact CU e
  ·cases h
 ·cases h
theorem Ac {α : Type} : ∀ (q : Ask α) (w : World), w.drawn ≤ (w.ask q).2.drawn
  | .done a,w=>by simp[World.ask]
  | .ask what range k,w=>by
    simp only[World.ask];split
    · exact Ac _ _
    · exact Bv (Nat.le_succ w.drawn) (Ac (k _) { w with drawn:=w.drawn+1 })
theorem Yv (w:World) (c:Sys):w.drawn<=(w.sys c).2.drawn:=by
 have h:=Ac (Kernel.perform c w.os) w;unfold World.sys;split
 ·exact iZ _
 ·rename_i e;rw[e] at h;exact h
theorem eX {α : Type} : ∀ (s : Sem α) (w : World) (x : α) (w' : World), s.run P w = .ok x w' → w.drawn ≤ w'.drawn
  | .pure a,w,x,w',h=>by simp only[Sem.run,Result.ok.injEq] at h;rw[h.2];exact iZ _
  | .load m a k,w,x,w',h=>by
    simp only[Sem.run] at h;split at h
    · exact eX _ _ _ _ h
    · split at h
      · exact eX _ _ _ _ h
      · cases h
  | .store m a v k,w,x,w',h=>by
    have fin:∀ w1,w1.drawn=w.drawn->k.run P w1=.ok x w'->w.drawn<=w'.drawn:=λ w1 e h=>by rw[<- e];exact eX _ _ _ _ h
    cases v with
    | agg cs=>simp only[Sem.run] at h;cases h
    | tuple cs=>simp only[Sem.run] at h;cases h
    | _ =>
      simp only[Sem.run] at h;split at h
      · split at h
        · cases h
        · refine fin _ ?_ h;rfl
      · split at h
        · rename_i e;refine fin _ ?_ h;exact EF e
        · cases h
  | .new o k,w,x,w',h=>by simp only[Sem.run] at h;have:=eX _ _ _ _ h;exact this
  | .shape r k,w,x,w',h=>by simp only[Sem.run] at h;exact eX _ _ _ _ h
  | .freeze a n k,w,x,w',h=>by
    simp only[Sem.run] at h;have:=eX _ _ _ _ h;have e:(w.freeze a n).drawn=w.drawn:=by unfold World.freeze;split <;> rfl
    rwa[e] at this
  | .frozen a k,w,x,w',h=>by simp only[Sem.run] at h;exact eX _ _ _ _ h
  | .getObj r k,w,x,w',h=>by
    simp only[Sem.run] at h;split at h
    · cases h
    · exact eX _ _ _ _ h
    · cases h
  | .setObj r o k,w,x,w',h=>by
    simp only[Sem.run] at h;split at h
    · cases h
    · have:=eX _ _ _ _ h;exact this
    · cases h
  | .choose q k,w,x,w',h=>by
    simp only[Sem.run] at h;split at h
    · exact eX _ _ _ _ h
    · have := eX _ _ _ _ h;exact Bv (Nat.le_succ _) this
  | .sys c k,w,x,w',h=>by
    simp only[Sem.run] at h;have:=eX _ _ _ _ h;exact Bv (Yv w c) this
  | .program k,w,x,w',h=>by simp only[Sem.run] at h;exact eX _ _ _ _ h
  | .mark m k,w,x,w',h=>by simp only[Sem.run] at h;exact eX _ _ _ _ h
  | .halt e,w,x,w',h=>by simp only[Sem.run] at h;cases h
end place
end Go.Pm
namespace Go.Pm
variable [aJ]
open Go.RowKit (Below)

section
variable {P:Program}{Γ:aX}{nt B:Nat}{w0:World}{h0:Fz}{g:Gh}{σ:St}{a:Act}{w:World}{r:Option Nat}{n i:Nat}{Q:Exit->Act->World->Prop}

theorem yt {w w' : World} {b : Nat} (hB : B ≤ b) (h1 : w'.heap.size = w.heap.size) (h2 : ∀ k, k ≠ b → w'.heap[k]? = w.heap[k]?) (h3 : w'.os = w.os) (h4 : w'.tape = w.tape) (h5 : w'.output = w.output) (h6 : w'.drawn = w.drawn) :
  Ep B w w':=⟨⟨h3,h4,h5,by rw[h1];exact iZ _,λ k hk=>h2 k (by omega)⟩,by rw[h6];exact iZ _⟩

theorem rO {t : TypeId} {m b off : Nat} {C : Array Value} {ty : TypeId} {v : Value} (hs : mg P t = some m) (hm : v.cells.size = m) (hb : w.heap[b]? = some (.cells C ty (0, 0))) (hle : off + m ≤ C.size)
    (h1:∀ u∈v.cells.toList,u.oneCell'=true):∃ w',(storeVar t ⟨b,off,none⟩ v).run P w=.ok () w'/\w'.heap[b]? = some (.cells (spl C.toList off v.cells.toList).toArray ty (0,0)) /\
      w'.heap.size=w.heap.size/\(∀ k,k ≠ b->w'.heap[k]? = w.heap[k]?)/\w'.os=w.os/\w'.tape=w.tape/\w'.output=w.output/\w'.drawn=w.drawn:=by
  obtain⟨w',hr,rest⟩:=uy (P:=P) v.cells.toList off C w hb (by simpa [hm] using hle) h1 off 0 (by omega);refine⟨w',?_,rest⟩;simp only[storeVar,fD,run_sizeOf hs,fM,hm,ne_eq,not_true_eq_false,if_false];exact hr

theorem cells_one {d:D1}{v:Value}(h:wI g d v) (ho:d.cells.all xQ=true):∀ u∈v.cells.toList,u.oneCell'=true:=by
 intro u hu;have hr:=qE h ho;obtain⟨j,hj⟩:=List.getElem?_of_mem hu;obtain⟨c,hc,hcu⟩:=hr.get' j u hj;exact VS hcu (List.all_eq_true.1 ho c (DW hc))

theorem kY : ∀ {cs : List Cl} {l : List PV}, iO cs = some l → cs = l.map .p
  | [],l,h=>by simp[iO] at h;subst h;rfl
  | .p v :: r,l,h=>by
    simp only[iO] at h;split at h
    · rename_i l' hl;simp only[bJ] at h;subst h;rw[kY hl];rfl
    · cases h
  | .ptr _ _ :: _,l,h=>by simp[iO] at h
  | .vptr _ _ _ _ :: _,l,h=>by simp[iO] at h
  | .vec _ :: _,l,h=>by simp[iO] at h
  | .undef :: _,l,h=>by simp[iO] at h
  | .junk :: _,l,h=>by simp[iO] at h
  | .dead _ :: _,l,h=>by simp[iO] at h

theorem zgX (l:List PV):(l.map Cl.p).all xQ=true:=by
 induction l with
 | nil=>rfl
 | cons v r ih=>simp[xQ,ih]

theorem zgY {B e s len : Nat} {v0 : Value} {get : Nat → List PV} {k ii kk : Nat} {C : Array Value} {w' : World} {l : List PV} {us xs : List Value}
    (hx:w.ownsRow B e s v0 len xs) (hr:∀ i,i < len->RL (Rep g.h) (get i) ((xs.drop (i * s)).take s)) (hob:v0.ownBlock=some k) (hi:ii < len) (hk:kk+l.length<=s) (hC:w.heap[k]? = some (.cells C e (0,0)))
    (hC':w'.heap[k]? = some (.cells (spl C.toList (ii * s+kk) us).toArray e (0,0))) (hl:RL (Rep g.h) l us) :
    ∃ xs:List Value,w'.ownsRow B e s v0 len xs/\∀ i,i < len->RL (Rep g.h) (xR ii kk get l i) ((xs.drop (i * s)).take s):=by
  rcases hx.2 with ⟨h1,rfl⟩ | ⟨k',cap,cur,h1,hB,hg,hn,hcap,hsz,htk⟩
  · exact absurd hi (by omega)
  · rw [h1] at hob; simp only [Value.ownBlock, bJ] at hob; subst hob;rw[hC] at hg;simp only[bJ,Obj.cells.injEq] at hg;obtain⟨rfl,_⟩:=hg;have hlen:=hl.length;have hii:ii * s+s<=len * s:=by have:=KP s (Nat.succ_le_of_lt hi);rw[Oj] at this;exact this
    have hle2:len * s<=cap * s:=KP s hn;have hCs:C.toList.length=cap * s:=by simpa using hsz
    refine⟨(spl C.toList (ii * s+kk) us).take (len * s),⟨?_,.inr ⟨k',cap,_,h1,hB,hC',hn,hcap,?_,rfl⟩⟩,?_⟩
    · rw[List.length_take,jA,hCs];omega
    · simp[jA,hsz]
    · intro j hj;have hjs:j * s+s<=len * s:=by have:=KP s (Nat.succ_le_of_lt hj);rw[Oj] at this;exact this
      have hgl:(get j).length=s:=by
        rw[(hr j hj).length];simp only[List.length_take,List.length_drop,hx.1];omega
      have hsl:(xR ii kk get l j).length=s:=by unfold xR;split <;> simp[jA,hgl]
      refine RL.of_get ?_ ?_
      · rw[hsl];simp only[List.length_take,List.length_drop,jA,hCs];omega
      · intro q x v hq hvq;have hqs:q < s:=by have:=(wW.1 hq).1;omega
        rw[C9,if_pos hqs,dqI,C9,if_pos (by omega),yf _ _ _ _ (by rw[hCs];omega)] at hvq;have old:∀ y,(get j)[q]? = some y->∃ v,C.toList[j * s+q]? = some v/\Rep g.h y v:=by
          intro y hy;obtain⟨v,hv,hyv⟩:=(hr j hj).get q y hy;refine⟨v,?_,hyv⟩;rw[C9,if_pos hqs,dqI,<- htk,C9,if_pos (by omega)] at hv;exact hv
        unfold xR at hq;split at hq
        · rename_i hji;have hji:=jb hji;subst hji;rw[yf _ _ _ _ (by rw[hgl];omega)] at hq;by_cases hin:kk<=q/\q < kk+l.length
          · rw [if_pos hin] at hq;rw[if_pos (by rw[<- hlen];omega),show j * s+q - (j * s+kk)=q - kk by omega] at hvq;obtain⟨u,hu,hxu⟩:=hl.get _ _ hq;rw[hu] at hvq;simp only[bJ] at hvq;rw[<- hvq];exact hxu
          · rw [if_neg hin] at hq;rw[if_neg (by rw[<- hlen];omega)] at hvq;obtain⟨u,hu,hxu⟩:=old x hq;rw[hu] at hvq;simp only[bJ] at hvq;rw[<- hvq];exact hxu
        · rename_i hji;have hji:=Nat.ne_of_beq_eq_false hji;have hout : ¬ (ii * s+kk<=j * s+q/\j * s+q < ii * s+kk+us.length):=by
            rw[<- hlen];rcases Nat.lt_or_gt_of_ne hji with h | h
            · have:=KP s (Nat.succ_le_of_lt h);rw[Oj] at this;omega
            · have:=KP s (Nat.succ_le_of_lt h);rw[Oj] at this;omega
          rw[if_neg hout] at hvq;obtain⟨u,hu,hxu⟩:=old x hq;rw[hu] at hvq;simp only[bJ] at hvq;rw[<- hvq];exact hxu

theorem zgZ {B L e s b len : Nat} {get : Nat → List PV} {k ii kk : Nat} {C : Array Value} {w' : World} {l : List PV} {us : List Value}
    (hv:yc P g w B L e s b len get) (hob:(g.sv L).ownBlock=some k) (hi:ii < len) (hk:kk+l.length<=s) (hC:w.heap[k]? = some (.cells C e (0,0)))
    (hC':w'.heap[k]? = some (.cells (spl C.toList (ii * s+kk) us).toArray e (0,0))) (hl:RL (Rep g.h) l us) (hu:pq (xR ii kk get l)):yc P g w' B L e s b len (xR ii kk get l):=by
  obtain⟨hs,hinfo,xs,hx,hr⟩:=hv;exact⟨⟨hu,hs.2⟩,hinfo,zgY hx hr hob hi hk hC hC' hl⟩

theorem V4 {ii:Nat}{get:Nat->Nat->List PV}{jw:Nat->List PV}(h:Unv get) (h2:pq jw) (hs:smL (get 0 0) (jw 0)=true):Unv (lK ii jw get):=by
 have h3:∀ i j k,RS (get i j) (jw k):=λ i j k=>((h i j 0 0).trans (Ee hs (h 0 0 0 0) (h2 0 0))).trans (h2 0 k);intro i j k l;show RS ((match Nat.beq i ii with | true=>jw | false=>get i) j) ((match Nat.beq k ii with | true=>jw | false=>get k) l);cases Nat.beq i ii <;> cases Nat.beq k ii
 ·exact h _ _ _ _
 ·exact h3 _ _ _
 ·exact (h3 _ _ _).symm
 ·exact h2 _ _
theorem EG:∀ L∈bY .junk,∃ o,lk σ.aB L=some o:=λ L hL=>by simp[bY,cZ,bi] at hL

def Gm (g g':Gh):Prop:=g'.h=g.h/\g'.bk=g.bk/\g'.sv=g.sv/\∀ L i,(∃ b,g.iv L i=.map (some b))->g'.iv L i=g.iv L i
theorem zbS {g g':Gh}(H:Gm g g'){c:Cl}{x:Value}(h:gJ g c x):gJ g' c x:=by
 obtain⟨h1,h2,h3,h4⟩:=H;cases c with
 | p v=>simp only[gJ] at h ⊢;rw[h1];exact h
 | ptr L off=>simp only[gJ] at h ⊢;rw[h2];exact h
 | vptr L s i k=>simp only[gJ] at h ⊢;rw[h3];exact h
 | vec L=>simp only[gJ] at h ⊢;rw[h3];exact h
 | mo L=>simp only[gJ] at h ⊢;rw[h3];exact h
 | clo f caps=>obtain⟨cv,e,hr⟩:=h;exact⟨cv,e,mY (λ _ _ hp=>by rw[h1];exact hp) (λ L _=>by rw[h2]) hr⟩
 | undef=>exact h
 | junk=>trivial
 | dead L=>trivial
theorem zlC {g g':Gh}(H:Gm g g'){cs:List Cl}{vs:List Value}(h:RL (gJ g) cs vs):RL (gJ g') cs vs:=h.mono λ _ _=>zbS H
theorem zbT {g g':Gh}(H:Gm g g'){d:D1}{x:Value}(h:wI g d x):wI g' d x:=by
 cases d with
 | c y=>exact zbS H h
 | agg cs=>obtain⟨vs,rfl,hr⟩:=h;exact⟨vs,rfl,zlC H hr⟩
theorem znI {g g':Gh}(H:Gm g g'){d:DV}{x:Value}(h:oJ g d x):oJ g' d x:=by
 cases d with
 | one y=>exact zbT H h
 | tup ds=>obtain⟨vs,rfl,hr⟩:=h;exact⟨vs,rfl,hr.mono λ _ _=>zbT H⟩

theorem bU.setVec (S : bU P nt B w0 h0 g σ a w) {L M te bb e s by' len m ii : Nat} {ln : Nat → Nat} {get : Nat → Nat → List PV} {jw : Nat → List PV} (hL : lk σ.aB L = some (.vt te bb e s by' len ln get ii))
    (hM:lk σ.aB M=some (.vec e s by' m jw)) (hne:L ≠ M) (hi:ii < len) (hm:0 < m) (hun:Unv (lK ii jw get)) {k:Nat} {C:Array Value} {w':World} (hob:(g.sv L).ownBlock=some k) (hC:w.heap[k]? = some (.cells C te (0,0)))
    (hC':w'.heap[k]? = some (.cells (C.setIfInBounds ii (g.sv M)) te (0,0))) (hoth:∀ b,b ≠ k->w'.heap[b]? = w.heap[b]?) (hb:Ep B w w') :
    bU P nt B w0 h0 ⟨g.h,g.bk,g.sv,λ X i=>if X=L/\i=ii then g.sv M else g.iv X i⟩ { σ with aB:=(L,.vv te bb e s by' len (lK ii m ln) (lK ii jw get)) :: (M,.gone) :: σ.aB } a w':=by
  have oL:=S.obj L _ hL;obtain⟨hpos,zDv,zwe,hrow,_,hno,hel,hsep⟩:=oL;obtain⟨_,_,xsM,hxM,hrM⟩:=S.obj M _ hM;obtain⟨kM,zQy,hvM⟩:∃ kM cap,g.sv M=.slice (some ⟨kM,0,none⟩) m cap:=by
    rcases hxM.2 with ⟨_,h2⟩ | ⟨k2,cap,_,h1,_⟩
    · omega
    · exact⟨k2,cap,h1⟩
  have hoM:(g.sv M).ownBlock=some kM:=by rw[hvM];rfl
  have H:Gm g ⟨g.h,g.bk,g.sv,λ X i=>if X=L/\i=ii then g.sv M else g.iv X i⟩:=by
    refine⟨rfl,rfl,rfl,λ X i hx=>?_⟩;show (if X=L/\i=ii then _ else _)=_;rw[if_neg];rintro⟨rfl,rfl⟩;obtain⟨b,hx⟩:=hx;exact hno b hx
  have hkB:fB g L (.vt te bb e s by' len ln get ii) k:=.inl hob;have hMB:fB g M (.vec e s by' m jw) kM:=hoM
  have hlk:∀ X o,lk ((L,AO.vv te bb e s by' len (lK ii m ln) (lK ii jw get)) :: (M,.gone) :: σ.aB) X=some o ->
      (X=L/\o=.vv te bb e s by' len (lK ii m ln) (lK ii jw get))\/(X=M/\o=.gone)\/(X ≠ L/\X ≠ M/\lk σ.aB X=some o):=by
    intro X o h;rw[aV] at h;split at h
    · rename_i e;simp at h;exact .inl ⟨e.symm,h.symm⟩
    · rename_i e;rw[aV] at h;split at h
      · rename_i e2;simp at h;exact .inr (.inl ⟨e2.symm,h.symm⟩)
      · rename_i e2;exact .inr (.inr ⟨λ x=>e x.symm,λ x=>e2 x.symm,h⟩)
  have hdom:∀ X o,lk σ.aB X=some o->∃ o',lk ((L,AO.vv te bb e s by' len (lK ii m ln) (lK ii jw get)) :: (M,.gone) :: σ.aB) X=some o':=by
    intro X o h;rw[aV];split
    · exact⟨_,rfl⟩
    · rw [aV]; split
      · exact⟨_,rfl⟩
      · exact⟨o,h⟩
  have zDx:∀ X i,X ≠ L->(if X=L/\i=ii then g.sv M else g.iv X i)=g.iv X i:=λ X i hx=>if_neg λ e=>hx e.1;have zbU:∀ i,i ≠ ii->(if L=L/\i=ii then g.sv M else g.iv L i)=g.iv L i:=λ i hx=>if_neg λ e=>hx e.2;have hsame:∀ X,X ≠ L->gG g ⟨g.h,g.bk,g.sv,λ X i=>if X=L/\i=ii then g.sv M else g.iv X i⟩ X:=λ X hx=>⟨rfl,rfl,funext λ i=>zDx X i hx⟩;have hMk:kM ≠ k:=λ e=>hne (S.sep L _ k M _ hL hM hkB (by rw[<- e];exact hMB));have zbV:∀ b,fB ⟨g.h,g.bk,g.sv,λ X i=>if X=L/\i=ii then g.sv M else g.iv X i⟩ L (.vv te bb e s by' len (lK ii m ln) (lK ii jw get)) b->fB g L (.vt te bb e s by' len ln get ii) b\/b=kM:=by
    rintro b (hb' | ⟨i,hi',hb'⟩)
    · exact .inl (.inl hb')
    · by_cases e : i = ii
      · subst e;have hb':(if L=L/\i=i then g.sv M else g.iv L i).ownBlock=some b:=hb';rw[if_pos ⟨rfl,rfl⟩,hoM] at hb';simp only[bJ] at hb';exact .inr hb'.symm
      · have hb' : (if L = L ∧ i = ii then g.sv M else g.iv L i).ownBlock = some b := hb';rw[zbU i e] at hb';exact .inl (.inr ⟨i,hi',e,hb'⟩)
  refine⟨S.dfr,S.size,λ t d h=>znI H (S.env t d h),?_,?_,?_,?_,S.le0,S.hn,S.below.trans (.of hb),Bv S.bs hb.size,λ t d h X hX=>?_,?_⟩
  · intro X o ho;rcases hlk X o ho with ⟨rfl,rfl⟩ | ⟨rfl,rfl⟩ | ⟨n1,n2,ho⟩
    · refine ⟨⟨hun, hpos.2⟩, zDv, zwe, ?_, ?_, ?_⟩
      · refine ⟨by simp, ?_⟩;rcases hrow.2 with ⟨h1,h2⟩ | ⟨k',cap,cur,h1,hB,hg,hn,hcap,hsz,htk⟩
        · omega
        · rw [h1] at hob; simp only [Value.ownBlock, bJ] at hob; subst hob;rw[hC] at hg;simp only[bJ,Obj.cells.injEq] at hg;obtain⟨rfl,_⟩:=hg;refine .inr ⟨k',cap,_,h1,hB,hC',hn,hcap,by simpa using hsz,?_⟩;apply List.ext_getElem?;intro j;have hj:=congrArg (λ l=>l[j]?) htk;simp only[C9,VJ] at hj;simp only[Array.toList_setIfInBounds,C9,List.getElem?_set,VJ];by_cases hjn:j < len * 1
          · have zDy : j < len := by omega
            rw[if_pos hjn] at hj ⊢;rw[List.getElem?_range zDy] at hj ⊢;simp only[Option.map_some] at hj ⊢;by_cases e:ii=j
            · subst e;rw[if_pos rfl,if_pos (by simp;omega)];simp
            · rw [if_neg e, hj];simp only[true_and];rw[if_neg (λ x=>e x.symm)]
          · rw[if_neg hjn,dqM (by simp;omega)];rfl
      · intro i hi';by_cases e:i=ii
        · subst e;have e2:lK i m ln i=m:=by simp[lK]
          have e3:lK i jw get i=jw:=by simp[lK]
          rw[e2,e3];show (if X=X/\i=i then g.sv M else g.iv X i).oneCell'=true/\(m=0->(if X=X/\i=i then g.sv M else g.iv X i)=_)/\∃ xs,w'.ownsRow B _ s (if X=X/\i=i then g.sv M else g.iv X i) m xs/\_;rw[if_pos ⟨rfl,rfl⟩];refine⟨by rw[hvM];rfl,λ h=>absurd h (by omega),xsM,gU hxM λ b hb'=>hoth b λ e=>hMk ?_,hrM⟩;rw[hoM] at hb';simp only[bJ] at hb';omega
        · have hbf : Nat.beq i ii = false := by cases hq : Nat.beq i ii with | true => exact absurd (jb hq) e | false => rfl
          have e2:lK ii m ln i=ln i:=by simp only[lK,hbf]
          have e3:lK ii jw get i=get i:=by simp only[lK,hbf]
          rw[e2,e3];show (if X=X/\i=ii then g.sv M else g.iv X i).oneCell'=true/\(ln i=0->(if X=X/\i=ii then g.sv M else g.iv X i)=_)/\∃ xs,w'.ownsRow B _ s (if X=X/\i=ii then g.sv M else g.iv X i) (ln i) xs/\_;rw[zbU i e];obtain⟨x1,x2,xs,x3,x4⟩:=hel i hi' e;exact⟨x1,x2,xs,gU x3 λ b hb'=>hoth b λ e'=>(hsep i b hi' e hb').1 (by rw[e'];exact hob),x4⟩
      · intro i b hi' hb';have fresh:∀ j,j < len->j ≠ ii->(g.iv X j).ownBlock ≠ some kM:=λ j hj hji e=>hne (S.sep X _ kM M _ hL hM (.inr ⟨j,hj,hji,e⟩) hMB);by_cases e:i=ii
        · subst e;have hb':(if X=X/\i=i then g.sv M else g.iv X i).ownBlock=some b:=hb';rw[if_pos ⟨rfl,rfl⟩,hoM] at hb';simp only[bJ] at hb';subst hb';refine⟨λ h=>hMk ?_,λ j hj hjb=>?_⟩
          · rw[hob] at h;simp only[bJ] at h;exact h.symm
          · by_cases e : j = i
            · exact e.symm
            · have hjb : (if X = X ∧ j = i then g.sv M else g.iv X j).ownBlock = _ := hjb;rw[zbU j e] at hjb;exact (fresh j hj e hjb).elim
        · have hb' : (if X = X ∧ i = ii then g.sv M else g.iv X i).ownBlock = some b := hb';rw[zbU i e] at hb';have hb2:=hb';refine⟨(hsep i b hi' e hb').1,λ j hj hjb=>?_⟩;have hjb:(if X=X/\j=ii then g.sv M else g.iv X j).ownBlock=_:=hjb;by_cases e2:j=ii
          · subst e2;rw[if_pos ⟨rfl,rfl⟩,hoM] at hjb;simp only[bJ] at hjb;subst hjb;exact (fresh i hi' e hb2).elim
          · rw [zbU j e2] at hjb;exact (hsep i b hi' e hb').2 j hj e2 hjb
    · trivial
    · cases o with
      | box ty cs =>
        obtain⟨C',hC2,hr⟩:=S.obj X _ ho;refine⟨C',?_,zlC H hr⟩;rw[hoth _ λ e=>n1 (S.sep X _ k L _ ho hL e hkB)];exact hC2
      | _=>exact iK (S.obj X _ ho) (hsame X n1) (λ _ h=>by simp[dJ] at h) (λ _ _ h=>h) λ b hb'=>hoth b λ e=>n1 (S.sep X _ b L _ ho hL hb' (by rw[e];exact hkB))
  · intro X o b ho fO;rcases hlk X o ho with ⟨rfl,rfl⟩ | ⟨rfl,rfl⟩ | ⟨n1,n2,ho⟩
    · rcases zbV b fO with h | rfl
      · exact S.own _ _ b hL h
      · exact S.own M _ _ hM hMB
    · exact fO.elim
    · rw[eU (hsame X n1)] at fO;exact S.own X o b ho fO
  · intro X o b Y o' ho ho' hb1 hb2;rcases hlk X o ho with ⟨rfl,rfl⟩ | ⟨rfl,rfl⟩ | ⟨n1,n2,ho2⟩ <;> rcases hlk Y o' ho' with ⟨rfl,rfl⟩ | ⟨rfl,rfl⟩ | ⟨n1',n2',kD⟩
    · rfl
    · exact hb2.elim
    · rw [eU (hsame Y n1')] at hb2;rcases zbV b hb1 with h | rfl
      · exact S.sep _ _ b Y _ hL kD h hb2
      · exact (n2' (S.sep M _ _ Y _ hM kD hMB hb2).symm).elim
    · exact hb1.elim
    · exact hb1.elim
    · exact hb1.elim
    · rw [eU (hsame X n1)] at hb1;rcases zbV b hb2 with h | rfl
      · exact S.sep X _ b _ _ ho2 hL hb1 h
      · exact (n2 (S.sep X _ _ M _ ho2 hM hb1 hMB)).elim
    · exact hb2.elim
    · rw [eU (hsame X n1)] at hb1;rw[eU (hsame Y n1')] at hb2;exact S.sep X _ b Y _ ho2 kD hb1 hb2
  · exact S.hw.same λ b x hbx=>hoth b λ e=>by subst e;have:=(S.own L _ b hL hkB).2;rw[hbx] at this;cases this
  · obtain⟨o,ho⟩:=S.clE t d h X hX;exact hdom X o ho
  · intro X o ho Y hY;rcases hlk X o ho with ⟨rfl,rfl⟩ | ⟨rfl,rfl⟩ | ⟨n1,n2,ho⟩
    · simp[dJ] at hY
    · simp[dJ] at hY
    · obtain⟨o',ho'⟩:=S.clO X o ho Y hY;exact hdom Y o' ho'

theorem Yw {o : Oper} {t : TypeId} {x y : Operand} {A : aH} (S : bU P nt B w0 h0 g σ a w) (hd : dE nt o.dst = true) (hop : o.op = .store t x y)
    (hA:act P Γ o (eH σ.env) (lk σ.aB)=A) (hs:A.safe):gV P nt B w0 h0 r n i o A σ a w Q:=by
  simp only[act,aSt,hop] at hA;split at hA
  · rename_i m L off d hsz hx hy;have hx':=(gy S hx).1;simp only[gJ] at hx';have hdR:=S.ev y;have hdL:=S.evLab y;rw[hy] at hdR hdL;split at hA
    · rename_i ty cells hL;obtain⟨C,hC,hr⟩:=S.obj L _ hL;split at hA
      · rename_i hcond;simp only[fE,Nat.ble_eq] at hcond;obtain⟨⟨hm,hle⟩,hok⟩:=hcond;have hm:=jb hm;subst hA;have hcr:=qE hdR hok;have hcl:=hcr.length;have hrl:=hr.length;have hvm:(a.eval y).cells.size=m:=by rw[<- hm,hcl];simp
        have hCl:cells.length=C.size:=by rw[hrl];simp
        obtain⟨w',hrun,hb,hsize,hoth,h5,h6,h7,h8⟩:=rO (P:=P) (m:=m) (off:=off) (v:=a.eval y) hsz hvm hC (by omega) (cells_one hdR hok);have hown:=S.own L _ _ hL rfl
        have S' := S.write (o' := .box ty (spl cells off d.cells)) hL (fun b hb => hb) (yt hown.1 hsize hoth h5 h6 h7 h8) (fun b hb => hoth b (fun e => hb (by rw [e]; rfl)))
          ⟨_,hb,by simpa using hr.spl hcr off⟩ (λ M hM=>by
            rcases VX off M hM with h | h
            · exact S.clO L _ hL M h
            · refine hdL M ?_;cases d with
              | c z=>simpa [D1.cells,bY,cZ] using h
              | agg cs=>simpa [D1.cells,bY,cZ] using h)
        refine Dl (by simp[hop]) (w':=w') ?_ ⟨g,_,rfl,by rw[eu];exact S'.put hd (d:=.junk) trivial EG _⟩;simp only[execOp,hop,fD,Instr.storeAt,hx',Instr.sureAddr,iT,fM,hrun]
      · subst hA;exact hs.elim
    · subst hA;exact hs.elim
  · rename_i m L s ii kk d hsz hx hy;obtain⟨b,hob,hx'⟩:=(gy S hx).1;have hdR:=S.ev y;rw[hy] at hdR;split at hA
    · rename_i e s' by' len get hL;split at hA
      · rename_i l hl;split at hA
        · rename_i hcond;simp only[fE,Nat.ble_eq] at hcond;obtain⟨⟨⟨hss,hm⟩,hle⟩,hshape⟩:=hcond;have hss:=jb hss;have hm:=jb hm;subst hss;subst hA;have hlt:ii < len:=hs;have hcs:=kY hl;have hok:d.cells.all xQ=true:=by rw[hcs];exact zgX l
          have hcr:=qE hdR hok;have hcl:=hcr.length;rw[hcs] at hcr;have hcr:=RL.map_left.1 hcr;obtain⟨b',C,fO,⟨cap,hsv⟩,hC,hCs,hgl,_⟩:=qG (S.obj L _ hL) hlt;rw[hob] at fO;simp only[bJ] at fO;subst fO;have hlc:l.length=(a.eval y).cells.size:=by rw[hcs,List.length_map] at hcl;simpa using hcl
          obtain⟨w',hrun,hb,hsize,hoth,h5,h6,h7,h8⟩:=rO (P:=P) (v:=a.eval y) hsz (by omega) hC (show ii * s+kk+m<=C.size by omega) (cells_one hdR hok);have hown:=S.own L _ _ hL hob;have hun:=(S.obj L _ hL).1.1;have hu0:=(hun 0 ii).length;have hvr:=zgZ (S.obj L _ hL) hob hlt (by omega) hC hb hcr (VT hun (by omega) (by rw[hm];exact hshape) (uu hcr));have hnz:nzG (get 0) (xR ii kk get l)=xR ii kk get l:=SG λ j=>by
            have h1:=VT (i:=ii) hun (show kk+l.length<=(get 0).length by omega) (by rw[hm];exact hshape) (uu hcr) (ii+1) j;have h2:xR ii kk get l (ii+1)=get (ii+1):=by unfold xR;rw[show Nat.beq (ii+1) ii=false from Bool.eq_false_iff.2 λ h=>by have:=jb h;omega]
            rw[h2] at h1;exact (hun 0 (ii+1)).trans h1
          rw[hnz];have S':=S.write (o':=.vec e s by' len (xR ii kk get l)) hL (λ b hb=>hb) (yt hown.1 hsize hoth h5 h6 h7 h8) (λ k hk=>hoth k (λ e=>hk (by rw[e];exact hob))) hvr (λ M hM=>by simp[dJ] at hM);refine Dl (by simp[hop]) (w':=w') ?_ ⟨g,_,rfl,by rw[eu];exact S'.put hd (d:=.junk) trivial EG _⟩;simp only[execOp,hop,fD,Instr.storeAt,hx',Instr.sureAddr,iT,fM,hrun]
        · subst hA;exact hs.elim
      · subst hA;exact hs.elim
    · rename_i te bb e s' by' len ln get io hL;split at hA
      · rename_i M;split at hA
        · rename_i e2 s2 b2 mm jw hM;split at hA
          · rename_i hcond;simp only[fE,Bool.not_eq_true'] at hcond;obtain⟨⟨⟨h1,h2⟩,h3⟩,h4⟩:=hcond;have h1:=jb h1;have h2:=jb h2;have h3:=jb h3;have h4:=Nat.ne_of_beq_eq_false h4;subst h1 h2 h3;split at hA
            · rename_i hq;obtain⟨rfl,rfl,rfl,hshape⟩:=hq;subst hA;have hnz:znq (get 0 0) (lK ii jw get)=lK ii jw get:=zgM λ i j=>by
                have h1:=V4 (ii:=ii) (S.obj L _ hL).1.1 (S.obj M _ hM).1.1 hshape (ii+1) 0 i j;have h2:lK ii jw get (ii+1)=get (ii+1):=by unfold lK;rw[show Nat.beq (ii+1) ii=false from Bool.eq_false_iff.2 λ h=>by have:=jb h;omega]
                rw[h2] at h1;exact ((S.obj L _ hL).1.1 0 0 (ii+1) 0).trans h1
              rw[hnz];have hlt:ii < len/\ii=io/\0 < mm:=hs;obtain⟨hlt1,rfl,hlt2⟩:=hlt;obtain⟨b',C,cap,hsv,hC,hcell⟩:=OY (S.obj L _ hL) hlt1;obtain⟨_,hB,hsz2⟩:∃ _:True,B<=b'/\ii < C.size:=⟨trivial,(S.own L _ b' hL (.inl (by rw[hsv];rfl))).1,(RX.1 hcell).1⟩;rw[hsv] at hob;simp only[Value.ownBlock,bJ] at hob;subst hob;have hyv:a.eval y=g.sv M/\_:=hdR;have hcl:(a.eval y).cells = #[g.sv M]:=by
                obtain⟨_,_,xsM,hxM,_⟩:=S.obj M _ hM;rw[hyv.1];rcases hxM.2 with ⟨h1,_⟩ | ⟨_,_,_,h1,_⟩ <;> rw[h1] <;> rfl
              have hoc:(g.sv M).oneCell'=true:=by
                obtain⟨_,_,xsM,hxM,_⟩:=S.obj M _ hM;rcases hxM.2 with ⟨h1,_⟩ | ⟨_,_,_,h1,_⟩ <;> rw[h1] <;> rfl
              obtain⟨w',hrun,hb,hsize,hoth,h5,h6,h7,h8⟩:=rO (P:=P) (m:=1) (off:=ii * 1+0) (v:=a.eval y) hsz (by rw[hcl];rfl) hC (by omega) (by rw[hcl];simpa using hoc);have hb':w'.heap[b']? = some (.cells (C.setIfInBounds ii (g.sv M)) te (0,0)):=by
                rw[hb,hcl];congr 2;simp only[spl];apply Array.toList_inj.1;simp
              have S':=S.setVec hL hM h4 hlt1 hlt2 (V4 (S.obj L _ hL).1.1 (S.obj M _ hM).1.1 hshape) (by rw[hsv];rfl) hC hb' hoth (yt hB hsize hoth h5 h6 h7 h8);refine Dl (by simp[hop]) (w':=w') ?_ ⟨_,_,rfl,by rw[eu];exact S'.put hd (d:=.junk) trivial EG _⟩;simp only[execOp,hop,fD,Instr.storeAt,hx',Instr.sureAddr,iT,fM,hrun]
            · subst hA;exact hs.elim
          · subst hA;exact hs.elim
        · subst hA;exact hs.elim
      · subst hA;exact hs.elim
    · subst hA;exact hs.elim
  · subst hA;exact hs.elim
end
end Go.Pm
namespace Go.Pm
variable [aJ]
open Go.RowKit (Below)

section
variable {P:Program}{Γ:aX}{nt B:Nat}{w0:World}{h0:Fz}{g:Gh}{σ:St}{a:Act}{w:World}{r:Option Nat}{n i:Nat}{Q:Exit->Act->World->Prop}

theorem BB {ob : Nat → Option AO} : ∀ {cs : List Cl} {l : List PV} {u : jT}, ik ob cs = some (l, u) → cs.all xQ = true ∧ l.length = cs.length
  | [],l,u,h=>by simp[ik] at h;rw[h.1];exact⟨rfl,rfl⟩
  | c :: cs,l,u,h=>by
    simp only[ik] at h;split at h
    · rename_i v u1 l2 u2 h1 h2;simp only[bJ,eF] at h;rw[<- h.1];obtain⟨h3,h4⟩:=BB h2;refine⟨?_,by simp[h4]⟩;have:xQ c=true:=by
        unfold wo at h1;split at h1
        · rfl
        · rfl
        · cases h1
      simp[this,h3]
    · cases h

theorem EH {ob:Nat->Option AO}{ev:Operand->DV}{s:Nat} : ∀ (parts:List (Nat×Operand)) (i:Nat) (ls:List (List PV)) (u:jT) (gK:List Nat),
  gY ob ev s i parts=some (ls,u,gK)->dW ob u
 | [],i,ls,u,gK,h=>by simp[gY] at h;rw[h.2.1];exact dW.nil ob
 | (j,o) :: r,i,ls,u,gK,h=>by
  simp only[gY] at h;split at h
  ·split at h
   ·split at h
    ·rename_i h1 h2;split at h
     ·simp only [bJ, eF] at h;rw[<- h.2.1];exact (Ew h1).append (EH r _ _ _ _ h2)
     ·cases h
    ·cases h
   ·cases h
  ·cases h

theorem EI {ob : Nat → Option AO} {ev : Operand → DV} {ρ : Operand → Value} {s : Nat} {u' : jT} {h' : Fz} (hev : ∀ o, oJ g (ev o) (ρ o)) (F : ed g ob u' h') :
    ∀ (parts:List (Nat×Operand)) (i:Nat) (ls:List (List PV)) (u:jT) (gK:List Nat) (C:Array Value) (N:Nat),gY ob ev s i parts=some (ls,u,gK)->(∀ y∈u,y∈u') ->
      C.size=N * s->i+ls.length<=N ->
      ∃ D:Array Value,Instr.fill (λ k=>some (k * s,s)) C (parts.map λ x=>(x.1,ρ x.2))=some D/\D.size=C.size/\(∀ q,q < i * s->D[q]? = C[q]?) /\
        ∀ k l,ls[k]? = some l->RL (Rep h') l ((D.toList.drop ((i+k) * s)).take s)
  | [],i,ls,u,gK,C,N,h,hu,hC,hN=>by
    simp[gY] at h;refine⟨C,rfl,rfl,λ _ _=>rfl,?_⟩;intro k l hk;rw[h.1] at hk;simp at hk
  | (j,o) :: r,i,ls,u,gK,C,N,h,hu,hC,hN=>by
    have hd:=hev o;simp only[gY] at h;split at h
    · rename_i hij;have hij:=jb hij;subst hij;split at h
      · rename_i d he;rw[he] at hd;split at h
        · rename_i l1 u1 ls1 us1 zwh h1 h2;split at h
          · rename_i hlen;have hlen:=jb hlen;simp only[bJ,eF] at h;obtain⟨hls,hus,_⟩:=h;subst hls;rw[<- hus] at hu;obtain⟨hok,hll⟩:=BB h1;have hcr:=qE hd hok;have hcl:=hcr.length;have hrep:=F.repL0 h1 (λ y hy=>hu y (dL.2 (.inl hy))) hcr
            have hvs : (ρ o).cells.size = s := by have : (ρ o).cells.toList.length = (ρ o).cells.size := by simp
                                                  omega
            simp only[Oi] at hN;have hb:i * s+s<=N * s:=by have:=KP s (show i+1<=N by omega);rw[Oj] at this;exact this
            obtain ⟨D, hD, hDs, hlow, hel⟩ := EI hev F r (i + 1) ls1 us1 zwh (spl C.toList (i * s) (ρ o).cells.toList).toArray N h2 (fun y hy => hu y (dL.2 (.inr hy)))
              (by simp[jA,hC]) (by omega)
            have hsz:(spl C.toList (i * s) (ρ o).cells.toList).toArray.size=C.size:=by simp[jA]
            have hget:∀ q,(spl C.toList (i * s) (ρ o).cells.toList).toArray[q]? = if i * s<=q/\q < i * s+s then (ρ o).cells.toList[q - i * s]? else C[q]?:=by
              intro q;simp only[List.getElem?_toArray];rw[yf _ _ _ _ (by simp[hvs,hC];omega)];simp[hvs]
            refine⟨D,?_,hDs.trans hsz,?_,?_⟩
            · simp only [nG, Instr.fill];have h3 : ¬ ((decide ((ρ o).cells.size ≠ s) || decide (i * s+(ρ o).cells.size > C.size))=true):=by simp[hvs,hC];omega
              rw[if_neg h3,<- hD];refine congrArg (λ z=>Instr.fill _ z _) ?_;have:=zZ (i * s) (ρ o).cells.toList 0 C;rw[Nat.add_zero] at this;rw[<- this];cases (ρ o).cells;simp
            · intro q hq;rw[hlow q (by rw[Oj];omega),hget,if_neg (by omega)]
            · intro k l hk;cases k with
              | zero =>
                simp only[List.getElem?_cons_zero,bJ] at hk;subst hk;have e:(D.toList.drop ((i+0) * s)).take s=(ρ o).cells.toList:=by
                  apply List.ext_getElem?;intro q;by_cases hq:q < s
                  · rw [C9, if_pos hq, dqI, Nat.add_zero];have:=hlow (i * s+q) (by rw[Oj];omega);rw[hget,if_pos (by omega),show i * s+q - i * s=q by omega] at this;simpa using this
                  · rw [C9, if_neg hq];symm;apply dqM;simp[hvs];omega
                rw[e];exact hrep
              | succ k =>
                have:=hel k l (by simpa using hk);rwa[show i+1+k=i+(k+1) by omega] at this
          · cases h
        · cases h
      · cases h
    · cases h

theorem EJ (ls:List (List PV)) (k:Nat) (h:k < ls.length):ls[k]? = some (wX ls k):=by
 unfold wX;split
 ·simp at h
 ·rename_i c;simp at h;subst h;rfl
 ·rename_i c r _;have:∃ x,(c :: r)[k]? = some x:=⟨_,zL h⟩;obtain⟨x,hx⟩:=this;simp only[hx]

theorem gI {e:TypeId}{z:List Cl}(hz:fA P e=some z){ie:TypeInfo}(hi:P.info? e=some ie):∃ v,ie.zero=some v/\v.cells.size=ie.size:=by
 obtain⟨i',v,h1,h2,h3⟩:=Yl hz;rw[hi] at h1;simp only[bJ] at h1;subst h1;exact⟨v,h2,h3⟩

theorem EL {o : Oper} {t : TypeId} {m : Nat} {parts : Array (Nat × Operand)} {A : aH} (S : bU P nt B w0 h0 g σ a w) (hd : dE nt o.dst = true) (hop : o.op = .buildSlice t m parts)
    (hA:act P Γ o (eH σ.env) (lk σ.aB)=A) (hs:A.safe):gV P nt B w0 h0 r n i o A σ a w Q:=by
  simp only[act,aBs,hop] at hA;split at hA
  · rename_i e hu;split at hA
    · rename_i ie hi;split at hA
      · rename_i ls u gK hp;split at hA
        · rename_i z dst hcond hz hdst;split at hA
          · rename_i hfresh;simp only[fE,Nat.ble_eq] at hcond;obtain⟨⟨⟨hm,hbig⟩,hpos⟩,hshape⟩:=hcond;have hm:=jb hm;subst hA;obtain⟨zv,hzv,hzs⟩:=gI hz hi;have hok:=EH _ _ _ _ _ hp;obtain⟨h',S1,F⟩:=S.freeze hok;have hsz:mg P e=some ie.size:=by simp[mg,hi]
            obtain⟨D,hD,hDs,_,hel⟩:=EI (λ x=>S.ev x) F parts.toList 0 ls u gK ((Array.range (m * ie.size)).map (zv.cells[· % zv.cells.size]!)) m hp (λ _ h=>h) (by simp) (by omega);have zg0:D.size=m * ie.size:=by rw[hDs];simp
            have hmm:m<=1000000:=Bv (Nat.le_mul_of_pos_right m hpos) hbig;let w':=w.alloc (.cells D e);have hrun:(execOp a.eval o).run P w=.ok (.value (.slice (some ⟨w.heap.size,0,none⟩) m m)) w':=by
              simp only[execOp,hop,Instr.buildSlice,fD,run_underlying hu,fM,run_sizeOf hsz];rw[Sem.run_ite,if_neg (by omega)];by_cases h00:m * ie.size=0
              · have hm0 : m = 0 := by rcases Nat.mul_eq_zero.1 h00 with h | h; · exact h
                                       · omega
                subst hm0;have hpn:parts.toList=[]:=by
                  cases hpl:parts.toList with
                  | nil=>rfl
                  | cons x xs =>
                    rw[hpl] at hp;obtain⟨j,q⟩:=x;simp only[gY] at hp;split at hp
                    · split at hp
                      · split at hp
                        · split at hp
                          · simp only [bJ, eF] at hp;rw[<- hp.1] at hm;simp at hm
                          · cases hp
                        · cases hp
                      · cases hp
                    · cases hp
                have hDe:D = #[]:=by apply Array.eq_empty_of_size_eq_zero;simp[zg0]
                rw[if_pos (by simp)];simp only[fD,iT,fM,Array.toList_map,hpn,List.map_nil,Instr.fill];simp only[hDe,newRow,Nat.zero_mul,fD,run_newObj,fM,iT,w'];rw[show (Array.range 0) = #[] from rfl,List.map_toArray];rfl
              · rw [if_neg h00];simp only[fD,jh hi hzv,iT,fM,Array.toList_map];rw[hD];simp[w',newRow]
            have hnz:nzG (wX (ls.map (ww P e)) 0) (wX (ls.map (ww P e)))=wX (ls.map (ww P e)):=SG λ i=>OB (λ c hc=>by
              obtain⟨c,hc,rfl⟩:=vC.1 hc;obtain⟨k,hk⟩:=List.getElem?_of_mem ‹c∈ls›;exact uu (qA (hel k _ hk))) hshape 0 i
            rw[hnz];have zbW:yc P ((⟨h',g.bk,g.sv,g.iv⟩:Gh).setSv dst (.slice (some ⟨w.heap.size,0,none⟩) m m)) w' B dst e ie.size ie.bytes m (wX (ls.map (ww P e))):=by
              refine⟨⟨OB (λ c hc=>?_) hshape,hpos⟩,⟨ie,zv,hi,rfl,rfl,hzv,hzs⟩,D.toList,?_,?_⟩
              · obtain ⟨c, hc, rfl⟩ := vC.1 hc;obtain⟨k,hk⟩:=List.getElem?_of_mem ‹c∈ls›;exact uu (qA (hel k _ hk))
              · rw [show ((⟨h', g.bk, g.sv, g.iv⟩ : Gh).setSv dst (.slice (some ⟨w.heap.size, 0, none⟩) m m)).sv dst = .slice (some ⟨w.heap.size, 0, none⟩) m m by simp [Gh.setSv]];refine⟨by simpa using zg0,.inr ⟨w.heap.size,m,D,rfl,S.bs,heap_alloc_new w _,iZ _,?_,zg0,?_⟩⟩
                · simp only[maxLen];omega
                · rw[<- zg0,<- Array.length_toList,List.take_length]
              · intro k hk;have:=hel k _ (EJ ls k (by omega));rw[Nat.zero_add] at this;have e2:wX (ls.map (ww P e)) k=ww P e (wX ls k):=by
                  have h1:=EJ (ls.map (ww P e)) k (by rw[List.length_map];omega);rw[VJ,EJ ls k (by omega),Option.map_some,bJ] at h1;exact h1.symm
                rw[e2];exact qA this
            have hfr2:lk (u ++ σ.aB) dst=none:=by
              rw[fC];cases hl:lk u dst with
              | none=>exact hfresh
              | some x =>
                have:=hok _ (dY hl);rcases this with ⟨_,_,_,_,_,h5,_⟩ | ⟨_,_,_,_,h5,_⟩ | ⟨_,_,_,_,_,_,_,_,h5,_⟩ <;> (simp only at h5;rw[hfresh] at h5;cases h5)
            have S2:=S1.newVec (t:=dst) (w':=w') hfr2 ⟨(Below.refl B w).alloc S.bs _,iZ _⟩ (λ b hb=>heap_alloc_old w _ b hb) (λ b hb=>by simp[Value.ownBlock] at hb;omega) zbW;refine lW (by simp[hop]) hrun ⟨(⟨h',g.bk,g.sv,g.iv⟩:Gh).setSv dst (.slice (some ⟨w.heap.size,0,none⟩) m m),σ.upd i o.dst (wr gK ++ [(dst,true)]) (.cl (.vec dst)) ((dst,.vec e ie.size ie.bytes m (wX (ls.map (ww P e)))) :: u) [],rfl,?_⟩;rw[eu];refine S2.put (v:=.slice (some ⟨w.heap.size,0,none⟩) m m) hd (d:=.cl (.vec dst)) ?_ ?_ _
            · simp[oJ,wI,gJ,Gh.setSv,Value.oneCell']
            · intro L hL;simp[bY,cZ,bi] at hL;subst hL;exact⟨_,by rw[aV,if_pos rfl]⟩
          · subst hA;exact hs.elim
        · subst hA;exact hs.elim
      · subst hA;exact hs.elim
    · subst hA;exact hs.elim
  · subst hA;exact hs.elim
end
end Go.Pm
namespace Go.Pm
variable [aJ]
open Go.RowKit (Below)

theorem lN {α:Type}{f:α->α}{l:List (Nat×α)}{k:Nat} : lk (kills f l) k=(lk l k).map f:=by
 induction l with
 | nil=>rfl
 | cons x l ih =>
  obtain⟨j,a⟩:=x;rw[kills,aV,aV];split
  ·rfl
  ·exact ih

section
variable {P:Program}{Γ:aX}{nt B:Nat}{w0:World}{h0:Fz}{g:Gh}{σ:St}{a:Act}{w:World}{r:Option Nat}{n i:Nat}{Q:Exit->Act->World->Prop}

theorem V5 {l:List Nat}{g':Gh}(hh:iP g.h g'.h) (hbk:∀ M,g'.bk M=g.bk M) (hs:∀ M,M ∉ l->gG g g' M){c:Cl}{x:Value}(h:gJ g c x):gJ g' (eG l c) x:=by
 cases c with
 | p v=>exact Rep.mono hh h
 | ptr M off=>simp only[eG,gJ] at h ⊢;rw[hbk M];exact h
 | vptr M s k q =>
  show gJ g' (match l.contains M with | true=>.dead M | false=>.vptr M s k q) x;cases hM:l.contains M with
  | true=>trivial
  | false =>
   have hne:M ∉ l:=by simpa using hM
   simpa [gJ,(hs M hne).2.1] using h
 | vec M =>
  show gJ g' (match l.contains M with | true=>.dead M | false=>.vec M) x;cases hM:l.contains M with
  | true=>trivial
  | false =>
   have hne:M ∉ l:=by simpa using hM
   simpa [gJ,(hs M hne).2.1] using h
 | mo M =>
  show gJ g' (match l.contains M with | true=>.dead M | false=>.mo M) x;cases hM:l.contains M with
  | true=>trivial
  | false =>
   have hne:M ∉ l:=by simpa using hM
   simpa [gJ,(hs M hne).2.1] using h
 | clo f caps=>obtain⟨cv,e,hr⟩:=h;exact⟨cv,e,mY (λ _ _=>Rep.mono hh) (λ M _=>hbk M) hr⟩
 | undef=>exact h
 | junk=>trivial
 | dead M=>trivial
theorem yu {l : List Nat} {g' : Gh} (hh : iP g.h g'.h) (hbk : ∀ M, g'.bk M = g.bk M) (hs : ∀ M, M ∉ l → gG g g' M) : ∀ {cs : List Cl} {vs : List Value}, RL (gJ g) cs vs → RL (gJ g') (cs.map (eG l)) vs
  | [],[],_=>trivial
  | [],_ :: _,h=>h.elim
  | _ :: _,[],h=>h.elim
  | _ :: _,_ :: _,h=>⟨V5 hh hbk hs h.1,yu hh hbk hs h.2⟩
theorem O6 {l:List Nat}{g':Gh}(hh:iP g.h g'.h) (hbk:∀ M,g'.bk M=g.bk M) (hs:∀ M,M ∉ l->gG g g' M){d:D1}{x:Value}(h:wI g d x):wI g' (dZ l d) x:=by
 cases d with
 | c y=>exact V5 hh hbk hs h
 | agg cs=>obtain⟨vs,rfl,hr⟩:=h;exact⟨vs,rfl,yu hh hbk hs hr⟩
theorem JH {l : List Nat} {g' : Gh} (hh : iP g.h g'.h) (hbk : ∀ M, g'.bk M = g.bk M) (hs : ∀ M, M ∉ l → gG g g' M) : ∀ {cs : List D1} {vs : List Value}, RL (wI g) cs vs → RL (wI g') (cs.map (dZ l)) vs
  | [],[],_=>trivial
  | [],_ :: _,h=>h.elim
  | _ :: _,[],h=>h.elim
  | _ :: _,_ :: _,h=>⟨O6 hh hbk hs h.1,JH hh hbk hs h.2⟩
theorem V6 {l:List Nat}{g':Gh}(hh:iP g.h g'.h) (hbk:∀ M,g'.bk M=g.bk M) (hs:∀ M,M ∉ l->gG g g' M){d:DV}{x:Value}(h:oJ g d x):oJ g' (fJ l d) x:=by
 cases d with
 | one y=>exact O6 hh hbk hs h
 | tup ds=>obtain⟨vs,rfl,hr⟩:=h;exact⟨vs,rfl,JH hh hbk hs hr⟩
theorem JI {l:List Nat}{c:Cl} : ∀ M∈bi (eG l c),M∈bi c:=by
 intro M hM;cases c with
 | vec K =>
  have hM:M∈bi (match l.contains K with | true=>.dead K | false=>.vec K):=hM;cases h:l.contains K with
  | true=>rw[h] at hM;exact hM
  | false=>rw[h] at hM;exact hM
 | vptr K s k q =>
  have hM:M∈bi (match l.contains K with | true=>.dead K | false=>.vptr K s k q):=hM;cases h:l.contains K with
  | true=>rw[h] at hM;exact hM
  | false=>rw[h] at hM;exact hM
 | mo K =>
  have hM:M∈bi (match l.contains K with | true=>.dead K | false=>.mo K):=hM;cases h:l.contains K with
  | true=>rw[h] at hM;exact hM
  | false=>rw[h] at hM;exact hM
 | _=>exact hM
theorem JJ {l:List Nat}{cs:List Cl} : ∀ M∈(cs.map (eG l)).flatMap bi,M∈cs.flatMap bi:=by
 intro M hM;simp only[jE,vC] at hM ⊢;obtain⟨_,⟨c,hc,rfl⟩,hM⟩:=hM;exact⟨c,hc,JI M hM⟩
theorem EM {l:List Nat}{d:D1} : ∀ M∈cZ (dZ l d),M∈cZ d:=by
 cases d with
 | c y=>exact JI
 | agg cs=>exact JJ
theorem JK {l:List Nat}{d:DV} : ∀ M∈bY (fJ l d),M∈bY d:=by
 cases d with
 | one y=>exact EM
 | tup ds =>
  intro M hM;simp only[fJ,bY,jE,vC] at hM ⊢;obtain⟨_,⟨d,hd,rfl⟩,hM⟩:=hM;exact⟨d,hd,EM M hM⟩
theorem JL {l:List Nat}{o:AO} : ∀ M∈dJ (dV l o),M∈dJ o:=by
 cases o with
 | box ty cs=>exact JJ
 | _=>exact λ _ h=>h

theorem bU.regrow (S : bU P nt B w0 h0 g σ a w) {L : Nat} {o0 o' : AO} {g' : Gh} {w' : World} {gs : List (Nat × AO)} {row : Option Nat} (hL : lk σ.aB L = some o0)
    (hh:g'.h=g.h) (hbk:∀ M,g'.bk M=g.bk M) (hs:∀ M,M ≠ L->gG g g' M) (hgs:∀ x∈gs,x.2=.gone/\x.1 ≠ L)
    (hg:GrB w w' row) (hrow:∀ k,row=some k->fB g L o0 k)
    (hob:∀ k,fB g' L o' k->fB g L o0 k\/w.heap.size<=k\/∃ T oT,(T,.gone)∈gs/\lk σ.aB T=some oT/\fB g T oT k)
    (hv:IX P g' w' B L o') (hlab:dJ o'=[]) (log:List (Nat×Nat×Nat)) :
    bU P nt B w0 h0 g' ⟨kills (fJ [L]) σ.env,(L,o') :: (gs ++ kills (dV [L]) σ.aB),log⟩ a w':=by
  have hlk:∀ M x,lk ((L,o') :: (gs ++ kills (dV [L]) σ.aB)) M=some x->(M=L/\x=o')\/x=.gone\/(M ≠ L/\(M,.gone) ∉ gs/\∃ o,lk σ.aB M=some o/\x=dV [L] o):=by
    intro M x h;rw[aV] at h;split at h
    · rename_i e;simp only[bJ] at h;exact .inl ⟨e.symm,h.symm⟩
    · rename_i e;rw[fC] at h;cases hgM:lk gs M with
      | some y =>
        rw[hgM] at h;simp only[bJ] at h;subst h;exact .inr (.inl (hgs _ (dY hgM)).1)
      | none =>
        rw[hgM] at h;simp only[] at h;rw[lN] at h;obtain⟨o,ho,rfl⟩:=RZ.1 h;exact .inr (.inr ⟨λ e'=>e e'.symm,Le hgM _,o,ho,rfl⟩)
  have hdom:∀ M o,lk σ.aB M=some o->∃ x,lk ((L,o') :: (gs ++ kills (dV [L]) σ.aB)) M=some x:=by
    intro M o h;rw[aV];split
    · exact⟨_,rfl⟩
    · rw [fC];cases lk gs M with
      | some y=>exact⟨y,rfl⟩
      | none=>rw[lN,h];exact⟨_,rfl⟩
  have EN:∀ M o,M ≠ L->fB g' M (dV [L] o)=fB g M o:=by
    intro M o hne;have:=hs M hne;funext k;cases o <;> simp[dV,fB,this.1,this.2.1,this.2.2]
  have hold:∀ k,k < w.heap.size->¬ fB g L o0 k->w'.heap[k]? = w.heap[k]?:=λ k hk hne=>hg.block k hk (λ e=>hne (hrow k e.symm));have hfz:Hw g.h w':=S.hw.same λ k o hk=>hold k (qF S.hw hk) (λ e=>by have:=(S.own L o0 k hL e).2;rw[this] at hk;cases hk);have hbel:Ep B w w':=⟨⟨hg.os,hg.tape,hg.output,hg.size,λ k hk=>hold k (dqS hk S.bs) (λ e=>by have:=(S.own L o0 k hL e).1;omega)⟩,hg.drawn⟩;have hnew:∀ k,w.heap.size<=k->B<=k/\g.h k=none:=λ k hk=>by
    refine⟨Bv S.bs hk,?_⟩;cases hh:g.h k with
    | none=>rfl
    | some x=>exact absurd (qF S.hw hh) (by omega)
  refine⟨by rw[hh];exact S.dfr,S.size,?_,?_,?_,?_,by rw[hh];exact hfz,by rw[hh];exact S.le0,by rw[hh];exact S.hn,S.below.trans (.of hbel),Bv S.bs hg.size,?_,?_⟩
  · intro t d ht;rw[lN] at ht;obtain⟨d',hd',rfl⟩:=RZ.1 ht;exact V6 (by rw[hh];exact λ _ _ h=>h) hbk (λ M hM=>hs M (by simpa using hM)) (S.env t d' hd')
  · intro M x hx;rcases hlk M x hx with ⟨rfl,rfl⟩ | rfl | ⟨hne,hng,o,ho,rfl⟩
    · exact hv
    · trivial
    · have hw':∀ k,fB g M o k->w'.heap[k]? = w.heap[k]?:=λ k hk =>
        hold k (gm (S.obj M o ho) hk) (λ e=>hne (S.sep M o k L _ ho hL hk e))
      have hr:=S.obj M o ho;have hsM:=hs M hne;have hle:iP g.h g'.h:=by rw[hh];exact λ _ _ h=>h
      cases o with
      | box ty cs =>
        obtain⟨C,hC,hr⟩:=hr;exact⟨C,by rw[hbk M,hw' _ rfl];exact hC,yu (by rw[hh];exact λ _ _ h=>h) hbk (λ M hM=>hs M (by simpa using hM)) hr⟩
      | fbox cs =>
        obtain⟨C,ty,fr,hC,hr⟩:=hr;exact⟨C,ty,fr,by rw[hh,hbk M];exact hC,by rw[hh];exact hr⟩
      | vec e' s' b' m2 jw=>exact JE hr hsM.2.1 hle hw'
      | fvec s' m2 jw =>
        simp only[dV,IX] at hr ⊢;rw[hsM.2.1,hh];exact hr
      | vv te bb e' s' b' m2 ln2 jw=>exact OQ hr hsM hle hw'
      | vt te bb e' s' b' m2 ln2 jw o2=>exact OT hr hsM hle hw'
      | mo kt vt q m2 F =>
        obtain⟨es,clock,hC,hr⟩:=hr;exact⟨es,clock,by rw[hsM.2.1,hw' _ rfl];exact hC,hr⟩
      | gone=>trivial
  · intro M x k hx hk;rw[hh];rcases hlk M x hx with ⟨rfl,rfl⟩ | rfl | ⟨hne,hng,o,ho,rfl⟩
    · rcases hob k hk with h | h | ⟨T, oT, _, hT, h⟩
      · exact S.own M o0 k hL h
      · exact hnew k h
      · exact S.own T oT k hT h
    · exact hk.elim
    · rw [EN M o hne] at hk;exact S.own M o k ho hk
  · intro M x k M' x' hx hx' hk hk';have cross:∀ M o,lk σ.aB M=some o->M ≠ L->(M,.gone) ∉ gs->fB g M o k->fB g' L o' k->False:=by
      intro M o ho hne hng hk hk';rcases hob k hk' with h | h | ⟨T,oT,hT,hT2,h⟩
      · exact hne (S.sep M o k L _ ho hL hk h)
      · exact absurd (gm (S.obj M o ho) hk) (by omega)
      · exact hng (by rw[S.sep M o k T oT ho hT2 hk h];exact hT)
    rcases hlk M x hx with ⟨rfl,rfl⟩ | rfl | ⟨hne,hng,o,ho,rfl⟩ <;> rcases hlk M' x' hx' with ⟨rfl,rfl⟩ | rfl | ⟨hne',zDz,o2,ho2,rfl⟩
    · rfl
    · exact hk'.elim
    · rw [EN M' o2 hne'] at hk';exact (cross M' o2 ho2 hne' zDz hk' hk).elim
    · exact hk.elim
    · exact hk.elim
    · exact hk.elim
    · rw [EN M o hne] at hk;exact (cross M o ho hne hng hk hk').elim
    · exact hk'.elim
    · rw [EN M o hne] at hk; rw [EN M' o2 hne'] at hk';exact S.sep M o k M' o2 ho ho2 hk hk'
  · intro t d ht M hM;rw[lN] at ht;obtain⟨d',hd',rfl⟩:=RZ.1 ht;obtain⟨o,ho⟩:=S.clE t d' hd' M (JK M hM);exact hdom M o ho
  · intro M x hx N hN;rcases hlk M x hx with ⟨rfl,rfl⟩ | rfl | ⟨hne,hng,o,ho,rfl⟩
    · rw[hlab] at hN;simp at hN
    · simp[dJ] at hN
    · obtain ⟨o2, ho2⟩ := S.clO M o ho N (JL N hN);exact hdom N o2 ho2

theorem bU.grow (S : bU P nt B w0 h0 g σ a w) {L e s b m m' : Nat} {get get' : Nat → List PV} {v' : Value} {w' : World} {dst : Option Nat} (hL : lk σ.aB L = some (.vec e s b m get)) (hd : dE nt dst = true)
    (hg:GrB w w' (g.sv L).ownBlock) (hpl:v'.ownBlock=(g.sv L).ownBlock\/v'.ownBlock=some w.heap.size\/v'.ownBlock=none) (hv:yc P (g.setSv L v') w' B L e s b m' get') (h1:v'.oneCell'=true) (log:List (Nat×Nat×Nat)) :
    bU P nt B w0 h0 (g.setSv L v') ⟨SV dst (.cl (.vec L)) (kills (fJ [L]) σ.env),(L,.vec e s b m' get') :: kills (dV [L]) σ.aB,log⟩ (a.put dst v') w':=by
  have hsv:(g.setSv L v').sv L=v':=by simp[Gh.setSv]
  have S1 := S.regrow (o' := .vec e s b m' get') (g' := g.setSv L v') (gs := []) (row := (g.sv L).ownBlock) hL rfl (fun _ => rfl) Eu (fun x hx => by simp at hx) hg (fun k hk => hk)
    (λ k hk=>by
      simp only[fB,hsv] at hk;rcases hpl with h | h | h
      · exact .inl (by show (g.sv L).ownBlock=some k;rw[<- h];exact hk)
      · rw[h] at hk;simp only[bJ] at hk;exact .inr (.inl (by omega))
      · rw[h] at hk;cases hk) hv rfl log
  refine S1.put hd (d:=.cl (.vec L)) (v:=v') ⟨hsv.symm,h1⟩ ?_ log;intro M hM;simp[bY,cZ,bi] at hM;subst hM;exact⟨_,by rw[aV,if_pos rfl]⟩

def zwi (w:World) (v:Value) (m s:Nat) (news:List Value):Prop :=
 (m=0/\(v=.slice none 0 0\/∃ a c,v=.slice (some a) 0 c)/\news=[])\/∃ (b o cap:Nat),v=.slice (some ⟨b,o,none⟩) m cap/\news.length=m * s/\(∀ j u,news[j]? = some u->w.cell? ⟨b,o+j,none⟩=some u)/\(∀ u∈news,u.oneCell'=true)

def O7 (g:Gh) (w:World) (v:Value) (m s:Nat) (new:Nat->List PV):Prop :=
 (m=0/\(v=.slice none 0 0\/∃ a c,v=.slice (some a) 0 c))\/∃ (b o cap:Nat) (news:List Value),v=.slice (some ⟨b,o,none⟩) m cap/\news.length=m * s/\(∀ j u,news[j]? = some u->w.cell? ⟨b,o+j,none⟩=some u) /\
  (∀ u∈news,u.oneCell'=true)/\∀ k,k < m->RL (Rep g.h) (new k) ((news.drop (k * s)).take s)

theorem src_of {b o cap m s : Nat} {C : Array Value} {ty : TypeId} {fr : Nat × Nat} {new : Nat → List PV} {v : Value} (hs : 0 < s) (hv : v = .slice (some ⟨b, o, none⟩) m cap) (hb : w.heap[b]? = some (.cells C ty fr))
    (hlen:∀ k,k < m->(new k).length=s) (hel:∀ k j x,k < m->(new k)[j]? = some x->∃ u,C[o+k * s+j]? = some u/\Rep g.h x u):O7 g w v m s new:=by
  refine .inr ⟨b,o,cap,(List.range (m * s)).map λ q=>C.getD (o+q) undef,hv,by simp,?_,?_,?_⟩
  all_goals
    have at_:∀ q,q < m * s->∃ x u,(new (q / s))[q % s]? = some x/\C[o+q]? = some u/\Rep g.h x u:=by
      intro q hq;have hk:q / s < m:=Nat.div_lt_of_lt_mul (by rw[Nat.mul_comm];exact hq);have hj:q % s < s:=Nat.mod_lt _ hs;have hx:(new (q / s))[q % s]? = some ((new (q / s))[q % s]'(by rw[hlen _ hk];exact hj)):=zL _;obtain⟨u,hu,hxu⟩:=hel _ _ _ hk hx;refine⟨_,u,hx,?_,hxu⟩;rw[show o+q=o+q / s * s+q % s by have:=Nat.div_add_mod q s;rw[Nat.mul_comm] at this;omega];exact hu
  · intro j u hj;have hjm:j < m * s:=by have:=(wW.1 hj).1;simpa using this
    obtain⟨x,u',_,hu,_⟩:=at_ j hjm;rw[cell_of hb];simp[hjm] at hj;rw[hu] at hj ⊢;simpa using hj
  · intro u hu;simp only[vC,List.mem_range] at hu;obtain⟨q,hq,rfl⟩:=hu;obtain⟨x,u',_,hu,hxu⟩:=at_ q hq;rw[rE,hu];exact hxu.one
  · intro k hk;have hle:k * s+s<=m * s:=by have:=KP s (Nat.succ_le_of_lt hk);rw[Oj] at this;exact this
    refine RL.of_get ?_ ?_
    · rw[hlen k hk];simp;omega
    · intro j x u hx hu;have hj:j < s:=by have:=(wW.1 hx).1;rw[hlen k hk] at this;exact this
      obtain⟨u',hu',hxu⟩:=hel k j x hk hx;rw[C9,if_pos hj,dqI] at hu;have hin:k * s+j < m * s:=by omega
      simp[hin] at hu;rw[show o+(k * s+j)=o+k * s+j by omega,hu'] at hu;simp only[Option.getD_some] at hu;rw[<- hu];exact hxu

theorem zbX {m s:Nat}{new:Nat->List PV}{v:Value}(S:bU P nt B w0 h0 g σ a w) (hs:0 < s) (h:Rep g.h (.sl m s new) v):O7 g w v m s new:=by
 cases h with
 | sl0=>exact .inl ⟨rfl,.inl rfl⟩
 | sle _ _ a c=>exact .inl ⟨rfl,.inr ⟨a,c,rfl⟩⟩
 | sl _ _ _ _ b o cap C ty fr vs hb hcap hlen hc hr=>exact src_of hs rfl (S.hw.fz hb) hlen λ k j x hk hj=>⟨vs k j,hc k j x hk hj,hr k j x hk hj⟩

theorem zg1 {L e s b m:Nat}{new:Nat->List PV}(h:yc P g w B L e s b m new):O7 g w (g.sv L) m s new:=by
 by_cases hm:m=0
 ·subst hm;obtain⟨hs,_,xs,hx,_⟩:=h;rcases hx.2 with ⟨h1,_⟩ | ⟨k,cap,cur,h1,_⟩
  ·exact .inl ⟨rfl,.inl h1⟩
  ·have hx0 : xs = [] := by have := hx.1; simpa using this
   exact .inr ⟨k,0,cap,[],h1,by simp,λ j u hj=>by simp at hj,λ u hu=>by simp at hu,λ k hk=>absurd hk (by omega)⟩
 ·obtain ⟨k, C, _, ⟨cap, hsv⟩, hC, _, _, _⟩ := qG h (show 0 < m by omega);refine src_of h.1.2 hsv hC (λ q hq=>?_) (λ q j x hq hj=>?_)
  ·obtain⟨_,_,_,_,_,_,h6,_⟩:=qG h hq;exact h6
  ·obtain ⟨k', C', hk', ⟨cap', znJ⟩, hC', _, _, h7⟩ := qG h hq;rw[hsv] at znJ;simp only[Value.slice.injEq,bJ,Addr.mk.injEq] at znJ;obtain⟨⟨rfl,_⟩,_⟩:=znJ;rw[hC] at hC';simp only[bJ,Obj.cells.injEq] at hC';obtain⟨rfl,_⟩:=hC';rw[Nat.zero_add];exact h7 j x hj
end
end Go.Pm
