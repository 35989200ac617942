/- Part 1 of what the proof rests on: a machine that runs functions of the program on pure values, proved sound; the functions that the law reaches, what they compute, and plain laws of that. -/
import Derived.CallsIn
import Derived.Laws.AppendOwn
import Derived.Laws.Rows
import Derived.Laws.Cells
import Derived.Below
import Derived.DefersIn
import Derived.Laws.World
import Derived.Laws.StructEq
import Derived.MapKept
import Derived.Laws.AppendOwnNone
set_option linter.all false
namespace Go.Pm

inductive KF where
  | one
  | ints
instance KF.dec : DecidableEq KF := fun a b => match a, b with
  | .one, .one => isTrue rfl
  | .ints, .ints => isTrue rfl
  | .one, .ints => isFalse (fun h => by cases h)
  | .ints, .one => isFalse (fun h => by cases h)
abbrev MQ := KF × Nat × Bool × List (Option IntKind)

inductive PV where
  | bool (b : Bool)
  | int (k : IntKind) (n : Int)
  | nilp
  | nilf
  | nilm
  | nils
  | fp (cells : List PV) (off : Nat)
  | sl (len size : Nat) (get : Nat → List PV)
  | fn (f : FuncId) (first caps : List PV)
  | fna (f : FuncId) (cells : List PV)

def smB : Nat → PV → PV → Bool
  | 0, _, _ => false
  | d + 1, x, y => match x, y with
    | .int k _, .int k' _ => decide (k = k')
    | .bool _, .bool _ => true
    | .sl _ s g, .sl _ s' g' => Nat.beq s s' && (Nat.beq (g 0).length (g' 0).length && ((g 0).zip (g' 0)).all fun z => smB d z.1 z.2)
    | .fp l o, .fp l' o' => Nat.beq o o' && (Nat.beq l.length l'.length && (l.zip l').all fun z => smB d z.1 z.2)
    | .nils, .nils => true
    | .nilp, .nilp => true
    | .nilf, .nilf => true
    | .nilm, .nilm => true
    | _, _ => false
def smL (l m : List PV) : Bool := Nat.beq l.length m.length && (l.zip m).all fun z => smB 8 z.1 z.2

inductive CapE where
  | v (v : PV)
  | b (L : Nat)

inductive Cl where
  | p (v : PV)
  | ptr (L off : Nat)
  | vptr (L size i k : Nat)
  | vec (L : Nat)
  | mo (L : Nat)
  | clo (f : FuncId) (caps : List CapE)
  | undef
  | junk
  | dead (L : Nat)

inductive D1 where
  | c (x : Cl)
  | agg (cs : List Cl)

inductive DV where
  | one (d : D1)
  | tup (ds : List D1)

inductive AO where
  | box (ty : Nat) (cells : List Cl)
  | fbox (cells : List PV)
  | vec (ety size bytes len : Nat) (get : Nat → List PV)
  | fvec (size len : Nat) (get : Nat → List PV)
  | vv (te bb ety size bytes len : Nat) (ln : Nat → Nat) (get : Nat → Nat → List PV)
  | vt (te bb ety size bytes len : Nat) (ln : Nat → Nat) (get : Nat → Nat → List PV) (hole : Nat)
  | mo (kt vt : Nat) (q : MQ) (n : Nat) (F : List Int → Option (List Int))
  | gone

inductive PA where
  | one (v : PV)
  | agg (cs : List PV)

structure Cps (ρ : Type) where
  T : {A : Type} → (ρ → Option A) → Option A
  nat : ∀ {A : Type} (k : ρ → Option A), T k = (T some).bind k
abbrev Cps.o {ρ : Type} (c : Cps ρ) : Option ρ := c.T some
def Cps.no {ρ : Type} : Cps ρ := ⟨fun _ => none, fun _ => rfl⟩
def Cps.ok {ρ : Type} (r : ρ) : Cps ρ := ⟨fun k => k r, fun _ => rfl⟩

inductive OwnK where
  | none
  | clone (ety size bytes : Nat)
  | sort (ety size bytes : Nat)
  | mkv (e s b : Nat) (F : List PA → Cps (Nat × (Nat → List PV) × List PV))

inductive XC where
  | p (v : PV)
  | vec (e s b n : Nat) (get : Nat → List PV)
  | mo (kt vt : Nat) (q : MQ) (n : Nat) (F : List Int → Option (List Int))
  | slf (f : FuncId) (np n : Nat)
inductive XA where
  | d (a : PA)
  | box (ty : Nat) (cells : List XC)
abbrev MK := List XA → Cps (List PA × List XA)

structure Ctrs where
  fn : FuncId → List PA → Cps (List PA)
  own : FuncId → OwnK
  it : FuncId → List PA → Cps (List (List PA))
  vv : Nat → Bool
  mt : FuncId → Option MK
  cfn : FuncId → List PA → Cps (List PA)

def lk {α : Type} : List (Nat × α) → Nat → Option α
  | [], _ => none
  | (k, a) :: r, n => match Nat.beq k n with | true => some a | false => lk r n

structure St where
  env : List (Nat × DV)
  objs : List (Nat × AO)
  log : List (Nat × Nat × Nat)

abbrev DV.p (v : PV) : DV := .one (.c (.p v))
abbrev DV.int (n : Int) : DV := .one (.c (.p (.int .i64 n)))
abbrev DV.bool (b : Bool) : DV := .one (.c (.p (.bool b)))
abbrev DV.cl (x : Cl) : DV := .one (.c x)
abbrev DV.junk : DV := .one (.c .junk)

def ofVal1 : Value → Option PV
  | .bool b => some (.bool b)
  | .int k n => some (.int k n)
  | .pointer none => some .nilp
  | .slice none 0 0 => some .nils
  | .nilFunc => some .nilf
  | .map none => some .nilm
  | _ => none

def ofVals : List Value → Option (List Cl)
  | [] => some []
  | v :: r => match ofVal1 v, ofVals r with
    | some x, some l => some (.p x :: l)
    | _, _ => none

def ofVal (v : Value) : DV :=
  match v with
  | .agg cs => match ofVals cs.toList with
    | some l => .one (.agg l)
    | none => .junk
  | v => match ofVal1 v with
    | some x => .p x
    | none => .junk

def evO (env : List (Nat × DV)) : Operand → DV
  | .tmp t => match lk env t with | some d => d | none => .junk
  | .const v => ofVal v
  | .func f => .p (.fn f [] [])
  | .global _ => .junk

section
variable (P : Program)

def szT (t : TypeId) : Option Nat := (P.info? t).map (·.size)
def aggT (t : TypeId) : Option Bool := (P.underlying t).map fun
  | .struct _ => true
  | .array _ _ => true
  | _ => false
def zeroT (t : TypeId) : Option (List Cl) :=
  match P.info? t with
  | some i => match i.zero with
    | some z => match ofVals z.cells.toList with
      | some l => if l.length = i.size then some l else none
      | none => none
    | none => none
  | none => none
end

def D1.cells : D1 → List Cl
  | .c x => [x]
  | .agg cs => cs

def spl {α : Type} : List α → Nat → List α → List α
  | l, _, [] => l
  | l, off, x :: r => spl (l.set off x) (off + 1) r

def toPVs : List Cl → Option (List PV)
  | [] => some []
  | .p v :: r => match toPVs r with | some l => some (v :: l) | none => none
  | _ => none

def frz0 (ob : Nat → Option AO) : Cl → Option (PV × List (Nat × AO))
  | .p v => some (v, [])
  | .vec L => match ob L with
    | some (.vec _ size _ len get) => some (.sl len size get, [(L, .fvec size len get)])
    | some (.fvec size len get) => some (.sl len size get, [])
    | some (.vv _ _ _ size _ n ln get) => some (.sl n 1 (fun i => [.sl (ln i) size (get i)]), [(L, .fvec 1 n (fun i => [.sl (ln i) size (get i)]))])
    | _ => none
  | _ => none

def frzL0 (ob : Nat → Option AO) : List Cl → Option (List PV × List (Nat × AO))
  | [] => some ([], [])
  | x :: r => match frz0 ob x, frzL0 ob r with
    | some (v, u), some (l, us) => some (v :: l, u ++ us)
    | _, _ => none

def frzB (ob : Nat → Option AO) : Cl → Option (PV × List (Nat × AO))
  | .ptr L off => match ob L with
    | some (.box _ cells) => match frzL0 ob cells with
      | some (l, us) => some (.fp l off, us ++ [(L, .fbox l)])
      | none => none
    | some (.fbox l) => some (.fp l off, [])
    | _ => none
  | x => frz0 ob x

def frzBL (ob : Nat → Option AO) : List Cl → Option (List PV × List (Nat × AO))
  | [] => some ([], [])
  | x :: r => match frzB ob x, frzBL ob r with
    | some (v, u), some (l, us) => some (v :: l, u ++ us)
    | _, _ => none

def frzA (ob : Nat → Option AO) : Cl → Option (PV × List (Nat × AO))
  | .ptr L off => match ob L with
    | some (.box _ cells) => match frzBL ob cells with
      | some (l, us) => some (.fp l off, us ++ [(L, .fbox l)])
      | none => none
    | some (.fbox l) => some (.fp l off, [])
    | _ => none
  | x => frz0 ob x

def frzAL (ob : Nat → Option AO) : List Cl → Option (List PV × List (Nat × AO))
  | [] => some ([], [])
  | x :: r => match frzA ob x, frzAL ob r with
    | some (v, u), some (l, us) => some (v :: l, u ++ us)
    | _, _ => none
def capC : CapE → Cl
  | .v v => .p v
  | .b L => .ptr L 0
def frz (ob : Nat → Option AO) : Cl → Option (PV × List (Nat × AO))
  | .clo f caps => match frzAL ob (caps.map capC) with
    | some (l, us) => some (.fn f [] l, us)
    | none => none
  | x => frzA ob x

def frzL (ob : Nat → Option AO) : List Cl → Option (List PV × List (Nat × AO))
  | [] => some ([], [])
  | x :: r => match frz ob x, frzL ob r with
    | some (v, u), some (l, us) => some (v :: l, u ++ us)
    | _, _ => none

def frzD (ob : Nat → Option AO) : DV → Option (PA × List (Nat × AO))
  | .one (.c x) => match frz ob x with | some (v, u) => some (.one v, u) | none => none
  | .one (.agg cs) => match frzL ob cs with | some (l, u) => some (.agg l, u) | none => none
  | _ => none

def frzDs (ob : Nat → Option AO) : List DV → Option (List PA × List (Nat × AO))
  | [] => some ([], [])
  | x :: r => match frzD ob x, frzDs ob r with
    | some (v, u), some (l, us) => some (v :: l, u ++ us)
    | _, _ => none

def capLab : List CapE → List Nat
  | [] => []
  | .v _ :: r => capLab r
  | .b L :: r => L :: capLab r
def clLab : Cl → List Nat
  | .ptr L _ => [L]
  | .vptr L _ _ _ => [L]
  | .vec L => [L]
  | .mo L => [L]
  | .clo _ caps => capLab caps
  | .dead L => [L]
  | _ => []
def d1Lab : D1 → List Nat
  | .c x => clLab x
  | .agg cs => cs.flatMap clLab
def dvLab : DV → List Nat
  | .one d => d1Lab d
  | .tup ds => ds.flatMap d1Lab
def aoLab : AO → List Nat
  | .box _ cs => cs.flatMap clLab
  | _ => []
def deepLab (ob : Nat → Option AO) (d : DV) : List Nat :=
  (dvLab d).flatMap fun L => L :: match ob L with
    | some o => (aoLab o).flatMap fun M => M :: match ob M with | some o' => aoLab o' | none => []
    | none => []

def paD : PA → D1
  | .one v => .c (.p v)
  | .agg cs => .agg (cs.map .p)
def resD : List PA → DV
  | [x] => .one (paD x)
  | l => .tup (l.map paD)

structure CP where
  p : Prop
  b : Bool
  h : b = true → p
instance cpOf (p : Prop) [Decidable p] : CoeDep Prop p CP := ⟨⟨p, decide p, of_decide_eq_true⟩⟩
abbrev CP.no (p : Prop) : CP := ⟨p, false, fun h => by cases h⟩
inductive OpAct : Type 1 where
  | no
  | val (fp : List (Nat × Bool)) (d : DV) (u : List (Nat × AO)) (kill : List Nat)
  | chk (fp : List (Nat × Bool)) (safe : CP) (d : DV) (u : List (Nat × AO)) (kill : List Nat)

def scalP : PV → Bool
  | .bool _ => true
  | .int _ _ => true
  | _ => false
def scalA : PA → Bool
  | .one v => scalP v
  | .agg cs => cs.all scalP
def scalR (l : List PA) : Bool := l.all scalA

def rd (l : List Nat) : List (Nat × Bool) := l.map fun L => (L, false)
def wr (l : List Nat) : List (Nat × Bool) := l.map fun L => (L, true)

def sc2 (l : List PV) : Bool := l.all scalP && Nat.ble 2 l.length
def adjF : List PV → Bool
  | a :: b :: r => !(scalP a && scalP b) && adjF (b :: r)
  | _ => true
def noAdj : Nat × AO → Bool
  | (_, .fbox l) => adjF l
  | (_, .gone) => true
  | _ => false
def lend2 : List (Nat × AO) → Bool
  | [(_, .fbox l), (_, .fbox [.fp _ _])] => l.all fun v => !scalP v
  | _ => false
inductive Anch : PV → Prop
  | scal (v : PV) (h : scalP v = true) : Anch v
  | nils : Anch .nils
  | sl (n s : Nat) (get : Nat → List PV) (h : ∀ i : Nat, ∃ (j : Nat) (x : PV), (get i)[j]? = some x ∧ scalP x = true) (h2 : ∀ (i : Nat) (x : PV), x ∈ get i → Anch x) : Anch (.sl n s get)
def anchB : Nat → PV → Bool
  | 0, _ => false
  | d + 1, v => match v with
    | .nils => true
    | .sl _ _ g => (g 0).any scalP && (g 0).all (anchB d)
    | v => scalP v
def lendB (u : List (Nat × AO)) (r : List PA) : Bool := match r, u with
  | [.one (.sl n s get)], _ :: _ => match sc2 (get 0) with
    | true => u.all noAdj
    | false => lend2 u && anchB 8 (.sl n s get)
  | _, _ => false
def callAct (labs : List Nat) (u : List (Nat × AO)) (r : List PA) : OpAct :=
  match scalR r || lendB u r with
  | true => .val (rd labs) (resD r) [] []
  | false => .val (wr labs) (resD r) u []

def rdCl (isAgg : Bool) (n : Nat) (cells : List Cl) (off : Nat) : Option D1 :=
  match isAgg with
  | true => let l := (cells.drop off).take n
    match Nat.beq l.length n with
    | true => some (.agg l)
    | false => none
  | false => match cells[off]? with
    | some x => some (.c x)
    | none => none

def D1.isAgg : D1 → Bool
  | .c _ => false
  | .agg _ => true

def okCl : Cl → Bool
  | .junk => false
  | .undef => false
  | .dead _ => false
  | _ => true

def clV : Cl → List Nat
  | .vptr L _ _ _ => [L]
  | .vec L => [L]
  | .dead L => [L]
  | .mo L => [L]
  | _ => []
def d1V : D1 → List Nat
  | .c x => clV x
  | .agg cs => cs.flatMap clV
def dvV : DV → List Nat
  | .one d => d1V d
  | .tup ds => ds.flatMap d1V
def aoV : AO → List Nat
  | .box _ cs => cs.flatMap clV
  | _ => []

def appG (n : Nat) (get new : Nat → List PV) : Nat → List PV :=
  fun j => match Nat.ble n j with | true => new (j - n) | false => get j
def setG (i k : Nat) (get : Nat → List PV) (new : List PV) : Nat → List PV :=
  fun j => match Nat.beq j i with | true => spl (get j) k new | false => get j

def zipL (f : PV → PV → PV) : List PV → List PV → List PV
  | [], _ => []
  | x :: r, l => f x (l.headD .nilp) :: zipL f r l.tail
def shp : Nat → PV → PV → PV
  | 0, _, b => b
  | d + 1, a, b => match a with
    | .int k _ => .int k (match b with | .int _ n => n | _ => 0)
    | .bool _ => .bool (match b with | .bool x => x | _ => false)
    | .sl _ s g => .sl (match b with | .sl n _ _ => n | _ => 0) s (fun i => zipL (shp d) (g 0) (match b with | .sl _ _ g' => g' i | _ => []))
    | .fp l o => .fp (zipL (shp d) l (match b with | .fp l' _ => l' | _ => [])) o
    | a => a
def nzG (row : List PV) (g : Nat → List PV) : Nat → List PV := fun i => zipL (shp 8) row (g i)
def nzGG (row : List PV) (g : Nat → Nat → List PV) : Nat → Nat → List PV := fun i j => zipL (shp 8) row (g i j)
def pickD (b : Bool) (x y : DV) : DV :=
  match x, y with
  | .one (.c (.p (.bool a))), .one (.c (.p (.bool c))) => .bool (match b with | true => a | false => c)
  | x, y => match b with | true => x | false => y

def shlW (k : IntKind) (a b : Int) : Int := k.wrap (a * 2 ^ (min b.toNat k.bits))
def shrW (k : IntKind) (a b : Int) : Int := a.fdiv (2 ^ (min b.toNat k.bits))
def andW (k : IntKind) (a b : Int) : Int := k.wrap (BitVec.ofInt k.bits a &&& BitVec.ofInt k.bits b).toNat
def orW (k : IntKind) (a b : Int) : Int := k.wrap (BitVec.ofInt k.bits a ||| BitVec.ofInt k.bits b).toNat
def xorW (k : IntKind) (a b : Int) : Int := k.wrap (BitVec.ofInt k.bits a ^^^ BitVec.ofInt k.bits b).toNat
def andNotW (k : IntKind) (a b : Int) : Int := k.wrap (BitVec.ofInt k.bits a &&& ~~~ BitVec.ofInt k.bits b).toNat
def shfOp (op : BinOp) (k : IntKind) (a b : Int) : OpAct :=
  match op with
  | .shl => .chk [] (0 ≤ b) (.p (.int k (shlW k a b))) [] []
  | .shr => .chk [] (0 ≤ b) (.p (.int k (shrW k a b))) [] []
  | _ => .no
def intOp (op : BinOp) (k : IntKind) (a b : Int) : OpAct :=
  match op with
  | .shl => .chk [] (0 ≤ b) (.p (.int k (shlW k a b))) [] []
  | .shr => .chk [] (0 ≤ b) (.p (.int k (shrW k a b))) [] []
  | .and => .val [] (.p (.int k (andW k a b))) [] []
  | .or => .val [] (.p (.int k (orW k a b))) [] []
  | .xor => .val [] (.p (.int k (xorW k a b))) [] []
  | .andNot => .val [] (.p (.int k (andNotW k a b))) [] []
  | .add => .val [] (.p (.int k (k.wrap (a + b)))) [] []
  | .sub => .val [] (.p (.int k (k.wrap (a - b)))) [] []
  | .mul => .val [] (.p (.int k (k.wrap (a * b)))) [] []
  | .quo => .chk [] (b ≠ 0) (.p (.int k (k.wrap (a.tdiv b)))) [] []
  | .rem => .chk [] (b ≠ 0) (.p (.int k (a.tmod b))) [] []
  | .eql => .val [] (.bool (a == b)) [] []
  | .neq => .val [] (.bool (a != b)) [] []
  | .lss => .val [] (.bool (decide (a < b))) [] []
  | .leq => .val [] (.bool (decide (a ≤ b))) [] []
  | .gtr => .val [] (.bool (decide (a > b))) [] []
  | .geq => .val [] (.bool (decide (a ≥ b))) [] []

def toI64 : List Cl → Option (List Int)
  | [] => some []
  | .p (.int .i64 a) :: r => match toI64 r with | some l => some (a :: l) | none => none
  | _ => none
def vvOn (Γ : Ctrs) : Option Nat → Bool
  | some t => Γ.vv t
  | none => false
def OwnK.on : OwnK → Bool
  | .none => false
  | _ => true
variable (P : Program) (Γ : Ctrs)

def eqT : Nat → TypeId → D1 → D1 → Option Bool
  | 0, _, _, _ => none
  | d + 1, t, x, y =>
    match P.underlying t with
    | some .bool => match x, y with
      | .c (.p (.bool a)), .c (.p (.bool b)) => some (a == b)
      | _, _ => none
    | some (.int _) => match x, y with
      | .c (.p (.int k a)), .c (.p (.int k' b)) => if k = k' then some (a == b) else none
      | _, _ => none
    | some (.struct fs) => match x, y, P.stoodInHeld t with
      | .agg xs, .agg ys, false => fs.toList.foldr (fun f acc =>
          match acc, f.name != "_", aggT P f.type, szT P f.type with
          | some r, true, some ag, some n => match rdCl ag n xs f.offset, rdCl ag n ys f.offset with
            | some a, some b => match eqT d f.type a b with
              | some e => some (match e with | true => r | false => false)
              | none => none
            | _, _ => none
          | _, _, _, _ => none) (some true)
      | _, _, _ => none
    | _ => none

def eqAct (op : BinOp) (t : TypeId) (cs ds : List Cl) : OpAct :=
  match P.eqGuardType P.depth t, eqT P 8 t (.agg cs) (.agg ds) with
  | false, some r => match op with
    | .eql => .val [] (.bool r) [] []
    | .neq => .val [] (.bool (!r)) [] []
    | _ => .no
  | _, _ => .no

def intsT : Nat → TypeId → Option Nat
  | 0, _ => none
  | d + 1, t =>
    match P.underlying t with
    | some (.int .i64) => match szT P t with
      | some n => match Nat.beq n 1 with | true => some 1 | false => none
      | none => none
    | some (.struct fs) => match P.stoodInHeld t with
      | true => none
      | false => fs.toList.foldl (fun acc f => match acc, f.name != "_", intsT d f.type, szT P f.type with
        | some m, true, some n, some n' => match Nat.beq f.offset m && Nat.beq n n' with
          | true => some (m + n)
          | false => none
        | _, _, _, _ => none) (some 0)
    | some (.array n e) => match intsT d e, szT P e with
      | some m, some m' => match Nat.beq m m' with
        | true => some (n * m)
        | false => none
      | _, _ => none
    | _ => none

def indexAct (t : TypeId) (x i : DV) : OpAct :=
  match P.underlying t with
  | some (.array n e) => match szT P e, aggT P e, x, i with
    | some m, some ag, .one (.agg cs), .one (.c (.p (.int _ (.ofNat j)))) => match Nat.blt j n, rdCl ag m cs (j * m) with
      | true, some d => .val [] (.one d) [] []
      | _, _ => .no
    | _, _, _, _ => .no
  | _ => .no

def fieldAct (t : TypeId) (x : DV) (f : Nat) : OpAct :=
  match P.underlying t with
  | some (.struct fs) => match fs[f]? with
    | some fd => match szT P fd.type, aggT P fd.type, x with
      | some m, some ag, .one (.agg cs) => match rdCl ag m cs fd.offset with
        | some d => .val [] (.one d) [] []
        | none => .no
      | _, _, _ => .no
    | none => .no
  | _ => .no

def indexArr (n : Nat) (e : TypeId) (x i : DV) : OpAct :=
  match szT P e, i with
  | some m, .one (.c (.p (.int _ (.ofNat j)))) => match Nat.blt j n with
    | true => match x with
      | .one (.c (.ptr L off)) => .val [] (.cl (.ptr L (off + j * m))) [] []
      | .one (.c (.p (.fp c off))) => .val [] (.p (.fp c (off + j * m))) [] []
      | _ => .no
    | false => .no
  | _, _ => .no

def kindsT (t : TypeId) : Option (List (Option IntKind)) :=
  match zeroT P t with
  | some z => z.foldr (fun c acc => match c, acc with
    | .p (.int k (.ofNat 0)), some l => some (some k :: l)
    | .p (.bool false), some l => some (none :: l)
    | _, _ => none) (some [])
  | none => none

def keyT (k : TypeId) : Option (KF × Nat) :=
  match intsT P 8 k, aggT P k with
  | some n, some true => some (.ints, n)
  | some n, some false => match Nat.beq n 1 with | true => some (.one, n) | false => none
  | _, _ => none
def mapE (k e : TypeId) : Option MQ :=
  match keyT P k, kindsT P e, aggT P e with
  | some (kf, n), some ks, some vag => match (vag || Nat.beq ks.length 1), (P.info? e).bind (·.zero), vag with
    | true, some (.agg _), true => some (kf, n, vag, ks)
    | true, some (.agg _), false => none
    | true, some _, false => some (kf, n, vag, ks)
    | _, _, _ => none
  | _, _, _ => none

def keyC (kf : KF) (n : Nat) (d : DV) : Option (List Int) :=
  match kf, d with
  | .ints, .one (.agg cs) => match toI64 cs with
    | some l => match Nat.beq l.length n with | true => some l | false => none
    | none => none
  | .one, .one (.c (.p (.int .i64 a))) => some [a]
  | _, _ => none

def mkCell : Option IntKind → Int → PV
  | some k, x => .int k x
  | none, x => .bool (x != 0)
def nthO (o : Option (List Int)) (i : Nat) : Int := match o with | some l => l.getD i 0 | none => 0
def valC (o : Option (List Int)) : Nat → List (Option IntKind) → List PV
  | _, [] => []
  | i, k :: ks => mkCell k (nthO o i) :: valC o (i + 1) ks
def valD (vag : Bool) (ks : List (Option IntKind)) (o : Option (List Int)) : Option D1 :=
  match vag, valC o 0 ks with
  | true, l => some (.agg (l.map .p))
  | false, [v] => some (.c (.p v))
  | _, _ => none
def codeV : List (Option IntKind) → List Cl → Option (List Int)
  | [], [] => some []
  | some k :: ks, .p (.int k' a) :: r => if k = k' then match codeV ks r with | some l => some (a :: l) | none => none else none
  | none :: ks, .p (.bool b) :: r => match codeV ks r with | some l => some ((match b with | true => 1 | false => 0) :: l) | none => none
  | _, _ => none
def setM (c v : List Int) (F : List Int → Option (List Int)) : List Int → Option (List Int) :=
  fun x => match decide (x = c) with | true => some v | false => F x
def addN (o : Option (List Int)) (n : Nat) : Nat := match o with | some _ => n | none => n + 1

def found (q : MQ) (k : DV) (ok : Bool) (F : List Int → Option (List Int)) (fin : DV → OpAct) : OpAct :=
  match keyC q.1 q.2.1 k with
  | some c => match valD q.2.2.1 q.2.2.2 (F c) with
    | some d => match ok with
      | true => fin (.tup [d, .c (.p (.bool (F c).isSome))])
      | false => fin (.one d)
    | none => .no
  | none => .no
def updI {α : Type} (i : Nat) (x : α) (f : Nat → α) : Nat → α := fun j => match Nat.beq j i with | true => x | false => f j
def lookMo (t : TypeId) (m k : DV) (ok : Bool) (ob : Nat → Option AO) : OpAct :=
  match P.underlying t, m with
  | some (.map kt vt), .one (.c (.mo L)) => match mapE P kt vt, ob L with
    | some q, some (.mo kt' vt' q' _ F) => if kt' = kt ∧ vt' = vt ∧ q' = q then found q k ok F fun d => .val [(L, false)] d [] [] else .no
    | _, _ => .no
  | _, _ => .no
def updMo (t : TypeId) (m k v : DV) (ob : Nat → Option AO) : OpAct :=
  match P.underlying t, m with
  | some (.map kt vt), .one (.c (.mo L)) => match mapE P kt vt, ob L with
    | some q, some (.mo kt' vt' q' m' F) => match keyC q.1 q.2.1 k, v with
      | some c, .one dv => match codeV q.2.2.2 dv.cells with
        | some l => if kt' = kt ∧ vt' = vt ∧ q' = q ∧ dv.isAgg = q.2.2.1 then .val [(L, true)] .junk [(L, .mo kt vt q (addN (F c) m') (setM c l F))] [] else .no
        | none => .no
      | _, _ => .no
    | _, _ => .no
  | _, _ => .no
def fixZ1 (t k : Nat) (l : List PV) : List PV :=
  match P.underlying t, l[k]? with
  | some (.slice e2), some .nils => match szT P e2, zeroT P e2 with
    | some s, some z => match toPVs z with
      | some z => l.set k (.sl 0 s (fun _ => z))
      | none => l
    | _, _ => l
  | _, _ => l
def fixZs : List Field → List PV → List PV
  | [], l => l
  | f :: r, l => fixZs r (fixZ1 P f.type f.offset l)
def fixZ (e : TypeId) (l : List PV) : List PV :=
  match P.underlying e with
  | some (.struct fs) => fixZs P fs.toList l
  | _ => fixZ1 P e 0 l
def rowZ (e : TypeId) : List PV := match zeroT P e with
  | some z => match toPVs z with
    | some l => fixZ P e l
    | none => []
  | none => []
def makeAct (t : TypeId) (x y : DV) (dst : Option Nat) (ob : Nat → Option AO) : OpAct :=
  match P.underlying t, x, y, dst with
  | some (.slice e), .one (.c (.p (.int _ n))), .one (.c (.p (.int _ m))), some dst => match P.info? e, zeroT P e, ob dst with
    | some ie, some z, none => match vvOn Γ (some dst) with
      | true => match z, P.underlying e with
        | [.p .nils], some (.slice e2) => match P.info? e2, zeroT P e2, Nat.beq ie.size 1 && Nat.ble ie.bytes 1000000 with
          | some i2, some z2, true => match toPVs z2, Nat.ble 1 i2.size with
            | some l2, true => .chk [(dst, true)] (0 ≤ n ∧ n = m ∧ n ≤ 1000000) (.cl (.vec dst)) [(dst, .vv e ie.bytes e2 i2.size i2.bytes n.toNat (fun _ => 0) (fun _ _ => l2))] []
            | _, _ => .no
          | _, _, _ => .no
        | _, _ => .no
      | false => match toPVs z with
        | some l => match Nat.ble 1 ie.size && Nat.ble ie.bytes 1000000 with
          | true => .chk [(dst, true)] (0 ≤ n ∧ n = m ∧ n ≤ 1000000) (.cl (.vec dst)) [(dst, .vec e ie.size ie.bytes n.toNat (fun _ => fixZ P e l))] []
          | false => .no
        | none => .no
    | _, _, _ => .no
  | _, _, _, _ => .no

def bndO (ev : Operand → DV) : Option Operand → Option (Option Int)
  | none => some none
  | some x => match ev x with
    | .one (.c (.p (.int _ j))) => some (some j)
    | _ => none
def slG (get : Nat → List PV) (l : Nat) : Nat → List PV := fun i => get (i + l)
def sliceAct (t : TypeId) (x : DV) (lo hi : Option (Option Int)) : OpAct :=
  match P.underlying t, x, lo, hi with
  | some (.slice e), .one (.c (.p (.sl n s get))), some lo, some hi => match szT P e with
    | some m => match Nat.beq s m with
      | true => .chk [] (0 ≤ lo.getD 0 ∧ lo.getD 0 ≤ hi.getD (n : Int) ∧ hi.getD (n : Int) ≤ (n : Int)) (.p (.sl (hi.getD (n : Int) - lo.getD 0).toNat s (slG get (lo.getD 0).toNat))) [] []
      | false => .no
    | none => .no
  | _, _, _, _ => .no

def fieldOff (t : TypeId) (f : Nat) : Option Nat :=
  match P.underlying t with
  | some (.struct fs) => match fs[f]? with
    | some fd => match szT P fd.type with
      | some (_ + 1) => some fd.offset
      | _ => none
    | none => none
  | _ => none

def fieldsOk (t : TypeId) : Bool :=
  match P.underlying t with
  | some (.struct fs) => fs.toList.all fun f => (szT P f.type).isSome
  | some (.array _ e) => (szT P e).isSome
  | _ => false

def buildC (t : TypeId) (ev : Operand → DV) : List Cl → List (Nat × Operand) → Option (List Cl)
  | z, [] => some z
  | z, (i, o) :: r =>
    match ev o with
    | .one d =>
      match P.underlying t with
      | some (.struct fs) => match fs[i]? with
        | some fd => match szT P fd.type with
          | some n => match Nat.beq n d.cells.length && Nat.ble (fd.offset + n) z.length && d.cells.all okCl with
            | true => buildC t ev (spl z fd.offset d.cells) r
            | false => none
          | none => none
        | none => none
      | some (.array _ e) => match szT P e with
        | some n => match Nat.beq n d.cells.length && Nat.ble (i * n + n) z.length && d.cells.all okCl with
          | true => buildC t ev (spl z (i * n) d.cells) r
          | false => none
        | none => none
      | _ => none
    | _ => none

def partsPV (ob : Nat → Option AO) (ev : Operand → DV) (size : Nat) : Nat → List (Nat × Operand) → Option (List (List PV) × List (Nat × AO) × List Nat)
  | _, [] => some ([], [], [])
  | i, (j, o) :: r =>
    match Nat.beq i j with
    | true => match ev o with
      | .one d => match frzL0 ob d.cells, partsPV ob ev size (i + 1) r with
        | some (l, u), some (ls, us, labs) => match Nat.beq l.length size with
          | true => some (l :: ls, u ++ us, d1Lab d ++ labs)
          | false => none
        | _, _ => none
      | _ => none
    | false => none

def smA : List (List PV) → Bool
  | [] => true
  | c :: r => smL c c && r.all (smL c)
def getL (l : List (List PV)) : Nat → List PV :=
  match l with
  | [] => fun _ => []
  | [c] => fun _ => c
  | c :: r => fun i => match (c :: r)[i]? with | some x => x | none => c


def putB (ob : Nat → Option AO) (dst : Option Nat) (o : AO) (d : Nat → DV) : OpAct :=
  match dst with
  | some t => match ob t with
    | none => .val [(t, true)] (d t) [(t, o)] []
    | some _ => .no
  | none => .no

def elP (ag : Bool) (l : List PV) : PA :=
  match ag, l with
  | true, l => .agg l
  | false, [v] => .one v
  | _, _ => .agg []
def cmpO (C : List PA → Cps (List PA)) (caps : List PV) (ag : Bool) (get : Nat → List PV) (i j : Nat) : Option Int :=
  (C (elP ag (get i) :: elP ag (get j) :: caps.map .one)).T fun r => match r with
    | [.one (.int .i64 c)] => some c
    | _ => none
def cmpV (C : List PA → Cps (List PA)) (caps : List PV) (ag : Bool) (get : Nat → List PV) (i j : Nat) : Int := (cmpO C caps ag get i j).getD 0
def STO (n : Nat) (c : Nat → Nat → Int) : Prop :=
  (∀ i, i < n → 0 ≤ c i i) ∧ (∀ i j, i < n → j < n → i ≠ j → (c i j < 0 ∧ 0 ≤ c j i) ∨ (c j i < 0 ∧ 0 ≤ c i j)) ∧
  ∀ i j k, i < n → j < n → k < n → c i j < 0 → c j k < 0 → c i k < 0
def stoB (n : Nat) (p : Nat → Nat → Bool) (c : Nat → Nat → Int) : Bool :=
  (List.range n).all fun i => decide (0 ≤ c i i) && (List.range n).all fun j => p i j && (Nat.beq i j || (decide (c i j < 0) && decide (0 ≤ c j i)) || (decide (c j i < 0) && decide (0 ≤ c i j))) &&
    (List.range n).all fun k => !(decide (c i j < 0) && decide (c j k < 0)) || decide (c i k < 0)
def stoP (n : Nat) (p : Nat → Nat → Bool) (c : Nat → Nat → Int) : Prop := n ≤ 4611686018427387 ∧ (∀ i j, i < n → j < n → p i j = true) ∧ STO n c
def stoC (n : Nat) (p : Nat → Nat → Bool) (c : Nat → Nat → Int) : CP := ⟨stoP n p c, Nat.ble n 4611686018427387 && stoB n p c, fun h => by
  rw [Bool.and_eq_true, Nat.ble_eq] at h
  obtain ⟨h0, h⟩ := h
  simp only [stoB, List.all_eq_true, List.mem_range, Bool.and_eq_true, Bool.or_eq_true, decide_eq_true_eq, Bool.not_eq_true', Bool.and_eq_false_iff, decide_eq_false_iff_not] at h
  refine ⟨h0, fun i j hi hj => ((h i hi).2 j hj).1.1, fun i hi => (h i hi).1, fun i j hi hj hne => ?_, fun i j k hi hj hk h1 h2 => ?_⟩
  · rcases ((h i hi).2 j hj).1.2 with (h1 | h1) | h1
    · exact absurd (Nat.eq_of_beq_eq_true h1) hne
    · exact .inl h1
    · exact .inr h1
  · rcases ((h i hi).2 j hj).2 k hk with (h3 | h3) | h3
    · exact absurd h1 h3
    · exact absurd h2 h3
    · exact h3⟩
def insB (c : Nat → Nat → Int) (x : Nat) : List Nat → List Nat
  | [] => [x]
  | y :: r => match decide (c x y < 0) with | true => x :: y :: r | false => y :: insB c x r
def permB (n : Nat) (c : Nat → Nat → Int) : List Nat := (List.range n).foldr (insB c) []
def sortG {α : Type} (n : Nat) (c : Nat → Nat → Int) (get : Nat → α) : Nat → α := fun i => get ((permB n c).getD i ((permB n c).getD 0 0))

def lentB (get : Nat → List PV) : List (Nat × AO) → Bool
  | [] => true
  | u => match lend2 u with
    | true => (get 0).all (anchB 8)
    | false => (get 0).all scalP
def cloA (e : TypeId) : List DV → Option (Nat × Nat × (Nat → List PV))
  | [.one (.c (.p (.sl n s get)))] => some (n, s, get)
  | [.one (.c (.p .nils))] => match zeroT P e with
    | some z => match toPVs z with
      | some l => some (0, l.length, fun _ => l)
      | none => none
    | none => none
  | _ => none
def ownAct (o : Oper) (k : OwnK) (args : List DV) (ob : Nat → Option AO) : OpAct :=
  match k with
  | .none => .no
  | .sort e s b => match args with
    | [.one (.c (.vec L)), .one (.c (.p (.fn h [] caps)))] => match ob L, aggT P e with
      | some (.vec e' s' b' n get), some ag => if e' = e ∧ s' = s ∧ b' = b then
          .chk [(L, true)] (stoC n (fun i j => (cmpO (Γ.cfn h) caps ag get i j).isSome) (cmpV (Γ.cfn h) caps ag get)) (.tup []) [(L, .vec e s b n (sortG n (cmpV (Γ.cfn h) caps ag get) get))] []
        else .no
      | _, _ => .no
    | _ => .no
  | .clone e s b => match cloA P e args, o.dst with
    | some (n, s', get), some dst => match ob dst, P.info? e, zeroT P e with
      | none, some ie, some _ => if s' = s ∧ ie.size = s ∧ ie.bytes = b ∧ 0 < s then
          .chk [(dst, true)] (n * b ≤ 140737488355328 ∧ n ≤ 9223372036854775807) (.cl (.vec dst)) [(dst, .vec e s b n get)] []
        else .no
      | _, _, _ => .no
    | _, _ => .no
  | .mkv e s b F => match frzDs ob args, o.dst with
    | some (az, u), some dst => match (F az).o, ob dst, P.info? e, zeroT P e with
      | some (n, get, rs), none, some ie, some _ => if ie.size = s ∧ ie.bytes = b ∧ 0 < s ∧ lentB get u = true ∧ rs.all scalP = true then
          .val ((dst, true) :: rd (args.flatMap (deepLab ob)))
            (match rs with | [] => .cl (.vec dst) | _ => .tup (.c (.vec dst) :: rs.map fun v => .c (.p v))) [(dst, .vec e s b n get)] []
        else .no
      | _, _, _, _ => .no
    | _, _ => .no

def capE : DV → Option CapE
  | .one (.c (.p v)) => some (.v v)
  | .one (.c (.ptr L 0)) => some (.b L)
  | _ => none
def capEs (ev : Operand → DV) : List Operand → Option (List CapE)
  | [] => some []
  | x :: r => match capE (ev x), capEs ev r with
    | some c, some l => some (c :: l)
    | _, _ => none
def capD : CapE → DV
  | .v v => .p v
  | .b L => .cl (.ptr L 0)

abbrev SlfS := Option (FuncId × Nat × List Nat)
def capsB : List CapE → List Nat → Bool
  | [], [] => true
  | .b L :: r, M :: s => Nat.beq L M && capsB r s
  | _, _ => false
def capLs : List CapE → Option (List Nat)
  | [] => some []
  | .b L :: r => match capLs r with | some l => some (L :: l) | none => none
  | _ => none
def slfS (f : FuncId) (np : Nat) (caps : List CapE) : SlfS := match capLs caps with
  | some l => some (f, np, l)
  | none => none
def slfC (sf : SlfS) (f : FuncId) (caps : List CapE) : Option XC := match sf with
  | some (f', np, ls) => match Nat.beq f f' && capsB caps ls with
    | true => some (.slf f' np ls.length)
    | false => none
  | none => none
def xcsOf (sf : SlfS) (ob : Nat → Option AO) : List Cl → Option (List XC × List Nat)
  | [] => some ([], [])
  | c :: r => match xcsOf sf ob r with
    | some (l, ms) => match c with
      | .p v => some (.p v :: l, ms)
      | .vec M => match ob M with
        | some (.vec e s b n get) => some (.vec e s b n get :: l, M :: ms)
        | _ => none
      | .mo M => match ob M with
        | some (.mo kt vt q n F) => some (.mo kt vt q n F :: l, M :: ms)
        | _ => none
      | .clo f caps => match slfC sf f caps with
        | some x => some (x :: l, ms)
        | none => none
      | _ => none
    | none => none
def xdOf (ob : Nat → Option AO) (d : DV) : Option (XA × List Nat × List Nat) :=
  match frzD ob d with
  | some (x, []) => some (.d x, [], [])
  | _ => none
def xaOf (sf : SlfS) (ob : Nat → Option AO) (d : DV) : Option (XA × List Nat × List Nat) :=
  match d with
  | .one (.c (.ptr L 0)) => match ob L with
    | some (.box ty cells) => match xcsOf sf ob cells with
      | some (cs, ms) => some (.box ty cs, L :: ms, ms)
      | none => none
    | _ => xdOf ob d
  | _ => xdOf ob d
def xasOf (sf : SlfS) (ob : Nat → Option AO) : List DV → Option (List XA × List Nat × List Nat)
  | [] => some ([], [], [])
  | d :: r => match xaOf sf ob d, xasOf sf ob r with
    | some (x, bl, ms), some (xs, bls, mss) => some (x :: xs, bl ++ bls, ms ++ mss)
    | _, _ => none
def xcPut : List Cl → List XC → Option (List Cl × List (Nat × AO))
  | [], [] => some ([], [])
  | .p _ :: cs, .p v :: ys => match xcPut cs ys with
    | some (l, u) => some (.p v :: l, u)
    | none => none
  | .vec M :: cs, .vec e s b n get :: ys => match xcPut cs ys with
    | some (l, u) => some (.vec M :: l, (M, .vec e s b n get) :: u)
    | none => none
  | .mo M :: cs, .mo kt vt q n F :: ys => match xcPut cs ys with
    | some (l, u) => some (.mo M :: l, (M, .mo kt vt q n F) :: u)
    | none => none
  | .clo f caps :: cs, .slf _ _ _ :: ys => match xcPut cs ys with
    | some (l, u) => some (.clo f caps :: l, u)
    | none => none
  | _, _ => none
def aPut (ob : Nat → Option AO) (d : DV) (y : XA) : Option (List (Nat × AO)) :=
  match d with
  | .one (.c (.ptr L 0)) => match ob L with
    | some (.box ty' cells) => match y with
      | .box ty cs => match Nat.beq ty ty', xcPut cells cs with
        | true, some (l, u) => some ((L, .box ty l) :: u)
        | _, _ => none
      | .d _ => none
    | _ => match y with
      | .d _ => some []
      | .box _ _ => none
  | _ => match y with
    | .d _ => some []
    | .box _ _ => none
def xaPut (ob : Nat → Option AO) : List DV → List XA → Option (List (Nat × AO))
  | [], [] => some []
  | d :: ds, y :: ys => match aPut ob d y, xaPut ob ds ys with
    | some u, some us => some (u ++ us)
    | _, _ => none
  | _, _ => none
def nodupN : List Nat → Bool
  | [] => true
  | x :: r => !r.contains x && nodupN r
def isClo : AO → Bool
  | .box _ [.clo _ _] => true
  | _ => false
def mutAct (C : MK) (sf : SlfS) (args : List DV) (ob : Nat → Option AO) : OpAct :=
  match xasOf sf ob args with
  | some (xs, ls, ms) => match (C xs).o with
    | some (rs, ys) => match xaPut ob args ys with
      | some u => match nodupN ls && Nat.ble ms.length 1 && ms.all fun M => ((u.filter fun x => !isClo x.2).map (·.1)).contains M with
        | true => .val (wr ((u.filter fun x => !isClo x.2).map (·.1)) ++ rd (args.flatMap (deepLab ob))) (resD rs) (u.filter fun x => !isClo x.2) ms
        | false => .no
      | none => .no
    | none => .no
  | none => .no

def bindA (ev : Operand → DV) : List Operand → List Operand → Option (List PV)
  | [x], [] => match ev x with
    | .one (.agg cs) => toPVs cs
    | _ => none
  | _, _ => none

def appSrc (d : DV) (ob : Nat → Option AO) : Option (Nat × Nat × (Nat → List PV) × List (Nat × Bool)) :=
  match d with
  | .one (.c (.p (.sl n sz get))) => some (n, sz, get, [])
  | .one (.c (.vec M)) => match ob M with
    | some (.vec _ sz _ n get) => some (n, sz, get, [(M, false)])
    | some (.fvec sz n get) => some (n, sz, get, [(M, false)])
    | _ => none
  | _ => none
def appAct (e : Nat) (ie : TypeInfo) (dst : Nat) (x s : DV) (ob : Nat → Option AO) : OpAct :=
  match appSrc x ob with
  | some (m, sz, new, fps) => match s with
    | .one (.c (.vec L)) => match ob L with
      | some (.vec e' s' b' n get) => if e' = e ∧ s' = ie.size ∧ b' = ie.bytes ∧ sz = s' ∧ 0 < s' ∧ dvLab x ≠ [L] ∧ smL (get 0) (new 0) = true then
          .chk ((L, true) :: fps) ((n + m) * b' ≤ 140737488355328 ∧ n + m ≤ 9223372036854775807) (.cl (.vec L)) [(L, .vec e s' b' (n + m) (nzG (get 0) (appG n get new)))] [L]
        else .no
      | _ => .no
    | .one (.c (.p .nils)) => match ob dst with
      | none => if sz = ie.size ∧ 0 < sz then
          .chk ((dst, true) :: fps) (m * ie.bytes ≤ 140737488355328 ∧ m ≤ 9223372036854775807) (.cl (.vec dst)) [(dst, .vec e sz ie.bytes m new)] []
        else .no
      | some _ => .no
    | _ => .no
  | none => .no
def aPk (ev : Operand → DV) (c a b : Operand) : OpAct := match ev c with
    | .one (.c (.p (.bool t))) => .val [] (pickD t (ev a) (ev b)) [] []
    | _ => .no
def aAl (o : Oper) (ev : Operand → DV) (ob : Nat → Option AO) (e : TypeId) : OpAct := match zeroT P e with
    | some z => putB ob o.dst (.box e z) fun t => .cl (.ptr t 0)
    | none => .no
def aBx (o : Oper) (ev : Operand → DV) (ob : Nat → Option AO) (e : TypeId) (x : Operand) : OpAct := match ev x, szT P e with
    | .one d, some n => match Nat.beq d.cells.length n && d.cells.all okCl with
      | true => putB ob o.dst (.box e d.cells) fun t => .cl (.ptr t 0)
      | false => .no
    | _, _ => .no
def aBd (ev : Operand → DV) (t : TypeId) (parts : Array (Nat × Operand)) : OpAct := match fieldsOk P t, zeroT P t with
    | true, some z => match buildC P t ev z parts.toList with
      | some l => .val [] (.one (.agg l)) [] []
      | none => .no
    | _, _ => .no
def aBs (o : Oper) (ev : Operand → DV) (ob : Nat → Option AO) (t : TypeId) (n : Nat) (parts : Array (Nat × Operand)) : OpAct := match P.underlying t with
    | some (.slice e) => match P.info? e with
      | some ie => match partsPV ob ev ie.size 0 parts.toList with
        | some (ls, u, labs) => match Nat.beq ls.length n && Nat.ble (n * ie.size) 1000000 && Nat.ble 1 ie.size && smA (ls.map (fixZ P e)), zeroT P e, o.dst with
          | true, some _, some dst => match ob dst with
            | none => .val (wr labs ++ [(dst, true)]) (.cl (.vec dst)) ((dst, .vec e ie.size ie.bytes n (nzG (getL (ls.map (fixZ P e)) 0) (getL (ls.map (fixZ P e))))) :: u) []
            | some _ => .no
          | _, _, _ => .no
        | none => .no
      | none => .no
    | _ => .no
def aLd (o : Oper) (ev : Operand → DV) (ob : Nat → Option AO) (t : TypeId) (a : Operand) : OpAct := match aggT P t, szT P t with
    | some g, some n => match ev a with
      | .one (.c (.ptr L off)) => match ob L with
        | some (.box _ cells) => match rdCl g n cells off with
          | some d => .val [(L, false)] (.one d) [] []
          | none => .no
        | some (.fbox cells) => match rdCl g n (cells.map .p) off with
          | some d => .val [(L, false)] (.one d) [] []
          | none => .no
        | _ => .no
      | .one (.c (.p (.fp cells off))) => match rdCl g n (cells.map .p) off with
        | some d => .val [] (.one d) [] []
        | none => .no
      | .one (.c (.vptr L s i k)) => match ob L with
        | some (.vec _ s' _ len get) => match Nat.beq s s', rdCl g n ((get i).map .p) k with
          | true, some d => .chk [(L, false)] (i < len) (.one d) [] []
          | _, _ => .no
        | some (.fvec s' len get) => match Nat.beq s s', rdCl g n ((get i).map .p) k with
          | true, some d => .chk [(L, false)] (i < len) (.one d) [] []
          | _, _ => .no
        | some (.vv _ _ _ _ _ _ _ _) => match Nat.beq s 1 && Nat.beq k 0, g with
          | true, false => match o.dst with
            | some dst => match ob dst, ob L with
              | none, some (.vv te bb e s' b len ln get) => .chk [(L, true), (dst, true)] (i < len) (.cl (.vec dst)) [(dst, .vec e s' b (ln i) (get i)), (L, .vt te bb e s' b len ln get i)] []
              | _, _ => .no
            | none => .no
          | _, _ => .no
        | _ => .no
      | _ => .no
    | _, _ => .no
def aSt (ev : Operand → DV) (ob : Nat → Option AO) (t : TypeId) (a x : Operand) : OpAct := match szT P t, ev a, ev x with
    | some n, .one (.c (.ptr L off)), .one d => match ob L with
      | some (.box ty cells) => match Nat.beq d.cells.length n && Nat.ble (off + n) cells.length && d.cells.all okCl with
        | true => .val [(L, true)] .junk [(L, .box ty (spl cells off d.cells))] []
        | false => .no
      | _ => .no
    | some n, .one (.c (.vptr L s i k)), .one d => match ob L with
      | some (.vec e s' b len get) => match toPVs d.cells with
        | some l => match Nat.beq s s' && Nat.beq l.length n && Nat.ble (k + n) s && smL (((get 0).drop k).take n) l with
          | true => .chk [(L, true)] (i < len) .junk [(L, .vec e s' b len (nzG (get 0) (setG i k get l)))] []
          | false => .no
        | none => .no
      | some (.vt te bb e s' by' len ln get ii) => match d with
        | .c (.vec M) => match ob M with
          | some (.vec e2 s2 b2 m get2) => match Nat.beq s 1 && Nat.beq k 0 && Nat.beq n 1 && !Nat.beq L M with
            | true => if e2 = e ∧ s2 = s' ∧ b2 = by' ∧ smL (get 0 0) (get2 0) = true then
                .chk [(L, true), (M, true)] (i < len ∧ i = ii ∧ 0 < m) .junk [(L, .vv te bb e s' by' len (updI i m ln) (nzGG (get 0 0) (updI i get2 get))), (M, .gone)] []
              else .no
            | false => .no
          | _ => .no
        | _ => .no
      | _ => .no
    | _, _, _ => .no
def aNc (ev : Operand → DV) (x : Operand) : OpAct := match ev x with
    | .one (.c (.ptr L off)) => .val [] (.cl (.ptr L off)) [] []
    | .one (.c (.p (.fp c off))) => .val [] (.p (.fp c off)) [] []
    | .one (.c (.vptr L s i k)) => .val [] (.cl (.vptr L s i k)) [] []
    | _ => .no
def aBn (ev : Operand → DV) (op : BinOp) (t : TypeId) (x y : Operand) : OpAct := match ev x, ev y with
    | .one (.c (.p (.int k a))), .one (.c (.p (.int k' b))) => if k = k' then intOp op k a b else shfOp op k a b
    | .one (.c (.p (.bool a))), .one (.c (.p (.bool b))) => match P.underlying t, op with
      | some .bool, .eql => .val [] (.bool (a == b)) [] []
      | some .bool, .neq => .val [] (.bool (a != b)) [] []
      | _, _ => .no
    | .one (.agg cs), .one (.agg ds) => eqAct P op t cs ds
    | _, _ => .no
def aUn (ev : Operand → DV) (op : UnOp) (x : Operand) : OpAct := match op, ev x with
    | .not, .one (.c (.p (.bool a))) => .val [] (.bool (!a)) [] []
    | .neg, .one (.c (.p (.int k a))) => .val [] (.p (.int k (k.wrap (0 - a)))) [] []
    | _, _ => .no
def aCv (ev : Operand → DV) (t1 t2 : TypeId) (x : Operand) : OpAct := match P.underlying t1, P.underlying t2, ev x with
    | some _, some (.int k), .one (.c (.p (.int _ n))) => .val [] (.p (.int k (k.wrap n))) [] []
    | _, _, _ => .no
def aFa (ev : Operand → DV) (t : TypeId) (x : Operand) (f : Nat) : OpAct := match fieldOff P t f with
    | some off => match ev x with
      | .one (.c (.ptr L k)) => .val [] (.cl (.ptr L (k + off))) [] []
      | .one (.c (.p (.fp c k))) => .val [] (.p (.fp c (k + off))) [] []
      | .one (.c (.vptr L s i k)) => .val [] (.cl (.vptr L s i (k + off))) [] []
      | _ => .no
    | none => .no
def aIa (ev : Operand → DV) (ob : Nat → Option AO) (t : TypeId) (x i : Operand) : OpAct := match P.underlying t with
    | some (.slice e) => match szT P e, ev i with
      | some n, .one (.c (.p (.int _ j))) => match ev x with
        | .one (.c (.p (.sl len s get))) => if s = n then .chk [] (0 ≤ j ∧ j < (len : Int)) (.p (.fp (get j.toNat) 0)) [] [] else .no
        | .one (.c (.vec L)) => match ob L with
          | some (.vec _ s _ len _) => if s = n then .chk [(L, false)] (0 ≤ j ∧ j < (len : Int)) (.cl (.vptr L s j.toNat 0)) [] [] else .no
          | some (.fvec s len get) => if s = n then .chk [(L, false)] (0 ≤ j ∧ j < (len : Int)) (.p (.fp (get j.toNat) 0)) [] [] else .no
          | some (.vv _ _ _ _ _ len _ _) => if n = 1 then .chk [(L, false)] (0 ≤ j ∧ j < (len : Int)) (.cl (.vptr L 1 j.toNat 0)) [] [] else .no
          | some (.vt _ _ _ _ _ len _ _ _) => if n = 1 then .chk [(L, false)] (0 ≤ j ∧ j < (len : Int)) (.cl (.vptr L 1 j.toNat 0)) [] [] else .no
          | _ => .no
        | _ => .no
      | _, _ => .no
    | some (.array n e) => indexArr P n e (ev x) (ev i)
    | _ => .no
def aMm (o : Oper) (ev : Operand → DV) (ob : Nat → Option AO) (t : TypeId) : OpAct := match vvOn Γ o.dst with
    | true => match P.underlying t with
      | some (.map kt vt) => match mapE P kt vt with
        | some q => putB ob o.dst (.mo kt vt q 0 (fun _ => none)) fun t => .cl (.mo t)
        | none => .no
      | _ => .no
    | false => .no
def aLn (ev : Operand → DV) (ob : Nat → Option AO) (args : Array Operand) (argTypes : Array TypeId) : OpAct := match args.toList, argTypes.toList with
    | [x], [t] => match P.underlying t with
      | some (.slice _) => match ev x with
        | .one (.c (.p (.sl n _ _))) => .val [] (.int n) [] []
        | .one (.c (.p .nils)) => .val [] (.int 0) [] []
        | .one (.c (.vec L)) => match ob L with
          | some (.vec _ _ _ n _) => .val [(L, false)] (.int n) [] []
          | some (.fvec _ n _) => .val [(L, false)] (.int n) [] []
          | some (.vv _ _ _ _ _ n _ _) => .val [(L, false)] (.int n) [] []
          | _ => .no
        | _ => .no
      | some (.map _ _) => match ev x with
        | .one (.c (.mo L)) => match ob L with
          | some (.mo _ _ _ n _) => .val [(L, false)] (.int n) [] []
          | _ => .no
        | _ => .no
      | _ => .no
    | _, _ => .no
def aMx (ev : Operand → DV) (args : Array Operand) : OpAct := match args.toList.map ev with
    | [.one (.c (.p (.int k a))), .one (.c (.p (.int _ b)))] => .val [] (.p (.int k (if b > a then b else a))) [] []
    | _ => .no
def aMi (ev : Operand → DV) (args : Array Operand) : OpAct := match args.toList.map ev with
    | [.one (.c (.p (.int k a))), .one (.c (.p (.int _ b)))] => .val [] (.p (.int k (if b < a then b else a))) [] []
    | _ => .no
def aAp (o : Oper) (ev : Operand → DV) (ob : Nat → Option AO) (args : Array Operand) (argTypes : Array TypeId) : OpAct := match args.toList, argTypes.toList with
    | [s, x], [t, t'] => match P.underlying t, Nat.beq t t', o.dst with
      | some (.slice e), true, some dst => match P.info? e, zeroT P e with
        | some ie, some _ => appAct e ie dst (ev x) (ev s) ob
        | _, _ => .no
      | _, _, _ => .no
    | _, _ => .no
def aCl (o : Oper) (ev : Operand → DV) (ob : Nat → Option AO) (f : Operand) (args : Array Operand) : OpAct := match ev f with
    | .one (.c (.clo g caps)) => match Γ.mt g with
      | some C => mutAct C (slfS g args.size caps) (args.toList.map ev ++ caps.map capD) ob
      | none => .no
    | .one (.c (.p (.fn g first caps))) => match Γ.mt g with
     | some C => mutAct C none (first.map (fun v => .p v) ++ args.toList.map ev ++ caps.map (fun v => .p v)) ob
     | none => match (Γ.own g).on with
     | true => match first, caps with
       | [], [] => ownAct P Γ o (Γ.own g) (args.toList.map ev) ob
       | _, _ => .no
     | false => match frzDs ob (args.toList.map ev) with
      | some (az, u) => match (Γ.fn g (first.map .one ++ az ++ caps.map .one)).o with
        | some r => callAct (args.toList.flatMap fun x => deepLab ob (ev x)) u r
        | none => .no
      | none => .no
    | .one (.c (.p (.fna g cells))) => match frzDs ob (args.toList.map ev) with
      | some (az, u) => match (Γ.fn g (.agg cells :: az)).o with
        | some r => callAct (args.toList.flatMap fun x => deepLab ob (ev x)) u r
        | none => .no
      | none => .no
    | _ => .no
def aMf (ev : Operand → DV) (ob : Nat → Option AO) (f : FuncId) (first caps : Array Operand) : OpAct := match (Γ.mt f).isSome with
   | true => match first.toList, capEs ev caps.toList with
     | [], some l => .val [] (.cl (.clo f l)) [] []
     | _, _ => .no
   | false => match bindA ev first.toList caps.toList with
    | some l => .val [] (.p (.fna f l)) [] []
    | none => match frzL ob (first.toList.flatMap fun x => match ev x with | .one (.c c) => [c] | _ => [.junk]), frzL ob (caps.toList.flatMap fun x => match ev x with | .one (.c c) => [c] | _ => [.junk]) with
    | some (l, u), some (l', u') => .val (wr ((first.toList ++ caps.toList).flatMap fun x => deepLab ob (ev x))) (.p (.fn f l l')) (u ++ u') []
    | _, _ => .no
def aEx (ev : Operand → DV) (t : Operand) (i : Nat) : OpAct := match ev t with
    | .tup ds => match ds[i]? with
      | some d => .val [] (.one d) [] []
      | none => .no
    | _ => .no
def act (o : Oper) (ev : Operand → DV) (ob : Nat → Option AO) : OpAct :=
  match o.op with
  | .move x => .val [] (ev x) [] []
  | .assign x => .val [] (ev x) [] []
  | .pick c a b => aPk ev c a b
  | .alloc e => aAl P o ev ob e
  | .box e x => aBx P o ev ob e x
  | .build t parts => aBd P ev t parts
  | .buildSlice t n parts => aBs P o ev ob t n parts
  | .load t a => aLd P o ev ob t a
  | .store t a x => aSt P ev ob t a x
  | .nilCheck x => aNc ev x
  | .binOp op t x y _ => aBn P ev op t x y
  | .unOp op _ x => aUn ev op x
  | .convert t1 t2 x => aCv P ev t1 t2 x
  | .fieldAddr t x f => aFa P ev t x f
  | .indexAddr t x i => aIa P ev ob t x i
  | .index t x i => indexAct P t (ev x) (ev i)
  | .field t x f => fieldAct P t (ev x) f
  | .slice t x lo hi none => sliceAct P t (ev x) (bndO ev lo) (bndO ev hi)
  | .lookup t m k ok => lookMo P t (ev m) (ev k) ok ob
  | .mapUpdate t m k v => updMo P t (ev m) (ev k) (ev v) ob
  | .makeMap t none => aMm P Γ o ev ob t
  | .makeSlice t x y => makeAct P Γ t (ev x) (ev y) o.dst ob
  | .call { callee := .builtin .len, args, argTypes } => aLn P ev ob args argTypes
  | .call { callee := .builtin .max, args, argTypes := _ } => aMx ev args
  | .call { callee := .builtin .min, args, argTypes := _ } => aMi ev args
  | .call { callee := .builtin .append, args, argTypes } => aAp P o ev ob args argTypes
  | .call { callee := .value f, args, argTypes := _ } => aCl P Γ o ev ob f args
  | .makeFunc (.func f) first caps => aMf Γ ev ob f first caps
  | .extract t i => aEx ev t i
  | _ => .no

end Go.Pm
namespace Go.Pm

def RL {α β : Type} (R : α → β → Prop) : List α → List β → Prop
  | [], [] => True
  | a :: l, b :: m => R a b ∧ RL R l m
  | _, _ => False

section rl
variable {α β : Type} {R R' : α → β → Prop}
theorem RL.length {l : List α} {m : List β} (h : RL R l m) : l.length = m.length := by
  induction l generalizing m with
  | nil => cases m with
    | nil => rfl
    | cons => exact h.elim
  | cons a l ih => cases m with
    | nil => exact h.elim
    | cons b m => simp [ih h.2]
theorem RL.mono {l : List α} {m : List β} (h : RL R l m) (hr : ∀ a b, R a b → R' a b) : RL R' l m := by
  induction l generalizing m with
  | nil => cases m with
    | nil => trivial
    | cons => exact h.elim
  | cons a l ih => cases m with
    | nil => exact h.elim
    | cons b m => exact ⟨hr _ _ h.1, ih h.2⟩
theorem RL.mono_mem {l : List α} {m : List β} (h : RL R l m) (hr : ∀ a b, a ∈ l → R a b → R' a b) : RL R' l m := by
  induction l generalizing m with
  | nil => cases m with
    | nil => trivial
    | cons => exact h.elim
  | cons a l ih => cases m with
    | nil => exact h.elim
    | cons b m => exact ⟨hr _ _ List.mem_cons_self h.1, ih h.2 fun x y hx => hr x y (List.mem_cons_of_mem _ hx)⟩
theorem RL.get {l : List α} {m : List β} (h : RL R l m) : ∀ (j : Nat) (a : α), l[j]? = some a → ∃ b, m[j]? = some b ∧ R a b := by
  induction l generalizing m with
  | nil => intro j a hj; simp at hj
  | cons x l ih => cases m with
    | nil => exact h.elim
    | cons b m =>
      intro j a hj
      cases j with
      | zero => simp at hj; subst hj; exact ⟨b, rfl, h.1⟩
      | succ j => simp at hj; obtain ⟨b', h1, h2⟩ := ih h.2 j a hj; exact ⟨b', by simpa using h1, h2⟩
theorem RL.get' {l : List α} {m : List β} (h : RL R l m) : ∀ (j : Nat) (b : β), m[j]? = some b → ∃ a, l[j]? = some a ∧ R a b := by
  induction l generalizing m with
  | nil => cases m with
    | nil => intro j b hj; simp at hj
    | cons => exact h.elim
  | cons x l ih => cases m with
    | nil => exact h.elim
    | cons y m =>
      intro j b hj
      cases j with
      | zero => simp at hj; subst hj; exact ⟨x, rfl, h.1⟩
      | succ j => simp at hj; obtain ⟨b', h1, h2⟩ := ih h.2 j b hj; exact ⟨b', by simpa using h1, h2⟩
theorem RL.of_get {l : List α} {m : List β} (hl : l.length = m.length) (h : ∀ (j : Nat) (a : α) (b : β), l[j]? = some a → m[j]? = some b → R a b) : RL R l m := by
  induction l generalizing m with
  | nil => cases m with
    | nil => trivial
    | cons => simp at hl
  | cons x l ih => cases m with
    | nil => simp at hl
    | cons y m =>
      refine ⟨h 0 x y rfl rfl, ih (by simpa using hl) fun j a b ha hb => h (j + 1) a b (by simpa using ha) (by simpa using hb)⟩
theorem RL.append {l l' : List α} {m m' : List β} (h : RL R l m) (h' : RL R l' m') : RL R (l ++ l') (m ++ m') := by
  induction l generalizing m with
  | nil => cases m with
    | nil => exact h'
    | cons => exact h.elim
  | cons a l ih => cases m with
    | nil => exact h.elim
    | cons b m => exact ⟨h.1, ih h.2⟩
theorem RL.set {l : List α} {m : List β} (h : RL R l m) (i : Nat) {a : α} {b : β} (hab : R a b) : RL R (l.set i a) (m.set i b) := by
  induction l generalizing m i with
  | nil => cases m with
    | nil => trivial
    | cons => exact h.elim
  | cons x l ih => cases m with
    | nil => exact h.elim
    | cons y m => cases i with
      | zero => exact ⟨hab, h.2⟩
      | succ i => exact ⟨h.1, ih h.2 i⟩
theorem RL.spl {l l' : List α} {m m' : List β} (h : RL R l m) (h' : RL R l' m') (off : Nat) : RL R (spl l off l') (Pm.spl m off m') := by
  induction l' generalizing l m m' off with
  | nil => cases m' with
    | nil => simpa [Pm.spl] using h
    | cons => exact h'.elim
  | cons x l' ih => cases m' with
    | nil => exact h'.elim
    | cons y m' => simp only [Pm.spl]; exact ih (h.set off h'.1) h'.2 _
theorem RL.drop {l : List α} {m : List β} (h : RL R l m) (n : Nat) : RL R (l.drop n) (m.drop n) := by
  induction n generalizing l m with
  | zero => simpa using h
  | succ n ih => cases l with
    | nil => cases m with
      | nil => trivial
      | cons => exact h.elim
    | cons a l => cases m with
      | nil => exact h.elim
      | cons b m => simpa using ih h.2
theorem RL.take {l : List α} {m : List β} (h : RL R l m) (n : Nat) : RL R (l.take n) (m.take n) := by
  induction n generalizing l m with
  | zero => simp [RL]
  | succ n ih => cases l with
    | nil => cases m with
      | nil => trivial
      | cons => exact h.elim
    | cons a l => cases m with
      | nil => exact h.elim
      | cons b m => exact ⟨h.1, ih h.2⟩
theorem RL.map_left {γ : Type} {f : γ → α} {l : List γ} {m : List β} : RL R (l.map f) m ↔ RL (fun x y => R (f x) y) l m := by
  induction l generalizing m with
  | nil => cases m <;> simp [RL]
  | cons a l ih => cases m <;> simp [RL, ih]
end rl

def atP : PV → Bool
  | .int _ _ => false
  | .bool _ => false
  | .sl _ _ _ => false
  | .fp _ _ => false
  | _ => true
inductive Sm : PV → PV → Prop
  | int (k : IntKind) (a b : Int) : Sm (.int k a) (.int k b)
  | bool (a b : Bool) : Sm (.bool a) (.bool b)
  | sl (n m s : Nat) (g g' : Nat → List PV) (hl : ∀ i j : Nat, (g i).length = (g' j).length) (h : ∀ (i j k : Nat) (x y : PV), (g i)[k]? = some x → (g' j)[k]? = some y → Sm x y) : Sm (.sl n s g) (.sl m s g')
  | fp (l l' : List PV) (o : Nat) (hl : l.length = l'.length) (h : ∀ (k : Nat) (x y : PV), l[k]? = some x → l'[k]? = some y → Sm x y) : Sm (.fp l o) (.fp l' o)
  | atom (p : PV) (h : atP p = true) : Sm p p
theorem Sm.symm {x y : PV} (h : Sm x y) : Sm y x := by
  induction h with
  | int k a b => exact .int k b a
  | bool a b => exact .bool b a
  | sl n m s g g' hl h ih => exact .sl m n s g' g (fun i j => (hl j i).symm) fun i j k x y hx hy => ih j i k y x hy hx
  | fp l l' o hl h ih => exact .fp l' l o hl.symm fun k x y hx hy => ih k y x hy hx
  | atom p h => exact .atom p h
theorem get_len {α β : Type} {l : List α} {m : List β} {k : Nat} {x : α} (h : l.length = m.length) (hx : l[k]? = some x) : ∃ y, m[k]? = some y := by
  obtain ⟨hk, _⟩ := List.getElem?_eq_some_iff.1 hx
  exact ⟨_, List.getElem?_eq_getElem (h ▸ hk)⟩
theorem Sm.trans {x y : PV} (h : Sm x y) : ∀ {z : PV}, Sm y z → Sm x z := by
  induction h with
  | int k a b => intro z h; cases h with
    | int _ _ c => exact .int k a c
    | atom _ h => cases h
  | bool a b => intro z h; cases h with
    | bool _ c => exact .bool a c
    | atom _ h => cases h
  | sl n m s g g' hl h ih => intro z h'; cases h' with
    | sl _ m' _ _ g2 hl' h' =>
      refine .sl n m' s g g2 (fun i j => (hl i 0).trans (hl' 0 j)) fun i j k x z hx hz => ?_
      obtain ⟨y, hy⟩ := get_len (hl i 0) hx
      exact ih i 0 k x y hx hy (h' 0 j k y z hy hz)
    | atom _ h => cases h
  | fp l l' o hl h ih => intro z h'; cases h' with
    | fp _ l2 _ hl' h' =>
      refine .fp l l2 o (hl.trans hl') fun k x z hx hz => ?_
      obtain ⟨y, hy⟩ := get_len hl hx
      exact ih k x y hx hy (h' k y z hy hz)
    | atom _ h => cases h
  | atom p h => intro z h'; exact h'
abbrev RS : List PV → List PV → Prop := RL Sm
def Ung (g : Nat → List PV) : Prop := ∀ i j, RS (g i) (g j)
theorem RS.symm {l m : List PV} (h : RS l m) : RS m l := by
  refine RL.of_get h.length.symm fun j a b ha hb => ?_
  obtain ⟨y, hy, r⟩ := RL.get h j b hb
  rw [ha] at hy; cases hy; exact r.symm
theorem RS.trans {l m n : List PV} (h : RS l m) (h' : RS m n) : RS l n := by
  refine RL.of_get (h.length.trans h'.length) fun j a b ha hb => ?_
  obtain ⟨y, hy, r⟩ := RL.get h j a ha
  obtain ⟨z, hz, r'⟩ := RL.get h' j y hy
  rw [hb] at hz; cases hz; exact r.trans r'
theorem Ung.sl {g g' : Nat → List PV} (h : ∀ i j, RS (g i) (g' j)) (n m s : Nat) : Sm (.sl n s g) (.sl m s g') :=
  .sl n m s g g' (fun i j => (h i j).length) fun i j k x y hx hy => by
    obtain ⟨z, hz, r⟩ := RL.get (h i j) k x hx
    rw [hy] at hz; cases hz; exact r
theorem Sm.rows {n m s s' : Nat} {g g' : Nat → List PV} (h : Sm (.sl n s g) (.sl m s' g')) : s = s' ∧ ∀ i j, RS (g i) (g' j) := by
  cases h with
  | sl _ _ _ _ _ hl h => exact ⟨rfl, fun i j => RL.of_get (hl i j) fun k a b ha hb => h i j k a b ha hb⟩
  | atom _ h => cases h
theorem smB_ok : ∀ {d : Nat} {p q : PV}, smB d p q = true → Sm p p → Sm q q → Sm p q := by
  intro d
  induction d with
  | zero => intro p q h; cases h
  | succ d ih =>
    have key : ∀ {l m : List PV}, (Nat.beq l.length m.length && (l.zip m).all fun z => smB d z.1 z.2) = true → RS l l → RS m m → RS l m := by
      intro l m h hl hm
      rw [Bool.and_eq_true] at h
      refine RL.of_get (Nat.eq_of_beq_eq_true h.1) fun j a b ha hb => ?_
      obtain ⟨_, ha', ra⟩ := RL.get hl j a ha
      obtain ⟨_, hb', rb⟩ := RL.get hm j b hb
      rw [ha] at ha'; rw [hb] at hb'; cases ha'; cases hb'
      exact ih (List.all_eq_true.1 h.2 (a, b) (List.mem_of_getElem? (i := j) (by rw [List.getElem?_zip_eq_some]; exact ⟨ha, hb⟩))) ra rb
    intro p q h hp hq
    unfold smB at h
    split at h
    · have := of_decide_eq_true h; subst this; exact .int _ _ _
    · exact .bool _ _
    · rw [Bool.and_eq_true] at h
      have e := Nat.eq_of_beq_eq_true h.1
      subst e
      have h0 := key h.2 (hp.rows.2 0 0) (hq.rows.2 0 0)
      exact Ung.sl (fun i j => ((hp.rows.2 i 0).trans h0).trans (hq.rows.2 0 j)) _ _ _
    · rw [Bool.and_eq_true] at h
      have e := Nat.eq_of_beq_eq_true h.1
      subst e
      have hp' : ∀ {l : List PV} {o : Nat}, Sm (.fp l o) (.fp l o) → RS l l := by
        intro l o h
        cases h with
        | fp _ _ _ hl h => exact RL.of_get hl fun k a b ha hb => h k a b ha hb
        | atom _ h => cases h
      have h0 := key h.2 (hp' hp) (hp' hq)
      exact .fp _ _ _ h0.length fun k x y hx hy => by
        obtain ⟨z, hz, r⟩ := RL.get h0 k x hx
        rw [hy] at hz; cases hz; exact r
    · exact hp
    · exact hp
    · exact hp
    · exact hp
    · cases h
theorem Sm.cells {l l' : List PV} {o : Nat} (h : Sm (.fp l o) (.fp l' o)) : RS l l' := by
  cases h with
  | fp _ _ _ hl h => exact RL.of_get hl fun k a b ha hb => h k a b ha hb
  | atom _ h => cases h
theorem Sm.fp' {l l' : List PV} {o : Nat} (h : RS l l') : Sm (.fp l o) (.fp l' o) := .fp _ _ _ h.length fun k x y hx hy => by
  obtain ⟨z, hz, r⟩ := RL.get h k x hx
  rw [hy] at hz; cases hz; exact r
theorem smL_ok {l m : List PV} (h : smL l m = true) (hl : RS l l) (hm : RS m m) : RS l m := by
  unfold smL at h
  rw [Bool.and_eq_true] at h
  refine RL.of_get (Nat.eq_of_beq_eq_true h.1) fun j a b ha hb => ?_
  obtain ⟨_, ha', ra⟩ := RL.get hl j a ha
  obtain ⟨_, hb', rb⟩ := RL.get hm j b hb
  rw [ha] at ha'; rw [hb] at hb'; cases ha'; cases hb'
  exact smB_ok (List.all_eq_true.1 h.2 (a, b) (List.mem_of_getElem? (i := j) (by rw [List.getElem?_zip_eq_some]; exact ⟨ha, hb⟩))) ra rb
theorem ung_app {n : Nat} {g new : Nat → List PV} (hg : Ung g) (hn : Ung new) (h : RS (g 0) (new 0)) : Ung (appG n g new) := by
  have h2 : ∀ i j, RS (g i) (new j) := fun i j => ((hg i 0).trans h).trans (hn 0 j)
  intro i j
  unfold appG
  split <;> split
  · exact hn _ _
  · exact (h2 _ _).symm
  · exact h2 _ _
  · exact hg _ _
theorem ung_c {c : List PV} (h : RS c c) : Ung fun _ => c := fun _ _ => h
theorem ung_map {g : Nat → List PV} (h : Ung g) (f : Nat → Nat) : Ung fun i => g (f i) := fun _ _ => h _ _
theorem ung_getL {l : List (List PV)} (h : ∀ c ∈ l, RS c c) (hs : smA l = true) : Ung (getL l) := by
  have key : ∀ c r, l = c :: r → ∀ x ∈ l, RS c x := by
    intro c r e x hx
    subst e
    simp only [smA, Bool.and_eq_true, List.all_eq_true] at hs
    rcases List.mem_cons.1 hx with rfl | hx
    · exact h _ List.mem_cons_self
    · exact smL_ok (hs.2 x hx) (h _ List.mem_cons_self) (h _ (List.mem_cons_of_mem _ hx))
  unfold getL
  split
  · exact fun _ _ => trivial
  · exact ung_c (h _ List.mem_cons_self)
  · rename_i c r _
    have k2 : ∀ i : Nat, RS c (match (c :: r)[i]? with | some x => x | none => c) := fun i => by
      split
      · rename_i x hx; exact key c r rfl x (List.mem_of_getElem? hx)
      · exact h _ List.mem_cons_self
    exact fun i j => (k2 i).symm.trans (k2 j)

inductive PVle : PV → PV → Prop
  | rfl (p : PV) : PVle p p
  | nil (s : Nat) (g : Nat → List PV) (h : Ung g) : PVle .nils (.sl 0 s g)
  | sl (n s : Nat) (g g' : Nat → List PV) (hu : Ung g') (hl : ∀ i : Nat, i < n → (g i).length = (g' i).length) (h : ∀ (i k : Nat) (x y : PV), i < n → (g i)[k]? = some x → (g' i)[k]? = some y → PVle x y) : PVle (.sl n s g) (.sl n s g')
  | fp (l l' : List PV) (o : Nat) (hl : l.length = l'.length) (h : ∀ (k : Nat) (x y : PV), l[k]? = some x → l'[k]? = some y → PVle x y) : PVle (.fp l o) (.fp l' o)

theorem zipL_eq {f : PV → PV → PV} (hf : ∀ a b, Sm a b → f a b = b) : ∀ {l m : List PV}, RS l m → zipL f l m = m
  | [], [], _ => rfl
  | _ :: _, _ :: _, h => by simp only [zipL, List.headD_cons, List.tail_cons, hf _ _ h.1, zipL_eq hf h.2]
  | [], _ :: _, h => h.elim
  | _ :: _, [], h => h.elim
theorem shp_eq : ∀ (d : Nat) (a b : PV), Sm a b → shp d a b = b
  | 0, _, _, _ => rfl
  | d + 1, a, b, h => by
    cases h with
    | int => rfl
    | bool => rfl
    | sl n m s g g' hl hg =>
      have hr := (Sm.rows (.sl n m s g g' hl hg)).2
      simp only [shp]
      congr 1
      funext i
      exact zipL_eq (shp_eq d) (hr 0 i)
    | fp l l' o hl hg =>
      simp only [shp]
      rw [zipL_eq (shp_eq d) (Sm.cells (.fp l l' o hl hg))]
    | atom _ ha => cases a <;> first | rfl | cases ha
theorem nzG_eq {row : List PV} {g : Nat → List PV} (h : ∀ i, RS row (g i)) : nzG row g = g := by
  funext i; exact zipL_eq (shp_eq 8) (h i)
theorem nzGG_eq {row : List PV} {g : Nat → Nat → List PV} (h : ∀ i j, RS row (g i j)) : nzGG row g = g := by
  funext i j; exact zipL_eq (shp_eq 8) (h i j)
structure Sl (α : Type) where
  len : Nat
  get : Nat → α
instance {α : Type} [Inhabited α] : Inhabited (Sl α) := ⟨⟨0, fun _ => default⟩⟩
class FdC (α : Type) where
  enc : α → List PV
  dec : List PV → α × List PV
  ck : List PV → Option (List PV)
  le : ∀ {l r : List PV}, RS l l → ck l = some r → ∃ k, l = k ++ r ∧ (dec l).2 = r ∧ RL PVle k (enc (dec l).1)
  inv : ∀ {l m r : List PV}, RS l m → ck l = some r → ∃ r', ck m = some r' ∧ RS r r'
  sm : ∀ a b : α, RS (enc a) (enc b)
  eq : α → α → Bool
  eqk : ∀ {a b : α}, eq a b = true → RL PVle (enc a) (enc b)
instance : FdC Int where
  enc x := [.int .i64 x]
  dec l := match l with | .int .i64 x :: r => (x, r) | _ => (0, [])
  ck l := match l with | .int .i64 _ :: r => some r | _ => none
  le := by
    intro l r _ h
    split at h
    · cases h; exact ⟨[_], rfl, rfl, .rfl _, trivial⟩
    · cases h
  inv := by
    intro l m r h hc
    split at hc
    · cases hc
      match m, h with
      | y :: m, h =>
        obtain ⟨h, h2⟩ := h
        cases h with
        | int => exact ⟨_, rfl, h2⟩
        | atom _ h => cases h
    · cases hc
  sm a b := ⟨.int _ _ _, trivial⟩
  eq a b := decide (a = b)
  eqk h := by rw [of_decide_eq_true h]; exact ⟨.rfl _, trivial⟩
instance : FdC Bool where
  enc x := [.bool x]
  dec l := match l with | .bool x :: r => (x, r) | _ => (false, [])
  ck l := match l with | .bool _ :: r => some r | _ => none
  le := by
    intro l r _ h
    split at h
    · cases h; exact ⟨[_], rfl, rfl, .rfl _, trivial⟩
    · cases h
  inv := by
    intro l m r h hc
    split at hc
    · cases hc
      match m, h with
      | y :: m, h =>
        obtain ⟨h, h2⟩ := h
        cases h with
        | bool => exact ⟨_, rfl, h2⟩
        | atom _ h => cases h
    · cases hc
  sm a b := ⟨.bool _ _, trivial⟩
  eq a b := a == b
  eqk h := by rw [eq_of_beq h]; exact ⟨.rfl _, trivial⟩
def ck0 (o : Option (List PV)) : Bool := match o with | some [] => true | _ => false
theorem ck0_ok {o : Option (List PV)} (h : ck0 o = true) : o = some [] := by
  unfold ck0 at h
  split at h
  · rfl
  · cases h
theorem ung_le {α : Type} [FdC α] {g : Nat → List PV} (h : Ung g) (hc : ck0 (FdC.ck (α := α) (g 0)) = true) (i : Nat) : RL PVle (g i) (FdC.enc (FdC.dec (α := α) (g i)).1) := by
  obtain ⟨r', e, hr⟩ := FdC.inv (h 0 i) (ck0_ok hc)
  cases r' with
  | nil =>
    obtain ⟨k, e1, _, r⟩ := FdC.le (h i i) e
    rw [List.append_nil] at e1
    rw [← e1] at r; exact r
  | cons => exact hr.elim
def allN (p : Nat → Bool) : Nat → Bool
  | 0 => true
  | n + 1 => allN p n && p n
theorem allN_lt {p : Nat → Bool} : ∀ {n : Nat}, allN p n = true → ∀ i, i < n → p i = true
  | 0, _, i, hi => absurd hi (Nat.not_lt_zero i)
  | n + 1, h, i, hi => by
    simp only [allN, Bool.and_eq_true] at h
    rcases Nat.lt_succ_iff_lt_or_eq.1 hi with h1 | rfl
    · exact allN_lt h.1 i h1
    · exact h.2
instance {α : Type} [FdC α] [Inhabited α] : FdC (Sl α) where
  enc x := [.sl x.len (FdC.enc (default : α)).length (fun i => FdC.enc (x.get i))]
  dec l := match l with
    | .sl n _ g :: r => (⟨n, fun i => (FdC.dec (g i)).1⟩, r)
    | .nils :: r => (⟨0, fun _ => default⟩, r)
    | _ => (⟨0, fun _ => default⟩, [])
  ck l := match l with
    | .sl _ s g :: r => match Nat.beq s (FdC.enc (default : α)).length && ck0 (FdC.ck (α := α) (g 0)) with
      | true => some r
      | false => none
    | .nils :: r => some r
    | _ => none
  le := by
    intro l r hl h
    split at h
    · rename_i n s g r'
      split at h
      · rename_i hc
        rw [Bool.and_eq_true] at hc
        cases h
        have e := Nat.eq_of_beq_eq_true hc.1
        subst e
        have hu : Ung g := hl.1.rows.2
        refine ⟨[_], rfl, rfl, ?_, trivial⟩
        have hp := fun i => ung_le (α := α) hu hc.2 i
        exact .sl _ _ _ _ (fun i j => FdC.sm _ _) (fun i _ => (hp i).length) fun i k x y _ hx hy => by
          obtain ⟨z, hz, r⟩ := RL.get (hp i) k x hx
          rw [hy] at hz; cases hz; exact r
      · cases h
    · cases h
      exact ⟨[_], rfl, rfl, .nil _ _ fun i j => FdC.sm _ _, trivial⟩
    · cases h
  inv := by
    intro l m r h hc
    split at hc
    · rename_i n s g r'
      split at hc
      · rename_i hs
        cases hc
        match m, h with
        | y :: m, h =>
          obtain ⟨h, h2⟩ := h
          cases h with
          | sl _ m' _ _ g' hl hg =>
            rw [Bool.and_eq_true] at hs
            obtain ⟨r', e, hr⟩ := FdC.inv (α := α) ((Sm.rows (.sl n m' s g g' hl hg)).2 0 0) (ck0_ok hs.2)
            cases r' with
            | nil => exact ⟨m, by simp only [hs.1, e]; rfl, h2⟩
            | cons => exact hr.elim
          | atom _ h => cases h
      · cases hc
    · cases hc
      match m, h with
      | y :: m, h =>
        obtain ⟨h, h2⟩ := h
        cases h with
        | atom _ _ => exact ⟨m, rfl, h2⟩
    · cases hc
  sm a b := ⟨Ung.sl (fun i j => FdC.sm _ _) _ _ _, trivial⟩
  eq a b := Nat.beq a.len b.len && allN (fun i => FdC.eq (a.get i) (b.get i)) a.len
  eqk := by
    intro a b h
    obtain ⟨n, f⟩ := a
    obtain ⟨m, f'⟩ := b
    rw [Bool.and_eq_true] at h
    have e : n = m := Nat.eq_of_beq_eq_true h.1
    subst e
    have key := fun i (hi : i < n) => FdC.eqk (allN_lt h.2 i hi)
    exact ⟨.sl _ _ _ _ (fun i j => FdC.sm _ _) (fun i hi => (key i hi).length) fun i k x y hi hx hy => by
      obtain ⟨z, hz, r⟩ := RL.get (key i hi) k x hx
      rw [hy] at hz; cases hz; exact r, trivial⟩
theorem rl_pp {α β : Type} {R : α → β → Prop} : ∀ {a : List α} {b : List β} {c : List α} {d : List β}, RL R a b → RL R c d → RL R (a ++ c) (b ++ d)
  | [], [], _, _, _, h => h
  | _ :: _, _ :: _, _, _, h, h' => ⟨h.1, rl_pp h.2 h'⟩
instance {α β : Type} [FdC α] [FdC β] : FdC (α × β) where
  enc := fun x => FdC.enc x.1 ++ FdC.enc x.2
  dec := fun l => (((FdC.dec (α := α) l).1, (FdC.dec (α := β) (FdC.dec (α := α) l).2).1), (FdC.dec (α := β) (FdC.dec (α := α) l).2).2)
  ck := fun l => match FdC.ck (α := α) l with
    | some r => FdC.ck (α := β) r
    | none => none
  le := by
    intro l r hl h
    split at h
    · rename_i r1 h1
      obtain ⟨k1, e1, d1, p1⟩ := FdC.le hl h1
      obtain ⟨r1', e1', s1⟩ := FdC.inv hl h1
      rw [h1] at e1'; cases e1'
      obtain ⟨k2, e2, d2, p2⟩ := FdC.le s1 h
      refine ⟨k1 ++ k2, by rw [List.append_assoc, ← e2]; exact e1, ?_, ?_⟩
      · simp only [d1]; exact d2
      · simp only [d1]; exact rl_pp p1 p2
    · cases h
  inv := by
    intro l m r h hc
    split at hc
    · rename_i r1 h1
      obtain ⟨r1', e1, s1⟩ := FdC.inv h h1
      obtain ⟨r2', e2, s2⟩ := FdC.inv s1 hc
      exact ⟨r2', by rw [e1]; exact e2, s2⟩
    · cases hc
  sm a b := rl_pp (FdC.sm _ _) (FdC.sm _ _)
  eq a b := FdC.eq a.1 b.1 && FdC.eq a.2 b.2
  eqk h := by rw [Bool.and_eq_true] at h; exact rl_pp (FdC.eqk h.1) (FdC.eqk h.2)
structure Pt (α : Type) where
  v : α
instance {α : Type} [Inhabited α] : Inhabited (Pt α) := ⟨⟨default⟩⟩
instance {α : Type} [FdC α] : FdC (Pt α) where
  enc := fun x => [.fp (FdC.enc x.v) 0]
  dec := fun l => match l with
    | .fp k _ :: r => (⟨(FdC.dec k).1⟩, r)
    | _ => (⟨(FdC.dec []).1⟩, [])
  ck := fun l => match l with
    | .fp k 0 :: r => match ck0 (FdC.ck (α := α) k) with
      | true => some r
      | false => none
    | _ => none
  le := by
    intro l r hl h
    split at h
    · split at h
      · rename_i hc
        cases h
        obtain ⟨k', e1, _, p⟩ := FdC.le hl.1.cells (ck0_ok hc)
        rw [List.append_nil] at e1; rw [← e1] at p
        exact ⟨[_], rfl, rfl, .fp _ _ _ p.length fun k x y hx hy => by
          obtain ⟨z, hz, r⟩ := RL.get p k x hx
          rw [hy] at hz; cases hz; exact r, trivial⟩
      · cases h
    · cases h
  inv := by
    intro l m r h hc
    split at hc
    · split at hc
      · rename_i hs
        cases hc
        match m, h with
        | y :: m, h =>
          obtain ⟨h, h2⟩ := h
          cases h with
          | fp _ l' _ hl hg =>
            obtain ⟨r', e, hr⟩ := FdC.inv (α := α) (Sm.cells (.fp _ _ 0 hl hg)) (ck0_ok hs)
            cases r' with
            | nil => exact ⟨m, by simp only [e]; rfl, h2⟩
            | cons => exact hr.elim
          | atom _ h => cases h
      · cases hc
    · cases hc
  sm a b := ⟨Sm.fp' (FdC.sm _ _), trivial⟩
  eq a b := FdC.eq a.v b.v
  eqk h := ⟨.fp _ _ _ (FdC.eqk h).length fun k x y hx hy => by
    obtain ⟨z, hz, r⟩ := RL.get (FdC.eqk h) k x hx
    rw [hy] at hz; cases hz; exact r, trivial⟩
abbrev FdC.iso {α β : Type} [FdC α] (f : α → β) (g : β → α) (hg : ∀ a, g (f a) = a) : FdC β where
  enc := fun b => FdC.enc (g b)
  dec := fun l => (f (FdC.dec (α := α) l).1, (FdC.dec (α := α) l).2)
  ck := FdC.ck (α := α)
  le := by
    intro l r hl h
    rw [hg]; exact FdC.le hl h
  inv := FdC.inv
  sm a b := FdC.sm _ _
  eq a b := FdC.eq (g a) (g b)
  eqk h := FdC.eqk h

end Go.Pm
namespace Go.Pm

def condP (b : Bool) (x y : Prop) : Prop := match b with | true => x | false => y

theorem condP_iff {b : Bool} {x y : Prop} : condP b x y ↔ ((b = true → x) ∧ (b = false → y)) := by
  cases b <;> simp [condP]
theorem condP_mk {b : Bool} {x y : Prop} (h1 : b = true → x) (h2 : b = false → y) : condP b x y := condP_iff.2 ⟨h1, h2⟩

structure Keep where
  tmps : List Nat
  coT : List (Nat × Nat × Nat)
  coB : List (Nat × Nat × Nat × Nat)
  coV : List (Nat × Nat × Nat × Nat × Nat)
  coF : List Nat
  coZ : List Nat
  nf : List (Nat × Nat × Nat × Nat)

structure Ann where
  nt : Nat
  reg : List (Nat × Keep)
  head : List (Nat × Keep)
  cut : List (Nat × Keep)
  unr : List (Nat × Nat × Keep)
  yl : List Nat

def St.setT (σ : St) (t : Nat) (d : DV) : St := { σ with env := (t, d) :: σ.env }

def killC (l : List Nat) (x : Cl) : Cl :=
  match x with
  | .vec L => match l.contains L with | true => .dead L | false => .vec L
  | .vptr L s i k => match l.contains L with | true => .dead L | false => .vptr L s i k
  | .mo L => match l.contains L with | true => .dead L | false => .mo L
  | x => x
def killD1 (l : List Nat) : D1 → D1
  | .c x => .c (killC l x)
  | .agg cs => .agg (cs.map (killC l))
def killD (l : List Nat) : DV → DV
  | .one d => .one (killD1 l d)
  | .tup ds => .tup (ds.map (killD1 l))
def killO (l : List Nat) : AO → AO
  | .box ty cs => .box ty (cs.map (killC l))
  | o => o
def kills {α : Type} (f : α → α) : List (Nat × α) → List (Nat × α)
  | [] => []
  | (k, a) :: r => (k, f a) :: kills f r

def St.upd (σ : St) (_i : Nat) (dst : Option Nat) (_fp : List (Nat × Bool)) (d : DV) (u : List (Nat × AO)) (kill : List Nat) : St :=
  match kill with
  | [] => { env := match dst with | some t => (t, d) :: σ.env | none => σ.env
            objs := u ++ σ.objs
            log := σ.log }
  | kill => { env := match dst with | some t => (t, d) :: kills (killD kill) σ.env | none => kills (killD kill) σ.env
              objs := u ++ kills (killO kill) σ.objs
              log := σ.log }

def St.skip (σ : St) (dst : Option Nat) : St :=
  match dst with
  | some t => σ.setT t (.cl .undef)
  | none => σ

def okDst (nt : Nat) : Option Nat → Bool
  | none => true
  | some t => Nat.blt t nt

def St.relog (σ : St) (l : List (Nat × Nat × Nat)) : St := { σ with log := l ++ σ.log }

def kbOf (σ : St) : List Nat → List Nat
  | [] => []
  | L :: _ => (σ.objs.map (·.1)).filter fun k => match lk σ.objs k with
    | some o => (aoV o).contains L
    | none => false
def menOf (σ : St) (o : Oper) (fp : List (Nat × Bool)) : List Nat :=
  (o.op.operands.toList.flatMap fun x => dvV (evO σ.env x)) ++ fp.flatMap fun x => match lk σ.objs x.1 with
    | some ob => aoV ob
    | none => []
def mkLog (σ : St) (i : Nat) (o : Oper) (fp : List (Nat × Bool)) (kl : List Nat) : List (Nat × Nat × Nat) :=
  (fp.map fun x => (i, x.1, match x.2 with | true => 1 | false => 0)) ++ ((menOf σ o fp).map fun L => (i, L, 2)) ++ (kl.map fun L => (i, L, 3)) ++ ((kbOf σ kl).map fun L => (i, L, 1))

def vcAct (A : OpAct) (lg : List (Nat × Bool) → List Nat → List (Nat × Nat × Nat)) (i : Nat) (dst : Option Nat) (K : St → Prop) (σ : St) : Prop :=
  match A with
  | .no => False
  | .val fp d u kl => K ((σ.upd i dst fp d u kl).relog (lg fp kl))
  | .chk fp s d u kl => s.p ∧ K ((σ.upd i dst fp d u kl).relog (lg fp kl))

section
variable (P : Program) (Γ : Ctrs)

def vcOps (nt : Nat) (ops : Array Oper) : Nat → List Oper → (St → Prop) → St → Prop
  | _, [], K, σ => K σ
  | i, o :: r, K, σ =>
    match okDst nt o.dst with
    | false => False
    | true =>
    match o.guard with
    | none => vcAct (act P Γ o (evO σ.env) (lk σ.objs)) (mkLog σ i o) i o.dst (vcOps nt ops (i + 1) r K) σ
    | some (j, want) =>
      match (ops[j]?).bind (·.dst) with
      | none => False
      | some g =>
        match lk σ.env g with
        | some (.one (.c (.p (.bool b)))) =>
          condP b
            (match want with
              | true => vcAct (act P Γ o (evO ((g, .bool true) :: σ.env)) (lk σ.objs)) (mkLog (σ.setT g (.bool true)) i o) i o.dst (vcOps nt ops (i + 1) r K) (σ.setT g (.bool true))
              | false => vcOps nt ops (i + 1) r K ((σ.setT g (.bool true)).skip o.dst))
            (match want with
              | true => vcOps nt ops (i + 1) r K ((σ.setT g (.bool false)).skip o.dst)
              | false => vcAct (act P Γ o (evO ((g, .bool false) :: σ.env)) (lk σ.objs)) (mkLog (σ.setT g (.bool false)) i o) i o.dst (vcOps nt ops (i + 1) r K) (σ.setT g (.bool false)))
        | some (.one (.c .undef)) => vcOps nt ops (i + 1) r K (σ.skip o.dst)
        | _ => False

def maskOf (ms : List Nat) : List Edge → Nat
  | [] => 0
  | e :: r => match Region.binds .any e, ms[e.on]? with
    | true, some m => (2 ^ e.on ||| m) ||| maskOf ms r
    | _, _ => maskOf ms r
def masks : List Oper → List Nat → List Nat
  | [], ms => ms
  | o :: r, ms => masks r (ms ++ [maskOf ms o.after.toList])

def tmpO : Operand → List Nat
  | .tmp t => [t]
  | _ => []
def gdT (ops : Array Oper) (o : Oper) : List Nat :=
  match o.guard with
  | some (j, _) => match (ops[j]?).bind (·.dst) with | some g => [g] | none => []
  | none => []
def readsT (ops : Array Oper) (o : Oper) : List Nat := o.op.operands.toList.flatMap tmpO ++ gdT ops o

def meets (l : List Nat) (d : Option Nat) : Bool := match d with | some t => l.contains t | none => false
def sameDst (d e : Option Nat) : Bool := match d, e with | some t, some u => Nat.beq t u | _, _ => false

def clashT (ops : Array Oper) (a b : Oper) : Bool :=
  meets (readsT ops b) a.dst || meets (readsT ops a) b.dst || sameDst a.dst b.dst

def tmpsOk (ops : Array Oper) (ms : List Nat) : Bool :=
  (List.range ops.size).all fun j => (List.range j).all fun i =>
    match ops[i]?, ops[j]?, ms[j]? with
    | some a, some b, some m => !clashT ops a b || m.testBit i
    | _, _, _ => false

def lowOk (ops : Array Oper) : Bool :=
  (List.range ops.size).all fun i => match ops[i]? with
    | some o => o.after.toList.all fun e => !Region.binds .any e || Nat.blt e.on i
    | none => true

def clashK (k l : Nat) : Bool :=
  match k, l with
  | 0, 1 => true
  | 1, 0 => true
  | 1, 1 => true
  | 2, 3 => true
  | 3, 2 => true
  | 3, 3 => true
  | _, _ => false

def logOk (ms : List Nat) (log : List (Nat × Nat × Nat)) : Bool :=
  log.all fun x => log.all fun y =>
    !Nat.blt x.1 y.1 || !Nat.beq x.2.1 y.2.1 || !clashK x.2.2 y.2.2 || (match ms[y.1]? with | some m => m.testBit x.1 | none => false)

def undeadC (x : Cl) : Cl := match x with | .dead _ => .junk | x => x
def undeadD1 : D1 → D1
  | .c x => .c (undeadC x)
  | .agg cs => .agg (cs.map undeadC)
def undead : DV → DV
  | .one d => .one (undeadD1 d)
  | .tup ds => .tup (ds.map undeadD1)
def undeadO : AO → AO
  | .box ty cs => .box ty (cs.map undeadC)
  | o => o

def coerceT : List (Nat × Nat × Nat) → St → Option St
  | [], σ => some σ
  | (t, L, e) :: r, σ => match lk σ.env t with
    | some (.one (.c (.p .nils))) => match lk σ.objs L, P.info? e, zeroT P e with
      | none, some ie, some _ => match Nat.ble 1 ie.size with
        | true => coerceT r { env := (t, .cl (.vec L)) :: σ.env, objs := (L, .vec e ie.size ie.bytes 0 (fun _ => rowZ P e)) :: σ.objs, log := σ.log }
        | false => none
      | _, _, _ => none
    | some (.one (.c (.vec _))) => coerceT r σ
    | _ => none

def coerceB : List (Nat × Nat × Nat × Nat) → St → Option St
  | [], σ => some σ
  | (B, k, L, e) :: r, σ => match lk σ.objs B with
    | some (.box ty cs) => match cs[k]? with
      | some (.p .nils) => match lk σ.objs L, P.info? e, zeroT P e with
        | none, some ie, some _ => match Nat.ble 1 ie.size with
          | true => coerceB r { env := σ.env, objs := (B, .box ty (cs.set k (.vec L))) :: (L, .vec e ie.size ie.bytes 0 (fun _ => rowZ P e)) :: σ.objs, log := σ.log }
          | false => none
        | _, _, _ => none
      | some (.vec _) => coerceB r σ
      | _ => none
    | _ => none

def coerceV : List (Nat × Nat × Nat × Nat × Nat) → St → Option St
  | [], σ => some σ
  | (B, k, L, te, e) :: r, σ => match lk σ.objs B with
    | some (.box ty cs) => match cs[k]? with
      | some (.p .nils) => match lk σ.objs L, P.info? te, zeroT P te with
        | none, some it, some _ => match P.info? e, zeroT P e with
          | some ie, some _ => match Nat.beq it.size 1 && Nat.ble 1 ie.size with
            | true => coerceV r { env := σ.env, objs := (B, .box ty (cs.set k (.vec L))) :: (L, .vv te it.bytes e ie.size ie.bytes 0 (fun _ => 0) (fun _ _ => rowZ P e)) :: σ.objs, log := σ.log }
            | false => none
          | _, _ => none
        | _, _, _ => none
      | some (.vec _) => coerceV r σ
      | _ => none
    | _ => none

def restr {α : Type} (f : α → α) (l : List (Nat × α)) : List Nat → List (Nat × α)
  | [] => []
  | t :: r => match lk l t with
    | some d => (t, f d) :: restr f l r
    | none => restr f l r

def addL : List Nat → Nat → List Nat
  | [], x => [x]
  | y :: r, x => match Nat.beq x y with | true => y :: r | false => y :: addL r x
def behL (ob : Nat → Option AO) (l : List Nat) : List Nat := l.foldl (fun a L => match ob L with | some o => (aoLab o).foldl addL a | none => a) l
def reachL (ob : Nat → Option AO) (env : List (Nat × DV)) : List Nat :=
  behL ob (behL ob (behL ob (behL ob (env.foldl (fun a x => (dvLab x.2).foldl addL a) []))))
def labsIn (labs : List Nat) (l : List Nat) : Bool := l.all fun L => labs.contains L

def yBox (ob : Nat → Option AO) : List Nat → List (Nat × AO)
  | [] => []
  | L :: r => match ob L with
    | some (.box _ cells) => match frzL0 ob cells with
      | some (l, []) => (L, .fbox l) :: yBox ob r
      | _ => yBox ob r
    | _ => yBox ob r
def vBox (ob : Nat → Option AO) : List Nat → List (Nat × AO)
  | [] => []
  | L :: r => match ob L with
    | some (.vec _ size _ len get) => (L, .fvec size len get) :: vBox ob r
    | _ => vBox ob r
def frzK (l : List Nat) (σ : St) : St := { env := σ.env, objs := (yBox (lk σ.objs) l ++ vBox (lk σ.objs) l) ++ σ.objs, log := σ.log }

def coP1 (σ : St) (n : Nat) : St := match Nat.ble 1000000 n with
  | false => σ
  | true => match lk σ.objs ((n - 1000000) / 64) with
    | some (.box ty cs) => match cs[(n - 1000000) % 64]? with
      | some (.vec L) => match lk σ.objs L with
        | some (.vec _ s _ len get) => { env := σ.env, objs := ((n - 1000000) / 64, .box ty (cs.set ((n - 1000000) % 64) (.p (.sl len s get)))) :: ([(L, .fvec s len get)] ++ σ.objs), log := σ.log }
        | _ => σ
      | _ => σ
    | _ => σ
def coP : List Nat → St → St
  | [], σ => σ
  | n :: r, σ => coP r (coP1 σ n)
def coerceZ : List Nat → St → Option St
  | [], σ => some σ
  | t :: r, σ => match lk σ.env t with
    | some (.one (.c x)) => match x with
      | .p _ => coerceZ r σ
      | _ => match frz (lk σ.objs) x with
        | some (v, u) => coerceZ r { env := (t, .p v) :: σ.env, objs := u ++ σ.objs, log := σ.log }
        | none => none
    | _ => none
def nilC (e : Nat) : Cl → Cl
  | .p .nils => match szT P e with
    | some s => .p (.sl 0 s (fun _ => rowZ P e))
    | none => .p .nils
  | x => x
def modL (b : Nat) (f : Cl → Cl) (l : List Cl) : List Cl := match l[b]? with | some x => l.set b (f x) | none => l
def nf1 (k a b e : Nat) (σ : St) : St :=
  match k with
  | 0 => match lk σ.env a with
    | some (.one (.c x)) => { env := (a, .one (.c (nilC P e x))) :: σ.env, objs := σ.objs, log := σ.log }
    | some (.one (.agg cs)) => { env := (a, .one (.agg (modL b (nilC P e) cs))) :: σ.env, objs := σ.objs, log := σ.log }
    | _ => σ
  | _ => match lk σ.objs a with
    | some (.box ty cs) => { env := σ.env, objs := (a, .box ty (modL b (nilC P e) cs)) :: σ.objs, log := σ.log }
    | _ => σ
def coerceN : List (Nat × Nat × Nat × Nat) → St → St
  | [], σ => σ
  | (k, a, b, e) :: r, σ => coerceN r (nf1 P k a b e σ)

def canon0 (k : Keep) (σ : St) : Option St :=
  match coerceT P k.coT σ with
  | none => none
  | some σ1 => match coerceB P k.coB σ1 with
    | none => none
    | some σ2 => match coerceV P k.coV σ2 with
     | none => none
     | some σ3 =>
      let env := restr undead σ3.env k.tmps
      let labs := reachL (lk σ3.objs) env
      let objs := restr undeadO σ3.objs labs
      match (env.all fun x => labsIn labs (dvLab x.2)) && (objs.all fun x => labsIn labs (aoLab x.2)) with
      | true => some ⟨env, objs, []⟩
      | false => none

def canon (k : Keep) (σ : St) : Option St :=
  match coerceZ k.coZ (coP k.coF (frzK k.coF σ)) with
  | some s => match canon0 P k s with
    | some s => some (coerceN P k.nf s)
    | none => none
  | none => none

def vcReg (ann : Ann) (id : Nat) (ops : Array Oper) (draw : Bool) (K : St → Prop) (σ : St) : Prop :=
  match draw with
  | false => vcOps P Γ ann.nt ops 0 ops.toList (fun σ' => match lk ann.reg id with
      | some k => match canon P k σ' with
        | some s => K s
        | none => False
      | none => K σ') { σ with log := [] }
  | true => match P.follows .mixedOrders && lowOk ops && tmpsOk ops (masks ops.toList []) with
    | true => vcOps P Γ ann.nt ops 0 ops.toList (fun σ' => match logOk (masks ops.toList []) σ'.log with
      | true => match lk ann.reg id with
        | some k => match canon P k σ' with
          | some s => K s
          | none => False
        | none => False
      | false => False) { σ with log := [] }
    | false => False

def hdId : Code → Nat
  | .region id _ _ => id
  | .seq a _ => hdId a
  | .block _ b => hdId b
  | .loop b => hdId b
  | .scope b => hdId b
  | .cond _ a b => match Nat.beq (hdId a) 1000000 with | true => hdId b | false => hdId a
  | _ => 1000000

def cutK (ann : Ann) (r : Nat) (go : St → Prop) (σ : St) : Prop :=
  match lk ann.cut r with
  | some k => match canon P k σ with
    | some s => go s
    | none => False
  | none => go σ

def seqK (next : St → Prop) (K : Exit → St → Prop) : Exit → St → Prop
  | .normal, σ => next σ
  | e, σ => K e σ
def blockK (id : Nat) (K : Exit → St → Prop) : Exit → St → Prop
  | .exit i, σ => match Nat.beq i id with | true => K .normal σ | false => K (.exit i) σ
  | e, σ => K e σ
def scopeK (K : Exit → St → Prop) : Exit → St → Prop
  | .goto _, _ => False
  | e, σ => K e σ
def loopK (ann : Ann) (id : Nat) (X : St → Prop) (K : Exit → St → Prop) : Exit → St → Prop
  | .normal, σ => match lk ann.head id with
    | some k => match canon P k σ with
      | some s => X s
      | none => False
    | none => False
  | e, σ => K e σ

def setOp (σ : St) (c : Operand) (b : Bool) : St := match c with | .tmp t => σ.setT t (.bool b) | _ => σ

def vcUn (k : Keep) (step : (Exit → St → Prop) → St → Prop) : Nat → (Exit → St → Prop) → St → Prop
  | 0, _, _ => False
  | n + 1, K, σ => match canon P k σ with
    | some s => step (fun e σ' => match e with | .normal => vcUn k step n K σ' | e => K e σ') s
    | none => False

def dstL : List Oper → List Nat
  | [] => []
  | o :: r => match o.dst with | some t => t :: dstL r | none => dstL r
def rfS : Nat := 4294967296
def dstC : Code → List Nat
  | .region _ ops _ => dstL ops.toList
  | .seq a b => dstC a ++ dstC b
  | .cond _ a b => dstC a ++ dstC b
  | .block _ b => dstC b
  | .loop b => dstC b
  | .scope b => dstC b
  | .rangeFunc _ _ a b => rfS :: (dstC a ++ dstC b)
  | _ => []

def rfId (a b : Code) : Nat := match Nat.beq (hdId a) 1000000 with | true => hdId b | false => hdId a
def disj (l m : List Nat) : Bool := l.all fun t => !m.contains t
def psEnv : List Nat → List PA → List (Nat × DV) → Option (List (Nat × DV))
  | [], [], e => some e
  | p :: ps, y :: ys, e => psEnv ps ys ((p, .one (paD y)) :: e)
  | _, _, _ => none
def roundK (k : Keep) (next : St → Prop) (K : Exit → St → Prop) : Exit → St → Prop
  | .normal, σ => match canon P k σ with | some s => next s | none => False
  | .ret, σ => match canon P k σ with | some s => K .ret s | none => False
  | .exit id, σ => match canon P k σ with | some s => K (.exit id) s | none => False
  | _, _ => False

def vc (ann : Ann) : Code → (Exit → St → Prop) → St → Prop
  | .skip, K, σ => K .normal σ
  | .region id ops draw, K, σ => vcReg P Γ ann id ops draw (K .normal) σ
  | .seq a b, K, σ => vc ann a (seqK (cutK P ann (hdId b) (vc ann b K)) K) σ
  | .cond c a b, K, σ => match evO σ.env c with
    | .one (.c (.p (.bool t))) => condP t (vc ann a K (setOp σ c true)) (vc ann b K (setOp σ c false))
    | _ => False
  | .block id b, K, σ => vc ann b (blockK id K) σ
  | .loop b, K, σ => match lk ann.head (hdId b) with
    | some k => match canon P k σ with
      | some s => ∀ X : St → Prop, (∀ s, vc ann b (loopK P ann (hdId b) X K) s → X s) → X s
      | none => False
    | none => match lk ann.unr (hdId b) with
      | some (n, k) => vcUn P k (vc ann b) n K σ
      | none => False
  | .rangeFunc f ps assign body, K, σ => match lk ann.head (rfId assign body) with
    | some k => match canon P k σ, disj k.tmps (ps.toList ++ (dstC assign ++ dstC body)) && ps.toList.all (fun p => Nat.blt p ann.nt) with
      | some s, true => match evO s.env f with
        | .one (.c (.p (.fn gf [] caps))) => match (Γ.it gf (caps.map .one)).o with
          | some ys => ∀ X : List (List PA) → St → Prop, (∀ s, K .normal s → X [] s) →
            (∀ y rest s, (match psEnv ps.toList y s.env with
              | some env => vc ann assign (seqK (vc ann body (roundK P k (X rest) K)) fun _ _ => False) ⟨env, s.objs, []⟩
              | none => False) → X (y :: rest) s) → X ys s
          | none => False
        | _ => False
      | _, _ => False
    | none => False
  | .exit id, K, σ => K (.exit id) σ
  | .scope b, K, σ => vc ann b (scopeK K) σ
  | .label _, K, σ => K .normal σ
  | .ret, K, σ => K .ret σ
  | _, _, _ => False

def resPA (σ : St) : List ResultVar → Option (List PA)
  | [] => some []
  | .tmp t :: r => match lk σ.env t with
    | some d => match frzD (lk σ.objs) d, resPA σ r with
      | some (x, _), some l => some (x :: l)
      | _, _ => none
    | none => none
  | .cell t ty :: r => match lk σ.env t, aggT P ty, szT P ty with
    | some (.one (.c (.ptr L off))), some g, some n => match lk σ.objs L with
      | some (.box _ cells) => match rdCl g n cells off with
        | some d => match frzD (lk σ.objs) (.one d), resPA σ r with
          | some (x, _), some l => some (x :: l)
          | _, _ => none
        | none => none
      | _ => none
    | _, _, _ => none

def finK (fn : Func) (K : List PA → Prop) (σ : St) : Prop :=
  match resPA P σ fn.results.toList with
  | some l => K l
  | none => False

def bodyK (fn : Func) (K : List PA → Prop) : Exit → St → Prop
  | .ret, σ => finK P fn K σ
  | .normal, σ => finK P fn K σ
  | _, _ => False

def argEnv : Nat → List PA → List (Nat × DV)
  | _, [] => []
  | i, x :: r => (i, .one (paD x)) :: argEnv (i + 1) r

def vcFun (ann : Ann) (f : FuncId) (args : List PA) (K : List PA → Prop) : Prop :=
  match P.funcs[f]? with
  | some fn => match fn.body with
    | some c => match Nat.beq ann.nt fn.ntmps && Nat.ble args.length ann.nt with
      | true => vc P Γ ann c (bodyK P fn K) ⟨argEnv 0 args, [], []⟩
      | false => False
    | none => False
  | none => False

def finKv (fn : Func) (e s b : Nat) (K : List PA → Prop) (σ : St) : Prop :=
  match fn.results.toList with
  | [.tmp t] => match lk σ.env t with
    | some (.one (.c (.vec L))) => match lk σ.objs L with
      | some (.vec e' s' b' n get) => match Nat.beq e e' && (Nat.beq s s' && Nat.beq b b') with
        | true => K [.one (.sl n s get)]
        | false => False
      | _ => False
    | _ => False
  | [.tmp t, .tmp u] => match lk σ.env t with
    | some (.one (.c (.vec L))) => match lk σ.env u with
      | some (.one (.c (.p x))) => match lk σ.objs L with
        | some (.vec e' s' b' n get) => match Nat.beq e e' && (Nat.beq s s' && Nat.beq b b') with
          | true => K [.one (.sl n s get), .one x]
          | false => False
        | _ => False
      | _ => False
    | _ => False
  | _ => False
def bodyKv (fn : Func) (e s b : Nat) (K : List PA → Prop) : Exit → St → Prop
  | .ret, σ => finKv fn e s b K σ
  | .normal, σ => finKv fn e s b K σ
  | _, _ => False
def vcMkv (ann : Ann) (f : FuncId) (args : List PA) (e s b : Nat) (K : List PA → Prop) : Prop :=
  match P.funcs[f]? with
  | some fn => match fn.body with
    | some c => match Nat.beq ann.nt fn.ntmps && Nat.ble args.length ann.nt with
      | true => vc P Γ ann c (bodyKv fn e s b K) ⟨argEnv 0 args, [], []⟩
      | false => False
    | none => False
  | none => False

/-! Iterators: functions that take yield. -/
abbrev YK := Exit → List (List PA) → Bool → St → Prop

def oneDs : List DV → Option (List PA)
  | [] => some []
  | .one (.c (.p v)) :: r => match oneDs r with | some l => some (.one v :: l) | none => none
  | .one (.agg cs) :: r => match toPVs cs, oneDs r with | some l, some m => some (.agg l :: m) | _, _ => none
  | _ :: _ => none

def yFbox (ob : Nat → Option AO) : List Nat → List (Nat × AO)
  | [] => []
  | L :: r => match ob L with
    | some (.fbox l) => (L, .fbox l) :: yFbox ob r
    | _ => yFbox ob r
abbrev ylL : Nat := 4095
def yObjs (σ : St) : List (Nat × AO) := yBox (lk σ.objs) (σ.objs.map (·.1)) ++ yFbox (lk σ.objs) (σ.objs.map (·.1))
def hasAll (ks : List Nat) (l : List Nat) : Bool := l.all fun L => ks.contains L
def dropLab (ks : List Nat) (l : List (Nat × DV)) : List Nat → List (Nat × DV)
  | [] => []
  | t :: r => match lk l t with
    | some d => match hasAll ks (dvLab d) with
      | true => (t, d) :: dropLab ks l r
      | false => dropLab ks l r
    | none => dropLab ks l r
def yForget (σ : St) : St := ⟨dropLab (ylL :: (yObjs σ).map (·.1)) σ.env (σ.env.map (·.1)), (ylL, .gone) :: yObjs σ, []⟩

def isYl (σ : St) (o : Oper) : Option (Array Operand × Nat) :=
  match o.op, o.dst with
  | .call { callee := .value f, args, argTypes := _ }, some t => match evO σ.env f with
    | .one (.c (.vec 4095)) => match lk σ.env 0 with
      | some (.one (.c (.vec 4095))) => some (args, t)
      | _ => none
    | _ => none
  | _, _ => none

def vcStepY (nt : Nat) (o : Oper) (next : List (List PA) → Bool → St → Prop) (ys : List (List PA)) (q : Bool) (σ : St) : Prop :=
  match isYl σ o with
  | some (args, t) => match oneDs (args.toList.map (evO σ.env)), Nat.blt t nt, q with
    | some y, true, false => ∃ rest, ys = y :: rest ∧ next rest false ((yForget σ).setT t (.bool true)) ∧ next rest true ((yForget σ).setT t (.bool false))
    | _, _, _ => False
  | none => match okDst nt o.dst with
    | true => vcAct (act P Γ o (evO σ.env) (lk σ.objs)) (fun _ _ => []) 0 o.dst (next ys q) σ
    | false => False
def vcOpsY (nt : Nat) (ops : Array Oper) : List Oper → (List (List PA) → Bool → St → Prop) → List (List PA) → Bool → St → Prop
  | [], K, ys, q, σ => K ys q σ
  | o :: r, K, ys, q, σ => match o.guard with
    | none => vcStepY P Γ nt o (vcOpsY nt ops r K) ys q σ
    | some (j, want) => match okDst nt o.dst, (ops[j]?).bind (·.dst) with
      | true, some g => match lk σ.env g with
        | some (.one (.c (.p (.bool b)))) => condP b
            (match want with | true => vcStepY P Γ nt o (vcOpsY nt ops r K) ys q (σ.setT g (.bool true)) | false => vcOpsY nt ops r K ys q ((σ.setT g (.bool true)).skip o.dst))
            (match want with | true => vcOpsY nt ops r K ys q ((σ.setT g (.bool false)).skip o.dst) | false => vcStepY P Γ nt o (vcOpsY nt ops r K) ys q (σ.setT g (.bool false)))
        | some (.one (.c .undef)) => vcOpsY nt ops r K ys q (σ.skip o.dst)
        | _ => False
      | _, _ => False

def seqY (next : List (List PA) → Bool → St → Prop) (K : YK) : YK
  | .normal, ys, q, σ => next ys q σ
  | e, ys, q, σ => K e ys q σ
def blockY (id : Nat) (K : YK) : YK
  | .exit i, ys, q, σ => match Nat.beq i id with | true => K .normal ys q σ | false => K (.exit i) ys q σ
  | e, ys, q, σ => K e ys q σ
def scopeY (K : YK) : YK
  | .goto _, _, _, _ => False
  | e, ys, q, σ => K e ys q σ
def loopY (ann : Ann) (id : Nat) (X : List (List PA) → Bool → St → Prop) (K : YK) : YK
  | .normal, ys, q, σ => match lk ann.head id with
    | some k => match canon P k σ with
      | some s => X ys q s
      | none => False
    | none => False
  | e, ys, q, σ => K e ys q σ
def vcUnY (k : Keep) (step : YK → List (List PA) → Bool → St → Prop) : Nat → YK → List (List PA) → Bool → St → Prop
  | 0, _, _, _, _ => False
  | n + 1, K, ys, q, σ => match canon P k σ with
    | some s => step (fun e ys' q' σ' => match e with | .normal => vcUnY k step n K ys' q' σ' | e => K e ys' q' σ') ys q s
    | none => False
def cutY (ann : Ann) (r : Nat) (go : List (List PA) → Bool → St → Prop) (ys : List (List PA)) (q : Bool) (σ : St) : Prop :=
  match lk ann.cut r with
  | some k => match canon P k σ with
    | some s => go ys q s
    | none => False
  | none => go ys q σ

def vcY (ann : Ann) : Code → YK → List (List PA) → Bool → St → Prop
  | .skip, K, ys, q, σ => K .normal ys q σ
  | .region id ops draw, K, ys, q, σ => match (dstL ops.toList).contains 0, ann.yl.contains id, draw with
    | true, _, _ => False
    | false, true, false => vcOpsY P Γ ann.nt ops ops.toList (fun ys' q' σ' => match lk ann.reg id with
      | some k => match canon P k σ' with
        | some s => K .normal ys' q' s
        | none => False
      | none => K .normal ys' q' { σ' with log := [] }) ys q { σ with log := [] }
    | false, true, true => False
    | false, false, _ => vcReg P Γ ann id ops draw (K .normal ys q) σ
  | .seq a b, K, ys, q, σ => vcY ann a (seqY (cutY P ann (hdId b) (vcY ann b K)) K) ys q σ
  | .cond c a b, K, ys, q, σ => match evO σ.env c with
    | .one (.c (.p (.bool t))) => condP t (vcY ann a K ys q (setOp σ c true)) (vcY ann b K ys q (setOp σ c false))
    | _ => False
  | .block id b, K, ys, q, σ => vcY ann b (blockY id K) ys q σ
  | .loop b, K, ys, q, σ => match lk ann.head (hdId b) with
    | some k => match canon P k σ with
      | some s => ∀ X : List (List PA) → Bool → St → Prop, (∀ ys q s, vcY ann b (loopY P ann (hdId b) X K) ys q s → X ys q s) → X ys q s
      | none => False
    | none => match lk ann.unr (hdId b) with
      | some (n, k) => vcUnY P k (vcY ann b) n K ys q σ
      | none => False
  | .exit id, K, ys, q, σ => K (.exit id) ys q σ
  | .scope b, K, ys, q, σ => vcY ann b (scopeY K) ys q σ
  | .label _, K, ys, q, σ => K .normal ys q σ
  | .ret, K, ys, q, σ => K .ret ys q σ
  | _, _, _, _, _ => False

def finY (ys : List (List PA)) (q : Bool) : Prop := match q with | true => True | false => ys = []
def bodyY : YK
  | .ret, ys, q, _ => finY ys q
  | .normal, ys, q, _ => finY ys q
  | _, _, _, _ => False

def vcIter (ann : Ann) (f : FuncId) (caps : List PA) (ys : List (List PA)) : Prop :=
  match P.funcs[f]? with
  | some fn => match fn.body with
    | some c => match Nat.beq ann.nt fn.ntmps && Nat.ble (caps.length + 1) ann.nt && fn.results.isEmpty with
      | true => vcY P Γ ann c bodyY ys false ⟨(0, .cl (.vec ylL)) :: argEnv 1 caps, [(ylL, .gone)], []⟩
      | false => False
    | none => False
  | none => False

end
end Go.Pm
namespace Go.Pm
open Go.RowKit (Below)


theorem spl_length {α : Type} (l : List α) (off : Nat) (l' : List α) : (spl l off l').length = l.length := by
  induction l' generalizing l off with
  | nil => rfl
  | cons x r ih => simp [spl, ih]

inductive FzO where
  | fz (o : Obj)
  | pin (o : Obj)

def memoVal (l : List Int) : Value := .agg (l.map fun n => Value.int .i64 n).toArray
def FzO.ok : FzO → Obj → Prop
  | .fz o, x => x = o
  | .pin o, x => x = o

abbrev Fz := Nat → Option FzO
def Hw (h : Fz) (w : World) : Prop := ∀ b x, h b = some x → ∃ o, w.heap[b]? = some o ∧ x.ok o
theorem Hw.fz {h : Fz} {w : World} (H : Hw h w) {b : Nat} {o : Obj} (hb : h b = some (.fz o)) : w.heap[b]? = some o := by
  obtain ⟨o', h1, h2⟩ := H b _ hb
  simp only [FzO.ok] at h2; subst h2; exact h1
theorem Hw.lt {h : Fz} {w : World} (H : Hw h w) {b : Nat} {x : FzO} (hb : h b = some x) : b < w.heap.size := by
  obtain ⟨o', h1, _⟩ := H b _ hb
  exact (Array.getElem?_eq_some_iff.1 h1).1
theorem Hw.same {h : Fz} {w w' : World} (H : Hw h w) (hs : ∀ b x, h b = some x → w'.heap[b]? = w.heap[b]?) : Hw h w' := fun b x hb => by
  obtain ⟨o, h1, h2⟩ := H b x hb
  exact ⟨o, by rw [hs b x hb]; exact h1, h2⟩

class DrawZ where
  z : Nat
variable [DrawZ]
abbrev drawZ : Nat := DrawZ.z
abbrev dle (a b : Nat) : Prop := a * drawZ ≤ b * drawZ
theorem dle_of {a b : Nat} (h : a ≤ b) : dle a b := Nat.mul_le_mul_right _ h
structure Bel (h : Fz) (B : Nat) (w w' : World) : Prop where
  os : w'.os = w.os
  tape : w'.tape = w.tape
  output : w'.output = w.output
  size : w.heap.size ≤ w'.heap.size
  drawn : dle w.drawn w'.drawn
  block : ∀ k, k < B → w'.heap[k]? = w.heap[k]?
structure BelD (B : Nat) (w w' : World) : Prop extends Below B w w' where
  drawn : dle w.drawn w'.drawn
structure GrB (w w' : World) (row : Option Nat) : Prop extends w.grownBy w' row where
  drawn : dle w.drawn w'.drawn
theorem BelD.refl (B : Nat) (w : World) : BelD B w w := ⟨Below.refl B w, Nat.le_refl _⟩
theorem Bel.of {h : Fz} {B : Nat} {w w' : World} (b : BelD B w w') : Bel h B w w' := ⟨b.os, b.tape, b.output, b.size, b.drawn, fun k hk => b.block k hk⟩
theorem Bel.refl (h : Fz) (B : Nat) (w : World) : Bel h B w w := .of (.refl B w)
theorem Bel.trans {h : Fz} {B : Nat} {a b c : World} (x : Bel h B a b) (y : Bel h B b c) : Bel h B a c :=
  ⟨y.os.trans x.os, y.tape.trans x.tape, y.output.trans x.output, Nat.le_trans x.size y.size, Nat.le_trans x.drawn y.drawn, fun i hi => (y.block i hi).trans (x.block i hi)⟩
theorem Bel.drew {h : Fz} {B : Nat} {a w : World} (x : Bel h B a w) : Bel h B a w.drew := ⟨x.os, x.tape, x.output, x.size, Nat.le_trans x.drawn (dle_of (Nat.le_succ _)), x.block⟩

def mkKey (kf : KF) (c : List Int) : Value := match kf with
  | .ints => memoVal c
  | .one => .int .i64 (c.headD 0)
def cellV : Option IntKind → Int → Value
  | some k, x => .int k x
  | none, x => .bool (x != 0)
def cellsV (o : Option (List Int)) : Nat → List (Option IntKind) → List Value
  | _, [] => []
  | i, k :: ks => cellV k (nthO o i) :: cellsV o (i + 1) ks
def mkVal (vag : Bool) (ks : List (Option IntKind)) (o : Option (List Int)) : Value := match vag with
  | true => .agg (cellsV o 0 ks).toArray
  | false => (cellsV o 0 ks).headD undef
def findE (c : List Int) : List (List Int × List Int) → Option (List Int)
  | [] => none
  | (k, v) :: r => if k = c then some v else findE c r
structure MoE (q : MQ) (n : Nat) (F : List Int → Option (List Int)) (es : Array MapEntry) (clock : Nat) (en : List (List Int × List Int)) : Prop where
  one : q.1 = .one → q.2.1 = 1
  vone : q.2.2.1 = false → q.2.2.2.length = 1
  ents : es.toList.map (fun e => (e.key, e.val)) = en.map (fun x => (mkKey q.1 x.1, mkVal q.2.2.1 q.2.2.2 (some x.2)))
  len : ∀ x ∈ en, x.1.length = q.2.1 ∧ x.2.length = q.2.2.2.length
  nodup : (en.map (·.1)).Nodup
  find : ∀ c, c.length = q.2.1 → F c = findE c en
  size : n = en.length
  born : ∀ e ∈ es.toList, e.born < clock
  bornN : (es.toList.map (·.born)).Nodup
def moE (q : MQ) (n : Nat) (F : List Int → Option (List Int)) (es : Array MapEntry) (clock : Nat) : Prop := ∃ en, MoE q n F es clock en

inductive Rep (h : Fz) : PV → Value → Prop
  | bool (b : Bool) : Rep h (.bool b) (.bool b)
  | int (k : IntKind) (n : Int) : Rep h (.int k n) (.int k n)
  | nilp : Rep h .nilp (.pointer none)
  | nilf : Rep h .nilf .nilFunc
  | nilm : Rep h .nilm (.map none)
  | nils : Rep h .nils (.slice none 0 0)
  | fp (cells : List PV) (off b o : Nat) (C : Array Value) (ty : TypeId) (fr : Nat × Nat) (vs : Nat → Value) (hb : h b = some (.fz (.cells C ty fr)))
      (hc : ∀ j x, cells[j]? = some x → C[o + j]? = some (vs j)) (hr : ∀ j x, cells[j]? = some x → Rep h x (vs j)) :
      Rep h (.fp cells off) (.pointer (some ⟨b, o + off, none⟩))
  | sl0 (size : Nat) (get : Nat → List PV) (hu : Ung get) : Rep h (.sl 0 size get) (.slice none 0 0)
  | sle (size : Nat) (get : Nat → List PV) (a : Addr) (cap : Nat) (hu : Ung get) : Rep h (.sl 0 size get) (.slice (some a) 0 cap)
  | sl (len size : Nat) (get : Nat → List PV) (hu : Ung get) (b o cap : Nat) (C : Array Value) (ty : TypeId) (fr : Nat × Nat) (vs : Nat → Nat → Value) (hb : h b = some (.fz (.cells C ty fr)))
      (hcap : len ≤ cap) (hlen : ∀ i, i < len → (get i).length = size)
      (hc : ∀ i j x, i < len → (get i)[j]? = some x → C[o + i * size + j]? = some (vs i j))
      (hr : ∀ i j x, i < len → (get i)[j]? = some x → Rep h x (vs i j)) :
      Rep h (.sl len size get) (.slice (some ⟨b, o, none⟩) len cap)
  | fn (f : FuncId) (first caps : List PV) (fv cv : List Value) (h1 : first.length = fv.length) (h2 : caps.length = cv.length)
      (hf : ∀ (j : Nat) (x : PV) (v : Value), first[j]? = some x → fv[j]? = some v → Rep h x v) (hc : ∀ (j : Nat) (x : PV) (v : Value), caps[j]? = some x → cv[j]? = some v → Rep h x v) :
      Rep h (.fn f first caps) (.func (.func f) fv.toArray cv.toArray)
  | fna (f : FuncId) (cells : List PV) (vs : List Value) (h1 : cells.length = vs.length)
      (hc : ∀ (j : Nat) (x : PV) (v : Value), cells[j]? = some x → vs[j]? = some v → Rep h x v) : Rep h (.fna f cells) (.func (.func f) #[.agg vs.toArray] #[])

def Fle (h h' : Fz) : Prop := ∀ b o, h b = some o → h' b = some o

theorem Rep.mono {h h' : Fz} (hl : Fle h h') {p : PV} {v : Value} (r : Rep h p v) : Rep h' p v := by
  induction r with
  | bool b => exact .bool b
  | int k n => exact .int k n
  | nilp => exact .nilp
  | nilf => exact .nilf
  | nilm => exact .nilm
  | nils => exact .nils
  | fp cells off b o C ty fr vs hb hc hr ih => exact .fp cells off b o C ty fr vs (hl _ _ hb) hc ih
  | sl0 size get hu => exact .sl0 size get hu
  | sle size get a cap hu => exact .sle size get a cap hu
  | sl len size get hu b o cap C ty fr vs hb hcap hlen hc hr ih => exact .sl len size get hu b o cap C ty fr vs (hl _ _ hb) hcap hlen hc ih
  | fn f first caps fv cv h1 h2 hf hc ih1 ih2 => exact .fn f first caps fv cv h1 h2 ih1 ih2
  | fna f cells vs h1 hc ih => exact .fna f cells vs h1 ih

theorem Rep.mono' {h h' : Fz} (hl : ∀ b o, h b = some o → (∃ C ty fr, o = .fz (.cells C ty fr)) → h' b = some o) {p : PV} {v : Value} (r : Rep h p v) : Rep h' p v := by
  induction r with
  | bool b => exact .bool b
  | int k n => exact .int k n
  | nilp => exact .nilp
  | nilf => exact .nilf
  | nilm => exact .nilm
  | nils => exact .nils
  | fp cells off b o C ty fr vs hb hc hr ih => exact .fp cells off b o C ty fr vs (hl _ _ hb ⟨_, _, _, rfl⟩) hc ih
  | sl0 size get hu => exact .sl0 size get hu
  | sle size get a cap hu => exact .sle size get a cap hu
  | sl len size get hu b o cap C ty fr vs hb hcap hlen hc hr ih => exact .sl len size get hu b o cap C ty fr vs (hl _ _ hb ⟨_, _, _, rfl⟩) hcap hlen hc ih
  | fn f first caps fv cv h1 h2 hf hc ih1 ih2 => exact .fn f first caps fv cv h1 h2 ih1 ih2
  | fna f cells vs h1 hc ih => exact .fna f cells vs h1 ih

theorem Rep.un {h : Fz} {p : PV} {v : Value} (r : Rep h p v) : Sm p p := by
  induction r with
  | bool b => exact .bool _ _
  | int k n => exact .int _ _ _
  | sl0 size get hu => exact Ung.sl hu _ _ _
  | sle size get a cap hu => exact Ung.sl hu _ _ _
  | sl len size get hu => exact Ung.sl hu _ _ _
  | fp cells off b o C ty fr vs hb hc hr ih => exact .fp _ _ _ rfl fun k x y hx hy => by rw [hx] at hy; cases hy; exact ih k x hx
  | _ => exact .atom _ rfl
theorem rl_un {h : Fz} : ∀ {l : List PV} {vs : List Value}, RL (Rep h) l vs → RS l l
  | [], [], _ => trivial
  | _ :: _, _ :: _, r => ⟨r.1.un, rl_un r.2⟩
theorem Rep.up {h : Fz} {p q : PV} (e : PVle p q) : ∀ {v : Value}, Rep h p v → Rep h q v := by
  induction e with
  | rfl p => exact fun r => r
  | nil s g hu => intro v r; cases r; exact .sl0 s g hu
  | sl n s g g' hu hl he ih =>
    intro v r
    cases r with
    | sl0 => exact .sl0 _ _ hu
    | sle => exact .sle _ _ _ _ hu
    | sl _ _ _ _ b o cap C ty fr vs hb hcap hlen hc hr =>
      refine .sl n s g' hu b o cap C ty fr vs hb hcap (fun i hi => (hl i hi).symm.trans (hlen i hi)) (fun i j x hi hx => ?_) fun i j x hi hx => ?_
      · obtain ⟨y, hy⟩ := get_len (hl i hi).symm hx
        exact hc i j y hi hy
      · obtain ⟨y, hy⟩ := get_len (hl i hi).symm hx
        exact ih i j y x hi hy hx (hr i j y hi hy)
  | fp l l' off hl he ih =>
    intro v r
    cases r with
    | fp _ _ b o C ty fr vs hb hc hr =>
      refine .fp l' off b o C ty fr vs hb (fun j x hx => ?_) fun j x hx => ?_
      · obtain ⟨y, hy⟩ := get_len hl.symm hx
        exact hc j y hy
      · obtain ⟨y, hy⟩ := get_len hl.symm hx
        exact ih j y x hy hx (hr j y hy)
theorem rl_upv {h : Fz} {l m : List PV} (e : RL PVle l m) {vs : List Value} (r : RL (Rep h) l vs) : RL (Rep h) m vs := by
  induction l generalizing m vs with
  | nil => cases m with
    | nil => exact r
    | cons => exact e.elim
  | cons x l ih => cases m with
    | nil => exact e.elim
    | cons y m => cases vs with
      | nil => exact r.elim
      | cons v vs => exact ⟨r.1.up e.1, ih e.2 r.2⟩
theorem ofVal1_un {v : Value} {p : PV} (h : ofVal1 v = some p) : Sm p p := by
  unfold ofVal1 at h
  split at h <;> cases h <;> first | exact .atom _ rfl | exact .bool _ _ | exact .int _ _ _
theorem ofVals_un : ∀ {l : List Value} {z : List Cl} {m : List PV}, ofVals l = some z → toPVs z = some m → RS m m
  | [], z, m, h, h' => by cases h; cases h'; trivial
  | v :: r, z, m, h, h' => by
    simp only [ofVals] at h
    split at h
    · rename_i x l hx hl
      cases h
      simp only [toPVs] at h'
      split at h'
      · rename_i k hk
        cases h'
        exact ⟨ofVal1_un hx, ofVals_un hl hk⟩
      · cases h'
    · cases h
theorem zero_un {P : Program} {t : TypeId} {z : List Cl} {m : List PV} (h : zeroT P t = some z) (h' : toPVs z = some m) : RS m m := by
  unfold zeroT at h
  split at h
  · split at h
    · split at h
      · rename_i hl
        split at h
        · cases h; exact ofVals_un hl h'
        · cases h
      · cases h
    · cases h
  · cases h
theorem fixZ1_rep {P : Program} {h : Fz} {t k : Nat} {l : List PV} {vs : List Value} (r : RL (Rep h) l vs) : RL (Rep h) (fixZ1 P t k l) vs := by
  unfold fixZ1
  split
  · rename_i hk
    split
    · rename_i s _ _ hz
      split
      · rename_i z' hz'
        obtain ⟨v, hv, hr⟩ := r.get k _ hk
        have hvn : v = .slice none 0 0 := by cases hr; rfl
        subst hvn
        have := r.set k (a := .sl 0 s (fun _ => z')) (b := Value.slice none 0 0) (Rep.sl0 _ _ (ung_c (zero_un hz hz')))
        have e : vs.set k (.slice none 0 0) = vs := by
          obtain ⟨hlt, hv⟩ := List.getElem?_eq_some_iff.1 hv
          rw [← hv, List.set_getElem_self]
        rwa [e] at this
      · exact r
    · exact r
  · exact r
theorem fixZs_rep {P : Program} {h : Fz} : ∀ (fs : List Field) {l : List PV} {vs : List Value}, RL (Rep h) l vs → RL (Rep h) (fixZs P fs l) vs
  | [], _, _, r => r
  | _ :: fs, _, _, r => fixZs_rep fs (fixZ1_rep r)
theorem fixZ_rep {P : Program} {h : Fz} {e : TypeId} {l : List PV} {vs : List Value} (r : RL (Rep h) l vs) : RL (Rep h) (fixZ P e l) vs := by
  unfold fixZ
  split
  · exact fixZs_rep _ r
  · exact fixZ1_rep r

theorem Rep.one {h : Fz} {p : PV} {v : Value} (r : Rep h p v) : v.oneCell' = true := by
  cases r <;> first | rfl | (rename_i r; cases r <;> rfl)

structure Gh where
  h : Fz
  bk : Nat → Nat
  sv : Nat → Value
  iv : Nat → Nat → Value

def capR (g : Gh) : CapE → Value → Prop
  | .v p, x => Rep g.h p x
  | .b L, x => x = .pointer (some ⟨g.bk L, 0, none⟩)
def mapB : Value → Nat
  | .map (some b) => b
  | _ => 0
def clR (g : Gh) : Cl → Value → Prop
  | .p v, x => Rep g.h v x
  | .ptr L off, x => x = .pointer (some ⟨g.bk L, off, none⟩)
  | .vptr L s i k, x => ∃ b, (g.sv L).ownBlock = some b ∧ x = .pointer (some ⟨b, i * s + k, none⟩)
  | .vec L, x => x = g.sv L ∧ x.oneCell' = true
  | .mo L, x => x = .map (some (mapB (g.sv L)))
  | .clo f caps, x => ∃ cv : List Value, x = .func (.func f) #[] cv.toArray ∧ RL (capR g) caps cv
  | .undef, x => x = undef
  | .junk, _ => True
  | .dead _, _ => True

theorem capR_mono {g g' : Gh} (hl : ∀ p x, Rep g.h p x → Rep g'.h p x) : ∀ {caps : List CapE} {vs : List Value}, (∀ L ∈ capLab caps, g'.bk L = g.bk L) → RL (capR g) caps vs → RL (capR g') caps vs
  | [], [], _, _ => trivial
  | [], _ :: _, _, h => h.elim
  | _ :: _, [], _, h => h.elim
  | .v p :: _, _ :: _, hb, h => ⟨hl _ _ h.1, capR_mono hl (fun L hL => hb L hL) h.2⟩
  | .b M :: _, _ :: _, hb, h => ⟨by have := h.1; simp only [capR] at this ⊢; rw [hb M (by simp [capLab])]; exact this, capR_mono hl (fun L hL => hb L (by simp [capLab, hL])) h.2⟩

theorem clR_one {g : Gh} {c : Cl} {x : Value} (h : clR g c x) (ho : okCl c = true) : x.oneCell' = true := by
  cases c with
  | p v => exact Rep.one h
  | ptr L off => subst h; rfl
  | vptr L s i k => obtain ⟨b, _, rfl⟩ := h; rfl
  | vec L => exact h.2
  | mo L => subst h; rfl
  | clo f caps => obtain ⟨cv, rfl, _⟩ := h; rfl
  | undef => cases ho
  | junk => cases ho
  | dead L => cases ho

def d1R (g : Gh) : D1 → Value → Prop
  | .c x, v => clR g x v
  | .agg cs, v => ∃ vs : List Value, v = .agg vs.toArray ∧ RL (clR g) cs vs

def dvR (g : Gh) : DV → Value → Prop
  | .one d, v => d1R g d v
  | .tup ds, v => ∃ vs : List Value, v = .tuple vs.toArray ∧ RL (d1R g) ds vs

def vecR (P : Program) (g : Gh) (w : World) (B L e s b n : Nat) (get : Nat → List PV) : Prop :=
  (Ung get ∧ 0 < s) ∧ (∃ i z, P.info? e = some i ∧ i.size = s ∧ i.bytes = b ∧ i.zero = some z ∧ z.cells.size = s) ∧
  ∃ xs : List Value, w.ownsRow B e s (g.sv L) n xs ∧ (∀ i, i < n → RL (Rep g.h) (get i) ((xs.drop (i * s)).take s))

def Unv (get : Nat → Nat → List PV) : Prop := ∀ i j k l, RS (get i j) (get k l)
def vvR (P : Program) (g : Gh) (w : World) (B L te bb e s b n : Nat) (ln : Nat → Nat) (get : Nat → Nat → List PV) : Prop :=
  (Unv get ∧ 0 < s) ∧ (∃ i z, P.info? te = some i ∧ i.size = 1 ∧ i.bytes = bb ∧ i.zero = some z ∧ z.cells.size = 1) ∧
  (∃ i z, P.info? e = some i ∧ i.size = s ∧ i.bytes = b ∧ i.zero = some z ∧ z.cells.size = s) ∧
  w.ownsRow B te 1 (g.sv L) n ((List.range n).map (g.iv L)) ∧
  (∀ i, i < n → (g.iv L i).oneCell' = true ∧ (ln i = 0 → g.iv L i = .slice none 0 0) ∧ ∃ xs : List Value, w.ownsRow B e s (g.iv L i) (ln i) xs ∧ ∀ j, j < ln i → RL (Rep g.h) (get i j) ((xs.drop (j * s)).take s)) ∧
  ∀ i k, i < n → (g.iv L i).ownBlock = some k → (g.sv L).ownBlock ≠ some k ∧ ∀ j, j < n → (g.iv L j).ownBlock = some k → i = j

def vtR (P : Program) (g : Gh) (w : World) (B L te bb e s b n : Nat) (ln : Nat → Nat) (get : Nat → Nat → List PV) (o : Nat) : Prop :=
  (Unv get ∧ 0 < s) ∧ (∃ i z, P.info? te = some i ∧ i.size = 1 ∧ i.bytes = bb ∧ i.zero = some z ∧ z.cells.size = 1) ∧
  (∃ i z, P.info? e = some i ∧ i.size = s ∧ i.bytes = b ∧ i.zero = some z ∧ z.cells.size = s) ∧
  w.ownsRow B te 1 (g.sv L) n ((List.range n).map (g.iv L)) ∧ (g.iv L o).oneCell' = true ∧ (∀ k, g.iv L o ≠ .map (some k)) ∧
  (∀ i, i < n → i ≠ o → (g.iv L i).oneCell' = true ∧ (ln i = 0 → g.iv L i = .slice none 0 0) ∧ ∃ xs : List Value, w.ownsRow B e s (g.iv L i) (ln i) xs ∧ ∀ j, j < ln i → RL (Rep g.h) (get i j) ((xs.drop (j * s)).take s)) ∧
  ∀ i k, i < n → i ≠ o → (g.iv L i).ownBlock = some k → (g.sv L).ownBlock ≠ some k ∧ ∀ j, j < n → j ≠ o → (g.iv L j).ownBlock = some k → i = j

def zeroOff (v : Value) : Prop := ∀ a n c, v = .slice (some a) n c → a.off = 0

def moR (P : Program) (kt vt : Nat) (q : MQ) (n : Nat) (F : List Int → Option (List Int)) (es : Array MapEntry) (clock : Nat) : Prop :=
  mapE P kt vt = some q ∧ moE q n F es clock
def aoR (P : Program) (g : Gh) (w : World) (B L : Nat) : AO → Prop
  | .box ty cs => ∃ C : Array Value, w.heap[g.bk L]? = some (.cells C ty (0, 0)) ∧ RL (clR g) cs C.toList
  | .fbox cs => ∃ (C : Array Value) (ty : TypeId) (fr : Nat × Nat), g.h (g.bk L) = some (.fz (.cells C ty fr)) ∧ RL (Rep g.h) cs C.toList
  | .vec e s b n get => vecR P g w B L e s b n get
  | .fvec s n get => Rep g.h (.sl n s get) (g.sv L) ∧ zeroOff (g.sv L)
  | .vv te bb e s b n ln get => vvR P g w B L te bb e s b n ln get
  | .vt te bb e s b n ln get o => vtR P g w B L te bb e s b n ln get o
  | .mo kt vt q n F => ∃ (es : Array MapEntry) (clock : Nat), w.heap[mapB (g.sv L)]? = some (.map es clock) ∧ moR P kt vt q n F es clock
  | .gone => True

def obk (g : Gh) (L : Nat) (o : AO) (b : Nat) : Prop :=
  match o with
  | .box _ _ => g.bk L = b
  | .mo _ _ _ _ _ => mapB (g.sv L) = b
  | .vec _ _ _ _ _ => (g.sv L).ownBlock = some b
  | .vv _ _ _ _ _ n _ _ => (g.sv L).ownBlock = some b ∨ ∃ i, i < n ∧ (g.iv L i).ownBlock = some b
  | .vt _ _ _ _ _ n _ _ o => (g.sv L).ownBlock = some b ∨ ∃ i, i < n ∧ i ≠ o ∧ (g.iv L i).ownBlock = some b
  | _ => False

def IdleD (P : Program) (d : Deferred) : Prop := ∃ (fv : Fn) (cap : Array Value) (f : FuncId) (args : Array Value), d.target = .fn fv cap ∧ (∀ w, (invoke d.target d.args).run P w = .ok (.enter f args) w) ∧
  ∀ (n : Nat) (w : World), CallsDIn { fn := fun _ => True, depth := none, alive := false, round := none } n P f args .returning w fun e u w' => (∃ v, e = .returned v) ∧ u = .returning ∧ w' = w
def deD : Nat ⊕ Deferred → Deferred
  | .inl D => { target := .collected D, args := #[] }
  | .inr d => d
def lefts : List (Nat ⊕ Deferred) → List Nat
  | [] => []
  | .inl D :: r => D :: lefts r
  | .inr _ :: r => lefts r
theorem mem_lefts {D : Nat} : ∀ {es : List (Nat ⊕ Deferred)}, Sum.inl D ∈ es → D ∈ lefts es
  | .inl E :: r, h => by
    rcases List.mem_cons.1 h with e | h
    · cases e; exact List.mem_cons_self
    · exact List.mem_cons_of_mem _ (mem_lefts h)
  | .inr _ :: r, h => by
    rcases List.mem_cons.1 h with e | h
    · cases e
    · exact mem_lefts (es := r) h
theorem of_lefts {D : Nat} : ∀ {es : List (Nat ⊕ Deferred)}, D ∈ lefts es → Sum.inl D ∈ es
  | .inl E :: r, h => by
    rcases List.mem_cons.1 h with rfl | h
    · exact List.mem_cons_self
    · exact List.mem_cons_of_mem _ (of_lefts h)
  | .inr _ :: r, h => List.mem_cons_of_mem _ (of_lefts (es := r) h)
def Marks (P : Program) (B : Nat) (h : Fz) (ds : List Deferred) : Prop :=
  ∃ es : List (Nat ⊕ Deferred), (lefts es).Nodup ∧ ds = es.map deD ∧ (∀ D, Sum.inl D ∈ es → B ≤ D ∧ h D = some (.fz (.deferred (some [])))) ∧ ∀ d, Sum.inr d ∈ es → IdleD P d
theorem Marks.mono {P : Program} {B : Nat} {h h' : Fz} {ds : List Deferred} (m : Marks P B h ds) (hl : Fle h h') : Marks P B h' ds := by
  obtain ⟨es, h1, h2, h3, h4⟩ := m
  exact ⟨es, h1, h2, fun D hD => ⟨(h3 D hD).1, hl _ _ (h3 D hD).2⟩, h4⟩
theorem Marks.nil {P : Program} (B : Nat) (h : Fz) : Marks P B h [] := ⟨[], List.nodup_nil, rfl, fun _ hD => by simp at hD, fun _ hD => by simp at hD⟩

structure Sim (P : Program) (nt B : Nat) (w0 : World) (h0 : Fz) (g : Gh) (σ : St) (a : Act) (w : World) : Prop where
  dfr : Marks P B g.h a.defers
  size : nt ≤ a.tmps.size
  env : ∀ t d, lk σ.env t = some d → dvR g d (a.tmps.getD t undef)
  obj : ∀ L o, lk σ.objs L = some o → aoR P g w B L o
  own : ∀ L o b, lk σ.objs L = some o → obk g L o b → B ≤ b ∧ g.h b = none
  sep : ∀ L o b L' o', lk σ.objs L = some o → lk σ.objs L' = some o' → obk g L o b → obk g L' o' b → L = L'
  hw : Hw g.h w
  le0 : Fle h0 g.h
  hn : ∀ b o, g.h b = some o → h0 b = some o ∨ B ≤ b
  below : Bel h0 B w0 w
  bs : B ≤ w.heap.size
  clE : ∀ t d, lk σ.env t = some d → ∀ L ∈ dvLab d, ∃ o, lk σ.objs L = some o
  clO : ∀ L o, lk σ.objs L = some o → ∀ M ∈ aoLab o, ∃ o', lk σ.objs M = some o'

def paR (h : Fz) : PA → Value → Prop
  | .one v, x => Rep h v x
  | .agg cs, x => ∃ vs : List Value, x = .agg vs.toArray ∧ RL (Rep h) cs vs

def resR (h : Fz) : List PA → Value → Prop
  | [r], v => paR h r v
  | rs, v => ∃ vs : List Value, v = .tuple vs.toArray ∧ RL (paR h) rs vs

def Callable (P : Program) (f : FuncId) : Prop := ∃ fn, P.funcs[f]? = some fn ∧ fn.body.isSome = true ∧ (fn.name == "runtime.NumGoroutine") = false

def Ok (P : Program) (f : FuncId) (C : List PA → Cps (List PA)) : Prop :=
  ∀ (args rs : List PA), (C args).o = some rs → ∀ (w : World) (h : Fz) (vs : List Value), RL (paR h) args vs → Hw h w →
    Callable P f ∧ Calls P f vs.toArray w fun e w' => ∃ (h' : Fz) (v : Value), e = .returned v ∧ resR h' rs v ∧ Bel h w.heap.size w w' ∧
      Fle h h' ∧ Hw h' w' ∧ ∀ b o, h' b = some o → h b = some o ∨ w.heap.size ≤ b

def VecV (h : Fz) (w : World) (base e s : Nat) (v : Value) (n : Nat) (get : Nat → List PV) : Prop :=
  ∃ xs : List Value, w.ownsRow base e s v n xs ∧ ∀ i, i < n → RL (Rep h) (get i) ((xs.drop (i * s)).take s)

def resKv (v : Value) (xs : List Value) : List PV → Value
  | [] => v
  | _ => .tuple (v :: xs).toArray
def OwnOk (P : Program) (f : FuncId) : OwnK → Prop
  | .none => True
  | .sort e s b => ∀ (w : World) (h : Fz) (base : Nat) (v : Value) (n : Nat) (get : Nat → List PV) (gf : FuncId) (caps : List PV) (cv : List Value) (ag : Bool) (C : List PA → Cps (List PA)), @Ok ⟨1⟩ P gf C → RL (Rep h) caps cv → aggT P e = some ag →
      (∃ i, P.info? e = some i ∧ i.size = s) → 0 < s → VecV h w base e s v n get → v.oneCell' = true → Hw h w → (∀ k, v.ownBlock = some k → h k = none) → base ≤ w.heap.size →
      stoP n (fun i j => (cmpO C caps ag get i j).isSome) (cmpV C caps ag get) →
      Callable P f ∧ Calls P f #[v, .func (.func gf) #[] cv.toArray] w fun r w' => r = .returned (.tuple #[]) ∧ VecV h w' base e s v n (sortG n (cmpV C caps ag get) get) ∧ GrB w w' v.ownBlock
  | .clone e s b => ∀ (w : World) (h : Fz) (v : Value) (n : Nat) (get : Nat → List PV), Rep h (.sl n s get) v → Hw h w → n * b ≤ 140737488355328 → n ≤ 9223372036854775807 →
      Callable P f ∧ Calls P f #[v] w fun r w' => ∃ (h' : Fz) (v' : Value), r = .returned v' ∧ v'.oneCell' = true ∧ VecV h' w' w.heap.size e s v' n get ∧ (∀ k, v'.ownBlock = some k → h' k = none) ∧
        Bel h w.heap.size w w' ∧ Fle h h' ∧ Hw h' w' ∧ ∀ b o, h' b = some o → h b = some o ∨ w.heap.size ≤ b
  | .mkv e s b F => ∀ (w : World) (h : Fz) (az : List PA) (vs : List Value) (n : Nat) (get : Nat → List PV) (rs : List PV), (F az).o = some (n, get, rs) → RL (paR h) az vs → Hw h w →
      Callable P f ∧ Calls P f vs.toArray w fun r w' => ∃ (h' : Fz) (v' : Value) (xs : List Value), r = .returned (resKv v' xs rs) ∧ RL (Rep h') rs xs ∧ v'.oneCell' = true ∧ Ung get ∧
        VecV h' w' w.heap.size e s v' n get ∧ (∀ k, v'.ownBlock = some k → h' k = none) ∧ Bel h w.heap.size w w' ∧ Fle h h' ∧ Hw h' w' ∧ ∀ b o, h' b = some o → h b = some o ∨ w.heap.size ≤ b
def JSt (J : List (List PA) → Fz → World → Prop) : Prop :=
  ∀ ys h W h' W', J ys h W → Fle h h' → Hw h' W' → (∀ b o, h' b = some o → h b = some o ∨ W.heap.size ≤ b) → Bel h W.heap.size W W' → J ys h' W'

def ItOk (P : Program) (f : FuncId) (C : List PA → Cps (List (List PA))) : Prop :=
  ∀ (caps : List PA) (ys : List (List PA)), (C caps).o = some ys → ∀ (l : Nat) (J Jx : List (List PA) → Fz → World → Prop) (w : World) (h : Fz) (vs : List Value), JSt J → JSt Jx →
    (∀ y rest h W us, J (y :: rest) h W → RL (paR h) y us → Hw h W → ∀ n, ∃ fn tmps assign body, (Instr.yield l us.toArray).run P W = .ok (.round l fn tmps assign body) W ∧
      RoundIn Fence.wide n P l fn tmps assign body W fun e W' => ∃ h', Fle h h' ∧ Hw h' W' ∧ ((e = .returned (.bool true) ∧ J rest h' W') ∨ (e = .returned (.bool false) ∧ Jx rest h' W'))) →
    J ys h w → RL (paR h) caps vs → Hw h w →
    Callable P f ∧ Calls P f (.func (.yield l) #[] #[] :: vs).toArray w fun e W' => ∃ v h', e = .returned v ∧ Fle h h' ∧ Hw h' W' ∧ (J [] h' W' ∨ ∃ rest, Jx rest h' W')

class SelfV where
  f : FuncId
  np : Nat
  bs : List Nat
def ptrV (b : Nat) : Value := .pointer (some ⟨b, 0, none⟩)
def slfV [SelfV] : Value := .func (.func (SelfV.f)) #[] ((SelfV.bs).map ptrV).toArray
def xcR [SelfV] (P : Program) (h : Fz) (w : World) (B : Nat) : XC → Value → Prop
  | .p v, x => Rep h v x
  | .vec e s b n get, x => x.oneCell' = true ∧ (Ung get ∧ 0 < s) ∧ (∃ i z, P.info? e = some i ∧ i.size = s ∧ i.bytes = b ∧ i.zero = some z ∧ z.cells.size = s) ∧ VecV h w B e s x n get
  | .mo kt vt q n F, x => ∃ (b : Nat) (es : Array MapEntry) (clock : Nat), x = .map (some b) ∧ w.heap[b]? = some (.map es clock) ∧ moR P kt vt q n F es clock
  | .slf f np n, x => f = SelfV.f ∧ np = SelfV.np ∧ n = (SelfV.bs).length ∧ x = slfV
def xcK : XC → Value → List Nat
  | .p _, _ => []
  | .vec _ _ _ _ _, x => x.ownBlock.toList
  | .mo _ _ _ _ _, x => [mapB x]
  | .slf _ _ _, _ => []
def xcsK : List XC → List Value → List Nat
  | c :: cs, v :: vs => xcK c v ++ xcsK cs vs
  | _, _ => []
def xaR [SelfV] (P : Program) (h : Fz) (w : World) (B : Nat) : XA → Value → Prop
  | .d a, v => paR h a v
  | .box ty cs, v => ∃ k C, v = .pointer (some ⟨k, 0, none⟩) ∧ w.heap[k]? = some (.cells C ty (0, 0)) ∧ RL (xcR P h w B) cs C.toList
def xaK (w : World) : XA → Value → List Nat
  | .box _ cs, .pointer (some a) => a.block :: match w.heap[a.block]? with
    | some (.cells C _ _) => xcsK cs C.toList
    | _ => []
  | _, _ => []
def xsK (w : World) : List XA → List Value → List Nat
  | x :: xs, v :: vs => xaK w x v ++ xsK w xs vs
  | _, _ => []
structure BelX (h : Fz) (K : List Nat) (w w' : World) : Prop where
  os : w'.os = w.os
  tape : w'.tape = w.tape
  output : w'.output = w.output
  size : w.heap.size ≤ w'.heap.size
  drawn : dle w.drawn w'.drawn
  block : ∀ k, k < w.heap.size → k ∉ K → w'.heap[k]? = w.heap[k]?
def MutOk (P : Program) (f : FuncId) (C : MK) : Prop :=
  ∀ [SelfV] (xs ys : List XA) (rs : List PA), (C xs).o = some (rs, ys) → ∀ (w : World) (h : Fz) (base : Nat) (vs : List Value), RL (xaR P h w base) xs vs → (∀ k b, (SelfV.bs)[k]? = some b → vs[SelfV.np + k]? = some (ptrV b)) → (xsK w xs vs).Nodup →
    (∀ b ∈ xsK w xs vs, base ≤ b ∧ h b = none) → Hw h w → base ≤ w.heap.size →
    Callable P f ∧ Calls P f vs.toArray w fun e w' => ∃ (h' : Fz) (v : Value), e = .returned v ∧ resR h' rs v ∧ RL (xaR P h' w' base) ys vs ∧ (xsK w' ys vs).Nodup ∧
      (∀ b ∈ xsK w' ys vs, (b ∈ xsK w xs vs ∨ w.heap.size ≤ b) ∧ h' b = none) ∧ Fle h h' ∧ Hw h' w' ∧ (∀ b o, h' b = some o → h b = some o ∨ w.heap.size ≤ b ∨ b ∈ xsK w xs vs) ∧ BelX h (xsK w xs vs) w w'

structure OkAll (P : Program) (Γ : Ctrs) : Prop where
  mt : ∀ f C, Γ.mt f = some C → MutOk P f C
  fn : ∀ f, Ok P f (Γ.fn f)
  own : ∀ f, OwnOk P f (Γ.own f)
  it : ∀ f, ItOk P f (Γ.it f)
  cmp : ∀ f, @Ok ⟨1⟩ P f (Γ.cfn f)

theorem lk_cons {α : Type} {k n : Nat} {a : α} {r : List (Nat × α)} : lk ((k, a) :: r) n = if k = n then some a else lk r n := by
  simp only [lk]
  cases h : Nat.beq k n with
  | true => rw [if_pos (Nat.eq_of_beq_eq_true h)]
  | false => rw [if_neg (Nat.ne_of_beq_eq_false h)]
theorem lk_append {α : Type} {n : Nat} {l r : List (Nat × α)} : lk (l ++ r) n = match lk l n with | some a => some a | none => lk r n := by
  induction l with
  | nil => rfl
  | cons x l ih =>
    obtain ⟨k, a⟩ := x
    rw [List.cons_append, lk_cons, lk_cons]
    split
    · rfl
    · exact ih

end Go.Pm
namespace Go.Pm
variable [DrawZ]
open Go.RowKit (Below)

section
variable {P : Program} {w : World}

theorem addr_add (b o n : Nat) : (⟨b, o, none⟩ : Addr).add n = ⟨b, o + n, none⟩ := by
  unfold Addr.add; split <;> simp_all

theorem run_underlying {t : TypeId} {d : TypeDesc} (h : P.underlying t = some d) : (underlying t).run P w = .ok d w := by
  simp [underlying, h]
theorem run_sizeOf {t : TypeId} {n : Nat} (h : szT P t = some n) : (sizeOf t).run P w = .ok n w := by
  unfold szT at h
  cases hi : P.info? t with
  | none => simp [hi] at h
  | some i => simp [hi] at h; simp [sizeOf, typeInfo, hi, h]
theorem run_isAgg {t : TypeId} {g : Bool} (h : aggT P t = some g) : (isAgg t).run P w = .ok g w := by
  unfold aggT at h
  cases hi : P.underlying t with
  | none => simp [hi] at h
  | some d => simp [hi] at h; simp only [isAgg, Sem.run_bind, run_underlying hi, Result.andThen_ok]; cases d <;> simp_all
theorem run_zeroValue {t : TypeId} {i : TypeInfo} {z : Value} (h : P.info? t = some i) (hz : i.zero = some z) : (zeroValue t).run P w = .ok z w := by
  simp [zeroValue, typeInfo, h, hz]

theorem cell_of {b o : Nat} {C : Array Value} {ty : TypeId} {fr : Nat × Nat} (h : w.heap[b]? = some (.cells C ty fr)) : w.cell? ⟨b, o, none⟩ = C[o]? := by
  simp [World.cell?, h]

theorem run_loadVar_agg {t : TypeId} {n b o : Nat} {C : Array Value} {ty : TypeId} {fr : Nat × Nat} (hg : aggT P t = some true) (hs : szT P t = some n)
    (h : w.heap[b]? = some (.cells C ty fr)) (vs : List Value) (hl : vs.length = n) (hv : ∀ (j : Nat) (v : Value), vs[j]? = some v → C[o + j]? = some v) :
    (loadVar t ⟨b, o, none⟩).run P w = .ok (.agg vs.toArray) w := by
  have hc := run_loadCells_list (P := P) (w := w) ⟨b, o, none⟩ vs (fun j v hj => by rw [addr_add, cell_of h]; exact hv j v hj)
  simp only [loadVar, Sem.run_bind, run_isAgg hg, Result.andThen_ok, if_true, run_sizeOf hs, ← hl, hc, Sem.run_pure]
theorem run_loadVar_one {t : TypeId} {b o : Nat} {C : Array Value} {ty : TypeId} {fr : Nat × Nat} (hg : aggT P t = some false)
    (h : w.heap[b]? = some (.cells C ty fr)) (v : Value) (hv : C[o]? = some v) :
    (loadVar t ⟨b, o, none⟩).run P w = .ok v w := by
  simp only [loadVar, Sem.run_bind, run_isAgg hg, Result.andThen_ok, Bool.false_eq_true, if_false, run_load, cell_of h, hv]

theorem run_fieldAt {t : TypeId} {b o f off : Nat} (h : fieldOff P t f = some off) :
    (Instr.fieldAt t (.pointer (some ⟨b, o, none⟩)) f).run P w = .ok (.pointer (some ⟨b, o + off, none⟩)) w := by
  unfold fieldOff at h
  split at h
  · rename_i fs hu
    split at h
    · rename_i fd hf
      split at h
      · rename_i k hs
        simp at h; subst h
        simp only [Instr.fieldAt, Sem.run_bind, run_underlying hu, Result.andThen_ok, hf, Instr.sureAddr, Sem.run_pure, fieldPlace, run_sizeOf hs]
        simp [addr_add]
      · cases h
    · cases h
  · cases h

theorem run_indexAt_slice {t e : TypeId} {n b o len cap : Nat} {k : IntKind} {i : Int} (hu : P.underlying t = some (.slice e)) (hs : szT P e = some n) (h0 : 0 ≤ i) (h1 : i < (len : Int)) :
    (Instr.indexAt t (.slice (some ⟨b, o, none⟩) len cap) (.int k i)).run P w = .ok (.pointer (some ⟨b, o + i.toNat * n, none⟩)) w := by
  simp only [Instr.indexAt, asIntOf, Sem.run_bind, Sem.run_pure, Result.andThen_ok, run_underlying hu, h0, h1, and_self, if_true, run_sizeOf hs, addr_add]

theorem run_storeCells {b : Nat} {ty : TypeId} : ∀ (vs : List Value) (o : Nat) (C : Array Value) (w : World), w.heap[b]? = some (.cells C ty (0, 0)) → o + vs.length ≤ C.size → (∀ v ∈ vs, v.oneCell' = true) →
    ∀ (base i : Nat), o = base + i → ∃ w', (storeCells ⟨b, base, none⟩ vs i).run P w = .ok () w' ∧ w'.heap[b]? = some (.cells (spl C.toList o vs).toArray ty (0, 0)) ∧ w'.heap.size = w.heap.size ∧
      (∀ k, k ≠ b → w'.heap[k]? = w.heap[k]?) ∧ w'.os = w.os ∧ w'.tape = w.tape ∧ w'.output = w.output ∧ w'.drawn = w.drawn
  | [], o, C, w, h, _, _, base, i, _ => ⟨w, by simp [storeCells], by simpa [spl] using h, rfl, fun _ _ => rfl, rfl, rfl, rfl, rfl⟩
  | v :: r, o, C, w, h, hl, h1, base, i, ho => by
    subst ho
    have hlt : base + i < C.size := by simp at hl; omega
    have hcell : w.cell? ⟨b, base + i, none⟩ = some C[base + i] := by rw [cell_of h]; simp [hlt]
    have hfr : w.frozen? ⟨b, base + i, none⟩ = false := frozen_of_row w b (base + i) C ty h
    let w1 := w.setCell ⟨b, base + i, none⟩ v
    have h2 : w1.heap[b]? = some (.cells (C.set! (base + i) v) ty (0, 0)) := by
      simp [w1, World.setCell, Array.getElem?_modify, h]
    have hsz : w1.heap.size = w.heap.size := by simp [w1, World.setCell]
    have hoth : ∀ k, k ≠ b → w1.heap[k]? = w.heap[k]? := fun k hk => heap_setCell_other w _ k v hk
    obtain ⟨w', hr, hh, hs', ho', h5, h6, h7, h8⟩ := run_storeCells r (base + i + 1) (C.set! (base + i) v) w1 h2 (by simp at hl ⊢; omega) (fun u hu => h1 u (List.mem_cons_of_mem _ hu)) base (i + 1) (by omega)
    refine ⟨w', ?_, ?_, hs'.trans hsz, fun k hk => (ho' k hk).trans (hoth k hk), h5, h6, h7, h8⟩
    · rw [storeCells]
      simp only [Sem.run_bind, addr_add, run_store P w _ v _ (h1 v List.mem_cons_self), hcell, hfr, Bool.false_eq_true, if_false, Result.andThen_ok]
      exact hr
    · rw [hh]
      simp [spl]
end
end Go.Pm
namespace Go.Pm
variable [DrawZ]
open Go.RowKit (Below)

theorem spl_get {α : Type} : ∀ (l' l : List α) (off j : Nat), off + l'.length ≤ l.length → (spl l off l')[j]? = if off ≤ j ∧ j < off + l'.length then l'[j - off]? else l[j]?
  | [], l, off, j, _ => by simp only [spl, List.length_nil]; rw [if_neg (by omega)]
  | x :: r, l, off, j, h => by
    have h' : off + 1 + r.length ≤ (l.set off x).length := by simp at h ⊢; omega
    rw [spl, spl_get r (l.set off x) (off + 1) j h']
    simp only [List.length_cons] at h ⊢
    by_cases hj : j = off
    · subst hj
      rw [if_neg (by omega), if_pos (by omega)]
      have : j < l.length := by omega
      simp [this]
    · by_cases hr : off + 1 ≤ j ∧ j < off + 1 + r.length
      · rw [if_pos hr, if_pos (by omega)]
        have e : j - off = (j - (off + 1)) + 1 := by omega
        rw [e, List.getElem?_cons_succ]
      · rw [if_neg hr, if_neg (by omega), List.getElem?_set_ne (by omega)]

theorem ung_set {g : Nat → List PV} (hg : Ung g) {i k : Nat} {l : List PV} (hk : k + l.length ≤ (g 0).length) (hs : smL (((g 0).drop k).take l.length) l = true) (hl : RS l l) : Ung (setG i k g l) := by
  have hp : RS (((g 0).drop k).take l.length) l := smL_ok hs (((hg 0 0).drop k).take _) hl
  have key : ∀ j j', RS (spl (g j) k l) (g j') := fun j j' => by
    have e0 := (hg 0 j).length
    refine RL.of_get (by rw [spl_length]; exact (hg j j').length) fun p a b ha hb => ?_
    rw [spl_get _ _ _ _ (by omega)] at ha
    split at ha
    · rename_i hr
      obtain ⟨c, hc, r⟩ := RL.get' hp (p - k) a ha
      rw [List.getElem?_take, if_pos (by omega), List.getElem?_drop, show k + (p - k) = p by omega] at hc
      obtain ⟨d, hd, r2⟩ := RL.get (hg 0 j') p c hc
      rw [hb] at hd; cases hd
      exact r.symm.trans r2
    · obtain ⟨d, hd, r2⟩ := RL.get (hg j j') p a ha
      rw [hb] at hd; cases hd; exact r2
  intro j j'
  unfold setG
  split <;> split
  · exact (key j j').trans (key j' j').symm
  · exact key _ _
  · exact (key _ _).symm
  · exact hg _ _
theorem foldl_spl (off : Nat) : ∀ (l : List Value) (k : Nat) (C : Array Value),
    (l.zipIdx k).foldl (fun (cs : Array Value) (x : Value × Nat) => cs.setIfInBounds (off + x.2) x.1) C = (spl C.toList (off + k) l).toArray
  | [], k, C => by simp [spl]
  | x :: r, k, C => by
    rw [List.zipIdx_cons, List.foldl_cons, foldl_spl off r (k + 1) _, spl]
    simp [Nat.add_assoc]

section
variable {P : Program} {w : World}

theorem d1_cells {g : Gh} {d : D1} {v : Value} (h : d1R g d v) (ho : d.cells.all okCl = true) : RL (clR g) d.cells v.cells.toList := by
  cases d with
  | c x =>
    have h1 := clR_one h (by simpa [D1.cells] using ho)
    have : v.cells = #[v] := by cases v <;> simp_all [Value.oneCell', Value.cells]
    rw [this]
    exact ⟨h, trivial⟩
  | agg cs =>
    obtain ⟨vs, rfl, hr⟩ := h
    simpa [D1.cells, Value.cells] using hr

theorem mapM_places {fs : Array Field} (h : ∀ f ∈ fs, (szT P f.type).isSome = true) :
    (fs.mapM fun f => do pure (f.offset, ← sizeOf f.type) : Sem (Array (Nat × Nat))).run P w = .ok (fs.map fun f => (f.offset, (szT P f.type).getD 0)) w := by
  have key : ∀ l : List Field, (∀ f ∈ l, (szT P f.type).isSome = true) →
      (l.mapM fun f => do pure (f.offset, ← sizeOf f.type) : Sem (List (Nat × Nat))).run P w = .ok (l.map fun f => (f.offset, (szT P f.type).getD 0)) w := by
    intro l
    induction l with
    | nil => intro _; rfl
    | cons f l ih =>
      intro hl
      obtain ⟨n, hn⟩ := Option.isSome_iff_exists.1 (hl f List.mem_cons_self)
      rw [List.mapM_cons]
      simp only [Sem.run_bind, run_sizeOf hn, Result.andThen_ok, Sem.run_pure, ih (fun g hg => hl g (List.mem_cons_of_mem _ hg)), List.map_cons, hn, Option.getD_some]
  rw [Array.mapM_eq_mapM_toList, Sem.run_map, key fs.toList (fun f hf => h f (by simpa using hf))]
  cases fs; simp

theorem buildC_fill {g : Gh} {ρ : Operand → Value} {ev : Operand → DV} (hev : ∀ o, dvR g (ev o) (ρ o)) {t : TypeId} (place : Nat → Option (Nat × Nat))
    (hp : ∀ (i off n : Nat), (match P.underlying t with
      | some (.struct fs) => match fs[i]? with
        | some fd => match szT P fd.type with | some m => off = fd.offset ∧ n = m | none => False
        | none => False
      | some (.array _ e) => match szT P e with | some m => off = i * m ∧ n = m | none => False
      | _ => False) → place i = some (off, n)) :
    ∀ (parts : List (Nat × Operand)) (z l : List Cl) (C : Array Value), buildC P t ev z parts = some l → RL (clR g) z C.toList →
      ∃ D : Array Value, Instr.fill place C (parts.map fun x => (x.1, ρ x.2)) = some D ∧ RL (clR g) l D.toList
  | [], z, l, C, h, hz => by
    simp [buildC] at h; subst h
    exact ⟨C, rfl, hz⟩
  | (i, o) :: r, z, l, C, h, hz => by
    have hd := hev o
    simp only [buildC] at h
    cases he : ev o with
    | tup ds => simp [he] at h
    | one d =>
      simp only [he] at h
      rw [he] at hd
      have step : ∀ (off n : Nat), place i = some (off, n) → n = d.cells.length → off + n ≤ z.length → d.cells.all okCl = true → buildC P t ev (spl z off d.cells) r = some l →
          ∃ D : Array Value, Instr.fill place C (((i, o) :: r).map fun x => (x.1, ρ x.2)) = some D ∧ RL (clR g) l D.toList := by
        intro off n hpl hn hle hok hb
        have hc := d1_cells hd hok
        have hlen := hc.length
        have hzl := hz.length
        have hr2 : RL (clR g) (spl z off d.cells) (spl C.toList off (ρ o).cells.toList) := hz.spl hc off
        obtain ⟨D, hD, hR⟩ := buildC_fill hev place hp r _ l (spl C.toList off (ρ o).cells.toList).toArray hb (by simpa using hr2)
        refine ⟨D, ?_, hR⟩
        simp only [List.map_cons, Instr.fill, hpl]
        have h1 : ¬ ((ρ o).cells.size ≠ n) := by simp only [Decidable.not_not, ne_eq]; rw [hn, hlen]; simp
        have h2 : ¬ (off + (ρ o).cells.size > C.size) := by
          have : (ρ o).cells.size = d.cells.length := by rw [hlen]; simp
          have : C.size = z.length := by rw [hzl]; simp
          omega
        have h3 : ((decide ((ρ o).cells.size ≠ n) || decide (off + (ρ o).cells.size > C.size)) = true) = False := by simp [h1, h2]
        rw [if_neg (by rw [h3]; exact id)]
        rw [← hD]
        refine congrArg (fun z => Instr.fill place z _) ?_
        have := foldl_spl off (ρ o).cells.toList 0 C
        rw [Nat.add_zero] at this
        rw [← this]
        cases (ρ o).cells
        simp
      cases hu : P.underlying t with
      | none => simp [hu] at h
      | some dd =>
        cases dd with
        | struct fs =>
          simp only [hu] at h
          cases hf : fs[i]? with
          | none => simp [hf] at h
          | some fd =>
            simp only [hf] at h
            cases hs : szT P fd.type with
            | none => simp [hs] at h
            | some n =>
              simp only [hs] at h
              split at h
              · rename_i hcond
                simp only [Bool.and_eq_true, Nat.ble_eq] at hcond
                exact step fd.offset n (hp i _ _ (by simp [hu, hf, hs])) (Nat.eq_of_beq_eq_true hcond.1.1) hcond.1.2 hcond.2 h
              · cases h
        | array m e =>
          simp only [hu] at h
          cases hs : szT P e with
          | none => simp [hs] at h
          | some n =>
            simp only [hs] at h
            split at h
            · rename_i hcond
              simp only [Bool.and_eq_true, Nat.ble_eq] at hcond
              exact step (i * n) n (hp i _ _ (by simp [hu, hs])) (Nat.eq_of_beq_eq_true hcond.1.1) hcond.1.2 hcond.2 h
            · cases h
        | _ => simp [hu] at h

theorem ofVal1_rep {h : Fz} {v : Value} {p : PV} (hv : ofVal1 v = some p) : Rep h p v := by
  unfold ofVal1 at hv
  split at hv <;> first | (cases hv; done) | (simp at hv; subst hv; constructor)

theorem ofVals_rl {g : Gh} : ∀ (l : List Value) (cs : List Cl), ofVals l = some cs → RL (clR g) cs l
  | [], cs, h => by simp [ofVals] at h; subst h; trivial
  | v :: r, cs, h => by
    simp only [ofVals] at h
    split at h
    · rename_i x l hx hl
      simp at h; subst h
      exact ⟨ofVal1_rep hx, ofVals_rl r l hl⟩
    · cases h

theorem zeroT_spec {t : TypeId} {z : List Cl} (h : zeroT P t = some z) : ∃ i v, P.info? t = some i ∧ i.zero = some v ∧ ofVals v.cells.toList = some z ∧ z.length = i.size := by
  unfold zeroT at h
  split at h
  · rename_i i hi
    split at h
    · rename_i v hz
      split at h
      · rename_i l hl
        split at h
        · rename_i hs
          simp at h; subst h
          exact ⟨i, v, hi, hz, hl, hs⟩
        · cases h
      · cases h
    · cases h
  · cases h

theorem zero_size {t : TypeId} {z : List Cl} (h : zeroT P t = some z) : ∃ i v, P.info? t = some i ∧ i.zero = some v ∧ v.cells.size = i.size := by
  obtain ⟨i, v, hi, hz, hl, hs⟩ := zeroT_spec h
  have := (ofVals_rl (g := ⟨fun _ => none, fun _ => 0, fun _ => undef, fun _ _ => undef⟩) _ _ hl).length
  exact ⟨i, v, hi, hz, by rw [← hs, this]; simp⟩

theorem run_build {g : Gh} {ρ : Operand → Value} {ev : Operand → DV} (hev : ∀ o, dvR g (ev o) (ρ o)) {t : TypeId} {parts : Array (Nat × Operand)} {z l : List Cl}
    (hf : fieldsOk P t = true) (hz : zeroT P t = some z) (hb : buildC P t ev z parts.toList = some l) :
    ∃ v, (Instr.build t (parts.map fun x => (x.1, ρ x.2))).run P w = .ok v w ∧ d1R g (.agg l) v := by
  obtain ⟨i, v, hi, hzv, hl, _⟩ := zeroT_spec hz
  have hzr := ofVals_rl (g := g) _ _ hl
  unfold fieldsOk at hf
  cases hu : P.underlying t with
  | none => simp [hu] at hf
  | some d =>
    cases d with
    | struct fs =>
      simp only [hu] at hf
      have hall : ∀ f ∈ fs, (szT P f.type).isSome = true := fun f hf' => List.all_eq_true.1 hf f (by simpa using hf')
      obtain ⟨D, hD, hR⟩ := buildC_fill (P := P) hev (t := t) ((fs.map fun f => (f.offset, (szT P f.type).getD 0))[·]?) (by
        intro i off n hm
        simp only [hu] at hm
        cases hfi : fs[i]? with
        | none => simp [hfi] at hm
        | some fd =>
          cases hs : szT P fd.type with
          | none => simp [hfi, hs] at hm
          | some m => simp [hfi, hs] at hm; simp [hfi, hs, hm.1, hm.2]) parts.toList z l v.cells hb hzr
      refine ⟨.agg D, ?_, ⟨D.toList, by simp, hR⟩⟩
      simp only [Instr.build, Sem.run_bind, run_zeroValue hi hzv, Result.andThen_ok, run_underlying hu, mapM_places hall]
      simp only [Array.toList_map]
      rw [hD]
      rfl
    | array m e =>
      simp only [hu] at hf
      obtain ⟨n, hn⟩ := Option.isSome_iff_exists.1 hf
      obtain ⟨D, hD, hR⟩ := buildC_fill (P := P) hev (t := t) (fun i => some (i * n, n)) (by
        intro i off k hm
        simp only [hu, hn] at hm
        simp [hm.1, hm.2]) parts.toList z l v.cells hb hzr
      refine ⟨.agg D, ?_, ⟨D.toList, by simp, hR⟩⟩
      simp only [Instr.build, Sem.run_bind, run_zeroValue hi hzv, Result.andThen_ok, run_underlying hu, run_sizeOf hn]
      simp only [Array.toList_map]
      rw [hD]
      rfl
    | _ => simp [hu] at hf
end
end Go.Pm
namespace Go.Pm
variable [DrawZ]
open Go.RowKit (Below)

def LSame (g g' : Gh) (L : Nat) : Prop := g'.bk L = g.bk L ∧ g'.sv L = g.sv L ∧ g'.iv L = g.iv L
theorem LSame.refl (g : Gh) (L : Nat) : LSame g g L := ⟨rfl, rfl, rfl⟩
def Gsame (g g' : Gh) (l : List Nat) : Prop := ∀ L ∈ l, LSame g g' L

theorem clR_same {g g' : Gh} {c : Cl} {x : Value} (hl : Gsame g g' (clLab c)) (hle : Fle g.h g'.h) (h : clR g c x) : clR g' c x := by
  cases c with
  | p v => exact Rep.mono hle h
  | ptr L off => have := (hl L (by simp [clLab])).1; simp only [clR] at h ⊢; rw [this]; exact h
  | vptr L s i k => have := (hl L (by simp [clLab])).2.1; simp only [clR] at h ⊢; rw [this]; exact h
  | vec L => have := (hl L (by simp [clLab])).2.1; simp only [clR] at h ⊢; rw [this]; exact h
  | mo L => have := (hl L (by simp [clLab])).2.1; simp only [clR] at h ⊢; rw [this]; exact h
  | clo f caps => obtain ⟨cv, e, hr⟩ := h; exact ⟨cv, e, capR_mono (fun _ _ => Rep.mono hle) (fun L hL => (hl L hL).1) hr⟩
  | undef => exact h
  | junk => trivial
  | dead L => trivial

theorem rl_clR_same {g g' : Gh} : ∀ {cs : List Cl} {vs : List Value}, Gsame g g' (cs.flatMap clLab) → Fle g.h g'.h → RL (clR g) cs vs → RL (clR g') cs vs
  | [], [], _, _, _ => trivial
  | [], _ :: _, _, _, h => h.elim
  | _ :: _, [], _, _, h => h.elim
  | c :: cs, v :: vs, hl, hle, h => ⟨clR_same (fun L hL => hl L (by simp [hL])) hle h.1, rl_clR_same (fun L hL => hl L (by simp only [List.flatMap_cons, List.mem_append]; exact .inr hL)) hle h.2⟩

theorem d1R_same {g g' : Gh} {d : D1} {x : Value} (hl : Gsame g g' (d1Lab d)) (hle : Fle g.h g'.h) (h : d1R g d x) : d1R g' d x := by
  cases d with
  | c y => exact clR_same hl hle h
  | agg cs => obtain ⟨vs, rfl, hr⟩ := h; exact ⟨vs, rfl, rl_clR_same hl hle hr⟩

theorem rl_d1R_same {g g' : Gh} : ∀ {cs : List D1} {vs : List Value}, Gsame g g' (cs.flatMap d1Lab) → Fle g.h g'.h → RL (d1R g) cs vs → RL (d1R g') cs vs
  | [], [], _, _, _ => trivial
  | [], _ :: _, _, _, h => h.elim
  | _ :: _, [], _, _, h => h.elim
  | c :: cs, v :: vs, hl, hle, h => ⟨d1R_same (fun L hL => hl L (by simp [hL])) hle h.1, rl_d1R_same (fun L hL => hl L (by simp only [List.flatMap_cons, List.mem_append]; exact .inr hL)) hle h.2⟩

theorem dvR_same {g g' : Gh} {d : DV} {x : Value} (hl : Gsame g g' (dvLab d)) (hle : Fle g.h g'.h) (h : dvR g d x) : dvR g' d x := by
  cases d with
  | one y => exact d1R_same hl hle h
  | tup ds => obtain ⟨vs, rfl, hr⟩ := h; exact ⟨vs, rfl, rl_d1R_same hl hle hr⟩

theorem ownsRow_world {w w' : World} {B e s n : Nat} {v : Value} {xs : List Value} (h : w.ownsRow B e s v n xs) (hw : ∀ b, v.ownBlock = some b → w'.heap[b]? = w.heap[b]?) :
    w'.ownsRow B e s v n xs := by
  refine ⟨h.1, ?_⟩
  rcases h.2 with hn | ⟨g, cap, cur, rfl, hb, hg, rest⟩
  · exact .inl hn
  · exact .inr ⟨g, cap, cur, rfl, hb, by rw [hw g rfl]; exact hg, rest⟩

theorem vecR_same {P : Program} {g g' : Gh} {w w' : World} {B L e s b n : Nat} {get : Nat → List PV} (h : vecR P g w B L e s b n get) (hs : g'.sv L = g.sv L) (hle : Fle g.h g'.h)
    (hw : ∀ b, (g.sv L).ownBlock = some b → w'.heap[b]? = w.heap[b]?) : vecR P g' w' B L e s b n get := by
  obtain ⟨h1, h2, xs, hx, hr⟩ := h
  refine ⟨h1, h2, xs, ?_, fun i hi => (hr i hi).mono fun _ _ => Rep.mono hle⟩
  rw [hs]; exact ownsRow_world hx hw

theorem vvR_same {P : Program} {g g' : Gh} {w w' : World} {B L te bb e s b n : Nat} {ln : Nat → Nat} {get : Nat → Nat → List PV} (h : vvR P g w B L te bb e s b n ln get) (hl : LSame g g' L) (hle : Fle g.h g'.h)
    (hw : ∀ k, obk g L (.vv te bb e s b n ln get) k → w'.heap[k]? = w.heap[k]?) : vvR P g' w' B L te bb e s b n ln get := by
  obtain ⟨h1, h2, h3, h4, h5, h6⟩ := h
  refine ⟨h1, h2, h3, ?_, fun i hi => ?_, ?_⟩
  · rw [hl.2.1, hl.2.2]; exact ownsRow_world h4 fun k hk => hw k (.inl hk)
  · obtain ⟨h7, h70, xs, hx, hr⟩ := h5 i hi
    rw [hl.2.2]
    exact ⟨h7, h70, xs, ownsRow_world hx fun k hk => hw k (.inr ⟨i, hi, hk⟩), fun j hj => (hr j hj).mono fun _ _ => Rep.mono hle⟩
  · rw [hl.2.1, hl.2.2]; exact h6

theorem vtR_same {P : Program} {g g' : Gh} {w w' : World} {B L te bb e s b n o : Nat} {ln : Nat → Nat} {get : Nat → Nat → List PV} (h : vtR P g w B L te bb e s b n ln get o) (hl : LSame g g' L) (hle : Fle g.h g'.h)
    (hw : ∀ k, obk g L (.vt te bb e s b n ln get o) k → w'.heap[k]? = w.heap[k]?) : vtR P g' w' B L te bb e s b n ln get o := by
  obtain ⟨h1, h2, h3, h4, h41, h42, h5, h6⟩ := h
  refine ⟨h1, h2, h3, ?_, by rw [hl.2.2]; exact h41, by rw [hl.2.2]; exact h42, fun i hi ho => ?_, ?_⟩
  · rw [hl.2.1, hl.2.2]; exact ownsRow_world h4 fun k hk => hw k (.inl hk)
  · obtain ⟨h7, h70, xs, hx, hr⟩ := h5 i hi ho
    rw [hl.2.2]
    exact ⟨h7, h70, xs, ownsRow_world hx fun k hk => hw k (.inr ⟨i, hi, ho, hk⟩), fun j hj => (hr j hj).mono fun _ _ => Rep.mono hle⟩
  · rw [hl.2.1, hl.2.2]; exact h6

theorem aoR_same {P : Program} {g g' : Gh} {w w' : World} {B L : Nat} {o : AO} (h : aoR P g w B L o) (hl : LSame g g' L) (hm : Gsame g g' (aoLab o)) (hle : Fle g.h g'.h)
    (hw : ∀ b, obk g L o b → w'.heap[b]? = w.heap[b]?) : aoR P g' w' B L o := by
  cases o with
  | box ty cs => obtain ⟨C, hC, hr⟩ := h; refine ⟨C, ?_, rl_clR_same hm hle hr⟩; rw [hl.1, hw _ rfl]; exact hC
  | fbox cs => obtain ⟨C, ty, fr, hC, hr⟩ := h; refine ⟨C, ty, fr, ?_, hr.mono fun _ _ => Rep.mono hle⟩; rw [hl.1]; exact hle _ _ hC
  | vec e s b n get => exact vecR_same h hl.2.1 hle hw
  | fvec s n get => simp only [aoR] at h ⊢; rw [hl.2.1]; exact ⟨Rep.mono hle h.1, h.2⟩
  | vv te bb e s b n ln get => exact vvR_same h hl hle hw
  | vt te bb e s b n ln get o => exact vtR_same h hl hle hw
  | mo kt vt q n F => obtain ⟨es, clock, hC, hr⟩ := h; refine ⟨es, clock, ?_, hr⟩; rw [hl.2.1, hw _ rfl]; exact hC
  | gone => trivial

theorem obk_same {g g' : Gh} {L : Nat} {o : AO} (hl : LSame g g' L) : obk g' L o = obk g L o := by
  funext b
  cases o <;> simp [obk, hl.1, hl.2.1, hl.2.2]

theorem obk_lt {P : Program} {g : Gh} {w : World} {B L b : Nat} {o : AO} (h : aoR P g w B L o) (hb : obk g L o b) : b < w.heap.size := by
  cases o with
  | box ty cs => simp [obk] at hb; subst hb; obtain ⟨C, hC, _⟩ := h; exact (Array.getElem?_eq_some_iff.1 hC).1
  | fbox cs => simp [obk] at hb
  | vec e s b' n get =>
    obtain ⟨_, _, xs, hx, _⟩ := h
    exact (hx.lt b hb).2
  | fvec s n get => simp [obk] at hb
  | vv te bb e s b' n ln get =>
    obtain ⟨_, _, _, h4, h5, _⟩ := h
    rcases hb with hb | ⟨i, hi, hb⟩
    · exact (h4.lt b hb).2
    · obtain ⟨_, _, xs, hx, _⟩ := h5 i hi
      exact (hx.lt b hb).2
  | vt te bb e s b' n ln get o =>
    obtain ⟨_, _, _, h4, _, _, h5, _⟩ := h
    rcases hb with hb | ⟨i, hi, ho, hb⟩
    · exact (h4.lt b hb).2
    · obtain ⟨_, _, xs, hx, _⟩ := h5 i hi ho
      exact (hx.lt b hb).2
  | mo kt vt q n F => simp [obk] at hb; subst hb; obtain ⟨es, clock, hC, _⟩ := h; exact (Array.getElem?_eq_some_iff.1 hC).1
  | gone => exact hb.elim

section
variable {P : Program} {nt B : Nat} {w0 : World} {h0 : Fz} {g : Gh} {σ : St} {a : Act} {w : World}

theorem Sim.log (S : Sim P nt B w0 h0 g σ a w) (l : List (Nat × Nat × Nat)) : Sim P nt B w0 h0 g { σ with log := l } a w :=
  ⟨S.dfr, S.size, S.env, S.obj, S.own, S.sep, S.hw, S.le0, S.hn, S.below, S.bs, S.clE, S.clO⟩

theorem getD_put (a : Act) (t : Nat) (v : Value) (u : Nat) (ht : t < a.tmps.size) : (a.put (some t) v).tmps.getD u undef = if t = u then v else a.tmps.getD u undef := by
  simp only [Act.put, Array.getD_eq_getD_getElem?, Array.getElem?_setIfInBounds]
  by_cases h : t = u
  · subst h; simp [ht]
  · simp [h]

def putE (dst : Option Nat) (d : DV) (e : List (Nat × DV)) : List (Nat × DV) :=
  match dst with
  | some t => (t, d) :: e
  | none => e

theorem upd_nil (σ : St) (i : Nat) (dst : Option Nat) (fp : List (Nat × Bool)) (d : DV) (u : List (Nat × AO)) : σ.upd i dst fp d u [] = ⟨putE dst d σ.env, u ++ σ.objs, σ.log⟩ := by
  cases dst <;> rfl

theorem Sim.put (S : Sim P nt B w0 h0 g σ a w) {dst : Option Nat} {d : DV} {v : Value} (hd : okDst nt dst = true) (hv : dvR g d v) (hl : ∀ L ∈ dvLab d, ∃ o, lk σ.objs L = some o)
    (l : List (Nat × Nat × Nat)) : Sim P nt B w0 h0 g ⟨putE dst d σ.env, σ.objs, l⟩ (a.put dst v) w := by
  cases dst with
  | none => exact S.log l
  | some t =>
    have ht : t < nt := by simpa [okDst, Nat.blt_eq] using hd
    have hts : t < a.tmps.size := Nat.lt_of_lt_of_le ht S.size
    refine ⟨S.dfr, by simpa [Act.put] using S.size, ?_, S.obj, S.own, S.sep, S.hw, S.le0, S.hn, S.below, S.bs, ?_, S.clO⟩
    · intro u e hu
      rw [getD_put a t v u hts]
      simp only [putE, lk_cons] at hu
      split at hu
      · rename_i h; simp at hu; subst hu; rw [if_pos h]; exact hv
      · rename_i h; rw [if_neg h]; exact S.env u e hu
    · intro u e hu
      simp only [putE, lk_cons] at hu
      split at hu
      · simp at hu; subst hu; exact hl
      · exact S.clE u e hu

theorem Sim.change (S : Sim P nt B w0 h0 g σ a w) {g' : Gh} {w' : World} {objs' : List (Nat × AO)}
    (hlab : ∀ L o, lk σ.objs L = some o → LSame g g' L) (hle : Fle g.h g'.h) (hw' : Hw g'.h w')
    (hn' : ∀ b o, g'.h b = some o → g.h b = some o ∨ B ≤ b) (hb : Bel h0 B w w')
    (hobj : ∀ L o, lk objs' L = some o → aoR P g' w' B L o) (hown : ∀ L o b, lk objs' L = some o → obk g' L o b → B ≤ b ∧ g'.h b = none)
    (hsep : ∀ L o b L' o', lk objs' L = some o → lk objs' L' = some o' → obk g' L o b → obk g' L' o' b → L = L')
    (hdom : ∀ L o, lk σ.objs L = some o → ∃ o', lk objs' L = some o') (hclO : ∀ L o, lk objs' L = some o → ∀ M ∈ aoLab o, ∃ o', lk objs' M = some o') :
    Sim P nt B w0 h0 g' { σ with objs := objs' } a w' := by
  refine ⟨S.dfr.mono hle, S.size, ?_, hobj, hown, hsep, hw', fun b o h => hle _ _ (S.le0 b o h), ?_, S.below.trans hb, Nat.le_trans S.bs hb.size, ?_, hclO⟩
  · intro t d ht
    refine dvR_same (fun L hL => ?_) hle (S.env t d ht)
    obtain ⟨o, ho⟩ := S.clE t d ht L hL
    exact hlab L o ho
  · intro b o h
    rcases hn' b o h with h | h
    · exact S.hn b o h
    · exact .inr h
  · intro t d ht L hL
    obtain ⟨o, ho⟩ := S.clE t d ht L hL
    exact hdom L o ho

theorem Sim.world (S : Sim P nt B w0 h0 g σ a w) {h' : Fz} {w' : World} (hle : Fle g.h h') (hw' : Hw h' w')
    (hn' : ∀ b o, h' b = some o → g.h b = some o ∨ w.heap.size ≤ b) (hb : Bel g.h w.heap.size w w') : Sim P nt B w0 h0 ⟨h', g.bk, g.sv, g.iv⟩ σ a w' := by
  have hlt : ∀ L o b, lk σ.objs L = some o → obk g L o b → b < w.heap.size := fun L o b ho hob => obk_lt (S.obj L o ho) hob
  have key := S.change (g' := ⟨h', g.bk, g.sv, g.iv⟩) (w' := w') (objs' := σ.objs) (fun _ _ _ => ⟨rfl, rfl, rfl⟩) hle hw'
    (fun b o h => (hn' b o h).imp id fun h => Nat.le_trans S.bs h) ⟨hb.os, hb.tape, hb.output, hb.size, hb.drawn, fun k hk => hb.block k (Nat.lt_of_lt_of_le hk S.bs)⟩
    (fun L o ho => aoR_same (S.obj L o ho) ⟨rfl, rfl, rfl⟩ (fun _ _ => ⟨rfl, rfl, rfl⟩) hle fun b hob => hb.block b (hlt L o b ho hob))
    (fun L o b ho hob => by
      have hob' : obk g L o b := Eq.mp (congrFun (obk_same (g := g) (g' := ⟨h', g.bk, g.sv, g.iv⟩) ⟨rfl, rfl, rfl⟩) _) hob
      obtain ⟨h1, h2⟩ := S.own L o b ho hob'
      refine ⟨h1, ?_⟩
      cases hh : h' b with
      | none => exact hh
      | some x =>
        rcases hn' b x hh with h3 | h3
        · rw [h2] at h3; cases h3
        · exact absurd (hlt L o b ho hob') (by omega))
    (fun L o b L' o' ho ho' hob hob' => S.sep L o b L' o' ho ho'
      (Eq.mp (congrFun (obk_same (g := g) (g' := ⟨h', g.bk, g.sv, g.iv⟩) ⟨rfl, rfl, rfl⟩) _) hob) (Eq.mp (congrFun (obk_same (g := g) (g' := ⟨h', g.bk, g.sv, g.iv⟩) ⟨rfl, rfl, rfl⟩) _) hob'))
    (fun L o h => ⟨o, h⟩) S.clO
  exact key

theorem fz_lt {h : Fz} (hw : Hw h w) {b : Nat} {o : FzO} (hb : h b = some o) : b < w.heap.size := hw.lt hb

def Gh.setBk (g : Gh) (t b : Nat) : Gh := ⟨g.h, fun L => if L = t then b else g.bk L, g.sv, g.iv⟩
def Gh.setSv (g : Gh) (t : Nat) (v : Value) : Gh := ⟨g.h, g.bk, fun L => if L = t then v else g.sv L, g.iv⟩
def Gh.setVv (g : Gh) (t : Nat) (v : Value) (iv : Nat → Value) : Gh := ⟨g.h, g.bk, fun L => if L = t then v else g.sv L, fun L => if L = t then iv else g.iv L⟩

theorem Sim.newBox (S : Sim P nt B w0 h0 g σ a w) {t ty : Nat} {cs : List Cl} {C : Array Value} (ht : lk σ.objs t = none) (hC : RL (clR g) cs C.toList)
    (hcl : ∀ M ∈ cs.flatMap clLab, ∃ o, lk σ.objs M = some o) :
    Sim P nt B w0 h0 (g.setBk t w.heap.size) { σ with objs := (t, .box ty cs) :: σ.objs } a (w.alloc (.cells C ty)) := by
  have hne : ∀ L o, lk σ.objs L = some o → L ≠ t := fun L o h e => by subst e; rw [ht] at h; cases h
  have hsame : ∀ L o, lk σ.objs L = some o → LSame g (g.setBk t w.heap.size) L := fun L o h => ⟨by simp [Gh.setBk, hne L o h], rfl, rfl⟩
  have hold : ∀ b, b < w.heap.size → (w.alloc (.cells C ty)).heap[b]? = w.heap[b]? := fun b hb => heap_alloc_old w _ b hb
  have hlk : ∀ L o, lk ((t, AO.box ty cs) :: σ.objs) L = some o → (L = t ∧ o = .box ty cs) ∨ (L ≠ t ∧ lk σ.objs L = some o) := by
    intro L o h
    rw [lk_cons] at h
    split at h
    · rename_i e; simp at h; exact .inl ⟨e.symm, h.symm⟩
    · rename_i e; exact .inr ⟨fun e' => e e'.symm, h⟩
  have hobkb : ∀ L o b, lk σ.objs L = some o → obk (g.setBk t w.heap.size) L o b → obk g L o b := fun L o b ho hob => Eq.mp (congrFun (obk_same (hsame L o ho)) _) hob
  refine S.change (g' := g.setBk t w.heap.size) hsame (fun _ _ h => h) ?_ (fun b o h => .inl h) (Bel.of ⟨(Below.refl B w).alloc S.bs _, Nat.le_refl _⟩) ?_ ?_ ?_ ?_ ?_
  · exact S.hw.same fun b o h => hold b (fz_lt S.hw h)
  · intro L o ho
    rcases hlk L o ho with ⟨rfl, rfl, rfl⟩ | ⟨_, ho⟩
    · refine ⟨C, by show (w.alloc _).heap[(if _ then w.heap.size else _)]? = _; rw [if_pos rfl]; exact heap_alloc_new w _, rl_clR_same (g := g) (g' := g.setBk _ w.heap.size) (fun M hM => ?_) (fun _ _ h => h) hC⟩
      obtain ⟨o, ho⟩ := hcl M hM
      exact hsame M o ho
    · refine aoR_same (S.obj L o ho) (hsame L o ho) (fun M hM => ?_) (fun _ _ h => h) (fun b hob => hold b (obk_lt (S.obj L o ho) hob))
      obtain ⟨o', ho'⟩ := S.clO L o ho M hM
      exact hsame M o' ho'
  · intro L o b ho hob
    rcases hlk L o ho with ⟨rfl, rfl, rfl⟩ | ⟨_, ho⟩
    · simp [obk, Gh.setBk] at hob; subst hob
      refine ⟨S.bs, ?_⟩
      cases hh : g.h w.heap.size with
      | none => exact hh
      | some x => exact absurd (fz_lt S.hw hh) (by omega)
    · exact S.own L o b ho (hobkb L o b ho hob)
  · intro L o b L' o' ho ho' hob hob'
    rcases hlk L o ho with ⟨rfl, rfl, rfl⟩ | ⟨hn, ho2⟩ <;> rcases hlk L' o' ho' with ⟨rfl, rfl, rfl⟩ | ⟨hn', ho2'⟩
    · rfl
    · simp [obk, Gh.setBk] at hob; subst hob
      exact absurd (obk_lt (S.obj L' o' ho2') (hobkb _ _ _ ho2' hob')) (by omega)
    · simp [obk, Gh.setBk] at hob'; subst hob'
      exact absurd (obk_lt (S.obj L o ho2) (hobkb _ _ _ ho2 hob)) (by omega)
    · exact S.sep L o b L' o' ho2 ho2' (hobkb _ _ _ ho2 hob) (hobkb _ _ _ ho2' hob')
  · intro L o ho
    refine ⟨o, ?_⟩
    rw [lk_cons, if_neg (fun e => hne L o ho e.symm)]; exact ho
  · intro L o ho M hM
    have fin : ∀ M o, lk σ.objs M = some o → ∃ o', lk ((t, AO.box ty cs) :: σ.objs) M = some o' := fun M o h => ⟨o, by rw [lk_cons, if_neg (fun e => hne M o h e.symm)]; exact h⟩
    rcases hlk L o ho with ⟨rfl, rfl, rfl⟩ | ⟨_, ho⟩
    · obtain ⟨o, ho⟩ := hcl M hM; exact fin M o ho
    · obtain ⟨o', ho'⟩ := S.clO L o ho M hM; exact fin M o' ho'

theorem Sim.newVec (S : Sim P nt B w0 h0 g σ a w) {t e s b n : Nat} {get : Nat → List PV} {v : Value} {w' : World} (ht : lk σ.objs t = none)
    (hb : BelD B w w') (hold : ∀ b, b < w.heap.size → w'.heap[b]? = w.heap[b]?) (hv : ∀ b, v.ownBlock = some b → w.heap.size ≤ b)
    (hr : vecR P (g.setSv t v) w' B t e s b n get) :
    Sim P nt B w0 h0 (g.setSv t v) { σ with objs := (t, .vec e s b n get) :: σ.objs } a w' := by
  have hne : ∀ L o, lk σ.objs L = some o → L ≠ t := fun L o h e => by subst e; rw [ht] at h; cases h
  have hsame : ∀ L o, lk σ.objs L = some o → LSame g (g.setSv t v) L := fun L o h => ⟨rfl, by simp [Gh.setSv, hne L o h], rfl⟩
  have hlk : ∀ L o, lk ((t, AO.vec e s b n get) :: σ.objs) L = some o → (L = t ∧ o = .vec e s b n get) ∨ (L ≠ t ∧ lk σ.objs L = some o) := by
    intro L o h
    rw [lk_cons] at h
    split at h
    · rename_i e; simp at h; exact .inl ⟨e.symm, h.symm⟩
    · rename_i e; exact .inr ⟨fun e' => e e'.symm, h⟩
  have hobkb : ∀ L o b, lk σ.objs L = some o → obk (g.setSv t v) L o b → obk g L o b := fun L o b ho hob => Eq.mp (congrFun (obk_same (hsame L o ho)) _) hob
  have hnew : (g.setSv t v).sv t = v := by simp [Gh.setSv]
  refine S.change (g' := g.setSv t v) hsame (fun _ _ h => h) ?_ (fun b o h => .inl h) (.of hb) ?_ ?_ ?_ ?_ ?_
  · exact S.hw.same fun b o h => hold b (fz_lt S.hw h)
  · intro L o ho
    rcases hlk L o ho with ⟨rfl, rfl, rfl⟩ | ⟨_, ho⟩
    · exact hr
    · refine aoR_same (S.obj L o ho) (hsame L o ho) (fun M hM => ?_) (fun _ _ h => h) (fun b hob => hold b (obk_lt (S.obj L o ho) hob))
      obtain ⟨o', ho'⟩ := S.clO L o ho M hM
      exact hsame M o' ho'
  · intro L o b' ho hob
    rcases hlk L o ho with ⟨rfl, rfl, rfl⟩ | ⟨_, ho⟩
    · simp only [obk, hnew] at hob
      have h1 := hv b' hob
      refine ⟨Nat.le_trans S.bs h1, ?_⟩
      cases hh : g.h b' with
      | none => exact hh
      | some x => exact absurd (fz_lt S.hw hh) (by omega)
    · exact S.own L o b' ho (hobkb L o b' ho hob)
  · intro L o b' L' o' ho ho' hob hob'
    rcases hlk L o ho with ⟨rfl, rfl, rfl⟩ | ⟨hn, ho2⟩ <;> rcases hlk L' o' ho' with ⟨rfl, rfl, rfl⟩ | ⟨hn', ho2'⟩
    · rfl
    · simp only [obk, hnew] at hob
      have := hv b' hob
      exact absurd (obk_lt (S.obj L' o' ho2') (hobkb _ _ _ ho2' hob')) (by omega)
    · simp only [obk, hnew] at hob'
      have := hv b' hob'
      exact absurd (obk_lt (S.obj L o ho2) (hobkb _ _ _ ho2 hob)) (by omega)
    · exact S.sep L o b' L' o' ho2 ho2' (hobkb _ _ _ ho2 hob) (hobkb _ _ _ ho2' hob')
  · intro L o ho
    refine ⟨o, ?_⟩
    rw [lk_cons, if_neg (fun e => hne L o ho e.symm)]; exact ho
  · intro L o ho M hM
    rcases hlk L o ho with ⟨rfl, rfl, rfl⟩ | ⟨_, ho⟩
    · simp [aoLab] at hM
    · obtain ⟨o', ho'⟩ := S.clO L o ho M hM
      exact ⟨o', by rw [lk_cons, if_neg (fun e => hne M o' ho' e.symm)]; exact ho'⟩

theorem Sim.write2 (S : Sim P nt B w0 h0 g σ a w) {L : Nat} {o o' : AO} {w' : World} (hL : lk σ.objs L = some o) (hbk : ∀ b, obk g L o' b → obk g L o b)
    (hb : BelD B w w') (hoth : ∀ b, b < w.heap.size → ¬ obk g L o b → w'.heap[b]? = w.heap[b]?) (hr : aoR P g w' B L o') (hcl : ∀ M ∈ aoLab o', ∃ o, lk σ.objs M = some o) :
    Sim P nt B w0 h0 g { σ with objs := (L, o') :: σ.objs } a w' := by
  have hlk : ∀ M x, lk ((L, o') :: σ.objs) M = some x → (M = L ∧ x = o') ∨ (M ≠ L ∧ lk σ.objs M = some x) := by
    intro M x h
    rw [lk_cons] at h
    split at h
    · rename_i e; simp at h; exact .inl ⟨e.symm, h.symm⟩
    · rename_i e; exact .inr ⟨fun e' => e e'.symm, h⟩
  have hdom : ∀ M x, lk σ.objs M = some x → ∃ x', lk ((L, o') :: σ.objs) M = some x' := by
    intro M x h
    rw [lk_cons]; split
    · exact ⟨o', rfl⟩
    · exact ⟨x, h⟩
  refine S.change (g' := g) (fun _ _ _ => ⟨rfl, rfl, rfl⟩) (fun _ _ h => h) ?_ (fun b o h => .inl h) (.of hb) ?_ ?_ ?_ hdom ?_
  · exact S.hw.same fun b x h => hoth b (fz_lt S.hw h) (fun e => by have := (S.own L o b hL e).2; rw [this] at h; cases h)
  · intro M x hx
    rcases hlk M x hx with ⟨rfl, rfl, rfl⟩ | ⟨hne, hx⟩
    · exact hr
    · exact aoR_same (S.obj M x hx) ⟨rfl, rfl, rfl⟩ (fun _ _ => ⟨rfl, rfl, rfl⟩) (fun _ _ h => h) fun b hob => hoth b (obk_lt (S.obj M x hx) hob) fun e => hne (S.sep M x b L o hx hL hob e)
  · intro M x b hx hob
    rcases hlk M x hx with ⟨rfl, rfl, rfl⟩ | ⟨_, hx⟩
    · exact S.own M o b hL (hbk b hob)
    · exact S.own M x b hx hob
  · intro M x b M' x' hx hx' hob hob'
    rcases hlk M x hx with ⟨rfl, rfl, rfl⟩ | ⟨_, hx2⟩ <;> rcases hlk M' x' hx' with ⟨rfl, rfl, rfl⟩ | ⟨_, hx2'⟩
    · rfl
    · exact S.sep M o b M' x' hL hx2' (hbk b hob) hob'
    · exact S.sep M x b M' o hx2 hL hob (hbk b hob')
    · exact S.sep M x b M' x' hx2 hx2' hob hob'
  · intro M x hx N hN
    rcases hlk M x hx with ⟨rfl, rfl, rfl⟩ | ⟨_, hx⟩
    · obtain ⟨y, hy⟩ := hcl N hN; exact hdom N y hy
    · obtain ⟨y, hy⟩ := S.clO M x hx N hN; exact hdom N y hy
theorem Sim.write (S : Sim P nt B w0 h0 g σ a w) {L : Nat} {o o' : AO} {w' : World} (hL : lk σ.objs L = some o) (hbk : ∀ b, obk g L o' b → obk g L o b)
    (hb : BelD B w w') (hoth : ∀ b, ¬ obk g L o b → w'.heap[b]? = w.heap[b]?) (hr : aoR P g w' B L o') (hcl : ∀ M ∈ aoLab o', ∃ o, lk σ.objs M = some o) :
    Sim P nt B w0 h0 g { σ with objs := (L, o') :: σ.objs } a w' := S.write2 hL hbk hb (fun b _ => hoth b) hr hcl
theorem setSv_same {L : Nat} {v : Value} : ∀ M, M ≠ L → LSame g (g.setSv L v) M := fun M h => ⟨rfl, by simp [Gh.setSv, h], rfl⟩
theorem setVv_same {L : Nat} {v : Value} {iv : Nat → Value} : ∀ M, M ≠ L → LSame g (g.setVv L v iv) M := fun M h => ⟨rfl, by simp [Gh.setVv, h], by simp [Gh.setVv, h]⟩
theorem Sim.adopt (S : Sim P nt B w0 h0 g σ a w) {t e s b n : Nat} {get : Nat → List PV} {v : Value} (ht : lk σ.objs t = none)
    (hv : ∀ k, v.ownBlock = some k → B ≤ k ∧ g.h k = none ∧ ∀ L o, lk σ.objs L = some o → ¬ obk g L o k) (hr : vecR P (g.setSv t v) w B t e s b n get) :
    Sim P nt B w0 h0 (g.setSv t v) { σ with objs := (t, .vec e s b n get) :: σ.objs } a w := by
  have hne : ∀ L o, lk σ.objs L = some o → L ≠ t := fun L o h e => by subst e; rw [ht] at h; cases h
  have hsame : ∀ L o, lk σ.objs L = some o → LSame g (g.setSv t v) L := fun L o h => setSv_same L (hne L o h)
  have hlk : ∀ L o, lk ((t, AO.vec e s b n get) :: σ.objs) L = some o → (L = t ∧ o = .vec e s b n get) ∨ (L ≠ t ∧ lk σ.objs L = some o) := by
    intro L o h
    rw [lk_cons] at h
    split at h
    · rename_i e; simp at h; exact .inl ⟨e.symm, h.symm⟩
    · rename_i e; exact .inr ⟨fun e' => e e'.symm, h⟩
  have hnew : (g.setSv t v).sv t = v := by simp [Gh.setSv]
  have hobkb : ∀ L o k, lk σ.objs L = some o → obk (g.setSv t v) L o k → obk g L o k := fun L o k ho h => by rw [obk_same (hsame L o ho)] at h; exact h
  refine S.change (g' := g.setSv t v) hsame (fun _ _ h => h) S.hw (fun b o h => .inl h) (.refl _ B w) ?_ ?_ ?_ ?_ ?_
  · intro L o ho
    rcases hlk L o ho with ⟨rfl, rfl⟩ | ⟨_, ho⟩
    · exact hr
    · exact aoR_same (S.obj L o ho) (hsame L o ho) (fun M hM => by obtain ⟨o', ho'⟩ := S.clO L o ho M hM; exact hsame M o' ho') (fun _ _ h => h) fun _ _ => rfl
  · intro L o k ho hk
    rcases hlk L o ho with ⟨rfl, rfl⟩ | ⟨_, ho⟩
    · simp only [obk, hnew] at hk; exact ⟨(hv k hk).1, (hv k hk).2.1⟩
    · exact S.own L o k ho (hobkb L o k ho hk)
  · intro L o k L' o' ho ho' hk hk'
    rcases hlk L o ho with ⟨rfl, rfl⟩ | ⟨_, ho2⟩ <;> rcases hlk L' o' ho' with ⟨rfl, rfl⟩ | ⟨_, ho2'⟩
    · rfl
    · simp only [obk, hnew] at hk; exact ((hv k hk).2.2 L' o' ho2' (hobkb _ _ _ ho2' hk')).elim
    · simp only [obk, hnew] at hk'; exact ((hv k hk').2.2 L o ho2 (hobkb _ _ _ ho2 hk)).elim
    · exact S.sep L o k L' o' ho2 ho2' (hobkb _ _ _ ho2 hk) (hobkb _ _ _ ho2' hk')
  · intro L o ho
    refine ⟨o, ?_⟩
    rw [lk_cons, if_neg (fun e => hne L o ho e.symm)]; exact ho
  · intro L o ho M hM
    rcases hlk L o ho with ⟨rfl, rfl⟩ | ⟨_, ho⟩
    · simp [aoLab] at hM
    · obtain ⟨o', ho'⟩ := S.clO L o ho M hM
      exact ⟨o', by rw [lk_cons, if_neg (fun e => hne M o' ho' e.symm)]; exact ho'⟩
end
end Go.Pm
namespace Go.Pm
variable [DrawZ]
open Go.RowKit (Below)

abbrev Upd := List (Nat × AO)

abbrev vvGet (s : Nat) (ln : Nat → Nat) (get : Nat → Nat → List PV) : Nat → List PV := fun i => [.sl (ln i) s (get i)]

def FrzOk (ob : Nat → Option AO) (u : Upd) (L : Nat) (o' : AO) : Prop :=
  (∃ e s b n get, ob L = some (.vec e s b n get) ∧ o' = .fvec s n get) ∨
  (∃ ty cells l us, ob L = some (.box ty cells) ∧ o' = .fbox l ∧ frzBL ob cells = some (l, us) ∧ ∀ x ∈ us, x ∈ u) ∨
  (∃ te bb e s b n ln get, ob L = some (.vv te bb e s b n ln get) ∧ o' = .fvec 1 n (vvGet s ln get))

theorem FrzOk.mono {ob : Nat → Option AO} {u u' : Upd} {L : Nat} {o' : AO} (h : FrzOk ob u L o') (hu : ∀ x ∈ u, x ∈ u') : FrzOk ob u' L o' := by
  rcases h with h | ⟨ty, cells, l, us, h1, h2, h3, h4⟩ | h
  · exact .inl h
  · exact .inr (.inl ⟨ty, cells, l, us, h1, h2, h3, fun x hx => hu x (h4 x hx)⟩)
  · exact .inr (.inr h)

def UpdOk (ob : Nat → Option AO) (u : Upd) : Prop := ∀ x ∈ u, FrzOk ob u x.1 x.2

theorem UpdOk.append {ob : Nat → Option AO} {u u' : Upd} (h : UpdOk ob u) (h' : UpdOk ob u') : UpdOk ob (u ++ u') := by
  intro x hx
  rcases List.mem_append.1 hx with hx | hx
  · exact (h x hx).mono fun y hy => List.mem_append.2 (.inl hy)
  · exact (h' x hx).mono fun y hy => List.mem_append.2 (.inr hy)
theorem UpdOk.nil (ob : Nat → Option AO) : UpdOk ob [] := fun x hx => by simp at hx

section
variable {ob : Nat → Option AO}
theorem frz0_ok {c : Cl} {v : PV} {u : Upd} (h : frz0 ob c = some (v, u)) : UpdOk ob u := by
  unfold frz0 at h
  split at h
  · simp only [Option.some.injEq, Prod.mk.injEq] at h; rw [← h.2]; exact UpdOk.nil ob
  · split at h
    · rename_i e s b n get hL
      simp at h; rw [← h.2]
      intro x hx; simp at hx; subst hx
      exact .inl ⟨_, _, _, _, _, hL, rfl⟩
    · simp only [Option.some.injEq, Prod.mk.injEq] at h; rw [← h.2]; exact UpdOk.nil ob
    · rename_i te bb e s b n ln get hL
      simp only [Option.some.injEq, Prod.mk.injEq] at h; rw [← h.2]
      intro x hx; simp only [List.mem_singleton] at hx; subst hx
      exact .inr (.inr ⟨_, _, _, _, _, _, _, _, hL, rfl⟩)
    · cases h
  · cases h
theorem frzL0_ok : ∀ {cs : List Cl} {l : List PV} {u : Upd}, frzL0 ob cs = some (l, u) → UpdOk ob u
  | [], l, u, h => by simp [frzL0] at h; rw [h.2]; exact UpdOk.nil ob
  | c :: cs, l, u, h => by
    simp only [frzL0] at h
    split at h
    · rename_i v u1 l2 u2 h1 h2
      simp at h; rw [← h.2]; exact (frz0_ok h1).append (frzL0_ok h2)
    · cases h
theorem frz0_B {c : Cl} {x : PV × Upd} (h : frz0 ob c = some x) : frzB ob c = some x := by
  cases c <;> first | exact h | cases h
theorem frzL0_B : ∀ {cs : List Cl} {x : List PV × Upd}, frzL0 ob cs = some x → frzBL ob cs = some x
  | [], x, h => h
  | c :: cs, x, h => by
    simp only [frzL0] at h
    split at h
    · rename_i v u1 l2 u2 h1 h2
      simp only [frzBL, frz0_B h1, frzL0_B h2]; exact h
    · cases h
theorem frzB_ok {c : Cl} {v : PV} {u : Upd} (h : frzB ob c = some (v, u)) : UpdOk ob u := by
  unfold frzB at h
  split at h
  · split at h
    · rename_i L off ty cells hL
      split at h
      · rename_i l us hl
        simp at h; rw [← h.2]
        intro x hx
        rcases List.mem_append.1 hx with hx | hx
        · exact (frzL0_ok hl x hx).mono fun y hy => List.mem_append.2 (.inl hy)
        · simp at hx; subst hx
          exact .inr (.inl ⟨_, _, _, _, hL, rfl, frzL0_B hl, fun y hy => List.mem_append.2 (.inl hy)⟩)
      · cases h
    · simp only [Option.some.injEq, Prod.mk.injEq] at h; rw [← h.2]; exact UpdOk.nil ob
    · cases h
  · exact frz0_ok h
theorem frzBL_ok : ∀ {cs : List Cl} {l : List PV} {u : Upd}, frzBL ob cs = some (l, u) → UpdOk ob u
  | [], l, u, h => by simp [frzBL] at h; rw [h.2]; exact UpdOk.nil ob
  | c :: cs, l, u, h => by
    simp only [frzBL] at h
    split at h
    · rename_i v u1 l2 u2 h1 h2
      simp at h; rw [← h.2]; exact (frzB_ok h1).append (frzBL_ok h2)
    · cases h
theorem frzA_ok {c : Cl} {v : PV} {u : Upd} (h : frzA ob c = some (v, u)) : UpdOk ob u := by
  unfold frzA at h
  split at h
  · split at h
    · rename_i L off ty cells hL
      split at h
      · rename_i l us hl
        simp at h; rw [← h.2]
        intro x hx
        rcases List.mem_append.1 hx with hx | hx
        · exact (frzBL_ok hl x hx).mono fun y hy => List.mem_append.2 (.inl hy)
        · simp at hx; subst hx
          exact .inr (.inl ⟨_, _, _, _, hL, rfl, hl, fun y hy => List.mem_append.2 (.inl hy)⟩)
      · cases h
    · simp only [Option.some.injEq, Prod.mk.injEq] at h; rw [← h.2]; exact UpdOk.nil ob
    · cases h
  · exact frz0_ok h
theorem frzAL_ok : ∀ {cs : List Cl} {l : List PV} {u : Upd}, frzAL ob cs = some (l, u) → UpdOk ob u
  | [], l, u, h => by simp [frzAL] at h; rw [h.2]; exact UpdOk.nil ob
  | c :: cs, l, u, h => by
    simp only [frzAL] at h
    split at h
    · rename_i v u1 l2 u2 h1 h2
      simp at h; rw [← h.2]; exact (frzA_ok h1).append (frzAL_ok h2)
    · cases h
theorem frz_ok {c : Cl} {v : PV} {u : Upd} (h : frz ob c = some (v, u)) : UpdOk ob u := by
  unfold frz at h
  split at h
  · split at h
    · rename_i l us hl
      simp only [Option.some.injEq, Prod.mk.injEq] at h; rw [← h.2]; exact frzAL_ok hl
    · cases h
  · exact frzA_ok h
theorem frzL_ok : ∀ {cs : List Cl} {l : List PV} {u : Upd}, frzL ob cs = some (l, u) → UpdOk ob u
  | [], l, u, h => by simp [frzL] at h; rw [h.2]; exact UpdOk.nil ob
  | c :: cs, l, u, h => by
    simp only [frzL] at h
    split at h
    · rename_i v u1 l2 u2 h1 h2
      simp at h; rw [← h.2]; exact (frz_ok h1).append (frzL_ok h2)
    · cases h
theorem frzD_ok {d : DV} {v : PA} {u : Upd} (h : frzD ob d = some (v, u)) : UpdOk ob u := by
  unfold frzD at h
  split at h
  · split at h
    · rename_i v' u' h1; simp at h; rw [← h.2]; exact frz_ok h1
    · cases h
  · split at h
    · rename_i v' u' h1; simp at h; rw [← h.2]; exact frzL_ok h1
    · cases h
  · cases h
theorem frzDs_ok : ∀ {cs : List DV} {l : List PA} {u : Upd}, frzDs ob cs = some (l, u) → UpdOk ob u
  | [], l, u, h => by simp [frzDs] at h; rw [h.2]; exact UpdOk.nil ob
  | c :: cs, l, u, h => by
    simp only [frzDs] at h
    split at h
    · rename_i v u1 l2 u2 h1 h2
      simp at h; rw [← h.2]; exact (frzD_ok h1).append (frzDs_ok h2)
    · cases h
end

structure Frozen (g : Gh) (ob : Nat → Option AO) (u : Upd) (h' : Fz) : Prop where
  le : Fle g.h h'
  vec : ∀ L e s b n get, ob L = some (.vec e s b n get) → (L, AO.fvec s n get) ∈ u → Rep h' (.sl n s get) (g.sv L)
  fvec : ∀ L s n get, ob L = some (.fvec s n get) → Rep h' (.sl n s get) (g.sv L)
  vv : ∀ L te bb e s b n ln get, ob L = some (.vv te bb e s b n ln get) → (L, AO.fvec 1 n (vvGet s ln get)) ∈ u → Rep h' (.sl n 1 (vvGet s ln get)) (g.sv L)
  box : ∀ L ty cells l us, ob L = some (.box ty cells) → frzBL ob cells = some (l, us) → (∀ x ∈ us, x ∈ u) → (L, AO.fbox l) ∈ u → ∃ C, h' (g.bk L) = some (.fz (.cells C ty (0, 0))) ∧ RL (Rep h') l C.toList
  fbox : ∀ L l, ob L = some (.fbox l) → ∃ C ty fr, h' (g.bk L) = some (.fz (.cells C ty fr)) ∧ RL (Rep h') l C.toList
  new : ∀ b, g.h b = none → ∀ o, h' b = some o → ∃ L x o', (L, o') ∈ u ∧ ob L = some x ∧ obk g L x b

section
variable {g : Gh} {ob : Nat → Option AO} {u : Upd} {h' : Fz}
theorem Frozen.rep0 (F : Frozen g ob u h') {c : Cl} {v : PV} {us : Upd} {x : Value} (h : frz0 ob c = some (v, us)) (hu : ∀ y ∈ us, y ∈ u) (hc : clR g c x) : Rep h' v x := by
  unfold frz0 at h
  split at h
  · simp at h; rw [← h.1]; exact Rep.mono F.le hc
  · split at h
    · rename_i L _x e s b n get hL
      simp at h; rw [← h.1]
      rw [← h.2] at hu
      obtain ⟨rfl, _⟩ := hc
      exact F.vec L e _ b n get hL (hu _ (by simp))
    · rename_i L _x s n get hL
      simp at h; rw [← h.1]
      obtain ⟨rfl, _⟩ := hc
      exact F.fvec L _ n get hL
    · rename_i L _x te bb e s b n ln get hL
      simp only [Option.some.injEq, Prod.mk.injEq] at h; rw [← h.1]
      rw [← h.2] at hu
      obtain ⟨rfl, _⟩ := hc
      exact F.vv L te bb e s b n ln get hL (hu _ (by simp))
    · cases h
  · cases h
theorem Frozen.repL0 (F : Frozen g ob u h') : ∀ {cs : List Cl} {l : List PV} {us : Upd} {vs : List Value}, frzL0 ob cs = some (l, us) → (∀ y ∈ us, y ∈ u) → RL (clR g) cs vs → RL (Rep h') l vs
  | [], l, us, vs, h, hu, hc => by
    simp [frzL0] at h; rw [h.1]
    cases vs with
    | nil => trivial
    | cons => exact hc.elim
  | c :: cs, l, us, [], h, hu, hc => hc.elim
  | c :: cs, l, us, v :: vs, h, hu, hc => by
    simp only [frzL0] at h
    split at h
    · rename_i v1 u1 l2 u2 h1 h2
      simp at h; rw [← h.1]
      rw [← h.2] at hu
      exact ⟨F.rep0 h1 (fun y hy => hu y (List.mem_append.2 (.inl hy))) hc.1, F.repL0 h2 (fun y hy => hu y (List.mem_append.2 (.inr hy))) hc.2⟩
    · cases h
theorem rep_fp {h : Fz} {b : Nat} {C : Array Value} {ty : TypeId} {fr : Nat × Nat} {l : List PV} (hb : h b = some (.fz (.cells C ty fr))) (hr : RL (Rep h) l C.toList) (off : Nat) :
    Rep h (.fp l off) (.pointer (some ⟨b, off, none⟩)) := by
  have := Rep.fp (h := h) l off b 0 C ty fr (fun j => C.getD j undef) hb
    (fun j x hj => by
      obtain ⟨v, hv, _⟩ := hr.get j x hj
      have hv' : C[j]? = some v := by simpa using hv
      simp [Array.getD_eq_getD_getElem?, hv'])
    (fun j x hj => by
      obtain ⟨v, hv, hx⟩ := hr.get j x hj
      have hv' : C[j]? = some v := by simpa using hv
      simpa [Array.getD_eq_getD_getElem?, hv'] using hx)
  simpa using this
theorem Frozen.repA (F : Frozen g ob u h') {c : Cl} {v : PV} {us : Upd} {x : Value} (h : frzA ob c = some (v, us)) (hu : ∀ y ∈ us, y ∈ u) (hc : clR g c x) : Rep h' v x := by
  unfold frzA at h
  split at h
  · split at h
    · rename_i L off _x ty cells hL
      split at h
      · rename_i l us' hl
        simp at h; rw [← h.1]
        rw [← h.2] at hu
        obtain ⟨C, hC, hr⟩ := F.box L ty cells l us' hL hl (fun y hy => hu y (List.mem_append.2 (.inl hy))) (hu _ (by simp))
        simp only [clR] at hc
        rw [hc]
        exact rep_fp hC hr off
      · cases h
    · rename_i L off _x l hL
      simp at h; rw [← h.1]
      obtain ⟨C, ty, fr, hC, hr⟩ := F.fbox L l hL
      simp only [clR] at hc
      rw [hc]
      exact rep_fp hC hr off
    · cases h
  · exact F.rep0 h hu hc
theorem Frozen.repAL (F : Frozen g ob u h') : ∀ {cs : List Cl} {l : List PV} {us : Upd} {vs : List Value}, frzAL ob cs = some (l, us) → (∀ y ∈ us, y ∈ u) → RL (clR g) cs vs → RL (Rep h') l vs
  | [], l, us, vs, h, hu, hc => by
    simp [frzAL] at h; rw [h.1]
    cases vs with
    | nil => trivial
    | cons => exact hc.elim
  | c :: cs, l, us, [], h, hu, hc => hc.elim
  | c :: cs, l, us, v :: vs, h, hu, hc => by
    simp only [frzAL] at h
    split at h
    · rename_i v1 u1 l2 u2 h1 h2
      simp at h; rw [← h.1]
      rw [← h.2] at hu
      exact ⟨F.repA h1 (fun y hy => hu y (List.mem_append.2 (.inl hy))) hc.1, F.repAL h2 (fun y hy => hu y (List.mem_append.2 (.inr hy))) hc.2⟩
    · cases h
theorem Frozen.rep (F : Frozen g ob u h') {c : Cl} {v : PV} {us : Upd} {x : Value} (h : frz ob c = some (v, us)) (hu : ∀ y ∈ us, y ∈ u) (hc : clR g c x) : Rep h' v x := by
  unfold frz at h
  split at h
  · rename_i f caps
    split at h
    · rename_i l us' hl
      simp only [Option.some.injEq, Prod.mk.injEq] at h
      obtain ⟨rfl, rfl⟩ := h
      obtain ⟨cv, rfl, hr⟩ := hc
      have hr2 : RL (clR g) (caps.map capC) cv := RL.map_left.2 (hr.mono fun c y hy => by
        cases c with
        | v p => exact hy
        | b L => exact hy)
      have hl2 := F.repAL hl hu hr2
      exact .fn f [] l [] cv rfl hl2.length (fun i x y hx _ => by simp at hx) (fun i x y hx hy => by obtain ⟨v, hv, hr3⟩ := hl2.get i x hx; rw [hv] at hy; exact Option.some.inj hy ▸ hr3)
    · cases h
  · exact F.repA h hu hc
theorem Frozen.repL (F : Frozen g ob u h') : ∀ {cs : List Cl} {l : List PV} {us : Upd} {vs : List Value}, frzL ob cs = some (l, us) → (∀ y ∈ us, y ∈ u) → RL (clR g) cs vs → RL (Rep h') l vs
  | [], l, us, vs, h, hu, hc => by
    simp [frzL] at h; rw [h.1]
    cases vs with
    | nil => trivial
    | cons => exact hc.elim
  | c :: cs, l, us, [], h, hu, hc => hc.elim
  | c :: cs, l, us, v :: vs, h, hu, hc => by
    simp only [frzL] at h
    split at h
    · rename_i v1 u1 l2 u2 h1 h2
      simp at h; rw [← h.1]
      rw [← h.2] at hu
      exact ⟨F.rep h1 (fun y hy => hu y (List.mem_append.2 (.inl hy))) hc.1, F.repL h2 (fun y hy => hu y (List.mem_append.2 (.inr hy))) hc.2⟩
    · cases h
theorem Frozen.repD (F : Frozen g ob u h') {d : DV} {v : PA} {us : Upd} {x : Value} (h : frzD ob d = some (v, us)) (hu : ∀ y ∈ us, y ∈ u) (hc : dvR g d x) : paR h' v x := by
  unfold frzD at h
  split at h
  · split at h
    · rename_i v' u' h1
      simp at h; rw [← h.1]; rw [← h.2] at hu
      exact F.rep h1 hu hc
    · cases h
  · split at h
    · rename_i v' u' h1
      simp at h; rw [← h.1]; rw [← h.2] at hu
      obtain ⟨vs, rfl, hr⟩ := hc
      exact ⟨vs, rfl, F.repL h1 hu hr⟩
    · cases h
  · cases h
theorem Frozen.repDs (F : Frozen g ob u h') : ∀ {ds : List DV} {l : List PA} {us : Upd} {vs : List Value}, frzDs ob ds = some (l, us) → (∀ y ∈ us, y ∈ u) → RL (dvR g) ds vs → RL (paR h') l vs
  | [], l, us, vs, h, hu, hc => by
    simp [frzDs] at h; rw [h.1]
    cases vs with
    | nil => trivial
    | cons => exact hc.elim
  | c :: cs, l, us, [], h, hu, hc => hc.elim
  | c :: cs, l, us, v :: vs, h, hu, hc => by
    simp only [frzDs] at h
    split at h
    · rename_i v1 u1 l2 u2 h1 h2
      simp at h; rw [← h.1]
      rw [← h.2] at hu
      exact ⟨F.repD h1 (fun y hy => hu y (List.mem_append.2 (.inl hy))) hc.1, F.repDs h2 (fun y hy => hu y (List.mem_append.2 (.inr hy))) hc.2⟩
    · cases h
end

theorem lk_mem {α : Type} {l : List (Nat × α)} {n : Nat} {a : α} (h : lk l n = some a) : (n, a) ∈ l := by
  induction l with
  | nil => simp [lk] at h
  | cons x l ih =>
    obtain ⟨k, y⟩ := x
    rw [lk_cons] at h
    split at h
    · rename_i e; simp at h; subst h; subst e; exact List.mem_cons_self
    · exact List.mem_cons_of_mem _ (ih h)
theorem lk_none {α : Type} {l : List (Nat × α)} {n : Nat} (h : lk l n = none) : ∀ a, (n, a) ∉ l := by
  induction l with
  | nil => intro a h; simp at h
  | cons x l ih =>
    obtain ⟨k, y⟩ := x
    rw [lk_cons] at h
    split at h
    · cases h
    · rename_i e
      intro a ha
      rcases List.mem_cons.1 ha with h1 | h1
      · simp at h1; exact e h1.1.symm
      · exact ih h a h1

theorem ownsRow_rep {g : Gh} {w : World} {B e s n : Nat} {v : Value} {get : Nat → List PV} {h' : Fz} {xs : List Value} (hu : Ung get) (hs : 0 < s) (hx : w.ownsRow B e s v n xs)
    (hr : ∀ i, i < n → RL (Rep g.h) (get i) ((xs.drop (i * s)).take s)) (hle : Fle g.h h') (hb : ∀ k, v.ownBlock = some k → h' k = (w.heap[k]?).map .fz) : Rep h' (.sl n s get) v := by
  rcases hx.2 with ⟨h1, rfl⟩ | ⟨k, cap, cur, h1, hB, hg, hn, hcap, hsz, htk⟩
  · rw [h1]; exact .sl0 s get hu
  · rw [h1] at hb ⊢
    have hk := hb k rfl
    rw [hg] at hk
    simp only [Option.map_some] at hk
    have hlen : ∀ i, i < n → (get i).length = s := by
      intro i hi
      rw [(hr i hi).length]
      simp only [List.length_take, List.length_drop, hx.1]
      have : i * s + s ≤ n * s := by have := Nat.mul_le_mul_right s (Nat.succ_le_of_lt hi); rw [Nat.succ_mul] at this; exact this
      omega
    have hcell : ∀ i j x, i < n → (get i)[j]? = some x → ∃ v, cur[i * s + j]? = some v ∧ Rep g.h x v := by
      intro i j x hi hj
      obtain ⟨v, hv, hxv⟩ := (hr i hi).get j x hj
      refine ⟨v, ?_, hxv⟩
      have hjs : j < s := by
        have := (List.getElem?_eq_some_iff.1 hj).1
        rw [hlen i hi] at this; exact this
      rw [List.getElem?_take, if_pos hjs, List.getElem?_drop, ← htk, List.getElem?_take] at hv
      split at hv
      · simpa using hv
      · cases hv
    refine .sl n s get hu k 0 cap cur e (0, 0) (fun i j => cur.getD (i * s + j) undef) hk hn hlen ?_ ?_
    · intro i j x hi hj
      obtain ⟨v, hv, _⟩ := hcell i j x hi hj
      rw [Nat.zero_add, Array.getD_eq_getD_getElem?, hv]; rfl
    · intro i j x hi hj
      obtain ⟨v, hv, hxv⟩ := hcell i j x hi hj
      simp only [Array.getD_eq_getD_getElem?, hv, Option.getD_some]
      exact hxv.mono hle

theorem vec_rep {P : Program} {g : Gh} {w : World} {B L e s b n : Nat} {get : Nat → List PV} {h' : Fz} (hv : vecR P g w B L e s b n get) (hle : Fle g.h h')
    (hb : ∀ k, (g.sv L).ownBlock = some k → h' k = (w.heap[k]?).map .fz) : Rep h' (.sl n s get) (g.sv L) := by
  obtain ⟨hs, _, xs, hx, hr⟩ := hv
  exact ownsRow_rep hs.1 hs.2 hx hr hle hb

theorem vv_rep {P : Program} {g : Gh} {w : World} {B L te bb e s b n : Nat} {ln : Nat → Nat} {get : Nat → Nat → List PV} {h' : Fz} (hv : vvR P g w B L te bb e s b n ln get) (hle : Fle g.h h')
    (hb : ∀ k, obk g L (.vv te bb e s b n ln get) k → h' k = (w.heap[k]?).map .fz) : Rep h' (.sl n 1 (vvGet s ln get)) (g.sv L) := by
  obtain ⟨hs, _, _, h4, h5, _⟩ := hv
  refine ownsRow_rep (g := ⟨h', g.bk, g.sv, g.iv⟩) (fun i j => ⟨Ung.sl (fun k l => hs.1 i k j l) _ _ _, trivial⟩) (by decide) h4 ?_ (fun _ _ h => h) fun k hk => hb k (.inl hk)
  intro i hi
  have e1 : (((List.range n).map (g.iv L)).drop (i * 1)).take 1 = [g.iv L i] := by
    apply List.ext_getElem?
    intro j
    rw [List.getElem?_take]
    cases j with
    | zero => simp [hi]
    | succ j => simp
  rw [e1]
  obtain ⟨_, _, xs, hx, hr⟩ := h5 i hi
  exact ⟨ownsRow_rep (fun j k => hs.1 i j i k) hs.2 hx hr hle fun k hk => hb k (.inr ⟨i, hi, hk⟩), trivial⟩

open Classical in
theorem Sim.freeze {P : Program} {nt B : Nat} {w0 : World} {h0 : Fz} {g : Gh} {σ : St} {a : Act} {w : World} (S : Sim P nt B w0 h0 g σ a w) {u : Upd} (hu : UpdOk (lk σ.objs) u) :
    ∃ h', Sim P nt B w0 h0 ⟨h', g.bk, g.sv, g.iv⟩ { σ with objs := u ++ σ.objs } a w ∧ Frozen g (lk σ.objs) u h' := by
  let inU : Nat → Prop := fun b => ∃ L o o', (L, o') ∈ u ∧ lk σ.objs L = some o ∧ obk g L o b
  let h' : Fz := fun b => if inU b then (w.heap[b]?).map .fz else g.h b
  have hle : Fle g.h h' := by
    intro b o hb
    show (if inU b then (w.heap[b]?).map .fz else g.h b) = some o
    split
    · rename_i h
      obtain ⟨L, x, o', _, hL, hob⟩ := h
      rw [(S.own L x b hL hob).2] at hb; cases hb
    · exact hb
  have hin : ∀ b, inU b → h' b = (w.heap[b]?).map .fz := fun b hb => if_pos hb
  have hout : ∀ b, ¬ inU b → h' b = g.h b := fun b hb => if_neg hb
  have F1 : ∀ L e s b n get, lk σ.objs L = some (.vec e s b n get) → (L, AO.fvec s n get) ∈ u → Rep h' (.sl n s get) (g.sv L) := by
    intro L e s b n get hL hm
    exact vec_rep (S.obj L _ hL) hle fun k hk => hin k ⟨L, _, _, hm, hL, hk⟩
  have F3 : ∀ L te bb e s b n ln get, lk σ.objs L = some (.vv te bb e s b n ln get) → (L, AO.fvec 1 n (vvGet s ln get)) ∈ u → Rep h' (.sl n 1 (vvGet s ln get)) (g.sv L) := by
    intro L te bb e s b n ln get hL hm
    exact vv_rep (S.obj L _ hL) hle fun k hk => hin k ⟨L, _, _, hm, hL, hk⟩
  have F2 : ∀ L s n get, lk σ.objs L = some (.fvec s n get) → Rep h' (.sl n s get) (g.sv L) := fun L s n get hL => Rep.mono hle (S.obj L _ hL).1
  have F0 : Frozen g (lk σ.objs) u h' := by
    have Fpre : ∀ {cs : List Cl} {l : List PV} {us : Upd} {vs : List Value}, frzL0 (lk σ.objs) cs = some (l, us) → (∀ y ∈ us, y ∈ u) → RL (clR g) cs vs → RL (Rep h') l vs := by
      intro cs
      induction cs with
      | nil =>
        intro l us vs h _ hc
        simp [frzL0] at h; rw [h.1]
        cases vs with
        | nil => trivial
        | cons => exact hc.elim
      | cons c cs ih =>
        intro l us vs h hus hc
        cases vs with
        | nil => exact hc.elim
        | cons v vs =>
          simp only [frzL0] at h
          split at h
          · rename_i v1 u1 l2 u2 h1 h2
            simp at h; rw [← h.1]; rw [← h.2] at hus
            refine ⟨?_, ih h2 (fun y hy => hus y (List.mem_append.2 (.inr hy))) hc.2⟩
            have hu1 : ∀ y ∈ u1, y ∈ u := fun y hy => hus y (List.mem_append.2 (.inl hy))
            have hc1 := hc.1
            unfold frz0 at h1
            split at h1
            · simp at h1; rw [← h1.1]; exact Rep.mono hle hc1
            · split at h1
              · rename_i L _x e s b n get hL
                simp at h1; rw [← h1.1]; rw [← h1.2] at hu1
                obtain ⟨rfl, _⟩ := hc1
                exact F1 L e _ b n get hL (hu1 _ (by simp))
              · rename_i L _x s n get hL
                simp at h1; rw [← h1.1]
                obtain ⟨rfl, _⟩ := hc1
                exact F2 L _ n get hL
              · rename_i L _x te bb e s b n ln get hL
                simp only [Option.some.injEq, Prod.mk.injEq] at h1; rw [← h1.1]; rw [← h1.2] at hu1
                obtain ⟨rfl, _⟩ := hc1
                exact F3 L te bb e s b n ln get hL (hu1 _ (by simp))
              · cases h1
            · cases h1
          · cases h
    have Fbox : ∀ L l, lk σ.objs L = some (.fbox l) → ∃ C ty fr, h' (g.bk L) = some (.fz (.cells C ty fr)) ∧ RL (Rep h') l C.toList := by
      intro L l hL
      obtain ⟨C, ty, fr, hC, hr⟩ := S.obj L _ hL
      exact ⟨C, ty, fr, hle _ _ hC, hr.mono fun _ _ => Rep.mono hle⟩
    have FpreB : ∀ {cs : List Cl} {l : List PV} {us : Upd} {vs : List Value}, frzBL (lk σ.objs) cs = some (l, us) → (∀ y ∈ us, y ∈ u) → RL (clR g) cs vs → RL (Rep h') l vs := by
      intro cs
      induction cs with
      | nil =>
        intro l us vs h _ hc
        simp [frzBL] at h; rw [h.1]
        cases vs with
        | nil => trivial
        | cons => exact hc.elim
      | cons c cs ih =>
        intro l us vs h hus hc
        cases vs with
        | nil => exact hc.elim
        | cons v vs =>
          simp only [frzBL] at h
          split at h
          · rename_i v1 u1 l2 u2 h1 h2
            simp at h; rw [← h.1]; rw [← h.2] at hus
            refine ⟨?_, ih h2 (fun y hy => hus y (List.mem_append.2 (.inr hy))) hc.2⟩
            have hu1 : ∀ y ∈ u1, y ∈ u := fun y hy => hus y (List.mem_append.2 (.inl hy))
            have hc1 := hc.1
            have low : frz0 (lk σ.objs) c = some (v1, u1) → Rep h' v1 v := fun h0 => (Fpre (cs := [c]) (l := [v1]) (us := u1) (vs := [v]) (by simp [frzL0, h0]) hu1 ⟨hc1, trivial⟩).1
            unfold frzB at h1
            split at h1
            · split at h1
              · rename_i L off _x ty cells hL
                split at h1
                · rename_i l' us' hl
                  simp at h1; rw [← h1.1]; rw [← h1.2] at hu1
                  obtain ⟨C, hC, hr⟩ := S.obj L _ hL
                  have hm : (L, AO.fbox l') ∈ u := hu1 _ (by simp)
                  have hk : h' (g.bk L) = some (.fz (.cells C ty (0, 0))) := by
                    rw [hin (g.bk L) ⟨L, _, _, hm, hL, rfl⟩, hC]; rfl
                  simp only [clR] at hc1
                  rw [hc1]
                  exact rep_fp hk (Fpre hl (fun y hy => hu1 y (List.mem_append.2 (.inl hy))) hr) off
                · cases h1
              · rename_i L off _x l' hL
                simp at h1; rw [← h1.1]
                obtain ⟨C, ty, fr, hC, hr⟩ := Fbox L l' hL
                simp only [clR] at hc1
                rw [hc1]
                exact rep_fp hC hr off
              · cases h1
            · exact low h1
          · cases h
    refine ⟨hle, F1, F2, F3, ?_, ?_, fun b hb o ho => ?_⟩
    rotate_left 2
    · by_cases h : inU b
      · obtain ⟨L, x, o', h1, h2, h3⟩ := h
        exact ⟨L, x, o', h1, h2, h3⟩
      · rw [hout b h, hb] at ho; cases ho
    · intro L ty cells l us hL hl hus hm
      obtain ⟨C, hC, hr⟩ := S.obj L _ hL
      refine ⟨C, ?_, FpreB hl hus hr⟩
      rw [hin (g.bk L) ⟨L, _, _, hm, hL, rfl⟩, hC]; rfl
    · exact Fbox
  refine ⟨h', ?_, F0⟩
  have hlk : ∀ L o, lk (u ++ σ.objs) L = some o → ((L, o) ∈ u) ∨ ((∀ o', (L, o') ∉ u) ∧ lk σ.objs L = some o) := by
    intro L o h
    rw [lk_append] at h
    cases hL : lk u L with
    | some x => simp only [hL] at h; simp at h; subst h; exact .inl (lk_mem hL)
    | none => simp only [hL] at h; exact .inr ⟨lk_none hL, h⟩
  have hfr : ∀ L o b, (L, o) ∈ u → ¬ obk (⟨h', g.bk, g.sv, g.iv⟩ : Gh) L o b := by
    intro L o b h
    rcases hu _ h with ⟨e, s, b, n, get, _, h2⟩ | ⟨ty, cells, l, us, _, h2, _⟩ | ⟨te, bb, e, s, b, n, ln, get, _, h2⟩ <;> (simp only at h2; rw [h2]; exact id)
  have hobkb : ∀ L o, obk (⟨h', g.bk, g.sv, g.iv⟩ : Gh) L o = obk g L o := fun L o => obk_same (g := g) (g' := ⟨h', g.bk, g.sv, g.iv⟩) ⟨rfl, rfl, rfl⟩
  have hdom : ∀ L o, lk σ.objs L = some o → ∃ o', lk (u ++ σ.objs) L = some o' := by
    intro L o h
    rw [lk_append]
    cases lk u L with
    | some x => exact ⟨x, rfl⟩
    | none => exact ⟨o, h⟩
  refine S.change (g' := ⟨h', g.bk, g.sv, g.iv⟩) (fun _ _ _ => ⟨rfl, rfl, rfl⟩) hle ?_ ?_ (.refl _ B w) ?_ ?_ ?_ hdom ?_
  · intro b o hb
    have hb' : h' b = some o := hb
    by_cases h : inU b
    · rw [hin b h] at hb'
      obtain ⟨x, hx, rfl⟩ := Option.map_eq_some_iff.1 hb'
      exact ⟨x, hx, rfl⟩
    · rw [hout b h] at hb'; exact S.hw b o hb'
  · intro b o hb
    by_cases h : inU b
    · obtain ⟨L, x, o', hm, hL, hob⟩ := h
      exact .inr (S.own L x b hL hob).1
    · have hb' : h' b = some o := hb
      rw [hout b h] at hb'; exact .inl hb'
  · intro L o ho
    rcases hlk L o ho with hm | ⟨hn, ho⟩
    · rcases hu _ hm with ⟨e, s, b, n, get, h1, h2⟩ | ⟨ty, cells, l, us, h1, h2, h3, h4⟩ | ⟨te, bb, e, s, b, n, ln, get, h1, h2⟩
      · simp only at h1 h2; rw [h2]; rw [h2] at hm
        refine ⟨F0.vec L e s b n get h1 hm, ?_⟩
        obtain ⟨_, _, xs, hx, _⟩ := S.obj L _ h1
        intro x m c hv
        show x.off = 0
        have hv' : g.sv L = .slice (some x) m c := hv
        rcases hx.2 with ⟨h5, _⟩ | ⟨k, cap, cur, h5, _⟩
        · rw [h5] at hv'; simp at hv'
        · rw [h5] at hv'; simp at hv'; rw [← hv'.1]
      · simp only at h1 h2; rw [h2]; rw [h2] at hm
        obtain ⟨C, hC, hr⟩ := F0.box L ty cells l us h1 h3 h4 hm
        exact ⟨C, ty, (0, 0), hC, hr⟩
      · simp only at h1 h2; rw [h2]; rw [h2] at hm
        refine ⟨F0.vv L te bb e s b n ln get h1 hm, ?_⟩
        obtain ⟨_, _, _, hx, _⟩ := S.obj L _ h1
        intro x m c hv
        show x.off = 0
        have hv' : g.sv L = .slice (some x) m c := hv
        rcases hx.2 with ⟨h5, _⟩ | ⟨k, cap, cur, h5, _⟩
        · rw [h5] at hv'; simp at hv'
        · rw [h5] at hv'; simp at hv'; rw [← hv'.1]
    · exact aoR_same (S.obj L o ho) ⟨rfl, rfl, rfl⟩ (fun _ _ => ⟨rfl, rfl, rfl⟩) hle fun _ _ => rfl
  · intro L o b ho hob
    rcases hlk L o ho with hm | ⟨hn, ho⟩
    · exact (hfr L o _ hm hob).elim
    · rw [hobkb] at hob
      obtain ⟨h1, h2⟩ := S.own L o b ho hob
      refine ⟨h1, ?_⟩
      show h' b = none
      rw [hout b ?_]; exact h2
      rintro ⟨M, x, o', hm, hM, hob'⟩
      have := S.sep L o b M x ho hM hob hob'
      subst this
      exact hn o' hm
  · intro L o b L' o' ho ho' hob hob'
    rcases hlk L o ho with hm | ⟨_, ho2⟩
    · exact (hfr L o _ hm hob).elim
    rcases hlk L' o' ho' with hm | ⟨_, ho2'⟩
    · exact (hfr L' o' _ hm hob').elim
    rw [hobkb] at hob hob'
    exact S.sep L o b L' o' ho2 ho2' hob hob'
  · intro L o ho M hM
    rcases hlk L o ho with hm | ⟨_, ho2⟩
    · rcases hu _ hm with ⟨e, s, b, n, get, _, h2⟩ | ⟨ty, cells, l, us, _, h2, _⟩ | ⟨te, bb, e, s, b, n, ln, get, _, h2⟩ <;> (simp only at h2; rw [h2] at hM; simp [aoLab] at hM)
    · obtain ⟨x, hx⟩ := S.clO L o ho2 M hM; exact hdom M x hx
end Go.Pm
namespace Go.Pm
variable [DrawZ]
open Go.RowKit (Below)

def OpAct.safe : OpAct → Prop
  | .no => False
  | .val _ _ _ _ => True
  | .chk _ s _ _ _ => s.p

def stepTo (A : OpAct) (i : Nat) (dst : Option Nat) (σ σ' : St) : Prop :=
  match A with
  | .no => False
  | .val fp d u kl => σ' = σ.upd i dst fp d u kl
  | .chk fp _ d u kl => σ' = σ.upd i dst fp d u kl

theorem vcAct_iff {A : OpAct} {lg : List (Nat × Bool) → List Nat → List (Nat × Nat × Nat)} {i : Nat} {dst : Option Nat} {K : St → Prop} {σ : St} :
    vcAct A lg i dst K σ ↔ A.safe ∧ ∀ σ', stepTo A i dst σ σ' → K (σ'.relog (match A with | .val fp _ _ kl => lg fp kl | .chk fp _ _ _ kl => lg fp kl | .no => [])) := by
  cases A with
  | no => simp [vcAct, OpAct.safe]
  | val fp d u kl => simp [vcAct, OpAct.safe, stepTo]
  | chk fp s d u kl => simp [vcAct, OpAct.safe, stepTo]

def FR (r : Option Nat) : Fence := { fn := fun _ => True, depth := none, alive := false, round := r }

theorem FR_calls {r : Option Nat} {n : Nat} {P : Program} {f : FuncId} {args : Array Value} {w : World} {R : Ending → World → Prop} (h : Calls P f args w R) : CallsIn (FR r) n P f args w R :=
  (callsIn_wide (n := n)).2 h

section
variable {P : Program} {r : Option Nat} {n : Nat} {o : Oper} {a : Act} {w : World} {R : Act → World → Prop} {Q : Exit → Act → World → Prop}
theorem put_defers (a : Act) (dst : Option Nat) (v : Value) : (a.put dst v).defers = a.defers := by cases dst <;> rfl
theorem op_val (hnd : ∀ c, o.op ≠ .defer c) {v : Value} {w' : World} (h : (execOp a.eval o).run P w = .ok (.value v) w') (hR : R (a.put o.dst v) w') : o.wpIn (FR r) n P a w (fun a' w' => a'.defers = a.defers ∧ R a' w') Q := by
  refine ⟨fun _ _ => trivial, ?_⟩
  rw [Oper.semAt_eq _ _ _ hnd, h, Oper.uponIn_value]; exact ⟨put_defers _ _ _, hR⟩
theorem op_skip (hnd : ∀ c, o.op ≠ .defer c) {w' : World} (h : (execOp a.eval o).run P w = .ok .skip w') (hR : R (a.put o.dst undef) w') : o.wpIn (FR r) n P a w (fun a' w' => a'.defers = a.defers ∧ R a' w') Q := by
  refine ⟨fun _ _ => trivial, ?_⟩
  rw [Oper.semAt_eq _ _ _ hnd, h, Oper.uponIn_skip]; exact ⟨put_defers _ _ _, hR⟩
theorem op_enter (hnd : ∀ c, o.op ≠ .defer c) {f : FuncId} {args : Array Value} {w' : World} (h : (execOp a.eval o).run P w = .ok (.enter f args) w')
    (hR : Calls P f args w' fun e w'' => ∃ v, e = .returned v ∧ R (a.put o.dst v) w'') : o.wpIn (FR r) n P a w (fun a' w' => a'.defers = a.defers ∧ R a' w') Q := by
  refine ⟨fun _ _ => trivial, ?_⟩
  rw [Oper.semAt_eq _ _ _ hnd, h, Oper.uponIn_enter]
  refine ⟨fun h => by simp [FR] at h, (FR_calls hR).mono ?_⟩
  rintro e w'' ⟨v, rfl, hv⟩
  exact ⟨put_defers _ _ _, hv⟩
end

section
variable {P : Program} {nt B : Nat} {w0 : World} {h0 : Fz} {g : Gh} {σ : St} {a : Act} {w : World}

theorem ofVal_rep {v : Value} : dvR g (ofVal v) v := by
  unfold ofVal
  split
  · split
    · rename_i l hl; exact ⟨_, rfl, ofVals_rl _ _ hl⟩
    · trivial
  · split
    · rename_i x hx; exact ofVal1_rep hx
    · trivial

theorem Sim.ev (S : Sim P nt B w0 h0 g σ a w) (x : Operand) : dvR g (evO σ.env x) (a.eval x) := by
  cases x with
  | tmp t =>
    simp only [evO]
    split
    · rename_i d hd; exact S.env t d hd
    · trivial
  | const v => exact ofVal_rep
  | global k => trivial
  | func f => exact Rep.fn f [] [] [] [] rfl rfl (fun j x v h => by simp at h) (fun j x v h => by simp at h)

theorem ofVals_lab : ∀ {l : List Value} {cs : List Cl}, ofVals l = some cs → cs.flatMap clLab = []
  | [], cs, h => by simp [ofVals] at h; rw [h]; rfl
  | v :: r, cs, h => by
    simp only [ofVals] at h
    split at h
    · rename_i x l hx hl
      simp only [Option.some.injEq] at h; rw [← h]
      simp [clLab, ofVals_lab hl]
    · cases h

theorem ofVal_lab {v : Value} : dvLab (ofVal v) = [] := by
  unfold ofVal
  split
  · split
    · rename_i l hl; exact ofVals_lab hl
    · rfl
  · split
    · rfl
    · rfl

theorem Sim.evLab (S : Sim P nt B w0 h0 g σ a w) (x : Operand) : ∀ L ∈ dvLab (evO σ.env x), ∃ o, lk σ.objs L = some o := by
  cases x with
  | tmp t =>
    simp only [evO]
    split
    · rename_i d hd; exact S.clE t d hd
    · intro L hL; simp [dvLab, d1Lab, clLab] at hL
  | const v => intro L hL; rw [show evO σ.env (.const v) = ofVal v from rfl, ofVal_lab] at hL; simp at hL
  | global k => intro L hL; simp [evO, DV.junk, dvLab, d1Lab, clLab] at hL
  | func f => intro L hL; simp [evO, dvLab, d1Lab, clLab] at hL

theorem fin_val {r : Option Nat} {n i : Nat} {o : Oper} {Q : Exit → Act → World → Prop} (S : Sim P nt B w0 h0 g σ a w) (hd : okDst nt o.dst = true) (hnd : ∀ c, o.op ≠ .defer c)
    {d : DV} {v : Value} {fp : List (Nat × Bool)} {A : OpAct} (hA : stepTo A i o.dst σ (σ.upd i o.dst fp d [] []))
    (h : (execOp a.eval o).run P w = .ok (.value v) w) (hv : dvR g d v) (hl : ∀ L ∈ dvLab d, ∃ o, lk σ.objs L = some o) :
    o.wpIn (FR r) n P a w (fun a' w' => a'.defers = a.defers ∧ ∃ g' σ', stepTo A i o.dst σ σ' ∧ Sim P nt B w0 h0 g' σ' a' w') Q :=
  op_val hnd h ⟨g, _, hA, by rw [upd_nil]; exact S.put hd hv hl _⟩

theorem lab_p (v : PV) : ∀ L ∈ dvLab (.p v), ∃ o, lk σ.objs L = some o := fun L hL => by simp [dvLab, d1Lab, clLab] at hL

theorem rdCl_d1R {t : TypeId} {ag : Bool} {m b off : Nat} {C : Array Value} {ty : TypeId} {fr : Nat × Nat} {cells : List Cl} {d : D1} (hg : aggT P t = some ag) (hs : szT P t = some m)
    (hb : w.heap[b]? = some (.cells C ty fr)) (o : Nat) (hc : ∀ (j : Nat) (x : Cl), cells[j]? = some x → ∃ v, C[o + j]? = some v ∧ clR g x v) (hr : rdCl ag m cells off = some d) :
    ∃ v, (loadVar t ⟨b, o + off, none⟩).run P w = .ok v w ∧ d1R g d v := by
  cases ag with
  | true =>
    simp only [rdCl] at hr
    split at hr
    · rename_i hlen
      have hlen := Nat.eq_of_beq_eq_true hlen
      simp only [Option.some.injEq] at hr; subst hr
      let l := (cells.drop off).take m
      have hll : l.length = m := hlen
      have key : ∀ (j : Nat) (x : Cl), l[j]? = some x → ∃ v, C[o + off + j]? = some v ∧ clR g x v := by
        intro j x hj
        have hj' : cells[off + j]? = some x := by
          have hjm : j < m := by have := (List.getElem?_eq_some_iff.1 hj).1; omega
          simp only [l, List.getElem?_take, if_pos hjm, List.getElem?_drop] at hj; exact hj
        obtain ⟨v, hv, hx⟩ := hc (off + j) x hj'
        exact ⟨v, by rw [Nat.add_assoc]; exact hv, hx⟩
      let vs := (List.range m).map fun j => C.getD (o + off + j) undef
      have hvl : vs.length = m := by simp [vs]
      have hvj : ∀ j, j < m → vs[j]? = some (C.getD (o + off + j) undef) := fun j hj => by simp [vs, hj]
      refine ⟨.agg vs.toArray, run_loadVar_agg hg hs hb vs hvl ?_, vs, rfl, ?_⟩
      · intro j v hj
        have hjm : j < m := by have := (List.getElem?_eq_some_iff.1 hj).1; omega
        rw [hvj j hjm] at hj
        simp only [Option.some.injEq] at hj
        obtain ⟨u, hu, _⟩ := key j (l[j]'(by omega)) (by simp [hll, hjm])
        rw [← hj, hu, Array.getD_eq_getD_getElem?, hu]; rfl
      · refine RL.of_get (by rw [hvl]; exact hll) ?_
        intro j x v hx hv
        obtain ⟨u, hu, hxu⟩ := key j x hx
        have hjm : j < m := by have := (List.getElem?_eq_some_iff.1 hv).1; omega
        rw [hvj j hjm, Array.getD_eq_getD_getElem?, hu] at hv
        simp at hv; rw [← hv]; exact hxu
    · cases hr
  | false =>
    simp only [rdCl] at hr
    split at hr
    · rename_i x hx
      simp only [Option.some.injEq] at hr; subst hr
      obtain ⟨v, hv, hxv⟩ := hc off x hx
      exact ⟨v, run_loadVar_one hg hb v hv, hxv⟩
    · cases hr

theorem rdCl_lab {ag : Bool} {m off : Nat} {cells : List Cl} {d : D1} (hr : rdCl ag m cells off = some d) : ∀ L ∈ d1Lab d, L ∈ cells.flatMap clLab := by
  cases ag with
  | true =>
    simp only [rdCl] at hr
    split at hr
    · simp only [Option.some.injEq] at hr; subst hr
      intro L hL
      simp only [d1Lab, List.mem_flatMap] at hL ⊢
      obtain ⟨c, hc, hL⟩ := hL
      exact ⟨c, List.mem_of_mem_drop (List.mem_of_mem_take hc), hL⟩
    · cases hr
  | false =>
    simp only [rdCl] at hr
    split at hr
    · rename_i x hx
      simp only [Option.some.injEq] at hr; subst hr
      intro L hL
      simp only [d1Lab] at hL
      exact List.mem_flatMap.2 ⟨x, List.mem_of_getElem? hx, hL⟩
    · cases hr

theorem pcells_lab (cells : List PV) : (cells.map Cl.p).flatMap clLab = [] := by
  induction cells with
  | nil => rfl
  | cons c r ih => simp [clLab, ih]

theorem fp_inv {h : Fz} {cells : List PV} {off : Nat} {v : Value} (r : Rep h (.fp cells off) v) : ∃ b o C ty fr, v = .pointer (some ⟨b, o + off, none⟩) ∧ h b = some (.fz (.cells C ty fr)) ∧
    ∀ (j : Nat) (x : PV), cells[j]? = some x → ∃ v, C[o + j]? = some v ∧ Rep h x v := by
  cases r with
  | fp _ _ b o C ty fr vs hb hc hr => exact ⟨b, o, C, ty, fr, rfl, hb, fun j x hj => ⟨vs j, hc j x hj, hr j x hj⟩⟩

theorem vec_elem {B L e s b len : Nat} {get : Nat → List PV} (hv : vecR P g w B L e s b len get) {i : Nat} (hi : i < len) :
    ∃ k C, (g.sv L).ownBlock = some k ∧ (∃ cap, g.sv L = .slice (some ⟨k, 0, none⟩) len cap) ∧ w.heap[k]? = some (.cells C e (0, 0)) ∧ i * s + s ≤ C.size ∧ (get i).length = s ∧
      ∀ (j : Nat) (x : PV), (get i)[j]? = some x → ∃ v, C[i * s + j]? = some v ∧ Rep g.h x v := by
  obtain ⟨hs, _, xs, hx, hr⟩ := hv
  rcases hx.2 with ⟨_, rfl⟩ | ⟨k, cap, cur, h1, hB, hg, hn, hcap, hsz, htk⟩
  · exact absurd hi (by omega)
  · have hle : i * s + s ≤ len * s := by have := Nat.mul_le_mul_right s (Nat.succ_le_of_lt hi); rw [Nat.succ_mul] at this; exact this
    have hle2 : len * s ≤ cap * s := Nat.mul_le_mul_right s hn
    have hlen : (get i).length = s := by
      rw [(hr i hi).length]
      simp only [List.length_take, List.length_drop, hx.1]
      omega
    refine ⟨k, cur, by rw [h1]; rfl, ⟨cap, h1⟩, hg, by omega, hlen, ?_⟩
    intro j x hj
    obtain ⟨v, hv, hxv⟩ := (hr i hi).get j x hj
    refine ⟨v, ?_, hxv⟩
    have hjs : j < s := by have := (List.getElem?_eq_some_iff.1 hj).1; rw [hlen] at this; exact this
    rw [List.getElem?_take, if_pos hjs, List.getElem?_drop, ← htk, List.getElem?_take] at hv
    split at hv
    · simpa using hv
    · cases hv

theorem vv_outer {B L te bb e s b n : Nat} {ln : Nat → Nat} {get : Nat → Nat → List PV} (hv : vvR P g w B L te bb e s b n ln get) {i : Nat} (hi : i < n) :
    ∃ k C cap, g.sv L = .slice (some ⟨k, 0, none⟩) n cap ∧ w.heap[k]? = some (.cells C te (0, 0)) ∧ C[i]? = some (g.iv L i) ∧ (g.iv L i).oneCell' = true := by
  obtain ⟨_, _, _, h4, h5, _⟩ := hv
  rcases h4.2 with ⟨h1, h2⟩ | ⟨k, cap, cur, h1, hB, hg, hn, hcap, hsz, htk⟩
  · omega
  · refine ⟨k, cur, cap, h1, hg, ?_, (h5 i hi).1⟩
    have : (cur.toList.take (n * 1))[i]? = ((List.range n).map (g.iv L))[i]? := by rw [htk]
    rw [List.getElem?_take, if_pos (by omega)] at this
    simpa [hi] using this
theorem vt_outer {B L te bb e s b n o : Nat} {ln : Nat → Nat} {get : Nat → Nat → List PV} (hv : vtR P g w B L te bb e s b n ln get o) {i : Nat} (hi : i < n) :
    ∃ k C cap, g.sv L = .slice (some ⟨k, 0, none⟩) n cap ∧ w.heap[k]? = some (.cells C te (0, 0)) ∧ C[i]? = some (g.iv L i) := by
  obtain ⟨_, _, _, h4, _⟩ := hv
  rcases h4.2 with ⟨h1, h2⟩ | ⟨k, cap, cur, h1, hB, hg, hn, hcap, hsz, htk⟩
  · omega
  · refine ⟨k, cur, cap, h1, hg, ?_⟩
    have : (cur.toList.take (n * 1))[i]? = ((List.range n).map (g.iv L))[i]? := by rw [htk]
    rw [List.getElem?_take, if_pos (by omega)] at this
    simpa [hi] using this
theorem sl_elem {h : Fz} {len s : Nat} {get : Nat → List PV} {v : Value} (r : Rep h (.sl len s get) v) {i : Nat} (hi : i < len) :
    ∃ b o cap C ty fr, v = .slice (some ⟨b, o, none⟩) len cap ∧ h b = some (.fz (.cells C ty fr)) ∧ (get i).length = s ∧
      ∀ (j : Nat) (x : PV), (get i)[j]? = some x → ∃ v, C[o + i * s + j]? = some v ∧ Rep h x v := by
  cases r with
  | sl0 => exact absurd hi (by omega)
  | sle => exact absurd hi (by omega)
  | sl _ _ _ _ b o cap C ty fr vs hb hcap hlen hc hr => exact ⟨b, o, cap, C, ty, fr, rfl, hb, hlen i hi, fun j x hj => ⟨vs i j, hc i j x hi hj, hr i j x hi hj⟩⟩

theorem rep_fp' {h : Fz} {b o : Nat} {C : Array Value} {ty : TypeId} {fr : Nat × Nat} {l : List PV} (hb : h b = some (.fz (.cells C ty fr)))
    (hr : ∀ (j : Nat) (x : PV), l[j]? = some x → ∃ v, C[o + j]? = some v ∧ Rep h x v) (off : Nat) : Rep h (.fp l off) (.pointer (some ⟨b, o + off, none⟩)) :=
  Rep.fp l off b o C ty fr (fun j => C.getD (o + j) undef) hb
    (fun j x hj => by obtain ⟨v, hv, _⟩ := hr j x hj; rw [Array.getD_eq_getD_getElem?, hv]; rfl)
    (fun j x hj => by obtain ⟨v, hv, hx⟩ := hr j x hj; simpa [Array.getD_eq_getD_getElem?, hv] using hx)
end
end Go.Pm
namespace Go.Pm
variable [DrawZ]
open Go.RowKit (Below)

section
variable {P : Program} {Γ : Ctrs} {nt B : Nat} {w0 : World} {h0 : Fz} {g : Gh} {σ : St} {a : Act} {w : World} {r : Option Nat} {n i : Nat} {Q : Exit → Act → World → Prop}

def Goal (P : Program) (nt B : Nat) (w0 : World) (h0 : Fz) (r : Option Nat) (n i : Nat) (o : Oper) (A : OpAct) (σ : St) (a : Act) (w : World) (Q : Exit → Act → World → Prop) : Prop :=
  o.wpIn (FR r) n P a w (fun a' w' => a'.defers = a.defers ∧ ∃ g' σ', stepTo A i o.dst σ σ' ∧ Sim P nt B w0 h0 g' σ' a' w') Q

theorem cl_inv {x : Operand} {c : Cl} (S : Sim P nt B w0 h0 g σ a w) (h : evO σ.env x = .one (.c c)) : clR g c (a.eval x) ∧ ∀ L ∈ clLab c, ∃ o, lk σ.objs L = some o := by
  have h1 := S.ev x
  have h2 := S.evLab x
  rw [h] at h1 h2
  exact ⟨h1, h2⟩

theorem pv_inv {x : Operand} {v : PV} (S : Sim P nt B w0 h0 g σ a w) (h : evO σ.env x = .one (.c (.p v))) : Rep g.h v (a.eval x) := (cl_inv S h).1

theorem int_inv {x : Operand} {k : IntKind} {m : Int} (S : Sim P nt B w0 h0 g σ a w) (h : evO σ.env x = .one (.c (.p (.int k m)))) : a.eval x = .int k m := by
  have := pv_inv S h
  generalize a.eval x = v at this
  cases this; rfl

theorem bool_inv {x : Operand} {m : Bool} (S : Sim P nt B w0 h0 g σ a w) (h : evO σ.env x = .one (.c (.p (.bool m)))) : a.eval x = .bool m := by
  have := pv_inv S h
  generalize a.eval x = v at this
  cases this; rfl

theorem act_move {o : Oper} {x : Operand} (S : Sim P nt B w0 h0 g σ a w) (hd : okDst nt o.dst = true) (hop : o.op = .move x ∨ o.op = .assign x) :
    Goal P nt B w0 h0 r n i o (.val [] (evO σ.env x) [] []) σ a w Q := by
  refine fin_val S hd (by rcases hop with h | h <;> simp [h]) (d := evO σ.env x) (v := a.eval x) (fp := []) rfl ?_ (S.ev x) (S.evLab x)
  rcases hop with h | h <;> simp [execOp, h]

theorem pickD_sound {b : Bool} {x y : DV} {v u : Value} (h1 : dvR g x v) (h2 : dvR g y u) : dvR g (pickD b x y) (if b = true then v else u) := by
  unfold pickD
  split
  · rename_i p q
    have e1 : v = .bool p := by cases h1; rfl
    have e2 : u = .bool q := by cases h2; rfl
    subst e1 e2
    cases b <;> exact Rep.bool _
  · cases b
    · simpa using h2
    · simpa using h1

theorem pickD_lab {b : Bool} {x y : DV} : ∀ L ∈ dvLab (pickD b x y), L ∈ dvLab x ∨ L ∈ dvLab y := by
  unfold pickD
  split
  · intro L hL; simp [dvLab, d1Lab, clLab] at hL
  · intro L hL
    cases b
    · exact .inr hL
    · exact .inl hL

theorem act_pick {o : Oper} {c x y : Operand} (S : Sim P nt B w0 h0 g σ a w) (hd : okDst nt o.dst = true) (hop : o.op = .pick c x y) {t : Bool} (hc : evO σ.env c = .one (.c (.p (.bool t)))) :
    Goal P nt B w0 h0 r n i o (.val [] (pickD t (evO σ.env x) (evO σ.env y)) [] []) σ a w Q := by
  have hb := bool_inv S hc
  refine fin_val S hd (by simp [hop]) (d := pickD t (evO σ.env x) (evO σ.env y)) (v := if t = true then a.eval x else a.eval y) (fp := []) rfl ?_ (pickD_sound (S.ev x) (S.ev y)) ?_
  · simp [execOp, hop, asBool, hb]
  · intro L hL
    rcases pickD_lab L hL with h | h
    · exact S.evLab x L h
    · exact S.evLab y L h

theorem run_newVar (e : TypeId) (v : Value) : (newVar e v).run P w = .ok ⟨w.heap.size, 0, none⟩ (w.alloc (.cells v.cells e)) := by
  simp [newVar, newRow]

theorem fin_box {o : Oper} {A : OpAct} {e : Nat} {cs : List Cl} {v : Value} (S : Sim P nt B w0 h0 g σ a w) (hd : okDst nt o.dst = true) (hnd : ∀ c, o.op ≠ .defer c)
    (hA : putB (lk σ.objs) o.dst (.box e cs) (fun t => .cl (.ptr t 0)) = A) (hs : A.safe)
    (hrun : (execOp a.eval o).run P w = .ok (.value (.pointer (some ⟨w.heap.size, 0, none⟩))) (w.alloc (.cells v.cells e)))
    (hv : RL (clR g) cs v.cells.toList) (hl : ∀ L ∈ cs.flatMap clLab, ∃ o, lk σ.objs L = some o) : Goal P nt B w0 h0 r n i o A σ a w Q := by
  unfold putB at hA
  split at hA
  · rename_i t ht
    split at hA
    · rename_i hlk
      subst hA
      have S' := S.newBox (ty := e) hlk hv hl
      refine op_val hnd hrun ⟨g.setBk t w.heap.size, _, rfl, ?_⟩
      rw [upd_nil]
      refine S'.put (σ := { σ with objs := (t, AO.box e cs) :: σ.objs }) hd (d := .cl (.ptr t 0)) ?_ ?_ _
      · simp [dvR, d1R, clR, Gh.setBk]
      · intro L hL
        simp [dvLab, d1Lab, clLab] at hL
        subst hL
        exact ⟨_, by rw [lk_cons, if_pos rfl]⟩
    · subst hA; exact hs.elim
  · subst hA; exact hs.elim

theorem ofVals_flat {l : List Value} {cs : List Cl} (h : ofVals l = some cs) (L : Nat) (hL : L ∈ cs.flatMap clLab) : False := by
  rw [ofVals_lab h] at hL; simp at hL

theorem act_alloc {o : Oper} {A : OpAct} {e : Nat} {z : List Cl} (S : Sim P nt B w0 h0 g σ a w) (hd : okDst nt o.dst = true) (hop : o.op = .alloc e) (hz : zeroT P e = some z)
    (hA : putB (lk σ.objs) o.dst (.box e z) (fun t => .cl (.ptr t 0)) = A) (hs : A.safe) : Goal P nt B w0 h0 r n i o A σ a w Q := by
  obtain ⟨ii, v, hi, hzv, hl, _⟩ := zeroT_spec hz
  refine fin_box S hd (by simp [hop]) hA hs (v := v) ?_ (ofVals_rl _ _ hl) (fun L hL => (ofVals_flat hl L hL).elim)
  simp only [execOp, hop, Instr.alloc, Sem.run_bind, run_zeroValue hi hzv, Result.andThen_ok, run_newVar, Sem.run_pure]

theorem act_box {o : Oper} {A : OpAct} {e : Nat} {x : Operand} {d : D1} (S : Sim P nt B w0 h0 g σ a w) (hd : okDst nt o.dst = true) (hop : o.op = .box e x) (hx : evO σ.env x = .one d)
    (hok : d.cells.all okCl = true) (hA : putB (lk σ.objs) o.dst (.box e d.cells) (fun t => .cl (.ptr t 0)) = A) (hs : A.safe) : Goal P nt B w0 h0 r n i o A σ a w Q := by
  have h1 := S.ev x
  have h2 := S.evLab x
  rw [hx] at h1 h2
  refine fin_box S hd (by simp [hop]) hA hs (v := a.eval x) ?_ (d1_cells h1 hok) ?_
  · simp only [execOp, hop, Instr.box, Sem.run_bind, run_newVar, Result.andThen_ok, Sem.run_pure]
  · intro L hL
    refine h2 L ?_
    cases d with
    | c y => simpa [D1.cells, dvLab, d1Lab] using hL
    | agg cs => simpa [D1.cells, dvLab, d1Lab] using hL

theorem act_build {o : Oper} {t : Nat} {parts : Array (Nat × Operand)} {z l : List Cl} (S : Sim P nt B w0 h0 g σ a w) (hd : okDst nt o.dst = true) (hop : o.op = .build t parts)
    (hf : fieldsOk P t = true) (hz : zeroT P t = some z) (hb : buildC P t (evO σ.env) z parts.toList = some l) (hl : ∀ L ∈ l.flatMap clLab, ∃ o, lk σ.objs L = some o) :
    Goal P nt B w0 h0 r n i o (.val [] (.one (.agg l)) [] []) σ a w Q := by
  obtain ⟨v, hrun, hv⟩ := run_build (P := P) (w := w) (g := g) (ρ := a.eval) (ev := evO σ.env) (fun x => S.ev x) hf hz hb
  refine fin_val S hd (by simp [hop]) (d := .one (.agg l)) (v := v) (fp := []) rfl ?_ hv hl
  simp only [execOp, hop, Sem.run_bind, hrun, Result.andThen_ok, Sem.run_pure]

theorem spl_lab {cs l : List Cl} (off : Nat) : ∀ L ∈ (spl cs off l).flatMap clLab, L ∈ cs.flatMap clLab ∨ L ∈ l.flatMap clLab := by
  induction l generalizing cs off with
  | nil => intro L hL; exact .inl hL
  | cons x l ih =>
    intro L hL
    rw [spl] at hL
    rcases ih (off + 1) L hL with h | h
    · simp only [List.mem_flatMap] at h
      obtain ⟨c, hc, hL2⟩ := h
      rcases List.mem_or_eq_of_mem_set hc with h | h
      · exact .inl (List.mem_flatMap.2 ⟨c, h, hL2⟩)
      · subst h; exact .inr (by simp only [List.flatMap_cons, List.mem_append]; exact .inl hL2)
    · exact .inr (by simp only [List.flatMap_cons, List.mem_append]; exact .inr h)

theorem buildC_lab {ev : Operand → DV} {t : TypeId} : ∀ (parts : List (Nat × Operand)) (z l : List Cl), buildC P t ev z parts = some l →
    ∀ L ∈ l.flatMap clLab, L ∈ z.flatMap clLab ∨ ∃ x ∈ parts, L ∈ dvLab (ev x.2)
  | [], z, l, h => by simp [buildC] at h; subst h; exact fun L hL => .inl hL
  | (i, o) :: r, z, l, h => by
    simp only [buildC] at h
    cases he : ev o with
    | tup ds => simp [he] at h
    | one d =>
      simp only [he] at h
      have step : ∀ off, buildC P t ev (spl z off d.cells) r = some l → ∀ L ∈ l.flatMap clLab, L ∈ z.flatMap clLab ∨ ∃ x ∈ (i, o) :: r, L ∈ dvLab (ev x.2) := by
        intro off hb L hL
        rcases buildC_lab r _ l hb L hL with h | ⟨x, hx, hL⟩
        · rcases spl_lab off L h with h | h
          · exact .inl h
          · refine .inr ⟨(i, o), List.mem_cons_self, ?_⟩
            simp only [he, dvLab]
            cases d with
            | c y => simpa [D1.cells, d1Lab] using h
            | agg cs => simpa [D1.cells, d1Lab] using h
        · exact .inr ⟨x, List.mem_cons_of_mem _ hx, hL⟩
      split at h
      · split at h
        · split at h
          · split at h
            · exact step _ h
            · cases h
          · cases h
        · cases h
      · split at h
        · split at h
          · exact step _ h
          · cases h
        · cases h
      · cases h

theorem zeroT_lab {t : TypeId} {z : List Cl} (h : zeroT P t = some z) : z.flatMap clLab = [] := by
  obtain ⟨_, v, _, _, hl, _⟩ := zeroT_spec h
  exact ofVals_lab hl

theorem fin_load {o : Oper} {t : TypeId} {x : Operand} {A : OpAct} {fp : List (Nat × Bool)} {ag : Bool} {m b off o' : Nat} {C : Array Value} {ty : TypeId} {fr : Nat × Nat} {cells : List Cl} {d : D1}
    (S : Sim P nt B w0 h0 g σ a w) (hd : okDst nt o.dst = true) (hop : o.op = .load t x) (hA : stepTo A i o.dst σ (σ.upd i o.dst fp (.one d) [] [])) (hg : aggT P t = some ag) (hs : szT P t = some m)
    (hx : a.eval x = .pointer (some ⟨b, o' + off, none⟩)) (hb : w.heap[b]? = some (.cells C ty fr))
    (hc : ∀ (j : Nat) (x : Cl), cells[j]? = some x → ∃ v, C[o' + j]? = some v ∧ clR g x v) (hr : rdCl ag m cells off = some d)
    (hl : ∀ L ∈ cells.flatMap clLab, ∃ o, lk σ.objs L = some o) : Goal P nt B w0 h0 r n i o A σ a w Q := by
  obtain ⟨v, hrun, hv⟩ := rdCl_d1R hg hs hb o' hc hr
  refine fin_val S hd (by simp [hop]) (d := .one d) (v := v) (fp := fp) hA ?_ hv (fun L hL => hl L (rdCl_lab hr L hL))
  simp only [execOp, hop, Sem.run_bind, Instr.loadAt, hx, Instr.sureAddr, Sem.run_pure, Result.andThen_ok, hrun]

theorem act_load {o : Oper} {t : TypeId} {x : Operand} {A : OpAct} (S : Sim P nt B w0 h0 g σ a w) (hd : okDst nt o.dst = true) (hop : o.op = .load t x)
    (hA : act P Γ o (evO σ.env) (lk σ.objs) = A) (hs : A.safe) : Goal P nt B w0 h0 r n i o A σ a w Q := by
  simp only [act, aLd, hop] at hA
  split at hA
  · rename_i ag m hg hsz
    split at hA
    · rename_i L off hx
      have hx' := (cl_inv S hx).1
      simp only [clR] at hx'
      split at hA
      · rename_i ty cells hL
        obtain ⟨C, hC, hr⟩ := S.obj L _ hL
        split at hA
        · rename_i d hrd
          subst hA
          refine fin_load (o' := 0) S hd hop rfl hg hsz (by rw [hx', Nat.zero_add]) hC (fun j y hj => ?_) hrd (S.clO L _ hL)
          obtain ⟨v, hv, hyv⟩ := hr.get j y hj
          exact ⟨v, by simpa using hv, hyv⟩
        · subst hA; exact hs.elim
      · rename_i cells hL
        obtain ⟨C, ty, fr, hC, hr⟩ := S.obj L _ hL
        split at hA
        · rename_i d hrd
          subst hA
          refine fin_load (o' := 0) S hd hop rfl hg hsz (by rw [hx', Nat.zero_add]) (S.hw.fz hC) (fun j y hj => ?_) hrd (by rw [pcells_lab]; intro L hL; simp at hL)
          simp only [List.getElem?_map] at hj
          obtain ⟨p, hp, rfl⟩ := Option.map_eq_some_iff.1 hj
          obtain ⟨v, hv, hyv⟩ := hr.get j p hp
          exact ⟨v, by simpa using hv, hyv⟩
        · subst hA; exact hs.elim
      · subst hA; exact hs.elim
    · rename_i cells off hx
      obtain ⟨b, o', C, ty, fr, hv, hb, hc⟩ := fp_inv (pv_inv S hx)
      split at hA
      · rename_i d hrd
        subst hA
        refine fin_load S hd hop rfl hg hsz hv (S.hw.fz hb) (fun j y hj => ?_) hrd (by rw [pcells_lab]; intro L hL; simp at hL)
        simp only [List.getElem?_map] at hj
        obtain ⟨p, hp, rfl⟩ := Option.map_eq_some_iff.1 hj
        exact hc j p hp
      · subst hA; exact hs.elim
    · rename_i L s ii k hx
      obtain ⟨b, hb, hx'⟩ := (cl_inv S hx).1
      split at hA
      · rename_i e s' by' len get hL
        split at hA
        · rename_i d hss hrd
          subst hA
          have hlt : ii < len := hs
          have hss := Nat.eq_of_beq_eq_true hss
          subst hss
          obtain ⟨b', C, hob, _, hC, _, hlen, hel⟩ := vec_elem (S.obj L _ hL) hlt
          rw [hb] at hob; simp only [Option.some.injEq] at hob; subst hob
          refine fin_load (o' := ii * s) S hd hop (A := .chk _ _ _ _ _) rfl hg hsz hx' hC (fun j y hj => ?_) hrd (by rw [pcells_lab]; intro L hL; simp at hL)
          simp only [List.getElem?_map] at hj
          obtain ⟨p, hp, rfl⟩ := Option.map_eq_some_iff.1 hj
          exact hel j p hp
        · subst hA; exact hs.elim
      · rename_i s' len get hL
        split at hA
        · rename_i d hss hrd
          subst hA
          have hlt : ii < len := hs
          have hss := Nat.eq_of_beq_eq_true hss
          subst hss
          obtain ⟨b', o', cap, C, ty, fr, hsv, hC, hlen, hel⟩ := sl_elem (S.obj L _ hL).1 hlt
          have h00 : o' = 0 := (S.obj L _ hL).2 _ _ _ hsv
          rw [hsv] at hb; simp only [Value.ownBlock, Option.some.injEq] at hb; subst hb
          subst h00
          refine fin_load (o' := ii * s) S hd hop (A := .chk _ _ _ _ _) rfl hg hsz hx' (S.hw.fz hC) (fun j y hj => ?_) hrd (by rw [pcells_lab]; intro L hL; simp at hL)
          simp only [List.getElem?_map] at hj
          obtain ⟨p, hp, rfl⟩ := Option.map_eq_some_iff.1 hj
          have := hel j p hp
          rwa [Nat.zero_add] at this
        · subst hA; exact hs.elim
      · split at hA
        · rename_i hss
          simp only [Bool.and_eq_true] at hss
          have hs1 := Nat.eq_of_beq_eq_true hss.1
          have hk0 := Nat.eq_of_beq_eq_true hss.2
          subst hs1 hk0
          split at hA
          · rename_i dst hdst
            split at hA
            · rename_i te bb e s' b2 len ln get hfresh hL
              subst hA
              have hlt : ii < len := hs
              obtain ⟨b', C, cap, hsv, hC, hcell, hone⟩ := vv_outer (S.obj L _ hL) hlt
              rw [hsv] at hb; simp only [Value.ownBlock, Option.some.injEq] at hb; subst hb
              have hne : L ≠ dst := by rintro rfl; rw [hfresh] at hL; cases hL
              obtain ⟨hpos, hi1, hi2, hrow, hel, hsep⟩ := S.obj L _ hL
              obtain ⟨r1, _, xs, r3, r4⟩ := hel ii hlt
              have S1 := S.write (o' := .vt te bb e s' b2 len ln get ii) hL (fun k hk => hk.imp id fun ⟨i, h1, _, h2⟩ => ⟨i, h1, h2⟩) (.refl _ _) (fun _ _ => rfl)
                ⟨hpos, hi1, hi2, hrow, r1, (fun k (hk : g.iv L ii = .map (some k)) => by rcases r3.2 with ⟨h1, _⟩ | ⟨_, _, _, h1, _⟩ <;> rw [h1] at hk <;> cases hk), fun i hi _ => hel i hi, fun i k hi _ hk => ⟨(hsep i k hi hk).1, fun j hj _ hk' => (hsep i k hi hk).2 j hj hk'⟩⟩ (fun M hM => by simp [aoLab] at hM)
              have S2 := S1.adopt (t := dst) (e := e) (s := s') (b := b2) (n := ln ii) (get := get ii) (v := g.iv L ii) (by rw [lk_cons, if_neg hne]; exact hfresh) (fun k hk => by
                have hok := S.own L _ k hL (.inr ⟨ii, hlt, hk⟩)
                refine ⟨hok.1, hok.2, fun X o ho hX => ?_⟩
                rw [lk_cons] at ho
                split at ho
                · rename_i e1
                  simp only [Option.some.injEq] at ho; subst ho e1
                  rcases hX with hX | ⟨i, h1, h2, h3⟩
                  · exact (hsep ii k hlt hk).1 hX
                  · exact h2 ((hsep ii k hlt hk).2 i h1 h3).symm
                · rename_i e1
                  exact e1 (S.sep L _ k X o hL ho (.inr ⟨ii, hlt, hk⟩) hX))
                ⟨⟨fun k l => hpos.1 ii k ii l, hpos.2⟩, hi2, xs, by simpa [Gh.setSv] using r3, r4⟩
              refine op_val (by simp [hop]) (v := g.iv L ii) (w' := w) ?_ ⟨g.setSv dst (g.iv L ii), _, rfl, ?_⟩
              · have := run_loadVar_one (P := P) (o := ii * 1 + 0) hg hC (g.iv L ii) (by simpa using hcell)
                simp only [execOp, hop, Sem.run_bind, Instr.loadAt, hx', Instr.sureAddr, Sem.run_pure, Result.andThen_ok, this]
              · rw [upd_nil]
                exact S2.put hd (d := .cl (.vec dst)) ⟨by simp [Gh.setSv], r1⟩ (fun M hM => by simp [dvLab, d1Lab, clLab] at hM; subst hM; exact ⟨_, by rw [lk_cons, if_pos rfl]⟩) _
            · subst hA; exact hs.elim
          · subst hA; exact hs.elim
        · subst hA; exact hs.elim
      · subst hA; exact hs.elim
    · subst hA; exact hs.elim
  · subst hA; exact hs.elim
end
end Go.Pm
namespace Go.Pm
variable [DrawZ]
open Go.RowKit (Below)
open Go.MapKept (IsKey findNow_spec run_checkKey)

section
variable {P : Program} {Γ : Ctrs} {nt B : Nat} {w0 : World} {h0 : Fz} {g : Gh} {σ : St} {a : Act} {w : World} {r : Option Nat} {n i : Nat} {Q : Exit → Act → World → Prop}

theorem run_part {t : TypeId} {ag : Bool} {m off : Nat} {cells : List Cl} {vs : List Value} {d : D1} (hg : aggT P t = some ag) (hs : szT P t = some m) (hr : rdCl ag m cells off = some d) (hc : RL (clR g) cells vs) :
    ∃ v, (part t vs.toArray off).run P w = .ok v w ∧ d1R g d v := by
  cases ag with
  | true =>
    simp only [rdCl] at hr
    split at hr
    · simp only [Option.some.injEq] at hr; subst hr
      refine ⟨.agg (vs.toArray.extract off (off + m)), ?_, (vs.drop off).take m, ?_, (hc.drop off).take m⟩
      · simp only [part, Sem.run_bind, run_isAgg hg, Result.andThen_ok, if_true, run_sizeOf hs, Sem.run_pure]
      · simp [List.extract_toArray, List.extract_eq_take_drop]
    · cases hr
  | false =>
    simp only [rdCl] at hr
    split at hr
    · rename_i x hx
      simp only [Option.some.injEq] at hr; subst hr
      obtain ⟨v, hv, hxv⟩ := hc.get off x hx
      refine ⟨v, ?_, hxv⟩
      simp only [part, Sem.run_bind, run_isAgg hg, Result.andThen_ok, Bool.false_eq_true, if_false]
      rw [show vs.toArray[off]? = some v by simpa using hv]
      simp
    · cases hr

theorem eqT_run : ∀ (d : Nat) (t : TypeId) (x y : D1) (r : Bool), eqT P d t x y = some r → ∀ (e : Nat) (v u : Value), d1R g x v → d1R g y u → (Op.equalIn (d + e) t v u).run P w = .ok r w
  | 0, t, x, y, r, h => by simp [eqT] at h
  | d + 1, t, x, y, r, h => by
    intro e v u hv hu
    have he : d + 1 + e = (d + e) + 1 := by omega
    rw [he]
    simp only [eqT] at h
    split at h
    · rename_i hut
      split at h
      · simp only [Option.some.injEq] at h; subst h
        cases hv; cases hu
        exact run_equalIn_bool' w _ _ _ _ hut
      · cases h
    · rename_i q hut
      split at h
      · split at h
        · rename_i hk
          simp only [Option.some.injEq] at h; subst h; subst hk
          cases hv; cases hu
          exact run_equalIn_int w _ _ _ _ _ _ hut
        · cases h
      · cases h
    · rename_i fs hut
      split at h
      · rename_i xs ys hst
        obtain ⟨vs, rfl, hvs⟩ := hv
        obtain ⟨us, rfl, hus⟩ := hu
        have hf : P.fieldsOf t = fs := by simp [Program.fieldsOf, hut]
        rw [run_equalIn_struct w (d + e) t _ _ (by rw [hf]; exact hut) hst, hf]
        have key : ∀ (l : List Field) (r : Bool), l.foldr (fun f acc =>
            match acc, f.name != "_", aggT P f.type, szT P f.type with
            | some r, true, some ag, some n => match rdCl ag n xs f.offset, rdCl ag n ys f.offset with
              | some a, some b => match eqT P d f.type a b with
                | some e => some (match e with | true => r | false => false)
                | none => none
              | _, _ => none
            | _, _, _, _ => none) (some true) = some r → (Op.eqFields (d + e) vs.toArray us.toArray l).run P w = .ok r w := by
          intro l
          induction l with
          | nil => intro r h; simp only [List.foldr_nil, Option.some.injEq] at h; subst h; simp [Op.eqFields]
          | cons f l ih =>
            intro r h
            rw [List.foldr_cons] at h
            split at h
            · rename_i r' ag m hacc hname hag hsz
              split at h
              · rename_i a' b' ha' hb'
                split at h
                · rename_i e' he'
                  simp only [Option.some.injEq] at h
                  obtain ⟨va, hva, hra⟩ := run_part (w := w) hag hsz ha' hvs
                  obtain ⟨vb, hvb, hrb⟩ := run_part (w := w) hag hsz hb' hus
                  have hq := eqT_run d f.type a' b' e' he' e va vb hra hrb
                  have hn : f.name ≠ "_" := by simpa using hname
                  simp only [Op.eqFields, if_pos hn, Sem.run_bind, hva, hvb, hq, Result.andThen_ok]
                  cases e' with
                  | true => simp only at h; subst h; simpa using ih r' hacc
                  | false => simp only at h; subst h; simp
                · cases h
              · cases h
            · cases h
        exact key fs.toList r h
      · cases h
    · cases h

theorem act_eq {o : Oper} {op : BinOp} {t t' : TypeId} {x y : Operand} {cs ds : List Cl} {A : OpAct} (S : Sim P nt B w0 h0 g σ a w) (hd : okDst nt o.dst = true) (hop : o.op = .binOp op t x y t')
    (hx : evO σ.env x = .one (.agg cs)) (hy : evO σ.env y = .one (.agg ds)) (hA : eqAct P op t cs ds = A) (hs : A.safe) : Goal P nt B w0 h0 r n i o A σ a w Q := by
  have h1 := S.ev x
  have h2 := S.ev y
  rw [hx] at h1; rw [hy] at h2
  obtain ⟨vs, hv, _⟩ := id h1
  obtain ⟨us, hu, _⟩ := id h2
  unfold eqAct at hA
  split at hA
  · rename_i q hgd hq
    have hrun := eqT_run (w := w) 8 t (.agg cs) (.agg ds) q hq 9992 _ _ h1 h2
    rw [hv, hu] at hrun
    split at hA
    · subst hA
      refine fin_val S hd (by simp [hop]) (d := .bool q) (v := .bool q) (fp := []) rfl ?_ (.bool q) (lab_p _)
      simp only [execOp, hop, hv, hu, Sem.run_bind, run_eqGuard_agg w _ _ _ _ _ _ hgd, Result.andThen_ok, run_eql_struct]
      rw [hrun]; rfl
    · subst hA
      refine fin_val S hd (by simp [hop]) (d := .bool (!q)) (v := .bool (!q)) (fp := []) rfl ?_ (.bool (!q)) (lab_p _)
      simp only [execOp, hop, hv, hu, Sem.run_bind, run_eqGuard_agg w _ _ _ _ _ _ hgd, Result.andThen_ok, run_neq_struct]
      rw [hrun]; rfl
    · subst hA; exact hs.elim
  · subst hA; exact hs.elim

theorem act_index {o : Oper} {t : TypeId} {x y : Operand} {A : OpAct} (S : Sim P nt B w0 h0 g σ a w) (hd : okDst nt o.dst = true) (hop : o.op = .index t x y)
    (hA : act P Γ o (evO σ.env) (lk σ.objs) = A) (hs : A.safe) : Goal P nt B w0 h0 r n i o A σ a w Q := by
  simp only [act, hop, indexAct] at hA
  split at hA
  · rename_i m e hu
    split at hA
    · rename_i sz ag cs k j hsz hag hx hy
      split at hA
      · rename_i d hlt hr
        subst hA
        have h1 := S.ev x
        rw [hx] at h1
        obtain ⟨vs, hv, hvs⟩ := h1
        have hj := int_inv S hy
        obtain ⟨v, hrun, hdv⟩ := run_part (w := w) hag hsz hr hvs
        have hlt' : j < m := by simpa [Nat.blt_eq] using hlt
        refine fin_val S hd (by simp [hop]) (d := .one d) (v := v) (fp := []) rfl ?_ hdv (fun L hL => ?_)
        · simp only [execOp, hop, hv, hj, Instr.index, asIntOf, Sem.run_bind, Sem.run_pure, Result.andThen_ok, run_underlying hu]
          rw [if_pos ⟨by simp, by simpa using hlt'⟩]
          simp only [Sem.run_bind, run_sizeOf hsz, Result.andThen_ok]
          rw [show (Int.ofNat j).toNat = j from rfl, hrun]
          rfl
        · refine S.evLab x L ?_
          rw [hx]
          exact rdCl_lab hr L hL
      · subst hA; exact hs.elim
    · subst hA; exact hs.elim
  · subst hA; exact hs.elim

theorem act_field {o : Oper} {t : TypeId} {x : Operand} {f : Nat} {A : OpAct} (S : Sim P nt B w0 h0 g σ a w) (hd : okDst nt o.dst = true) (hop : o.op = .field t x f)
    (hA : act P Γ o (evO σ.env) (lk σ.objs) = A) (hs : A.safe) : Goal P nt B w0 h0 r n i o A σ a w Q := by
  simp only [act, hop, fieldAct] at hA
  split at hA
  · rename_i fs hu
    split at hA
    · rename_i fd hfd
      split at hA
      · rename_i m ag cs hsz hag hx
        split at hA
        · rename_i d hr
          subst hA
          have h1 := S.ev x
          rw [hx] at h1
          obtain ⟨vs, hv, hvs⟩ := h1
          obtain ⟨v, hrun, hdv⟩ := run_part (w := w) hag hsz hr hvs
          refine fin_val S hd (by simp [hop]) (d := .one d) (v := v) (fp := []) rfl ?_ hdv (fun L hL => ?_)
          · simp only [execOp, hop, hv, Instr.field, asAgg, Sem.run_bind, Sem.run_pure, Result.andThen_ok, run_underlying hu, hfd]
            rw [hrun]
            rfl
          · refine S.evLab x L ?_
            rw [hx]
            exact rdCl_lab hr L hL
        · subst hA; exact hs.elim
      · subst hA; exact hs.elim
    · subst hA; exact hs.elim
  · subst hA; exact hs.elim

theorem act_indexArr {o : Oper} {t e : TypeId} {m : Nat} {x y : Operand} {A : OpAct} (S : Sim P nt B w0 h0 g σ a w) (hd : okDst nt o.dst = true) (hop : o.op = .indexAddr t x y) (hu : P.underlying t = some (.array m e))
    (hA : indexArr P m e (evO σ.env x) (evO σ.env y) = A) (hs : A.safe) : Goal P nt B w0 h0 r n i o A σ a w Q := by
  unfold indexArr at hA
  split at hA
  · rename_i sz k j hsz hy
    split at hA
    · rename_i hlt
      have hj := int_inv S hy
      have hlt' : j < m := by simpa [Nat.blt_eq] using hlt
      have run : ∀ b o' : Nat, a.eval x = .pointer (some ⟨b, o', none⟩) → (execOp a.eval o).run P w = .ok (.value (.pointer (some ⟨b, o' + j * sz, none⟩))) w := by
        intro b o' hv
        simp only [execOp, hop, hv, hj, Instr.indexAt, asIntOf, Sem.run_bind, Sem.run_pure, Result.andThen_ok, run_underlying hu, Instr.sureAddr]
        rw [if_pos ⟨by simp, by simpa using hlt'⟩]
        simp only [Sem.run_bind, run_sizeOf hsz, Result.andThen_ok, addr_add, Sem.run_pure]
        rfl
      split at hA
      · rename_i L off hx
        subst hA
        obtain ⟨h1, h2⟩ := cl_inv S hx
        exact fin_val S hd (by simp [hop]) (d := .cl (.ptr L (off + j * sz))) (fp := []) rfl (run _ _ h1) rfl h2
      · rename_i c off hx
        subst hA
        obtain ⟨b, o', C, ty, fr, hv, hb, hc⟩ := fp_inv (pv_inv S hx)
        have := run b (o' + off) hv
        rw [Nat.add_assoc] at this
        exact fin_val S hd (by simp [hop]) (d := .p (.fp c (off + j * sz))) (fp := []) rfl this (rep_fp' hb hc _) (lab_p _)
      · subst hA; exact hs.elim
    · subst hA; exact hs.elim
  · subst hA; exact hs.elim

theorem key_i64 (j : Int) : IsKey (.int .i64) (.int .i64 j) := by simp [IsKey]

theorem toI64_R : ∀ {cs : List Cl} {l : List Int} {vs : List Value}, toI64 cs = some l → RL (clR g) cs vs → vs = l.map (Value.int .i64)
  | [], l, [], h, _ => by simp [toI64] at h; subst h; rfl
  | [], _, _ :: _, _, hr => hr.elim
  | _ :: _, _, [], _, hr => hr.elim
  | c :: cs, l, v :: vs, h, hr => by
    cases c with
    | p x =>
      cases x with
      | int k a' =>
        cases k <;> simp only [toI64] at h <;> try cases h
        split at h
        · rename_i l' hl'
          simp only [Option.some.injEq] at h; subst h
          have h1 := hr.1
          cases h1
          rw [toI64_R hl' hr.2]; rfl
        · cases h
      | _ => simp [toI64] at h
    | _ => simp [toI64] at h

end
end Go.Pm
namespace Go.Pm
variable [DrawZ]
open Go.RowKit (Below)

section
variable {P : Program} {Γ : Ctrs} {nt B : Nat} {w0 : World} {h0 : Fz} {g : Gh} {σ : St} {a : Act} {w : World} {r : Option Nat} {n i : Nat} {Q : Exit → Act → World → Prop}

theorem act_nilCheck {o : Oper} {x : Operand} {A : OpAct} (S : Sim P nt B w0 h0 g σ a w) (hd : okDst nt o.dst = true) (hop : o.op = .nilCheck x)
    (hA : act P Γ o (evO σ.env) (lk σ.objs) = A) (hs : A.safe) : Goal P nt B w0 h0 r n i o A σ a w Q := by
  simp only [act, aNc, hop] at hA
  split at hA
  · rename_i L off hx
    subst hA
    obtain ⟨h1, h2⟩ := cl_inv S hx
    refine fin_val S hd (by simp [hop]) (v := a.eval x) (fp := []) rfl ?_ h1 h2
    simp only [clR] at h1
    simp [execOp, hop, h1]
  · rename_i c off hx
    subst hA
    obtain ⟨h1, h2⟩ := cl_inv S hx
    refine fin_val S hd (by simp [hop]) (v := a.eval x) (fp := []) rfl ?_ h1 h2
    obtain ⟨b, o', C, ty, fr, hv, _⟩ := fp_inv h1
    simp [execOp, hop, hv]
  · rename_i L s ii k hx
    subst hA
    obtain ⟨h1, h2⟩ := cl_inv S hx
    refine fin_val S hd (by simp [hop]) (v := a.eval x) (fp := []) rfl ?_ h1 h2
    obtain ⟨b, _, hv⟩ := h1
    simp [execOp, hop, hv]
  · subst hA; exact hs.elim

theorem run_eqGuard_int {op : BinOp} {t : TypeId} {x y : Operand} {k k' : IntKind} {p q : Int} : (eqGuard op t x y (.int k p) (.int k' q)).run P w = .ok () w := by
  unfold eqGuard; cases op <;> rfl
theorem run_eqGuard_bool {op : BinOp} {t : TypeId} {x y : Operand} {p q : Bool} : (eqGuard op t x y (.bool p) (.bool q)).run P w = .ok () w := by
  unfold eqGuard; cases op <;> rfl

theorem act_binOp {o : Oper} {op : BinOp} {t t' : TypeId} {x y : Operand} {A : OpAct} (S : Sim P nt B w0 h0 g σ a w) (hd : okDst nt o.dst = true) (hop : o.op = .binOp op t x y t')
    (hA : act P Γ o (evO σ.env) (lk σ.objs) = A) (hs : A.safe) : Goal P nt B w0 h0 r n i o A σ a w Q := by
  simp only [act, aBn, hop] at hA
  split at hA
  · rename_i k p k' q hx hy
    have h1 := int_inv S hx
    have h2 := int_inv S hy
    split at hA
    · rename_i hk
      subst hk
      have fin : ∀ (v : PV) (u : Value) (A : OpAct), stepTo A i o.dst σ (σ.upd i o.dst [] (.p v) [] []) → (binOp op t (.int k p) (.int k q)).run P w = .ok u w → Rep g.h v u → Goal P nt B w0 h0 r n i o A σ a w Q := by
        intro v u A hA hrun hr
        refine fin_val S hd (by simp [hop]) (d := .p v) (v := u) (fp := []) hA ?_ hr (lab_p v)
        simp only [execOp, hop, h1, h2, Sem.run_bind, run_eqGuard_int, Result.andThen_ok, hrun, Sem.run_pure]
      unfold intOp at hA
      split at hA <;> subst hA
      · have hq : 0 ≤ q := hs
        exact fin _ _ (.chk _ _ _ _ _) rfl (by simp [binOp, Op.shift, Int.not_lt.2 hq, shlW]) (.int _ _)
      · have hq : 0 ≤ q := hs
        exact fin _ _ (.chk _ _ _ _ _) rfl (by simp [binOp, Op.shift, Int.not_lt.2 hq, shrW]) (.int _ _)
      · exact fin _ _ _ rfl (by simp [binOp, Op.intBits, andW]) (.int _ _)
      · exact fin _ _ _ rfl (by simp [binOp, Op.intBits, orW]) (.int _ _)
      · exact fin _ _ _ rfl (by simp [binOp, Op.intBits, xorW]) (.int _ _)
      · exact fin _ _ _ rfl (by simp [binOp, Op.intBits, andNotW]) (.int _ _)
      · exact fin _ _ _ rfl (by simp [binOp, Op.intArith]) (.int _ _)
      · exact fin _ _ _ rfl (by simp [binOp, Op.intArith]) (.int _ _)
      · exact fin _ _ _ rfl (by simp [binOp, Op.intArith]) (.int _ _)
      · have hq : q ≠ 0 := hs
        exact fin _ _ (.chk _ _ _ _ _) rfl (by simp [binOp, Op.intDiv, hq]) (.int _ _)
      · have hq : q ≠ 0 := hs
        exact fin _ _ (.chk _ _ _ _ _) rfl (by simp [binOp, Op.intDiv, hq]) (.int _ _)
      · exact fin _ _ _ rfl (by simp [binOp, Op.intCmp]) (.bool _)
      · exact fin _ _ _ rfl (by simp [binOp, Op.intCmp]) (.bool _)
      · exact fin _ _ _ rfl (by simp [binOp, Op.intCmp]) (.bool _)
      · exact fin _ _ _ rfl (by simp [binOp, Op.intCmp]) (.bool _)
      · exact fin _ _ _ rfl (by simp [binOp, Op.intCmp]) (.bool _)
      · exact fin _ _ _ rfl (by simp [binOp, Op.intCmp]) (.bool _)
    · have fin : ∀ (v : PV) (u : Value) (A : OpAct), stepTo A i o.dst σ (σ.upd i o.dst [] (.p v) [] []) → (binOp op t (.int k p) (.int k' q)).run P w = .ok u w → Rep g.h v u → Goal P nt B w0 h0 r n i o A σ a w Q := by
        intro v u A hA hrun hr
        refine fin_val S hd (by simp [hop]) (d := .p v) (v := u) (fp := []) hA ?_ hr (lab_p v)
        simp only [execOp, hop, h1, h2, Sem.run_bind, run_eqGuard_int, Result.andThen_ok, hrun, Sem.run_pure]
      unfold shfOp at hA
      split at hA <;> subst hA
      · have hq : 0 ≤ q := hs
        exact fin _ _ (.chk _ _ _ _ _) rfl (by simp [binOp, Op.shift, Int.not_lt.2 hq, shlW]) (.int _ _)
      · have hq : 0 ≤ q := hs
        exact fin _ _ (.chk _ _ _ _ _) rfl (by simp [binOp, Op.shift, Int.not_lt.2 hq, shrW]) (.int _ _)
      · exact hs.elim
  · rename_i p q hx hy
    have h1 := bool_inv S hx
    have h2 := bool_inv S hy
    have hrun : P.underlying t = some .bool → (Op.equal t (.bool p) (.bool q)).run P w = .ok (p == q) w := by
      intro ht
      unfold Op.equal
      rw [show Op.maxDepth = 9999 + 1 from rfl, Op.equalIn]
      simp only [Sem.run_bind, run_underlying ht, Result.andThen_ok, Sem.run_pure]
    split at hA <;> (try rename_i ht _) <;> subst hA
    · refine fin_val S hd (by simp [hop]) (d := .bool (p == q)) (v := .bool (p == q)) (fp := []) rfl ?_ (.bool _) (lab_p _)
      simp only [execOp, hop, h1, h2, Sem.run_bind, run_eqGuard_bool, Result.andThen_ok, binOp, hrun ‹_›, Sem.run_pure]
    · refine fin_val S hd (by simp [hop]) (d := .bool (p != q)) (v := .bool (p != q)) (fp := []) rfl ?_ (.bool _) (lab_p _)
      simp only [execOp, hop, h1, h2, Sem.run_bind, run_eqGuard_bool, Result.andThen_ok, binOp, hrun ‹_›, Sem.run_pure]
      rfl
    · exact hs.elim
  · rename_i cs ds hx hy
    exact act_eq S hd hop hx hy hA hs
  · subst hA; exact hs.elim

theorem act_unOp {o : Oper} {op : UnOp} {t : TypeId} {x : Operand} {A : OpAct} (S : Sim P nt B w0 h0 g σ a w) (hd : okDst nt o.dst = true) (hop : o.op = .unOp op t x)
    (hA : act P Γ o (evO σ.env) (lk σ.objs) = A) (hs : A.safe) : Goal P nt B w0 h0 r n i o A σ a w Q := by
  simp only [act, aUn, hop] at hA
  split at hA
  · rename_i p hx
    subst hA
    have h1 := bool_inv S hx
    refine fin_val S hd (by simp [hop]) (d := .bool (!p)) (v := .bool (!p)) (fp := []) rfl ?_ (.bool _) (lab_p _)
    simp [execOp, hop, h1, Op.unary]
  · rename_i k p hx
    subst hA
    have h1 := int_inv S hx
    refine fin_val S hd (by simp [hop]) (d := .p (.int k (k.wrap (0 - p)))) (v := .int k (k.wrap (0 - p))) (fp := []) rfl ?_ (.int _ _) (lab_p _)
    simp only [execOp, hop, h1, Op.unary, Op.intArith, Sem.run_bind, Sem.run_pure, Result.andThen_ok]
  · subst hA; exact hs.elim

theorem act_convert {o : Oper} {t1 t2 : TypeId} {x : Operand} {A : OpAct} (S : Sim P nt B w0 h0 g σ a w) (hd : okDst nt o.dst = true) (hop : o.op = .convert t1 t2 x)
    (hA : act P Γ o (evO σ.env) (lk σ.objs) = A) (hs : A.safe) : Goal P nt B w0 h0 r n i o A σ a w Q := by
  simp only [act, aCv, hop] at hA
  split at hA
  · rename_i u1 k k' m h1 h2 hx
    subst hA
    have hv := int_inv S hx
    refine fin_val S hd (by simp [hop]) (d := .p (.int k (k.wrap m))) (v := .int k (k.wrap m)) (fp := []) rfl ?_ (.int _ _) (lab_p _)
    simp only [execOp, hop, hv, convert, Sem.run_bind, run_underlying h1, run_underlying h2, Result.andThen_ok, Conv.intToInt, Sem.run_pure]
  · subst hA; exact hs.elim

theorem act_fieldAddr {o : Oper} {t : TypeId} {x : Operand} {f : Nat} {A : OpAct} (S : Sim P nt B w0 h0 g σ a w) (hd : okDst nt o.dst = true) (hop : o.op = .fieldAddr t x f)
    (hA : act P Γ o (evO σ.env) (lk σ.objs) = A) (hs : A.safe) : Goal P nt B w0 h0 r n i o A σ a w Q := by
  simp only [act, aFa, hop] at hA
  split at hA
  · rename_i off hoff
    have fin : ∀ (b o' : Nat) (c : Cl) (A : OpAct), a.eval x = .pointer (some ⟨b, o', none⟩) → stepTo A i o.dst σ (σ.upd i o.dst [] (.cl c) [] []) → clR g c (.pointer (some ⟨b, o' + off, none⟩)) →
        (∀ L ∈ clLab c, ∃ o, lk σ.objs L = some o) → Goal P nt B w0 h0 r n i o A σ a w Q := by
      intro b o' c A hv hA hc hl
      refine fin_val S hd (by simp [hop]) (d := .cl c) (v := .pointer (some ⟨b, o' + off, none⟩)) (fp := []) hA ?_ hc hl
      simp only [execOp, hop, Sem.run_bind, hv, run_fieldAt hoff, Result.andThen_ok, Sem.run_pure]
    split at hA
    · rename_i L k hx
      subst hA
      obtain ⟨h1, h2⟩ := cl_inv S hx
      exact fin _ _ _ _ h1 rfl rfl h2
    · rename_i c k hx
      subst hA
      obtain ⟨h1, h2⟩ := cl_inv S hx
      obtain ⟨b, o', C, ty, fr, hv, hb, hc⟩ := fp_inv h1
      refine fin b (o' + k) _ _ hv rfl ?_ h2
      rw [Nat.add_assoc]
      exact rep_fp' hb hc (k + off)
    · rename_i L s ii k hx
      subst hA
      obtain ⟨h1, h2⟩ := cl_inv S hx
      obtain ⟨b, hb, hv⟩ := h1
      refine fin b (ii * s + k) _ _ hv rfl ⟨b, hb, ?_⟩ h2
      rw [Nat.add_assoc]
    · subst hA; exact hs.elim
  · subst hA; exact hs.elim

theorem act_indexAddr {o : Oper} {t : TypeId} {x y : Operand} {A : OpAct} (S : Sim P nt B w0 h0 g σ a w) (hd : okDst nt o.dst = true) (hop : o.op = .indexAddr t x y)
    (hA : act P Γ o (evO σ.env) (lk σ.objs) = A) (hs : A.safe) : Goal P nt B w0 h0 r n i o A σ a w Q := by
  simp only [act, aIa, hop] at hA
  split at hA
  · rename_i e hu
    split at hA
    · rename_i m k j hsz hy
      have hj := int_inv S hy
      split at hA
      · rename_i len s get hx
        split at hA
        · rename_i hsm
          subst hsm
          subst hA
          have hs' : 0 ≤ j ∧ j < (len : Int) := hs
          have hlt : j.toNat < len := by omega
          obtain ⟨b, o', cap, C, ty, fr, hv, hb, hlen, hel⟩ := sl_elem (pv_inv S hx) hlt
          refine fin_val S hd (by simp [hop]) (d := .p (.fp (get j.toNat) 0)) (v := .pointer (some ⟨b, o' + j.toNat * s, none⟩)) (fp := []) (A := .chk _ _ _ _ _) rfl ?_ ?_ (lab_p _)
          · simp only [execOp, hop, Sem.run_bind, hv, hj, run_indexAt_slice hu hsz hs'.1 hs'.2, Result.andThen_ok, Sem.run_pure]
          · exact rep_fp' hb hel 0
        · subst hA; exact hs.elim
      · rename_i L hx
        obtain ⟨h1, h2⟩ := cl_inv S hx
        split at hA
        · rename_i e' s by' len get hL
          split at hA
          · rename_i hsm
            subst hsm
            subst hA
            have hs' : 0 ≤ j ∧ j < (len : Int) := hs
            have hlt : j.toNat < len := by omega
            obtain ⟨b, C, hob, ⟨cap, hsv⟩, hC, _, hlen, hel⟩ := vec_elem (S.obj L _ hL) hlt
            refine fin_val S hd (by simp [hop]) (d := .cl (.vptr L s j.toNat 0)) (v := .pointer (some ⟨b, 0 + j.toNat * s, none⟩)) (fp := _) (A := .chk _ _ _ _ _) rfl ?_ ?_ h2
            · simp only [execOp, hop, Sem.run_bind, h1.1, hsv, hj, run_indexAt_slice hu hsz hs'.1 hs'.2, Result.andThen_ok, Sem.run_pure]
            · refine ⟨b, hob, ?_⟩
              simp
          · subst hA; exact hs.elim
        · rename_i s len get hL
          split at hA
          · rename_i hsm
            subst hsm
            subst hA
            have hs' : 0 ≤ j ∧ j < (len : Int) := hs
            have hlt : j.toNat < len := by omega
            obtain ⟨b, o', cap, C, ty, fr, hv, hb, hlen, hel⟩ := sl_elem (S.obj L _ hL).1 hlt
            refine fin_val S hd (by simp [hop]) (d := .p (.fp (get j.toNat) 0)) (v := .pointer (some ⟨b, o' + j.toNat * s, none⟩)) (fp := _) (A := .chk _ _ _ _ _) rfl ?_ ?_ (lab_p _)
            · simp only [execOp, hop, Sem.run_bind, h1.1, hv, hj, run_indexAt_slice hu hsz hs'.1 hs'.2, Result.andThen_ok, Sem.run_pure]
            · exact rep_fp' hb hel 0
          · subst hA; exact hs.elim
        · rename_i te bb e' s by' len ln get hL
          split at hA
          · rename_i hsm
            subst hsm
            subst hA
            have hs' : 0 ≤ j ∧ j < (len : Int) := hs
            have hlt : j.toNat < len := by omega
            obtain ⟨b, C, cap, hsv, hC, _, _⟩ := vv_outer (S.obj L _ hL) hlt
            refine fin_val S hd (by simp [hop]) (d := .cl (.vptr L 1 j.toNat 0)) (v := .pointer (some ⟨b, 0 + j.toNat * 1, none⟩)) (fp := _) (A := .chk _ _ _ _ _) rfl ?_ ?_ h2
            · simp only [execOp, hop, Sem.run_bind, h1.1, hsv, hj, run_indexAt_slice hu hsz hs'.1 hs'.2, Result.andThen_ok, Sem.run_pure]
            · refine ⟨b, by rw [hsv]; rfl, ?_⟩
              simp
          · subst hA; exact hs.elim
        · rename_i te bb e' s by' len ln get o2 hL
          split at hA
          · rename_i hsm
            subst hsm
            subst hA
            have hs' : 0 ≤ j ∧ j < (len : Int) := hs
            have hlt : j.toNat < len := by omega
            obtain ⟨b, C, cap, hsv, hC, _⟩ := vt_outer (S.obj L _ hL) hlt
            refine fin_val S hd (by simp [hop]) (d := .cl (.vptr L 1 j.toNat 0)) (v := .pointer (some ⟨b, 0 + j.toNat * 1, none⟩)) (fp := _) (A := .chk _ _ _ _ _) rfl ?_ ?_ h2
            · simp only [execOp, hop, Sem.run_bind, h1.1, hsv, hj, run_indexAt_slice hu hsz hs'.1 hs'.2, Result.andThen_ok, Sem.run_pure]
            · refine ⟨b, by rw [hsv]; rfl, ?_⟩
              simp
          · subst hA; exact hs.elim
        · subst hA; exact hs.elim
      · subst hA; exact hs.elim
    · subst hA; exact hs.elim
  · rename_i m e hu
    exact act_indexArr S hd hop hu hA hs
  · subst hA; exact hs.elim

theorem act_extract {o : Oper} {x : Operand} {k : Nat} {A : OpAct} (S : Sim P nt B w0 h0 g σ a w) (hd : okDst nt o.dst = true) (hop : o.op = .extract x k)
    (hA : act P Γ o (evO σ.env) (lk σ.objs) = A) (hs : A.safe) : Goal P nt B w0 h0 r n i o A σ a w Q := by
  simp only [act, aEx, hop] at hA
  split at hA
  · rename_i ds hx
    have h1 := S.ev x
    have h2 := S.evLab x
    rw [hx] at h1 h2
    obtain ⟨vs, hv, hr⟩ := h1
    split at hA
    · rename_i d hd'
      subst hA
      obtain ⟨v, hv', hdv⟩ := hr.get k d hd'
      refine fin_val S hd (by simp [hop]) (d := .one d) (v := v) (fp := []) rfl ?_ hdv (fun L hL => h2 L ?_)
      · simp only [execOp, hop, Sem.run_bind, hv, Instr.extract]
        have : vs.toArray[k]? = some v := by simpa using hv'
        rw [this]
        simp
      · exact List.mem_flatMap.2 ⟨d, List.mem_of_getElem? hd', hL⟩
    · subst hA; exact hs.elim
  · subst hA; exact hs.elim

theorem fb {o : Oper} {b : Builtin} {args : Array Operand} {ts : Array TypeId} (hop : o.op = .call { callee := .builtin b, args, argTypes := ts }) {v : Value} {w' : World}
    (h : (builtin b ts o.type (args.map fun | .const _ => true | _ => false) (args.map a.eval)).run P w = .ok (.value v) w') : (execOp a.eval o).run P w = .ok (.value v) w' := by
  simp only [execOp, hop, resolve, Sem.run_bind, Sem.run_pure, Result.andThen_ok, invoke]
  exact h

theorem act_len {o : Oper} {args : Array Operand} {ts : Array TypeId} {A : OpAct} (S : Sim P nt B w0 h0 g σ a w) (hd : okDst nt o.dst = true) (hop : o.op = .call { callee := .builtin .len, args, argTypes := ts })
    (hA : act P Γ o (evO σ.env) (lk σ.objs) = A) (hs : A.safe) : Goal P nt B w0 h0 r n i o A σ a w Q := by
  simp only [act, aLn, hop] at hA
  split at hA
  · rename_i x t hargs hts
    have ha : args = #[x] := by rw [← Array.toArray_toList (xs := args), hargs]
    have ht : ts = #[t] := by rw [← Array.toArray_toList (xs := ts), hts]
    subst ha ht
    split at hA
    · rename_i e hu
      have fin : ∀ (m : Nat) (ad : Option Addr) (cap : Nat) (fp : List (Nat × Bool)) (A : OpAct), a.eval x = .slice ad m cap → stepTo A i o.dst σ (σ.upd i o.dst fp (.int m) [] []) → Goal P nt B w0 h0 r n i o A σ a w Q := by
        intro m ad cap fp A hv hA
        refine fin_val S hd (by simp [hop]) (d := .int m) (v := .int .i64 m) (fp := fp) hA (fb hop ?_) (.int _ _) (lab_p _)
        simp only [builtin, Sem.run_bind, Builtin.len_]
        simp [hv, run_underlying hu, goInt]
      split at hA
      · rename_i m s get hx
        subst hA
        have h1 := pv_inv S hx
        generalize hv : a.eval x = v at h1
        cases h1 with
        | sl0 => exact fin 0 _ _ [] _ hv rfl
        | sle => exact fin 0 _ _ [] _ hv rfl
        | sl => exact fin m _ _ [] _ hv rfl
      · rename_i hx
        subst hA
        have h1 := pv_inv S hx
        generalize hv : a.eval x = v at h1
        cases h1
        exact fin 0 _ _ [] _ hv rfl
      · rename_i L hx
        obtain ⟨h1, _⟩ := cl_inv S hx
        split at hA
        · rename_i e' s b m get hL
          subst hA
          obtain ⟨_, _, xs, hxs, _⟩ := S.obj L _ hL
          rcases hxs.2 with ⟨h5, h6⟩ | ⟨k, cap, cur, h5, _⟩
          · subst h6; exact fin 0 _ _ _ _ (h1.1.trans h5) rfl
          · exact fin m _ _ _ _ (h1.1.trans h5) rfl
        · rename_i s m get hL
          subst hA
          have h2 := (S.obj L _ hL).1
          generalize hv : g.sv L = v at h2
          cases h2 with
          | sl0 => exact fin 0 _ _ _ _ (h1.1.trans hv) rfl
          | sle => exact fin 0 _ _ _ _ (h1.1.trans hv) rfl
          | sl => exact fin m _ _ _ _ (h1.1.trans hv) rfl
        · rename_i te bb e' s b m ln get hL
          subst hA
          obtain ⟨_, _, _, hxs, _, _⟩ := S.obj L _ hL
          rcases hxs.2 with ⟨h5, h6⟩ | ⟨k, cap, cur, h5, _⟩
          · subst h6; exact fin 0 _ _ _ _ (h1.1.trans h5) rfl
          · exact fin m _ _ _ _ (h1.1.trans h5) rfl
        · subst hA; exact hs.elim
      · subst hA; exact hs.elim
    · rename_i kt vt hu
      have finM : ∀ (m : Nat) (b : Nat) (es : Array MapEntry) (clock : Nat) (q : MQ) (F : List Int → Option (List Int)) (fp : List (Nat × Bool)) (A : OpAct), a.eval x = .map (some b) → w.heap[b]? = some (.map es clock) → moE q m F es clock →
          stepTo A i o.dst σ (σ.upd i o.dst fp (.int m) [] []) → Goal P nt B w0 h0 r n i o A σ a w Q := by
        intro m b es clock q F fp A hv hh hm hA
        obtain ⟨en, hen⟩ := hm
        have hsz : es.size = m := by
          have := congrArg List.length hen.ents
          simp only [List.length_map, Array.length_toList] at this
          rw [this, hen.size]
        refine fin_val S hd (by simp [hop]) (d := .int m) (v := .int .i64 m) (fp := fp) hA (fb hop ?_) (.int _ _) (lab_p _)
        simp only [builtin, Sem.run_bind, Builtin.len_]
        simp [hv, run_underlying hu, goInt, MapKept.run_getObj_map hh, hsz]
      split at hA
      · rename_i L hx
        obtain ⟨h1, _⟩ := cl_inv S hx
        split at hA
        · rename_i kt' vt' q m F hL
          subst hA
          obtain ⟨es, clock, hh, _, hm⟩ := S.obj L _ hL
          exact finM m _ es clock q F _ _ h1 hh hm rfl
        · subst hA; exact hs.elim
      · subst hA; exact hs.elim
    · subst hA; exact hs.elim
  · subst hA; exact hs.elim

theorem two_args {args : Array Operand} {ev : Operand → DV} {p q : DV} (h : args.toList.map ev = [p, q]) : ∃ x y, args = #[x, y] ∧ ev x = p ∧ ev y = q := by
  match hl : args.toList, h with
  | [x, y], h =>
    simp at h
    exact ⟨x, y, by rw [← Array.toArray_toList (xs := args), hl], h.1, h.2⟩
  | [], h => simp at h
  | [_], h => simp at h
  | _ :: _ :: _ :: _, h => simp at h

theorem act_max {o : Oper} {args : Array Operand} {ts : Array TypeId} {A : OpAct} (S : Sim P nt B w0 h0 g σ a w) (hd : okDst nt o.dst = true) (hop : o.op = .call { callee := .builtin .max, args, argTypes := ts })
    (hA : act P Γ o (evO σ.env) (lk σ.objs) = A) (hs : A.safe) : Goal P nt B w0 h0 r n i o A σ a w Q := by
  simp only [act, aMx, hop] at hA
  split at hA
  · rename_i k p k' q hargs
    subst hA
    obtain ⟨x, y, rfl, hx, hy⟩ := two_args hargs
    have h1 := int_inv S hx
    have h2 := int_inv S hy
    refine fin_val S hd (by simp [hop]) (d := .p (.int k (if q > p then q else p))) (v := .int k (if q > p then q else p)) (fp := []) rfl (fb hop ?_) (.int _ _) (lab_p _)
    simp [builtin, Builtin.max_, h1, h2, Builtin.max2]
  · subst hA; exact hs.elim

theorem act_min {o : Oper} {args : Array Operand} {ts : Array TypeId} {A : OpAct} (S : Sim P nt B w0 h0 g σ a w) (hd : okDst nt o.dst = true) (hop : o.op = .call { callee := .builtin .min, args, argTypes := ts })
    (hA : act P Γ o (evO σ.env) (lk σ.objs) = A) (hs : A.safe) : Goal P nt B w0 h0 r n i o A σ a w Q := by
  simp only [act, aMi, hop] at hA
  split at hA
  · rename_i k p k' q hargs
    subst hA
    obtain ⟨x, y, rfl, hx, hy⟩ := two_args hargs
    have h1 := int_inv S hx
    have h2 := int_inv S hy
    refine fin_val S hd (by simp [hop]) (d := .p (.int k (if q < p then q else p))) (v := .int k (if q < p then q else p)) (fp := []) rfl (fb hop ?_) (.int _ _) (lab_p _)
    simp [builtin, Builtin.min_, h1, h2, Builtin.min2]
  · subst hA; exact hs.elim
end
end Go.Pm
namespace Go.Pm
variable [DrawZ]
open Go.RowKit (Below)

section place
variable {P : Program}
def Ro {α : Type} (P : Program) (s : Sem α) : Prop := ∀ w a w', s.run P w = .ok a w' → w'.heap = w.heap
theorem bind_ok {α β : Type} {x : Sem α} {f : α → Sem β} {w w' : World} {b : β} (h : (x >>= f).run P w = .ok b w') : ∃ a w1, x.run P w = .ok a w1 ∧ (f a).run P w1 = .ok b w' := by
  rw [Sem.run_bind] at h
  cases hx : x.run P w with
  | ok a w1 => rw [hx] at h; exact ⟨a, w1, rfl, h⟩
  | halt e w1 => rw [hx] at h; cases h
theorem Ro.bind {α β : Type} {x : Sem α} {f : α → Sem β} (hx : Ro P x) (hf : ∀ a, Ro P (f a)) : Ro P (x >>= f) := by
  intro w b w' h
  obtain ⟨a, w1, h1, h2⟩ := bind_ok h
  exact (hf a w1 b w' h2).trans (hx w a w1 h1)
theorem Ro.pure {α : Type} (a : α) : Ro P (Pure.pure a : Sem α) := by
  intro w b w' h; simp at h; rw [h.2]
theorem Ro.halt {α : Type} (e : Halt) : Ro P (.halt e : Sem α) := by
  intro w b w' h; simp at h
theorem Ro.ite {α : Type} {c : Prop} [Decidable c] {x y : Sem α} (hx : Ro P x) (hy : Ro P y) : Ro P (if c then x else y) := by
  split
  · exact hx
  · exact hy
theorem Ro.load (a : Addr) (m : Mode) : Ro P (Go.load a m) := by
  intro w b w' h
  rw [run_load] at h
  split at h
  · simp at h; rw [h.2]
  · split at h
    · simp at h; rw [h.2]
    · cases h
theorem Ro.loadCellsFrom (a : Addr) : ∀ (n i : Nat) (acc : Array Value), Ro P (loadCellsFrom a i n acc)
  | 0, _, acc => Ro.pure acc
  | n + 1, i, acc => (Ro.load _ _).bind fun v => Ro.loadCellsFrom a n (i + 1) (acc.push v)
theorem Ro.firstCells (s n : Nat) (v : Value) : Ro P (Builtin.firstCells s n v) := by
  unfold Builtin.firstCells
  split
  · exact Ro.loadCellsFrom _ _ _ _
  · exact Ro.pure _
  · exact Ro.pure _
  · exact Ro.halt _
theorem Ro.typeInfo (t : TypeId) : Ro P (typeInfo t) := by
  intro w b w' h
  simp only [Go.typeInfo, Sem.run_bind, run_program, Result.andThen_ok] at h
  split at h
  · simp at h; rw [h.2]
  · simp at h
theorem Ro.zeroValue (t : TypeId) : Ro P (zeroValue t) := by
  refine (Ro.typeInfo t).bind fun _ => ?_
  split
  · exact Ro.pure _
  · exact Ro.halt _
theorem Ro.choose (q : Question) : Ro P (Go.choose q) := by
  intro w b w' h
  rw [run_choose] at h
  split at h
  · simp at h; rw [h.2]
  · simp at h; rw [← h.2]; rfl
theorem Ro.askRoom (m : Nat) : Ro P (askRoom m) := by
  intro w b w' h; simp at h; rw [h]

theorem Ro.program : Ro P program := by
  intro w b w' h; simp at h; rw [h.2]
theorem Ro.underlying (t : TypeId) : Ro P (underlying t) := by
  refine Ro.program.bind fun _ => ?_
  split
  · exact Ro.pure _
  · exact Ro.halt _
theorem Ro.sizeOf (t : TypeId) : Ro P (sizeOf t) := (Ro.typeInfo t).bind fun _ => Ro.pure _
theorem Ro.stuck {α : Type} (s : String) : Ro P (stuck s : Sem α) := Ro.halt _
theorem Ro.unsupported {α : Type} (s : Unsupported) : Ro P (unsupported s : Sem α) := Ro.halt _
theorem Ro.asIntOf (v : Value) : Ro P (asIntOf v) := by
  unfold Go.asIntOf
  split
  · exact Ro.pure _
  · exact Ro.unsupported _
  · exact Ro.stuck _
theorem Ro.asInt (v : Value) : Ro P (asInt v) := (Ro.asIntOf v).bind fun _ => Ro.pure _
theorem Ro.error {α : Type} (m : String) : Ro P (runtimePanic (.error m) : Sem α) := by
  refine Ro.program.bind fun _ => ?_
  exact Ro.halt _

theorem Ro.mark (m : Mark) : Ro P (mark m) := by
  intro w b w' h; simp at h; rw [h]
theorem Ro.shape (k : Nat) : Ro P (shape k) := by
  intro w b w' h; simp at h; rw [h.2]
theorem Ro.frozen (k : Addr) : Ro P (frozen k) := by
  intro w b w' h; simp at h; rw [h.2]
theorem Ro.holdsCells (k : Addr) (m : Nat) : Ro P (Builtin.holdsCells k m) := by
  refine (Ro.shape _).bind fun _ => ?_
  split
  · exact Ro.pure _
  · exact Ro.pure _
theorem Ro.mayShare (size sLen m : Nat) (base : Option Addr) (x : Value) : Ro P (Builtin.mayShare size sLen m base x) := by
  unfold Builtin.mayShare
  repeat' first
    | exact Ro.holdsCells _ _
    | exact Ro.frozen _
    | exact Ro.pure _
    | refine Ro.ite ?_ ?_
    | refine Ro.bind ?_ (fun _ => ?_)
    | split

def PL (P : Program) (base : Option Nat) (s : Sem Value) : Prop := ∀ w a w', s.run P w = .ok a w' → a.ownBlock = base ∨ a.ownBlock = some w.heap.size
theorem PL.bind {α : Type} {base : Option Nat} {x : Sem α} {f : α → Sem Value} (hx : Ro P x) (hf : ∀ a, PL P base (f a)) : PL P base (x >>= f) := by
  intro w b w' h
  obtain ⟨a, w1, h1, h2⟩ := bind_ok h
  have := hf a w1 b w' h2
  rwa [hx w a w1 h1] at this
theorem PL.ite {base : Option Nat} {c : Prop} [Decidable c] {x y : Sem Value} (hx : PL P base x) (hy : PL P base y) : PL P base (if c then x else y) := by
  split
  · exact hx
  · exact hy
theorem PL.halt {base : Option Nat} (e : Halt) : PL P base (.halt e) := by
  intro w b w' h; simp at h
theorem PL.pure {base : Option Nat} {v : Value} (h : v.ownBlock = base) : PL P base (Pure.pure v) := by
  intro w b w' h'; simp at h'; rw [← h'.1]; exact .inl h
theorem PL.then {α : Type} {base : Option Nat} {x : Sem α} {v : Value} (h : v.ownBlock = base) : PL P base (x >>= fun _ => Pure.pure v) := by
  intro w b w' h'
  obtain ⟨a, w1, _, h2⟩ := bind_ok h'
  simp at h2; rw [← h2.1]; exact .inl h
theorem PL.newRow {base : Option Nat} (e : TypeId) (C : Array Value) (m c : Nat) : PL P base (newRow e C >>= fun a => Pure.pure (Value.slice (some a) m c)) := by
  intro w b w' h
  simp [Go.newRow] at h
  rw [← h.1]; exact .inr rfl

theorem append_place {t ty : TypeId} {base ad : Option Addr} {sLen sCap m c : Nat} : PL P (base.map (·.block)) (Builtin.append_ #[t, t] ty #[.slice base sLen sCap, .slice ad m c]) := by
  unfold Builtin.append_
  simp only [List.getElem?_toArray, List.getElem?_cons_zero, List.getElem?_cons_succ]
  repeat' first
    | exact PL.newRow _ _ _ _
    | exact PL.pure (by first | rfl | (cases base <;> rfl))
    | exact PL.then (by first | rfl | (cases base <;> rfl))
    | exact PL.halt _
    | exact Ro.underlying _
    | exact Ro.sizeOf _
    | exact Ro.typeInfo _
    | exact Ro.zeroValue _
    | exact Ro.firstCells _ _ _
    | exact Ro.choose _
    | exact Ro.askRoom _
    | exact Ro.asInt _
    | exact Ro.error _
    | exact Ro.unsupported _
    | exact Ro.stuck _
    | exact Ro.pure _
    | exact Ro.mark _
    | exact Ro.mayShare _ _ _ _ _
    | refine PL.ite ?_ ?_
    | refine Ro.ite ?_ ?_
    | refine PL.bind ?_ (fun _ => ?_)
    | refine Ro.bind ?_ (fun _ => ?_)
    | split

theorem viewStore_drawn {w : World} {at_ : Addr} {u : TypeId} {k : Addr} {v : Value} {b : Bool} {r : World × List Addr} (h : w.viewStore P at_ u k v b = .ok r) : r.1.drawn = w.drawn := by
  unfold World.viewStore at h
  simp only [bind, Except.bind, pure, Except.pure] at h
  repeat' first
    | (cases h; done)
    | (simp only [Except.ok.injEq] at h; rw [← h]; done)
    | split at h
theorem farStore_drawn {w : World} {a : Addr} {v : Value} {b : Bool} {r : World × List Addr} (h : w.farStore P a v b = .ok r) : r.1.drawn = w.drawn := by
  unfold World.farStore at h
  split at h
  · split at h
    · rename_i e; simp only [Except.ok.injEq] at h; rw [← h]; exact viewStore_drawn e
    · cases h
  · cases h
theorem ask_drawn {α : Type} : ∀ (q : Ask α) (w : World), w.drawn ≤ (w.ask q).2.drawn
  | .done a, w => by simp [World.ask]
  | .ask what range k, w => by
    simp only [World.ask]
    split
    · exact ask_drawn _ _
    · exact Nat.le_trans (Nat.le_succ w.drawn) (ask_drawn (k _) { w with drawn := w.drawn + 1 })
theorem sys_drawn (w : World) (c : Sys) : w.drawn ≤ (w.sys c).2.drawn := by
  have h := ask_drawn (Kernel.perform c w.os) w
  unfold World.sys
  split
  · exact Nat.le_refl _
  · rename_i e; rw [e] at h; exact h
theorem drawn_le {α : Type} : ∀ (s : Sem α) (w : World) (x : α) (w' : World), s.run P w = .ok x w' → w.drawn ≤ w'.drawn
  | .pure a, w, x, w', h => by simp only [Sem.run, Result.ok.injEq] at h; rw [h.2]; exact Nat.le_refl _
  | .load m a k, w, x, w', h => by
    simp only [Sem.run] at h
    split at h
    · exact drawn_le _ _ _ _ h
    · split at h
      · exact drawn_le _ _ _ _ h
      · cases h
  | .store m a v k, w, x, w', h => by
    have fin : ∀ w1, w1.drawn = w.drawn → k.run P w1 = .ok x w' → w.drawn ≤ w'.drawn := fun w1 e h => by rw [← e]; exact drawn_le _ _ _ _ h
    cases v with
    | agg cs => simp only [Sem.run] at h; cases h
    | tuple cs => simp only [Sem.run] at h; cases h
    | _ =>
      simp only [Sem.run] at h
      split at h
      · split at h
        · cases h
        · refine fin _ ?_ h; rfl
      · split at h
        · rename_i e; refine fin _ ?_ h; exact farStore_drawn e
        · cases h
  | .new o k, w, x, w', h => by simp only [Sem.run] at h; have := drawn_le _ _ _ _ h; exact this
  | .shape r k, w, x, w', h => by simp only [Sem.run] at h; exact drawn_le _ _ _ _ h
  | .freeze a n k, w, x, w', h => by
    simp only [Sem.run] at h
    have := drawn_le _ _ _ _ h
    have e : (w.freeze a n).drawn = w.drawn := by unfold World.freeze; split <;> rfl
    rwa [e] at this
  | .frozen a k, w, x, w', h => by simp only [Sem.run] at h; exact drawn_le _ _ _ _ h
  | .getObj r k, w, x, w', h => by
    simp only [Sem.run] at h
    split at h
    · cases h
    · exact drawn_le _ _ _ _ h
    · cases h
  | .setObj r o k, w, x, w', h => by
    simp only [Sem.run] at h
    split at h
    · cases h
    · have := drawn_le _ _ _ _ h; exact this
    · cases h
  | .choose q k, w, x, w', h => by
    simp only [Sem.run] at h
    split at h
    · exact drawn_le _ _ _ _ h
    · have := drawn_le _ _ _ _ h
      exact Nat.le_trans (Nat.le_succ _) this
  | .sys c k, w, x, w', h => by
    simp only [Sem.run] at h
    have := drawn_le _ _ _ _ h
    exact Nat.le_trans (sys_drawn w c) this
  | .program k, w, x, w', h => by simp only [Sem.run] at h; exact drawn_le _ _ _ _ h
  | .mark m k, w, x, w', h => by simp only [Sem.run] at h; exact drawn_le _ _ _ _ h
  | .halt e, w, x, w', h => by simp only [Sem.run] at h; cases h
end place
end Go.Pm
