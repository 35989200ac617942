/- Part 1: framework, functions, plain laws. -/
import Derived.CallsIn
import Derived.Laws.AppendOwn
import Derived.Laws.Rows
import Derived.Laws.Cells
import Derived.Below
import Derived.DefersIn
import Derived.Laws.World
import Derived.Laws.StructEq
import Derived.MapKept
import Derived.Laws.AppendOwnNone
set_option linter.all false
noncomputable section
namespace Go.Pm
def bV:=@Option.some.injEq
def dC:=@decide_eq_true
def dR:=@decide_eq_false
def dX:=@List.mem_append
def gm:=@Int.toNat_natCast
def gq:=@Bool.and_eq_true
def jW:=@List.mem_cons_of_mem
def dN:=@cond_false
def lH:=@Nat.eq_of_beq_eq_true
def gJ:=@Prod.mk.injEq
def dO:=@cond_true
def kX:=@List.mem_cons_self
def lN:=@List.mem_singleton
def lQ:=@decide_eq_true_eq
def yA:=@Array.getD_eq_getD_getElem?
def lU:=@List.mem_flatMap
def oC:=@List.flatMap_cons
def kS:=@List.mem_cons
def Au:=@List.getElem?_eq_getElem
def Bl:=@List.getElem?_eq_some_iff
def kD:=@Nat.le_refl
def J9:=@Int.mul_le_mul_of_nonneg_right
def nX:=@List.map_cons
def zQ:=@List.all_eq_true
def eY:=@if_pos
def Bo:=@List.length_cons
def fH:=@if_neg
def jX:=@congrArg
def Ko:=@List.mem_of_getElem?
def uV:=@List.mem_map
def uX:=@Int.le_of_lt
def VD:=@Array.getElem?_eq_some_iff
def H6:=@Bool.not_eq_true'
def Jn:=@List.getElem?_take
def Jo:=@List.length_append
def ui:=@Nat.zero_le
def FV:=@List.cons.injEq
def RJ:=@Nat.mul_le_mul_right
def Zw:=@Option.map_eq_some_iff
def ZH:=@List.getElem?_cons_succ
def Jp:=@List.mem_range
def FN:=@Nat.le_trans
def dqQ:=@decide_eq_false_iff_not
def I5:=@Bool.true_and
def I7:=@Bool.not_true
def ZI:=@List.getElem?_of_mem
def RN:=@List.getElem_mem
def dqV:=@Int.le_of_mul_le_mul_right
def PS:=@Option.some.inj
def PT:=@List.nil_append
def PU:=@List.map_append
def dqZ:=@List.range_eq_range'
def RP:=@Nat.not_lt_zero
def RQ:=@List.length_nil
def RU:=@Option.map_some
def RV:=@List.mem_filter
def dq4:=@Int.mul_le_mul_of_nonneg_left
def dq5:=@Array.getElem?_append_left
def Kq:=@decide_false
def Zx:=@List.length_drop
def VE:=@Bool.or_eq_true
def VF:=@List.foldl_cons
def qda:=@List.map_congr_left
def VG:=@Bool.eq_iff_iff
def qdc:=@List.take_of_length_le
def qdd:=@List.getElem?_map
def ZJ:=@List.range'_succ
def O3:=@Nat.zero_add
def RX:=@Int.lt_irrefl
def qdh:=@List.mem_or_eq_of_mem_set
def qdi:=@List.pairwise_iff_getElem
def qdj:=@Array.toArray_toList
def qdk:=@List.ext_getElem?
def qdl:=@List.getElem?_drop
def qdm:=@List.getElem?_eq_none
def qdn:=@List.length_map
def qdo:=@of_decide_eq_true
def qdp:=@Nat.succ_le_of_lt
def ZK:=@Bool.and_false
def ZL:=@Bool.false_and
def Vr:=@Nat.succ_mul
def qdt:=@List.pairwise_append
def qdu:=@List.nodup_cons
def qdv:=@Nat.lt_trichotomy
def qdw:=@Bool.false_eq_true
def qdx:=@Nat.lt_of_lt_of_le
def qdy:=@List.pairwise_cons
def qdz:=@Nat.ne_of_beq_eq_false
def qdA:=@Classical.byContradiction
def qdB:=@List.length_take
def qdC:=@List.eq_nil_of_length_eq_zero
def qdD:=@List.getElem_of_mem
def qdE:=@List.getElem?_cons_zero
def Vs:=@Nat.ble_eq
def qdG:=@Int.tdiv_eq_ediv_of_nonneg
def qdH:=@Array.getElem?_setIfInBounds_ne
def qdI:=@List.any_eq_false
def qdJ:=@Array.getElem?_eq_getElem
def qdK:=@Nat.mul_comm
def Zy:=@beq_iff_eq
def qdM:=@Option.getD_some
def qdN:=@List.filter_cons
def qdO:=@List.map_map
def qdP:=@Nat.lt_or_ge
def qdQ:=@Bool.not_false
def qdR:=@List.flatMap_append
def qdS:=@beq_eq_false_iff_ne
def qdT:=@List.cons_append
def qdU:=@Nat.le_of_ble_eq_true
def qdV:=@Int.lt_or_le
def qdW:=@List.mem_append_left
def qdX:=@Int.mul_tdiv_cancel_left
def qdY:=@List.map_nil
def qdZ:=@List.all_cons
def qd0:=@Int.mul_nonneg
def PW:=@if_true
def qd2:=@Array.getElem?_setIfInBounds
def qd3:=@Nat.add_zero
def qd4:=@List.contains_iff_mem
def qd5:=@List.length_filter_le
def qd6:=@Bool.or_eq_false_iff
def qd7:=@Int.ediv_emod_unique
def qd8:=@if_false
def qd9:=@List.flatMap_map
def qja:=@Array.length_toList
def qjb:=@List.getElem?_range
def VH:=@Iff.rfl
def qjd:=@Int.add_mul
def qje:=@List.mem_map_of_mem
def qjf:=@Nat.blt_eq
def qjg:=@List.headD_cons
def qjh:=@List.filter_append
def qji:=@List.length_eq_zero_iff
def qjj:=@Array.getElem?_eq_none
def qjk:=@Int.mul_neg
def qjl:=@Int.le_refl
def qjm:=@List.take_append_drop
def qjn:=@List.mem_append_right
def qjo:=@Array.toList_map
def qjp:=@beq_self_eq_true
def qjq:=@List.not_mem_nil
def qjr:=@Bool.not_eq_true
def qjs:=@List.getElem?_set_ne
def qjt:=@Nat.add_assoc
def qju:=@Bool.and_true
def qjv:=@List.map_id
def qjw:=@Int.mul_lt_mul_of_pos_right
def qjx:=@List.range_succ
def qjy:=@List.find?_cons
def qjz:=@Nat.add_sub_cancel
def qjA:=@Nat.eq_zero_or_pos
def qjB:=@Int.le_total
def qjC:=@getElem!_pos
def qjD:=@List.nodup_nil
def qjE:=@List.mapM_cons
def qjF:=@Array.mapM_eq_mapM_toList
def qjG:=@List.getElem?_append_left
def qjH:=@List.mem_of_find?_eq_some
def qjI:=@List.getElem?_set
def qjJ:=@List.nodup_append
def qjK:=@Nat.lt_of_succ_le
def qjL:=@List.filter_congr
def qjM:=@List.pairwise_map
def qjN:=@Bool.and_self
def qjO:=@Ne.symm
def qjP:=@Int.mul_sub
def qjQ:=@List.any_eq_true
def qjR:=@List.getElem?_set_self
def qjS:=@Array.getElem?_modify
def qjT:=@List.getElem?_toArray
def qjU:=@Nat.ble_eq_true_of_le
def qjV:=@Bool.or_true
def qjW:=@Int.le_trans
def qjX:=@Int.emod_add_mul_ediv
def qjY:=@List.Perm.of_eq
def qjZ:=@or_congr
def qj0:=@Nat.div_lt_of_lt_mul
def qj1:=@List.filter_eq_self
def qj2:=@bne_eq_false_iff_eq
def qj3:=@Int.neg_mul
def qj4:=@Int.mul_pos
def qj5:=@Int.sub_mul
def qj6:=@List.length_pos_iff
def qj7:=@congrFun
def qj8:=@List.range'_concat
def qj9:=@Int.emod_lt_of_pos
def jqa:=@List.find?_eq_none
def jqb:=@Array.all_eq_true_iff_forall_mem
def jqc:=@Array.toList_push
def jqd:=@List.foldl_append
def jqe:=@Int.lt_trichotomy
def jqf:=@List.map_set
def jqg:=@Int.mul_zero
def jqh:=@Nat.gcd_comm
def jqi:=@Option.bind_some
def jqj:=@Nat.mod_eq_of_lt
def jqk:=@decide_eq_decide
def jql:=@List.ext_getElem
def jqm:=@and_true
def jqn:=@Nat.div_add_mod
def jqo:=@Nat.mul_add_mod
def jqp:=@Int.le_antisymm
def jqq:=@Int.one_mul
def jqr:=@Int.emod_nonneg
def jqs:=@Int.ediv_mul_le
def jqt:=@Int.mul_ne_zero
def jqu:=@Array.getElem?_eq_none_iff
def jqv:=@Int.eq_of_mul_eq_mul_right
def jqw:=@Int.lt_of_mul_lt_mul_right
def jqx:=@List.getD_eq_getElem?_getD
def jqy:=@List.getElem?_zip_eq_some
def jqz:=@List.extract_eq_take_drop
def jqA:=@Nat.mul_le_mul
def jqB:=@Int.natAbs_mul
def jqC:=@Option.isSome_iff_exists
def jqD:=@Int.not_lt
def jqE:=@List.Perm.eq_of_pairwise
def jqF:=@Bool.false_or
def jqG:=@or_false
def jqH:=@Bool.and_comm
def jqI:=@Nat.lt_irrefl
def jqJ:=@Int.eq_ofNat_of_zero_le
def jqK:=@List.pairwise_singleton
def jqL:=@Prod.ext
def jqM:=@List.pairwise_lt_range
def jqN:=@List.length_pos_of_mem
def jqO:=@Bool.and_eq_false_iff
def jqP:=@List.set_getElem_self
def jqQ:=@Nat.zero_mul
def jqR:=@Nat.sub_zero
def jqS:=@Nat.add_comm
def jqT:=@List.singleton_append
def jqU:=@Array.getElem?_toList
def jqV:=@Bool.or_self
def jqW:=@Bool.true_or
def jqX:=@Int.natAbs_dvd_natAbs
def jqY:=@Bool.not_not
def jqZ:=@Int.mul_comm
def jq0:=@List.mem_of_mem_drop
def jq1:=@List.mem_of_mem_take
def jq2:=@List.extract_toArray
def jq3:=@List.Pairwise.filter
theorem omY{p:Prop}(h:p:=by omega):p:=h
inductive KF where
  | one
  | ints
instance KF.dec:DecidableEq KF:=λa b=>match a,b with|.one,.one=>isTrue rfl|.ints,.ints=>isTrue rfl|.one,.ints=>isFalse (λh=>by cases h)|.ints,.one=>isFalse (λh=>by cases h)
abbrev MQ:=KF×Nat×Bool×List (Option IntKind)
inductive PV where
  | bool (b:Bool)
  | int (k:IntKind) (n:Int)
  | nilp
  | nilf
  | nilm
  | nils
  | fp (cells:List PV) (off:Nat)
  | sl (len size:Nat) (get:Nat->List PV)
  | fn (f:FuncId) (first caps:List PV)
  | fna (f:FuncId) (cells:List PV)
def smB:Nat→PV→PV→Bool
  | 0,_,_=>false
  | d+1,x,y=>match x,y with|.int k _,.int k' _=>decide (k=k')|.bool _,.bool _=>true|.sl _ s g,.sl _ s' g'=>Nat.beq s s'&&(Nat.beq (g 0).length (g' 0).length&&((g 0).zip (g' 0)).all λz=>smB d z.1 z.2)|.fp l o,.fp l' o'=>Nat.beq o o'&&(Nat.beq l.length l'.length&&(l.zip l').all λz=>smB d z.1 z.2)|.nils,.nils=>true|.nilp,.nilp=>true|.nilf,.nilf=>true|.nilm,.nilm=>true|_,_=>false
def smL(l m:List PV):Bool:=Nat.beq l.length m.length&&(l.zip m).all λz=>smB 8 z.1 z.2
inductive uj where
  | v (v:PV)
  | b (L:Nat)
inductive Cl where
  | p (v:PV)
  | ptr (L off:Nat)
  | vptr (L size i k:Nat)
  | vec (L:Nat)
  | mo (L:Nat)
  | clo (f:FuncId) (caps:List uj)
  | undef
  | junk
  | dead (L:Nat)
inductive D1 where
  | c (x:Cl)
  | agg (cs:List Cl)
inductive DV where
  | one (d:D1)
  | tup (ds:List D1)
inductive AO where
  | box (ty:Nat) (cells:List Cl)
  | fbox (cells:List PV)
  | vec (ety size bytes len:Nat) (get:Nat->List PV)
  | fvec (size len:Nat) (get:Nat->List PV)
  | vv (te bb ety size bytes len:Nat) (ln:Nat->Nat) (get:Nat->Nat->List PV)
  | vt (te bb ety size bytes len:Nat) (ln:Nat->Nat) (get:Nat->Nat->List PV) (hole:Nat)
  | mo (kt vt:Nat) (q:MQ) (n:Nat) (F:List Int->Option (List Int))
  | gone
inductive PA where
  | one (v:PV)
  | agg (cs:List PV)
structure ae (ρ : Type) where
  T:{A:Type}->(ρ->Option A)->Option A
  nat:∀{A:Type}(k:ρ->Option A),T k=(T some).bind k
abbrev ae.o{ρ:Type}(c:ae ρ):Option ρ:=c.T some
def ae.no{ρ:Type}:ae ρ:=⟨λ_=>none,λ_=>rfl⟩
def ae.ok{ρ:Type}(r:ρ):ae ρ:=⟨λk=>k r,λ_=>rfl⟩
inductive FW where
  | none
  | clone (ety size bytes:Nat)
  | sort (ety size bytes:Nat)
  | mkv (e s b:Nat) (F:List PA->ae (Nat×(Nat->List PV)×List PV))
  | grow (e s b:Nat) (F:List PA->Nat->(Nat->List PV)->ae (Nat×(Nat->List PV)))
inductive XC where
  | p (v:PV)
  | vec (e s b n:Nat) (get:Nat->List PV)
  | mo (kt vt:Nat) (q:MQ) (n:Nat) (F:List Int->Option (List Int))
  | slf (f:FuncId) (np n:Nat)
inductive XA where
  | d (a:PA)
  | box (ty:Nat) (cells:List XC)
abbrev MK:=List XA->ae (List PA×List XA)
structure bK where
  fn:FuncId->List PA->ae (List PA)
  own:FuncId->FW
  it:FuncId->List PA->ae (List (List PA))
  vv:Nat->Bool
  mt:FuncId->Option MK
  cfn:FuncId->List PA->ae (List PA)
def lk{α:Type}:List (Nat×α)→Nat→Option α
  | [],_=>none
  | (k,a)::r,n=>match Nat.beq k n with|true=>some a|false=>lk r n
structure St where
  env:List (Nat×DV)
  ay:List (Nat×AO)
  log:List (Nat×Nat×Nat)
abbrev DV.p(v:PV):DV:=.one (.c (.p v))
abbrev DV.int(n:Int):DV:=.one (.c (.p (.int .i64 n)))
abbrev DV.bool(b:Bool):DV:=.one (.c (.p (.bool b)))
abbrev DV.cl(x:Cl):DV:=.one (.c x)
abbrev DV.junk:DV:=.one (.c .junk)
def wP:Value→Option PV|.bool b=>some (.bool b)|.int k n=>some (.int k n)|.pointer none=>some .nilp|.slice none 0 0=>some .nils|.nilFunc=>some .nilf|.map none=>some .nilm|_=>none
def jJ:List Value→Option (List Cl)
  | []=>some []
  | v::r=>match wP v,jJ r with|some x,some l=>some (.p x::l)|_,_=>none
def PX(v:Value):DV :=
 match v with
 | .agg cs=>match jJ cs.toList with|some l=>.one (.agg l)|none=>.junk
 | v=>match wP v with|some x=>.p x|none=>.junk
def fV(env:List (Nat×DV)):Operand→DV
  | .tmp t=>match lk env t with|some d=>d|none=>.junk
  | .const v=>PX v
  | .func f=>.p (.fn f [] [])
  | .global _=>.junk
section
variable(P:Program)
def qI(t:TypeId):Option Nat:=(P.info? t).map (·.size)
def jK(t:TypeId):Option Bool:=(P.underlying t).map fun
  | .struct _=>true
  | .array _ _=>true
  | _=>false
def iw(t:TypeId):Option (List Cl) :=
 match P.info? t with
 | some i=>match i.zero with
  | some z=>match jJ z.cells.toList with
   | some l=>if l.length=i.size then some l else none
   | none=>none
  | none=>none
 | none=>none
end
def D1.cells:D1→List Cl|.c x=>[x]|.agg cs=>cs
def spl{α:Type}:List α→Nat→List α→List α|l,_,[]=>l|l,off,x::r=>spl (l.set off x) (off+1) r
def kJ:List Cl→Option (List PV)
  | []=>some []
  | .p v::r=>match kJ r with|some l=>some (v::l)|none=>none
  | _=>none
def Aw(ob:Nat→Option AO):Cl→Option (PV×List (Nat×AO))
  | .p v=>some (v,[])
  | .vec L=>match ob L with|some (.vec _ size _ len get)=>some (.sl len size get,[(L,.fvec size len get)])|some (.fvec size len get)=>some (.sl len size get,[])|some (.vv _ _ _ size _ n ln get)=>some (.sl n 1 (λi=>[.sl (ln i) size (get i)]),[(L,.fvec 1 n (λi=>[.sl (ln i) size (get i)]))])|_=>none
  | _=>none
def jL(ob:Nat→Option AO):List Cl→Option (List PV×List (Nat×AO))
  | []=>some ([],[])
  | x::r=>match Aw ob x,jL ob r with|some (v,u),some (l,us)=>some (v::l,u++us)|_,_=>none
def O4(ob:Nat→Option AO):Cl→Option (PV×List (Nat×AO))
  | .ptr L off=>match ob L with
    | some (.box _ cells)=>match jL ob cells with|some (l,us)=>some (.fp l off,us++[(L,.fbox l)])|none=>none
    | some (.fbox l)=>some (.fp l off,[])
    | _=>none
  | x=>Aw ob x
def nY(ob:Nat→Option AO):List Cl→Option (List PV×List (Nat×AO))
  | []=>some ([],[])
  | x::r=>match O4 ob x,nY ob r with|some (v,u),some (l,us)=>some (v::l,u++us)|_,_=>none
def Kr(ob:Nat→Option AO):Cl→Option (PV×List (Nat×AO))
  | .ptr L off=>match ob L with
    | some (.box _ cells)=>match nY ob cells with|some (l,us)=>some (.fp l off,us++[(L,.fbox l)])|none=>none
    | some (.fbox l)=>some (.fp l off,[])
    | _=>none
  | x=>Aw ob x
def tu(ob:Nat→Option AO):List Cl→Option (List PV×List (Nat×AO))
  | []=>some ([],[])
  | x::r=>match Kr ob x,tu ob r with|some (v,u),some (l,us)=>some (v::l,u++us)|_,_=>none
def zem:uj→Cl|.v v=>.p v|.b L=>.ptr L 0
def frz(ob:Nat→Option AO):Cl→Option (PV×List (Nat×AO))
  | .clo f caps=>match tu ob (caps.map zem)with|some (l,us)=>some (.fn f [] l,us)|none=>none
  | x=>Kr ob x
def uk(ob:Nat→Option AO):List Cl→Option (List PV×List (Nat×AO))
  | []=>some ([],[])
  | x::r=>match frz ob x,uk ob r with|some (v,u),some (l,us)=>some (v::l,u++us)|_,_=>none
def Az(ob:Nat→Option AO):DV→Option (PA×List (Nat×AO))
  | .one (.c x)=>match frz ob x with|some (v,u)=>some (.one v,u)|none=>none
  | .one (.agg cs)=>match uk ob cs with|some (l,u)=>some (.agg l,u)|none=>none
  | _=>none
def iO(ob:Nat→Option AO):List DV→Option (List PA×List (Nat×AO))
  | []=>some ([],[])
  | x::r=>match Az ob x,iO ob r with|some (v,u),some (l,us)=>some (v::l,u++us)|_,_=>none
def lV:List uj→List Nat|[]=>[]|.v _::r=>lV r|.b L::r=>L::lV r
def bC:Cl→List Nat|.ptr L _=>[L]|.vptr L _ _ _=>[L]|.vec L=>[L]|.mo L=>[L]|.clo _ caps=>lV caps|.dead L=>[L]|_=>[]
def dD:D1→List Nat|.c x=>bC x|.agg cs=>cs.flatMap bC
def cO:DV→List Nat|.one d=>dD d|.tup ds=>ds.flatMap dD
def dW:AO→List Nat|.box _ cs=>cs.flatMap bC|_=>[]
def bJ(ob:Nat->Option AO)(d:DV):List Nat :=
 (cO d).flatMap λL=>L::match ob L with
  | some o=>(dW o).flatMap λM=>M::match ob M with|some o'=>dW o'|none=>[]
  | none=>[]
def Jq:PA→D1|.one v=>.c (.p v)|.agg cs=>.agg (cs.map .p)
def resD:List PA→DV|[x]=>.one (Jq x)|l=>.tup (l.map Jq)
structure CP where
  p:Prop
  b:Bool
  h:b=true->p
instance cpOf(p:Prop)[Decidable p]:CoeDep Prop p CP:=⟨⟨p,decide p,of_decide_eq_true⟩⟩
inductive aH : Type 1 where
  | no
  | val (fp:List (Nat×Bool)) (d:DV) (u:List (Nat×AO)) (kill:List Nat)
  | chk (fp:List (Nat×Bool)) (safe:CP) (d:DV) (u:List (Nat×AO)) (kill:List Nat)
def jV:PV→Bool|.bool _=>true|.int _ _=>true|_=>false
def zhy:PA→Bool|.one v=>jV v|.agg cs=>cs.all jV
def VJ(l:List PA):Bool:=l.all zhy
def rd(l:List Nat):List (Nat×Bool):=l.map λL=>(L,false)
def wr(l:List Nat):List (Nat×Bool):=l.map λL=>(L,true)
def sc2(l:List PV):Bool:=l.all jV&&Nat.ble 2 l.length
def zhz:List PV→Bool|a::b::r=>!(jV a&&jV b)&&zhz (b::r)|_=>true
def zu7:Nat×AO→Bool|(_,.fbox l)=>zhz l|(_,.gone)=>true|_=>false
def zb0:List (Nat×AO)→Bool|[(_,.fbox l),(_,.fbox [.fp _ _])]=>l.all λv=>!jV v|_=>false
inductive Anch:PV→Prop
  | scal (v:PV) (h:jV v=true):Anch v
  | nils:Anch .nils
  | sl (n s:Nat) (get:Nat->List PV) (h:∀i:Nat,∃(j:Nat)(x:PV),(get i)[j]? = some x/\jV x=true) (h2:∀(i:Nat)(x:PV),x∈get i->Anch x):Anch (.sl n s get)
def AY:Nat→PV→Bool
  | 0,_=>false
  | d+1,v=>match v with|.nils=>true|.sl _ _ g=>(g 0).any jV&&(g 0).all (AY d)|v=>jV v
def VK(u:List (Nat×AO))(r:List PA):Bool:=match r,u with
 | [.one (.sl n s get)],_::_=>match sc2 (get 0)with|true=>u.all zu7|false=>zb0 u&&AY 8 (.sl n s get)
 | _,_=>false
def lS(jA:List Nat)(u:List (Nat×AO))(r:List PA):aH :=
 match VJ r||VK u r with|true=>.val (rd jA) (resD r) [] []|false=>.val (wr jA) (resD r) u []
def oD(isAgg:Bool)(n:Nat)(cells:List Cl)(off:Nat):Option D1 :=
  match isAgg with
  | true => let l := (cells.drop off).take n
    match Nat.beq l.length n with|true=>some (.agg l)|false=>none
  | false=>match cells[off]? with|some x=>some (.c x)|none=>none
def D1.isAgg:D1→Bool|.c _=>false|.agg _=>true
def C9:Cl→Bool|.junk=>false|.undef=>false|.dead _=>false|_=>true
def nS:Cl→List Nat|.vptr L _ _ _=>[L]|.vec L=>[L]|.dead L=>[L]|.mo L=>[L]|_=>[]
def ul:D1→List Nat|.c x=>nS x|.agg cs=>cs.flatMap nS
def mg:DV→List Nat|.one d=>ul d|.tup ds=>ds.flatMap ul
def qh:AO→List Nat|.box _ cs=>cs.flatMap nS|_=>[]
def appG(n:Nat)(get new:Nat->List PV):Nat->List PV :=
 λj=>match Nat.ble n j with|true=>new (j-n)|false=>get j
def Dc(i k:Nat)(get:Nat->List PV)(new:List PV):Nat->List PV :=
 λj=>match Nat.beq j i with|true=>spl (get j) k new|false=>get j
def I8(f:PV→PV→PV):List PV→List PV→List PV|[],_=>[]|x::r,l=>f x (l.headD .nilp)::I8 f r l.tail
def shp:Nat→PV→PV→PV
  | 0,_,b=>b
  | d+1,a,b=>match a with
    | .int k _=>.int k (match b with | .int _ n=>n|_=>0)
    | .bool _=>.bool (match b with | .bool x=>x|_=>false)
    | .sl _ s g=>.sl (match b with | .sl n _ _=>n|_=>0) s (λi=>I8 (shp d) (g 0) (match b with | .sl _ _ g'=>g' i|_=>[]))
    | .fp l o=>.fp (I8 (shp d) l (match b with | .fp l' _=>l'|_=>[])) o
    | a=>a
def nzG(row:List PV)(g:Nat->List PV):Nat->List PV:=λi=>I8 (shp 8) row (g i)
def zx4(row:List PV)(g:Nat->Nat->List PV):Nat->Nat->List PV:=λi j=>I8 (shp 8) row (g i j)
def AZ(b:Bool)(x y:DV):DV :=
 match x,y with
 | .one (.c (.p (.bool a))),.one (.c (.p (.bool c)))=>.bool (match b with|true=>a|false=>c)
 | x,y=>match b with|true=>x|false=>y
def zoj(k:IntKind)(a b:Int):Int:=k.wrap (a*2^(min b.toNat k.bits))
def I9(k:IntKind)(a b:Int):Int:=a.fdiv (2^(min b.toNat k.bits))
def zGH(k:IntKind)(a b:Int):Int:=k.wrap (BitVec.ofInt k.bits a &&& BitVec.ofInt k.bits b).toNat
def orW(k:IntKind)(a b:Int):Int:=k.wrap (BitVec.ofInt k.bits a ||| BitVec.ofInt k.bits b).toNat
def zGI(k:IntKind)(a b:Int):Int:=k.wrap (BitVec.ofInt k.bits a ^^^ BitVec.ofInt k.bits b).toNat
def zb1(k:IntKind)(a b:Int):Int:=k.wrap (BitVec.ofInt k.bits a &&& ~~~ BitVec.ofInt k.bits b).toNat
def zhA(op:BinOp)(k:IntKind)(a b:Int):aH :=
 match op with|.shl=>.chk [] (0<=b) (.p (.int k (zoj k a b))) [] []|.shr=>.chk [] (0<=b) (.p (.int k (I9 k a b))) [] []|_=>.no
def VL(op:BinOp)(k:IntKind)(a b:Int):aH :=
 match op with|.shl=>.chk [] (0<=b) (.p (.int k (zoj k a b))) [] []|.shr=>.chk [] (0<=b) (.p (.int k (I9 k a b))) [] []|.and=>.val [] (.p (.int k (zGH k a b))) [] []|.or=>.val [] (.p (.int k (orW k a b))) [] []|.xor=>.val [] (.p (.int k (zGI k a b))) [] []|.andNot=>.val [] (.p (.int k (zb1 k a b))) [] []|.add=>.val [] (.p (.int k (k.wrap (a+b)))) [] []|.sub=>.val [] (.p (.int k (k.wrap (a-b)))) [] []|.mul=>.val [] (.p (.int k (k.wrap (a*b)))) [] []|.quo=>.chk [] (b≠0) (.p (.int k (k.wrap (a.tdiv b)))) [] []|.rem=>.chk [] (b≠0) (.p (.int k (a.tmod b))) [] []|.eql=>.val [] (.bool (a==b)) [] []|.neq=>.val [] (.bool (a != b)) [] []|.lss=>.val [] (.bool (decide (a<b))) [] []|.leq=>.val [] (.bool (decide (a<=b))) [] []|.gtr=>.val [] (.bool (decide (a>b))) [] []|.geq=>.val [] (.bool (decide (a>=b))) [] []
def Kt:List Cl→Option (List Int)
  | []=>some []
  | .p (.int .i64 a)::r=>match Kt r with|some l=>some (a::l)|none=>none
  | _=>none
def zx5(Γ:bK):Option Nat→Bool|some t=>Γ.vv t|none=>false
def FW.on:FW→Bool|.none=>false|_=>true
variable(P:Program)(Γ:bK)
def eqT:Nat→TypeId→D1→D1→Option Bool
  | 0,_,_,_=>none
  | d+1,t,x,y =>
    match P.underlying t with
    | some .bool=>match x,y with|.c (.p (.bool a)),.c (.p (.bool b))=>some (a==b)|_,_=>none
    | some (.int _)=>match x,y with
      | .c (.p (.int k a)),.c (.p (.int k' b))=>if k=k' then some (a==b)else none
      | _,_=>none
    | some (.struct fs)=>match x,y,P.stoodInHeld t with
      | .agg xs,.agg ys,false=>fs.toList.foldr (λf acc =>
          match acc, f.name != "_", jK P f.type, qI P f.type with
          | some r,true,some ag,some n=>match oD ag n xs f.offset,oD ag n ys f.offset with
            | some a,some b=>match eqT d f.type a b with
              | some e=>some (match e with|true=>r|false=>false)
              | none=>none
            | _,_=>none
          | _,_,_,_=>none) (some true)
      | _,_,_=>none
    | _=>none
def zb2(op:BinOp)(t:TypeId)(cs ds:List Cl):aH :=
 match P.eqGuardType P.depth t,eqT P 8 t (.agg cs) (.agg ds)with
 | false,some r=>match op with|.eql=>.val [] (.bool r) [] []|.neq=>.val [] (.bool (!r)) [] []|_=>.no
 | _,_=>.no
def lu:Nat→TypeId→Option Nat
  | 0,_=>none
  | d+1,t =>
    match P.underlying t with
    | some (.int .i64)=>match qI P t with
      | some n=>match Nat.beq n 1 with|true=>some 1|false=>none
      | none=>none
    | some (.struct fs)=>match P.stoodInHeld t with
      | true=>none
      | false => fs.toList.foldl (fun acc f => match acc, f.name != "_", lu d f.type, qI P f.type with
        | some m,true,some n,some n'=>match Nat.beq f.offset m&&Nat.beq n n' with|true=>some (m+n)|false=>none
        | _,_,_,_=>none) (some 0)
    | some (.array n e)=>match lu d e,qI P e with
      | some m,some m'=>match Nat.beq m m' with|true=>some (n*m)|false=>none
      | _,_=>none
    | _=>none
def Ku(t:TypeId)(x i:DV):aH :=
 match P.underlying t with
 | some (.array n e)=>match qI P e,jK P e,x,i with
  | some m,some ag,.one (.agg cs),.one (.c (.p (.int _ (.ofNat j))))=>match Nat.blt j n,oD ag m cs (j*m)with|true,some d=>.val [] (.one d) [] []|_,_=>.no
  | _,_,_,_=>.no
 | _=>.no
def Kv(t:TypeId)(x:DV)(f:Nat):aH :=
 match P.underlying t with
 | some (.struct fs)=>match fs[f]? with
  | some fd=>match qI P fd.type,jK P fd.type,x with
   | some m,some ag,.one (.agg cs)=>match oD ag m cs fd.offset with|some d=>.val [] (.one d) [] []|none=>.no
   | _,_,_=>.no
  | none=>.no
 | _=>.no
def Dh(n:Nat)(e:TypeId)(x i:DV):aH :=
 match qI P e,i with
 | some m,.one (.c (.p (.int _ (.ofNat j))))=>match Nat.blt j n with
  | true=>match x with|.one (.c (.ptr L off))=>.val [] (.cl (.ptr L (off+j*m))) [] []|.one (.c (.p (.fp c off)))=>.val [] (.p (.fp c (off+j*m))) [] []|_=>.no
  | false=>.no
 | _,_=>.no
def zhB(t:TypeId):Option (List (Option IntKind)) :=
 match iw P t with
 | some z=>z.foldr (λc acc=>match c,acc with|.p (.int k (.ofNat 0)),some l=>some (some k::l)|.p (.bool false),some l=>some (none::l)|_,_=>none) (some [])
 | none=>none
def fC(k:TypeId):Option (KF×Nat) :=
 match lu P 8 k,jK P k with
 | some n,some true=>some (.ints,n)
 | some n,some false=>match Nat.beq n 1 with|true=>some (.one,n)|false=>none
 | _,_=>none
def Kw(k e:TypeId):Option MQ :=
 match fC P k,zhB P e,jK P e with
 | some (kf,n),some ks,some yH=>match(yH||Nat.beq ks.length 1),(P.info? e).bind (·.zero),yH with|true,some (.agg _),true=>some (kf,n,yH,ks)|true,some (.agg _),false=>none|true,some _,false=>some (kf,n,yH,ks)|_,_,_=>none
 | _,_,_=>none
def zok(kf:KF)(n:Nat)(d:DV):Option (List Int) :=
 match kf,d with
 | .ints,.one (.agg cs)=>match Kt cs with
  | some l=>match Nat.beq l.length n with|true=>some l|false=>none
  | none=>none
 | .one,.one (.c (.p (.int .i64 a)))=>some [a]
 | _,_=>none
def zhC:Option IntKind→Int→PV|some k,x=>.int k x|none,x=>.bool (x != 0)
def yL(o:Option (List Int))(i:Nat):Int:=match o with|some l=>l.getD i 0|none=>0
def zx6(o:Option (List Int)):Nat→List (Option IntKind)→List PV|_,[]=>[]|i,k::ks=>zhC k (yL o i)::zx6 o (i+1) ks
def zhD(yH:Bool)(ks:List (Option IntKind))(o:Option (List Int)):Option D1 :=
 match yH,zx6 o 0 ks with|true,l=>some (.agg (l.map .p))|false,[v]=>some (.c (.p v))|_,_=>none
def vg:List (Option IntKind)→List Cl→Option (List Int)
  | [],[]=>some []
  | some k::ks,.p (.int k' a)::r=>if k=k' then match vg ks r with|some l=>some (a::l)|none=>none else none
  | none::ks,.p (.bool b)::r=>match vg ks r with|some l=>some ((match b with|true=>1|false=>0)::l)|none=>none
  | _,_=>none
def Di(c v:List Int)(F:List Int->Option (List Int)):List Int->Option (List Int) :=
 λx=>match decide (x=c)with|true=>some v|false=>F x
def addN(o:Option (List Int))(n:Nat):Nat:=match o with|some _=>n|none=>n+1
def found(q:MQ)(k:DV)(ok:Bool)(F:List Int->Option (List Int))(fin:DV->aH):aH :=
 match zok q.1 q.2.1 k with
 | some c=>match zhD q.2.2.1 q.2.2.2 (F c)with
  | some d=>match ok with|true=>fin (.tup [d,.c (.p (.bool (F c).isSome))])|false=>fin (.one d)
  | none=>.no
 | none=>.no
def pJ{α:Type}(i:Nat)(x:α)(f:Nat->α):Nat->α:=λj=>match Nat.beq j i with|true=>x|false=>f j
def Ky(t:TypeId)(m k:DV)(ok:Bool)(ob:Nat->Option AO):aH :=
 match P.underlying t,m with
 | some (.map kt vt),.one (.c (.mo L))=>match Kw P kt vt,ob L with
  | some q,some (.mo kt' vt' q' _ F)=>if kt'=kt/\vt'=vt/\q'=q then found q k ok F λd=>.val [(L,false)] d [] []else .no
  | _,_=>.no
 | _,_=>.no
def VM(t:TypeId)(m k v:DV)(ob:Nat->Option AO):aH :=
 match P.underlying t,m with
 | some (.map kt vt),.one (.c (.mo L))=>match Kw P kt vt,ob L with
  | some q,some (.mo kt' vt' q' m' F)=>match zok q.1 q.2.1 k,v with
   | some c,.one dv=>match vg q.2.2.2 dv.cells with
    | some l=>if kt'=kt/\vt'=vt/\q'=q/\dv.isAgg=q.2.2.1 then .val [(L,true)] .junk [(L,.mo kt vt q (addN (F c) m') (Di c l F))] []else .no
    | none=>.no
   | _,_=>.no
  | _,_=>.no
 | _,_=>.no
def zb3(t k:Nat)(l:List PV):List PV :=
 match P.underlying t,l[k]? with
 | some (.slice e2),some .nils=>match qI P e2,iw P e2 with
  | some s,some z=>match kJ z with|some z=>l.set k (.sl 0 s (λ_=>z))|none=>l
  | _,_=>l
 | _,_=>l
def zhE:List Field→List PV→List PV|[],l=>l|f::r,l=>zhE r (zb3 P f.type f.offset l)
def AA(e:TypeId)(l:List PV):List PV :=
 match P.underlying e with|some (.struct fs)=>zhE P fs.toList l|_=>zb3 P e 0 l
def Dj(e:TypeId):List PV:=match iw P e with
 | some z=>match kJ z with|some l=>AA P e l|none=>[]
 | none=>[]
def tC(t:TypeId)(x y:DV)(dst:Option Nat)(ob:Nat->Option AO):aH :=
 match P.underlying t,x,y,dst with
 | some (.slice e),.one (.c (.p (.int _ n))),.one (.c (.p (.int _ m))),some dst=>match P.info? e,iw P e,ob dst with
  | some ie,some z,none=>match zx5 Γ (some dst)with
   | true=>match z,P.underlying e with
    | [.p .nils],some (.slice e2)=>match P.info? e2,iw P e2,Nat.beq ie.size 1&&Nat.ble ie.bytes 1000000 with
     | some i2,some z2,true=>match kJ z2,Nat.ble 1 i2.size with|some l2,true=>.chk [(dst,true)] (0<=n/\n=m/\n<=1000000) (.cl (.vec dst)) [(dst,.vv e ie.bytes e2 i2.size i2.bytes n.toNat (λ_=>0) (λ_ _=>l2))] []|_,_=>.no
     | _,_,_=>.no
    | _,_=>.no
   | false=>match kJ z with
    | some l=>match Nat.ble 1 ie.size&&Nat.ble ie.bytes 1000000 with|true=>.chk [(dst,true)] (0<=n/\n=m/\n<=1000000) (.cl (.vec dst)) [(dst,.vec e ie.size ie.bytes n.toNat (λ_=>AA P e l))] []|false=>.no
    | none=>.no
  | _,_,_=>.no
 | _,_,_,_=>.no
def FX(ev:Operand→DV):Option Operand→Option (Option Int)
  | none=>some none
  | some x=>match ev x with|.one (.c (.p (.int _ j)))=>some (some j)|_=>none
def slG(get:Nat->List PV)(l:Nat):Nat->List PV:=λi=>get (i+l)
def Dk(t:TypeId)(x:DV)(lo hi:Option (Option Int)):aH :=
 match P.underlying t,x,lo,hi with
 | some (.slice e),.one (.c (.p (.sl n s get))),some lo,some hi=>match qI P e with
  | some m=>match Nat.beq s m with|true=>.chk [] (0<=lo.getD 0/\lo.getD 0<=hi.getD (n:Int)/\hi.getD (n:Int)<=(n:Int)) (.p (.sl (hi.getD (n:Int)-lo.getD 0).toNat s (slG get (lo.getD 0).toNat))) [] []|false=>.no
  | none=>.no
 | _,_,_,_=>.no
def Kz(t:TypeId)(f:Nat):Option Nat :=
 match P.underlying t with
 | some (.struct fs)=>match fs[f]? with
  | some fd=>match qI P fd.type with|some (_+1)=>some fd.offset|_=>none
  | none=>none
 | _=>none
def yM(t:TypeId):Bool :=
 match P.underlying t with|some (.struct fs)=>fs.toList.all λf=>(qI P f.type).isSome|some (.array _ e)=>(qI P e).isSome|_=>false
def iV(t:TypeId)(ev:Operand→DV):List Cl→List (Nat×Operand)→Option (List Cl)
  | z,[]=>some z
  | z,(i,o)::r =>
    match ev o with
    | .one d =>
      match P.underlying t with
      | some (.struct fs)=>match fs[i]? with
        | some fd=>match qI P fd.type with
          | some n=>match Nat.beq n d.cells.length&&Nat.ble (fd.offset+n) z.length&&d.cells.all C9 with|true=>iV t ev (spl z fd.offset d.cells) r|false=>none
          | none=>none
        | none=>none
      | some (.array _ e)=>match qI P e with
        | some n=>match Nat.beq n d.cells.length&&Nat.ble (i*n+n) z.length&&d.cells.all C9 with|true=>iV t ev (spl z (i*n) d.cells) r|false=>none
        | none=>none
      | _=>none
    | _=>none
def jG(ob:Nat→Option AO)(ev:Operand→DV)(size:Nat):Nat→List (Nat×Operand)→Option (List (List PV)×List (Nat×AO)×List Nat)
  | _,[]=>some ([],[],[])
  | i,(j,o)::r =>
    match Nat.beq i j with
    | true=>match ev o with
      | .one d=>match jL ob d.cells,jG ob ev size (i+1) r with
        | some (l,u),some (ls,us,jA)=>match Nat.beq l.length size with|true=>some (l::ls,u++us,dD d++jA)|false=>none
        | _,_=>none
      | _=>none
    | false=>none
def smA:List (List PV)→Bool|[]=>true|c::r=>smL c c&&r.all (smL c)
def Bq(l:List (List PV)):Nat->List PV :=
 match l with
 | []=>λ_=>[]
 | [c]=>λ_=>c
 | c::r=>λi=>match(c::r)[i]? with|some x=>x|none=>c
def FY(ob:Nat->Option AO)(dst:Option Nat)(o:AO)(d:Nat->DV):aH :=
 match dst with
 | some t=>match ob t with|none=>.val [(t,true)] (d t) [(t,o)] []|some _=>.no
 | none=>.no
def elP(ag:Bool)(l:List PV):PA :=
 match ag,l with|true,l=>.agg l|false,[v]=>.one v|_,_=>.agg []
def KA(C:List PA->ae (List PA))(caps:List PV)(ag:Bool)(get:Nat->List PV)(i j:Nat):Option Int :=
 (C (elP ag (get i)::elP ag (get j)::caps.map .one)).T λr=>match r with|[.one (.int .i64 c)]=>some c|_=>none
def oG(C:List PA->ae (List PA))(caps:List PV)(ag:Bool)(get:Nat->List PV)(i j:Nat):Int:=(KA C caps ag get i j).getD 0
def STO(n:Nat)(c:Nat->Nat->Int):Prop :=
 (∀i,i<n->0<=c i i)/\(∀i j,i<n->j<n->i≠j->(c i j<0/\0<=c j i)\/(c j i<0/\0<=c i j)) /\
 ∀i j k,i<n->j<n->k<n->c i j<0->c j k<0->c i k<0
def zhF(n:Nat)(p:Nat->Nat->Bool)(c:Nat->Nat->Int):Bool :=
  (List.range n).all fun i => decide (0 ≤ c i i) && (List.range n).all fun j => p i j && (Nat.beq i j || (decide (c i j < 0) && decide (0 ≤ c j i)) || (decide (c j i < 0) && decide (0 ≤ c i j))) &&
    (List.range n).all λk=>!(decide (c i j<0)&&decide (c j k<0))||decide (c i k<0)
def zx7(n:Nat)(p:Nat->Nat->Bool)(c:Nat->Nat->Int):Prop:=n<=4611686018427387/\(∀i j,i<n->j<n->p i j=true)/\STO n c
def zx8(n:Nat)(p:Nat->Nat->Bool)(c:Nat->Nat->Int):CP:=⟨zx7 n p c,Nat.ble n 4611686018427387&&zhF n p c,λh=>by
 rw[gq,Vs]at h;obtain⟨h0,h⟩:=h;simp only[zhF,zQ,Jp,gq,VE,lQ,H6,jqO,dqQ]at h;refine⟨h0,λi j hi hj=>((h i hi).2 j hj).1.1,λi hi=>(h i hi).1,λi j hi hj jk=>?_,λi j k hi hj hk h1 h2=>?_⟩;rcases((h i hi).2 j hj).1.2 with(h1|h1)|h1
 exact absurd (lH h1) jk;exact .inl h1;exact .inr h1;rcases((h i hi).2 j hj).2 k hk with(h3|h3)|h3
 exact absurd h1 h3;exact absurd h2 h3;exact h3⟩
def RY(c:Nat→Nat→Int)(x:Nat):List Nat→List Nat
  | []=>[x]
  | y::r=>match decide (c x y<0)with|true=>x::y::r|false=>y::RY c x r
def yN(n:Nat)(c:Nat->Nat->Int):List Nat:=(List.range n).foldr (RY c) []
def KC{α:Type}(n:Nat)(c:Nat->Nat->Int)(get:Nat->α):Nat->α:=λi=>get ((yN n c).getD i ((yN n c).getD 0 0))
def zhG(get:Nat→List PV):List (Nat×AO)→Bool
  | []=>true
  | u=>match zb0 u with|true=>(get 0).all (AY 8)|false=>(get 0).all jV
def zx9(e:TypeId):List DV→Option (Nat×Nat×(Nat→List PV))
  | [.one (.c (.p (.sl n s get)))]=>some (n,s,get)
  | [.one (.c (.p .nils))]=>match iw P e with
    | some z=>match kJ z with|some l=>some (0,l.length,λ_=>l)|none=>none
    | none=>none
  | _=>none
def KD{α:Type}:List α→Option (List α×α)
  | []=>none
  | d::r=>match KD r with|some (l,x)=>some (d::l,x)|none=>some ([],d)
def kT(o:Oper)(k:FW)(args:List DV)(ob:Nat->Option AO):aH :=
  match k with
  | .none=>.no
  | .sort e s b=>match args with
    | [.one (.c (.vec L)),.one (.c (.p (.fn h [] caps)))]=>match ob L,jK P e with
      | some (.vec e' s' b' n get),some ag=>if e'=e/\s'=s/\b'=b then
          .chk [(L,true)] (zx8 n (λi j=>(KA (Γ.cfn h) caps ag get i j).isSome) (oG (Γ.cfn h) caps ag get)) (.tup []) [(L,.vec e s b n (KC n (oG (Γ.cfn h) caps ag get) get))] []
        else .no
      | _,_=>.no
    | _=>.no
  | .clone e s b=>match zx9 P e args,o.dst with
    | some (n,s',get),some dst=>match ob dst,P.info? e,iw P e with
      | none,some ie,some _=>if s'=s/\ie.size=s/\ie.bytes=b/\0<s then
          .chk [(dst,true)] (n*b<=140737488355328/\n<=9223372036854775807) (.cl (.vec dst)) [(dst,.vec e s b n get)] []
        else .no
      | _,_,_=>.no
    | _,_=>.no
  | .mkv e s b F=>match iO ob args,o.dst with
    | some (az,u),some dst=>match(F az).o,ob dst,P.info? e,iw P e with
      | some (n,get,rs),none,some ie,some _=>if ie.size=s/\ie.bytes=b/\0<s/\zhG get u=true/\rs.all jV=true then
          .val ((dst,true)::rd (args.flatMap (bJ ob)))
            (match rs with|[]=>.cl (.vec dst)|_=>.tup (.c (.vec dst)::rs.map λv=>.c (.p v))) [(dst,.vec e s b n get)] []
        else .no
      | _,_,_,_=>.no
    | _,_=>.no
  | .grow e s b F=>match KD args with
    | some (ds,.one (.c (.vec L)))=>match iO ob ds,ob L with
      | some (az,[]),some (.vec e' s' b' n get)=>match(F az n get).o with
        | some (m,get')=>if e'=e/\s'=s/\b'=b then
            .val ((L,true)::rd (ds.flatMap (bJ ob))) (.cl (.vec L)) [(L,.vec e s b m get')] [L]
          else .no
        | none=>.no
      | _,_=>.no
    | some (ds,.one (.c (.p .nils)))=>match iO ob ds,o.dst with
      | some (az,[]),some dst=>match ob dst,P.info? e,iw P e with
        | none,some ie,some z=>match kJ z with
          | some l=>match(F az 0 λ_=>l).o with
            | some (m,get')=>if ie.size=s/\ie.bytes=b/\0<s then
                .val ((dst,true)::rd (ds.flatMap (bJ ob))) (.cl (.vec dst)) [(dst,.vec e s b m get')] []
              else .no
            | none=>.no
          | none=>.no
        | _,_,_=>.no
      | _,_=>.no
    | _=>.no
def zGK:DV→Option uj|.one (.c (.p v))=>some (.v v)|.one (.c (.ptr L 0))=>some (.b L)|_=>none
def Dl(ev:Operand→DV):List Operand→Option (List uj)
  | []=>some []
  | x::r=>match zGK (ev x),Dl ev r with|some c,some l=>some (c::l)|_,_=>none
def capD:uj→DV|.v v=>.p v|.b L=>.cl (.ptr L 0)
abbrev lI:=Option (FuncId×Nat×List Nat)
def KE:List uj→List Nat→Bool|[],[]=>true|.b L::r,M::s=>Nat.beq L M&&KE r s|_,_=>false
def VN:List uj→Option (List Nat)
  | []=>some []
  | .b L::r=>match VN r with|some l=>some (L::l)|none=>none
  | _=>none
def zen(f:FuncId)(np:Nat)(caps:List uj):lI:=match VN caps with|some l=>some (f,np,l)|none=>none
def zya(sf:lI)(f:FuncId)(caps:List uj):Option XC:=match sf with
 | some (f',np,ls)=>match Nat.beq f f'&&KE caps ls with|true=>some (.slf f' np ls.length)|false=>none
 | none=>none
def jc(sf:lI)(ob:Nat→Option AO):List Cl→Option (List XC×List Nat)
  | []=>some ([],[])
  | c::r=>match jc sf ob r with
    | some (l,ms)=>match c with
      | .p v=>some (.p v::l,ms)
      | .vec M=>match ob M with|some (.vec e s b n get)=>some (.vec e s b n get::l,M::ms)|_=>none
      | .mo M=>match ob M with|some (.mo kt vt q n F)=>some (.mo kt vt q n F::l,M::ms)|_=>none
      | .clo f caps=>match zya sf f caps with|some x=>some (x::l,ms)|none=>none
      | _=>none
    | none=>none
def sS(ob:Nat->Option AO)(d:DV):Option (XA×List Nat×List Nat) :=
 match Az ob d with|some (x,[])=>some (.d x,[],[])|_=>none
def AB(sf:lI)(ob:Nat->Option AO)(d:DV):Option (XA×List Nat×List Nat) :=
 match d with
 | .one (.c (.ptr L 0))=>match ob L with
  | some (.box ty cells)=>match jc sf ob cells with|some (cs,ms)=>some (.box ty cs,L::ms,ms)|none=>none
  | _=>sS ob d
 | _=>sS ob d
def kK(sf:lI)(ob:Nat→Option AO):List DV→Option (List XA×List Nat×List Nat)
  | []=>some ([],[],[])
  | d::r=>match AB sf ob d,kK sf ob r with|some (x,bl,ms),some (xs,bls,mss)=>some (x::xs,bl++bls,ms++mss)|_,_=>none
def iG:List Cl→List XC→Option (List Cl×List (Nat×AO))
  | [],[]=>some ([],[])
  | .p _::cs,.p v::ys=>match iG cs ys with|some (l,u)=>some (.p v::l,u)|none=>none
  | .vec M::cs,.vec e s b n get::ys=>match iG cs ys with|some (l,u)=>some (.vec M::l,(M,.vec e s b n get)::u)|none=>none
  | .mo M::cs,.mo kt vt q n F::ys=>match iG cs ys with|some (l,u)=>some (.mo M::l,(M,.mo kt vt q n F)::u)|none=>none
  | .clo f caps::cs,.slf _ _ _::ys=>match iG cs ys with|some (l,u)=>some (.clo f caps::l,u)|none=>none
  | _,_=>none
def Ja(ob:Nat->Option AO)(d:DV)(y:XA):Option (List (Nat×AO)) :=
 match d with
 | .one (.c (.ptr L 0))=>match ob L with
  | some (.box ZC cells)=>match y with
   | .box ty cs=>match Nat.beq ty ZC,iG cells cs with|true,some (l,u)=>some ((L,.box ty l)::u)|_,_=>none
   | .d _=>none
  | _=>match y with|.d _=>some []|.box _ _=>none
 | _=>match y with|.d _=>some []|.box _ _=>none
def kw(ob:Nat→Option AO):List DV→List XA→Option (List (Nat×AO))
  | [],[]=>some []
  | d::ds,y::ys=>match Ja ob d y,kw ob ds ys with|some u,some us=>some (u++us)|_,_=>none
  | _,_=>none
def mQ:List Nat→Bool|[]=>true|x::r=>!r.contains x&&mQ r
def lJ:AO→Bool|.box _ [.clo _ _]=>true|_=>false
def zyb(ty:Nat)(k:IntKind)(n:Int):List PA:=[.one (.fna 4294967295 [.int .i64 ty,.int k n])]
def zon(ty:Nat)(k:IntKind)(n:Int):List PanicEntry:=[{v:=.iface ty (.agg #[.int k n]),recovered:=false}]
def FZ:List PA→Option (List PanicEntry)
  | [.one (.fna f [.int _ ty,.int k n])]=>match Nat.beq f 4294967295 with|true=>some (zon ty.toNat k n)|false=>none
  | _=>none
def chR:List PanicEntry→Option (List PA)|[⟨.iface ty (.agg ⟨[.int k n]⟩),false,false⟩]=>some (zyb ty k n)|_=>none
theorem zGL{ch:List PanicEntry}{rs:List PA}(h:chR ch=some rs):FZ rs=some ch:=by
 unfold chR at h;split at h;cases h;rfl;cases h
def qJ(args:List DV)(ob:Nat->Option AO)(ls ms:List Nat)(rs:List PA)(ys:List XA):aH:=match kw ob args ys with
 | some u=>match mQ ls&&Nat.ble ms.length 1&&ms.all λM=>((u.filter λx=>!lJ x.2).map (·.1)).contains M with|true=>.val (wr ((u.filter λx=>!lJ x.2).map (·.1))++rd (args.flatMap (bJ ob))) (resD rs) (u.filter λx=>!lJ x.2) ms|false=>.no
 | none=>.no
def um(C:MK)(sf:lI)(args:List DV)(ob:Nat->Option AO):aH :=
 match kK sf ob args with
 | some (xs,ls,ms)=>match(C xs).o with
  | some (rs,ys)=>match FZ rs with|none=>qJ args ob ls ms rs ys|some _=>.no
  | none=>.no
 | none=>.no
def PY(ev:Operand→DV):List Operand→List Operand→Option (List PV)
  | [x],[]=>match ev x with|.one (.agg cs)=>kJ cs|_=>none
  | _,_=>none
def F5(d:DV)(ob:Nat->Option AO):Option (Nat×Nat×(Nat->List PV)×List (Nat×Bool)) :=
 match d with
 | .one (.c (.p (.sl n sz get)))=>some (n,sz,get,[])
 | .one (.c (.vec M))=>match ob M with|some (.vec _ sz _ n get)=>some (n,sz,get,[(M,false)])|some (.fvec sz n get)=>some (n,sz,get,[(M,false)])|_=>none
 | _=>none
def RZ(e:Nat)(ie:TypeInfo)(dst:Nat)(x s:DV)(ob:Nat->Option AO):aH :=
 match F5 x ob with
 | some (m,sz,new,fps)=>match s with
  | .one (.c (.vec L))=>match ob L with
   | some (.vec e' s' b' n get)=>if e'=e/\s'=ie.size/\b'=ie.bytes/\sz=s'/\0<s'/\cO x≠[L]/\smL (get 0) (new 0)=true then
     .chk ((L,true)::fps) ((n+m)*b'<=140737488355328/\n+m<=9223372036854775807) (.cl (.vec L)) [(L,.vec e s' b' (n+m) (nzG (get 0) (appG n get new)))] [L]
    else .no
   | _=>.no
  | .one (.c (.p .nils))=>match ob dst with
   | none=>if sz=ie.size/\0<sz then
     .chk ((dst,true)::fps) (m*ie.bytes<=140737488355328/\m<=9223372036854775807) (.cl (.vec dst)) [(dst,.vec e sz ie.bytes m new)] []
    else .no
   | some _=>.no
  | _=>.no
 | none=>.no
def aPk(ev:Operand->DV)(c a b:Operand):aH:=match ev c with|.one (.c (.p (.bool t)))=>.val [] (AZ t (ev a) (ev b)) [] []|_=>.no
def aAl(o:Oper)(ev:Operand->DV)(ob:Nat->Option AO)(e:TypeId):aH:=match iw P e with|some z=>FY ob o.dst (.box e z) λt=>.cl (.ptr t 0)|none=>.no
def aBx(o:Oper)(ev:Operand->DV)(ob:Nat->Option AO)(e:TypeId)(x:Operand):aH:=match ev x,qI P e with
  | .one d,some n=>match Nat.beq d.cells.length n&&d.cells.all C9 with|true=>FY ob o.dst (.box e d.cells) λt=>.cl (.ptr t 0)|false=>.no
  | _,_=>.no
def aBd(ev:Operand->DV)(t:TypeId)(parts:Array (Nat×Operand)):aH:=match yM P t,iw P t with
  | true,some z=>match iV P t ev z parts.toList with|some l=>.val [] (.one (.agg l)) [] []|none=>.no
  | _,_=>.no
def aBs(o:Oper)(ev:Operand->DV)(ob:Nat->Option AO)(t:TypeId)(n:Nat)(parts:Array (Nat×Operand)):aH:=match P.underlying t with
  | some (.slice e)=>match P.info? e with
   | some ie=>match jG ob ev ie.size 0 parts.toList with
    | some (ls,u,jA)=>match Nat.beq ls.length n&&Nat.ble (n*ie.size) 1000000&&Nat.ble 1 ie.size&&smA (ls.map (AA P e)),iw P e,o.dst with
     | true,some _,some dst=>match ob dst with|none=>.val (wr jA++[(dst,true)]) (.cl (.vec dst)) ((dst,.vec e ie.size ie.bytes n (nzG (Bq (ls.map (AA P e)) 0) (Bq (ls.map (AA P e)))))::u) []|some _=>.no
     | _,_,_=>.no
    | none=>.no
   | none=>.no
  | _=>.no
def aLd(o:Oper)(ev:Operand->DV)(ob:Nat->Option AO)(t:TypeId)(a:Operand):aH:=match jK P t,qI P t with
  | some g,some n=>match ev a with
   | .one (.c (.ptr L off))=>match ob L with
    | some (.box _ cells)=>match oD g n cells off with|some d=>.val [(L,false)] (.one d) [] []|none=>.no
    | some (.fbox cells)=>match oD g n (cells.map .p) off with|some d=>.val [(L,false)] (.one d) [] []|none=>.no
    | _=>.no
   | .one (.c (.p (.fp cells off)))=>match oD g n (cells.map .p) off with|some d=>.val [] (.one d) [] []|none=>.no
   | .one (.c (.vptr L s i k))=>match ob L with
    | some (.vec _ s' _ len get)=>match Nat.beq s s',oD g n ((get i).map .p) k with|true,some d=>.chk [(L,false)] (i<len) (.one d) [] []|_,_=>.no
    | some (.fvec s' len get)=>match Nat.beq s s',oD g n ((get i).map .p) k with|true,some d=>.chk [(L,false)] (i<len) (.one d) [] []|_,_=>.no
    | some (.vv _ _ _ _ _ _ _ _)=>match Nat.beq s 1&&Nat.beq k 0,g with
     | true,false=>match o.dst with
      | some dst=>match ob dst,ob L with|none,some (.vv te bb e s' b len ln get)=>.chk [(L,true),(dst,true)] (i<len) (.cl (.vec dst)) [(dst,.vec e s' b (ln i) (get i)),(L,.vt te bb e s' b len ln get i)] []|_,_=>.no
      | none=>.no
     | _,_=>.no
    | _=>.no
   | _=>.no
  | _,_=>.no
def aSt(ev:Operand->DV)(ob:Nat->Option AO)(t:TypeId)(a x:Operand):aH:=match qI P t,ev a,ev x with
  | some n,.one (.c (.ptr L off)),.one d=>match ob L with
   | some (.box ty cells)=>match Nat.beq d.cells.length n&&Nat.ble (off+n) cells.length&&d.cells.all C9 with|true=>.val [(L,true)] .junk [(L,.box ty (spl cells off d.cells))] []|false=>.no
   | _=>.no
  | some n,.one (.c (.vptr L s i k)),.one d=>match ob L with
   | some (.vec e s' b len get)=>match kJ d.cells with
    | some l=>match Nat.beq s s'&&Nat.beq l.length n&&Nat.ble (k+n) s&&smL (((get 0).drop k).take n) l with|true=>.chk [(L,true)] (i<len) .junk [(L,.vec e s' b len (nzG (get 0) (Dc i k get l)))] []|false=>.no
    | none=>.no
   | some (.vt te bb e s' PN len ln get ii)=>match d with
    | .c (.vec M)=>match ob M with
     | some (.vec e2 s2 b2 m lW)=>match Nat.beq s 1&&Nat.beq k 0&&Nat.beq n 1 && !Nat.beq L M with
      | true=>if e2=e/\s2=s'/\b2=PN/\smL (get 0 0) (lW 0)=true then
        .chk [(L,true),(M,true)] (i<len/\i=ii/\0<m) .junk [(L,.vv te bb e s' PN len (pJ i m ln) (zx4 (get 0 0) (pJ i lW get))),(M,.gone)] []
       else .no
      | false=>.no
     | _=>.no
    | _=>.no
   | _=>.no
  | _,_,_=>.no
def aNc(ev:Operand->DV)(x:Operand):aH:=match ev x with|.one (.c (.ptr L off))=>.val [] (.cl (.ptr L off)) [] []|.one (.c (.p (.fp c off)))=>.val [] (.p (.fp c off)) [] []|.one (.c (.vptr L s i k))=>.val [] (.cl (.vptr L s i k)) [] []|_=>.no
def aBn(ev:Operand->DV)(op:BinOp)(t:TypeId)(x y:Operand):aH:=match ev x,ev y with
  | .one (.c (.p (.int k a))),.one (.c (.p (.int k' b)))=>if k=k' then VL op k a b else zhA op k a b
  | .one (.c (.p (.bool a))),.one (.c (.p (.bool b)))=>match P.underlying t,op with|some .bool,.eql=>.val [] (.bool (a==b)) [] []|some .bool,.neq=>.val [] (.bool (a != b)) [] []|_,_=>.no
  | .one (.agg cs),.one (.agg ds)=>zb2 P op t cs ds
  | _,_=>.no
def aUn(ev:Operand->DV)(op:UnOp)(x:Operand):aH:=match op,ev x with|.not,.one (.c (.p (.bool a)))=>.val [] (.bool (!a)) [] []|.neg,.one (.c (.p (.int k a)))=>.val [] (.p (.int k (k.wrap (0-a)))) [] []|_,_=>.no
def aCv(ev:Operand->DV)(t1 t2:TypeId)(x:Operand):aH:=match P.underlying t1,P.underlying t2,ev x with|some _,some (.int k),.one (.c (.p (.int _ n)))=>.val [] (.p (.int k (k.wrap n))) [] []|_,_,_=>.no
def aFa(ev:Operand->DV)(t:TypeId)(x:Operand)(f:Nat):aH:=match Kz P t f with
  | some off=>match ev x with|.one (.c (.ptr L k))=>.val [] (.cl (.ptr L (k+off))) [] []|.one (.c (.p (.fp c k)))=>.val [] (.p (.fp c (k+off))) [] []|.one (.c (.vptr L s i k))=>.val [] (.cl (.vptr L s i (k+off))) [] []|_=>.no
  | none=>.no
def aIa(ev:Operand->DV)(ob:Nat->Option AO)(t:TypeId)(x i:Operand):aH:=match P.underlying t with
  | some (.slice e)=>match qI P e,ev i with
   | some n,.one (.c (.p (.int _ j)))=>match ev x with
    | .one (.c (.p (.sl len s get)))=>if s=n then .chk [] (0<=j/\j<(len:Int)) (.p (.fp (get j.toNat) 0)) [] []else .no
    | .one (.c (.vec L))=>match ob L with
     | some (.vec _ s _ len _)=>if s=n then .chk [(L,false)] (0<=j/\j<(len:Int)) (.cl (.vptr L s j.toNat 0)) [] []else .no
     | some (.fvec s len get)=>if s=n then .chk [(L,false)] (0<=j/\j<(len:Int)) (.p (.fp (get j.toNat) 0)) [] []else .no
     | some (.vv _ _ _ _ _ len _ _)=>if n=1 then .chk [(L,false)] (0<=j/\j<(len:Int)) (.cl (.vptr L 1 j.toNat 0)) [] []else .no
     | some (.vt _ _ _ _ _ len _ _ _)=>if n=1 then .chk [(L,false)] (0<=j/\j<(len:Int)) (.cl (.vptr L 1 j.toNat 0)) [] []else .no
     | _=>.no
    | _=>.no
   | _,_=>.no
  | some (.array n e)=>Dh P n e (ev x) (ev i)
  | _=>.no
def aMm(o:Oper)(ev:Operand->DV)(ob:Nat->Option AO)(t:TypeId):aH:=match zx5 Γ o.dst with
  | true=>match P.underlying t with
   | some (.map kt vt)=>match Kw P kt vt with|some q=>FY ob o.dst (.mo kt vt q 0 (λ_=>none)) λt=>.cl (.mo t)|none=>.no
   | _=>.no
  | false=>.no
def aLn(ev:Operand->DV)(ob:Nat->Option AO)(args:Array Operand)(argTypes:Array TypeId):aH:=match args.toList,argTypes.toList with
  | [x],[t]=>match P.underlying t with
   | some (.slice _)=>match ev x with
    | .one (.c (.p (.sl n _ _)))=>.val [] (.int n) [] []
    | .one (.c (.p .nils))=>.val [] (.int 0) [] []
    | .one (.c (.vec L))=>match ob L with|some (.vec _ _ _ n _)=>.val [(L,false)] (.int n) [] []|some (.fvec _ n _)=>.val [(L,false)] (.int n) [] []|some (.vv _ _ _ _ _ n _ _)=>.val [(L,false)] (.int n) [] []|_=>.no
    | _=>.no
   | some (.map _ _)=>match ev x with
    | .one (.c (.mo L))=>match ob L with|some (.mo _ _ _ n _)=>.val [(L,false)] (.int n) [] []|_=>.no
    | _=>.no
   | _=>.no
  | _,_=>.no
def aMx(ev:Operand->DV)(args:Array Operand):aH:=match args.toList.map ev with
  | [.one (.c (.p (.int k a))),.one (.c (.p (.int _ b)))]=>.val [] (.p (.int k (if b>a then b else a))) [] []
  | _=>.no
def aMi(ev:Operand->DV)(args:Array Operand):aH:=match args.toList.map ev with
  | [.one (.c (.p (.int k a))),.one (.c (.p (.int _ b)))]=>.val [] (.p (.int k (if b<a then b else a))) [] []
  | _=>.no
def aAp(o:Oper)(ev:Operand->DV)(ob:Nat->Option AO)(args:Array Operand)(argTypes:Array TypeId):aH:=match args.toList,argTypes.toList with
  | [s,x],[t,t']=>match P.underlying t,Nat.beq t t',o.dst with
   | some (.slice e),true,some dst=>match P.info? e,iw P e with|some ie,some _=>RZ e ie dst (ev x) (ev s) ob|_,_=>.no
   | _,_,_=>.no
  | _,_=>.no
def aCl(o:Oper)(ev:Operand->DV)(ob:Nat->Option AO)(f:Operand)(args:Array Operand):aH:=match ev f with
    | .one (.c (.clo g caps))=>match Γ.mt g with|some C=>um C (zen g args.size caps) (args.toList.map ev++caps.map capD) ob|none=>.no
    | .one (.c (.p (.fn g first caps)))=>match Γ.mt g with
     | some C=>um C none (first.map (λv=>.p v)++args.toList.map ev++caps.map (λv=>.p v)) ob
     | none=>match(Γ.own g).on with
     | true=>match first,caps with|[],[]=>kT P Γ o (Γ.own g) (args.toList.map ev) ob|_,_=>.no
     | false=>match iO ob (args.toList.map ev)with
      | some (az,u)=>match(Γ.fn g (first.map .one++az++caps.map .one)).o with|some r=>lS (args.toList.flatMap λx=>bJ ob (ev x)) u r|none=>.no
      | none=>.no
    | .one (.c (.p (.fna g cells)))=>match iO ob (args.toList.map ev)with
      | some (az,u)=>match(Γ.fn g (.agg cells::az)).o with|some r=>lS (args.toList.flatMap λx=>bJ ob (ev x)) u r|none=>.no
      | none=>.no
    | _=>.no
def aMf(ev:Operand->DV)(ob:Nat->Option AO)(f:FuncId)(first caps:Array Operand):aH:=match(Γ.mt f).isSome with
   | true=>match first.toList,Dl ev caps.toList with|[],some l=>.val [] (.cl (.clo f l)) [] []|_,_=>.no
   | false=>match PY ev first.toList caps.toList with
    | some l=>.val [] (.p (.fna f l)) [] []
    | none=>match uk ob (first.toList.flatMap λx=>match ev x with | .one (.c c)=>[c]|_=>[.junk]),uk ob (caps.toList.flatMap λx=>match ev x with | .one (.c c)=>[c]|_=>[.junk])with
    | some (l,u),some (l',u')=>.val (wr ((first.toList++caps.toList).flatMap λx=>bJ ob (ev x))) (.p (.fn f l l')) (u++u') []
    | _,_=>.no
def aEx(ev:Operand->DV)(t:Operand)(i:Nat):aH:=match ev t with
  | .tup ds=>match ds[i]? with|some d=>.val [] (.one d) [] []|none=>.no
  | _=>.no
def act(o:Oper)(ev:Operand->DV)(ob:Nat->Option AO):aH :=
 match o.op with
 | .move x=>.val [] (ev x) [] []
 | .assign x=>.val [] (ev x) [] []
 | .pick c a b=>aPk ev c a b
 | .alloc e=>aAl P o ev ob e
 | .box e x=>aBx P o ev ob e x
 | .build t parts=>aBd P ev t parts
 | .buildSlice t n parts=>aBs P o ev ob t n parts
 | .load t a=>aLd P o ev ob t a
 | .store t a x=>aSt P ev ob t a x
 | .nilCheck x=>aNc ev x
 | .binOp op t x y _=>aBn P ev op t x y
 | .unOp op _ x=>aUn ev op x
 | .convert t1 t2 x=>aCv P ev t1 t2 x
 | .fieldAddr t x f=>aFa P ev t x f
 | .indexAddr t x i=>aIa P ev ob t x i
 | .index t x i=>Ku P t (ev x) (ev i)
 | .field t x f=>Kv P t (ev x) f
 | .slice t x lo hi none=>Dk P t (ev x) (FX ev lo) (FX ev hi)
 | .lookup t m k ok=>Ky P t (ev m) (ev k) ok ob
 | .mapUpdate t m k v=>VM P t (ev m) (ev k) (ev v) ob
 | .makeMap t none=>aMm P Γ o ev ob t
 | .makeSlice t x y=>tC P Γ t (ev x) (ev y) o.dst ob
 | .call {callee:=.builtin .len,args,argTypes}=>aLn P ev ob args argTypes
 | .call {callee:=.builtin .max,args,argTypes:=_}=>aMx ev args
 | .call {callee:=.builtin .min,args,argTypes:=_}=>aMi ev args
 | .call {callee:=.builtin .append,args,argTypes}=>aAp P o ev ob args argTypes
 | .call {callee:=.value f,args,argTypes:=_}=>aCl P Γ o ev ob f args
 | .makeFunc (.func f) first caps=>aMf Γ ev ob f first caps
 | .extract t i=>aEx ev t i
 | _=>.no
end Go.Pm
namespace Go.Pm
def RL{α β:Type}(R:α→β→Prop):List α→List β→Prop|[],[]=>True|a::l,b::m=>R a b/\RL R l m|_,_=>False
section rl
variable{α β:Type}{R R':α->β->Prop}
theorem RL.length{l:List α}{m:List β}(h:RL R l m):l.length=m.length:=by
 induction l generalizing m with
 | nil=>cases m with|nil=>rfl|cons=>exact h.elim
 | cons a l ih=>cases m with|nil=>exact h.elim|cons b m=>simp[ih h.2]
theorem RL.mono{l:List α}{m:List β}(h:RL R l m)(hr:∀a b,R a b->R' a b):RL R' l m:=by
 induction l generalizing m with
 | nil=>cases m with|nil=>trivial|cons=>exact h.elim
 | cons a l ih=>cases m with|nil=>exact h.elim|cons b m=>exact⟨hr _ _ h.1,ih h.2⟩
theorem RL.mono_mem{l:List α}{m:List β}(h:RL R l m)(hr:∀a b,a∈l->R a b->R' a b):RL R' l m:=by
 induction l generalizing m with
 | nil=>cases m with|nil=>trivial|cons=>exact h.elim
 | cons a l ih=>cases m with|nil=>exact h.elim|cons b m=>exact⟨hr _ _ kX h.1,ih h.2 λx y hx=>hr x y (jW _ hx)⟩
theorem RL.get{l:List α}{m:List β}(h:RL R l m):∀(j:Nat)(a:α),l[j]? = some a->∃b,m[j]? = some b/\R a b:=by
 induction l generalizing m with
 | nil=>intro j a hj;simp at hj
 | cons x l ih=>cases m with
  | nil=>exact h.elim
  | cons b m =>
   intro j a hj;cases j with
   | zero=>simp at hj;subst hj;exact⟨b,rfl,h.1⟩
   | succ j=>simp at hj;obtain⟨b',h1,h2⟩:=ih h.2 j a hj;exact⟨b',by simpa using h1,h2⟩
theorem RL.get'{l:List α}{m:List β}(h:RL R l m):∀(j:Nat)(b:β),m[j]? = some b->∃a,l[j]? = some a/\R a b:=by
 induction l generalizing m with
 | nil=>cases m with|nil=>intro j b hj;simp at hj|cons=>exact h.elim
 | cons x l ih=>cases m with
  | nil=>exact h.elim
  | cons y m =>
   intro j b hj;cases j with
   | zero=>simp at hj;subst hj;exact⟨x,rfl,h.1⟩
   | succ j=>simp at hj;obtain⟨b',h1,h2⟩:=ih h.2 j b hj;exact⟨b',by simpa using h1,h2⟩
theorem RL.of_get{l:List α}{m:List β}(hl:l.length=m.length)(h:∀(j:Nat)(a:α)(b:β),l[j]? = some a->m[j]? = some b->R a b):RL R l m:=by
 induction l generalizing m with
 | nil=>cases m with|nil=>trivial|cons=>simp at hl
 | cons x l ih=>cases m with
  | nil=>simp at hl
  | cons y m =>
   refine⟨h 0 x y rfl rfl,ih (by simpa using hl) λj a b ha hb=>h (j+1) a b (by simpa using ha) (by simpa using hb)⟩
theorem RL.append{l l':List α}{m m':List β}(h:RL R l m)(h':RL R l' m'):RL R (l++l') (m++m'):=by
 induction l generalizing m with
 | nil=>cases m with|nil=>exact h'|cons=>exact h.elim
 | cons a l ih=>cases m with|nil=>exact h.elim|cons b m=>exact⟨h.1,ih h.2⟩
theorem RL.set{l:List α}{m:List β}(h:RL R l m)(i:Nat){a:α}{b:β}(hab:R a b):RL R (l.set i a) (m.set i b):=by
 induction l generalizing m i with
 | nil=>cases m with|nil=>trivial|cons=>exact h.elim
 | cons x l ih=>cases m with
  | nil=>exact h.elim
  | cons y m=>cases i with|zero=>exact⟨hab,h.2⟩|succ i=>exact⟨h.1,ih h.2 i⟩
theorem RL.spl{l l':List α}{m m':List β}(h:RL R l m)(h':RL R l' m')(off:Nat):RL R (spl l off l') (Pm.spl m off m'):=by
 induction l' generalizing l m m' off with
 | nil=>cases m' with|nil=>simpa [Pm.spl]using h|cons=>exact h'.elim
 | cons x l' ih=>cases m' with|nil=>exact h'.elim|cons y m'=>simp only[Pm.spl];exact ih (h.set off h'.1) h'.2 _
theorem RL.drop{l:List α}{m:List β}(h:RL R l m)(n:Nat):RL R (l.drop n) (m.drop n):=by
 induction n generalizing l m with
 | zero=>simpa using h
 | succ n ih=>cases l with
  | nil=>cases m with|nil=>trivial|cons=>exact h.elim
  | cons a l=>cases m with|nil=>exact h.elim|cons b m=>simpa using ih h.2
theorem RL.take{l:List α}{m:List β}(h:RL R l m)(n:Nat):RL R (l.take n) (m.take n):=by
 induction n generalizing l m with
 | zero=>simp[RL]
 | succ n ih=>cases l with
  | nil=>cases m with|nil=>trivial|cons=>exact h.elim
  | cons a l=>cases m with|nil=>exact h.elim|cons b m=>exact⟨h.1,ih h.2⟩
theorem RL.map_left{γ:Type}{f:γ->α}{l:List γ}{m:List β}:RL R (l.map f) m↔RL (λx y=>R (f x) y) l m:=by
 induction l generalizing m with|nil=>cases m<;>simp[RL]|cons a l ih=>cases m<;>simp[RL,ih]
end rl
def atP:PV→Bool|.int _ _=>false|.bool _=>false|.sl _ _ _=>false|.fp _ _=>false|_=>true
inductive Sm:PV→PV→Prop
  | int (k:IntKind) (a b:Int):Sm (.int k a) (.int k b)
  | bool (a b:Bool):Sm (.bool a) (.bool b)
  | sl (n m s:Nat) (g g':Nat->List PV) (hl:∀i j:Nat,(g i).length=(g' j).length) (h:∀(i j k:Nat)(x y:PV),(g i)[k]? = some x->(g' j)[k]? = some y->Sm x y):Sm (.sl n s g) (.sl m s g')
  | fp (l l':List PV) (o:Nat) (hl:l.length=l'.length) (h:∀(k:Nat)(x y:PV),l[k]? = some x->l'[k]? = some y->Sm x y):Sm (.fp l o) (.fp l' o)
  | atom (p:PV) (h:atP p=true):Sm p p
theorem Sm.symm{x y:PV}(h:Sm x y):Sm y x:=by
 induction h with|int k a b=>exact .int k b a|bool a b=>exact .bool b a|sl n m s g g' hl h ih=>exact .sl m n s g' g (λi j=>(hl j i).symm) λi j k x y hx hy=>ih j i k y x hy hx|fp l l' o hl h ih=>exact .fp l' l o hl.symm λk x y hx hy=>ih k y x hy hx|atom p h=>exact .atom p h
theorem pz{α β:Type}{l:List α}{m:List β}{k:Nat}{x:α}(h:l.length=m.length)(hx:l[k]? = some x):∃y,m[k]? = some y:=by
 obtain⟨hk,_⟩:=Bl.1 hx;exact⟨_,Au (h▸hk)⟩
theorem Sm.trans{x y:PV}(h:Sm x y):∀{z:PV},Sm y z->Sm x z:=by
 induction h with
 | int k a b=>intro z h;cases h with|int _ _ c=>exact .int k a c|atom _ h=>cases h
 | bool a b=>intro z h;cases h with|bool _ c=>exact .bool a c|atom _ h=>cases h
 | sl n m s g g' hl h ih=>intro z h';cases h' with
  | sl _ m' _ _ g2 Aq h' =>
   refine .sl n m' s g g2 (λi j=>(hl i 0).trans (Aq 0 j)) λi j k x z hx hz=>?_;obtain⟨y,hy⟩:=pz (hl i 0) hx;exact ih i 0 k x y hx hy (h' 0 j k y z hy hz)
  | atom _ h=>cases h
 | fp l l' o hl h ih=>intro z h';cases h' with
  | fp _ l2 _ Aq h' =>
   refine .fp l l2 o (hl.trans Aq) λk x z hx hz=>?_;obtain⟨y,hy⟩:=pz hl hx;exact ih k x y hx hy (h' k y z hy hz)
  | atom _ h=>cases h
 | atom p h=>intro z h';exact h'
abbrev RS:List PV->List PV->Prop:=RL Sm
def uo(g:Nat->List PV):Prop:=∀i j,RS (g i) (g j)
theorem RS.symm{l m:List PV}(h:RS l m):RS m l:=by
 refine RL.of_get h.length.symm λj a b ha hb=>?_;obtain⟨y,hy,r⟩:=RL.get h j b hb;rw[ha]at hy;cases hy;exact r.symm
theorem RS.trans{l m n:List PV}(h:RS l m)(h':RS m n):RS l n:=by
 refine RL.of_get (h.length.trans h'.length) λj a b ha hb=>?_;obtain⟨y,hy,r⟩:=RL.get h j a ha;obtain⟨z,hz,r'⟩:=RL.get h' j y hy;rw[hb]at hz;cases hz;exact r.trans r'
theorem uo.sl{g g':Nat->List PV}(h:∀i j,RS (g i) (g' j))(n m s:Nat):Sm (.sl n s g) (.sl m s g') :=
 .sl n m s g g' (λi j=>(h i j).length) λi j k x y hx hy=>by
  obtain⟨z,hz,r⟩:=RL.get (h i j) k x hx;rw[hy]at hz;cases hz;exact r
theorem Sm.rows{n m s s':Nat}{g g':Nat->List PV}(h:Sm (.sl n s g) (.sl m s' g')):s=s'/\∀i j,RS (g i) (g' j):=by
 cases h with|sl _ _ _ _ _ hl h=>exact⟨rfl,λi j=>RL.of_get (hl i j) λk a b ha hb=>h i j k a b ha hb⟩|atom _ h=>cases h
theorem zyd:∀{d:Nat}{p q:PV},smB d p q=true->Sm p p->Sm q q->Sm p q:=by
 intro d
 induction d with
 | zero=>intro p q h;cases h
 | succ d ih =>
  have key:∀{l m:List PV},(Nat.beq l.length m.length&&(l.zip m).all λz=>smB d z.1 z.2)=true->RS l l->RS m m->RS l m:=by
   intro l m h hl hm;rw[gq]at h;refine RL.of_get (lH h.1) λj a b ha hb=>?_;obtain⟨_,ha',ra⟩:=RL.get hl j a ha;obtain⟨_,mJ,rb⟩:=RL.get hm j b hb;rw[ha]at ha';rw[hb]at mJ;cases ha';cases mJ;exact ih (zQ.1 h.2 (a,b) (Ko (i:=j) (by rw[jqy];exact⟨ha,hb⟩))) ra rb
  intro p q h hp hq;unfold smB at h;split at h;have:=qdo h;subst this;exact .int _ _ _;exact .bool _ _;rw [gq]at h;have e:=lH h.1;subst e;have h0:=key h.2 (hp.rows.2 0 0) (hq.rows.2 0 0);exact uo.sl (λi j=>((hp.rows.2 i 0).trans h0).trans (hq.rows.2 0 j)) _ _ _;rw [gq]at h;have e:=lH h.1;subst e;have ZE:∀{l:List PV}{o:Nat},Sm (.fp l o) (.fp l o)->RS l l:=by
   intro l o h;cases h with|fp _ _ _ hl h=>exact RL.of_get hl λk a b ha hb=>h k a b ha hb|atom _ h=>cases h
  have h0:=key h.2 (ZE hp) (ZE hq);exact .fp _ _ _ h0.length λk x y hx hy=>by
   obtain⟨z,hz,r⟩:=RL.get h0 k x hx;rw[hy]at hz;cases hz;exact r
  exact hp;exact hp;exact hp;exact hp;cases h
theorem Sm.cells{l l':List PV}{o:Nat}(h:Sm (.fp l o) (.fp l' o)):RS l l':=by
 cases h with|fp _ _ _ hl h=>exact RL.of_get hl λk a b ha hb=>h k a b ha hb|atom _ h=>cases h
theorem Sm.fp'{l l':List PV}{o:Nat}(h:RS l l'):Sm (.fp l o) (.fp l' o):=.fp _ _ _ h.length λk x y hx hy=>by
 obtain⟨z,hz,r⟩:=RL.get h k x hx;rw[hy]at hz;cases hz;exact r
theorem KG{l m:List PV}(h:smL l m=true)(hl:RS l l)(hm:RS m m):RS l m:=by
 unfold smL at h;rw[gq]at h;refine RL.of_get (lH h.1) λj a b ha hb=>?_;obtain⟨_,ha',ra⟩:=RL.get hl j a ha;obtain⟨_,mJ,rb⟩:=RL.get hm j b hb;rw[ha]at ha';rw[hb]at mJ;cases ha';cases mJ;exact zyd (zQ.1 h.2 (a,b) (Ko (i:=j) (by rw[jqy];exact⟨ha,hb⟩))) ra rb
theorem zor{n:Nat}{g new:Nat->List PV}(hg:uo g)(hn:uo new)(h:RS (g 0) (new 0)):uo (appG n g new):=by
 have h2:∀i j,RS (g i) (new j):=λi j=>((hg i 0).trans h).trans (hn 0 j);intro i j;unfold appG;split<;>split;exact hn _ _;exact(h2 _ _).symm;exact h2 _ _;exact hg _ _
theorem KH{c:List PV}(h:RS c c):uo λ_=>c:=λ_ _=>h
theorem wQ{g:Nat->List PV}(h:uo g)(f:Nat->Nat):uo λi=>g (f i):=λ_ _=>h _ _
theorem VO{l:List (List PV)}(h:∀c∈l,RS c c)(hs:smA l=true):uo (Bq l):=by
 have key:∀c r,l=c::r->∀x∈l,RS c x:=by
  intro c r e x hx;subst e;simp only[smA,gq,zQ]at hs;rcases kS.1 hx with rfl|hx
  exact h _ kX;exact KG (hs.2 x hx) (h _ kX) (h _ (jW _ hx))
 unfold Bq;split;exact λ_ _=>trivial;exact KH (h _ kX);rename_i c r _;have k2:∀i:Nat,RS c (match(c::r)[i]? with|some x=>x|none=>c):=λi=>by
  split;rename_i x hx;exact key c r rfl x (Ko hx);exact h _ kX
 exact λi j=>(k2 i).symm.trans (k2 j)
inductive ql:PV→PV→Prop
  | rfl (p:PV):ql p p
  | nil (s:Nat) (g:Nat->List PV) (h:uo g):ql .nils (.sl 0 s g)
  | sl (n s:Nat) (g g':Nat->List PV) (hu:uo g') (hl:∀i:Nat,i<n->(g i).length=(g' i).length) (h:∀(i k:Nat)(x y:PV),i<n->(g i)[k]? = some x->(g' i)[k]? = some y->ql x y):ql (.sl n s g) (.sl n s g')
  | fp (l l':List PV) (o:Nat) (hl:l.length=l'.length) (h:∀(k:Nat)(x y:PV),l[k]? = some x->l'[k]? = some y->ql x y):ql (.fp l o) (.fp l' o)
  | fn (f:FuncId) (a a' l l':List PV) (ha:a.length=a'.length) (h0:∀(k:Nat)(x y:PV),a[k]? = some x->a'[k]? = some y->ql x y) (hl:l.length=l'.length) (h:∀(k:Nat)(x y:PV),l[k]? = some x->l'[k]? = some y->ql x y):ql (.fn f a l) (.fn f a' l')
theorem mV{f:PV→PV→PV}(hf:∀a b,Sm a b→f a b=b):∀{l m:List PV},RS l m→I8 f l m=m|[],[],_=>rfl|_::_,_::_,h=>by simp only[I8,qjg,List.tail_cons,hf _ _ h.1,mV hf h.2]|[],_::_,h=>h.elim|_::_,[],h=>h.elim
theorem uq:∀(d:Nat)(a b:PV),Sm a b→shp d a b=b
  | 0,_,_,_=>rfl
  | d+1,a,b,h=>by
    cases h with
    | int=>rfl
    | bool=>rfl
    | sl n m s g g' hl hg =>
      have hr:=(Sm.rows (.sl n m s g g' hl hg)).2;simp only[shp];congr 1;funext i;exact mV (uq d) (hr 0 i)
    | fp l l' o hl hg =>
      simp only[shp];rw[mV (uq d) (Sm.cells (.fp l l' o hl hg))]
    | atom _ ha=>cases a<;>first|rfl|cases ha
theorem ZM{row:List PV}{g:Nat->List PV}(h:∀i,RS row (g i)):nzG row g=g:=by
 funext i;exact mV (uq 8) (h i)
theorem zos{row:List PV}{g:Nat->Nat->List PV}(h:∀i j,RS row (g i j)):zx4 row g=g:=by
 funext i j;exact mV (uq 8) (h i j)
structure Sl (α : Type) where
  len:Nat
  get:Nat->α
instance{α:Type}[Inhabited α]:Inhabited (Sl α):=⟨⟨0,λ_=>default⟩⟩
class bI (α : Type) where
  enc:α->List PV
  dec:List PV->α×List PV
  ck:List PV->Option (List PV)
  le:∀{l r:List PV},RS l l->ck l=some r->∃k,l=k++r/\(dec l).2=r/\RL ql k (enc (dec l).1)
  inv:∀{l m r:List PV},RS l m->ck l=some r->∃r',ck m=some r'/\RS r r'
  sm:∀a b:α,RS (enc a) (enc b)
  eq:α->α->Bool
  eqk:∀{a b:α},eq a b=true->RL ql (enc a) (enc b)
instance : bI Int where
  enc x:=[.int .i64 x]
  dec l:=match l with | .int .i64 x::r=>(x,r)|_=>(0,[])
  ck l:=match l with | .int .i64 _::r=>some r|_=>none
  le:=by
    intro l r _ h;split at h;cases h;exact⟨[_],rfl,rfl,.rfl _,trivial⟩;cases h
  inv:=by
    intro l m r h hc;split at hc
    · cases hc
      match m,h with
      | y::m,h =>
        obtain⟨h,h2⟩:=h;cases h with|int=>exact⟨_,rfl,h2⟩|atom _ h=>cases h
    cases hc
  sm a b:=⟨.int _ _ _,trivial⟩
  eq a b:=decide (a=b)
  eqk h:=by rw[of_decide_eq_true h];exact⟨.rfl _,trivial⟩
instance : bI Bool where
  enc x:=[.bool x]
  dec l:=match l with | .bool x::r=>(x,r)|_=>(false,[])
  ck l:=match l with | .bool _::r=>some r|_=>none
  le:=by
    intro l r _ h;split at h;cases h;exact⟨[_],rfl,rfl,.rfl _,trivial⟩;cases h
  inv:=by
    intro l m r h hc;split at hc
    · cases hc
      match m,h with
      | y::m,h =>
        obtain⟨h,h2⟩:=h;cases h with|bool=>exact⟨_,rfl,h2⟩|atom _ h=>cases h
    cases hc
  sm a b:=⟨.bool _ _,trivial⟩
  eq a b:=a==b
  eqk h:=by rw[eq_of_beq h];exact⟨.rfl _,trivial⟩
def PZ(o:Option (List PV)):Bool:=match o with|some []=>true|_=>false
theorem Si{o:Option (List PV)}(h:PZ o=true):o=some []:=by
 unfold PZ at h;split at h;rfl;cases h
theorem oH{α:Type}[bI α]{g:Nat->List PV}(h:uo g)(hc:PZ (bI.ck (α:=α) (g 0))=true)(i:Nat):RL ql (g i) (bI.enc (bI.dec (α:=α) (g i)).1):=by
 obtain⟨r',e,hr⟩:=bI.inv (h 0 i) (Si hc);cases r' with
 | nil =>
  obtain⟨k,e1,_,r⟩:=bI.le (h i i) e;rw[List.append_nil]at e1;rw[<- e1]at r;exact r
 | cons=>exact hr.elim
def fA(p:Nat→Bool):Nat→Bool|0=>true|n+1=>fA p n&&p n
theorem Sj{p:Nat→Bool}:∀{n:Nat},fA p n=true→∀i,i<n→p i=true
  | 0,_,i,hi=>absurd hi (RP i)
  | n+1,h,i,hi=>by
    simp only[fA,gq]at h;rcases Nat.lt_succ_iff_lt_or_eq.1 hi with h1|rfl
    exact Sj h.1 i h1;exact h.2
instance {α : Type} [bI α] [Inhabited α] : bI (Sl α) where
  enc x:=[.sl x.len (bI.enc (default:α)).length (λi=>bI.enc (x.get i))]
  dec l:=match l with|.sl n _ g::r=>(⟨n,λi=>(bI.dec (g i)).1⟩,r)|.nils::r=>(⟨0,λ_=>default⟩,r)|_=>(⟨0,λ_=>default⟩,[])
  ck l:=match l with
    | .sl _ s g::r=>match Nat.beq s (bI.enc (default:α)).length&&PZ (bI.ck (α:=α) (g 0))with|true=>some r|false=>none
    | .nils::r=>some r
    | _=>none
  le:=by
    intro l r hl h;split at h;rename_i n s g r';split at h;rename_i hc;rw[Bool.and_eq_true]at hc;cases h;have e:=Nat.eq_of_beq_eq_true hc.1;subst e;have hu:uo g:=hl.1.rows.2;refine⟨[_],rfl,rfl,?_,trivial⟩;have hp:=λi=>oH (α:=α) hu hc.2 i;exact .sl _ _ _ _ (λi j=>bI.sm _ _) (λi _=>(hp i).length) λi k x y _ hx hy=>by
      obtain⟨z,hz,r⟩:=RL.get (hp i) k x hx;rw[hy]at hz;cases hz;exact r
    cases h;cases h;exact⟨[_],rfl,rfl,.nil _ _ λi j=>bI.sm _ _,trivial⟩;cases h
  inv:=by
    intro l m r h hc;split at hc;rename_i n s g r';split at hc
    · rename_i hs;cases hc
      match m,h with
      | y::m,h =>
        obtain⟨h,h2⟩:=h;cases h with
        | sl _ m' _ _ g' hl hg =>
          rw[Bool.and_eq_true]at hs;obtain⟨r',e,hr⟩:=bI.inv (α:=α) ((Sm.rows (.sl n m' s g g' hl hg)).2 0 0) (Si hs.2);cases r' with|nil=>exact⟨m,by simp only[hs.1,e];rfl,h2⟩|cons=>exact hr.elim
        | atom _ h=>cases h
    cases hc
    · cases hc
      match m,h with
      | y::m,h =>
        obtain⟨h,h2⟩:=h;cases h with|atom _ _=>exact⟨m,rfl,h2⟩
    cases hc
  sm a b:=⟨uo.sl (λi j=>bI.sm _ _) _ _ _,trivial⟩
  eq a b:=Nat.beq a.len b.len&&fA (λi=>bI.eq (a.get i) (b.get i)) a.len
  eqk:=by
    intro a b h;obtain⟨n,f⟩:=a;obtain⟨m,f'⟩:=b;rw[Bool.and_eq_true]at h;have e:n=m:=Nat.eq_of_beq_eq_true h.1;subst e;have key:=λi (hi:i<n)=>bI.eqk (Sj h.2 i hi);exact⟨.sl _ _ _ _ (λi j=>bI.sm _ _) (λi hi=>(key i hi).length) λi k x y hi hx hy=>by
      obtain⟨z,hz,r⟩:=RL.get (key i hi) k x hx;rw[hy]at hz;cases hz;exact r,trivial⟩
theorem zb4{α β:Type}{R:α→β→Prop}:∀{a:List α}{b:List β}{c:List α}{d:List β},RL R a b→RL R c d→RL R (a++c) (b++d)|[],[],_,_,_,h=>h|_::_,_::_,_,_,h,h'=>⟨h.1,zb4 h.2 h'⟩
instance {α β : Type} [bI α] [bI β] : bI (α × β) where
  enc:=λx=>bI.enc x.1++bI.enc x.2
  dec:=λl=>(((bI.dec (α:=α) l).1,(bI.dec (α:=β) (bI.dec (α:=α) l).2).1),(bI.dec (α:=β) (bI.dec (α:=α) l).2).2)
  ck:=λl=>match bI.ck (α:=α) l with|some r=>bI.ck (α:=β) r|none=>none
  le:=by
    intro l r hl h;split at h;rename_i r1 h1;obtain⟨k1,e1,d1,p1⟩:=bI.le hl h1;obtain⟨r1',e1',s1⟩:=bI.inv hl h1;rw[h1]at e1';cases e1';obtain⟨k2,e2,d2,p2⟩:=bI.le s1 h;refine⟨k1++k2,by rw[List.append_assoc,<- e2];exact e1,?_,?_⟩;simp only[d1];exact d2;simp only[d1];exact zb4 p1 p2;cases h
  inv:=by
    intro l m r h hc;split at hc;rename_i r1 h1;obtain⟨r1',e1,s1⟩:=bI.inv h h1;obtain⟨r2',e2,s2⟩:=bI.inv s1 hc;exact⟨r2',by rw[e1];exact e2,s2⟩;cases hc
  sm a b:=zb4 (bI.sm _ _) (bI.sm _ _)
  eq a b:=bI.eq a.1 b.1&&bI.eq a.2 b.2
  eqk h:=by rw[Bool.and_eq_true]at h;exact zb4 (bI.eqk h.1) (bI.eqk h.2)
structure Pt (α : Type) where
  v:α
instance{α:Type}[Inhabited α]:Inhabited (Pt α):=⟨⟨default⟩⟩
instance {α : Type} [bI α] : bI (Pt α) where
  enc:=λx=>[.fp (bI.enc x.v) 0]
  dec:=λl=>match l with|.fp k _::r=>(⟨(bI.dec k).1⟩,r)|_=>(⟨(bI.dec []).1⟩,[])
  ck:=λl=>match l with
    | .fp k 0::r=>match PZ (bI.ck (α:=α) k)with|true=>some r|false=>none
    | _=>none
  le:=by
    intro l r hl h;split at h;split at h;rename_i hc;cases h;obtain⟨k',e1,_,p⟩:=bI.le hl.1.cells (Si hc);rw[List.append_nil]at e1;rw[<- e1]at p;exact⟨[_],rfl,rfl,.fp _ _ _ p.length λk x y hx hy=>by
      obtain⟨z,hz,r⟩:=RL.get p k x hx;rw[hy]at hz;cases hz;exact r,trivial⟩
    cases h;cases h
  inv:=by
    intro l m r h hc;split at hc;split at hc
    · rename_i hs;cases hc
      match m,h with
      | y::m,h =>
        obtain⟨h,h2⟩:=h;cases h with
        | fp _ l' _ hl hg =>
          obtain⟨r',e,hr⟩:=bI.inv (α:=α) (Sm.cells (.fp _ _ 0 hl hg)) (Si hs);cases r' with|nil=>exact⟨m,by simp only[e];rfl,h2⟩|cons=>exact hr.elim
        | atom _ h=>cases h
    cases hc;cases hc
  sm a b:=⟨Sm.fp' (bI.sm _ _),trivial⟩
  eq a b:=bI.eq a.v b.v
  eqk h:=⟨.fp _ _ _ (bI.eqk h).length λk x y hx hy=>by
    obtain⟨z,hz,r⟩:=RL.get (bI.eqk h) k x hx;rw[hy]at hz;cases hz;exact r,trivial⟩
abbrev bI.iso {α β : Type} [bI α] (f : α → β) (g : β → α) (hg : ∀ a, g (f a) = a) : bI β where
  enc:=λb=>bI.enc (g b)
  dec:=λl=>(f (bI.dec (α:=α) l).1,(bI.dec (α:=α) l).2)
  ck:=bI.ck (α:=α)
  le:=by
    intro l r hl h;rw[hg];exact bI.le hl h
  inv:=bI.inv
  sm a b:=bI.sm _ _
  eq a b:=bI.eq (g a) (g b)
  eqk h:=bI.eqk h
end Go.Pm
namespace Go.Pm
def KI(b:Bool)(x y:Prop):Prop:=match b with|true=>x|false=>y
theorem ru{b:Bool}{x y:Prop}:KI b x y↔((b=true->x)/\(b=false->y)):=by
 cases b<;>simp[KI]
theorem Dn{b:Bool}{x y:Prop}(h1:b=true->x)(h2:b=false->y):KI b x y:=ru.2 ⟨h1,h2⟩
structure Keep where
  tmps:List Nat
  coT:List (Nat×Nat×Nat)
  coB:List (Nat×Nat×Nat×Nat)
  coV:List (Nat×Nat×Nat×Nat×Nat)
  coF:List Nat
  coZ:List Nat
  nf:List (Nat×Nat×Nat×Nat)
structure dG where
  nt:Nat
  reg:List (Nat×Keep)
  head:List (Nat×Keep)
  cut:List (Nat×Keep)
  unr:List (Nat×Nat×Keep)
  yl:List Nat
  pan:List Nat
def St.setT(σ:St)(t:Nat)(d:DV):St:={σ with env:=(t,d)::σ.env}
def gz(l:List Nat)(x:Cl):Cl :=
 match x with
 | .vec L=>match l.contains L with|true=>.dead L|false=>.vec L
 | .vptr L s i k=>match l.contains L with|true=>.dead L|false=>.vptr L s i k
 | .mo L=>match l.contains L with|true=>.dead L|false=>.mo L
 | x=>x
def fZ(l:List Nat):D1→D1|.c x=>.c (gz l x)|.agg cs=>.agg (cs.map (gz l))
def gY(l:List Nat):DV→DV|.one d=>.one (fZ l d)|.tup ds=>.tup (ds.map (fZ l))
def fE(l:List Nat):AO→AO|.box ty cs=>.box ty (cs.map (gz l))|o=>o
def kills{α:Type}(f:α→α):List (Nat×α)→List (Nat×α)|[]=>[]|(k,a)::r=>(k,f a)::kills f r
def St.upd(σ:St)(_i:Nat)(dst:Option Nat)(_fp:List (Nat×Bool))(d:DV)(u:List (Nat×AO))(kill:List Nat):St :=
  match kill with
  | [] => { env := match dst with | some t => (t, d) :: σ.env | none => σ.env
            ay:=u++σ.ay
            log:=σ.log}
  | kill => { env := match dst with | some t => (t, d) :: kills (gY kill) σ.env | none => kills (gY kill) σ.env
              ay:=u++kills (fE kill) σ.ay
              log:=σ.log}
def St.skip(σ:St)(dst:Option Nat):St :=
 match dst with|some t=>σ.setT t (.cl .undef)|none=>σ
def dI(nt:Nat):Option Nat→Bool|none=>true|some t=>Nat.blt t nt
def St.relog(σ:St)(l:List (Nat×Nat×Nat)):St:={σ with log:=l++σ.log}
def O5(σ:St):List Nat→List Nat
  | []=>[]
  | L::_=>(σ.ay.map (·.1)).filter λk=>match lk σ.ay k with|some o=>(qh o).contains L|none=>false
def KJ(σ:St)(o:Oper)(fp:List (Nat×Bool)):List Nat :=
 (o.op.operands.toList.flatMap λx=>mg (fV σ.env x))++fp.flatMap λx=>match lk σ.ay x.1 with|some ob=>qh ob|none=>[]
def pK(σ:St)(i:Nat)(o:Oper)(fp:List (Nat×Bool))(kl:List Nat):List (Nat×Nat×Nat) :=
 (fp.map λx=>(i,x.1,match x.2 with|true=>1|false=>0))++((KJ σ o fp).map λL=>(i,L,2))++(kl.map λL=>(i,L,3))++((O5 σ kl).map λL=>(i,L,1))
def nZ(A:aH)(lg:List (Nat×Bool)->List Nat->List (Nat×Nat×Nat))(i:Nat)(dst:Option Nat)(K:St->Prop)(σ:St):Prop :=
 match A with|.no=>False|.val fp d u kl=>K ((σ.upd i dst fp d u kl).relog (lg fp kl))|.chk fp s d u kl=>s.p/\K ((σ.upd i dst fp d u kl).relog (lg fp kl))
section
variable(P:Program)(Γ:bK)
def kL(nt:Nat)(ops:Array Oper):Nat→List Oper→(St→Prop)→St→Prop
  | _,[],K,σ=>K σ
  | i,o::r,K,σ =>
    match dI nt o.dst with
    | false=>False
    | true =>
    match o.guard with
    | none=>nZ (act P Γ o (fV σ.env) (lk σ.ay)) (pK σ i o) i o.dst (kL nt ops (i+1) r K) σ
    | some (j,want) =>
      match(ops[j]?).bind (·.dst)with
      | none=>False
      | some g =>
        match lk σ.env g with
        | some (.one (.c (.p (.bool b)))) =>
          KI b
            (match want with|true=>nZ (act P Γ o (fV ((g,.bool true)::σ.env)) (lk σ.ay)) (pK (σ.setT g (.bool true)) i o) i o.dst (kL nt ops (i+1) r K) (σ.setT g (.bool true))|false=>kL nt ops (i+1) r K ((σ.setT g (.bool true)).skip o.dst))
            (match want with|true=>kL nt ops (i+1) r K ((σ.setT g (.bool false)).skip o.dst)|false=>nZ (act P Γ o (fV ((g,.bool false)::σ.env)) (lk σ.ay)) (pK (σ.setT g (.bool false)) i o) i o.dst (kL nt ops (i+1) r K) (σ.setT g (.bool false)))
        | some (.one (.c .undef))=>kL nt ops (i+1) r K (σ.skip o.dst)
        | _=>False
def Bv(ms:List Nat):List Edge→Nat
  | []=>0
  | e::r=>match Region.binds .any e,ms[e.on]? with
    | true,some m=>(2^e.on ||| m) ||| Bv ms r
    | _,_=>Bv ms r
def masks:List Oper→List Nat→List Nat|[],ms=>ms|o::r,ms=>masks r (ms++[Bv ms o.after.toList])
def ZN:Operand→List Nat|.tmp t=>[t]|_=>[]
def gdT(ops:Array Oper)(o:Oper):List Nat :=
 match o.guard with
 | some (j,_)=>match(ops[j]?).bind (·.dst)with|some g=>[g]|none=>[]
 | none=>[]
def ut(ops:Array Oper)(o:Oper):List Nat:=o.op.operands.toList.flatMap ZN++gdT ops o
def meets(l:List Nat)(d:Option Nat):Bool:=match d with|some t=>l.contains t|none=>false
def zb5(d e:Option Nat):Bool:=match d,e with|some t,some u=>Nat.beq t u|_,_=>false
def KL(ops:Array Oper)(a b:Oper):Bool :=
 meets (ut ops b) a.dst||meets (ut ops a) b.dst||zb5 a.dst b.dst
def Bz(ops:Array Oper)(ms:List Nat):Bool :=
 (List.range ops.size).all λj=>(List.range j).all λi =>
  match ops[i]?,ops[j]?,ms[j]? with
  | some a,some b,some m=>!KL ops a b||m.testBit i
  | _,_,_=>false
def KN(ops:Array Oper):Bool :=
 (List.range ops.size).all λi=>match ops[i]? with
  | some o=>o.after.toList.all λe=>!Region.binds .any e||Nat.blt e.on i
  | none=>true
def ZO(k l:Nat):Bool :=
 match k,l with|0,1=>true|1,0=>true|1,1=>true|2,3=>true|3,2=>true|3,3=>true|_,_=>false
def vk(ms:List Nat)(log:List (Nat×Nat×Nat)):Bool :=
 log.all λx=>log.all λy =>
  !Nat.blt x.1 y.1 || !Nat.beq x.2.1 y.2.1 || !ZO x.2.2 y.2.2||(match ms[y.1]? with|some m=>m.testBit x.1|none=>false)
def tH(x:Cl):Cl:=match x with | .dead _=>.junk|x=>x
def yO:D1→D1|.c x=>.c (tH x)|.agg cs=>.agg (cs.map tH)
def Su:DV→DV|.one d=>.one (yO d)|.tup ds=>.tup (ds.map yO)
def Jr:AO→AO|.box ty cs=>.box ty (cs.map tH)|o=>o
def mW:List (Nat×Nat×Nat)→St→Option St
  | [],σ=>some σ
  | (t,L,e)::r,σ=>match lk σ.env t with
    | some (.one (.c (.p .nils)))=>match lk σ.ay L,P.info? e,iw P e with
      | none,some ie,some _=>match Nat.ble 1 ie.size with|true=>mW r {env:=(t,.cl (.vec L))::σ.env,ay:=(L,.vec e ie.size ie.bytes 0 (λ_=>Dj P e))::σ.ay,log:=σ.log}|false=>none
      | _,_,_=>none
    | some (.one (.c (.vec _)))=>mW r σ
    | _=>none
def mX:List (Nat×Nat×Nat×Nat)→St→Option St
  | [],σ=>some σ
  | (B,k,L,e)::r,σ=>match lk σ.ay B with
    | some (.box ty cs)=>match cs[k]? with
      | some (.p .nils)=>match lk σ.ay L,P.info? e,iw P e with
        | none,some ie,some _=>match Nat.ble 1 ie.size with|true=>mX r {env:=σ.env,ay:=(B,.box ty (cs.set k (.vec L)))::(L,.vec e ie.size ie.bytes 0 (λ_=>Dj P e))::σ.ay,log:=σ.log}|false=>none
        | _,_,_=>none
      | some (.vec _)=>mX r σ
      | _=>none
    | _=>none
def mY:List (Nat×Nat×Nat×Nat×Nat)→St→Option St
  | [],σ=>some σ
  | (B,k,L,te,e)::r,σ=>match lk σ.ay B with
    | some (.box ty cs)=>match cs[k]? with
      | some (.p .nils)=>match lk σ.ay L,P.info? te,iw P te with
        | none,some it,some _=>match P.info? e,iw P e with
          | some ie,some _=>match Nat.beq it.size 1&&Nat.ble 1 ie.size with|true=>mY r {env:=σ.env,ay:=(B,.box ty (cs.set k (.vec L)))::(L,.vv te it.bytes e ie.size ie.bytes 0 (λ_=>0) (λ_ _=>Dj P e))::σ.ay,log:=σ.log}|false=>none
          | _,_=>none
        | _,_,_=>none
      | some (.vec _)=>mY r σ
      | _=>none
    | _=>none
def yf{α:Type}(f:α→α)(l:List (Nat×α)):List Nat→List (Nat×α)
  | []=>[]
  | t::r=>match lk l t with|some d=>(t,f d)::yf f l r|none=>yf f l r
def BA:List Nat→Nat→List Nat
  | [],x=>[x]
  | y::r,x=>match Nat.beq x y with|true=>y::r|false=>y::BA r x
def zot(ob:Nat->Option AO)(l:List Nat):List Nat:=l.foldl (λa L=>match ob L with|some o=>(dW o).foldl BA a|none=>a) l
def zye(ob:Nat->Option AO)(env:List (Nat×DV)):List Nat :=
 zot ob (zot ob (zot ob (zot ob (env.foldl (λa x=>(cO x.2).foldl BA a) []))))
def ZP(jA:List Nat)(l:List Nat):Bool:=l.all λL=>jA.contains L
def F6(ob:Nat→Option AO):List Nat→List (Nat×AO)
  | []=>[]
  | L::r=>match ob L with
    | some (.box _ cells)=>match jL ob cells with|some (l,[])=>(L,.fbox l)::F6 ob r|_=>F6 ob r
    | _=>F6 ob r
def O6(ob:Nat→Option AO):List Nat→List (Nat×AO)
  | []=>[]
  | L::r=>match ob L with|some (.vec _ size _ len get)=>(L,.fvec size len get)::O6 ob r|_=>O6 ob r
def zep(l:List Nat)(σ:St):St:={env:=σ.env,ay:=(F6 (lk σ.ay) l++O6 (lk σ.ay) l)++σ.ay,log:=σ.log}
def zeq(σ:St)(n:Nat):St:=match Nat.ble 1000000 n with
 | false=>σ
 | true=>match lk σ.ay ((n-1000000)/64)with
  | some (.box ty cs)=>match cs[(n-1000000)%64]? with
   | some (.vec L)=>match lk σ.ay L with|some (.vec _ s _ len get)=>{env:=σ.env,ay:=((n-1000000)/64,.box ty (cs.set ((n-1000000)%64) (.p (.sl len s get))))::([(L,.fvec s len get)]++σ.ay),log:=σ.log}|_=>σ
   | _=>σ
  | _=>σ
def coP:List Nat→St→St|[],σ=>σ|n::r,σ=>coP r (zeq σ n)
def mZ:List Nat→St→Option St
  | [],σ=>some σ
  | t::r,σ=>match lk σ.env t with
    | some (.one (.c x))=>match x with
      | .p _=>mZ r σ
      | _=>match frz (lk σ.ay) x with|some (v,u)=>mZ r {env:=(t,.p v)::σ.env,ay:=u++σ.ay,log:=σ.log}|none=>none
    | _=>none
def F7(e:Nat):Cl→Cl
  | .p .nils=>match qI P e with|some s=>.p (.sl 0 s (λ_=>Dj P e))|none=>.p .nils
  | x=>x
def VP(b:Nat)(f:Cl->Cl)(l:List Cl):List Cl:=match l[b]? with|some x=>l.set b (f x)|none=>l
def ZQ{α:Type}(k:Nat)(x:α):List (Nat×α)→List (Nat×α)
  | []=>[]
  | (j,y)::r=>match Nat.beq j k with|true=>(j,x)::r|false=>(j,y)::ZQ k x r
def nf1(k a b e:Nat)(σ:St):St :=
 match k with
 | 0=>match lk σ.env a with|some (.one (.c x))=>{env:=ZQ a (.one (.c (F7 P e x))) σ.env,ay:=σ.ay,log:=σ.log}|some (.one (.agg cs))=>{env:=ZQ a (.one (.agg (VP b (F7 P e) cs))) σ.env,ay:=σ.ay,log:=σ.log}|_=>σ
 | _=>match lk σ.ay a with|some (.box ty cs)=>{env:=σ.env,ay:=ZQ a (.box ty (VP b (F7 P e) cs)) σ.ay,log:=σ.log}|_=>σ
def Js:List (Nat×Nat×Nat×Nat)→St→St|[],σ=>σ|(k,a,b,e)::r,σ=>Js r (nf1 P k a b e σ)
def yP(k:Keep)(σ:St):Option St :=
  match mW P k.coT σ with
  | none=>none
  | some σ1=>match mX P k.coB σ1 with
    | none=>none
    | some σ2=>match mY P k.coV σ2 with
     | none=>none
     | some σ3 =>
      let env:=yf Su σ3.env k.tmps;let jA:=zye (lk σ3.ay) env;let ay:=yf Jr σ3.ay jA
      match(env.all λx=>ZP jA (cO x.2))&&(ay.all λx=>ZP jA (dW x.2))with|true=>some ⟨env,ay,[]⟩|false=>none
def canon(k:Keep)(σ:St):Option St :=
 match mZ k.coZ (coP k.coF (zep k.coF σ))with
 | some s=>match yP P k s with|some s=>some (Js P k.nf s)|none=>none
 | none=>none
def P5(aQ:dG)(id:Nat)(ops:Array Oper)(draw:Bool)(K:St->Prop)(σ:St):Prop :=
 match draw with
 | false=>kL P Γ aQ.nt ops 0 ops.toList (λσ'=>match lk aQ.reg id with
   | some k=>match canon P k σ' with|some s=>K s|none=>False
   | none=>K σ') {σ with log:=[]}
 | true=>match P.follows .mixedOrders&&KN ops&&Bz ops (masks ops.toList [])with
  | true=>kL P Γ aQ.nt ops 0 ops.toList (λσ'=>match vk (masks ops.toList []) σ'.log with
   | true=>match lk aQ.reg id with
    | some k=>match canon P k σ' with|some s=>K s|none=>False
    | none=>False
   | false=>False) {σ with log:=[]}
  | false=>False
def zer(aQ:dG)(id:Nat)(K:St->Prop)(σ:St):Prop:=match lk aQ.reg id with
 | some k=>match canon P k σ with|some s=>K s|none=>False
 | none=>K σ
def qm{α:Type}:List α→Option (List α×α)
  | []=>none
  | o::r=>match qm r with|some (p,l)=>some (o::p,l)|none=>some ([],o)
def zes(nt:Nat)(m p:Oper):Option (TypeId×Nat×Nat):=match m.op,m.dst,m.guard,p.op,p.guard with
 | .makeInterface ty (.tmp x),some y,none,.panic (.tmp y'),none=>match Nat.beq y y'&&Nat.blt y nt with
  | true=>match P.underlying ty with|some (.struct _)=>some (ty,x,y)|_=>none
  | false=>none
 | _,_,_,_,_=>none
def zet(o:Oper)(σ:St):Option (MK×List XA×List DV×List Nat×List Nat):=match o.op with
 | .call {callee:=.value f,args,argTypes:=_}=>match fV σ.env f with
  | .one (.c (.clo g caps))=>match Γ.mt g with
   | some C=>match kK (zen g args.size caps) (lk σ.ay) (args.toList.map (fV σ.env)++caps.map capD)with|some (xs,ls,ms)=>some (C,xs,args.toList.map (fV σ.env)++caps.map capD,ls,ms)|none=>none
   | none=>none
  | _=>none
 | _=>none
def O7(i:Nat)(dst:Option Nat)(σ:St):aH→Option St|.val fp d u kl=>some (σ.upd i dst fp d u kl)|_=>none
def ZR(aQ:dG)(id i:Nat)(o:Oper)(K:Exit->St->Prop)(σ:St):Prop :=
 match o.guard,dI aQ.nt o.dst with
 | none,true=>match zet Γ o σ with
  | some (C,xs,ds,ls,ms)=>match(C xs).o with
   | some (rs,ys)=>match FZ rs with
    | none=>match O7 i o.dst σ (qJ ds (lk σ.ay) ls ms rs ys)with|some σ2=>zer P aQ id (K .normal) σ2|none=>False
    | some ch=>match O7 i none σ (qJ ds (lk σ.ay) ls ms rs ys)with|some σ2=>K (.panic ch) σ2|none=>False
   | none=>False
  | none=>False
 | _,_=>False
def zyf(ty:TypeId)(x y:Nat)(K:Exit->St->Prop)(σ:St):Prop:=match lk σ.env x with|some (.one (.agg [.p (.int k n)]))=>K (.panic (zon ty k n)) ⟨(y,.junk)::σ.env,σ.ay,[]⟩|_=>False
def KO(aQ:dG)(id:Nat)(ops:Array Oper)(K:Exit->St->Prop)(σ:St):Prop :=
 match qm ops.toList with
 | some (p1,l)=>match qm p1 with
  | some (pre,m)=>match zes P aQ.nt m l with
   | some (ty,x,y)=>kL P Γ aQ.nt ops 0 pre (zyf ty x y K) {σ with log:=[]}
   | none=>kL P Γ aQ.nt ops 0 p1 (ZR P Γ aQ id p1.length l K) {σ with log:=[]}
  | none=>False
 | none=>False
def jT:Code→Nat
  | .region id _ _=>id
  | .seq a _=>jT a
  | .block _ b=>jT b
  | .loop b=>jT b
  | .scope b=>jT b
  | .cond _ a b=>match Nat.beq (jT a) 1000000 with|true=>jT b|false=>jT a
  | _=>1000000
def zou(aQ:dG)(r:Nat)(go:St->Prop)(σ:St):Prop :=
 match lk aQ.cut r with
 | some k=>match canon P k σ with|some s=>go s|none=>False
 | none=>go σ
def zeu(next:St→Prop)(K:Exit→St→Prop):Exit→St→Prop
  | .normal,σ=>next σ
  | e,σ=>K e σ
def ZT(id:Nat)(K:Exit→St→Prop):Exit→St→Prop
  | .exit i,σ=>match Nat.beq i id with|true=>K .normal σ|false=>K (.exit i) σ
  | e,σ=>K e σ
def zyg(K:Exit→St→Prop):Exit→St→Prop|.goto _,_=>False|e,σ=>K e σ
def zhI(aQ:dG)(id:Nat)(X:St→Prop)(K:Exit→St→Prop):Exit→St→Prop
  | .normal,σ=>match lk aQ.head id with
    | some k=>match canon P k σ with|some s=>X s|none=>False
    | none=>False
  | e,σ=>K e σ
def yg(σ:St)(c:Operand)(b:Bool):St:=match c with | .tmp t=>σ.setT t (.bool b)|_=>σ
def zev(k:Keep)(step:(Exit→St→Prop)→St→Prop):Nat→(Exit→St→Prop)→St→Prop
  | 0,_,_=>False
  | n+1,K,σ=>match canon P k σ with
    | some s=>step (λe σ'=>match e with | .normal=>zev k step n K σ'|e=>K e σ') s
    | none=>False
def Jb:List Oper→List Nat
  | []=>[]
  | o::r=>match o.dst with|some t=>t::Jb r|none=>Jb r
def H7:Nat:=4294967296
def eQ:Code→List Nat|.region _ ops _=>Jb ops.toList|.seq a b=>eQ a++eQ b|.cond _ a b=>eQ a++eQ b|.block _ b=>eQ b|.loop b=>eQ b|.scope b=>eQ b|.rangeFunc _ _ a b=>H7::(eQ a++eQ b)|_=>[]
def ZU(a b:Code):Nat:=match Nat.beq (jT a) 1000000 with|true=>jT b|false=>jT a
def oI(l m:List Nat):Bool:=l.all λt=>!m.contains t
def qK:List Nat→List PA→List (Nat×DV)→Option (List (Nat×DV))|[],[],e=>some e|p::ps,y::ys,e=>qK ps ys ((p,.one (Jq y))::e)|_,_,_=>none
def uu(k:Keep)(np:Bool)(next:St→Prop)(K:Exit→St→Prop):Exit→St→Prop
  | .normal,σ=>match canon P k σ with|some s=>next s|none=>False
  | .ret,σ=>match canon P k σ with|some s=>K .ret s|none=>False
  | .exit id,σ=>match canon P k σ with|some s=>K (.exit id) s|none=>False
  | .panic ch,σ=>match np,canon P k σ with|true,some s=>K (.panic ch) s|_,_=>False
  | _,_=>False
def vc(aQ:dG):Code→(Exit→St→Prop)→St→Prop
  | .skip,K,σ=>K .normal σ
  | .region id ops draw,K,σ=>match aQ.pan.contains id && !draw with|false=>P5 P Γ aQ id ops draw (K .normal) σ|true=>KO P Γ aQ id ops K σ
  | .seq a b,K,σ=>vc aQ a (zeu (zou P aQ (jT b) (vc aQ b K)) K) σ
  | .cond c a b,K,σ=>match fV σ.env c with|.one (.c (.p (.bool t)))=>KI t (vc aQ a K (yg σ c true)) (vc aQ b K (yg σ c false))|_=>False
  | .block id b,K,σ=>vc aQ b (ZT id K) σ
  | .loop b,K,σ=>match lk aQ.head (jT b)with
    | some k=>match canon P k σ with|some s=>∀X:St->Prop,(∀s,vc aQ b (zhI P aQ (jT b) X K) s->X s)->X s|none=>False
    | none=>match lk aQ.unr (jT b)with|some (n,k)=>zev P k (vc aQ b) n K σ|none=>False
  | .rangeFunc f ps assign body,K,σ=>match lk aQ.head (ZU assign body)with
    | some k=>match canon P k σ,oI k.tmps (ps.toList++(eQ assign++eQ body))&&ps.toList.all (λp=>Nat.blt p aQ.nt)with
      | some s,true=>match fV s.env f with
        | .one (.c (.p (.fn gf [] caps)))=>match(Γ.it gf (caps.map .one)).o with
          | some ys=>∀X:List (List PA)->St->Prop,(∀s,K .normal s->X [] s) ->
            (∀y rest s,(match qK ps.toList y s.env with|some env=>vc aQ assign (zeu (vc aQ body (uu P k (oI [H7] (eQ assign++eQ body)) (X rest) K)) λ_ _=>False) ⟨env,s.ay,[]⟩|none=>False)->X (y::rest) s)->X ys s
          | none=>False
        | _=>False
      | _,_=>False
    | none=>False
  | .exit id,K,σ=>K (.exit id) σ
  | .scope b,K,σ=>vc aQ b (zyg K) σ
  | .label _,K,σ=>K .normal σ
  | .ret,K,σ=>K .ret σ
  | _,_,_=>False
def lC(σ:St):List ResultVar→Option (List PA)
  | []=>some []
  | .tmp t::r=>match lk σ.env t with
    | some d=>match Az (lk σ.ay) d,lC σ r with|some (x,_),some l=>some (x::l)|_,_=>none
    | none=>none
  | .cell t ty::r=>match lk σ.env t,jK P ty,qI P ty with
    | some (.one (.c (.ptr L off))),some g,some n=>match lk σ.ay L with
      | some (.box _ cells)=>match oD g n cells off with
        | some d=>match Az (lk σ.ay) (.one d),lC σ r with|some (x,_),some l=>some (x::l)|_,_=>none
        | none=>none
      | _=>none
    | _,_,_=>none
def BB(fn:Func)(K:List PA->Prop)(σ:St):Prop :=
 match lC P σ fn.results.toList with|some l=>K l|none=>False
def zhJ(fn:Func)(K:List PA→Prop):Exit→St→Prop|.ret,σ=>BB P fn K σ|.normal,σ=>BB P fn K σ|_,_=>False
def jB:Nat→List PA→List (Nat×DV)|_,[]=>[]|i,x::r=>(i,.one (Jq x))::jB (i+1) r
def vcFun(aQ:dG)(f:FuncId)(args:List PA)(K:List PA->Prop):Prop :=
 match P.funcs[f]? with
 | some fn=>match fn.body with
  | some c=>match Nat.beq aQ.nt fn.ntmps&&Nat.ble args.length aQ.nt with|true=>vc P Γ aQ c (zhJ P fn K) ⟨jB 0 args,[],[]⟩|false=>False
  | none=>False
 | none=>False
def P6(fn:Func)(e s b:Nat)(K:List PA->Prop)(σ:St):Prop :=
 match fn.results.toList with
 | [.tmp t]=>match lk σ.env t with
  | some (.one (.c (.vec L)))=>match lk σ.ay L with
   | some (.vec e' s' b' n get)=>match Nat.beq e e'&&(Nat.beq s s'&&Nat.beq b b')with|true=>K [.one (.sl n s get)]|false=>False
   | _=>False
  | _=>False
 | [.tmp t,.tmp u]=>match lk σ.env t with
  | some (.one (.c (.vec L)))=>match lk σ.env u with
   | some (.one (.c (.p x)))=>match lk σ.ay L with
    | some (.vec e' s' b' n get)=>match Nat.beq e e'&&(Nat.beq s s'&&Nat.beq b b')with|true=>K [.one (.sl n s get),.one x]|false=>False
    | _=>False
   | _=>False
  | _=>False
 | _=>False
def zhK(fn:Func)(e s b:Nat)(K:List PA→Prop):Exit→St→Prop|.ret,σ=>P6 fn e s b K σ|.normal,σ=>P6 fn e s b K σ|_,_=>False
def zb6(aQ:dG)(f:FuncId)(args:List PA)(e s b:Nat)(K:List PA->Prop):Prop :=
 match P.funcs[f]? with
 | some fn=>match fn.body with
  | some c=>match Nat.beq aQ.nt fn.ntmps&&Nat.ble args.length aQ.nt with|true=>vc P Γ aQ c (zhK fn e s b K) ⟨jB 0 args,[],[]⟩|false=>False
  | none=>False
 | none=>False
/-! Iterators: functions that take yield. -/
abbrev YK:=Exit->List (List PA)->Bool->St->Prop
def rJ:List DV→Option (List PA)
  | []=>some []
  | .one (.c (.p v))::r=>match rJ r with|some l=>some (.one v::l)|none=>none
  | .one (.agg cs)::r=>match kJ cs,rJ r with|some l,some m=>some (.agg l::m)|_,_=>none
  | _::_=>none
def P7(ob:Nat→Option AO):List Nat→List (Nat×AO)
  | []=>[]
  | L::r=>match ob L with|some (.fbox l)=>(L,.fbox l)::P7 ob r|_=>P7 ob r
abbrev VQ:Nat:=4095
def KP(σ:St):List (Nat×AO):=F6 (lk σ.ay) (σ.ay.map (·.1))++P7 (lk σ.ay) (σ.ay.map (·.1))
def hasAll(ks:List Nat)(l:List Nat):Bool:=l.all λL=>ks.contains L
def wR(ks:List Nat)(l:List (Nat×DV)):List Nat→List (Nat×DV)
  | []=>[]
  | t::r=>match lk l t with
    | some d=>match hasAll ks (cO d)with|true=>(t,d)::wR ks l r|false=>wR ks l r
    | none=>wR ks l r
def zS(σ:St):St:=⟨wR (VQ::(KP σ).map (·.1)) σ.env (σ.env.map (·.1)),(VQ,.gone)::KP σ,[]⟩
def zov(σ:St)(o:Oper):Option (Array Operand×Nat) :=
 match o.op,o.dst with
 | .call {callee:=.value f,args,argTypes:=_},some t=>match fV σ.env f with
  | .one (.c (.vec 4095))=>match lk σ.env 0 with|some (.one (.c (.vec 4095)))=>some (args,t)|_=>none
  | _=>none
 | _,_=>none
def wS(nt:Nat)(o:Oper)(next:List (List PA)->Bool->St->Prop)(ys:List (List PA))(q:Bool)(σ:St):Prop :=
 match zov σ o with
 | some (args,t)=>match rJ (args.toList.map (fV σ.env)),Nat.blt t nt,q with
  | some y,true,false=>∃rest,ys=y::rest/\next rest false ((zS σ).setT t (.bool true))/\next rest true ((zS σ).setT t (.bool false))
  | _,_,_=>False
 | none=>match dI nt o.dst with
  | true=>nZ (act P Γ o (fV σ.env) (lk σ.ay)) (λ_ _=>[]) 0 o.dst (next ys q) σ
  | false=>False
def lX(nt:Nat)(ops:Array Oper):List Oper→(List (List PA)→Bool→St→Prop)→List (List PA)→Bool→St→Prop
  | [],K,ys,q,σ=>K ys q σ
  | o::r,K,ys,q,σ=>match o.guard with
    | none=>wS P Γ nt o (lX nt ops r K) ys q σ
    | some (j,want)=>match dI nt o.dst,(ops[j]?).bind (·.dst)with
      | true,some g=>match lk σ.env g with
        | some (.one (.c (.p (.bool b)))) => KI b
            (match want with|true=>wS P Γ nt o (lX nt ops r K) ys q (σ.setT g (.bool true))|false=>lX nt ops r K ys q ((σ.setT g (.bool true)).skip o.dst))
            (match want with|true=>lX nt ops r K ys q ((σ.setT g (.bool false)).skip o.dst)|false=>wS P Γ nt o (lX nt ops r K) ys q (σ.setT g (.bool false)))
        | some (.one (.c .undef))=>lX nt ops r K ys q (σ.skip o.dst)
        | _=>False
      | _,_=>False
def zyh(next:List (List PA)→Bool→St→Prop)(K:YK):YK
  | .normal,ys,q,σ=>next ys q σ
  | e,ys,q,σ=>K e ys q σ
def ZV(id:Nat)(K:YK):YK
  | .exit i,ys,q,σ=>match Nat.beq i id with|true=>K .normal ys q σ|false=>K (.exit i) ys q σ
  | e,ys,q,σ=>K e ys q σ
def zyi(K:YK):YK|.goto _,_,_,_=>False|e,ys,q,σ=>K e ys q σ
def zhL(aQ:dG)(id:Nat)(X:List (List PA)→Bool→St→Prop)(K:YK):YK
  | .normal,ys,q,σ=>match lk aQ.head id with
    | some k=>match canon P k σ with|some s=>X ys q s|none=>False
    | none=>False
  | e,ys,q,σ=>K e ys q σ
def P8(k:Keep)(step:YK→List (List PA)→Bool→St→Prop):Nat→YK→List (List PA)→Bool→St→Prop
  | 0,_,_,_,_=>False
  | n+1,K,ys,q,σ=>match canon P k σ with
    | some s=>step (λe qG q' σ'=>match e with | .normal=>P8 k step n K qG q' σ'|e=>K e qG q' σ') ys q s
    | none=>False
def zyj(aQ:dG)(r:Nat)(go:List (List PA)->Bool->St->Prop)(ys:List (List PA))(q:Bool)(σ:St):Prop :=
 match lk aQ.cut r with
 | some k=>match canon P k σ with|some s=>go ys q s|none=>False
 | none=>go ys q σ
def Sv(aQ:dG):Code→YK→List (List PA)→Bool→St→Prop
  | .skip,K,ys,q,σ=>K .normal ys q σ
  | .region id ops draw,K,ys,q,σ=>match(Jb ops.toList).contains 0,aQ.yl.contains id,draw with
    | true,_,_=>False
    | false,true,false=>lX P Γ aQ.nt ops ops.toList (λqG q' σ'=>match lk aQ.reg id with
      | some k=>match canon P k σ' with|some s=>K .normal qG q' s|none=>False
      | none=>K .normal qG q' {σ' with log:=[]}) ys q {σ with log:=[]}
    | false,true,true=>False
    | false,false,_=>P5 P Γ aQ id ops draw (K .normal ys q) σ
  | .seq a b,K,ys,q,σ=>Sv aQ a (zyh (zyj P aQ (jT b) (Sv aQ b K)) K) ys q σ
  | .cond c a b,K,ys,q,σ=>match fV σ.env c with|.one (.c (.p (.bool t)))=>KI t (Sv aQ a K ys q (yg σ c true)) (Sv aQ b K ys q (yg σ c false))|_=>False
  | .block id b,K,ys,q,σ=>Sv aQ b (ZV id K) ys q σ
  | .loop b,K,ys,q,σ=>match lk aQ.head (jT b)with
    | some k=>match canon P k σ with|some s=>∀X:List (List PA)->Bool->St->Prop,(∀ys q s,Sv aQ b (zhL P aQ (jT b) X K) ys q s->X ys q s)->X ys q s|none=>False
    | none=>match lk aQ.unr (jT b)with|some (n,k)=>P8 P k (Sv aQ b) n K ys q σ|none=>False
  | .exit id,K,ys,q,σ=>K (.exit id) ys q σ
  | .scope b,K,ys,q,σ=>Sv aQ b (zyi K) ys q σ
  | .label _,K,ys,q,σ=>K .normal ys q σ
  | .ret,K,ys,q,σ=>K .ret ys q σ
  | _,_,_,_,_=>False
def zhM(ys:List (List PA))(q:Bool):Prop:=match q with|true=>True|false=>ys=[]
def zGQ:YK|.ret,ys,q,_=>zhM ys q|.normal,ys,q,_=>zhM ys q|_,_,_,_=>False
def Sz(aQ:dG)(f:FuncId)(caps:List PA)(ys:List (List PA)):Prop :=
 match P.funcs[f]? with
 | some fn=>match fn.body with
  | some c=>match Nat.beq aQ.nt fn.ntmps&&Nat.ble (caps.length+1) aQ.nt&&fn.results.isEmpty with|true=>Sv P Γ aQ c zGQ ys false ⟨(0,.cl (.vec VQ))::jB 1 caps,[(VQ,.gone)],[]⟩|false=>False
  | none=>False
 | none=>False
end
end Go.Pm
namespace Go.Pm
open Go.RowKit (Below)
theorem lY{α:Type}(l:List α)(off:Nat)(l':List α):(spl l off l').length=l.length:=by
 induction l' generalizing l off with|nil=>rfl|cons x r ih=>simp[spl,ih]
inductive VS where
  | fz (o:Obj)
  | pin (o:Obj)
def tJ(l:List Int):Value:=.agg (l.map λn=>Value.int .i64 n).toArray
def VS.ok:VS→Obj→Prop|.fz o,x=>x=o|.pin o,x=>x=o
abbrev Fz:=Nat->Option VS
def Hw(h:Fz)(w:World):Prop:=∀b x,h b=some x->∃o,w.heap[b]? = some o/\x.ok o
theorem Hw.fz{h:Fz}{w:World}(H:Hw h w){b:Nat}{o:Obj}(hb:h b=some (.fz o)):w.heap[b]? = some o:=by
 obtain⟨o',h1,h2⟩:=H b _ hb;simp only[VS.ok]at h2;subst h2;exact h1
theorem Hw.lt{h:Fz}{w:World}(H:Hw h w){b:Nat}{x:VS}(hb:h b=some x):b<w.heap.size:=by
 obtain⟨o',h1,_⟩:=H b _ hb;exact(VD.1 h1).1
theorem Hw.same{h:Fz}{w w':World}(H:Hw h w)(hs:∀b x,h b=some x->w'.heap[b]? = w.heap[b]?):Hw h w':=λb x hb=>by
 obtain⟨o,h1,h2⟩:=H b x hb;exact⟨o,by rw[hs b x hb];exact h1,h2⟩
class aC where
  z:Nat
variable [aC]
abbrev zva:Nat:=aC.z
abbrev dle(a b:Nat):Prop:=a*zva<=b*zva
theorem KQ{a b:Nat}(h:a<=b):dle a b:=RJ _ h
structure yh (h : Fz) (B : Nat) (w w' : World) : Prop where
  os:w'.os=w.os
  tape:w'.tape=w.tape
  output:w'.output=w.output
  size:w.heap.size<=w'.heap.size
  drawn:dle w.drawn w'.drawn
  block:∀k,k<B->w'.heap[k]? = w.heap[k]?
structure KR (B : Nat) (w w' : World) : Prop extends Below B w w' where
  drawn:dle w.drawn w'.drawn
structure GrB (w w' : World) (row : Option Nat) : Prop extends w.grownBy w' row where
  drawn:dle w.drawn w'.drawn
theorem KR.refl(B:Nat)(w:World):KR B w w:=⟨Below.refl B w,kD _⟩
theorem yh.of{h:Fz}{B:Nat}{w w':World}(b:KR B w w'):yh h B w w':=⟨b.os,b.tape,b.output,b.size,b.drawn,λk hk=>b.block k hk⟩
theorem yh.refl(h:Fz)(B:Nat)(w:World):yh h B w w:=.of (.refl B w)
theorem yh.trans{h:Fz}{B:Nat}{a b c:World}(x:yh h B a b)(y:yh h B b c):yh h B a c :=
 ⟨y.os.trans x.os,y.tape.trans x.tape,y.output.trans x.output,FN x.size y.size,FN x.drawn y.drawn,λi hi=>(y.block i hi).trans (x.block i hi)⟩
theorem yh.drew{h:Fz}{B:Nat}{a w:World}(x:yh h B a w):yh h B a w.drew:=⟨x.os,x.tape,x.output,x.size,FN x.drawn (KQ (Nat.le_succ _)),x.block⟩
def fJ(kf:KF)(c:List Int):Value:=match kf with|.ints=>tJ c|.one=>.int .i64 (c.headD 0)
def cellV:Option IntKind→Int→Value|some k,x=>.int k x|none,x=>.bool (x != 0)
def rM(o:Option (List Int)):Nat→List (Option IntKind)→List Value|_,[]=>[]|i,k::ks=>cellV k (yL o i)::rM o (i+1) ks
def mi(yH:Bool)(ks:List (Option IntKind))(o:Option (List Int)):Value:=match yH with|true=>.agg (rM o 0 ks).toArray|false=>(rM o 0 ks).headD undef
def og(c:List Int):List (List Int×List Int)→Option (List Int)
  | []=>none
  | (k,v)::r=>if k=c then some v else og c r
structure MoE (q : MQ) (n : Nat) (F : List Int → Option (List Int)) (es : Array MapEntry) (clock : Nat) (en : List (List Int × List Int)) : Prop where
  one:q.1=.one->q.2.1=1
  vone:q.2.2.1=false->q.2.2.2.length=1
  ents:es.toList.map (λe=>(e.key,e.val))=en.map (λx=>(fJ q.1 x.1,mi q.2.2.1 q.2.2.2 (some x.2)))
  len:∀x∈en,x.1.length=q.2.1/\x.2.length=q.2.2.2.length
  nodup:(en.map (·.1)).Nodup
  find:∀c,c.length=q.2.1->F c=og c en
  size:n=en.length
  born:∀e∈es.toList,e.born<clock
  bornN:(es.toList.map (·.born)).Nodup
def moE(q:MQ)(n:Nat)(F:List Int->Option (List Int))(es:Array MapEntry)(clock:Nat):Prop:=∃en,MoE q n F es clock en
inductive Rep(h:Fz):PV→Value→Prop
  | bool (b:Bool):Rep h (.bool b) (.bool b)
  | int (k:IntKind) (n:Int):Rep h (.int k n) (.int k n)
  | nilp:Rep h .nilp (.pointer none)
  | nilf:Rep h .nilf .nilFunc
  | nilm:Rep h .nilm (.map none)
  | nils:Rep h .nils (.slice none 0 0)
  | fp (cells:List PV) (off b o:Nat) (C:Array Value) (ty:TypeId) (fr:Nat×Nat) (vs:Nat→Value) (hb:h b=some (.fz (.cells C ty fr)))
      (hc:∀j x,cells[j]? = some x->C[o+j]? = some (vs j)) (hr:∀j x,cells[j]? = some x->Rep h x (vs j)) :
      Rep h (.fp cells off) (.pointer (some ⟨b,o+off,none⟩))
  | sl0 (size:Nat) (get:Nat->List PV) (hu:uo get):Rep h (.sl 0 size get) (.slice none 0 0)
  | sle (size:Nat) (get:Nat->List PV) (a:Addr) (cap:Nat) (hu:uo get):Rep h (.sl 0 size get) (.slice (some a) 0 cap)
  | sl (len size:Nat) (get:Nat→List PV) (hu:uo get) (b o cap:Nat) (C:Array Value) (ty:TypeId) (fr:Nat×Nat) (vs:Nat→Nat→Value) (hb:h b=some (.fz (.cells C ty fr)))
      (kR:len<=cap) (hlen:∀i,i<len->(get i).length=size)
      (hc:∀i j x,i<len->(get i)[j]? = some x->C[o+i*size+j]? = some (vs i j))
      (hr:∀i j x,i<len->(get i)[j]? = some x->Rep h x (vs i j)) :
      Rep h (.sl len size get) (.slice (some ⟨b,o,none⟩) len cap)
  | fn (f:FuncId) (first caps:List PV) (fv cv:List Value) (h1:first.length=fv.length) (h2:caps.length=cv.length)
      (hf:∀(j:Nat)(x:PV)(v:Value),first[j]? = some x->fv[j]? = some v->Rep h x v) (hc:∀(j:Nat)(x:PV)(v:Value),caps[j]? = some x->cv[j]? = some v->Rep h x v) :
      Rep h (.fn f first caps) (.func (.func f) fv.toArray cv.toArray)
  | fna (f:FuncId) (cells:List PV) (vs:List Value) (h1:cells.length=vs.length)
      (hc:∀(j:Nat)(x:PV)(v:Value),cells[j]? = some x->vs[j]? = some v->Rep h x v):Rep h (.fna f cells) (.func (.func f) #[.agg vs.toArray] #[])
def kF(h h':Fz):Prop:=∀b o,h b=some o->h' b=some o
theorem Rep.mono{h h':Fz}(hl:kF h h'){p:PV}{v:Value}(r:Rep h p v):Rep h' p v:=by
 induction r with
 | bool b=>exact .bool b
 | int k n=>exact .int k n
 | nilp=>exact .nilp
 | nilf=>exact .nilf
 | nilm=>exact .nilm
 | nils=>exact .nils
 | fp cells off b o C ty fr vs hb hc hr ih=>exact .fp cells off b o C ty fr vs (hl _ _ hb) hc ih
 | sl0 size get hu=>exact .sl0 size get hu
 | sle size get a cap hu=>exact .sle size get a cap hu
 | sl len size get hu b o cap C ty fr vs hb kR hlen hc hr ih=>exact .sl len size get hu b o cap C ty fr vs (hl _ _ hb) kR hlen hc ih
 | fn f first caps fv cv h1 h2 hf hc ih1 ih2=>exact .fn f first caps fv cv h1 h2 ih1 ih2
 | fna f cells vs h1 hc ih=>exact .fna f cells vs h1 ih
theorem Rep.mono'{h h':Fz}(hl:∀b o,h b=some o->(∃C ty fr,o=.fz (.cells C ty fr))->h' b=some o){p:PV}{v:Value}(r:Rep h p v):Rep h' p v:=by
 induction r with
 | bool b=>exact .bool b
 | int k n=>exact .int k n
 | nilp=>exact .nilp
 | nilf=>exact .nilf
 | nilm=>exact .nilm
 | nils=>exact .nils
 | fp cells off b o C ty fr vs hb hc hr ih=>exact .fp cells off b o C ty fr vs (hl _ _ hb ⟨_,_,_,rfl⟩) hc ih
 | sl0 size get hu=>exact .sl0 size get hu
 | sle size get a cap hu=>exact .sle size get a cap hu
 | sl len size get hu b o cap C ty fr vs hb kR hlen hc hr ih=>exact .sl len size get hu b o cap C ty fr vs (hl _ _ hb ⟨_,_,_,rfl⟩) kR hlen hc ih
 | fn f first caps fv cv h1 h2 hf hc ih1 ih2=>exact .fn f first caps fv cv h1 h2 ih1 ih2
 | fna f cells vs h1 hc ih=>exact .fna f cells vs h1 ih
theorem Rep.un{h:Fz}{p:PV}{v:Value}(r:Rep h p v):Sm p p:=by
 induction r with|bool b=>exact .bool _ _|int k n=>exact .int _ _ _|sl0 size get hu=>exact uo.sl hu _ _ _|sle size get a cap hu=>exact uo.sl hu _ _ _|sl len size get hu=>exact uo.sl hu _ _ _|fp cells off b o C ty fr vs hb hc hr ih=>exact .fp _ _ _ rfl λk x y hx hy=>by rw[hx]at hy;cases hy;exact ih k x hx|_=>exact .atom _ rfl
theorem yQ{h:Fz}:∀{l:List PV}{vs:List Value},RL (Rep h) l vs→RS l l|[],[],_=>trivial|_::_,_::_,r=>⟨r.1.un,yQ r.2⟩
theorem Rep.up{h:Fz}{p q:PV}(e:ql p q):∀{v:Value},Rep h p v->Rep h q v:=by
 induction e with
 | rfl p=>exact λr=>r
 | nil s g hu=>intro v r;cases r;exact .sl0 s g hu
 | sl n s g g' hu hl he ih =>
  intro v r;cases r with
  | sl0=>exact .sl0 _ _ hu
  | sle=>exact .sle _ _ _ _ hu
  | sl _ _ _ _ b o cap C ty fr vs hb kR hlen hc hr =>
   refine .sl n s g' hu b o cap C ty fr vs hb kR (λi hi=>(hl i hi).symm.trans (hlen i hi)) (λi j x hi hx=>?_) λi j x hi hx=>?_;obtain⟨y,hy⟩:=pz (hl i hi).symm hx;exact hc i j y hi hy;obtain⟨y,hy⟩:=pz (hl i hi).symm hx;exact ih i j y x hi hy hx (hr i j y hi hy)
 | fp l l' off hl he ih =>
  intro v r;cases r with
  | fp _ _ b o C ty fr vs hb hc hr =>
   refine .fp l' off b o C ty fr vs hb (λj x hx=>?_) λj x hx=>?_;obtain⟨y,hy⟩:=pz hl.symm hx;exact hc j y hy;obtain⟨y,hy⟩:=pz hl.symm hx;exact ih j y x hy hx (hr j y hy)
 | fn f a a' l l' ha _ hl _ ih0 ih =>
  intro v r;cases r with
  | fn _ _ _ fv cv h1 h2 hf hc =>
   refine .fn f a' l' fv cv (ha.symm.trans h1) (hl.symm.trans h2) (λj x v hx hv=>?_) λj x v hx hv=>?_;obtain⟨y,hy⟩:=pz ha.symm hx;exact ih0 j y x hy hx (hf j y v hy hv);obtain⟨y,hy⟩:=pz hl.symm hx;exact ih j y x hy hx (hc j y v hy hv)
theorem BC{h:Fz}{l m:List PV}(e:RL ql l m){vs:List Value}(r:RL (Rep h) l vs):RL (Rep h) m vs:=by
 induction l generalizing m vs with
 | nil=>cases m with|nil=>exact r|cons=>exact e.elim
 | cons x l ih=>cases m with
  | nil=>exact e.elim
  | cons y m=>cases vs with|nil=>exact r.elim|cons v vs=>exact⟨r.1.up e.1,ih e.2 r.2⟩
theorem zew{v:Value}{p:PV}(h:wP v=some p):Sm p p:=by
 unfold wP at h;split at h<;>cases h<;>first|exact .atom _ rfl|exact .bool _ _|exact .int _ _ _
theorem P9:∀{l:List Value}{z:List Cl}{m:List PV},jJ l=some z→kJ z=some m→RS m m
  | [],z,m,h,h'=>by cases h;cases h';trivial
  | v::r,z,m,h,h'=>by
    simp only[jJ]at h;split at h;rename_i x l hx hl;cases h;simp only[kJ]at h';split at h';rename_i k hk;cases h';exact⟨zew hx,P9 hl hk⟩;cases h';cases h
theorem Jt{P:Program}{t:TypeId}{z:List Cl}{m:List PV}(h:iw P t=some z)(h':kJ z=some m):RS m m:=by
 unfold iw at h;split at h;split at h;split at h;rename_i hl;split at h;cases h;exact P9 hl h';cases h;cases h;cases h;cases h
theorem Qa{P:Program}{h:Fz}{t k:Nat}{l:List PV}{vs:List Value}(r:RL (Rep h) l vs):RL (Rep h) (zb3 P t k l) vs:=by
 unfold zb3;split;rename_i hk;split;rename_i s _ _ hz;split;rename_i z' hz';obtain⟨v,hv,hr⟩:=r.get k _ hk;have hvn:v=.slice none 0 0:=by cases hr;rfl
 subst hvn;have:=r.set k (a:=.sl 0 s (λ_=>z')) (b:=Value.slice none 0 0) (Rep.sl0 _ _ (KH (Jt hz hz')));have e:vs.set k (.slice none 0 0)=vs:=by
  obtain⟨iM,hv⟩:=Bl.1 hv;rw[<- hv,jqP]
 rwa[e]at this;exact r;exact r;exact r
theorem Qb{P:Program}{h:Fz}:∀(fs:List Field){l:List PV}{vs:List Value},RL (Rep h) l vs→RL (Rep h) (zhE P fs l) vs|[],_,_,r=>r|_::fs,_,_,r=>Qb fs (Qa r)
theorem vz{P:Program}{h:Fz}{e:TypeId}{l:List PV}{vs:List Value}(r:RL (Rep h) l vs):RL (Rep h) (AA P e l) vs:=by
 unfold AA;split;exact Qb _ r;exact Qa r
theorem Rep.one{h:Fz}{p:PV}{v:Value}(r:Rep h p v):v.oneCell'=true:=by
 cases r<;>first|rfl|(rename_i r;cases r<;>rfl)
structure Gh where
  h:Fz
  bk:Nat->Nat
  sv:Nat->Value
  iv:Nat->Nat->Value
def Jc(g:Gh):uj→Value→Prop|.v p,x=>Rep g.h p x|.b L,x=>x=.pointer (some ⟨g.bk L,0,none⟩)
def pM:Value→Nat|.map (some b)=>b|_=>0
def jw(g:Gh):Cl→Value→Prop|.p v,x=>Rep g.h v x|.ptr L off,x=>x=.pointer (some ⟨g.bk L,off,none⟩)|.vptr L s i k,x=>∃b,(g.sv L).ownBlock=some b/\x=.pointer (some ⟨b,i*s+k,none⟩)|.vec L,x=>x=g.sv L/\x.oneCell'=true|.mo L,x=>x=.map (some (pM (g.sv L)))|.clo f caps,x=>∃cv:List Value,x=.func (.func f) #[] cv.toArray/\RL (Jc g) caps cv|.undef,x=>x=undef|.junk,_=>True|.dead _,_=>True
theorem ry{g g':Gh}(hl:∀p x,Rep g.h p x→Rep g'.h p x):∀{caps:List uj}{vs:List Value},(∀L∈lV caps,g'.bk L=g.bk L)→RL (Jc g) caps vs→RL (Jc g') caps vs|[],[],_,_=>trivial|[],_::_,_,h=>h.elim|_::_,[],_,h=>h.elim|.v p::_,_::_,hb,h=>⟨hl _ _ h.1,ry hl (λL hL=>hb L hL) h.2⟩|.b M::_,_::_,hb,h=>⟨by have:=h.1;simp only[Jc]at this ⊢;rw[hb M (by simp[lV])];exact this,ry hl (λL hL=>hb L (by simp[lV,hL])) h.2⟩
theorem zb7{g:Gh}{c:Cl}{x:Value}(h:jw g c x)(ho:C9 c=true):x.oneCell'=true:=by
 cases c with
 | p v=>exact Rep.one h
 | ptr L off=>subst h;rfl
 | vptr L s i k=>obtain⟨b,_,rfl⟩:=h;rfl
 | vec L=>exact h.2
 | mo L=>subst h;rfl
 | clo f caps=>obtain⟨cv,rfl,_⟩:=h;rfl
 | undef=>cases ho
 | junk=>cases ho
 | dead L=>cases ho
def A7(g:Gh):D1→Value→Prop|.c x,v=>jw g x v|.agg cs,v=>∃vs:List Value,v=.agg vs.toArray/\RL (jw g) cs vs
def rO(g:Gh):DV→Value→Prop|.one d,v=>A7 g d v|.tup ds,v=>∃vs:List Value,v=.tuple vs.toArray/\RL (A7 g) ds vs
def Dp(P:Program)(g:Gh)(w:World)(B L e s b n:Nat)(get:Nat->List PV):Prop :=
 (uo get/\0<s)/\(∃i z,P.info? e=some i/\i.size=s/\i.bytes=b/\i.zero=some z/\z.cells.size=s) /\
 ∃xs:List Value,w.ownsRow B e s (g.sv L) n xs/\(∀i,i<n->RL (Rep g.h) (get i) ((xs.drop (i*s)).take s))
def Unv(get:Nat->Nat->List PV):Prop:=∀i j k l,RS (get i j) (get k l)
def vvR(P:Program)(g:Gh)(w:World)(B L te bb e s b n:Nat)(ln:Nat->Nat)(get:Nat->Nat->List PV):Prop :=
 (Unv get/\0<s)/\(∃i z,P.info? te=some i/\i.size=1/\i.bytes=bb/\i.zero=some z/\z.cells.size=1) /\
 (∃i z,P.info? e=some i/\i.size=s/\i.bytes=b/\i.zero=some z/\z.cells.size=s) /\
 w.ownsRow B te 1 (g.sv L) n ((List.range n).map (g.iv L)) /\
 (∀i,i<n->(g.iv L i).oneCell'=true/\(ln i=0->g.iv L i=.slice none 0 0)/\∃xs:List Value,w.ownsRow B e s (g.iv L i) (ln i) xs/\∀j,j<ln i->RL (Rep g.h) (get i j) ((xs.drop (j*s)).take s)) /\
 ∀i k,i<n->(g.iv L i).ownBlock=some k->(g.sv L).ownBlock≠some k/\∀j,j<n->(g.iv L j).ownBlock=some k->i=j
def vtR(P:Program)(g:Gh)(w:World)(B L te bb e s b n:Nat)(ln:Nat->Nat)(get:Nat->Nat->List PV)(o:Nat):Prop :=
 (Unv get/\0<s)/\(∃i z,P.info? te=some i/\i.size=1/\i.bytes=bb/\i.zero=some z/\z.cells.size=1) /\
 (∃i z,P.info? e=some i/\i.size=s/\i.bytes=b/\i.zero=some z/\z.cells.size=s) /\
 w.ownsRow B te 1 (g.sv L) n ((List.range n).map (g.iv L))/\(g.iv L o).oneCell'=true/\(∀k,g.iv L o ≠ .map (some k)) /\
 (∀i,i<n->i≠o->(g.iv L i).oneCell'=true/\(ln i=0->g.iv L i=.slice none 0 0)/\∃xs:List Value,w.ownsRow B e s (g.iv L i) (ln i) xs/\∀j,j<ln i->RL (Rep g.h) (get i j) ((xs.drop (j*s)).take s)) /\
 ∀i k,i<n->i≠o->(g.iv L i).ownBlock=some k->(g.sv L).ownBlock≠some k/\∀j,j<n->j≠o->(g.iv L j).ownBlock=some k->i=j
def zow(v:Value):Prop:=∀a n c,v=.slice (some a) n c->a.off=0
def moR(P:Program)(kt vt:Nat)(q:MQ)(n:Nat)(F:List Int->Option (List Int))(es:Array MapEntry)(clock:Nat):Prop :=
 Kw P kt vt=some q/\moE q n F es clock
def OX(P:Program)(g:Gh)(w:World)(B L:Nat):AO→Prop|.box ty cs=>∃C:Array Value,w.heap[g.bk L]? = some (.cells C ty (0,0))/\RL (jw g) cs C.toList|.fbox cs=>∃(C:Array Value)(ty:TypeId)(fr:Nat×Nat),g.h (g.bk L)=some (.fz (.cells C ty fr))/\RL (Rep g.h) cs C.toList|.vec e s b n get=>Dp P g w B L e s b n get|.fvec s n get=>Rep g.h (.sl n s get) (g.sv L)/\zow (g.sv L)|.vv te bb e s b n ln get=>vvR P g w B L te bb e s b n ln get|.vt te bb e s b n ln get o=>vtR P g w B L te bb e s b n ln get o|.mo kt vt q n F=>∃(es:Array MapEntry)(clock:Nat),w.heap[pM (g.sv L)]? = some (.map es clock)/\moR P kt vt q n F es clock|.gone=>True
def iy(g:Gh)(L:Nat)(o:AO)(b:Nat):Prop :=
 match o with|.box _ _=>g.bk L=b|.mo _ _ _ _ _=>pM (g.sv L)=b|.vec _ _ _ _ _=>(g.sv L).ownBlock=some b|.vv _ _ _ _ _ n _ _=>(g.sv L).ownBlock=some b\/∃i,i<n/\(g.iv L i).ownBlock=some b|.vt _ _ _ _ _ n _ _ o=>(g.sv L).ownBlock=some b\/∃i,i<n/\i≠o/\(g.iv L i).ownBlock=some b|_=>False
def H8(P:Program)(d:Deferred):Prop:=∃(fv:Fn)(cap:Array Value)(f:FuncId)(args:Array Value),d.target=.fn fv cap/\(∀w,(invoke d.target d.args).run P w=.ok (.enter f args) w) /\
 ∀(n:Nat)(w:World),CallsDIn {fn:=λ_=>True,depth:=none,alive:=false,round:=none} n P f args .returning w λe u w'=>(∃v,e=.returned v)/\u=.returning/\w'=w
def deD:Nat ⊕ Deferred→Deferred|.inl D=>{target:=.collected D,args:=#[]}|.inr d=>d
def lefts:List (Nat ⊕ Deferred)→List Nat|[]=>[]|.inl D::r=>D::lefts r|.inr _::r=>lefts r
theorem vC{D:Nat}:∀{es:List (Nat ⊕ Deferred)},Sum.inl D∈es→D∈lefts es
  | .inl E::r,h=>by
    rcases kS.1 h with e|h
    cases e;exact kX;exact jW _ (vC h)
  | .inr _::r,h=>by
    rcases kS.1 h with e|h
    cases e;exact vC (es:=r) h
theorem KT{D:Nat}:∀{es:List (Nat ⊕ Deferred)},D∈lefts es→Sum.inl D∈es
  | .inl E::r,h=>by
    rcases kS.1 h with rfl|h
    exact kX;exact jW _ (KT h)
  | .inr _::r,h=>jW _ (KT (es:=r) h)
def Marks(P:Program)(B:Nat)(h:Fz)(ds:List Deferred):Prop :=
 ∃es:List (Nat ⊕ Deferred),(lefts es).Nodup/\ds=es.map deD/\(∀D,Sum.inl D∈es->B<=D/\h D=some (.fz (.deferred (some []))))/\∀d,Sum.inr d∈es->H8 P d
theorem Marks.mono{P:Program}{B:Nat}{h h':Fz}{ds:List Deferred}(m:Marks P B h ds)(hl:kF h h'):Marks P B h' ds:=by
 obtain⟨es,h1,h2,h3,h4⟩:=m;exact⟨es,h1,h2,λD hD=>⟨(h3 D hD).1,hl _ _ (h3 D hD).2⟩,h4⟩
theorem Marks.nil{P:Program}(B:Nat)(h:Fz):Marks P B h []:=⟨[],qjD,rfl,λ_ hD=>by simp at hD,λ_ hD=>by simp at hD⟩
structure bW (P : Program) (nt B : Nat) (w0 : World) (h0 : Fz) (g : Gh) (σ : St) (a : Act) (w : World) : Prop where
  dfr:Marks P B g.h a.defers
  size:nt<=a.tmps.size
  env:∀t d,lk σ.env t=some d->rO g d (a.tmps.getD t undef)
  obj:∀L o,lk σ.ay L=some o->OX P g w B L o
  own:∀L o b,lk σ.ay L=some o->iy g L o b->B<=b/\g.h b=none
  sep:∀L o b L' o',lk σ.ay L=some o->lk σ.ay L'=some o'->iy g L o b->iy g L' o' b->L=L'
  hw:Hw g.h w
  le0:kF h0 g.h
  hn:∀b o,g.h b=some o->h0 b=some o\/B<=b
  below:yh h0 B w0 w
  bs:B<=w.heap.size
  clE:∀t d,lk σ.env t=some d->∀L∈cO d,∃o,lk σ.ay L=some o
  clO:∀L o,lk σ.ay L=some o->∀M∈dW o,∃o',lk σ.ay M=some o'
def oJ(h:Fz):PA→Value→Prop|.one v,x=>Rep h v x|.agg cs,x=>∃vs:List Value,x=.agg vs.toArray/\RL (Rep h) cs vs
def qP(h:Fz):List PA→Value→Prop|[r],v=>oJ h r v|rs,v=>∃vs:List Value,v=.tuple vs.toArray/\RL (oJ h) rs vs
def dA (P : Program) (f : FuncId) : Prop := ∃ fn, P.funcs[f]? = some fn ∧ fn.body.isSome = true ∧ (fn.name == "runtime.NumGoroutine") = false
def Ok(P:Program)(f:FuncId)(C:List PA->ae (List PA)):Prop :=
 ∀(args rs:List PA),(C args).o=some rs->∀(w:World)(h:Fz)(vs:List Value),RL (oJ h) args vs->Hw h w ->
  dA P f/\Calls P f vs.toArray w λ e w'=>∃ (h':Fz) (v:Value),e=.returned v/\qP h' rs v/\yh h w.heap.size w w' /\
   kF h h'/\Hw h' w'/\∀b o,h' b=some o->h b=some o\/w.heap.size<=b
def AC(h:Fz)(w:World)(base e s:Nat)(v:Value)(n:Nat)(get:Nat->List PV):Prop :=
 ∃xs:List Value,w.ownsRow base e s v n xs/\∀i,i<n->RL (Rep h) (get i) ((xs.drop (i*s)).take s)
structure ZW (h : Fz) (K : List Nat) (w w' : World) : Prop where
  os:w'.os=w.os
  tape:w'.tape=w.tape
  output:w'.output=w.output
  size:w.heap.size<=w'.heap.size
  drawn:dle w.drawn w'.drawn
  block:∀k,k<w.heap.size->k∉K->w'.heap[k]? = w.heap[k]?
def VT(v:Value)(xs:List Value):List PV→Value|[]=>v|_=>.tuple (v::xs).toArray
def gB(P:Program)(f:FuncId):FW→Prop
  | .none=>True
  | .sort e s b=>∀(w:World)(h:Fz)(base:Nat)(v:Value)(n:Nat)(get:Nat->List PV)(gf:FuncId)(caps:List PV)(cv:List Value)(ag:Bool)(C:List PA->ae (List PA)),@Ok ⟨1⟩ P gf C->RL (Rep h) caps cv->jK P e=some ag ->
      (∃i,P.info? e=some i/\i.size=s)->0<s->AC h w base e s v n get->v.oneCell'=true->Hw h w->(∀k,v.ownBlock=some k->h k=none)->base<=w.heap.size ->
      zx7 n (λi j=>(KA C caps ag get i j).isSome) (oG C caps ag get) ->
      dA P f/\Calls P f #[v,.func (.func gf) #[] cv.toArray] w λr w'=>r=.returned (.tuple #[])/\AC h w' base e s v n (KC n (oG C caps ag get) get)/\GrB w w' v.ownBlock
  | .clone e s b=>∀(w:World)(h:Fz)(v:Value)(n:Nat)(get:Nat->List PV),Rep h (.sl n s get) v->Hw h w->n*b<=140737488355328->n<=9223372036854775807 ->
      dA P f/\Calls P f #[v] w λ r w'=>∃ (h':Fz) (v':Value),r=.returned v'/\v'.oneCell'=true/\AC h' w' w.heap.size e s v' n get/\(∀ k,v'.ownBlock=some k->h' k=none) /\
        yh h w.heap.size w w'/\kF h h'/\Hw h' w'/\∀b o,h' b=some o->h b=some o\/w.heap.size<=b
  | .mkv e s b F=>∀(w:World)(h:Fz)(az:List PA)(vs:List Value)(n:Nat)(get:Nat->List PV)(rs:List PV),(F az).o=some (n,get,rs)->RL (oJ h) az vs->Hw h w ->
      dA P f/\Calls P f vs.toArray w λ r w'=>∃ (h':Fz) (v':Value) (xs:List Value),r=.returned (VT v' xs rs)/\RL (Rep h') rs xs/\v'.oneCell'=true/\uo get /\
        AC h' w' w.heap.size e s v' n get/\(∀k,v'.ownBlock=some k->h' k=none)/\yh h w.heap.size w w'/\kF h h'/\Hw h' w'/\∀b o,h' b=some o->h b=some o\/w.heap.size<=b
  | .grow e s b F=>∀(w:World)(h:Fz)(base:Nat)(az:List PA)(vs:List Value)(v:Value)(n:Nat)(get:Nat->List PV)(m:Nat)(get':Nat->List PV),(F az n get).o=some (m,get')->RL (oJ h) az vs ->
      v.oneCell'=true->(uo get/\0<s)->(∃i z,P.info? e=some i/\i.size=s/\i.bytes=b/\i.zero=some z/\z.cells.size=s)->AC h w base e s v n get->(∀k,v.ownBlock=some k->base<=k/\h k=none)->Hw h w->base<=w.heap.size ->
      dA P f/\Calls P f (vs ++ [v]).toArray w λ r w'=>∃ (h':Fz) (v':Value),r=.returned v'/\v'.oneCell'=true/\uo get'/\AC h' w' base e s v' m get' /\
        (∀k,v'.ownBlock=some k->(k∈v.ownBlock.toList\/w.heap.size<=k)/\h' k=none)/\kF h h'/\Hw h' w'/\(∀b o,h' b=some o->h b=some o\/w.heap.size<=b\/b∈v.ownBlock.toList)/\ZW h v.ownBlock.toList w w'
def JSt(J:List (List PA)->Fz->World->Prop):Prop :=
 ∀ys h W h' W',J ys h W->kF h h'->Hw h' W'->(∀b o,h' b=some o->h b=some o\/W.heap.size<=b)->yh h W.heap.size W W'->J ys h' W'
def AL(P:Program)(f:FuncId)(C:List PA->ae (List (List PA))):Prop :=
 ∀(caps:List PA)(ys:List (List PA)),(C caps).o=some ys->∀(l:Nat)(J Jx:List (List PA)->Fz->World->Prop)(Rp:Ending->World->Prop)(w:World)(h:Fz)(vs:List Value),JSt J->JSt Jx ->
  (∀y rest h W us,J (y::rest) h W->RL (oJ h) y us->Hw h W->∀n,∃fn tmps assign body,(Instr.yield l us.toArray).run P W=.ok (.round l fn tmps assign body) W /\
   RoundIn Fence.wide n P l fn tmps assign body W λe W'=>(∃h',kF h h'/\Hw h' W'/\((e=.returned (.bool true)/\J rest h' W')\/(e=.returned (.bool false)/\Jx rest h' W')))\/((∃ch,e=.panicked ch)/\Rp e W')) ->
  J ys h w->RL (oJ h) caps vs->Hw h w ->
  dA P f/\Calls P f (.func (.yield l) #[] #[]::vs).toArray w λe W'=>(∃v h',e=.returned v/\kF h h'/\Hw h' W'/\(J [] h' W'\/∃rest,Jx rest h' W'))\/((∃ch,e=.panicked ch)/\Rp e W')
class dE where
  f:FuncId
  np:Nat
  bs:List Nat
def yB(b:Nat):Value:=.pointer (some ⟨b,0,none⟩)
def zRz [dE]:Value:=.func (.func (dE.f)) #[] ((dE.bs).map yB).toArray
def xcR [dE](P:Program)(h:Fz)(w:World)(B:Nat):XC→Value→Prop|.p v,x=>Rep h v x|.vec e s b n get,x=>x.oneCell'=true/\(uo get/\0<s)/\(∃i z,P.info? e=some i/\i.size=s/\i.bytes=b/\i.zero=some z/\z.cells.size=s)/\AC h w B e s x n get|.mo kt vt q n F,x=>∃(b:Nat)(es:Array MapEntry)(clock:Nat),x=.map (some b)/\w.heap[b]? = some (.map es clock)/\moR P kt vt q n F es clock|.slf f np n,x=>f=dE.f/\np=dE.np/\n=(dE.bs).length/\x=zRz
def xcK:XC→Value→List Nat|.p _,_=>[]|.vec _ _ _ _ _,x=>x.ownBlock.toList|.mo _ _ _ _ _,x=>[pM x]|.slf _ _ _,_=>[]
def vF:List XC→List Value→List Nat|c::cs,v::vs=>xcK c v++vF cs vs|_,_=>[]
def zU [dE](P:Program)(h:Fz)(w:World)(B:Nat):XA→Value→Prop|.d a,v=>oJ h a v|.box ty cs,v=>∃k C,v=.pointer (some ⟨k,0,none⟩)/\w.heap[k]? = some (.cells C ty (0,0))/\RL (xcR P h w B) cs C.toList
def VU(w:World):XA→Value→List Nat
  | .box _ cs,.pointer (some a)=>a.block::match w.heap[a.block]? with|some (.cells C _ _)=>vF cs C.toList|_=>[]
  | _,_=>[]
def oh(w:World):List XA→List Value→List Nat|x::xs,v::vs=>VU w x v++oh w xs vs|_,_=>[]
def SA(h:Fz)(rs:List PA)(e:Ending):Prop:=match FZ rs with|none=>∃v,e=.returned v/\qP h rs v|some ch=>e=.panicked ch
def rP(P:Program)(f:FuncId)(C:MK):Prop :=
 ∀ [dE] (xs ys:List XA) (rs:List PA),(C xs).o=some (rs,ys)->∀(w:World)(h:Fz)(base:Nat)(vs:List Value),RL (zU P h w base) xs vs->(∀k b,(dE.bs)[k]? = some b->vs[dE.np+k]? = some (yB b))->(oh w xs vs).Nodup ->
  (∀b∈oh w xs vs,base<=b/\h b=none)->Hw h w->base<=w.heap.size ->
  dA P f/\Calls P f vs.toArray w λ e w'=>∃ (h':Fz),SA h' rs e/\RL (zU P h' w' base) ys vs/\(oh w' ys vs).Nodup /\
   (∀b∈oh w' ys vs,(b∈oh w xs vs\/w.heap.size<=b)/\h' b=none)/\kF h h'/\Hw h' w'/\(∀b o,h' b=some o->h b=some o\/w.heap.size<=b\/b∈oh w xs vs)/\ZW h (oh w xs vs) w w'
structure jF (P : Program) (Γ : bK) : Prop where
  mt:∀f C,Γ.mt f=some C->rP P f C
  fn:∀f,Ok P f (Γ.fn f)
  own:∀f,gB P f (Γ.own f)
  it:∀f,AL P f (Γ.it f)
  cmp:∀f,@Ok ⟨1⟩ P f (Γ.cfn f)
theorem aX{α:Type}{k n:Nat}{a:α}{r:List (Nat×α)}:lk ((k,a)::r) n=if k=n then some a else lk r n:=by
 simp only[lk];cases h:Nat.beq k n with|true=>rw[eY (lH h)]|false=>rw[fH (qdz h)]
theorem iC{α:Type}{n:Nat}{l r:List (Nat×α)}:lk (l++r) n=match lk l n with|some a=>some a|none=>lk r n:=by
 induction l with
 | nil=>rfl
 | cons x l ih =>
  obtain⟨k,a⟩:=x;rw[qdT,aX,aX];split;rfl;exact ih
end Go.Pm
namespace Go.Pm
variable [aC]
open Go.RowKit (Below)
section
variable{P:Program}{w:World}
theorem addr_add(b o n:Nat):(⟨b,o,none⟩:Addr).add n=⟨b,o+n,none⟩:=by
 unfold Addr.add;split<;>simp_all
theorem run_underlying{t:TypeId}{d:TypeDesc}(h:P.underlying t=some d):(underlying t).run P w=.ok d w:=by
 simp[underlying,h]
theorem run_sizeOf{t:TypeId}{n:Nat}(h:qI P t=some n):(sizeOf t).run P w=.ok n w:=by
 unfold qI at h;cases hi:P.info? t with|none=>simp[hi]at h|some i=>simp[hi]at h;simp[sizeOf,typeInfo,hi,h]
theorem oK{t:TypeId}{g:Bool}(h:jK P t=some g):(isAgg t).run P w=.ok g w:=by
 unfold jK at h;cases hi:P.underlying t with|none=>simp[hi]at h|some d=>simp[hi]at h;simp only[isAgg,Sem.run_bind,run_underlying hi,Result.andThen_ok];cases d<;>simp_all
theorem lK{t:TypeId}{i:TypeInfo}{z:Value}(h:P.info? t=some i)(hz:i.zero=some z):(zeroValue t).run P w=.ok z w:=by
 simp[zeroValue,typeInfo,h,hz]
theorem cell_of{b o:Nat}{C:Array Value}{ty:TypeId}{fr:Nat×Nat}(h:w.heap[b]? = some (.cells C ty fr)):w.cell? ⟨b,o,none⟩=C[o]?:=by
 simp[World.cell?,h]
theorem Jd{t:TypeId}{n b o:Nat}{C:Array Value}{ty:TypeId}{fr:Nat×Nat}(hg:jK P t=some true)(hs:qI P t=some n)
    (h:w.heap[b]? = some (.cells C ty fr)) (vs:List Value) (hl:vs.length=n) (hv:∀(j:Nat)(v:Value),vs[j]? = some v->C[o+j]? = some v) :
    (loadVar t ⟨b,o,none⟩).run P w=.ok (.agg vs.toArray) w:=by
  have hc:=run_loadCells_list (P:=P) (w:=w) ⟨b,o,none⟩ vs (λj v hj=>by rw[addr_add,cell_of h];exact hv j v hj);simp only[loadVar,Sem.run_bind,oK hg,Result.andThen_ok,PW,run_sizeOf hs,<- hl,hc,Sem.run_pure]
theorem yj{t:TypeId}{b o:Nat}{C:Array Value}{ty:TypeId}{fr:Nat×Nat}(hg:jK P t=some false)
    (h:w.heap[b]? = some (.cells C ty fr)) (v:Value) (hv:C[o]? = some v) :
    (loadVar t ⟨b,o,none⟩).run P w=.ok v w:=by
  simp only[loadVar,Sem.run_bind,oK hg,Result.andThen_ok,qdw,qd8,run_load,cell_of h,hv]
theorem VV{t:TypeId}{b o f off:Nat}(h:Kz P t f=some off) :
  (Instr.fieldAt t (.pointer (some ⟨b,o,none⟩)) f).run P w=.ok (.pointer (some ⟨b,o+off,none⟩)) w:=by
 unfold Kz at h;split at h;rename_i fs hu;split at h;rename_i fd hf;split at h;rename_i k hs;simp at h;subst h;simp only[Instr.fieldAt,Sem.run_bind,run_underlying hu,Result.andThen_ok,hf,Instr.sureAddr,Sem.run_pure,fieldPlace,run_sizeOf hs];simp[addr_add];cases h;cases h;cases h
theorem run_indexAt_slice{t e:TypeId}{n b o len cap:Nat}{k:IntKind}{i:Int}(hu:P.underlying t=some (.slice e))(hs:qI P e=some n)(h0:0≤i)(h1:i<(len:Int)) :
  (Instr.indexAt t (.slice (some ⟨b,o,none⟩) len cap) (.int k i)).run P w=.ok (.pointer (some ⟨b,o+i.toNat*n,none⟩)) w:=by
 simp only[Instr.indexAt,asIntOf,Sem.run_bind,Sem.run_pure,Result.andThen_ok,run_underlying hu,h0,h1,and_self,PW,run_sizeOf hs,addr_add]
theorem yR{b:Nat}{ty:TypeId}:∀(vs:List Value)(o:Nat)(C:Array Value)(w:World),w.heap[b]? = some (.cells C ty (0,0))->o+vs.length<=C.size->(∀v∈vs,v.oneCell'=true) ->
  ∀(base i:Nat),o=base+i->∃w',(storeCells ⟨b,base,none⟩ vs i).run P w=.ok () w'/\w'.heap[b]? = some (.cells (spl C.toList o vs).toArray ty (0,0))/\w'.heap.size=w.heap.size /\
   (∀k,k≠b->w'.heap[k]? = w.heap[k]?)/\w'.os=w.os/\w'.tape=w.tape/\w'.output=w.output/\w'.drawn=w.drawn
 | [],o,C,w,h,_,_,base,i,_=>⟨w,by simp[storeCells],by simpa [spl]using h,rfl,λ_ _=>rfl,rfl,rfl,rfl,rfl⟩
 | v::r,o,C,w,h,hl,h1,base,i,ho=>by
  subst ho;have iM:base+i<C.size:=by simp at hl;omega
  have ou:w.cell? ⟨b,base+i,none⟩=some C[base+i]:=by rw[cell_of h];simp[iM]
  have hfr:w.frozen? ⟨b,base+i,none⟩=false:=frozen_of_row w b (base+i) C ty h;let w1:=w.setCell ⟨b,base+i,none⟩ v;have h2:w1.heap[b]? = some (.cells (C.set! (base+i) v) ty (0,0)):=by
   simp[w1,World.setCell,qjS,h]
  have jU:w1.heap.size=w.heap.size:=by simp[w1,World.setCell]
  have rq:∀k,k≠b->w1.heap[k]? = w.heap[k]?:=λk hk=>heap_setCell_other w _ k v hk;obtain⟨w',hr,hh,qi,lq,h5,h6,h7,h8⟩:=yR r (base+i+1) (C.set! (base+i) v) w1 h2 (by simp at hl ⊢;omega) (λu hu=>h1 u (jW _ hu)) base (i+1) omY;refine⟨w',?_,?_,qi.trans jU,λk hk=>(lq k hk).trans (rq k hk),h5,h6,h7,h8⟩;rw [storeCells];simp only[Sem.run_bind,addr_add,run_store P w _ v _ (h1 v kX),ou,hfr,qdw,qd8,Result.andThen_ok];exact hr;rw [hh];simp[spl]
end
end Go.Pm
namespace Go.Pm
variable [aC]
open Go.RowKit (Below)
theorem Dq{α:Type}:∀(l' l:List α)(off j:Nat),off+l'.length≤l.length→(spl l off l')[j]? = if off≤j∧j<off+l'.length then l'[j-off]? else l[j]?
  | [],l,off,j,_=>by simp only[spl,RQ];rw[fH omY]
  | x::r,l,off,j,h=>by
    have h':off+1+r.length<=(l.set off x).length:=by simp at h ⊢;omega
    rw[spl,Dq r (l.set off x) (off+1) j h'];simp only[Bo]at h ⊢;by_cases hj:j=off;subst hj;rw[fH omY,eY omY];have:j<l.length:=by omega
    simp[this];by_cases hr:off+1≤j∧j<off+1+r.length;rw [eY hr,eY omY];have e:j-off=(j-(off+1))+1:=by omega
    rw[e,ZH];rw[fH hr,fH omY,qjs omY]
theorem zb8{g:Nat->List PV}(hg:uo g){i k:Nat}{l:List PV}(hk:k+l.length<=(g 0).length)(hs:smL (((g 0).drop k).take l.length) l=true)(hl:RS l l):uo (Dc i k g l):=by
 have hp:RS (((g 0).drop k).take l.length) l:=KG hs (((hg 0 0).drop k).take _) hl;have key:∀j j',RS (spl (g j) k l) (g j'):=λj j'=>by
  have e0:=(hg 0 j).length;refine RL.of_get (by rw[lY];exact(hg j j').length) λp a b ha hb=>?_;rw[Dq _ _ _ _ omY]at ha;split at ha;rename_i hr;obtain⟨c,hc,r⟩:=RL.get' hp (p-k) a ha;rw[Jn,eY omY,qdl,show k+(p-k)=p by omega]at hc;obtain⟨d,hd,r2⟩:=RL.get (hg 0 j') p c hc;rw[hb]at hd;cases hd;exact r.symm.trans r2;obtain⟨d,hd,r2⟩:=RL.get (hg j j') p a ha;rw[hb]at hd;cases hd;exact r2
 intro j j';unfold Dc;split<;>split;exact(key j j').trans (key j' j').symm;exact key _ _;exact(key _ _).symm;exact hg _ _
theorem F8(off:Nat):∀(l:List Value)(k:Nat)(C:Array Value),
  (l.zipIdx k).foldl (λ(cs:Array Value)(x:Value×Nat)=>cs.setIfInBounds (off+x.2) x.1) C=(spl C.toList (off+k) l).toArray
 | [],k,C=>by simp[spl]
 | x::r,k,C=>by
  rw[List.zipIdx_cons,VF,F8 off r (k+1) _,spl];simp[qjt]
section
variable{P:Program}{w:World}
theorem vG{g:Gh}{d:D1}{v:Value}(h:A7 g d v)(ho:d.cells.all C9=true):RL (jw g) d.cells v.cells.toList:=by
 cases d with
 | c x =>
  have h1:=zb7 h (by simpa [D1.cells]using ho);have:v.cells = #[v]:=by cases v<;>simp_all [Value.oneCell',Value.cells]
  rw[this];exact⟨h,trivial⟩
 | agg cs =>
  obtain⟨vs,rfl,hr⟩:=h;simpa [D1.cells,Value.cells]using hr
theorem VW{fs:Array Field}(h:∀f∈fs,(qI P f.type).isSome=true) :
  (fs.mapM λf=>do pure (f.offset,<- sizeOf f.type):Sem (Array (Nat×Nat))).run P w=.ok (fs.map λf=>(f.offset,(qI P f.type).getD 0)) w:=by
 have key:∀l:List Field,(∀f∈l,(qI P f.type).isSome=true) ->
   (l.mapM λf=>do pure (f.offset,<- sizeOf f.type):Sem (List (Nat×Nat))).run P w=.ok (l.map λf=>(f.offset,(qI P f.type).getD 0)) w:=by
  intro l
  induction l with
  | nil=>intro _;rfl
  | cons f l ih =>
   intro hl;obtain⟨n,hn⟩:=jqC.1 (hl f kX);rw[qjE];simp only[Sem.run_bind,run_sizeOf hn,Result.andThen_ok,Sem.run_pure,ih (λg hg=>hl g (jW _ hg)),nX,hn,qdM]
 rw[qjF,Sem.run_map,key fs.toList (λf hf=>h f (by simpa using hf))];cases fs;simp
theorem yS{g:Gh}{ρ:Operand→Value}{ev:Operand→DV}(hev:∀o,rO g (ev o) (ρ o)){t:TypeId}(place:Nat→Option (Nat×Nat))
    (hp:∀(i off n:Nat),(match P.underlying t with
      | some (.struct fs)=>match fs[i]? with
        | some fd=>match qI P fd.type with|some m=>off=fd.offset/\n=m|none=>False
        | none=>False
      | some (.array _ e)=>match qI P e with|some m=>off=i*m/\n=m|none=>False
      | _=>False)->place i=some (off,n)) :
    ∀(parts:List (Nat×Operand))(z l:List Cl)(C:Array Value),iV P t ev z parts=some l->RL (jw g) z C.toList ->
      ∃D:Array Value,Instr.fill place C (parts.map λx=>(x.1,ρ x.2))=some D/\RL (jw g) l D.toList
  | [],z,l,C,h,hz=>by
    simp[iV]at h;subst h;exact⟨C,rfl,hz⟩
  | (i,o)::r,z,l,C,h,hz=>by
    have hd:=hev o;simp only[iV]at h;cases he:ev o with
    | tup ds=>simp[he]at h
    | one d =>
      simp only[he]at h;rw[he]at hd
      have step:∀(off n:Nat),place i=some (off,n)->n=d.cells.length->off+n<=z.length->d.cells.all C9=true->iV P t ev (spl z off d.cells) r=some l ->
          ∃D:Array Value,Instr.fill place C (((i,o)::r).map λx=>(x.1,ρ x.2))=some D/\RL (jw g) l D.toList:=by
        intro off n Jk hn hle gy hb;have hc:=vG hd gy;have hlen:=hc.length;have hzl:=hz.length;have hr2:RL (jw g) (spl z off d.cells) (spl C.toList off (ρ o).cells.toList):=hz.spl hc off;obtain⟨D,hD,hR⟩:=yS hev place hp r _ l (spl C.toList off (ρ o).cells.toList).toArray hb (by simpa using hr2);refine⟨D,?_,hR⟩;simp only[nX,Instr.fill,Jk];have h1:¬((ρ o).cells.size≠n):=by simp only[Decidable.not_not,ne_eq];rw[hn,hlen];simp
        have h2:¬(off+(ρ o).cells.size>C.size):=by
          have:(ρ o).cells.size=d.cells.length:=by rw[hlen];simp
          have:C.size=z.length:=by rw[hzl];simp
          omega
        have h3:((decide ((ρ o).cells.size≠n)||decide (off+(ρ o).cells.size>C.size))=true)=False:=by simp[h1,h2]
        rw[fH (by rw[h3];exact id)];rw[<- hD];refine jX (λz=>Instr.fill place z _) ?_;have:=F8 off (ρ o).cells.toList 0 C;rw[qd3]at this;rw[<- this];cases(ρ o).cells;simp
      cases hu:P.underlying t with
      | none=>simp[hu]at h
      | some dd =>
        cases dd with
        | struct fs =>
          simp only[hu]at h;cases hf:fs[i]? with
          | none=>simp[hf]at h
          | some fd =>
            simp only[hf]at h;cases hs:qI P fd.type with
            | none=>simp[hs]at h
            | some n =>
              simp only[hs]at h;split at h;rename_i dw;simp only[gq,Vs]at dw;exact step fd.offset n (hp i _ _ (by simp[hu,hf,hs])) (lH dw.1.1) dw.1.2 dw.2 h;cases h
        | array m e =>
          simp only[hu]at h;cases hs:qI P e with
          | none=>simp[hs]at h
          | some n =>
            simp only[hs]at h;split at h;rename_i dw;simp only[gq,Vs]at dw;exact step (i*n) n (hp i _ _ (by simp[hu,hs])) (lH dw.1.1) dw.1.2 dw.2 h;cases h
        | _=>simp[hu]at h
theorem KU{h:Fz}{v:Value}{p:PV}(hv:wP v=some p):Rep h p v:=by
 unfold wP at hv;split at hv<;>first|(cases hv;done)|(simp at hv;subst hv;constructor)
theorem kY{g:Gh}:∀(l:List Value)(cs:List Cl),jJ l=some cs→RL (jw g) cs l
  | [],cs,h=>by simp[jJ]at h;subst h;trivial
  | v::r,cs,h=>by
    simp only[jJ]at h;split at h;rename_i x l hx hl;simp at h;subst h;exact⟨KU hx,kY r l hl⟩;cases h
theorem lZ{t:TypeId}{z:List Cl}(h:iw P t=some z):∃i v,P.info? t=some i/\i.zero=some v/\jJ v.cells.toList=some z/\z.length=i.size:=by
 unfold iw at h;split at h;rename_i i hi;split at h;rename_i v hz;split at h;rename_i l hl;split at h;rename_i hs;simp at h;subst h;exact⟨i,v,hi,hz,hl,hs⟩;cases h;cases h;cases h;cases h
theorem zey{t:TypeId}{z:List Cl}(h:iw P t=some z):∃i v,P.info? t=some i/\i.zero=some v/\v.cells.size=i.size:=by
 obtain⟨i,v,hi,hz,hl,hs⟩:=lZ h;have:=(kY (g:=⟨λ_=>none,λ_=>0,λ_=>undef,λ_ _=>undef⟩) _ _ hl).length;exact⟨i,v,hi,hz,by rw[<- hs,this];simp⟩
theorem run_build{g:Gh}{ρ:Operand→Value}{ev:Operand→DV}(hev:∀o,rO g (ev o) (ρ o)){t:TypeId}{parts:Array (Nat×Operand)}{z l:List Cl}
    (hf:yM P t=true) (hz:iw P t=some z) (hb:iV P t ev z parts.toList=some l) :
    ∃v,(Instr.build t (parts.map λx=>(x.1,ρ x.2))).run P w=.ok v w/\A7 g (.agg l) v:=by
  obtain⟨i,v,hi,Hz,hl,_⟩:=lZ hz;have hzr:=kY (g:=g) _ _ hl;unfold yM at hf;cases hu:P.underlying t with
  | none=>simp[hu]at hf
  | some d =>
    cases d with
    | struct fs =>
      simp only[hu]at hf;have HY:∀f∈fs,(qI P f.type).isSome=true:=λf hf'=>zQ.1 hf f (by simpa using hf');obtain⟨D,hD,hR⟩:=yS (P:=P) hev (t:=t) ((fs.map λf=>(f.offset,(qI P f.type).getD 0))[·]?) (by
        intro i off n hm;simp only[hu]at hm;cases hfi:fs[i]? with
        | none=>simp[hfi]at hm
        | some fd =>
          cases hs:qI P fd.type with|none=>simp[hfi,hs]at hm|some m=>simp[hfi,hs]at hm;simp[hfi,hs,hm.1,hm.2]) parts.toList z l v.cells hb hzr
      refine⟨.agg D,?_,⟨D.toList,by simp,hR⟩⟩;simp only[Instr.build,Sem.run_bind,lK hi Hz,Result.andThen_ok,run_underlying hu,VW HY];simp only[qjo];rw[hD];rfl
    | array m e =>
      simp only[hu]at hf;obtain⟨n,hn⟩:=jqC.1 hf;obtain⟨D,hD,hR⟩:=yS (P:=P) hev (t:=t) (λi=>some (i*n,n)) (by
        intro i off k hm;simp only[hu,hn]at hm;simp[hm.1,hm.2]) parts.toList z l v.cells hb hzr
      refine⟨.agg D,?_,⟨D.toList,by simp,hR⟩⟩;simp only[Instr.build,Sem.run_bind,lK hi Hz,Result.andThen_ok,run_underlying hu,run_sizeOf hn];simp only[qjo];rw[hD];rfl
    | _=>simp[hu]at hf
end
end Go.Pm
namespace Go.Pm
variable [aC]
open Go.RowKit (Below)
def jl(g g':Gh)(L:Nat):Prop:=g'.bk L=g.bk L/\g'.sv L=g.sv L/\g'.iv L=g.iv L
theorem jl.refl(g:Gh)(L:Nat):jl g g L:=⟨rfl,rfl,rfl⟩
def Qc(g g':Gh)(l:List Nat):Prop:=∀L∈l,jl g g' L
theorem VX{g g':Gh}{c:Cl}{x:Value}(hl:Qc g g' (bC c))(hle:kF g.h g'.h)(h:jw g c x):jw g' c x:=by
 cases c with
 | p v=>exact Rep.mono hle h
 | ptr L off=>have:=(hl L (by simp[bC])).1;simp only[jw]at h ⊢;rw[this];exact h
 | vptr L s i k=>have:=(hl L (by simp[bC])).2.1;simp only[jw]at h ⊢;rw[this];exact h
 | vec L=>have:=(hl L (by simp[bC])).2.1;simp only[jw]at h ⊢;rw[this];exact h
 | mo L=>have:=(hl L (by simp[bC])).2.1;simp only[jw]at h ⊢;rw[this];exact h
 | clo f caps=>obtain⟨cv,e,hr⟩:=h;exact⟨cv,e,ry (λ_ _=>Rep.mono hle) (λL hL=>(hl L hL).1) hr⟩
 | undef=>exact h
 | junk=>trivial
 | dead L=>trivial
theorem tK{g g':Gh}:∀{cs:List Cl}{vs:List Value},Qc g g' (cs.flatMap bC)→kF g.h g'.h→RL (jw g) cs vs→RL (jw g') cs vs|[],[],_,_,_=>trivial|[],_::_,_,_,h=>h.elim|_::_,[],_,_,h=>h.elim|c::cs,v::vs,hl,hle,h=>⟨VX (λL hL=>hl L (by simp[hL])) hle h.1,tK (λL hL=>hl L (by simp only[oC,dX];exact .inr hL)) hle h.2⟩
theorem VY{g g':Gh}{d:D1}{x:Value}(hl:Qc g g' (dD d))(hle:kF g.h g'.h)(h:A7 g d x):A7 g' d x:=by
 cases d with
 | c y=>exact VX hl hle h
 | agg cs=>obtain⟨vs,rfl,hr⟩:=h;exact⟨vs,rfl,tK hl hle hr⟩
theorem H9{g g':Gh}:∀{cs:List D1}{vs:List Value},Qc g g' (cs.flatMap dD)→kF g.h g'.h→RL (A7 g) cs vs→RL (A7 g') cs vs|[],[],_,_,_=>trivial|[],_::_,_,_,h=>h.elim|_::_,[],_,_,h=>h.elim|c::cs,v::vs,hl,hle,h=>⟨VY (λL hL=>hl L (by simp[hL])) hle h.1,H9 (λL hL=>hl L (by simp only[oC,dX];exact .inr hL)) hle h.2⟩
theorem VZ{g g':Gh}{d:DV}{x:Value}(hl:Qc g g' (cO d))(hle:kF g.h g'.h)(h:rO g d x):rO g' d x:=by
 cases d with
 | one y=>exact VY hl hle h
 | tup ds=>obtain⟨vs,rfl,hr⟩:=h;exact⟨vs,rfl,H9 hl hle hr⟩
theorem jC{w w':World}{B e s n:Nat}{v:Value}{xs:List Value}(h:w.ownsRow B e s v n xs)(hw:∀b,v.ownBlock=some b→w'.heap[b]? = w.heap[b]?) :
  w'.ownsRow B e s v n xs:=by
 refine⟨h.1,?_⟩;rcases h.2 with hn|⟨g,cap,cur,rfl,hb,hg,rest⟩
 exact .inl hn;exact .inr ⟨g,cap,cur,rfl,hb,by rw[hw g rfl];exact hg,rest⟩
theorem Qd{P:Program}{g g':Gh}{w w':World}{B L e s b n:Nat}{get:Nat→List PV}(h:Dp P g w B L e s b n get)(hs:g'.sv L=g.sv L)(hle:kF g.h g'.h)
    (hw:∀b,(g.sv L).ownBlock=some b->w'.heap[b]? = w.heap[b]?):Dp P g' w' B L e s b n get:=by
  obtain⟨h1,h2,xs,hx,hr⟩:=h;refine⟨h1,h2,xs,?_,λi hi=>(hr i hi).mono λ_ _=>Rep.mono hle⟩;rw[hs];exact jC hx hw
theorem V3{P:Program}{g g':Gh}{w w':World}{B L te bb e s b n:Nat}{ln:Nat→Nat}{get:Nat→Nat→List PV}(h:vvR P g w B L te bb e s b n ln get)(hl:jl g g' L)(hle:kF g.h g'.h)
    (hw:∀k,iy g L (.vv te bb e s b n ln get) k->w'.heap[k]? = w.heap[k]?):vvR P g' w' B L te bb e s b n ln get:=by
  obtain⟨h1,h2,h3,h4,h5,h6⟩:=h;refine⟨h1,h2,h3,?_,λi hi=>?_,?_⟩;rw[hl.2.1,hl.2.2];exact jC h4 λk hk=>hw k (.inl hk);obtain⟨h7,h70,xs,hx,hr⟩:=h5 i hi;rw[hl.2.2];exact⟨h7,h70,xs,jC hx λk hk=>hw k (.inr ⟨i,hi,hk⟩),λj hj=>(hr j hj).mono λ_ _=>Rep.mono hle⟩;rw[hl.2.1,hl.2.2];exact h6
theorem V4{P:Program}{g g':Gh}{w w':World}{B L te bb e s b n o:Nat}{ln:Nat→Nat}{get:Nat→Nat→List PV}(h:vtR P g w B L te bb e s b n ln get o)(hl:jl g g' L)(hle:kF g.h g'.h)
    (hw:∀k,iy g L (.vt te bb e s b n ln get o) k->w'.heap[k]? = w.heap[k]?):vtR P g' w' B L te bb e s b n ln get o:=by
  obtain⟨h1,h2,h3,h4,h41,h42,h5,h6⟩:=h;refine⟨h1,h2,h3,?_,by rw[hl.2.2];exact h41,by rw[hl.2.2];exact h42,λi hi ho=>?_,?_⟩;rw[hl.2.1,hl.2.2];exact jC h4 λk hk=>hw k (.inl hk);obtain⟨h7,h70,xs,hx,hr⟩:=h5 i hi ho;rw[hl.2.2];exact⟨h7,h70,xs,jC hx λk hk=>hw k (.inr ⟨i,hi,ho,hk⟩),λj hj=>(hr j hj).mono λ_ _=>Rep.mono hle⟩;rw[hl.2.1,hl.2.2];exact h6
theorem kz{P:Program}{g g':Gh}{w w':World}{B L:Nat}{o:AO}(h:OX P g w B L o)(hl:jl g g' L)(hm:Qc g g' (dW o))(hle:kF g.h g'.h)
    (hw:∀b,iy g L o b->w'.heap[b]? = w.heap[b]?):OX P g' w' B L o:=by
  cases o with
  | box ty cs=>obtain⟨C,hC,hr⟩:=h;refine⟨C,?_,tK hm hle hr⟩;rw[hl.1,hw _ rfl];exact hC
  | fbox cs=>obtain⟨C,ty,fr,hC,hr⟩:=h;refine⟨C,ty,fr,?_,hr.mono λ_ _=>Rep.mono hle⟩;rw[hl.1];exact hle _ _ hC
  | vec e s b n get=>exact Qd h hl.2.1 hle hw
  | fvec s n get=>simp only[OX]at h ⊢;rw[hl.2.1];exact⟨Rep.mono hle h.1,h.2⟩
  | vv te bb e s b n ln get=>exact V3 h hl hle hw
  | vt te bb e s b n ln get o=>exact V4 h hl hle hw
  | mo kt vt q n F=>obtain⟨es,clock,hC,hr⟩:=h;refine⟨es,clock,?_,hr⟩;rw[hl.2.1,hw _ rfl];exact hC
  | gone=>trivial
theorem gZ{g g':Gh}{L:Nat}{o:AO}(hl:jl g g' L):iy g' L o=iy g L o:=by
 funext b;cases o<;>simp[iy,hl.1,hl.2.1,hl.2.2]
theorem iW{P:Program}{g:Gh}{w:World}{B L b:Nat}{o:AO}(h:OX P g w B L o)(hb:iy g L o b):b<w.heap.size:=by
 cases o with
 | box ty cs=>simp[iy]at hb;subst hb;obtain⟨C,hC,_⟩:=h;exact(VD.1 hC).1
 | fbox cs=>simp[iy]at hb
 | vec e s b' n get =>
  obtain⟨_,_,xs,hx,_⟩:=h;exact(hx.lt b hb).2
 | fvec s n get=>simp[iy]at hb
 | vv te bb e s b' n ln get =>
  obtain⟨_,_,_,h4,h5,_⟩:=h;rcases hb with hb|⟨i,hi,hb⟩
  exact(h4.lt b hb).2;obtain⟨_,_,xs,hx,_⟩:=h5 i hi;exact(hx.lt b hb).2
 | vt te bb e s b' n ln get o =>
  obtain⟨_,_,_,h4,_,_,h5,_⟩:=h;rcases hb with hb|⟨i,hi,ho,hb⟩
  exact(h4.lt b hb).2;obtain⟨_,_,xs,hx,_⟩:=h5 i hi ho;exact(hx.lt b hb).2
 | mo kt vt q n F=>simp[iy]at hb;subst hb;obtain⟨es,clock,hC,_⟩:=h;exact(VD.1 hC).1
 | gone=>exact hb.elim
section
variable{P:Program}{nt B:Nat}{w0:World}{h0:Fz}{g:Gh}{σ:St}{a:Act}{w:World}
theorem bW.log(S:bW P nt B w0 h0 g σ a w)(l:List (Nat×Nat×Nat)):bW P nt B w0 h0 g {σ with log:=l} a w :=
 ⟨S.dfr,S.size,S.env,S.obj,S.own,S.sep,S.hw,S.le0,S.hn,S.below,S.bs,S.clE,S.clO⟩
theorem zhN(a:Act)(t:Nat)(v:Value)(u:Nat)(ht:t<a.tmps.size):(a.put (some t) v).tmps.getD u undef=if t=u then v else a.tmps.getD u undef:=by
 simp only[Act.put,yA,qd2];by_cases h:t=u;subst h;simp[ht];simp[h]
def ZX(dst:Option Nat)(d:DV)(e:List (Nat×DV)):List (Nat×DV) :=
 match dst with|some t=>(t,d)::e|none=>e
theorem gu(σ:St)(i:Nat)(dst:Option Nat)(fp:List (Nat×Bool))(d:DV)(u:List (Nat×AO)):σ.upd i dst fp d u []=⟨ZX dst d σ.env,u++σ.ay,σ.log⟩:=by
 cases dst<;>rfl
theorem bW.put(S:bW P nt B w0 h0 g σ a w){dst:Option Nat}{d:DV}{v:Value}(hd:dI nt dst=true)(hv:rO g d v)(hl:∀L∈cO d,∃o,lk σ.ay L=some o)
    (l:List (Nat×Nat×Nat)):bW P nt B w0 h0 g ⟨ZX dst d σ.env,σ.ay,l⟩ (a.put dst v) w:=by
  cases dst with
  | none=>exact S.log l
  | some t =>
    have ht:t<nt:=by simpa [dI,qjf]using hd
    have hts:t<a.tmps.size:=qdx ht S.size;refine⟨S.dfr,by simpa [Act.put]using S.size,?_,S.obj,S.own,S.sep,S.hw,S.le0,S.hn,S.below,S.bs,?_,S.clO⟩;intro u e hu;rw[zhN a t v u hts];simp only[ZX,aX]at hu;split at hu;rename_i h;simp at hu;subst hu;rw[eY h];exact hv;rename_i h;rw[fH h];exact S.env u e hu;intro u e hu;simp only[ZX,aX]at hu;split at hu;simp at hu;subst hu;exact hl;exact S.clE u e hu
theorem bW.change(S:bW P nt B w0 h0 g σ a w){g':Gh}{w':World}{A8:List (Nat×AO)}
    (AU:∀L o,lk σ.ay L=some o->jl g g' L) (hle:kF g.h g'.h) (IX:Hw g'.h w')
    (hn':∀b o,g'.h b=some o->g.h b=some o\/B<=b) (hb:yh h0 B w w')
    (zRB:∀L o,lk A8 L=some o->OX P g' w' B L o) (jv:∀L o b,lk A8 L=some o->iy g' L o b->B<=b/\g'.h b=none)
    (Jl:∀L o b L' o',lk A8 L=some o->lk A8 L'=some o'->iy g' L o b->iy g' L' o' b->L=L')
    (yG:∀L o,lk σ.ay L=some o->∃o',lk A8 L=some o') (zRC:∀L o,lk A8 L=some o->∀M∈dW o,∃o',lk A8 M=some o') :
    bW P nt B w0 h0 g' {σ with ay:=A8} a w':=by
  refine⟨S.dfr.mono hle,S.size,?_,zRB,jv,Jl,IX,λb o h=>hle _ _ (S.le0 b o h),?_,S.below.trans hb,FN S.bs hb.size,?_,zRC⟩;intro t d ht;refine VZ (λL hL=>?_) hle (S.env t d ht);obtain⟨o,ho⟩:=S.clE t d ht L hL;exact AU L o ho;intro b o h;rcases hn' b o h with h|h
  exact S.hn b o h;exact .inr h;intro t d ht L hL;obtain⟨o,ho⟩:=S.clE t d ht L hL;exact yG L o ho
theorem bW.world(S:bW P nt B w0 h0 g σ a w){h':Fz}{w':World}(hle:kF g.h h')(IX:Hw h' w')
    (hn':∀b o,h' b=some o->g.h b=some o\/w.heap.size<=b) (hb:yh g.h w.heap.size w w'):bW P nt B w0 h0 ⟨h',g.bk,g.sv,g.iv⟩ σ a w':=by
  have iM:∀L o b,lk σ.ay L=some o->iy g L o b->b<w.heap.size:=λL o b ho cZ=>iW (S.obj L o ho) cZ
  have key := S.change (g' := ⟨h', g.bk, g.sv, g.iv⟩) (w' := w') (A8 := σ.ay) (fun _ _ _ => ⟨rfl, rfl, rfl⟩) hle IX
    (λb o h=>(hn' b o h).imp id λh=>FN S.bs h) ⟨hb.os,hb.tape,hb.output,hb.size,hb.drawn,λk hk=>hb.block k (qdx hk S.bs)⟩
    (λL o ho=>kz (S.obj L o ho) ⟨rfl,rfl,rfl⟩ (λ_ _=>⟨rfl,rfl,rfl⟩) hle λb cZ=>hb.block b (iM L o b ho cZ))
    (λL o b ho cZ=>by
      have iK:iy g L o b:=Eq.mp (qj7 (gZ (g:=g) (g':=⟨h',g.bk,g.sv,g.iv⟩) ⟨rfl,rfl,rfl⟩) _) cZ;obtain⟨h1,h2⟩:=S.own L o b ho iK;refine⟨h1,?_⟩;cases hh:h' b with
      | none=>exact hh
      | some x =>
        rcases hn' b x hh with h3|h3
        rw[h2]at h3;cases h3;exact absurd (iM L o b ho iK) omY)
    (fun L o b L' o' ho lq cZ iK => S.sep L o b L' o' ho lq
      (Eq.mp (qj7 (gZ (g:=g) (g':=⟨h',g.bk,g.sv,g.iv⟩) ⟨rfl,rfl,rfl⟩) _) cZ) (Eq.mp (qj7 (gZ (g:=g) (g':=⟨h',g.bk,g.sv,g.iv⟩) ⟨rfl,rfl,rfl⟩) _) iK))
    (λL o h=>⟨o,h⟩) S.clO
  exact key
theorem vH{h:Fz}(hw:Hw h w){b:Nat}{o:VS}(hb:h b=some o):b<w.heap.size:=hw.lt hb
def Gh.setBk(g:Gh)(t b:Nat):Gh:=⟨g.h,λL=>if L=t then b else g.bk L,g.sv,g.iv⟩
def Gh.setSv(g:Gh)(t:Nat)(v:Value):Gh:=⟨g.h,g.bk,λL=>if L=t then v else g.sv L,g.iv⟩
def Gh.setVv(g:Gh)(t:Nat)(v:Value)(iv:Nat->Value):Gh:=⟨g.h,g.bk,λL=>if L=t then v else g.sv L,λL=>if L=t then iv else g.iv L⟩
theorem bW.newBox(S:bW P nt B w0 h0 g σ a w){t ty:Nat}{cs:List Cl}{C:Array Value}(ht:lk σ.ay t=none)(hC:RL (jw g) cs C.toList)
    (AX:∀M∈cs.flatMap bC,∃o,lk σ.ay M=some o) :
    bW P nt B w0 h0 (g.setBk t w.heap.size) {σ with ay:=(t,.box ty cs)::σ.ay} a (w.alloc (.cells C ty)):=by
  have jk:∀L o,lk σ.ay L=some o->L≠t:=λL o h e=>by subst e;rw[ht]at h;cases h
  have fG:∀L o,lk σ.ay L=some o->jl g (g.setBk t w.heap.size) L:=λL o h=>⟨by simp[Gh.setBk,jk L o h],rfl,rfl⟩;have hold:∀b,b<w.heap.size->(w.alloc (.cells C ty)).heap[b]? = w.heap[b]?:=λb hb=>heap_alloc_old w _ b hb;have kQ:∀L o,lk ((t,AO.box ty cs)::σ.ay) L=some o->(L=t/\o=.box ty cs)\/(L≠t/\lk σ.ay L=some o):=by
    intro L o h;rw[aX]at h;split at h;rename_i e;simp at h;exact .inl ⟨e.symm,h.symm⟩;rename_i e;exact .inr ⟨λe'=>e e'.symm,h⟩
  have iP:∀L o b,lk σ.ay L=some o->iy (g.setBk t w.heap.size) L o b->iy g L o b:=λL o b ho cZ=>Eq.mp (qj7 (gZ (fG L o ho)) _) cZ;refine S.change (g':=g.setBk t w.heap.size) fG (λ_ _ h=>h) ?_ (λb o h=>.inl h) (yh.of ⟨(Below.refl B w).alloc S.bs _,kD _⟩) ?_ ?_ ?_ ?_ ?_;exact S.hw.same λb o h=>hold b (vH S.hw h);intro L o ho;rcases kQ L o ho with⟨rfl,rfl,rfl⟩|⟨_,ho⟩
  refine⟨C,by show(w.alloc _).heap[(if _ then w.heap.size else _)]? = _;rw [eY rfl];exact heap_alloc_new w _,tK (g:=g) (g':=g.setBk _ w.heap.size) (fun M hM => ?_) (fun _ _ h=>h) hC⟩;obtain⟨o,ho⟩:=AX M hM;exact fG M o ho;refine kz (S.obj L o ho) (fG L o ho) (fun M hM => ?_) (fun _ _ h=>h) (fun b cZ=>hold b (iW (S.obj L o ho) cZ));obtain⟨o',lq⟩:=S.clO L o ho M hM;exact fG M o' lq;intro L o b ho cZ;rcases kQ L o ho with⟨rfl,rfl,rfl⟩|⟨_,ho⟩
  · simp [iy,Gh.setBk]at cZ;subst cZ;refine⟨S.bs,?_⟩;cases hh:g.h w.heap.size with|none=>exact hh|some x=>exact absurd (vH S.hw hh) omY
  exact S.own L o b ho (iP L o b ho cZ);intro L o b L' o' ho lq cZ iK;rcases kQ L o ho with⟨rfl,rfl,rfl⟩|⟨hn,o9⟩<;>rcases kQ L' o' lq with⟨rfl,rfl,rfl⟩|⟨hn',nT⟩
  rfl;simp [iy,Gh.setBk]at cZ;subst cZ;exact absurd (iW (S.obj L' o' nT) (iP _ _ _ nT iK)) omY;simp [iy,Gh.setBk]at iK;subst iK;exact absurd (iW (S.obj L o o9) (iP _ _ _ o9 cZ)) omY;exact S.sep L o b L' o' o9 nT (iP _ _ _ o9 cZ) (iP _ _ _ nT iK);intro L o ho;refine⟨o,?_⟩;rw[aX,fH (λe=>jk L o ho e.symm)];exact ho;intro L o ho M hM;have fin:∀M o,lk σ.ay M=some o->∃o',lk ((t,AO.box ty cs)::σ.ay) M=some o':=λM o h=>⟨o,by rw[aX,fH (λe=>jk M o h e.symm)];exact h⟩;rcases kQ L o ho with⟨rfl,rfl,rfl⟩|⟨_,ho⟩
  obtain⟨o,ho⟩:=AX M hM;exact fin M o ho;obtain⟨o',lq⟩:=S.clO L o ho M hM;exact fin M o' lq
theorem bW.newVec(S:bW P nt B w0 h0 g σ a w){t e s b n:Nat}{get:Nat→List PV}{v:Value}{w':World}(ht:lk σ.ay t=none)
    (hb:KR B w w') (hold:∀b,b<w.heap.size->w'.heap[b]? = w.heap[b]?) (hv:∀b,v.ownBlock=some b->w.heap.size<=b)
    (hr:Dp P (g.setSv t v) w' B t e s b n get) :
    bW P nt B w0 h0 (g.setSv t v) {σ with ay:=(t,.vec e s b n get)::σ.ay} a w':=by
  have jk:∀L o,lk σ.ay L=some o->L≠t:=λL o h e=>by subst e;rw[ht]at h;cases h
  have fG:∀L o,lk σ.ay L=some o->jl g (g.setSv t v) L:=λL o h=>⟨rfl,by simp[Gh.setSv,jk L o h],rfl⟩;have kQ:∀L o,lk ((t,AO.vec e s b n get)::σ.ay) L=some o->(L=t/\o=.vec e s b n get)\/(L≠t/\lk σ.ay L=some o):=by
    intro L o h;rw[aX]at h;split at h;rename_i e;simp at h;exact .inl ⟨e.symm,h.symm⟩;rename_i e;exact .inr ⟨λe'=>e e'.symm,h⟩
  have iP:∀L o b,lk σ.ay L=some o->iy (g.setSv t v) L o b->iy g L o b:=λL o b ho cZ=>Eq.mp (qj7 (gZ (fG L o ho)) _) cZ;have Vl:(g.setSv t v).sv t=v:=by simp[Gh.setSv]
  refine S.change (g':=g.setSv t v) fG (λ_ _ h=>h) ?_ (λb o h=>.inl h) (.of hb) ?_ ?_ ?_ ?_ ?_;exact S.hw.same λb o h=>hold b (vH S.hw h);intro L o ho;rcases kQ L o ho with⟨rfl,rfl,rfl⟩|⟨_,ho⟩
  exact hr;refine kz (S.obj L o ho) (fG L o ho) (fun M hM => ?_) (fun _ _ h=>h) (fun b cZ=>hold b (iW (S.obj L o ho) cZ));obtain⟨o',lq⟩:=S.clO L o ho M hM;exact fG M o' lq;intro L o b' ho cZ;rcases kQ L o ho with⟨rfl,rfl,rfl⟩|⟨_,ho⟩
  · simp only [iy,Vl]at cZ;have h1:=hv b' cZ;refine⟨FN S.bs h1,?_⟩;cases hh:g.h b' with|none=>exact hh|some x=>exact absurd (vH S.hw hh) omY
  exact S.own L o b' ho (iP L o b' ho cZ);intro L o b' L' o' ho lq cZ iK;rcases kQ L o ho with⟨rfl,rfl,rfl⟩|⟨hn,o9⟩<;>rcases kQ L' o' lq with⟨rfl,rfl,rfl⟩|⟨hn',nT⟩
  rfl;simp only [iy,Vl]at cZ;have:=hv b' cZ;exact absurd (iW (S.obj L' o' nT) (iP _ _ _ nT iK)) omY;simp only [iy,Vl]at iK;have:=hv b' iK;exact absurd (iW (S.obj L o o9) (iP _ _ _ o9 cZ)) omY;exact S.sep L o b' L' o' o9 nT (iP _ _ _ o9 cZ) (iP _ _ _ nT iK);intro L o ho;refine⟨o,?_⟩;rw[aX,fH (λe=>jk L o ho e.symm)];exact ho;intro L o ho M hM;rcases kQ L o ho with⟨rfl,rfl,rfl⟩|⟨_,ho⟩
  simp[dW]at hM;obtain⟨o',lq⟩:=S.clO L o ho M hM;exact⟨o',by rw[aX,fH (λe=>jk M o' lq e.symm)];exact lq⟩
theorem bW.write2(S:bW P nt B w0 h0 g σ a w){L:Nat}{o o':AO}{w':World}(hL:lk σ.ay L=some o)(uh:∀b,iy g L o' b→iy g L o b)
    (hb:KR B w w') (rq:∀b,b<w.heap.size->¬iy g L o b->w'.heap[b]? = w.heap[b]?) (hr:OX P g w' B L o') (AX:∀M∈dW o',∃o,lk σ.ay M=some o) :
    bW P nt B w0 h0 g {σ with ay:=(L,o')::σ.ay} a w':=by
  have kQ:∀M x,lk ((L,o')::σ.ay) M=some x->(M=L/\x=o')\/(M≠L/\lk σ.ay M=some x):=by
    intro M x h;rw[aX]at h;split at h;rename_i e;simp at h;exact .inl ⟨e.symm,h.symm⟩;rename_i e;exact .inr ⟨λe'=>e e'.symm,h⟩
  have yG:∀M x,lk σ.ay M=some x->∃x',lk ((L,o')::σ.ay) M=some x':=by
    intro M x h;rw[aX];split;exact⟨o',rfl⟩;exact⟨x,h⟩
  refine S.change (g':=g) (λ_ _ _=>⟨rfl,rfl,rfl⟩) (λ_ _ h=>h) ?_ (λb o h=>.inl h) (.of hb) ?_ ?_ ?_ yG ?_;exact S.hw.same λb x h=>rq b (vH S.hw h) (λe=>by have:=(S.own L o b hL e).2;rw[this]at h;cases h);intro M x hx;rcases kQ M x hx with⟨rfl,rfl,rfl⟩|⟨jk,hx⟩
  exact hr;exact kz (S.obj M x hx) ⟨rfl,rfl,rfl⟩ (λ_ _=>⟨rfl,rfl,rfl⟩) (λ_ _ h=>h) λb cZ=>rq b (iW (S.obj M x hx) cZ) λe=>jk (S.sep M x b L o hx hL cZ e);intro M x b hx cZ;rcases kQ M x hx with⟨rfl,rfl,rfl⟩|⟨_,hx⟩
  exact S.own M o b hL (uh b cZ);exact S.own M x b hx cZ;intro M x b M' x' hx yK cZ iK;rcases kQ M x hx with⟨rfl,rfl,rfl⟩|⟨_,PO⟩<;>rcases kQ M' x' yK with⟨rfl,rfl,rfl⟩|⟨_,ZY⟩
  rfl;exact S.sep M o b M' x' hL ZY (uh b cZ) iK;exact S.sep M x b M' o PO hL cZ (uh b iK);exact S.sep M x b M' x' PO ZY cZ iK;intro M x hx N hN;rcases kQ M x hx with⟨rfl,rfl,rfl⟩|⟨_,hx⟩
  obtain⟨y,hy⟩:=AX N hN;exact yG N y hy;obtain⟨y,hy⟩:=S.clO M x hx N hN;exact yG N y hy
theorem bW.write(S:bW P nt B w0 h0 g σ a w){L:Nat}{o o':AO}{w':World}(hL:lk σ.ay L=some o)(uh:∀b,iy g L o' b→iy g L o b)
    (hb:KR B w w') (rq:∀b,¬iy g L o b->w'.heap[b]? = w.heap[b]?) (hr:OX P g w' B L o') (AX:∀M∈dW o',∃o,lk σ.ay M=some o) :
    bW P nt B w0 h0 g {σ with ay:=(L,o')::σ.ay} a w':=S.write2 hL uh hb (λb _=>rq b) hr AX
theorem KW{L:Nat}{v:Value}:∀M,M≠L->jl g (g.setSv L v) M:=λM h=>⟨rfl,by simp[Gh.setSv,h],rfl⟩
theorem ZZ{L:Nat}{v:Value}{iv:Nat->Value}:∀M,M≠L->jl g (g.setVv L v iv) M:=λM h=>⟨rfl,by simp[Gh.setVv,h],by simp[Gh.setVv,h]⟩
theorem bW.adopt(S:bW P nt B w0 h0 g σ a w){t e s b n:Nat}{get:Nat→List PV}{v:Value}(ht:lk σ.ay t=none)
    (hv:∀k,v.ownBlock=some k->B<=k/\g.h k=none/\∀L o,lk σ.ay L=some o->¬iy g L o k) (hr:Dp P (g.setSv t v) w B t e s b n get) :
    bW P nt B w0 h0 (g.setSv t v) {σ with ay:=(t,.vec e s b n get)::σ.ay} a w:=by
  have jk:∀L o,lk σ.ay L=some o->L≠t:=λL o h e=>by subst e;rw[ht]at h;cases h
  have fG:∀L o,lk σ.ay L=some o->jl g (g.setSv t v) L:=λL o h=>KW L (jk L o h);have kQ:∀L o,lk ((t,AO.vec e s b n get)::σ.ay) L=some o->(L=t/\o=.vec e s b n get)\/(L≠t/\lk σ.ay L=some o):=by
    intro L o h;rw[aX]at h;split at h;rename_i e;simp at h;exact .inl ⟨e.symm,h.symm⟩;rename_i e;exact .inr ⟨λe'=>e e'.symm,h⟩
  have Vl:(g.setSv t v).sv t=v:=by simp[Gh.setSv]
  have iP:∀L o k,lk σ.ay L=some o->iy (g.setSv t v) L o k->iy g L o k:=λL o k ho h=>by rw[gZ (fG L o ho)]at h;exact h
  refine S.change (g':=g.setSv t v) fG (λ_ _ h=>h) S.hw (λb o h=>.inl h) (.refl _ B w) ?_ ?_ ?_ ?_ ?_;intro L o ho;rcases kQ L o ho with⟨rfl,rfl⟩|⟨_,ho⟩
  exact hr;exact kz (S.obj L o ho) (fG L o ho) (λM hM=>by obtain⟨o',lq⟩:=S.clO L o ho M hM;exact fG M o' lq) (λ_ _ h=>h) λ_ _=>rfl;intro L o k ho hk;rcases kQ L o ho with⟨rfl,rfl⟩|⟨_,ho⟩
  simp only[iy,Vl]at hk;exact⟨(hv k hk).1,(hv k hk).2.1⟩;exact S.own L o k ho (iP L o k ho hk);intro L o k L' o' ho lq hk jR;rcases kQ L o ho with⟨rfl,rfl⟩|⟨_,o9⟩<;>rcases kQ L' o' lq with⟨rfl,rfl⟩|⟨_,nT⟩
  rfl;simp only[iy,Vl]at hk;exact((hv k hk).2.2 L' o' nT (iP _ _ _ nT jR)).elim;simp only[iy,Vl]at jR;exact((hv k jR).2.2 L o o9 (iP _ _ _ o9 hk)).elim;exact S.sep L o k L' o' o9 nT (iP _ _ _ o9 hk) (iP _ _ _ nT jR);intro L o ho;refine⟨o,?_⟩;rw[aX,fH (λe=>jk L o ho e.symm)];exact ho;intro L o ho M hM;rcases kQ L o ho with⟨rfl,rfl⟩|⟨_,ho⟩
  simp[dW]at hM;obtain⟨o',lq⟩:=S.clO L o ho M hM;exact⟨o',by rw[aX,fH (λe=>jk M o' lq e.symm)];exact lq⟩
end
end Go.Pm
namespace Go.Pm
variable [aC]
open Go.RowKit (Below)
abbrev mP:=List (Nat×AO)
abbrev Qe(s:Nat)(ln:Nat->Nat)(get:Nat->Nat->List PV):Nat->List PV:=λi=>[.sl (ln i) s (get i)]
def zb9(ob:Nat->Option AO)(u:mP)(L:Nat)(o':AO):Prop :=
 (∃e s b n get,ob L=some (.vec e s b n get)/\o'=.fvec s n get) \/
 (∃ty cells l us,ob L=some (.box ty cells)/\o'=.fbox l/\nY ob cells=some (l,us)/\∀x∈us,x∈u) \/
 (∃te bb e s b n ln get,ob L=some (.vv te bb e s b n ln get)/\o'=.fvec 1 n (Qe s ln get))
theorem zb9.mono{ob:Nat->Option AO}{u u':mP}{L:Nat}{o':AO}(h:zb9 ob u L o')(hu:∀x∈u,x∈u'):zb9 ob u' L o':=by
 rcases h with h|⟨ty,cells,l,us,h1,h2,h3,h4⟩|h
 exact .inl h;exact .inr (.inl ⟨ty,cells,l,us,h1,h2,h3,λx hx=>hu x (h4 x hx)⟩);exact .inr (.inr h)
def fF(ob:Nat->Option AO)(u:mP):Prop:=∀x∈u,zb9 ob u x.1 x.2
theorem fF.append{ob:Nat->Option AO}{u u':mP}(h:fF ob u)(h':fF ob u'):fF ob (u++u'):=by
 intro x hx;rcases dX.1 hx with hx|hx
 exact(h x hx).mono λy hy=>dX.2 (.inl hy);exact(h' x hx).mono λy hy=>dX.2 (.inr hy)
theorem fF.nil(ob:Nat->Option AO):fF ob []:=λx hx=>by simp at hx
section
variable{ob:Nat->Option AO}
theorem SB{c:Cl}{v:PV}{u:mP}(h:Aw ob c=some (v,u)):fF ob u:=by
 unfold Aw at h;split at h;simp only[bV,gJ]at h;rw[<- h.2];exact fF.nil ob;split at h;rename_i e s b n get hL;simp at h;rw[<- h.2];intro x hx;simp at hx;subst hx;exact .inl ⟨_,_,_,_,_,hL,rfl⟩;simp only[bV,gJ]at h;rw[<- h.2];exact fF.nil ob;rename_i te bb e s b n ln get hL;simp only[bV,gJ]at h;rw[<- h.2];intro x hx;simp only[lN]at hx;subst hx;exact .inr (.inr ⟨_,_,_,_,_,_,_,_,hL,rfl⟩);cases h;cases h
theorem KX:∀{cs:List Cl}{l:List PV}{u:mP},jL ob cs=some (l,u)→fF ob u
  | [],l,u,h=>by simp[jL]at h;rw[h.2];exact fF.nil ob
  | c::cs,l,u,h=>by
    simp only[jL]at h;split at h;rename_i v u1 l2 u2 h1 h2;simp at h;rw[<- h.2];exact(SB h1).append (KX h2);cases h
theorem zyl{c:Cl}{x:PV×mP}(h:Aw ob c=some x):O4 ob c=some x:=by
 cases c<;>first|exact h|cases h
theorem SC:∀{cs:List Cl}{x:List PV×mP},jL ob cs=some x→nY ob cs=some x
  | [],x,h=>h
  | c::cs,x,h=>by
    simp only[jL]at h;split at h;rename_i v u1 l2 u2 h1 h2;simp only[nY,zyl h1,SC h2];exact h;cases h
theorem zox{c:Cl}{v:PV}{u:mP}(h:O4 ob c=some (v,u)):fF ob u:=by
 unfold O4 at h;split at h;split at h;rename_i L off ty cells hL;split at h;rename_i l us hl;simp at h;rw[<- h.2];intro x hx;rcases dX.1 hx with hx|hx
 exact(KX hl x hx).mono λy hy=>dX.2 (.inl hy);simp at hx;subst hx;exact .inr (.inl ⟨_,_,_,_,hL,rfl,SC hl,λy hy=>dX.2 (.inl hy)⟩);cases h;simp only[bV,gJ]at h;rw[<- h.2];exact fF.nil ob;cases h;exact SB h
theorem V5:∀{cs:List Cl}{l:List PV}{u:mP},nY ob cs=some (l,u)→fF ob u
  | [],l,u,h=>by simp[nY]at h;rw[h.2];exact fF.nil ob
  | c::cs,l,u,h=>by
    simp only[nY]at h;split at h;rename_i v u1 l2 u2 h1 h2;simp at h;rw[<- h.2];exact(zox h1).append (V5 h2);cases h
theorem zca{c:Cl}{v:PV}{u:mP}(h:Kr ob c=some (v,u)):fF ob u:=by
 unfold Kr at h;split at h;split at h;rename_i L off ty cells hL;split at h;rename_i l us hl;simp at h;rw[<- h.2];intro x hx;rcases dX.1 hx with hx|hx
 exact(V5 hl x hx).mono λy hy=>dX.2 (.inl hy);simp at hx;subst hx;exact .inr (.inl ⟨_,_,_,_,hL,rfl,hl,λy hy=>dX.2 (.inl hy)⟩);cases h;simp only[bV,gJ]at h;rw[<- h.2];exact fF.nil ob;cases h;exact SB h
theorem V6:∀{cs:List Cl}{l:List PV}{u:mP},tu ob cs=some (l,u)→fF ob u
  | [],l,u,h=>by simp[tu]at h;rw[h.2];exact fF.nil ob
  | c::cs,l,u,h=>by
    simp only[tu]at h;split at h;rename_i v u1 l2 u2 h1 h2;simp at h;rw[<- h.2];exact(zca h1).append (V6 h2);cases h
theorem Z4{c:Cl}{v:PV}{u:mP}(h:frz ob c=some (v,u)):fF ob u:=by
 unfold frz at h;split at h;split at h;rename_i l us hl;simp only[bV,gJ]at h;rw[<- h.2];exact V6 hl;cases h;exact zca h
theorem Ju:∀{cs:List Cl}{l:List PV}{u:mP},uk ob cs=some (l,u)→fF ob u
  | [],l,u,h=>by simp[uk]at h;rw[h.2];exact fF.nil ob
  | c::cs,l,u,h=>by
    simp only[uk]at h;split at h;rename_i v u1 l2 u2 h1 h2;simp at h;rw[<- h.2];exact(Z4 h1).append (Ju h2);cases h
theorem Dt{d:DV}{v:PA}{u:mP}(h:Az ob d=some (v,u)):fF ob u:=by
 unfold Az at h;split at h;split at h;rename_i v' u' h1;simp at h;rw[<- h.2];exact Z4 h1;cases h;split at h;rename_i v' u' h1;simp at h;rw[<- h.2];exact Ju h1;cases h;cases h
theorem yU:∀{cs:List DV}{l:List PA}{u:mP},iO ob cs=some (l,u)→fF ob u
  | [],l,u,h=>by simp[iO]at h;rw[h.2];exact fF.nil ob
  | c::cs,l,u,h=>by
    simp only[iO]at h;split at h;rename_i v u1 l2 u2 h1 h2;simp at h;rw[<- h.2];exact(Dt h1).append (yU h2);cases h
end
structure fM (g : Gh) (ob : Nat → Option AO) (u : mP) (h' : Fz) : Prop where
  le:kF g.h h'
  vec:∀L e s b n get,ob L=some (.vec e s b n get)->(L,AO.fvec s n get)∈u->Rep h' (.sl n s get) (g.sv L)
  fvec:∀L s n get,ob L=some (.fvec s n get)->Rep h' (.sl n s get) (g.sv L)
  vv:∀L te bb e s b n ln get,ob L=some (.vv te bb e s b n ln get)->(L,AO.fvec 1 n (Qe s ln get))∈u->Rep h' (.sl n 1 (Qe s ln get)) (g.sv L)
  box:∀L ty cells l us,ob L=some (.box ty cells)->nY ob cells=some (l,us)->(∀x∈us,x∈u)->(L,AO.fbox l)∈u->∃C,h' (g.bk L)=some (.fz (.cells C ty (0,0)))/\RL (Rep h') l C.toList
  fbox:∀L l,ob L=some (.fbox l)->∃C ty fr,h' (g.bk L)=some (.fz (.cells C ty fr))/\RL (Rep h') l C.toList
  new:∀b,g.h b=none->∀o,h' b=some o->∃L x o',(L,o')∈u/\ob L=some x/\iy g L x b
section
variable{g:Gh}{ob:Nat->Option AO}{u:mP}{h':Fz}
theorem fM.rep0(F:fM g ob u h'){c:Cl}{v:PV}{us:mP}{x:Value}(h:Aw ob c=some (v,us))(hu:∀y∈us,y∈u)(hc:jw g c x):Rep h' v x:=by
 unfold Aw at h;split at h;simp at h;rw[<- h.1];exact Rep.mono F.le hc;split at h;rename_i L _x e s b n get hL;simp at h;rw[<- h.1];rw[<- h.2]at hu;obtain⟨rfl,_⟩:=hc;exact F.vec L e _ b n get hL (hu _ (by simp));rename_i L _x s n get hL;simp at h;rw[<- h.1];obtain⟨rfl,_⟩:=hc;exact F.fvec L _ n get hL;rename_i L _x te bb e s b n ln get hL;simp only[bV,gJ]at h;rw[<- h.1];rw[<- h.2]at hu;obtain⟨rfl,_⟩:=hc;exact F.vv L te bb e s b n ln get hL (hu _ (by simp));cases h;cases h
theorem fM.repL0(F:fM g ob u h'):∀{cs:List Cl}{l:List PV}{us:mP}{vs:List Value},jL ob cs=some (l,us)→(∀y∈us,y∈u)→RL (jw g) cs vs→RL (Rep h') l vs
  | [],l,us,vs,h,hu,hc=>by
    simp[jL]at h;rw[h.1];cases vs with|nil=>trivial|cons=>exact hc.elim
  | c::cs,l,us,[],h,hu,hc=>hc.elim
  | c::cs,l,us,v::vs,h,hu,hc=>by
    simp only[jL]at h;split at h;rename_i v1 u1 l2 u2 h1 h2;simp at h;rw[<- h.1];rw[<- h.2]at hu;exact⟨F.rep0 h1 (λy hy=>hu y (dX.2 (.inl hy))) hc.1,F.repL0 h2 (λy hy=>hu y (dX.2 (.inr hy))) hc.2⟩;cases h
theorem SE{h:Fz}{b:Nat}{C:Array Value}{ty:TypeId}{fr:Nat×Nat}{l:List PV}(hb:h b=some (.fz (.cells C ty fr)))(hr:RL (Rep h) l C.toList)(off:Nat) :
    Rep h (.fp l off) (.pointer (some ⟨b,off,none⟩)):=by
  have := Rep.fp (h := h) l off b 0 C ty fr (fun j => C.getD j undef) hb
    (λj x hj=>by
      obtain⟨v,hv,_⟩:=hr.get j x hj;have Bj:C[j]? = some v:=by simpa using hv
      simp[yA,Bj])
    (λj x hj=>by
      obtain⟨v,hv,hx⟩:=hr.get j x hj;have Bj:C[j]? = some v:=by simpa using hv
      simpa [yA,Bj]using hx)
  simpa using this
theorem fM.repA(F:fM g ob u h'){c:Cl}{v:PV}{us:mP}{x:Value}(h:Kr ob c=some (v,us))(hu:∀y∈us,y∈u)(hc:jw g c x):Rep h' v x:=by
 unfold Kr at h;split at h;split at h;rename_i L off _x ty cells hL;split at h;rename_i l us' hl;simp at h;rw[<- h.1];rw[<- h.2]at hu;obtain⟨C,hC,hr⟩:=F.box L ty cells l us' hL hl (λy hy=>hu y (dX.2 (.inl hy))) (hu _ (by simp));simp only[jw]at hc;rw[hc];exact SE hC hr off;cases h;rename_i L off _x l hL;simp at h;rw[<- h.1];obtain⟨C,ty,fr,hC,hr⟩:=F.fbox L l hL;simp only[jw]at hc;rw[hc];exact SE hC hr off;cases h;exact F.rep0 h hu hc
theorem fM.repAL(F:fM g ob u h'):∀{cs:List Cl}{l:List PV}{us:mP}{vs:List Value},tu ob cs=some (l,us)→(∀y∈us,y∈u)→RL (jw g) cs vs→RL (Rep h') l vs
  | [],l,us,vs,h,hu,hc=>by
    simp[tu]at h;rw[h.1];cases vs with|nil=>trivial|cons=>exact hc.elim
  | c::cs,l,us,[],h,hu,hc=>hc.elim
  | c::cs,l,us,v::vs,h,hu,hc=>by
    simp only[tu]at h;split at h;rename_i v1 u1 l2 u2 h1 h2;simp at h;rw[<- h.1];rw[<- h.2]at hu;exact⟨F.repA h1 (λy hy=>hu y (dX.2 (.inl hy))) hc.1,F.repAL h2 (λy hy=>hu y (dX.2 (.inr hy))) hc.2⟩;cases h
theorem fM.rep(F:fM g ob u h'){c:Cl}{v:PV}{us:mP}{x:Value}(h:frz ob c=some (v,us))(hu:∀y∈us,y∈u)(hc:jw g c x):Rep h' v x:=by
 unfold frz at h;split at h;rename_i f caps;split at h;rename_i l us' hl;simp only[bV,gJ]at h;obtain⟨rfl,rfl⟩:=h;obtain⟨cv,rfl,hr⟩:=hc;have hr2:RL (jw g) (caps.map zem) cv:=RL.map_left.2 (hr.mono λc y hy=>by
  cases c with|v p=>exact hy|b L=>exact hy)
 have hl2:=F.repAL hl hu hr2;exact .fn f [] l [] cv rfl hl2.length (λi x y hx _=>by simp at hx) (λi x y hx hy=>by obtain⟨v,hv,hr3⟩:=hl2.get i x hx;rw[hv]at hy;exact PS hy▸hr3);cases h;exact F.repA h hu hc
theorem fM.repL(F:fM g ob u h'):∀{cs:List Cl}{l:List PV}{us:mP}{vs:List Value},uk ob cs=some (l,us)→(∀y∈us,y∈u)→RL (jw g) cs vs→RL (Rep h') l vs
  | [],l,us,vs,h,hu,hc=>by
    simp[uk]at h;rw[h.1];cases vs with|nil=>trivial|cons=>exact hc.elim
  | c::cs,l,us,[],h,hu,hc=>hc.elim
  | c::cs,l,us,v::vs,h,hu,hc=>by
    simp only[uk]at h;split at h;rename_i v1 u1 l2 u2 h1 h2;simp at h;rw[<- h.1];rw[<- h.2]at hu;exact⟨F.rep h1 (λy hy=>hu y (dX.2 (.inl hy))) hc.1,F.repL h2 (λy hy=>hu y (dX.2 (.inr hy))) hc.2⟩;cases h
theorem fM.repD(F:fM g ob u h'){d:DV}{v:PA}{us:mP}{x:Value}(h:Az ob d=some (v,us))(hu:∀y∈us,y∈u)(hc:rO g d x):oJ h' v x:=by
 unfold Az at h;split at h;split at h;rename_i v' u' h1;simp at h;rw[<- h.1];rw[<- h.2]at hu;exact F.rep h1 hu hc;cases h;split at h;rename_i v' u' h1;simp at h;rw[<- h.1];rw[<- h.2]at hu;obtain⟨vs,rfl,hr⟩:=hc;exact⟨vs,rfl,F.repL h1 hu hr⟩;cases h;cases h
theorem fM.repDs(F:fM g ob u h'):∀{ds:List DV}{l:List PA}{us:mP}{vs:List Value},iO ob ds=some (l,us)→(∀y∈us,y∈u)→RL (rO g) ds vs→RL (oJ h') l vs
  | [],l,us,vs,h,hu,hc=>by
    simp[iO]at h;rw[h.1];cases vs with|nil=>trivial|cons=>exact hc.elim
  | c::cs,l,us,[],h,hu,hc=>hc.elim
  | c::cs,l,us,v::vs,h,hu,hc=>by
    simp only[iO]at h;split at h;rename_i v1 u1 l2 u2 h1 h2;simp at h;rw[<- h.1];rw[<- h.2]at hu;exact⟨F.repD h1 (λy hy=>hu y (dX.2 (.inl hy))) hc.1,F.repDs h2 (λy hy=>hu y (dX.2 (.inr hy))) hc.2⟩;cases h
end
theorem fO{α:Type}{l:List (Nat×α)}{n:Nat}{a:α}(h:lk l n=some a):(n,a)∈l:=by
 induction l with
 | nil=>simp[lk]at h
 | cons x l ih =>
  obtain⟨k,y⟩:=x;rw[aX]at h;split at h;rename_i e;simp at h;subst h;subst e;exact kX;exact jW _ (ih h)
theorem SG{α:Type}{l:List (Nat×α)}{n:Nat}(h:lk l n=none):∀a,(n,a)∉l:=by
 induction l with
 | nil=>intro a h;simp at h
 | cons x l ih =>
  obtain⟨k,y⟩:=x;rw[aX]at h;split at h;cases h;rename_i e;intro a ha;rcases kS.1 ha with h1|h1
  simp at h1;exact e h1.1.symm;exact ih h a h1
theorem yV{g:Gh}{w:World}{B e s n:Nat}{v:Value}{get:Nat→List PV}{h':Fz}{xs:List Value}(hu:uo get)(hs:0<s)(hx:w.ownsRow B e s v n xs)
    (hr:∀i,i<n->RL (Rep g.h) (get i) ((xs.drop (i*s)).take s)) (hle:kF g.h h') (hb:∀k,v.ownBlock=some k->h' k=(w.heap[k]?).map .fz):Rep h' (.sl n s get) v:=by
  rcases hx.2 with⟨h1,rfl⟩|⟨k,cap,cur,h1,hB,hg,hn,kR,jU,htk⟩
  rw[h1];exact .sl0 s get hu;rw [h1]at hb ⊢;have hk:=hb k rfl;rw[hg]at hk;simp only[RU]at hk;have hlen:∀i,i<n->(get i).length=s:=by
    intro i hi;rw[(hr i hi).length];simp only[qdB,Zx,hx.1];have:i*s+s<=n*s:=by have:=RJ s (qdp hi);rw[Vr]at this;exact this
    omega
  have ou:∀i j x,i<n->(get i)[j]? = some x->∃v,cur[i*s+j]? = some v/\Rep g.h x v:=by
    intro i j x hi hj;obtain⟨v,hv,yz⟩:=(hr i hi).get j x hj;refine⟨v,?_,yz⟩;have hjs:j<s:=by
      have:=(Bl.1 hj).1;rw[hlen i hi]at this;exact this
    rw[Jn,eY hjs,qdl,<- htk,Jn]at hv;split at hv;simpa using hv;cases hv
  refine .sl n s get hu k 0 cap cur e (0,0) (λi j=>cur.getD (i*s+j) undef) hk hn hlen ?_ ?_;intro i j x hi hj;obtain⟨v,hv,_⟩:=ou i j x hi hj;rw[O3,yA,hv];rfl;intro i j x hi hj;obtain⟨v,hv,yz⟩:=ou i j x hi hj;simp only[yA,hv,qdM];exact yz.mono hle
theorem zoy{P:Program}{g:Gh}{w:World}{B L e s b n:Nat}{get:Nat→List PV}{h':Fz}(hv:Dp P g w B L e s b n get)(hle:kF g.h h')
    (hb:∀k,(g.sv L).ownBlock=some k->h' k=(w.heap[k]?).map .fz):Rep h' (.sl n s get) (g.sv L):=by
  obtain⟨hs,_,xs,hx,hr⟩:=hv;exact yV hs.1 hs.2 hx hr hle hb
theorem zym{P:Program}{g:Gh}{w:World}{B L te bb e s b n:Nat}{ln:Nat→Nat}{get:Nat→Nat→List PV}{h':Fz}(hv:vvR P g w B L te bb e s b n ln get)(hle:kF g.h h')
    (hb:∀k,iy g L (.vv te bb e s b n ln get) k->h' k=(w.heap[k]?).map .fz):Rep h' (.sl n 1 (Qe s ln get)) (g.sv L):=by
  obtain⟨hs,_,_,h4,h5,_⟩:=hv;refine yV (g:=⟨h',g.bk,g.sv,g.iv⟩) (λi j=>⟨uo.sl (λk l=>hs.1 i k j l) _ _ _,trivial⟩) (by decide) h4 ?_ (λ_ _ h=>h) λk hk=>hb k (.inl hk);intro i hi;have e1:(((List.range n).map (g.iv L)).drop (i*1)).take 1=[g.iv L i]:=by
    apply qdk;intro j;rw[Jn];cases j with|zero=>simp[hi]|succ j=>simp
  rw[e1];obtain⟨_,_,xs,hx,hr⟩:=h5 i hi;exact⟨yV (λj k=>hs.1 i j i k) hs.2 hx hr hle λk hk=>hb k (.inr ⟨i,hi,hk⟩),trivial⟩
open Classical in
theorem bW.freeze{P:Program}{nt B:Nat}{w0:World}{h0:Fz}{g:Gh}{σ:St}{a:Act}{w:World}(S:bW P nt B w0 h0 g σ a w){u:mP}(hu:fF (lk σ.ay) u) :
  ∃h',bW P nt B w0 h0 ⟨h',g.bk,g.sv,g.iv⟩ {σ with ay:=u++σ.ay} a w/\fM g (lk σ.ay) u h':=by
 let inU:Nat->Prop:=λb=>∃L o o',(L,o')∈u/\lk σ.ay L=some o/\iy g L o b;let h':Fz:=λb=>if inU b then(w.heap[b]?).map .fz else g.h b;have hle:kF g.h h':=by
  intro b o hb;show(if inU b then(w.heap[b]?).map .fz else g.h b)=some o;split;rename_i h;obtain⟨L,x,o',_,hL,cZ⟩:=h;rw[(S.own L x b hL cZ).2]at hb;cases hb;exact hb
 have ZF:∀b,inU b->h' b=(w.heap[b]?).map .fz:=λb hb=>eY hb;have FI:∀b,¬inU b->h' b=g.h b:=λb hb=>fH hb;have F1:∀L e s b n get,lk σ.ay L=some (.vec e s b n get)->(L,AO.fvec s n get)∈u->Rep h' (.sl n s get) (g.sv L):=by
  intro L e s b n get hL hm;exact zoy (S.obj L _ hL) hle λk hk=>ZF k ⟨L,_,_,hm,hL,hk⟩
 have F3:∀L te bb e s b n ln get,lk σ.ay L=some (.vv te bb e s b n ln get)->(L,AO.fvec 1 n (Qe s ln get))∈u->Rep h' (.sl n 1 (Qe s ln get)) (g.sv L):=by
  intro L te bb e s b n ln get hL hm;exact zym (S.obj L _ hL) hle λk hk=>ZF k ⟨L,_,_,hm,hL,hk⟩
 have F2:∀L s n get,lk σ.ay L=some (.fvec s n get)->Rep h' (.sl n s get) (g.sv L):=λL s n get hL=>Rep.mono hle (S.obj L _ hL).1;have F0:fM g (lk σ.ay) u h':=by
  have Fpre:∀{cs:List Cl}{l:List PV}{us:mP}{vs:List Value},jL (lk σ.ay) cs=some (l,us)->(∀y∈us,y∈u)->RL (jw g) cs vs->RL (Rep h') l vs:=by
   intro cs
   induction cs with
   | nil =>
    intro l us vs h _ hc;simp[jL]at h;rw[h.1];cases vs with|nil=>trivial|cons=>exact hc.elim
   | cons c cs ih =>
    intro l us vs h OT hc;cases vs with
    | nil=>exact hc.elim
    | cons v vs =>
     simp only[jL]at h;split at h;rename_i v1 u1 l2 u2 h1 h2;simp at h;rw[<- h.1];rw[<- h.2]at OT;refine⟨?_,ih h2 (λy hy=>OT y (dX.2 (.inr hy))) hc.2⟩;have hu1:∀y∈u1,y∈u:=λy hy=>OT y (dX.2 (.inl hy));have FH:=hc.1;unfold Aw at h1;split at h1;simp at h1;rw[<- h1.1];exact Rep.mono hle FH;split at h1;rename_i L _x e s b n get hL;simp at h1;rw[<- h1.1];rw[<- h1.2]at hu1;obtain⟨rfl,_⟩:=FH;exact F1 L e _ b n get hL (hu1 _ (by simp));rename_i L _x s n get hL;simp at h1;rw[<- h1.1];obtain⟨rfl,_⟩:=FH;exact F2 L _ n get hL;rename_i L _x te bb e s b n ln get hL;simp only[bV,gJ]at h1;rw[<- h1.1];rw[<- h1.2]at hu1;obtain⟨rfl,_⟩:=FH;exact F3 L te bb e s b n ln get hL (hu1 _ (by simp));cases h1;cases h1;cases h
  have Fbox:∀L l,lk σ.ay L=some (.fbox l)->∃C ty fr,h' (g.bk L)=some (.fz (.cells C ty fr))/\RL (Rep h') l C.toList:=by
   intro L l hL;obtain⟨C,ty,fr,hC,hr⟩:=S.obj L _ hL;exact⟨C,ty,fr,hle _ _ hC,hr.mono λ_ _=>Rep.mono hle⟩
  have FpreB:∀{cs:List Cl}{l:List PV}{us:mP}{vs:List Value},nY (lk σ.ay) cs=some (l,us)->(∀y∈us,y∈u)->RL (jw g) cs vs->RL (Rep h') l vs:=by
   intro cs
   induction cs with
   | nil =>
    intro l us vs h _ hc;simp[nY]at h;rw[h.1];cases vs with|nil=>trivial|cons=>exact hc.elim
   | cons c cs ih =>
    intro l us vs h OT hc;cases vs with
    | nil=>exact hc.elim
    | cons v vs =>
     simp only[nY]at h;split at h;rename_i v1 u1 l2 u2 h1 h2;simp at h;rw[<- h.1];rw[<- h.2]at OT;refine⟨?_,ih h2 (λy hy=>OT y (dX.2 (.inr hy))) hc.2⟩;have hu1:∀y∈u1,y∈u:=λy hy=>OT y (dX.2 (.inl hy));have FH:=hc.1;have low:Aw (lk σ.ay) c=some (v1,u1)->Rep h' v1 v:=λh0=>(Fpre (cs:=[c]) (l:=[v1]) (us:=u1) (vs:=[v]) (by simp[jL,h0]) hu1 ⟨FH,trivial⟩).1;unfold O4 at h1;split at h1;split at h1;rename_i L off _x ty cells hL;split at h1;rename_i l' us' hl;simp at h1;rw[<- h1.1];rw[<- h1.2]at hu1;obtain⟨C,hC,hr⟩:=S.obj L _ hL;have hm:(L,AO.fbox l')∈u:=hu1 _ (by simp);have hk:h' (g.bk L)=some (.fz (.cells C ty (0,0))):=by
      rw[ZF (g.bk L) ⟨L,_,_,hm,hL,rfl⟩,hC];rfl
     simp only[jw]at FH;rw[FH];exact SE hk (Fpre hl (λy hy=>hu1 y (dX.2 (.inl hy))) hr) off;cases h1;rename_i L off _x l' hL;simp at h1;rw[<- h1.1];obtain⟨C,ty,fr,hC,hr⟩:=Fbox L l' hL;simp only[jw]at FH;rw[FH];exact SE hC hr off;cases h1;exact low h1;cases h
  refine⟨hle,F1,F2,F3,?_,?_,λb hb o ho=>?_⟩
  rotate_left 2
  by_cases h:inU b;obtain⟨L,x,o',h1,h2,h3⟩:=h;exact⟨L,x,o',h1,h2,h3⟩;rw[FI b h,hb]at ho;cases ho;intro L ty cells l us hL hl OT hm;obtain⟨C,hC,hr⟩:=S.obj L _ hL;refine⟨C,?_,FpreB hl OT hr⟩;rw[ZF (g.bk L) ⟨L,_,_,hm,hL,rfl⟩,hC];rfl;exact Fbox
 refine⟨h',?_,F0⟩;have kQ:∀L o,lk (u++σ.ay) L=some o->((L,o)∈u)\/((∀o',(L,o')∉u)/\lk σ.ay L=some o):=by
  intro L o h;rw[iC]at h;cases hL:lk u L with|some x=>simp only[hL]at h;simp at h;subst h;exact .inl (fO hL)|none=>simp only[hL]at h;exact .inr ⟨SG hL,h⟩
 have hfr:∀L o b,(L,o)∈u->¬iy (⟨h',g.bk,g.sv,g.iv⟩:Gh) L o b:=by
  intro L o b h;rcases hu _ h with⟨e,s,b,n,get,_,h2⟩|⟨ty,cells,l,us,_,h2,_⟩|⟨te,bb,e,s,b,n,ln,get,_,h2⟩<;>(simp only at h2;rw[h2];exact id)
 have iP:∀L o,iy (⟨h',g.bk,g.sv,g.iv⟩:Gh) L o=iy g L o:=λL o=>gZ (g:=g) (g':=⟨h',g.bk,g.sv,g.iv⟩) ⟨rfl,rfl,rfl⟩;have yG:∀L o,lk σ.ay L=some o->∃o',lk (u++σ.ay) L=some o':=by
  intro L o h;rw[iC];cases lk u L with|some x=>exact⟨x,rfl⟩|none=>exact⟨o,h⟩
 refine S.change (g':=⟨h',g.bk,g.sv,g.iv⟩) (λ_ _ _=>⟨rfl,rfl,rfl⟩) hle ?_ ?_ (.refl _ B w) ?_ ?_ ?_ yG ?_;intro b o hb;have mJ:h' b=some o:=hb;by_cases h:inU b;rw [ZF b h]at mJ;obtain⟨x,hx,rfl⟩:=Zw.1 mJ;exact⟨x,hx,rfl⟩;rw[FI b h]at mJ;exact S.hw b o mJ;intro b o hb;by_cases h:inU b;obtain⟨L,x,o',hm,hL,cZ⟩:=h;exact .inr (S.own L x b hL cZ).1;have mJ:h' b=some o:=hb;rw[FI b h]at mJ;exact .inl mJ;intro L o ho;rcases kQ L o ho with hm|⟨hn,ho⟩
 rcases hu _ hm with⟨e,s,b,n,get,h1,h2⟩|⟨ty,cells,l,us,h1,h2,h3,h4⟩|⟨te,bb,e,s,b,n,ln,get,h1,h2⟩
 simp only at h1 h2;rw [h2];rw [h2]at hm;refine⟨F0.vec L e s b n get h1 hm,?_⟩;obtain⟨_,_,xs,hx,_⟩:=S.obj L _ h1;intro x m c hv;show x.off=0;have Bj:g.sv L=.slice (some x) m c:=hv;rcases hx.2 with⟨h5,_⟩|⟨k,cap,cur,h5,_⟩
 rw[h5]at Bj;simp at Bj;rw[h5]at Bj;simp at Bj;rw[<- Bj.1];simp only at h1 h2;rw [h2];rw [h2]at hm;obtain⟨C,hC,hr⟩:=F0.box L ty cells l us h1 h3 h4 hm;exact⟨C,ty,(0,0),hC,hr⟩;simp only at h1 h2;rw [h2];rw [h2]at hm;refine⟨F0.vv L te bb e s b n ln get h1 hm,?_⟩;obtain⟨_,_,_,hx,_⟩:=S.obj L _ h1;intro x m c hv;show x.off=0;have Bj:g.sv L=.slice (some x) m c:=hv;rcases hx.2 with⟨h5,_⟩|⟨k,cap,cur,h5,_⟩
 rw[h5]at Bj;simp at Bj;rw[h5]at Bj;simp at Bj;rw[<- Bj.1];exact kz (S.obj L o ho) ⟨rfl,rfl,rfl⟩ (λ_ _=>⟨rfl,rfl,rfl⟩) hle λ_ _=>rfl;intro L o b ho cZ;rcases kQ L o ho with hm|⟨hn,ho⟩
 exact(hfr L o _ hm cZ).elim;rw [iP]at cZ;obtain⟨h1,h2⟩:=S.own L o b ho cZ;refine⟨h1,?_⟩;show h' b=none;rw[FI b ?_];exact h2;rintro⟨M,x,o',hm,hM,iK⟩;have:=S.sep L o b M x ho hM cZ iK;subst this;exact hn o' hm;intro L o b L' o' ho lq cZ iK;rcases kQ L o ho with hm|⟨_,o9⟩
 exact(hfr L o _ hm cZ).elim;rcases kQ L' o' lq with hm|⟨_,nT⟩
 exact(hfr L' o' _ hm iK).elim;rw[iP]at cZ iK;exact S.sep L o b L' o' o9 nT cZ iK;intro L o ho M hM;rcases kQ L o ho with hm|⟨_,o9⟩
 rcases hu _ hm with⟨e,s,b,n,get,_,h2⟩|⟨ty,cells,l,us,_,h2,_⟩|⟨te,bb,e,s,b,n,ln,get,_,h2⟩<;>(simp only at h2;rw[h2]at hM;simp[dW]at hM)
 obtain⟨x,hx⟩:=S.clO L o o9 M hM;exact yG M x hx
end Go.Pm
namespace Go.Pm
variable [aC]
open Go.RowKit (Below)
def aH.safe:aH→Prop|.no=>False|.val _ _ _ _=>True|.chk _ s _ _ _=>s.p
def oM(A:aH)(i:Nat)(dst:Option Nat)(σ σ':St):Prop :=
 match A with|.no=>False|.val fp d u kl=>σ'=σ.upd i dst fp d u kl|.chk fp _ d u kl=>σ'=σ.upd i dst fp d u kl
theorem F9{A:aH}{lg:List (Nat×Bool)→List Nat→List (Nat×Nat×Nat)}{i:Nat}{dst:Option Nat}{K:St→Prop}{σ:St} :
  nZ A lg i dst K σ↔A.safe/\∀σ',oM A i dst σ σ'->K (σ'.relog (match A with | .val fp _ _ kl=>lg fp kl | .chk fp _ _ _ kl=>lg fp kl | .no=>[])):=by
 cases A with|no=>simp[nZ,aH.safe]|val fp d u kl=>simp[nZ,aH.safe,oM]|chk fp s d u kl=>simp[nZ,aH.safe,oM]
def FR(r:Option Nat):Fence:={fn:=λ_=>True,depth:=none,alive:=false,round:=r}
theorem KY{r:Option Nat}{n:Nat}{P:Program}{f:FuncId}{args:Array Value}{w:World}{R:Ending->World->Prop}(h:Calls P f args w R):CallsIn (FR r) n P f args w R :=
 (callsIn_wide (n:=n)).2 h
section
variable{P:Program}{r:Option Nat}{n:Nat}{o:Oper}{a:Act}{w:World}{R:Act->World->Prop}{Q:Exit->Act->World->Prop}
theorem put_defers(a:Act)(dst:Option Nat)(v:Value):(a.put dst v).defers=a.defers:=by cases dst<;>rfl
theorem qp(zN:∀c,o.op ≠ .defer c){v:Value}{w':World}(h:(execOp a.eval o).run P w=.ok (.value v) w')(hR:R (a.put o.dst v) w'):o.wpIn (FR r) n P a w (λa' w'=>a'.defers=a.defers/\R a' w') Q:=by
 refine⟨λ_ _=>trivial,?_⟩;rw[Oper.semAt_eq _ _ _ zN,h,Oper.uponIn_value];exact⟨put_defers _ _ _,hR⟩
theorem Jv(zN:∀c,o.op ≠ .defer c){w':World}(h:(execOp a.eval o).run P w=.ok .skip w')(hR:R (a.put o.dst undef) w'):o.wpIn (FR r) n P a w (λa' w'=>a'.defers=a.defers/\R a' w') Q:=by
 refine⟨λ_ _=>trivial,?_⟩;rw[Oper.semAt_eq _ _ _ zN,h,Oper.uponIn_skip];exact⟨put_defers _ _ _,hR⟩
theorem rQ(zN:∀c,o.op ≠ .defer c){f:FuncId}{args:Array Value}{w':World}(h:(execOp a.eval o).run P w = .ok (.enter f args) w')
    (hR:Calls P f args w' λe Ar=>∃v,e=.returned v/\R (a.put o.dst v) Ar):o.wpIn (FR r) n P a w (λa' w'=>a'.defers=a.defers/\R a' w') Q:=by
  refine⟨λ_ _=>trivial,?_⟩;rw[Oper.semAt_eq _ _ _ zN,h,Oper.uponIn_enter];refine⟨λh=>by simp[FR]at h,(KY hR).mono ?_⟩;rintro e Ar ⟨v,rfl,hv⟩;exact⟨put_defers _ _ _,hv⟩
end
section
variable{P:Program}{nt B:Nat}{w0:World}{h0:Fz}{g:Gh}{σ:St}{a:Act}{w:World}
theorem zez{v:Value}:rO g (PX v) v:=by
 unfold PX;split;split;rename_i l hl;exact⟨_,rfl,kY _ _ hl⟩;trivial;split;rename_i x hx;exact KU hx;trivial
theorem bW.ev(S:bW P nt B w0 h0 g σ a w)(x:Operand):rO g (fV σ.env x) (a.eval x):=by
 cases x with
 | tmp t =>
  simp only[fV];split;rename_i d hd;exact S.env t d hd;trivial
 | const v=>exact zez
 | global k=>trivial
 | func f=>exact Rep.fn f [] [] [] [] rfl rfl (λj x v h=>by simp at h) (λj x v h=>by simp at h)
theorem wU:∀{l:List Value}{cs:List Cl},jJ l=some cs→cs.flatMap bC=[]
  | [],cs,h=>by simp[jJ]at h;rw[h];rfl
  | v::r,cs,h=>by
    simp only[jJ]at h;split at h;rename_i x l hx hl;simp only[bV]at h;rw[<- h];simp[bC,wU hl];cases h
theorem zeA{v:Value}:cO (PX v)=[]:=by
 unfold PX;split;split;rename_i l hl;exact wU hl;rfl;split;rfl;rfl
theorem bW.evLab(S:bW P nt B w0 h0 g σ a w)(x:Operand):∀L∈cO (fV σ.env x),∃o,lk σ.ay L=some o:=by
 cases x with
 | tmp t =>
  simp only[fV];split;rename_i d hd;exact S.clE t d hd;intro L hL;simp[cO,dD,bC]at hL
 | const v=>intro L hL;rw[show fV σ.env (.const v)=PX v from rfl,zeA]at hL;simp at hL
 | global k=>intro L hL;simp[fV,DV.junk,cO,dD,bC]at hL
 | func f=>intro L hL;simp[fV,cO,dD,bC]at hL
theorem dQ{r:Option Nat}{n i:Nat}{o:Oper}{Q:Exit→Act→World→Prop}(S:bW P nt B w0 h0 g σ a w)(hd:dI nt o.dst=true)(zN:∀c,o.op ≠ .defer c)
    {d:DV} {v:Value} {fp:List (Nat×Bool)} {A:aH} (hA:oM A i o.dst σ (σ.upd i o.dst fp d [] []))
    (h:(execOp a.eval o).run P w=.ok (.value v) w) (hv:rO g d v) (hl:∀L∈cO d,∃o,lk σ.ay L=some o) :
    o.wpIn (FR r) n P a w (λa' w'=>a'.defers=a.defers/\∃g' σ',oM A i o.dst σ σ'/\bW P nt B w0 h0 g' σ' a' w') Q :=
  qp zN h ⟨g,_,hA,by rw[gu];exact S.put hd hv hl _⟩
theorem kU(v:PV):∀L∈cO (.p v),∃o,lk σ.ay L=some o:=λL hL=>by simp[cO,dD,bC]at hL
theorem KZ{t:TypeId}{ag:Bool}{m b off:Nat}{C:Array Value}{ty:TypeId}{fr:Nat×Nat}{cells:List Cl}{d:D1}(hg:jK P t=some ag)(hs:qI P t=some m)
    (hb:w.heap[b]? = some (.cells C ty fr)) (o:Nat) (hc:∀(j:Nat)(x:Cl),cells[j]? = some x->∃v,C[o+j]? = some v/\jw g x v) (hr:oD ag m cells off=some d) :
    ∃v,(loadVar t ⟨b,o+off,none⟩).run P w=.ok v w/\A7 g d v:=by
  cases ag with
  | true =>
    simp only[oD]at hr;split at hr;rename_i hlen;have hlen:=lH hlen;simp only[bV]at hr;subst hr;let l:=(cells.drop off).take m;have hll:l.length=m:=hlen;have key:∀(j:Nat)(x:Cl),l[j]? = some x->∃v,C[o+off+j]? = some v/\jw g x v:=by
      intro j x hj;have qH:cells[off+j]? = some x:=by
        have hjm:j<m:=by have:=(Bl.1 hj).1;omega
        simp only[l,Jn,eY hjm,qdl]at hj;exact hj
      obtain⟨v,hv,hx⟩:=hc (off+j) x qH;exact⟨v,by rw[qjt];exact hv,hx⟩
    let vs:=(List.range m).map λj=>C.getD (o+off+j) undef;have hvl:vs.length=m:=by simp[vs]
    have hvj:∀j,j<m->vs[j]? = some (C.getD (o+off+j) undef):=λj hj=>by simp[vs,hj]
    refine⟨.agg vs.toArray,Jd hg hs hb vs hvl ?_,vs,rfl,?_⟩;intro j v hj;have hjm:j<m:=by have:=(Bl.1 hj).1;omega
    rw[hvj j hjm]at hj;simp only[bV]at hj;obtain⟨u,hu,_⟩:=key j (l[j]'omY) (by simp[hll,hjm]);rw[<- hj,hu,yA,hu];rfl;refine RL.of_get (by rw [hvl];exact hll) ?_;intro j x v hx hv;obtain⟨u,hu,Zn⟩:=key j x hx;have hjm:j<m:=by have:=(Bl.1 hv).1;omega
    rw[hvj j hjm,yA,hu]at hv;simp at hv;rw[<- hv];exact Zn;cases hr
  | false =>
    simp only[oD]at hr;split at hr;rename_i x hx;simp only[bV]at hr;subst hr;obtain⟨v,hv,yz⟩:=hc off x hx;exact⟨v,yj hg hb v hv,yz⟩;cases hr
theorem La{ag:Bool}{m off:Nat}{cells:List Cl}{d:D1}(hr:oD ag m cells off=some d):∀L∈dD d,L∈cells.flatMap bC:=by
 cases ag with
 | true =>
  simp only[oD]at hr;split at hr;simp only [bV]at hr;subst hr;intro L hL;simp only[dD,lU]at hL ⊢;obtain⟨c,hc,hL⟩:=hL;exact⟨c,jq0 (jq1 hc),hL⟩;cases hr
 | false =>
  simp only[oD]at hr;split at hr;rename_i x hx;simp only[bV]at hr;subst hr;intro L hL;simp only[dD]at hL;exact lU.2 ⟨x,Ko hx,hL⟩;cases hr
theorem oN(cells:List PV):(cells.map Cl.p).flatMap bC=[]:=by
 induction cells with|nil=>rfl|cons c r ih=>simp[bC,ih]
theorem SH{h:Fz}{cells:List PV}{off:Nat}{v:Value}(r:Rep h (.fp cells off) v):∃b o C ty fr,v=.pointer (some ⟨b,o+off,none⟩)/\h b=some (.fz (.cells C ty fr)) /\
  ∀(j:Nat)(x:PV),cells[j]? = some x->∃v,C[o+j]? = some v/\Rep h x v:=by
 cases r with|fp _ _ b o C ty fr vs hb hc hr=>exact⟨b,o,C,ty,fr,rfl,hb,λj x hj=>⟨vs j,hc j x hj,hr j x hj⟩⟩
theorem vI{B L e s b len:Nat}{get:Nat→List PV}(hv:Dp P g w B L e s b len get){i:Nat}(hi:i<len) :
  ∃k C,(g.sv L).ownBlock=some k/\(∃cap,g.sv L=.slice (some ⟨k,0,none⟩) len cap)/\w.heap[k]? = some (.cells C e (0,0))/\i*s+s<=C.size/\(get i).length=s /\
   ∀(j:Nat)(x:PV),(get i)[j]? = some x->∃v,C[i*s+j]? = some v/\Rep g.h x v:=by
 obtain⟨hs,_,xs,hx,hr⟩:=hv;rcases hx.2 with⟨_,rfl⟩|⟨k,cap,cur,h1,hB,hg,hn,kR,jU,htk⟩
 exact absurd hi omY;have hle:i*s+s≤len*s:=by have:=RJ s (qdp hi);rw [Vr]at this;exact this
 have zuI:len*s<=cap*s:=RJ s hn;have hlen:(get i).length=s:=by
  rw[(hr i hi).length];simp only[qdB,Zx,hx.1];omega
 refine⟨k,cur,by rw[h1];rfl,⟨cap,h1⟩,hg,omY,hlen,?_⟩;intro j x hj;obtain⟨v,hv,yz⟩:=(hr i hi).get j x hj;refine⟨v,?_,yz⟩;have hjs:j<s:=by have:=(Bl.1 hj).1;rw[hlen]at this;exact this
 rw[Jn,eY hjs,qdl,<- htk,Jn]at hv;split at hv;simpa using hv;cases hv
theorem V7{B L te bb e s b n:Nat}{ln:Nat→Nat}{get:Nat→Nat→List PV}(hv:vvR P g w B L te bb e s b n ln get){i:Nat}(hi:i<n) :
  ∃k C cap,g.sv L=.slice (some ⟨k,0,none⟩) n cap/\w.heap[k]? = some (.cells C te (0,0))/\C[i]? = some (g.iv L i)/\(g.iv L i).oneCell'=true:=by
 obtain⟨_,_,_,h4,h5,_⟩:=hv;rcases h4.2 with⟨h1,h2⟩|⟨k,cap,cur,h1,hB,hg,hn,kR,jU,htk⟩
 omega;refine⟨k,cur,cap,h1,hg,?_,(h5 i hi).1⟩;have:(cur.toList.take (n*1))[i]? = ((List.range n).map (g.iv L))[i]?:=by rw[htk]
 rw[Jn,eY omY]at this;simpa [hi]using this
theorem V8{B L te bb e s b n o:Nat}{ln:Nat→Nat}{get:Nat→Nat→List PV}(hv:vtR P g w B L te bb e s b n ln get o){i:Nat}(hi:i<n) :
  ∃k C cap,g.sv L=.slice (some ⟨k,0,none⟩) n cap/\w.heap[k]? = some (.cells C te (0,0))/\C[i]? = some (g.iv L i):=by
 obtain⟨_,_,_,h4,_⟩:=hv;rcases h4.2 with⟨h1,h2⟩|⟨k,cap,cur,h1,hB,hg,hn,kR,jU,htk⟩
 omega;refine⟨k,cur,cap,h1,hg,?_⟩;have:(cur.toList.take (n*1))[i]? = ((List.range n).map (g.iv L))[i]?:=by rw[htk]
 rw[Jn,eY omY]at this;simpa [hi]using this
theorem SI{h:Fz}{len s:Nat}{get:Nat→List PV}{v:Value}(r:Rep h (.sl len s get) v){i:Nat}(hi:i<len) :
  ∃b o cap C ty fr,v=.slice (some ⟨b,o,none⟩) len cap/\h b=some (.fz (.cells C ty fr))/\(get i).length=s /\
   ∀(j:Nat)(x:PV),(get i)[j]? = some x->∃v,C[o+i*s+j]? = some v/\Rep h x v:=by
 cases r with|sl0=>exact absurd hi omY|sle=>exact absurd hi omY|sl _ _ _ _ b o cap C ty fr vs hb kR hlen hc hr=>exact⟨b,o,cap,C,ty,fr,rfl,hb,hlen i hi,λj x hj=>⟨vs i j,hc i j x hi hj,hr i j x hi hj⟩⟩
theorem Jw{h:Fz}{b o:Nat}{C:Array Value}{ty:TypeId}{fr:Nat×Nat}{l:List PV}(hb:h b=some (.fz (.cells C ty fr)))
    (hr:∀(j:Nat)(x:PV),l[j]? = some x->∃v,C[o+j]? = some v/\Rep h x v) (off:Nat):Rep h (.fp l off) (.pointer (some ⟨b,o+off,none⟩)) :=
  Rep.fp l off b o C ty fr (fun j => C.getD (o + j) undef) hb
    (λj x hj=>by obtain⟨v,hv,_⟩:=hr j x hj;rw[yA,hv];rfl)
    (λj x hj=>by obtain⟨v,hv,hx⟩:=hr j x hj;simpa [yA,hv]using hx)
end
end Go.Pm
namespace Go.Pm
variable [aC]
open Go.RowKit (Below)
section
variable{P:Program}{Γ:bK}{nt B:Nat}{w0:World}{h0:Fz}{g:Gh}{σ:St}{a:Act}{w:World}{r:Option Nat}{n i:Nat}{Q:Exit->Act->World->Prop}
def jD(P:Program)(nt B:Nat)(w0:World)(h0:Fz)(r:Option Nat)(n i:Nat)(o:Oper)(A:aH)(σ:St)(a:Act)(w:World)(Q:Exit->Act->World->Prop):Prop :=
 o.wpIn (FR r) n P a w (λa' w'=>a'.defers=a.defers/\∃g' σ',oM A i o.dst σ σ'/\bW P nt B w0 h0 g' σ' a' w') Q
theorem iY{x:Operand}{c:Cl}(S:bW P nt B w0 h0 g σ a w)(h:fV σ.env x=.one (.c c)):jw g c (a.eval x)/\∀L∈bC c,∃o,lk σ.ay L=some o:=by
 have h1:=S.ev x;have h2:=S.evLab x;rw[h]at h1 h2;exact⟨h1,h2⟩
theorem jM{x:Operand}{v:PV}(S:bW P nt B w0 h0 g σ a w)(h:fV σ.env x=.one (.c (.p v))):Rep g.h v (a.eval x):=(iY S h).1
theorem kN{x:Operand}{k:IntKind}{m:Int}(S:bW P nt B w0 h0 g σ a w)(h:fV σ.env x=.one (.c (.p (.int k m)))):a.eval x=.int k m:=by
 have:=jM S h;generalize a.eval x=v at this;cases this;rfl
theorem vJ{x:Operand}{m:Bool}(S:bW P nt B w0 h0 g σ a w)(h:fV σ.env x=.one (.c (.p (.bool m)))):a.eval x=.bool m:=by
 have:=jM S h;generalize a.eval x=v at this;cases this;rfl
theorem V9{o:Oper}{x:Operand}(S:bW P nt B w0 h0 g σ a w)(hd:dI nt o.dst=true)(aZ:o.op = .move x∨o.op = .assign x) :
  jD P nt B w0 h0 r n i o (.val [] (fV σ.env x) [] []) σ a w Q:=by
 refine dQ S hd (by rcases aZ with h|h<;>simp[h]) (d:=fV σ.env x) (v:=a.eval x) (fp:=[]) rfl ?_ (S.ev x) (S.evLab x);rcases aZ with h|h<;>simp[execOp,h]
theorem We{b:Bool}{x y:DV}{v u:Value}(h1:rO g x v)(h2:rO g y u):rO g (AZ b x y) (if b=true then v else u):=by
 unfold AZ;split;rename_i p q;have e1:v=.bool p:=by cases h1;rfl
 have e2:u=.bool q:=by cases h2;rfl
 subst e1 e2;cases b<;>exact Rep.bool _;cases b;simpa using h2;simpa using h1
theorem zeB{b:Bool}{x y:DV}:∀L∈cO (AZ b x y),L∈cO x\/L∈cO y:=by
 unfold AZ;split;intro L hL;simp[cO,dD,bC]at hL;intro L hL;cases b;exact .inr hL;exact .inl hL
theorem zhO{o:Oper}{c x y:Operand}(S:bW P nt B w0 h0 g σ a w)(hd:dI nt o.dst=true)(aZ:o.op = .pick c x y){t:Bool}(hc:fV σ.env c = .one (.c (.p (.bool t)))) :
  jD P nt B w0 h0 r n i o (.val [] (AZ t (fV σ.env x) (fV σ.env y)) [] []) σ a w Q:=by
 have hb:=vJ S hc;refine dQ S hd (by simp[aZ]) (d:=AZ t (fV σ.env x) (fV σ.env y)) (v:=if t=true then a.eval x else a.eval y) (fp:=[]) rfl ?_ (We (S.ev x) (S.ev y)) ?_;simp[execOp,aZ,asBool,hb];intro L hL;rcases zeB L hL with h|h
 exact S.evLab x L h;exact S.evLab y L h
theorem Lc(e:TypeId)(v:Value):(newVar e v).run P w=.ok ⟨w.heap.size,0,none⟩ (w.alloc (.cells v.cells e)):=by
 simp[newVar,newRow]
theorem zcb{o:Oper}{A:aH}{e:Nat}{cs:List Cl}{v:Value}(S:bW P nt B w0 h0 g σ a w)(hd:dI nt o.dst=true)(zN:∀c,o.op ≠ .defer c)
    (hA:FY (lk σ.ay) o.dst (.box e cs) (λt=>.cl (.ptr t 0))=A) (hs:A.safe)
    (dh:(execOp a.eval o).run P w=.ok (.value (.pointer (some ⟨w.heap.size,0,none⟩))) (w.alloc (.cells v.cells e)))
    (hv:RL (jw g) cs v.cells.toList) (hl:∀L∈cs.flatMap bC,∃o,lk σ.ay L=some o):jD P nt B w0 h0 r n i o A σ a w Q:=by
  unfold FY at hA;split at hA;rename_i t ht;split at hA;rename_i kQ;subst hA;have S':=S.newBox (ty:=e) kQ hv hl;refine qp zN dh ⟨g.setBk t w.heap.size,_,rfl,?_⟩;rw[gu];refine S'.put (σ:={σ with ay:=(t,AO.box e cs)::σ.ay}) hd (d:=.cl (.ptr t 0)) ?_ ?_ _;simp[rO,A7,jw,Gh.setBk];intro L hL;simp[cO,dD,bC]at hL;subst hL;exact⟨_,by rw[aX,eY rfl]⟩;subst hA;exact hs.elim;subst hA;exact hs.elim
theorem Wh{l:List Value}{cs:List Cl}(h:jJ l=some cs)(L:Nat)(hL:L∈cs.flatMap bC):False:=by
 rw[wU h]at hL;simp at hL
theorem zeC{o:Oper}{A:aH}{e:Nat}{z:List Cl}(S:bW P nt B w0 h0 g σ a w)(hd:dI nt o.dst=true)(aZ:o.op = .alloc e)(hz:iw P e=some z)
    (hA:FY (lk σ.ay) o.dst (.box e z) (λt=>.cl (.ptr t 0))=A) (hs:A.safe):jD P nt B w0 h0 r n i o A σ a w Q:=by
  obtain⟨ii,v,hi,Hz,hl,_⟩:=lZ hz;refine zcb S hd (by simp[aZ]) hA hs (v:=v) ?_ (kY _ _ hl) (λL hL=>(Wh hl L hL).elim);simp only[execOp,aZ,Instr.alloc,Sem.run_bind,lK hi Hz,Result.andThen_ok,Lc,Sem.run_pure]
theorem zoz{o:Oper}{A:aH}{e:Nat}{x:Operand}{d:D1}(S:bW P nt B w0 h0 g σ a w)(hd:dI nt o.dst=true)(aZ:o.op = .box e x)(hx:fV σ.env x = .one d)
    (gy:d.cells.all C9=true) (hA:FY (lk σ.ay) o.dst (.box e d.cells) (λt=>.cl (.ptr t 0))=A) (hs:A.safe):jD P nt B w0 h0 r n i o A σ a w Q:=by
  have h1:=S.ev x;have h2:=S.evLab x;rw[hx]at h1 h2;refine zcb S hd (by simp[aZ]) hA hs (v:=a.eval x) ?_ (vG h1 gy) ?_;simp only[execOp,aZ,Instr.box,Sem.run_bind,Lc,Result.andThen_ok,Sem.run_pure]
  · intro L hL;refine h2 L ?_;cases d with|c y=>simpa [D1.cells,cO,dD]using hL|agg cs=>simpa [D1.cells,cO,dD]using hL
theorem zeD{o:Oper}{t:Nat}{parts:Array (Nat×Operand)}{z l:List Cl}(S:bW P nt B w0 h0 g σ a w)(hd:dI nt o.dst=true)(aZ:o.op = .build t parts)
    (hf:yM P t=true) (hz:iw P t=some z) (hb:iV P t (fV σ.env) z parts.toList=some l) (hl:∀L∈l.flatMap bC,∃o,lk σ.ay L=some o) :
    jD P nt B w0 h0 r n i o (.val [] (.one (.agg l)) [] []) σ a w Q:=by
  obtain⟨v,dh,hv⟩:=run_build (P:=P) (w:=w) (g:=g) (ρ:=a.eval) (ev:=fV σ.env) (λx=>S.ev x) hf hz hb;refine dQ S hd (by simp[aZ]) (d:=.one (.agg l)) (v:=v) (fp:=[]) rfl ?_ hv hl;simp only[execOp,aZ,Sem.run_bind,dh,Result.andThen_ok,Sem.run_pure]
theorem zcc{cs l:List Cl}(off:Nat):∀L∈(spl cs off l).flatMap bC,L∈cs.flatMap bC\/L∈l.flatMap bC:=by
 induction l generalizing cs off with
 | nil=>intro L hL;exact .inl hL
 | cons x l ih =>
  intro L hL;rw[spl]at hL;rcases ih (off+1) L hL with h|h
  simp only [lU]at h;obtain⟨c,hc,hL2⟩:=h;rcases qdh hc with h|h
  exact .inl (lU.2 ⟨c,h,hL2⟩);subst h;exact .inr (by simp only[oC,dX];exact .inl hL2);exact .inr (by simp only[oC,dX];exact .inr h)
theorem Ld{ev:Operand->DV}{t:TypeId}:∀(parts:List (Nat×Operand))(z l:List Cl),iV P t ev z parts=some l ->
  ∀L∈l.flatMap bC,L∈z.flatMap bC\/∃x∈parts,L∈cO (ev x.2)
 | [],z,l,h=>by simp[iV]at h;subst h;exact λL hL=>.inl hL
 | (i,o)::r,z,l,h=>by
  simp only[iV]at h;cases he:ev o with
  | tup ds=>simp[he]at h
  | one d =>
   simp only[he]at h;have step:∀off,iV P t ev (spl z off d.cells) r=some l->∀L∈l.flatMap bC,L∈z.flatMap bC\/∃x∈(i,o)::r,L∈cO (ev x.2):=by
    intro off hb L hL;rcases Ld r _ l hb L hL with h|⟨x,hx,hL⟩
    rcases zcc off L h with h|h
    exact .inl h
    ·refine .inr ⟨(i,o),kX,?_⟩;simp only[he,cO];cases d with|c y=>simpa [D1.cells,dD]using h|agg cs=>simpa [D1.cells,dD]using h
    exact .inr ⟨x,jW _ hx,hL⟩
   split at h;split at h;split at h;split at h;exact step _ h;cases h;cases h;cases h;split at h;split at h;exact step _ h;cases h;cases h;cases h
theorem Qg{t:TypeId}{z:List Cl}(h:iw P t=some z):z.flatMap bC=[]:=by
 obtain⟨_,v,_,_,hl,_⟩:=lZ h;exact wU hl
theorem yX{o:Oper}{t:TypeId}{x:Operand}{A:aH}{fp:List (Nat×Bool)}{ag:Bool}{m b off o':Nat}{C:Array Value}{ty:TypeId}{fr:Nat×Nat}{cells:List Cl}{d:D1}
    (S:bW P nt B w0 h0 g σ a w) (hd:dI nt o.dst=true) (aZ:o.op=.load t x) (hA:oM A i o.dst σ (σ.upd i o.dst fp (.one d) [] [])) (hg:jK P t=some ag) (hs:qI P t=some m)
    (hx:a.eval x=.pointer (some ⟨b,o'+off,none⟩)) (hb:w.heap[b]? = some (.cells C ty fr))
    (hc:∀(j:Nat)(x:Cl),cells[j]? = some x->∃v,C[o'+j]? = some v/\jw g x v) (hr:oD ag m cells off=some d)
    (hl:∀L∈cells.flatMap bC,∃o,lk σ.ay L=some o):jD P nt B w0 h0 r n i o A σ a w Q:=by
  obtain⟨v,dh,hv⟩:=KZ hg hs hb o' hc hr;refine dQ S hd (by simp[aZ]) (d:=.one d) (v:=v) (fp:=fp) hA ?_ hv (λL hL=>hl L (La hr L hL));simp only[execOp,aZ,Sem.run_bind,Instr.loadAt,hx,Instr.sureAddr,Sem.run_pure,Result.andThen_ok,dh]
theorem zhP{o:Oper}{t:TypeId}{x:Operand}{A:aH}(S:bW P nt B w0 h0 g σ a w)(hd:dI nt o.dst=true)(aZ:o.op = .load t x)
    (hA:act P Γ o (fV σ.env) (lk σ.ay)=A) (hs:A.safe):jD P nt B w0 h0 r n i o A σ a w Q:=by
  simp only[act,aLd,aZ]at hA;split at hA;rename_i ag m hg jU;split at hA;rename_i L off hx;have yK:=(iY S hx).1;simp only[jw]at yK;split at hA;rename_i ty cells hL;obtain⟨C,hC,hr⟩:=S.obj L _ hL;split at hA;rename_i d hrd;subst hA;refine yX (o':=0) S hd aZ rfl hg jU (by rw[yK,O3]) hC (λj y hj=>?_) hrd (S.clO L _ hL);obtain⟨v,hv,RD⟩:=hr.get j y hj;exact⟨v,by simpa using hv,RD⟩;subst hA;exact hs.elim;rename_i cells hL;obtain⟨C,ty,fr,hC,hr⟩:=S.obj L _ hL;split at hA;rename_i d hrd;subst hA;refine yX (o':=0) S hd aZ rfl hg jU (by rw[yK,O3]) (S.hw.fz hC) (λj y hj=>?_) hrd (by rw[oN];intro L hL;simp at hL);simp only[qdd]at hj;obtain⟨p,hp,rfl⟩:=Zw.1 hj;obtain⟨v,hv,RD⟩:=hr.get j p hp;exact⟨v,by simpa using hv,RD⟩;subst hA;exact hs.elim;subst hA;exact hs.elim;rename_i cells off hx;obtain⟨b,o',C,ty,fr,hv,hb,hc⟩:=SH (jM S hx);split at hA;rename_i d hrd;subst hA;refine yX S hd aZ rfl hg jU hv (S.hw.fz hb) (λj y hj=>?_) hrd (by rw[oN];intro L hL;simp at hL);simp only[qdd]at hj;obtain⟨p,hp,rfl⟩:=Zw.1 hj;exact hc j p hp;subst hA;exact hs.elim;rename_i L s ii k hx;obtain⟨b,hb,yK⟩:=(iY S hx).1;split at hA;rename_i e s' PN len get hL;split at hA;rename_i d PM hrd;subst hA;have iM:ii<len:=hs;have PM:=lH PM;subst PM;obtain⟨b',C,cZ,_,hC,_,hlen,H5⟩:=vI (S.obj L _ hL) iM;rw[hb]at cZ;simp only[bV]at cZ;subst cZ;refine yX (o':=ii*s) S hd aZ (A:=.chk _ _ _ _ _) rfl hg jU yK hC (λj y hj=>?_) hrd (by rw[oN];intro L hL;simp at hL);simp only[qdd]at hj;obtain⟨p,hp,rfl⟩:=Zw.1 hj;exact H5 j p hp;subst hA;exact hs.elim;rename_i s' len get hL;split at hA;rename_i d PM hrd;subst hA;have iM:ii<len:=hs;have PM:=lH PM;subst PM;obtain⟨b',o',cap,C,ty,fr,mG,hC,hlen,H5⟩:=SI (S.obj L _ hL).1 iM;have h00:o'=0:=(S.obj L _ hL).2 _ _ _ mG;rw[mG]at hb;simp only[Value.ownBlock,bV]at hb;subst hb;subst h00;refine yX (o':=ii*s) S hd aZ (A:=.chk _ _ _ _ _) rfl hg jU yK (S.hw.fz hC) (λj y hj=>?_) hrd (by rw[oN];intro L hL;simp at hL);simp only[qdd]at hj;obtain⟨p,hp,rfl⟩:=Zw.1 hj;have:=H5 j p hp;rwa[O3]at this;subst hA;exact hs.elim;split at hA;rename_i PM;simp only[gq]at PM;have hs1:=lH PM.1;have hk0:=lH PM.2;subst hs1 hk0;split at hA;rename_i dst Hy;split at hA;rename_i te bb e s' b2 len ln get iF hL;subst hA;have iM:ii<len:=hs;obtain⟨b',C,cap,mG,hC,ou,mf⟩:=V7 (S.obj L _ hL) iM;rw[mG]at hb;simp only[Value.ownBlock,bV]at hb;subst hb;have jk:L≠dst:=by rintro rfl;rw[iF]at hL;cases hL
  obtain⟨iU,hi1,hi2,znp,H5,Jl⟩:=S.obj L _ hL;obtain⟨r1,_,xs,r3,r4⟩:=H5 ii iM
  have S1 := S.write (o' := .vt te bb e s' b2 len ln get ii) hL (fun k hk => hk.imp id fun ⟨i, h1, _, h2⟩ => ⟨i, h1, h2⟩) (.refl _ _) (fun _ _ => rfl)
    ⟨iU,hi1,hi2,znp,r1,(λk (hk:g.iv L ii=.map (some k))=>by rcases r3.2 with⟨h1,_⟩|⟨_,_,_,h1,_⟩<;>rw[h1]at hk<;>cases hk),λi hi _=>H5 i hi,λi k hi _ hk=>⟨(Jl i k hi hk).1,λj hj _ jR=>(Jl i k hi hk).2 j hj jR⟩⟩ (λM hM=>by simp[dW]at hM)
  have S2:=S1.adopt (t:=dst) (e:=e) (s:=s') (b:=b2) (n:=ln ii) (get:=get ii) (v:=g.iv L ii) (by rw[aX,fH jk];exact iF) (λk hk=>by
    have gy:=S.own L _ k hL (.inr ⟨ii,iM,hk⟩);refine⟨gy.1,gy.2,λX o ho hX=>?_⟩;rw[aX]at ho;split at ho;rename_i e1;simp only[bV]at ho;subst ho e1;rcases hX with hX|⟨i,h1,h2,h3⟩
    exact(Jl ii k iM hk).1 hX;exact h2 ((Jl ii k iM hk).2 i h1 h3).symm;rename_i e1;exact e1 (S.sep L _ k X o hL ho (.inr ⟨ii,iM,hk⟩) hX))
    ⟨⟨λk l=>iU.1 ii k ii l,iU.2⟩,hi2,xs,by simpa [Gh.setSv]using r3,r4⟩
  refine qp (by simp[aZ]) (v:=g.iv L ii) (w':=w) ?_ ⟨g.setSv dst (g.iv L ii),_,rfl,?_⟩;have:=yj (P:=P) (o:=ii*1+0) hg hC (g.iv L ii) (by simpa using ou);simp only[execOp,aZ,Sem.run_bind,Instr.loadAt,yK,Instr.sureAddr,Sem.run_pure,Result.andThen_ok,this];rw [gu];exact S2.put hd (d:=.cl (.vec dst)) ⟨by simp[Gh.setSv],r1⟩ (λM hM=>by simp[cO,dD,bC]at hM;subst hM;exact⟨_,by rw[aX,eY rfl]⟩) _;subst hA;exact hs.elim;subst hA;exact hs.elim;subst hA;exact hs.elim;subst hA;exact hs.elim;subst hA;exact hs.elim;subst hA;exact hs.elim
end
end Go.Pm
namespace Go.Pm
variable [aC]
open Go.RowKit (Below)
open Go.MapKept (IsKey findNow_spec run_checkKey)
section
variable{P:Program}{Γ:bK}{nt B:Nat}{w0:World}{h0:Fz}{g:Gh}{σ:St}{a:Act}{w:World}{r:Option Nat}{n i:Nat}{Q:Exit->Act->World->Prop}
theorem Du{t:TypeId}{ag:Bool}{m off:Nat}{cells:List Cl}{vs:List Value}{d:D1}(hg:jK P t=some ag)(hs:qI P t=some m)(hr:oD ag m cells off=some d)(hc:RL (jw g) cells vs) :
  ∃v,(part t vs.toArray off).run P w=.ok v w/\A7 g d v:=by
 cases ag with
 | true =>
  simp only[oD]at hr;split at hr;simp only [bV]at hr;subst hr;refine⟨.agg (vs.toArray.extract off (off+m)),?_,(vs.drop off).take m,?_,(hc.drop off).take m⟩;simp only[part,Sem.run_bind,oK hg,Result.andThen_ok,PW,run_sizeOf hs,Sem.run_pure];simp[jq2,jqz];cases hr
 | false =>
  simp only[oD]at hr;split at hr;rename_i x hx;simp only[bV]at hr;subst hr;obtain⟨v,hv,yz⟩:=hc.get off x hx;refine⟨v,?_,yz⟩;simp only[part,Sem.run_bind,oK hg,Result.andThen_ok,qdw,qd8];rw[show vs.toArray[off]? = some v by simpa using hv];simp;cases hr
theorem zcd:∀(d:Nat)(t:TypeId)(x y:D1)(r:Bool),eqT P d t x y=some r→∀(e:Nat)(v u:Value),A7 g x v→A7 g y u→(Op.equalIn (d+e) t v u).run P w = .ok r w
  | 0,t,x,y,r,h=>by simp[eqT]at h
  | d+1,t,x,y,r,h=>by
    intro e v u hv hu;have he:d+1+e=(d+e)+1:=by omega
    rw[he];simp only[eqT]at h;split at h;rename_i hut;split at h;simp only [bV]at h;subst h;cases hv;cases hu;exact run_equalIn_bool' w _ _ _ _ hut;cases h;rename_i q hut;split at h;split at h;rename_i hk;simp only[bV]at h;subst h;subst hk;cases hv;cases hu;exact run_equalIn_int w _ _ _ _ _ _ hut;cases h;cases h
    · rename_i fs hut;split at h
      · rename_i xs ys FT;obtain⟨vs,rfl,jS⟩:=hv;obtain⟨us,rfl,OT⟩:=hu;have hf:P.fieldsOf t=fs:=by simp[Program.fieldsOf,hut]
        rw[run_equalIn_struct w (d+e) t _ _ (by rw[hf];exact hut) FT,hf];have key:∀(l:List Field)(r:Bool),l.foldr (λf acc =>
            match acc, f.name != "_", jK P f.type, qI P f.type with
            | some r,true,some ag,some n=>match oD ag n xs f.offset,oD ag n ys f.offset with
              | some a,some b=>match eqT P d f.type a b with
                | some e=>some (match e with|true=>r|false=>false)
                | none=>none
              | _,_=>none
            | _,_,_,_=>none) (some true)=some r->(Op.eqFields (d+e) vs.toArray us.toArray l).run P w=.ok r w:=by
          intro l
          induction l with
          | nil=>intro r h;simp only[List.foldr_nil,bV]at h;subst h;simp[Op.eqFields]
          | cons f l ih =>
            intro r h;rw[List.foldr_cons]at h;split at h
            · rename_i r' ag m z07 zOa uT jU;split at h
              · rename_i a' b' ha' mJ;split at h
                · rename_i e' he';simp only[bV] at h;obtain⟨va,hva,hra⟩:=Du (w:=w) uT jU ha' jS;obtain⟨vb,hvb,hrb⟩:=Du (w:=w) uT jU mJ OT;have hq:=zcd d f.type a' b' e' he' e va vb hra hrb
                  have hn : f.name ≠ "_" := by simpa using zOa
                  simp only[Op.eqFields,eY hn,Sem.run_bind,hva,hvb,hq,Result.andThen_ok];cases e' with|true=>simp only at h;subst h;simpa using ih r' z07|false=>simp only at h;subst h;simp
                cases h
              cases h
            cases h
        exact key fs.toList r h
      cases h
    cases h
theorem zyn{o:Oper}{op:BinOp}{t t':TypeId}{x y:Operand}{cs ds:List Cl}{A:aH}(S:bW P nt B w0 h0 g σ a w)(hd:dI nt o.dst=true)(aZ:o.op = .binOp op t x y t')
    (hx:fV σ.env x=.one (.agg cs)) (hy:fV σ.env y=.one (.agg ds)) (hA:zb2 P op t cs ds=A) (hs:A.safe):jD P nt B w0 h0 r n i o A σ a w Q:=by
  have h1:=S.ev x;have h2:=S.ev y;rw[hx]at h1;rw[hy]at h2;obtain⟨vs,hv,_⟩:=id h1;obtain⟨us,hu,_⟩:=id h2;unfold zb2 at hA;split at hA;rename_i q hgd hq;have dh:=zcd (w:=w) 8 t (.agg cs) (.agg ds) q hq 9992 _ _ h1 h2;rw[hv,hu]at dh;split at hA;subst hA;refine dQ S hd (by simp[aZ]) (d:=.bool q) (v:=.bool q) (fp:=[]) rfl ?_ (.bool q) (kU _);simp only[execOp,aZ,hv,hu,Sem.run_bind,run_eqGuard_agg w _ _ _ _ _ _ hgd,Result.andThen_ok,run_eql_struct];rw[dh];rfl;subst hA;refine dQ S hd (by simp[aZ]) (d:=.bool (!q)) (v:=.bool (!q)) (fp:=[]) rfl ?_ (.bool (!q)) (kU _);simp only[execOp,aZ,hv,hu,Sem.run_bind,run_eqGuard_agg w _ _ _ _ _ _ hgd,Result.andThen_ok,run_neq_struct];rw[dh];rfl;subst hA;exact hs.elim;subst hA;exact hs.elim
theorem zeE{o:Oper}{t:TypeId}{x y:Operand}{A:aH}(S:bW P nt B w0 h0 g σ a w)(hd:dI nt o.dst=true)(aZ:o.op = .index t x y)
    (hA:act P Γ o (fV σ.env) (lk σ.ay)=A) (hs:A.safe):jD P nt B w0 h0 r n i o A σ a w Q:=by
  simp only[act,aZ,Ku]at hA;split at hA;rename_i m e hu;split at hA;rename_i sz ag cs k j jU uT hx hy;split at hA;rename_i d iM hr;subst hA;have h1:=S.ev x;rw[hx]at h1;obtain⟨vs,hv,jS⟩:=h1;have hj:=kN S hy;obtain⟨v,dh,hdv⟩:=Du (w:=w) uT jU hr jS;have zuV:j<m:=by simpa [qjf]using iM
  refine dQ S hd (by simp[aZ]) (d:=.one d) (v:=v) (fp:=[]) rfl ?_ hdv (λL hL=>?_);simp only [execOp,aZ,hv,hj,Instr.index,asIntOf,Sem.run_bind,Sem.run_pure,Result.andThen_ok,run_underlying hu];rw[eY ⟨by simp,by simpa using zuV⟩];simp only[Sem.run_bind,run_sizeOf jU,Result.andThen_ok];rw[show(Int.ofNat j).toNat=j from rfl,dh];rfl;refine S.evLab x L ?_;rw[hx];exact La hr L hL;subst hA;exact hs.elim;subst hA;exact hs.elim;subst hA;exact hs.elim
theorem zeF{o:Oper}{t:TypeId}{x:Operand}{f:Nat}{A:aH}(S:bW P nt B w0 h0 g σ a w)(hd:dI nt o.dst=true)(aZ:o.op = .field t x f)
    (hA:act P Γ o (fV σ.env) (lk σ.ay)=A) (hs:A.safe):jD P nt B w0 h0 r n i o A σ a w Q:=by
  simp only[act,aZ,Kv]at hA;split at hA;rename_i fs hu;split at hA;rename_i fd hfd;split at hA;rename_i m ag cs jU uT hx;split at hA;rename_i d hr;subst hA;have h1:=S.ev x;rw[hx]at h1;obtain⟨vs,hv,jS⟩:=h1;obtain⟨v,dh,hdv⟩:=Du (w:=w) uT jU hr jS;refine dQ S hd (by simp[aZ]) (d:=.one d) (v:=v) (fp:=[]) rfl ?_ hdv (λL hL=>?_);simp only [execOp,aZ,hv,Instr.field,asAgg,Sem.run_bind,Sem.run_pure,Result.andThen_ok,run_underlying hu,hfd];rw[dh];rfl;refine S.evLab x L ?_;rw[hx];exact La hr L hL;subst hA;exact hs.elim;subst hA;exact hs.elim;subst hA;exact hs.elim;subst hA;exact hs.elim
theorem SK{o:Oper}{t e:TypeId}{m:Nat}{x y:Operand}{A:aH}(S:bW P nt B w0 h0 g σ a w)(hd:dI nt o.dst=true)(aZ:o.op = .indexAddr t x y)(hu:P.underlying t=some (.array m e))
    (hA:Dh P m e (fV σ.env x) (fV σ.env y)=A) (hs:A.safe):jD P nt B w0 h0 r n i o A σ a w Q:=by
  unfold Dh at hA;split at hA;rename_i sz k j jU hy;split at hA;rename_i iM;have hj:=kN S hy;have zuV:j<m:=by simpa [qjf]using iM
  have run:∀b o':Nat,a.eval x=.pointer (some ⟨b,o',none⟩)->(execOp a.eval o).run P w=.ok (.value (.pointer (some ⟨b,o'+j*sz,none⟩))) w:=by
    intro b o' hv;simp only[execOp,aZ,hv,hj,Instr.indexAt,asIntOf,Sem.run_bind,Sem.run_pure,Result.andThen_ok,run_underlying hu,Instr.sureAddr];rw[eY ⟨by simp,by simpa using zuV⟩];simp only[Sem.run_bind,run_sizeOf jU,Result.andThen_ok,addr_add,Sem.run_pure];rfl
  split at hA;rename_i L off hx;subst hA;obtain⟨h1,h2⟩:=iY S hx;exact dQ S hd (by simp[aZ]) (d:=.cl (.ptr L (off+j*sz))) (fp:=[]) rfl (run _ _ h1) rfl h2;rename_i c off hx;subst hA;obtain⟨b,o',C,ty,fr,hv,hb,hc⟩:=SH (jM S hx);have:=run b (o'+off) hv;rw[qjt]at this;exact dQ S hd (by simp[aZ]) (d:=.p (.fp c (off+j*sz))) (fp:=[]) rfl this (Jw hb hc _) (kU _);subst hA;exact hs.elim;subst hA;exact hs.elim;subst hA;exact hs.elim
theorem zce(j:Int):IsKey (.int .i64) (.int .i64 j):=by simp[IsKey]
theorem zcf:∀{cs:List Cl}{l:List Int}{vs:List Value},Kt cs=some l→RL (jw g) cs vs→vs=l.map (Value.int .i64)
  | [],l,[],h,_=>by simp[Kt]at h;subst h;rfl
  | [],_,_::_,_,hr=>hr.elim
  | _::_,_,[],_,hr=>hr.elim
  | c::cs,l,v::vs,h,hr=>by
    cases c with
    | p x =>
      cases x with
      | int k a' =>
        cases k<;>simp only[Kt]at h<;>try cases h
        split at h;rename_i l' Aq;simp only[bV]at h;subst h;have h1:=hr.1;cases h1;rw[zcf Aq hr.2];rfl;cases h
      | _=>simp[Kt]at h
    | _=>simp[Kt]at h
end
end Go.Pm
namespace Go.Pm
variable [aC]
open Go.RowKit (Below)
section
variable{P:Program}{Γ:bK}{nt B:Nat}{w0:World}{h0:Fz}{g:Gh}{σ:St}{a:Act}{w:World}{r:Option Nat}{n i:Nat}{Q:Exit->Act->World->Prop}
theorem SL{o:Oper}{x:Operand}{A:aH}(S:bW P nt B w0 h0 g σ a w)(hd:dI nt o.dst=true)(aZ:o.op = .nilCheck x)
    (hA:act P Γ o (fV σ.env) (lk σ.ay)=A) (hs:A.safe):jD P nt B w0 h0 r n i o A σ a w Q:=by
  simp only[act,aNc,aZ]at hA;split at hA;rename_i L off hx;subst hA;obtain⟨h1,h2⟩:=iY S hx;refine dQ S hd (by simp[aZ]) (v:=a.eval x) (fp:=[]) rfl ?_ h1 h2;simp only[jw]at h1;simp[execOp,aZ,h1];rename_i c off hx;subst hA;obtain⟨h1,h2⟩:=iY S hx;refine dQ S hd (by simp[aZ]) (v:=a.eval x) (fp:=[]) rfl ?_ h1 h2;obtain⟨b,o',C,ty,fr,hv,_⟩:=SH h1;simp[execOp,aZ,hv];rename_i L s ii k hx;subst hA;obtain⟨h1,h2⟩:=iY S hx;refine dQ S hd (by simp[aZ]) (v:=a.eval x) (fp:=[]) rfl ?_ h1 h2;obtain⟨b,_,hv⟩:=h1;simp[execOp,aZ,hv];subst hA;exact hs.elim
theorem yt{op:BinOp}{t:TypeId}{x y:Operand}{k k':IntKind}{p q:Int}:(eqGuard op t x y (.int k p) (.int k' q)).run P w=.ok () w:=by
 unfold eqGuard;cases op<;>rfl
theorem vK{op:BinOp}{t:TypeId}{x y:Operand}{p q:Bool}:(eqGuard op t x y (.bool p) (.bool q)).run P w=.ok () w:=by
 unfold eqGuard;cases op<;>rfl
theorem zeG{o:Oper}{op:BinOp}{t t':TypeId}{x y:Operand}{A:aH}(S:bW P nt B w0 h0 g σ a w)(hd:dI nt o.dst=true)(aZ:o.op = .binOp op t x y t')
    (hA:act P Γ o (fV σ.env) (lk σ.ay)=A) (hs:A.safe):jD P nt B w0 h0 r n i o A σ a w Q:=by
  simp only[act,aBn,aZ]at hA;split at hA;rename_i k p k' q hx hy;have h1:=kN S hx;have h2:=kN S hy;split at hA;rename_i hk;subst hk;have fin:∀(v:PV)(u:Value)(A:aH),oM A i o.dst σ (σ.upd i o.dst [] (.p v) [] [])->(binOp op t (.int k p) (.int k q)).run P w=.ok u w->Rep g.h v u->jD P nt B w0 h0 r n i o A σ a w Q:=by
    intro v u A hA dh hr;refine dQ S hd (by simp[aZ]) (d:=.p v) (v:=u) (fp:=[]) hA ?_ hr (kU v);simp only[execOp,aZ,h1,h2,Sem.run_bind,yt,Result.andThen_ok,dh,Sem.run_pure]
  unfold VL at hA;split at hA<;>subst hA;have hq:0≤q:=hs;exact fin _ _ (.chk _ _ _ _ _) rfl (by simp[binOp,Op.shift,jqD.2 hq,zoj]) (.int _ _);have hq:0≤q:=hs;exact fin _ _ (.chk _ _ _ _ _) rfl (by simp[binOp,Op.shift,jqD.2 hq,I9]) (.int _ _);exact fin _ _ _ rfl (by simp[binOp,Op.intBits,zGH]) (.int _ _);exact fin _ _ _ rfl (by simp[binOp,Op.intBits,orW]) (.int _ _);exact fin _ _ _ rfl (by simp[binOp,Op.intBits,zGI]) (.int _ _);exact fin _ _ _ rfl (by simp[binOp,Op.intBits,zb1]) (.int _ _);exact fin _ _ _ rfl (by simp[binOp,Op.intArith]) (.int _ _);exact fin _ _ _ rfl (by simp[binOp,Op.intArith]) (.int _ _);exact fin _ _ _ rfl (by simp[binOp,Op.intArith]) (.int _ _);have hq:q≠0:=hs;exact fin _ _ (.chk _ _ _ _ _) rfl (by simp[binOp,Op.intDiv,hq]) (.int _ _);have hq:q≠0:=hs;exact fin _ _ (.chk _ _ _ _ _) rfl (by simp[binOp,Op.intDiv,hq]) (.int _ _);exact fin _ _ _ rfl (by simp[binOp,Op.intCmp]) (.bool _);exact fin _ _ _ rfl (by simp[binOp,Op.intCmp]) (.bool _);exact fin _ _ _ rfl (by simp[binOp,Op.intCmp]) (.bool _);exact fin _ _ _ rfl (by simp[binOp,Op.intCmp]) (.bool _);exact fin _ _ _ rfl (by simp[binOp,Op.intCmp]) (.bool _);exact fin _ _ _ rfl (by simp[binOp,Op.intCmp]) (.bool _);have fin:∀(v:PV)(u:Value)(A:aH),oM A i o.dst σ (σ.upd i o.dst [] (.p v) [] [])->(binOp op t (.int k p) (.int k' q)).run P w=.ok u w->Rep g.h v u->jD P nt B w0 h0 r n i o A σ a w Q:=by
    intro v u A hA dh hr;refine dQ S hd (by simp[aZ]) (d:=.p v) (v:=u) (fp:=[]) hA ?_ hr (kU v);simp only[execOp,aZ,h1,h2,Sem.run_bind,yt,Result.andThen_ok,dh,Sem.run_pure]
  unfold zhA at hA;split at hA<;>subst hA;have hq:0≤q:=hs;exact fin _ _ (.chk _ _ _ _ _) rfl (by simp[binOp,Op.shift,jqD.2 hq,zoj]) (.int _ _);have hq:0≤q:=hs;exact fin _ _ (.chk _ _ _ _ _) rfl (by simp[binOp,Op.shift,jqD.2 hq,I9]) (.int _ _);exact hs.elim;rename_i p q hx hy;have h1:=vJ S hx;have h2:=vJ S hy;have dh:P.underlying t=some .bool->(Op.equal t (.bool p) (.bool q)).run P w=.ok (p==q) w:=by
    intro ht;unfold Op.equal;rw[show Op.maxDepth=9999+1 from rfl,Op.equalIn];simp only[Sem.run_bind,run_underlying ht,Result.andThen_ok,Sem.run_pure]
  split at hA<;>(try rename_i ht _)<;>subst hA;refine dQ S hd (by simp [aZ]) (d := .bool (p==q)) (v := .bool (p==q)) (fp:=[]) rfl ?_ (.bool _) (kU _);simp only[execOp,aZ,h1,h2,Sem.run_bind,vK,Result.andThen_ok,binOp,dh ‹_›,Sem.run_pure];refine dQ S hd (by simp [aZ]) (d := .bool (p != q)) (v := .bool (p != q)) (fp:=[]) rfl ?_ (.bool _) (kU _);simp only[execOp,aZ,h1,h2,Sem.run_bind,vK,Result.andThen_ok,binOp,dh ‹_›,Sem.run_pure];rfl;exact hs.elim;rename_i cs ds hx hy;exact zyn S hd aZ hx hy hA hs;subst hA;exact hs.elim
theorem zhQ{o:Oper}{op:UnOp}{t:TypeId}{x:Operand}{A:aH}(S:bW P nt B w0 h0 g σ a w)(hd:dI nt o.dst=true)(aZ:o.op = .unOp op t x)
    (hA:act P Γ o (fV σ.env) (lk σ.ay)=A) (hs:A.safe):jD P nt B w0 h0 r n i o A σ a w Q:=by
  simp only[act,aUn,aZ]at hA;split at hA;rename_i p hx;subst hA;have h1:=vJ S hx;refine dQ S hd (by simp[aZ]) (d:=.bool (!p)) (v:=.bool (!p)) (fp:=[]) rfl ?_ (.bool _) (kU _);simp[execOp,aZ,h1,Op.unary];rename_i k p hx;subst hA;have h1:=kN S hx;refine dQ S hd (by simp[aZ]) (d:=.p (.int k (k.wrap (0-p)))) (v:=.int k (k.wrap (0-p))) (fp:=[]) rfl ?_ (.int _ _) (kU _);simp only[execOp,aZ,h1,Op.unary,Op.intArith,Sem.run_bind,Sem.run_pure,Result.andThen_ok];subst hA;exact hs.elim
theorem Wi{o:Oper}{t1 t2:TypeId}{x:Operand}{A:aH}(S:bW P nt B w0 h0 g σ a w)(hd:dI nt o.dst=true)(aZ:o.op = .convert t1 t2 x)
    (hA:act P Γ o (fV σ.env) (lk σ.ay)=A) (hs:A.safe):jD P nt B w0 h0 r n i o A σ a w Q:=by
  simp only[act,aCv,aZ]at hA;split at hA;rename_i u1 k k' m h1 h2 hx;subst hA;have hv:=kN S hx;refine dQ S hd (by simp[aZ]) (d:=.p (.int k (k.wrap m))) (v:=.int k (k.wrap m)) (fp:=[]) rfl ?_ (.int _ _) (kU _);simp only[execOp,aZ,hv,convert,Sem.run_bind,run_underlying h1,run_underlying h2,Result.andThen_ok,Conv.intToInt,Sem.run_pure];subst hA;exact hs.elim
theorem O8{o:Oper}{t:TypeId}{x:Operand}{f:Nat}{A:aH}(S:bW P nt B w0 h0 g σ a w)(hd:dI nt o.dst=true)(aZ:o.op = .fieldAddr t x f)
    (hA:act P Γ o (fV σ.env) (lk σ.ay)=A) (hs:A.safe):jD P nt B w0 h0 r n i o A σ a w Q:=by
  simp only[act,aFa,aZ]at hA;split at hA;rename_i off z0A
  have fin:∀(b o':Nat)(c:Cl)(A:aH),a.eval x=.pointer (some ⟨b,o',none⟩)->oM A i o.dst σ (σ.upd i o.dst [] (.cl c) [] [])->jw g c (.pointer (some ⟨b,o'+off,none⟩)) ->
      (∀L∈bC c,∃o,lk σ.ay L=some o)->jD P nt B w0 h0 r n i o A σ a w Q:=by
    intro b o' c A hv hA hc hl;refine dQ S hd (by simp[aZ]) (d:=.cl c) (v:=.pointer (some ⟨b,o'+off,none⟩)) (fp:=[]) hA ?_ hc hl;simp only[execOp,aZ,Sem.run_bind,hv,VV z0A,Result.andThen_ok,Sem.run_pure]
  split at hA;rename_i L k hx;subst hA;obtain⟨h1,h2⟩:=iY S hx;exact fin _ _ _ _ h1 rfl rfl h2;rename_i c k hx;subst hA;obtain⟨h1,h2⟩:=iY S hx;obtain⟨b,o',C,ty,fr,hv,hb,hc⟩:=SH h1;refine fin b (o'+k) _ _ hv rfl ?_ h2;rw[qjt];exact Jw hb hc (k+off);rename_i L s ii k hx;subst hA;obtain⟨h1,h2⟩:=iY S hx;obtain⟨b,hb,hv⟩:=h1;refine fin b (ii*s+k) _ _ hv rfl ⟨b,hb,?_⟩ h2;rw[qjt];subst hA;exact hs.elim;subst hA;exact hs.elim
theorem O9{o:Oper}{t:TypeId}{x y:Operand}{A:aH}(S:bW P nt B w0 h0 g σ a w)(hd:dI nt o.dst=true)(aZ:o.op = .indexAddr t x y)
    (hA:act P Γ o (fV σ.env) (lk σ.ay)=A) (hs:A.safe):jD P nt B w0 h0 r n i o A σ a w Q:=by
  simp only[act,aIa,aZ]at hA;split at hA;rename_i e hu;split at hA;rename_i m k j jU hy;have hj:=kN S hy;split at hA;rename_i len s get hx;split at hA;rename_i VB;subst VB;subst hA;have qi:0<=j/\j<(len:Int):=hs;have iM:j.toNat<len:=by omega
  obtain⟨b,o',cap,C,ty,fr,hv,hb,hlen,H5⟩:=SI (jM S hx) iM;refine dQ S hd (by simp[aZ]) (d:=.p (.fp (get j.toNat) 0)) (v:=.pointer (some ⟨b,o'+j.toNat*s,none⟩)) (fp:=[]) (A:=.chk _ _ _ _ _) rfl ?_ ?_ (kU _);simp only[execOp,aZ,Sem.run_bind,hv,hj,run_indexAt_slice hu jU qi.1 qi.2,Result.andThen_ok,Sem.run_pure];exact Jw hb H5 0;subst hA;exact hs.elim;rename_i L hx;obtain⟨h1,h2⟩:=iY S hx;split at hA;rename_i e' s PN len get hL;split at hA;rename_i VB;subst VB;subst hA;have qi:0<=j/\j<(len:Int):=hs;have iM:j.toNat<len:=by omega
  obtain⟨b,C,cZ,⟨cap,mG⟩,hC,_,hlen,H5⟩:=vI (S.obj L _ hL) iM;refine dQ S hd (by simp[aZ]) (d:=.cl (.vptr L s j.toNat 0)) (v:=.pointer (some ⟨b,0+j.toNat*s,none⟩)) (fp:=_) (A:=.chk _ _ _ _ _) rfl ?_ ?_ h2;simp only[execOp,aZ,Sem.run_bind,h1.1,mG,hj,run_indexAt_slice hu jU qi.1 qi.2,Result.andThen_ok,Sem.run_pure];refine⟨b,cZ,?_⟩;simp;subst hA;exact hs.elim;rename_i s len get hL;split at hA;rename_i VB;subst VB;subst hA;have qi:0<=j/\j<(len:Int):=hs;have iM:j.toNat<len:=by omega
  obtain⟨b,o',cap,C,ty,fr,hv,hb,hlen,H5⟩:=SI (S.obj L _ hL).1 iM;refine dQ S hd (by simp[aZ]) (d:=.p (.fp (get j.toNat) 0)) (v:=.pointer (some ⟨b,o'+j.toNat*s,none⟩)) (fp:=_) (A:=.chk _ _ _ _ _) rfl ?_ ?_ (kU _);simp only[execOp,aZ,Sem.run_bind,h1.1,hv,hj,run_indexAt_slice hu jU qi.1 qi.2,Result.andThen_ok,Sem.run_pure];exact Jw hb H5 0;subst hA;exact hs.elim;rename_i te bb e' s PN len ln get hL;split at hA;rename_i VB;subst VB;subst hA;have qi:0<=j/\j<(len:Int):=hs;have iM:j.toNat<len:=by omega
  obtain⟨b,C,cap,mG,hC,_,_⟩:=V7 (S.obj L _ hL) iM;refine dQ S hd (by simp[aZ]) (d:=.cl (.vptr L 1 j.toNat 0)) (v:=.pointer (some ⟨b,0+j.toNat*1,none⟩)) (fp:=_) (A:=.chk _ _ _ _ _) rfl ?_ ?_ h2;simp only[execOp,aZ,Sem.run_bind,h1.1,mG,hj,run_indexAt_slice hu jU qi.1 qi.2,Result.andThen_ok,Sem.run_pure];refine⟨b,by rw [mG];rfl,?_⟩;simp;subst hA;exact hs.elim;rename_i te bb e' s PN len ln get o2 hL;split at hA;rename_i VB;subst VB;subst hA;have qi:0<=j/\j<(len:Int):=hs;have iM:j.toNat<len:=by omega
  obtain⟨b,C,cap,mG,hC,_⟩:=V8 (S.obj L _ hL) iM;refine dQ S hd (by simp[aZ]) (d:=.cl (.vptr L 1 j.toNat 0)) (v:=.pointer (some ⟨b,0+j.toNat*1,none⟩)) (fp:=_) (A:=.chk _ _ _ _ _) rfl ?_ ?_ h2;simp only[execOp,aZ,Sem.run_bind,h1.1,mG,hj,run_indexAt_slice hu jU qi.1 qi.2,Result.andThen_ok,Sem.run_pure];refine⟨b,by rw [mG];rfl,?_⟩;simp;subst hA;exact hs.elim;subst hA;exact hs.elim;subst hA;exact hs.elim;subst hA;exact hs.elim;rename_i m e hu;exact SK S hd aZ hu hA hs;subst hA;exact hs.elim
theorem Wj{o:Oper}{x:Operand}{k:Nat}{A:aH}(S:bW P nt B w0 h0 g σ a w)(hd:dI nt o.dst=true)(aZ:o.op = .extract x k)
    (hA:act P Γ o (fV σ.env) (lk σ.ay)=A) (hs:A.safe):jD P nt B w0 h0 r n i o A σ a w Q:=by
  simp only[act,aEx,aZ]at hA;split at hA;rename_i ds hx;have h1:=S.ev x;have h2:=S.evLab x;rw[hx]at h1 h2;obtain⟨vs,hv,hr⟩:=h1;split at hA;rename_i d gI;subst hA;obtain⟨v,Bj,hdv⟩:=hr.get k d gI;refine dQ S hd (by simp[aZ]) (d:=.one d) (v:=v) (fp:=[]) rfl ?_ hdv (λL hL=>h2 L ?_);simp only [execOp,aZ,Sem.run_bind,hv,Instr.extract];have:vs.toArray[k]? = some v:=by simpa using Bj
  rw[this];simp;exact lU.2 ⟨d,Ko gI,hL⟩;subst hA;exact hs.elim;subst hA;exact hs.elim
theorem fb{o:Oper}{b:Builtin}{args:Array Operand}{ts:Array TypeId}(aZ:o.op = .call {callee := .builtin b,args,argTypes:=ts}){v:Value}{w':World}
    (h:(builtin b ts o.type (args.map fun | .const _=>true|_=>false) (args.map a.eval)).run P w=.ok (.value v) w'):(execOp a.eval o).run P w=.ok (.value v) w':=by
  simp only[execOp,aZ,resolve,Sem.run_bind,Sem.run_pure,Result.andThen_ok,invoke];exact h
theorem zoA{o:Oper}{args:Array Operand}{ts:Array TypeId}{A:aH}(S:bW P nt B w0 h0 g σ a w)(hd:dI nt o.dst=true)(aZ:o.op = .call {callee := .builtin .len,args,argTypes:=ts})
    (hA:act P Γ o (fV σ.env) (lk σ.ay)=A) (hs:A.safe):jD P nt B w0 h0 r n i o A σ a w Q:=by
  simp only[act,aLn,aZ]at hA;split at hA;rename_i x t gQ hts;have ha:args = #[x]:=by rw[<- qdj (xs:=args),gQ]
  have ht:ts = #[t]:=by rw[<- qdj (xs:=ts),hts]
  subst ha ht;split at hA;rename_i e hu;have fin:∀(m:Nat)(ad:Option Addr)(cap:Nat)(fp:List (Nat×Bool))(A:aH),a.eval x=.slice ad m cap->oM A i o.dst σ (σ.upd i o.dst fp (.int m) [] [])->jD P nt B w0 h0 r n i o A σ a w Q:=by
    intro m ad cap fp A hv hA;refine dQ S hd (by simp[aZ]) (d:=.int m) (v:=.int .i64 m) (fp:=fp) hA (fb aZ ?_) (.int _ _) (kU _);simp only[builtin,Sem.run_bind,Builtin.len_];simp[hv,run_underlying hu,goInt]
  split at hA
  · rename_i m s get hx;subst hA;have h1:=jM S hx;generalize hv:a.eval x=v at h1;cases h1 with|sl0=>exact fin 0 _ _ [] _ hv rfl|sle=>exact fin 0 _ _ [] _ hv rfl|sl=>exact fin m _ _ [] _ hv rfl
  rename_i hx;subst hA;have h1:=jM S hx;generalize hv:a.eval x=v at h1;cases h1;exact fin 0 _ _ [] _ hv rfl;rename_i L hx;obtain⟨h1,_⟩:=iY S hx;split at hA;rename_i e' s b m get hL;subst hA;obtain⟨_,_,xs,hxs,_⟩:=S.obj L _ hL;rcases hxs.2 with⟨h5,h6⟩|⟨k,cap,cur,h5,_⟩
  subst h6;exact fin 0 _ _ _ _ (h1.1.trans h5) rfl;exact fin m _ _ _ _ (h1.1.trans h5) rfl
  · rename_i s m get hL;subst hA;have h2:=(S.obj L _ hL).1;generalize hv:g.sv L=v at h2;cases h2 with|sl0=>exact fin 0 _ _ _ _ (h1.1.trans hv) rfl|sle=>exact fin 0 _ _ _ _ (h1.1.trans hv) rfl|sl=>exact fin m _ _ _ _ (h1.1.trans hv) rfl
  rename_i te bb e' s b m ln get hL;subst hA;obtain⟨_,_,_,hxs,_,_⟩:=S.obj L _ hL;rcases hxs.2 with⟨h5,h6⟩|⟨k,cap,cur,h5,_⟩
  subst h6;exact fin 0 _ _ _ _ (h1.1.trans h5) rfl;exact fin m _ _ _ _ (h1.1.trans h5) rfl;subst hA;exact hs.elim;subst hA;exact hs.elim;rename_i kt vt hu
  have Wl:∀(m:Nat)(b:Nat)(es:Array MapEntry)(clock:Nat)(q:MQ)(F:List Int->Option (List Int))(fp:List (Nat×Bool))(A:aH),a.eval x=.map (some b)->w.heap[b]? = some (.map es clock)->moE q m F es clock ->
      oM A i o.dst σ (σ.upd i o.dst fp (.int m) [] [])->jD P nt B w0 h0 r n i o A σ a w Q:=by
    intro m b es clock q F fp A hv hh hm hA;obtain⟨en,hen⟩:=hm;have jU:es.size=m:=by
      have:=jX List.length hen.ents;simp only[qdn,qja]at this;rw[this,hen.size]
    refine dQ S hd (by simp[aZ]) (d:=.int m) (v:=.int .i64 m) (fp:=fp) hA (fb aZ ?_) (.int _ _) (kU _);simp only[builtin,Sem.run_bind,Builtin.len_];simp[hv,run_underlying hu,goInt,MapKept.run_getObj_map hh,jU]
  split at hA;rename_i L hx;obtain⟨h1,_⟩:=iY S hx;split at hA;rename_i kt' vt' q m F hL;subst hA;obtain⟨es,clock,hh,_,hm⟩:=S.obj L _ hL;exact Wl m _ es clock q F _ _ h1 hh hm rfl;subst hA;exact hs.elim;subst hA;exact hs.elim;subst hA;exact hs.elim;subst hA;exact hs.elim
theorem Le{args:Array Operand}{ev:Operand->DV}{p q:DV}(h:args.toList.map ev=[p,q]):∃x y,args = #[x,y]/\ev x=p/\ev y=q:=by
 match hl:args.toList,h with
 | [x,y],h =>
  simp at h;exact⟨x,y,by rw[<- qdj (xs:=args),hl],h.1,h.2⟩
 | [],h=>simp at h
 | [_],h=>simp at h
 | _::_::_::_,h=>simp at h
theorem zoB{o:Oper}{args:Array Operand}{ts:Array TypeId}{A:aH}(S:bW P nt B w0 h0 g σ a w)(hd:dI nt o.dst=true)(aZ:o.op = .call {callee := .builtin .max,args,argTypes:=ts})
    (hA:act P Γ o (fV σ.env) (lk σ.ay)=A) (hs:A.safe):jD P nt B w0 h0 r n i o A σ a w Q:=by
  simp only[act,aMx,aZ]at hA;split at hA;rename_i k p k' q gQ;subst hA;obtain⟨x,y,rfl,hx,hy⟩:=Le gQ;have h1:=kN S hx;have h2:=kN S hy;refine dQ S hd (by simp[aZ]) (d:=.p (.int k (if q>p then q else p))) (v:=.int k (if q>p then q else p)) (fp:=[]) rfl (fb aZ ?_) (.int _ _) (kU _);simp[builtin,Builtin.max_,h1,h2,Builtin.max2];subst hA;exact hs.elim
theorem zoC{o:Oper}{args:Array Operand}{ts:Array TypeId}{A:aH}(S:bW P nt B w0 h0 g σ a w)(hd:dI nt o.dst=true)(aZ:o.op = .call {callee := .builtin .min,args,argTypes:=ts})
    (hA:act P Γ o (fV σ.env) (lk σ.ay)=A) (hs:A.safe):jD P nt B w0 h0 r n i o A σ a w Q:=by
  simp only[act,aMi,aZ]at hA;split at hA;rename_i k p k' q gQ;subst hA;obtain⟨x,y,rfl,hx,hy⟩:=Le gQ;have h1:=kN S hx;have h2:=kN S hy;refine dQ S hd (by simp[aZ]) (d:=.p (.int k (if q<p then q else p))) (v:=.int k (if q<p then q else p)) (fp:=[]) rfl (fb aZ ?_) (.int _ _) (kU _);simp[builtin,Builtin.min_,h1,h2,Builtin.min2];subst hA;exact hs.elim
end
end Go.Pm
namespace Go.Pm
variable [aC]
open Go.RowKit (Below)
section place
variable{P:Program}
def Ro{α:Type}(P:Program)(s:Sem α):Prop:=∀w a w',s.run P w=.ok a w'->w'.heap=w.heap
theorem bind_ok{α β:Type}{x:Sem α}{f:α->Sem β}{w w':World}{b:β}(h:(x >>= f).run P w=.ok b w'):∃a w1,x.run P w=.ok a w1/\(f a).run P w1=.ok b w':=by
 rw[Sem.run_bind]at h;cases hx:x.run P w with|ok a w1=>rw[hx]at h;exact⟨a,w1,rfl,h⟩|halt e w1=>rw[hx]at h;cases h
theorem Ro.bind{α β:Type}{x:Sem α}{f:α->Sem β}(hx:Ro P x)(hf:∀a,Ro P (f a)):Ro P (x >>= f):=by
 intro w b w' h;obtain⟨a,w1,h1,h2⟩:=bind_ok h;exact(hf a w1 b w' h2).trans (hx w a w1 h1)
theorem Ro.pure{α:Type}(a:α):Ro P (Pure.pure a:Sem α):=by
 intro w b w' h;simp at h;rw[h.2]
theorem Ro.halt{α:Type}(e:Halt):Ro P (.halt e:Sem α):=by
 intro w b w' h;simp at h
theorem Ro.ite{α:Type}{c:Prop}[Decidable c]{x y:Sem α}(hx:Ro P x)(hy:Ro P y):Ro P (if c then x else y):=by
 split;exact hx;exact hy
theorem Ro.load(a:Addr)(m:Mode):Ro P (Go.load a m):=by
 intro w b w' h;rw[run_load]at h;split at h;simp at h;rw[h.2];split at h;simp at h;rw[h.2];cases h
theorem Ro.loadCellsFrom(a:Addr):∀(n i:Nat)(acc:Array Value),Ro P (loadCellsFrom a i n acc)|0,_,acc=>Ro.pure acc|n+1,i,acc=>(Ro.load _ _).bind λv=>Ro.loadCellsFrom a n (i+1) (acc.push v)
theorem Ro.firstCells(s n:Nat)(v:Value):Ro P (Builtin.firstCells s n v):=by
 unfold Builtin.firstCells;split;exact Ro.loadCellsFrom _ _ _ _;exact Ro.pure _;exact Ro.pure _;exact Ro.halt _
theorem Ro.typeInfo(t:TypeId):Ro P (typeInfo t):=by
 intro w b w' h;simp only[Go.typeInfo,Sem.run_bind,run_program,Result.andThen_ok]at h;split at h;simp at h;rw[h.2];simp at h
theorem Ro.zeroValue(t:TypeId):Ro P (zeroValue t):=by
 refine(Ro.typeInfo t).bind λ_=>?_;split;exact Ro.pure _;exact Ro.halt _
theorem Ro.choose(q:Question):Ro P (Go.choose q):=by
 intro w b w' h;rw[run_choose]at h;split at h;simp at h;rw[h.2];simp at h;rw[<- h.2];rfl
theorem Ro.askRoom(m:Nat):Ro P (askRoom m):=by
 intro w b w' h;simp at h;rw[h]
theorem Ro.program:Ro P program:=by
 intro w b w' h;simp at h;rw[h.2]
theorem Ro.underlying(t:TypeId):Ro P (underlying t):=by
 refine Ro.program.bind λ_=>?_;split;exact Ro.pure _;exact Ro.halt _
theorem Ro.sizeOf(t:TypeId):Ro P (sizeOf t):=(Ro.typeInfo t).bind λ_=>Ro.pure _
theorem Ro.stuck{α:Type}(s:String):Ro P (stuck s:Sem α):=Ro.halt _
theorem Ro.unsupported{α:Type}(s:Unsupported):Ro P (unsupported s:Sem α):=Ro.halt _
theorem Ro.asIntOf(v:Value):Ro P (asIntOf v):=by
 unfold Go.asIntOf;split;exact Ro.pure _;exact Ro.unsupported _;exact Ro.stuck _
theorem Ro.asInt(v:Value):Ro P (asInt v):=(Ro.asIntOf v).bind λ_=>Ro.pure _
theorem Ro.error{α:Type}(m:String):Ro P (runtimePanic (.error m):Sem α):=by
 refine Ro.program.bind λ_=>?_;exact Ro.halt _
theorem Ro.mark(m:Mark):Ro P (mark m):=by
 intro w b w' h;simp at h;rw[h]
theorem Ro.shape(k:Nat):Ro P (shape k):=by
 intro w b w' h;simp at h;rw[h.2]
theorem Ro.frozen(k:Addr):Ro P (frozen k):=by
 intro w b w' h;simp at h;rw[h.2]
theorem Ro.holdsCells(k:Addr)(m:Nat):Ro P (Builtin.holdsCells k m):=by
 refine(Ro.shape _).bind λ_=>?_;split;exact Ro.pure _;exact Ro.pure _
theorem Ro.mayShare(size zEl m:Nat)(base:Option Addr)(x:Value):Ro P (Builtin.mayShare size zEl m base x):=by
 unfold Builtin.mayShare
 repeat' first
  | exact Ro.holdsCells _ _
  | exact Ro.frozen _
  | exact Ro.pure _
  | refine Ro.ite ?_ ?_
  | refine Ro.bind ?_ (λ_=>?_)
  | split
def PL(P:Program)(base:Option Nat)(s:Sem Value):Prop:=∀w a w',s.run P w=.ok a w'->a.ownBlock=base\/a.ownBlock=some w.heap.size
theorem PL.bind{α:Type}{base:Option Nat}{x:Sem α}{f:α->Sem Value}(hx:Ro P x)(hf:∀a,PL P base (f a)):PL P base (x >>= f):=by
 intro w b w' h;obtain⟨a,w1,h1,h2⟩:=bind_ok h;have:=hf a w1 b w' h2;rwa[hx w a w1 h1]at this
theorem PL.ite{base:Option Nat}{c:Prop}[Decidable c]{x y:Sem Value}(hx:PL P base x)(hy:PL P base y):PL P base (if c then x else y):=by
 split;exact hx;exact hy
theorem PL.halt{base:Option Nat}(e:Halt):PL P base (.halt e):=by
 intro w b w' h;simp at h
theorem PL.pure{base:Option Nat}{v:Value}(h:v.ownBlock=base):PL P base (Pure.pure v):=by
 intro w b w' h';simp at h';rw[<- h'.1];exact .inl h
theorem PL.then{α:Type}{base:Option Nat}{x:Sem α}{v:Value}(h:v.ownBlock=base):PL P base (x >>= λ_=>Pure.pure v):=by
 intro w b w' h';obtain⟨a,w1,_,h2⟩:=bind_ok h';simp at h2;rw[<- h2.1];exact .inl h
theorem PL.newRow{base:Option Nat}(e:TypeId)(C:Array Value)(m c:Nat):PL P base (newRow e C >>= λa=>Pure.pure (Value.slice (some a) m c)):=by
 intro w b w' h;simp[Go.newRow]at h;rw[<- h.1];exact .inr rfl
theorem Dv{t ty:TypeId}{base ad:Option Addr}{zEl z0D m c:Nat}:PL P (base.map (·.block)) (Builtin.append_ #[t,t] ty #[.slice base zEl z0D,.slice ad m c]):=by
 unfold Builtin.append_;simp only[qjT,qdE,ZH]
 repeat' first
  | exact PL.newRow _ _ _ _
  | exact PL.pure (by first|rfl|(cases base<;>rfl))
  | exact PL.then (by first|rfl|(cases base<;>rfl))
  | exact PL.halt _
  | exact Ro.underlying _
  | exact Ro.sizeOf _
  | exact Ro.typeInfo _
  | exact Ro.zeroValue _
  | exact Ro.firstCells _ _ _
  | exact Ro.choose _
  | exact Ro.askRoom _
  | exact Ro.asInt _
  | exact Ro.error _
  | exact Ro.unsupported _
  | exact Ro.stuck _
  | exact Ro.pure _
  | exact Ro.mark _
  | exact Ro.mayShare _ _ _ _ _
  | refine PL.ite ?_ ?_
  | refine Ro.ite ?_ ?_
  | refine PL.bind ?_ (λ_=>?_)
  | refine Ro.bind ?_ (λ_=>?_)
  | split
theorem Je{w:World}{at_:Addr}{u:TypeId}{k:Addr}{v:Value}{b:Bool}{r:World×List Addr}(h:w.viewStore P at_ u k v b=.ok r):r.1.drawn=w.drawn:=by
 unfold World.viewStore at h;simp only[bind,Except.bind,pure,Except.pure]at h
 repeat' first
  | (cases h;done)
  | (simp only[Except.ok.injEq]at h;rw[<- h];done)
  | split at h
theorem Lh{w:World}{a:Addr}{v:Value}{b:Bool}{r:World×List Addr}(h:w.farStore P a v b=.ok r):r.1.drawn=w.drawn:=by
 unfold World.farStore at h;split at h;split at h;rename_i e;simp only[Except.ok.injEq]at h;rw[<- h];exact Je e;cases h;cases h
theorem Gf{α:Type}:∀(q:Ask α)(w:World),w.drawn≤(w.ask q).2.drawn
  | .done a,w=>by simp[World.ask]
  | .ask zN3 range k,w=>by
    simp only[World.ask];split;exact Gf _ _;exact FN (Nat.le_succ w.drawn) (Gf (k _) {w with drawn:=w.drawn+1})
theorem zeH(w:World)(c:Sys):w.drawn<=(w.sys c).2.drawn:=by
 have h:=Gf (Kernel.perform c w.os) w;unfold World.sys;split;exact kD _;rename_i e;rw[e]at h;exact h
theorem ig{α:Type}:∀(s:Sem α)(w:World)(x:α)(w':World),s.run P w = .ok x w'→w.drawn≤w'.drawn
  | .pure a,w,x,w',h=>by simp only[Sem.run,Result.ok.injEq]at h;rw[h.2];exact kD _
  | .load m a k,w,x,w',h=>by
    simp only[Sem.run]at h;split at h;exact ig _ _ _ _ h;split at h;exact ig _ _ _ _ h;cases h
  | .store m a v k,w,x,w',h=>by
    have fin:∀w1,w1.drawn=w.drawn->k.run P w1=.ok x w'->w.drawn<=w'.drawn:=λw1 e h=>by rw[<- e];exact ig _ _ _ _ h
    cases v with
    | agg cs=>simp only[Sem.run]at h;cases h
    | tuple cs=>simp only[Sem.run]at h;cases h
    | _ =>
      simp only[Sem.run]at h;split at h;split at h;cases h;refine fin _ ?_ h;rfl;split at h;rename_i e;refine fin _ ?_ h;exact Lh e;cases h
  | .new o k,w,x,w',h=>by simp only[Sem.run]at h;have:=ig _ _ _ _ h;exact this
  | .shape r k,w,x,w',h=>by simp only[Sem.run]at h;exact ig _ _ _ _ h
  | .freeze a n k,w,x,w',h=>by
    simp only[Sem.run]at h;have:=ig _ _ _ _ h;have e:(w.freeze a n).drawn=w.drawn:=by unfold World.freeze;split<;>rfl
    rwa[e]at this
  | .frozen a k,w,x,w',h=>by simp only[Sem.run]at h;exact ig _ _ _ _ h
  | .getObj r k,w,x,w',h=>by
    simp only[Sem.run]at h;split at h;cases h;exact ig _ _ _ _ h;cases h
  | .setObj r o k,w,x,w',h=>by
    simp only[Sem.run]at h;split at h;cases h;have:=ig _ _ _ _ h;exact this;cases h
  | .choose q k,w,x,w',h=>by
    simp only[Sem.run]at h;split at h;exact ig _ _ _ _ h;have:=ig _ _ _ _ h;exact FN (Nat.le_succ _) this
  | .sys c k,w,x,w',h=>by
    simp only[Sem.run]at h;have:=ig _ _ _ _ h;exact FN (zeH w c) this
  | .program k,w,x,w',h=>by simp only[Sem.run]at h;exact ig _ _ _ _ h
  | .mark m k,w,x,w',h=>by simp only[Sem.run]at h;exact ig _ _ _ _ h
  | .halt e,w,x,w',h=>by simp only[Sem.run]at h;cases h
end place
end Go.Pm
namespace Go.Pm
variable [aC]
open Go.RowKit (Below)
section
variable{P:Program}{Γ:bK}{nt B:Nat}{w0:World}{h0:Fz}{g:Gh}{σ:St}{a:Act}{w:World}{r:Option Nat}{n i:Nat}{Q:Exit->Act->World->Prop}
theorem Dw{w w':World}{b:Nat}(hB:B≤b)(h1:w'.heap.size=w.heap.size)(h2:∀k,k≠b→w'.heap[k]? = w.heap[k]?)(h3:w'.os=w.os)(h4:w'.tape=w.tape)(h5:w'.output=w.output)(h6:w'.drawn=w.drawn) :
  KR B w w':=⟨⟨h3,h4,h5,by rw[h1];exact kD _,λk hk=>h2 k omY⟩,by rw[h6];exact kD _⟩
theorem wV{t:TypeId}{m b off:Nat}{C:Array Value}{ty:TypeId}{v:Value}(hs:qI P t=some m)(hm:v.cells.size=m)(hb:w.heap[b]? = some (.cells C ty (0,0)))(hle:off+m≤C.size)
    (h1:∀u∈v.cells.toList,u.oneCell'=true):∃w',(storeVar t ⟨b,off,none⟩ v).run P w=.ok () w'/\w'.heap[b]? = some (.cells (spl C.toList off v.cells.toList).toArray ty (0,0)) /\
      w'.heap.size=w.heap.size/\(∀k,k≠b->w'.heap[k]? = w.heap[k]?)/\w'.os=w.os/\w'.tape=w.tape/\w'.output=w.output/\w'.drawn=w.drawn:=by
  obtain⟨w',hr,rest⟩:=yR (P:=P) v.cells.toList off C w hb (by simpa [hm]using hle) h1 off 0 omY;refine⟨w',?_,rest⟩;simp only[storeVar,Sem.run_bind,run_sizeOf hs,Result.andThen_ok,hm,ne_eq,not_true_eq_false,qd8];exact hr
theorem cells_one{d:D1}{v:Value}(h:A7 g d v)(ho:d.cells.all C9=true):∀u∈v.cells.toList,u.oneCell'=true:=by
 intro u hu;have hr:=vG h ho;obtain⟨j,hj⟩:=ZI hu;obtain⟨c,hc,hcu⟩:=hr.get' j u hj;exact zb7 hcu (zQ.1 ho c (Ko hc))
theorem oO:∀{cs:List Cl}{l:List PV},kJ cs=some l→cs=l.map .p
  | [],l,h=>by simp[kJ]at h;subst h;rfl
  | .p v::r,l,h=>by
    simp only[kJ]at h;split at h;rename_i l' hl;simp only[bV]at h;subst h;rw[oO hl];rfl;cases h
  | .ptr _ _::_,l,h=>by simp[kJ]at h
  | .vptr _ _ _ _::_,l,h=>by simp[kJ]at h
  | .vec _::_,l,h=>by simp[kJ]at h
  | .undef::_,l,h=>by simp[kJ]at h
  | .junk::_,l,h=>by simp[kJ]at h
  | .dead _::_,l,h=>by simp[kJ]at h
theorem zoD(l:List PV):(l.map Cl.p).all C9=true:=by
 induction l with|nil=>rfl|cons v r ih=>simp[C9,ih]
theorem zoE{B e s len:Nat}{v0:Value}{get:Nat→List PV}{k ii kk:Nat}{C:Array Value}{w':World}{l:List PV}{us xs:List Value}
    (hx:w.ownsRow B e s v0 len xs) (hr:∀i,i<len->RL (Rep g.h) (get i) ((xs.drop (i*s)).take s)) (cZ:v0.ownBlock=some k) (hi:ii<len) (hk:kk+l.length<=s) (hC:w.heap[k]? = some (.cells C e (0,0)))
    (Zo:w'.heap[k]? = some (.cells (spl C.toList (ii*s+kk) us).toArray e (0,0))) (hl:RL (Rep g.h) l us) :
    ∃xs:List Value,w'.ownsRow B e s v0 len xs/\∀i,i<len->RL (Rep g.h) (Dc ii kk get l i) ((xs.drop (i*s)).take s):=by
  rcases hx.2 with⟨h1,rfl⟩|⟨k',cap,cur,h1,hB,hg,hn,kR,jU,htk⟩
  exact absurd hi omY;rw [h1]at cZ;simp only [Value.ownBlock,bV]at cZ;subst cZ;rw[hC]at hg;simp only[bV,Obj.cells.injEq]at hg;obtain⟨rfl,_⟩:=hg;have hlen:=hl.length;have hii:ii*s+s<=len*s:=by have:=RJ s (qdp hi);rw[Vr]at this;exact this
  have zuI:len*s<=cap*s:=RJ s hn;have hCs:C.toList.length=cap*s:=by simpa using jU
  refine⟨(spl C.toList (ii*s+kk) us).take (len*s),⟨?_,.inr ⟨k',cap,_,h1,hB,Zo,hn,kR,?_,rfl⟩⟩,?_⟩;rw[qdB,lY,hCs];omega;simp[lY,jU];intro j hj;have hjs:j*s+s<=len*s:=by have:=RJ s (qdp hj);rw[Vr]at this;exact this
  have hgl:(get j).length=s:=by
    rw[(hr j hj).length];simp only[qdB,Zx,hx.1];omega
  have hsl:(Dc ii kk get l j).length=s:=by unfold Dc;split<;>simp[lY,hgl]
  refine RL.of_get ?_ ?_;rw[hsl];simp only[qdB,Zx,lY,hCs];omega;intro q x v hq hvq;have hqs:q<s:=by have:=(Bl.1 hq).1;omega
  rw[Jn,eY hqs,qdl,Jn,eY omY,Dq _ _ _ _ (by rw[hCs];omega)]at hvq;have old:∀y,(get j)[q]? = some y->∃v,C.toList[j*s+q]? = some v/\Rep g.h y v:=by
    intro y hy;obtain⟨v,hv,RD⟩:=(hr j hj).get q y hy;refine⟨v,?_,RD⟩;rw[Jn,eY hqs,qdl,<- htk,Jn,eY omY]at hv;exact hv
  unfold Dc at hq;split at hq;rename_i hji;have hji:=lH hji;subst hji;rw[Dq _ _ _ _ (by rw[hgl];omega)]at hq;by_cases ZF:kk<=q/\q<kk+l.length;rw [eY ZF]at hq;rw[eY (by rw[<- hlen];omega),show j*s+q-(j*s+kk)=q-kk by omega]at hvq;obtain⟨u,hu,Zn⟩:=hl.get _ _ hq;rw[hu]at hvq;simp only[bV]at hvq;rw[<- hvq];exact Zn;rw [fH ZF]at hq;rw[fH (by rw[<- hlen];omega)]at hvq;obtain⟨u,hu,Zn⟩:=old x hq;rw[hu]at hvq;simp only[bV]at hvq;rw[<- hvq];exact Zn;rename_i hji;have hji:=qdz hji;have FI:¬(ii*s+kk<=j*s+q/\j*s+q<ii*s+kk+us.length):=by
    rw[<- hlen];rcases Nat.lt_or_gt_of_ne hji with h|h
    have:=RJ s (qdp h);rw[Vr]at this;omega;have:=RJ s (qdp h);rw[Vr]at this;omega
  rw[fH FI]at hvq;obtain⟨u,hu,Zn⟩:=old x hq;rw[hu]at hvq;simp only[bV]at hvq;rw[<- hvq];exact Zn
theorem zoF{B L e s b len:Nat}{get:Nat→List PV}{k ii kk:Nat}{C:Array Value}{w':World}{l:List PV}{us:List Value}
    (hv:Dp P g w B L e s b len get) (cZ:(g.sv L).ownBlock=some k) (hi:ii<len) (hk:kk+l.length<=s) (hC:w.heap[k]? = some (.cells C e (0,0)))
    (Zo:w'.heap[k]? = some (.cells (spl C.toList (ii*s+kk) us).toArray e (0,0))) (hl:RL (Rep g.h) l us) (hu:uo (Dc ii kk get l)):Dp P g w' B L e s b len (Dc ii kk get l):=by
  obtain⟨hs,nP,xs,hx,hr⟩:=hv;exact⟨⟨hu,hs.2⟩,nP,zoE hx hr cZ hi hk hC Zo hl⟩
theorem zcg{ii:Nat}{get:Nat->Nat->List PV}{lW:Nat->List PV}(h:Unv get)(h2:uo lW)(hs:smL (get 0 0) (lW 0)=true):Unv (pJ ii lW get):=by
 have h3:∀i j k,RS (get i j) (lW k):=λi j k=>((h i j 0 0).trans (KG hs (h 0 0 0 0) (h2 0 0))).trans (h2 0 k);intro i j k l;show RS ((match Nat.beq i ii with|true=>lW|false=>get i) j) ((match Nat.beq k ii with|true=>lW|false=>get k) l);cases Nat.beq i ii<;>cases Nat.beq k ii;exact h _ _ _ _;exact h3 _ _ _;exact(h3 _ _ _).symm;exact h2 _ _
theorem Lj:∀L∈cO .junk,∃o,lk σ.ay L=some o:=λL hL=>by simp[cO,dD,bC]at hL
def Gm(g g':Gh):Prop:=g'.h=g.h/\g'.bk=g.bk/\g'.sv=g.sv/\∀L i,(∃b,g.iv L i=.map (some b))->g'.iv L i=g.iv L i
theorem zhR{g g':Gh}(H:Gm g g'){c:Cl}{x:Value}(h:jw g c x):jw g' c x:=by
 obtain⟨h1,h2,h3,h4⟩:=H;cases c with
 | p v=>simp only[jw]at h ⊢;rw[h1];exact h
 | ptr L off=>simp only[jw]at h ⊢;rw[h2];exact h
 | vptr L s i k=>simp only[jw]at h ⊢;rw[h3];exact h
 | vec L=>simp only[jw]at h ⊢;rw[h3];exact h
 | mo L=>simp only[jw]at h ⊢;rw[h3];exact h
 | clo f caps=>obtain⟨cv,e,hr⟩:=h;exact⟨cv,e,ry (λ_ _ hp=>by rw[h1];exact hp) (λL _=>by rw[h2]) hr⟩
 | undef=>exact h
 | junk=>trivial
 | dead L=>trivial
theorem zvc{g g':Gh}(H:Gm g g'){cs:List Cl}{vs:List Value}(h:RL (jw g) cs vs):RL (jw g') cs vs:=h.mono λ_ _=>zhR H
theorem zhS{g g':Gh}(H:Gm g g'){d:D1}{x:Value}(h:A7 g d x):A7 g' d x:=by
 cases d with
 | c y=>exact zhR H h
 | agg cs=>obtain⟨vs,rfl,hr⟩:=h;exact⟨vs,rfl,zvc H hr⟩
theorem zyo{g g':Gh}(H:Gm g g'){d:DV}{x:Value}(h:rO g d x):rO g' d x:=by
 cases d with
 | one y=>exact zhS H h
 | tup ds=>obtain⟨vs,rfl,hr⟩:=h;exact⟨vs,rfl,hr.mono λ_ _=>zhS H⟩
theorem bW.setVec(S:bW P nt B w0 h0 g σ a w){L M te bb e s PN len m ii:Nat}{ln:Nat→Nat}{get:Nat→Nat→List PV}{lW:Nat→List PV}(hL:lk σ.ay L=some (.vt te bb e s PN len ln get ii))
    (hM:lk σ.ay M=some (.vec e s PN m lW)) (jk:L≠M) (hi:ii<len) (hm:0<m) (IY:Unv (pJ ii lW get)) {k:Nat} {C:Array Value} {w':World} (cZ:(g.sv L).ownBlock=some k) (hC:w.heap[k]? = some (.cells C te (0,0)))
    (Zo:w'.heap[k]? = some (.cells (C.setIfInBounds ii (g.sv M)) te (0,0))) (rq:∀b,b≠k->w'.heap[b]? = w.heap[b]?) (hb:KR B w w') :
    bW P nt B w0 h0 ⟨g.h,g.bk,g.sv,λX i=>if X=L/\i=ii then g.sv M else g.iv X i⟩ {σ with ay:=(L,.vv te bb e s PN len (pJ ii m ln) (pJ ii lW get))::(M,.gone)::σ.ay} a w':=by
  have oL:=S.obj L _ hL;obtain⟨iU,zRE,zGV,znp,_,wO,H5,Jl⟩:=oL;obtain⟨_,_,xsM,hxM,hrM⟩:=S.obj M _ hM;obtain⟨kM,z3X,hvM⟩:∃kM cap,g.sv M=.slice (some ⟨kM,0,none⟩) m cap:=by
    rcases hxM.2 with⟨_,h2⟩|⟨k2,cap,_,h1,_⟩
    omega;exact⟨k2,cap,h1⟩
  have hoM:(g.sv M).ownBlock=some kM:=by rw[hvM];rfl
  have H:Gm g ⟨g.h,g.bk,g.sv,λX i=>if X=L/\i=ii then g.sv M else g.iv X i⟩:=by
    refine⟨rfl,rfl,rfl,λX i hx=>?_⟩;show(if X=L/\i=ii then _ else _)=_;rw[fH];rintro⟨rfl,rfl⟩;obtain⟨b,hx⟩:=hx;exact wO b hx
  have hkB:iy g L (.vt te bb e s PN len ln get ii) k:=.inl cZ;have hMB:iy g M (.vec e s PN m lW) kM:=hoM
  have kQ:∀X o,lk ((L,AO.vv te bb e s PN len (pJ ii m ln) (pJ ii lW get))::(M,.gone)::σ.ay) X=some o ->
      (X=L/\o=.vv te bb e s PN len (pJ ii m ln) (pJ ii lW get))\/(X=M/\o=.gone)\/(X≠L/\X≠M/\lk σ.ay X=some o):=by
    intro X o h;rw[aX]at h;split at h;rename_i e;simp at h;exact .inl ⟨e.symm,h.symm⟩;rename_i e;rw[aX]at h;split at h;rename_i e2;simp at h;exact .inr (.inl ⟨e2.symm,h.symm⟩);rename_i e2;exact .inr (.inr ⟨λx=>e x.symm,λx=>e2 x.symm,h⟩)
  have yG:∀X o,lk σ.ay X=some o->∃o',lk ((L,AO.vv te bb e s PN len (pJ ii m ln) (pJ ii lW get))::(M,.gone)::σ.ay) X=some o':=by
    intro X o h;rw[aX];split;exact⟨_,rfl⟩;rw [aX];split;exact⟨_,rfl⟩;exact⟨o,h⟩
  have zRG:∀X i,X≠L->(if X=L/\i=ii then g.sv M else g.iv X i)=g.iv X i:=λX i hx=>fH λe=>hx e.1;have zhT:∀i,i≠ii->(if L=L/\i=ii then g.sv M else g.iv L i)=g.iv L i:=λi hx=>fH λe=>hx e.2;have fG:∀X,X≠L->jl g ⟨g.h,g.bk,g.sv,λX i=>if X=L/\i=ii then g.sv M else g.iv X i⟩ X:=λX hx=>⟨rfl,rfl,funext λi=>zRG X i hx⟩;have hMk:kM≠k:=λe=>jk (S.sep L _ k M _ hL hM hkB (by rw[<- e];exact hMB));have zhU:∀b,iy ⟨g.h,g.bk,g.sv,λX i=>if X=L/\i=ii then g.sv M else g.iv X i⟩ L (.vv te bb e s PN len (pJ ii m ln) (pJ ii lW get)) b->iy g L (.vt te bb e s PN len ln get ii) b\/b=kM:=by
    rintro b (mJ|⟨i,kH,mJ⟩);exact .inl (.inl mJ);by_cases e:i=ii;subst e;have mJ:(if L=L/\i=i then g.sv M else g.iv L i).ownBlock=some b:=mJ;rw[eY ⟨rfl,rfl⟩,hoM]at mJ;simp only[bV]at mJ;exact .inr mJ.symm;have mJ:(if L=L∧i=ii then g.sv M else g.iv L i).ownBlock=some b:=mJ;rw[zhT i e]at mJ;exact .inl (.inr ⟨i,kH,e,mJ⟩)
  refine⟨S.dfr,S.size,λt d h=>zyo H (S.env t d h),?_,?_,?_,?_,S.le0,S.hn,S.below.trans (.of hb),FN S.bs hb.size,λt d h X hX=>?_,?_⟩;intro X o ho;rcases kQ X o ho with⟨rfl,rfl⟩|⟨rfl,rfl⟩|⟨n1,n2,ho⟩
  refine⟨⟨IY,iU.2⟩,zRE,zGV,?_,?_,?_⟩;refine⟨by simp,?_⟩;rcases znp.2 with⟨h1,h2⟩|⟨k',cap,cur,h1,hB,hg,hn,kR,jU,htk⟩
  omega;rw [h1]at cZ;simp only [Value.ownBlock,bV]at cZ;subst cZ;rw[hC]at hg;simp only[bV,Obj.cells.injEq]at hg;obtain⟨rfl,_⟩:=hg;refine .inr ⟨k',cap,_,h1,hB,Zo,hn,kR,by simpa using jU,?_⟩;apply qdk;intro j;have hj:=jX (λl=>l[j]?) htk;simp only[Jn,qdd]at hj;simp only[Array.toList_setIfInBounds,Jn,qjI,qdd];by_cases hjn:j<len*1;have zRH:j<len:=by omega
  rw[eY hjn]at hj ⊢;rw[qjb zRH]at hj ⊢;simp only[RU]at hj ⊢;by_cases e:ii=j;subst e;rw[eY rfl,eY (by simp;omega)];simp;rw [fH e,hj];simp only[true_and];rw[fH (λx=>e x.symm)];rw[fH hjn,qdm (by simp;omega)];rfl;intro i kH;by_cases e:i=ii;subst e;have e2:pJ i m ln i=m:=by simp[pJ]
  have e3:pJ i lW get i=lW:=by simp[pJ]
  rw[e2,e3];show(if X=X/\i=i then g.sv M else g.iv X i).oneCell'=true/\(m=0->(if X=X/\i=i then g.sv M else g.iv X i)=_)/\∃xs,w'.ownsRow B _ s (if X=X/\i=i then g.sv M else g.iv X i) m xs/\_;rw[eY ⟨rfl,rfl⟩];refine⟨by rw[hvM];rfl,λh=>absurd h omY,xsM,jC hxM λb mJ=>rq b λe=>hMk ?_,hrM⟩;rw[hoM]at mJ;simp only[bV]at mJ;omega;have hbf:Nat.beq i ii=false:=by cases hq:Nat.beq i ii with|true=>exact absurd (lH hq) e|false=>rfl
  have e2:pJ ii m ln i=ln i:=by simp only[pJ,hbf]
  have e3:pJ ii lW get i=get i:=by simp only[pJ,hbf]
  rw[e2,e3];show(if X=X/\i=ii then g.sv M else g.iv X i).oneCell'=true/\(ln i=0->(if X=X/\i=ii then g.sv M else g.iv X i)=_)/\∃xs,w'.ownsRow B _ s (if X=X/\i=ii then g.sv M else g.iv X i) (ln i) xs/\_;rw[zhT i e];obtain⟨x1,x2,xs,x3,x4⟩:=H5 i kH e;exact⟨x1,x2,xs,jC x3 λb mJ=>rq b λe'=>(Jl i b kH e mJ).1 (by rw[e'];exact cZ),x4⟩;intro i b kH mJ;have fresh:∀j,j<len->j≠ii->(g.iv X j).ownBlock≠some kM:=λj hj hji e=>jk (S.sep X _ kM M _ hL hM (.inr ⟨j,hj,hji,e⟩) hMB);by_cases e:i=ii;subst e;have mJ:(if X=X/\i=i then g.sv M else g.iv X i).ownBlock=some b:=mJ;rw[eY ⟨rfl,rfl⟩,hoM]at mJ;simp only[bV]at mJ;subst mJ;refine⟨λh=>hMk ?_,λj hj hjb=>?_⟩;rw[cZ]at h;simp only[bV]at h;exact h.symm;by_cases e:j=i;exact e.symm;have hjb:(if X=X∧j=i then g.sv M else g.iv X j).ownBlock=_:=hjb;rw[zhT j e]at hjb;exact(fresh j hj e hjb).elim;have mJ:(if X=X∧i=ii then g.sv M else g.iv X i).ownBlock=some b:=mJ;rw[zhT i e]at mJ;have VC:=mJ;refine⟨(Jl i b kH e mJ).1,λj hj hjb=>?_⟩;have hjb:(if X=X/\j=ii then g.sv M else g.iv X j).ownBlock=_:=hjb;by_cases e2:j=ii;subst e2;rw[eY ⟨rfl,rfl⟩,hoM]at hjb;simp only[bV]at hjb;subst hjb;exact(fresh i kH e VC).elim;rw [zhT j e2]at hjb;exact(Jl i b kH e mJ).2 j hj e2 hjb;trivial
  · cases o with
    | box ty cs =>
      obtain⟨C',hC2,hr⟩:=S.obj X _ ho;refine⟨C',?_,zvc H hr⟩;rw[rq _ λe=>n1 (S.sep X _ k L _ ho hL e hkB)];exact hC2
    | _=>exact kz (S.obj X _ ho) (fG X n1) (λ_ h=>by simp[dW]at h) (λ_ _ h=>h) λb mJ=>rq b λe=>n1 (S.sep X _ b L _ ho hL mJ (by rw[e];exact hkB))
  intro X o b ho iK;rcases kQ X o ho with⟨rfl,rfl⟩|⟨rfl,rfl⟩|⟨n1,n2,ho⟩
  rcases zhU b iK with h|rfl
  exact S.own _ _ b hL h;exact S.own M _ _ hM hMB;exact iK.elim;rw[gZ (fG X n1)]at iK;exact S.own X o b ho iK;intro X o b Y o' ho lq hb1 VC;rcases kQ X o ho with⟨rfl,rfl⟩|⟨rfl,rfl⟩|⟨n1,n2,o9⟩<;>rcases kQ Y o' lq with⟨rfl,rfl⟩|⟨rfl,rfl⟩|⟨n1',n2',nT⟩
  rfl;exact VC.elim;rw [gZ (fG Y n1')]at VC;rcases zhU b hb1 with h|rfl
  exact S.sep _ _ b Y _ hL nT h VC;exact(n2' (S.sep M _ _ Y _ hM nT hMB VC).symm).elim;exact hb1.elim;exact hb1.elim;exact hb1.elim;rw [gZ (fG X n1)]at hb1;rcases zhU b VC with h|rfl
  exact S.sep X _ b _ _ o9 hL hb1 h;exact(n2 (S.sep X _ _ M _ o9 hM hb1 hMB)).elim;exact VC.elim;rw [gZ (fG X n1)]at hb1;rw[gZ (fG Y n1')]at VC;exact S.sep X _ b Y _ o9 nT hb1 VC;exact S.hw.same λb x FU=>rq b λe=>by subst e;have:=(S.own L _ b hL hkB).2;rw[FU]at this;cases this
  obtain⟨o,ho⟩:=S.clE t d h X hX;exact yG X o ho;intro X o ho Y hY;rcases kQ X o ho with⟨rfl,rfl⟩|⟨rfl,rfl⟩|⟨n1,n2,ho⟩
  simp[dW]at hY;simp[dW]at hY;obtain⟨o',lq⟩:=S.clO X o ho Y hY;exact yG Y o' lq
theorem zeI{o:Oper}{t:TypeId}{x y:Operand}{A:aH}(S:bW P nt B w0 h0 g σ a w)(hd:dI nt o.dst=true)(aZ:o.op = .store t x y)
    (hA:act P Γ o (fV σ.env) (lk σ.ay)=A) (hs:A.safe):jD P nt B w0 h0 r n i o A σ a w Q:=by
  simp only[act,aSt,aZ]at hA;split at hA;rename_i m L off d jU hx hy;have yK:=(iY S hx).1;simp only[jw]at yK;have hdR:=S.ev y;have hdL:=S.evLab y;rw[hy]at hdR hdL;split at hA;rename_i ty cells hL;obtain⟨C,hC,hr⟩:=S.obj L _ hL;split at hA;rename_i dw;simp only[gq,Vs]at dw;obtain⟨⟨hm,hle⟩,gy⟩:=dw;have hm:=lH hm;subst hA;have Vo:=vG hdR gy;have AX:=Vo.length;have oz:=hr.length;have hvm:(a.eval y).cells.size=m:=by rw[<- hm,AX];simp
  have hCl:cells.length=C.size:=by rw[oz];simp
  obtain⟨w',dh,hb,Zp,rq,h5,h6,h7,h8⟩:=wV (P:=P) (m:=m) (off:=off) (v:=a.eval y) jU hvm hC omY (cells_one hdR gy);have jv:=S.own L _ _ hL rfl
  have S' := S.write (o' := .box ty (spl cells off d.cells)) hL (fun b hb => hb) (Dw jv.1 Zp rq h5 h6 h7 h8) (fun b hb => rq b (fun e => hb (by rw [e]; rfl)))
    ⟨_,hb,by simpa using hr.spl Vo off⟩ (λM hM=>by
      rcases zcc off M hM with h|h
      exact S.clO L _ hL M h
      · refine hdL M ?_;cases d with|c z=>simpa [D1.cells,cO,dD]using h|agg cs=>simpa [D1.cells,cO,dD]using h)
  refine Jv (by simp[aZ]) (w':=w') ?_ ⟨g,_,rfl,by rw[gu];exact S'.put hd (d:=.junk) trivial Lj _⟩;simp only[execOp,aZ,Sem.run_bind,Instr.storeAt,yK,Instr.sureAddr,Sem.run_pure,Result.andThen_ok,dh];subst hA;exact hs.elim;subst hA;exact hs.elim;rename_i m L s ii kk d jU hx hy;obtain⟨b,cZ,yK⟩:=(iY S hx).1;have hdR:=S.ev y;rw[hy]at hdR;split at hA;rename_i e s' PN len get hL;split at hA;rename_i l hl;split at hA;rename_i dw;simp only[gq,Vs]at dw;obtain⟨⟨⟨PM,hm⟩,hle⟩,sN⟩:=dw;have PM:=lH PM;have hm:=lH hm;subst PM;subst hA;have iM:ii<len:=hs;have hcs:=oO hl;have gy:d.cells.all C9=true:=by rw[hcs];exact zoD l
  have Vo:=vG hdR gy;have AX:=Vo.length;rw[hcs]at Vo;have Vo:=RL.map_left.1 Vo;obtain⟨b',C,iK,⟨cap,mG⟩,hC,hCs,hgl,_⟩:=vI (S.obj L _ hL) iM;rw[cZ]at iK;simp only[bV]at iK;subst iK;have hlc:l.length=(a.eval y).cells.size:=by rw[hcs,qdn]at AX;simpa using AX
  obtain⟨w',dh,hb,Zp,rq,h5,h6,h7,h8⟩:=wV (P:=P) (v:=a.eval y) jU omY hC (show ii*s+kk+m<=C.size by omega) (cells_one hdR gy);have jv:=S.own L _ _ hL cZ;have IY:=(S.obj L _ hL).1.1;have hu0:=(IY 0 ii).length;have hvr:=zoF (S.obj L _ hL) cZ iM omY hC hb Vo (zb8 IY omY (by rw[hm];exact sN) (yQ Vo));have hnz:nzG (get 0) (Dc ii kk get l)=Dc ii kk get l:=ZM λj=>by
    have h1:=zb8 (i:=ii) IY (show kk+l.length<=(get 0).length by omega) (by rw[hm];exact sN) (yQ Vo) (ii+1) j;have h2:Dc ii kk get l (ii+1)=get (ii+1):=by unfold Dc;rw[show Nat.beq (ii+1) ii=false from Bool.eq_false_iff.2 λh=>by have:=lH h;omega]
    rw[h2]at h1;exact(IY 0 (ii+1)).trans h1
  rw[hnz];have S':=S.write (o':=.vec e s PN len (Dc ii kk get l)) hL (λb hb=>hb) (Dw jv.1 Zp rq h5 h6 h7 h8) (λk hk=>rq k (λe=>hk (by rw[e];exact cZ))) hvr (λM hM=>by simp[dW]at hM);refine Jv (by simp[aZ]) (w':=w') ?_ ⟨g,_,rfl,by rw[gu];exact S'.put hd (d:=.junk) trivial Lj _⟩;simp only[execOp,aZ,Sem.run_bind,Instr.storeAt,yK,Instr.sureAddr,Sem.run_pure,Result.andThen_ok,dh];subst hA;exact hs.elim;subst hA;exact hs.elim;rename_i te bb e s' PN len ln get io hL;split at hA;rename_i M;split at hA;rename_i e2 s2 b2 mm lW hM;split at hA;rename_i dw;simp only[gq,H6]at dw;obtain⟨⟨⟨h1,h2⟩,h3⟩,h4⟩:=dw;have h1:=lH h1;have h2:=lH h2;have h3:=lH h3;have h4:=qdz h4;subst h1 h2 h3;split at hA;rename_i hq;obtain⟨rfl,rfl,rfl,sN⟩:=hq;subst hA;have hnz:zx4 (get 0 0) (pJ ii lW get)=pJ ii lW get:=zos λi j=>by
    have h1:=zcg (ii:=ii) (S.obj L _ hL).1.1 (S.obj M _ hM).1.1 sN (ii+1) 0 i j;have h2:pJ ii lW get (ii+1)=get (ii+1):=by unfold pJ;rw[show Nat.beq (ii+1) ii=false from Bool.eq_false_iff.2 λh=>by have:=lH h;omega]
    rw[h2]at h1;exact((S.obj L _ hL).1.1 0 0 (ii+1) 0).trans h1
  rw[hnz];have iM:ii<len/\ii=io/\0<mm:=hs;obtain⟨zOr,rfl,z0y⟩:=iM;obtain⟨b',C,cap,mG,hC,ou⟩:=V8 (S.obj L _ hL) zOr;obtain⟨_,hB,zOl⟩:∃_:True,B<=b'/\ii<C.size:=⟨trivial,(S.own L _ b' hL (.inl (by rw[mG];rfl))).1,(VD.1 ou).1⟩;rw[mG]at cZ;simp only[Value.ownBlock,bV]at cZ;subst cZ;have RD:a.eval y=g.sv M/\_:=hdR;have AX:(a.eval y).cells = #[g.sv M]:=by
    obtain⟨_,_,xsM,hxM,_⟩:=S.obj M _ hM;rw[RD.1];rcases hxM.2 with⟨h1,_⟩|⟨_,_,_,h1,_⟩<;>rw[h1]<;>rfl
  have hoc:(g.sv M).oneCell'=true:=by
    obtain⟨_,_,xsM,hxM,_⟩:=S.obj M _ hM;rcases hxM.2 with⟨h1,_⟩|⟨_,_,_,h1,_⟩<;>rw[h1]<;>rfl
  obtain⟨w',dh,hb,Zp,rq,h5,h6,h7,h8⟩:=wV (P:=P) (m:=1) (off:=ii*1+0) (v:=a.eval y) jU (by rw[AX];rfl) hC omY (by rw[AX];simpa using hoc);have mJ:w'.heap[b']? = some (.cells (C.setIfInBounds ii (g.sv M)) te (0,0)):=by
    rw[hb,AX];congr 2;simp only[spl];apply Array.toList_inj.1;simp
  have S':=S.setVec hL hM h4 zOr z0y (zcg (S.obj L _ hL).1.1 (S.obj M _ hM).1.1 sN) (by rw[mG];rfl) hC mJ rq (Dw hB Zp rq h5 h6 h7 h8);refine Jv (by simp[aZ]) (w':=w') ?_ ⟨_,_,rfl,by rw[gu];exact S'.put hd (d:=.junk) trivial Lj _⟩;simp only[execOp,aZ,Sem.run_bind,Instr.storeAt,yK,Instr.sureAddr,Sem.run_pure,Result.andThen_ok,dh];subst hA;exact hs.elim;subst hA;exact hs.elim;subst hA;exact hs.elim;subst hA;exact hs.elim;subst hA;exact hs.elim;subst hA;exact hs.elim
end
end Go.Pm
namespace Go.Pm
variable [aC]
open Go.RowKit (Below)
section
variable{P:Program}{Γ:bK}{nt B:Nat}{w0:World}{h0:Fz}{g:Gh}{σ:St}{a:Act}{w:World}{r:Option Nat}{n i:Nat}{Q:Exit->Act->World->Prop}
theorem Ia{ob:Nat→Option AO}:∀{cs:List Cl}{l:List PV}{u:mP},jL ob cs=some (l,u)→cs.all C9=true∧l.length=cs.length
  | [],l,u,h=>by simp[jL]at h;rw[h.1];exact⟨rfl,rfl⟩
  | c::cs,l,u,h=>by
    simp only[jL]at h;split at h;rename_i v u1 l2 u2 h1 h2;simp only[bV,gJ]at h;rw[<- h.1];obtain⟨h3,h4⟩:=Ia h2;refine⟨?_,by simp[h4]⟩;have:C9 c=true:=by
      unfold Aw at h1;split at h1;rfl;rfl;cases h1
    simp[this,h3];cases h
theorem Ll{ob:Nat->Option AO}{ev:Operand->DV}{s:Nat}:∀(parts:List (Nat×Operand))(i:Nat)(ls:List (List PV))(u:mP)(jA:List Nat),
  jG ob ev s i parts=some (ls,u,jA)->fF ob u
 | [],i,ls,u,jA,h=>by simp[jG]at h;rw[h.2.1];exact fF.nil ob
 | (j,o)::r,i,ls,u,jA,h=>by
  simp only[jG]at h;split at h;split at h;split at h;rename_i h1 h2;split at h;simp only [bV,gJ]at h;rw[<- h.2.1];exact(KX h1).append (Ll r _ _ _ _ h2);cases h;cases h;cases h;cases h
theorem Lm{ob:Nat→Option AO}{ev:Operand→DV}{ρ:Operand→Value}{s:Nat}{u':mP}{h':Fz}(hev:∀o,rO g (ev o) (ρ o))(F:fM g ob u' h') :
    ∀(parts:List (Nat×Operand))(i:Nat)(ls:List (List PV))(u:mP)(jA:List Nat)(C:Array Value)(N:Nat),jG ob ev s i parts=some (ls,u,jA)->(∀y∈u,y∈u') ->
      C.size=N*s->i+ls.length<=N ->
      ∃ D:Array Value,Instr.fill (λ k=>some (k * s,s)) C (parts.map λ x=>(x.1,ρ x.2))=some D/\D.size=C.size/\(∀ q,q < i * s->D[q]? = C[q]?) /\
        ∀k l,ls[k]? = some l->RL (Rep h') l ((D.toList.drop ((i+k)*s)).take s)
  | [],i,ls,u,jA,C,N,h,hu,hC,hN=>by
    simp[jG]at h;refine⟨C,rfl,rfl,λ_ _=>rfl,?_⟩;intro k l hk;rw[h.1]at hk;simp at hk
  | (j,o)::r,i,ls,u,jA,C,N,h,hu,hC,hN=>by
    have hd:=hev o;simp only[jG]at h;split at h;rename_i Jm;have Jm:=lH Jm;subst Jm;split at h;rename_i d he;rw[he]at hd;split at h;rename_i l1 u1 ls1 us1 zGY h1 h2;split at h;rename_i hlen;have hlen:=lH hlen;simp only[bV,gJ]at h;obtain⟨hls,OT,_⟩:=h;subst hls;rw[<- OT]at hu;obtain⟨gy,hll⟩:=Ia h1;have Vo:=vG hd gy;have AX:=Vo.length;have zg4:=F.repL0 h1 (λy hy=>hu y (dX.2 (.inl hy))) Vo;have jS:(ρ o).cells.size=s:=by
      have:(ρ o).cells.toList.length=(ρ o).cells.size:=by simp
      omega
    simp only[Bo]at hN;have hb:i*s+s<=N*s:=by have:=RJ s (show i+1<=N by omega);rw[Vr]at this;exact this
    obtain ⟨D, hD, hDs, zbT, H5⟩ := Lm hev F r (i + 1) ls1 us1 zGY (spl C.toList (i * s) (ρ o).cells.toList).toArray N h2 (fun y hy => hu y (dX.2 (.inr hy)))
      (by simp[lY,hC]) omY
    have jU:(spl C.toList (i*s) (ρ o).cells.toList).toArray.size=C.size:=by simp[lY]
    have zbV:∀q,(spl C.toList (i*s) (ρ o).cells.toList).toArray[q]? = if i*s<=q/\q<i*s+s then(ρ o).cells.toList[q-i*s]? else C[q]?:=by
      intro q;simp only[qjT];rw[Dq _ _ _ _ (by simp[jS,hC];omega)];simp[jS]
    refine⟨D,?_,hDs.trans jU,?_,?_⟩;simp only [nX,Instr.fill];have h3:¬((decide ((ρ o).cells.size≠s)||decide (i*s+(ρ o).cells.size>C.size))=true):=by simp[jS,hC];omega
    rw[fH h3,<- hD];refine jX (λz=>Instr.fill _ z _) ?_;have:=F8 (i*s) (ρ o).cells.toList 0 C;rw[qd3]at this;rw[<- this];cases(ρ o).cells;simp;intro q hq;rw[zbT q (by rw[Vr];omega),zbV,fH omY]
    · intro k l hk;cases k with
      | zero =>
        simp only[qdE,bV]at hk;subst hk;have e:(D.toList.drop ((i+0)*s)).take s=(ρ o).cells.toList:=by
          apply qdk;intro q;by_cases hq:q<s;rw [Jn,eY hq,qdl,qd3];have:=zbT (i*s+q) (by rw[Vr];omega);rw[zbV,eY omY,show i*s+q-i*s=q by omega]at this;simpa using this;rw [Jn,fH hq];symm;apply qdm;simp[jS];omega
        rw[e];exact zg4
      | succ k =>
        have:=H5 k l (by simpa using hk);rwa[show i+1+k=i+(k+1)by omega]at this
    cases h;cases h;cases h;cases h
theorem Lp(ls:List (List PV))(k:Nat)(h:k<ls.length):ls[k]? = some (Bq ls k):=by
 unfold Bq;split;simp at h;rename_i c;simp at h;subst h;rfl;rename_i c r _;have:∃x,(c::r)[k]? = some x:=⟨_,Au h⟩;obtain⟨x,hx⟩:=this;simp only[hx]
theorem jo{e:TypeId}{z:List Cl}(hz:iw P e=some z){ie:TypeInfo}(hi:P.info? e=some ie):∃v,ie.zero=some v/\v.cells.size=ie.size:=by
 obtain⟨i',v,h1,h2,h3⟩:=zey hz;rw[hi]at h1;simp only[bV]at h1;subst h1;exact⟨v,h2,h3⟩
theorem Lr{o:Oper}{t:TypeId}{m:Nat}{parts:Array (Nat×Operand)}{A:aH}(S:bW P nt B w0 h0 g σ a w)(hd:dI nt o.dst=true)(aZ:o.op = .buildSlice t m parts)
    (hA:act P Γ o (fV σ.env) (lk σ.ay)=A) (hs:A.safe):jD P nt B w0 h0 r n i o A σ a w Q:=by
  simp only[act,aBs,aZ]at hA;split at hA;rename_i e hu;split at hA;rename_i ie hi;split at hA;rename_i ls u jA hp;split at hA;rename_i z dst dw hz Hy;split at hA;rename_i iF;simp only[gq,Vs]at dw;obtain⟨⟨⟨hm,z0x⟩,iU⟩,sN⟩:=dw;have hm:=lH hm;subst hA;obtain⟨zv,Hz,AQ⟩:=jo hz hi;have gy:=Ll _ _ _ _ _ hp;obtain⟨h',S1,F⟩:=S.freeze gy;have jU:qI P e=some ie.size:=by simp[qI,hi]
  obtain⟨D,hD,hDs,_,H5⟩:=Lm (λx=>S.ev x) F parts.toList 0 ls u jA ((Array.range (m*ie.size)).map (zv.cells[· % zv.cells.size]!)) m hp (λ_ h=>h) (by simp) omY;have zoG:D.size=m*ie.size:=by rw[hDs];simp
  have hmm:m<=1000000:=FN (Nat.le_mul_of_pos_right m iU) z0x;let w':=w.alloc (.cells D e);have dh:(execOp a.eval o).run P w=.ok (.value (.slice (some ⟨w.heap.size,0,none⟩) m m)) w':=by
    simp only[execOp,aZ,Instr.buildSlice,Sem.run_bind,run_underlying hu,Result.andThen_ok,run_sizeOf jU];rw[Sem.run_ite,fH omY];by_cases h00:m*ie.size=0;have hm0:m=0:=by
      rcases Nat.mul_eq_zero.1 h00 with h|h
      exact h;omega
    subst hm0;have hpn:parts.toList=[]:=by
      cases Jk:parts.toList with
      | nil=>rfl
      | cons x xs =>
        rw[Jk]at hp;obtain⟨j,q⟩:=x;simp only[jG]at hp;split at hp;split at hp;split at hp;split at hp;simp only [bV,gJ]at hp;rw[<- hp.1]at hm;simp at hm;cases hp;cases hp;cases hp;cases hp
    have hDe:D = #[]:=by apply Array.eq_empty_of_size_eq_zero;simp[zoG]
    rw[eY (by simp)];simp only[Sem.run_bind,Sem.run_pure,Result.andThen_ok,qjo,hpn,qdY,Instr.fill];simp only[hDe,newRow,jqQ,Sem.run_bind,run_newObj,Result.andThen_ok,Sem.run_pure,w'];rw[show(Array.range 0) = #[]from rfl,List.map_toArray];rfl;rw [fH h00];simp only[Sem.run_bind,lK hi Hz,Sem.run_pure,Result.andThen_ok,qjo];rw[hD];simp[w',newRow]
  have hnz:nzG (Bq (ls.map (AA P e)) 0) (Bq (ls.map (AA P e)))=Bq (ls.map (AA P e)):=ZM λi=>VO (λc hc=>by
    obtain⟨c,hc,rfl⟩:=uV.1 hc;obtain⟨k,hk⟩:=ZI ‹c∈ls›;exact yQ (vz (H5 k _ hk))) sN 0 i
  rw[hnz];have zhV:Dp P ((⟨h',g.bk,g.sv,g.iv⟩:Gh).setSv dst (.slice (some ⟨w.heap.size,0,none⟩) m m)) w' B dst e ie.size ie.bytes m (Bq (ls.map (AA P e))):=by
    refine⟨⟨VO (λc hc=>?_) sN,iU⟩,⟨ie,zv,hi,rfl,rfl,Hz,AQ⟩,D.toList,?_,?_⟩;obtain⟨c,hc,rfl⟩:=uV.1 hc;obtain⟨k,hk⟩:=ZI ‹c∈ls›;exact yQ (vz (H5 k _ hk));rw [show((⟨h',g.bk,g.sv,g.iv⟩:Gh).setSv dst (.slice (some ⟨w.heap.size,0,none⟩) m m)).sv dst = .slice (some ⟨w.heap.size,0,none⟩) m m by simp [Gh.setSv]];refine⟨by simpa using zoG,.inr ⟨w.heap.size,m,D,rfl,S.bs,heap_alloc_new w _,kD _,?_,zoG,?_⟩⟩;simp only[maxLen];omega;rw[<- zoG,<- qja,List.take_length];intro k hk;have:=H5 k _ (Lp ls k omY);rw[O3]at this;have e2:Bq (ls.map (AA P e)) k=AA P e (Bq ls k):=by
      have h1:=Lp (ls.map (AA P e)) k (by rw[qdn];omega);rw[qdd,Lp ls k omY,RU,bV]at h1;exact h1.symm
    rw[e2];exact vz this
  have z1a:lk (u++σ.ay) dst=none:=by
    rw[iC];cases hl:lk u dst with
    | none=>exact iF
    | some x =>
      have:=gy _ (fO hl);rcases this with⟨_,_,_,_,_,h5,_⟩|⟨_,_,_,_,h5,_⟩|⟨_,_,_,_,_,_,_,_,h5,_⟩<;>(simp only at h5;rw[iF]at h5;cases h5)
  have S2:=S1.newVec (t:=dst) (w':=w') z1a ⟨(Below.refl B w).alloc S.bs _,kD _⟩ (λb hb=>heap_alloc_old w _ b hb) (λb hb=>by simp[Value.ownBlock]at hb;omega) zhV;refine qp (by simp[aZ]) dh ⟨(⟨h',g.bk,g.sv,g.iv⟩:Gh).setSv dst (.slice (some ⟨w.heap.size,0,none⟩) m m),σ.upd i o.dst (wr jA++[(dst,true)]) (.cl (.vec dst)) ((dst,.vec e ie.size ie.bytes m (Bq (ls.map (AA P e))))::u) [],rfl,?_⟩;rw[gu];refine S2.put (v:=.slice (some ⟨w.heap.size,0,none⟩) m m) hd (d:=.cl (.vec dst)) ?_ ?_ _;simp[rO,A7,jw,Gh.setSv,Value.oneCell'];intro L hL;simp[cO,dD,bC]at hL;subst hL;exact⟨_,by rw[aX,eY rfl]⟩;subst hA;exact hs.elim;subst hA;exact hs.elim;subst hA;exact hs.elim;subst hA;exact hs.elim;subst hA;exact hs.elim
end
end Go.Pm
namespace Go.Pm
variable [aC]
open Go.RowKit (Below)
theorem pO{α:Type}{f:α->α}{l:List (Nat×α)}{k:Nat}:lk (kills f l) k=(lk l k).map f:=by
 induction l with
 | nil=>rfl
 | cons x l ih =>
  obtain⟨j,a⟩:=x;rw[kills,aX,aX];split;rfl;exact ih
section
variable{P:Program}{Γ:bK}{nt B:Nat}{w0:World}{h0:Fz}{g:Gh}{σ:St}{a:Act}{w:World}{r:Option Nat}{n i:Nat}{Q:Exit->Act->World->Prop}
theorem zch{l:List Nat}{g':Gh}(hh:kF g.h g'.h)(uh:∀M,g'.bk M=g.bk M)(hs:∀M,M∉l->jl g g' M){c:Cl}{x:Value}(h:jw g c x):jw g' (gz l c) x:=by
 cases c with
 | p v=>exact Rep.mono hh h
 | ptr M off=>simp only[gz,jw]at h ⊢;rw[uh M];exact h
 | vptr M s k q =>
  show jw g' (match l.contains M with|true=>.dead M|false=>.vptr M s k q) x;cases hM:l.contains M with
  | true=>trivial
  | false =>
   have jk:M∉l:=by simpa using hM
   simpa [jw,(hs M jk).2.1]using h
 | vec M =>
  show jw g' (match l.contains M with|true=>.dead M|false=>.vec M) x;cases hM:l.contains M with
  | true=>trivial
  | false =>
   have jk:M∉l:=by simpa using hM
   simpa [jw,(hs M jk).2.1]using h
 | mo M =>
  show jw g' (match l.contains M with|true=>.dead M|false=>.mo M) x;cases hM:l.contains M with
  | true=>trivial
  | false =>
   have jk:M∉l:=by simpa using hM
   simpa [jw,(hs M jk).2.1]using h
 | clo f caps=>obtain⟨cv,e,hr⟩:=h;exact⟨cv,e,ry (λ_ _=>Rep.mono hh) (λM _=>uh M) hr⟩
 | undef=>exact h
 | junk=>trivial
 | dead M=>trivial
theorem Dx{l:List Nat}{g':Gh}(hh:kF g.h g'.h)(uh:∀M,g'.bk M=g.bk M)(hs:∀M,M∉l→jl g g' M):∀{cs:List Cl}{vs:List Value},RL (jw g) cs vs→RL (jw g') (cs.map (gz l)) vs|[],[],_=>trivial|[],_::_,h=>h.elim|_::_,[],h=>h.elim|_::_,_::_,h=>⟨zch hh uh hs h.1,Dx hh uh hs h.2⟩
theorem Wn{l:List Nat}{g':Gh}(hh:kF g.h g'.h)(uh:∀M,g'.bk M=g.bk M)(hs:∀M,M∉l->jl g g' M){d:D1}{x:Value}(h:A7 g d x):A7 g' (fZ l d) x:=by
 cases d with
 | c y=>exact zch hh uh hs h
 | agg cs=>obtain⟨vs,rfl,hr⟩:=h;exact⟨vs,rfl,Dx hh uh hs hr⟩
theorem Qh{l:List Nat}{g':Gh}(hh:kF g.h g'.h)(uh:∀M,g'.bk M=g.bk M)(hs:∀M,M∉l→jl g g' M):∀{cs:List D1}{vs:List Value},RL (A7 g) cs vs→RL (A7 g') (cs.map (fZ l)) vs|[],[],_=>trivial|[],_::_,h=>h.elim|_::_,[],h=>h.elim|_::_,_::_,h=>⟨Wn hh uh hs h.1,Qh hh uh hs h.2⟩
theorem zci{l:List Nat}{g':Gh}(hh:kF g.h g'.h)(uh:∀M,g'.bk M=g.bk M)(hs:∀M,M∉l->jl g g' M){d:DV}{x:Value}(h:rO g d x):rO g' (gY l d) x:=by
 cases d with
 | one y=>exact Wn hh uh hs h
 | tup ds=>obtain⟨vs,rfl,hr⟩:=h;exact⟨vs,rfl,Qh hh uh hs hr⟩
theorem Qi{l:List Nat}{c:Cl}:∀M∈bC (gz l c),M∈bC c:=by
 intro M hM;cases c with
 | vec K =>
  have hM:M∈bC (match l.contains K with|true=>.dead K|false=>.vec K):=hM;cases h:l.contains K with|true=>rw[h]at hM;exact hM|false=>rw[h]at hM;exact hM
 | vptr K s k q =>
  have hM:M∈bC (match l.contains K with|true=>.dead K|false=>.vptr K s k q):=hM;cases h:l.contains K with|true=>rw[h]at hM;exact hM|false=>rw[h]at hM;exact hM
 | mo K =>
  have hM:M∈bC (match l.contains K with|true=>.dead K|false=>.mo K):=hM;cases h:l.contains K with|true=>rw[h]at hM;exact hM|false=>rw[h]at hM;exact hM
 | _=>exact hM
theorem Qj{l:List Nat}{cs:List Cl}:∀M∈(cs.map (gz l)).flatMap bC,M∈cs.flatMap bC:=by
 intro M hM;simp only[lU,uV]at hM ⊢;obtain⟨_,⟨c,hc,rfl⟩,hM⟩:=hM;exact⟨c,hc,Qi M hM⟩
theorem Ls{l:List Nat}{d:D1}:∀M∈dD (fZ l d),M∈dD d:=by
 cases d with|c y=>exact Qi|agg cs=>exact Qj
theorem Qk{l:List Nat}{d:DV}:∀M∈cO (gY l d),M∈cO d:=by
 cases d with
 | one y=>exact Ls
 | tup ds =>
  intro M hM;simp only[gY,cO,lU,uV]at hM ⊢;obtain⟨_,⟨d,hd,rfl⟩,hM⟩:=hM;exact⟨d,hd,Ls M hM⟩
theorem Ql{l:List Nat}{o:AO}:∀M∈dW (fE l o),M∈dW o:=by
 cases o with|box ty cs=>exact Qj|_=>exact λ_ h=>h
theorem bW.regrow(S:bW P nt B w0 h0 g σ a w){L:Nat}{o0 o':AO}{g':Gh}{w':World}{gs:List (Nat×AO)}{row:Option Nat}(hL:lk σ.ay L=some o0)
    (hh:g'.h=g.h) (uh:∀M,g'.bk M=g.bk M) (hs:∀M,M≠L->jl g g' M) (hgs:∀x∈gs,x.2=.gone/\x.1≠L)
    (hg:GrB w w' row) (znp:∀k,row=some k->iy g L o0 k)
    (cZ:∀k,iy g' L o' k->iy g L o0 k\/w.heap.size<=k\/∃T oT,(T,.gone)∈gs/\lk σ.ay T=some oT/\iy g T oT k)
    (hv:OX P g' w' B L o') (AU:dW o'=[]) (log:List (Nat×Nat×Nat)) :
    bW P nt B w0 h0 g' ⟨kills (gY [L]) σ.env,(L,o')::(gs++kills (fE [L]) σ.ay),log⟩ a w':=by
  have kQ:∀M x,lk ((L,o')::(gs++kills (fE [L]) σ.ay)) M=some x->(M=L/\x=o')\/x=.gone\/(M≠L/\(M,.gone)∉gs/\∃o,lk σ.ay M=some o/\x=fE [L] o):=by
    intro M x h;rw[aX]at h;split at h;rename_i e;simp only[bV]at h;exact .inl ⟨e.symm,h.symm⟩
    · rename_i e;rw[iC]at h;cases hgM:lk gs M with
      | some y =>
        rw[hgM]at h;simp only[bV]at h;subst h;exact .inr (.inl (hgs _ (fO hgM)).1)
      | none =>
        rw[hgM]at h;simp only[]at h;rw[pO]at h;obtain⟨o,ho,rfl⟩:=Zw.1 h;exact .inr (.inr ⟨λe'=>e e'.symm,SG hgM _,o,ho,rfl⟩)
  have yG:∀M o,lk σ.ay M=some o->∃x,lk ((L,o')::(gs++kills (fE [L]) σ.ay)) M=some x:=by
    intro M o h;rw[aX];split;exact⟨_,rfl⟩
    · rw [iC];cases lk gs M with|some y=>exact⟨y,rfl⟩|none=>rw[pO,h];exact⟨_,rfl⟩
  have Lt:∀M o,M≠L->iy g' M (fE [L] o)=iy g M o:=by
    intro M o jk;have:=hs M jk;funext k;cases o<;>simp[fE,iy,this.1,this.2.1,this.2.2]
  have hold:∀k,k<w.heap.size->¬iy g L o0 k->w'.heap[k]? = w.heap[k]?:=λk hk jk=>hg.block k hk (λe=>jk (znp k e.symm));have O1:Hw g.h w':=S.hw.same λk o hk=>hold k (vH S.hw hk) (λe=>by have:=(S.own L o0 k hL e).2;rw[this]at hk;cases hk);have sH:KR B w w':=⟨⟨hg.os,hg.tape,hg.output,hg.size,λk hk=>hold k (qdx hk S.bs) (λe=>by have:=(S.own L o0 k hL e).1;omega)⟩,hg.drawn⟩;have Vl:∀k,w.heap.size<=k->B<=k/\g.h k=none:=λk hk=>by
    refine⟨FN S.bs hk,?_⟩;cases hh:g.h k with|none=>rfl|some x=>exact absurd (vH S.hw hh) omY
  refine⟨by rw[hh];exact S.dfr,S.size,?_,?_,?_,?_,by rw[hh];exact O1,by rw[hh];exact S.le0,by rw[hh];exact S.hn,S.below.trans (.of sH),FN S.bs hg.size,?_,?_⟩;intro t d ht;rw[pO]at ht;obtain⟨d',gI,rfl⟩:=Zw.1 ht;exact zci (by rw[hh];exact λ_ _ h=>h) uh (λM hM=>hs M (by simpa using hM)) (S.env t d' gI);intro M x hx;rcases kQ M x hx with⟨rfl,rfl⟩|rfl|⟨jk,hng,o,ho,rfl⟩
  exact hv;trivial
  · have IX:∀k,iy g M o k->w'.heap[k]? = w.heap[k]?:=λk hk =>
      hold k (iW (S.obj M o ho) hk) (λe=>jk (S.sep M o k L _ ho hL hk e))
    have hr:=S.obj M o ho;have hsM:=hs M jk;have hle:kF g.h g'.h:=by rw[hh];exact λ_ _ h=>h
    cases o with
    | box ty cs =>
      obtain⟨C,hC,hr⟩:=hr;exact⟨C,by rw[uh M,IX _ rfl];exact hC,Dx (by rw[hh];exact λ_ _ h=>h) uh (λM hM=>hs M (by simpa using hM)) hr⟩
    | fbox cs =>
      obtain⟨C,ty,fr,hC,hr⟩:=hr;exact⟨C,ty,fr,by rw[hh,uh M];exact hC,by rw[hh];exact hr⟩
    | vec e' s' b' m2 lW=>exact Qd hr hsM.2.1 hle IX
    | fvec s' m2 lW =>
      simp only[fE,OX]at hr ⊢;rw[hsM.2.1,hh];exact hr
    | vv te bb e' s' b' m2 ln2 lW=>exact V3 hr hsM hle IX
    | vt te bb e' s' b' m2 ln2 lW o2=>exact V4 hr hsM hle IX
    | mo kt vt q m2 F =>
      obtain⟨es,clock,hC,hr⟩:=hr;exact⟨es,clock,by rw[hsM.2.1,IX _ rfl];exact hC,hr⟩
    | gone=>trivial
  intro M x k hx hk;rw[hh];rcases kQ M x hx with⟨rfl,rfl⟩|rfl|⟨jk,hng,o,ho,rfl⟩
  rcases cZ k hk with h|h|⟨T,oT,_,hT,h⟩
  exact S.own M o0 k hL h;exact Vl k h;exact S.own T oT k hT h;exact hk.elim;rw [Lt M o jk]at hk;exact S.own M o k ho hk;intro M x k M' x' hx yK hk jR;have RF:∀M o,lk σ.ay M=some o->M≠L->(M,.gone)∉gs->iy g M o k->iy g' L o' k->False:=by
    intro M o ho jk hng hk jR;rcases cZ k jR with h|h|⟨T,oT,hT,hT2,h⟩
    exact jk (S.sep M o k L _ ho hL hk h);exact absurd (iW (S.obj M o ho) hk) omY;exact hng (by rw[S.sep M o k T oT ho hT2 hk h];exact hT)
  rcases kQ M x hx with⟨rfl,rfl⟩|rfl|⟨jk,hng,o,ho,rfl⟩<;>rcases kQ M' x' yK with⟨rfl,rfl⟩|rfl|⟨zg6,zRI,o2,o9,rfl⟩
  rfl;exact jR.elim;rw [Lt M' o2 zg6]at jR;exact(RF M' o2 o9 zg6 zRI jR hk).elim;exact hk.elim;exact hk.elim;exact hk.elim;rw [Lt M o jk]at hk;exact(RF M o ho jk hng hk jR).elim;exact jR.elim;rw [Lt M o jk]at hk;rw [Lt M' o2 zg6]at jR;exact S.sep M o k M' o2 ho o9 hk jR;intro t d ht M hM;rw[pO]at ht;obtain⟨d',gI,rfl⟩:=Zw.1 ht;obtain⟨o,ho⟩:=S.clE t d' gI M (Qk M hM);exact yG M o ho;intro M x hx N hN;rcases kQ M x hx with⟨rfl,rfl⟩|rfl|⟨jk,hng,o,ho,rfl⟩
  rw[AU]at hN;simp at hN;simp[dW]at hN;obtain⟨o2,o9⟩:=S.clO M o ho N (Ql N hN);exact yG N o2 o9
theorem bW.grow(S:bW P nt B w0 h0 g σ a w){L e s b m m':Nat}{get get':Nat→List PV}{v':Value}{w':World}{dst:Option Nat}(hL:lk σ.ay L=some (.vec e s b m get))(hd:dI nt dst=true)
    (hg:GrB w w' (g.sv L).ownBlock) (Jk:v'.ownBlock=(g.sv L).ownBlock\/v'.ownBlock=some w.heap.size\/v'.ownBlock=none) (hv:Dp P (g.setSv L v') w' B L e s b m' get') (h1:v'.oneCell'=true) (log:List (Nat×Nat×Nat)) :
    bW P nt B w0 h0 (g.setSv L v') ⟨ZX dst (.cl (.vec L)) (kills (gY [L]) σ.env),(L,.vec e s b m' get')::kills (fE [L]) σ.ay,log⟩ (a.put dst v') w':=by
  have mG:(g.setSv L v').sv L=v':=by simp[Gh.setSv]
  have S1 := S.regrow (o' := .vec e s b m' get') (g' := g.setSv L v') (gs := []) (row := (g.sv L).ownBlock) hL rfl (fun _ => rfl) KW (fun x hx => by simp at hx) hg (fun k hk => hk)
    (λk hk=>by
      simp only[iy,mG]at hk;rcases Jk with h|h|h
      exact .inl (by show(g.sv L).ownBlock=some k;rw[<- h];exact hk);rw[h]at hk;simp only[bV]at hk;exact .inr (.inl omY);rw[h]at hk;cases hk) hv rfl log
  refine S1.put hd (d:=.cl (.vec L)) (v:=v') ⟨mG.symm,h1⟩ ?_ log;intro M hM;simp[cO,dD,bC]at hM;subst hM;exact⟨_,by rw[aX,eY rfl]⟩
def zGZ(w:World)(v:Value)(m s:Nat)(news:List Value):Prop :=
 (m=0/\(v=.slice none 0 0\/∃a c,v=.slice (some a) 0 c)/\news=[])\/∃(b o cap:Nat),v=.slice (some ⟨b,o,none⟩) m cap/\news.length=m*s/\(∀j u,news[j]? = some u->w.cell? ⟨b,o+j,none⟩=some u)/\(∀u∈news,u.oneCell'=true)
def Wp(g:Gh)(w:World)(v:Value)(m s:Nat)(new:Nat->List PV):Prop :=
 (m=0/\(v=.slice none 0 0\/∃a c,v=.slice (some a) 0 c))\/∃(b o cap:Nat)(news:List Value),v=.slice (some ⟨b,o,none⟩) m cap/\news.length=m*s/\(∀j u,news[j]? = some u->w.cell? ⟨b,o+j,none⟩=some u) /\
  (∀u∈news,u.oneCell'=true)/\∀k,k<m->RL (Rep g.h) (new k) ((news.drop (k*s)).take s)
theorem src_of{b o cap m s:Nat}{C:Array Value}{ty:TypeId}{fr:Nat×Nat}{new:Nat→List PV}{v:Value}(hs:0<s)(hv:v = .slice (some ⟨b,o,none⟩) m cap)(hb:w.heap[b]? = some (.cells C ty fr))
    (hlen:∀k,k<m->(new k).length=s) (H5:∀k j x,k<m->(new k)[j]? = some x->∃u,C[o+k*s+j]? = some u/\Rep g.h x u):Wp g w v m s new:=by
  refine .inr ⟨b,o,cap,(List.range (m*s)).map λq=>C.getD (o+q) undef,hv,by simp,?_,?_,?_⟩
  all_goals
    have at_:∀q,q<m*s->∃x u,(new (q/s))[q%s]? = some x/\C[o+q]? = some u/\Rep g.h x u:=by
      intro q hq;have hk:q/s<m:=qj0 (by rw[qdK];exact hq);have hj:q%s<s:=Nat.mod_lt _ hs;have hx:(new (q/s))[q%s]? = some ((new (q/s))[q%s]'(by rw[hlen _ hk];exact hj)):=Au _;obtain⟨u,hu,Zn⟩:=H5 _ _ _ hk hx;refine⟨_,u,hx,?_,Zn⟩;rw[show o+q=o+q/s*s+q%s by have:=jqn q s;rw[qdK]at this;omega];exact hu
  intro j u hj;have hjm:j<m*s:=by have:=(Bl.1 hj).1;simpa using this
  obtain⟨x,u',_,hu,_⟩:=at_ j hjm;rw[cell_of hb];simp[hjm]at hj;rw[hu]at hj ⊢;simpa using hj;intro u hu;simp only[uV,Jp]at hu;obtain⟨q,hq,rfl⟩:=hu;obtain⟨x,u',_,hu,Zn⟩:=at_ q hq;rw[yA,hu];exact Zn.one;intro k hk;have hle:k*s+s<=m*s:=by have:=RJ s (qdp hk);rw[Vr]at this;exact this
  refine RL.of_get ?_ ?_;rw[hlen k hk];simp;omega;intro j x u hx hu;have hj:j<s:=by have:=(Bl.1 hx).1;rw[hlen k hk]at this;exact this
  obtain⟨u',hu',Zn⟩:=H5 k j x hk hx;rw[Jn,eY hj,qdl]at hu;have ZF:k*s+j<m*s:=by omega
  simp[ZF]at hu;rw[show o+(k*s+j)=o+k*s+j by omega,hu']at hu;simp only[qdM]at hu;rw[<- hu];exact Zn
theorem zhW{m s:Nat}{new:Nat->List PV}{v:Value}(S:bW P nt B w0 h0 g σ a w)(hs:0<s)(h:Rep g.h (.sl m s new) v):Wp g w v m s new:=by
 cases h with|sl0=>exact .inl ⟨rfl,.inl rfl⟩|sle _ _ a c=>exact .inl ⟨rfl,.inr ⟨a,c,rfl⟩⟩|sl _ _ _ _ b o cap C ty fr vs hb kR hlen hc hr=>exact src_of hs rfl (S.hw.fz hb) hlen λk j x hk hj=>⟨vs k j,hc k j x hk hj,hr k j x hk hj⟩
theorem zoH{L e s b m:Nat}{new:Nat->List PV}(h:Dp P g w B L e s b m new):Wp g w (g.sv L) m s new:=by
 by_cases hm:m=0;subst hm;obtain⟨hs,_,xs,hx,_⟩:=h;rcases hx.2 with⟨h1,_⟩|⟨k,cap,cur,h1,_⟩
 exact .inl ⟨rfl,.inl h1⟩;have hx0:xs=[]:=by have:=hx.1;simpa using this
 exact .inr ⟨k,0,cap,[],h1,by simp,λj u hj=>by simp at hj,λu hu=>by simp at hu,λk hk=>absurd hk omY⟩;obtain⟨k,C,_,⟨cap,mG⟩,hC,_,_,_⟩:=vI h (show 0<m by omega);refine src_of h.1.2 mG hC (λq hq=>?_) (λq j x hq hj=>?_);obtain⟨_,_,_,_,_,_,h6,_⟩:=vI h hq;exact h6;obtain⟨k',C',jR,⟨Zav,zyp⟩,Zo,_,_,h7⟩:=vI h hq;rw[mG]at zyp;simp only[Value.slice.injEq,bV,Addr.mk.injEq]at zyp;obtain⟨⟨rfl,_⟩,_⟩:=zyp;rw[hC]at Zo;simp only[bV,Obj.cells.injEq]at Zo;obtain⟨rfl,_⟩:=Zo;rw[O3];exact h7 j x hj
end
end Go.Pm
