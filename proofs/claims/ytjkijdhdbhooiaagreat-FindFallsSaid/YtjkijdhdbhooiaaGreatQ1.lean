/- Part 1: framework, functions, plain laws. -/
import Derived.CallsIn
import Derived.Laws.AppendOwn
import Derived.Laws.Rows
import Derived.Laws.Cells
import Derived.Below
import Derived.DefersIn
import Derived.Laws.World
import Derived.Laws.StructEq
import Derived.MapKept
import Derived.Laws.AppendOwnNone
set_option linter.all false
noncomputable section
namespace Go.Pm
def bW:=@Option.some.injEq
def eU:=@decide_eq_false
def dZ:=@decide_eq_true
def gU:=@Int.toNat_natCast
def dS:=@cond_false
def dU:=@List.mem_append
def gG:=@Bool.and_eq_true
def ed:=@cond_true
def jU:=@List.mem_cons_of_mem
def kL:=@Nat.eq_of_beq_eq_true
def lq:=@List.mem_cons_self
def gy:=@Prod.mk.injEq
def pJ:=@decide_eq_true_eq
def mg:=@List.mem_singleton
def dqo:=@List.take_of_length_le
def lK:=@List.mem_flatMap
def xX:=@Array.getD_eq_getD_getElem?
def oK:=@List.flatMap_cons
def BR:=@List.getElem?_eq_getElem
def kC:=@Nat.le_refl
def kR:=@List.mem_cons
def Y8:=@List.length_drop
def AY:=@List.getElem?_eq_some_iff
def oU:=@List.map_cons
def NY:=@Int.mul_le_mul_of_nonneg_right
def Cc:=@List.length_cons
def eX:=@if_pos
def fB:=@if_neg
def Aa:=@List.all_eq_true
def xR:=@List.mem_map
def jX:=@congrArg
def Jz:=@List.length_append
def YA:=@List.range'_succ
def yt:=@Int.le_of_lt
def NR:=@Bool.not_eq_true'
def OY:=@Bool.true_and
def OZ:=@Bool.not_true
def JB:=@List.mem_of_getElem?
def Cf:=@Nat.zero_le
def UL:=@List.mem_filter
def UV:=@Array.getElem?_eq_some_iff
def I4:=@List.getElem?_take
def dqQ:=@List.range_eq_range'
def Ut:=@Bool.eq_iff_iff
def dqS:=@of_decide_eq_true
def QX:=@Nat.mul_le_mul_right
def dqU:=@List.length_map
def GZ:=@List.cons.injEq
def EW:=@Nat.le_trans
def YY:=@List.getElem_mem
def YQ:=@Option.map_eq_some_iff
def Y9:=@List.getElem?_cons_succ
def JC:=@List.mem_range
def QQ:=@List.map_append
def dq2:=@decide_eq_false_iff_not
def UJ:=@List.length_nil
def QU:=@Option.map_some
def Pg:=@List.nil_append
def Za:=@List.getElem?_of_mem
def dq7:=@List.filter_cons
def dq8:=@Int.mul_le_mul_of_nonneg_left
def dq9:=@Int.le_of_mul_le_mul_right
def UW:=@Nat.not_lt_zero
def YR:=@Option.some.inj
def qdc:=@List.getElem?_map
def Zb:=@Bool.or_eq_true
def qde:=@Nat.ne_of_beq_eq_false
def qdf:=@Bool.false_and
def qdg:=@List.map_congr_left
def qdh:=@Array.getElem?_append_left
def NV:=@Nat.zero_add
def QV:=@decide_false
def qdk:=@List.pairwise_iff_getElem
def YC:=@List.foldl_cons
def UQ:=@Int.lt_irrefl
def qdn:=@List.mem_or_eq_of_mem_set
def Ur:=@Nat.succ_mul
def qdp:=@Array.toArray_toList
def qdq:=@List.ext_getElem?
def qdr:=@List.getElem?_drop
def qds:=@Bool.and_false
def qdt:=@List.getElem?_eq_none
def qdu:=@List.nodup_cons
def qdv:=@List.countP_cons
def qdw:=@Nat.succ_le_of_lt
def qdx:=@List.pairwise_append
def qdy:=@List.pairwise_cons
def qdz:=@beq_eq_false_iff_ne
def qdA:=@List.getElem_of_mem
def qdB:=@Nat.lt_trichotomy
def qdC:=@Int.tdiv_eq_ediv_of_nonneg
def qdD:=@Int.ediv_emod_unique
def qdE:=@Bool.false_eq_true
def qdF:=@Nat.lt_of_lt_of_le
def qdG:=@Classical.byContradiction
def qdH:=@List.length_take
def qdI:=@List.eq_nil_of_length_eq_zero
def qdJ:=@List.mem_map_of_mem
def qdK:=@List.any_eq_false
def qdL:=@List.countP_le_length
def qdM:=@List.getElem?_cons_zero
def Uz:=@Nat.ble_eq
def qdO:=@beq_iff_eq
def qdP:=@beq_self_eq_true
def qdQ:=@Array.getElem?_setIfInBounds_ne
def qdR:=@List.length_pos_iff
def qdS:=@List.all_cons
def qdT:=@Array.getElem?_eq_getElem
def qdU:=@Bool.not_false
def qdV:=@Nat.mul_comm
def qdW:=@List.map_map
def qdX:=@Int.lt_or_le
def qdY:=@List.length_filter_le
def qdZ:=@List.cons_append
def qd0:=@Option.getD_some
def qd1:=@List.any_eq_true
def qd2:=@List.countP_eq_length_filter
def qd3:=@List.map_nil
def qd4:=@Nat.lt_or_ge
def qd5:=@List.flatMap_append
def qd6:=@Int.mul_one
def qd7:=@Nat.le_of_ble_eq_true
def qd8:=@Int.le_refl
def qd9:=@List.mem_append_left
def qja:=@List.filter_congr
def qjb:=@Int.mul_tdiv_cancel_left
def qjc:=@List.pairwise_map
def qjd:=@Nat.add_zero
def qje:=@Bool.and_true
def qjf:=@Int.mul_nonneg
def Pn:=@if_true
def qjh:=@List.length_pos_of_mem
def qji:=@Array.getElem?_setIfInBounds
def qjj:=@Nat.add_sub_cancel
def qjk:=@List.countP_append
def qjl:=@Int.mul_neg
def qjm:=@List.range_succ
def qjn:=@List.contains_iff_mem
def qjo:=@Bool.false_or
def qjp:=@List.any_cons
def qjq:=@Bool.or_eq_false_iff
def qjr:=@if_false
def qjs:=@List.flatMap_map
def qjt:=@Bool.not_eq_true
def qju:=@Array.length_toList
def qjv:=@List.getElem?_range
def UX:=@Iff.rfl
def qjx:=@Int.add_mul
def qjy:=@Nat.blt_eq
def qjz:=@List.any_map
def qjA:=@List.headD_cons
def qjB:=@List.filter_append
def qjC:=@List.length_eq_zero_iff
def qjD:=@List.Perm.of_eq
def qjE:=@Array.getElem?_eq_none
def qjF:=@List.append_assoc
def qjG:=@Int.mul_sub
def qjH:=@Nat.mul_le_mul
def qjI:=@List.take_append_drop
def qjJ:=@List.mem_append_right
def qjK:=@Int.le_trans
def qjL:=@Int.emod_add_mul_ediv
def qjM:=@Array.toList_map
def qjN:=@List.not_mem_nil
def qjO:=@List.getElem?_set_ne
def qjP:=@Nat.add_assoc
def qjQ:=@Bool.and_self
def qjR:=@List.map_id
def qjS:=@List.filter_eq_self
def qjT:=@Int.mul_lt_mul_of_pos_right
def qjU:=@Int.one_mul
def qjV:=@Int.eq_of_mul_eq_mul_right
def qjW:=@List.range'_concat
def qjX:=@Int.mul_comm
def qjY:=@Nat.eq_zero_or_pos
def qjZ:=@Int.le_total
def qj0:=@Int.emod_lt_of_pos
def qj1:=@getElem!_pos
def qj2:=@List.nodup_nil
def qj3:=@List.mapM_cons
def qj4:=@Array.mapM_eq_mapM_toList
def qj5:=@List.getElem?_append_left
def qj6:=@List.getElem?_set
def qj7:=@List.nodup_append
def qj8:=@Nat.lt_of_succ_le
def qj9:=@List.Perm.eq_of_pairwise
def jqa:=@Ne.symm
def jqb:=@List.getElem?_set_self
def jqc:=@Array.getElem?_modify
def jqd:=@List.getElem?_toArray
def jqe:=@Nat.ble_eq_true_of_le
def jqf:=@Nat.add_comm
def jqg:=@Bool.or_true
def jqh:=@Bool.true_or
def jqi:=@Int.le_antisymm
def jqj:=@Int.emod_nonneg
def jqk:=@List.countP_singleton
def jql:=@or_congr
def jqm:=@Nat.div_lt_of_lt_mul
def jqn:=@List.Pairwise.filter
def jqo:=@Nat.pow_lt_pow_right
def jqp:=@Nat.testBit_or
def jqq:=@Nat.mul_one
def jqr:=@bne_eq_false_iff_eq
def jqs:=@Int.neg_mul
def jqt:=@Int.mul_pos
def jqu:=@Int.sub_mul
def jqv:=@List.countP_eq_zero
def jqw:=@congrFun
def jqx:=@List.filter_filter
def jqy:=@Array.all_eq_true_iff_forall_mem
def jqz:=@Array.toList_push
def jqA:=@bne_iff_ne
def jqB:=@List.foldl_append
def jqC:=@List.length_range
def jqD:=@Int.lt_trichotomy
def jqE:=@Nat.or_lt_two_pow
def jqF:=@List.map_set
def jqG:=@Int.mul_zero
def jqH:=@Nat.gcd_comm
def jqI:=@Option.bind_some
def jqJ:=@Nat.mod_eq_of_lt
def jqK:=@decide_eq_decide
def jqL:=@List.ext_getElem
def jqM:=@and_true
def jqN:=@Nat.div_add_mod
def jqO:=@Nat.mul_add_mod
def jqP:=@Int.tmod_nonneg
def jqQ:=@Int.ediv_mul_le
def jqR:=@Int.mul_ne_zero
def jqS:=@Array.getElem?_eq_none_iff
def jqT:=@Int.lt_of_mul_lt_mul_right
def jqU:=@List.getD_eq_getElem?_getD
def jqV:=@Int.fdiv_eq_ediv_of_nonneg
def jqW:=@Int.ediv_neg_of_neg_of_pos
def jqX:=@List.getElem?_zip_eq_some
def jqY:=@List.extract_eq_take_drop
def jqZ:=@Int.natAbs_mul
def jq0:=@Option.isSome_iff_exists
def jq1:=@Int.not_lt
def jq2:=@or_false
def jq3:=@Bool.and_comm
def jq4:=@Nat.lt_irrefl
def jq5:=@Int.eq_ofNat_of_zero_le
def jq6:=@List.pairwise_singleton
def jq7:=@Nat.add_sub_cancel_left
def jq8:=@List.pairwise_lt_range
def jq9:=@Bool.and_eq_false_iff
def qza:=@List.set_getElem_self
def qzb:=@Nat.zero_mul
def qzc:=@Nat.sub_zero
def qzd:=@List.singleton_append
def qze:=@Array.getElem?_toList
def qzf:=@Bool.or_self
def qzg:=@Int.natAbs_dvd_natAbs
def qzh:=@Int.tmod_add_mul_tdiv
def qzi:=@Bool.not_not
def qzj:=@Int.le_ediv_of_mul_le
def qzk:=@List.mem_of_mem_drop
def qzl:=@List.mem_of_mem_take
def qzm:=@List.extract_toArray
theorem omY{p:Prop}(h:p:=by omega):p:=h
inductive KF where
  | one
  | ints
instance KF.dec:DecidableEq KF:=λa b=>match a,b with
 | .one,.one=>isTrue rfl
 | .ints,.ints=>isTrue rfl
 | .one,.ints=>isFalse (λh=>by cases h)
 | .ints,.one=>isFalse (λh=>by cases h)
abbrev MQ:=KF×Nat×Bool×List (Option IntKind)
inductive PV where
  | bool (b:Bool)
  | int (k:IntKind) (n:Int)
  | nilp
  | nilf
  | nilm
  | nils
  | fp (cells:List PV) (off:Nat)
  | sl (len size:Nat) (get:Nat->List PV)
  | fn (f:FuncId) (first caps:List PV)
  | fna (f:FuncId) (cells:List PV)
def smB:Nat→PV→PV→Bool
  | 0,_,_=>false
  | d+1,x,y=>match x,y with
    | .int k _,.int k' _=>decide (k=k')
    | .bool _,.bool _=>true
    | .sl _ s g,.sl _ s' g'=>Nat.beq s s'&&(Nat.beq (g 0).length (g' 0).length&&((g 0).zip (g' 0)).all λz=>smB d z.1 z.2)
    | .fp l o,.fp l' o'=>Nat.beq o o'&&(Nat.beq l.length l'.length&&(l.zip l').all λz=>smB d z.1 z.2)
    | .nils,.nils=>true
    | .nilp,.nilp=>true
    | .nilf,.nilf=>true
    | .nilm,.nilm=>true
    | _,_=>false
def smL(l m:List PV):Bool:=Nat.beq l.length m.length&&(l.zip m).all λz=>smB 8 z.1 z.2
inductive uk where
  | v (v:PV)
  | b (L:Nat)
inductive Cl where
  | p (v:PV)
  | ptr (L off:Nat)
  | vptr (L size i k:Nat)
  | vec (L:Nat)
  | mo (L:Nat)
  | clo (f:FuncId) (caps:List uk)
  | undef
  | junk
  | dead (L:Nat)
inductive D1 where
  | c (x:Cl)
  | agg (cs:List Cl)
inductive DV where
  | one (d:D1)
  | tup (ds:List D1)
inductive AO where
  | box (ty:Nat) (cells:List Cl)
  | fbox (cells:List PV)
  | vec (ety size bytes len:Nat) (get:Nat->List PV)
  | fvec (size len:Nat) (get:Nat->List PV)
  | vv (te bb ety size bytes len:Nat) (ln:Nat->Nat) (get:Nat->Nat->List PV)
  | vt (te bb ety size bytes len:Nat) (ln:Nat->Nat) (get:Nat->Nat->List PV) (hole:Nat)
  | mo (kt vt:Nat) (q:MQ) (n:Nat) (F:List Int->Option (List Int))
  | gone
inductive PA where
  | one (v:PV)
  | agg (cs:List PV)
structure ae (ρ : Type) where
  T:{A:Type}->(ρ->Option A)->Option A
  nat:∀{A:Type}(k:ρ->Option A),T k=(T some).bind k
abbrev ae.o{ρ:Type}(c:ae ρ):Option ρ:=c.T some
def ae.no{ρ:Type}:ae ρ:=⟨λ_=>none,λ_=>rfl⟩
def ae.ok{ρ:Type}(r:ρ):ae ρ:=⟨λk=>k r,λ_=>rfl⟩
inductive Fe where
  | none
  | clone (ety size bytes:Nat)
  | sort (ety size bytes:Nat)
  | mkv (e s b:Nat) (F:List PA->ae (Nat×(Nat->List PV)×List PV))
  | grow (e s b:Nat) (F:List PA->Nat->(Nat->List PV)->ae (Nat×(Nat->List PV)))
inductive XC where
  | p (v:PV)
  | vec (e s b n:Nat) (get:Nat->List PV)
  | mo (kt vt:Nat) (q:MQ) (n:Nat) (F:List Int->Option (List Int))
  | slf (f:FuncId) (np n:Nat)
inductive XA where
  | d (a:PA)
  | box (ty:Nat) (cells:List XC)
abbrev MK:=List XA->ae (List PA×List XA)
structure bU where
  fn:FuncId->List PA->ae (List PA)
  own:FuncId->Fe
  it:FuncId->List PA->ae (List (List PA))
  vv:Nat->Bool
  mt:FuncId->Option MK
  cfn:FuncId->List PA->ae (List PA)
def lk{α:Type}:List (Nat×α)→Nat→Option α
  | [],_=>none
  | (k,a)::r,n=>match Nat.beq k n with|true=>some a|false=>lk r n
structure St where
  env:List (Nat×DV)
  aB:List (Nat×AO)
  log:List (Nat×Nat×Nat)
abbrev DV.p(v:PV):DV:=.one (.c (.p v))
abbrev DV.int(n:Int):DV:=.one (.c (.p (.int .i64 n)))
abbrev DV.bool(b:Bool):DV:=.one (.c (.p (.bool b)))
abbrev DV.cl(x:Cl):DV:=.one (.c x)
abbrev DV.junk:DV:=.one (.c .junk)
def wC:Value→Option PV
  | .bool b=>some (.bool b)
  | .int k n=>some (.int k n)
  | .pointer none=>some .nilp
  | .slice none 0 0=>some .nils
  | .nilFunc=>some .nilf
  | .map none=>some .nilm
  | _=>none
def jC:List Value→Option (List Cl)
  | []=>some []
  | v::r=>match wC v,jC r with
    | some x,some l=>some (.p x::l)
    | _,_=>none
def Po(v:Value):DV :=
 match v with
 | .agg cs=>match jC cs.toList with
  | some l=>.one (.agg l)
  | none=>.junk
 | v=>match wC v with
  | some x=>.p x
  | none=>.junk
def fU(env:List (Nat×DV)):Operand→DV
  | .tmp t=>match lk env t with|some d=>d|none=>.junk
  | .const v=>Po v
  | .func f=>.p (.fn f [] [])
  | .global _=>.junk
section
variable(P:Program)
def qA(t:TypeId):Option Nat:=(P.info? t).map (·.size)
def jD(t:TypeId):Option Bool:=(P.underlying t).map fun
  | .struct _=>true
  | .array _ _=>true
  | _=>false
def gV(t:TypeId):Option (List Cl) :=
 match P.info? t with
 | some i=>match i.zero with
  | some z=>match jC z.cells.toList with
   | some l=>if l.length=i.size then some l else none
   | none=>none
  | none=>none
 | none=>none
end
def D1.cells:D1→List Cl
  | .c x=>[x]
  | .agg cs=>cs
def spl{α:Type}:List α→Nat→List α→List α
  | l,_,[]=>l
  | l,off,x::r=>spl (l.set off x) (off+1) r
def jY:List Cl→Option (List PV)
  | []=>some []
  | .p v::r=>match jY r with|some l=>some (v::l)|none=>none
  | _=>none
def Ae(ob:Nat→Option AO):Cl→Option (PV×List (Nat×AO))
  | .p v=>some (v,[])
  | .vec L=>match ob L with
    | some (.vec _ size _ len get)=>some (.sl len size get,[(L,.fvec size len get)])
    | some (.fvec size len get)=>some (.sl len size get,[])
    | some (.vv _ _ _ size _ n ln get)=>some (.sl n 1 (λi=>[.sl (ln i) size (get i)]),[(L,.fvec 1 n (λi=>[.sl (ln i) size (get i)]))])
    | _=>none
  | _=>none
def jE(ob:Nat→Option AO):List Cl→Option (List PV×List (Nat×AO))
  | []=>some ([],[])
  | x::r=>match Ae ob x,jE ob r with
    | some (v,u),some (l,us)=>some (v::l,u++us)
    | _,_=>none
def Oo(ob:Nat→Option AO):Cl→Option (PV×List (Nat×AO))
  | .ptr L off=>match ob L with
    | some (.box _ cells)=>match jE ob cells with
      | some (l,us)=>some (.fp l off,us++[(L,.fbox l)])
      | none=>none
    | some (.fbox l)=>some (.fp l off,[])
    | _=>none
  | x=>Ae ob x
def nM(ob:Nat→Option AO):List Cl→Option (List PV×List (Nat×AO))
  | []=>some ([],[])
  | x::r=>match Oo ob x,nM ob r with
    | some (v,u),some (l,us)=>some (v::l,u++us)
    | _,_=>none
def JD(ob:Nat→Option AO):Cl→Option (PV×List (Nat×AO))
  | .ptr L off=>match ob L with
    | some (.box _ cells)=>match nM ob cells with
      | some (l,us)=>some (.fp l off,us++[(L,.fbox l)])
      | none=>none
    | some (.fbox l)=>some (.fp l off,[])
    | _=>none
  | x=>Ae ob x
def tC(ob:Nat→Option AO):List Cl→Option (List PV×List (Nat×AO))
  | []=>some ([],[])
  | x::r=>match JD ob x,tC ob r with
    | some (v,u),some (l,us)=>some (v::l,u++us)
    | _,_=>none
def zdq:uk→Cl
  | .v v=>.p v
  | .b L=>.ptr L 0
def frz(ob:Nat→Option AO):Cl→Option (PV×List (Nat×AO))
  | .clo f caps=>match tC ob (caps.map zdq)with
    | some (l,us)=>some (.fn f [] l,us)
    | none=>none
  | x=>JD ob x
def ul(ob:Nat→Option AO):List Cl→Option (List PV×List (Nat×AO))
  | []=>some ([],[])
  | x::r=>match frz ob x,ul ob r with
    | some (v,u),some (l,us)=>some (v::l,u++us)
    | _,_=>none
def Af(ob:Nat→Option AO):DV→Option (PA×List (Nat×AO))
  | .one (.c x)=>match frz ob x with|some (v,u)=>some (.one v,u)|none=>none
  | .one (.agg cs)=>match ul ob cs with|some (l,u)=>some (.agg l,u)|none=>none
  | _=>none
def iD(ob:Nat→Option AO):List DV→Option (List PA×List (Nat×AO))
  | []=>some ([],[])
  | x::r=>match Af ob x,iD ob r with
    | some (v,u),some (l,us)=>some (v::l,u++us)
    | _,_=>none
def lL:List uk→List Nat
  | []=>[]
  | .v _::r=>lL r
  | .b L::r=>L::lL r
def bD:Cl→List Nat
  | .ptr L _=>[L]
  | .vptr L _ _ _=>[L]
  | .vec L=>[L]
  | .mo L=>[L]
  | .clo _ caps=>lL caps
  | .dead L=>[L]
  | _=>[]
def dE:D1→List Nat
  | .c x=>bD x
  | .agg cs=>cs.flatMap bD
def df:DV→List Nat
  | .one d=>dE d
  | .tup ds=>ds.flatMap dE
def dR:AO→List Nat
  | .box _ cs=>cs.flatMap bD
  | _=>[]
def bK(ob:Nat->Option AO)(d:DV):List Nat :=
 (df d).flatMap λL=>L::match ob L with
  | some o=>(dR o).flatMap λM=>M::match ob M with|some o'=>dR o'|none=>[]
  | none=>[]
def I5:PA→D1
  | .one v=>.c (.p v)
  | .agg cs=>.agg (cs.map .p)
def resD:List PA→DV
  | [x]=>.one (I5 x)
  | l=>.tup (l.map I5)
structure CP where
  p:Prop
  b:Bool
  h:b=true->p
instance cpOf(p:Prop)[Decidable p]:CoeDep Prop p CP:=⟨⟨p,decide p,of_decide_eq_true⟩⟩
inductive aC : Type 1 where
  | no
  | val (fp:List (Nat×Bool)) (d:DV) (u:List (Nat×AO)) (kill:List Nat)
  | chk (fp:List (Nat×Bool)) (safe:CP) (d:DV) (u:List (Nat×AO)) (kill:List Nat)
def jP:PV→Bool
  | .bool _=>true
  | .int _ _=>true
  | _=>false
def zgR:PA→Bool
  | .one v=>jP v
  | .agg cs=>cs.all jP
def UY(l:List PA):Bool:=l.all zgR
def rd(l:List Nat):List (Nat×Bool):=l.map λL=>(L,false)
def wr(l:List Nat):List (Nat×Bool):=l.map λL=>(L,true)
def sc2(l:List PV):Bool:=l.all jP&&Nat.ble 2 l.length
def zgS:List PV→Bool
  | a::b::r=>!(jP a&&jP b)&&zgS (b::r)
  | _=>true
def zts:Nat×AO→Bool
  | (_,.fbox l)=>zgS l
  | (_,.gone)=>true
  | _=>false
def zbl:List (Nat×AO)→Bool
  | [(_,.fbox l),(_,.fbox [.fp _ _])]=>l.all λv=>!jP v
  | _=>false
inductive Anch:PV→Prop
  | scal (v:PV) (h:jP v=true):Anch v
  | nils:Anch .nils
  | sl (n s:Nat) (get:Nat->List PV) (h:∀i:Nat,∃(j:Nat)(x:PV),(get i)[j]? = some x/\jP x=true) (h2:∀(i:Nat)(x:PV),x∈get i->Anch x):Anch (.sl n s get)
def Aw:Nat→PV→Bool
  | 0,_=>false
  | d+1,v=>match v with
    | .nils=>true
    | .sl _ _ g=>(g 0).any jP&&(g 0).all (Aw d)
    | v=>jP v
def UZ(u:List (Nat×AO))(r:List PA):Bool:=match r,u with
 | [.one (.sl n s get)],_::_=>match sc2 (get 0)with
  | true=>u.all zts
  | false=>zbl u&&Aw 8 (.sl n s get)
 | _,_=>false
def lH(jh:List Nat)(u:List (Nat×AO))(r:List PA):aC :=
 match UY r||UZ u r with
 | true=>.val (rd jh) (resD r) [] []
 | false=>.val (wr jh) (resD r) u []
def nX(isAgg:Bool)(n:Nat)(cells:List Cl)(off:Nat):Option D1 :=
  match isAgg with
  | true => let l := (cells.drop off).take n
    match Nat.beq l.length n with
    | true=>some (.agg l)
    | false=>none
  | false=>match cells[off]? with
    | some x=>some (.c x)
    | none=>none
def D1.isAgg:D1→Bool
  | .c _=>false
  | .agg _=>true
def Ci:Cl→Bool
  | .junk=>false
  | .undef=>false
  | .dead _=>false
  | _=>true
def nI:Cl→List Nat
  | .vptr L _ _ _=>[L]
  | .vec L=>[L]
  | .dead L=>[L]
  | .mo L=>[L]
  | _=>[]
def um:D1→List Nat
  | .c x=>nI x
  | .agg cs=>cs.flatMap nI
def lW:DV→List Nat
  | .one d=>um d
  | .tup ds=>ds.flatMap um
def pK:AO→List Nat
  | .box _ cs=>cs.flatMap nI
  | _=>[]
def appG(n:Nat)(get new:Nat->List PV):Nat->List PV :=
 λj=>match Nat.ble n j with|true=>new (j-n)|false=>get j
def yu(i k:Nat)(get:Nat->List PV)(new:List PV):Nat->List PV :=
 λj=>match Nat.beq j i with|true=>spl (get j) k new|false=>get j
def IC(f:PV→PV→PV):List PV→List PV→List PV
  | [],_=>[]
  | x::r,l=>f x (l.headD .nilp)::IC f r l.tail
def shp:Nat→PV→PV→PV
  | 0,_,b=>b
  | d+1,a,b=>match a with
    | .int k _=>.int k (match b with | .int _ n=>n|_=>0)
    | .bool _=>.bool (match b with | .bool x=>x|_=>false)
    | .sl _ s g=>.sl (match b with | .sl n _ _=>n|_=>0) s (λi=>IC (shp d) (g 0) (match b with | .sl _ _ g'=>g' i|_=>[]))
    | .fp l o=>.fp (IC (shp d) l (match b with | .fp l' _=>l'|_=>[])) o
    | a=>a
def nzG(row:List PV)(g:Nat->List PV):Nat->List PV:=λi=>IC (shp 8) row (g i)
def zgT(row:List PV)(g:Nat->Nat->List PV):Nat->Nat->List PV:=λi j=>IC (shp 8) row (g i j)
def Az(b:Bool)(x y:DV):DV :=
 match x,y with
 | .one (.c (.p (.bool a))),.one (.c (.p (.bool c)))=>.bool (match b with|true=>a|false=>c)
 | x,y=>match b with|true=>x|false=>y
def zl7(k:IntKind)(a b:Int):Int:=k.wrap (a*2^(min b.toNat k.bits))
def EZ(k:IntKind)(a b:Int):Int:=a.fdiv (2^(min b.toNat k.bits))
def zvJ(k:IntKind)(a b:Int):Int:=k.wrap (BitVec.ofInt k.bits a &&& BitVec.ofInt k.bits b).toNat
def orW(k:IntKind)(a b:Int):Int:=k.wrap (BitVec.ofInt k.bits a ||| BitVec.ofInt k.bits b).toNat
def zEt(k:IntKind)(a b:Int):Int:=k.wrap (BitVec.ofInt k.bits a ^^^ BitVec.ofInt k.bits b).toNat
def zbm(k:IntKind)(a b:Int):Int:=k.wrap (BitVec.ofInt k.bits a &&& ~~~ BitVec.ofInt k.bits b).toNat
def zgU(op:BinOp)(k:IntKind)(a b:Int):aC :=
 match op with
 | .shl=>.chk [] (0<=b) (.p (.int k (zl7 k a b))) [] []
 | .shr=>.chk [] (0<=b) (.p (.int k (EZ k a b))) [] []
 | _=>.no
def U0(op:BinOp)(k:IntKind)(a b:Int):aC :=
 match op with
 | .shl=>.chk [] (0<=b) (.p (.int k (zl7 k a b))) [] []
 | .shr=>.chk [] (0<=b) (.p (.int k (EZ k a b))) [] []
 | .and=>.val [] (.p (.int k (zvJ k a b))) [] []
 | .or=>.val [] (.p (.int k (orW k a b))) [] []
 | .xor=>.val [] (.p (.int k (zEt k a b))) [] []
 | .andNot=>.val [] (.p (.int k (zbm k a b))) [] []
 | .add=>.val [] (.p (.int k (k.wrap (a+b)))) [] []
 | .sub=>.val [] (.p (.int k (k.wrap (a-b)))) [] []
 | .mul=>.val [] (.p (.int k (k.wrap (a*b)))) [] []
 | .quo=>.chk [] (b≠0) (.p (.int k (k.wrap (a.tdiv b)))) [] []
 | .rem=>.chk [] (b≠0) (.p (.int k (a.tmod b))) [] []
 | .eql=>.val [] (.bool (a==b)) [] []
 | .neq=>.val [] (.bool (a != b)) [] []
 | .lss=>.val [] (.bool (decide (a<b))) [] []
 | .leq=>.val [] (.bool (decide (a<=b))) [] []
 | .gtr=>.val [] (.bool (decide (a>b))) [] []
 | .geq=>.val [] (.bool (decide (a>=b))) [] []
def JE:List Cl→Option (List Int)
  | []=>some []
  | .p (.int .i64 a)::r=>match JE r with|some l=>some (a::l)|none=>none
  | _=>none
def zvZ(Γ:bU):Option Nat→Bool
  | some t=>Γ.vv t
  | none=>false
def Fe.on:Fe→Bool
  | .none=>false
  | _=>true
variable(P:Program)(Γ:bU)
def eqT:Nat→TypeId→D1→D1→Option Bool
  | 0,_,_,_=>none
  | d+1,t,x,y =>
    match P.underlying t with
    | some .bool=>match x,y with
      | .c (.p (.bool a)),.c (.p (.bool b))=>some (a==b)
      | _,_=>none
    | some (.int _)=>match x,y with
      | .c (.p (.int k a)),.c (.p (.int k' b))=>if k=k' then some (a==b)else none
      | _,_=>none
    | some (.struct fs)=>match x,y,P.stoodInHeld t with
      | .agg xs,.agg ys,false=>fs.toList.foldr (λf acc =>
          match acc, f.name != "_", jD P f.type, qA P f.type with
          | some r,true,some ag,some n=>match nX ag n xs f.offset,nX ag n ys f.offset with
            | some a,some b=>match eqT d f.type a b with
              | some e=>some (match e with|true=>r|false=>false)
              | none=>none
            | _,_=>none
          | _,_,_,_=>none) (some true)
      | _,_,_=>none
    | _=>none
def zbn(op:BinOp)(t:TypeId)(cs ds:List Cl):aC :=
 match P.eqGuardType P.depth t,eqT P 8 t (.agg cs) (.agg ds)with
 | false,some r=>match op with
  | .eql=>.val [] (.bool r) [] []
  | .neq=>.val [] (.bool (!r)) [] []
  | _=>.no
 | _,_=>.no
def kS:Nat→TypeId→Option Nat
  | 0,_=>none
  | d+1,t =>
    match P.underlying t with
    | some (.int .i64)=>match qA P t with
      | some n=>match Nat.beq n 1 with|true=>some 1|false=>none
      | none=>none
    | some (.struct fs)=>match P.stoodInHeld t with
      | true=>none
      | false => fs.toList.foldl (fun acc f => match acc, f.name != "_", kS d f.type, qA P f.type with
        | some m,true,some n,some n'=>match Nat.beq f.offset m&&Nat.beq n n' with
          | true=>some (m+n)
          | false=>none
        | _,_,_,_=>none) (some 0)
    | some (.array n e)=>match kS d e,qA P e with
      | some m,some m'=>match Nat.beq m m' with
        | true=>some (n*m)
        | false=>none
      | _,_=>none
    | _=>none
def JF(t:TypeId)(x i:DV):aC :=
 match P.underlying t with
 | some (.array n e)=>match qA P e,jD P e,x,i with
  | some m,some ag,.one (.agg cs),.one (.c (.p (.int _ (.ofNat j))))=>match Nat.blt j n,nX ag m cs (j*m)with
   | true,some d=>.val [] (.one d) [] []
   | _,_=>.no
  | _,_,_,_=>.no
 | _=>.no
def JG(t:TypeId)(x:DV)(f:Nat):aC :=
 match P.underlying t with
 | some (.struct fs)=>match fs[f]? with
  | some fd=>match qA P fd.type,jD P fd.type,x with
   | some m,some ag,.one (.agg cs)=>match nX ag m cs fd.offset with
    | some d=>.val [] (.one d) [] []
    | none=>.no
   | _,_,_=>.no
  | none=>.no
 | _=>.no
def Cj(n:Nat)(e:TypeId)(x i:DV):aC :=
 match qA P e,i with
 | some m,.one (.c (.p (.int _ (.ofNat j))))=>match Nat.blt j n with
  | true=>match x with
   | .one (.c (.ptr L off))=>.val [] (.cl (.ptr L (off+j*m))) [] []
   | .one (.c (.p (.fp c off)))=>.val [] (.p (.fp c (off+j*m))) [] []
   | _=>.no
  | false=>.no
 | _,_=>.no
def zgV(t:TypeId):Option (List (Option IntKind)) :=
 match gV P t with
 | some z=>z.foldr (λc acc=>match c,acc with
  | .p (.int k (.ofNat 0)),some l=>some (some k::l)
  | .p (.bool false),some l=>some (none::l)
  | _,_=>none) (some [])
 | none=>none
def fZ(k:TypeId):Option (KF×Nat) :=
 match kS P 8 k,jD P k with
 | some n,some true=>some (.ints,n)
 | some n,some false=>match Nat.beq n 1 with|true=>some (.one,n)|false=>none
 | _,_=>none
def JH(k e:TypeId):Option MQ :=
 match fZ P k,zgV P e,jD P e with
 | some (kf,n),some ks,some yx=>match(yx||Nat.beq ks.length 1),(P.info? e).bind (·.zero),yx with
  | true,some (.agg _),true=>some (kf,n,yx,ks)
  | true,some (.agg _),false=>none
  | true,some _,false=>some (kf,n,yx,ks)
  | _,_,_=>none
 | _,_,_=>none
def zm1(kf:KF)(n:Nat)(d:DV):Option (List Int) :=
 match kf,d with
 | .ints,.one (.agg cs)=>match JE cs with
  | some l=>match Nat.beq l.length n with|true=>some l|false=>none
  | none=>none
 | .one,.one (.c (.p (.int .i64 a)))=>some [a]
 | _,_=>none
def zgW:Option IntKind→Int→PV
  | some k,x=>.int k x
  | none,x=>.bool (x != 0)
def EN(o:Option (List Int))(i:Nat):Int:=match o with|some l=>l.getD i 0|none=>0
def zv0(o:Option (List Int)):Nat→List (Option IntKind)→List PV
  | _,[]=>[]
  | i,k::ks=>zgW k (EN o i)::zv0 o (i+1) ks
def zgX(yx:Bool)(ks:List (Option IntKind))(o:Option (List Int)):Option D1 :=
 match yx,zv0 o 0 ks with
 | true,l=>some (.agg (l.map .p))
 | false,[v]=>some (.c (.p v))
 | _,_=>none
def uU:List (Option IntKind)→List Cl→Option (List Int)
  | [],[]=>some []
  | some k::ks,.p (.int k' a)::r=>if k=k' then match uU ks r with|some l=>some (a::l)|none=>none else none
  | none::ks,.p (.bool b)::r=>match uU ks r with|some l=>some ((match b with|true=>1|false=>0)::l)|none=>none
  | _,_=>none
def IG(c v:List Int)(F:List Int->Option (List Int)):List Int->Option (List Int) :=
 λx=>match decide (x=c)with|true=>some v|false=>F x
def addN(o:Option (List Int))(n:Nat):Nat:=match o with|some _=>n|none=>n+1
def found(q:MQ)(k:DV)(ok:Bool)(F:List Int->Option (List Int))(fin:DV->aC):aC :=
 match zm1 q.1 q.2.1 k with
 | some c=>match zgX q.2.2.1 q.2.2.2 (F c)with
  | some d=>match ok with
   | true=>fin (.tup [d,.c (.p (.bool (F c).isSome))])
   | false=>fin (.one d)
  | none=>.no
 | none=>.no
def mM{α:Type}(i:Nat)(x:α)(f:Nat->α):Nat->α:=λj=>match Nat.beq j i with|true=>x|false=>f j
def JI(t:TypeId)(m k:DV)(ok:Bool)(ob:Nat->Option AO):aC :=
 match P.underlying t,m with
 | some (.map kt vt),.one (.c (.mo L))=>match JH P kt vt,ob L with
  | some q,some (.mo kt' vt' q' _ F)=>if kt'=kt/\vt'=vt/\q'=q then found q k ok F λd=>.val [(L,false)] d [] []else .no
  | _,_=>.no
 | _,_=>.no
def U1(t:TypeId)(m k v:DV)(ob:Nat->Option AO):aC :=
 match P.underlying t,m with
 | some (.map kt vt),.one (.c (.mo L))=>match JH P kt vt,ob L with
  | some q,some (.mo kt' vt' q' m' F)=>match zm1 q.1 q.2.1 k,v with
   | some c,.one dv=>match uU q.2.2.2 dv.cells with
    | some l=>if kt'=kt/\vt'=vt/\q'=q/\dv.isAgg=q.2.2.1 then .val [(L,true)] .junk [(L,.mo kt vt q (addN (F c) m') (IG c l F))] []else .no
    | none=>.no
   | _,_=>.no
  | _,_=>.no
 | _,_=>.no
def zbo(t k:Nat)(l:List PV):List PV :=
 match P.underlying t,l[k]? with
 | some (.slice e2),some .nils=>match qA P e2,gV P e2 with
  | some s,some z=>match jY z with
   | some z=>l.set k (.sl 0 s (λ_=>z))
   | none=>l
  | _,_=>l
 | _,_=>l
def zgY:List Field→List PV→List PV
  | [],l=>l
  | f::r,l=>zgY r (zbo P f.type f.offset l)
def Ag(e:TypeId)(l:List PV):List PV :=
 match P.underlying e with
 | some (.struct fs)=>zgY P fs.toList l
 | _=>zbo P e 0 l
def Cm(e:TypeId):List PV:=match gV P e with
 | some z=>match jY z with
  | some l=>Ag P e l
  | none=>[]
 | none=>[]
def tH(t:TypeId)(x y:DV)(dst:Option Nat)(ob:Nat->Option AO):aC :=
 match P.underlying t,x,y,dst with
 | some (.slice e),.one (.c (.p (.int _ n))),.one (.c (.p (.int _ m))),some dst=>match P.info? e,gV P e,ob dst with
  | some ie,some z,none=>match zvZ Γ (some dst)with
   | true=>match z,P.underlying e with
    | [.p .nils],some (.slice e2)=>match P.info? e2,gV P e2,Nat.beq ie.size 1&&Nat.ble ie.bytes 1000000 with
     | some i2,some z2,true=>match jY z2,Nat.ble 1 i2.size with
      | some l2,true=>.chk [(dst,true)] (0<=n/\n=m/\n<=1000000) (.cl (.vec dst)) [(dst,.vv e ie.bytes e2 i2.size i2.bytes n.toNat (λ_=>0) (λ_ _=>l2))] []
      | _,_=>.no
     | _,_,_=>.no
    | _,_=>.no
   | false=>match jY z with
    | some l=>match Nat.ble 1 ie.size&&Nat.ble ie.bytes 1000000 with
     | true=>.chk [(dst,true)] (0<=n/\n=m/\n<=1000000) (.cl (.vec dst)) [(dst,.vec e ie.size ie.bytes n.toNat (λ_=>Ag P e l))] []
     | false=>.no
    | none=>.no
  | _,_,_=>.no
 | _,_,_,_=>.no
def Ff(ev:Operand→DV):Option Operand→Option (Option Int)
  | none=>some none
  | some x=>match ev x with
    | .one (.c (.p (.int _ j)))=>some (some j)
    | _=>none
def slG(get:Nat->List PV)(l:Nat):Nat->List PV:=λi=>get (i+l)
def CB(t:TypeId)(x:DV)(lo hi:Option (Option Int)):aC :=
 match P.underlying t,x,lo,hi with
 | some (.slice e),.one (.c (.p (.sl n s get))),some lo,some hi=>match qA P e with
  | some m=>match Nat.beq s m with
   | true=>.chk [] (0<=lo.getD 0/\lo.getD 0<=hi.getD (n:Int)/\hi.getD (n:Int)<=(n:Int)) (.p (.sl (hi.getD (n:Int)-lo.getD 0).toNat s (slG get (lo.getD 0).toNat))) [] []
   | false=>.no
  | none=>.no
 | _,_,_,_=>.no
def JJ(t:TypeId)(f:Nat):Option Nat :=
 match P.underlying t with
 | some (.struct fs)=>match fs[f]? with
  | some fd=>match qA P fd.type with
   | some (_+1)=>some fd.offset
   | _=>none
  | none=>none
 | _=>none
def yF(t:TypeId):Bool :=
 match P.underlying t with
 | some (.struct fs)=>fs.toList.all λf=>(qA P f.type).isSome
 | some (.array _ e)=>(qA P e).isSome
 | _=>false
def iH(t:TypeId)(ev:Operand→DV):List Cl→List (Nat×Operand)→Option (List Cl)
  | z,[]=>some z
  | z,(i,o)::r =>
    match ev o with
    | .one d =>
      match P.underlying t with
      | some (.struct fs)=>match fs[i]? with
        | some fd=>match qA P fd.type with
          | some n=>match Nat.beq n d.cells.length&&Nat.ble (fd.offset+n) z.length&&d.cells.all Ci with
            | true=>iH t ev (spl z fd.offset d.cells) r
            | false=>none
          | none=>none
        | none=>none
      | some (.array _ e)=>match qA P e with
        | some n=>match Nat.beq n d.cells.length&&Nat.ble (i*n+n) z.length&&d.cells.all Ci with
          | true=>iH t ev (spl z (i*n) d.cells) r
          | false=>none
        | none=>none
      | _=>none
    | _=>none
def jy(ob:Nat→Option AO)(ev:Operand→DV)(size:Nat):Nat→List (Nat×Operand)→Option (List (List PV)×List (Nat×AO)×List Nat)
  | _,[]=>some ([],[],[])
  | i,(j,o)::r =>
    match Nat.beq i j with
    | true=>match ev o with
      | .one d=>match jE ob d.cells,jy ob ev size (i+1) r with
        | some (l,u),some (ls,us,jh)=>match Nat.beq l.length size with
          | true=>some (l::ls,u++us,dE d++jh)
          | false=>none
        | _,_=>none
      | _=>none
    | false=>none
def smA:List (List PV)→Bool
  | []=>true
  | c::r=>smL c c&&r.all (smL c)
def AZ(l:List (List PV)):Nat->List PV :=
 match l with
 | []=>λ_=>[]
 | [c]=>λ_=>c
 | c::r=>λi=>match(c::r)[i]? with|some x=>x|none=>c
def Fg(ob:Nat->Option AO)(dst:Option Nat)(o:AO)(d:Nat->DV):aC :=
 match dst with
 | some t=>match ob t with
  | none=>.val [(t,true)] (d t) [(t,o)] []
  | some _=>.no
 | none=>.no
def elP(ag:Bool)(l:List PV):PA :=
 match ag,l with
 | true,l=>.agg l
 | false,[v]=>.one v
 | _,_=>.agg []
def JK(C:List PA->ae (List PA))(caps:List PV)(ag:Bool)(get:Nat->List PV)(i j:Nat):Option Int :=
 (C (elP ag (get i)::elP ag (get j)::caps.map .one)).T λr=>match r with
  | [.one (.int .i64 c)]=>some c
  | _=>none
def nY(C:List PA->ae (List PA))(caps:List PV)(ag:Bool)(get:Nat->List PV)(i j:Nat):Int:=(JK C caps ag get i j).getD 0
def STO(n:Nat)(c:Nat->Nat->Int):Prop :=
 (∀i,i<n->0<=c i i)/\(∀i j,i<n->j<n->i≠j->(c i j<0/\0<=c j i)\/(c j i<0/\0<=c i j)) /\
 ∀i j k,i<n->j<n->k<n->c i j<0->c j k<0->c i k<0
def zgZ(n:Nat)(p:Nat->Nat->Bool)(c:Nat->Nat->Int):Bool :=
  (List.range n).all fun i => decide (0 ≤ c i i) && (List.range n).all fun j => p i j && (Nat.beq i j || (decide (c i j < 0) && decide (0 ≤ c j i)) || (decide (c j i < 0) && decide (0 ≤ c i j))) &&
    (List.range n).all λk=>!(decide (c i j<0)&&decide (c j k<0))||decide (c i k<0)
def zv1(n:Nat)(p:Nat->Nat->Bool)(c:Nat->Nat->Int):Prop:=n<=4611686018427387/\(∀i j,i<n->j<n->p i j=true)/\STO n c
def zv3(n:Nat)(p:Nat->Nat->Bool)(c:Nat->Nat->Int):CP:=⟨zv1 n p c,Nat.ble n 4611686018427387&&zgZ n p c,λh=>by
 rw[gG,Uz]at h;obtain⟨h0,h⟩:=h;simp only[zgZ,Aa,JC,gG,Zb,pJ,NR,jq9,dq2]at h;refine⟨h0,λi j hi hj=>((h i hi).2 j hj).1.1,λi hi=>(h i hi).1,λi j hi hj ja=>?_,λi j k hi hj hk h1 h2=>?_⟩
 ·rcases ((h i hi).2 j hj).1.2 with (h1 | h1) | h1
  ·exact absurd (kL h1) ja
  ·exact .inl h1
  ·exact .inr h1
 ·rcases ((h i hi).2 j hj).2 k hk with (h3 | h3) | h3
  ·exact absurd h1 h3
  ·exact absurd h2 h3
  ·exact h3⟩
def QY(c:Nat→Nat→Int)(x:Nat):List Nat→List Nat
  | []=>[x]
  | y::r=>match decide (c x y<0)with|true=>x::y::r|false=>y::QY c x r
def yG(n:Nat)(c:Nat->Nat->Int):List Nat:=(List.range n).foldr (QY c) []
def JL{α:Type}(n:Nat)(c:Nat->Nat->Int)(get:Nat->α):Nat->α:=λi=>get ((yG n c).getD i ((yG n c).getD 0 0))
def zg0(get:Nat→List PV):List (Nat×AO)→Bool
  | []=>true
  | u=>match zbl u with
    | true=>(get 0).all (Aw 8)
    | false=>(get 0).all jP
def zv4(e:TypeId):List DV→Option (Nat×Nat×(Nat→List PV))
  | [.one (.c (.p (.sl n s get)))]=>some (n,s,get)
  | [.one (.c (.p .nils))]=>match gV P e with
    | some z=>match jY z with
      | some l=>some (0,l.length,λ_=>l)
      | none=>none
    | none=>none
  | _=>none
def JM{α:Type}:List α→Option (List α×α)
  | []=>none
  | d::r=>match JM r with
    | some (l,x)=>some (d::l,x)
    | none=>some ([],d)
def kG(o:Oper)(k:Fe)(args:List DV)(ob:Nat->Option AO):aC :=
  match k with
  | .none=>.no
  | .sort e s b=>match args with
    | [.one (.c (.vec L)),.one (.c (.p (.fn h [] caps)))]=>match ob L,jD P e with
      | some (.vec e' s' b' n get),some ag=>if e'=e/\s'=s/\b'=b then
          .chk [(L,true)] (zv3 n (λi j=>(JK (Γ.cfn h) caps ag get i j).isSome) (nY (Γ.cfn h) caps ag get)) (.tup []) [(L,.vec e s b n (JL n (nY (Γ.cfn h) caps ag get) get))] []
        else .no
      | _,_=>.no
    | _=>.no
  | .clone e s b=>match zv4 P e args,o.dst with
    | some (n,s',get),some dst=>match ob dst,P.info? e,gV P e with
      | none,some ie,some _=>if s'=s/\ie.size=s/\ie.bytes=b/\0<s then
          .chk [(dst,true)] (n*b<=140737488355328/\n<=9223372036854775807) (.cl (.vec dst)) [(dst,.vec e s b n get)] []
        else .no
      | _,_,_=>.no
    | _,_=>.no
  | .mkv e s b F=>match iD ob args,o.dst with
    | some (az,u),some dst=>match(F az).o,ob dst,P.info? e,gV P e with
      | some (n,get,rs),none,some ie,some _=>if ie.size=s/\ie.bytes=b/\0<s/\zg0 get u=true/\rs.all jP=true then
          .val ((dst,true)::rd (args.flatMap (bK ob)))
            (match rs with|[]=>.cl (.vec dst)|_=>.tup (.c (.vec dst)::rs.map λv=>.c (.p v))) [(dst,.vec e s b n get)] []
        else .no
      | _,_,_,_=>.no
    | _,_=>.no
  | .grow e s b F=>match JM args with
    | some (ds,.one (.c (.vec L)))=>match iD ob ds,ob L with
      | some (az,[]),some (.vec e' s' b' n get)=>match(F az n get).o with
        | some (m,get')=>if e'=e/\s'=s/\b'=b then
            .val ((L,true)::rd (ds.flatMap (bK ob))) (.cl (.vec L)) [(L,.vec e s b m get')] [L]
          else .no
        | none=>.no
      | _,_=>.no
    | some (ds,.one (.c (.p .nils)))=>match iD ob ds,o.dst with
      | some (az,[]),some dst=>match ob dst,P.info? e,gV P e with
        | none,some ie,some z=>match jY z with
          | some l=>match(F az 0 λ_=>l).o with
            | some (m,get')=>if ie.size=s/\ie.bytes=b/\0<s then
                .val ((dst,true)::rd (ds.flatMap (bK ob))) (.cl (.vec dst)) [(dst,.vec e s b m get')] []
              else .no
            | none=>.no
          | none=>.no
        | _,_,_=>.no
      | _,_=>.no
    | _=>.no
def zEv:DV→Option uk
  | .one (.c (.p v))=>some (.v v)
  | .one (.c (.ptr L 0))=>some (.b L)
  | _=>none
def CE(ev:Operand→DV):List Operand→Option (List uk)
  | []=>some []
  | x::r=>match zEv (ev x),CE ev r with
    | some c,some l=>some (c::l)
    | _,_=>none
def capD:uk→DV
  | .v v=>.p v
  | .b L=>.cl (.ptr L 0)
abbrev lu:=Option (FuncId×Nat×List Nat)
def JO:List uk→List Nat→Bool
  | [],[]=>true
  | .b L::r,M::s=>Nat.beq L M&&JO r s
  | _,_=>false
def U2:List uk→Option (List Nat)
  | []=>some []
  | .b L::r=>match U2 r with|some l=>some (L::l)|none=>none
  | _=>none
def zdr(f:FuncId)(np:Nat)(caps:List uk):lu:=match U2 caps with
 | some l=>some (f,np,l)
 | none=>none
def zv5(sf:lu)(f:FuncId)(caps:List uk):Option XC:=match sf with
 | some (f',np,ls)=>match Nat.beq f f'&&JO caps ls with
  | true=>some (.slf f' np ls.length)
  | false=>none
 | none=>none
def iU(sf:lu)(ob:Nat→Option AO):List Cl→Option (List XC×List Nat)
  | []=>some ([],[])
  | c::r=>match iU sf ob r with
    | some (l,ms)=>match c with
      | .p v=>some (.p v::l,ms)
      | .vec M=>match ob M with
        | some (.vec e s b n get)=>some (.vec e s b n get::l,M::ms)
        | _=>none
      | .mo M=>match ob M with
        | some (.mo kt vt q n F)=>some (.mo kt vt q n F::l,M::ms)
        | _=>none
      | .clo f caps=>match zv5 sf f caps with
        | some x=>some (x::l,ms)
        | none=>none
      | _=>none
    | none=>none
def sU(ob:Nat->Option AO)(d:DV):Option (XA×List Nat×List Nat) :=
 match Af ob d with
 | some (x,[])=>some (.d x,[],[])
 | _=>none
def Ah(sf:lu)(ob:Nat->Option AO)(d:DV):Option (XA×List Nat×List Nat) :=
 match d with
 | .one (.c (.ptr L 0))=>match ob L with
  | some (.box ty cells)=>match iU sf ob cells with
   | some (cs,ms)=>some (.box ty cs,L::ms,ms)
   | none=>none
  | _=>sU ob d
 | _=>sU ob d
def jZ(sf:lu)(ob:Nat→Option AO):List DV→Option (List XA×List Nat×List Nat)
  | []=>some ([],[],[])
  | d::r=>match Ah sf ob d,jZ sf ob r with
    | some (x,bl,ms),some (xs,bls,mss)=>some (x::xs,bl++bls,ms++mss)
    | _,_=>none
def ik:List Cl→List XC→Option (List Cl×List (Nat×AO))
  | [],[]=>some ([],[])
  | .p _::cs,.p v::ys=>match ik cs ys with
    | some (l,u)=>some (.p v::l,u)
    | none=>none
  | .vec M::cs,.vec e s b n get::ys=>match ik cs ys with
    | some (l,u)=>some (.vec M::l,(M,.vec e s b n get)::u)
    | none=>none
  | .mo M::cs,.mo kt vt q n F::ys=>match ik cs ys with
    | some (l,u)=>some (.mo M::l,(M,.mo kt vt q n F)::u)
    | none=>none
  | .clo f caps::cs,.slf _ _ _::ys=>match ik cs ys with
    | some (l,u)=>some (.clo f caps::l,u)
    | none=>none
  | _,_=>none
def II(ob:Nat->Option AO)(d:DV)(y:XA):Option (List (Nat×AO)) :=
 match d with
 | .one (.c (.ptr L 0))=>match ob L with
  | some (.box YX cells)=>match y with
   | .box ty cs=>match Nat.beq ty YX,ik cells cs with
    | true,some (l,u)=>some ((L,.box ty l)::u)
    | _,_=>none
   | .d _=>none
  | _=>match y with
   | .d _=>some []
   | .box _ _=>none
 | _=>match y with
  | .d _=>some []
  | .box _ _=>none
def jR(ob:Nat→Option AO):List DV→List XA→Option (List (Nat×AO))
  | [],[]=>some []
  | d::ds,y::ys=>match II ob d y,jR ob ds ys with
    | some u,some us=>some (u++us)
    | _,_=>none
  | _,_=>none
def mO:List Nat→Bool
  | []=>true
  | x::r=>!r.contains x&&mO r
def lC:AO→Bool
  | .box _ [.clo _ _]=>true
  | _=>false
def zv6(ty:Nat)(k:IntKind)(n:Int):List PA:=[.one (.fna 4294967295 [.int .i64 ty,.int k n])]
def zm4(ty:Nat)(k:IntKind)(n:Int):List PanicEntry:=[{v:=.iface ty (.agg #[.int k n]),recovered:=false}]
def Fh:List PA→Option (List PanicEntry)
  | [.one (.fna f [.int _ ty,.int k n])]=>match Nat.beq f 4294967295 with
    | true=>some (zm4 ty.toNat k n)
    | false=>none
  | _=>none
def chR:List PanicEntry→Option (List PA)
  | [⟨.iface ty (.agg ⟨[.int k n]⟩),false,false⟩]=>some (zv6 ty k n)
  | _=>none
theorem zEw{ch:List PanicEntry}{rs:List PA}(h:chR ch=some rs):Fh rs=some ch:=by
 unfold chR at h;split at h
 ·cases h;rfl
 ·cases h
def qB(args:List DV)(ob:Nat->Option AO)(ls ms:List Nat)(rs:List PA)(ys:List XA):aC:=match jR ob args ys with
 | some u=>match mO ls&&Nat.ble ms.length 1&&ms.all λM=>((u.filter λx=>!lC x.2).map (·.1)).contains M with
  | true=>.val (wr ((u.filter λx=>!lC x.2).map (·.1))++rd (args.flatMap (bK ob))) (resD rs) (u.filter λx=>!lC x.2) ms
  | false=>.no
 | none=>.no
def uo(C:MK)(sf:lu)(args:List DV)(ob:Nat->Option AO):aC :=
 match jZ sf ob args with
 | some (xs,ls,ms)=>match(C xs).o with
  | some (rs,ys)=>match Fh rs with
   | none=>qB args ob ls ms rs ys
   | some _=>.no
  | none=>.no
 | none=>.no
def Pq(ev:Operand→DV):List Operand→List Operand→Option (List PV)
  | [x],[]=>match ev x with
    | .one (.agg cs)=>jY cs
    | _=>none
  | _,_=>none
def Fj(d:DV)(ob:Nat->Option AO):Option (Nat×Nat×(Nat->List PV)×List (Nat×Bool)) :=
 match d with
 | .one (.c (.p (.sl n sz get)))=>some (n,sz,get,[])
 | .one (.c (.vec M))=>match ob M with
  | some (.vec _ sz _ n get)=>some (n,sz,get,[(M,false)])
  | some (.fvec sz n get)=>some (n,sz,get,[(M,false)])
  | _=>none
 | _=>none
def QZ(e:Nat)(ie:TypeInfo)(dst:Nat)(x s:DV)(ob:Nat->Option AO):aC :=
 match Fj x ob with
 | some (m,sz,new,fps)=>match s with
  | .one (.c (.vec L))=>match ob L with
   | some (.vec e' s' b' n get)=>if e'=e/\s'=ie.size/\b'=ie.bytes/\sz=s'/\0<s'/\df x≠[L]/\smL (get 0) (new 0)=true then
     .chk ((L,true)::fps) ((n+m)*b'<=140737488355328/\n+m<=9223372036854775807) (.cl (.vec L)) [(L,.vec e s' b' (n+m) (nzG (get 0) (appG n get new)))] [L]
    else .no
   | _=>.no
  | .one (.c (.p .nils))=>match ob dst with
   | none=>if sz=ie.size/\0<sz then
     .chk ((dst,true)::fps) (m*ie.bytes<=140737488355328/\m<=9223372036854775807) (.cl (.vec dst)) [(dst,.vec e sz ie.bytes m new)] []
    else .no
   | some _=>.no
  | _=>.no
 | none=>.no
def aPk(ev:Operand->DV)(c a b:Operand):aC:=match ev c with
  | .one (.c (.p (.bool t)))=>.val [] (Az t (ev a) (ev b)) [] []
  | _=>.no
def aAl(o:Oper)(ev:Operand->DV)(ob:Nat->Option AO)(e:TypeId):aC:=match gV P e with
  | some z=>Fg ob o.dst (.box e z) λt=>.cl (.ptr t 0)
  | none=>.no
def aBx(o:Oper)(ev:Operand->DV)(ob:Nat->Option AO)(e:TypeId)(x:Operand):aC:=match ev x,qA P e with
  | .one d,some n=>match Nat.beq d.cells.length n&&d.cells.all Ci with
   | true=>Fg ob o.dst (.box e d.cells) λt=>.cl (.ptr t 0)
   | false=>.no
  | _,_=>.no
def aBd(ev:Operand->DV)(t:TypeId)(parts:Array (Nat×Operand)):aC:=match yF P t,gV P t with
  | true,some z=>match iH P t ev z parts.toList with
   | some l=>.val [] (.one (.agg l)) [] []
   | none=>.no
  | _,_=>.no
def aBs(o:Oper)(ev:Operand->DV)(ob:Nat->Option AO)(t:TypeId)(n:Nat)(parts:Array (Nat×Operand)):aC:=match P.underlying t with
  | some (.slice e)=>match P.info? e with
   | some ie=>match jy ob ev ie.size 0 parts.toList with
    | some (ls,u,jh)=>match Nat.beq ls.length n&&Nat.ble (n*ie.size) 1000000&&Nat.ble 1 ie.size&&smA (ls.map (Ag P e)),gV P e,o.dst with
     | true,some _,some dst=>match ob dst with
      | none=>.val (wr jh++[(dst,true)]) (.cl (.vec dst)) ((dst,.vec e ie.size ie.bytes n (nzG (AZ (ls.map (Ag P e)) 0) (AZ (ls.map (Ag P e)))))::u) []
      | some _=>.no
     | _,_,_=>.no
    | none=>.no
   | none=>.no
  | _=>.no
def aLd(o:Oper)(ev:Operand->DV)(ob:Nat->Option AO)(t:TypeId)(a:Operand):aC:=match jD P t,qA P t with
  | some g,some n=>match ev a with
   | .one (.c (.ptr L off))=>match ob L with
    | some (.box _ cells)=>match nX g n cells off with
     | some d=>.val [(L,false)] (.one d) [] []
     | none=>.no
    | some (.fbox cells)=>match nX g n (cells.map .p) off with
     | some d=>.val [(L,false)] (.one d) [] []
     | none=>.no
    | _=>.no
   | .one (.c (.p (.fp cells off)))=>match nX g n (cells.map .p) off with
    | some d=>.val [] (.one d) [] []
    | none=>.no
   | .one (.c (.vptr L s i k))=>match ob L with
    | some (.vec _ s' _ len get)=>match Nat.beq s s',nX g n ((get i).map .p) k with
     | true,some d=>.chk [(L,false)] (i<len) (.one d) [] []
     | _,_=>.no
    | some (.fvec s' len get)=>match Nat.beq s s',nX g n ((get i).map .p) k with
     | true,some d=>.chk [(L,false)] (i<len) (.one d) [] []
     | _,_=>.no
    | some (.vv _ _ _ _ _ _ _ _)=>match Nat.beq s 1&&Nat.beq k 0,g with
     | true,false=>match o.dst with
      | some dst=>match ob dst,ob L with
       | none,some (.vv te bb e s' b len ln get)=>.chk [(L,true),(dst,true)] (i<len) (.cl (.vec dst)) [(dst,.vec e s' b (ln i) (get i)),(L,.vt te bb e s' b len ln get i)] []
       | _,_=>.no
      | none=>.no
     | _,_=>.no
    | _=>.no
   | _=>.no
  | _,_=>.no
def aSt(ev:Operand->DV)(ob:Nat->Option AO)(t:TypeId)(a x:Operand):aC:=match qA P t,ev a,ev x with
  | some n,.one (.c (.ptr L off)),.one d=>match ob L with
   | some (.box ty cells)=>match Nat.beq d.cells.length n&&Nat.ble (off+n) cells.length&&d.cells.all Ci with
    | true=>.val [(L,true)] .junk [(L,.box ty (spl cells off d.cells))] []
    | false=>.no
   | _=>.no
  | some n,.one (.c (.vptr L s i k)),.one d=>match ob L with
   | some (.vec e s' b len get)=>match jY d.cells with
    | some l=>match Nat.beq s s'&&Nat.beq l.length n&&Nat.ble (k+n) s&&smL (((get 0).drop k).take n) l with
     | true=>.chk [(L,true)] (i<len) .junk [(L,.vec e s' b len (nzG (get 0) (yu i k get l)))] []
     | false=>.no
    | none=>.no
   | some (.vt te bb e s' OT len ln get ii)=>match d with
    | .c (.vec M)=>match ob M with
     | some (.vec e2 s2 b2 m lM)=>match Nat.beq s 1&&Nat.beq k 0&&Nat.beq n 1 && !Nat.beq L M with
      | true=>if e2=e/\s2=s'/\b2=OT/\smL (get 0 0) (lM 0)=true then
        .chk [(L,true),(M,true)] (i<len/\i=ii/\0<m) .junk [(L,.vv te bb e s' OT len (mM i m ln) (zgT (get 0 0) (mM i lM get))),(M,.gone)] []
       else .no
      | false=>.no
     | _=>.no
    | _=>.no
   | _=>.no
  | _,_,_=>.no
def aNc(ev:Operand->DV)(x:Operand):aC:=match ev x with
  | .one (.c (.ptr L off))=>.val [] (.cl (.ptr L off)) [] []
  | .one (.c (.p (.fp c off)))=>.val [] (.p (.fp c off)) [] []
  | .one (.c (.vptr L s i k))=>.val [] (.cl (.vptr L s i k)) [] []
  | _=>.no
def aBn(ev:Operand->DV)(op:BinOp)(t:TypeId)(x y:Operand):aC:=match ev x,ev y with
  | .one (.c (.p (.int k a))),.one (.c (.p (.int k' b)))=>if k=k' then U0 op k a b else zgU op k a b
  | .one (.c (.p (.bool a))),.one (.c (.p (.bool b)))=>match P.underlying t,op with
   | some .bool,.eql=>.val [] (.bool (a==b)) [] []
   | some .bool,.neq=>.val [] (.bool (a != b)) [] []
   | _,_=>.no
  | .one (.agg cs),.one (.agg ds)=>zbn P op t cs ds
  | _,_=>.no
def aUn(ev:Operand->DV)(op:UnOp)(x:Operand):aC:=match op,ev x with
  | .not,.one (.c (.p (.bool a)))=>.val [] (.bool (!a)) [] []
  | .neg,.one (.c (.p (.int k a)))=>.val [] (.p (.int k (k.wrap (0-a)))) [] []
  | _,_=>.no
def aCv(ev:Operand->DV)(t1 t2:TypeId)(x:Operand):aC:=match P.underlying t1,P.underlying t2,ev x with
  | some _,some (.int k),.one (.c (.p (.int _ n)))=>.val [] (.p (.int k (k.wrap n))) [] []
  | _,_,_=>.no
def aFa(ev:Operand->DV)(t:TypeId)(x:Operand)(f:Nat):aC:=match JJ P t f with
  | some off=>match ev x with
   | .one (.c (.ptr L k))=>.val [] (.cl (.ptr L (k+off))) [] []
   | .one (.c (.p (.fp c k)))=>.val [] (.p (.fp c (k+off))) [] []
   | .one (.c (.vptr L s i k))=>.val [] (.cl (.vptr L s i (k+off))) [] []
   | _=>.no
  | none=>.no
def aIa(ev:Operand->DV)(ob:Nat->Option AO)(t:TypeId)(x i:Operand):aC:=match P.underlying t with
  | some (.slice e)=>match qA P e,ev i with
   | some n,.one (.c (.p (.int _ j)))=>match ev x with
    | .one (.c (.p (.sl len s get)))=>if s=n then .chk [] (0<=j/\j<(len:Int)) (.p (.fp (get j.toNat) 0)) [] []else .no
    | .one (.c (.vec L))=>match ob L with
     | some (.vec _ s _ len _)=>if s=n then .chk [(L,false)] (0<=j/\j<(len:Int)) (.cl (.vptr L s j.toNat 0)) [] []else .no
     | some (.fvec s len get)=>if s=n then .chk [(L,false)] (0<=j/\j<(len:Int)) (.p (.fp (get j.toNat) 0)) [] []else .no
     | some (.vv _ _ _ _ _ len _ _)=>if n=1 then .chk [(L,false)] (0<=j/\j<(len:Int)) (.cl (.vptr L 1 j.toNat 0)) [] []else .no
     | some (.vt _ _ _ _ _ len _ _ _)=>if n=1 then .chk [(L,false)] (0<=j/\j<(len:Int)) (.cl (.vptr L 1 j.toNat 0)) [] []else .no
     | _=>.no
    | _=>.no
   | _,_=>.no
  | some (.array n e)=>Cj P n e (ev x) (ev i)
  | _=>.no
def aMm(o:Oper)(ev:Operand->DV)(ob:Nat->Option AO)(t:TypeId):aC:=match zvZ Γ o.dst with
  | true=>match P.underlying t with
   | some (.map kt vt)=>match JH P kt vt with
    | some q=>Fg ob o.dst (.mo kt vt q 0 (λ_=>none)) λt=>.cl (.mo t)
    | none=>.no
   | _=>.no
  | false=>.no
def aLn(ev:Operand->DV)(ob:Nat->Option AO)(args:Array Operand)(argTypes:Array TypeId):aC:=match args.toList,argTypes.toList with
  | [x],[t]=>match P.underlying t with
   | some (.slice _)=>match ev x with
    | .one (.c (.p (.sl n _ _)))=>.val [] (.int n) [] []
    | .one (.c (.p .nils))=>.val [] (.int 0) [] []
    | .one (.c (.vec L))=>match ob L with
     | some (.vec _ _ _ n _)=>.val [(L,false)] (.int n) [] []
     | some (.fvec _ n _)=>.val [(L,false)] (.int n) [] []
     | some (.vv _ _ _ _ _ n _ _)=>.val [(L,false)] (.int n) [] []
     | _=>.no
    | _=>.no
   | some (.map _ _)=>match ev x with
    | .one (.c (.mo L))=>match ob L with
     | some (.mo _ _ _ n _)=>.val [(L,false)] (.int n) [] []
     | _=>.no
    | _=>.no
   | _=>.no
  | _,_=>.no
def aMx(ev:Operand->DV)(args:Array Operand):aC:=match args.toList.map ev with
  | [.one (.c (.p (.int k a))),.one (.c (.p (.int _ b)))]=>.val [] (.p (.int k (if b>a then b else a))) [] []
  | _=>.no
def aMi(ev:Operand->DV)(args:Array Operand):aC:=match args.toList.map ev with
  | [.one (.c (.p (.int k a))),.one (.c (.p (.int _ b)))]=>.val [] (.p (.int k (if b<a then b else a))) [] []
  | _=>.no
def aAp(o:Oper)(ev:Operand->DV)(ob:Nat->Option AO)(args:Array Operand)(argTypes:Array TypeId):aC:=match args.toList,argTypes.toList with
  | [s,x],[t,t']=>match P.underlying t,Nat.beq t t',o.dst with
   | some (.slice e),true,some dst=>match P.info? e,gV P e with
    | some ie,some _=>QZ e ie dst (ev x) (ev s) ob
    | _,_=>.no
   | _,_,_=>.no
  | _,_=>.no
def aCl(o:Oper)(ev:Operand->DV)(ob:Nat->Option AO)(f:Operand)(args:Array Operand):aC:=match ev f with
    | .one (.c (.clo g caps))=>match Γ.mt g with
      | some C=>uo C (zdr g args.size caps) (args.toList.map ev++caps.map capD) ob
      | none=>.no
    | .one (.c (.p (.fn g first caps)))=>match Γ.mt g with
     | some C=>uo C none (first.map (λv=>.p v)++args.toList.map ev++caps.map (λv=>.p v)) ob
     | none=>match(Γ.own g).on with
     | true=>match first,caps with
       | [],[]=>kG P Γ o (Γ.own g) (args.toList.map ev) ob
       | _,_=>.no
     | false=>match iD ob (args.toList.map ev)with
      | some (az,u)=>match(Γ.fn g (first.map .one++az++caps.map .one)).o with
        | some r=>lH (args.toList.flatMap λx=>bK ob (ev x)) u r
        | none=>.no
      | none=>.no
    | .one (.c (.p (.fna g cells)))=>match iD ob (args.toList.map ev)with
      | some (az,u)=>match(Γ.fn g (.agg cells::az)).o with
        | some r=>lH (args.toList.flatMap λx=>bK ob (ev x)) u r
        | none=>.no
      | none=>.no
    | _=>.no
def aMf(ev:Operand->DV)(ob:Nat->Option AO)(f:FuncId)(first caps:Array Operand):aC:=match(Γ.mt f).isSome with
   | true=>match first.toList,CE ev caps.toList with
     | [],some l=>.val [] (.cl (.clo f l)) [] []
     | _,_=>.no
   | false=>match Pq ev first.toList caps.toList with
    | some l=>.val [] (.p (.fna f l)) [] []
    | none=>match ul ob (first.toList.flatMap λx=>match ev x with | .one (.c c)=>[c]|_=>[.junk]),ul ob (caps.toList.flatMap λx=>match ev x with | .one (.c c)=>[c]|_=>[.junk])with
    | some (l,u),some (l',u')=>.val (wr ((first.toList++caps.toList).flatMap λx=>bK ob (ev x))) (.p (.fn f l l')) (u++u') []
    | _,_=>.no
def aEx(ev:Operand->DV)(t:Operand)(i:Nat):aC:=match ev t with
  | .tup ds=>match ds[i]? with
   | some d=>.val [] (.one d) [] []
   | none=>.no
  | _=>.no
def act(o:Oper)(ev:Operand->DV)(ob:Nat->Option AO):aC :=
 match o.op with
 | .move x=>.val [] (ev x) [] []
 | .assign x=>.val [] (ev x) [] []
 | .pick c a b=>aPk ev c a b
 | .alloc e=>aAl P o ev ob e
 | .box e x=>aBx P o ev ob e x
 | .build t parts=>aBd P ev t parts
 | .buildSlice t n parts=>aBs P o ev ob t n parts
 | .load t a=>aLd P o ev ob t a
 | .store t a x=>aSt P ev ob t a x
 | .nilCheck x=>aNc ev x
 | .binOp op t x y _=>aBn P ev op t x y
 | .unOp op _ x=>aUn ev op x
 | .convert t1 t2 x=>aCv P ev t1 t2 x
 | .fieldAddr t x f=>aFa P ev t x f
 | .indexAddr t x i=>aIa P ev ob t x i
 | .index t x i=>JF P t (ev x) (ev i)
 | .field t x f=>JG P t (ev x) f
 | .slice t x lo hi none=>CB P t (ev x) (Ff ev lo) (Ff ev hi)
 | .lookup t m k ok=>JI P t (ev m) (ev k) ok ob
 | .mapUpdate t m k v=>U1 P t (ev m) (ev k) (ev v) ob
 | .makeMap t none=>aMm P Γ o ev ob t
 | .makeSlice t x y=>tH P Γ t (ev x) (ev y) o.dst ob
 | .call {callee:=.builtin .len,args,argTypes}=>aLn P ev ob args argTypes
 | .call {callee:=.builtin .max,args,argTypes:=_}=>aMx ev args
 | .call {callee:=.builtin .min,args,argTypes:=_}=>aMi ev args
 | .call {callee:=.builtin .append,args,argTypes}=>aAp P o ev ob args argTypes
 | .call {callee:=.value f,args,argTypes:=_}=>aCl P Γ o ev ob f args
 | .makeFunc (.func f) first caps=>aMf Γ ev ob f first caps
 | .extract t i=>aEx ev t i
 | _=>.no
end Go.Pm
namespace Go.Pm
def RL{α β:Type}(R:α→β→Prop):List α→List β→Prop
  | [],[]=>True
  | a::l,b::m=>R a b/\RL R l m
  | _,_=>False
section rl
variable{α β:Type}{R R':α->β->Prop}
theorem RL.length{l:List α}{m:List β}(h:RL R l m):l.length=m.length:=by
 induction l generalizing m with
 | nil=>cases m with
  | nil=>rfl
  | cons=>exact h.elim
 | cons a l ih=>cases m with
  | nil=>exact h.elim
  | cons b m=>simp[ih h.2]
theorem RL.mono{l:List α}{m:List β}(h:RL R l m)(hr:∀a b,R a b->R' a b):RL R' l m:=by
 induction l generalizing m with
 | nil=>cases m with
  | nil=>trivial
  | cons=>exact h.elim
 | cons a l ih=>cases m with
  | nil=>exact h.elim
  | cons b m=>exact⟨hr _ _ h.1,ih h.2⟩
theorem RL.mono_mem{l:List α}{m:List β}(h:RL R l m)(hr:∀a b,a∈l->R a b->R' a b):RL R' l m:=by
 induction l generalizing m with
 | nil=>cases m with
  | nil=>trivial
  | cons=>exact h.elim
 | cons a l ih=>cases m with
  | nil=>exact h.elim
  | cons b m=>exact⟨hr _ _ lq h.1,ih h.2 λx y hx=>hr x y (jU _ hx)⟩
theorem RL.get{l:List α}{m:List β}(h:RL R l m):∀(j:Nat)(a:α),l[j]? = some a->∃b,m[j]? = some b/\R a b:=by
 induction l generalizing m with
 | nil=>intro j a hj;simp at hj
 | cons x l ih=>cases m with
  | nil=>exact h.elim
  | cons b m =>
   intro j a hj;cases j with
   | zero=>simp at hj;subst hj;exact⟨b,rfl,h.1⟩
   | succ j=>simp at hj;obtain⟨b',h1,h2⟩:=ih h.2 j a hj;exact⟨b',by simpa using h1,h2⟩
theorem RL.get'{l:List α}{m:List β}(h:RL R l m):∀(j:Nat)(b:β),m[j]? = some b->∃a,l[j]? = some a/\R a b:=by
 induction l generalizing m with
 | nil=>cases m with
  | nil=>intro j b hj;simp at hj
  | cons=>exact h.elim
 | cons x l ih=>cases m with
  | nil=>exact h.elim
  | cons y m =>
   intro j b hj;cases j with
   | zero=>simp at hj;subst hj;exact⟨x,rfl,h.1⟩
   | succ j=>simp at hj;obtain⟨b',h1,h2⟩:=ih h.2 j b hj;exact⟨b',by simpa using h1,h2⟩
theorem RL.of_get{l:List α}{m:List β}(hl:l.length=m.length)(h:∀(j:Nat)(a:α)(b:β),l[j]? = some a->m[j]? = some b->R a b):RL R l m:=by
 induction l generalizing m with
 | nil=>cases m with
  | nil=>trivial
  | cons=>simp at hl
 | cons x l ih=>cases m with
  | nil=>simp at hl
  | cons y m =>
   refine⟨h 0 x y rfl rfl,ih (by simpa using hl) λj a b ha hb=>h (j+1) a b (by simpa using ha) (by simpa using hb)⟩
theorem RL.append{l l':List α}{m m':List β}(h:RL R l m)(h':RL R l' m'):RL R (l++l') (m++m'):=by
 induction l generalizing m with
 | nil=>cases m with
  | nil=>exact h'
  | cons=>exact h.elim
 | cons a l ih=>cases m with
  | nil=>exact h.elim
  | cons b m=>exact⟨h.1,ih h.2⟩
theorem RL.set{l:List α}{m:List β}(h:RL R l m)(i:Nat){a:α}{b:β}(hab:R a b):RL R (l.set i a) (m.set i b):=by
 induction l generalizing m i with
 | nil=>cases m with
  | nil=>trivial
  | cons=>exact h.elim
 | cons x l ih=>cases m with
  | nil=>exact h.elim
  | cons y m=>cases i with
   | zero=>exact⟨hab,h.2⟩
   | succ i=>exact⟨h.1,ih h.2 i⟩
theorem RL.spl{l l':List α}{m m':List β}(h:RL R l m)(h':RL R l' m')(off:Nat):RL R (spl l off l') (Pm.spl m off m'):=by
 induction l' generalizing l m m' off with
 | nil=>cases m' with
  | nil=>simpa [Pm.spl]using h
  | cons=>exact h'.elim
 | cons x l' ih=>cases m' with
  | nil=>exact h'.elim
  | cons y m'=>simp only[Pm.spl];exact ih (h.set off h'.1) h'.2 _
theorem RL.drop{l:List α}{m:List β}(h:RL R l m)(n:Nat):RL R (l.drop n) (m.drop n):=by
 induction n generalizing l m with
 | zero=>simpa using h
 | succ n ih=>cases l with
  | nil=>cases m with
   | nil=>trivial
   | cons=>exact h.elim
  | cons a l=>cases m with
   | nil=>exact h.elim
   | cons b m=>simpa using ih h.2
theorem RL.take{l:List α}{m:List β}(h:RL R l m)(n:Nat):RL R (l.take n) (m.take n):=by
 induction n generalizing l m with
 | zero=>simp[RL]
 | succ n ih=>cases l with
  | nil=>cases m with
   | nil=>trivial
   | cons=>exact h.elim
  | cons a l=>cases m with
   | nil=>exact h.elim
   | cons b m=>exact⟨h.1,ih h.2⟩
theorem RL.map_left{γ:Type}{f:γ->α}{l:List γ}{m:List β}:RL R (l.map f) m↔RL (λx y=>R (f x) y) l m:=by
 induction l generalizing m with
 | nil=>cases m<;>simp[RL]
 | cons a l ih=>cases m<;>simp[RL,ih]
end rl
def atP:PV→Bool
  | .int _ _=>false
  | .bool _=>false
  | .sl _ _ _=>false
  | .fp _ _=>false
  | _=>true
inductive Sm:PV→PV→Prop
  | int (k:IntKind) (a b:Int):Sm (.int k a) (.int k b)
  | bool (a b:Bool):Sm (.bool a) (.bool b)
  | sl (n m s:Nat) (g g':Nat->List PV) (hl:∀i j:Nat,(g i).length=(g' j).length) (h:∀(i j k:Nat)(x y:PV),(g i)[k]? = some x->(g' j)[k]? = some y->Sm x y):Sm (.sl n s g) (.sl m s g')
  | fp (l l':List PV) (o:Nat) (hl:l.length=l'.length) (h:∀(k:Nat)(x y:PV),l[k]? = some x->l'[k]? = some y->Sm x y):Sm (.fp l o) (.fp l' o)
  | atom (p:PV) (h:atP p=true):Sm p p
theorem Sm.symm{x y:PV}(h:Sm x y):Sm y x:=by
 induction h with
 | int k a b=>exact .int k b a
 | bool a b=>exact .bool b a
 | sl n m s g g' hl h ih=>exact .sl m n s g' g (λi j=>(hl j i).symm) λi j k x y hx hy=>ih j i k y x hy hx
 | fp l l' o hl h ih=>exact .fp l' l o hl.symm λk x y hx hy=>ih k y x hy hx
 | atom p h=>exact .atom p h
theorem oP{α β:Type}{l:List α}{m:List β}{k:Nat}{x:α}(h:l.length=m.length)(hx:l[k]? = some x):∃y,m[k]? = some y:=by
 obtain⟨hk,_⟩:=AY.1 hx;exact⟨_,BR (h▸hk)⟩
theorem Sm.trans{x y:PV}(h:Sm x y):∀{z:PV},Sm y z->Sm x z:=by
 induction h with
 | int k a b=>intro z h;cases h with
  | int _ _ c=>exact .int k a c
  | atom _ h=>cases h
 | bool a b=>intro z h;cases h with
  | bool _ c=>exact .bool a c
  | atom _ h=>cases h
 | sl n m s g g' hl h ih=>intro z h';cases h' with
  | sl _ m' _ _ g2 zY h' =>
   refine .sl n m' s g g2 (λi j=>(hl i 0).trans (zY 0 j)) λi j k x z hx hz=>?_;obtain⟨y,hy⟩:=oP (hl i 0) hx;exact ih i 0 k x y hx hy (h' 0 j k y z hy hz)
  | atom _ h=>cases h
 | fp l l' o hl h ih=>intro z h';cases h' with
  | fp _ l2 _ zY h' =>
   refine .fp l l2 o (hl.trans zY) λk x z hx hz=>?_;obtain⟨y,hy⟩:=oP hl hx;exact ih k x y hx hy (h' k y z hy hz)
  | atom _ h=>cases h
 | atom p h=>intro z h';exact h'
abbrev RS:List PV->List PV->Prop:=RL Sm
def ut(g:Nat->List PV):Prop:=∀i j,RS (g i) (g j)
theorem RS.symm{l m:List PV}(h:RS l m):RS m l:=by
 refine RL.of_get h.length.symm λj a b ha hb=>?_;obtain⟨y,hy,r⟩:=RL.get h j b hb;rw[ha]at hy;cases hy;exact r.symm
theorem RS.trans{l m n:List PV}(h:RS l m)(h':RS m n):RS l n:=by
 refine RL.of_get (h.length.trans h'.length) λj a b ha hb=>?_;obtain⟨y,hy,r⟩:=RL.get h j a ha;obtain⟨z,hz,r'⟩:=RL.get h' j y hy;rw[hb]at hz;cases hz;exact r.trans r'
theorem ut.sl{g g':Nat->List PV}(h:∀i j,RS (g i) (g' j))(n m s:Nat):Sm (.sl n s g) (.sl m s g') :=
 .sl n m s g g' (λi j=>(h i j).length) λi j k x y hx hy=>by
  obtain⟨z,hz,r⟩:=RL.get (h i j) k x hx;rw[hy]at hz;cases hz;exact r
theorem Sm.rows{n m s s':Nat}{g g':Nat->List PV}(h:Sm (.sl n s g) (.sl m s' g')):s=s'/\∀i j,RS (g i) (g' j):=by
 cases h with
 | sl _ _ _ _ _ hl h=>exact⟨rfl,λi j=>RL.of_get (hl i j) λk a b ha hb=>h i j k a b ha hb⟩
 | atom _ h=>cases h
theorem zv8:∀{d:Nat}{p q:PV},smB d p q=true->Sm p p->Sm q q->Sm p q:=by
 intro d
 induction d with
 | zero=>intro p q h;cases h
 | succ d ih =>
  have key:∀{l m:List PV},(Nat.beq l.length m.length&&(l.zip m).all λz=>smB d z.1 z.2)=true->RS l l->RS m m->RS l m:=by
   intro l m h hl hm;rw[gG]at h;refine RL.of_get (kL h.1) λj a b ha hb=>?_;obtain⟨_,ha',ra⟩:=RL.get hl j a ha;obtain⟨_,mf,rb⟩:=RL.get hm j b hb;rw[ha]at ha';rw[hb]at mf;cases ha';cases mf;exact ih (Aa.1 h.2 (a,b) (JB (i:=j) (by rw[jqX];exact⟨ha,hb⟩))) ra rb
  intro p q h hp hq;unfold smB at h;split at h
  ·have:=dqS h;subst this;exact .int _ _ _
  ·exact .bool _ _
  ·rw [gG]at h;have e:=kL h.1;subst e;have h0:=key h.2 (hp.rows.2 0 0) (hq.rows.2 0 0);exact ut.sl (λi j=>((hp.rows.2 i 0).trans h0).trans (hq.rows.2 0 j)) _ _ _
  ·rw [gG]at h;have e:=kL h.1;subst e;have hp':∀{l:List PV}{o:Nat},Sm (.fp l o) (.fp l o)->RS l l:=by
    intro l o h;cases h with
    | fp _ _ _ hl h=>exact RL.of_get hl λk a b ha hb=>h k a b ha hb
    | atom _ h=>cases h
   have h0:=key h.2 (hp' hp) (hp' hq);exact .fp _ _ _ h0.length λk x y hx hy=>by
    obtain⟨z,hz,r⟩:=RL.get h0 k x hx;rw[hy]at hz;cases hz;exact r
  ·exact hp
  ·exact hp
  ·exact hp
  ·exact hp
  ·cases h
theorem Sm.cells{l l':List PV}{o:Nat}(h:Sm (.fp l o) (.fp l' o)):RS l l':=by
 cases h with
 | fp _ _ _ hl h=>exact RL.of_get hl λk a b ha hb=>h k a b ha hb
 | atom _ h=>cases h
theorem Sm.fp'{l l':List PV}{o:Nat}(h:RS l l'):Sm (.fp l o) (.fp l' o):=.fp _ _ _ h.length λk x y hx hy=>by
 obtain⟨z,hz,r⟩:=RL.get h k x hx;rw[hy]at hz;cases hz;exact r
theorem JP{l m:List PV}(h:smL l m=true)(hl:RS l l)(hm:RS m m):RS l m:=by
 unfold smL at h;rw[gG]at h;refine RL.of_get (kL h.1) λj a b ha hb=>?_;obtain⟨_,ha',ra⟩:=RL.get hl j a ha;obtain⟨_,mf,rb⟩:=RL.get hm j b hb;rw[ha]at ha';rw[hb]at mf;cases ha';cases mf;exact zv8 (Aa.1 h.2 (a,b) (JB (i:=j) (by rw[jqX];exact⟨ha,hb⟩))) ra rb
theorem zm8{n:Nat}{g new:Nat->List PV}(hg:ut g)(hn:ut new)(h:RS (g 0) (new 0)):ut (appG n g new):=by
 have h2:∀i j,RS (g i) (new j):=λi j=>((hg i 0).trans h).trans (hn 0 j);intro i j;unfold appG;split<;>split
 ·exact hn _ _
 ·exact(h2 _ _).symm
 ·exact h2 _ _
 ·exact hg _ _
theorem JR{c:List PV}(h:RS c c):ut λ_=>c:=λ_ _=>h
theorem wE{g:Nat->List PV}(h:ut g)(f:Nat->Nat):ut λi=>g (f i):=λ_ _=>h _ _
theorem U3{l:List (List PV)}(h:∀c∈l,RS c c)(hs:smA l=true):ut (AZ l):=by
 have key:∀c r,l=c::r->∀x∈l,RS c x:=by
  intro c r e x hx;subst e;simp only[smA,gG,Aa]at hs;rcases kR.1 hx with rfl|hx
  ·exact h _ lq
  ·exact JP (hs.2 x hx) (h _ lq) (h _ (jU _ hx))
 unfold AZ;split
 ·exact λ_ _=>trivial
 ·exact JR (h _ lq)
 ·rename_i c r _;have k2:∀i:Nat,RS c (match(c::r)[i]? with|some x=>x|none=>c):=λi=>by
   split
   ·rename_i x hx;exact key c r rfl x (JB hx)
   ·exact h _ lq
  exact λi j=>(k2 i).symm.trans (k2 j)
inductive pR:PV→PV→Prop
  | rfl (p:PV):pR p p
  | nil (s:Nat) (g:Nat->List PV) (h:ut g):pR .nils (.sl 0 s g)
  | sl (n s:Nat) (g g':Nat->List PV) (hu:ut g') (hl:∀i:Nat,i<n->(g i).length=(g' i).length) (h:∀(i k:Nat)(x y:PV),i<n->(g i)[k]? = some x->(g' i)[k]? = some y->pR x y):pR (.sl n s g) (.sl n s g')
  | fp (l l':List PV) (o:Nat) (hl:l.length=l'.length) (h:∀(k:Nat)(x y:PV),l[k]? = some x->l'[k]? = some y->pR x y):pR (.fp l o) (.fp l' o)
  | fn (f:FuncId) (a a' l l':List PV) (ha:a.length=a'.length) (h0:∀(k:Nat)(x y:PV),a[k]? = some x->a'[k]? = some y->pR x y) (hl:l.length=l'.length) (h:∀(k:Nat)(x y:PV),l[k]? = some x->l'[k]? = some y->pR x y):pR (.fn f a l) (.fn f a' l')
theorem kK{f:PV→PV→PV}(hf:∀a b,Sm a b→f a b=b):∀{l m:List PV},RS l m→IC f l m=m
  | [],[],_=>rfl
  | _::_,_::_,h=>by simp only[IC,qjA,List.tail_cons,hf _ _ h.1,kK hf h.2]
  | [],_::_,h=>h.elim
  | _::_,[],h=>h.elim
theorem pO:∀(d:Nat)(a b:PV),Sm a b→shp d a b=b
  | 0,_,_,_=>rfl
  | d+1,a,b,h=>by
    cases h with
    | int=>rfl
    | bool=>rfl
    | sl n m s g g' hl hg =>
      have hr:=(Sm.rows (.sl n m s g g' hl hg)).2;simp only[shp];congr 1;funext i;exact kK (pO d) (hr 0 i)
    | fp l l' o hl hg =>
      simp only[shp];rw[kK (pO d) (Sm.cells (.fp l l' o hl hg))]
    | atom _ ha=>cases a<;>first|rfl|cases ha
theorem Zc{row:List PV}{g:Nat->List PV}(h:∀i,RS row (g i)):nzG row g=g:=by
 funext i;exact kK (pO 8) (h i)
theorem zm9{row:List PV}{g:Nat->Nat->List PV}(h:∀i j,RS row (g i j)):zgT row g=g:=by
 funext i j;exact kK (pO 8) (h i j)
structure Sl (α : Type) where
  len:Nat
  get:Nat->α
instance{α:Type}[Inhabited α]:Inhabited (Sl α):=⟨⟨0,λ_=>default⟩⟩
class bH (α : Type) where
  enc:α->List PV
  dec:List PV->α×List PV
  ck:List PV->Option (List PV)
  le:∀{l r:List PV},RS l l->ck l=some r->∃k,l=k++r/\(dec l).2=r/\RL pR k (enc (dec l).1)
  inv:∀{l m r:List PV},RS l m->ck l=some r->∃r',ck m=some r'/\RS r r'
  sm:∀a b:α,RS (enc a) (enc b)
  eq:α->α->Bool
  eqk:∀{a b:α},eq a b=true->RL pR (enc a) (enc b)
instance : bH Int where
  enc x:=[.int .i64 x]
  dec l:=match l with | .int .i64 x::r=>(x,r)|_=>(0,[])
  ck l:=match l with | .int .i64 _::r=>some r|_=>none
  le:=by
    intro l r _ h;split at h
    · cases h;exact⟨[_],rfl,rfl,.rfl _,trivial⟩
    · cases h
  inv:=by
    intro l m r h hc;split at hc
    · cases hc
      match m,h with
      | y::m,h =>
        obtain⟨h,h2⟩:=h;cases h with
        | int=>exact⟨_,rfl,h2⟩
        | atom _ h=>cases h
    · cases hc
  sm a b:=⟨.int _ _ _,trivial⟩
  eq a b:=decide (a=b)
  eqk h:=by rw[of_decide_eq_true h];exact⟨.rfl _,trivial⟩
instance : bH Bool where
  enc x:=[.bool x]
  dec l:=match l with | .bool x::r=>(x,r)|_=>(false,[])
  ck l:=match l with | .bool _::r=>some r|_=>none
  le:=by
    intro l r _ h;split at h
    · cases h;exact⟨[_],rfl,rfl,.rfl _,trivial⟩
    · cases h
  inv:=by
    intro l m r h hc;split at hc
    · cases hc
      match m,h with
      | y::m,h =>
        obtain⟨h,h2⟩:=h;cases h with
        | bool=>exact⟨_,rfl,h2⟩
        | atom _ h=>cases h
    · cases hc
  sm a b:=⟨.bool _ _,trivial⟩
  eq a b:=a==b
  eqk h:=by rw[eq_of_beq h];exact⟨.rfl _,trivial⟩
def Pv(o:Option (List PV)):Bool:=match o with|some []=>true|_=>false
theorem Q3{o:Option (List PV)}(h:Pv o=true):o=some []:=by
 unfold Pv at h;split at h
 ·rfl
 ·cases h
theorem nZ{α:Type}[bH α]{g:Nat->List PV}(h:ut g)(hc:Pv (bH.ck (α:=α) (g 0))=true)(i:Nat):RL pR (g i) (bH.enc (bH.dec (α:=α) (g i)).1):=by
 obtain⟨r',e,hr⟩:=bH.inv (h 0 i) (Q3 hc);cases r' with
 | nil =>
  obtain⟨k,e1,_,r⟩:=bH.le (h i i) e;rw[List.append_nil]at e1;rw[<- e1]at r;exact r
 | cons=>exact hr.elim
def fG(p:Nat→Bool):Nat→Bool
  | 0=>true
  | n+1=>fG p n&&p n
theorem Q4{p:Nat→Bool}:∀{n:Nat},fG p n=true→∀i,i<n→p i=true
  | 0,_,i,hi=>absurd hi (UW i)
  | n+1,h,i,hi=>by
    simp only[fG,gG]at h;rcases Nat.lt_succ_iff_lt_or_eq.1 hi with h1|rfl
    · exact Q4 h.1 i h1
    · exact h.2
instance {α : Type} [bH α] [Inhabited α] : bH (Sl α) where
  enc x:=[.sl x.len (bH.enc (default:α)).length (λi=>bH.enc (x.get i))]
  dec l:=match l with
    | .sl n _ g::r=>(⟨n,λi=>(bH.dec (g i)).1⟩,r)
    | .nils::r=>(⟨0,λ_=>default⟩,r)
    | _=>(⟨0,λ_=>default⟩,[])
  ck l:=match l with
    | .sl _ s g::r=>match Nat.beq s (bH.enc (default:α)).length&&Pv (bH.ck (α:=α) (g 0))with
      | true=>some r
      | false=>none
    | .nils::r=>some r
    | _=>none
  le:=by
    intro l r hl h;split at h
    · rename_i n s g r';split at h
      · rename_i hc;rw[Bool.and_eq_true]at hc;cases h;have e:=Nat.eq_of_beq_eq_true hc.1;subst e;have hu:ut g:=hl.1.rows.2;refine⟨[_],rfl,rfl,?_,trivial⟩;have hp:=λi=>nZ (α:=α) hu hc.2 i;exact .sl _ _ _ _ (λi j=>bH.sm _ _) (λi _=>(hp i).length) λi k x y _ hx hy=>by
          obtain⟨z,hz,r⟩:=RL.get (hp i) k x hx;rw[hy]at hz;cases hz;exact r
      · cases h
    · cases h;exact⟨[_],rfl,rfl,.nil _ _ λi j=>bH.sm _ _,trivial⟩
    · cases h
  inv:=by
    intro l m r h hc;split at hc
    · rename_i n s g r';split at hc
      · rename_i hs;cases hc
        match m,h with
        | y::m,h =>
          obtain⟨h,h2⟩:=h;cases h with
          | sl _ m' _ _ g' hl hg =>
            rw[Bool.and_eq_true]at hs;obtain⟨r',e,hr⟩:=bH.inv (α:=α) ((Sm.rows (.sl n m' s g g' hl hg)).2 0 0) (Q3 hs.2);cases r' with
            | nil=>exact⟨m,by simp only[hs.1,e];rfl,h2⟩
            | cons=>exact hr.elim
          | atom _ h=>cases h
      · cases hc
    · cases hc
      match m,h with
      | y::m,h =>
        obtain⟨h,h2⟩:=h;cases h with
        | atom _ _=>exact⟨m,rfl,h2⟩
    · cases hc
  sm a b:=⟨ut.sl (λi j=>bH.sm _ _) _ _ _,trivial⟩
  eq a b:=Nat.beq a.len b.len&&fG (λi=>bH.eq (a.get i) (b.get i)) a.len
  eqk:=by
    intro a b h;obtain⟨n,f⟩:=a;obtain⟨m,f'⟩:=b;rw[Bool.and_eq_true]at h;have e:n=m:=Nat.eq_of_beq_eq_true h.1;subst e;have key:=λi (hi:i<n)=>bH.eqk (Q4 h.2 i hi);exact⟨.sl _ _ _ _ (λi j=>bH.sm _ _) (λi hi=>(key i hi).length) λi k x y hi hx hy=>by
      obtain⟨z,hz,r⟩:=RL.get (key i hi) k x hx;rw[hy]at hz;cases hz;exact r,trivial⟩
theorem zbp{α β:Type}{R:α→β→Prop}:∀{a:List α}{b:List β}{c:List α}{d:List β},RL R a b→RL R c d→RL R (a++c) (b++d)
  | [],[],_,_,_,h=>h
  | _::_,_::_,_,_,h,h'=>⟨h.1,zbp h.2 h'⟩
instance {α β : Type} [bH α] [bH β] : bH (α × β) where
  enc:=λx=>bH.enc x.1++bH.enc x.2
  dec:=λl=>(((bH.dec (α:=α) l).1,(bH.dec (α:=β) (bH.dec (α:=α) l).2).1),(bH.dec (α:=β) (bH.dec (α:=α) l).2).2)
  ck:=λl=>match bH.ck (α:=α) l with
    | some r=>bH.ck (α:=β) r
    | none=>none
  le:=by
    intro l r hl h;split at h
    · rename_i r1 h1;obtain⟨k1,e1,d1,p1⟩:=bH.le hl h1;obtain⟨r1',e1',s1⟩:=bH.inv hl h1;rw[h1] at e1';cases e1';obtain⟨k2,e2,d2,p2⟩:=bH.le s1 h;refine⟨k1 ++ k2,by rw[List.append_assoc,<- e2];exact e1,?_,?_⟩
      · simp only[d1];exact d2
      · simp only[d1];exact zbp p1 p2
    · cases h
  inv:=by
    intro l m r h hc;split at hc
    · rename_i r1 h1;obtain⟨r1',e1,s1⟩:=bH.inv h h1;obtain⟨r2',e2,s2⟩:=bH.inv s1 hc;exact⟨r2',by rw[e1];exact e2,s2⟩
    · cases hc
  sm a b:=zbp (bH.sm _ _) (bH.sm _ _)
  eq a b:=bH.eq a.1 b.1&&bH.eq a.2 b.2
  eqk h:=by rw[Bool.and_eq_true]at h;exact zbp (bH.eqk h.1) (bH.eqk h.2)
structure Pt (α : Type) where
  v:α
instance{α:Type}[Inhabited α]:Inhabited (Pt α):=⟨⟨default⟩⟩
instance {α : Type} [bH α] : bH (Pt α) where
  enc:=λx=>[.fp (bH.enc x.v) 0]
  dec:=λl=>match l with
    | .fp k _::r=>(⟨(bH.dec k).1⟩,r)
    | _=>(⟨(bH.dec []).1⟩,[])
  ck:=λl=>match l with
    | .fp k 0::r=>match Pv (bH.ck (α:=α) k)with
      | true=>some r
      | false=>none
    | _=>none
  le:=by
    intro l r hl h;split at h
    · split at h
      · rename_i hc;cases h;obtain⟨k',e1,_,p⟩:=bH.le hl.1.cells (Q3 hc);rw[List.append_nil]at e1;rw[<- e1]at p;exact⟨[_],rfl,rfl,.fp _ _ _ p.length λk x y hx hy=>by
          obtain⟨z,hz,r⟩:=RL.get p k x hx;rw[hy]at hz;cases hz;exact r,trivial⟩
      · cases h
    · cases h
  inv:=by
    intro l m r h hc;split at hc
    · split at hc
      · rename_i hs;cases hc
        match m,h with
        | y::m,h =>
          obtain⟨h,h2⟩:=h;cases h with
          | fp _ l' _ hl hg =>
            obtain⟨r',e,hr⟩:=bH.inv (α:=α) (Sm.cells (.fp _ _ 0 hl hg)) (Q3 hs);cases r' with
            | nil=>exact⟨m,by simp only[e];rfl,h2⟩
            | cons=>exact hr.elim
          | atom _ h=>cases h
      · cases hc
    · cases hc
  sm a b:=⟨Sm.fp' (bH.sm _ _),trivial⟩
  eq a b:=bH.eq a.v b.v
  eqk h:=⟨.fp _ _ _ (bH.eqk h).length λk x y hx hy=>by
    obtain⟨z,hz,r⟩:=RL.get (bH.eqk h) k x hx;rw[hy]at hz;cases hz;exact r,trivial⟩
abbrev bH.iso {α β : Type} [bH α] (f : α → β) (g : β → α) (hg : ∀ a, g (f a) = a) : bH β where
  enc:=λb=>bH.enc (g b)
  dec:=λl=>(f (bH.dec (α:=α) l).1,(bH.dec (α:=α) l).2)
  ck:=bH.ck (α:=α)
  le:=by
    intro l r hl h;rw[hg];exact bH.le hl h
  inv:=bH.inv
  sm a b:=bH.sm _ _
  eq a b:=bH.eq (g a) (g b)
  eqk h:=bH.eqk h
end Go.Pm
namespace Go.Pm
def JS(b:Bool)(x y:Prop):Prop:=match b with|true=>x|false=>y
theorem qW{b:Bool}{x y:Prop}:JS b x y↔((b=true->x)/\(b=false->y)):=by
 cases b<;>simp[JS]
theorem CG{b:Bool}{x y:Prop}(h1:b=true->x)(h2:b=false->y):JS b x y:=qW.2 ⟨h1,h2⟩
structure Keep where
  tmps:List Nat
  coT:List (Nat×Nat×Nat)
  coB:List (Nat×Nat×Nat×Nat)
  coV:List (Nat×Nat×Nat×Nat×Nat)
  coF:List Nat
  coZ:List Nat
  nf:List (Nat×Nat×Nat×Nat)
structure dK where
  nt:Nat
  reg:List (Nat×Keep)
  head:List (Nat×Keep)
  cut:List (Nat×Keep)
  unr:List (Nat×Nat×Keep)
  yl:List Nat
  pan:List Nat
def St.setT(σ:St)(t:Nat)(d:DV):St:={σ with env:=(t,d)::σ.env}
def gq(l:List Nat)(x:Cl):Cl :=
 match x with
 | .vec L=>match l.contains L with|true=>.dead L|false=>.vec L
 | .vptr L s i k=>match l.contains L with|true=>.dead L|false=>.vptr L s i k
 | .mo L=>match l.contains L with|true=>.dead L|false=>.mo L
 | x=>x
def fV(l:List Nat):D1→D1
  | .c x=>.c (gq l x)
  | .agg cs=>.agg (cs.map (gq l))
def gI(l:List Nat):DV→DV
  | .one d=>.one (fV l d)
  | .tup ds=>.tup (ds.map (fV l))
def fD(l:List Nat):AO→AO
  | .box ty cs=>.box ty (cs.map (gq l))
  | o=>o
def kills{α:Type}(f:α→α):List (Nat×α)→List (Nat×α)
  | []=>[]
  | (k,a)::r=>(k,f a)::kills f r
def St.upd(σ:St)(_i:Nat)(dst:Option Nat)(_fp:List (Nat×Bool))(d:DV)(u:List (Nat×AO))(kill:List Nat):St :=
  match kill with
  | [] => { env := match dst with | some t => (t, d) :: σ.env | none => σ.env
            aB:=u++σ.aB
            log:=σ.log}
  | kill => { env := match dst with | some t => (t, d) :: kills (gI kill) σ.env | none => kills (gI kill) σ.env
              aB:=u++kills (fD kill) σ.aB
              log:=σ.log}
def St.skip(σ:St)(dst:Option Nat):St :=
 match dst with
 | some t=>σ.setT t (.cl .undef)
 | none=>σ
def dJ(nt:Nat):Option Nat→Bool
  | none=>true
  | some t=>Nat.blt t nt
def St.relog(σ:St)(l:List (Nat×Nat×Nat)):St:={σ with log:=l++σ.log}
def Oq(σ:St):List Nat→List Nat
  | []=>[]
  | L::_=>(σ.aB.map (·.1)).filter λk=>match lk σ.aB k with
    | some o=>(pK o).contains L
    | none=>false
def JU(σ:St)(o:Oper)(fp:List (Nat×Bool)):List Nat :=
 (o.op.operands.toList.flatMap λx=>lW (fU σ.env x))++fp.flatMap λx=>match lk σ.aB x.1 with
  | some ob=>pK ob
  | none=>[]
def oV(σ:St)(i:Nat)(o:Oper)(fp:List (Nat×Bool))(kl:List Nat):List (Nat×Nat×Nat) :=
 (fp.map λx=>(i,x.1,match x.2 with|true=>1|false=>0))++((JU σ o fp).map λL=>(i,L,2))++(kl.map λL=>(i,L,3))++((Oq σ kl).map λL=>(i,L,1))
def nN(A:aC)(lg:List (Nat×Bool)->List Nat->List (Nat×Nat×Nat))(i:Nat)(dst:Option Nat)(K:St->Prop)(σ:St):Prop :=
 match A with
 | .no=>False
 | .val fp d u kl=>K ((σ.upd i dst fp d u kl).relog (lg fp kl))
 | .chk fp s d u kl=>s.p/\K ((σ.upd i dst fp d u kl).relog (lg fp kl))
section
variable(P:Program)(Γ:bU)
def ku(nt:Nat)(ops:Array Oper):Nat→List Oper→(St→Prop)→St→Prop
  | _,[],K,σ=>K σ
  | i,o::r,K,σ =>
    match dJ nt o.dst with
    | false=>False
    | true =>
    match o.guard with
    | none=>nN (act P Γ o (fU σ.env) (lk σ.aB)) (oV σ i o) i o.dst (ku nt ops (i+1) r K) σ
    | some (j,want) =>
      match(ops[j]?).bind (·.dst)with
      | none=>False
      | some g =>
        match lk σ.env g with
        | some (.one (.c (.p (.bool b)))) =>
          JS b
            (match want with
              | true=>nN (act P Γ o (fU ((g,.bool true)::σ.env)) (lk σ.aB)) (oV (σ.setT g (.bool true)) i o) i o.dst (ku nt ops (i+1) r K) (σ.setT g (.bool true))
              | false=>ku nt ops (i+1) r K ((σ.setT g (.bool true)).skip o.dst))
            (match want with
              | true=>ku nt ops (i+1) r K ((σ.setT g (.bool false)).skip o.dst)
              | false=>nN (act P Γ o (fU ((g,.bool false)::σ.env)) (lk σ.aB)) (oV (σ.setT g (.bool false)) i o) i o.dst (ku nt ops (i+1) r K) (σ.setT g (.bool false)))
        | some (.one (.c .undef))=>ku nt ops (i+1) r K (σ.skip o.dst)
        | _=>False
def A7(ms:List Nat):List Edge→Nat
  | []=>0
  | e::r=>match Region.binds .any e,ms[e.on]? with
    | true,some m=>(2^e.on ||| m) ||| A7 ms r
    | _,_=>A7 ms r
def masks:List Oper→List Nat→List Nat
  | [],ms=>ms
  | o::r,ms=>masks r (ms++[A7 ms o.after.toList])
def Zd:Operand→List Nat
  | .tmp t=>[t]
  | _=>[]
def gdT(ops:Array Oper)(o:Oper):List Nat :=
 match o.guard with
 | some (j,_)=>match(ops[j]?).bind (·.dst)with|some g=>[g]|none=>[]
 | none=>[]
def uu(ops:Array Oper)(o:Oper):List Nat:=o.op.operands.toList.flatMap Zd++gdT ops o
def meets(l:List Nat)(d:Option Nat):Bool:=match d with|some t=>l.contains t|none=>false
def zbq(d e:Option Nat):Bool:=match d,e with|some t,some u=>Nat.beq t u|_,_=>false
def JV(ops:Array Oper)(a b:Oper):Bool :=
 meets (uu ops b) a.dst||meets (uu ops a) b.dst||zbq a.dst b.dst
def A8(ops:Array Oper)(ms:List Nat):Bool :=
 (List.range ops.size).all λj=>(List.range j).all λi =>
  match ops[i]?,ops[j]?,ms[j]? with
  | some a,some b,some m=>!JV ops a b||m.testBit i
  | _,_,_=>false
def JW(ops:Array Oper):Bool :=
 (List.range ops.size).all λi=>match ops[i]? with
  | some o=>o.after.toList.all λe=>!Region.binds .any e||Nat.blt e.on i
  | none=>true
def Ze(k l:Nat):Bool :=
 match k,l with
 | 0,1=>true
 | 1,0=>true
 | 1,1=>true
 | 2,3=>true
 | 3,2=>true
 | 3,3=>true
 | _,_=>false
def uV(ms:List Nat)(log:List (Nat×Nat×Nat)):Bool :=
 log.all λx=>log.all λy =>
  !Nat.blt x.1 y.1 || !Nat.beq x.2.1 y.2.1 || !Ze x.2.2 y.2.2||(match ms[y.1]? with|some m=>m.testBit x.1|none=>false)
def tJ(x:Cl):Cl:=match x with | .dead _=>.junk|x=>x
def yH:D1→D1
  | .c x=>.c (tJ x)
  | .agg cs=>.agg (cs.map tJ)
def Q7:DV→DV
  | .one d=>.one (yH d)
  | .tup ds=>.tup (ds.map yH)
def I7:AO→AO
  | .box ty cs=>.box ty (cs.map tJ)
  | o=>o
def mP:List (Nat×Nat×Nat)→St→Option St
  | [],σ=>some σ
  | (t,L,e)::r,σ=>match lk σ.env t with
    | some (.one (.c (.p .nils)))=>match lk σ.aB L,P.info? e,gV P e with
      | none,some ie,some _=>match Nat.ble 1 ie.size with
        | true=>mP r {env:=(t,.cl (.vec L))::σ.env,aB:=(L,.vec e ie.size ie.bytes 0 (λ_=>Cm P e))::σ.aB,log:=σ.log}
        | false=>none
      | _,_,_=>none
    | some (.one (.c (.vec _)))=>mP r σ
    | _=>none
def mQ:List (Nat×Nat×Nat×Nat)→St→Option St
  | [],σ=>some σ
  | (B,k,L,e)::r,σ=>match lk σ.aB B with
    | some (.box ty cs)=>match cs[k]? with
      | some (.p .nils)=>match lk σ.aB L,P.info? e,gV P e with
        | none,some ie,some _=>match Nat.ble 1 ie.size with
          | true=>mQ r {env:=σ.env,aB:=(B,.box ty (cs.set k (.vec L)))::(L,.vec e ie.size ie.bytes 0 (λ_=>Cm P e))::σ.aB,log:=σ.log}
          | false=>none
        | _,_,_=>none
      | some (.vec _)=>mQ r σ
      | _=>none
    | _=>none
def mV:List (Nat×Nat×Nat×Nat×Nat)→St→Option St
  | [],σ=>some σ
  | (B,k,L,te,e)::r,σ=>match lk σ.aB B with
    | some (.box ty cs)=>match cs[k]? with
      | some (.p .nils)=>match lk σ.aB L,P.info? te,gV P te with
        | none,some it,some _=>match P.info? e,gV P e with
          | some ie,some _=>match Nat.beq it.size 1&&Nat.ble 1 ie.size with
            | true=>mV r {env:=σ.env,aB:=(B,.box ty (cs.set k (.vec L)))::(L,.vv te it.bytes e ie.size ie.bytes 0 (λ_=>0) (λ_ _=>Cm P e))::σ.aB,log:=σ.log}
            | false=>none
          | _,_=>none
        | _,_,_=>none
      | some (.vec _)=>mV r σ
      | _=>none
    | _=>none
def xH{α:Type}(f:α→α)(l:List (Nat×α)):List Nat→List (Nat×α)
  | []=>[]
  | t::r=>match lk l t with
    | some d=>(t,f d)::xH f l r
    | none=>xH f l r
def Ba:List Nat→Nat→List Nat
  | [],x=>[x]
  | y::r,x=>match Nat.beq x y with|true=>y::r|false=>y::Ba r x
def zna(ob:Nat->Option AO)(l:List Nat):List Nat:=l.foldl (λa L=>match ob L with|some o=>(dR o).foldl Ba a|none=>a) l
def zv9(ob:Nat->Option AO)(env:List (Nat×DV)):List Nat :=
 zna ob (zna ob (zna ob (zna ob (env.foldl (λa x=>(df x.2).foldl Ba a) []))))
def Zf(jh:List Nat)(l:List Nat):Bool:=l.all λL=>jh.contains L
def Fp(ob:Nat→Option AO):List Nat→List (Nat×AO)
  | []=>[]
  | L::r=>match ob L with
    | some (.box _ cells)=>match jE ob cells with
      | some (l,[])=>(L,.fbox l)::Fp ob r
      | _=>Fp ob r
    | _=>Fp ob r
def Ot(ob:Nat→Option AO):List Nat→List (Nat×AO)
  | []=>[]
  | L::r=>match ob L with
    | some (.vec _ size _ len get)=>(L,.fvec size len get)::Ot ob r
    | _=>Ot ob r
def zdt(l:List Nat)(σ:St):St:={env:=σ.env,aB:=(Fp (lk σ.aB) l++Ot (lk σ.aB) l)++σ.aB,log:=σ.log}
def zdu(σ:St)(n:Nat):St:=match Nat.ble 1000000 n with
 | false=>σ
 | true=>match lk σ.aB ((n-1000000)/64)with
  | some (.box ty cs)=>match cs[(n-1000000)%64]? with
   | some (.vec L)=>match lk σ.aB L with
    | some (.vec _ s _ len get)=>{env:=σ.env,aB:=((n-1000000)/64,.box ty (cs.set ((n-1000000)%64) (.p (.sl len s get))))::([(L,.fvec s len get)]++σ.aB),log:=σ.log}
    | _=>σ
   | _=>σ
  | _=>σ
def coP:List Nat→St→St
  | [],σ=>σ
  | n::r,σ=>coP r (zdu σ n)
def mW:List Nat→St→Option St
  | [],σ=>some σ
  | t::r,σ=>match lk σ.env t with
    | some (.one (.c x))=>match x with
      | .p _=>mW r σ
      | _=>match frz (lk σ.aB) x with
        | some (v,u)=>mW r {env:=(t,.p v)::σ.env,aB:=u++σ.aB,log:=σ.log}
        | none=>none
    | _=>none
def Fq(e:Nat):Cl→Cl
  | .p .nils=>match qA P e with
    | some s=>.p (.sl 0 s (λ_=>Cm P e))
    | none=>.p .nils
  | x=>x
def U4(b:Nat)(f:Cl->Cl)(l:List Cl):List Cl:=match l[b]? with|some x=>l.set b (f x)|none=>l
def Zg{α:Type}(k:Nat)(x:α):List (Nat×α)→List (Nat×α)
  | []=>[]
  | (j,y)::r=>match Nat.beq j k with|true=>(j,x)::r|false=>(j,y)::Zg k x r
def nf1(k a b e:Nat)(σ:St):St :=
 match k with
 | 0=>match lk σ.env a with
  | some (.one (.c x))=>{env:=Zg a (.one (.c (Fq P e x))) σ.env,aB:=σ.aB,log:=σ.log}
  | some (.one (.agg cs))=>{env:=Zg a (.one (.agg (U4 b (Fq P e) cs))) σ.env,aB:=σ.aB,log:=σ.log}
  | _=>σ
 | _=>match lk σ.aB a with
  | some (.box ty cs)=>{env:=σ.env,aB:=Zg a (.box ty (U4 b (Fq P e) cs)) σ.aB,log:=σ.log}
  | _=>σ
def I8:List (Nat×Nat×Nat×Nat)→St→St
  | [],σ=>σ
  | (k,a,b,e)::r,σ=>I8 r (nf1 P k a b e σ)
def yI(k:Keep)(σ:St):Option St :=
  match mP P k.coT σ with
  | none=>none
  | some σ1=>match mQ P k.coB σ1 with
    | none=>none
    | some σ2=>match mV P k.coV σ2 with
     | none=>none
     | some σ3 =>
      let env:=xH Q7 σ3.env k.tmps;let jh:=zv9 (lk σ3.aB) env;let aB:=xH I7 σ3.aB jh
      match(env.all λx=>Zf jh (df x.2))&&(aB.all λx=>Zf jh (dR x.2))with
      | true=>some ⟨env,aB,[]⟩
      | false=>none
def canon(k:Keep)(σ:St):Option St :=
 match mW k.coZ (coP k.coF (zdt k.coF σ))with
 | some s=>match yI P k s with
  | some s=>some (I8 P k.nf s)
  | none=>none
 | none=>none
def Px(aQ:dK)(id:Nat)(ops:Array Oper)(draw:Bool)(K:St->Prop)(σ:St):Prop :=
 match draw with
 | false=>ku P Γ aQ.nt ops 0 ops.toList (λσ'=>match lk aQ.reg id with
   | some k=>match canon P k σ' with
    | some s=>K s
    | none=>False
   | none=>K σ') {σ with log:=[]}
 | true=>match P.follows .mixedOrders&&JW ops&&A8 ops (masks ops.toList [])with
  | true=>ku P Γ aQ.nt ops 0 ops.toList (λσ'=>match uV (masks ops.toList []) σ'.log with
   | true=>match lk aQ.reg id with
    | some k=>match canon P k σ' with
     | some s=>K s
     | none=>False
    | none=>False
   | false=>False) {σ with log:=[]}
  | false=>False
def zdv(aQ:dK)(id:Nat)(K:St->Prop)(σ:St):Prop:=match lk aQ.reg id with
 | some k=>match canon P k σ with
  | some s=>K s
  | none=>False
 | none=>K σ
def pU{α:Type}:List α→Option (List α×α)
  | []=>none
  | o::r=>match pU r with
    | some (p,l)=>some (o::p,l)
    | none=>some ([],o)
def zdw(nt:Nat)(m p:Oper):Option (TypeId×Nat×Nat):=match m.op,m.dst,m.guard,p.op,p.guard with
 | .makeInterface ty (.tmp x),some y,none,.panic (.tmp y'),none=>match Nat.beq y y'&&Nat.blt y nt with
  | true=>match P.underlying ty with
   | some (.struct _)=>some (ty,x,y)
   | _=>none
  | false=>none
 | _,_,_,_,_=>none
def zdx(o:Oper)(σ:St):Option (MK×List XA×List DV×List Nat×List Nat):=match o.op with
 | .call {callee:=.value f,args,argTypes:=_}=>match fU σ.env f with
  | .one (.c (.clo g caps))=>match Γ.mt g with
   | some C=>match jZ (zdr g args.size caps) (lk σ.aB) (args.toList.map (fU σ.env)++caps.map capD)with
    | some (xs,ls,ms)=>some (C,xs,args.toList.map (fU σ.env)++caps.map capD,ls,ms)
    | none=>none
   | none=>none
  | _=>none
 | _=>none
def Ou(i:Nat)(dst:Option Nat)(σ:St):aC→Option St
  | .val fp d u kl=>some (σ.upd i dst fp d u kl)
  | _=>none
def Zh(aQ:dK)(id i:Nat)(o:Oper)(K:Exit->St->Prop)(σ:St):Prop :=
 match o.guard,dJ aQ.nt o.dst with
 | none,true=>match zdx Γ o σ with
  | some (C,xs,ds,ls,ms)=>match(C xs).o with
   | some (rs,ys)=>match Fh rs with
    | none=>match Ou i o.dst σ (qB ds (lk σ.aB) ls ms rs ys)with
     | some σ2=>zdv P aQ id (K .normal) σ2
     | none=>False
    | some ch=>match Ou i none σ (qB ds (lk σ.aB) ls ms rs ys)with
     | some σ2=>K (.panic ch) σ2
     | none=>False
   | none=>False
  | none=>False
 | _,_=>False
def zwa(ty:TypeId)(x y:Nat)(K:Exit->St->Prop)(σ:St):Prop:=match lk σ.env x with
 | some (.one (.agg [.p (.int k n)]))=>K (.panic (zm4 ty k n)) ⟨(y,.junk)::σ.env,σ.aB,[]⟩
 | _=>False
def JX(aQ:dK)(id:Nat)(ops:Array Oper)(K:Exit->St->Prop)(σ:St):Prop :=
 match pU ops.toList with
 | some (p1,l)=>match pU p1 with
  | some (pre,m)=>match zdw P aQ.nt m l with
   | some (ty,x,y)=>ku P Γ aQ.nt ops 0 pre (zwa ty x y K) {σ with log:=[]}
   | none=>ku P Γ aQ.nt ops 0 p1 (Zh P Γ aQ id p1.length l K) {σ with log:=[]}
  | none=>False
 | none=>False
def jM:Code→Nat
  | .region id _ _=>id
  | .seq a _=>jM a
  | .block _ b=>jM b
  | .loop b=>jM b
  | .scope b=>jM b
  | .cond _ a b=>match Nat.beq (jM a) 1000000 with|true=>jM b|false=>jM a
  | _=>1000000
def znb(aQ:dK)(r:Nat)(go:St->Prop)(σ:St):Prop :=
 match lk aQ.cut r with
 | some k=>match canon P k σ with
  | some s=>go s
  | none=>False
 | none=>go σ
def zdy(next:St→Prop)(K:Exit→St→Prop):Exit→St→Prop
  | .normal,σ=>next σ
  | e,σ=>K e σ
def Zi(id:Nat)(K:Exit→St→Prop):Exit→St→Prop
  | .exit i,σ=>match Nat.beq i id with|true=>K .normal σ|false=>K (.exit i) σ
  | e,σ=>K e σ
def zwb(K:Exit→St→Prop):Exit→St→Prop
  | .goto _,_=>False
  | e,σ=>K e σ
def zg2(aQ:dK)(id:Nat)(X:St→Prop)(K:Exit→St→Prop):Exit→St→Prop
  | .normal,σ=>match lk aQ.head id with
    | some k=>match canon P k σ with
      | some s=>X s
      | none=>False
    | none=>False
  | e,σ=>K e σ
def xI(σ:St)(c:Operand)(b:Bool):St:=match c with | .tmp t=>σ.setT t (.bool b)|_=>σ
def zdz(k:Keep)(step:(Exit→St→Prop)→St→Prop):Nat→(Exit→St→Prop)→St→Prop
  | 0,_,_=>False
  | n+1,K,σ=>match canon P k σ with
    | some s=>step (λe σ'=>match e with | .normal=>zdz k step n K σ'|e=>K e σ') s
    | none=>False
def IJ:List Oper→List Nat
  | []=>[]
  | o::r=>match o.dst with|some t=>t::IJ r|none=>IJ r
def G7:Nat:=4294967296
def eH:Code→List Nat
  | .region _ ops _=>IJ ops.toList
  | .seq a b=>eH a++eH b
  | .cond _ a b=>eH a++eH b
  | .block _ b=>eH b
  | .loop b=>eH b
  | .scope b=>eH b
  | .rangeFunc _ _ a b=>G7::(eH a++eH b)
  | _=>[]
def Zj(a b:Code):Nat:=match Nat.beq (jM a) 1000000 with|true=>jM b|false=>jM a
def og(l m:List Nat):Bool:=l.all λt=>!m.contains t
def qC:List Nat→List PA→List (Nat×DV)→Option (List (Nat×DV))
  | [],[],e=>some e
  | p::ps,y::ys,e=>qC ps ys ((p,.one (I5 y))::e)
  | _,_,_=>none
def uw(k:Keep)(np:Bool)(next:St→Prop)(K:Exit→St→Prop):Exit→St→Prop
  | .normal,σ=>match canon P k σ with|some s=>next s|none=>False
  | .ret,σ=>match canon P k σ with|some s=>K .ret s|none=>False
  | .exit id,σ=>match canon P k σ with|some s=>K (.exit id) s|none=>False
  | .panic ch,σ=>match np,canon P k σ with|true,some s=>K (.panic ch) s|_,_=>False
  | _,_=>False
def vc(aQ:dK):Code→(Exit→St→Prop)→St→Prop
  | .skip,K,σ=>K .normal σ
  | .region id ops draw,K,σ=>match aQ.pan.contains id && !draw with
    | false=>Px P Γ aQ id ops draw (K .normal) σ
    | true=>JX P Γ aQ id ops K σ
  | .seq a b,K,σ=>vc aQ a (zdy (znb P aQ (jM b) (vc aQ b K)) K) σ
  | .cond c a b,K,σ=>match fU σ.env c with
    | .one (.c (.p (.bool t)))=>JS t (vc aQ a K (xI σ c true)) (vc aQ b K (xI σ c false))
    | _=>False
  | .block id b,K,σ=>vc aQ b (Zi id K) σ
  | .loop b,K,σ=>match lk aQ.head (jM b)with
    | some k=>match canon P k σ with
      | some s=>∀X:St->Prop,(∀s,vc aQ b (zg2 P aQ (jM b) X K) s->X s)->X s
      | none=>False
    | none=>match lk aQ.unr (jM b)with
      | some (n,k)=>zdz P k (vc aQ b) n K σ
      | none=>False
  | .rangeFunc f ps assign body,K,σ=>match lk aQ.head (Zj assign body)with
    | some k=>match canon P k σ,og k.tmps (ps.toList++(eH assign++eH body))&&ps.toList.all (λp=>Nat.blt p aQ.nt)with
      | some s,true=>match fU s.env f with
        | .one (.c (.p (.fn gf [] caps)))=>match(Γ.it gf (caps.map .one)).o with
          | some ys=>∀X:List (List PA)->St->Prop,(∀s,K .normal s->X [] s) ->
            (∀y rest s,(match qC ps.toList y s.env with
              | some env=>vc aQ assign (zdy (vc aQ body (uw P k (og [G7] (eH assign++eH body)) (X rest) K)) λ_ _=>False) ⟨env,s.aB,[]⟩
              | none=>False)->X (y::rest) s)->X ys s
          | none=>False
        | _=>False
      | _,_=>False
    | none=>False
  | .exit id,K,σ=>K (.exit id) σ
  | .scope b,K,σ=>vc aQ b (zwb K) σ
  | .label _,K,σ=>K .normal σ
  | .ret,K,σ=>K .ret σ
  | _,_,_=>False
def kT(σ:St):List ResultVar→Option (List PA)
  | []=>some []
  | .tmp t::r=>match lk σ.env t with
    | some d=>match Af (lk σ.aB) d,kT σ r with
      | some (x,_),some l=>some (x::l)
      | _,_=>none
    | none=>none
  | .cell t ty::r=>match lk σ.env t,jD P ty,qA P ty with
    | some (.one (.c (.ptr L off))),some g,some n=>match lk σ.aB L with
      | some (.box _ cells)=>match nX g n cells off with
        | some d=>match Af (lk σ.aB) (.one d),kT σ r with
          | some (x,_),some l=>some (x::l)
          | _,_=>none
        | none=>none
      | _=>none
    | _,_,_=>none
def Bd(fn:Func)(K:List PA->Prop)(σ:St):Prop :=
 match kT P σ fn.results.toList with
 | some l=>K l
 | none=>False
def zg3(fn:Func)(K:List PA→Prop):Exit→St→Prop
  | .ret,σ=>Bd P fn K σ
  | .normal,σ=>Bd P fn K σ
  | _,_=>False
def jk:Nat→List PA→List (Nat×DV)
  | _,[]=>[]
  | i,x::r=>(i,.one (I5 x))::jk (i+1) r
def vcFun(aQ:dK)(f:FuncId)(args:List PA)(K:List PA->Prop):Prop :=
 match P.funcs[f]? with
 | some fn=>match fn.body with
  | some c=>match Nat.beq aQ.nt fn.ntmps&&Nat.ble args.length aQ.nt with
   | true=>vc P Γ aQ c (zg3 P fn K) ⟨jk 0 args,[],[]⟩
   | false=>False
  | none=>False
 | none=>False
def Py(fn:Func)(e s b:Nat)(K:List PA->Prop)(σ:St):Prop :=
 match fn.results.toList with
 | [.tmp t]=>match lk σ.env t with
  | some (.one (.c (.vec L)))=>match lk σ.aB L with
   | some (.vec e' s' b' n get)=>match Nat.beq e e'&&(Nat.beq s s'&&Nat.beq b b')with
    | true=>K [.one (.sl n s get)]
    | false=>False
   | _=>False
  | _=>False
 | [.tmp t,.tmp u]=>match lk σ.env t with
  | some (.one (.c (.vec L)))=>match lk σ.env u with
   | some (.one (.c (.p x)))=>match lk σ.aB L with
    | some (.vec e' s' b' n get)=>match Nat.beq e e'&&(Nat.beq s s'&&Nat.beq b b')with
     | true=>K [.one (.sl n s get),.one x]
     | false=>False
    | _=>False
   | _=>False
  | _=>False
 | _=>False
def zg4(fn:Func)(e s b:Nat)(K:List PA→Prop):Exit→St→Prop
  | .ret,σ=>Py fn e s b K σ
  | .normal,σ=>Py fn e s b K σ
  | _,_=>False
def zbr(aQ:dK)(f:FuncId)(args:List PA)(e s b:Nat)(K:List PA->Prop):Prop :=
 match P.funcs[f]? with
 | some fn=>match fn.body with
  | some c=>match Nat.beq aQ.nt fn.ntmps&&Nat.ble args.length aQ.nt with
   | true=>vc P Γ aQ c (zg4 fn e s b K) ⟨jk 0 args,[],[]⟩
   | false=>False
  | none=>False
 | none=>False
/-! Iterators: functions that take yield. -/
abbrev YK:=Exit->List (List PA)->Bool->St->Prop
def rF:List DV→Option (List PA)
  | []=>some []
  | .one (.c (.p v))::r=>match rF r with|some l=>some (.one v::l)|none=>none
  | .one (.agg cs)::r=>match jY cs,rF r with|some l,some m=>some (.agg l::m)|_,_=>none
  | _::_=>none
def Pz(ob:Nat→Option AO):List Nat→List (Nat×AO)
  | []=>[]
  | L::r=>match ob L with
    | some (.fbox l)=>(L,.fbox l)::Pz ob r
    | _=>Pz ob r
abbrev U5:Nat:=4095
def JY(σ:St):List (Nat×AO):=Fp (lk σ.aB) (σ.aB.map (·.1))++Pz (lk σ.aB) (σ.aB.map (·.1))
def hasAll(ks:List Nat)(l:List Nat):Bool:=l.all λL=>ks.contains L
def wF(ks:List Nat)(l:List (Nat×DV)):List Nat→List (Nat×DV)
  | []=>[]
  | t::r=>match lk l t with
    | some d=>match hasAll ks (df d)with
      | true=>(t,d)::wF ks l r
      | false=>wF ks l r
    | none=>wF ks l r
def zG(σ:St):St:=⟨wF (U5::(JY σ).map (·.1)) σ.env (σ.env.map (·.1)),(U5,.gone)::JY σ,[]⟩
def znc(σ:St)(o:Oper):Option (Array Operand×Nat) :=
 match o.op,o.dst with
 | .call {callee:=.value f,args,argTypes:=_},some t=>match fU σ.env f with
  | .one (.c (.vec 4095))=>match lk σ.env 0 with
   | some (.one (.c (.vec 4095)))=>some (args,t)
   | _=>none
  | _=>none
 | _,_=>none
def wG(nt:Nat)(o:Oper)(next:List (List PA)->Bool->St->Prop)(ys:List (List PA))(q:Bool)(σ:St):Prop :=
 match znc σ o with
 | some (args,t)=>match rF (args.toList.map (fU σ.env)),Nat.blt t nt,q with
  | some y,true,false=>∃rest,ys=y::rest/\next rest false ((zG σ).setT t (.bool true))/\next rest true ((zG σ).setT t (.bool false))
  | _,_,_=>False
 | none=>match dJ nt o.dst with
  | true=>nN (act P Γ o (fU σ.env) (lk σ.aB)) (λ_ _=>[]) 0 o.dst (next ys q) σ
  | false=>False
def lN(nt:Nat)(ops:Array Oper):List Oper→(List (List PA)→Bool→St→Prop)→List (List PA)→Bool→St→Prop
  | [],K,ys,q,σ=>K ys q σ
  | o::r,K,ys,q,σ=>match o.guard with
    | none=>wG P Γ nt o (lN nt ops r K) ys q σ
    | some (j,want)=>match dJ nt o.dst,(ops[j]?).bind (·.dst)with
      | true,some g=>match lk σ.env g with
        | some (.one (.c (.p (.bool b)))) => JS b
            (match want with|true=>wG P Γ nt o (lN nt ops r K) ys q (σ.setT g (.bool true))|false=>lN nt ops r K ys q ((σ.setT g (.bool true)).skip o.dst))
            (match want with|true=>lN nt ops r K ys q ((σ.setT g (.bool false)).skip o.dst)|false=>wG P Γ nt o (lN nt ops r K) ys q (σ.setT g (.bool false)))
        | some (.one (.c .undef))=>lN nt ops r K ys q (σ.skip o.dst)
        | _=>False
      | _,_=>False
def zwc(next:List (List PA)→Bool→St→Prop)(K:YK):YK
  | .normal,ys,q,σ=>next ys q σ
  | e,ys,q,σ=>K e ys q σ
def Zk(id:Nat)(K:YK):YK
  | .exit i,ys,q,σ=>match Nat.beq i id with|true=>K .normal ys q σ|false=>K (.exit i) ys q σ
  | e,ys,q,σ=>K e ys q σ
def zwd(K:YK):YK
  | .goto _,_,_,_=>False
  | e,ys,q,σ=>K e ys q σ
def zg5(aQ:dK)(id:Nat)(X:List (List PA)→Bool→St→Prop)(K:YK):YK
  | .normal,ys,q,σ=>match lk aQ.head id with
    | some k=>match canon P k σ with
      | some s=>X ys q s
      | none=>False
    | none=>False
  | e,ys,q,σ=>K e ys q σ
def PD(k:Keep)(step:YK→List (List PA)→Bool→St→Prop):Nat→YK→List (List PA)→Bool→St→Prop
  | 0,_,_,_,_=>False
  | n+1,K,ys,q,σ=>match canon P k σ with
    | some s=>step (λe qp q' σ'=>match e with | .normal=>PD k step n K qp q' σ'|e=>K e qp q' σ') ys q s
    | none=>False
def zwe(aQ:dK)(r:Nat)(go:List (List PA)->Bool->St->Prop)(ys:List (List PA))(q:Bool)(σ:St):Prop :=
 match lk aQ.cut r with
 | some k=>match canon P k σ with
  | some s=>go ys q s
  | none=>False
 | none=>go ys q σ
def Q8(aQ:dK):Code→YK→List (List PA)→Bool→St→Prop
  | .skip,K,ys,q,σ=>K .normal ys q σ
  | .region id ops draw,K,ys,q,σ=>match(IJ ops.toList).contains 0,aQ.yl.contains id,draw with
    | true,_,_=>False
    | false,true,false=>lN P Γ aQ.nt ops ops.toList (λqp q' σ'=>match lk aQ.reg id with
      | some k=>match canon P k σ' with
        | some s=>K .normal qp q' s
        | none=>False
      | none=>K .normal qp q' {σ' with log:=[]}) ys q {σ with log:=[]}
    | false,true,true=>False
    | false,false,_=>Px P Γ aQ id ops draw (K .normal ys q) σ
  | .seq a b,K,ys,q,σ=>Q8 aQ a (zwc (zwe P aQ (jM b) (Q8 aQ b K)) K) ys q σ
  | .cond c a b,K,ys,q,σ=>match fU σ.env c with
    | .one (.c (.p (.bool t)))=>JS t (Q8 aQ a K ys q (xI σ c true)) (Q8 aQ b K ys q (xI σ c false))
    | _=>False
  | .block id b,K,ys,q,σ=>Q8 aQ b (Zk id K) ys q σ
  | .loop b,K,ys,q,σ=>match lk aQ.head (jM b)with
    | some k=>match canon P k σ with
      | some s=>∀X:List (List PA)->Bool->St->Prop,(∀ys q s,Q8 aQ b (zg5 P aQ (jM b) X K) ys q s->X ys q s)->X ys q s
      | none=>False
    | none=>match lk aQ.unr (jM b)with
      | some (n,k)=>PD P k (Q8 aQ b) n K ys q σ
      | none=>False
  | .exit id,K,ys,q,σ=>K (.exit id) ys q σ
  | .scope b,K,ys,q,σ=>Q8 aQ b (zwd K) ys q σ
  | .label _,K,ys,q,σ=>K .normal ys q σ
  | .ret,K,ys,q,σ=>K .ret ys q σ
  | _,_,_,_,_=>False
def zg6(ys:List (List PA))(q:Bool):Prop:=match q with|true=>True|false=>ys=[]
def zEB:YK
  | .ret,ys,q,_=>zg6 ys q
  | .normal,ys,q,_=>zg6 ys q
  | _,_,_,_=>False
def Rf(aQ:dK)(f:FuncId)(caps:List PA)(ys:List (List PA)):Prop :=
 match P.funcs[f]? with
 | some fn=>match fn.body with
  | some c=>match Nat.beq aQ.nt fn.ntmps&&Nat.ble (caps.length+1) aQ.nt&&fn.results.isEmpty with
   | true=>Q8 P Γ aQ c zEB ys false ⟨(0,.cl (.vec U5))::jk 1 caps,[(U5,.gone)],[]⟩
   | false=>False
  | none=>False
 | none=>False
end
end Go.Pm
namespace Go.Pm
open Go.RowKit (Below)
theorem lQ{α:Type}(l:List α)(off:Nat)(l':List α):(spl l off l').length=l.length:=by
 induction l' generalizing l off with
 | nil=>rfl
 | cons x r ih=>simp[spl,ih]
inductive U6 where
  | fz (o:Obj)
  | pin (o:Obj)
def tK(l:List Int):Value:=.agg (l.map λn=>Value.int .i64 n).toArray
def U6.ok:U6→Obj→Prop
  | .fz o,x=>x=o
  | .pin o,x=>x=o
abbrev Fz:=Nat->Option U6
def Hw(h:Fz)(w:World):Prop:=∀b x,h b=some x->∃o,w.heap[b]? = some o/\x.ok o
theorem Hw.fz{h:Fz}{w:World}(H:Hw h w){b:Nat}{o:Obj}(hb:h b=some (.fz o)):w.heap[b]? = some o:=by
 obtain⟨o',h1,h2⟩:=H b _ hb;simp only[U6.ok]at h2;subst h2;exact h1
theorem Hw.lt{h:Fz}{w:World}(H:Hw h w){b:Nat}{x:U6}(hb:h b=some x):b<w.heap.size:=by
 obtain⟨o',h1,_⟩:=H b _ hb;exact(UV.1 h1).1
theorem Hw.same{h:Fz}{w w':World}(H:Hw h w)(hs:∀b x,h b=some x->w'.heap[b]? = w.heap[b]?):Hw h w':=λb x hb=>by
 obtain⟨o,h1,h2⟩:=H b x hb;exact⟨o,by rw[hs b x hb];exact h1,h2⟩
class aJ where
  z:Nat
variable [aJ]
abbrev ztv:Nat:=aJ.z
abbrev dle(a b:Nat):Prop:=a*ztv<=b*ztv
theorem JZ{a b:Nat}(h:a<=b):dle a b:=QX _ h
structure xJ (h : Fz) (B : Nat) (w w' : World) : Prop where
  os:w'.os=w.os
  tape:w'.tape=w.tape
  output:w'.output=w.output
  size:w.heap.size<=w'.heap.size
  drawn:dle w.drawn w'.drawn
  block:∀k,k<B->w'.heap[k]? = w.heap[k]?
structure J3 (B : Nat) (w w' : World) : Prop extends Below B w w' where
  drawn:dle w.drawn w'.drawn
structure GrB (w w' : World) (row : Option Nat) : Prop extends w.grownBy w' row where
  drawn:dle w.drawn w'.drawn
theorem J3.refl(B:Nat)(w:World):J3 B w w:=⟨Below.refl B w,kC _⟩
theorem xJ.of{h:Fz}{B:Nat}{w w':World}(b:J3 B w w'):xJ h B w w':=⟨b.os,b.tape,b.output,b.size,b.drawn,λk hk=>b.block k hk⟩
theorem xJ.refl(h:Fz)(B:Nat)(w:World):xJ h B w w:=.of (.refl B w)
theorem xJ.trans{h:Fz}{B:Nat}{a b c:World}(x:xJ h B a b)(y:xJ h B b c):xJ h B a c :=
 ⟨y.os.trans x.os,y.tape.trans x.tape,y.output.trans x.output,EW x.size y.size,EW x.drawn y.drawn,λi hi=>(y.block i hi).trans (x.block i hi)⟩
theorem xJ.drew{h:Fz}{B:Nat}{a w:World}(x:xJ h B a w):xJ h B a w.drew:=⟨x.os,x.tape,x.output,x.size,EW x.drawn (JZ (Nat.le_succ _)),x.block⟩
def fJ(kf:KF)(c:List Int):Value:=match kf with
 | .ints=>tK c
 | .one=>.int .i64 (c.headD 0)
def cellV:Option IntKind→Int→Value
  | some k,x=>.int k x
  | none,x=>.bool (x != 0)
def rG(o:Option (List Int)):Nat→List (Option IntKind)→List Value
  | _,[]=>[]
  | i,k::ks=>cellV k (EN o i)::rG o (i+1) ks
def lX(yx:Bool)(ks:List (Option IntKind))(o:Option (List Int)):Value:=match yx with
 | true=>.agg (rG o 0 ks).toArray
 | false=>(rG o 0 ks).headD undef
def nO(c:List Int):List (List Int×List Int)→Option (List Int)
  | []=>none
  | (k,v)::r=>if k=c then some v else nO c r
structure MoE (q : MQ) (n : Nat) (F : List Int → Option (List Int)) (es : Array MapEntry) (clock : Nat) (en : List (List Int × List Int)) : Prop where
  one:q.1=.one->q.2.1=1
  vone:q.2.2.1=false->q.2.2.2.length=1
  ents:es.toList.map (λe=>(e.key,e.val))=en.map (λx=>(fJ q.1 x.1,lX q.2.2.1 q.2.2.2 (some x.2)))
  len:∀x∈en,x.1.length=q.2.1/\x.2.length=q.2.2.2.length
  nodup:(en.map (·.1)).Nodup
  find:∀c,c.length=q.2.1->F c=nO c en
  size:n=en.length
  born:∀e∈es.toList,e.born<clock
  bornN:(es.toList.map (·.born)).Nodup
def moE(q:MQ)(n:Nat)(F:List Int->Option (List Int))(es:Array MapEntry)(clock:Nat):Prop:=∃en,MoE q n F es clock en
inductive Rep(h:Fz):PV→Value→Prop
  | bool (b:Bool):Rep h (.bool b) (.bool b)
  | int (k:IntKind) (n:Int):Rep h (.int k n) (.int k n)
  | nilp:Rep h .nilp (.pointer none)
  | nilf:Rep h .nilf .nilFunc
  | nilm:Rep h .nilm (.map none)
  | nils:Rep h .nils (.slice none 0 0)
  | fp (cells:List PV) (off b o:Nat) (C:Array Value) (ty:TypeId) (fr:Nat×Nat) (vs:Nat→Value) (hb:h b=some (.fz (.cells C ty fr)))
      (hc:∀j x,cells[j]? = some x->C[o+j]? = some (vs j)) (hr:∀j x,cells[j]? = some x->Rep h x (vs j)) :
      Rep h (.fp cells off) (.pointer (some ⟨b,o+off,none⟩))
  | sl0 (size:Nat) (get:Nat->List PV) (hu:ut get):Rep h (.sl 0 size get) (.slice none 0 0)
  | sle (size:Nat) (get:Nat->List PV) (a:Addr) (cap:Nat) (hu:ut get):Rep h (.sl 0 size get) (.slice (some a) 0 cap)
  | sl (len size:Nat) (get:Nat→List PV) (hu:ut get) (b o cap:Nat) (C:Array Value) (ty:TypeId) (fr:Nat×Nat) (vs:Nat→Nat→Value) (hb:h b=some (.fz (.cells C ty fr)))
      (kE:len<=cap) (hlen:∀i,i<len->(get i).length=size)
      (hc:∀i j x,i<len->(get i)[j]? = some x->C[o+i*size+j]? = some (vs i j))
      (hr:∀i j x,i<len->(get i)[j]? = some x->Rep h x (vs i j)) :
      Rep h (.sl len size get) (.slice (some ⟨b,o,none⟩) len cap)
  | fn (f:FuncId) (first caps:List PV) (fv cv:List Value) (h1:first.length=fv.length) (h2:caps.length=cv.length)
      (hf:∀(j:Nat)(x:PV)(v:Value),first[j]? = some x->fv[j]? = some v->Rep h x v) (hc:∀(j:Nat)(x:PV)(v:Value),caps[j]? = some x->cv[j]? = some v->Rep h x v) :
      Rep h (.fn f first caps) (.func (.func f) fv.toArray cv.toArray)
  | fna (f:FuncId) (cells:List PV) (vs:List Value) (h1:cells.length=vs.length)
      (hc:∀(j:Nat)(x:PV)(v:Value),cells[j]? = some x->vs[j]? = some v->Rep h x v):Rep h (.fna f cells) (.func (.func f) #[.agg vs.toArray] #[])
def jV(h h':Fz):Prop:=∀b o,h b=some o->h' b=some o
theorem Rep.mono{h h':Fz}(hl:jV h h'){p:PV}{v:Value}(r:Rep h p v):Rep h' p v:=by
 induction r with
 | bool b=>exact .bool b
 | int k n=>exact .int k n
 | nilp=>exact .nilp
 | nilf=>exact .nilf
 | nilm=>exact .nilm
 | nils=>exact .nils
 | fp cells off b o C ty fr vs hb hc hr ih=>exact .fp cells off b o C ty fr vs (hl _ _ hb) hc ih
 | sl0 size get hu=>exact .sl0 size get hu
 | sle size get a cap hu=>exact .sle size get a cap hu
 | sl len size get hu b o cap C ty fr vs hb kE hlen hc hr ih=>exact .sl len size get hu b o cap C ty fr vs (hl _ _ hb) kE hlen hc ih
 | fn f first caps fv cv h1 h2 hf hc ih1 ih2=>exact .fn f first caps fv cv h1 h2 ih1 ih2
 | fna f cells vs h1 hc ih=>exact .fna f cells vs h1 ih
theorem Rep.mono'{h h':Fz}(hl:∀b o,h b=some o->(∃C ty fr,o=.fz (.cells C ty fr))->h' b=some o){p:PV}{v:Value}(r:Rep h p v):Rep h' p v:=by
 induction r with
 | bool b=>exact .bool b
 | int k n=>exact .int k n
 | nilp=>exact .nilp
 | nilf=>exact .nilf
 | nilm=>exact .nilm
 | nils=>exact .nils
 | fp cells off b o C ty fr vs hb hc hr ih=>exact .fp cells off b o C ty fr vs (hl _ _ hb ⟨_,_,_,rfl⟩) hc ih
 | sl0 size get hu=>exact .sl0 size get hu
 | sle size get a cap hu=>exact .sle size get a cap hu
 | sl len size get hu b o cap C ty fr vs hb kE hlen hc hr ih=>exact .sl len size get hu b o cap C ty fr vs (hl _ _ hb ⟨_,_,_,rfl⟩) kE hlen hc ih
 | fn f first caps fv cv h1 h2 hf hc ih1 ih2=>exact .fn f first caps fv cv h1 h2 ih1 ih2
 | fna f cells vs h1 hc ih=>exact .fna f cells vs h1 ih
theorem Rep.un{h:Fz}{p:PV}{v:Value}(r:Rep h p v):Sm p p:=by
 induction r with
 | bool b=>exact .bool _ _
 | int k n=>exact .int _ _ _
 | sl0 size get hu=>exact ut.sl hu _ _ _
 | sle size get a cap hu=>exact ut.sl hu _ _ _
 | sl len size get hu=>exact ut.sl hu _ _ _
 | fp cells off b o C ty fr vs hb hc hr ih=>exact .fp _ _ _ rfl λk x y hx hy=>by rw[hx]at hy;cases hy;exact ih k x hx
 | _=>exact .atom _ rfl
theorem yJ{h:Fz}:∀{l:List PV}{vs:List Value},RL (Rep h) l vs→RS l l
  | [],[],_=>trivial
  | _::_,_::_,r=>⟨r.1.un,yJ r.2⟩
theorem Rep.up{h:Fz}{p q:PV}(e:pR p q):∀{v:Value},Rep h p v->Rep h q v:=by
 induction e with
 | rfl p=>exact λr=>r
 | nil s g hu=>intro v r;cases r;exact .sl0 s g hu
 | sl n s g g' hu hl he ih =>
  intro v r;cases r with
  | sl0=>exact .sl0 _ _ hu
  | sle=>exact .sle _ _ _ _ hu
  | sl _ _ _ _ b o cap C ty fr vs hb kE hlen hc hr =>
   refine .sl n s g' hu b o cap C ty fr vs hb kE (λi hi=>(hl i hi).symm.trans (hlen i hi)) (λi j x hi hx=>?_) λi j x hi hx=>?_
   ·obtain⟨y,hy⟩:=oP (hl i hi).symm hx;exact hc i j y hi hy
   ·obtain⟨y,hy⟩:=oP (hl i hi).symm hx;exact ih i j y x hi hy hx (hr i j y hi hy)
 | fp l l' off hl he ih =>
  intro v r;cases r with
  | fp _ _ b o C ty fr vs hb hc hr =>
   refine .fp l' off b o C ty fr vs hb (λj x hx=>?_) λj x hx=>?_
   ·obtain⟨y,hy⟩:=oP hl.symm hx;exact hc j y hy
   ·obtain⟨y,hy⟩:=oP hl.symm hx;exact ih j y x hy hx (hr j y hy)
 | fn f a a' l l' ha _ hl _ ih0 ih =>
  intro v r;cases r with
  | fn _ _ _ fv cv h1 h2 hf hc =>
   refine .fn f a' l' fv cv (ha.symm.trans h1) (hl.symm.trans h2) (λj x v hx hv=>?_) λj x v hx hv=>?_
   ·obtain⟨y,hy⟩:=oP ha.symm hx;exact ih0 j y x hy hx (hf j y v hy hv)
   ·obtain⟨y,hy⟩:=oP hl.symm hx;exact ih j y x hy hx (hc j y v hy hv)
theorem Be{h:Fz}{l m:List PV}(e:RL pR l m){vs:List Value}(r:RL (Rep h) l vs):RL (Rep h) m vs:=by
 induction l generalizing m vs with
 | nil=>cases m with
  | nil=>exact r
  | cons=>exact e.elim
 | cons x l ih=>cases m with
  | nil=>exact e.elim
  | cons y m=>cases vs with
   | nil=>exact r.elim
   | cons v vs=>exact⟨r.1.up e.1,ih e.2 r.2⟩
theorem zdA{v:Value}{p:PV}(h:wC v=some p):Sm p p:=by
 unfold wC at h;split at h<;>cases h<;>first|exact .atom _ rfl|exact .bool _ _|exact .int _ _ _
theorem PE:∀{l:List Value}{z:List Cl}{m:List PV},jC l=some z→jY z=some m→RS m m
  | [],z,m,h,h'=>by cases h;cases h';trivial
  | v::r,z,m,h,h'=>by
    simp only[jC]at h;split at h
    · rename_i x l hx hl;cases h;simp only[jY] at h';split at h'
      · rename_i k hk;cases h';exact⟨zdA hx,PE hl hk⟩
      · cases h'
    · cases h
theorem I9{P:Program}{t:TypeId}{z:List Cl}{m:List PV}(h:gV P t=some z)(h':jY z=some m):RS m m:=by
 unfold gV at h;split at h
 ·split at h
  ·split at h
   ·rename_i hl;split at h
    ·cases h;exact PE hl h'
    ·cases h
   ·cases h
  ·cases h
 ·cases h
theorem PG{P:Program}{h:Fz}{t k:Nat}{l:List PV}{vs:List Value}(r:RL (Rep h) l vs):RL (Rep h) (zbo P t k l) vs:=by
 unfold zbo;split
 ·rename_i hk;split
  ·rename_i s _ _ hz;split
   ·rename_i z' hz';obtain⟨v,hv,hr⟩:=r.get k _ hk;have hvn:v=.slice none 0 0:=by cases hr;rfl
    subst hvn;have:=r.set k (a:=.sl 0 s (λ_=>z')) (b:=Value.slice none 0 0) (Rep.sl0 _ _ (JR (I9 hz hz')));have e:vs.set k (.slice none 0 0)=vs:=by
     obtain⟨iC,hv⟩:=AY.1 hv;rw[<- hv,qza]
    rwa[e]at this
   ·exact r
  ·exact r
 ·exact r
theorem PH{P:Program}{h:Fz}:∀(fs:List Field){l:List PV}{vs:List Value},RL (Rep h) l vs→RL (Rep h) (zgY P fs l) vs
  | [],_,_,r=>r
  | _::fs,_,_,r=>PH fs (PG r)
theorem uX{P:Program}{h:Fz}{e:TypeId}{l:List PV}{vs:List Value}(r:RL (Rep h) l vs):RL (Rep h) (Ag P e l) vs:=by
 unfold Ag;split
 ·exact PH _ r
 ·exact PG r
theorem Rep.one{h:Fz}{p:PV}{v:Value}(r:Rep h p v):v.oneCell'=true:=by
 cases r<;>first|rfl|(rename_i r;cases r<;>rfl)
structure Gh where
  h:Fz
  bk:Nat->Nat
  sv:Nat->Value
  iv:Nat->Nat->Value
def IK(g:Gh):uk→Value→Prop
  | .v p,x=>Rep g.h p x
  | .b L,x=>x=.pointer (some ⟨g.bk L,0,none⟩)
def oW:Value→Nat
  | .map (some b)=>b
  | _=>0
def jg(g:Gh):Cl→Value→Prop
  | .p v,x=>Rep g.h v x
  | .ptr L off,x=>x=.pointer (some ⟨g.bk L,off,none⟩)
  | .vptr L s i k,x=>∃b,(g.sv L).ownBlock=some b/\x=.pointer (some ⟨b,i*s+k,none⟩)
  | .vec L,x=>x=g.sv L/\x.oneCell'=true
  | .mo L,x=>x=.map (some (oW (g.sv L)))
  | .clo f caps,x=>∃cv:List Value,x=.func (.func f) #[] cv.toArray/\RL (IK g) caps cv
  | .undef,x=>x=undef
  | .junk,_=>True
  | .dead _,_=>True
theorem qX{g g':Gh}(hl:∀p x,Rep g.h p x→Rep g'.h p x):∀{caps:List uk}{vs:List Value},(∀L∈lL caps,g'.bk L=g.bk L)→RL (IK g) caps vs→RL (IK g') caps vs
  | [],[],_,_=>trivial
  | [],_::_,_,h=>h.elim
  | _::_,[],_,h=>h.elim
  | .v p::_,_::_,hb,h=>⟨hl _ _ h.1,qX hl (λL hL=>hb L hL) h.2⟩
  | .b M::_,_::_,hb,h=>⟨by have:=h.1;simp only[IK]at this ⊢;rw[hb M (by simp[lL])];exact this,qX hl (λL hL=>hb L (by simp[lL,hL])) h.2⟩
theorem zbs{g:Gh}{c:Cl}{x:Value}(h:jg g c x)(ho:Ci c=true):x.oneCell'=true:=by
 cases c with
 | p v=>exact Rep.one h
 | ptr L off=>subst h;rfl
 | vptr L s i k=>obtain⟨b,_,rfl⟩:=h;rfl
 | vec L=>exact h.2
 | mo L=>subst h;rfl
 | clo f caps=>obtain⟨cv,rfl,_⟩:=h;rfl
 | undef=>cases ho
 | junk=>cases ho
 | dead L=>cases ho
def AA(g:Gh):D1→Value→Prop
  | .c x,v=>jg g x v
  | .agg cs,v=>∃vs:List Value,v=.agg vs.toArray/\RL (jg g) cs vs
def rH(g:Gh):DV→Value→Prop
  | .one d,v=>AA g d v
  | .tup ds,v=>∃vs:List Value,v=.tuple vs.toArray/\RL (AA g) ds vs
def CJ(P:Program)(g:Gh)(w:World)(B L e s b n:Nat)(get:Nat->List PV):Prop :=
 (ut get/\0<s)/\(∃i z,P.info? e=some i/\i.size=s/\i.bytes=b/\i.zero=some z/\z.cells.size=s) /\
 ∃xs:List Value,w.ownsRow B e s (g.sv L) n xs/\(∀i,i<n->RL (Rep g.h) (get i) ((xs.drop (i*s)).take s))
def Unv(get:Nat->Nat->List PV):Prop:=∀i j k l,RS (get i j) (get k l)
def vvR(P:Program)(g:Gh)(w:World)(B L te bb e s b n:Nat)(ln:Nat->Nat)(get:Nat->Nat->List PV):Prop :=
 (Unv get/\0<s)/\(∃i z,P.info? te=some i/\i.size=1/\i.bytes=bb/\i.zero=some z/\z.cells.size=1) /\
 (∃i z,P.info? e=some i/\i.size=s/\i.bytes=b/\i.zero=some z/\z.cells.size=s) /\
 w.ownsRow B te 1 (g.sv L) n ((List.range n).map (g.iv L)) /\
 (∀i,i<n->(g.iv L i).oneCell'=true/\(ln i=0->g.iv L i=.slice none 0 0)/\∃xs:List Value,w.ownsRow B e s (g.iv L i) (ln i) xs/\∀j,j<ln i->RL (Rep g.h) (get i j) ((xs.drop (j*s)).take s)) /\
 ∀i k,i<n->(g.iv L i).ownBlock=some k->(g.sv L).ownBlock≠some k/\∀j,j<n->(g.iv L j).ownBlock=some k->i=j
def vtR(P:Program)(g:Gh)(w:World)(B L te bb e s b n:Nat)(ln:Nat->Nat)(get:Nat->Nat->List PV)(o:Nat):Prop :=
 (Unv get/\0<s)/\(∃i z,P.info? te=some i/\i.size=1/\i.bytes=bb/\i.zero=some z/\z.cells.size=1) /\
 (∃i z,P.info? e=some i/\i.size=s/\i.bytes=b/\i.zero=some z/\z.cells.size=s) /\
 w.ownsRow B te 1 (g.sv L) n ((List.range n).map (g.iv L))/\(g.iv L o).oneCell'=true/\(∀k,g.iv L o ≠ .map (some k)) /\
 (∀i,i<n->i≠o->(g.iv L i).oneCell'=true/\(ln i=0->g.iv L i=.slice none 0 0)/\∃xs:List Value,w.ownsRow B e s (g.iv L i) (ln i) xs/\∀j,j<ln i->RL (Rep g.h) (get i j) ((xs.drop (j*s)).take s)) /\
 ∀i k,i<n->i≠o->(g.iv L i).ownBlock=some k->(g.sv L).ownBlock≠some k/\∀j,j<n->j≠o->(g.iv L j).ownBlock=some k->i=j
def znd(v:Value):Prop:=∀a n c,v=.slice (some a) n c->a.off=0
def moR(P:Program)(kt vt:Nat)(q:MQ)(n:Nat)(F:List Int->Option (List Int))(es:Array MapEntry)(clock:Nat):Prop :=
 JH P kt vt=some q/\moE q n F es clock
def NZ(P:Program)(g:Gh)(w:World)(B L:Nat):AO→Prop
  | .box ty cs=>∃C:Array Value,w.heap[g.bk L]? = some (.cells C ty (0,0))/\RL (jg g) cs C.toList
  | .fbox cs=>∃(C:Array Value)(ty:TypeId)(fr:Nat×Nat),g.h (g.bk L)=some (.fz (.cells C ty fr))/\RL (Rep g.h) cs C.toList
  | .vec e s b n get=>CJ P g w B L e s b n get
  | .fvec s n get=>Rep g.h (.sl n s get) (g.sv L)/\znd (g.sv L)
  | .vv te bb e s b n ln get=>vvR P g w B L te bb e s b n ln get
  | .vt te bb e s b n ln get o=>vtR P g w B L te bb e s b n ln get o
  | .mo kt vt q n F=>∃(es:Array MapEntry)(clock:Nat),w.heap[oW (g.sv L)]? = some (.map es clock)/\moR P kt vt q n F es clock
  | .gone=>True
def gW(g:Gh)(L:Nat)(o:AO)(b:Nat):Prop :=
 match o with
 | .box _ _=>g.bk L=b
 | .mo _ _ _ _ _=>oW (g.sv L)=b
 | .vec _ _ _ _ _=>(g.sv L).ownBlock=some b
 | .vv _ _ _ _ _ n _ _=>(g.sv L).ownBlock=some b\/∃i,i<n/\(g.iv L i).ownBlock=some b
 | .vt _ _ _ _ _ n _ _ o=>(g.sv L).ownBlock=some b\/∃i,i<n/\i≠o/\(g.iv L i).ownBlock=some b
 | _=>False
def G8(P:Program)(d:Deferred):Prop:=∃(fv:Fn)(cap:Array Value)(f:FuncId)(args:Array Value),d.target=.fn fv cap/\(∀w,(invoke d.target d.args).run P w=.ok (.enter f args) w) /\
 ∀(n:Nat)(w:World),CallsDIn {fn:=λ_=>True,depth:=none,alive:=false,round:=none} n P f args .returning w λe u w'=>(∃v,e=.returned v)/\u=.returning/\w'=w
def deD:Nat ⊕ Deferred→Deferred
  | .inl D=>{target:=.collected D,args:=#[]}
  | .inr d=>d
def lefts:List (Nat ⊕ Deferred)→List Nat
  | []=>[]
  | .inl D::r=>D::lefts r
  | .inr _::r=>lefts r
theorem uY{D:Nat}:∀{es:List (Nat ⊕ Deferred)},Sum.inl D∈es→D∈lefts es
  | .inl E::r,h=>by
    rcases kR.1 h with e|h
    · cases e;exact lq
    · exact jU _ (uY h)
  | .inr _::r,h=>by
    rcases kR.1 h with e|h
    · cases e
    · exact uY (es:=r) h
theorem J4{D:Nat}:∀{es:List (Nat ⊕ Deferred)},D∈lefts es→Sum.inl D∈es
  | .inl E::r,h=>by
    rcases kR.1 h with rfl|h
    · exact lq
    · exact jU _ (J4 h)
  | .inr _::r,h=>jU _ (J4 (es:=r) h)
def Marks(P:Program)(B:Nat)(h:Fz)(ds:List Deferred):Prop :=
 ∃es:List (Nat ⊕ Deferred),(lefts es).Nodup/\ds=es.map deD/\(∀D,Sum.inl D∈es->B<=D/\h D=some (.fz (.deferred (some []))))/\∀d,Sum.inr d∈es->G8 P d
theorem Marks.mono{P:Program}{B:Nat}{h h':Fz}{ds:List Deferred}(m:Marks P B h ds)(hl:jV h h'):Marks P B h' ds:=by
 obtain⟨es,h1,h2,h3,h4⟩:=m;exact⟨es,h1,h2,λD hD=>⟨(h3 D hD).1,hl _ _ (h3 D hD).2⟩,h4⟩
theorem Marks.nil{P:Program}(B:Nat)(h:Fz):Marks P B h []:=⟨[],qj2,rfl,λ_ hD=>by simp at hD,λ_ hD=>by simp at hD⟩
structure cO (P : Program) (nt B : Nat) (w0 : World) (h0 : Fz) (g : Gh) (σ : St) (a : Act) (w : World) : Prop where
  dfr:Marks P B g.h a.defers
  size:nt<=a.tmps.size
  env:∀t d,lk σ.env t=some d->rH g d (a.tmps.getD t undef)
  obj:∀L o,lk σ.aB L=some o->NZ P g w B L o
  own:∀L o b,lk σ.aB L=some o->gW g L o b->B<=b/\g.h b=none
  sep:∀L o b L' o',lk σ.aB L=some o->lk σ.aB L'=some o'->gW g L o b->gW g L' o' b->L=L'
  hw:Hw g.h w
  le0:jV h0 g.h
  hn:∀b o,g.h b=some o->h0 b=some o\/B<=b
  below:xJ h0 B w0 w
  bs:B<=w.heap.size
  clE:∀t d,lk σ.env t=some d->∀L∈df d,∃o,lk σ.aB L=some o
  clO:∀L o,lk σ.aB L=some o->∀M∈dR o,∃o',lk σ.aB M=some o'
def nU(h:Fz):PA→Value→Prop
  | .one v,x=>Rep h v x
  | .agg cs,x=>∃vs:List Value,x=.agg vs.toArray/\RL (Rep h) cs vs
def qK(h:Fz):List PA→Value→Prop
  | [r],v=>nU h r v
  | rs,v=>∃vs:List Value,v=.tuple vs.toArray/\RL (nU h) rs vs
def dD (P : Program) (f : FuncId) : Prop := ∃ fn, P.funcs[f]? = some fn ∧ fn.body.isSome = true ∧ (fn.name == "runtime.NumGoroutine") = false
def Ok(P:Program)(f:FuncId)(C:List PA->ae (List PA)):Prop :=
 ∀(args rs:List PA),(C args).o=some rs->∀(w:World)(h:Fz)(vs:List Value),RL (nU h) args vs->Hw h w ->
  dD P f/\Calls P f vs.toArray w λ e w'=>∃ (h':Fz) (v:Value),e=.returned v/\qK h' rs v/\xJ h w.heap.size w w' /\
   jV h h'/\Hw h' w'/\∀b o,h' b=some o->h b=some o\/w.heap.size<=b
def Ai(h:Fz)(w:World)(base e s:Nat)(v:Value)(n:Nat)(get:Nat->List PV):Prop :=
 ∃xs:List Value,w.ownsRow base e s v n xs/\∀i,i<n->RL (Rep h) (get i) ((xs.drop (i*s)).take s)
structure Zl (h : Fz) (K : List Nat) (w w' : World) : Prop where
  os:w'.os=w.os
  tape:w'.tape=w.tape
  output:w'.output=w.output
  size:w.heap.size<=w'.heap.size
  drawn:dle w.drawn w'.drawn
  block:∀k,k<w.heap.size->k∉K->w'.heap[k]? = w.heap[k]?
def U7(v:Value)(xs:List Value):List PV→Value
  | []=>v
  | _=>.tuple (v::xs).toArray
def gz(P:Program)(f:FuncId):Fe→Prop
  | .none=>True
  | .sort e s b=>∀(w:World)(h:Fz)(base:Nat)(v:Value)(n:Nat)(get:Nat->List PV)(gf:FuncId)(caps:List PV)(cv:List Value)(ag:Bool)(C:List PA->ae (List PA)),@Ok ⟨1⟩ P gf C->RL (Rep h) caps cv->jD P e=some ag ->
      (∃i,P.info? e=some i/\i.size=s)->0<s->Ai h w base e s v n get->v.oneCell'=true->Hw h w->(∀k,v.ownBlock=some k->h k=none)->base<=w.heap.size ->
      zv1 n (λi j=>(JK C caps ag get i j).isSome) (nY C caps ag get) ->
      dD P f/\Calls P f #[v,.func (.func gf) #[] cv.toArray] w λr w'=>r=.returned (.tuple #[])/\Ai h w' base e s v n (JL n (nY C caps ag get) get)/\GrB w w' v.ownBlock
  | .clone e s b=>∀(w:World)(h:Fz)(v:Value)(n:Nat)(get:Nat->List PV),Rep h (.sl n s get) v->Hw h w->n*b<=140737488355328->n<=9223372036854775807 ->
      dD P f/\Calls P f #[v] w λ r w'=>∃ (h':Fz) (v':Value),r=.returned v'/\v'.oneCell'=true/\Ai h' w' w.heap.size e s v' n get/\(∀ k,v'.ownBlock=some k->h' k=none) /\
        xJ h w.heap.size w w'/\jV h h'/\Hw h' w'/\∀b o,h' b=some o->h b=some o\/w.heap.size<=b
  | .mkv e s b F=>∀(w:World)(h:Fz)(az:List PA)(vs:List Value)(n:Nat)(get:Nat->List PV)(rs:List PV),(F az).o=some (n,get,rs)->RL (nU h) az vs->Hw h w ->
      dD P f/\Calls P f vs.toArray w λ r w'=>∃ (h':Fz) (v':Value) (xs:List Value),r=.returned (U7 v' xs rs)/\RL (Rep h') rs xs/\v'.oneCell'=true/\ut get /\
        Ai h' w' w.heap.size e s v' n get/\(∀k,v'.ownBlock=some k->h' k=none)/\xJ h w.heap.size w w'/\jV h h'/\Hw h' w'/\∀b o,h' b=some o->h b=some o\/w.heap.size<=b
  | .grow e s b F=>∀(w:World)(h:Fz)(base:Nat)(az:List PA)(vs:List Value)(v:Value)(n:Nat)(get:Nat->List PV)(m:Nat)(get':Nat->List PV),(F az n get).o=some (m,get')->RL (nU h) az vs ->
      v.oneCell'=true->(ut get/\0<s)->(∃i z,P.info? e=some i/\i.size=s/\i.bytes=b/\i.zero=some z/\z.cells.size=s)->Ai h w base e s v n get->(∀k,v.ownBlock=some k->base<=k/\h k=none)->Hw h w->base<=w.heap.size ->
      dD P f/\Calls P f (vs ++ [v]).toArray w λ r w'=>∃ (h':Fz) (v':Value),r=.returned v'/\v'.oneCell'=true/\ut get'/\Ai h' w' base e s v' m get' /\
        (∀k,v'.ownBlock=some k->(k∈v.ownBlock.toList\/w.heap.size<=k)/\h' k=none)/\jV h h'/\Hw h' w'/\(∀b o,h' b=some o->h b=some o\/w.heap.size<=b\/b∈v.ownBlock.toList)/\Zl h v.ownBlock.toList w w'
def JSt(J:List (List PA)->Fz->World->Prop):Prop :=
 ∀ys h W h' W',J ys h W->jV h h'->Hw h' W'->(∀b o,h' b=some o->h b=some o\/W.heap.size<=b)->xJ h W.heap.size W W'->J ys h' W'
def Ac(P:Program)(f:FuncId)(C:List PA->ae (List (List PA))):Prop :=
 ∀(caps:List PA)(ys:List (List PA)),(C caps).o=some ys->∀(l:Nat)(J Jx:List (List PA)->Fz->World->Prop)(Rp:Ending->World->Prop)(w:World)(h:Fz)(vs:List Value),JSt J->JSt Jx ->
  (∀y rest h W us,J (y::rest) h W->RL (nU h) y us->Hw h W->∀n,∃fn tmps assign body,(Instr.yield l us.toArray).run P W=.ok (.round l fn tmps assign body) W /\
   RoundIn Fence.wide n P l fn tmps assign body W λe W'=>(∃h',jV h h'/\Hw h' W'/\((e=.returned (.bool true)/\J rest h' W')\/(e=.returned (.bool false)/\Jx rest h' W')))\/((∃ch,e=.panicked ch)/\Rp e W')) ->
  J ys h w->RL (nU h) caps vs->Hw h w ->
  dD P f/\Calls P f (.func (.yield l) #[] #[]::vs).toArray w λe W'=>(∃v h',e=.returned v/\jV h h'/\Hw h' W'/\(J [] h' W'\/∃rest,Jx rest h' W'))\/((∃ch,e=.panicked ch)/\Rp e W')
class dF where
  f:FuncId
  np:Nat
  bs:List Nat
def xY(b:Nat):Value:=.pointer (some ⟨b,0,none⟩)
def zPx [dF]:Value:=.func (.func (dF.f)) #[] ((dF.bs).map xY).toArray
def xcR [dF](P:Program)(h:Fz)(w:World)(B:Nat):XC→Value→Prop
  | .p v,x=>Rep h v x
  | .vec e s b n get,x=>x.oneCell'=true/\(ut get/\0<s)/\(∃i z,P.info? e=some i/\i.size=s/\i.bytes=b/\i.zero=some z/\z.cells.size=s)/\Ai h w B e s x n get
  | .mo kt vt q n F,x=>∃(b:Nat)(es:Array MapEntry)(clock:Nat),x=.map (some b)/\w.heap[b]? = some (.map es clock)/\moR P kt vt q n F es clock
  | .slf f np n,x=>f=dF.f/\np=dF.np/\n=(dF.bs).length/\x=zPx
def xcK:XC→Value→List Nat
  | .p _,_=>[]
  | .vec _ _ _ _ _,x=>x.ownBlock.toList
  | .mo _ _ _ _ _,x=>[oW x]
  | .slf _ _ _,_=>[]
def uZ:List XC→List Value→List Nat
  | c::cs,v::vs=>xcK c v++uZ cs vs
  | _,_=>[]
def zH [dF](P:Program)(h:Fz)(w:World)(B:Nat):XA→Value→Prop
  | .d a,v=>nU h a v
  | .box ty cs,v=>∃k C,v=.pointer (some ⟨k,0,none⟩)/\w.heap[k]? = some (.cells C ty (0,0))/\RL (xcR P h w B) cs C.toList
def U8(w:World):XA→Value→List Nat
  | .box _ cs,.pointer (some a)=>a.block::match w.heap[a.block]? with
    | some (.cells C _ _)=>uZ cs C.toList
    | _=>[]
  | _,_=>[]
def nP(w:World):List XA→List Value→List Nat
  | x::xs,v::vs=>U8 w x v++nP w xs vs
  | _,_=>[]
def Rh(h:Fz)(rs:List PA)(e:Ending):Prop:=match Fh rs with
 | none=>∃v,e=.returned v/\qK h rs v
 | some ch=>e=.panicked ch
def rJ(P:Program)(f:FuncId)(C:MK):Prop :=
 ∀ [dF] (xs ys:List XA) (rs:List PA),(C xs).o=some (rs,ys)->∀(w:World)(h:Fz)(base:Nat)(vs:List Value),RL (zH P h w base) xs vs->(∀k b,(dF.bs)[k]? = some b->vs[dF.np+k]? = some (xY b))->(nP w xs vs).Nodup ->
  (∀b∈nP w xs vs,base<=b/\h b=none)->Hw h w->base<=w.heap.size ->
  dD P f/\Calls P f vs.toArray w λ e w'=>∃ (h':Fz),Rh h' rs e/\RL (zH P h' w' base) ys vs/\(nP w' ys vs).Nodup /\
   (∀b∈nP w' ys vs,(b∈nP w xs vs\/w.heap.size<=b)/\h' b=none)/\jV h h'/\Hw h' w'/\(∀b o,h' b=some o->h b=some o\/w.heap.size<=b\/b∈nP w xs vs)/\Zl h (nP w xs vs) w w'
structure jw (P : Program) (Γ : bU) : Prop where
  mt:∀f C,Γ.mt f=some C->rJ P f C
  fn:∀f,Ok P f (Γ.fn f)
  own:∀f,gz P f (Γ.own f)
  it:∀f,Ac P f (Γ.it f)
  cmp:∀f,@Ok ⟨1⟩ P f (Γ.cfn f)
theorem aZ{α:Type}{k n:Nat}{a:α}{r:List (Nat×α)}:lk ((k,a)::r) n=if k=n then some a else lk r n:=by
 simp only[lk];cases h:Nat.beq k n with
 | true=>rw[eX (kL h)]
 | false=>rw[fB (qde h)]
theorem gX{α:Type}{n:Nat}{l r:List (Nat×α)}:lk (l++r) n=match lk l n with|some a=>some a|none=>lk r n:=by
 induction l with
 | nil=>rfl
 | cons x l ih =>
  obtain⟨k,a⟩:=x;rw[qdZ,aZ,aZ];split
  ·rfl
  ·exact ih
end Go.Pm
namespace Go.Pm
variable [aJ]
open Go.RowKit (Below)
section
variable{P:Program}{w:World}
theorem addr_add(b o n:Nat):(⟨b,o,none⟩:Addr).add n=⟨b,o+n,none⟩:=by
 unfold Addr.add;split<;>simp_all
theorem run_underlying{t:TypeId}{d:TypeDesc}(h:P.underlying t=some d):(underlying t).run P w=.ok d w:=by
 simp[underlying,h]
theorem run_sizeOf{t:TypeId}{n:Nat}(h:qA P t=some n):(sizeOf t).run P w=.ok n w:=by
 unfold qA at h;cases hi:P.info? t with
 | none=>simp[hi]at h
 | some i=>simp[hi]at h;simp[sizeOf,typeInfo,hi,h]
theorem oh{t:TypeId}{g:Bool}(h:jD P t=some g):(isAgg t).run P w=.ok g w:=by
 unfold jD at h;cases hi:P.underlying t with
 | none=>simp[hi]at h
 | some d=>simp[hi]at h;simp only[isAgg,Sem.run_bind,run_underlying hi,Result.andThen_ok];cases d<;>simp_all
theorem lD{t:TypeId}{i:TypeInfo}{z:Value}(h:P.info? t=some i)(hz:i.zero=some z):(zeroValue t).run P w=.ok z w:=by
 simp[zeroValue,typeInfo,h,hz]
theorem cell_of{b o:Nat}{C:Array Value}{ty:TypeId}{fr:Nat×Nat}(h:w.heap[b]? = some (.cells C ty fr)):w.cell? ⟨b,o,none⟩=C[o]?:=by
 simp[World.cell?,h]
theorem IL{t:TypeId}{n b o:Nat}{C:Array Value}{ty:TypeId}{fr:Nat×Nat}(hg:jD P t=some true)(hs:qA P t=some n)
    (h:w.heap[b]? = some (.cells C ty fr)) (vs:List Value) (hl:vs.length=n) (hv:∀(j:Nat)(v:Value),vs[j]? = some v->C[o+j]? = some v) :
    (loadVar t ⟨b,o,none⟩).run P w=.ok (.agg vs.toArray) w:=by
  have hc:=run_loadCells_list (P:=P) (w:=w) ⟨b,o,none⟩ vs (λj v hj=>by rw[addr_add,cell_of h];exact hv j v hj);simp only[loadVar,Sem.run_bind,oh hg,Result.andThen_ok,Pn,run_sizeOf hs,<- hl,hc,Sem.run_pure]
theorem xK{t:TypeId}{b o:Nat}{C:Array Value}{ty:TypeId}{fr:Nat×Nat}(hg:jD P t=some false)
    (h:w.heap[b]? = some (.cells C ty fr)) (v:Value) (hv:C[o]? = some v) :
    (loadVar t ⟨b,o,none⟩).run P w=.ok v w:=by
  simp only[loadVar,Sem.run_bind,oh hg,Result.andThen_ok,qdE,qjr,run_load,cell_of h,hv]
theorem U9{t:TypeId}{b o f off:Nat}(h:JJ P t f=some off) :
  (Instr.fieldAt t (.pointer (some ⟨b,o,none⟩)) f).run P w=.ok (.pointer (some ⟨b,o+off,none⟩)) w:=by
 unfold JJ at h;split at h
 ·rename_i fs hu;split at h
  ·rename_i fd hf;split at h
   ·rename_i k hs;simp at h;subst h;simp only[Instr.fieldAt,Sem.run_bind,run_underlying hu,Result.andThen_ok,hf,Instr.sureAddr,Sem.run_pure,fieldPlace,run_sizeOf hs];simp[addr_add]
   ·cases h
  ·cases h
 ·cases h
theorem run_indexAt_slice{t e:TypeId}{n b o len cap:Nat}{k:IntKind}{i:Int}(hu:P.underlying t=some (.slice e))(hs:qA P e=some n)(h0:0≤i)(h1:i<(len:Int)) :
  (Instr.indexAt t (.slice (some ⟨b,o,none⟩) len cap) (.int k i)).run P w=.ok (.pointer (some ⟨b,o+i.toNat*n,none⟩)) w:=by
 simp only[Instr.indexAt,asIntOf,Sem.run_bind,Sem.run_pure,Result.andThen_ok,run_underlying hu,h0,h1,and_self,Pn,run_sizeOf hs,addr_add]
theorem yK{b:Nat}{ty:TypeId}:∀(vs:List Value)(o:Nat)(C:Array Value)(w:World),w.heap[b]? = some (.cells C ty (0,0))->o+vs.length<=C.size->(∀v∈vs,v.oneCell'=true) ->
  ∀(base i:Nat),o=base+i->∃w',(storeCells ⟨b,base,none⟩ vs i).run P w=.ok () w'/\w'.heap[b]? = some (.cells (spl C.toList o vs).toArray ty (0,0))/\w'.heap.size=w.heap.size /\
   (∀k,k≠b->w'.heap[k]? = w.heap[k]?)/\w'.os=w.os/\w'.tape=w.tape/\w'.output=w.output/\w'.drawn=w.drawn
 | [],o,C,w,h,_,_,base,i,_=>⟨w,by simp[storeCells],by simpa [spl]using h,rfl,λ_ _=>rfl,rfl,rfl,rfl,rfl⟩
 | v::r,o,C,w,h,hl,h1,base,i,ho=>by
  subst ho;have iC:base+i<C.size:=by simp at hl;omega
  have nS:w.cell? ⟨b,base+i,none⟩=some C[base+i]:=by rw[cell_of h];simp[iC]
  have hfr:w.frozen? ⟨b,base+i,none⟩=false:=frozen_of_row w b (base+i) C ty h;let w1:=w.setCell ⟨b,base+i,none⟩ v;have h2:w1.heap[b]? = some (.cells (C.set! (base+i) v) ty (0,0)):=by
   simp[w1,World.setCell,jqc,h]
  have jO:w1.heap.size=w.heap.size:=by simp[w1,World.setCell]
  have qU:∀k,k≠b->w1.heap[k]? = w.heap[k]?:=λk hk=>heap_setCell_other w _ k v hk;obtain⟨w',hr,hh,qJ,kQ,h5,h6,h7,h8⟩:=yK r (base+i+1) (C.set! (base+i) v) w1 h2 (by simp at hl ⊢;omega) (λu hu=>h1 u (jU _ hu)) base (i+1) omY;refine⟨w',?_,?_,qJ.trans jO,λk hk=>(kQ k hk).trans (qU k hk),h5,h6,h7,h8⟩
  ·rw [storeCells];simp only[Sem.run_bind,addr_add,run_store P w _ v _ (h1 v lq),nS,hfr,qdE,qjr,Result.andThen_ok];exact hr
  ·rw [hh];simp[spl]
end
end Go.Pm
namespace Go.Pm
variable [aJ]
open Go.RowKit (Below)
theorem CO{α:Type}:∀(l' l:List α)(off j:Nat),off+l'.length≤l.length→(spl l off l')[j]? = if off≤j∧j<off+l'.length then l'[j-off]? else l[j]?
  | [],l,off,j,_=>by simp only[spl,UJ];rw[fB omY]
  | x::r,l,off,j,h=>by
    have h':off+1+r.length<=(l.set off x).length:=by simp at h ⊢;omega
    rw[spl,CO r (l.set off x) (off+1) j h'];simp only[Cc]at h ⊢;by_cases hj:j=off
    · subst hj;rw[fB omY,eX omY];have:j < l.length:=by omega
      simp[this]
    · by_cases hr : off + 1 ≤ j ∧ j < off + 1 + r.length
      · rw [eX hr, eX omY];have e:j - off=(j - (off+1))+1:=by omega
        rw[e,Y9]
      · rw[fB hr,fB omY,qjO omY]
theorem zbt{g:Nat->List PV}(hg:ut g){i k:Nat}{l:List PV}(hk:k+l.length<=(g 0).length)(hs:smL (((g 0).drop k).take l.length) l=true)(hl:RS l l):ut (yu i k g l):=by
 have hp:RS (((g 0).drop k).take l.length) l:=JP hs (((hg 0 0).drop k).take _) hl;have key:∀j j',RS (spl (g j) k l) (g j'):=λj j'=>by
  have e0:=(hg 0 j).length;refine RL.of_get (by rw[lQ];exact(hg j j').length) λp a b ha hb=>?_;rw[CO _ _ _ _ omY]at ha;split at ha
  ·rename_i hr;obtain⟨c,hc,r⟩:=RL.get' hp (p-k) a ha;rw[I4,eX omY,qdr,show k+(p-k)=p by omega]at hc;obtain⟨d,hd,r2⟩:=RL.get (hg 0 j') p c hc;rw[hb]at hd;cases hd;exact r.symm.trans r2
  ·obtain⟨d,hd,r2⟩:=RL.get (hg j j') p a ha;rw[hb]at hd;cases hd;exact r2
 intro j j';unfold yu;split<;>split
 ·exact(key j j').trans (key j' j').symm
 ·exact key _ _
 ·exact(key _ _).symm
 ·exact hg _ _
theorem Fv(off:Nat):∀(l:List Value)(k:Nat)(C:Array Value),
  (l.zipIdx k).foldl (λ(cs:Array Value)(x:Value×Nat)=>cs.setIfInBounds (off+x.2) x.1) C=(spl C.toList (off+k) l).toArray
 | [],k,C=>by simp[spl]
 | x::r,k,C=>by
  rw[List.zipIdx_cons,YC,Fv off r (k+1) _,spl];simp[qjP]
section
variable{P:Program}{w:World}
theorem ve{g:Gh}{d:D1}{v:Value}(h:AA g d v)(ho:d.cells.all Ci=true):RL (jg g) d.cells v.cells.toList:=by
 cases d with
 | c x =>
  have h1:=zbs h (by simpa [D1.cells]using ho);have:v.cells = #[v]:=by cases v<;>simp_all [Value.oneCell',Value.cells]
  rw[this];exact⟨h,trivial⟩
 | agg cs =>
  obtain⟨vs,rfl,hr⟩:=h;simpa [D1.cells,Value.cells]using hr
theorem Va{fs:Array Field}(h:∀f∈fs,(qA P f.type).isSome=true) :
  (fs.mapM λf=>do pure (f.offset,<- sizeOf f.type):Sem (Array (Nat×Nat))).run P w=.ok (fs.map λf=>(f.offset,(qA P f.type).getD 0)) w:=by
 have key:∀l:List Field,(∀f∈l,(qA P f.type).isSome=true) ->
   (l.mapM λf=>do pure (f.offset,<- sizeOf f.type):Sem (List (Nat×Nat))).run P w=.ok (l.map λf=>(f.offset,(qA P f.type).getD 0)) w:=by
  intro l
  induction l with
  | nil=>intro _;rfl
  | cons f l ih =>
   intro hl;obtain⟨n,hn⟩:=jq0.1 (hl f lq);rw[qj3];simp only[Sem.run_bind,run_sizeOf hn,Result.andThen_ok,Sem.run_pure,ih (λg hg=>hl g (jU _ hg)),oU,hn,qd0]
 rw[qj4,Sem.run_map,key fs.toList (λf hf=>h f (by simpa using hf))];cases fs;simp
theorem yL{g:Gh}{ρ:Operand→Value}{ev:Operand→DV}(hev:∀o,rH g (ev o) (ρ o)){t:TypeId}(place:Nat→Option (Nat×Nat))
    (hp:∀(i off n:Nat),(match P.underlying t with
      | some (.struct fs)=>match fs[i]? with
        | some fd=>match qA P fd.type with|some m=>off=fd.offset/\n=m|none=>False
        | none=>False
      | some (.array _ e)=>match qA P e with|some m=>off=i*m/\n=m|none=>False
      | _=>False)->place i=some (off,n)) :
    ∀(parts:List (Nat×Operand))(z l:List Cl)(C:Array Value),iH P t ev z parts=some l->RL (jg g) z C.toList ->
      ∃D:Array Value,Instr.fill place C (parts.map λx=>(x.1,ρ x.2))=some D/\RL (jg g) l D.toList
  | [],z,l,C,h,hz=>by
    simp[iH]at h;subst h;exact⟨C,rfl,hz⟩
  | (i,o)::r,z,l,C,h,hz=>by
    have hd:=hev o;simp only[iH]at h;cases he:ev o with
    | tup ds=>simp[he]at h
    | one d =>
      simp only[he]at h;rw[he]at hd
      have step:∀(off n:Nat),place i=some (off,n)->n=d.cells.length->off+n<=z.length->d.cells.all Ci=true->iH P t ev (spl z off d.cells) r=some l ->
          ∃D:Array Value,Instr.fill place C (((i,o)::r).map λx=>(x.1,ρ x.2))=some D/\RL (jg g) l D.toList:=by
        intro off n Ob hn hle gp hb;have hc:=ve hd gp;have hlen:=hc.length;have hzl:=hz.length;have hr2:RL (jg g) (spl z off d.cells) (spl C.toList off (ρ o).cells.toList):=hz.spl hc off;obtain⟨D,hD,hR⟩:=yL hev place hp r _ l (spl C.toList off (ρ o).cells.toList).toArray hb (by simpa using hr2);refine⟨D,?_,hR⟩;simp only[oU,Instr.fill,Ob];have h1:¬((ρ o).cells.size≠n):=by simp only[Decidable.not_not,ne_eq];rw[hn,hlen];simp
        have h2:¬(off+(ρ o).cells.size>C.size):=by
          have:(ρ o).cells.size=d.cells.length:=by rw[hlen];simp
          have:C.size=z.length:=by rw[hzl];simp
          omega
        have h3:((decide ((ρ o).cells.size≠n)||decide (off+(ρ o).cells.size>C.size))=true)=False:=by simp[h1,h2]
        rw[fB (by rw[h3];exact id)];rw[<- hD];refine jX (λz=>Instr.fill place z _) ?_;have:=Fv off (ρ o).cells.toList 0 C;rw[qjd]at this;rw[<- this];cases(ρ o).cells;simp
      cases hu:P.underlying t with
      | none=>simp[hu]at h
      | some dd =>
        cases dd with
        | struct fs =>
          simp only[hu]at h;cases hf:fs[i]? with
          | none=>simp[hf]at h
          | some fd =>
            simp only[hf]at h;cases hs:qA P fd.type with
            | none=>simp[hs]at h
            | some n =>
              simp only[hs]at h;split at h
              · rename_i dC;simp only[gG,Uz]at dC;exact step fd.offset n (hp i _ _ (by simp[hu,hf,hs])) (kL dC.1.1) dC.1.2 dC.2 h
              · cases h
        | array m e =>
          simp only[hu]at h;cases hs:qA P e with
          | none=>simp[hs]at h
          | some n =>
            simp only[hs]at h;split at h
            · rename_i dC;simp only[gG,Uz]at dC;exact step (i*n) n (hp i _ _ (by simp[hu,hs])) (kL dC.1.1) dC.1.2 dC.2 h
            · cases h
        | _=>simp[hu]at h
theorem J5{h:Fz}{v:Value}{p:PV}(hv:wC v=some p):Rep h p v:=by
 unfold wC at hv;split at hv<;>first|(cases hv;done)|(simp at hv;subst hv;constructor)
theorem kP{g:Gh}:∀(l:List Value)(cs:List Cl),jC l=some cs→RL (jg g) cs l
  | [],cs,h=>by simp[jC]at h;subst h;trivial
  | v::r,cs,h=>by
    simp only[jC]at h;split at h
    · rename_i x l hx hl;simp at h;subst h;exact⟨J5 hx,kP r l hl⟩
    · cases h
theorem lS{t:TypeId}{z:List Cl}(h:gV P t=some z):∃i v,P.info? t=some i/\i.zero=some v/\jC v.cells.toList=some z/\z.length=i.size:=by
 unfold gV at h;split at h
 ·rename_i i hi;split at h
  ·rename_i v hz;split at h
   ·rename_i l hl;split at h
    ·rename_i hs;simp at h;subst h;exact⟨i,v,hi,hz,hl,hs⟩
    ·cases h
   ·cases h
  ·cases h
 ·cases h
theorem zdC{t:TypeId}{z:List Cl}(h:gV P t=some z):∃i v,P.info? t=some i/\i.zero=some v/\v.cells.size=i.size:=by
 obtain⟨i,v,hi,hz,hl,hs⟩:=lS h;have:=(kP (g:=⟨λ_=>none,λ_=>0,λ_=>undef,λ_ _=>undef⟩) _ _ hl).length;exact⟨i,v,hi,hz,by rw[<- hs,this];simp⟩
theorem run_build{g:Gh}{ρ:Operand→Value}{ev:Operand→DV}(hev:∀o,rH g (ev o) (ρ o)){t:TypeId}{parts:Array (Nat×Operand)}{z l:List Cl}
    (hf:yF P t=true) (hz:gV P t=some z) (hb:iH P t ev z parts.toList=some l) :
    ∃v,(Instr.build t (parts.map λx=>(x.1,ρ x.2))).run P w=.ok v w/\AA g (.agg l) v:=by
  obtain⟨i,v,hi,GM,hl,_⟩:=lS hz;have hzr:=kP (g:=g) _ _ hl;unfold yF at hf;cases hu:P.underlying t with
  | none=>simp[hu]at hf
  | some d =>
    cases d with
    | struct fs =>
      simp only[hu]at hf;have GN:∀f∈fs,(qA P f.type).isSome=true:=λf hf'=>Aa.1 hf f (by simpa using hf');obtain⟨D,hD,hR⟩:=yL (P:=P) hev (t:=t) ((fs.map λf=>(f.offset,(qA P f.type).getD 0))[·]?) (by
        intro i off n hm;simp only[hu]at hm;cases hfi:fs[i]? with
        | none=>simp[hfi]at hm
        | some fd =>
          cases hs:qA P fd.type with
          | none=>simp[hfi,hs]at hm
          | some m=>simp[hfi,hs]at hm;simp[hfi,hs,hm.1,hm.2]) parts.toList z l v.cells hb hzr
      refine⟨.agg D,?_,⟨D.toList,by simp,hR⟩⟩;simp only[Instr.build,Sem.run_bind,lD hi GM,Result.andThen_ok,run_underlying hu,Va GN];simp only[qjM];rw[hD];rfl
    | array m e =>
      simp only[hu]at hf;obtain⟨n,hn⟩:=jq0.1 hf;obtain⟨D,hD,hR⟩:=yL (P:=P) hev (t:=t) (λi=>some (i*n,n)) (by
        intro i off k hm;simp only[hu,hn]at hm;simp[hm.1,hm.2]) parts.toList z l v.cells hb hzr
      refine⟨.agg D,?_,⟨D.toList,by simp,hR⟩⟩;simp only[Instr.build,Sem.run_bind,lD hi GM,Result.andThen_ok,run_underlying hu,run_sizeOf hn];simp only[qjM];rw[hD];rfl
    | _=>simp[hu]at hf
end
end Go.Pm
namespace Go.Pm
variable [aJ]
open Go.RowKit (Below)
def jb(g g':Gh)(L:Nat):Prop:=g'.bk L=g.bk L/\g'.sv L=g.sv L/\g'.iv L=g.iv L
theorem jb.refl(g:Gh)(L:Nat):jb g g L:=⟨rfl,rfl,rfl⟩
def PI(g g':Gh)(l:List Nat):Prop:=∀L∈l,jb g g' L
theorem Vb{g g':Gh}{c:Cl}{x:Value}(hl:PI g g' (bD c))(hle:jV g.h g'.h)(h:jg g c x):jg g' c x:=by
 cases c with
 | p v=>exact Rep.mono hle h
 | ptr L off=>have:=(hl L (by simp[bD])).1;simp only[jg]at h ⊢;rw[this];exact h
 | vptr L s i k=>have:=(hl L (by simp[bD])).2.1;simp only[jg]at h ⊢;rw[this];exact h
 | vec L=>have:=(hl L (by simp[bD])).2.1;simp only[jg]at h ⊢;rw[this];exact h
 | mo L=>have:=(hl L (by simp[bD])).2.1;simp only[jg]at h ⊢;rw[this];exact h
 | clo f caps=>obtain⟨cv,e,hr⟩:=h;exact⟨cv,e,qX (λ_ _=>Rep.mono hle) (λL hL=>(hl L hL).1) hr⟩
 | undef=>exact h
 | junk=>trivial
 | dead L=>trivial
theorem tN{g g':Gh}:∀{cs:List Cl}{vs:List Value},PI g g' (cs.flatMap bD)→jV g.h g'.h→RL (jg g) cs vs→RL (jg g') cs vs
  | [],[],_,_,_=>trivial
  | [],_::_,_,_,h=>h.elim
  | _::_,[],_,_,h=>h.elim
  | c::cs,v::vs,hl,hle,h=>⟨Vb (λL hL=>hl L (by simp[hL])) hle h.1,tN (λL hL=>hl L (by simp only[oK,dU];exact .inr hL)) hle h.2⟩
theorem Vd{g g':Gh}{d:D1}{x:Value}(hl:PI g g' (dE d))(hle:jV g.h g'.h)(h:AA g d x):AA g' d x:=by
 cases d with
 | c y=>exact Vb hl hle h
 | agg cs=>obtain⟨vs,rfl,hr⟩:=h;exact⟨vs,rfl,tN hl hle hr⟩
theorem Ha{g g':Gh}:∀{cs:List D1}{vs:List Value},PI g g' (cs.flatMap dE)→jV g.h g'.h→RL (AA g) cs vs→RL (AA g') cs vs
  | [],[],_,_,_=>trivial
  | [],_::_,_,_,h=>h.elim
  | _::_,[],_,_,h=>h.elim
  | c::cs,v::vs,hl,hle,h=>⟨Vd (λL hL=>hl L (by simp[hL])) hle h.1,Ha (λL hL=>hl L (by simp only[oK,dU];exact .inr hL)) hle h.2⟩
theorem Ve{g g':Gh}{d:DV}{x:Value}(hl:PI g g' (df d))(hle:jV g.h g'.h)(h:rH g d x):rH g' d x:=by
 cases d with
 | one y=>exact Vd hl hle h
 | tup ds=>obtain⟨vs,rfl,hr⟩:=h;exact⟨vs,rfl,Ha hl hle hr⟩
theorem jl{w w':World}{B e s n:Nat}{v:Value}{xs:List Value}(h:w.ownsRow B e s v n xs)(hw:∀b,v.ownBlock=some b→w'.heap[b]? = w.heap[b]?) :
  w'.ownsRow B e s v n xs:=by
 refine⟨h.1,?_⟩;rcases h.2 with hn|⟨g,cap,cur,rfl,hb,hg,rest⟩
 ·exact .inl hn
 ·exact .inr ⟨g,cap,cur,rfl,hb,by rw[hw g rfl];exact hg,rest⟩
theorem PK{P:Program}{g g':Gh}{w w':World}{B L e s b n:Nat}{get:Nat→List PV}(h:CJ P g w B L e s b n get)(hs:g'.sv L=g.sv L)(hle:jV g.h g'.h)
    (hw:∀b,(g.sv L).ownBlock=some b->w'.heap[b]? = w.heap[b]?):CJ P g' w' B L e s b n get:=by
  obtain⟨h1,h2,xs,hx,hr⟩:=h;refine⟨h1,h2,xs,?_,λi hi=>(hr i hi).mono λ_ _=>Rep.mono hle⟩;rw[hs];exact jl hx hw
theorem Vf{P:Program}{g g':Gh}{w w':World}{B L te bb e s b n:Nat}{ln:Nat→Nat}{get:Nat→Nat→List PV}(h:vvR P g w B L te bb e s b n ln get)(hl:jb g g' L)(hle:jV g.h g'.h)
    (hw:∀k,gW g L (.vv te bb e s b n ln get) k->w'.heap[k]? = w.heap[k]?):vvR P g' w' B L te bb e s b n ln get:=by
  obtain⟨h1,h2,h3,h4,h5,h6⟩:=h;refine⟨h1,h2,h3,?_,λi hi=>?_,?_⟩
  · rw[hl.2.1,hl.2.2];exact jl h4 λk hk=>hw k (.inl hk)
  · obtain⟨h7,h70,xs,hx,hr⟩:=h5 i hi;rw[hl.2.2];exact⟨h7,h70,xs,jl hx λk hk=>hw k (.inr ⟨i,hi,hk⟩),λj hj=>(hr j hj).mono λ_ _=>Rep.mono hle⟩
  · rw[hl.2.1,hl.2.2];exact h6
theorem Vg{P:Program}{g g':Gh}{w w':World}{B L te bb e s b n o:Nat}{ln:Nat→Nat}{get:Nat→Nat→List PV}(h:vtR P g w B L te bb e s b n ln get o)(hl:jb g g' L)(hle:jV g.h g'.h)
    (hw:∀k,gW g L (.vt te bb e s b n ln get o) k->w'.heap[k]? = w.heap[k]?):vtR P g' w' B L te bb e s b n ln get o:=by
  obtain⟨h1,h2,h3,h4,h41,h42,h5,h6⟩:=h;refine⟨h1,h2,h3,?_,by rw[hl.2.2];exact h41,by rw[hl.2.2];exact h42,λi hi ho=>?_,?_⟩
  · rw[hl.2.1,hl.2.2];exact jl h4 λk hk=>hw k (.inl hk)
  · obtain⟨h7,h70,xs,hx,hr⟩:=h5 i hi ho;rw[hl.2.2];exact⟨h7,h70,xs,jl hx λk hk=>hw k (.inr ⟨i,hi,ho,hk⟩),λj hj=>(hr j hj).mono λ_ _=>Rep.mono hle⟩
  · rw[hl.2.1,hl.2.2];exact h6
theorem jS{P:Program}{g g':Gh}{w w':World}{B L:Nat}{o:AO}(h:NZ P g w B L o)(hl:jb g g' L)(hm:PI g g' (dR o))(hle:jV g.h g'.h)
    (hw:∀b,gW g L o b->w'.heap[b]? = w.heap[b]?):NZ P g' w' B L o:=by
  cases o with
  | box ty cs=>obtain⟨C,hC,hr⟩:=h;refine⟨C,?_,tN hm hle hr⟩;rw[hl.1,hw _ rfl];exact hC
  | fbox cs=>obtain⟨C,ty,fr,hC,hr⟩:=h;refine⟨C,ty,fr,?_,hr.mono λ_ _=>Rep.mono hle⟩;rw[hl.1];exact hle _ _ hC
  | vec e s b n get=>exact PK h hl.2.1 hle hw
  | fvec s n get=>simp only[NZ]at h ⊢;rw[hl.2.1];exact⟨Rep.mono hle h.1,h.2⟩
  | vv te bb e s b n ln get=>exact Vf h hl hle hw
  | vt te bb e s b n ln get o=>exact Vg h hl hle hw
  | mo kt vt q n F=>obtain⟨es,clock,hC,hr⟩:=h;refine⟨es,clock,?_,hr⟩;rw[hl.2.1,hw _ rfl];exact hC
  | gone=>trivial
theorem gJ{g g':Gh}{L:Nat}{o:AO}(hl:jb g g' L):gW g' L o=gW g L o:=by
 funext b;cases o<;>simp[gW,hl.1,hl.2.1,hl.2.2]
theorem iI{P:Program}{g:Gh}{w:World}{B L b:Nat}{o:AO}(h:NZ P g w B L o)(hb:gW g L o b):b<w.heap.size:=by
 cases o with
 | box ty cs=>simp[gW]at hb;subst hb;obtain⟨C,hC,_⟩:=h;exact(UV.1 hC).1
 | fbox cs=>simp[gW]at hb
 | vec e s b' n get =>
  obtain⟨_,_,xs,hx,_⟩:=h;exact(hx.lt b hb).2
 | fvec s n get=>simp[gW]at hb
 | vv te bb e s b' n ln get =>
  obtain⟨_,_,_,h4,h5,_⟩:=h;rcases hb with hb|⟨i,hi,hb⟩
  ·exact(h4.lt b hb).2
  ·obtain⟨_,_,xs,hx,_⟩:=h5 i hi;exact(hx.lt b hb).2
 | vt te bb e s b' n ln get o =>
  obtain⟨_,_,_,h4,_,_,h5,_⟩:=h;rcases hb with hb|⟨i,hi,ho,hb⟩
  ·exact(h4.lt b hb).2
  ·obtain⟨_,_,xs,hx,_⟩:=h5 i hi ho;exact(hx.lt b hb).2
 | mo kt vt q n F=>simp[gW]at hb;subst hb;obtain⟨es,clock,hC,_⟩:=h;exact(UV.1 hC).1
 | gone=>exact hb.elim
section
variable{P:Program}{nt B:Nat}{w0:World}{h0:Fz}{g:Gh}{σ:St}{a:Act}{w:World}
theorem cO.log(S:cO P nt B w0 h0 g σ a w)(l:List (Nat×Nat×Nat)):cO P nt B w0 h0 g {σ with log:=l} a w :=
 ⟨S.dfr,S.size,S.env,S.obj,S.own,S.sep,S.hw,S.le0,S.hn,S.below,S.bs,S.clE,S.clO⟩
theorem zg7(a:Act)(t:Nat)(v:Value)(u:Nat)(ht:t<a.tmps.size):(a.put (some t) v).tmps.getD u undef=if t=u then v else a.tmps.getD u undef:=by
 simp only[Act.put,xX,qji];by_cases h:t=u
 ·subst h;simp[ht]
 ·simp[h]
def Zm(dst:Option Nat)(d:DV)(e:List (Nat×DV)):List (Nat×DV) :=
 match dst with
 | some t=>(t,d)::e
 | none=>e
theorem gm(σ:St)(i:Nat)(dst:Option Nat)(fp:List (Nat×Bool))(d:DV)(u:List (Nat×AO)):σ.upd i dst fp d u []=⟨Zm dst d σ.env,u++σ.aB,σ.log⟩:=by
 cases dst<;>rfl
theorem cO.put(S:cO P nt B w0 h0 g σ a w){dst:Option Nat}{d:DV}{v:Value}(hd:dJ nt dst=true)(hv:rH g d v)(hl:∀L∈df d,∃o,lk σ.aB L=some o)
    (l:List (Nat×Nat×Nat)):cO P nt B w0 h0 g ⟨Zm dst d σ.env,σ.aB,l⟩ (a.put dst v) w:=by
  cases dst with
  | none=>exact S.log l
  | some t =>
    have ht:t<nt:=by simpa [dJ,qjy]using hd
    have hts:t<a.tmps.size:=qdF ht S.size;refine⟨S.dfr,by simpa [Act.put]using S.size,?_,S.obj,S.own,S.sep,S.hw,S.le0,S.hn,S.below,S.bs,?_,S.clO⟩
    · intro u e hu;rw[zg7 a t v u hts];simp only[Zm,aZ] at hu;split at hu
      · rename_i h;simp at hu;subst hu;rw[eX h];exact hv
      · rename_i h;rw[fB h];exact S.env u e hu
    · intro u e hu;simp only[Zm,aZ] at hu;split at hu
      · simp at hu;subst hu;exact hl
      · exact S.clE u e hu
theorem cO.change(S:cO P nt B w0 h0 g σ a w){g':Gh}{w':World}{AB:List (Nat×AO)}
    (Am:∀L o,lk σ.aB L=some o->jb g g' L) (hle:jV g.h g'.h) (IU:Hw g'.h w')
    (hn':∀b o,g'.h b=some o->g.h b=some o\/B<=b) (hb:xJ h0 B w w')
    (zPz:∀L o,lk AB L=some o->NZ P g' w' B L o) (jd:∀L o b,lk AB L=some o->gW g' L o b->B<=b/\g'.h b=none)
    (IR:∀L o b L' o',lk AB L=some o->lk AB L'=some o'->gW g' L o b->gW g' L' o' b->L=L')
    (yh:∀L o,lk σ.aB L=some o->∃o',lk AB L=some o') (zPA:∀L o,lk AB L=some o->∀M∈dR o,∃o',lk AB M=some o') :
    cO P nt B w0 h0 g' {σ with aB:=AB} a w':=by
  refine⟨S.dfr.mono hle,S.size,?_,zPz,jd,IR,IU,λb o h=>hle _ _ (S.le0 b o h),?_,S.below.trans hb,EW S.bs hb.size,?_,zPA⟩
  · intro t d ht;refine Ve (λL hL=>?_) hle (S.env t d ht);obtain⟨o,ho⟩:=S.clE t d ht L hL;exact Am L o ho
  · intro b o h;rcases hn' b o h with h | h
    · exact S.hn b o h
    · exact .inr h
  · intro t d ht L hL;obtain⟨o,ho⟩:=S.clE t d ht L hL;exact yh L o ho
theorem cO.world(S:cO P nt B w0 h0 g σ a w){h':Fz}{w':World}(hle:jV g.h h')(IU:Hw h' w')
    (hn':∀b o,h' b=some o->g.h b=some o\/w.heap.size<=b) (hb:xJ g.h w.heap.size w w'):cO P nt B w0 h0 ⟨h',g.bk,g.sv,g.iv⟩ σ a w':=by
  have iC:∀L o b,lk σ.aB L=some o->gW g L o b->b<w.heap.size:=λL o b ho dh=>iI (S.obj L o ho) dh
  have key := S.change (g' := ⟨h', g.bk, g.sv, g.iv⟩) (w' := w') (AB := σ.aB) (fun _ _ _ => ⟨rfl, rfl, rfl⟩) hle IU
    (λb o h=>(hn' b o h).imp id λh=>EW S.bs h) ⟨hb.os,hb.tape,hb.output,hb.size,hb.drawn,λk hk=>hb.block k (qdF hk S.bs)⟩
    (λL o ho=>jS (S.obj L o ho) ⟨rfl,rfl,rfl⟩ (λ_ _=>⟨rfl,rfl,rfl⟩) hle λb dh=>hb.block b (iC L o b ho dh))
    (λL o b ho dh=>by
      have iy:gW g L o b:=Eq.mp (jqw (gJ (g:=g) (g':=⟨h',g.bk,g.sv,g.iv⟩) ⟨rfl,rfl,rfl⟩) _) dh;obtain⟨h1,h2⟩:=S.own L o b ho iy;refine⟨h1,?_⟩;cases hh:h' b with
      | none=>exact hh
      | some x =>
        rcases hn' b x hh with h3|h3
        · rw[h2]at h3;cases h3
        · exact absurd (iC L o b ho iy) omY)
    (fun L o b L' o' ho kQ dh iy => S.sep L o b L' o' ho kQ
      (Eq.mp (jqw (gJ (g:=g) (g':=⟨h',g.bk,g.sv,g.iv⟩) ⟨rfl,rfl,rfl⟩) _) dh) (Eq.mp (jqw (gJ (g:=g) (g':=⟨h',g.bk,g.sv,g.iv⟩) ⟨rfl,rfl,rfl⟩) _) iy))
    (λL o h=>⟨o,h⟩) S.clO
  exact key
theorem vg{h:Fz}(hw:Hw h w){b:Nat}{o:U6}(hb:h b=some o):b<w.heap.size:=hw.lt hb
def Gh.setBk(g:Gh)(t b:Nat):Gh:=⟨g.h,λL=>if L=t then b else g.bk L,g.sv,g.iv⟩
def Gh.setSv(g:Gh)(t:Nat)(v:Value):Gh:=⟨g.h,g.bk,λL=>if L=t then v else g.sv L,g.iv⟩
def Gh.setVv(g:Gh)(t:Nat)(v:Value)(iv:Nat->Value):Gh:=⟨g.h,g.bk,λL=>if L=t then v else g.sv L,λL=>if L=t then iv else g.iv L⟩
theorem cO.newBox(S:cO P nt B w0 h0 g σ a w){t ty:Nat}{cs:List Cl}{C:Array Value}(ht:lk σ.aB t=none)(hC:RL (jg g) cs C.toList)
    (Aq:∀M∈cs.flatMap bD,∃o,lk σ.aB M=some o) :
    cO P nt B w0 h0 (g.setBk t w.heap.size) {σ with aB:=(t,.box ty cs)::σ.aB} a (w.alloc (.cells C ty)):=by
  have ja:∀L o,lk σ.aB L=some o->L≠t:=λL o h e=>by subst e;rw[ht]at h;cases h
  have fF:∀L o,lk σ.aB L=some o->jb g (g.setBk t w.heap.size) L:=λL o h=>⟨by simp[Gh.setBk,ja L o h],rfl,rfl⟩;have hold:∀b,b<w.heap.size->(w.alloc (.cells C ty)).heap[b]? = w.heap[b]?:=λb hb=>heap_alloc_old w _ b hb;have kD:∀L o,lk ((t,AO.box ty cs)::σ.aB) L=some o->(L=t/\o=.box ty cs)\/(L≠t/\lk σ.aB L=some o):=by
    intro L o h;rw[aZ]at h;split at h
    · rename_i e;simp at h;exact .inl ⟨e.symm,h.symm⟩
    · rename_i e;exact .inr ⟨λe'=>e e'.symm,h⟩
  have iE:∀L o b,lk σ.aB L=some o->gW (g.setBk t w.heap.size) L o b->gW g L o b:=λL o b ho dh=>Eq.mp (jqw (gJ (fF L o ho)) _) dh;refine S.change (g':=g.setBk t w.heap.size) fF (λ_ _ h=>h) ?_ (λb o h=>.inl h) (xJ.of ⟨(Below.refl B w).alloc S.bs _,kC _⟩) ?_ ?_ ?_ ?_ ?_
  · exact S.hw.same λb o h=>hold b (vg S.hw h)
  · intro L o ho;rcases kD L o ho with ⟨rfl,rfl,rfl⟩ | ⟨_,ho⟩
    · refine⟨C,by show(w.alloc _).heap[(if _ then w.heap.size else _)]? = _;rw [eX rfl];exact heap_alloc_new w _,tN (g:=g) (g':=g.setBk _ w.heap.size) (fun M hM => ?_) (fun _ _ h=>h) hC⟩;obtain⟨o,ho⟩:=Aq M hM;exact fF M o ho
    · refine jS (S.obj L o ho) (fF L o ho) (fun M hM => ?_) (fun _ _ h=>h) (fun b dh=>hold b (iI (S.obj L o ho) dh));obtain⟨o',kQ⟩:=S.clO L o ho M hM;exact fF M o' kQ
  · intro L o b ho dh;rcases kD L o ho with ⟨rfl,rfl,rfl⟩ | ⟨_,ho⟩
    · simp [gW,Gh.setBk]at dh;subst dh;refine⟨S.bs,?_⟩;cases hh:g.h w.heap.size with
      | none=>exact hh
      | some x=>exact absurd (vg S.hw hh) omY
    · exact S.own L o b ho (iE L o b ho dh)
  · intro L o b L' o' ho kQ dh iy;rcases kD L o ho with ⟨rfl,rfl,rfl⟩ | ⟨hn,nV⟩ <;> rcases kD L' o' kQ with ⟨rfl,rfl,rfl⟩ | ⟨hn',nJ⟩
    · rfl
    · simp [gW,Gh.setBk]at dh;subst dh;exact absurd (iI (S.obj L' o' nJ) (iE _ _ _ nJ iy)) omY
    · simp [gW,Gh.setBk]at iy;subst iy;exact absurd (iI (S.obj L o nV) (iE _ _ _ nV dh)) omY
    · exact S.sep L o b L' o' nV nJ (iE _ _ _ nV dh) (iE _ _ _ nJ iy)
  · intro L o ho;refine⟨o,?_⟩;rw[aZ,fB (λe=>ja L o ho e.symm)];exact ho
  · intro L o ho M hM;have fin:∀ M o,lk σ.aB M=some o->∃ o',lk ((t,AO.box ty cs) :: σ.aB) M=some o':=λ M o h=>⟨o,by rw[aZ,fB (λ e=>ja M o h e.symm)];exact h⟩;rcases kD L o ho with ⟨rfl,rfl,rfl⟩ | ⟨_,ho⟩
    · obtain⟨o,ho⟩:=Aq M hM;exact fin M o ho
    · obtain⟨o',kQ⟩:=S.clO L o ho M hM;exact fin M o' kQ
theorem cO.newVec(S:cO P nt B w0 h0 g σ a w){t e s b n:Nat}{get:Nat→List PV}{v:Value}{w':World}(ht:lk σ.aB t=none)
    (hb:J3 B w w') (hold:∀b,b<w.heap.size->w'.heap[b]? = w.heap[b]?) (hv:∀b,v.ownBlock=some b->w.heap.size<=b)
    (hr:CJ P (g.setSv t v) w' B t e s b n get) :
    cO P nt B w0 h0 (g.setSv t v) {σ with aB:=(t,.vec e s b n get)::σ.aB} a w':=by
  have ja:∀L o,lk σ.aB L=some o->L≠t:=λL o h e=>by subst e;rw[ht]at h;cases h
  have fF:∀L o,lk σ.aB L=some o->jb g (g.setSv t v) L:=λL o h=>⟨rfl,by simp[Gh.setSv,ja L o h],rfl⟩;have kD:∀L o,lk ((t,AO.vec e s b n get)::σ.aB) L=some o->(L=t/\o=.vec e s b n get)\/(L≠t/\lk σ.aB L=some o):=by
    intro L o h;rw[aZ]at h;split at h
    · rename_i e;simp at h;exact .inl ⟨e.symm,h.symm⟩
    · rename_i e;exact .inr ⟨λe'=>e e'.symm,h⟩
  have iE:∀L o b,lk σ.aB L=some o->gW (g.setSv t v) L o b->gW g L o b:=λL o b ho dh=>Eq.mp (jqw (gJ (fF L o ho)) _) dh;have Ul:(g.setSv t v).sv t=v:=by simp[Gh.setSv]
  refine S.change (g':=g.setSv t v) fF (λ_ _ h=>h) ?_ (λb o h=>.inl h) (.of hb) ?_ ?_ ?_ ?_ ?_
  · exact S.hw.same λb o h=>hold b (vg S.hw h)
  · intro L o ho;rcases kD L o ho with ⟨rfl,rfl,rfl⟩ | ⟨_,ho⟩
    · exact hr
    · refine jS (S.obj L o ho) (fF L o ho) (fun M hM => ?_) (fun _ _ h=>h) (fun b dh=>hold b (iI (S.obj L o ho) dh));obtain⟨o',kQ⟩:=S.clO L o ho M hM;exact fF M o' kQ
  · intro L o b' ho dh;rcases kD L o ho with ⟨rfl,rfl,rfl⟩ | ⟨_,ho⟩
    · simp only [gW,Ul]at dh;have h1:=hv b' dh;refine⟨EW S.bs h1,?_⟩;cases hh:g.h b' with
      | none=>exact hh
      | some x=>exact absurd (vg S.hw hh) omY
    · exact S.own L o b' ho (iE L o b' ho dh)
  · intro L o b' L' o' ho kQ dh iy;rcases kD L o ho with ⟨rfl,rfl,rfl⟩ | ⟨hn,nV⟩ <;> rcases kD L' o' kQ with ⟨rfl,rfl,rfl⟩ | ⟨hn',nJ⟩
    · rfl
    · simp only [gW,Ul]at dh;have:=hv b' dh;exact absurd (iI (S.obj L' o' nJ) (iE _ _ _ nJ iy)) omY
    · simp only [gW,Ul]at iy;have:=hv b' iy;exact absurd (iI (S.obj L o nV) (iE _ _ _ nV dh)) omY
    · exact S.sep L o b' L' o' nV nJ (iE _ _ _ nV dh) (iE _ _ _ nJ iy)
  · intro L o ho;refine⟨o,?_⟩;rw[aZ,fB (λe=>ja L o ho e.symm)];exact ho
  · intro L o ho M hM;rcases kD L o ho with ⟨rfl,rfl,rfl⟩ | ⟨_,ho⟩
    · simp[dR]at hM
    · obtain⟨o',kQ⟩:=S.clO L o ho M hM;exact⟨o',by rw[aZ,fB (λe=>ja M o' kQ e.symm)];exact kQ⟩
theorem cO.write2(S:cO P nt B w0 h0 g σ a w){L:Nat}{o o':AO}{w':World}(hL:lk σ.aB L=some o)(ui:∀b,gW g L o' b→gW g L o b)
    (hb:J3 B w w') (qU:∀b,b<w.heap.size->¬gW g L o b->w'.heap[b]? = w.heap[b]?) (hr:NZ P g w' B L o') (Aq:∀M∈dR o',∃o,lk σ.aB M=some o) :
    cO P nt B w0 h0 g {σ with aB:=(L,o')::σ.aB} a w':=by
  have kD:∀M x,lk ((L,o')::σ.aB) M=some x->(M=L/\x=o')\/(M≠L/\lk σ.aB M=some x):=by
    intro M x h;rw[aZ]at h;split at h
    · rename_i e;simp at h;exact .inl ⟨e.symm,h.symm⟩
    · rename_i e;exact .inr ⟨λe'=>e e'.symm,h⟩
  have yh:∀M x,lk σ.aB M=some x->∃x',lk ((L,o')::σ.aB) M=some x':=by
    intro M x h;rw[aZ];split
    · exact⟨o',rfl⟩
    · exact⟨x,h⟩
  refine S.change (g':=g) (λ_ _ _=>⟨rfl,rfl,rfl⟩) (λ_ _ h=>h) ?_ (λb o h=>.inl h) (.of hb) ?_ ?_ ?_ yh ?_
  · exact S.hw.same λb x h=>qU b (vg S.hw h) (λe=>by have:=(S.own L o b hL e).2;rw[this]at h;cases h)
  · intro M x hx;rcases kD M x hx with ⟨rfl,rfl,rfl⟩ | ⟨ja,hx⟩
    · exact hr
    · exact jS (S.obj M x hx) ⟨rfl,rfl,rfl⟩ (λ_ _=>⟨rfl,rfl,rfl⟩) (λ_ _ h=>h) λb dh=>qU b (iI (S.obj M x hx) dh) λe=>ja (S.sep M x b L o hx hL dh e)
  · intro M x b hx dh;rcases kD M x hx with ⟨rfl,rfl,rfl⟩ | ⟨_,hx⟩
    · exact S.own M o b hL (ui b dh)
    · exact S.own M x b hx dh
  · intro M x b M' x' hx yB dh iy;rcases kD M x hx with ⟨rfl,rfl,rfl⟩ | ⟨_,OU⟩ <;> rcases kD M' x' yB with ⟨rfl,rfl,rfl⟩ | ⟨_,Zn⟩
    · rfl
    · exact S.sep M o b M' x' hL Zn (ui b dh) iy
    · exact S.sep M x b M' o OU hL dh (ui b iy)
    · exact S.sep M x b M' x' OU Zn dh iy
  · intro M x hx N hN;rcases kD M x hx with ⟨rfl,rfl,rfl⟩ | ⟨_,hx⟩
    · obtain⟨y,hy⟩:=Aq N hN;exact yh N y hy
    · obtain⟨y,hy⟩:=S.clO M x hx N hN;exact yh N y hy
theorem cO.write(S:cO P nt B w0 h0 g σ a w){L:Nat}{o o':AO}{w':World}(hL:lk σ.aB L=some o)(ui:∀b,gW g L o' b→gW g L o b)
    (hb:J3 B w w') (qU:∀b,¬gW g L o b->w'.heap[b]? = w.heap[b]?) (hr:NZ P g w' B L o') (Aq:∀M∈dR o',∃o,lk σ.aB M=some o) :
    cO P nt B w0 h0 g {σ with aB:=(L,o')::σ.aB} a w':=S.write2 hL ui hb (λb _=>qU b) hr Aq
theorem J6{L:Nat}{v:Value}:∀M,M≠L->jb g (g.setSv L v) M:=λM h=>⟨rfl,by simp[Gh.setSv,h],rfl⟩
theorem Zo{L:Nat}{v:Value}{iv:Nat->Value}:∀M,M≠L->jb g (g.setVv L v iv) M:=λM h=>⟨rfl,by simp[Gh.setVv,h],by simp[Gh.setVv,h]⟩
theorem cO.adopt(S:cO P nt B w0 h0 g σ a w){t e s b n:Nat}{get:Nat→List PV}{v:Value}(ht:lk σ.aB t=none)
    (hv:∀k,v.ownBlock=some k->B<=k/\g.h k=none/\∀L o,lk σ.aB L=some o->¬gW g L o k) (hr:CJ P (g.setSv t v) w B t e s b n get) :
    cO P nt B w0 h0 (g.setSv t v) {σ with aB:=(t,.vec e s b n get)::σ.aB} a w:=by
  have ja:∀L o,lk σ.aB L=some o->L≠t:=λL o h e=>by subst e;rw[ht]at h;cases h
  have fF:∀L o,lk σ.aB L=some o->jb g (g.setSv t v) L:=λL o h=>J6 L (ja L o h);have kD:∀L o,lk ((t,AO.vec e s b n get)::σ.aB) L=some o->(L=t/\o=.vec e s b n get)\/(L≠t/\lk σ.aB L=some o):=by
    intro L o h;rw[aZ]at h;split at h
    · rename_i e;simp at h;exact .inl ⟨e.symm,h.symm⟩
    · rename_i e;exact .inr ⟨λe'=>e e'.symm,h⟩
  have Ul:(g.setSv t v).sv t=v:=by simp[Gh.setSv]
  have iE:∀L o k,lk σ.aB L=some o->gW (g.setSv t v) L o k->gW g L o k:=λL o k ho h=>by rw[gJ (fF L o ho)]at h;exact h
  refine S.change (g':=g.setSv t v) fF (λ_ _ h=>h) S.hw (λb o h=>.inl h) (.refl _ B w) ?_ ?_ ?_ ?_ ?_
  · intro L o ho;rcases kD L o ho with ⟨rfl,rfl⟩ | ⟨_,ho⟩
    · exact hr
    · exact jS (S.obj L o ho) (fF L o ho) (λM hM=>by obtain⟨o',kQ⟩:=S.clO L o ho M hM;exact fF M o' kQ) (λ_ _ h=>h) λ_ _=>rfl
  · intro L o k ho hk;rcases kD L o ho with ⟨rfl,rfl⟩ | ⟨_,ho⟩
    · simp only[gW,Ul]at hk;exact⟨(hv k hk).1,(hv k hk).2.1⟩
    · exact S.own L o k ho (iE L o k ho hk)
  · intro L o k L' o' ho kQ hk jJ;rcases kD L o ho with ⟨rfl,rfl⟩ | ⟨_,nV⟩ <;> rcases kD L' o' kQ with ⟨rfl,rfl⟩ | ⟨_,nJ⟩
    · rfl
    · simp only[gW,Ul]at hk;exact((hv k hk).2.2 L' o' nJ (iE _ _ _ nJ jJ)).elim
    · simp only[gW,Ul]at jJ;exact((hv k jJ).2.2 L o nV (iE _ _ _ nV hk)).elim
    · exact S.sep L o k L' o' nV nJ (iE _ _ _ nV hk) (iE _ _ _ nJ jJ)
  · intro L o ho;refine⟨o,?_⟩;rw[aZ,fB (λe=>ja L o ho e.symm)];exact ho
  · intro L o ho M hM;rcases kD L o ho with ⟨rfl,rfl⟩ | ⟨_,ho⟩
    · simp[dR]at hM
    · obtain⟨o',kQ⟩:=S.clO L o ho M hM;exact⟨o',by rw[aZ,fB (λe=>ja M o' kQ e.symm)];exact kQ⟩
end
end Go.Pm
namespace Go.Pm
variable [aJ]
open Go.RowKit (Below)
abbrev mF:=List (Nat×AO)
abbrev PM(s:Nat)(ln:Nat->Nat)(get:Nat->Nat->List PV):Nat->List PV:=λi=>[.sl (ln i) s (get i)]
def zbu(ob:Nat->Option AO)(u:mF)(L:Nat)(o':AO):Prop :=
 (∃e s b n get,ob L=some (.vec e s b n get)/\o'=.fvec s n get) \/
 (∃ty cells l us,ob L=some (.box ty cells)/\o'=.fbox l/\nM ob cells=some (l,us)/\∀x∈us,x∈u) \/
 (∃te bb e s b n ln get,ob L=some (.vv te bb e s b n ln get)/\o'=.fvec 1 n (PM s ln get))
theorem zbu.mono{ob:Nat->Option AO}{u u':mF}{L:Nat}{o':AO}(h:zbu ob u L o')(hu:∀x∈u,x∈u'):zbu ob u' L o':=by
 rcases h with h|⟨ty,cells,l,us,h1,h2,h3,h4⟩|h
 ·exact .inl h
 ·exact .inr (.inl ⟨ty,cells,l,us,h1,h2,h3,λx hx=>hu x (h4 x hx)⟩)
 ·exact .inr (.inr h)
def fE(ob:Nat->Option AO)(u:mF):Prop:=∀x∈u,zbu ob u x.1 x.2
theorem fE.append{ob:Nat->Option AO}{u u':mF}(h:fE ob u)(h':fE ob u'):fE ob (u++u'):=by
 intro x hx;rcases dU.1 hx with hx|hx
 ·exact(h x hx).mono λy hy=>dU.2 (.inl hy)
 ·exact(h' x hx).mono λy hy=>dU.2 (.inr hy)
theorem fE.nil(ob:Nat->Option AO):fE ob []:=λx hx=>by simp at hx
section
variable{ob:Nat->Option AO}
theorem Ri{c:Cl}{v:PV}{u:mF}(h:Ae ob c=some (v,u)):fE ob u:=by
 unfold Ae at h;split at h
 ·simp only[bW,gy]at h;rw[<- h.2];exact fE.nil ob
 ·split at h
  ·rename_i e s b n get hL;simp at h;rw[<- h.2];intro x hx;simp at hx;subst hx;exact .inl ⟨_,_,_,_,_,hL,rfl⟩
  ·simp only[bW,gy]at h;rw[<- h.2];exact fE.nil ob
  ·rename_i te bb e s b n ln get hL;simp only[bW,gy]at h;rw[<- h.2];intro x hx;simp only[mg]at hx;subst hx;exact .inr (.inr ⟨_,_,_,_,_,_,_,_,hL,rfl⟩)
  ·cases h
 ·cases h
theorem J7:∀{cs:List Cl}{l:List PV}{u:mF},jE ob cs=some (l,u)→fE ob u
  | [],l,u,h=>by simp[jE]at h;rw[h.2];exact fE.nil ob
  | c::cs,l,u,h=>by
    simp only[jE]at h;split at h
    · rename_i v u1 l2 u2 h1 h2;simp at h;rw[<- h.2];exact(Ri h1).append (J7 h2)
    · cases h
theorem zwg{c:Cl}{x:PV×mF}(h:Ae ob c=some x):Oo ob c=some x:=by
 cases c<;>first|exact h|cases h
theorem Rj:∀{cs:List Cl}{x:List PV×mF},jE ob cs=some x→nM ob cs=some x
  | [],x,h=>h
  | c::cs,x,h=>by
    simp only[jE]at h;split at h
    · rename_i v u1 l2 u2 h1 h2;simp only[nM,zwg h1,Rj h2];exact h
    · cases h
theorem zne{c:Cl}{v:PV}{u:mF}(h:Oo ob c=some (v,u)):fE ob u:=by
 unfold Oo at h;split at h
 ·split at h
  ·rename_i L off ty cells hL;split at h
   ·rename_i l us hl;simp at h;rw[<- h.2];intro x hx;rcases dU.1 hx with hx | hx
    ·exact(J7 hl x hx).mono λy hy=>dU.2 (.inl hy)
    ·simp at hx;subst hx;exact .inr (.inl ⟨_,_,_,_,hL,rfl,Rj hl,λy hy=>dU.2 (.inl hy)⟩)
   ·cases h
  ·simp only[bW,gy]at h;rw[<- h.2];exact fE.nil ob
  ·cases h
 ·exact Ri h
theorem Vh:∀{cs:List Cl}{l:List PV}{u:mF},nM ob cs=some (l,u)→fE ob u
  | [],l,u,h=>by simp[nM]at h;rw[h.2];exact fE.nil ob
  | c::cs,l,u,h=>by
    simp only[nM]at h;split at h
    · rename_i v u1 l2 u2 h1 h2;simp at h;rw[<- h.2];exact(zne h1).append (Vh h2)
    · cases h
theorem zbv{c:Cl}{v:PV}{u:mF}(h:JD ob c=some (v,u)):fE ob u:=by
 unfold JD at h;split at h
 ·split at h
  ·rename_i L off ty cells hL;split at h
   ·rename_i l us hl;simp at h;rw[<- h.2];intro x hx;rcases dU.1 hx with hx | hx
    ·exact(Vh hl x hx).mono λy hy=>dU.2 (.inl hy)
    ·simp at hx;subst hx;exact .inr (.inl ⟨_,_,_,_,hL,rfl,hl,λy hy=>dU.2 (.inl hy)⟩)
   ·cases h
  ·simp only[bW,gy]at h;rw[<- h.2];exact fE.nil ob
  ·cases h
 ·exact Ri h
theorem Vj:∀{cs:List Cl}{l:List PV}{u:mF},tC ob cs=some (l,u)→fE ob u
  | [],l,u,h=>by simp[tC]at h;rw[h.2];exact fE.nil ob
  | c::cs,l,u,h=>by
    simp only[tC]at h;split at h
    · rename_i v u1 l2 u2 h1 h2;simp at h;rw[<- h.2];exact(zbv h1).append (Vj h2)
    · cases h
theorem Zp{c:Cl}{v:PV}{u:mF}(h:frz ob c=some (v,u)):fE ob u:=by
 unfold frz at h;split at h
 ·split at h
  ·rename_i l us hl;simp only[bW,gy]at h;rw[<- h.2];exact Vj hl
  ·cases h
 ·exact zbv h
theorem Ja:∀{cs:List Cl}{l:List PV}{u:mF},ul ob cs=some (l,u)→fE ob u
  | [],l,u,h=>by simp[ul]at h;rw[h.2];exact fE.nil ob
  | c::cs,l,u,h=>by
    simp only[ul]at h;split at h
    · rename_i v u1 l2 u2 h1 h2;simp at h;rw[<- h.2];exact(Zp h1).append (Ja h2)
    · cases h
theorem CQ{d:DV}{v:PA}{u:mF}(h:Af ob d=some (v,u)):fE ob u:=by
 unfold Af at h;split at h
 ·split at h
  ·rename_i v' u' h1;simp at h;rw[<- h.2];exact Zp h1
  ·cases h
 ·split at h
  ·rename_i v' u' h1;simp at h;rw[<- h.2];exact Ja h1
  ·cases h
 ·cases h
theorem yM:∀{cs:List DV}{l:List PA}{u:mF},iD ob cs=some (l,u)→fE ob u
  | [],l,u,h=>by simp[iD]at h;rw[h.2];exact fE.nil ob
  | c::cs,l,u,h=>by
    simp only[iD]at h;split at h
    · rename_i v u1 l2 u2 h1 h2;simp at h;rw[<- h.2];exact(CQ h1).append (yM h2)
    · cases h
end
structure fK (g : Gh) (ob : Nat → Option AO) (u : mF) (h' : Fz) : Prop where
  le:jV g.h h'
  vec:∀L e s b n get,ob L=some (.vec e s b n get)->(L,AO.fvec s n get)∈u->Rep h' (.sl n s get) (g.sv L)
  fvec:∀L s n get,ob L=some (.fvec s n get)->Rep h' (.sl n s get) (g.sv L)
  vv:∀L te bb e s b n ln get,ob L=some (.vv te bb e s b n ln get)->(L,AO.fvec 1 n (PM s ln get))∈u->Rep h' (.sl n 1 (PM s ln get)) (g.sv L)
  box:∀L ty cells l us,ob L=some (.box ty cells)->nM ob cells=some (l,us)->(∀x∈us,x∈u)->(L,AO.fbox l)∈u->∃C,h' (g.bk L)=some (.fz (.cells C ty (0,0)))/\RL (Rep h') l C.toList
  fbox:∀L l,ob L=some (.fbox l)->∃C ty fr,h' (g.bk L)=some (.fz (.cells C ty fr))/\RL (Rep h') l C.toList
  new:∀b,g.h b=none->∀o,h' b=some o->∃L x o',(L,o')∈u/\ob L=some x/\gW g L x b
section
variable{g:Gh}{ob:Nat->Option AO}{u:mF}{h':Fz}
theorem fK.rep0(F:fK g ob u h'){c:Cl}{v:PV}{us:mF}{x:Value}(h:Ae ob c=some (v,us))(hu:∀y∈us,y∈u)(hc:jg g c x):Rep h' v x:=by
 unfold Ae at h;split at h
 ·simp at h;rw[<- h.1];exact Rep.mono F.le hc
 ·split at h
  ·rename_i L _x e s b n get hL;simp at h;rw[<- h.1];rw[<- h.2]at hu;obtain⟨rfl,_⟩:=hc;exact F.vec L e _ b n get hL (hu _ (by simp))
  ·rename_i L _x s n get hL;simp at h;rw[<- h.1];obtain⟨rfl,_⟩:=hc;exact F.fvec L _ n get hL
  ·rename_i L _x te bb e s b n ln get hL;simp only[bW,gy]at h;rw[<- h.1];rw[<- h.2]at hu;obtain⟨rfl,_⟩:=hc;exact F.vv L te bb e s b n ln get hL (hu _ (by simp))
  ·cases h
 ·cases h
theorem fK.repL0(F:fK g ob u h'):∀{cs:List Cl}{l:List PV}{us:mF}{vs:List Value},jE ob cs=some (l,us)→(∀y∈us,y∈u)→RL (jg g) cs vs→RL (Rep h') l vs
  | [],l,us,vs,h,hu,hc=>by
    simp[jE]at h;rw[h.1];cases vs with
    | nil=>trivial
    | cons=>exact hc.elim
  | c::cs,l,us,[],h,hu,hc=>hc.elim
  | c::cs,l,us,v::vs,h,hu,hc=>by
    simp only[jE]at h;split at h
    · rename_i v1 u1 l2 u2 h1 h2;simp at h;rw[<- h.1];rw[<- h.2]at hu;exact⟨F.rep0 h1 (λy hy=>hu y (dU.2 (.inl hy))) hc.1,F.repL0 h2 (λy hy=>hu y (dU.2 (.inr hy))) hc.2⟩
    · cases h
theorem Rk{h:Fz}{b:Nat}{C:Array Value}{ty:TypeId}{fr:Nat×Nat}{l:List PV}(hb:h b=some (.fz (.cells C ty fr)))(hr:RL (Rep h) l C.toList)(off:Nat) :
    Rep h (.fp l off) (.pointer (some ⟨b,off,none⟩)):=by
  have := Rep.fp (h := h) l off b 0 C ty fr (fun j => C.getD j undef) hb
    (λj x hj=>by
      obtain⟨v,hv,_⟩:=hr.get j x hj;have AX:C[j]? = some v:=by simpa using hv
      simp[xX,AX])
    (λj x hj=>by
      obtain⟨v,hv,hx⟩:=hr.get j x hj;have AX:C[j]? = some v:=by simpa using hv
      simpa [xX,AX]using hx)
  simpa using this
theorem fK.repA(F:fK g ob u h'){c:Cl}{v:PV}{us:mF}{x:Value}(h:JD ob c=some (v,us))(hu:∀y∈us,y∈u)(hc:jg g c x):Rep h' v x:=by
 unfold JD at h;split at h
 ·split at h
  ·rename_i L off _x ty cells hL;split at h
   ·rename_i l us' hl;simp at h;rw[<- h.1];rw[<- h.2]at hu;obtain⟨C,hC,hr⟩:=F.box L ty cells l us' hL hl (λy hy=>hu y (dU.2 (.inl hy))) (hu _ (by simp));simp only[jg]at hc;rw[hc];exact Rk hC hr off
   ·cases h
  ·rename_i L off _x l hL;simp at h;rw[<- h.1];obtain⟨C,ty,fr,hC,hr⟩:=F.fbox L l hL;simp only[jg]at hc;rw[hc];exact Rk hC hr off
  ·cases h
 ·exact F.rep0 h hu hc
theorem fK.repAL(F:fK g ob u h'):∀{cs:List Cl}{l:List PV}{us:mF}{vs:List Value},tC ob cs=some (l,us)→(∀y∈us,y∈u)→RL (jg g) cs vs→RL (Rep h') l vs
  | [],l,us,vs,h,hu,hc=>by
    simp[tC]at h;rw[h.1];cases vs with
    | nil=>trivial
    | cons=>exact hc.elim
  | c::cs,l,us,[],h,hu,hc=>hc.elim
  | c::cs,l,us,v::vs,h,hu,hc=>by
    simp only[tC]at h;split at h
    · rename_i v1 u1 l2 u2 h1 h2;simp at h;rw[<- h.1];rw[<- h.2]at hu;exact⟨F.repA h1 (λy hy=>hu y (dU.2 (.inl hy))) hc.1,F.repAL h2 (λy hy=>hu y (dU.2 (.inr hy))) hc.2⟩
    · cases h
theorem fK.rep(F:fK g ob u h'){c:Cl}{v:PV}{us:mF}{x:Value}(h:frz ob c=some (v,us))(hu:∀y∈us,y∈u)(hc:jg g c x):Rep h' v x:=by
 unfold frz at h;split at h
 ·rename_i f caps;split at h
  ·rename_i l us' hl;simp only[bW,gy]at h;obtain⟨rfl,rfl⟩:=h;obtain⟨cv,rfl,hr⟩:=hc;have hr2:RL (jg g) (caps.map zdq) cv:=RL.map_left.2 (hr.mono λc y hy=>by
    cases c with
    | v p=>exact hy
    | b L=>exact hy)
   have hl2:=F.repAL hl hu hr2;exact .fn f [] l [] cv rfl hl2.length (λi x y hx _=>by simp at hx) (λi x y hx hy=>by obtain⟨v,hv,hr3⟩:=hl2.get i x hx;rw[hv]at hy;exact YR hy▸hr3)
  ·cases h
 ·exact F.repA h hu hc
theorem fK.repL(F:fK g ob u h'):∀{cs:List Cl}{l:List PV}{us:mF}{vs:List Value},ul ob cs=some (l,us)→(∀y∈us,y∈u)→RL (jg g) cs vs→RL (Rep h') l vs
  | [],l,us,vs,h,hu,hc=>by
    simp[ul]at h;rw[h.1];cases vs with
    | nil=>trivial
    | cons=>exact hc.elim
  | c::cs,l,us,[],h,hu,hc=>hc.elim
  | c::cs,l,us,v::vs,h,hu,hc=>by
    simp only[ul]at h;split at h
    · rename_i v1 u1 l2 u2 h1 h2;simp at h;rw[<- h.1];rw[<- h.2]at hu;exact⟨F.rep h1 (λy hy=>hu y (dU.2 (.inl hy))) hc.1,F.repL h2 (λy hy=>hu y (dU.2 (.inr hy))) hc.2⟩
    · cases h
theorem fK.repD(F:fK g ob u h'){d:DV}{v:PA}{us:mF}{x:Value}(h:Af ob d=some (v,us))(hu:∀y∈us,y∈u)(hc:rH g d x):nU h' v x:=by
 unfold Af at h;split at h
 ·split at h
  ·rename_i v' u' h1;simp at h;rw[<- h.1];rw[<- h.2]at hu;exact F.rep h1 hu hc
  ·cases h
 ·split at h
  ·rename_i v' u' h1;simp at h;rw[<- h.1];rw[<- h.2]at hu;obtain⟨vs,rfl,hr⟩:=hc;exact⟨vs,rfl,F.repL h1 hu hr⟩
  ·cases h
 ·cases h
theorem fK.repDs(F:fK g ob u h'):∀{ds:List DV}{l:List PA}{us:mF}{vs:List Value},iD ob ds=some (l,us)→(∀y∈us,y∈u)→RL (rH g) ds vs→RL (nU h') l vs
  | [],l,us,vs,h,hu,hc=>by
    simp[iD]at h;rw[h.1];cases vs with
    | nil=>trivial
    | cons=>exact hc.elim
  | c::cs,l,us,[],h,hu,hc=>hc.elim
  | c::cs,l,us,v::vs,h,hu,hc=>by
    simp only[iD]at h;split at h
    · rename_i v1 u1 l2 u2 h1 h2;simp at h;rw[<- h.1];rw[<- h.2]at hu;exact⟨F.repD h1 (λy hy=>hu y (dU.2 (.inl hy))) hc.1,F.repDs h2 (λy hy=>hu y (dU.2 (.inr hy))) hc.2⟩
    · cases h
end
theorem fM{α:Type}{l:List (Nat×α)}{n:Nat}{a:α}(h:lk l n=some a):(n,a)∈l:=by
 induction l with
 | nil=>simp[lk]at h
 | cons x l ih =>
  obtain⟨k,y⟩:=x;rw[aZ]at h;split at h
  ·rename_i e;simp at h;subst h;subst e;exact lq
  ·exact jU _ (ih h)
theorem Rl{α:Type}{l:List (Nat×α)}{n:Nat}(h:lk l n=none):∀a,(n,a)∉l:=by
 induction l with
 | nil=>intro a h;simp at h
 | cons x l ih =>
  obtain⟨k,y⟩:=x;rw[aZ]at h;split at h
  ·cases h
  ·rename_i e;intro a ha;rcases kR.1 ha with h1 | h1
   ·simp at h1;exact e h1.1.symm
   ·exact ih h a h1
theorem yN{g:Gh}{w:World}{B e s n:Nat}{v:Value}{get:Nat→List PV}{h':Fz}{xs:List Value}(hu:ut get)(hs:0<s)(hx:w.ownsRow B e s v n xs)
    (hr:∀i,i<n->RL (Rep g.h) (get i) ((xs.drop (i*s)).take s)) (hle:jV g.h h') (hb:∀k,v.ownBlock=some k->h' k=(w.heap[k]?).map .fz):Rep h' (.sl n s get) v:=by
  rcases hx.2 with⟨h1,rfl⟩|⟨k,cap,cur,h1,hB,hg,hn,kE,jO,htk⟩
  · rw[h1];exact .sl0 s get hu
  · rw [h1]at hb ⊢;have hk:=hb k rfl;rw[hg]at hk;simp only[QU]at hk;have hlen:∀i,i<n->(get i).length=s:=by
      intro i hi;rw[(hr i hi).length];simp only[qdH,Y8,hx.1];have:i*s+s<=n*s:=by have:=QX s (qdw hi);rw[Ur]at this;exact this
      omega
    have nS:∀i j x,i<n->(get i)[j]? = some x->∃v,cur[i*s+j]? = some v/\Rep g.h x v:=by
      intro i j x hi hj;obtain⟨v,hv,xQ⟩:=(hr i hi).get j x hj;refine⟨v,?_,xQ⟩;have hjs:j<s:=by
        have:=(AY.1 hj).1;rw[hlen i hi]at this;exact this
      rw[I4,eX hjs,qdr,<- htk,I4]at hv;split at hv
      · simpa using hv
      · cases hv
    refine .sl n s get hu k 0 cap cur e (0,0) (λi j=>cur.getD (i*s+j) undef) hk hn hlen ?_ ?_
    · intro i j x hi hj;obtain⟨v,hv,_⟩:=nS i j x hi hj;rw[NV,xX,hv];rfl
    · intro i j x hi hj;obtain⟨v,hv,xQ⟩:=nS i j x hi hj;simp only[xX,hv,qd0];exact xQ.mono hle
theorem znf{P:Program}{g:Gh}{w:World}{B L e s b n:Nat}{get:Nat→List PV}{h':Fz}(hv:CJ P g w B L e s b n get)(hle:jV g.h h')
    (hb:∀k,(g.sv L).ownBlock=some k->h' k=(w.heap[k]?).map .fz):Rep h' (.sl n s get) (g.sv L):=by
  obtain⟨hs,_,xs,hx,hr⟩:=hv;exact yN hs.1 hs.2 hx hr hle hb
theorem zwh{P:Program}{g:Gh}{w:World}{B L te bb e s b n:Nat}{ln:Nat→Nat}{get:Nat→Nat→List PV}{h':Fz}(hv:vvR P g w B L te bb e s b n ln get)(hle:jV g.h h')
    (hb:∀k,gW g L (.vv te bb e s b n ln get) k->h' k=(w.heap[k]?).map .fz):Rep h' (.sl n 1 (PM s ln get)) (g.sv L):=by
  obtain⟨hs,_,_,h4,h5,_⟩:=hv;refine yN (g:=⟨h',g.bk,g.sv,g.iv⟩) (λi j=>⟨ut.sl (λk l=>hs.1 i k j l) _ _ _,trivial⟩) (by decide) h4 ?_ (λ_ _ h=>h) λk hk=>hb k (.inl hk);intro i hi;have e1:(((List.range n).map (g.iv L)).drop (i*1)).take 1=[g.iv L i]:=by
    apply qdq;intro j;rw[I4];cases j with
    | zero=>simp[hi]
    | succ j=>simp
  rw[e1];obtain⟨_,_,xs,hx,hr⟩:=h5 i hi;exact⟨yN (λj k=>hs.1 i j i k) hs.2 hx hr hle λk hk=>hb k (.inr ⟨i,hi,hk⟩),trivial⟩
open Classical in
theorem cO.freeze{P:Program}{nt B:Nat}{w0:World}{h0:Fz}{g:Gh}{σ:St}{a:Act}{w:World}(S:cO P nt B w0 h0 g σ a w){u:mF}(hu:fE (lk σ.aB) u) :
  ∃h',cO P nt B w0 h0 ⟨h',g.bk,g.sv,g.iv⟩ {σ with aB:=u++σ.aB} a w/\fK g (lk σ.aB) u h':=by
 let inU:Nat->Prop:=λb=>∃L o o',(L,o')∈u/\lk σ.aB L=some o/\gW g L o b;let h':Fz:=λb=>if inU b then(w.heap[b]?).map .fz else g.h b;have hle:jV g.h h':=by
  intro b o hb;show(if inU b then(w.heap[b]?).map .fz else g.h b)=some o;split
  ·rename_i h;obtain⟨L,x,o',_,hL,dh⟩:=h;rw[(S.own L x b hL dh).2]at hb;cases hb
  ·exact hb
 have hin:∀b,inU b->h' b=(w.heap[b]?).map .fz:=λb hb=>eX hb;have EI:∀b,¬inU b->h' b=g.h b:=λb hb=>fB hb;have F1:∀L e s b n get,lk σ.aB L=some (.vec e s b n get)->(L,AO.fvec s n get)∈u->Rep h' (.sl n s get) (g.sv L):=by
  intro L e s b n get hL hm;exact znf (S.obj L _ hL) hle λk hk=>hin k ⟨L,_,_,hm,hL,hk⟩
 have F3:∀L te bb e s b n ln get,lk σ.aB L=some (.vv te bb e s b n ln get)->(L,AO.fvec 1 n (PM s ln get))∈u->Rep h' (.sl n 1 (PM s ln get)) (g.sv L):=by
  intro L te bb e s b n ln get hL hm;exact zwh (S.obj L _ hL) hle λk hk=>hin k ⟨L,_,_,hm,hL,hk⟩
 have F2:∀L s n get,lk σ.aB L=some (.fvec s n get)->Rep h' (.sl n s get) (g.sv L):=λL s n get hL=>Rep.mono hle (S.obj L _ hL).1;have F0:fK g (lk σ.aB) u h':=by
  have Fpre:∀{cs:List Cl}{l:List PV}{us:mF}{vs:List Value},jE (lk σ.aB) cs=some (l,us)->(∀y∈us,y∈u)->RL (jg g) cs vs->RL (Rep h') l vs:=by
   intro cs
   induction cs with
   | nil =>
    intro l us vs h _ hc;simp[jE]at h;rw[h.1];cases vs with
    | nil=>trivial
    | cons=>exact hc.elim
   | cons c cs ih =>
    intro l us vs h NL hc;cases vs with
    | nil=>exact hc.elim
    | cons v vs =>
     simp only[jE]at h;split at h
     ·rename_i v1 u1 l2 u2 h1 h2;simp at h;rw[<- h.1];rw[<- h.2] at NL;refine⟨?_,ih h2 (λ y hy=>NL y (dU.2 (.inr hy))) hc.2⟩;have hu1:∀ y∈u1,y∈u:=λ y hy=>NL y (dU.2 (.inl hy));have EH:=hc.1;unfold Ae at h1;split at h1
      ·simp at h1;rw[<- h1.1];exact Rep.mono hle EH
      ·split at h1
       ·rename_i L _x e s b n get hL;simp at h1;rw[<- h1.1];rw[<- h1.2]at hu1;obtain⟨rfl,_⟩:=EH;exact F1 L e _ b n get hL (hu1 _ (by simp))
       ·rename_i L _x s n get hL;simp at h1;rw[<- h1.1];obtain⟨rfl,_⟩:=EH;exact F2 L _ n get hL
       ·rename_i L _x te bb e s b n ln get hL;simp only[bW,gy]at h1;rw[<- h1.1];rw[<- h1.2]at hu1;obtain⟨rfl,_⟩:=EH;exact F3 L te bb e s b n ln get hL (hu1 _ (by simp))
       ·cases h1
      ·cases h1
     ·cases h
  have Fbox:∀L l,lk σ.aB L=some (.fbox l)->∃C ty fr,h' (g.bk L)=some (.fz (.cells C ty fr))/\RL (Rep h') l C.toList:=by
   intro L l hL;obtain⟨C,ty,fr,hC,hr⟩:=S.obj L _ hL;exact⟨C,ty,fr,hle _ _ hC,hr.mono λ_ _=>Rep.mono hle⟩
  have FpreB:∀{cs:List Cl}{l:List PV}{us:mF}{vs:List Value},nM (lk σ.aB) cs=some (l,us)->(∀y∈us,y∈u)->RL (jg g) cs vs->RL (Rep h') l vs:=by
   intro cs
   induction cs with
   | nil =>
    intro l us vs h _ hc;simp[nM]at h;rw[h.1];cases vs with
    | nil=>trivial
    | cons=>exact hc.elim
   | cons c cs ih =>
    intro l us vs h NL hc;cases vs with
    | nil=>exact hc.elim
    | cons v vs =>
     simp only[nM]at h;split at h
     ·rename_i v1 u1 l2 u2 h1 h2;simp at h;rw[<- h.1];rw[<- h.2] at NL;refine⟨?_,ih h2 (λ y hy=>NL y (dU.2 (.inr hy))) hc.2⟩;have hu1:∀ y∈u1,y∈u:=λ y hy=>NL y (dU.2 (.inl hy));have EH:=hc.1;have low:Ae (lk σ.aB) c=some (v1,u1)->Rep h' v1 v:=λ h0=>(Fpre (cs:=[c]) (l:=[v1]) (us:=u1) (vs:=[v]) (by simp[jE,h0]) hu1 ⟨EH,trivial⟩).1;unfold Oo at h1;split at h1
      ·split at h1
       ·rename_i L off _x ty cells hL;split at h1
        ·rename_i l' us' hl;simp at h1;rw[<- h1.1];rw[<- h1.2]at hu1;obtain⟨C,hC,hr⟩:=S.obj L _ hL;have hm:(L,AO.fbox l')∈u:=hu1 _ (by simp);have hk:h' (g.bk L)=some (.fz (.cells C ty (0,0))):=by
          rw[hin (g.bk L) ⟨L,_,_,hm,hL,rfl⟩,hC];rfl
         simp only[jg]at EH;rw[EH];exact Rk hk (Fpre hl (λy hy=>hu1 y (dU.2 (.inl hy))) hr) off
        ·cases h1
       ·rename_i L off _x l' hL;simp at h1;rw[<- h1.1];obtain⟨C,ty,fr,hC,hr⟩:=Fbox L l' hL;simp only[jg]at EH;rw[EH];exact Rk hC hr off
       ·cases h1
      ·exact low h1
     ·cases h
  refine⟨hle,F1,F2,F3,?_,?_,λb hb o ho=>?_⟩
  rotate_left 2
  ·by_cases h : inU b
   ·obtain⟨L,x,o',h1,h2,h3⟩:=h;exact⟨L,x,o',h1,h2,h3⟩
   ·rw[EI b h,hb]at ho;cases ho
  ·intro L ty cells l us hL hl NL hm;obtain⟨C,hC,hr⟩:=S.obj L _ hL;refine⟨C,?_,FpreB hl NL hr⟩;rw[hin (g.bk L) ⟨L,_,_,hm,hL,rfl⟩,hC];rfl
  ·exact Fbox
 refine⟨h',?_,F0⟩;have kD:∀L o,lk (u++σ.aB) L=some o->((L,o)∈u)\/((∀o',(L,o')∉u)/\lk σ.aB L=some o):=by
  intro L o h;rw[gX]at h;cases hL:lk u L with
  | some x=>simp only[hL]at h;simp at h;subst h;exact .inl (fM hL)
  | none=>simp only[hL]at h;exact .inr ⟨Rl hL,h⟩
 have hfr:∀L o b,(L,o)∈u->¬gW (⟨h',g.bk,g.sv,g.iv⟩:Gh) L o b:=by
  intro L o b h;rcases hu _ h with⟨e,s,b,n,get,_,h2⟩|⟨ty,cells,l,us,_,h2,_⟩|⟨te,bb,e,s,b,n,ln,get,_,h2⟩<;>(simp only at h2;rw[h2];exact id)
 have iE:∀L o,gW (⟨h',g.bk,g.sv,g.iv⟩:Gh) L o=gW g L o:=λL o=>gJ (g:=g) (g':=⟨h',g.bk,g.sv,g.iv⟩) ⟨rfl,rfl,rfl⟩;have yh:∀L o,lk σ.aB L=some o->∃o',lk (u++σ.aB) L=some o':=by
  intro L o h;rw[gX];cases lk u L with
  | some x=>exact⟨x,rfl⟩
  | none=>exact⟨o,h⟩
 refine S.change (g':=⟨h',g.bk,g.sv,g.iv⟩) (λ_ _ _=>⟨rfl,rfl,rfl⟩) hle ?_ ?_ (.refl _ B w) ?_ ?_ ?_ yh ?_
 ·intro b o hb;have mf:h' b=some o:=hb;by_cases h:inU b
  ·rw [hin b h]at mf;obtain⟨x,hx,rfl⟩:=YQ.1 mf;exact⟨x,hx,rfl⟩
  ·rw[EI b h]at mf;exact S.hw b o mf
 ·intro b o hb;by_cases h:inU b
  ·obtain⟨L,x,o',hm,hL,dh⟩:=h;exact .inr (S.own L x b hL dh).1
  ·have mf:h' b=some o:=hb;rw[EI b h]at mf;exact .inl mf
 ·intro L o ho;rcases kD L o ho with hm | ⟨hn,ho⟩
  ·rcases hu _ hm with ⟨e, s, b, n, get, h1, h2⟩ | ⟨ty, cells, l, us, h1, h2, h3, h4⟩ | ⟨te, bb, e, s, b, n, ln, get, h1, h2⟩
   ·simp only at h1 h2; rw [h2]; rw [h2] at hm;refine⟨F0.vec L e s b n get h1 hm,?_⟩;obtain⟨_,_,xs,hx,_⟩:=S.obj L _ h1;intro x m c hv;show x.off=0;have AX:g.sv L=.slice (some x) m c:=hv;rcases hx.2 with ⟨h5,_⟩ | ⟨k,cap,cur,h5,_⟩
    ·rw[h5]at AX;simp at AX
    ·rw[h5]at AX;simp at AX;rw[<- AX.1]
   ·simp only at h1 h2;rw [h2];rw [h2]at hm;obtain⟨C,hC,hr⟩:=F0.box L ty cells l us h1 h3 h4 hm;exact⟨C,ty,(0,0),hC,hr⟩
   ·simp only at h1 h2; rw [h2]; rw [h2] at hm;refine⟨F0.vv L te bb e s b n ln get h1 hm,?_⟩;obtain⟨_,_,_,hx,_⟩:=S.obj L _ h1;intro x m c hv;show x.off=0;have AX:g.sv L=.slice (some x) m c:=hv;rcases hx.2 with ⟨h5,_⟩ | ⟨k,cap,cur,h5,_⟩
    ·rw[h5]at AX;simp at AX
    ·rw[h5]at AX;simp at AX;rw[<- AX.1]
  ·exact jS (S.obj L o ho) ⟨rfl,rfl,rfl⟩ (λ_ _=>⟨rfl,rfl,rfl⟩) hle λ_ _=>rfl
 ·intro L o b ho dh;rcases kD L o ho with hm | ⟨hn,ho⟩
  ·exact(hfr L o _ hm dh).elim
  ·rw [iE]at dh;obtain⟨h1,h2⟩:=S.own L o b ho dh;refine⟨h1,?_⟩;show h' b=none;rw[EI b ?_];exact h2;rintro⟨M,x,o',hm,hM,iy⟩;have:=S.sep L o b M x ho hM dh iy;subst this;exact hn o' hm
 ·intro L o b L' o' ho kQ dh iy;rcases kD L o ho with hm | ⟨_,nV⟩
  ·exact(hfr L o _ hm dh).elim
  rcases kD L' o' kQ with hm|⟨_,nJ⟩
  ·exact(hfr L' o' _ hm iy).elim
  rw[iE]at dh iy;exact S.sep L o b L' o' nV nJ dh iy
 ·intro L o ho M hM;rcases kD L o ho with hm | ⟨_,nV⟩
  ·rcases hu _ hm with⟨e,s,b,n,get,_,h2⟩|⟨ty,cells,l,us,_,h2,_⟩|⟨te,bb,e,s,b,n,ln,get,_,h2⟩<;>(simp only at h2;rw[h2]at hM;simp[dR]at hM)
  ·obtain⟨x,hx⟩:=S.clO L o nV M hM;exact yh M x hx
end Go.Pm
namespace Go.Pm
variable [aJ]
open Go.RowKit (Below)
def aC.safe:aC→Prop
  | .no=>False
  | .val _ _ _ _=>True
  | .chk _ s _ _ _=>s.p
def oq(A:aC)(i:Nat)(dst:Option Nat)(σ σ':St):Prop :=
 match A with
 | .no=>False
 | .val fp d u kl=>σ'=σ.upd i dst fp d u kl
 | .chk fp _ d u kl=>σ'=σ.upd i dst fp d u kl
theorem FB{A:aC}{lg:List (Nat×Bool)→List Nat→List (Nat×Nat×Nat)}{i:Nat}{dst:Option Nat}{K:St→Prop}{σ:St} :
  nN A lg i dst K σ↔A.safe/\∀σ',oq A i dst σ σ'->K (σ'.relog (match A with | .val fp _ _ kl=>lg fp kl | .chk fp _ _ _ kl=>lg fp kl | .no=>[])):=by
 cases A with
 | no=>simp[nN,aC.safe]
 | val fp d u kl=>simp[nN,aC.safe,oq]
 | chk fp s d u kl=>simp[nN,aC.safe,oq]
def FR(r:Option Nat):Fence:={fn:=λ_=>True,depth:=none,alive:=false,round:=r}
theorem J8{r:Option Nat}{n:Nat}{P:Program}{f:FuncId}{args:Array Value}{w:World}{R:Ending->World->Prop}(h:Calls P f args w R):CallsIn (FR r) n P f args w R :=
 (callsIn_wide (n:=n)).2 h
section
variable{P:Program}{r:Option Nat}{n:Nat}{o:Oper}{a:Act}{w:World}{R:Act->World->Prop}{Q:Exit->Act->World->Prop}
theorem put_defers(a:Act)(dst:Option Nat)(v:Value):(a.put dst v).defers=a.defers:=by cases dst<;>rfl
theorem pV(zC:∀c,o.op ≠ .defer c){v:Value}{w':World}(h:(execOp a.eval o).run P w=.ok (.value v) w')(hR:R (a.put o.dst v) w'):o.wpIn (FR r) n P a w (λa' w'=>a'.defers=a.defers/\R a' w') Q:=by
 refine⟨λ_ _=>trivial,?_⟩;rw[Oper.semAt_eq _ _ _ zC,h,Oper.uponIn_value];exact⟨put_defers _ _ _,hR⟩
theorem Jb(zC:∀c,o.op ≠ .defer c){w':World}(h:(execOp a.eval o).run P w=.ok .skip w')(hR:R (a.put o.dst undef) w'):o.wpIn (FR r) n P a w (λa' w'=>a'.defers=a.defers/\R a' w') Q:=by
 refine⟨λ_ _=>trivial,?_⟩;rw[Oper.semAt_eq _ _ _ zC,h,Oper.uponIn_skip];exact⟨put_defers _ _ _,hR⟩
theorem rM(zC:∀c,o.op ≠ .defer c){f:FuncId}{args:Array Value}{w':World}(h:(execOp a.eval o).run P w = .ok (.enter f args) w')
    (hR:Calls P f args w' λe zZ=>∃v,e=.returned v/\R (a.put o.dst v) zZ):o.wpIn (FR r) n P a w (λa' w'=>a'.defers=a.defers/\R a' w') Q:=by
  refine⟨λ_ _=>trivial,?_⟩;rw[Oper.semAt_eq _ _ _ zC,h,Oper.uponIn_enter];refine⟨λh=>by simp[FR]at h,(J8 hR).mono ?_⟩;rintro e zZ ⟨v,rfl,hv⟩;exact⟨put_defers _ _ _,hv⟩
end
section
variable{P:Program}{nt B:Nat}{w0:World}{h0:Fz}{g:Gh}{σ:St}{a:Act}{w:World}
theorem zdD{v:Value}:rH g (Po v) v:=by
 unfold Po;split
 ·split
  ·rename_i l hl;exact⟨_,rfl,kP _ _ hl⟩
  ·trivial
 ·split
  ·rename_i x hx;exact J5 hx
  ·trivial
theorem cO.ev(S:cO P nt B w0 h0 g σ a w)(x:Operand):rH g (fU σ.env x) (a.eval x):=by
 cases x with
 | tmp t =>
  simp only[fU];split
  ·rename_i d hd;exact S.env t d hd
  ·trivial
 | const v=>exact zdD
 | global k=>trivial
 | func f=>exact Rep.fn f [] [] [] [] rfl rfl (λj x v h=>by simp at h) (λj x v h=>by simp at h)
theorem wH:∀{l:List Value}{cs:List Cl},jC l=some cs→cs.flatMap bD=[]
  | [],cs,h=>by simp[jC]at h;rw[h];rfl
  | v::r,cs,h=>by
    simp only[jC]at h;split at h
    · rename_i x l hx hl;simp only[bW]at h;rw[<- h];simp[bD,wH hl]
    · cases h
theorem zdE{v:Value}:df (Po v)=[]:=by
 unfold Po;split
 ·split
  ·rename_i l hl;exact wH hl
  ·rfl
 ·split
  ·rfl
  ·rfl
theorem cO.evLab(S:cO P nt B w0 h0 g σ a w)(x:Operand):∀L∈df (fU σ.env x),∃o,lk σ.aB L=some o:=by
 cases x with
 | tmp t =>
  simp only[fU];split
  ·rename_i d hd;exact S.clE t d hd
  ·intro L hL;simp[df,dE,bD]at hL
 | const v=>intro L hL;rw[show fU σ.env (.const v)=Po v from rfl,zdE]at hL;simp at hL
 | global k=>intro L hL;simp[fU,DV.junk,df,dE,bD]at hL
 | func f=>intro L hL;simp[fU,df,dE,bD]at hL
theorem dO{r:Option Nat}{n i:Nat}{o:Oper}{Q:Exit→Act→World→Prop}(S:cO P nt B w0 h0 g σ a w)(hd:dJ nt o.dst=true)(zC:∀c,o.op ≠ .defer c)
    {d:DV} {v:Value} {fp:List (Nat×Bool)} {A:aC} (hA:oq A i o.dst σ (σ.upd i o.dst fp d [] []))
    (h:(execOp a.eval o).run P w=.ok (.value v) w) (hv:rH g d v) (hl:∀L∈df d,∃o,lk σ.aB L=some o) :
    o.wpIn (FR r) n P a w (λa' w'=>a'.defers=a.defers/\∃g' σ',oq A i o.dst σ σ'/\cO P nt B w0 h0 g' σ' a' w') Q :=
  pV zC h ⟨g,_,hA,by rw[gm];exact S.put hd hv hl _⟩
theorem kH(v:PV):∀L∈df (.p v),∃o,lk σ.aB L=some o:=λL hL=>by simp[df,dE,bD]at hL
theorem J9{t:TypeId}{ag:Bool}{m b off:Nat}{C:Array Value}{ty:TypeId}{fr:Nat×Nat}{cells:List Cl}{d:D1}(hg:jD P t=some ag)(hs:qA P t=some m)
    (hb:w.heap[b]? = some (.cells C ty fr)) (o:Nat) (hc:∀(j:Nat)(x:Cl),cells[j]? = some x->∃v,C[o+j]? = some v/\jg g x v) (hr:nX ag m cells off=some d) :
    ∃v,(loadVar t ⟨b,o+off,none⟩).run P w=.ok v w/\AA g d v:=by
  cases ag with
  | true =>
    simp only[nX]at hr;split at hr
    · rename_i hlen;have hlen:=kL hlen;simp only[bW]at hr;subst hr;let l:=(cells.drop off).take m;have hll:l.length=m:=hlen;have key:∀(j:Nat)(x:Cl),l[j]? = some x->∃v,C[o+off+j]? = some v/\jg g x v:=by
        intro j x hj;have qI:cells[off+j]? = some x:=by
          have hjm:j<m:=by have:=(AY.1 hj).1;omega
          simp only[l,I4,eX hjm,qdr]at hj;exact hj
        obtain⟨v,hv,hx⟩:=hc (off+j) x qI;exact⟨v,by rw[qjP];exact hv,hx⟩
      let vs:=(List.range m).map λj=>C.getD (o+off+j) undef;have hvl:vs.length=m:=by simp[vs]
      have hvj:∀j,j<m->vs[j]? = some (C.getD (o+off+j) undef):=λj hj=>by simp[vs,hj]
      refine⟨.agg vs.toArray,IL hg hs hb vs hvl ?_,vs,rfl,?_⟩
      · intro j v hj;have hjm:j < m:=by have:=(AY.1 hj).1;omega
        rw[hvj j hjm]at hj;simp only[bW]at hj;obtain⟨u,hu,_⟩:=key j (l[j]'omY) (by simp[hll,hjm]);rw[<- hj,hu,xX,hu];rfl
      · refine RL.of_get (by rw [hvl]; exact hll) ?_;intro j x v hx hv;obtain⟨u,hu,Yt⟩:=key j x hx;have hjm:j < m:=by have:=(AY.1 hv).1;omega
        rw[hvj j hjm,xX,hu]at hv;simp at hv;rw[<- hv];exact Yt
    · cases hr
  | false =>
    simp only[nX]at hr;split at hr
    · rename_i x hx;simp only[bW]at hr;subst hr;obtain⟨v,hv,xQ⟩:=hc off x hx;exact⟨v,xK hg hb v hv,xQ⟩
    · cases hr
theorem Ko{ag:Bool}{m off:Nat}{cells:List Cl}{d:D1}(hr:nX ag m cells off=some d):∀L∈dE d,L∈cells.flatMap bD:=by
 cases ag with
 | true =>
  simp only[nX]at hr;split at hr
  ·simp only [bW]at hr;subst hr;intro L hL;simp only[dE,lK]at hL ⊢;obtain⟨c,hc,hL⟩:=hL;exact⟨c,qzk (qzl hc),hL⟩
  ·cases hr
 | false =>
  simp only[nX]at hr;split at hr
  ·rename_i x hx;simp only[bW]at hr;subst hr;intro L hL;simp only[dE]at hL;exact lK.2 ⟨x,JB hx,hL⟩
  ·cases hr
theorem ou(cells:List PV):(cells.map Cl.p).flatMap bD=[]:=by
 induction cells with
 | nil=>rfl
 | cons c r ih=>simp[bD,ih]
theorem Rn{h:Fz}{cells:List PV}{off:Nat}{v:Value}(r:Rep h (.fp cells off) v):∃b o C ty fr,v=.pointer (some ⟨b,o+off,none⟩)/\h b=some (.fz (.cells C ty fr)) /\
  ∀(j:Nat)(x:PV),cells[j]? = some x->∃v,C[o+j]? = some v/\Rep h x v:=by
 cases r with
 | fp _ _ b o C ty fr vs hb hc hr=>exact⟨b,o,C,ty,fr,rfl,hb,λj x hj=>⟨vs j,hc j x hj,hr j x hj⟩⟩
theorem vk{B L e s b len:Nat}{get:Nat→List PV}(hv:CJ P g w B L e s b len get){i:Nat}(hi:i<len) :
  ∃k C,(g.sv L).ownBlock=some k/\(∃cap,g.sv L=.slice (some ⟨k,0,none⟩) len cap)/\w.heap[k]? = some (.cells C e (0,0))/\i*s+s<=C.size/\(get i).length=s /\
   ∀(j:Nat)(x:PV),(get i)[j]? = some x->∃v,C[i*s+j]? = some v/\Rep g.h x v:=by
 obtain⟨hs,_,xs,hx,hr⟩:=hv;rcases hx.2 with⟨_,rfl⟩|⟨k,cap,cur,h1,hB,hg,hn,kE,jO,htk⟩
 ·exact absurd hi omY
 ·have hle : i * s + s ≤ len * s := by have := QX s (qdw hi); rw [Ur] at this; exact this
  have zsI:len*s<=cap*s:=QX s hn;have hlen:(get i).length=s:=by
   rw[(hr i hi).length];simp only[qdH,Y8,hx.1];omega
  refine⟨k,cur,by rw[h1];rfl,⟨cap,h1⟩,hg,omY,hlen,?_⟩;intro j x hj;obtain⟨v,hv,xQ⟩:=(hr i hi).get j x hj;refine⟨v,?_,xQ⟩;have hjs:j<s:=by have:=(AY.1 hj).1;rw[hlen]at this;exact this
  rw[I4,eX hjs,qdr,<- htk,I4]at hv;split at hv
  ·simpa using hv
  ·cases hv
theorem Vk{B L te bb e s b n:Nat}{ln:Nat→Nat}{get:Nat→Nat→List PV}(hv:vvR P g w B L te bb e s b n ln get){i:Nat}(hi:i<n) :
  ∃k C cap,g.sv L=.slice (some ⟨k,0,none⟩) n cap/\w.heap[k]? = some (.cells C te (0,0))/\C[i]? = some (g.iv L i)/\(g.iv L i).oneCell'=true:=by
 obtain⟨_,_,_,h4,h5,_⟩:=hv;rcases h4.2 with⟨h1,h2⟩|⟨k,cap,cur,h1,hB,hg,hn,kE,jO,htk⟩
 ·omega
 ·refine ⟨k, cur, cap, h1, hg, ?_, (h5 i hi).1⟩;have:(cur.toList.take (n * 1))[i]? = ((List.range n).map (g.iv L))[i]?:=by rw[htk]
  rw[I4,eX omY]at this;simpa [hi]using this
theorem Vl{B L te bb e s b n o:Nat}{ln:Nat→Nat}{get:Nat→Nat→List PV}(hv:vtR P g w B L te bb e s b n ln get o){i:Nat}(hi:i<n) :
  ∃k C cap,g.sv L=.slice (some ⟨k,0,none⟩) n cap/\w.heap[k]? = some (.cells C te (0,0))/\C[i]? = some (g.iv L i):=by
 obtain⟨_,_,_,h4,_⟩:=hv;rcases h4.2 with⟨h1,h2⟩|⟨k,cap,cur,h1,hB,hg,hn,kE,jO,htk⟩
 ·omega
 ·refine ⟨k, cur, cap, h1, hg, ?_⟩;have:(cur.toList.take (n * 1))[i]? = ((List.range n).map (g.iv L))[i]?:=by rw[htk]
  rw[I4,eX omY]at this;simpa [hi]using this
theorem Rq{h:Fz}{len s:Nat}{get:Nat→List PV}{v:Value}(r:Rep h (.sl len s get) v){i:Nat}(hi:i<len) :
  ∃b o cap C ty fr,v=.slice (some ⟨b,o,none⟩) len cap/\h b=some (.fz (.cells C ty fr))/\(get i).length=s /\
   ∀(j:Nat)(x:PV),(get i)[j]? = some x->∃v,C[o+i*s+j]? = some v/\Rep h x v:=by
 cases r with
 | sl0=>exact absurd hi omY
 | sle=>exact absurd hi omY
 | sl _ _ _ _ b o cap C ty fr vs hb kE hlen hc hr=>exact⟨b,o,cap,C,ty,fr,rfl,hb,hlen i hi,λj x hj=>⟨vs i j,hc i j x hi hj,hr i j x hi hj⟩⟩
theorem Jc{h:Fz}{b o:Nat}{C:Array Value}{ty:TypeId}{fr:Nat×Nat}{l:List PV}(hb:h b=some (.fz (.cells C ty fr)))
    (hr:∀(j:Nat)(x:PV),l[j]? = some x->∃v,C[o+j]? = some v/\Rep h x v) (off:Nat):Rep h (.fp l off) (.pointer (some ⟨b,o+off,none⟩)) :=
  Rep.fp l off b o C ty fr (fun j => C.getD (o + j) undef) hb
    (λj x hj=>by obtain⟨v,hv,_⟩:=hr j x hj;rw[xX,hv];rfl)
    (λj x hj=>by obtain⟨v,hv,hx⟩:=hr j x hj;simpa [xX,hv]using hx)
end
end Go.Pm
namespace Go.Pm
variable [aJ]
open Go.RowKit (Below)
section
variable{P:Program}{Γ:bU}{nt B:Nat}{w0:World}{h0:Fz}{g:Gh}{σ:St}{a:Act}{w:World}{r:Option Nat}{n i:Nat}{Q:Exit->Act->World->Prop}
def jo(P:Program)(nt B:Nat)(w0:World)(h0:Fz)(r:Option Nat)(n i:Nat)(o:Oper)(A:aC)(σ:St)(a:Act)(w:World)(Q:Exit->Act->World->Prop):Prop :=
 o.wpIn (FR r) n P a w (λa' w'=>a'.defers=a.defers/\∃g' σ',oq A i o.dst σ σ'/\cO P nt B w0 h0 g' σ' a' w') Q
theorem iJ{x:Operand}{c:Cl}(S:cO P nt B w0 h0 g σ a w)(h:fU σ.env x=.one (.c c)):jg g c (a.eval x)/\∀L∈bD c,∃o,lk σ.aB L=some o:=by
 have h1:=S.ev x;have h2:=S.evLab x;rw[h]at h1 h2;exact⟨h1,h2⟩
theorem jF{x:Operand}{v:PV}(S:cO P nt B w0 h0 g σ a w)(h:fU σ.env x=.one (.c (.p v))):Rep g.h v (a.eval x):=(iJ S h).1
theorem kw{x:Operand}{k:IntKind}{m:Int}(S:cO P nt B w0 h0 g σ a w)(h:fU σ.env x=.one (.c (.p (.int k m)))):a.eval x=.int k m:=by
 have:=jF S h;generalize a.eval x=v at this;cases this;rfl
theorem vz{x:Operand}{m:Bool}(S:cO P nt B w0 h0 g σ a w)(h:fU σ.env x=.one (.c (.p (.bool m)))):a.eval x=.bool m:=by
 have:=jF S h;generalize a.eval x=v at this;cases this;rfl
theorem Vm{o:Oper}{x:Operand}(S:cO P nt B w0 h0 g σ a w)(hd:dJ nt o.dst=true)(bu:o.op = .move x∨o.op = .assign x) :
  jo P nt B w0 h0 r n i o (.val [] (fU σ.env x) [] []) σ a w Q:=by
 refine dO S hd (by rcases bu with h|h<;>simp[h]) (d:=fU σ.env x) (v:=a.eval x) (fp:=[]) rfl ?_ (S.ev x) (S.evLab x);rcases bu with h|h<;>simp[execOp,h]
theorem Vo{b:Bool}{x y:DV}{v u:Value}(h1:rH g x v)(h2:rH g y u):rH g (Az b x y) (if b=true then v else u):=by
 unfold Az;split
 ·rename_i p q;have e1:v=.bool p:=by cases h1;rfl
  have e2:u=.bool q:=by cases h2;rfl
  subst e1 e2;cases b<;>exact Rep.bool _
 ·cases b
  ·simpa using h2
  ·simpa using h1
theorem zdF{b:Bool}{x y:DV}:∀L∈df (Az b x y),L∈df x\/L∈df y:=by
 unfold Az;split
 ·intro L hL;simp[df,dE,bD]at hL
 ·intro L hL;cases b
  ·exact .inr hL
  ·exact .inl hL
theorem zg8{o:Oper}{c x y:Operand}(S:cO P nt B w0 h0 g σ a w)(hd:dJ nt o.dst=true)(bu:o.op = .pick c x y){t:Bool}(hc:fU σ.env c = .one (.c (.p (.bool t)))) :
  jo P nt B w0 h0 r n i o (.val [] (Az t (fU σ.env x) (fU σ.env y)) [] []) σ a w Q:=by
 have hb:=vz S hc;refine dO S hd (by simp[bu]) (d:=Az t (fU σ.env x) (fU σ.env y)) (v:=if t=true then a.eval x else a.eval y) (fp:=[]) rfl ?_ (Vo (S.ev x) (S.ev y)) ?_
 ·simp[execOp,bu,asBool,hb]
 ·intro L hL;rcases zdF L hL with h | h
  ·exact S.evLab x L h
  ·exact S.evLab y L h
theorem Kq(e:TypeId)(v:Value):(newVar e v).run P w=.ok ⟨w.heap.size,0,none⟩ (w.alloc (.cells v.cells e)):=by
 simp[newVar,newRow]
theorem zbw{o:Oper}{A:aC}{e:Nat}{cs:List Cl}{v:Value}(S:cO P nt B w0 h0 g σ a w)(hd:dJ nt o.dst=true)(zC:∀c,o.op ≠ .defer c)
    (hA:Fg (lk σ.aB) o.dst (.box e cs) (λt=>.cl (.ptr t 0))=A) (hs:A.safe)
    (dA:(execOp a.eval o).run P w=.ok (.value (.pointer (some ⟨w.heap.size,0,none⟩))) (w.alloc (.cells v.cells e)))
    (hv:RL (jg g) cs v.cells.toList) (hl:∀L∈cs.flatMap bD,∃o,lk σ.aB L=some o):jo P nt B w0 h0 r n i o A σ a w Q:=by
  unfold Fg at hA;split at hA
  · rename_i t ht;split at hA
    · rename_i kD;subst hA;have S':=S.newBox (ty:=e) kD hv hl;refine pV zC dA ⟨g.setBk t w.heap.size,_,rfl,?_⟩;rw[gm];refine S'.put (σ:={ σ with aB:=(t,AO.box e cs) :: σ.aB }) hd (d:=.cl (.ptr t 0)) ?_ ?_ _
      · simp[rH,AA,jg,Gh.setBk]
      · intro L hL;simp[df,dE,bD]at hL;subst hL;exact⟨_,by rw[aZ,eX rfl]⟩
    · subst hA;exact hs.elim
  · subst hA;exact hs.elim
theorem Vp{l:List Value}{cs:List Cl}(h:jC l=some cs)(L:Nat)(hL:L∈cs.flatMap bD):False:=by
 rw[wH h]at hL;simp at hL
theorem zdG{o:Oper}{A:aC}{e:Nat}{z:List Cl}(S:cO P nt B w0 h0 g σ a w)(hd:dJ nt o.dst=true)(bu:o.op = .alloc e)(hz:gV P e=some z)
    (hA:Fg (lk σ.aB) o.dst (.box e z) (λt=>.cl (.ptr t 0))=A) (hs:A.safe):jo P nt B w0 h0 r n i o A σ a w Q:=by
  obtain⟨ii,v,hi,GM,hl,_⟩:=lS hz;refine zbw S hd (by simp[bu]) hA hs (v:=v) ?_ (kP _ _ hl) (λL hL=>(Vp hl L hL).elim);simp only[execOp,bu,Instr.alloc,Sem.run_bind,lD hi GM,Result.andThen_ok,Kq,Sem.run_pure]
theorem zng{o:Oper}{A:aC}{e:Nat}{x:Operand}{d:D1}(S:cO P nt B w0 h0 g σ a w)(hd:dJ nt o.dst=true)(bu:o.op = .box e x)(hx:fU σ.env x = .one d)
    (gp:d.cells.all Ci=true) (hA:Fg (lk σ.aB) o.dst (.box e d.cells) (λt=>.cl (.ptr t 0))=A) (hs:A.safe):jo P nt B w0 h0 r n i o A σ a w Q:=by
  have h1:=S.ev x;have h2:=S.evLab x;rw[hx]at h1 h2;refine zbw S hd (by simp[bu]) hA hs (v:=a.eval x) ?_ (ve h1 gp) ?_
  · simp only[execOp,bu,Instr.box,Sem.run_bind,Kq,Result.andThen_ok,Sem.run_pure]
  · intro L hL;refine h2 L ?_;cases d with
    | c y=>simpa [D1.cells,df,dE]using hL
    | agg cs=>simpa [D1.cells,df,dE]using hL
theorem zdH{o:Oper}{t:Nat}{parts:Array (Nat×Operand)}{z l:List Cl}(S:cO P nt B w0 h0 g σ a w)(hd:dJ nt o.dst=true)(bu:o.op = .build t parts)
    (hf:yF P t=true) (hz:gV P t=some z) (hb:iH P t (fU σ.env) z parts.toList=some l) (hl:∀L∈l.flatMap bD,∃o,lk σ.aB L=some o) :
    jo P nt B w0 h0 r n i o (.val [] (.one (.agg l)) [] []) σ a w Q:=by
  obtain⟨v,dA,hv⟩:=run_build (P:=P) (w:=w) (g:=g) (ρ:=a.eval) (ev:=fU σ.env) (λx=>S.ev x) hf hz hb;refine dO S hd (by simp[bu]) (d:=.one (.agg l)) (v:=v) (fp:=[]) rfl ?_ hv hl;simp only[execOp,bu,Sem.run_bind,dA,Result.andThen_ok,Sem.run_pure]
theorem zbx{cs l:List Cl}(off:Nat):∀L∈(spl cs off l).flatMap bD,L∈cs.flatMap bD\/L∈l.flatMap bD:=by
 induction l generalizing cs off with
 | nil=>intro L hL;exact .inl hL
 | cons x l ih =>
  intro L hL;rw[spl]at hL;rcases ih (off+1) L hL with h|h
  ·simp only [lK] at h;obtain⟨c,hc,hL2⟩:=h;rcases qdn hc with h | h
   ·exact .inl (lK.2 ⟨c,h,hL2⟩)
   ·subst h;exact .inr (by simp only[oK,dU];exact .inl hL2)
  ·exact .inr (by simp only[oK,dU];exact .inr h)
theorem Kr{ev:Operand->DV}{t:TypeId}:∀(parts:List (Nat×Operand))(z l:List Cl),iH P t ev z parts=some l ->
  ∀L∈l.flatMap bD,L∈z.flatMap bD\/∃x∈parts,L∈df (ev x.2)
 | [],z,l,h=>by simp[iH]at h;subst h;exact λL hL=>.inl hL
 | (i,o)::r,z,l,h=>by
  simp only[iH]at h;cases he:ev o with
  | tup ds=>simp[he]at h
  | one d =>
   simp only[he]at h;have step:∀off,iH P t ev (spl z off d.cells) r=some l->∀L∈l.flatMap bD,L∈z.flatMap bD\/∃x∈(i,o)::r,L∈df (ev x.2):=by
    intro off hb L hL;rcases Kr r _ l hb L hL with h|⟨x,hx,hL⟩
    ·rcases zbx off L h with h | h
     ·exact .inl h
     ·refine .inr ⟨(i,o),lq,?_⟩;simp only[he,df];cases d with
      | c y=>simpa [D1.cells,dE]using h
      | agg cs=>simpa [D1.cells,dE]using h
    ·exact .inr ⟨x,jU _ hx,hL⟩
   split at h
   ·split at h
    ·split at h
     ·split at h
      ·exact step _ h
      ·cases h
     ·cases h
    ·cases h
   ·split at h
    ·split at h
     ·exact step _ h
     ·cases h
    ·cases h
   ·cases h
theorem PN{t:TypeId}{z:List Cl}(h:gV P t=some z):z.flatMap bD=[]:=by
 obtain⟨_,v,_,_,hl,_⟩:=lS h;exact wH hl
theorem yO{o:Oper}{t:TypeId}{x:Operand}{A:aC}{fp:List (Nat×Bool)}{ag:Bool}{m b off o':Nat}{C:Array Value}{ty:TypeId}{fr:Nat×Nat}{cells:List Cl}{d:D1}
    (S:cO P nt B w0 h0 g σ a w) (hd:dJ nt o.dst=true) (bu:o.op=.load t x) (hA:oq A i o.dst σ (σ.upd i o.dst fp (.one d) [] [])) (hg:jD P t=some ag) (hs:qA P t=some m)
    (hx:a.eval x=.pointer (some ⟨b,o'+off,none⟩)) (hb:w.heap[b]? = some (.cells C ty fr))
    (hc:∀(j:Nat)(x:Cl),cells[j]? = some x->∃v,C[o'+j]? = some v/\jg g x v) (hr:nX ag m cells off=some d)
    (hl:∀L∈cells.flatMap bD,∃o,lk σ.aB L=some o):jo P nt B w0 h0 r n i o A σ a w Q:=by
  obtain⟨v,dA,hv⟩:=J9 hg hs hb o' hc hr;refine dO S hd (by simp[bu]) (d:=.one d) (v:=v) (fp:=fp) hA ?_ hv (λL hL=>hl L (Ko hr L hL));simp only[execOp,bu,Sem.run_bind,Instr.loadAt,hx,Instr.sureAddr,Sem.run_pure,Result.andThen_ok,dA]
theorem zg9{o:Oper}{t:TypeId}{x:Operand}{A:aC}(S:cO P nt B w0 h0 g σ a w)(hd:dJ nt o.dst=true)(bu:o.op = .load t x)
    (hA:act P Γ o (fU σ.env) (lk σ.aB)=A) (hs:A.safe):jo P nt B w0 h0 r n i o A σ a w Q:=by
  simp only[act,aLd,bu]at hA;split at hA
  · rename_i ag m hg jO;split at hA
    · rename_i L off hx;have yB:=(iJ S hx).1;simp only[jg] at yB;split at hA
      · rename_i ty cells hL;obtain⟨C,hC,hr⟩:=S.obj L _ hL;split at hA
        · rename_i d hrd;subst hA;refine yO (o':=0) S hd bu rfl hg jO (by rw[yB,NV]) hC (λj y hj=>?_) hrd (S.clO L _ hL);obtain⟨v,hv,QI⟩:=hr.get j y hj;exact⟨v,by simpa using hv,QI⟩
        · subst hA;exact hs.elim
      · rename_i cells hL;obtain⟨C,ty,fr,hC,hr⟩:=S.obj L _ hL;split at hA
        · rename_i d hrd;subst hA;refine yO (o':=0) S hd bu rfl hg jO (by rw[yB,NV]) (S.hw.fz hC) (λj y hj=>?_) hrd (by rw[ou];intro L hL;simp at hL);simp only[qdc]at hj;obtain⟨p,hp,rfl⟩:=YQ.1 hj;obtain⟨v,hv,QI⟩:=hr.get j p hp;exact⟨v,by simpa using hv,QI⟩
        · subst hA;exact hs.elim
      · subst hA;exact hs.elim
    · rename_i cells off hx;obtain⟨b,o',C,ty,fr,hv,hb,hc⟩:=Rn (jF S hx);split at hA
      · rename_i d hrd;subst hA;refine yO S hd bu rfl hg jO hv (S.hw.fz hb) (λj y hj=>?_) hrd (by rw[ou];intro L hL;simp at hL);simp only[qdc]at hj;obtain⟨p,hp,rfl⟩:=YQ.1 hj;exact hc j p hp
      · subst hA;exact hs.elim
    · rename_i L s ii k hx;obtain⟨b,hb,yB⟩:=(iJ S hx).1;split at hA
      · rename_i e s' OT len get hL;split at hA
        · rename_i d OQ hrd;subst hA;have iC:ii<len:=hs;have OQ:=kL OQ;subst OQ;obtain⟨b',C,dh,_,hC,_,hlen,GR⟩:=vk (S.obj L _ hL) iC;rw[hb]at dh;simp only[bW]at dh;subst dh;refine yO (o':=ii*s) S hd bu (A:=.chk _ _ _ _ _) rfl hg jO yB hC (λj y hj=>?_) hrd (by rw[ou];intro L hL;simp at hL);simp only[qdc]at hj;obtain⟨p,hp,rfl⟩:=YQ.1 hj;exact GR j p hp
        · subst hA;exact hs.elim
      · rename_i s' len get hL;split at hA
        · rename_i d OQ hrd;subst hA;have iC:ii<len:=hs;have OQ:=kL OQ;subst OQ;obtain⟨b',o',cap,C,ty,fr,l9,hC,hlen,GR⟩:=Rq (S.obj L _ hL).1 iC;have h00:o'=0:=(S.obj L _ hL).2 _ _ _ l9;rw[l9]at hb;simp only[Value.ownBlock,bW]at hb;subst hb;subst h00;refine yO (o':=ii*s) S hd bu (A:=.chk _ _ _ _ _) rfl hg jO yB (S.hw.fz hC) (λj y hj=>?_) hrd (by rw[ou];intro L hL;simp at hL);simp only[qdc]at hj;obtain⟨p,hp,rfl⟩:=YQ.1 hj;have:=GR j p hp;rwa[NV]at this
        · subst hA;exact hs.elim
      · split at hA
        · rename_i OQ;simp only[gG] at OQ;have hs1:=kL OQ.1;have hk0:=kL OQ.2;subst hs1 hk0;split at hA
          · rename_i dst GL;split at hA
            · rename_i te bb e s' b2 len ln get ig hL;subst hA;have iC:ii < len:=hs;obtain⟨b',C,cap,l9,hC,nS,lU⟩:=Vk (S.obj L _ hL) iC;rw[l9] at hb;simp only[Value.ownBlock,bW] at hb;subst hb;have ja:L ≠ dst:=by rintro rfl;rw[ig] at hL;cases hL
              obtain⟨iF,hi1,hi2,zlG,GR,IR⟩:=S.obj L _ hL;obtain⟨r1,_,xs,r3,r4⟩:=GR ii iC
              have S1 := S.write (o' := .vt te bb e s' b2 len ln get ii) hL (fun k hk => hk.imp id fun ⟨i, h1, _, h2⟩ => ⟨i, h1, h2⟩) (.refl _ _) (fun _ _ => rfl)
                ⟨iF,hi1,hi2,zlG,r1,(λk (hk:g.iv L ii=.map (some k))=>by rcases r3.2 with⟨h1,_⟩|⟨_,_,_,h1,_⟩<;>rw[h1]at hk<;>cases hk),λi hi _=>GR i hi,λi k hi _ hk=>⟨(IR i k hi hk).1,λj hj _ jJ=>(IR i k hi hk).2 j hj jJ⟩⟩ (λM hM=>by simp[dR]at hM)
              have S2:=S1.adopt (t:=dst) (e:=e) (s:=s') (b:=b2) (n:=ln ii) (get:=get ii) (v:=g.iv L ii) (by rw[aZ,fB ja];exact ig) (λk hk=>by
                have gp:=S.own L _ k hL (.inr ⟨ii,iC,hk⟩);refine⟨gp.1,gp.2,λX o ho hX=>?_⟩;rw[aZ]at ho;split at ho
                · rename_i e1;simp only[bW] at ho;subst ho e1;rcases hX with hX | ⟨i,h1,h2,h3⟩
                  · exact(IR ii k iC hk).1 hX
                  · exact h2 ((IR ii k iC hk).2 i h1 h3).symm
                · rename_i e1;exact e1 (S.sep L _ k X o hL ho (.inr ⟨ii,iC,hk⟩) hX))
                ⟨⟨λk l=>iF.1 ii k ii l,iF.2⟩,hi2,xs,by simpa [Gh.setSv]using r3,r4⟩
              refine pV (by simp[bu]) (v:=g.iv L ii) (w':=w) ?_ ⟨g.setSv dst (g.iv L ii),_,rfl,?_⟩
              · have:=xK (P:=P) (o:=ii*1+0) hg hC (g.iv L ii) (by simpa using nS);simp only[execOp,bu,Sem.run_bind,Instr.loadAt,yB,Instr.sureAddr,Sem.run_pure,Result.andThen_ok,this]
              · rw [gm];exact S2.put hd (d:=.cl (.vec dst)) ⟨by simp[Gh.setSv],r1⟩ (λM hM=>by simp[df,dE,bD]at hM;subst hM;exact⟨_,by rw[aZ,eX rfl]⟩) _
            · subst hA;exact hs.elim
          · subst hA;exact hs.elim
        · subst hA;exact hs.elim
      · subst hA;exact hs.elim
    · subst hA;exact hs.elim
  · subst hA;exact hs.elim
end
end Go.Pm
namespace Go.Pm
variable [aJ]
open Go.RowKit (Below)
open Go.MapKept (IsKey findNow_spec run_checkKey)
section
variable{P:Program}{Γ:bU}{nt B:Nat}{w0:World}{h0:Fz}{g:Gh}{σ:St}{a:Act}{w:World}{r:Option Nat}{n i:Nat}{Q:Exit->Act->World->Prop}
theorem CS{t:TypeId}{ag:Bool}{m off:Nat}{cells:List Cl}{vs:List Value}{d:D1}(hg:jD P t=some ag)(hs:qA P t=some m)(hr:nX ag m cells off=some d)(hc:RL (jg g) cells vs) :
  ∃v,(part t vs.toArray off).run P w=.ok v w/\AA g d v:=by
 cases ag with
 | true =>
  simp only[nX]at hr;split at hr
  ·simp only [bW] at hr; subst hr;refine⟨.agg (vs.toArray.extract off (off+m)),?_,(vs.drop off).take m,?_,(hc.drop off).take m⟩
   ·simp only[part,Sem.run_bind,oh hg,Result.andThen_ok,Pn,run_sizeOf hs,Sem.run_pure]
   ·simp[qzm,jqY]
  ·cases hr
 | false =>
  simp only[nX]at hr;split at hr
  ·rename_i x hx;simp only[bW]at hr;subst hr;obtain⟨v,hv,xQ⟩:=hc.get off x hx;refine⟨v,?_,xQ⟩;simp only[part,Sem.run_bind,oh hg,Result.andThen_ok,qdE,qjr];rw[show vs.toArray[off]? = some v by simpa using hv];simp
  ·cases hr
theorem zby:∀(d:Nat)(t:TypeId)(x y:D1)(r:Bool),eqT P d t x y=some r→∀(e:Nat)(v u:Value),AA g x v→AA g y u→(Op.equalIn (d+e) t v u).run P w = .ok r w
  | 0,t,x,y,r,h=>by simp[eqT]at h
  | d+1,t,x,y,r,h=>by
    intro e v u hv hu;have he:d+1+e=(d+e)+1:=by omega
    rw[he];simp only[eqT]at h;split at h
    · rename_i hut;split at h
      · simp only [bW]at h;subst h;cases hv;cases hu;exact run_equalIn_bool' w _ _ _ _ hut
      · cases h
    · rename_i q hut;split at h
      · split at h
        · rename_i hk;simp only[bW]at h;subst h;subst hk;cases hv;cases hu;exact run_equalIn_int w _ _ _ _ _ _ hut
        · cases h
      · cases h
    · rename_i fs hut;split at h
      · rename_i xs ys Fb;obtain⟨vs,rfl,jK⟩:=hv;obtain⟨us,rfl,NL⟩:=hu;have hf:P.fieldsOf t=fs:=by simp[Program.fieldsOf,hut]
        rw[run_equalIn_struct w (d+e) t _ _ (by rw[hf];exact hut) Fb,hf];have key:∀(l:List Field)(r:Bool),l.foldr (λf acc =>
            match acc, f.name != "_", jD P f.type, qA P f.type with
            | some r,true,some ag,some n=>match nX ag n xs f.offset,nX ag n ys f.offset with
              | some a,some b=>match eqT P d f.type a b with
                | some e=>some (match e with|true=>r|false=>false)
                | none=>none
              | _,_=>none
            | _,_,_,_=>none) (some true)=some r->(Op.eqFields (d+e) vs.toArray us.toArray l).run P w=.ok r w:=by
          intro l
          induction l with
          | nil=>intro r h;simp only[List.foldr_nil,bW]at h;subst h;simp[Op.eqFields]
          | cons f l ih =>
            intro r h;rw[List.foldr_cons]at h;split at h
            · rename_i r' ag m zXO zKu uP jO;split at h
              · rename_i a' b' ha' mf;split at h
                · rename_i e' he';simp only[bW] at h;obtain⟨va,hva,hra⟩:=CS (w:=w) uP jO ha' jK;obtain⟨vb,hvb,hrb⟩:=CS (w:=w) uP jO mf NL;have hq:=zby d f.type a' b' e' he' e va vb hra hrb
                  have hn : f.name ≠ "_" := by simpa using zKu
                  simp only[Op.eqFields,eX hn,Sem.run_bind,hva,hvb,hq,Result.andThen_ok];cases e' with
                  | true=>simp only at h;subst h;simpa using ih r' zXO
                  | false=>simp only at h;subst h;simp
                · cases h
              · cases h
            · cases h
        exact key fs.toList r h
      · cases h
    · cases h
theorem zwi{o:Oper}{op:BinOp}{t t':TypeId}{x y:Operand}{cs ds:List Cl}{A:aC}(S:cO P nt B w0 h0 g σ a w)(hd:dJ nt o.dst=true)(bu:o.op = .binOp op t x y t')
    (hx:fU σ.env x=.one (.agg cs)) (hy:fU σ.env y=.one (.agg ds)) (hA:zbn P op t cs ds=A) (hs:A.safe):jo P nt B w0 h0 r n i o A σ a w Q:=by
  have h1:=S.ev x;have h2:=S.ev y;rw[hx]at h1;rw[hy]at h2;obtain⟨vs,hv,_⟩:=id h1;obtain⟨us,hu,_⟩:=id h2;unfold zbn at hA;split at hA
  · rename_i q hgd hq;have dA:=zby (w:=w) 8 t (.agg cs) (.agg ds) q hq 9992 _ _ h1 h2;rw[hv,hu] at dA;split at hA
    · subst hA;refine dO S hd (by simp[bu]) (d:=.bool q) (v:=.bool q) (fp:=[]) rfl ?_ (.bool q) (kH _);simp only[execOp,bu,hv,hu,Sem.run_bind,run_eqGuard_agg w _ _ _ _ _ _ hgd,Result.andThen_ok,run_eql_struct];rw[dA];rfl
    · subst hA;refine dO S hd (by simp[bu]) (d:=.bool (!q)) (v:=.bool (!q)) (fp:=[]) rfl ?_ (.bool (!q)) (kH _);simp only[execOp,bu,hv,hu,Sem.run_bind,run_eqGuard_agg w _ _ _ _ _ _ hgd,Result.andThen_ok,run_neq_struct];rw[dA];rfl
    · subst hA;exact hs.elim
  · subst hA;exact hs.elim
theorem zdI{o:Oper}{t:TypeId}{x y:Operand}{A:aC}(S:cO P nt B w0 h0 g σ a w)(hd:dJ nt o.dst=true)(bu:o.op = .index t x y)
    (hA:act P Γ o (fU σ.env) (lk σ.aB)=A) (hs:A.safe):jo P nt B w0 h0 r n i o A σ a w Q:=by
  simp only[act,bu,JF]at hA;split at hA
  · rename_i m e hu;split at hA
    · rename_i sz ag cs k j jO uP hx hy;split at hA
      · rename_i d iC hr;subst hA;have h1:=S.ev x;rw[hx] at h1;obtain⟨vs,hv,jK⟩:=h1;have hj:=kw S hy;obtain⟨v,dA,hdv⟩:=CS (w:=w) uP jO hr jK;have zsS:j < m:=by simpa [qjy] using iC
        refine dO S hd (by simp[bu]) (d:=.one d) (v:=v) (fp:=[]) rfl ?_ hdv (λL hL=>?_)
        · simp only [execOp,bu,hv,hj,Instr.index,asIntOf,Sem.run_bind,Sem.run_pure,Result.andThen_ok,run_underlying hu];rw[eX ⟨by simp,by simpa using zsS⟩];simp only[Sem.run_bind,run_sizeOf jO,Result.andThen_ok];rw[show(Int.ofNat j).toNat=j from rfl,dA];rfl
        · refine S.evLab x L ?_;rw[hx];exact Ko hr L hL
      · subst hA;exact hs.elim
    · subst hA;exact hs.elim
  · subst hA;exact hs.elim
theorem zdJ{o:Oper}{t:TypeId}{x:Operand}{f:Nat}{A:aC}(S:cO P nt B w0 h0 g σ a w)(hd:dJ nt o.dst=true)(bu:o.op = .field t x f)
    (hA:act P Γ o (fU σ.env) (lk σ.aB)=A) (hs:A.safe):jo P nt B w0 h0 r n i o A σ a w Q:=by
  simp only[act,bu,JG]at hA;split at hA
  · rename_i fs hu;split at hA
    · rename_i fd hfd;split at hA
      · rename_i m ag cs jO uP hx;split at hA
        · rename_i d hr;subst hA;have h1:=S.ev x;rw[hx] at h1;obtain⟨vs,hv,jK⟩:=h1;obtain⟨v,dA,hdv⟩:=CS (w:=w) uP jO hr jK;refine dO S hd (by simp[bu]) (d:=.one d) (v:=v) (fp:=[]) rfl ?_ hdv (λ L hL=>?_)
          · simp only [execOp,bu,hv,Instr.field,asAgg,Sem.run_bind,Sem.run_pure,Result.andThen_ok,run_underlying hu,hfd];rw[dA];rfl
          · refine S.evLab x L ?_;rw[hx];exact Ko hr L hL
        · subst hA;exact hs.elim
      · subst hA;exact hs.elim
    · subst hA;exact hs.elim
  · subst hA;exact hs.elim
theorem Ru{o:Oper}{t e:TypeId}{m:Nat}{x y:Operand}{A:aC}(S:cO P nt B w0 h0 g σ a w)(hd:dJ nt o.dst=true)(bu:o.op = .indexAddr t x y)(hu:P.underlying t=some (.array m e))
    (hA:Cj P m e (fU σ.env x) (fU σ.env y)=A) (hs:A.safe):jo P nt B w0 h0 r n i o A σ a w Q:=by
  unfold Cj at hA;split at hA
  · rename_i sz k j jO hy;split at hA
    · rename_i iC;have hj:=kw S hy;have zsS:j < m:=by simpa [qjy] using iC
      have run:∀b o':Nat,a.eval x=.pointer (some ⟨b,o',none⟩)->(execOp a.eval o).run P w=.ok (.value (.pointer (some ⟨b,o'+j*sz,none⟩))) w:=by
        intro b o' hv;simp only[execOp,bu,hv,hj,Instr.indexAt,asIntOf,Sem.run_bind,Sem.run_pure,Result.andThen_ok,run_underlying hu,Instr.sureAddr];rw[eX ⟨by simp,by simpa using zsS⟩];simp only[Sem.run_bind,run_sizeOf jO,Result.andThen_ok,addr_add,Sem.run_pure];rfl
      split at hA
      · rename_i L off hx;subst hA;obtain⟨h1,h2⟩:=iJ S hx;exact dO S hd (by simp[bu]) (d:=.cl (.ptr L (off+j*sz))) (fp:=[]) rfl (run _ _ h1) rfl h2
      · rename_i c off hx;subst hA;obtain⟨b,o',C,ty,fr,hv,hb,hc⟩:=Rn (jF S hx);have:=run b (o'+off) hv;rw[qjP]at this;exact dO S hd (by simp[bu]) (d:=.p (.fp c (off+j*sz))) (fp:=[]) rfl this (Jc hb hc _) (kH _)
      · subst hA;exact hs.elim
    · subst hA;exact hs.elim
  · subst hA;exact hs.elim
theorem zbz(j:Int):IsKey (.int .i64) (.int .i64 j):=by simp[IsKey]
theorem zbA:∀{cs:List Cl}{l:List Int}{vs:List Value},JE cs=some l→RL (jg g) cs vs→vs=l.map (Value.int .i64)
  | [],l,[],h,_=>by simp[JE]at h;subst h;rfl
  | [],_,_::_,_,hr=>hr.elim
  | _::_,_,[],_,hr=>hr.elim
  | c::cs,l,v::vs,h,hr=>by
    cases c with
    | p x =>
      cases x with
      | int k a' =>
        cases k<;>simp only[JE]at h<;>try cases h
        split at h
        · rename_i l' zY;simp only[bW]at h;subst h;have h1:=hr.1;cases h1;rw[zbA zY hr.2];rfl
        · cases h
      | _=>simp[JE]at h
    | _=>simp[JE]at h
end
end Go.Pm
namespace Go.Pm
variable [aJ]
open Go.RowKit (Below)
section
variable{P:Program}{Γ:bU}{nt B:Nat}{w0:World}{h0:Fz}{g:Gh}{σ:St}{a:Act}{w:World}{r:Option Nat}{n i:Nat}{Q:Exit->Act->World->Prop}
theorem Rw{o:Oper}{x:Operand}{A:aC}(S:cO P nt B w0 h0 g σ a w)(hd:dJ nt o.dst=true)(bu:o.op = .nilCheck x)
    (hA:act P Γ o (fU σ.env) (lk σ.aB)=A) (hs:A.safe):jo P nt B w0 h0 r n i o A σ a w Q:=by
  simp only[act,aNc,bu]at hA;split at hA
  · rename_i L off hx;subst hA;obtain⟨h1,h2⟩:=iJ S hx;refine dO S hd (by simp[bu]) (v:=a.eval x) (fp:=[]) rfl ?_ h1 h2;simp only[jg]at h1;simp[execOp,bu,h1]
  · rename_i c off hx;subst hA;obtain⟨h1,h2⟩:=iJ S hx;refine dO S hd (by simp[bu]) (v:=a.eval x) (fp:=[]) rfl ?_ h1 h2;obtain⟨b,o',C,ty,fr,hv,_⟩:=Rn h1;simp[execOp,bu,hv]
  · rename_i L s ii k hx;subst hA;obtain⟨h1,h2⟩:=iJ S hx;refine dO S hd (by simp[bu]) (v:=a.eval x) (fp:=[]) rfl ?_ h1 h2;obtain⟨b,_,hv⟩:=h1;simp[execOp,bu,hv]
  · subst hA;exact hs.elim
theorem xM{op:BinOp}{t:TypeId}{x y:Operand}{k k':IntKind}{p q:Int}:(eqGuard op t x y (.int k p) (.int k' q)).run P w=.ok () w:=by
 unfold eqGuard;cases op<;>rfl
theorem vC{op:BinOp}{t:TypeId}{x y:Operand}{p q:Bool}:(eqGuard op t x y (.bool p) (.bool q)).run P w=.ok () w:=by
 unfold eqGuard;cases op<;>rfl
theorem zdK{o:Oper}{op:BinOp}{t t':TypeId}{x y:Operand}{A:aC}(S:cO P nt B w0 h0 g σ a w)(hd:dJ nt o.dst=true)(bu:o.op = .binOp op t x y t')
    (hA:act P Γ o (fU σ.env) (lk σ.aB)=A) (hs:A.safe):jo P nt B w0 h0 r n i o A σ a w Q:=by
  simp only[act,aBn,bu]at hA;split at hA
  · rename_i k p k' q hx hy;have h1:=kw S hx;have h2:=kw S hy;split at hA
    · rename_i hk;subst hk;have fin:∀(v:PV)(u:Value)(A:aC),oq A i o.dst σ (σ.upd i o.dst [] (.p v) [] [])->(binOp op t (.int k p) (.int k q)).run P w=.ok u w->Rep g.h v u->jo P nt B w0 h0 r n i o A σ a w Q:=by
        intro v u A hA dA hr;refine dO S hd (by simp[bu]) (d:=.p v) (v:=u) (fp:=[]) hA ?_ hr (kH v);simp only[execOp,bu,h1,h2,Sem.run_bind,xM,Result.andThen_ok,dA,Sem.run_pure]
      unfold U0 at hA;split at hA<;>subst hA
      · have hq:0≤q:=hs;exact fin _ _ (.chk _ _ _ _ _) rfl (by simp[binOp,Op.shift,jq1.2 hq,zl7]) (.int _ _)
      · have hq:0≤q:=hs;exact fin _ _ (.chk _ _ _ _ _) rfl (by simp[binOp,Op.shift,jq1.2 hq,EZ]) (.int _ _)
      · exact fin _ _ _ rfl (by simp[binOp,Op.intBits,zvJ]) (.int _ _)
      · exact fin _ _ _ rfl (by simp[binOp,Op.intBits,orW]) (.int _ _)
      · exact fin _ _ _ rfl (by simp[binOp,Op.intBits,zEt]) (.int _ _)
      · exact fin _ _ _ rfl (by simp[binOp,Op.intBits,zbm]) (.int _ _)
      · exact fin _ _ _ rfl (by simp[binOp,Op.intArith]) (.int _ _)
      · exact fin _ _ _ rfl (by simp[binOp,Op.intArith]) (.int _ _)
      · exact fin _ _ _ rfl (by simp[binOp,Op.intArith]) (.int _ _)
      · have hq:q≠0:=hs;exact fin _ _ (.chk _ _ _ _ _) rfl (by simp[binOp,Op.intDiv,hq]) (.int _ _)
      · have hq:q≠0:=hs;exact fin _ _ (.chk _ _ _ _ _) rfl (by simp[binOp,Op.intDiv,hq]) (.int _ _)
      · exact fin _ _ _ rfl (by simp[binOp,Op.intCmp]) (.bool _)
      · exact fin _ _ _ rfl (by simp[binOp,Op.intCmp]) (.bool _)
      · exact fin _ _ _ rfl (by simp[binOp,Op.intCmp]) (.bool _)
      · exact fin _ _ _ rfl (by simp[binOp,Op.intCmp]) (.bool _)
      · exact fin _ _ _ rfl (by simp[binOp,Op.intCmp]) (.bool _)
      · exact fin _ _ _ rfl (by simp[binOp,Op.intCmp]) (.bool _)
    · have fin:∀(v:PV)(u:Value)(A:aC),oq A i o.dst σ (σ.upd i o.dst [] (.p v) [] [])->(binOp op t (.int k p) (.int k' q)).run P w=.ok u w->Rep g.h v u->jo P nt B w0 h0 r n i o A σ a w Q:=by
        intro v u A hA dA hr;refine dO S hd (by simp[bu]) (d:=.p v) (v:=u) (fp:=[]) hA ?_ hr (kH v);simp only[execOp,bu,h1,h2,Sem.run_bind,xM,Result.andThen_ok,dA,Sem.run_pure]
      unfold zgU at hA;split at hA<;>subst hA
      · have hq:0≤q:=hs;exact fin _ _ (.chk _ _ _ _ _) rfl (by simp[binOp,Op.shift,jq1.2 hq,zl7]) (.int _ _)
      · have hq:0≤q:=hs;exact fin _ _ (.chk _ _ _ _ _) rfl (by simp[binOp,Op.shift,jq1.2 hq,EZ]) (.int _ _)
      · exact hs.elim
  · rename_i p q hx hy;have h1:=vz S hx;have h2:=vz S hy;have dA:P.underlying t=some .bool->(Op.equal t (.bool p) (.bool q)).run P w=.ok (p==q) w:=by
      intro ht;unfold Op.equal;rw[show Op.maxDepth=9999+1 from rfl,Op.equalIn];simp only[Sem.run_bind,run_underlying ht,Result.andThen_ok,Sem.run_pure]
    split at hA<;>(try rename_i ht _)<;>subst hA
    · refine dO S hd (by simp [bu]) (d := .bool (p==q)) (v := .bool (p==q)) (fp:=[]) rfl ?_ (.bool _) (kH _);simp only[execOp,bu,h1,h2,Sem.run_bind,vC,Result.andThen_ok,binOp,dA ‹_›,Sem.run_pure]
    · refine dO S hd (by simp [bu]) (d := .bool (p != q)) (v := .bool (p != q)) (fp:=[]) rfl ?_ (.bool _) (kH _);simp only[execOp,bu,h1,h2,Sem.run_bind,vC,Result.andThen_ok,binOp,dA ‹_›,Sem.run_pure];rfl
    · exact hs.elim
  · rename_i cs ds hx hy;exact zwi S hd bu hx hy hA hs
  · subst hA;exact hs.elim
theorem zha{o:Oper}{op:UnOp}{t:TypeId}{x:Operand}{A:aC}(S:cO P nt B w0 h0 g σ a w)(hd:dJ nt o.dst=true)(bu:o.op = .unOp op t x)
    (hA:act P Γ o (fU σ.env) (lk σ.aB)=A) (hs:A.safe):jo P nt B w0 h0 r n i o A σ a w Q:=by
  simp only[act,aUn,bu]at hA;split at hA
  · rename_i p hx;subst hA;have h1:=vz S hx;refine dO S hd (by simp[bu]) (d:=.bool (!p)) (v:=.bool (!p)) (fp:=[]) rfl ?_ (.bool _) (kH _);simp[execOp,bu,h1,Op.unary]
  · rename_i k p hx;subst hA;have h1:=kw S hx;refine dO S hd (by simp[bu]) (d:=.p (.int k (k.wrap (0-p)))) (v:=.int k (k.wrap (0-p))) (fp:=[]) rfl ?_ (.int _ _) (kH _);simp only[execOp,bu,h1,Op.unary,Op.intArith,Sem.run_bind,Sem.run_pure,Result.andThen_ok]
  · subst hA;exact hs.elim
theorem Vq{o:Oper}{t1 t2:TypeId}{x:Operand}{A:aC}(S:cO P nt B w0 h0 g σ a w)(hd:dJ nt o.dst=true)(bu:o.op = .convert t1 t2 x)
    (hA:act P Γ o (fU σ.env) (lk σ.aB)=A) (hs:A.safe):jo P nt B w0 h0 r n i o A σ a w Q:=by
  simp only[act,aCv,bu]at hA;split at hA
  · rename_i u1 k k' m h1 h2 hx;subst hA;have hv:=kw S hx;refine dO S hd (by simp[bu]) (d:=.p (.int k (k.wrap m))) (v:=.int k (k.wrap m)) (fp:=[]) rfl ?_ (.int _ _) (kH _);simp only[execOp,bu,hv,convert,Sem.run_bind,run_underlying h1,run_underlying h2,Result.andThen_ok,Conv.intToInt,Sem.run_pure]
  · subst hA;exact hs.elim
theorem Ov{o:Oper}{t:TypeId}{x:Operand}{f:Nat}{A:aC}(S:cO P nt B w0 h0 g σ a w)(hd:dJ nt o.dst=true)(bu:o.op = .fieldAddr t x f)
    (hA:act P Γ o (fU σ.env) (lk σ.aB)=A) (hs:A.safe):jo P nt B w0 h0 r n i o A σ a w Q:=by
  simp only[act,aFa,bu]at hA;split at hA
  · rename_i off zXn
    have fin:∀(b o':Nat)(c:Cl)(A:aC),a.eval x=.pointer (some ⟨b,o',none⟩)->oq A i o.dst σ (σ.upd i o.dst [] (.cl c) [] [])->jg g c (.pointer (some ⟨b,o'+off,none⟩)) ->
        (∀L∈bD c,∃o,lk σ.aB L=some o)->jo P nt B w0 h0 r n i o A σ a w Q:=by
      intro b o' c A hv hA hc hl;refine dO S hd (by simp[bu]) (d:=.cl c) (v:=.pointer (some ⟨b,o'+off,none⟩)) (fp:=[]) hA ?_ hc hl;simp only[execOp,bu,Sem.run_bind,hv,U9 zXn,Result.andThen_ok,Sem.run_pure]
    split at hA
    · rename_i L k hx;subst hA;obtain⟨h1,h2⟩:=iJ S hx;exact fin _ _ _ _ h1 rfl rfl h2
    · rename_i c k hx;subst hA;obtain⟨h1,h2⟩:=iJ S hx;obtain⟨b,o',C,ty,fr,hv,hb,hc⟩:=Rn h1;refine fin b (o'+k) _ _ hv rfl ?_ h2;rw[qjP];exact Jc hb hc (k+off)
    · rename_i L s ii k hx;subst hA;obtain⟨h1,h2⟩:=iJ S hx;obtain⟨b,hb,hv⟩:=h1;refine fin b (ii*s+k) _ _ hv rfl ⟨b,hb,?_⟩ h2;rw[qjP]
    · subst hA;exact hs.elim
  · subst hA;exact hs.elim
theorem Ox{o:Oper}{t:TypeId}{x y:Operand}{A:aC}(S:cO P nt B w0 h0 g σ a w)(hd:dJ nt o.dst=true)(bu:o.op = .indexAddr t x y)
    (hA:act P Γ o (fU σ.env) (lk σ.aB)=A) (hs:A.safe):jo P nt B w0 h0 r n i o A σ a w Q:=by
  simp only[act,aIa,bu]at hA;split at hA
  · rename_i e hu;split at hA
    · rename_i m k j jO hy;have hj:=kw S hy;split at hA
      · rename_i len s get hx;split at hA
        · rename_i hsm;subst hsm;subst hA;have qJ:0<=j/\j < (len:Int):=hs;have iC:j.toNat < len:=by omega
          obtain⟨b,o',cap,C,ty,fr,hv,hb,hlen,GR⟩:=Rq (jF S hx) iC;refine dO S hd (by simp[bu]) (d:=.p (.fp (get j.toNat) 0)) (v:=.pointer (some ⟨b,o'+j.toNat*s,none⟩)) (fp:=[]) (A:=.chk _ _ _ _ _) rfl ?_ ?_ (kH _)
          · simp only[execOp,bu,Sem.run_bind,hv,hj,run_indexAt_slice hu jO qJ.1 qJ.2,Result.andThen_ok,Sem.run_pure]
          · exact Jc hb GR 0
        · subst hA;exact hs.elim
      · rename_i L hx;obtain⟨h1,h2⟩:=iJ S hx;split at hA
        · rename_i e' s OT len get hL;split at hA
          · rename_i hsm;subst hsm;subst hA;have qJ:0<=j/\j < (len:Int):=hs;have iC:j.toNat < len:=by omega
            obtain⟨b,C,dh,⟨cap,l9⟩,hC,_,hlen,GR⟩:=vk (S.obj L _ hL) iC;refine dO S hd (by simp[bu]) (d:=.cl (.vptr L s j.toNat 0)) (v:=.pointer (some ⟨b,0+j.toNat*s,none⟩)) (fp:=_) (A:=.chk _ _ _ _ _) rfl ?_ ?_ h2
            · simp only[execOp,bu,Sem.run_bind,h1.1,l9,hj,run_indexAt_slice hu jO qJ.1 qJ.2,Result.andThen_ok,Sem.run_pure]
            · refine⟨b,dh,?_⟩;simp
          · subst hA;exact hs.elim
        · rename_i s len get hL;split at hA
          · rename_i hsm;subst hsm;subst hA;have qJ:0<=j/\j < (len:Int):=hs;have iC:j.toNat < len:=by omega
            obtain⟨b,o',cap,C,ty,fr,hv,hb,hlen,GR⟩:=Rq (S.obj L _ hL).1 iC;refine dO S hd (by simp[bu]) (d:=.p (.fp (get j.toNat) 0)) (v:=.pointer (some ⟨b,o'+j.toNat*s,none⟩)) (fp:=_) (A:=.chk _ _ _ _ _) rfl ?_ ?_ (kH _)
            · simp only[execOp,bu,Sem.run_bind,h1.1,hv,hj,run_indexAt_slice hu jO qJ.1 qJ.2,Result.andThen_ok,Sem.run_pure]
            · exact Jc hb GR 0
          · subst hA;exact hs.elim
        · rename_i te bb e' s OT len ln get hL;split at hA
          · rename_i hsm;subst hsm;subst hA;have qJ:0<=j/\j < (len:Int):=hs;have iC:j.toNat < len:=by omega
            obtain⟨b,C,cap,l9,hC,_,_⟩:=Vk (S.obj L _ hL) iC;refine dO S hd (by simp[bu]) (d:=.cl (.vptr L 1 j.toNat 0)) (v:=.pointer (some ⟨b,0+j.toNat*1,none⟩)) (fp:=_) (A:=.chk _ _ _ _ _) rfl ?_ ?_ h2
            · simp only[execOp,bu,Sem.run_bind,h1.1,l9,hj,run_indexAt_slice hu jO qJ.1 qJ.2,Result.andThen_ok,Sem.run_pure]
            · refine⟨b,by rw [l9];rfl,?_⟩;simp
          · subst hA;exact hs.elim
        · rename_i te bb e' s OT len ln get o2 hL;split at hA
          · rename_i hsm;subst hsm;subst hA;have qJ:0<=j/\j < (len:Int):=hs;have iC:j.toNat < len:=by omega
            obtain⟨b,C,cap,l9,hC,_⟩:=Vl (S.obj L _ hL) iC;refine dO S hd (by simp[bu]) (d:=.cl (.vptr L 1 j.toNat 0)) (v:=.pointer (some ⟨b,0+j.toNat*1,none⟩)) (fp:=_) (A:=.chk _ _ _ _ _) rfl ?_ ?_ h2
            · simp only[execOp,bu,Sem.run_bind,h1.1,l9,hj,run_indexAt_slice hu jO qJ.1 qJ.2,Result.andThen_ok,Sem.run_pure]
            · refine⟨b,by rw [l9];rfl,?_⟩;simp
          · subst hA;exact hs.elim
        · subst hA;exact hs.elim
      · subst hA;exact hs.elim
    · subst hA;exact hs.elim
  · rename_i m e hu;exact Ru S hd bu hu hA hs
  · subst hA;exact hs.elim
theorem Vr{o:Oper}{x:Operand}{k:Nat}{A:aC}(S:cO P nt B w0 h0 g σ a w)(hd:dJ nt o.dst=true)(bu:o.op = .extract x k)
    (hA:act P Γ o (fU σ.env) (lk σ.aB)=A) (hs:A.safe):jo P nt B w0 h0 r n i o A σ a w Q:=by
  simp only[act,aEx,bu]at hA;split at hA
  · rename_i ds hx;have h1:=S.ev x;have h2:=S.evLab x;rw[hx] at h1 h2;obtain⟨vs,hv,hr⟩:=h1;split at hA
    · rename_i d gu;subst hA;obtain⟨v,AX,hdv⟩:=hr.get k d gu;refine dO S hd (by simp[bu]) (d:=.one d) (v:=v) (fp:=[]) rfl ?_ hdv (λ L hL=>h2 L ?_)
      · simp only [execOp, bu, Sem.run_bind, hv, Instr.extract];have:vs.toArray[k]? = some v:=by simpa using AX
        rw[this];simp
      · exact lK.2 ⟨d,JB gu,hL⟩
    · subst hA;exact hs.elim
  · subst hA;exact hs.elim
theorem fb{o:Oper}{b:Builtin}{args:Array Operand}{ts:Array TypeId}(bu:o.op = .call {callee := .builtin b,args,argTypes:=ts}){v:Value}{w':World}
    (h:(builtin b ts o.type (args.map fun | .const _=>true|_=>false) (args.map a.eval)).run P w=.ok (.value v) w'):(execOp a.eval o).run P w=.ok (.value v) w':=by
  simp only[execOp,bu,resolve,Sem.run_bind,Sem.run_pure,Result.andThen_ok,invoke];exact h
theorem znh{o:Oper}{args:Array Operand}{ts:Array TypeId}{A:aC}(S:cO P nt B w0 h0 g σ a w)(hd:dJ nt o.dst=true)(bu:o.op = .call {callee := .builtin .len,args,argTypes:=ts})
    (hA:act P Γ o (fU σ.env) (lk σ.aB)=A) (hs:A.safe):jo P nt B w0 h0 r n i o A σ a w Q:=by
  simp only[act,aLn,bu]at hA;split at hA
  · rename_i x t gB hts;have ha:args = #[x]:=by rw[<- qdp (xs:=args),gB]
    have ht:ts = #[t]:=by rw[<- qdp (xs:=ts),hts]
    subst ha ht;split at hA
    · rename_i e hu;have fin:∀(m:Nat)(ad:Option Addr)(cap:Nat)(fp:List (Nat×Bool))(A:aC),a.eval x=.slice ad m cap->oq A i o.dst σ (σ.upd i o.dst fp (.int m) [] [])->jo P nt B w0 h0 r n i o A σ a w Q:=by
        intro m ad cap fp A hv hA;refine dO S hd (by simp[bu]) (d:=.int m) (v:=.int .i64 m) (fp:=fp) hA (fb bu ?_) (.int _ _) (kH _);simp only[builtin,Sem.run_bind,Builtin.len_];simp[hv,run_underlying hu,goInt]
      split at hA
      · rename_i m s get hx;subst hA;have h1:=jF S hx;generalize hv:a.eval x=v at h1;cases h1 with
        | sl0=>exact fin 0 _ _ [] _ hv rfl
        | sle=>exact fin 0 _ _ [] _ hv rfl
        | sl=>exact fin m _ _ [] _ hv rfl
      · rename_i hx;subst hA;have h1:=jF S hx;generalize hv:a.eval x=v at h1;cases h1;exact fin 0 _ _ [] _ hv rfl
      · rename_i L hx;obtain⟨h1,_⟩:=iJ S hx;split at hA
        · rename_i e' s b m get hL;subst hA;obtain⟨_,_,xs,hxs,_⟩:=S.obj L _ hL;rcases hxs.2 with ⟨h5,h6⟩ | ⟨k,cap,cur,h5,_⟩
          · subst h6;exact fin 0 _ _ _ _ (h1.1.trans h5) rfl
          · exact fin m _ _ _ _ (h1.1.trans h5) rfl
        · rename_i s m get hL;subst hA;have h2:=(S.obj L _ hL).1;generalize hv:g.sv L=v at h2;cases h2 with
          | sl0=>exact fin 0 _ _ _ _ (h1.1.trans hv) rfl
          | sle=>exact fin 0 _ _ _ _ (h1.1.trans hv) rfl
          | sl=>exact fin m _ _ _ _ (h1.1.trans hv) rfl
        · rename_i te bb e' s b m ln get hL;subst hA;obtain⟨_,_,_,hxs,_,_⟩:=S.obj L _ hL;rcases hxs.2 with ⟨h5,h6⟩ | ⟨k,cap,cur,h5,_⟩
          · subst h6;exact fin 0 _ _ _ _ (h1.1.trans h5) rfl
          · exact fin m _ _ _ _ (h1.1.trans h5) rfl
        · subst hA;exact hs.elim
      · subst hA;exact hs.elim
    · rename_i kt vt hu
      have Vs:∀(m:Nat)(b:Nat)(es:Array MapEntry)(clock:Nat)(q:MQ)(F:List Int->Option (List Int))(fp:List (Nat×Bool))(A:aC),a.eval x=.map (some b)->w.heap[b]? = some (.map es clock)->moE q m F es clock ->
          oq A i o.dst σ (σ.upd i o.dst fp (.int m) [] [])->jo P nt B w0 h0 r n i o A σ a w Q:=by
        intro m b es clock q F fp A hv hh hm hA;obtain⟨en,hen⟩:=hm;have jO:es.size=m:=by
          have:=jX List.length hen.ents;simp only[dqU,qju]at this;rw[this,hen.size]
        refine dO S hd (by simp[bu]) (d:=.int m) (v:=.int .i64 m) (fp:=fp) hA (fb bu ?_) (.int _ _) (kH _);simp only[builtin,Sem.run_bind,Builtin.len_];simp[hv,run_underlying hu,goInt,MapKept.run_getObj_map hh,jO]
      split at hA
      · rename_i L hx;obtain⟨h1,_⟩:=iJ S hx;split at hA
        · rename_i kt' vt' q m F hL;subst hA;obtain⟨es,clock,hh,_,hm⟩:=S.obj L _ hL;exact Vs m _ es clock q F _ _ h1 hh hm rfl
        · subst hA;exact hs.elim
      · subst hA;exact hs.elim
    · subst hA;exact hs.elim
  · subst hA;exact hs.elim
theorem Kt{args:Array Operand}{ev:Operand->DV}{p q:DV}(h:args.toList.map ev=[p,q]):∃x y,args = #[x,y]/\ev x=p/\ev y=q:=by
 match hl:args.toList,h with
 | [x,y],h =>
  simp at h;exact⟨x,y,by rw[<- qdp (xs:=args),hl],h.1,h.2⟩
 | [],h=>simp at h
 | [_],h=>simp at h
 | _::_::_::_,h=>simp at h
theorem zni{o:Oper}{args:Array Operand}{ts:Array TypeId}{A:aC}(S:cO P nt B w0 h0 g σ a w)(hd:dJ nt o.dst=true)(bu:o.op = .call {callee := .builtin .max,args,argTypes:=ts})
    (hA:act P Γ o (fU σ.env) (lk σ.aB)=A) (hs:A.safe):jo P nt B w0 h0 r n i o A σ a w Q:=by
  simp only[act,aMx,bu]at hA;split at hA
  · rename_i k p k' q gB;subst hA;obtain⟨x,y,rfl,hx,hy⟩:=Kt gB;have h1:=kw S hx;have h2:=kw S hy;refine dO S hd (by simp[bu]) (d:=.p (.int k (if q>p then q else p))) (v:=.int k (if q>p then q else p)) (fp:=[]) rfl (fb bu ?_) (.int _ _) (kH _);simp[builtin,Builtin.max_,h1,h2,Builtin.max2]
  · subst hA;exact hs.elim
theorem znj{o:Oper}{args:Array Operand}{ts:Array TypeId}{A:aC}(S:cO P nt B w0 h0 g σ a w)(hd:dJ nt o.dst=true)(bu:o.op = .call {callee := .builtin .min,args,argTypes:=ts})
    (hA:act P Γ o (fU σ.env) (lk σ.aB)=A) (hs:A.safe):jo P nt B w0 h0 r n i o A σ a w Q:=by
  simp only[act,aMi,bu]at hA;split at hA
  · rename_i k p k' q gB;subst hA;obtain⟨x,y,rfl,hx,hy⟩:=Kt gB;have h1:=kw S hx;have h2:=kw S hy;refine dO S hd (by simp[bu]) (d:=.p (.int k (if q<p then q else p))) (v:=.int k (if q<p then q else p)) (fp:=[]) rfl (fb bu ?_) (.int _ _) (kH _);simp[builtin,Builtin.min_,h1,h2,Builtin.min2]
  · subst hA;exact hs.elim
end
end Go.Pm
namespace Go.Pm
variable [aJ]
open Go.RowKit (Below)
section place
variable{P:Program}
def Ro{α:Type}(P:Program)(s:Sem α):Prop:=∀w a w',s.run P w=.ok a w'->w'.heap=w.heap
theorem bind_ok{α β:Type}{x:Sem α}{f:α->Sem β}{w w':World}{b:β}(h:(x >>= f).run P w=.ok b w'):∃a w1,x.run P w=.ok a w1/\(f a).run P w1=.ok b w':=by
 rw[Sem.run_bind]at h;cases hx:x.run P w with
 | ok a w1=>rw[hx]at h;exact⟨a,w1,rfl,h⟩
 | halt e w1=>rw[hx]at h;cases h
theorem Ro.bind{α β:Type}{x:Sem α}{f:α->Sem β}(hx:Ro P x)(hf:∀a,Ro P (f a)):Ro P (x >>= f):=by
 intro w b w' h;obtain⟨a,w1,h1,h2⟩:=bind_ok h;exact(hf a w1 b w' h2).trans (hx w a w1 h1)
theorem Ro.pure{α:Type}(a:α):Ro P (Pure.pure a:Sem α):=by
 intro w b w' h;simp at h;rw[h.2]
theorem Ro.halt{α:Type}(e:Halt):Ro P (.halt e:Sem α):=by
 intro w b w' h;simp at h
theorem Ro.ite{α:Type}{c:Prop}[Decidable c]{x y:Sem α}(hx:Ro P x)(hy:Ro P y):Ro P (if c then x else y):=by
 split
 ·exact hx
 ·exact hy
theorem Ro.load(a:Addr)(m:Mode):Ro P (Go.load a m):=by
 intro w b w' h;rw[run_load]at h;split at h
 ·simp at h;rw[h.2]
 ·split at h
  ·simp at h;rw[h.2]
  ·cases h
theorem Ro.loadCellsFrom(a:Addr):∀(n i:Nat)(acc:Array Value),Ro P (loadCellsFrom a i n acc)
  | 0,_,acc=>Ro.pure acc
  | n+1,i,acc=>(Ro.load _ _).bind λv=>Ro.loadCellsFrom a n (i+1) (acc.push v)
theorem Ro.firstCells(s n:Nat)(v:Value):Ro P (Builtin.firstCells s n v):=by
 unfold Builtin.firstCells;split
 ·exact Ro.loadCellsFrom _ _ _ _
 ·exact Ro.pure _
 ·exact Ro.pure _
 ·exact Ro.halt _
theorem Ro.typeInfo(t:TypeId):Ro P (typeInfo t):=by
 intro w b w' h;simp only[Go.typeInfo,Sem.run_bind,run_program,Result.andThen_ok]at h;split at h
 ·simp at h;rw[h.2]
 ·simp at h
theorem Ro.zeroValue(t:TypeId):Ro P (zeroValue t):=by
 refine(Ro.typeInfo t).bind λ_=>?_;split
 ·exact Ro.pure _
 ·exact Ro.halt _
theorem Ro.choose(q:Question):Ro P (Go.choose q):=by
 intro w b w' h;rw[run_choose]at h;split at h
 ·simp at h;rw[h.2]
 ·simp at h;rw[<- h.2];rfl
theorem Ro.askRoom(m:Nat):Ro P (askRoom m):=by
 intro w b w' h;simp at h;rw[h]
theorem Ro.program:Ro P program:=by
 intro w b w' h;simp at h;rw[h.2]
theorem Ro.underlying(t:TypeId):Ro P (underlying t):=by
 refine Ro.program.bind λ_=>?_;split
 ·exact Ro.pure _
 ·exact Ro.halt _
theorem Ro.sizeOf(t:TypeId):Ro P (sizeOf t):=(Ro.typeInfo t).bind λ_=>Ro.pure _
theorem Ro.stuck{α:Type}(s:String):Ro P (stuck s:Sem α):=Ro.halt _
theorem Ro.unsupported{α:Type}(s:Unsupported):Ro P (unsupported s:Sem α):=Ro.halt _
theorem Ro.asIntOf(v:Value):Ro P (asIntOf v):=by
 unfold Go.asIntOf;split
 ·exact Ro.pure _
 ·exact Ro.unsupported _
 ·exact Ro.stuck _
theorem Ro.asInt(v:Value):Ro P (asInt v):=(Ro.asIntOf v).bind λ_=>Ro.pure _
theorem Ro.error{α:Type}(m:String):Ro P (runtimePanic (.error m):Sem α):=by
 refine Ro.program.bind λ_=>?_;exact Ro.halt _
theorem Ro.mark(m:Mark):Ro P (mark m):=by
 intro w b w' h;simp at h;rw[h]
theorem Ro.shape(k:Nat):Ro P (shape k):=by
 intro w b w' h;simp at h;rw[h.2]
theorem Ro.frozen(k:Addr):Ro P (frozen k):=by
 intro w b w' h;simp at h;rw[h.2]
theorem Ro.holdsCells(k:Addr)(m:Nat):Ro P (Builtin.holdsCells k m):=by
 refine(Ro.shape _).bind λ_=>?_;split
 ·exact Ro.pure _
 ·exact Ro.pure _
theorem Ro.mayShare(size zBi m:Nat)(base:Option Addr)(x:Value):Ro P (Builtin.mayShare size zBi m base x):=by
 unfold Builtin.mayShare
 repeat' first
  | exact Ro.holdsCells _ _
  | exact Ro.frozen _
  | exact Ro.pure _
  | refine Ro.ite ?_ ?_
  | refine Ro.bind ?_ (λ_=>?_)
  | split
def PL(P:Program)(base:Option Nat)(s:Sem Value):Prop:=∀w a w',s.run P w=.ok a w'->a.ownBlock=base\/a.ownBlock=some w.heap.size
theorem PL.bind{α:Type}{base:Option Nat}{x:Sem α}{f:α->Sem Value}(hx:Ro P x)(hf:∀a,PL P base (f a)):PL P base (x >>= f):=by
 intro w b w' h;obtain⟨a,w1,h1,h2⟩:=bind_ok h;have:=hf a w1 b w' h2;rwa[hx w a w1 h1]at this
theorem PL.ite{base:Option Nat}{c:Prop}[Decidable c]{x y:Sem Value}(hx:PL P base x)(hy:PL P base y):PL P base (if c then x else y):=by
 split
 ·exact hx
 ·exact hy
theorem PL.halt{base:Option Nat}(e:Halt):PL P base (.halt e):=by
 intro w b w' h;simp at h
theorem PL.pure{base:Option Nat}{v:Value}(h:v.ownBlock=base):PL P base (Pure.pure v):=by
 intro w b w' h';simp at h';rw[<- h'.1];exact .inl h
theorem PL.then{α:Type}{base:Option Nat}{x:Sem α}{v:Value}(h:v.ownBlock=base):PL P base (x >>= λ_=>Pure.pure v):=by
 intro w b w' h';obtain⟨a,w1,_,h2⟩:=bind_ok h';simp at h2;rw[<- h2.1];exact .inl h
theorem PL.newRow{base:Option Nat}(e:TypeId)(C:Array Value)(m c:Nat):PL P base (newRow e C >>= λa=>Pure.pure (Value.slice (some a) m c)):=by
 intro w b w' h;simp[Go.newRow]at h;rw[<- h.1];exact .inr rfl
theorem CU{t ty:TypeId}{base ad:Option Addr}{zBi zXp m c:Nat}:PL P (base.map (·.block)) (Builtin.append_ #[t,t] ty #[.slice base zBi zXp,.slice ad m c]):=by
 unfold Builtin.append_;simp only[jqd,qdM,Y9]
 repeat' first
  | exact PL.newRow _ _ _ _
  | exact PL.pure (by first|rfl|(cases base<;>rfl))
  | exact PL.then (by first|rfl|(cases base<;>rfl))
  | exact PL.halt _
  | exact Ro.underlying _
  | exact Ro.sizeOf _
  | exact Ro.typeInfo _
  | exact Ro.zeroValue _
  | exact Ro.firstCells _ _ _
  | exact Ro.choose _
  | exact Ro.askRoom _
  | exact Ro.asInt _
  | exact Ro.error _
  | exact Ro.unsupported _
  | exact Ro.stuck _
  | exact Ro.pure _
  | exact Ro.mark _
  | exact Ro.mayShare _ _ _ _ _
  | refine PL.ite ?_ ?_
  | refine Ro.ite ?_ ?_
  | refine PL.bind ?_ (λ_=>?_)
  | refine Ro.bind ?_ (λ_=>?_)
  | split
theorem IM{w:World}{at_:Addr}{u:TypeId}{k:Addr}{v:Value}{b:Bool}{r:World×List Addr}(h:w.viewStore P at_ u k v b=.ok r):r.1.drawn=w.drawn:=by
 unfold World.viewStore at h;simp only[bind,Except.bind,pure,Except.pure]at h
 repeat' first
  | (cases h;done)
  | (simp only[Except.ok.injEq]at h;rw[<- h];done)
  | split at h
theorem Ku{w:World}{a:Addr}{v:Value}{b:Bool}{r:World×List Addr}(h:w.farStore P a v b=.ok r):r.1.drawn=w.drawn:=by
 unfold World.farStore at h;split at h
 ·split at h
  ·rename_i e;simp only[Except.ok.injEq]at h;rw[<- h];exact IM e
  ·cases h
 ·cases h
theorem FC{α:Type}:∀(q:Ask α)(w:World),w.drawn≤(w.ask q).2.drawn
  | .done a,w=>by simp[World.ask]
  | .ask zDQ range k,w=>by
    simp only[World.ask];split
    · exact FC _ _
    · exact EW (Nat.le_succ w.drawn) (FC (k _) {w with drawn:=w.drawn+1})
theorem zdL(w:World)(c:Sys):w.drawn<=(w.sys c).2.drawn:=by
 have h:=FC (Kernel.perform c w.os) w;unfold World.sys;split
 ·exact kC _
 ·rename_i e;rw[e]at h;exact h
theorem gK{α:Type}:∀(s:Sem α)(w:World)(x:α)(w':World),s.run P w = .ok x w'→w.drawn≤w'.drawn
  | .pure a,w,x,w',h=>by simp only[Sem.run,Result.ok.injEq]at h;rw[h.2];exact kC _
  | .load m a k,w,x,w',h=>by
    simp only[Sem.run]at h;split at h
    · exact gK _ _ _ _ h
    · split at h
      · exact gK _ _ _ _ h
      · cases h
  | .store m a v k,w,x,w',h=>by
    have fin:∀w1,w1.drawn=w.drawn->k.run P w1=.ok x w'->w.drawn<=w'.drawn:=λw1 e h=>by rw[<- e];exact gK _ _ _ _ h
    cases v with
    | agg cs=>simp only[Sem.run]at h;cases h
    | tuple cs=>simp only[Sem.run]at h;cases h
    | _ =>
      simp only[Sem.run]at h;split at h
      · split at h
        · cases h
        · refine fin _ ?_ h;rfl
      · split at h
        · rename_i e;refine fin _ ?_ h;exact Ku e
        · cases h
  | .new o k,w,x,w',h=>by simp only[Sem.run]at h;have:=gK _ _ _ _ h;exact this
  | .shape r k,w,x,w',h=>by simp only[Sem.run]at h;exact gK _ _ _ _ h
  | .freeze a n k,w,x,w',h=>by
    simp only[Sem.run]at h;have:=gK _ _ _ _ h;have e:(w.freeze a n).drawn=w.drawn:=by unfold World.freeze;split<;>rfl
    rwa[e]at this
  | .frozen a k,w,x,w',h=>by simp only[Sem.run]at h;exact gK _ _ _ _ h
  | .getObj r k,w,x,w',h=>by
    simp only[Sem.run]at h;split at h
    · cases h
    · exact gK _ _ _ _ h
    · cases h
  | .setObj r o k,w,x,w',h=>by
    simp only[Sem.run]at h;split at h
    · cases h
    · have:=gK _ _ _ _ h;exact this
    · cases h
  | .choose q k,w,x,w',h=>by
    simp only[Sem.run]at h;split at h
    · exact gK _ _ _ _ h
    · have:=gK _ _ _ _ h;exact EW (Nat.le_succ _) this
  | .sys c k,w,x,w',h=>by
    simp only[Sem.run]at h;have:=gK _ _ _ _ h;exact EW (zdL w c) this
  | .program k,w,x,w',h=>by simp only[Sem.run]at h;exact gK _ _ _ _ h
  | .mark m k,w,x,w',h=>by simp only[Sem.run]at h;exact gK _ _ _ _ h
  | .halt e,w,x,w',h=>by simp only[Sem.run]at h;cases h
end place
end Go.Pm
namespace Go.Pm
variable [aJ]
open Go.RowKit (Below)
section
variable{P:Program}{Γ:bU}{nt B:Nat}{w0:World}{h0:Fz}{g:Gh}{σ:St}{a:Act}{w:World}{r:Option Nat}{n i:Nat}{Q:Exit->Act->World->Prop}
theorem CV{w w':World}{b:Nat}(hB:B≤b)(h1:w'.heap.size=w.heap.size)(h2:∀k,k≠b→w'.heap[k]? = w.heap[k]?)(h3:w'.os=w.os)(h4:w'.tape=w.tape)(h5:w'.output=w.output)(h6:w'.drawn=w.drawn) :
  J3 B w w':=⟨⟨h3,h4,h5,by rw[h1];exact kC _,λk hk=>h2 k omY⟩,by rw[h6];exact kC _⟩
theorem wI{t:TypeId}{m b off:Nat}{C:Array Value}{ty:TypeId}{v:Value}(hs:qA P t=some m)(hm:v.cells.size=m)(hb:w.heap[b]? = some (.cells C ty (0,0)))(hle:off+m≤C.size)
    (h1:∀u∈v.cells.toList,u.oneCell'=true):∃w',(storeVar t ⟨b,off,none⟩ v).run P w=.ok () w'/\w'.heap[b]? = some (.cells (spl C.toList off v.cells.toList).toArray ty (0,0)) /\
      w'.heap.size=w.heap.size/\(∀k,k≠b->w'.heap[k]? = w.heap[k]?)/\w'.os=w.os/\w'.tape=w.tape/\w'.output=w.output/\w'.drawn=w.drawn:=by
  obtain⟨w',hr,rest⟩:=yK (P:=P) v.cells.toList off C w hb (by simpa [hm]using hle) h1 off 0 omY;refine⟨w',?_,rest⟩;simp only[storeVar,Sem.run_bind,run_sizeOf hs,Result.andThen_ok,hm,ne_eq,not_true_eq_false,qjr];exact hr
theorem cells_one{d:D1}{v:Value}(h:AA g d v)(ho:d.cells.all Ci=true):∀u∈v.cells.toList,u.oneCell'=true:=by
 intro u hu;have hr:=ve h ho;obtain⟨j,hj⟩:=Za hu;obtain⟨c,hc,hcu⟩:=hr.get' j u hj;exact zbs hcu (Aa.1 ho c (JB hc))
theorem oz:∀{cs:List Cl}{l:List PV},jY cs=some l→cs=l.map .p
  | [],l,h=>by simp[jY]at h;subst h;rfl
  | .p v::r,l,h=>by
    simp only[jY]at h;split at h
    · rename_i l' hl;simp only[bW]at h;subst h;rw[oz hl];rfl
    · cases h
  | .ptr _ _::_,l,h=>by simp[jY]at h
  | .vptr _ _ _ _::_,l,h=>by simp[jY]at h
  | .vec _::_,l,h=>by simp[jY]at h
  | .undef::_,l,h=>by simp[jY]at h
  | .junk::_,l,h=>by simp[jY]at h
  | .dead _::_,l,h=>by simp[jY]at h
theorem znk(l:List PV):(l.map Cl.p).all Ci=true:=by
 induction l with
 | nil=>rfl
 | cons v r ih=>simp[Ci,ih]
theorem znl{B e s len:Nat}{v0:Value}{get:Nat→List PV}{k ii kk:Nat}{C:Array Value}{w':World}{l:List PV}{us xs:List Value}
    (hx:w.ownsRow B e s v0 len xs) (hr:∀i,i<len->RL (Rep g.h) (get i) ((xs.drop (i*s)).take s)) (dh:v0.ownBlock=some k) (hi:ii<len) (hk:kk+l.length<=s) (hC:w.heap[k]? = some (.cells C e (0,0)))
    (Yu:w'.heap[k]? = some (.cells (spl C.toList (ii*s+kk) us).toArray e (0,0))) (hl:RL (Rep g.h) l us) :
    ∃xs:List Value,w'.ownsRow B e s v0 len xs/\∀i,i<len->RL (Rep g.h) (yu ii kk get l i) ((xs.drop (i*s)).take s):=by
  rcases hx.2 with⟨h1,rfl⟩|⟨k',cap,cur,h1,hB,hg,hn,kE,jO,htk⟩
  · exact absurd hi omY
  · rw [h1] at dh; simp only [Value.ownBlock, bW] at dh; subst dh;rw[hC] at hg;simp only[bW,Obj.cells.injEq] at hg;obtain⟨rfl,_⟩:=hg;have hlen:=hl.length;have hii:ii * s+s<=len * s:=by have:=QX s (qdw hi);rw[Ur] at this;exact this
    have zsI:len*s<=cap*s:=QX s hn;have hCs:C.toList.length=cap*s:=by simpa using jO
    refine⟨(spl C.toList (ii*s+kk) us).take (len*s),⟨?_,.inr ⟨k',cap,_,h1,hB,Yu,hn,kE,?_,rfl⟩⟩,?_⟩
    · rw[qdH,lQ,hCs];omega
    · simp[lQ,jO]
    · intro j hj;have hjs:j * s+s<=len * s:=by have:=QX s (qdw hj);rw[Ur] at this;exact this
      have hgl:(get j).length=s:=by
        rw[(hr j hj).length];simp only[qdH,Y8,hx.1];omega
      have hsl:(yu ii kk get l j).length=s:=by unfold yu;split<;>simp[lQ,hgl]
      refine RL.of_get ?_ ?_
      · rw[hsl];simp only[qdH,Y8,lQ,hCs];omega
      · intro q x v hq hvq;have hqs:q < s:=by have:=(AY.1 hq).1;omega
        rw[I4,eX hqs,qdr,I4,eX omY,CO _ _ _ _ (by rw[hCs];omega)]at hvq;have old:∀y,(get j)[q]? = some y->∃v,C.toList[j*s+q]? = some v/\Rep g.h y v:=by
          intro y hy;obtain⟨v,hv,QI⟩:=(hr j hj).get q y hy;refine⟨v,?_,QI⟩;rw[I4,eX hqs,qdr,<- htk,I4,eX omY]at hv;exact hv
        unfold yu at hq;split at hq
        · rename_i hji;have hji:=kL hji;subst hji;rw[CO _ _ _ _ (by rw[hgl];omega)] at hq;by_cases hin:kk<=q/\q < kk+l.length
          · rw [eX hin]at hq;rw[eX (by rw[<- hlen];omega),show j*s+q-(j*s+kk)=q-kk by omega]at hvq;obtain⟨u,hu,Yt⟩:=hl.get _ _ hq;rw[hu]at hvq;simp only[bW]at hvq;rw[<- hvq];exact Yt
          · rw [fB hin]at hq;rw[fB (by rw[<- hlen];omega)]at hvq;obtain⟨u,hu,Yt⟩:=old x hq;rw[hu]at hvq;simp only[bW]at hvq;rw[<- hvq];exact Yt
        · rename_i hji;have hji:=qde hji;have EI:¬(ii*s+kk<=j*s+q/\j*s+q<ii*s+kk+us.length):=by
            rw[<- hlen];rcases Nat.lt_or_gt_of_ne hji with h|h
            · have:=QX s (qdw h);rw[Ur]at this;omega
            · have:=QX s (qdw h);rw[Ur]at this;omega
          rw[fB EI]at hvq;obtain⟨u,hu,Yt⟩:=old x hq;rw[hu]at hvq;simp only[bW]at hvq;rw[<- hvq];exact Yt
theorem znm{B L e s b len:Nat}{get:Nat→List PV}{k ii kk:Nat}{C:Array Value}{w':World}{l:List PV}{us:List Value}
    (hv:CJ P g w B L e s b len get) (dh:(g.sv L).ownBlock=some k) (hi:ii<len) (hk:kk+l.length<=s) (hC:w.heap[k]? = some (.cells C e (0,0)))
    (Yu:w'.heap[k]? = some (.cells (spl C.toList (ii*s+kk) us).toArray e (0,0))) (hl:RL (Rep g.h) l us) (hu:ut (yu ii kk get l)):CJ P g w' B L e s b len (yu ii kk get l):=by
  obtain⟨hs,nH,xs,hx,hr⟩:=hv;exact⟨⟨hu,hs.2⟩,nH,znl hx hr dh hi hk hC Yu hl⟩
theorem zbB{ii:Nat}{get:Nat->Nat->List PV}{lM:Nat->List PV}(h:Unv get)(h2:ut lM)(hs:smL (get 0 0) (lM 0)=true):Unv (mM ii lM get):=by
 have h3:∀i j k,RS (get i j) (lM k):=λi j k=>((h i j 0 0).trans (JP hs (h 0 0 0 0) (h2 0 0))).trans (h2 0 k);intro i j k l;show RS ((match Nat.beq i ii with|true=>lM|false=>get i) j) ((match Nat.beq k ii with|true=>lM|false=>get k) l);cases Nat.beq i ii<;>cases Nat.beq k ii
 ·exact h _ _ _ _
 ·exact h3 _ _ _
 ·exact(h3 _ _ _).symm
 ·exact h2 _ _
theorem Kv:∀L∈df .junk,∃o,lk σ.aB L=some o:=λL hL=>by simp[df,dE,bD]at hL
def Gm(g g':Gh):Prop:=g'.h=g.h/\g'.bk=g.bk/\g'.sv=g.sv/\∀L i,(∃b,g.iv L i=.map (some b))->g'.iv L i=g.iv L i
theorem zhb{g g':Gh}(H:Gm g g'){c:Cl}{x:Value}(h:jg g c x):jg g' c x:=by
 obtain⟨h1,h2,h3,h4⟩:=H;cases c with
 | p v=>simp only[jg]at h ⊢;rw[h1];exact h
 | ptr L off=>simp only[jg]at h ⊢;rw[h2];exact h
 | vptr L s i k=>simp only[jg]at h ⊢;rw[h3];exact h
 | vec L=>simp only[jg]at h ⊢;rw[h3];exact h
 | mo L=>simp only[jg]at h ⊢;rw[h3];exact h
 | clo f caps=>obtain⟨cv,e,hr⟩:=h;exact⟨cv,e,qX (λ_ _ hp=>by rw[h1];exact hp) (λL _=>by rw[h2]) hr⟩
 | undef=>exact h
 | junk=>trivial
 | dead L=>trivial
theorem ztx{g g':Gh}(H:Gm g g'){cs:List Cl}{vs:List Value}(h:RL (jg g) cs vs):RL (jg g') cs vs:=h.mono λ_ _=>zhb H
theorem zhc{g g':Gh}(H:Gm g g'){d:D1}{x:Value}(h:AA g d x):AA g' d x:=by
 cases d with
 | c y=>exact zhb H h
 | agg cs=>obtain⟨vs,rfl,hr⟩:=h;exact⟨vs,rfl,ztx H hr⟩
theorem zwj{g g':Gh}(H:Gm g g'){d:DV}{x:Value}(h:rH g d x):rH g' d x:=by
 cases d with
 | one y=>exact zhc H h
 | tup ds=>obtain⟨vs,rfl,hr⟩:=h;exact⟨vs,rfl,hr.mono λ_ _=>zhc H⟩
theorem cO.setVec(S:cO P nt B w0 h0 g σ a w){L M te bb e s OT len m ii:Nat}{ln:Nat→Nat}{get:Nat→Nat→List PV}{lM:Nat→List PV}(hL:lk σ.aB L=some (.vt te bb e s OT len ln get ii))
    (hM:lk σ.aB M=some (.vec e s OT m lM)) (ja:L≠M) (hi:ii<len) (hm:0<m) (Iy:Unv (mM ii lM get)) {k:Nat} {C:Array Value} {w':World} (dh:(g.sv L).ownBlock=some k) (hC:w.heap[k]? = some (.cells C te (0,0)))
    (Yu:w'.heap[k]? = some (.cells (C.setIfInBounds ii (g.sv M)) te (0,0))) (qU:∀b,b≠k->w'.heap[b]? = w.heap[b]?) (hb:J3 B w w') :
    cO P nt B w0 h0 ⟨g.h,g.bk,g.sv,λX i=>if X=L/\i=ii then g.sv M else g.iv X i⟩ {σ with aB:=(L,.vv te bb e s OT len (mM ii m ln) (mM ii lM get))::(M,.gone)::σ.aB} a w':=by
  have oL:=S.obj L _ hL;obtain⟨iF,zPC,zEG,zlG,_,ww,GR,IR⟩:=oL;obtain⟨_,_,xsM,hxM,hrM⟩:=S.obj M _ hM;obtain⟨kM,z3R,hvM⟩:∃kM cap,g.sv M=.slice (some ⟨kM,0,none⟩) m cap:=by
    rcases hxM.2 with⟨_,h2⟩|⟨k2,cap,_,h1,_⟩
    · omega
    · exact⟨k2,cap,h1⟩
  have hoM:(g.sv M).ownBlock=some kM:=by rw[hvM];rfl
  have H:Gm g ⟨g.h,g.bk,g.sv,λX i=>if X=L/\i=ii then g.sv M else g.iv X i⟩:=by
    refine⟨rfl,rfl,rfl,λX i hx=>?_⟩;show(if X=L/\i=ii then _ else _)=_;rw[fB];rintro⟨rfl,rfl⟩;obtain⟨b,hx⟩:=hx;exact ww b hx
  have hkB:gW g L (.vt te bb e s OT len ln get ii) k:=.inl dh;have hMB:gW g M (.vec e s OT m lM) kM:=hoM
  have kD:∀X o,lk ((L,AO.vv te bb e s OT len (mM ii m ln) (mM ii lM get))::(M,.gone)::σ.aB) X=some o ->
      (X=L/\o=.vv te bb e s OT len (mM ii m ln) (mM ii lM get))\/(X=M/\o=.gone)\/(X≠L/\X≠M/\lk σ.aB X=some o):=by
    intro X o h;rw[aZ]at h;split at h
    · rename_i e;simp at h;exact .inl ⟨e.symm,h.symm⟩
    · rename_i e;rw[aZ] at h;split at h
      · rename_i e2;simp at h;exact .inr (.inl ⟨e2.symm,h.symm⟩)
      · rename_i e2;exact .inr (.inr ⟨λx=>e x.symm,λx=>e2 x.symm,h⟩)
  have yh:∀X o,lk σ.aB X=some o->∃o',lk ((L,AO.vv te bb e s OT len (mM ii m ln) (mM ii lM get))::(M,.gone)::σ.aB) X=some o':=by
    intro X o h;rw[aZ];split
    · exact⟨_,rfl⟩
    · rw [aZ]; split
      · exact⟨_,rfl⟩
      · exact⟨o,h⟩
  have zPE:∀X i,X≠L->(if X=L/\i=ii then g.sv M else g.iv X i)=g.iv X i:=λX i hx=>fB λe=>hx e.1;have zhd:∀i,i≠ii->(if L=L/\i=ii then g.sv M else g.iv L i)=g.iv L i:=λi hx=>fB λe=>hx e.2;have fF:∀X,X≠L->jb g ⟨g.h,g.bk,g.sv,λX i=>if X=L/\i=ii then g.sv M else g.iv X i⟩ X:=λX hx=>⟨rfl,rfl,funext λi=>zPE X i hx⟩;have hMk:kM≠k:=λe=>ja (S.sep L _ k M _ hL hM hkB (by rw[<- e];exact hMB));have zhe:∀b,gW ⟨g.h,g.bk,g.sv,λX i=>if X=L/\i=ii then g.sv M else g.iv X i⟩ L (.vv te bb e s OT len (mM ii m ln) (mM ii lM get)) b->gW g L (.vt te bb e s OT len ln get ii) b\/b=kM:=by
    rintro b (mf|⟨i,kN,mf⟩)
    · exact .inl (.inl mf)
    · by_cases e : i = ii
      · subst e;have mf:(if L=L/\i=i then g.sv M else g.iv L i).ownBlock=some b:=mf;rw[eX ⟨rfl,rfl⟩,hoM]at mf;simp only[bW]at mf;exact .inr mf.symm
      · have mf:(if L=L∧i=ii then g.sv M else g.iv L i).ownBlock=some b:=mf;rw[zhd i e]at mf;exact .inl (.inr ⟨i,kN,e,mf⟩)
  refine⟨S.dfr,S.size,λt d h=>zwj H (S.env t d h),?_,?_,?_,?_,S.le0,S.hn,S.below.trans (.of hb),EW S.bs hb.size,λt d h X hX=>?_,?_⟩
  · intro X o ho;rcases kD X o ho with ⟨rfl,rfl⟩ | ⟨rfl,rfl⟩ | ⟨n1,n2,ho⟩
    · refine ⟨⟨Iy, iF.2⟩, zPC, zEG, ?_, ?_, ?_⟩
      · refine ⟨by simp, ?_⟩;rcases zlG.2 with ⟨h1,h2⟩ | ⟨k',cap,cur,h1,hB,hg,hn,kE,jO,htk⟩
        · omega
        · rw [h1] at dh; simp only [Value.ownBlock, bW] at dh; subst dh;rw[hC] at hg;simp only[bW,Obj.cells.injEq] at hg;obtain⟨rfl,_⟩:=hg;refine .inr ⟨k',cap,_,h1,hB,Yu,hn,kE,by simpa using jO,?_⟩;apply qdq;intro j;have hj:=jX (λ l=>l[j]?) htk;simp only[I4,qdc] at hj;simp only[Array.toList_setIfInBounds,I4,qj6,qdc];by_cases hjn:j < len * 1
          · have zPF : j < len := by omega
            rw[eX hjn]at hj ⊢;rw[qjv zPF]at hj ⊢;simp only[QU]at hj ⊢;by_cases e:ii=j
            · subst e;rw[eX rfl,eX (by simp;omega)];simp
            · rw [fB e,hj];simp only[true_and];rw[fB (λx=>e x.symm)]
          · rw[fB hjn,qdt (by simp;omega)];rfl
      · intro i kN;by_cases e:i=ii
        · subst e;have e2:mM i m ln i=m:=by simp[mM]
          have e3:mM i lM get i=lM:=by simp[mM]
          rw[e2,e3];show(if X=X/\i=i then g.sv M else g.iv X i).oneCell'=true/\(m=0->(if X=X/\i=i then g.sv M else g.iv X i)=_)/\∃xs,w'.ownsRow B _ s (if X=X/\i=i then g.sv M else g.iv X i) m xs/\_;rw[eX ⟨rfl,rfl⟩];refine⟨by rw[hvM];rfl,λh=>absurd h omY,xsM,jl hxM λb mf=>qU b λe=>hMk ?_,hrM⟩;rw[hoM]at mf;simp only[bW]at mf;omega
        · have hbf : Nat.beq i ii = false := by cases hq : Nat.beq i ii with | true => exact absurd (kL hq) e | false => rfl
          have e2:mM ii m ln i=ln i:=by simp only[mM,hbf]
          have e3:mM ii lM get i=get i:=by simp only[mM,hbf]
          rw[e2,e3];show(if X=X/\i=ii then g.sv M else g.iv X i).oneCell'=true/\(ln i=0->(if X=X/\i=ii then g.sv M else g.iv X i)=_)/\∃xs,w'.ownsRow B _ s (if X=X/\i=ii then g.sv M else g.iv X i) (ln i) xs/\_;rw[zhd i e];obtain⟨x1,x2,xs,x3,x4⟩:=GR i kN e;exact⟨x1,x2,xs,jl x3 λb mf=>qU b λe'=>(IR i b kN e mf).1 (by rw[e'];exact dh),x4⟩
      · intro i b kN mf;have fresh:∀ j,j < len->j ≠ ii->(g.iv X j).ownBlock ≠ some kM:=λ j hj hji e=>ja (S.sep X _ kM M _ hL hM (.inr ⟨j,hj,hji,e⟩) hMB);by_cases e:i=ii
        · subst e;have mf:(if X=X/\i=i then g.sv M else g.iv X i).ownBlock=some b:=mf;rw[eX ⟨rfl,rfl⟩,hoM] at mf;simp only[bW] at mf;subst mf;refine⟨λ h=>hMk ?_,λ j hj hjb=>?_⟩
          · rw[dh]at h;simp only[bW]at h;exact h.symm
          · by_cases e : j = i
            · exact e.symm
            · have hjb:(if X=X∧j=i then g.sv M else g.iv X j).ownBlock=_:=hjb;rw[zhd j e]at hjb;exact(fresh j hj e hjb).elim
        · have mf : (if X = X ∧ i = ii then g.sv M else g.iv X i).ownBlock = some b := mf;rw[zhd i e] at mf;have Us:=mf;refine⟨(IR i b kN e mf).1,λ j hj hjb=>?_⟩;have hjb:(if X=X/\j=ii then g.sv M else g.iv X j).ownBlock=_:=hjb;by_cases e2:j=ii
          · subst e2;rw[eX ⟨rfl,rfl⟩,hoM]at hjb;simp only[bW]at hjb;subst hjb;exact(fresh i kN e Us).elim
          · rw [zhd j e2]at hjb;exact(IR i b kN e mf).2 j hj e2 hjb
    · trivial
    · cases o with
      | box ty cs =>
        obtain⟨C',hC2,hr⟩:=S.obj X _ ho;refine⟨C',?_,ztx H hr⟩;rw[qU _ λe=>n1 (S.sep X _ k L _ ho hL e hkB)];exact hC2
      | _=>exact jS (S.obj X _ ho) (fF X n1) (λ_ h=>by simp[dR]at h) (λ_ _ h=>h) λb mf=>qU b λe=>n1 (S.sep X _ b L _ ho hL mf (by rw[e];exact hkB))
  · intro X o b ho iy;rcases kD X o ho with ⟨rfl,rfl⟩ | ⟨rfl,rfl⟩ | ⟨n1,n2,ho⟩
    · rcases zhe b iy with h | rfl
      · exact S.own _ _ b hL h
      · exact S.own M _ _ hM hMB
    · exact iy.elim
    · rw[gJ (fF X n1)]at iy;exact S.own X o b ho iy
  · intro X o b Y o' ho kQ hb1 Us;rcases kD X o ho with ⟨rfl,rfl⟩ | ⟨rfl,rfl⟩ | ⟨n1,n2,nV⟩ <;> rcases kD Y o' kQ with ⟨rfl,rfl⟩ | ⟨rfl,rfl⟩ | ⟨n1',n2',nJ⟩
    · rfl
    · exact Us.elim
    · rw [gJ (fF Y n1')] at Us;rcases zhe b hb1 with h | rfl
      · exact S.sep _ _ b Y _ hL nJ h Us
      · exact(n2' (S.sep M _ _ Y _ hM nJ hMB Us).symm).elim
    · exact hb1.elim
    · exact hb1.elim
    · exact hb1.elim
    · rw [gJ (fF X n1)] at hb1;rcases zhe b Us with h | rfl
      · exact S.sep X _ b _ _ nV hL hb1 h
      · exact(n2 (S.sep X _ _ M _ nV hM hb1 hMB)).elim
    · exact Us.elim
    · rw [gJ (fF X n1)]at hb1;rw[gJ (fF Y n1')]at Us;exact S.sep X _ b Y _ nV nJ hb1 Us
  · exact S.hw.same λb x EU=>qU b λe=>by subst e;have:=(S.own L _ b hL hkB).2;rw[EU]at this;cases this
  · obtain⟨o,ho⟩:=S.clE t d h X hX;exact yh X o ho
  · intro X o ho Y hY;rcases kD X o ho with ⟨rfl,rfl⟩ | ⟨rfl,rfl⟩ | ⟨n1,n2,ho⟩
    · simp[dR]at hY
    · simp[dR]at hY
    · obtain⟨o',kQ⟩:=S.clO X o ho Y hY;exact yh Y o' kQ
theorem zdM{o:Oper}{t:TypeId}{x y:Operand}{A:aC}(S:cO P nt B w0 h0 g σ a w)(hd:dJ nt o.dst=true)(bu:o.op = .store t x y)
    (hA:act P Γ o (fU σ.env) (lk σ.aB)=A) (hs:A.safe):jo P nt B w0 h0 r n i o A σ a w Q:=by
  simp only[act,aSt,bu]at hA;split at hA
  · rename_i m L off d jO hx hy;have yB:=(iJ S hx).1;simp only[jg] at yB;have hdR:=S.ev y;have hdL:=S.evLab y;rw[hy] at hdR hdL;split at hA
    · rename_i ty cells hL;obtain⟨C,hC,hr⟩:=S.obj L _ hL;split at hA
      · rename_i dC;simp only[gG,Uz] at dC;obtain⟨⟨hm,hle⟩,gp⟩:=dC;have hm:=kL hm;subst hA;have Um:=ve hdR gp;have Aq:=Um.length;have nT:=hr.length;have hvm:(a.eval y).cells.size=m:=by rw[<- hm,Aq];simp
        have hCl:cells.length=C.size:=by rw[nT];simp
        obtain⟨w',dA,hb,Yv,qU,h5,h6,h7,h8⟩:=wI (P:=P) (m:=m) (off:=off) (v:=a.eval y) jO hvm hC omY (cells_one hdR gp);have jd:=S.own L _ _ hL rfl
        have S' := S.write (o' := .box ty (spl cells off d.cells)) hL (fun b hb => hb) (CV jd.1 Yv qU h5 h6 h7 h8) (fun b hb => qU b (fun e => hb (by rw [e]; rfl)))
          ⟨_,hb,by simpa using hr.spl Um off⟩ (λM hM=>by
            rcases zbx off M hM with h|h
            · exact S.clO L _ hL M h
            · refine hdL M ?_;cases d with
              | c z=>simpa [D1.cells,df,dE]using h
              | agg cs=>simpa [D1.cells,df,dE]using h)
        refine Jb (by simp[bu]) (w':=w') ?_ ⟨g,_,rfl,by rw[gm];exact S'.put hd (d:=.junk) trivial Kv _⟩;simp only[execOp,bu,Sem.run_bind,Instr.storeAt,yB,Instr.sureAddr,Sem.run_pure,Result.andThen_ok,dA]
      · subst hA;exact hs.elim
    · subst hA;exact hs.elim
  · rename_i m L s ii kk d jO hx hy;obtain⟨b,dh,yB⟩:=(iJ S hx).1;have hdR:=S.ev y;rw[hy] at hdR;split at hA
    · rename_i e s' OT len get hL;split at hA
      · rename_i l hl;split at hA
        · rename_i dC;simp only[gG,Uz] at dC;obtain⟨⟨⟨OQ,hm⟩,hle⟩,sF⟩:=dC;have OQ:=kL OQ;have hm:=kL hm;subst OQ;subst hA;have iC:ii < len:=hs;have hcs:=oz hl;have gp:d.cells.all Ci=true:=by rw[hcs];exact znk l
          have Um:=ve hdR gp;have Aq:=Um.length;rw[hcs]at Um;have Um:=RL.map_left.1 Um;obtain⟨b',C,iy,⟨cap,l9⟩,hC,hCs,hgl,_⟩:=vk (S.obj L _ hL) iC;rw[dh]at iy;simp only[bW]at iy;subst iy;have hlc:l.length=(a.eval y).cells.size:=by rw[hcs,dqU]at Aq;simpa using Aq
          obtain⟨w',dA,hb,Yv,qU,h5,h6,h7,h8⟩:=wI (P:=P) (v:=a.eval y) jO omY hC (show ii*s+kk+m<=C.size by omega) (cells_one hdR gp);have jd:=S.own L _ _ hL dh;have Iy:=(S.obj L _ hL).1.1;have hu0:=(Iy 0 ii).length;have hvr:=znm (S.obj L _ hL) dh iC omY hC hb Um (zbt Iy omY (by rw[hm];exact sF) (yJ Um));have hnz:nzG (get 0) (yu ii kk get l)=yu ii kk get l:=Zc λj=>by
            have h1:=zbt (i:=ii) Iy (show kk+l.length<=(get 0).length by omega) (by rw[hm];exact sF) (yJ Um) (ii+1) j;have h2:yu ii kk get l (ii+1)=get (ii+1):=by unfold yu;rw[show Nat.beq (ii+1) ii=false from Bool.eq_false_iff.2 λh=>by have:=kL h;omega]
            rw[h2]at h1;exact(Iy 0 (ii+1)).trans h1
          rw[hnz];have S':=S.write (o':=.vec e s OT len (yu ii kk get l)) hL (λb hb=>hb) (CV jd.1 Yv qU h5 h6 h7 h8) (λk hk=>qU k (λe=>hk (by rw[e];exact dh))) hvr (λM hM=>by simp[dR]at hM);refine Jb (by simp[bu]) (w':=w') ?_ ⟨g,_,rfl,by rw[gm];exact S'.put hd (d:=.junk) trivial Kv _⟩;simp only[execOp,bu,Sem.run_bind,Instr.storeAt,yB,Instr.sureAddr,Sem.run_pure,Result.andThen_ok,dA]
        · subst hA;exact hs.elim
      · subst hA;exact hs.elim
    · rename_i te bb e s' OT len ln get io hL;split at hA
      · rename_i M;split at hA
        · rename_i e2 s2 b2 mm lM hM;split at hA
          · rename_i dC;simp only[gG,NR] at dC;obtain⟨⟨⟨h1,h2⟩,h3⟩,h4⟩:=dC;have h1:=kL h1;have h2:=kL h2;have h3:=kL h3;have h4:=qde h4;subst h1 h2 h3;split at hA
            · rename_i hq;obtain⟨rfl,rfl,rfl,sF⟩:=hq;subst hA;have hnz:zgT (get 0 0) (mM ii lM get)=mM ii lM get:=zm9 λi j=>by
                have h1:=zbB (ii:=ii) (S.obj L _ hL).1.1 (S.obj M _ hM).1.1 sF (ii+1) 0 i j;have h2:mM ii lM get (ii+1)=get (ii+1):=by unfold mM;rw[show Nat.beq (ii+1) ii=false from Bool.eq_false_iff.2 λh=>by have:=kL h;omega]
                rw[h2]at h1;exact((S.obj L _ hL).1.1 0 0 (ii+1) 0).trans h1
              rw[hnz];have iC:ii<len/\ii=io/\0<mm:=hs;obtain⟨zKI,rfl,zXk⟩:=iC;obtain⟨b',C,cap,l9,hC,nS⟩:=Vl (S.obj L _ hL) zKI;obtain⟨_,hB,zKD⟩:∃_:True,B<=b'/\ii<C.size:=⟨trivial,(S.own L _ b' hL (.inl (by rw[l9];rfl))).1,(UV.1 nS).1⟩;rw[l9]at dh;simp only[Value.ownBlock,bW]at dh;subst dh;have QI:a.eval y=g.sv M/\_:=hdR;have Aq:(a.eval y).cells = #[g.sv M]:=by
                obtain⟨_,_,xsM,hxM,_⟩:=S.obj M _ hM;rw[QI.1];rcases hxM.2 with⟨h1,_⟩|⟨_,_,_,h1,_⟩<;>rw[h1]<;>rfl
              have hoc:(g.sv M).oneCell'=true:=by
                obtain⟨_,_,xsM,hxM,_⟩:=S.obj M _ hM;rcases hxM.2 with⟨h1,_⟩|⟨_,_,_,h1,_⟩<;>rw[h1]<;>rfl
              obtain⟨w',dA,hb,Yv,qU,h5,h6,h7,h8⟩:=wI (P:=P) (m:=1) (off:=ii*1+0) (v:=a.eval y) jO (by rw[Aq];rfl) hC omY (by rw[Aq];simpa using hoc);have mf:w'.heap[b']? = some (.cells (C.setIfInBounds ii (g.sv M)) te (0,0)):=by
                rw[hb,Aq];congr 2;simp only[spl];apply Array.toList_inj.1;simp
              have S':=S.setVec hL hM h4 zKI zXk (zbB (S.obj L _ hL).1.1 (S.obj M _ hM).1.1 sF) (by rw[l9];rfl) hC mf qU (CV hB Yv qU h5 h6 h7 h8);refine Jb (by simp[bu]) (w':=w') ?_ ⟨_,_,rfl,by rw[gm];exact S'.put hd (d:=.junk) trivial Kv _⟩;simp only[execOp,bu,Sem.run_bind,Instr.storeAt,yB,Instr.sureAddr,Sem.run_pure,Result.andThen_ok,dA]
            · subst hA;exact hs.elim
          · subst hA;exact hs.elim
        · subst hA;exact hs.elim
      · subst hA;exact hs.elim
    · subst hA;exact hs.elim
  · subst hA;exact hs.elim
end
end Go.Pm
namespace Go.Pm
variable [aJ]
open Go.RowKit (Below)
section
variable{P:Program}{Γ:bU}{nt B:Nat}{w0:World}{h0:Fz}{g:Gh}{σ:St}{a:Act}{w:World}{r:Option Nat}{n i:Nat}{Q:Exit->Act->World->Prop}
theorem He{ob:Nat→Option AO}:∀{cs:List Cl}{l:List PV}{u:mF},jE ob cs=some (l,u)→cs.all Ci=true∧l.length=cs.length
  | [],l,u,h=>by simp[jE]at h;rw[h.1];exact⟨rfl,rfl⟩
  | c::cs,l,u,h=>by
    simp only[jE]at h;split at h
    · rename_i v u1 l2 u2 h1 h2;simp only[bW,gy]at h;rw[<- h.1];obtain⟨h3,h4⟩:=He h2;refine⟨?_,by simp[h4]⟩;have:Ci c=true:=by
        unfold Ae at h1;split at h1
        · rfl
        · rfl
        · cases h1
      simp[this,h3]
    · cases h
theorem Kw{ob:Nat->Option AO}{ev:Operand->DV}{s:Nat}:∀(parts:List (Nat×Operand))(i:Nat)(ls:List (List PV))(u:mF)(jh:List Nat),
  jy ob ev s i parts=some (ls,u,jh)->fE ob u
 | [],i,ls,u,jh,h=>by simp[jy]at h;rw[h.2.1];exact fE.nil ob
 | (j,o)::r,i,ls,u,jh,h=>by
  simp only[jy]at h;split at h
  ·split at h
   ·split at h
    ·rename_i h1 h2;split at h
     ·simp only [bW,gy]at h;rw[<- h.2.1];exact(J7 h1).append (Kw r _ _ _ _ h2)
     ·cases h
    ·cases h
   ·cases h
  ·cases h
theorem Ky{ob:Nat→Option AO}{ev:Operand→DV}{ρ:Operand→Value}{s:Nat}{u':mF}{h':Fz}(hev:∀o,rH g (ev o) (ρ o))(F:fK g ob u' h') :
    ∀(parts:List (Nat×Operand))(i:Nat)(ls:List (List PV))(u:mF)(jh:List Nat)(C:Array Value)(N:Nat),jy ob ev s i parts=some (ls,u,jh)->(∀y∈u,y∈u') ->
      C.size=N*s->i+ls.length<=N ->
      ∃ D:Array Value,Instr.fill (λ k=>some (k * s,s)) C (parts.map λ x=>(x.1,ρ x.2))=some D/\D.size=C.size/\(∀ q,q < i * s->D[q]? = C[q]?) /\
        ∀k l,ls[k]? = some l->RL (Rep h') l ((D.toList.drop ((i+k)*s)).take s)
  | [],i,ls,u,jh,C,N,h,hu,hC,hN=>by
    simp[jy]at h;refine⟨C,rfl,rfl,λ_ _=>rfl,?_⟩;intro k l hk;rw[h.1]at hk;simp at hk
  | (j,o)::r,i,ls,u,jh,C,N,h,hu,hC,hN=>by
    have hd:=hev o;simp only[jy]at h;split at h
    · rename_i O5;have O5:=kL O5;subst O5;split at h
      · rename_i d he;rw[he] at hd;split at h
        · rename_i l1 u1 ls1 us1 zEJ h1 h2;split at h
          · rename_i hlen;have hlen:=kL hlen;simp only[bW,gy]at h;obtain⟨hls,NL,_⟩:=h;subst hls;rw[<- NL]at hu;obtain⟨gp,hll⟩:=He h1;have Um:=ve hd gp;have Aq:=Um.length;have zfR:=F.repL0 h1 (λy hy=>hu y (dU.2 (.inl hy))) Um;have jK:(ρ o).cells.size=s:=by
              have:(ρ o).cells.toList.length=(ρ o).cells.size:=by simp
              omega
            simp only[Cc]at hN;have hb:i*s+s<=N*s:=by have:=QX s (show i+1<=N by omega);rw[Ur]at this;exact this
            obtain ⟨D, hD, hDs, za7, GR⟩ := Ky hev F r (i + 1) ls1 us1 zEJ (spl C.toList (i * s) (ρ o).cells.toList).toArray N h2 (fun y hy => hu y (dU.2 (.inr hy)))
              (by simp[lQ,hC]) omY
            have jO:(spl C.toList (i*s) (ρ o).cells.toList).toArray.size=C.size:=by simp[lQ]
            have za9:∀q,(spl C.toList (i*s) (ρ o).cells.toList).toArray[q]? = if i*s<=q/\q<i*s+s then(ρ o).cells.toList[q-i*s]? else C[q]?:=by
              intro q;simp only[jqd];rw[CO _ _ _ _ (by simp[jK,hC];omega)];simp[jK]
            refine⟨D,?_,hDs.trans jO,?_,?_⟩
            · simp only [oU, Instr.fill];have h3 : ¬ ((decide ((ρ o).cells.size ≠ s) || decide (i * s+(ρ o).cells.size > C.size))=true):=by simp[jK,hC];omega
              rw[fB h3,<- hD];refine jX (λz=>Instr.fill _ z _) ?_;have:=Fv (i*s) (ρ o).cells.toList 0 C;rw[qjd]at this;rw[<- this];cases(ρ o).cells;simp
            · intro q hq;rw[za7 q (by rw[Ur];omega),za9,fB omY]
            · intro k l hk;cases k with
              | zero =>
                simp only[qdM,bW]at hk;subst hk;have e:(D.toList.drop ((i+0)*s)).take s=(ρ o).cells.toList:=by
                  apply qdq;intro q;by_cases hq:q<s
                  · rw [I4,eX hq,qdr,qjd];have:=za7 (i*s+q) (by rw[Ur];omega);rw[za9,eX omY,show i*s+q-i*s=q by omega]at this;simpa using this
                  · rw [I4,fB hq];symm;apply qdt;simp[jK];omega
                rw[e];exact zfR
              | succ k =>
                have:=GR k l (by simpa using hk);rwa[show i+1+k=i+(k+1)by omega]at this
          · cases h
        · cases h
      · cases h
    · cases h
theorem Kz(ls:List (List PV))(k:Nat)(h:k<ls.length):ls[k]? = some (AZ ls k):=by
 unfold AZ;split
 ·simp at h
 ·rename_i c;simp at h;subst h;rfl
 ·rename_i c r _;have:∃x,(c::r)[k]? = some x:=⟨_,BR h⟩;obtain⟨x,hx⟩:=this;simp only[hx]
theorem jc{e:TypeId}{z:List Cl}(hz:gV P e=some z){ie:TypeInfo}(hi:P.info? e=some ie):∃v,ie.zero=some v/\v.cells.size=ie.size:=by
 obtain⟨i',v,h1,h2,h3⟩:=zdC hz;rw[hi]at h1;simp only[bW]at h1;subst h1;exact⟨v,h2,h3⟩
theorem KA{o:Oper}{t:TypeId}{m:Nat}{parts:Array (Nat×Operand)}{A:aC}(S:cO P nt B w0 h0 g σ a w)(hd:dJ nt o.dst=true)(bu:o.op = .buildSlice t m parts)
    (hA:act P Γ o (fU σ.env) (lk σ.aB)=A) (hs:A.safe):jo P nt B w0 h0 r n i o A σ a w Q:=by
  simp only[act,aBs,bu]at hA;split at hA
  · rename_i e hu;split at hA
    · rename_i ie hi;split at hA
      · rename_i ls u jh hp;split at hA
        · rename_i z dst dC hz GL;split at hA
          · rename_i ig;simp only[gG,Uz] at dC;obtain⟨⟨⟨hm,zXj⟩,iF⟩,sF⟩:=dC;have hm:=kL hm;subst hA;obtain⟨zv,GM,Ak⟩:=jc hz hi;have gp:=Kw _ _ _ _ _ hp;obtain⟨h',S1,F⟩:=S.freeze gp;have jO:qA P e=some ie.size:=by simp[qA,hi]
            obtain⟨D,hD,hDs,_,GR⟩:=Ky (λx=>S.ev x) F parts.toList 0 ls u jh ((Array.range (m*ie.size)).map (zv.cells[· % zv.cells.size]!)) m hp (λ_ h=>h) (by simp) omY;have znn:D.size=m*ie.size:=by rw[hDs];simp
            have hmm:m<=1000000:=EW (Nat.le_mul_of_pos_right m iF) zXj;let w':=w.alloc (.cells D e);have dA:(execOp a.eval o).run P w=.ok (.value (.slice (some ⟨w.heap.size,0,none⟩) m m)) w':=by
              simp only[execOp,bu,Instr.buildSlice,Sem.run_bind,run_underlying hu,Result.andThen_ok,run_sizeOf jO];rw[Sem.run_ite,fB omY];by_cases h00:m*ie.size=0
              · have hm0:m=0:=by
                  rcases Nat.mul_eq_zero.1 h00 with h|h
                  · exact h
                  · omega
                subst hm0;have hpn:parts.toList=[]:=by
                  cases Ob:parts.toList with
                  | nil=>rfl
                  | cons x xs =>
                    rw[Ob]at hp;obtain⟨j,q⟩:=x;simp only[jy]at hp;split at hp
                    · split at hp
                      · split at hp
                        · split at hp
                          · simp only [bW,gy]at hp;rw[<- hp.1]at hm;simp at hm
                          · cases hp
                        · cases hp
                      · cases hp
                    · cases hp
                have hDe:D = #[]:=by apply Array.eq_empty_of_size_eq_zero;simp[znn]
                rw[eX (by simp)];simp only[Sem.run_bind,Sem.run_pure,Result.andThen_ok,qjM,hpn,qd3,Instr.fill];simp only[hDe,newRow,qzb,Sem.run_bind,run_newObj,Result.andThen_ok,Sem.run_pure,w'];rw[show(Array.range 0) = #[]from rfl,List.map_toArray];rfl
              · rw [fB h00];simp only[Sem.run_bind,lD hi GM,Sem.run_pure,Result.andThen_ok,qjM];rw[hD];simp[w',newRow]
            have hnz:nzG (AZ (ls.map (Ag P e)) 0) (AZ (ls.map (Ag P e)))=AZ (ls.map (Ag P e)):=Zc λi=>U3 (λc hc=>by
              obtain⟨c,hc,rfl⟩:=xR.1 hc;obtain⟨k,hk⟩:=Za ‹c∈ls›;exact yJ (uX (GR k _ hk))) sF 0 i
            rw[hnz];have zhf:CJ P ((⟨h',g.bk,g.sv,g.iv⟩:Gh).setSv dst (.slice (some ⟨w.heap.size,0,none⟩) m m)) w' B dst e ie.size ie.bytes m (AZ (ls.map (Ag P e))):=by
              refine⟨⟨U3 (λc hc=>?_) sF,iF⟩,⟨ie,zv,hi,rfl,rfl,GM,Ak⟩,D.toList,?_,?_⟩
              · obtain⟨c,hc,rfl⟩:=xR.1 hc;obtain⟨k,hk⟩:=Za ‹c∈ls›;exact yJ (uX (GR k _ hk))
              · rw [show ((⟨h', g.bk, g.sv, g.iv⟩ : Gh).setSv dst (.slice (some ⟨w.heap.size, 0, none⟩) m m)).sv dst = .slice (some ⟨w.heap.size, 0, none⟩) m m by simp [Gh.setSv]];refine⟨by simpa using znn,.inr ⟨w.heap.size,m,D,rfl,S.bs,heap_alloc_new w _,kC _,?_,znn,?_⟩⟩
                · simp only[maxLen];omega
                · rw[<- znn,<- qju,List.take_length]
              · intro k hk;have:=GR k _ (Kz ls k omY);rw[NV]at this;have e2:AZ (ls.map (Ag P e)) k=Ag P e (AZ ls k):=by
                  have h1:=Kz (ls.map (Ag P e)) k (by rw[dqU];omega);rw[qdc,Kz ls k omY,QU,bW]at h1;exact h1.symm
                rw[e2];exact uX this
            have zXR:lk (u++σ.aB) dst=none:=by
              rw[gX];cases hl:lk u dst with
              | none=>exact ig
              | some x =>
                have:=gp _ (fM hl);rcases this with⟨_,_,_,_,_,h5,_⟩|⟨_,_,_,_,h5,_⟩|⟨_,_,_,_,_,_,_,_,h5,_⟩<;>(simp only at h5;rw[ig]at h5;cases h5)
            have S2:=S1.newVec (t:=dst) (w':=w') zXR ⟨(Below.refl B w).alloc S.bs _,kC _⟩ (λb hb=>heap_alloc_old w _ b hb) (λb hb=>by simp[Value.ownBlock]at hb;omega) zhf;refine pV (by simp[bu]) dA ⟨(⟨h',g.bk,g.sv,g.iv⟩:Gh).setSv dst (.slice (some ⟨w.heap.size,0,none⟩) m m),σ.upd i o.dst (wr jh++[(dst,true)]) (.cl (.vec dst)) ((dst,.vec e ie.size ie.bytes m (AZ (ls.map (Ag P e))))::u) [],rfl,?_⟩;rw[gm];refine S2.put (v:=.slice (some ⟨w.heap.size,0,none⟩) m m) hd (d:=.cl (.vec dst)) ?_ ?_ _
            · simp[rH,AA,jg,Gh.setSv,Value.oneCell']
            · intro L hL;simp[df,dE,bD]at hL;subst hL;exact⟨_,by rw[aZ,eX rfl]⟩
          · subst hA;exact hs.elim
        · subst hA;exact hs.elim
      · subst hA;exact hs.elim
    · subst hA;exact hs.elim
  · subst hA;exact hs.elim
end
end Go.Pm
namespace Go.Pm
variable [aJ]
open Go.RowKit (Below)
theorem oZ{α:Type}{f:α->α}{l:List (Nat×α)}{k:Nat}:lk (kills f l) k=(lk l k).map f:=by
 induction l with
 | nil=>rfl
 | cons x l ih =>
  obtain⟨j,a⟩:=x;rw[kills,aZ,aZ];split
  ·rfl
  ·exact ih
section
variable{P:Program}{Γ:bU}{nt B:Nat}{w0:World}{h0:Fz}{g:Gh}{σ:St}{a:Act}{w:World}{r:Option Nat}{n i:Nat}{Q:Exit->Act->World->Prop}
theorem zbC{l:List Nat}{g':Gh}(hh:jV g.h g'.h)(ui:∀M,g'.bk M=g.bk M)(hs:∀M,M∉l->jb g g' M){c:Cl}{x:Value}(h:jg g c x):jg g' (gq l c) x:=by
 cases c with
 | p v=>exact Rep.mono hh h
 | ptr M off=>simp only[gq,jg]at h ⊢;rw[ui M];exact h
 | vptr M s k q =>
  show jg g' (match l.contains M with|true=>.dead M|false=>.vptr M s k q) x;cases hM:l.contains M with
  | true=>trivial
  | false =>
   have ja:M∉l:=by simpa using hM
   simpa [jg,(hs M ja).2.1]using h
 | vec M =>
  show jg g' (match l.contains M with|true=>.dead M|false=>.vec M) x;cases hM:l.contains M with
  | true=>trivial
  | false =>
   have ja:M∉l:=by simpa using hM
   simpa [jg,(hs M ja).2.1]using h
 | mo M =>
  show jg g' (match l.contains M with|true=>.dead M|false=>.mo M) x;cases hM:l.contains M with
  | true=>trivial
  | false =>
   have ja:M∉l:=by simpa using hM
   simpa [jg,(hs M ja).2.1]using h
 | clo f caps=>obtain⟨cv,e,hr⟩:=h;exact⟨cv,e,qX (λ_ _=>Rep.mono hh) (λM _=>ui M) hr⟩
 | undef=>exact h
 | junk=>trivial
 | dead M=>trivial
theorem CW{l:List Nat}{g':Gh}(hh:jV g.h g'.h)(ui:∀M,g'.bk M=g.bk M)(hs:∀M,M∉l→jb g g' M):∀{cs:List Cl}{vs:List Value},RL (jg g) cs vs→RL (jg g') (cs.map (gq l)) vs
  | [],[],_=>trivial
  | [],_::_,h=>h.elim
  | _::_,[],h=>h.elim
  | _::_,_::_,h=>⟨zbC hh ui hs h.1,CW hh ui hs h.2⟩
theorem Vt{l:List Nat}{g':Gh}(hh:jV g.h g'.h)(ui:∀M,g'.bk M=g.bk M)(hs:∀M,M∉l->jb g g' M){d:D1}{x:Value}(h:AA g d x):AA g' (fV l d) x:=by
 cases d with
 | c y=>exact zbC hh ui hs h
 | agg cs=>obtain⟨vs,rfl,hr⟩:=h;exact⟨vs,rfl,CW hh ui hs hr⟩
theorem PO{l:List Nat}{g':Gh}(hh:jV g.h g'.h)(ui:∀M,g'.bk M=g.bk M)(hs:∀M,M∉l→jb g g' M):∀{cs:List D1}{vs:List Value},RL (AA g) cs vs→RL (AA g') (cs.map (fV l)) vs
  | [],[],_=>trivial
  | [],_::_,h=>h.elim
  | _::_,[],h=>h.elim
  | _::_,_::_,h=>⟨Vt hh ui hs h.1,PO hh ui hs h.2⟩
theorem zbD{l:List Nat}{g':Gh}(hh:jV g.h g'.h)(ui:∀M,g'.bk M=g.bk M)(hs:∀M,M∉l->jb g g' M){d:DV}{x:Value}(h:rH g d x):rH g' (gI l d) x:=by
 cases d with
 | one y=>exact Vt hh ui hs h
 | tup ds=>obtain⟨vs,rfl,hr⟩:=h;exact⟨vs,rfl,PO hh ui hs hr⟩
theorem PP{l:List Nat}{c:Cl}:∀M∈bD (gq l c),M∈bD c:=by
 intro M hM;cases c with
 | vec K =>
  have hM:M∈bD (match l.contains K with|true=>.dead K|false=>.vec K):=hM;cases h:l.contains K with
  | true=>rw[h]at hM;exact hM
  | false=>rw[h]at hM;exact hM
 | vptr K s k q =>
  have hM:M∈bD (match l.contains K with|true=>.dead K|false=>.vptr K s k q):=hM;cases h:l.contains K with
  | true=>rw[h]at hM;exact hM
  | false=>rw[h]at hM;exact hM
 | mo K =>
  have hM:M∈bD (match l.contains K with|true=>.dead K|false=>.mo K):=hM;cases h:l.contains K with
  | true=>rw[h]at hM;exact hM
  | false=>rw[h]at hM;exact hM
 | _=>exact hM
theorem PQ{l:List Nat}{cs:List Cl}:∀M∈(cs.map (gq l)).flatMap bD,M∈cs.flatMap bD:=by
 intro M hM;simp only[lK,xR]at hM ⊢;obtain⟨_,⟨c,hc,rfl⟩,hM⟩:=hM;exact⟨c,hc,PP M hM⟩
theorem KC{l:List Nat}{d:D1}:∀M∈dE (fV l d),M∈dE d:=by
 cases d with
 | c y=>exact PP
 | agg cs=>exact PQ
theorem PR{l:List Nat}{d:DV}:∀M∈df (gI l d),M∈df d:=by
 cases d with
 | one y=>exact KC
 | tup ds =>
  intro M hM;simp only[gI,df,lK,xR]at hM ⊢;obtain⟨_,⟨d,hd,rfl⟩,hM⟩:=hM;exact⟨d,hd,KC M hM⟩
theorem PS{l:List Nat}{o:AO}:∀M∈dR (fD l o),M∈dR o:=by
 cases o with
 | box ty cs=>exact PQ
 | _=>exact λ_ h=>h
theorem cO.regrow(S:cO P nt B w0 h0 g σ a w){L:Nat}{o0 o':AO}{g':Gh}{w':World}{gs:List (Nat×AO)}{row:Option Nat}(hL:lk σ.aB L=some o0)
    (hh:g'.h=g.h) (ui:∀M,g'.bk M=g.bk M) (hs:∀M,M≠L->jb g g' M) (hgs:∀x∈gs,x.2=.gone/\x.1≠L)
    (hg:GrB w w' row) (zlG:∀k,row=some k->gW g L o0 k)
    (dh:∀k,gW g' L o' k->gW g L o0 k\/w.heap.size<=k\/∃T oT,(T,.gone)∈gs/\lk σ.aB T=some oT/\gW g T oT k)
    (hv:NZ P g' w' B L o') (Am:dR o'=[]) (log:List (Nat×Nat×Nat)) :
    cO P nt B w0 h0 g' ⟨kills (gI [L]) σ.env,(L,o')::(gs++kills (fD [L]) σ.aB),log⟩ a w':=by
  have kD:∀M x,lk ((L,o')::(gs++kills (fD [L]) σ.aB)) M=some x->(M=L/\x=o')\/x=.gone\/(M≠L/\(M,.gone)∉gs/\∃o,lk σ.aB M=some o/\x=fD [L] o):=by
    intro M x h;rw[aZ]at h;split at h
    · rename_i e;simp only[bW]at h;exact .inl ⟨e.symm,h.symm⟩
    · rename_i e;rw[gX]at h;cases hgM:lk gs M with
      | some y =>
        rw[hgM]at h;simp only[bW]at h;subst h;exact .inr (.inl (hgs _ (fM hgM)).1)
      | none =>
        rw[hgM]at h;simp only[]at h;rw[oZ]at h;obtain⟨o,ho,rfl⟩:=YQ.1 h;exact .inr (.inr ⟨λe'=>e e'.symm,Rl hgM _,o,ho,rfl⟩)
  have yh:∀M o,lk σ.aB M=some o->∃x,lk ((L,o')::(gs++kills (fD [L]) σ.aB)) M=some x:=by
    intro M o h;rw[aZ];split
    · exact⟨_,rfl⟩
    · rw [gX];cases lk gs M with
      | some y=>exact⟨y,rfl⟩
      | none=>rw[oZ,h];exact⟨_,rfl⟩
  have KD:∀M o,M≠L->gW g' M (fD [L] o)=gW g M o:=by
    intro M o ja;have:=hs M ja;funext k;cases o<;>simp[fD,gW,this.1,this.2.1,this.2.2]
  have hold:∀k,k<w.heap.size->¬gW g L o0 k->w'.heap[k]? = w.heap[k]?:=λk hk ja=>hg.block k hk (λe=>ja (zlG k e.symm));have Oa:Hw g.h w':=S.hw.same λk o hk=>hold k (vg S.hw hk) (λe=>by have:=(S.own L o0 k hL e).2;rw[this]at hk;cases hk);have su:J3 B w w':=⟨⟨hg.os,hg.tape,hg.output,hg.size,λk hk=>hold k (qdF hk S.bs) (λe=>by have:=(S.own L o0 k hL e).1;omega)⟩,hg.drawn⟩;have Ul:∀k,w.heap.size<=k->B<=k/\g.h k=none:=λk hk=>by
    refine⟨EW S.bs hk,?_⟩;cases hh:g.h k with
    | none=>rfl
    | some x=>exact absurd (vg S.hw hh) omY
  refine⟨by rw[hh];exact S.dfr,S.size,?_,?_,?_,?_,by rw[hh];exact Oa,by rw[hh];exact S.le0,by rw[hh];exact S.hn,S.below.trans (.of su),EW S.bs hg.size,?_,?_⟩
  · intro t d ht;rw[oZ]at ht;obtain⟨d',gu,rfl⟩:=YQ.1 ht;exact zbD (by rw[hh];exact λ_ _ h=>h) ui (λM hM=>hs M (by simpa using hM)) (S.env t d' gu)
  · intro M x hx;rcases kD M x hx with ⟨rfl,rfl⟩ | rfl | ⟨ja,hng,o,ho,rfl⟩
    · exact hv
    · trivial
    · have IU:∀k,gW g M o k->w'.heap[k]? = w.heap[k]?:=λk hk =>
        hold k (iI (S.obj M o ho) hk) (λe=>ja (S.sep M o k L _ ho hL hk e))
      have hr:=S.obj M o ho;have hsM:=hs M ja;have hle:jV g.h g'.h:=by rw[hh];exact λ_ _ h=>h
      cases o with
      | box ty cs =>
        obtain⟨C,hC,hr⟩:=hr;exact⟨C,by rw[ui M,IU _ rfl];exact hC,CW (by rw[hh];exact λ_ _ h=>h) ui (λM hM=>hs M (by simpa using hM)) hr⟩
      | fbox cs =>
        obtain⟨C,ty,fr,hC,hr⟩:=hr;exact⟨C,ty,fr,by rw[hh,ui M];exact hC,by rw[hh];exact hr⟩
      | vec e' s' b' m2 lM=>exact PK hr hsM.2.1 hle IU
      | fvec s' m2 lM =>
        simp only[fD,NZ]at hr ⊢;rw[hsM.2.1,hh];exact hr
      | vv te bb e' s' b' m2 ln2 lM=>exact Vf hr hsM hle IU
      | vt te bb e' s' b' m2 ln2 lM o2=>exact Vg hr hsM hle IU
      | mo kt vt q m2 F =>
        obtain⟨es,clock,hC,hr⟩:=hr;exact⟨es,clock,by rw[hsM.2.1,IU _ rfl];exact hC,hr⟩
      | gone=>trivial
  · intro M x k hx hk;rw[hh];rcases kD M x hx with ⟨rfl,rfl⟩ | rfl | ⟨ja,hng,o,ho,rfl⟩
    · rcases dh k hk with h | h | ⟨T, oT, _, hT, h⟩
      · exact S.own M o0 k hL h
      · exact Ul k h
      · exact S.own T oT k hT h
    · exact hk.elim
    · rw [KD M o ja]at hk;exact S.own M o k ho hk
  · intro M x k M' x' hx yB hk jJ;have QJ:∀M o,lk σ.aB M=some o->M≠L->(M,.gone)∉gs->gW g M o k->gW g' L o' k->False:=by
      intro M o ho ja hng hk jJ;rcases dh k jJ with h|h|⟨T,oT,hT,hT2,h⟩
      · exact ja (S.sep M o k L _ ho hL hk h)
      · exact absurd (iI (S.obj M o ho) hk) omY
      · exact hng (by rw[S.sep M o k T oT ho hT2 hk h];exact hT)
    rcases kD M x hx with⟨rfl,rfl⟩|rfl|⟨ja,hng,o,ho,rfl⟩<;>rcases kD M' x' yB with⟨rfl,rfl⟩|rfl|⟨zfT,zPG,o2,nV,rfl⟩
    · rfl
    · exact jJ.elim
    · rw [KD M' o2 zfT]at jJ;exact(QJ M' o2 nV zfT zPG jJ hk).elim
    · exact hk.elim
    · exact hk.elim
    · exact hk.elim
    · rw [KD M o ja]at hk;exact(QJ M o ho ja hng hk jJ).elim
    · exact jJ.elim
    · rw [KD M o ja]at hk;rw [KD M' o2 zfT]at jJ;exact S.sep M o k M' o2 ho nV hk jJ
  · intro t d ht M hM;rw[oZ]at ht;obtain⟨d',gu,rfl⟩:=YQ.1 ht;obtain⟨o,ho⟩:=S.clE t d' gu M (PR M hM);exact yh M o ho
  · intro M x hx N hN;rcases kD M x hx with ⟨rfl,rfl⟩ | rfl | ⟨ja,hng,o,ho,rfl⟩
    · rw[Am]at hN;simp at hN
    · simp[dR]at hN
    · obtain⟨o2,nV⟩:=S.clO M o ho N (PS N hN);exact yh N o2 nV
theorem cO.grow(S:cO P nt B w0 h0 g σ a w){L e s b m m':Nat}{get get':Nat→List PV}{v':Value}{w':World}{dst:Option Nat}(hL:lk σ.aB L=some (.vec e s b m get))(hd:dJ nt dst=true)
    (hg:GrB w w' (g.sv L).ownBlock) (Ob:v'.ownBlock=(g.sv L).ownBlock\/v'.ownBlock=some w.heap.size\/v'.ownBlock=none) (hv:CJ P (g.setSv L v') w' B L e s b m' get') (h1:v'.oneCell'=true) (log:List (Nat×Nat×Nat)) :
    cO P nt B w0 h0 (g.setSv L v') ⟨Zm dst (.cl (.vec L)) (kills (gI [L]) σ.env),(L,.vec e s b m' get')::kills (fD [L]) σ.aB,log⟩ (a.put dst v') w':=by
  have l9:(g.setSv L v').sv L=v':=by simp[Gh.setSv]
  have S1 := S.regrow (o' := .vec e s b m' get') (g' := g.setSv L v') (gs := []) (row := (g.sv L).ownBlock) hL rfl (fun _ => rfl) J6 (fun x hx => by simp at hx) hg (fun k hk => hk)
    (λk hk=>by
      simp only[gW,l9]at hk;rcases Ob with h|h|h
      · exact .inl (by show(g.sv L).ownBlock=some k;rw[<- h];exact hk)
      · rw[h]at hk;simp only[bW]at hk;exact .inr (.inl omY)
      · rw[h]at hk;cases hk) hv rfl log
  refine S1.put hd (d:=.cl (.vec L)) (v:=v') ⟨l9.symm,h1⟩ ?_ log;intro M hM;simp[df,dE,bD]at hM;subst hM;exact⟨_,by rw[aZ,eX rfl]⟩
def zEK(w:World)(v:Value)(m s:Nat)(news:List Value):Prop :=
 (m=0/\(v=.slice none 0 0\/∃a c,v=.slice (some a) 0 c)/\news=[])\/∃(b o cap:Nat),v=.slice (some ⟨b,o,none⟩) m cap/\news.length=m*s/\(∀j u,news[j]? = some u->w.cell? ⟨b,o+j,none⟩=some u)/\(∀u∈news,u.oneCell'=true)
def Vu(g:Gh)(w:World)(v:Value)(m s:Nat)(new:Nat->List PV):Prop :=
 (m=0/\(v=.slice none 0 0\/∃a c,v=.slice (some a) 0 c))\/∃(b o cap:Nat)(news:List Value),v=.slice (some ⟨b,o,none⟩) m cap/\news.length=m*s/\(∀j u,news[j]? = some u->w.cell? ⟨b,o+j,none⟩=some u) /\
  (∀u∈news,u.oneCell'=true)/\∀k,k<m->RL (Rep g.h) (new k) ((news.drop (k*s)).take s)
theorem src_of{b o cap m s:Nat}{C:Array Value}{ty:TypeId}{fr:Nat×Nat}{new:Nat→List PV}{v:Value}(hs:0<s)(hv:v = .slice (some ⟨b,o,none⟩) m cap)(hb:w.heap[b]? = some (.cells C ty fr))
    (hlen:∀k,k<m->(new k).length=s) (GR:∀k j x,k<m->(new k)[j]? = some x->∃u,C[o+k*s+j]? = some u/\Rep g.h x u):Vu g w v m s new:=by
  refine .inr ⟨b,o,cap,(List.range (m*s)).map λq=>C.getD (o+q) undef,hv,by simp,?_,?_,?_⟩
  all_goals
    have at_:∀q,q<m*s->∃x u,(new (q/s))[q%s]? = some x/\C[o+q]? = some u/\Rep g.h x u:=by
      intro q hq;have hk:q/s<m:=jqm (by rw[qdV];exact hq);have hj:q%s<s:=Nat.mod_lt _ hs;have hx:(new (q/s))[q%s]? = some ((new (q/s))[q%s]'(by rw[hlen _ hk];exact hj)):=BR _;obtain⟨u,hu,Yt⟩:=GR _ _ _ hk hx;refine⟨_,u,hx,?_,Yt⟩;rw[show o+q=o+q/s*s+q%s by have:=jqN q s;rw[qdV]at this;omega];exact hu
  · intro j u hj;have hjm:j < m * s:=by have:=(AY.1 hj).1;simpa using this
    obtain⟨x,u',_,hu,_⟩:=at_ j hjm;rw[cell_of hb];simp[hjm]at hj;rw[hu]at hj ⊢;simpa using hj
  · intro u hu;simp only[xR,JC]at hu;obtain⟨q,hq,rfl⟩:=hu;obtain⟨x,u',_,hu,Yt⟩:=at_ q hq;rw[xX,hu];exact Yt.one
  · intro k hk;have hle:k * s+s<=m * s:=by have:=QX s (qdw hk);rw[Ur] at this;exact this
    refine RL.of_get ?_ ?_
    · rw[hlen k hk];simp;omega
    · intro j x u hx hu;have hj:j < s:=by have:=(AY.1 hx).1;rw[hlen k hk] at this;exact this
      obtain⟨u',hu',Yt⟩:=GR k j x hk hx;rw[I4,eX hj,qdr]at hu;have hin:k*s+j<m*s:=by omega
      simp[hin]at hu;rw[show o+(k*s+j)=o+k*s+j by omega,hu']at hu;simp only[qd0]at hu;rw[<- hu];exact Yt
theorem zhg{m s:Nat}{new:Nat->List PV}{v:Value}(S:cO P nt B w0 h0 g σ a w)(hs:0<s)(h:Rep g.h (.sl m s new) v):Vu g w v m s new:=by
 cases h with
 | sl0=>exact .inl ⟨rfl,.inl rfl⟩
 | sle _ _ a c=>exact .inl ⟨rfl,.inr ⟨a,c,rfl⟩⟩
 | sl _ _ _ _ b o cap C ty fr vs hb kE hlen hc hr=>exact src_of hs rfl (S.hw.fz hb) hlen λk j x hk hj=>⟨vs k j,hc k j x hk hj,hr k j x hk hj⟩
theorem zno{L e s b m:Nat}{new:Nat->List PV}(h:CJ P g w B L e s b m new):Vu g w (g.sv L) m s new:=by
 by_cases hm:m=0
 ·subst hm;obtain⟨hs,_,xs,hx,_⟩:=h;rcases hx.2 with ⟨h1,_⟩ | ⟨k,cap,cur,h1,_⟩
  ·exact .inl ⟨rfl,.inl h1⟩
  ·have hx0 : xs = [] := by have := hx.1; simpa using this
   exact .inr ⟨k,0,cap,[],h1,by simp,λj u hj=>by simp at hj,λu hu=>by simp at hu,λk hk=>absurd hk omY⟩
 ·obtain ⟨k, C, _, ⟨cap, l9⟩, hC, _, _, _⟩ := vk h (show 0 < m by omega);refine src_of h.1.2 l9 hC (λ q hq=>?_) (λ q j x hq hj=>?_)
  ·obtain⟨_,_,_,_,_,_,h6,_⟩:=vk h hq;exact h6
  ·obtain⟨k',C',jJ,⟨ZaJ,zwk⟩,Yu,_,_,h7⟩:=vk h hq;rw[l9]at zwk;simp only[Value.slice.injEq,bW,Addr.mk.injEq]at zwk;obtain⟨⟨rfl,_⟩,_⟩:=zwk;rw[hC]at Yu;simp only[bW,Obj.cells.injEq]at Yu;obtain⟨rfl,_⟩:=Yu;rw[NV];exact h7 j x hj
end
end Go.Pm
